/- Rows that are the same (slices.Equal, slices.EqualFunc); the program's same of two parts. (printed by gen/eqe.py) -/
import Derived.Test.YtihdpfjonkagaaaProg
import Derived.Test.YtihdpfjonkagaaaErw
import Derived.Test.YtihdpfjonkagaaaSar
import Derived.Deep.DeepCutAuto
import Derived.Lib.Hide
import Derived.WalkSpells
import Derived.WalkMore
import Derived.IntWalk
namespace Go.Proofs.Ytihdpfjonkagaaa
open Go.RowKit
set_option linter.unusedVariables false
set_option linter.unusedSimpArgs false
theorem Rd.at1 {w : World} {A : Option Addr} {xs : List Value} {i : Nat} {u : Value} (h : Rd w w.heap.size A xs) (hu : xs[i]? = some u) : ∃ b off, A = some ⟨b, off, none⟩ ∧ b < w.heap.size ∧ w.cell? ⟨b, off + i, none⟩ = some u := by
  obtain ⟨b, off, e, hb, hc⟩ := h.at_ (List.getElem?_eq_some_iff.1 hu).1
  exact ⟨b, off, e, hb, hc i u hu⟩
theorem ints_get {l : List Int} {i : Nat} {x : Int} (h : l[i]? = some x) : (l.map (Value.int .i64))[i]? = some (.int .i64 x) := by simp [h]
set_option maxRecDepth 100000 in
set_option maxHeartbeats 2000000 in
theorem equalI_any (w : World) (A B : Option Addr) (xs ys : List Int) (n m c d : Nat) (hx : xs.length = n) (hy : ys.length = m) (hn : n ≤ 9223372036854775807) (rx : Rd w w.heap.size A (List.map (Value.int .i64) xs)) (ry : Rd w w.heap.size B (List.map (Value.int .i64) ys)) :
    Calls Try.prog 52 #[.slice A n c, .slice B m d] w fun e w' => e = .returned (.bool (eqL xs ys)) ∧ Below w.heap.size w w' := by
  have HX := hide hx
  have HY := hide hy
  have RX := hide rx
  have RY := hide ry
  clear hx hy rx ry
  by_cases hnm : n = m
  · obtain rfl := hnm
    go_enter Try.func52, Try.ntmps52
    go_wp2
    go_loopw [13] (fun vi wr => ∃ i : Nat, i ≤ n ∧ vi = .int .i64 i ∧ Hid (eqL xs ys = eqL (xs.drop i) (ys.drop i)) ∧ Hid (Kept w wr) ∧ Hid (Below w.heap.size w wr)) (fun vi _ => n - (intOf vi).toNat)
    case atStart => exact ⟨0, by omega, rfl, hide rfl, hide (Kept.refl w), hide (Below.refl _ _)⟩
    case round =>
      obtain ⟨i, hi, rfl, heq, hkr, hbr⟩ := hrel
      by_cases hlt : i < n
      · have hi1 : i < xs.length := by rw [HX.out]; exact hlt
        have hi2 : i < ys.length := by rw [HY.out]; exact hlt
        have HS := hide (eqL_step xs ys i hi1 hi2)
        obtain ⟨b1, o1, rfl, l1, cx⟩ := RX.out.at1 (i := i) (ints_get (List.getElem?_eq_getElem hi1))
        obtain ⟨b2, o2, rfl, l2, cy⟩ := RY.out.at1 (i := i) (ints_get (List.getElem?_eq_getElem hi2))
        obtain ⟨x, hx⟩ : ∃ x, xs[i] = x := ⟨_, rfl⟩
        obtain ⟨y, hy⟩ : ∃ y, ys[i] = y := ⟨_, rfl⟩
        rw [hx] at cx HS
        rw [hy] at cy HS
        have hI0 : (0 : Int) ≤ (i : Int) := by omega
        have hI1 : (i : Int) < (n : Int) := by omega
        clear hx hy hi1 hi2
        by_cases hxy : x = y
        · have HE : Hid (eqL xs ys = eqL (xs.drop (i + 1)) (ys.drop (i + 1))) := hide (by rw [heq.out, HS.out, hxy, decide_eq_true rfl, Bool.true_and])
          subst hxy
          skip
          all_goals
            go_wp2
            refine wp_region_held_drew (S := Kept w) (by kernel_rfl) (fun p hp => hkr.out p hp) (fun hS0 => ?_)
            refine take_at (i := 0) (d := 16) (v := ?_) (by simp only [List.getElem?_toArray, List.getElem?_cons_succ, List.getElem?_cons_zero]; rfl) rfl (by kernel_rfl) (by kernel_rfl) (by kernel_rfl) (fun _ _ _ h => h) rfl ?_ (by assumption) ?_
            rotate_left
            focus (intro w hSw; go_simp; (try with_reducible rfl); done)
            try simp only [List.setIfInBounds_toArray, List.set_cons_zero, List.set_cons_succ]
            refine take_at (i := 1) (d := 17) (v := ?_) (by simp only [List.getElem?_toArray, List.getElem?_cons_succ, List.getElem?_cons_zero]; rfl) rfl (by kernel_rfl) (by kernel_rfl) (by kernel_rfl) (fun _ _ _ h => h) rfl ?_ (by assumption) ?_
            rotate_left
            focus (intro w hSw; go_simp; (try with_reducible rfl); done)
            try simp only [List.setIfInBounds_toArray, List.set_cons_zero, List.set_cons_succ]
            refine take_at (i := 2) (d := 18) (v := ?_) (by simp only [List.getElem?_toArray, List.getElem?_cons_succ, List.getElem?_cons_zero]; rfl) rfl (by kernel_rfl) (by kernel_rfl) (by kernel_rfl) (fun _ _ _ h => h) rfl ?_ (by assumption) ?_
            rotate_left
            focus (intro w hSw; go_simp; (try with_reducible rfl); done)
            try simp only [List.setIfInBounds_toArray, List.set_cons_zero, List.set_cons_succ]
            refine take_at (i := 3) (d := 19) (v := ?_) (by simp only [List.getElem?_toArray, List.getElem?_cons_succ, List.getElem?_cons_zero]; rfl) rfl (by kernel_rfl) (by kernel_rfl) (by kernel_rfl) (fun _ _ _ h => h) rfl ?_ (by assumption) ?_
            rotate_left
            focus (intro w hSw; go_simp; (try with_reducible rfl); done)
            try simp only [List.setIfInBounds_toArray, List.set_cons_zero, List.set_cons_succ]
            refine take_at (i := 4) (d := 20) (v := ?_) (by simp only [List.getElem?_toArray, List.getElem?_cons_succ, List.getElem?_cons_zero]; rfl) rfl (by kernel_rfl) (by kernel_rfl) (by kernel_rfl) (fun _ _ _ h => h) rfl ?_ (by assumption) ?_
            rotate_left
            focus (intro w hSw; go_simp; (try with_reducible rfl); done)
            try simp only [List.setIfInBounds_toArray, List.set_cons_zero, List.set_cons_succ]
            refine take_at (i := 5) (d := 21) (v := ?_) (by simp only [List.getElem?_toArray, List.getElem?_cons_succ, List.getElem?_cons_zero]; rfl) rfl (by kernel_rfl) (by kernel_rfl) (by kernel_rfl) (fun _ _ _ h => h) rfl ?_ (by assumption) ?_
            rotate_left
            focus (intro w hSw; go_simp; (try with_reducible rfl); done)
            try simp only [List.setIfInBounds_toArray, List.set_cons_zero, List.set_cons_succ]
            refine take_at (i := 6) (d := 22) (v := ?_) (by simp only [List.getElem?_toArray, List.getElem?_cons_succ, List.getElem?_cons_zero]; rfl) rfl (by kernel_rfl) (by kernel_rfl) (by kernel_rfl) (fun _ _ _ h => h) rfl ?_ (by assumption) ?_
            rotate_left
            focus (intro w hSw; go_simp; (try with_reducible rfl); done)
            try simp only [List.setIfInBounds_toArray, List.set_cons_zero, List.set_cons_succ]
            refine take_at (i := 7) (d := 23) (v := ?_) (by simp only [List.getElem?_toArray, List.getElem?_cons_succ, List.getElem?_cons_zero]; rfl) rfl (by kernel_rfl) (by kernel_rfl) (by kernel_rfl) (fun _ _ _ h => h) rfl ?_ (by assumption) ?_
            rotate_left
            focus (intro w hSw; go_simp; (try with_reducible rfl); done)
            try simp only [List.setIfInBounds_toArray, List.set_cons_zero, List.set_cons_succ]
            refine take_at (i := 8) (d := 24) (v := ?_) (by simp only [List.getElem?_toArray, List.getElem?_cons_succ, List.getElem?_cons_zero]; rfl) rfl (by kernel_rfl) (by kernel_rfl) (by kernel_rfl) (fun _ _ _ h => h) rfl ?_ (by assumption) ?_
            rotate_left
            focus (intro w hSw; go_simp; (try with_reducible rfl); done)
            try simp only [List.setIfInBounds_toArray, List.set_cons_zero, List.set_cons_succ]
            refine wpAnyH_done (by kernel_rfl) ?_ _
            clear hS0
            go_wp2
            go_roundw
            case rel => exact ⟨i + 1, by omega, by go_num, HE, hide (fun p hp => hkr.out p hp), hide hbr.out.drew⟩
            case measure => simp [intOf]; omega
        · have HE : Hid (eqL xs ys = false) := hide (by rw [heq.out, HS.out, decide_eq_false hxy, Bool.false_and])
          skip
          all_goals
            go_wp2
            refine wp_region_held_drew (S := Kept w) (by kernel_rfl) (fun p hp => hkr.out p hp) (fun hS0 => ?_)
            refine take_at (i := 0) (d := 16) (v := ?_) (by simp only [List.getElem?_toArray, List.getElem?_cons_succ, List.getElem?_cons_zero]; rfl) rfl (by kernel_rfl) (by kernel_rfl) (by kernel_rfl) (fun _ _ _ h => h) rfl ?_ (by assumption) ?_
            rotate_left
            focus (intro w hSw; go_simp; (try with_reducible rfl); done)
            try simp only [List.setIfInBounds_toArray, List.set_cons_zero, List.set_cons_succ]
            refine take_at (i := 1) (d := 17) (v := ?_) (by simp only [List.getElem?_toArray, List.getElem?_cons_succ, List.getElem?_cons_zero]; rfl) rfl (by kernel_rfl) (by kernel_rfl) (by kernel_rfl) (fun _ _ _ h => h) rfl ?_ (by assumption) ?_
            rotate_left
            focus (intro w hSw; go_simp; (try with_reducible rfl); done)
            try simp only [List.setIfInBounds_toArray, List.set_cons_zero, List.set_cons_succ]
            refine take_at (i := 2) (d := 18) (v := ?_) (by simp only [List.getElem?_toArray, List.getElem?_cons_succ, List.getElem?_cons_zero]; rfl) rfl (by kernel_rfl) (by kernel_rfl) (by kernel_rfl) (fun _ _ _ h => h) rfl ?_ (by assumption) ?_
            rotate_left
            focus (intro w hSw; go_simp; (try with_reducible rfl); done)
            try simp only [List.setIfInBounds_toArray, List.set_cons_zero, List.set_cons_succ]
            refine take_at (i := 3) (d := 19) (v := ?_) (by simp only [List.getElem?_toArray, List.getElem?_cons_succ, List.getElem?_cons_zero]; rfl) rfl (by kernel_rfl) (by kernel_rfl) (by kernel_rfl) (fun _ _ _ h => h) rfl ?_ (by assumption) ?_
            rotate_left
            focus (intro w hSw; go_simp; (try with_reducible rfl); done)
            try simp only [List.setIfInBounds_toArray, List.set_cons_zero, List.set_cons_succ]
            refine take_at (i := 4) (d := 20) (v := ?_) (by simp only [List.getElem?_toArray, List.getElem?_cons_succ, List.getElem?_cons_zero]; rfl) rfl (by kernel_rfl) (by kernel_rfl) (by kernel_rfl) (fun _ _ _ h => h) rfl ?_ (by assumption) ?_
            rotate_left
            focus (intro w hSw; go_simp; (try with_reducible rfl); done)
            try simp only [List.setIfInBounds_toArray, List.set_cons_zero, List.set_cons_succ]
            refine take_at (i := 5) (d := 21) (v := ?_) (by simp only [List.getElem?_toArray, List.getElem?_cons_succ, List.getElem?_cons_zero]; rfl) rfl (by kernel_rfl) (by kernel_rfl) (by kernel_rfl) (fun _ _ _ h => h) rfl ?_ (by assumption) ?_
            rotate_left
            focus (intro w hSw; go_simp; (try with_reducible rfl); done)
            try simp only [List.setIfInBounds_toArray, List.set_cons_zero, List.set_cons_succ]
            refine take_at (i := 6) (d := 22) (v := ?_) (by simp only [List.getElem?_toArray, List.getElem?_cons_succ, List.getElem?_cons_zero]; rfl) rfl (by kernel_rfl) (by kernel_rfl) (by kernel_rfl) (fun _ _ _ h => h) rfl ?_ (by assumption) ?_
            rotate_left
            focus (intro w hSw; go_simp; (try with_reducible rfl); done)
            try simp only [List.setIfInBounds_toArray, List.set_cons_zero, List.set_cons_succ]
            refine take_at (i := 7) (d := 23) (v := ?_) (by simp only [List.getElem?_toArray, List.getElem?_cons_succ, List.getElem?_cons_zero]; rfl) rfl (by kernel_rfl) (by kernel_rfl) (by kernel_rfl) (fun _ _ _ h => h) rfl ?_ (by assumption) ?_
            rotate_left
            focus (intro w hSw; go_simp; (try with_reducible rfl); done)
            try simp only [List.setIfInBounds_toArray, List.set_cons_zero, List.set_cons_succ]
            refine take_at (i := 8) (d := 24) (v := ?_) (by simp only [List.getElem?_toArray, List.getElem?_cons_succ, List.getElem?_cons_zero]; rfl) rfl (by kernel_rfl) (by kernel_rfl) (by kernel_rfl) (fun _ _ _ h => h) rfl ?_ (by assumption) ?_
            rotate_left
            focus (intro w hSw; go_simp; (try with_reducible rfl); done)
            try simp only [List.setIfInBounds_toArray, List.set_cons_zero, List.set_cons_succ]
            refine wpAnyH_done (by kernel_rfl) ?_ _
            clear hS0
            go_wp2
            go_ret
            exact ⟨ret_b (by rw [HE.out]), hbr.out.drew⟩
      · obtain rfl : i = n := by omega
        have HE : Hid (eqL xs ys = true) := hide (by rw [heq.out, List.drop_of_length_le (by have := HX.out; omega), List.drop_of_length_le (by have := HY.out; omega)]; exact eqL_nil)
        go_wp2
        go_ret
        exact ⟨ret_b (by rw [HE.out]), hbr.out⟩
  · have HE : Hid (eqL xs ys = false) := hide (eqL_len (by rw [HX.out, HY.out]; exact hnm))
    have hne : ((n : Int) == (m : Int)) = false := by simp; omega
    have hne2 : ((n : Int) != (m : Int)) = true := by simp; omega
    go_enter Try.func52, Try.ntmps52
    go_wp2
    go_ret
    exact ⟨ret_b (by rw [HE.out]), Below.refl _ _⟩
set_option maxRecDepth 100000 in
set_option maxHeartbeats 2000000 in
theorem equalE_any (w : World) (A B : Option Addr) (xs ys : List Ed) (n m c d : Nat) (hx : xs.length = n) (hy : ys.length = m) (hn : n ≤ 9223372036854775807) (rx : Eds w w.heap.size A xs) (ry : Eds w w.heap.size B ys) :
    Calls Try.prog 51 #[.slice A n c, .slice B m d] w fun e w' => e = .returned (.bool (eqL xs ys)) ∧ Below w.heap.size w w' := by
  have HX := hide hx
  have HY := hide hy
  have RX := hide rx
  have RY := hide ry
  clear hx hy rx ry
  by_cases hnm : n = m
  · obtain rfl := hnm
    go_enter Try.func51, Try.ntmps51
    go_wp2
    go_loopw [13] (fun vi wr => ∃ i : Nat, i ≤ n ∧ vi = .int .i64 i ∧ Hid (eqL xs ys = eqL (xs.drop i) (ys.drop i)) ∧ Hid (Kept w wr) ∧ Hid (Below w.heap.size w wr)) (fun vi _ => n - (intOf vi).toNat)
    case atStart => exact ⟨0, by omega, rfl, hide rfl, hide (Kept.refl w), hide (Below.refl _ _)⟩
    case round =>
      obtain ⟨i, hi, rfl, heq, hkr, hbr⟩ := hrel
      by_cases hlt : i < n
      · have hi1 : i < xs.length := by rw [HX.out]; exact hlt
        have hi2 : i < ys.length := by rw [HY.out]; exact hlt
        have HS := hide (eqL_step xs ys i hi1 hi2)
        obtain ⟨b1, o1, rfl, l1, cx0, cx1, cx2, _w1, _w2⟩ := Eds.get RX.out (List.getElem?_eq_getElem hi1)
        obtain ⟨b2, o2, rfl, l2, cy0, cy1, cy2, _w3, _w4⟩ := Eds.get RY.out (List.getElem?_eq_getElem hi2)
        obtain ⟨x, hx⟩ : ∃ x, xs[i] = x := ⟨_, rfl⟩
        obtain ⟨y, hy⟩ : ∃ y, ys[i] = y := ⟨_, rfl⟩
        rw [hx] at cx0 cx1 cx2 HS
        rw [hy] at cy0 cy1 cy2 HS
        obtain ⟨x1, x2, x3⟩ := x
        obtain ⟨y1, y2, y3⟩ := y
        dsimp only at cx0 cx1 cx2 cy0 cy1 cy2
        have hI0 : (0 : Int) ≤ (i : Int) := by omega
        have hI1 : (i : Int) < (n : Int) := by omega
        clear hx hy hi1 hi2 _w1 _w2 _w3 _w4
        by_cases hxy : ((x1, x2, x3) : Ed) = (y1, y2, y3)
        · have HE : Hid (eqL xs ys = eqL (xs.drop (i + 1)) (ys.drop (i + 1))) := hide (by rw [heq.out, HS.out, decide_eq_true hxy, Bool.true_and])
          injection hxy with hxy1 hxy2
          injection hxy2 with hxy2 hxy3
          subst hxy1 hxy2 hxy3
          go_wp2
          refine wp_region_held_drew (S := Kept w) (by kernel_rfl) (fun p hp => hkr.out p hp) (fun hS0 => ?_)
          refine take_at (i := 0) (d := 16) (v := ?_) (by simp only [List.getElem?_toArray, List.getElem?_cons_succ, List.getElem?_cons_zero]; rfl) rfl (by kernel_rfl) (by kernel_rfl) (by kernel_rfl) (fun _ _ _ h => h) rfl ?_ (by assumption) ?_
          rotate_left
          focus (intro w hSw; go_simp; (try with_reducible rfl); done)
          try simp only [List.setIfInBounds_toArray, List.set_cons_zero, List.set_cons_succ]
          refine take_at (i := 1) (d := 17) (v := ?_) (by simp only [List.getElem?_toArray, List.getElem?_cons_succ, List.getElem?_cons_zero]; rfl) rfl (by kernel_rfl) (by kernel_rfl) (by kernel_rfl) (fun _ _ _ h => h) rfl ?_ (by assumption) ?_
          rotate_left
          focus (intro w hSw; go_simp; (try with_reducible rfl); done)
          try simp only [List.setIfInBounds_toArray, List.set_cons_zero, List.set_cons_succ]
          refine take_at (i := 2) (d := 18) (v := ?_) (by simp only [List.getElem?_toArray, List.getElem?_cons_succ, List.getElem?_cons_zero]; rfl) rfl (by kernel_rfl) (by kernel_rfl) (by kernel_rfl) (fun _ _ _ h => h) rfl ?_ (by assumption) ?_
          rotate_left
          focus (intro w hSw; go_simp; (try with_reducible rfl); done)
          try simp only [List.setIfInBounds_toArray, List.set_cons_zero, List.set_cons_succ]
          refine take_at (i := 3) (d := 19) (v := ?_) (by simp only [List.getElem?_toArray, List.getElem?_cons_succ, List.getElem?_cons_zero]; rfl) rfl (by kernel_rfl) (by kernel_rfl) (by kernel_rfl) (fun _ _ _ h => h) rfl ?_ (by assumption) ?_
          rotate_left
          focus (intro w hSw; go_simp; (try with_reducible rfl); done)
          try simp only [List.setIfInBounds_toArray, List.set_cons_zero, List.set_cons_succ]
          refine take_at (i := 4) (d := 20) (v := ?_) (by simp only [List.getElem?_toArray, List.getElem?_cons_succ, List.getElem?_cons_zero]; rfl) rfl (by kernel_rfl) (by kernel_rfl) (by kernel_rfl) (fun _ _ _ h => h) rfl ?_ (by assumption) ?_
          rotate_left
          focus (intro w hSw; go_simp; (try with_reducible rfl); done)
          try simp only [List.setIfInBounds_toArray, List.set_cons_zero, List.set_cons_succ]
          refine take_at (i := 5) (d := 21) (v := ?_) (by simp only [List.getElem?_toArray, List.getElem?_cons_succ, List.getElem?_cons_zero]; rfl) rfl (by kernel_rfl) (by kernel_rfl) (by kernel_rfl) (fun _ _ _ h => h) rfl ?_ (by assumption) ?_
          rotate_left
          focus (intro w hSw; go_simp; (try with_reducible rfl); done)
          try simp only [List.setIfInBounds_toArray, List.set_cons_zero, List.set_cons_succ]
          refine take_at (i := 6) (d := 22) (v := ?_) (by simp only [List.getElem?_toArray, List.getElem?_cons_succ, List.getElem?_cons_zero]; rfl) rfl (by kernel_rfl) (by kernel_rfl) (by kernel_rfl) (fun _ _ _ h => h) rfl ?_ (by assumption) ?_
          rotate_left
          focus (intro w hSw; go_simp; (try with_reducible rfl); done)
          try simp only [List.setIfInBounds_toArray, List.set_cons_zero, List.set_cons_succ]
          refine take_at (i := 7) (d := 23) (v := ?_) (by simp only [List.getElem?_toArray, List.getElem?_cons_succ, List.getElem?_cons_zero]; rfl) rfl (by kernel_rfl) (by kernel_rfl) (by kernel_rfl) (fun _ _ _ h => h) rfl ?_ (by assumption) ?_
          rotate_left
          focus (intro w hSw; go_simp; (try with_reducible rfl); done)
          try simp only [List.setIfInBounds_toArray, List.set_cons_zero, List.set_cons_succ]
          refine take_at (i := 8) (d := 24) (v := ?_) (by simp only [List.getElem?_toArray, List.getElem?_cons_succ, List.getElem?_cons_zero]; rfl) rfl (by kernel_rfl) (by kernel_rfl) (by kernel_rfl) (fun _ _ _ h => h) rfl ?_ (by assumption) ?_
          rotate_left
          focus (intro w hSw; go_simp; (try with_reducible rfl); done)
          try simp only [List.setIfInBounds_toArray, List.set_cons_zero, List.set_cons_succ]
          refine wpAnyH_done (by kernel_rfl) ?_ _
          go_wp2
          go_roundw
          case rel => exact ⟨i + 1, by omega, by go_num, HE, hide (fun p hp => hkr.out p hp), hide hbr.out.drew⟩
          case measure => simp [intOf]; omega
        · have HE : Hid (eqL xs ys = false) := hide (by rw [heq.out, HS.out, decide_eq_false hxy, Bool.false_and])
          have HXY : Hid (¬ (x1 = y1 ∧ x2 = y2 ∧ x3 = y3)) := hide (fun h => hxy (by rw [h.1, h.2.1, h.2.2]))
          clear hxy
          go_wp2
          refine wp_region_held_drew (S := Kept w) (by kernel_rfl) (fun p hp => hkr.out p hp) (fun hS0 => ?_)
          refine take_at (i := 0) (d := 16) (v := ?_) (by simp only [List.getElem?_toArray, List.getElem?_cons_succ, List.getElem?_cons_zero]; rfl) rfl (by kernel_rfl) (by kernel_rfl) (by kernel_rfl) (fun _ _ _ h => h) rfl ?_ (by assumption) ?_
          rotate_left
          focus (intro w hSw; go_simp; (try with_reducible rfl); done)
          try simp only [List.setIfInBounds_toArray, List.set_cons_zero, List.set_cons_succ]
          refine take_at (i := 1) (d := 17) (v := ?_) (by simp only [List.getElem?_toArray, List.getElem?_cons_succ, List.getElem?_cons_zero]; rfl) rfl (by kernel_rfl) (by kernel_rfl) (by kernel_rfl) (fun _ _ _ h => h) rfl ?_ (by assumption) ?_
          rotate_left
          focus (intro w hSw; go_simp; (try with_reducible rfl); done)
          try simp only [List.setIfInBounds_toArray, List.set_cons_zero, List.set_cons_succ]
          refine take_at (i := 2) (d := 18) (v := ?_) (by simp only [List.getElem?_toArray, List.getElem?_cons_succ, List.getElem?_cons_zero]; rfl) rfl (by kernel_rfl) (by kernel_rfl) (by kernel_rfl) (fun _ _ _ h => h) rfl ?_ (by assumption) ?_
          rotate_left
          focus (intro w hSw; go_simp; (try with_reducible rfl); done)
          try simp only [List.setIfInBounds_toArray, List.set_cons_zero, List.set_cons_succ]
          refine take_at (i := 3) (d := 19) (v := ?_) (by simp only [List.getElem?_toArray, List.getElem?_cons_succ, List.getElem?_cons_zero]; rfl) rfl (by kernel_rfl) (by kernel_rfl) (by kernel_rfl) (fun _ _ _ h => h) rfl ?_ (by assumption) ?_
          rotate_left
          focus (intro w hSw; go_simp; (try with_reducible rfl); done)
          try simp only [List.setIfInBounds_toArray, List.set_cons_zero, List.set_cons_succ]
          refine take_at (i := 4) (d := 20) (v := ?_) (by simp only [List.getElem?_toArray, List.getElem?_cons_succ, List.getElem?_cons_zero]; rfl) rfl (by kernel_rfl) (by kernel_rfl) (by kernel_rfl) (fun _ _ _ h => h) rfl ?_ (by assumption) ?_
          rotate_left
          focus (intro w hSw; go_simp; (try with_reducible rfl); done)
          try simp only [List.setIfInBounds_toArray, List.set_cons_zero, List.set_cons_succ]
          refine take_at (i := 5) (d := 21) (v := ?_) (by simp only [List.getElem?_toArray, List.getElem?_cons_succ, List.getElem?_cons_zero]; rfl) rfl (by kernel_rfl) (by kernel_rfl) (by kernel_rfl) (fun _ _ _ h => h) rfl ?_ (by assumption) ?_
          rotate_left
          focus (intro w hSw; go_simp; (try with_reducible rfl); done)
          try simp only [List.setIfInBounds_toArray, List.set_cons_zero, List.set_cons_succ]
          refine take_at (i := 6) (d := 22) (v := ?_) (by simp only [List.getElem?_toArray, List.getElem?_cons_succ, List.getElem?_cons_zero]; rfl) rfl (by kernel_rfl) (by kernel_rfl) (by kernel_rfl) (fun _ _ _ h => h) rfl ?_ (by assumption) ?_
          rotate_left
          focus (intro w hSw; go_simp; (try with_reducible rfl); done)
          try simp only [List.setIfInBounds_toArray, List.set_cons_zero, List.set_cons_succ]
          refine take_at (i := 7) (d := 23) (v := ?_) (by simp only [List.getElem?_toArray, List.getElem?_cons_succ, List.getElem?_cons_zero]; rfl) rfl (by kernel_rfl) (by kernel_rfl) (by kernel_rfl) (fun _ _ _ h => h) rfl ?_ (by assumption) ?_
          rotate_left
          focus (intro w hSw; go_simp; (try with_reducible rfl); done)
          try simp only [List.setIfInBounds_toArray, List.set_cons_zero, List.set_cons_succ]
          refine take_at (i := 8) (d := 24) (v := ?_) (by simp only [List.getElem?_toArray, List.getElem?_cons_succ, List.getElem?_cons_zero]; rfl) rfl (by kernel_rfl) (by kernel_rfl) (by kernel_rfl) (fun _ _ _ h => h) rfl ?_ (by assumption) ?_
          rotate_left
          focus (intro w hSw; go_simp; show _ = Result.ok (Next.value (Value.bool true)) w; (by_cases q1 : x1 = y1 <;> by_cases q2 : x2 = y2 <;> by_cases q3 : x3 = y3 <;> first | (simp [q1, q2, q3]; done) | (exact absurd (And.intro q1 (And.intro q2 q3)) HXY.out)); done)
          try simp only [List.setIfInBounds_toArray, List.set_cons_zero, List.set_cons_succ]
          refine wpAnyH_done (by kernel_rfl) ?_ _
          go_wp2
          go_ret
          exact ⟨ret_b (by rw [HE.out]), hbr.out.drew⟩
      · obtain rfl : i = n := by omega
        have HE : Hid (eqL xs ys = true) := hide (by rw [heq.out, List.drop_of_length_le (by have := HX.out; omega), List.drop_of_length_le (by have := HY.out; omega)]; exact eqL_nil)
        go_wp2
        go_ret
        exact ⟨ret_b (by rw [HE.out]), hbr.out⟩
  · have hne : ((n : Int) == (m : Int)) = false := by simp; omega
    have hne2 : ((n : Int) != (m : Int)) = true := by simp; omega
    have HE : Hid (eqL xs ys = false) := hide (eqL_len (by rw [HX.out, HY.out]; exact hnm))
    go_enter Try.func51, Try.ntmps51
    go_wp2
    go_ret
    exact ⟨ret_b (by rw [HE.out]), Below.refl _ _⟩
set_option maxRecDepth 100000 in
set_option maxHeartbeats 2000000 in
theorem same1_any (w : World) (A B : Option Addr) (xs ys : List Ed) (n m c d : Nat) (hx : xs.length = n) (hy : ys.length = m) (hn : n ≤ 9223372036854775807) (rx : Eds w w.heap.size A xs) (ry : Eds w w.heap.size B ys) :
    Calls Try.prog 50 #[.slice A n c, .slice B m d] w fun e w' => e = .returned (.bool (eqL xs ys)) ∧ Below w.heap.size w w' := by
  go_enter Try.func50, Try.ntmps50
  go_wp2_with fail
  refine (equalE_any w A B xs ys n m c d hx hy hn rx ry).mono ?_
  rintro e z ⟨rfl, hz⟩
  have HZ := hide hz
  clear hz hx hy rx ry
  go_wp2
  go_ret
  exact ⟨rfl, HZ.out⟩
set_option maxRecDepth 100000 in
set_option maxHeartbeats 4000000 in
theorem equalR_any (w : World) (A B : Option Addr) (xs ys : List (List Ed)) (n m c d : Nat) (hx : xs.length = n) (hy : ys.length = m) (hn : n ≤ 9223372036854775807) (rx : ERows w w.heap.size A xs) (ry : ERows w w.heap.size B ys) :
    Calls Try.prog 53 #[.slice A n c, .slice B m d, .func (.func 50) #[] #[]] w fun e w' => e = .returned (.bool (eqL xs ys)) ∧ Below w.heap.size w w' := by
  have HX := hide hx
  have HY := hide hy
  have RX := hide rx
  have RY := hide ry
  clear hx hy rx ry
  by_cases hnm : n = m
  · obtain rfl := hnm
    go_enter Try.func53, Try.ntmps53
    go_wp2
    go_loopw [17] (fun vi wr => ∃ i : Nat, i ≤ n ∧ vi = .int .i64 i ∧ Hid (eqL xs ys = eqL (xs.drop i) (ys.drop i)) ∧ Hid (Below w.heap.size w wr)) (fun vi _ => n - (intOf vi).toNat)
    case atStart => exact ⟨0, by omega, rfl, hide rfl, hide (Below.refl _ _)⟩
    case round =>
      obtain ⟨i, hi, rfl, heq, hbr⟩ := hrel
      by_cases hlt : i < n
      · have hi1 : i < xs.length := by rw [HX.out]; exact hlt
        have hi2 : i < ys.length := by rw [HY.out]; exact hlt
        have HS := hide (eqL_step xs ys i hi1 hi2)
        obtain ⟨b1, o1, A1, k1, rfl, l1, cx, c1, c2, ex⟩ := RX.out.get (List.getElem?_eq_getElem hi1)
        obtain ⟨b2, o2, A2, k2, rfl, l2, cy, c3, c4, ey⟩ := RY.out.get (List.getElem?_eq_getElem hi2)
        obtain ⟨x, hx⟩ : ∃ x, xs[i] = x := ⟨_, rfl⟩
        obtain ⟨y, hy⟩ : ∃ y, ys[i] = y := ⟨_, rfl⟩
        rw [hx] at cx HS c1 ex
        rw [hy] at cy HS c3 ey
        obtain ⟨n1, hl1⟩ : ∃ q, x.length = q := ⟨_, rfl⟩
        obtain ⟨n2, hl2⟩ : ∃ q, y.length = q := ⟨_, rfl⟩
        rw [hl1] at cx c1
        rw [hl2] at cy c3
        have hn1 : n1 ≤ 9223372036854775807 := by omega
        have HL1 := hide hl1
        have HL2 := hide hl2
        have EX := hide ex
        have EY := hide ey
        have dx : wr.cell? ⟨b1, o1 + i, none⟩ = some (.slice A1 n1 k1) := (hbr.out.cell (p := ⟨b1, o1 + i, none⟩) l1).trans cx
        have dy : wr.cell? ⟨b2, o2 + i, none⟩ = some (.slice A2 n2 k2) := (hbr.out.cell (p := ⟨b2, o2 + i, none⟩) l2).trans cy
        have hI0 : (0 : Int) ≤ (i : Int) := by omega
        have hI1 : (i : Int) < (n : Int) := by omega
        clear hx hy hi1 hi2 cx cy ex ey hl1 hl2 c1 c2 c3 c4
        rcases hq : eqL x y with _ | _
        · have HQ := hide hq
          have HE : Hid (eqL xs ys = false) := hide (by rw [heq.out, HS.out, show decide (x = y) = false from decide_eq_false fun e => by (rw [e, eqL_self] at hq; cases hq), Bool.false_and])
          clear hq
          go_wp2_with fail
          refine (same1_any _ A1 A2 x y n1 n2 k1 k2 HL1.out HL2.out hn1 (EX.out.below hbr.out (Nat.le_refl _) |> fun h => Els.more h hbr.out.size) (EY.out.below hbr.out (Nat.le_refl _) |> fun h => Els.more h hbr.out.size)).mono ?_
          rintro e z ⟨rfl, hz⟩
          rw [HQ.out]
          have hB := hide (hbr.out.trans (hz.mono hbr.out.size))
          clear hz
          go_wp2
          go_ret
          exact ⟨ret_b (by rw [HE.out]), hB.out⟩
        · have HQ := hide hq
          have HE : Hid (eqL xs ys = eqL (xs.drop (i + 1)) (ys.drop (i + 1))) := hide (by rw [heq.out, HS.out, show decide (x = y) = true from decide_eq_true (eqL_true.1 hq), Bool.true_and])
          clear hq
          go_wp2_with fail
          refine (same1_any _ A1 A2 x y n1 n2 k1 k2 HL1.out HL2.out hn1 (EX.out.below hbr.out (Nat.le_refl _) |> fun h => Els.more h hbr.out.size) (EY.out.below hbr.out (Nat.le_refl _) |> fun h => Els.more h hbr.out.size)).mono ?_
          rintro e z ⟨rfl, hz⟩
          rw [HQ.out]
          have hB := hide (hbr.out.trans (hz.mono hbr.out.size))
          clear hz
          go_wp2
          go_roundw
          case rel => exact ⟨i + 1, by omega, by go_num, HE, hB⟩
          case measure => simp [intOf]; omega
      · obtain rfl : i = n := by omega
        have HE : Hid (eqL xs ys = true) := hide (by rw [heq.out, List.drop_of_length_le (by have := HX.out; omega), List.drop_of_length_le (by have := HY.out; omega)]; exact eqL_nil)
        go_wp2
        go_ret
        exact ⟨ret_b (by rw [HE.out]), hbr.out⟩
  · have HE : Hid (eqL xs ys = false) := hide (eqL_len (by rw [HX.out, HY.out]; exact hnm))
    have hne : ((n : Int) == (m : Int)) = false := by simp; omega
    have hne2 : ((n : Int) != (m : Int)) = true := by simp; omega
    go_enter Try.func53, Try.ntmps53
    go_wp2
    go_ret
    exact ⟨ret_b (by rw [HE.out]), Below.refl _ _⟩
set_option maxRecDepth 100000 in
set_option maxHeartbeats 4000000 in
theorem qsame_any (w : World) (W1 K1 V1 : Int) (O1 U1 B1 : Option Addr) (own1 : List Int) (out1 back1 : List (List Ed)) (n1 c1 m1 d1 k1 f1 : Nat) (hn1 : own1.length = n1) (hm1 : out1.length = m1) (hk1 : back1.length = k1) (bn1 : n1 ≤ 9223372036854775807) (bm1 : m1 ≤ 9223372036854775807) (bk1 : k1 ≤ 9223372036854775807) (ro1 : Rd w w.heap.size O1 (own1.map (Value.int .i64))) (ru1 : ERows w w.heap.size U1 out1) (rb1 : ERows w w.heap.size B1 back1) (W2 K2 V2 : Int) (O2 U2 B2 : Option Addr) (own2 : List Int) (out2 back2 : List (List Ed)) (n2 c2 m2 d2 k2 f2 : Nat) (hn2 : own2.length = n2) (hm2 : out2.length = m2) (hk2 : back2.length = k2) (bn2 : n2 ≤ 9223372036854775807) (bm2 : m2 ≤ 9223372036854775807) (bk2 : k2 ≤ 9223372036854775807) (ro2 : Rd w w.heap.size O2 (own2.map (Value.int .i64))) (ru2 : ERows w w.heap.size U2 out2) (rb2 : ERows w w.heap.size B2 back2) :
    Calls Try.prog 41 #[.agg #[.int .i64 W1, .int .i64 K1, .int .i64 V1, .slice O1 n1 c1, .slice U1 m1 d1, .slice B1 k1 f1], .agg #[.int .i64 W2, .int .i64 K2, .int .i64 V2, .slice O2 n2 c2, .slice U2 m2 d2, .slice B2 k2 f2]] w fun e w' => e = .returned (.bool (decide (W1 = W2) && decide (K1 = K2) && decide (V1 = V2) && eqL own1 own2 && eqL out1 out2 && eqL back1 back2)) ∧ Below w.heap.size w w' := by
  obtain ⟨v, hv⟩ : ∃ v, (w.alloc (.cells #[.int .i64 W1, .int .i64 K1, .int .i64 V1, .slice O1 n1 c1, .slice U1 m1 d1, .slice B1 k1 f1] 34)).alloc (.cells #[.int .i64 W2, .int .i64 K2, .int .i64 V2, .slice O2 n2 c2, .slice U2 m2 d2, .slice B2 k2 f2] 34) = v := ⟨_, rfl⟩
  have hz : v.heap.size = w.heap.size + 2 := by rw [← hv]; simp
  have hb : Below w.heap.size w v := by rw [← hv]; exact ((Below.refl _ _).alloc (Nat.le_refl _) _).alloc (by simp) _
  have q1 : v.heap[w.heap.size]? = some (.cells #[.int .i64 W1, .int .i64 K1, .int .i64 V1, .slice O1 n1 c1, .slice U1 m1 d1, .slice B1 k1 f1] 34) := by rw [← hv]; exact (Below.heap_alloc _ _ _ (by simp)).trans (heap_alloc_last w _)
  have q2 : v.heap[w.heap.size + 1]? = some (.cells #[.int .i64 W2, .int .i64 K2, .int .i64 V2, .slice O2 n2 c2, .slice U2 m2 d2, .slice B2 k2 f2] 34) := by
    rw [← hv]
    have := heap_alloc_last (w.alloc (.cells #[.int .i64 W1, .int .i64 K1, .int .i64 V1, .slice O1 n1 c1, .slice U1 m1 d1, .slice B1 k1 f1] 34)) (.cells #[.int .i64 W2, .int .i64 K2, .int .i64 V2, .slice O2 n2 c2, .slice U2 m2 d2, .slice B2 k2 f2] 34)
    rw [World.size_alloc] at this
    exact this
  have Q1 := hide q1
  have Q2 := hide q2
  have HB := hide hb
  have HV := hide hv
  have HVB := hide (show Below w.heap.size w ((w.alloc (.cells #[.int .i64 W1, .int .i64 K1, .int .i64 V1, .slice O1 n1 c1, .slice U1 m1 d1, .slice B1 k1 f1] 34)).alloc (.cells #[.int .i64 W2, .int .i64 K2, .int .i64 V2, .slice O2 n2 c2, .slice U2 m2 d2, .slice B2 k2 f2] 34)) by rw [hv]; exact hb)
  have H := hide (And.intro (And.intro hn1 (And.intro hm1 hk1)) (And.intro hn2 (And.intro hm2 hk2)))
  have RO1 := hide (ro1.below hb); have RU1 := hide (ru1.keep fun p hp => hb.cell hp); have RB1 := hide (rb1.keep fun p hp => hb.cell hp)
  have RO2 := hide (ro2.below hb); have RU2 := hide (ru2.keep fun p hp => hb.cell hp); have RB2 := hide (rb2.keep fun p hp => hb.cell hp)
  have hlv : w.heap.size ≤ v.heap.size := by omega
  have h1l : w.heap.size < v.heap.size := by omega
  have h2l : w.heap.size + 1 < v.heap.size := by omega
  have cl (wr : World) (hk : Below v.heap.size v wr) (j : Nat) : wr.cell? ⟨w.heap.size, j, none⟩ = v.cell? ⟨w.heap.size, j, none⟩ ∧ wr.cell? ⟨w.heap.size + 1, j, none⟩ = v.cell? ⟨w.heap.size + 1, j, none⟩ := ⟨hk.cell (p := ⟨w.heap.size, j, none⟩) h1l, hk.cell (p := ⟨w.heap.size + 1, j, none⟩) h2l⟩
  have x0 : v.cell? ⟨w.heap.size, 0, none⟩ = some (.int .i64 W1) := cell_of_row _ _ 0 _ _ _ q1
  have y0 : v.cell? ⟨w.heap.size + 1, 0, none⟩ = some (.int .i64 W2) := cell_of_row _ _ 0 _ _ _ q2
  have X0 := hide x0; have Y0 := hide y0
  have x1 : v.cell? ⟨w.heap.size, 1, none⟩ = some (.int .i64 K1) := cell_of_row _ _ 1 _ _ _ q1
  have y1 : v.cell? ⟨w.heap.size + 1, 1, none⟩ = some (.int .i64 K2) := cell_of_row _ _ 1 _ _ _ q2
  have X1 := hide x1; have Y1 := hide y1
  have x2 : v.cell? ⟨w.heap.size, 2, none⟩ = some (.int .i64 V1) := cell_of_row _ _ 2 _ _ _ q1
  have y2 : v.cell? ⟨w.heap.size + 1, 2, none⟩ = some (.int .i64 V2) := cell_of_row _ _ 2 _ _ _ q2
  have X2 := hide x2; have Y2 := hide y2
  have x3 : v.cell? ⟨w.heap.size, 3, none⟩ = some (.slice O1 n1 c1) := cell_of_row _ _ 3 _ _ _ q1
  have y3 : v.cell? ⟨w.heap.size + 1, 3, none⟩ = some (.slice O2 n2 c2) := cell_of_row _ _ 3 _ _ _ q2
  have X3 := hide x3; have Y3 := hide y3
  have x4 : v.cell? ⟨w.heap.size, 4, none⟩ = some (.slice U1 m1 d1) := cell_of_row _ _ 4 _ _ _ q1
  have y4 : v.cell? ⟨w.heap.size + 1, 4, none⟩ = some (.slice U2 m2 d2) := cell_of_row _ _ 4 _ _ _ q2
  have X4 := hide x4; have Y4 := hide y4
  have x5 : v.cell? ⟨w.heap.size, 5, none⟩ = some (.slice B1 k1 f1) := cell_of_row _ _ 5 _ _ _ q1
  have y5 : v.cell? ⟨w.heap.size + 1, 5, none⟩ = some (.slice B2 k2 f2) := cell_of_row _ _ 5 _ _ _ q2
  have X5 := hide x5; have Y5 := hide y5
  have CL := hide cl
  clear cl ro1 ru1 rb1 ro2 ru2 rb2 hn1 hm1 hk1 hn2 hm2 hk2 q1 q2 hb hv hz x3 x4 x5 y3 y4 y5
  by_cases e1 : W1 = W2
  · subst e1
    by_cases e2 : K1 = K2
    · subst e2
      by_cases e3 : V1 = V2
      · subst e3
        obtain ⟨r1, hr1⟩ : ∃ r, eqL own1 own2 = r := ⟨_, rfl⟩
        obtain ⟨r2, hr2⟩ : ∃ r, eqL out1 out2 = r := ⟨_, rfl⟩
        obtain ⟨r3, hr3⟩ : ∃ r, eqL back1 back2 = r := ⟨_, rfl⟩
        have x3 := X3.out; have y3 := Y3.out
        go_enter Try.func41, Try.ntmps41
        go_wp2_with fail
        rw [HV.out]
        refine (equalI_any _ O1 O2 own1 own2 n1 n2 c1 c2 H.out.1.1 H.out.2.1 bn1 (RO1.out.more hlv) (RO2.out.more hlv)).mono ?_
        rintro e z1 ⟨rfl, b1⟩
        rw [hr1]
        have G1 := hide (HB.out.trans (b1.mono hlv))
        have K1_ := hide b1
        have x4 := ((CL.out z1 b1 4).1).trans X4.out; have y4 := ((CL.out z1 b1 4).2).trans Y4.out
        have hz1 : v.heap.size ≤ z1.heap.size := b1.size
        clear b1 x0 x1 x2 x3 y0 y1 y2 y3
        rcases r1 with _ | _
        · have HF := hide hr1
          clear hr1
          go_wp2
          go_ret
          exact ⟨ret_b (by rw [HF.out]; simp), G1.out⟩
        have HR1 := hide hr1
        clear hr1
        go_wp2_with fail
        refine (equalR_any _ U1 U2 out1 out2 m1 m2 d1 d2 H.out.1.2.1 H.out.2.2.1 bm1 ((RU1.out.more hlv).next K1_.out) ((RU2.out.more hlv).next K1_.out)).mono ?_
        rintro e z2 ⟨rfl, b2⟩
        rw [hr2]
        have G2 := hide (G1.out.trans (b2.mono (by omega)))
        have K2_ := hide (K1_.out.trans (b2.mono hz1))
        have x5 := ((CL.out z2 K2_.out 5).1).trans X5.out; have y5 := ((CL.out z2 K2_.out 5).2).trans Y5.out
        clear b2 x4 y4
        rcases r2 with _ | _
        · have HF := hide hr2
          clear hr2
          go_wp2
          go_ret
          exact ⟨ret_b (by rw [HF.out]; simp), G2.out⟩
        have HR2 := hide hr2
        clear hr2
        go_wp2_with fail
        refine (equalR_any _ B1 B2 back1 back2 k1 k2 f1 f2 H.out.1.2.2 H.out.2.2.2 bk1 ((RB1.out.more hlv).next K2_.out) ((RB2.out.more hlv).next K2_.out)).mono ?_
        rintro e z3 ⟨rfl, b3⟩
        rw [hr3]
        have G3 := hide (G2.out.trans (b3.mono (by have := K2_.out.size; omega)))
        have HR3 := hide hr3
        clear b3 x5 y5 hr3
        go_wp2
        go_ret
        exact ⟨ret_b (by rw [HR1.out, HR2.out, HR3.out]; simp), G3.out⟩
      · have e3' : (V1 == V2) = false := by simp only [beq_eq_false_iff_ne, ne_eq]; exact e3
        have HF := hide (show decide (V1 = V2) = false from decide_eq_false e3)
        clear e3
        go_enter Try.func41, Try.ntmps41
        go_wp2
        go_ret
        exact ⟨ret_b (by rw [HF.out]; simp), HVB.out⟩
    · have e2' : (K1 == K2) = false := by simp only [beq_eq_false_iff_ne, ne_eq]; exact e2
      have HF := hide (show decide (K1 = K2) = false from decide_eq_false e2)
      clear e2
      go_enter Try.func41, Try.ntmps41
      go_wp2
      go_ret
      exact ⟨ret_b (by rw [HF.out]; simp), HVB.out⟩
  · have e1' : (W1 == W2) = false := by simp only [beq_eq_false_iff_ne, ne_eq]; exact e1
    have HF := hide (show decide (W1 = W2) = false from decide_eq_false e1)
    clear e1
    go_enter Try.func41, Try.ntmps41
    go_wp2
    go_ret
    exact ⟨ret_b (by rw [HF.out]; simp), HVB.out⟩
end Go.Proofs.Ytihdpfjonkagaaa
