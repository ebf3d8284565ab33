/- Rows of rows of edges; the document's sameRows. (printed by gen/srw.py) -/
import Derived.Test.YtihdpfjonkagaaaProg
import Derived.Test.YtihdpfjonkagaaaSme
import Derived.Test.YtihdpfjonkagaaaReg
import Derived.Test.YtihdpfjonkagaaaKep
import Derived.Lib.Hide
import Derived.WalkSpells
import Derived.WalkMore
namespace Go.Proofs.Ytihdpfjonkagaaa
open Go.RowKit
set_option linter.unusedVariables false
set_option linter.unusedSimpArgs false
def erwCells (w : World) (B : Nat) (cs : List Value) (es : List Ed) : Prop := ∃ (A : Option Addr) (c : Nat), cs = [.slice A es.length c] ∧ es.length ≤ c ∧ c ≤ 9223372036854775807 ∧ Eds w B A es
/-- rows of edges that lie in memory -/
def ERows (w : World) (B : Nat) (A : Option Addr) (rs : List (List Ed)) : Prop := Els w B 1 A rs (erwCells w B)
theorem ERows.keep {w w' : World} {B : Nat} {A : Option Addr} {rs : List (List Ed)} (h : ERows w B A rs) (hk : ∀ p : Addr, p.block < B → w'.cell? p = w.cell? p) : ERows w' B A rs :=
  Els.keep h hk fun cs es ⟨A, c, e, h1, h2, h3⟩ => ⟨A, c, e, h1, h2, Els.keep h3 hk fun _ _ h => h⟩
theorem ERows.get {w : World} {B : Nat} {A : Option Addr} {rs : List (List Ed)} (h : ERows w B A rs) {i : Nat} {es : List Ed} (he : rs[i]? = some es) : ∃ b off A2 c, A = some ⟨b, off, none⟩ ∧ b < B ∧ w.cell? ⟨b, off + i, none⟩ = some (.slice A2 es.length c) ∧ es.length ≤ c ∧ c ≤ 9223372036854775807 ∧ Eds w B A2 es := by
  obtain ⟨b, off, rfl, hb⟩ := Els.at_ h (List.getElem?_eq_some_iff.1 he).1
  obtain ⟨cs, hl, ⟨A2, c, rfl, h1, h2, h3⟩, hc⟩ := Els.get h he
  exact ⟨b, off, A2, c, rfl, hb, by simpa using hc 0 _ rfl, h1, h2, h3⟩
theorem ERows.more {w : World} {B B' : Nat} {A : Option Addr} {rs : List (List Ed)} (h : ERows w B A rs) (hB : B ≤ B') : ERows w B' A rs :=
  Els.more (Els.keep h (fun _ _ => rfl) fun cs es ⟨A, c, e, h1, h2, h3⟩ => ⟨A, c, e, h1, h2, Els.more h3 hB⟩) hB
theorem ERows.next {w w' : World} {A : Option Addr} {rs : List (List Ed)} (h : ERows w w.heap.size A rs) (hb : Below w.heap.size w w') : ERows w' w'.heap.size A rs := (h.keep fun p hp => hb.cell hp).more hb.size
set_option maxRecDepth 100000 in
set_option maxHeartbeats 2000000 in
theorem sameRows_any (w : World) (A B : Option Addr) (xs ys : List (List Ed)) (n m c d : Nat) (hx : xs.length = n) (hy : ys.length = m) (hn : n ≤ 9223372036854775807) (rx : ERows w w.heap.size A xs) (ry : ERows w w.heap.size B ys) :
    Calls Try.prog 38 #[.slice A n c, .slice B m d] w fun e w' => e = .returned (.bool (eqL xs ys)) ∧ Below w.heap.size w w' := by
  have HX := hide hx
  have HY := hide hy
  have RX := hide rx
  have RY := hide ry
  clear hx hy rx ry
  by_cases hnm : n = m
  · obtain rfl := hnm
    go_enter Try.func38, Try.ntmps38
    go_wp2
    go_loopw [5] (fun vi wr => ∃ i : Nat, i ≤ n ∧ vi = .int .i64 i ∧ Hid (eqL xs ys = eqL (xs.drop i) (ys.drop i)) ∧ Hid (Kept w wr) ∧ Hid (Below w.heap.size w wr)) (fun vi _ => n - (intOf vi).toNat)
    case atStart => exact ⟨0, by omega, rfl, hide rfl, hide (Kept.refl w), hide (Below.refl _ _)⟩
    case round =>
      obtain ⟨i, hi, rfl, heq, hkr, hbr⟩ := hrel
      by_cases hlt : i < n
      · have hi1 : i < xs.length := by rw [HX.out]; exact hlt
        have hi2 : i < ys.length := by rw [HY.out]; exact hlt
        have HS := hide (eqL_step xs ys i hi1 hi2)
        obtain ⟨b1, o1, A1, d1, rfl, l1, cx, x1, x2, ex⟩ := RX.out.get (List.getElem?_eq_getElem hi1)
        obtain ⟨b2, o2, A2, d2, rfl, l2, cy, y1, y2, ey⟩ := RY.out.get (List.getElem?_eq_getElem hi2)
        obtain ⟨x, hx⟩ : ∃ x, xs[i] = x := ⟨_, rfl⟩
        obtain ⟨y, hy⟩ : ∃ y, ys[i] = y := ⟨_, rfl⟩
        rw [hx] at cx HS x1 ex
        rw [hy] at cy HS y1 ey
        obtain ⟨nx, hnx⟩ : ∃ nx, x.length = nx := ⟨_, rfl⟩
        obtain ⟨ny, hny⟩ : ∃ ny, y.length = ny := ⟨_, rfl⟩
        rw [hnx] at cx x1
        rw [hny] at cy y1
        have hI0 : (0 : Int) ≤ (i : Int) := by omega
        have hI1 : (i : Int) < (n : Int) := by omega
        have HNX := hide hnx
        have HNY := hide hny
        have EX : Hid (Eds wr.drew wr.drew.heap.size A1 x) := hide (Els.more (Els.keep ex (fun p hp => hkr.out p hp) fun _ _ h => h) (by have := hbr.out.size; exact this))
        have EY : Hid (Eds wr.drew wr.drew.heap.size A2 y) := hide (Els.more (Els.keep ey (fun p hp => hkr.out p hp) fun _ _ h => h) (by have := hbr.out.size; exact this))
        have hS00 : Hid (Kept w wr.drew) := hide (fun p hp => hkr.out p hp)
        clear hx hy hi1 hi2 hnx hny ex ey
        obtain ⟨q, hq⟩ : ∃ q, eqL x y = q := ⟨_, rfl⟩
        have HQ := hide hq
        rcases q with _ | _
        · have HE : Hid (eqL xs ys = false) := hide (by rw [heq.out, HS.out, show decide (x = y) = false from hq, Bool.false_and])
          clear hq
          go_wp2
          refine wp_region_held_drew (S := Kept w) (by kernel_rfl) hS00.out (fun hS0 => ?_)
          refine take_at (i := 0) (d := 17) (v := ?_) (by simp only [List.getElem?_toArray, List.getElem?_cons_succ, List.getElem?_cons_zero]; rfl) rfl (by kernel_rfl) (by kernel_rfl) (by kernel_rfl) (fun _ _ _ h => h) rfl ?_ (by assumption) ?_
          rotate_left
          focus (intro w hSw; go_simp; (try with_reducible rfl); done)
          try simp only [List.setIfInBounds_toArray, List.set_cons_zero, List.set_cons_succ]
          refine take_at (i := 1) (d := 18) (v := ?_) (by simp only [List.getElem?_toArray, List.getElem?_cons_succ, List.getElem?_cons_zero]; rfl) rfl (by kernel_rfl) (by kernel_rfl) (by kernel_rfl) (fun _ _ _ h => h) rfl ?_ (by assumption) ?_
          rotate_left
          focus (intro w hSw; go_simp; (try with_reducible rfl); done)
          try simp only [List.setIfInBounds_toArray, List.set_cons_zero, List.set_cons_succ]
          refine take_at (i := 2) (d := 19) (v := ?_) (by simp only [List.getElem?_toArray, List.getElem?_cons_succ, List.getElem?_cons_zero]; rfl) rfl (by kernel_rfl) (by kernel_rfl) (by kernel_rfl) (fun _ _ _ h => h) rfl ?_ (by assumption) ?_
          rotate_left
          focus (intro w hSw; go_simp; (try with_reducible rfl); done)
          try simp only [List.setIfInBounds_toArray, List.set_cons_zero, List.set_cons_succ]
          refine take_at (i := 3) (d := 20) (v := ?_) (by simp only [List.getElem?_toArray, List.getElem?_cons_succ, List.getElem?_cons_zero]; rfl) rfl (by kernel_rfl) (by kernel_rfl) (by kernel_rfl) (fun _ _ _ h => h) rfl ?_ (by assumption) ?_
          rotate_left
          focus (intro w hSw; go_simp; (try with_reducible rfl); done)
          try simp only [List.setIfInBounds_toArray, List.set_cons_zero, List.set_cons_succ]
          refine take_at (i := 4) (d := 21) (v := ?_) (by simp only [List.getElem?_toArray, List.getElem?_cons_succ, List.getElem?_cons_zero]; rfl) rfl (by kernel_rfl) (by kernel_rfl) (by kernel_rfl) (fun _ _ _ h => h) rfl ?_ (by assumption) ?_
          rotate_left
          focus (intro w hSw; go_simp; (try with_reducible rfl); done)
          try simp only [List.setIfInBounds_toArray, List.set_cons_zero, List.set_cons_succ]
          refine take_at (i := 5) (d := 22) (v := ?_) (by simp only [List.getElem?_toArray, List.getElem?_cons_succ, List.getElem?_cons_zero]; rfl) rfl (by kernel_rfl) (by kernel_rfl) (by kernel_rfl) (fun _ _ _ h => h) rfl ?_ (by assumption) ?_
          rotate_left
          focus (intro w hSw; go_simp; (try with_reducible rfl); done)
          try simp only [List.setIfInBounds_toArray, List.set_cons_zero, List.set_cons_succ]
          refine take_at (i := 6) (d := 23) (v := ?_) (by simp only [List.getElem?_toArray, List.getElem?_cons_succ, List.getElem?_cons_zero]; rfl) rfl (by kernel_rfl) (by kernel_rfl) (by kernel_rfl) (fun _ _ _ h => h) rfl ?_ (by assumption) ?_
          rotate_left
          focus (intro w hSw; go_simp; (try with_reducible rfl); done)
          try simp only [List.setIfInBounds_toArray, List.set_cons_zero, List.set_cons_succ]
          refine take_at (i := 7) (d := 24) (v := ?_) (by simp only [List.getElem?_toArray, List.getElem?_cons_succ, List.getElem?_cons_zero]; rfl) rfl (by kernel_rfl) (by kernel_rfl) (by kernel_rfl) (fun _ _ _ h => h) rfl ?_ (by assumption) ?_
          rotate_left
          focus (intro w hSw; go_simp; (try with_reducible rfl); done)
          try simp only [List.setIfInBounds_toArray, List.set_cons_zero, List.set_cons_succ]
          refine call_at (i := 8) (d := 25) (by simp only [List.getElem?_toArray, List.getElem?_cons_succ, List.getElem?_cons_zero]; rfl) rfl (by kernel_rfl) rfl (fun K hK => ?_)
          go_simp
          refine (sameEdges_any _ A1 A2 x y nx ny d1 d2 HNX.out HNY.out (by omega) EX.out EY.out).mono ?_
          rintro e z1 ⟨rfl, b1⟩
          rw [HQ.out]
          have hS1 : Kept w z1 := hS0.below (by have := hbr.out.size; first | (simp; omega) | exact this) b1
          have KZ := hide (hbr.out.drew.trans (b1.mono hbr.out.drew.size))
          clear b1
          go_wp2_with fail
          refine hK.out _ _ hS1 (fun hSn => ?_)
          clear hK K
          try simp only [List.setIfInBounds_toArray, List.set_cons_zero, List.set_cons_succ]
          refine take_at (i := 9) (d := 26) (v := ?_) (by simp only [List.getElem?_toArray, List.getElem?_cons_succ, List.getElem?_cons_zero]; rfl) rfl (by kernel_rfl) (by kernel_rfl) (by kernel_rfl) (fun _ _ _ h => h) rfl ?_ (by assumption) ?_
          rotate_left
          focus (intro w hSw; go_simp; (try with_reducible rfl); done)
          try simp only [List.setIfInBounds_toArray, List.set_cons_zero, List.set_cons_succ]
          refine wpAnyH_done (by kernel_rfl) ?_ _
          clear hS0 hS1 hSn
          go_wp2
          go_ret
          exact ⟨ret_b (by rw [HE.out]), KZ.out⟩
        · have HE : Hid (eqL xs ys = eqL (xs.drop (i + 1)) (ys.drop (i + 1))) := hide (by rw [heq.out, HS.out, show decide (x = y) = true from hq, Bool.true_and])
          clear hq
          go_wp2
          refine wp_region_held_drew (S := Kept w) (by kernel_rfl) hS00.out (fun hS0 => ?_)
          refine take_at (i := 0) (d := 17) (v := ?_) (by simp only [List.getElem?_toArray, List.getElem?_cons_succ, List.getElem?_cons_zero]; rfl) rfl (by kernel_rfl) (by kernel_rfl) (by kernel_rfl) (fun _ _ _ h => h) rfl ?_ (by assumption) ?_
          rotate_left
          focus (intro w hSw; go_simp; (try with_reducible rfl); done)
          try simp only [List.setIfInBounds_toArray, List.set_cons_zero, List.set_cons_succ]
          refine take_at (i := 1) (d := 18) (v := ?_) (by simp only [List.getElem?_toArray, List.getElem?_cons_succ, List.getElem?_cons_zero]; rfl) rfl (by kernel_rfl) (by kernel_rfl) (by kernel_rfl) (fun _ _ _ h => h) rfl ?_ (by assumption) ?_
          rotate_left
          focus (intro w hSw; go_simp; (try with_reducible rfl); done)
          try simp only [List.setIfInBounds_toArray, List.set_cons_zero, List.set_cons_succ]
          refine take_at (i := 2) (d := 19) (v := ?_) (by simp only [List.getElem?_toArray, List.getElem?_cons_succ, List.getElem?_cons_zero]; rfl) rfl (by kernel_rfl) (by kernel_rfl) (by kernel_rfl) (fun _ _ _ h => h) rfl ?_ (by assumption) ?_
          rotate_left
          focus (intro w hSw; go_simp; (try with_reducible rfl); done)
          try simp only [List.setIfInBounds_toArray, List.set_cons_zero, List.set_cons_succ]
          refine take_at (i := 3) (d := 20) (v := ?_) (by simp only [List.getElem?_toArray, List.getElem?_cons_succ, List.getElem?_cons_zero]; rfl) rfl (by kernel_rfl) (by kernel_rfl) (by kernel_rfl) (fun _ _ _ h => h) rfl ?_ (by assumption) ?_
          rotate_left
          focus (intro w hSw; go_simp; (try with_reducible rfl); done)
          try simp only [List.setIfInBounds_toArray, List.set_cons_zero, List.set_cons_succ]
          refine take_at (i := 4) (d := 21) (v := ?_) (by simp only [List.getElem?_toArray, List.getElem?_cons_succ, List.getElem?_cons_zero]; rfl) rfl (by kernel_rfl) (by kernel_rfl) (by kernel_rfl) (fun _ _ _ h => h) rfl ?_ (by assumption) ?_
          rotate_left
          focus (intro w hSw; go_simp; (try with_reducible rfl); done)
          try simp only [List.setIfInBounds_toArray, List.set_cons_zero, List.set_cons_succ]
          refine take_at (i := 5) (d := 22) (v := ?_) (by simp only [List.getElem?_toArray, List.getElem?_cons_succ, List.getElem?_cons_zero]; rfl) rfl (by kernel_rfl) (by kernel_rfl) (by kernel_rfl) (fun _ _ _ h => h) rfl ?_ (by assumption) ?_
          rotate_left
          focus (intro w hSw; go_simp; (try with_reducible rfl); done)
          try simp only [List.setIfInBounds_toArray, List.set_cons_zero, List.set_cons_succ]
          refine take_at (i := 6) (d := 23) (v := ?_) (by simp only [List.getElem?_toArray, List.getElem?_cons_succ, List.getElem?_cons_zero]; rfl) rfl (by kernel_rfl) (by kernel_rfl) (by kernel_rfl) (fun _ _ _ h => h) rfl ?_ (by assumption) ?_
          rotate_left
          focus (intro w hSw; go_simp; (try with_reducible rfl); done)
          try simp only [List.setIfInBounds_toArray, List.set_cons_zero, List.set_cons_succ]
          refine take_at (i := 7) (d := 24) (v := ?_) (by simp only [List.getElem?_toArray, List.getElem?_cons_succ, List.getElem?_cons_zero]; rfl) rfl (by kernel_rfl) (by kernel_rfl) (by kernel_rfl) (fun _ _ _ h => h) rfl ?_ (by assumption) ?_
          rotate_left
          focus (intro w hSw; go_simp; (try with_reducible rfl); done)
          try simp only [List.setIfInBounds_toArray, List.set_cons_zero, List.set_cons_succ]
          refine call_at (i := 8) (d := 25) (by simp only [List.getElem?_toArray, List.getElem?_cons_succ, List.getElem?_cons_zero]; rfl) rfl (by kernel_rfl) rfl (fun K hK => ?_)
          go_simp
          refine (sameEdges_any _ A1 A2 x y nx ny d1 d2 HNX.out HNY.out (by omega) EX.out EY.out).mono ?_
          rintro e z1 ⟨rfl, b1⟩
          rw [HQ.out]
          have hS1 : Kept w z1 := hS0.below (by have := hbr.out.size; first | (simp; omega) | exact this) b1
          have KZ := hide (hbr.out.drew.trans (b1.mono hbr.out.drew.size))
          clear b1
          go_wp2_with fail
          refine hK.out _ _ hS1 (fun hSn => ?_)
          clear hK K
          try simp only [List.setIfInBounds_toArray, List.set_cons_zero, List.set_cons_succ]
          refine take_at (i := 9) (d := 26) (v := ?_) (by simp only [List.getElem?_toArray, List.getElem?_cons_succ, List.getElem?_cons_zero]; rfl) rfl (by kernel_rfl) (by kernel_rfl) (by kernel_rfl) (fun _ _ _ h => h) rfl ?_ (by assumption) ?_
          rotate_left
          focus (intro w hSw; go_simp; (try with_reducible rfl); done)
          try simp only [List.setIfInBounds_toArray, List.set_cons_zero, List.set_cons_succ]
          refine wpAnyH_done (by kernel_rfl) ?_ _
          clear hS0 hSn
          have hk9 := hide hS1
          clear hS1
          go_wp2
          go_roundw
          case rel => exact ⟨i + 1, by omega, by go_num, HE, hk9, KZ⟩
          case measure => simp [intOf]; omega
      · obtain rfl : i = n := by omega
        have HE : Hid (eqL xs ys = true) := hide (by rw [heq.out, List.drop_of_length_le (by have := HX.out; omega), List.drop_of_length_le (by have := HY.out; omega)]; exact eqL_nil)
        go_wp2
        go_ret
        exact ⟨ret_b (by rw [HE.out]), hbr.out⟩
  · have hne : ((n : Int) == (m : Int)) = false := by simp; omega
    have hne2 : ((n : Int) != (m : Int)) = true := by simp; omega
    have HE : Hid (eqL xs ys = false) := hide (eqL_len (by rw [HX.out, HY.out]; exact hnm))
    go_enter Try.func38, Try.ntmps38
    go_wp2
    go_ret
    exact ⟨ret_b (by rw [HE.out]), Below.refl _ _⟩
end Go.Proofs.Ytihdpfjonkagaaa
