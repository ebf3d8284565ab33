/- Rows that are the same; mail that is the same. -/
import Derived.Test.YtpgbjabifhjogaaGreatProg
import Derived.Lib.Hide
import Derived.WalkSpells
import Derived.WalkMore
import Derived.IntWalk
import Derived.Test.YtpgbjabifhjogaaGreatSeqWw5
import Derived.Test.YtpgbjabifhjogaaGreatSeqWw7
namespace Go.Proofs.YtpgbjabifhjogaaGreat
open Go.RowKit
set_option linter.unusedVariables false
set_option linter.unusedSimpArgs false
/-- mail, without the value of none -/
def nm (m : Ml) : Ml := if m.1 then m else (false, 0)
theorem bools_get? {l : List Bool} {i : Nat} {x : Bool} (h : l[i]? = some x) : (bools l)[i]? = some (.bool x) := by simp [bools, h]
set_option maxRecDepth 100000 in
set_option maxHeartbeats 2000000 in
theorem equalL_any (w : World) (A B : Option Addr) (xs ys : List Int) (n m c d : Nat) (hx : xs.length = n) (hy : ys.length = m) (hn : n ≤ 9223372036854775807) (rx : Rd w w.heap.size A (i64s xs)) (ry : Rd w w.heap.size B (i64s ys)) :
  Calls Tryz.prog 47 #[.slice A n c, .slice B m d] w fun e w' => e = .returned (.bool (eqL xs ys)) ∧ Below w.heap.size w w' := by
 have HX := hide hx
 have HY := hide hy
 have RX := hide rx
 have RY := hide ry
 clear hx hy rx ry
 by_cases hnm : n = m
 ·obtain rfl := hnm
  go_enter Tryz.func47, Tryz.ntmps47
  go_wp2
  go_loopw [13] (fun vi wr => ∃ i : Nat, i ≤ n ∧ vi = .int .i64 i ∧ Hid (eqL xs ys = eqL (xs.drop i) (ys.drop i)) ∧ Hid (Kept w wr) ∧ Hid (Below w.heap.size w wr)) (fun vi _ => n - (intOf vi).toNat)
  case atStart => exact ⟨0, by omega, rfl, hide rfl, hide (Kept.refl w), hide (Below.refl _ _)⟩
  case round =>
   obtain ⟨i, hi, rfl, heq, hkr, hbr⟩ := hrel
   by_cases hlt : i < n
   ·have hi1 : i < xs.length := by rw [HX.out]; exact hlt
    have hi2 : i < ys.length := by rw [HY.out]; exact hlt
    have HS := hide (eqL_step xs ys i hi1 hi2)
    obtain ⟨b1, o1, rfl, l1, cx⟩ := RX.out.at1 (i := i) (i64s_get (List.getElem?_eq_getElem hi1))
    obtain ⟨b2, o2, rfl, l2, cy⟩ := RY.out.at1 (i := i) (i64s_get (List.getElem?_eq_getElem hi2))
    obtain ⟨x, hx⟩ : ∃ x, xs[i] = x := ⟨_, rfl⟩
    obtain ⟨y, hy⟩ : ∃ y, ys[i] = y := ⟨_, rfl⟩
    rw [hx] at cx HS
    rw [hy] at cy HS
    have hI0 : (0 : Int) ≤ (i : Int) := by omega
    have hI1 : (i : Int) < (n : Int) := by omega
    clear hx hy hi1 hi2
    by_cases hxy : x = y
    ·have HE : Hid (eqL xs ys = eqL (xs.drop (i + 1)) (ys.drop (i + 1))) := hide (by rw [heq.out, HS.out, hxy, decide_eq_true rfl, Bool.true_and])
     subst hxy
     skip
     all_goals
      go_wp2
      refine wp_region_held_drew (S := Kept w) (by kernel_rfl) (fun p hp => hkr.out p hp) (fun hS0 => ?_)
      refine tk 0 16 (v := ?_) ?_ ?_; rotate_left; (focus (intro w hSw; go_simp; (try with_reducible rfl); done)); (try simp only [xd, xe, xf])
      refine tk 1 17 (v := ?_) ?_ ?_; rotate_left; (focus (intro w hSw; go_simp; (try with_reducible rfl); done)); (try simp only [xd, xe, xf])
      refine tk 2 18 (v := ?_) ?_ ?_; rotate_left; (focus (intro w hSw; go_simp; (try with_reducible rfl); done)); (try simp only [xd, xe, xf])
      refine tk 3 19 (v := ?_) ?_ ?_; rotate_left; (focus (intro w hSw; go_simp; (try with_reducible rfl); done)); (try simp only [xd, xe, xf])
      refine tk 4 20 (v := ?_) ?_ ?_; rotate_left; (focus (intro w hSw; go_simp; (try with_reducible rfl); done)); (try simp only [xd, xe, xf])
      refine tk 5 21 (v := ?_) ?_ ?_; rotate_left; (focus (intro w hSw; go_simp; (try with_reducible rfl); done)); (try simp only [xd, xe, xf])
      refine tk 6 22 (v := ?_) ?_ ?_; rotate_left; (focus (intro w hSw; go_simp; (try with_reducible rfl); done)); (try simp only [xd, xe, xf])
      refine tk 7 23 (v := ?_) ?_ ?_; rotate_left; (focus (intro w hSw; go_simp; (try with_reducible rfl); done)); (try simp only [xd, xe, xf])
      refine tk 8 24 (v := ?_) ?_ ?_; rotate_left; (focus (intro w hSw; go_simp; (try with_reducible rfl); done)); (try simp only [xd, xe, xf])
      refine wpAnyH_done (by kernel_rfl) ?_ _
      clear hS0
      go_wp2
      go_roundw
      case rel => exact ⟨i + 1, by omega, by go_num, HE, hide (fun p hp => hkr.out p hp), hide hbr.out.drew⟩
      case measure => simp [intOf]; omega
    ·have HE : Hid (eqL xs ys = false) := hide (by rw [heq.out, HS.out, decide_eq_false hxy, Bool.false_and])
     skip
     all_goals
      go_wp2
      refine wp_region_held_drew (S := Kept w) (by kernel_rfl) (fun p hp => hkr.out p hp) (fun hS0 => ?_)
      refine tk 0 16 (v := ?_) ?_ ?_; rotate_left; (focus (intro w hSw; go_simp; (try with_reducible rfl); done)); (try simp only [xd, xe, xf])
      refine tk 1 17 (v := ?_) ?_ ?_; rotate_left; (focus (intro w hSw; go_simp; (try with_reducible rfl); done)); (try simp only [xd, xe, xf])
      refine tk 2 18 (v := ?_) ?_ ?_; rotate_left; (focus (intro w hSw; go_simp; (try with_reducible rfl); done)); (try simp only [xd, xe, xf])
      refine tk 3 19 (v := ?_) ?_ ?_; rotate_left; (focus (intro w hSw; go_simp; (try with_reducible rfl); done)); (try simp only [xd, xe, xf])
      refine tk 4 20 (v := ?_) ?_ ?_; rotate_left; (focus (intro w hSw; go_simp; (try with_reducible rfl); done)); (try simp only [xd, xe, xf])
      refine tk 5 21 (v := ?_) ?_ ?_; rotate_left; (focus (intro w hSw; go_simp; (try with_reducible rfl); done)); (try simp only [xd, xe, xf])
      refine tk 6 22 (v := ?_) ?_ ?_; rotate_left; (focus (intro w hSw; go_simp; (try with_reducible rfl); done)); (try simp only [xd, xe, xf])
      refine tk 7 23 (v := ?_) ?_ ?_; rotate_left; (focus (intro w hSw; go_simp; (try with_reducible rfl); done)); (try simp only [xd, xe, xf])
      refine tk 8 24 (v := ?_) ?_ ?_; rotate_left; (focus (intro w hSw; go_simp; (try with_reducible rfl); done)); (try simp only [xd, xe, xf])
      refine wpAnyH_done (by kernel_rfl) ?_ _
      clear hS0
      go_wp2
      go_ret
      exact ⟨ret_b (by rw [HE.out]), hbr.out.drew⟩
   ·obtain rfl : i = n := by omega
    have HE : Hid (eqL xs ys = true) := hide (by rw [heq.out, List.drop_of_length_le (by have := HX.out; omega), List.drop_of_length_le (by have := HY.out; omega)]; exact eqL_nil)
    go_wp2
    go_ret
    exact ⟨ret_b (by rw [HE.out]), hbr.out⟩
 ·have HE : Hid (eqL xs ys = false) := hide (eqL_len (by rw [HX.out, HY.out]; exact hnm))
  have hne : ((n : Int) == (m : Int)) = false := by simp; omega
  have hne2 : ((n : Int) != (m : Int)) = true := by simp; omega
  go_enter Tryz.func47, Tryz.ntmps47
  go_wp2
  go_ret
  exact ⟨ret_b (by rw [HE.out]), Below.refl _ _⟩
set_option maxRecDepth 100000 in
set_option maxHeartbeats 2000000 in
theorem equalB_any (w : World) (A B : Option Addr) (xs ys : List Bool) (n m c d : Nat) (hx : xs.length = n) (hy : ys.length = m) (hn : n ≤ 9223372036854775807) (rx : Rd w w.heap.size A (bools xs)) (ry : Rd w w.heap.size B (bools ys)) :
  Calls Tryz.prog 48 #[.slice A n c, .slice B m d] w fun e w' => e = .returned (.bool (eqL xs ys)) ∧ Below w.heap.size w w' := by
 have HX := hide hx
 have HY := hide hy
 have RX := hide rx
 have RY := hide ry
 clear hx hy rx ry
 by_cases hnm : n = m
 ·obtain rfl := hnm
  go_enter Tryz.func48, Tryz.ntmps48
  go_wp2
  go_loopw [13] (fun vi wr => ∃ i : Nat, i ≤ n ∧ vi = .int .i64 i ∧ Hid (eqL xs ys = eqL (xs.drop i) (ys.drop i)) ∧ Hid (Kept w wr) ∧ Hid (Below w.heap.size w wr)) (fun vi _ => n - (intOf vi).toNat)
  case atStart => exact ⟨0, by omega, rfl, hide rfl, hide (Kept.refl w), hide (Below.refl _ _)⟩
  case round =>
   obtain ⟨i, hi, rfl, heq, hkr, hbr⟩ := hrel
   by_cases hlt : i < n
   ·have hi1 : i < xs.length := by rw [HX.out]; exact hlt
    have hi2 : i < ys.length := by rw [HY.out]; exact hlt
    have HS := hide (eqL_step xs ys i hi1 hi2)
    obtain ⟨b1, o1, rfl, l1, cx⟩ := RX.out.at1 (i := i) (bools_get? (List.getElem?_eq_getElem hi1))
    obtain ⟨b2, o2, rfl, l2, cy⟩ := RY.out.at1 (i := i) (bools_get? (List.getElem?_eq_getElem hi2))
    obtain ⟨x, hx⟩ : ∃ x, xs[i] = x := ⟨_, rfl⟩
    obtain ⟨y, hy⟩ : ∃ y, ys[i] = y := ⟨_, rfl⟩
    rw [hx] at cx HS
    rw [hy] at cy HS
    have hI0 : (0 : Int) ≤ (i : Int) := by omega
    have hI1 : (i : Int) < (n : Int) := by omega
    clear hx hy hi1 hi2
    by_cases hxy : x = y
    ·have HE : Hid (eqL xs ys = eqL (xs.drop (i + 1)) (ys.drop (i + 1))) := hide (by rw [heq.out, HS.out, hxy, decide_eq_true rfl, Bool.true_and])
     subst hxy
     cases x
     all_goals
      go_wp2
      refine wp_region_held_drew (S := Kept w) (by kernel_rfl) (fun p hp => hkr.out p hp) (fun hS0 => ?_)
      refine tk 0 16 (v := ?_) ?_ ?_; rotate_left; (focus (intro w hSw; go_simp; (try with_reducible rfl); done)); (try simp only [xd, xe, xf])
      refine tk 1 17 (v := ?_) ?_ ?_; rotate_left; (focus (intro w hSw; go_simp; (try with_reducible rfl); done)); (try simp only [xd, xe, xf])
      refine tk 2 18 (v := ?_) ?_ ?_; rotate_left; (focus (intro w hSw; go_simp; (try with_reducible rfl); done)); (try simp only [xd, xe, xf])
      refine tk 3 19 (v := ?_) ?_ ?_; rotate_left; (focus (intro w hSw; go_simp; (try with_reducible rfl); done)); (try simp only [xd, xe, xf])
      refine tk 4 20 (v := ?_) ?_ ?_; rotate_left; (focus (intro w hSw; go_simp; (try with_reducible rfl); done)); (try simp only [xd, xe, xf])
      refine tk 5 21 (v := ?_) ?_ ?_; rotate_left; (focus (intro w hSw; go_simp; (try with_reducible rfl); done)); (try simp only [xd, xe, xf])
      refine tk 6 22 (v := ?_) ?_ ?_; rotate_left; (focus (intro w hSw; go_simp; (try with_reducible rfl); done)); (try simp only [xd, xe, xf])
      refine tk 7 23 (v := ?_) ?_ ?_; rotate_left; (focus (intro w hSw; go_simp; (try with_reducible rfl); done)); (try simp only [xd, xe, xf])
      refine tk 8 24 (v := ?_) ?_ ?_; rotate_left; (focus (intro w hSw; go_simp; (try with_reducible rfl); done)); (try simp only [xd, xe, xf])
      refine wpAnyH_done (by kernel_rfl) ?_ _
      clear hS0
      go_wp2
      go_roundw
      case rel => exact ⟨i + 1, by omega, by go_num, HE, hide (fun p hp => hkr.out p hp), hide hbr.out.drew⟩
      case measure => simp [intOf]; omega
    ·have HE : Hid (eqL xs ys = false) := hide (by rw [heq.out, HS.out, decide_eq_false hxy, Bool.false_and])
     cases x <;> cases y <;> (first | exact absurd rfl hxy | skip)
     all_goals
      go_wp2
      refine wp_region_held_drew (S := Kept w) (by kernel_rfl) (fun p hp => hkr.out p hp) (fun hS0 => ?_)
      refine tk 0 16 (v := ?_) ?_ ?_; rotate_left; (focus (intro w hSw; go_simp; (try with_reducible rfl); done)); (try simp only [xd, xe, xf])
      refine tk 1 17 (v := ?_) ?_ ?_; rotate_left; (focus (intro w hSw; go_simp; (try with_reducible rfl); done)); (try simp only [xd, xe, xf])
      refine tk 2 18 (v := ?_) ?_ ?_; rotate_left; (focus (intro w hSw; go_simp; (try with_reducible rfl); done)); (try simp only [xd, xe, xf])
      refine tk 3 19 (v := ?_) ?_ ?_; rotate_left; (focus (intro w hSw; go_simp; (try with_reducible rfl); done)); (try simp only [xd, xe, xf])
      refine tk 4 20 (v := ?_) ?_ ?_; rotate_left; (focus (intro w hSw; go_simp; (try with_reducible rfl); done)); (try simp only [xd, xe, xf])
      refine tk 5 21 (v := ?_) ?_ ?_; rotate_left; (focus (intro w hSw; go_simp; (try with_reducible rfl); done)); (try simp only [xd, xe, xf])
      refine tk 6 22 (v := ?_) ?_ ?_; rotate_left; (focus (intro w hSw; go_simp; (try with_reducible rfl); done)); (try simp only [xd, xe, xf])
      refine tk 7 23 (v := ?_) ?_ ?_; rotate_left; (focus (intro w hSw; go_simp; (try with_reducible rfl); done)); (try simp only [xd, xe, xf])
      refine tk 8 24 (v := ?_) ?_ ?_; rotate_left; (focus (intro w hSw; go_simp; (try with_reducible rfl); done)); (try simp only [xd, xe, xf])
      refine wpAnyH_done (by kernel_rfl) ?_ _
      clear hS0
      go_wp2
      go_ret
      exact ⟨ret_b (by rw [HE.out]), hbr.out.drew⟩
   ·obtain rfl : i = n := by omega
    have HE : Hid (eqL xs ys = true) := hide (by rw [heq.out, List.drop_of_length_le (by have := HX.out; omega), List.drop_of_length_le (by have := HY.out; omega)]; exact eqL_nil)
    go_wp2
    go_ret
    exact ⟨ret_b (by rw [HE.out]), hbr.out⟩
 ·have HE : Hid (eqL xs ys = false) := hide (eqL_len (by rw [HX.out, HY.out]; exact hnm))
  have hne : ((n : Int) == (m : Int)) = false := by simp; omega
  have hne2 : ((n : Int) != (m : Int)) = true := by simp; omega
  go_enter Tryz.func48, Tryz.ntmps48
  go_wp2
  go_ret
  exact ⟨ret_b (by rw [HE.out]), Below.refl _ _⟩
set_option maxRecDepth 100000 in
set_option maxHeartbeats 2000000 in
theorem mlsame_any (w : World) (a b : Bool) (x y : Int) : Calls Tryz.prog 76 #[.agg #[.bool a, .int .i64 x], .agg #[.bool b, .int .i64 y]] w fun e w' => e = .returned (.bool (decide (nm (a, x) = nm (b, y)))) ∧ Below w.heap.size w w' := by
 have HB := hide (show Below w.heap.size w ((w.alloc (.cells #[.bool a, .int .i64 x] 76)).alloc (.cells #[.bool b, .int .i64 y] 76)) from ((Below.refl _ _).alloc (Nat.le_refl _) _).alloc (by simp) _)
 rcases a with _ | _ <;> rcases b with _ | _
 ·go_enter Tryz.func76, Tryz.ntmps76
  go_wp2
  go_ret
  exact ⟨ret_b (by simp [nm]), HB.out⟩
 ·go_enter Tryz.func76, Tryz.ntmps76
  go_wp2
  go_ret
  exact ⟨ret_b (by simp [nm]), HB.out⟩
 ·go_enter Tryz.func76, Tryz.ntmps76
  go_wp2
  go_ret
  exact ⟨ret_b (by simp [nm]), HB.out⟩
 ·by_cases hxy : x = y
  ·subst hxy
   go_enter Tryz.func76, Tryz.ntmps76
   go_wp2
   go_ret
   exact ⟨ret_b (by simp), HB.out⟩
  ·have hxy' : (x == y) = false := by simp only [beq_eq_false_iff_ne, ne_eq]; exact hxy
   have HE : Hid (decide (nm (true, x) = nm (true, y)) = false) := hide (by simp [nm, hxy])
   clear hxy
   go_enter Tryz.func76, Tryz.ntmps76
   go_wp2
   go_ret
   exact ⟨ret_b HE.out.symm, HB.out⟩
set_option maxRecDepth 100000 in
set_option maxHeartbeats 4000000 in
theorem equalM_any (w : World) (A B : Option Addr) (xs ys : List Ml) (n m c d : Nat) (hx : xs.length = n) (hy : ys.length = m) (hn : n ≤ 9223372036854775807) (rx : Rd w w.heap.size A (mlFlat xs)) (ry : Rd w w.heap.size B (mlFlat ys)) :
  Calls Tryz.prog 75 #[.slice A n c, .slice B m d, .func (.func 76) #[] #[]] w fun e w' => e = .returned (.bool (eqL (xs.map nm) (ys.map nm))) ∧ Below w.heap.size w w' := by
 have HX := hide hx
 have HY := hide hy
 have RX := hide rx
 have RY := hide ry
 clear hx hy rx ry
 by_cases hnm : n = m
 ·obtain rfl := hnm
  go_enter Tryz.func75, Tryz.ntmps75
  go_wp2
  go_loopw [17] (fun vi wr => ∃ i : Nat, i ≤ n ∧ vi = .int .i64 i ∧ Hid (eqL (xs.map nm) (ys.map nm) = eqL ((xs.map nm).drop i) ((ys.map nm).drop i)) ∧ Hid (Below w.heap.size w wr)) (fun vi _ => n - (intOf vi).toNat)
  case atStart => exact ⟨0, by omega, rfl, hide rfl, hide (Below.refl _ _)⟩
  case round =>
   obtain ⟨i, hi, rfl, heq, hbr⟩ := hrel
   by_cases hlt : i < n
   ·have hi1 : i < xs.length := by rw [HX.out]; exact hlt
    have hi2 : i < ys.length := by rw [HY.out]; exact hlt
    have HS := hide (eqL_step (xs.map nm) (ys.map nm) i (by rw [List.length_map]; exact hi1) (by rw [List.length_map]; exact hi2))
    obtain ⟨b1, o1, rfl, l1, cx0, cx1⟩ := RX.out.ml (List.getElem?_eq_getElem hi1)
    obtain ⟨b2, o2, rfl, l2, cy0, cy1⟩ := RY.out.ml (List.getElem?_eq_getElem hi2)
    rw [List.getElem_map, List.getElem_map] at HS
    obtain ⟨x, hx⟩ : ∃ x, xs[i] = x := ⟨_, rfl⟩
    obtain ⟨y, hy⟩ : ∃ y, ys[i] = y := ⟨_, rfl⟩
    rw [hx] at cx0 cx1 HS
    rw [hy] at cy0 cy1 HS
    clear hx hy hi1 hi2
    obtain ⟨a, x⟩ := x
    obtain ⟨b, y⟩ := y
    have cx0 := (hbr.out.cell (p := ⟨b1, o1 + i * 2, none⟩) l1).trans cx0
    have cx1 := (hbr.out.cell (p := ⟨b1, o1 + i * 2 + 1, none⟩) l1).trans cx1
    have cy0 := (hbr.out.cell (p := ⟨b2, o2 + i * 2, none⟩) l2).trans cy0
    have cy1 := (hbr.out.cell (p := ⟨b2, o2 + i * 2 + 1, none⟩) l2).trans cy1
    dsimp only at cx0 cx1 cy0 cy1
    have hs := hbr.out.size
    have l1 : b1 < wr.heap.size := by omega
    have l2 : b2 < wr.heap.size := by omega
    have hI0 : (0 : Int) ≤ (i : Int) := by omega
    have hI1 : (i : Int) < (n : Int) := by omega
    rcases hq : decide (nm (a, x) = nm (b, y)) with _ | _
    ·have HQ := hide hq
     have HE : Hid (eqL (xs.map nm) (ys.map nm) = false) := hide (by rw [heq.out, HS.out, hq, Bool.false_and])
     clear hq
     go_wp2_with fail
     refine (mlsame_any _ a b x y).mono ?_
     rintro e z ⟨rfl, hz⟩
     rw [HQ.out]
     have hB := hide (((hbr.out.alloc hbr.out.size (.cells #[.bool a, .int .i64 x] 76)).alloc (by have := hbr.out.size; simp; omega) (.cells #[.bool b, .int .i64 y] 76)).trans (hz.mono (by have := hbr.out.size; simp; omega)))
     clear hz
     go_wp2
     go_ret
     exact ⟨ret_b (by rw [HE.out]), hB.out⟩
    ·have HQ := hide hq
     have HE : Hid (eqL (xs.map nm) (ys.map nm) = eqL ((xs.map nm).drop (i + 1)) ((ys.map nm).drop (i + 1))) := hide (by rw [heq.out, HS.out, hq, Bool.true_and])
     clear hq
     go_wp2_with fail
     refine (mlsame_any _ a b x y).mono ?_
     rintro e z ⟨rfl, hz⟩
     rw [HQ.out]
     have hB := hide (((hbr.out.alloc hbr.out.size (.cells #[.bool a, .int .i64 x] 76)).alloc (by have := hbr.out.size; simp; omega) (.cells #[.bool b, .int .i64 y] 76)).trans (hz.mono (by have := hbr.out.size; simp; omega)))
     clear hz
     go_wp2
     go_roundw
     case rel => exact ⟨i + 1, by omega, by go_num, HE, hB⟩
     case measure => simp [intOf]; omega
   ·obtain rfl : i = n := by omega
    have HE : Hid (eqL (xs.map nm) (ys.map nm) = true) := hide (by rw [heq.out, List.drop_of_length_le (by have := HX.out; rw [List.length_map]; omega), List.drop_of_length_le (by have := HY.out; rw [List.length_map]; omega)]; exact eqL_nil)
    go_wp2
    go_ret
    exact ⟨ret_b (by rw [HE.out]), hbr.out⟩
 ·have HE : Hid (eqL (xs.map nm) (ys.map nm) = false) := hide (eqL_len (by rw [List.length_map, List.length_map, HX.out, HY.out]; exact hnm))
  have hne : ((n : Int) == (m : Int)) = false := by simp; omega
  have hne2 : ((n : Int) != (m : Int)) = true := by simp; omega
  go_enter Tryz.func75, Tryz.ntmps75
  go_wp2
  go_ret
  exact ⟨ret_b (by rw [HE.out]), Below.refl _ _⟩
set_option maxRecDepth 100000 in
theorem isame_any (w : World) (A B : Option Addr) (xs ys : List Ml) (n m c d : Nat) (hx : xs.length = n) (hy : ys.length = m) (hn : n ≤ 9223372036854775807) (rx : Rd w w.heap.size A (mlFlat xs)) (ry : Rd w w.heap.size B (mlFlat ys)) :
  Calls Tryz.prog 49 #[.slice A n c, .slice B m d] w fun e w' => e = .returned (.bool (eqL (xs.map nm) (ys.map nm))) ∧ Below w.heap.size w w' := by
 go_enter Tryz.func49, Tryz.ntmps49
 go_wp2_with fail
 refine (equalM_any w A B xs ys n m c d hx hy hn rx ry).mono ?_
 rintro e z ⟨rfl, hz⟩
 go_wp2
 go_ret
 exact ⟨rfl, hz⟩
end Go.Proofs.YtpgbjabifhjogaaGreat
