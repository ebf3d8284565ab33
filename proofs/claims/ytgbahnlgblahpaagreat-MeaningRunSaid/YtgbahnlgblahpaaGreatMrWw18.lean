/- Lemmas: Rob, Eqr, Qsm, Mel, Sam. -/
import Derived.Test.YtgbahnlgblahpaaGreatProg
import Derived.Lib.Hide
import Derived.WalkSpells
import Derived.WalkMore
import Derived.IntWalk
import Derived.Test.YtgbahnlgblahpaaGreatMrWw4
import Derived.Test.YtgbahnlgblahpaaGreatMrWw6
set_option linter.unusedVariables false
set_option linter.unusedSimpArgs false
set_option maxRecDepth 100000
set_option maxHeartbeats 16000000
namespace Go.Proofs.YtgbahnlgblahpaaGreat
open Go.RowKit
def RowPost (w : World) (es : List Ed) (e : Ending) (w' : World) : Prop := ∃ A c, e = .returned (.slice A es.length c) ∧ w'.ownsRow w.heap.size 46 3 (.slice A es.length c) es.length (edFlat es) ∧ Below w.heap.size w w'
theorem ownsRow_lower {w : World} {base base' : Nat} {e : TypeId} {size : Nat} {v : Value} {n : Nat} {xs : List Value} (h : w.ownsRow base e size v n xs) (hb : base' ≤ base) : w.ownsRow base' e size v n xs :=
 ⟨h.1, h.2.imp id fun ⟨g, cap, cur, h1, h2, h3⟩ => ⟨g, cap, cur, h1, Nat.le_trans hb h2, h3⟩⟩
def fromF (es : List Ed) (v : Int) : List Ed := es.filter fun e => e.1 == v
def toF (es : List Ed) (v : Int) : List Ed := es.filter fun e => e.2.1 == v
theorem filt_step {f : Ed → Bool} {es : List Ed} {k : Nat} {e : Ed} (h : es[k]? = some e) : (es.take (k + 1)).filter f = (es.take k).filter f ++ (if f e then [e] else []) := by
 rw [List.take_add_one, h, List.filter_append]
 congr 1
 simp only [Option.toList_some, List.filter_cons, List.filter_nil]
end Go.Proofs.YtgbahnlgblahpaaGreat
namespace Go.Proofs.YtgbahnlgblahpaaGreat
open Go.RowKit
def nm (m : Ml) : Ml := if m.1 then m else (false, 0)
theorem bools_get? {l : List Bool} {i : Nat} {x : Bool} (h : l[i]? = some x) : (bools l)[i]? = some (.bool x) := by simp [bools, h]
theorem equalL_any (w : World) (A B : Option Addr) (xs ys : List Int) (n m c d : Nat) (hx : xs.length = n) (hy : ys.length = m) (hn : n ≤ 9223372036854775807) (rx : Rd w w.heap.size A (i64s xs)) (ry : Rd w w.heap.size B (i64s ys)) :
  Calls Tryz.prog 32 #[.slice A n c, .slice B m d] w fun e w' => e = .returned (.bool (eqL xs ys)) ∧ Below w.heap.size w w' := by
 have HX := hide hx
 have HY := hide hy
 have RX := hide rx
 have RY := hide ry
 clear hx hy rx ry
 by_cases hnm : n = m
 ·obtain rfl := hnm
  go_enter Tryz.func32, Tryz.ntmps32
  go_wp2
  go_loopw [13] (fun vi wr => ∃ i : Nat, i ≤ n ∧ vi = .int .i64 i ∧ Hid (eqL xs ys = eqL (xs.drop i) (ys.drop i)) ∧ Hid (Kept w wr) ∧ Hid (Below w.heap.size w wr)) (fun vi _ => n - (intOf vi).toNat)
  case atStart => exact ⟨0, by omega, rfl, hide rfl, hide (Kept.refl w), hide (Below.refl _ _)⟩
  case round =>
   obtain ⟨i, hi, rfl, heq, hkr, hbr⟩ := hrel
   by_cases hlt : i < n
   ·have hi1 : i < xs.length := by rw [HX.out]; exact hlt
    have hi2 : i < ys.length := by rw [HY.out]; exact hlt
    have HS := hide (eqL_step xs ys i hi1 hi2)
    obtain ⟨b1, o1, rfl, l1, cx⟩ := RX.out.at1 (i := i) (i64s_get (List.getElem?_eq_getElem hi1))
    obtain ⟨b2, o2, rfl, l2, cy⟩ := RY.out.at1 (i := i) (i64s_get (List.getElem?_eq_getElem hi2))
    obtain ⟨x, hx⟩ : ∃ x, xs[i] = x := ⟨_, rfl⟩
    obtain ⟨y, hy⟩ : ∃ y, ys[i] = y := ⟨_, rfl⟩
    rw [hx] at cx HS
    rw [hy] at cy HS
    have hI0 : (0 : Int) ≤ (i : Int) := by omega
    have hI1 : (i : Int) < (n : Int) := by omega
    clear hx hy hi1 hi2
    by_cases hxy : x = y
    ·have HE : Hid (eqL xs ys = eqL (xs.drop (i + 1)) (ys.drop (i + 1))) := hide (by rw [heq.out, HS.out, hxy, decide_eq_true rfl, Bool.true_and])
     subst hxy
     skip
     all_goals
      go_wp2
      refine wp_region_held_drew (S := Kept w) (by kernel_rfl) (fun p hp => hkr.out p hp) (fun hS0 => ?_)
      refine tk 0 16 ?_ ?_ ?_; rotate_left; (focus (intro w h; go_simp; (try with_reducible rfl))); (try simp only [zqd, zqe, zqf])
      refine tk 1 17 ?_ ?_ ?_; rotate_left; (focus (intro w h; go_simp; (try with_reducible rfl))); (try simp only [zqd, zqe, zqf])
      refine tk 2 18 ?_ ?_ ?_; rotate_left; (focus (intro w h; go_simp; (try with_reducible rfl))); (try simp only [zqd, zqe, zqf])
      refine tk 3 19 ?_ ?_ ?_; rotate_left; (focus (intro w h; go_simp; (try with_reducible rfl))); (try simp only [zqd, zqe, zqf])
      refine tk 4 20 ?_ ?_ ?_; rotate_left; (focus (intro w h; go_simp; (try with_reducible rfl))); (try simp only [zqd, zqe, zqf])
      refine tk 5 21 ?_ ?_ ?_; rotate_left; (focus (intro w h; go_simp; (try with_reducible rfl))); (try simp only [zqd, zqe, zqf])
      refine tk 6 22 ?_ ?_ ?_; rotate_left; (focus (intro w h; go_simp; (try with_reducible rfl))); (try simp only [zqd, zqe, zqf])
      refine tk 7 23 ?_ ?_ ?_; rotate_left; (focus (intro w h; go_simp; (try with_reducible rfl))); (try simp only [zqd, zqe, zqf])
      refine tk 8 24 ?_ ?_ ?_; rotate_left; (focus (intro w h; go_simp; (try with_reducible rfl))); (try simp only [zqd, zqe, zqf])
      refine wpAnyH_done (by kernel_rfl) ?_ _
      clear hS0
      go_wp2
      go_roundw
      case rel => exact ⟨i + 1, by omega, by go_num, HE, hide (fun p hp => hkr.out p hp), hide hbr.out.drew⟩
      case measure => simp [intOf]; omega
    ·have HE : Hid (eqL xs ys = false) := hide (by rw [heq.out, HS.out, decide_eq_false hxy, Bool.false_and])
     skip
     all_goals
      go_wp2
      refine wp_region_held_drew (S := Kept w) (by kernel_rfl) (fun p hp => hkr.out p hp) (fun hS0 => ?_)
      refine tk 0 16 ?_ ?_ ?_; rotate_left; (focus (intro w h; go_simp; (try with_reducible rfl))); (try simp only [zqd, zqe, zqf])
      refine tk 1 17 ?_ ?_ ?_; rotate_left; (focus (intro w h; go_simp; (try with_reducible rfl))); (try simp only [zqd, zqe, zqf])
      refine tk 2 18 ?_ ?_ ?_; rotate_left; (focus (intro w h; go_simp; (try with_reducible rfl))); (try simp only [zqd, zqe, zqf])
      refine tk 3 19 ?_ ?_ ?_; rotate_left; (focus (intro w h; go_simp; (try with_reducible rfl))); (try simp only [zqd, zqe, zqf])
      refine tk 4 20 ?_ ?_ ?_; rotate_left; (focus (intro w h; go_simp; (try with_reducible rfl))); (try simp only [zqd, zqe, zqf])
      refine tk 5 21 ?_ ?_ ?_; rotate_left; (focus (intro w h; go_simp; (try with_reducible rfl))); (try simp only [zqd, zqe, zqf])
      refine tk 6 22 ?_ ?_ ?_; rotate_left; (focus (intro w h; go_simp; (try with_reducible rfl))); (try simp only [zqd, zqe, zqf])
      refine tk 7 23 ?_ ?_ ?_; rotate_left; (focus (intro w h; go_simp; (try with_reducible rfl))); (try simp only [zqd, zqe, zqf])
      refine tk 8 24 ?_ ?_ ?_; rotate_left; (focus (intro w h; go_simp; (try with_reducible rfl))); (try simp only [zqd, zqe, zqf])
      refine wpAnyH_done (by kernel_rfl) ?_ _
      clear hS0
      go_wp2
      go_ret
      exact ⟨ret_b (by rw [HE.out]), hbr.out.drew⟩
   ·obtain rfl : i = n := by omega
    have HE : Hid (eqL xs ys = true) := hide (by rw [heq.out, List.drop_of_length_le (by have := HX.out; omega), List.drop_of_length_le (by have := HY.out; omega)]; exact eqL_nil)
    go_wp2
    go_ret
    exact ⟨ret_b (by rw [HE.out]), hbr.out⟩
 ·have HE : Hid (eqL xs ys = false) := hide (eqL_len (by rw [HX.out, HY.out]; exact hnm))
  have hne : ((n : Int) == (m : Int)) = false := by simp; omega
  have hne2 : ((n : Int) != (m : Int)) = true := by simp; omega
  go_enter Tryz.func32, Tryz.ntmps32
  go_wp2
  go_ret
  exact ⟨ret_b (by rw [HE.out]), Below.refl _ _⟩
theorem equalB_any (w : World) (A B : Option Addr) (xs ys : List Bool) (n m c d : Nat) (hx : xs.length = n) (hy : ys.length = m) (hn : n ≤ 9223372036854775807) (rx : Rd w w.heap.size A (bools xs)) (ry : Rd w w.heap.size B (bools ys)) :
  Calls Tryz.prog 51 #[.slice A n c, .slice B m d] w fun e w' => e = .returned (.bool (eqL xs ys)) ∧ Below w.heap.size w w' := by
 have HX := hide hx
 have HY := hide hy
 have RX := hide rx
 have RY := hide ry
 clear hx hy rx ry
 by_cases hnm : n = m
 ·obtain rfl := hnm
  go_enter Tryz.func51, Tryz.ntmps51
  go_wp2
  go_loopw [13] (fun vi wr => ∃ i : Nat, i ≤ n ∧ vi = .int .i64 i ∧ Hid (eqL xs ys = eqL (xs.drop i) (ys.drop i)) ∧ Hid (Kept w wr) ∧ Hid (Below w.heap.size w wr)) (fun vi _ => n - (intOf vi).toNat)
  case atStart => exact ⟨0, by omega, rfl, hide rfl, hide (Kept.refl w), hide (Below.refl _ _)⟩
  case round =>
   obtain ⟨i, hi, rfl, heq, hkr, hbr⟩ := hrel
   by_cases hlt : i < n
   ·have hi1 : i < xs.length := by rw [HX.out]; exact hlt
    have hi2 : i < ys.length := by rw [HY.out]; exact hlt
    have HS := hide (eqL_step xs ys i hi1 hi2)
    obtain ⟨b1, o1, rfl, l1, cx⟩ := RX.out.at1 (i := i) (bools_get? (List.getElem?_eq_getElem hi1))
    obtain ⟨b2, o2, rfl, l2, cy⟩ := RY.out.at1 (i := i) (bools_get? (List.getElem?_eq_getElem hi2))
    obtain ⟨x, hx⟩ : ∃ x, xs[i] = x := ⟨_, rfl⟩
    obtain ⟨y, hy⟩ : ∃ y, ys[i] = y := ⟨_, rfl⟩
    rw [hx] at cx HS
    rw [hy] at cy HS
    have hI0 : (0 : Int) ≤ (i : Int) := by omega
    have hI1 : (i : Int) < (n : Int) := by omega
    clear hx hy hi1 hi2
    by_cases hxy : x = y
    ·have HE : Hid (eqL xs ys = eqL (xs.drop (i + 1)) (ys.drop (i + 1))) := hide (by rw [heq.out, HS.out, hxy, decide_eq_true rfl, Bool.true_and])
     subst hxy
     cases x
     all_goals
      go_wp2
      refine wp_region_held_drew (S := Kept w) (by kernel_rfl) (fun p hp => hkr.out p hp) (fun hS0 => ?_)
      refine tk 0 16 ?_ ?_ ?_; rotate_left; (focus (intro w h; go_simp; (try with_reducible rfl))); (try simp only [zqd, zqe, zqf])
      refine tk 1 17 ?_ ?_ ?_; rotate_left; (focus (intro w h; go_simp; (try with_reducible rfl))); (try simp only [zqd, zqe, zqf])
      refine tk 2 18 ?_ ?_ ?_; rotate_left; (focus (intro w h; go_simp; (try with_reducible rfl))); (try simp only [zqd, zqe, zqf])
      refine tk 3 19 ?_ ?_ ?_; rotate_left; (focus (intro w h; go_simp; (try with_reducible rfl))); (try simp only [zqd, zqe, zqf])
      refine tk 4 20 ?_ ?_ ?_; rotate_left; (focus (intro w h; go_simp; (try with_reducible rfl))); (try simp only [zqd, zqe, zqf])
      refine tk 5 21 ?_ ?_ ?_; rotate_left; (focus (intro w h; go_simp; (try with_reducible rfl))); (try simp only [zqd, zqe, zqf])
      refine tk 6 22 ?_ ?_ ?_; rotate_left; (focus (intro w h; go_simp; (try with_reducible rfl))); (try simp only [zqd, zqe, zqf])
      refine tk 7 23 ?_ ?_ ?_; rotate_left; (focus (intro w h; go_simp; (try with_reducible rfl))); (try simp only [zqd, zqe, zqf])
      refine tk 8 24 ?_ ?_ ?_; rotate_left; (focus (intro w h; go_simp; (try with_reducible rfl))); (try simp only [zqd, zqe, zqf])
      refine wpAnyH_done (by kernel_rfl) ?_ _
      clear hS0
      go_wp2
      go_roundw
      case rel => exact ⟨i + 1, by omega, by go_num, HE, hide (fun p hp => hkr.out p hp), hide hbr.out.drew⟩
      case measure => simp [intOf]; omega
    ·have HE : Hid (eqL xs ys = false) := hide (by rw [heq.out, HS.out, decide_eq_false hxy, Bool.false_and])
     cases x <;> cases y <;> (first | exact absurd rfl hxy | skip)
     all_goals
      go_wp2
      refine wp_region_held_drew (S := Kept w) (by kernel_rfl) (fun p hp => hkr.out p hp) (fun hS0 => ?_)
      refine tk 0 16 ?_ ?_ ?_; rotate_left; (focus (intro w h; go_simp; (try with_reducible rfl))); (try simp only [zqd, zqe, zqf])
      refine tk 1 17 ?_ ?_ ?_; rotate_left; (focus (intro w h; go_simp; (try with_reducible rfl))); (try simp only [zqd, zqe, zqf])
      refine tk 2 18 ?_ ?_ ?_; rotate_left; (focus (intro w h; go_simp; (try with_reducible rfl))); (try simp only [zqd, zqe, zqf])
      refine tk 3 19 ?_ ?_ ?_; rotate_left; (focus (intro w h; go_simp; (try with_reducible rfl))); (try simp only [zqd, zqe, zqf])
      refine tk 4 20 ?_ ?_ ?_; rotate_left; (focus (intro w h; go_simp; (try with_reducible rfl))); (try simp only [zqd, zqe, zqf])
      refine tk 5 21 ?_ ?_ ?_; rotate_left; (focus (intro w h; go_simp; (try with_reducible rfl))); (try simp only [zqd, zqe, zqf])
      refine tk 6 22 ?_ ?_ ?_; rotate_left; (focus (intro w h; go_simp; (try with_reducible rfl))); (try simp only [zqd, zqe, zqf])
      refine tk 7 23 ?_ ?_ ?_; rotate_left; (focus (intro w h; go_simp; (try with_reducible rfl))); (try simp only [zqd, zqe, zqf])
      refine tk 8 24 ?_ ?_ ?_; rotate_left; (focus (intro w h; go_simp; (try with_reducible rfl))); (try simp only [zqd, zqe, zqf])
      refine wpAnyH_done (by kernel_rfl) ?_ _
      clear hS0
      go_wp2
      go_ret
      exact ⟨ret_b (by rw [HE.out]), hbr.out.drew⟩
   ·obtain rfl : i = n := by omega
    have HE : Hid (eqL xs ys = true) := hide (by rw [heq.out, List.drop_of_length_le (by have := HX.out; omega), List.drop_of_length_le (by have := HY.out; omega)]; exact eqL_nil)
    go_wp2
    go_ret
    exact ⟨ret_b (by rw [HE.out]), hbr.out⟩
 ·have HE : Hid (eqL xs ys = false) := hide (eqL_len (by rw [HX.out, HY.out]; exact hnm))
  have hne : ((n : Int) == (m : Int)) = false := by simp; omega
  have hne2 : ((n : Int) != (m : Int)) = true := by simp; omega
  go_enter Tryz.func51, Tryz.ntmps51
  go_wp2
  go_ret
  exact ⟨ret_b (by rw [HE.out]), Below.refl _ _⟩
theorem mlsame_any (w : World) (a b : Bool) (x y : Int) : Calls Tryz.prog 72 #[.agg #[.bool a, .int .i64 x], .agg #[.bool b, .int .i64 y]] w fun e w' => e = .returned (.bool (decide (nm (a, x) = nm (b, y)))) ∧ Below w.heap.size w w' := by
 have HB := hide (show Below w.heap.size w ((w.alloc (.cells #[.bool a, .int .i64 x] 121)).alloc (.cells #[.bool b, .int .i64 y] 121)) from ((Below.refl _ _).alloc (Nat.le_refl _) _).alloc (by simp) _)
 rcases a with _ | _ <;> rcases b with _ | _
 ·go_enter Tryz.func72, Tryz.ntmps72
  go_wp2
  go_ret
  exact ⟨ret_b (by simp [nm]), HB.out⟩
 ·go_enter Tryz.func72, Tryz.ntmps72
  go_wp2
  go_ret
  exact ⟨ret_b (by simp [nm]), HB.out⟩
 ·go_enter Tryz.func72, Tryz.ntmps72
  go_wp2
  go_ret
  exact ⟨ret_b (by simp [nm]), HB.out⟩
 ·by_cases hxy : x = y
  ·subst hxy
   go_enter Tryz.func72, Tryz.ntmps72
   go_wp2
   go_ret
   exact ⟨ret_b (by simp), HB.out⟩
  ·have hxy' : (x == y) = false := by simp only [beq_eq_false_iff_ne, ne_eq]; exact hxy
   have HE : Hid (decide (nm (true, x) = nm (true, y)) = false) := hide (by simp [nm, hxy])
   clear hxy
   go_enter Tryz.func72, Tryz.ntmps72
   go_wp2
   go_ret
   exact ⟨ret_b HE.out.symm, HB.out⟩
theorem equalM_any (w : World) (A B : Option Addr) (xs ys : List Ml) (n m c d : Nat) (hx : xs.length = n) (hy : ys.length = m) (hn : n ≤ 9223372036854775807) (rx : Rd w w.heap.size A (mlFlat xs)) (ry : Rd w w.heap.size B (mlFlat ys)) :
  Calls Tryz.prog 71 #[.slice A n c, .slice B m d, .func (.func 72) #[] #[]] w fun e w' => e = .returned (.bool (eqL (xs.map nm) (ys.map nm))) ∧ Below w.heap.size w w' := by
 have HX := hide hx
 have HY := hide hy
 have RX := hide rx
 have RY := hide ry
 clear hx hy rx ry
 by_cases hnm : n = m
 ·obtain rfl := hnm
  go_enter Tryz.func71, Tryz.ntmps71
  go_wp2
  go_loopw [17] (fun vi wr => ∃ i : Nat, i ≤ n ∧ vi = .int .i64 i ∧ Hid (eqL (xs.map nm) (ys.map nm) = eqL ((xs.map nm).drop i) ((ys.map nm).drop i)) ∧ Hid (Below w.heap.size w wr)) (fun vi _ => n - (intOf vi).toNat)
  case atStart => exact ⟨0, by omega, rfl, hide rfl, hide (Below.refl _ _)⟩
  case round =>
   obtain ⟨i, hi, rfl, heq, hbr⟩ := hrel
   by_cases hlt : i < n
   ·have hi1 : i < xs.length := by rw [HX.out]; exact hlt
    have hi2 : i < ys.length := by rw [HY.out]; exact hlt
    have HS := hide (eqL_step (xs.map nm) (ys.map nm) i (by rw [List.length_map]; exact hi1) (by rw [List.length_map]; exact hi2))
    obtain ⟨b1, o1, rfl, l1, cx0, cx1⟩ := RX.out.ml (List.getElem?_eq_getElem hi1)
    obtain ⟨b2, o2, rfl, l2, cy0, cy1⟩ := RY.out.ml (List.getElem?_eq_getElem hi2)
    rw [List.getElem_map, List.getElem_map] at HS
    obtain ⟨x, hx⟩ : ∃ x, xs[i] = x := ⟨_, rfl⟩
    obtain ⟨y, hy⟩ : ∃ y, ys[i] = y := ⟨_, rfl⟩
    rw [hx] at cx0 cx1 HS
    rw [hy] at cy0 cy1 HS
    clear hx hy hi1 hi2
    obtain ⟨a, x⟩ := x
    obtain ⟨b, y⟩ := y
    have cx0 := (hbr.out.cell (p := ⟨b1, o1 + i * 2, none⟩) l1).trans cx0
    have cx1 := (hbr.out.cell (p := ⟨b1, o1 + i * 2 + 1, none⟩) l1).trans cx1
    have cy0 := (hbr.out.cell (p := ⟨b2, o2 + i * 2, none⟩) l2).trans cy0
    have cy1 := (hbr.out.cell (p := ⟨b2, o2 + i * 2 + 1, none⟩) l2).trans cy1
    dsimp only at cx0 cx1 cy0 cy1
    have hs := hbr.out.size
    have l1 : b1 < wr.heap.size := by omega
    have l2 : b2 < wr.heap.size := by omega
    have hI0 : (0 : Int) ≤ (i : Int) := by omega
    have hI1 : (i : Int) < (n : Int) := by omega
    rcases hq : decide (nm (a, x) = nm (b, y)) with _ | _
    ·have HQ := hide hq
     have HE : Hid (eqL (xs.map nm) (ys.map nm) = false) := hide (by rw [heq.out, HS.out, hq, Bool.false_and])
     clear hq
     go_wp2_with fail
     refine (mlsame_any _ a b x y).mono ?_
     rintro e z ⟨rfl, hz⟩
     rw [HQ.out]
     have hB := hide (((hbr.out.alloc hbr.out.size (.cells #[.bool a, .int .i64 x] 121)).alloc (by have := hbr.out.size; simp; omega) (.cells #[.bool b, .int .i64 y] 121)).trans (hz.mono (by have := hbr.out.size; simp; omega)))
     clear hz
     go_wp2
     go_ret
     exact ⟨ret_b (by rw [HE.out]), hB.out⟩
    ·have HQ := hide hq
     have HE : Hid (eqL (xs.map nm) (ys.map nm) = eqL ((xs.map nm).drop (i + 1)) ((ys.map nm).drop (i + 1))) := hide (by rw [heq.out, HS.out, hq, Bool.true_and])
     clear hq
     go_wp2_with fail
     refine (mlsame_any _ a b x y).mono ?_
     rintro e z ⟨rfl, hz⟩
     rw [HQ.out]
     have hB := hide (((hbr.out.alloc hbr.out.size (.cells #[.bool a, .int .i64 x] 121)).alloc (by have := hbr.out.size; simp; omega) (.cells #[.bool b, .int .i64 y] 121)).trans (hz.mono (by have := hbr.out.size; simp; omega)))
     clear hz
     go_wp2
     go_roundw
     case rel => exact ⟨i + 1, by omega, by go_num, HE, hB⟩
     case measure => simp [intOf]; omega
   ·obtain rfl : i = n := by omega
    have HE : Hid (eqL (xs.map nm) (ys.map nm) = true) := hide (by rw [heq.out, List.drop_of_length_le (by have := HX.out; rw [List.length_map]; omega), List.drop_of_length_le (by have := HY.out; rw [List.length_map]; omega)]; exact eqL_nil)
    go_wp2
    go_ret
    exact ⟨ret_b (by rw [HE.out]), hbr.out⟩
 ·have HE : Hid (eqL (xs.map nm) (ys.map nm) = false) := hide (eqL_len (by rw [List.length_map, List.length_map, HX.out, HY.out]; exact hnm))
  have hne : ((n : Int) == (m : Int)) = false := by simp; omega
  have hne2 : ((n : Int) != (m : Int)) = true := by simp; omega
  go_enter Tryz.func71, Tryz.ntmps71
  go_wp2
  go_ret
  exact ⟨ret_b (by rw [HE.out]), Below.refl _ _⟩
theorem isame_any (w : World) (A B : Option Addr) (xs ys : List Ml) (n m c d : Nat) (hx : xs.length = n) (hy : ys.length = m) (hn : n ≤ 9223372036854775807) (rx : Rd w w.heap.size A (mlFlat xs)) (ry : Rd w w.heap.size B (mlFlat ys)) :
  Calls Tryz.prog 52 #[.slice A n c, .slice B m d] w fun e w' => e = .returned (.bool (eqL (xs.map nm) (ys.map nm))) ∧ Below w.heap.size w w' := by
 go_enter Tryz.func52, Tryz.ntmps52
 go_wp2_with fail
 refine (equalM_any w A B xs ys n m c d hx hy hn rx ry).mono ?_
 rintro e z ⟨rfl, hz⟩
 go_wp2
 go_ret
 exact ⟨rfl, hz⟩
end Go.Proofs.YtgbahnlgblahpaaGreat
namespace Go.Proofs.YtgbahnlgblahpaaGreat
open Go.RowKit
structure SV where
 st : Int
 vals : List Int
 chg : List Bool
 inb : List Ml
 sm : Int
 mo : Int
deriving DecidableEq
structure VIn (w : World) (p : SV) (Av Ac Ai : Option Addr) : Prop where
 vals : Rd w w.heap.size Av (i64s p.vals)
 chg : Rd w w.heap.size Ac (bools p.chg)
 inb : Rd w w.heap.size Ai (mlFlat p.inb)
theorem VIn.next {w w' : World} {p : SV} {Av Ac Ai : Option Addr} (h : VIn w p Av Ac Ai) (hb : Below w.heap.size w w') : VIn w' p Av Ac Ai := ⟨h.vals.next hb, h.chg.next hb, h.inb.next hb⟩
def VLen (p : SV) (nv nc ni : Nat) : Prop := p.vals.length = nv ∧ p.chg.length = nc ∧ p.inb.length = ni
def sameV (p q : SV) : Bool := decide (p.st = q.st) && decide (p.sm = q.sm) && decide (p.mo = q.mo) && eqL p.vals q.vals && eqL p.chg q.chg && eqL (p.inb.map nm) (q.inb.map nm)
theorem qsame_any (w : World) (p1 : SV) (Av1 Ac1 Ai1 : Option Addr) (nv1 nc1 ni1 cv1 cc1 ci1 : Nat) (hl1 : VLen p1 nv1 nc1 ni1) (hi1 : VIn w p1 Av1 Ac1 Ai1) (p2 : SV) (Av2 Ac2 Ai2 : Option Addr) (nv2 nc2 ni2 cv2 cc2 ci2 : Nat) (hl2 : VLen p2 nv2 nc2 ni2) (hi2 : VIn w p2 Av2 Ac2 Ai2) (bv : nv1 ≤ 9223372036854775807) (bc : nc1 ≤ 9223372036854775807) (bi : ni1 ≤ 9223372036854775807) :
  Calls Tryz.prog 30 #[.agg #[.int .i64 p1.st, .slice Av1 nv1 cv1, .slice Ac1 nc1 cc1, .slice Ai1 ni1 ci1, .int .i64 p1.sm, .int .i64 p1.mo], .agg #[.int .i64 p2.st, .slice Av2 nv2 cv2, .slice Ac2 nc2 cc2, .slice Ai2 ni2 ci2, .int .i64 p2.sm, .int .i64 p2.mo]] w fun e w' => e = .returned (.bool (sameV p1 p2)) ∧ Below w.heap.size w w' := by
 obtain ⟨u, hv⟩ : ∃ v, (w.alloc (.cells #[.int .i64 p1.st, .slice Av1 nv1 cv1, .slice Ac1 nc1 cc1, .slice Ai1 ni1 ci1, .int .i64 p1.sm, .int .i64 p1.mo] 35)).alloc (.cells #[.int .i64 p2.st, .slice Av2 nv2 cv2, .slice Ac2 nc2 cc2, .slice Ai2 ni2 ci2, .int .i64 p2.sm, .int .i64 p2.mo] 35) = v := ⟨_, rfl⟩
 have hz : w.heap.size + 2 ≤ u.heap.size := by rw [← hv]; simp
 have hb : Below w.heap.size w u := by rw [← hv]; exact ((Below.refl _ _).alloc (Nat.le_refl _) _).alloc (by simp) _
 have q1 : u.heap[w.heap.size]? = some (.cells #[.int .i64 p1.st, .slice Av1 nv1 cv1, .slice Ac1 nc1 cc1, .slice Ai1 ni1 ci1, .int .i64 p1.sm, .int .i64 p1.mo] 35) := by rw [← hv]; exact (Below.heap_alloc _ _ _ (by simp)).trans (heap_alloc_last w _)
 have q2 : u.heap[w.heap.size + 1]? = some (.cells #[.int .i64 p2.st, .slice Av2 nv2 cv2, .slice Ac2 nc2 cc2, .slice Ai2 ni2 ci2, .int .i64 p2.sm, .int .i64 p2.mo] 35) := by
  rw [← hv]
  have := heap_alloc_last (w.alloc (.cells #[.int .i64 p1.st, .slice Av1 nv1 cv1, .slice Ac1 nc1 cc1, .slice Ai1 ni1 ci1, .int .i64 p1.sm, .int .i64 p1.mo] 35)) (.cells #[.int .i64 p2.st, .slice Av2 nv2 cv2, .slice Ac2 nc2 cc2, .slice Ai2 ni2 ci2, .int .i64 p2.sm, .int .i64 p2.mo] 35)
  rw [World.size_alloc] at this
  exact this
 have HB := hide hb
 have HVB := hide (show Below w.heap.size w ((w.alloc (.cells #[.int .i64 p1.st, .slice Av1 nv1 cv1, .slice Ac1 nc1 cc1, .slice Ai1 ni1 ci1, .int .i64 p1.sm, .int .i64 p1.mo] 35)).alloc (.cells #[.int .i64 p2.st, .slice Av2 nv2 cv2, .slice Ac2 nc2 cc2, .slice Ai2 ni2 ci2, .int .i64 p2.sm, .int .i64 p2.mo] 35)) by rw [hv]; exact hb)
 have HV := hide hv
 have HL1 := hide hl1; have HL2 := hide hl2
 have HI1 := hide (hi1.next hb); have HI2 := hide (hi2.next hb)
 have X0 := hide (show u.cell? ⟨w.heap.size, 0, none⟩ = some (.int .i64 p1.st) from cell_of_row _ _ 0 _ _ _ q1)
 have X4 := hide (show u.cell? ⟨w.heap.size, 4, none⟩ = some (.int .i64 p1.sm) from cell_of_row _ _ 4 _ _ _ q1)
 have X5 := hide (show u.cell? ⟨w.heap.size, 5, none⟩ = some (.int .i64 p1.mo) from cell_of_row _ _ 5 _ _ _ q1)
 have Y0 := hide (show u.cell? ⟨w.heap.size + 1, 0, none⟩ = some (.int .i64 p2.st) from cell_of_row _ _ 0 _ _ _ q2)
 have Y4 := hide (show u.cell? ⟨w.heap.size + 1, 4, none⟩ = some (.int .i64 p2.sm) from cell_of_row _ _ 4 _ _ _ q2)
 have Y5 := hide (show u.cell? ⟨w.heap.size + 1, 5, none⟩ = some (.int .i64 p2.mo) from cell_of_row _ _ 5 _ _ _ q2)
 have X1 := hide (show u.cell? ⟨w.heap.size, 1, none⟩ = some (.slice Av1 nv1 cv1) from cell_of_row _ _ 1 _ _ _ q1)
 have X2 := hide (show u.cell? ⟨w.heap.size, 2, none⟩ = some (.slice Ac1 nc1 cc1) from cell_of_row _ _ 2 _ _ _ q1)
 have X3 := hide (show u.cell? ⟨w.heap.size, 3, none⟩ = some (.slice Ai1 ni1 ci1) from cell_of_row _ _ 3 _ _ _ q1)
 have Y1 := hide (show u.cell? ⟨w.heap.size + 1, 1, none⟩ = some (.slice Av2 nv2 cv2) from cell_of_row _ _ 1 _ _ _ q2)
 have Y2 := hide (show u.cell? ⟨w.heap.size + 1, 2, none⟩ = some (.slice Ac2 nc2 cc2) from cell_of_row _ _ 2 _ _ _ q2)
 have Y3 := hide (show u.cell? ⟨w.heap.size + 1, 3, none⟩ = some (.slice Ai2 ni2 ci2) from cell_of_row _ _ 3 _ _ _ q2)
 have KU0 := hide (Below.refl u.heap.size u)
 clear q1 q2 hb hv hl1 hl2 hi1 hi2
 by_cases h_st : p1.st = p2.st
 rotate_left
 ·have hs_st : (p1.st == p2.st) = false := by simpa using h_st
  have hn_st : (p1.st != p2.st) = true := by simpa using h_st
  have HF : Hid (sameV p1 p2 = false) := hide (by simp [sameV, h_st])
  clear h_st
  have x0 := X0.out
  have x1 := X1.out
  have x2 := X2.out
  have x3 := X3.out
  have x4 := X4.out
  have x5 := X5.out
  have y0 := Y0.out
  have y1 := Y1.out
  have y2 := Y2.out
  have y3 := Y3.out
  have y4 := Y4.out
  have y5 := Y5.out
  go_enter Tryz.func30, Tryz.ntmps30
  go_wp2
  go_ret
  exact ⟨ret_b HF.out.symm, HVB.out⟩
 have H_st := hide h_st
 have hs_st : (p1.st == p2.st) = true := by simpa using h_st
 have hn_st : (p1.st != p2.st) = false := by simpa using h_st
 clear h_st
 by_cases h_sm : p1.sm = p2.sm
 rotate_left
 ·have hs_sm : (p1.sm == p2.sm) = false := by simpa using h_sm
  have hn_sm : (p1.sm != p2.sm) = true := by simpa using h_sm
  have HF : Hid (sameV p1 p2 = false) := hide (by simp [sameV, h_sm])
  clear h_sm
  have x0 := X0.out
  have x1 := X1.out
  have x2 := X2.out
  have x3 := X3.out
  have x4 := X4.out
  have x5 := X5.out
  have y0 := Y0.out
  have y1 := Y1.out
  have y2 := Y2.out
  have y3 := Y3.out
  have y4 := Y4.out
  have y5 := Y5.out
  go_enter Tryz.func30, Tryz.ntmps30
  go_wp2
  go_ret
  exact ⟨ret_b HF.out.symm, HVB.out⟩
 have H_sm := hide h_sm
 have hs_sm : (p1.sm == p2.sm) = true := by simpa using h_sm
 have hn_sm : (p1.sm != p2.sm) = false := by simpa using h_sm
 clear h_sm
 by_cases h_mo : p1.mo = p2.mo
 rotate_left
 ·have hs_mo : (p1.mo == p2.mo) = false := by simpa using h_mo
  have hn_mo : (p1.mo != p2.mo) = true := by simpa using h_mo
  have HF : Hid (sameV p1 p2 = false) := hide (by simp [sameV, h_mo])
  clear h_mo
  have x0 := X0.out
  have x1 := X1.out
  have x2 := X2.out
  have x3 := X3.out
  have x4 := X4.out
  have x5 := X5.out
  have y0 := Y0.out
  have y1 := Y1.out
  have y2 := Y2.out
  have y3 := Y3.out
  have y4 := Y4.out
  have y5 := Y5.out
  go_enter Tryz.func30, Tryz.ntmps30
  go_wp2
  go_ret
  exact ⟨ret_b HF.out.symm, HVB.out⟩
 have H_mo := hide h_mo
 have hs_mo : (p1.mo == p2.mo) = true := by simpa using h_mo
 have hn_mo : (p1.mo != p2.mo) = false := by simpa using h_mo
 clear h_mo
 have x0 := X0.out
 have x4 := X4.out
 have x5 := X5.out
 have y0 := Y0.out
 have y4 := Y4.out
 have y5 := Y5.out
 go_enter Tryz.func30, Tryz.ntmps30
 have x1 : u.cell? ⟨w.heap.size, 1, none⟩ = some (.slice Av1 nv1 cv1) := (KU0.out.cell (p := ⟨w.heap.size, 1, none⟩) (by show w.heap.size < _; omega)).trans X1.out
 have y1 : u.cell? ⟨w.heap.size + 1, 1, none⟩ = some (.slice Av2 nv2 cv2) := (KU0.out.cell (p := ⟨w.heap.size + 1, 1, none⟩) (by show w.heap.size + 1 < _; omega)).trans Y1.out
 go_wp2_with fail
 rw [HV.out]
 refine (equalL_any u Av1 Av2 p1.vals p2.vals nv1 nv2 cv1 cv2 HL1.out.1 HL2.out.1 (by omega) (HI1.out.next KU0.out).vals (HI2.out.next KU0.out).vals).mono ?_
 rintro e z1 ⟨rfl, hz⟩
 have KU1 := hide (KU0.out.trans (hz.mono KU0.out.size))
 have szz1 := KU1.out.size
 clear hz x1 y1
 clear x0 y0 x4 y4 x5 y5
 rcases hq0 : eqL p1.vals p2.vals with _ | _
 ·have HF : Hid (sameV p1 p2 = false) := hide (by simp [sameV, hq0])
  have HBf := hide (HB.out.trans (KU1.out.mono HB.out.size))
  clear hq0
  go_wp2
  go_ret
  exact ⟨ret_b HF.out.symm, HBf.out⟩
 have HQ0 := hide hq0
 clear hq0
 have x2 : z1.cell? ⟨w.heap.size, 2, none⟩ = some (.slice Ac1 nc1 cc1) := (KU1.out.cell (p := ⟨w.heap.size, 2, none⟩) (by show w.heap.size < _; omega)).trans X2.out
 have y2 : z1.cell? ⟨w.heap.size + 1, 2, none⟩ = some (.slice Ac2 nc2 cc2) := (KU1.out.cell (p := ⟨w.heap.size + 1, 2, none⟩) (by show w.heap.size + 1 < _; omega)).trans Y2.out
 go_wp2_with fail
 refine (equalB_any z1 Ac1 Ac2 p1.chg p2.chg nc1 nc2 cc1 cc2 HL1.out.2.1 HL2.out.2.1 (by omega) (HI1.out.next KU1.out).chg (HI2.out.next KU1.out).chg).mono ?_
 rintro e z2 ⟨rfl, hz⟩
 have KU2 := hide (KU1.out.trans (hz.mono KU1.out.size))
 have szz2 := KU2.out.size
 clear hz x2 y2
 rcases hq1 : eqL p1.chg p2.chg with _ | _
 ·have HF : Hid (sameV p1 p2 = false) := hide (by simp [sameV, hq1])
  have HBf := hide (HB.out.trans (KU2.out.mono HB.out.size))
  clear hq1
  go_wp2
  go_ret
  exact ⟨ret_b HF.out.symm, HBf.out⟩
 have HQ1 := hide hq1
 clear hq1
 have x3 : z2.cell? ⟨w.heap.size, 3, none⟩ = some (.slice Ai1 ni1 ci1) := (KU2.out.cell (p := ⟨w.heap.size, 3, none⟩) (by show w.heap.size < _; omega)).trans X3.out
 have y3 : z2.cell? ⟨w.heap.size + 1, 3, none⟩ = some (.slice Ai2 ni2 ci2) := (KU2.out.cell (p := ⟨w.heap.size + 1, 3, none⟩) (by show w.heap.size + 1 < _; omega)).trans Y3.out
 go_wp2_with fail
 refine (isame_any z2 Ai1 Ai2 p1.inb p2.inb ni1 ni2 ci1 ci2 HL1.out.2.2 HL2.out.2.2 (by omega) (HI1.out.next KU2.out).inb (HI2.out.next KU2.out).inb).mono ?_
 rintro e z3 ⟨rfl, hz⟩
 have KU3 := hide (KU2.out.trans (hz.mono KU2.out.size))
 have szz3 := KU3.out.size
 clear hz x3 y3
 rcases hq2 : eqL (p1.inb.map nm) (p2.inb.map nm) with _ | _
 ·have HF : Hid (sameV p1 p2 = false) := hide (by simp [sameV, hq2])
  have HBf := hide (HB.out.trans (KU3.out.mono HB.out.size))
  clear hq2
  go_wp2
  go_ret
  exact ⟨ret_b HF.out.symm, HBf.out⟩
 have HQ2 := hide hq2
 clear hq2
 have HF : Hid (sameV p1 p2 = true) := hide (by simp [sameV, H_st.out, H_sm.out, H_mo.out, HQ0.out, HQ1.out, HQ2.out])
 have HBf := hide (HB.out.trans (KU3.out.mono HB.out.size))
 go_wp2
 go_ret
 exact ⟨ret_b HF.out.symm, HBf.out⟩
end Go.Proofs.YtgbahnlgblahpaaGreat
namespace Go.Proofs.YtgbahnlgblahpaaGreat
open Go.RowKit
theorem i64g_get {l : List Int} {i : Nat} {x : Int} (h : l[i]? = some x) : (l.map (Value.int .i64))[i]? = some (.int .i64 x) := by simp [h]
theorem rd_at1 {w : World} {A : Option Addr} {xs : List Value} {i : Nat} {u : Value} (h : Rd w w.heap.size A xs) (hu : xs[i]? = some u) : ∃ b off, A = some ⟨b, off, none⟩ ∧ b < w.heap.size ∧ w.cell? ⟨b, off + i, none⟩ = some u := by
 obtain ⟨b, off, e, hb, hc⟩ := h.at_ (List.getElem?_eq_some_iff.1 hu).1
 exact ⟨b, off, e, hb, hc i u hu⟩
theorem eqv_any (w : World) (A B : Option Addr) (xs ys : List Int) (n m c d : Nat) (hx : xs.length = n) (hy : ys.length = m) (hn : n ≤ 9223372036854775807) (rx : Rd w w.heap.size A (xs.map (Value.int .i64))) (ry : Rd w w.heap.size B (ys.map (Value.int .i64))) :
  Calls Tryz.prog 32 #[.slice A n c, .slice B m d] w fun e w' => e = .returned (.bool (eqL xs ys)) ∧ Below w.heap.size w w' := by
 have HX := hide hx
 have HY := hide hy
 have RX := hide rx
 have RY := hide ry
 clear hx hy rx ry
 by_cases hnm : n = m
 ·obtain rfl := hnm
  go_enter Tryz.func32, Tryz.ntmps32
  go_wp2
  go_loopw [13] (fun vi wr => ∃ i : Nat, i ≤ n ∧ vi = .int .i64 i ∧ Hid (eqL xs ys = eqL (xs.drop i) (ys.drop i)) ∧ Hid (Kept w wr) ∧ Hid (Below w.heap.size w wr)) (fun vi _ => n - (intOf vi).toNat)
  case atStart => exact ⟨0, by omega, rfl, hide rfl, hide (Kept.refl w), hide (Below.refl _ _)⟩
  case round =>
   obtain ⟨i, hi, rfl, heq, hkr, hbr⟩ := hrel
   by_cases hlt : i < n
   ·have hi1 : i < xs.length := by rw [HX.out]; exact hlt
    have hi2 : i < ys.length := by rw [HY.out]; exact hlt
    have HS := hide (eqL_step xs ys i hi1 hi2)
    obtain ⟨b1, o1, rfl, l1, cx⟩ := rd_at1 RX.out (i := i) (i64g_get (List.getElem?_eq_getElem hi1))
    obtain ⟨b2, o2, rfl, l2, cy⟩ := rd_at1 RY.out (i := i) (i64g_get (List.getElem?_eq_getElem hi2))
    obtain ⟨x, hx⟩ : ∃ x, xs[i] = x := ⟨_, rfl⟩
    obtain ⟨y, hy⟩ : ∃ y, ys[i] = y := ⟨_, rfl⟩
    rw [hx] at cx HS
    rw [hy] at cy HS
    have hI0 : (0 : Int) ≤ (i : Int) := by omega
    have hI1 : (i : Int) < (n : Int) := by omega
    clear hx hy hi1 hi2
    by_cases hxy : x = y
    ·have HE : Hid (eqL xs ys = eqL (xs.drop (i + 1)) (ys.drop (i + 1))) := hide (by rw [heq.out, HS.out, hxy, decide_eq_true rfl, Bool.true_and])
     subst hxy
     skip
     all_goals
      go_wp2
      refine wp_region_held_drew (S := Kept w) (by kernel_rfl) (fun p hp => hkr.out p hp) (fun hS0 => ?_)
      refine tk 0 16 ?_ ?_ ?_; rotate_left; (focus (intro w h; go_simp; (try with_reducible rfl))); (try simp only [zqd, zqe, zqf])
      refine tk 1 17 ?_ ?_ ?_; rotate_left; (focus (intro w h; go_simp; (try with_reducible rfl))); (try simp only [zqd, zqe, zqf])
      refine tk 2 18 ?_ ?_ ?_; rotate_left; (focus (intro w h; go_simp; (try with_reducible rfl))); (try simp only [zqd, zqe, zqf])
      refine tk 3 19 ?_ ?_ ?_; rotate_left; (focus (intro w h; go_simp; (try with_reducible rfl))); (try simp only [zqd, zqe, zqf])
      refine tk 4 20 ?_ ?_ ?_; rotate_left; (focus (intro w h; go_simp; (try with_reducible rfl))); (try simp only [zqd, zqe, zqf])
      refine tk 5 21 ?_ ?_ ?_; rotate_left; (focus (intro w h; go_simp; (try with_reducible rfl))); (try simp only [zqd, zqe, zqf])
      refine tk 6 22 ?_ ?_ ?_; rotate_left; (focus (intro w h; go_simp; (try with_reducible rfl))); (try simp only [zqd, zqe, zqf])
      refine tk 7 23 ?_ ?_ ?_; rotate_left; (focus (intro w h; go_simp; (try with_reducible rfl))); (try simp only [zqd, zqe, zqf])
      refine tk 8 24 ?_ ?_ ?_; rotate_left; (focus (intro w h; go_simp; (try with_reducible rfl))); (try simp only [zqd, zqe, zqf])
      refine wpAnyH_done (by kernel_rfl) ?_ _
      clear hS0
      go_wp2
      go_roundw
      case rel => exact ⟨i + 1, by omega, by go_num, HE, hide (fun p hp => hkr.out p hp), hide hbr.out.drew⟩
      case measure => simp [intOf]; omega
    ·have HE : Hid (eqL xs ys = false) := hide (by rw [heq.out, HS.out, decide_eq_false hxy, Bool.false_and])
     skip
     all_goals
      go_wp2
      refine wp_region_held_drew (S := Kept w) (by kernel_rfl) (fun p hp => hkr.out p hp) (fun hS0 => ?_)
      refine tk 0 16 ?_ ?_ ?_; rotate_left; (focus (intro w h; go_simp; (try with_reducible rfl))); (try simp only [zqd, zqe, zqf])
      refine tk 1 17 ?_ ?_ ?_; rotate_left; (focus (intro w h; go_simp; (try with_reducible rfl))); (try simp only [zqd, zqe, zqf])
      refine tk 2 18 ?_ ?_ ?_; rotate_left; (focus (intro w h; go_simp; (try with_reducible rfl))); (try simp only [zqd, zqe, zqf])
      refine tk 3 19 ?_ ?_ ?_; rotate_left; (focus (intro w h; go_simp; (try with_reducible rfl))); (try simp only [zqd, zqe, zqf])
      refine tk 4 20 ?_ ?_ ?_; rotate_left; (focus (intro w h; go_simp; (try with_reducible rfl))); (try simp only [zqd, zqe, zqf])
      refine tk 5 21 ?_ ?_ ?_; rotate_left; (focus (intro w h; go_simp; (try with_reducible rfl))); (try simp only [zqd, zqe, zqf])
      refine tk 6 22 ?_ ?_ ?_; rotate_left; (focus (intro w h; go_simp; (try with_reducible rfl))); (try simp only [zqd, zqe, zqf])
      refine tk 7 23 ?_ ?_ ?_; rotate_left; (focus (intro w h; go_simp; (try with_reducible rfl))); (try simp only [zqd, zqe, zqf])
      refine tk 8 24 ?_ ?_ ?_; rotate_left; (focus (intro w h; go_simp; (try with_reducible rfl))); (try simp only [zqd, zqe, zqf])
      refine wpAnyH_done (by kernel_rfl) ?_ _
      clear hS0
      go_wp2
      go_ret
      exact ⟨ret_b (by rw [HE.out]), hbr.out.drew⟩
   ·obtain rfl : i = n := by omega
    have HE : Hid (eqL xs ys = true) := hide (by rw [heq.out, List.drop_of_length_le (by have := HX.out; omega), List.drop_of_length_le (by have := HY.out; omega)]; exact eqL_nil)
    go_wp2
    go_ret
    exact ⟨ret_b (by rw [HE.out]), hbr.out⟩
 ·have HE : Hid (eqL xs ys = false) := hide (eqL_len (by rw [HX.out, HY.out]; exact hnm))
  have hne : ((n : Int) == (m : Int)) = false := by simp; omega
  have hne2 : ((n : Int) != (m : Int)) = true := by simp; omega
  go_enter Tryz.func32, Tryz.ntmps32
  go_wp2
  go_ret
  exact ⟨ret_b (by rw [HE.out]), Below.refl _ _⟩
end Go.Proofs.YtgbahnlgblahpaaGreat
namespace Go.Proofs.YtgbahnlgblahpaaGreat
open Go.RowKit
theorem same64_any (w : World) (A B : Option Addr) (xs ys : List Int) (n m c d : Nat) (hx : xs.length = n) (hy : ys.length = m) (hn : n ≤ 9223372036854775807) (rx : Rd w w.heap.size A (xs.map (Value.int .i64))) (ry : Rd w w.heap.size B (ys.map (Value.int .i64))) :
  Calls Tryz.prog 14 #[.slice A n c, .slice B m d] w fun e w' => e = .returned (.bool (eqL xs ys)) ∧ Below w.heap.size w w' := by
 have HX := hide hx
 have HY := hide hy
 have RX := hide rx
 have RY := hide ry
 clear hx hy rx ry
 by_cases hnm : n = m
 ·obtain rfl := hnm
  go_enter Tryz.func14, Tryz.ntmps14
  go_wp2
  go_loopw [5] (fun vi wr => ∃ i : Nat, i ≤ n ∧ vi = .int .i64 i ∧ Hid (eqL xs ys = eqL (xs.drop i) (ys.drop i)) ∧ Hid (Kept w wr) ∧ Hid (Below w.heap.size w wr)) (fun vi _ => n - (intOf vi).toNat)
  case atStart => exact ⟨0, by omega, rfl, hide rfl, hide (Kept.refl w), hide (Below.refl _ _)⟩
  case round =>
   obtain ⟨i, hi, rfl, heq, hkr, hbr⟩ := hrel
   by_cases hlt : i < n
   ·have hi1 : i < xs.length := by rw [HX.out]; exact hlt
    have hi2 : i < ys.length := by rw [HY.out]; exact hlt
    have HS := hide (eqL_step xs ys i hi1 hi2)
    obtain ⟨b1, o1, rfl, l1, _⟩ := RX.out.at_ (k := i) (by rw [List.length_map]; exact hi1)
    obtain ⟨b2, o2, rfl, l2, _⟩ := RY.out.at_ (k := i) (by rw [List.length_map]; exact hi2)
    have cx : w.cell? ⟨b1, o1 + i, none⟩ = some (.int .i64 xs[i]) := RX.out.cell (by rw [List.getElem?_map, List.getElem?_eq_getElem hi1]; rfl)
    have cy : w.cell? ⟨b2, o2 + i, none⟩ = some (.int .i64 ys[i]) := RY.out.cell (by rw [List.getElem?_map, List.getElem?_eq_getElem hi2]; rfl)
    obtain ⟨x, hx⟩ : ∃ x, xs[i] = x := ⟨_, rfl⟩
    obtain ⟨y, hy⟩ : ∃ y, ys[i] = y := ⟨_, rfl⟩
    rw [hx] at cx HS
    rw [hy] at cy HS
    have hI0 : (0 : Int) ≤ (i : Int) := by omega
    have hI1 : (i : Int) < (n : Int) := by omega
    clear hx hy hi1 hi2
    by_cases hxy : x = y
    ·have HE : Hid (eqL xs ys = eqL (xs.drop (i + 1)) (ys.drop (i + 1))) := hide (by rw [heq.out, HS.out, hxy, decide_eq_true rfl, Bool.true_and])
     subst hxy
     go_wp2
     refine wp_region_held_drew (S := Kept w) (by kernel_rfl) (fun p hp => hkr.out p hp) (fun hS0 => ?_)
     refine tk 0 17 ?_ ?_ ?_; rotate_left; (focus (intro w h; go_simp; (try with_reducible rfl))); (try simp only [zqd, zqe, zqf])
     refine tk 1 18 ?_ ?_ ?_; rotate_left; (focus (intro w h; go_simp; (try with_reducible rfl))); (try simp only [zqd, zqe, zqf])
     refine tk 2 19 ?_ ?_ ?_; rotate_left; (focus (intro w h; go_simp; (try with_reducible rfl))); (try simp only [zqd, zqe, zqf])
     refine tk 3 20 ?_ ?_ ?_; rotate_left; (focus (intro w h; go_simp; (try with_reducible rfl))); (try simp only [zqd, zqe, zqf])
     refine tk 4 21 ?_ ?_ ?_; rotate_left; (focus (intro w h; go_simp; (try with_reducible rfl))); (try simp only [zqd, zqe, zqf])
     refine tk 5 22 ?_ ?_ ?_; rotate_left; (focus (intro w h; go_simp; (try with_reducible rfl))); (try simp only [zqd, zqe, zqf])
     refine tk 6 23 ?_ ?_ ?_; rotate_left; (focus (intro w h; go_simp; (try with_reducible rfl))); (try simp only [zqd, zqe, zqf])
     refine tk 7 24 ?_ ?_ ?_; rotate_left; (focus (intro w h; go_simp; (try with_reducible rfl))); (try simp only [zqd, zqe, zqf])
     refine tk 8 25 ?_ ?_ ?_; rotate_left; (focus (intro w h; go_simp; (try with_reducible rfl))); (try simp only [zqd, zqe, zqf])
     refine wpAnyH_done (by kernel_rfl) ?_ _
     clear hS0
     go_wp2
     go_roundw
     case rel => exact ⟨i + 1, by omega, by go_num, HE, hide (fun p hp => hkr.out p hp), hide hbr.out.drew⟩
     case measure => simp [intOf]; omega
    ·have HE : Hid (eqL xs ys = false) := hide (by rw [heq.out, HS.out, decide_eq_false hxy, Bool.false_and])
     go_wp2
     refine wp_region_held_drew (S := Kept w) (by kernel_rfl) (fun p hp => hkr.out p hp) (fun hS0 => ?_)
     refine tk 0 17 ?_ ?_ ?_; rotate_left; (focus (intro w h; go_simp; (try with_reducible rfl))); (try simp only [zqd, zqe, zqf])
     refine tk 1 18 ?_ ?_ ?_; rotate_left; (focus (intro w h; go_simp; (try with_reducible rfl))); (try simp only [zqd, zqe, zqf])
     refine tk 2 19 ?_ ?_ ?_; rotate_left; (focus (intro w h; go_simp; (try with_reducible rfl))); (try simp only [zqd, zqe, zqf])
     refine tk 3 20 ?_ ?_ ?_; rotate_left; (focus (intro w h; go_simp; (try with_reducible rfl))); (try simp only [zqd, zqe, zqf])
     refine tk 4 21 ?_ ?_ ?_; rotate_left; (focus (intro w h; go_simp; (try with_reducible rfl))); (try simp only [zqd, zqe, zqf])
     refine tk 5 22 ?_ ?_ ?_; rotate_left; (focus (intro w h; go_simp; (try with_reducible rfl))); (try simp only [zqd, zqe, zqf])
     refine tk 6 23 ?_ ?_ ?_; rotate_left; (focus (intro w h; go_simp; (try with_reducible rfl))); (try simp only [zqd, zqe, zqf])
     refine tk 7 24 ?_ ?_ ?_; rotate_left; (focus (intro w h; go_simp; (try with_reducible rfl))); (try simp only [zqd, zqe, zqf])
     refine tk 8 25 ?_ ?_ ?_; rotate_left; (focus (intro w h; go_simp; (try with_reducible rfl))); (try simp only [zqd, zqe, zqf])
     refine wpAnyH_done (by kernel_rfl) ?_ _
     clear hS0
     go_wp2
     go_ret
     exact ⟨ret_b (by rw [HE.out]), hbr.out.drew⟩
   ·obtain rfl : i = n := by omega
    have HE : Hid (eqL xs ys = true) := hide (by rw [heq.out, List.drop_of_length_le (by have := HX.out; omega), List.drop_of_length_le (by have := HY.out; omega)]; exact eqL_nil)
    go_wp2
    go_ret
    exact ⟨ret_b (by rw [HE.out]), hbr.out⟩
 ·have hne : ((n : Int) == (m : Int)) = false := by simp; omega
  have hne2 : ((n : Int) != (m : Int)) = true := by simp; omega
  have HE : Hid (eqL xs ys = false) := hide (eqL_len (by rw [HX.out, HY.out]; exact hnm))
  go_enter Tryz.func14, Tryz.ntmps14
  go_wp2
  go_ret
  exact ⟨ret_b (by rw [HE.out]), Below.refl _ _⟩
end Go.Proofs.YtgbahnlgblahpaaGreat
