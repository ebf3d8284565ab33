/- The document's Same: of mail. Rows of numbers that are the same: the loops. -/
import Derived.Test.YtpgbjabifhjogaaGreatProg
import Derived.Lib.Hide
import Derived.WalkSpells
import Derived.WalkMore
import Derived.Test.YtpgbjabifhjogaaGreatSeqRunw34
namespace Go.Proofs.YtpgbjabifhjogaaGreat
open Go.RowKit
set_option linter.unusedVariables false
set_option linter.unusedSimpArgs false
set_option maxRecDepth 100000 in
set_option maxHeartbeats 8000000 in
theorem rmsame_any (w : World) (A B : Option Addr) (xs ys : List Ml) (n m c d : Nat) (hx : xs.length = n) (hy : ys.length = m) (hn : n ≤ 9223372036854775807) (rx : Rd w w.heap.size A (mlFlat xs)) (ry : Rd w w.heap.size B (mlFlat ys)) :
  Calls Tryz.prog 37 #[.slice A n c, .slice B m d] w fun e w' => e = .returned (.bool (eqL (xs.map nm) (ys.map nm))) ∧ Below w.heap.size w w' := by
 have HX := hide hx
 have HY := hide hy
 have RX := hide rx
 have RY := hide ry
 clear hx hy rx ry
 by_cases hnm : n = m
 ·obtain rfl := hnm
  go_enter Tryz.func37, Tryz.ntmps37
  go_wp2
  go_loopw [5] (fun vi wr => ∃ i : Nat, i ≤ n ∧ vi = .int .i64 i ∧ Hid (eqL (xs.map nm) (ys.map nm) = eqL ((xs.map nm).drop i) ((ys.map nm).drop i)) ∧ Hid (Kept w wr) ∧ Hid (Below w.heap.size w wr)) (fun vi _ => n - (intOf vi).toNat)
  case atStart => exact ⟨0, by omega, rfl, hide rfl, hide (Kept.refl w), hide (Below.refl _ _)⟩
  case round =>
   obtain ⟨i, hi, rfl, heq, hkr, hbr⟩ := hrel
   by_cases hlt : i < n
   ·have hi1 : i < xs.length := by rw [HX.out]; exact hlt
    have hi2 : i < ys.length := by rw [HY.out]; exact hlt
    have HS := hide (eqL_step (xs.map nm) (ys.map nm) i (by rw [List.length_map]; exact hi1) (by rw [List.length_map]; exact hi2))
    obtain ⟨b1, o1, rfl, l1, cx0, cx1⟩ := RX.out.ml (List.getElem?_eq_getElem hi1)
    obtain ⟨b2, o2, rfl, l2, cy0, cy1⟩ := RY.out.ml (List.getElem?_eq_getElem hi2)
    rw [List.getElem_map, List.getElem_map] at HS
    obtain ⟨x, hx⟩ : ∃ x, xs[i] = x := ⟨_, rfl⟩
    obtain ⟨y, hy⟩ : ∃ y, ys[i] = y := ⟨_, rfl⟩
    rw [hx] at cx0 cx1 HS
    rw [hy] at cy0 cy1 HS
    clear hx hy hi1 hi2
    obtain ⟨a, x⟩ := x
    obtain ⟨b, y⟩ := y
    dsimp only at cx0 cx1 cy0 cy1
    have hI0 : (0 : Int) ≤ (i : Int) := by omega
    have hI1 : (i : Int) < (n : Int) := by omega
    rcases a with _ | _ <;> rcases b with _ | _
    ·have HE : Hid (eqL (xs.map nm) (ys.map nm) = eqL ((xs.map nm).drop (i + 1)) ((ys.map nm).drop (i + 1))) := hide (by rw [heq.out, HS.out, decide_eq_true (by simp [nm]), Bool.true_and])
     go_wp2
     refine wp_region_held_drew (S := Kept w) (by kernel_rfl) (fun p hp => hkr.out p hp) (fun hS0 => ?_)
     refine tk 0 17 (v := ?_) ?_ ?_; rotate_left; (focus (intro w hSw; go_simp; (try with_reducible rfl); done)); (try simp only [xd, xe, xf])
     refine tk 1 18 (v := ?_) ?_ ?_; rotate_left; (focus (intro w hSw; go_simp; (try with_reducible rfl); done)); (try simp only [xd, xe, xf])
     refine tk 2 19 (v := ?_) ?_ ?_; rotate_left; (focus (intro w hSw; go_simp; (try with_reducible rfl); done)); (try simp only [xd, xe, xf])
     refine tk 3 20 (v := ?_) ?_ ?_; rotate_left; (focus (intro w hSw; go_simp; (try with_reducible rfl); done)); (try simp only [xd, xe, xf])
     refine tk 4 21 (v := ?_) ?_ ?_; rotate_left; (focus (intro w hSw; go_simp; (try with_reducible rfl); done)); (try simp only [xd, xe, xf])
     refine tk 5 22 (v := ?_) ?_ ?_; rotate_left; (focus (intro w hSw; go_simp; (try with_reducible rfl); done)); (try simp only [xd, xe, xf])
     refine tk 6 23 (v := ?_) ?_ ?_; rotate_left; (focus (intro w hSw; go_simp; (try with_reducible rfl); done)); (try simp only [xd, xe, xf])
     refine tk 7 24 (v := ?_) ?_ ?_; rotate_left; (focus (intro w hSw; go_simp; (try with_reducible rfl); done)); (try simp only [xd, xe, xf])
     refine tk 8 25 (v := ?_) ?_ ?_; rotate_left; (focus (intro w hSw; go_simp; (try with_reducible rfl); done)); (try simp only [xd, xe, xf])
     refine tk 9 26 (v := ?_) ?_ ?_; rotate_left; (focus (intro w hSw; go_simp; (try with_reducible rfl); done)); (try simp only [xd, xe, xf])
     refine tk 10 27 (v := ?_) ?_ ?_; rotate_left; (focus (intro w hSw; go_simp; (try with_reducible rfl); done)); (try simp only [xd, xe, xf])
     refine tk 11 28 (v := ?_) ?_ ?_; rotate_left; (focus (intro w hSw; go_simp; (try with_reducible rfl); done)); (try simp only [xd, xe, xf])
     refine tk 12 29 (v := ?_) ?_ ?_; rotate_left; (focus (intro w hSw; go_simp; (try with_reducible rfl); done)); (try simp only [xd, xe, xf])
     refine tk 13 30 (v := ?_) ?_ ?_; rotate_left; (focus (intro w hSw; go_simp; (try with_reducible rfl); done)); (try simp only [xd, xe, xf])
     refine tk 14 31 (v := ?_) ?_ ?_; rotate_left; (focus (intro w hSw; go_simp; (try with_reducible rfl); done)); (try simp only [xd, xe, xf])
     refine tk 15 32 (v := ?_) ?_ ?_; rotate_left; (focus (intro w hSw; go_simp; (try with_reducible rfl); done)); (try simp only [xd, xe, xf])
     refine tk 16 33 (v := ?_) ?_ ?_; rotate_left; (focus (intro w hSw; go_simp; (try with_reducible rfl); done)); (try simp only [xd, xe, xf])
     refine tk 17 34 (v := ?_) ?_ ?_; rotate_left; (focus (intro w hSw; go_simp; (try with_reducible rfl); done)); (try simp only [xd, xe, xf])
     refine sk 18 35 ?_; (try simp only [xd, xe, xf])
     refine sk 19 36 ?_; (try simp only [xd, xe, xf])
     refine sk 20 37 ?_; (try simp only [xd, xe, xf])
     refine sk 21 38 ?_; (try simp only [xd, xe, xf])
     refine sk 22 39 ?_; (try simp only [xd, xe, xf])
     refine sk 23 40 ?_; (try simp only [xd, xe, xf])
     refine sk 24 41 ?_; (try simp only [xd, xe, xf])
     refine sk 25 42 ?_; (try simp only [xd, xe, xf])
     refine sk 26 43 ?_; (try simp only [xd, xe, xf])
     refine sk 27 44 ?_; (try simp only [xd, xe, xf])
     refine sk 28 45 ?_; (try simp only [xd, xe, xf])
     refine tk 29 46 (v := ?_) ?_ ?_; rotate_left; (focus (intro w hSw; go_simp; (try with_reducible rfl); done)); (try simp only [xd, xe, xf])
     refine tk 30 47 (v := ?_) ?_ ?_; rotate_left; (focus (intro w hSw; go_simp; (try with_reducible rfl); done)); (try simp only [xd, xe, xf])
     refine wpAnyH_done (by kernel_rfl) ?_ _
     clear hS0
     go_wp2
     go_roundw
     case rel => exact ⟨i + 1, by omega, by go_num, HE, hide (fun p hp => hkr.out p hp), hide hbr.out.drew⟩
     case measure => simp [intOf]; omega
    ·have HE : Hid (eqL (xs.map nm) (ys.map nm) = false) := hide (by rw [heq.out, HS.out, decide_eq_false (by simp [nm]), Bool.false_and])
     go_wp2
     refine wp_region_held_drew (S := Kept w) (by kernel_rfl) (fun p hp => hkr.out p hp) (fun hS0 => ?_)
     refine tk 0 17 (v := ?_) ?_ ?_; rotate_left; (focus (intro w hSw; go_simp; (try with_reducible rfl); done)); (try simp only [xd, xe, xf])
     refine tk 1 18 (v := ?_) ?_ ?_; rotate_left; (focus (intro w hSw; go_simp; (try with_reducible rfl); done)); (try simp only [xd, xe, xf])
     refine tk 2 19 (v := ?_) ?_ ?_; rotate_left; (focus (intro w hSw; go_simp; (try with_reducible rfl); done)); (try simp only [xd, xe, xf])
     refine tk 3 20 (v := ?_) ?_ ?_; rotate_left; (focus (intro w hSw; go_simp; (try with_reducible rfl); done)); (try simp only [xd, xe, xf])
     refine tk 4 21 (v := ?_) ?_ ?_; rotate_left; (focus (intro w hSw; go_simp; (try with_reducible rfl); done)); (try simp only [xd, xe, xf])
     refine tk 5 22 (v := ?_) ?_ ?_; rotate_left; (focus (intro w hSw; go_simp; (try with_reducible rfl); done)); (try simp only [xd, xe, xf])
     refine tk 6 23 (v := ?_) ?_ ?_; rotate_left; (focus (intro w hSw; go_simp; (try with_reducible rfl); done)); (try simp only [xd, xe, xf])
     refine tk 7 24 (v := ?_) ?_ ?_; rotate_left; (focus (intro w hSw; go_simp; (try with_reducible rfl); done)); (try simp only [xd, xe, xf])
     refine tk 8 25 (v := ?_) ?_ ?_; rotate_left; (focus (intro w hSw; go_simp; (try with_reducible rfl); done)); (try simp only [xd, xe, xf])
     refine tk 9 26 (v := ?_) ?_ ?_; rotate_left; (focus (intro w hSw; go_simp; (try with_reducible rfl); done)); (try simp only [xd, xe, xf])
     refine tk 10 27 (v := ?_) ?_ ?_; rotate_left; (focus (intro w hSw; go_simp; (try with_reducible rfl); done)); (try simp only [xd, xe, xf])
     refine tk 11 28 (v := ?_) ?_ ?_; rotate_left; (focus (intro w hSw; go_simp; (try with_reducible rfl); done)); (try simp only [xd, xe, xf])
     refine sk 12 29 ?_; (try simp only [xd, xe, xf])
     refine sk 13 30 ?_; (try simp only [xd, xe, xf])
     refine sk 14 31 ?_; (try simp only [xd, xe, xf])
     refine sk 15 32 ?_; (try simp only [xd, xe, xf])
     refine sk 16 33 ?_; (try simp only [xd, xe, xf])
     refine sk 17 34 ?_; (try simp only [xd, xe, xf])
     refine sk 18 35 ?_; (try simp only [xd, xe, xf])
     refine sk 19 36 ?_; (try simp only [xd, xe, xf])
     refine sk 20 37 ?_; (try simp only [xd, xe, xf])
     refine sk 21 38 ?_; (try simp only [xd, xe, xf])
     refine sk 22 39 ?_; (try simp only [xd, xe, xf])
     refine sk 23 40 ?_; (try simp only [xd, xe, xf])
     refine sk 24 41 ?_; (try simp only [xd, xe, xf])
     refine sk 25 42 ?_; (try simp only [xd, xe, xf])
     refine sk 26 43 ?_; (try simp only [xd, xe, xf])
     refine sk 27 44 ?_; (try simp only [xd, xe, xf])
     refine sk 28 45 ?_; (try simp only [xd, xe, xf])
     refine sk 29 46 ?_; (try simp only [xd, xe, xf])
     refine tk 30 47 (v := ?_) ?_ ?_; rotate_left; (focus (intro w hSw; go_simp; (try with_reducible rfl); done)); (try simp only [xd, xe, xf])
     refine wpAnyH_done (by kernel_rfl) ?_ _
     clear hS0
     go_wp2
     go_ret
     exact ⟨ret_b (by rw [HE.out]), hbr.out.drew⟩
    ·have HE : Hid (eqL (xs.map nm) (ys.map nm) = false) := hide (by rw [heq.out, HS.out, decide_eq_false (by simp [nm]), Bool.false_and])
     go_wp2
     refine wp_region_held_drew (S := Kept w) (by kernel_rfl) (fun p hp => hkr.out p hp) (fun hS0 => ?_)
     refine tk 0 17 (v := ?_) ?_ ?_; rotate_left; (focus (intro w hSw; go_simp; (try with_reducible rfl); done)); (try simp only [xd, xe, xf])
     refine tk 1 18 (v := ?_) ?_ ?_; rotate_left; (focus (intro w hSw; go_simp; (try with_reducible rfl); done)); (try simp only [xd, xe, xf])
     refine tk 2 19 (v := ?_) ?_ ?_; rotate_left; (focus (intro w hSw; go_simp; (try with_reducible rfl); done)); (try simp only [xd, xe, xf])
     refine tk 3 20 (v := ?_) ?_ ?_; rotate_left; (focus (intro w hSw; go_simp; (try with_reducible rfl); done)); (try simp only [xd, xe, xf])
     refine tk 4 21 (v := ?_) ?_ ?_; rotate_left; (focus (intro w hSw; go_simp; (try with_reducible rfl); done)); (try simp only [xd, xe, xf])
     refine tk 5 22 (v := ?_) ?_ ?_; rotate_left; (focus (intro w hSw; go_simp; (try with_reducible rfl); done)); (try simp only [xd, xe, xf])
     refine tk 6 23 (v := ?_) ?_ ?_; rotate_left; (focus (intro w hSw; go_simp; (try with_reducible rfl); done)); (try simp only [xd, xe, xf])
     refine tk 7 24 (v := ?_) ?_ ?_; rotate_left; (focus (intro w hSw; go_simp; (try with_reducible rfl); done)); (try simp only [xd, xe, xf])
     refine tk 8 25 (v := ?_) ?_ ?_; rotate_left; (focus (intro w hSw; go_simp; (try with_reducible rfl); done)); (try simp only [xd, xe, xf])
     refine tk 9 26 (v := ?_) ?_ ?_; rotate_left; (focus (intro w hSw; go_simp; (try with_reducible rfl); done)); (try simp only [xd, xe, xf])
     refine tk 10 27 (v := ?_) ?_ ?_; rotate_left; (focus (intro w hSw; go_simp; (try with_reducible rfl); done)); (try simp only [xd, xe, xf])
     refine tk 11 28 (v := ?_) ?_ ?_; rotate_left; (focus (intro w hSw; go_simp; (try with_reducible rfl); done)); (try simp only [xd, xe, xf])
     refine sk 12 29 ?_; (try simp only [xd, xe, xf])
     refine sk 13 30 ?_; (try simp only [xd, xe, xf])
     refine sk 14 31 ?_; (try simp only [xd, xe, xf])
     refine sk 15 32 ?_; (try simp only [xd, xe, xf])
     refine sk 16 33 ?_; (try simp only [xd, xe, xf])
     refine sk 17 34 ?_; (try simp only [xd, xe, xf])
     refine sk 18 35 ?_; (try simp only [xd, xe, xf])
     refine sk 19 36 ?_; (try simp only [xd, xe, xf])
     refine sk 20 37 ?_; (try simp only [xd, xe, xf])
     refine sk 21 38 ?_; (try simp only [xd, xe, xf])
     refine sk 22 39 ?_; (try simp only [xd, xe, xf])
     refine sk 23 40 ?_; (try simp only [xd, xe, xf])
     refine sk 24 41 ?_; (try simp only [xd, xe, xf])
     refine sk 25 42 ?_; (try simp only [xd, xe, xf])
     refine sk 26 43 ?_; (try simp only [xd, xe, xf])
     refine sk 27 44 ?_; (try simp only [xd, xe, xf])
     refine sk 28 45 ?_; (try simp only [xd, xe, xf])
     refine sk 29 46 ?_; (try simp only [xd, xe, xf])
     refine tk 30 47 (v := ?_) ?_ ?_; rotate_left; (focus (intro w hSw; go_simp; (try with_reducible rfl); done)); (try simp only [xd, xe, xf])
     refine wpAnyH_done (by kernel_rfl) ?_ _
     clear hS0
     go_wp2
     go_ret
     exact ⟨ret_b (by rw [HE.out]), hbr.out.drew⟩
    ·by_cases hxy : x = y
     ·have HE : Hid (eqL (xs.map nm) (ys.map nm) = eqL ((xs.map nm).drop (i + 1)) ((ys.map nm).drop (i + 1))) := hide (by rw [heq.out, HS.out, decide_eq_true (by simp [nm, hxy]), Bool.true_and])
      subst hxy
      go_wp2
      refine wp_region_held_drew (S := Kept w) (by kernel_rfl) (fun p hp => hkr.out p hp) (fun hS0 => ?_)
      refine tk 0 17 (v := ?_) ?_ ?_; rotate_left; (focus (intro w hSw; go_simp; (try with_reducible rfl); done)); (try simp only [xd, xe, xf])
      refine tk 1 18 (v := ?_) ?_ ?_; rotate_left; (focus (intro w hSw; go_simp; (try with_reducible rfl); done)); (try simp only [xd, xe, xf])
      refine tk 2 19 (v := ?_) ?_ ?_; rotate_left; (focus (intro w hSw; go_simp; (try with_reducible rfl); done)); (try simp only [xd, xe, xf])
      refine tk 3 20 (v := ?_) ?_ ?_; rotate_left; (focus (intro w hSw; go_simp; (try with_reducible rfl); done)); (try simp only [xd, xe, xf])
      refine tk 4 21 (v := ?_) ?_ ?_; rotate_left; (focus (intro w hSw; go_simp; (try with_reducible rfl); done)); (try simp only [xd, xe, xf])
      refine tk 5 22 (v := ?_) ?_ ?_; rotate_left; (focus (intro w hSw; go_simp; (try with_reducible rfl); done)); (try simp only [xd, xe, xf])
      refine tk 6 23 (v := ?_) ?_ ?_; rotate_left; (focus (intro w hSw; go_simp; (try with_reducible rfl); done)); (try simp only [xd, xe, xf])
      refine tk 7 24 (v := ?_) ?_ ?_; rotate_left; (focus (intro w hSw; go_simp; (try with_reducible rfl); done)); (try simp only [xd, xe, xf])
      refine tk 8 25 (v := ?_) ?_ ?_; rotate_left; (focus (intro w hSw; go_simp; (try with_reducible rfl); done)); (try simp only [xd, xe, xf])
      refine tk 9 26 (v := ?_) ?_ ?_; rotate_left; (focus (intro w hSw; go_simp; (try with_reducible rfl); done)); (try simp only [xd, xe, xf])
      refine tk 10 27 (v := ?_) ?_ ?_; rotate_left; (focus (intro w hSw; go_simp; (try with_reducible rfl); done)); (try simp only [xd, xe, xf])
      refine tk 11 28 (v := ?_) ?_ ?_; rotate_left; (focus (intro w hSw; go_simp; (try with_reducible rfl); done)); (try simp only [xd, xe, xf])
      refine tk 12 29 (v := ?_) ?_ ?_; rotate_left; (focus (intro w hSw; go_simp; (try with_reducible rfl); done)); (try simp only [xd, xe, xf])
      refine tk 13 30 (v := ?_) ?_ ?_; rotate_left; (focus (intro w hSw; go_simp; (try with_reducible rfl); done)); (try simp only [xd, xe, xf])
      refine tk 14 31 (v := ?_) ?_ ?_; rotate_left; (focus (intro w hSw; go_simp; (try with_reducible rfl); done)); (try simp only [xd, xe, xf])
      refine tk 15 32 (v := ?_) ?_ ?_; rotate_left; (focus (intro w hSw; go_simp; (try with_reducible rfl); done)); (try simp only [xd, xe, xf])
      refine tk 16 33 (v := ?_) ?_ ?_; rotate_left; (focus (intro w hSw; go_simp; (try with_reducible rfl); done)); (try simp only [xd, xe, xf])
      refine tk 17 34 (v := ?_) ?_ ?_; rotate_left; (focus (intro w hSw; go_simp; (try with_reducible rfl); done)); (try simp only [xd, xe, xf])
      refine tk 18 35 (v := ?_) ?_ ?_; rotate_left; (focus (intro w hSw; go_simp; (try with_reducible rfl); done)); (try simp only [xd, xe, xf])
      refine tk 19 36 (v := ?_) ?_ ?_; rotate_left; (focus (intro w hSw; go_simp; (try with_reducible rfl); done)); (try simp only [xd, xe, xf])
      refine tk 20 37 (v := ?_) ?_ ?_; rotate_left; (focus (intro w hSw; go_simp; (try with_reducible rfl); done)); (try simp only [xd, xe, xf])
      refine tk 21 38 (v := ?_) ?_ ?_; rotate_left; (focus (intro w hSw; go_simp; (try with_reducible rfl); done)); (try simp only [xd, xe, xf])
      refine tk 22 39 (v := ?_) ?_ ?_; rotate_left; (focus (intro w hSw; go_simp; (try with_reducible rfl); done)); (try simp only [xd, xe, xf])
      refine tk 23 40 (v := ?_) ?_ ?_; rotate_left; (focus (intro w hSw; go_simp; (try with_reducible rfl); done)); (try simp only [xd, xe, xf])
      refine tk 24 41 (v := ?_) ?_ ?_; rotate_left; (focus (intro w hSw; go_simp; (try with_reducible rfl); done)); (try simp only [xd, xe, xf])
      refine tk 25 42 (v := ?_) ?_ ?_; rotate_left; (focus (intro w hSw; go_simp; (try with_reducible rfl); done)); (try simp only [xd, xe, xf])
      refine tk 26 43 (v := ?_) ?_ ?_; rotate_left; (focus (intro w hSw; go_simp; (try with_reducible rfl); done)); (try simp only [xd, xe, xf])
      refine tk 27 44 (v := ?_) ?_ ?_; rotate_left; (focus (intro w hSw; go_simp; (try with_reducible rfl); done)); (try simp only [xd, xe, xf])
      refine tk 28 45 (v := ?_) ?_ ?_; rotate_left; (focus (intro w hSw; go_simp; (try with_reducible rfl); done)); (try simp only [xd, xe, xf])
      refine tk 29 46 (v := ?_) ?_ ?_; rotate_left; (focus (intro w hSw; go_simp; (try with_reducible rfl); done)); (try simp only [xd, xe, xf])
      refine tk 30 47 (v := ?_) ?_ ?_; rotate_left; (focus (intro w hSw; go_simp; (try with_reducible rfl); done)); (try simp only [xd, xe, xf])
      refine wpAnyH_done (by kernel_rfl) ?_ _
      clear hS0
      go_wp2
      go_roundw
      case rel => exact ⟨i + 1, by omega, by go_num, HE, hide (fun p hp => hkr.out p hp), hide hbr.out.drew⟩
      case measure => simp [intOf]; omega
     ·have HE : Hid (eqL (xs.map nm) (ys.map nm) = false) := hide (by rw [heq.out, HS.out, decide_eq_false (by simp [nm, hxy]), Bool.false_and])
      have hxy' : (x == y) = false := by simp only [beq_eq_false_iff_ne, ne_eq]; exact hxy
      have hxy2 : (x != y) = true := by simp only [bne_iff_ne, ne_eq]; exact hxy
      clear hxy
      go_wp2
      refine wp_region_held_drew (S := Kept w) (by kernel_rfl) (fun p hp => hkr.out p hp) (fun hS0 => ?_)
      refine tk 0 17 (v := ?_) ?_ ?_; rotate_left; (focus (intro w hSw; go_simp; (try with_reducible rfl); done)); (try simp only [xd, xe, xf])
      refine tk 1 18 (v := ?_) ?_ ?_; rotate_left; (focus (intro w hSw; go_simp; (try with_reducible rfl); done)); (try simp only [xd, xe, xf])
      refine tk 2 19 (v := ?_) ?_ ?_; rotate_left; (focus (intro w hSw; go_simp; (try with_reducible rfl); done)); (try simp only [xd, xe, xf])
      refine tk 3 20 (v := ?_) ?_ ?_; rotate_left; (focus (intro w hSw; go_simp; (try with_reducible rfl); done)); (try simp only [xd, xe, xf])
      refine tk 4 21 (v := ?_) ?_ ?_; rotate_left; (focus (intro w hSw; go_simp; (try with_reducible rfl); done)); (try simp only [xd, xe, xf])
      refine tk 5 22 (v := ?_) ?_ ?_; rotate_left; (focus (intro w hSw; go_simp; (try with_reducible rfl); done)); (try simp only [xd, xe, xf])
      refine tk 6 23 (v := ?_) ?_ ?_; rotate_left; (focus (intro w hSw; go_simp; (try with_reducible rfl); done)); (try simp only [xd, xe, xf])
      refine tk 7 24 (v := ?_) ?_ ?_; rotate_left; (focus (intro w hSw; go_simp; (try with_reducible rfl); done)); (try simp only [xd, xe, xf])
      refine tk 8 25 (v := ?_) ?_ ?_; rotate_left; (focus (intro w hSw; go_simp; (try with_reducible rfl); done)); (try simp only [xd, xe, xf])
      refine tk 9 26 (v := ?_) ?_ ?_; rotate_left; (focus (intro w hSw; go_simp; (try with_reducible rfl); done)); (try simp only [xd, xe, xf])
      refine tk 10 27 (v := ?_) ?_ ?_; rotate_left; (focus (intro w hSw; go_simp; (try with_reducible rfl); done)); (try simp only [xd, xe, xf])
      refine tk 11 28 (v := ?_) ?_ ?_; rotate_left; (focus (intro w hSw; go_simp; (try with_reducible rfl); done)); (try simp only [xd, xe, xf])
      refine tk 12 29 (v := ?_) ?_ ?_; rotate_left; (focus (intro w hSw; go_simp; (try with_reducible rfl); done)); (try simp only [xd, xe, xf])
      refine tk 13 30 (v := ?_) ?_ ?_; rotate_left; (focus (intro w hSw; go_simp; (try with_reducible rfl); done)); (try simp only [xd, xe, xf])
      refine tk 14 31 (v := ?_) ?_ ?_; rotate_left; (focus (intro w hSw; go_simp; (try with_reducible rfl); done)); (try simp only [xd, xe, xf])
      refine tk 15 32 (v := ?_) ?_ ?_; rotate_left; (focus (intro w hSw; go_simp; (try with_reducible rfl); done)); (try simp only [xd, xe, xf])
      refine tk 16 33 (v := ?_) ?_ ?_; rotate_left; (focus (intro w hSw; go_simp; (try with_reducible rfl); done)); (try simp only [xd, xe, xf])
      refine tk 17 34 (v := ?_) ?_ ?_; rotate_left; (focus (intro w hSw; go_simp; (try with_reducible rfl); done)); (try simp only [xd, xe, xf])
      refine tk 18 35 (v := ?_) ?_ ?_; rotate_left; (focus (intro w hSw; go_simp; (try with_reducible rfl); done)); (try simp only [xd, xe, xf])
      refine tk 19 36 (v := ?_) ?_ ?_; rotate_left; (focus (intro w hSw; go_simp; (try with_reducible rfl); done)); (try simp only [xd, xe, xf])
      refine tk 20 37 (v := ?_) ?_ ?_; rotate_left; (focus (intro w hSw; go_simp; (try with_reducible rfl); done)); (try simp only [xd, xe, xf])
      refine tk 21 38 (v := ?_) ?_ ?_; rotate_left; (focus (intro w hSw; go_simp; (try with_reducible rfl); done)); (try simp only [xd, xe, xf])
      refine tk 22 39 (v := ?_) ?_ ?_; rotate_left; (focus (intro w hSw; go_simp; (try with_reducible rfl); done)); (try simp only [xd, xe, xf])
      refine tk 23 40 (v := ?_) ?_ ?_; rotate_left; (focus (intro w hSw; go_simp; (try with_reducible rfl); done)); (try simp only [xd, xe, xf])
      refine tk 24 41 (v := ?_) ?_ ?_; rotate_left; (focus (intro w hSw; go_simp; (try with_reducible rfl); done)); (try simp only [xd, xe, xf])
      refine tk 25 42 (v := ?_) ?_ ?_; rotate_left; (focus (intro w hSw; go_simp; (try with_reducible rfl); done)); (try simp only [xd, xe, xf])
      refine tk 26 43 (v := ?_) ?_ ?_; rotate_left; (focus (intro w hSw; go_simp; (try with_reducible rfl); done)); (try simp only [xd, xe, xf])
      refine tk 27 44 (v := ?_) ?_ ?_; rotate_left; (focus (intro w hSw; go_simp; (try with_reducible rfl); done)); (try simp only [xd, xe, xf])
      refine tk 28 45 (v := ?_) ?_ ?_; rotate_left; (focus (intro w hSw; go_simp; (try with_reducible rfl); done)); (try simp only [xd, xe, xf])
      refine tk 29 46 (v := ?_) ?_ ?_; rotate_left; (focus (intro w hSw; go_simp; (try with_reducible rfl); done)); (try simp only [xd, xe, xf])
      refine tk 30 47 (v := ?_) ?_ ?_; rotate_left; (focus (intro w hSw; go_simp; (try with_reducible rfl); done)); (try simp only [xd, xe, xf])
      refine wpAnyH_done (by kernel_rfl) ?_ _
      clear hS0
      go_wp2
      go_ret
      exact ⟨ret_b (by rw [HE.out]), hbr.out.drew⟩
   ·obtain rfl : i = n := by omega
    have HE : Hid (eqL (xs.map nm) (ys.map nm) = true) := hide (by rw [heq.out, List.drop_of_length_le (by have := HX.out; rw [List.length_map]; omega), List.drop_of_length_le (by have := HY.out; rw [List.length_map]; omega)]; exact eqL_nil)
    go_wp2
    go_ret
    exact ⟨ret_b (by rw [HE.out]), hbr.out⟩
 ·have HE : Hid (eqL (xs.map nm) (ys.map nm) = false) := hide (eqL_len (by rw [List.length_map, List.length_map, HX.out, HY.out]; exact hnm))
  have hne : ((n : Int) == (m : Int)) = false := by simp; omega
  have hne2 : ((n : Int) != (m : Int)) = true := by simp; omega
  go_enter Tryz.func37, Tryz.ntmps37
  go_wp2
  go_ret
  exact ⟨ret_b (by rw [HE.out]), Below.refl _ _⟩
end Go.Proofs.YtpgbjabifhjogaaGreat
namespace Go.Proofs.YtpgbjabifhjogaaGreat
open Go.RowKit
set_option linter.unusedVariables false
set_option linter.unusedSimpArgs false
set_option maxRecDepth 100000 in
set_option maxHeartbeats 2000000 in
theorem same64_any (w : World) (A B : Option Addr) (xs ys : List Int) (n m c d : Nat) (hx : xs.length = n) (hy : ys.length = m) (hn : n ≤ 9223372036854775807) (rx : Rd w w.heap.size A (xs.map (Value.int .i64))) (ry : Rd w w.heap.size B (ys.map (Value.int .i64))) :
  Calls Tryz.prog 27 #[.slice A n c, .slice B m d] w fun e w' => e = .returned (.bool (eqL xs ys)) ∧ Below w.heap.size w w' := by
 have HX := hide hx
 have HY := hide hy
 have RX := hide rx
 have RY := hide ry
 clear hx hy rx ry
 by_cases hnm : n = m
 ·obtain rfl := hnm
  go_enter Tryz.func27, Tryz.ntmps27
  go_wp2
  go_loopw [5] (fun vi wr => ∃ i : Nat, i ≤ n ∧ vi = .int .i64 i ∧ Hid (eqL xs ys = eqL (xs.drop i) (ys.drop i)) ∧ Hid (Kept w wr) ∧ Hid (Below w.heap.size w wr)) (fun vi _ => n - (intOf vi).toNat)
  case atStart => exact ⟨0, by omega, rfl, hide rfl, hide (Kept.refl w), hide (Below.refl _ _)⟩
  case round =>
   obtain ⟨i, hi, rfl, heq, hkr, hbr⟩ := hrel
   by_cases hlt : i < n
   ·have hi1 : i < xs.length := by rw [HX.out]; exact hlt
    have hi2 : i < ys.length := by rw [HY.out]; exact hlt
    have HS := hide (eqL_step xs ys i hi1 hi2)
    obtain ⟨b1, o1, rfl, l1, _⟩ := RX.out.at_ (k := i) (by rw [List.length_map]; exact hi1)
    obtain ⟨b2, o2, rfl, l2, _⟩ := RY.out.at_ (k := i) (by rw [List.length_map]; exact hi2)
    have cx : w.cell? ⟨b1, o1 + i, none⟩ = some (.int .i64 xs[i]) := RX.out.cell (by rw [List.getElem?_map, List.getElem?_eq_getElem hi1]; rfl)
    have cy : w.cell? ⟨b2, o2 + i, none⟩ = some (.int .i64 ys[i]) := RY.out.cell (by rw [List.getElem?_map, List.getElem?_eq_getElem hi2]; rfl)
    obtain ⟨x, hx⟩ : ∃ x, xs[i] = x := ⟨_, rfl⟩
    obtain ⟨y, hy⟩ : ∃ y, ys[i] = y := ⟨_, rfl⟩
    rw [hx] at cx HS
    rw [hy] at cy HS
    have hI0 : (0 : Int) ≤ (i : Int) := by omega
    have hI1 : (i : Int) < (n : Int) := by omega
    clear hx hy hi1 hi2
    by_cases hxy : x = y
    ·have HE : Hid (eqL xs ys = eqL (xs.drop (i + 1)) (ys.drop (i + 1))) := hide (by rw [heq.out, HS.out, hxy, decide_eq_true rfl, Bool.true_and])
     subst hxy
     go_wp2
     refine wp_region_held_drew (S := Kept w) (by kernel_rfl) (fun p hp => hkr.out p hp) (fun hS0 => ?_)
     refine tk 0 17 (v := ?_) ?_ ?_; rotate_left; (focus (intro w hSw; go_simp; (try with_reducible rfl); done)); (try simp only [xd, xe, xf])
     refine tk 1 18 (v := ?_) ?_ ?_; rotate_left; (focus (intro w hSw; go_simp; (try with_reducible rfl); done)); (try simp only [xd, xe, xf])
     refine tk 2 19 (v := ?_) ?_ ?_; rotate_left; (focus (intro w hSw; go_simp; (try with_reducible rfl); done)); (try simp only [xd, xe, xf])
     refine tk 3 20 (v := ?_) ?_ ?_; rotate_left; (focus (intro w hSw; go_simp; (try with_reducible rfl); done)); (try simp only [xd, xe, xf])
     refine tk 4 21 (v := ?_) ?_ ?_; rotate_left; (focus (intro w hSw; go_simp; (try with_reducible rfl); done)); (try simp only [xd, xe, xf])
     refine tk 5 22 (v := ?_) ?_ ?_; rotate_left; (focus (intro w hSw; go_simp; (try with_reducible rfl); done)); (try simp only [xd, xe, xf])
     refine tk 6 23 (v := ?_) ?_ ?_; rotate_left; (focus (intro w hSw; go_simp; (try with_reducible rfl); done)); (try simp only [xd, xe, xf])
     refine tk 7 24 (v := ?_) ?_ ?_; rotate_left; (focus (intro w hSw; go_simp; (try with_reducible rfl); done)); (try simp only [xd, xe, xf])
     refine tk 8 25 (v := ?_) ?_ ?_; rotate_left; (focus (intro w hSw; go_simp; (try with_reducible rfl); done)); (try simp only [xd, xe, xf])
     refine wpAnyH_done (by kernel_rfl) ?_ _
     clear hS0
     go_wp2
     go_roundw
     case rel => exact ⟨i + 1, by omega, by go_num, HE, hide (fun p hp => hkr.out p hp), hide hbr.out.drew⟩
     case measure => simp [intOf]; omega
    ·have HE : Hid (eqL xs ys = false) := hide (by rw [heq.out, HS.out, decide_eq_false hxy, Bool.false_and])
     go_wp2
     refine wp_region_held_drew (S := Kept w) (by kernel_rfl) (fun p hp => hkr.out p hp) (fun hS0 => ?_)
     refine tk 0 17 (v := ?_) ?_ ?_; rotate_left; (focus (intro w hSw; go_simp; (try with_reducible rfl); done)); (try simp only [xd, xe, xf])
     refine tk 1 18 (v := ?_) ?_ ?_; rotate_left; (focus (intro w hSw; go_simp; (try with_reducible rfl); done)); (try simp only [xd, xe, xf])
     refine tk 2 19 (v := ?_) ?_ ?_; rotate_left; (focus (intro w hSw; go_simp; (try with_reducible rfl); done)); (try simp only [xd, xe, xf])
     refine tk 3 20 (v := ?_) ?_ ?_; rotate_left; (focus (intro w hSw; go_simp; (try with_reducible rfl); done)); (try simp only [xd, xe, xf])
     refine tk 4 21 (v := ?_) ?_ ?_; rotate_left; (focus (intro w hSw; go_simp; (try with_reducible rfl); done)); (try simp only [xd, xe, xf])
     refine tk 5 22 (v := ?_) ?_ ?_; rotate_left; (focus (intro w hSw; go_simp; (try with_reducible rfl); done)); (try simp only [xd, xe, xf])
     refine tk 6 23 (v := ?_) ?_ ?_; rotate_left; (focus (intro w hSw; go_simp; (try with_reducible rfl); done)); (try simp only [xd, xe, xf])
     refine tk 7 24 (v := ?_) ?_ ?_; rotate_left; (focus (intro w hSw; go_simp; (try with_reducible rfl); done)); (try simp only [xd, xe, xf])
     refine tk 8 25 (v := ?_) ?_ ?_; rotate_left; (focus (intro w hSw; go_simp; (try with_reducible rfl); done)); (try simp only [xd, xe, xf])
     refine wpAnyH_done (by kernel_rfl) ?_ _
     clear hS0
     go_wp2
     go_ret
     exact ⟨ret_b (by rw [HE.out]), hbr.out.drew⟩
   ·obtain rfl : i = n := by omega
    have HE : Hid (eqL xs ys = true) := hide (by rw [heq.out, List.drop_of_length_le (by have := HX.out; omega), List.drop_of_length_le (by have := HY.out; omega)]; exact eqL_nil)
    go_wp2
    go_ret
    exact ⟨ret_b (by rw [HE.out]), hbr.out⟩
 ·have hne : ((n : Int) == (m : Int)) = false := by simp; omega
  have hne2 : ((n : Int) != (m : Int)) = true := by simp; omega
  have HE : Hid (eqL xs ys = false) := hide (eqL_len (by rw [HX.out, HY.out]; exact hnm))
  go_enter Tryz.func27, Tryz.ntmps27
  go_wp2
  go_ret
  exact ⟨ret_b (by rw [HE.out]), Below.refl _ _⟩
end Go.Proofs.YtpgbjabifhjogaaGreat
