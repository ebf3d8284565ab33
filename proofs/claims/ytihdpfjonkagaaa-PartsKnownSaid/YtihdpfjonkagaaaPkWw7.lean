/- Lemmas: Mow, Mor, Mwn, Mwk. -/
import Derived.RangeFuncNested
import Derived.RangeFuncBound
import Derived.RangeFuncCalls
import Derived.RangeFuncLeaves
import Derived.RangeFuncBox
import Derived.Shelf.Abstract
import Derived.Shelf.RegionOpen
import Derived.WalkKit
import Derived.OwnWalkIn
import Derived.TacticsInMore
import Derived.LoopNIn
import Derived.LoopIn
import Derived.Maps.AppendAt
import Derived.Test.YtihdpfjonkagaaaPkWw5
import Derived.Test.YtihdpfjonkagaaaPkWw6
set_option linter.unusedVariables false
set_option linter.unusedSimpArgs false
set_option maxRecDepth 100000
set_option maxHeartbeats 16000000
namespace Go.Proofs.Ytihdpfjonkagaaa
open Go.RowKit Go.Shelf
attribute [local go_sem] Oper.semAt_some
def sel (n k v : Int) : Bool := decide (0 ≤ k) && decide (ofF v n = k)
def ownUpto (n k : Int) (i : Nat) : List Int := ((List.range i).map fun (j : Nat) => (j : Int)).filter (sel n k)
def ownedF (V n k : Int) : List Int := ownUpto n k (min V 512).toNat
theorem own_snoc (n k : Int) (i : Nat) : ownUpto n k (i + 1) = ownUpto n k i ++ (if sel n k (i : Int) = true then [(i : Int)] else []) := by
 unfold ownUpto
 rw [List.range_succ, List.map_append, List.filter_append]
 congr 1
 simp only [List.map_cons, List.map_nil, List.filter_cons, List.filter_nil]
theorem own_len (n k : Int) (i : Nat) : (ownUpto n k i).length ≤ i := by
 unfold ownUpto
 refine Nat.le_trans (List.length_filter_le _ _) ?_
 simp
def OwnPost (w : World) (l : List Int) (e : Ending) (w' : World) : Prop := ∃ A c, e = .returned (.slice A l.length c) ∧ w'.ownsRow w.heap.size 3 1 (.slice A l.length c) l.length (l.map (Value.int .i64)) ∧ Below w.heap.size w w'
def Kp3 (a b c : Nat) (W W' : World) : Prop := ∀ (v : Value) (q : Nat), (q = a ∨ q = b ∨ q = c) → W.cell? ⟨q, 0, none⟩ = some v → W'.cell? ⟨q, 0, none⟩ = some v
theorem Kp3.refl (a b c : Nat) (W : World) : Kp3 a b c W W := fun _ _ _ h => h
theorem Kp3.trans {a b c : Nat} {A B C : World} (h : Kp3 a b c A B) (k : Kp3 a b c B C) : Kp3 a b c A C := fun v q hq e => k v q hq (h v q hq e)
theorem Kp3.of_below {a b c n : Nat} {A B : World} (h : Below n A B) (ha : a < n) (hb : b < n) (hc : c < n) : Kp3 a b c A B := fun v q hq e => (h.cell (p := ⟨q, 0, none⟩) (by show q < n; omega)).trans e
def Two (A B : World → Prop) (e : Ending) (W' : World) : Prop := ∃ b : Bool, e = .returned (.bool b) ∧ Hid ((b = true ∧ A W') ∨ (b = false ∧ B W'))
theorem two_of {A B : World → Prop} {e : Ending} {W' : World} (h : (e = .returned (.bool true) ∧ A W') ∨ (e = .returned (.bool false) ∧ B W')) : Two A B e W' :=
 h.elim (fun ⟨h1, h2⟩ => ⟨true, h1, .inl ⟨rfl, h2⟩⟩) (fun ⟨h1, h2⟩ => ⟨false, h1, .inr ⟨rfl, h2⟩⟩)
theorem owned1_in (n : Nat) (hn : 1 ≤ n) (l bV bK bN : Nat) (V m k : Int) (J Jx : List Int → World → Prop)
  (hY : ∀ pre x W, J pre W → pre.length < 512 → YieldAt Fence.wide (n - 1) Try.prog l #[.int .i64 x] W fun e W' =>
   (e = .returned (.bool true) ∧ J (pre ++ [x]) W' ∧ Kp3 bV bK bN W W') ∨ (e = .returned (.bool false) ∧ Jx (pre ++ [x]) W'))
  (W : World) (cV : W.cell? ⟨bV, 0, none⟩ = some (.int .i64 V)) (cK : W.cell? ⟨bK, 0, none⟩ = some (.int .i64 k)) (cN : W.cell? ⟨bN, 0, none⟩ = some (.int .i64 m)) (h0 : J [] W)
  (hJd : ∀ pre W, J pre W → J pre W.drew) :
  CallsIn Fence.wide n Try.prog 46 #[.func (.yield l) #[] #[], .pointer (some ⟨bV, 0, none⟩), .pointer (some ⟨bK, 0, none⟩), .pointer (some ⟨bN, 0, none⟩)] W fun e W' => (∃ v, e = .returned v) ∧
   ((∃ ys, ys = ownedF V m k ∧ J ys W') ∨ (∃ pre, True ∧ Jx pre W')) := by
 obtain ⟨M, hM⟩ : ∃ M, (min V 512).toNat = M := ⟨_, rfl⟩
 have HF : Hid (ownedF V m k = ownUpto m k M) := hide (by rw [ownedF, hM])
 have hM1 : (M : Int) ≤ 512 := by omega
 refine callsIn_of_wp Try.func46 rfl trivial ?_ rfl
 simp only [Try.ntmps46, List.size_toArray, List.length_cons, List.length_nil, Nat.reduceAdd, Nat.reduceSub, Array.replicate_succ, Array.replicate_zero, List.push_toArray, List.append_toArray, List.nil_append, List.cons_append]
 rcases (show V < 0 ∨ V = 0 ∨ (0 < V ∧ V ≤ 512) ∨ 512 < V by omega) with hc | hc | ⟨hc, hd⟩ | hc
 ·obtain rfl : M = 0 := by omega
  have hd : V < 512 := by omega
  clear hM
  gi_wp2
  gi_loopw [9] (fun i wr => i = .int .i64 0 ∧ J [] wr) (fun i _ => 0)
  case atStart => exact ⟨rfl, h0⟩
  case round =>
   obtain ⟨rfl, hJs⟩ := hrel
   gi_wp2
   go_end0
   exact ⟨⟨_, rfl⟩, .inl (by first | (rw [HF.out]; exact hJs) | exact ⟨_, HF.out.symm, hJs⟩)⟩
 ·obtain rfl : M = 0 := by omega
  subst hc
  clear hM
  gi_wp2
  gi_loopw [9] (fun i wr => i = .int .i64 0 ∧ J [] wr) (fun i _ => 0)
  case atStart => exact ⟨rfl, h0⟩
  case round =>
   obtain ⟨rfl, hJs⟩ := hrel
   gi_wp2
   go_end0
   exact ⟨⟨_, rfl⟩, .inl (by first | (rw [HF.out]; exact hJs) | exact ⟨_, HF.out.symm, hJs⟩)⟩
 ·have hVM : V = (M : Int) := by omega
  subst hVM
  clear hM
  gi_wp2
  gi_loopw [9] (fun i wr => ∃ j : Nat, j ≤ M ∧ i = .int .i64 j ∧ J (ownUpto m k j) wr ∧ Hid (Kp3 bV bK bN W wr)) (fun i _ => M - (intOf i).toNat)
  case atStart => exact ⟨0, by omega, rfl, h0, hide (Kp3.refl _ _ _ _)⟩
  case round =>
   obtain ⟨j, hj, rfl, hJs, hbw⟩ := hrel
   have dV := hbw.out _ _ (.inl rfl) cV
   have dK := hbw.out _ _ (.inr (.inl rfl)) cK
   have dN := hbw.out _ _ (.inr (.inr rfl)) cN
   by_cases hlt : j < M
   ·have h1 : (j : Int) < (M : Int) := by omega
    have HS := hide (own_snoc m k j)
    have hll := own_len m k j
    by_cases hk : 0 ≤ k
    ·by_cases ho : ofF (j : Int) m = k
     ·have hsel : sel m k (j : Int) = true := by simp [sel, hk, ho]
      have HN : Hid (ownUpto m k (j + 1) = ownUpto m k j ++ [(j : Int)]) := hide (by rw [HS.out, if_pos hsel])
      have HO := hide ho
      obtain ⟨fn, tmps, assign, body, hy, hR⟩ := YieldAt.mono (hY (ownUpto m k j) (j : Int) wr.drew (hJd _ _ hJs) (by omega)) (fun _ _ h => two_of (A := fun W' => J (ownUpto m k j ++ [(j : Int)]) W' ∧ Kp3 bV bK bN wr.drew W') (B := fun W' => Jx (ownUpto m k j ++ [(j : Int)]) W') h)
      clear ho hsel hJs
      gi_wp2
      gi_region_with (first | (refine ⟨trivial, ?_⟩; refine (callsIn_wide.2 (of_any _ (j : Int) m)).mono ?_; rintro e y ⟨rfl, rfl⟩; rw [HO.out]) | (refine hR.mono ?_; rintro e W3 ⟨b, rfl, htw⟩))
      all_goals
       rcases htw.out with ⟨rfl, hJ3, hk3⟩ | ⟨rfl, hJx3⟩
       ·have hb3 := hide (Kp3.trans (fun v q hq h => hbw.out v q hq h) hk3)
        rw [← HN.out] at hJ3
        gi_wp2
        go_roundw
        case rel => exact ⟨j + 1, by omega, by go_num, hJ3, hb3⟩
        case measure => simp [intOf]; omega
       ·gi_wp2
        refine bodyPost_ret (results_none rfl _ _ _) rfl ?_
        exact ⟨⟨_, rfl⟩, .inr (by first | exact ⟨_, hJx3⟩ | exact ⟨_, trivial, hJx3⟩)⟩
     ·have HN : Hid (ownUpto m k (j + 1) = ownUpto m k j) := hide (by rw [HS.out, if_neg (by simp [sel, ho]), List.append_nil])
      obtain ⟨z, hz⟩ : ∃ z, ofF (j : Int) m = z := ⟨_, rfl⟩
      rw [hz] at ho
      have HZ := hide hz
      have hzk : (z == k) = false := by simp only [beq_eq_false_iff_ne, ne_eq]; exact ho
      have hJ3 : J (ownUpto m k (j + 1)) wr.drew := by rw [HN.out]; exact hJd _ _ hJs
      clear hz hJs
      gi_wp2
      refine wpIn_wide.2 ?_
      refine wp_region_held_drew (S := fun w' => Hid (w' = wr.drew)) (by kernel_rfl) (hide rfl) (fun hS0 => ?_)
      refine tk 0 12 ?_ ?_ ?_; rotate_left; (focus (intro w hSw; obtain rfl : w = wr.drew := hSw.out; go_simp; (try with_reducible rfl); done)); (try simp only [xd, xe, xf])
      refine tk 1 13 ?_ ?_ ?_; rotate_left; (focus (intro w hSw; obtain rfl : w = wr.drew := hSw.out; go_simp; (try with_reducible rfl); done)); (try simp only [xd, xe, xf])
      refine tk 2 14 ?_ ?_ ?_; rotate_left; (focus (intro w hSw; obtain rfl : w = wr.drew := hSw.out; go_simp; (try with_reducible rfl); done)); (try simp only [xd, xe, xf])
      refine tk 3 15 ?_ ?_ ?_; rotate_left; (focus (intro w hSw; obtain rfl : w = wr.drew := hSw.out; go_simp; (try with_reducible rfl); done)); (try simp only [xd, xe, xf])
      refine tk 4 16 ?_ ?_ ?_; rotate_left; (focus (intro w hSw; obtain rfl : w = wr.drew := hSw.out; go_simp; (try with_reducible rfl); done)); (try simp only [xd, xe, xf])
      refine tk 6 18 ?_ ?_ ?_; rotate_left; (focus (intro w hSw; obtain rfl : w = wr.drew := hSw.out; go_simp; (try with_reducible rfl); done)); (try simp only [xd, xe, xf])
      refine call_at (i := 5) (d := 17) (by simp only [xa, xb, xc]; rfl) rfl (by kernel_rfl) rfl (fun K hK => ?_)
      go_simp
      refine (of_any _ (j : Int) m).mono ?_
      rintro e y ⟨rfl, rfl⟩
      rw [HZ.out]
      go_wp2_with fail
      refine hK.out _ _ (hide rfl) (fun hSn => ?_)
      clear hK K
      try simp only [xd, xe, xf]
      refine tk 7 19 ?_ ?_ ?_; rotate_left; (focus (intro w hSw; obtain rfl : w = wr.drew := hSw.out; go_simp; (try with_reducible rfl); done)); (try simp only [xd, xe, xf])
      refine tk 8 20 ?_ ?_ ?_; rotate_left; (focus (intro w hSw; obtain rfl : w = wr.drew := hSw.out; go_simp; (try with_reducible rfl); done)); (try simp only [xd, xe, xf])
      refine tk 9 21 ?_ ?_ ?_; rotate_left; (focus (intro w hSw; obtain rfl : w = wr.drew := hSw.out; go_simp; (try with_reducible rfl); done)); (try simp only [xd, xe, xf])
      refine sk 10 22 ?_; (try simp only [xd, xe, xf])
      refine sk 11 23 ?_; (try simp only [xd, xe, xf])
      refine sk 12 24 ?_; (try simp only [xd, xe, xf])
      refine sk 13 25 ?_; (try simp only [xd, xe, xf])
      refine tk 14 26 ?_ ?_ ?_; rotate_left; (focus (intro w hSw; obtain rfl : w = wr.drew := hSw.out; go_simp; (try with_reducible rfl); done)); (try simp only [xd, xe, xf])
      refine wpAnyH_done (by kernel_rfl) ?_ _
      all_goals
       gi_wp2
       go_roundw
       case rel => exact ⟨j + 1, by omega, by go_num, hJ3, hide (fun v q hq h => hbw.out v q hq h)⟩
       case measure => simp [intOf]; omega
    ·have HN : Hid (ownUpto m k (j + 1) = ownUpto m k j) := hide (by rw [HS.out, if_neg (by simp [sel, hk]), List.append_nil])
     have hk' : k < 0 := by omega
     have hdk : decide (0 ≤ k) = false := decide_eq_false (by omega)
     have hJ3 : J (ownUpto m k (j + 1)) wr.drew := by rw [HN.out]; exact hJd _ _ hJs
     clear hJs
     gi_wp2
     refine wpIn_wide.2 ?_
     refine wp_region_held_drew (S := fun w' => Hid (w' = wr.drew)) (by kernel_rfl) (hide rfl) (fun hS0 => ?_)
     refine tk 0 12 ?_ ?_ ?_; rotate_left; (focus (intro w hSw; obtain rfl : w = wr.drew := hSw.out; go_simp; (try with_reducible rfl); done)); (try simp only [xd, xe, xf])
     refine tk 1 13 ?_ ?_ ?_; rotate_left; (focus (intro w hSw; obtain rfl : w = wr.drew := hSw.out; go_simp; (try with_reducible rfl); done)); (try simp only [xd, xe, xf])
     refine tk 2 14 ?_ ?_ ?_; rotate_left; (focus (intro w hSw; obtain rfl : w = wr.drew := hSw.out; go_simp; (try with_reducible rfl); done)); (try simp only [xd, xe, xf])
     refine sk 3 15 ?_; (try simp only [xd, xe, xf])
     refine sk 4 16 ?_; (try simp only [xd, xe, xf])
     refine sk 5 17 ?_; (try simp only [xd, xe, xf])
     refine sk 6 18 ?_; (try simp only [xd, xe, xf])
     refine sk 7 19 ?_; (try simp only [xd, xe, xf])
     refine tk 8 20 ?_ ?_ ?_; rotate_left; (focus (intro w hSw; obtain rfl : w = wr.drew := hSw.out; go_simp; (try with_reducible rfl); done)); (try simp only [xd, xe, xf])
     refine tk 9 21 ?_ ?_ ?_; rotate_left; (focus (intro w hSw; obtain rfl : w = wr.drew := hSw.out; go_simp; (try with_reducible rfl); done)); (try simp only [xd, xe, xf])
     refine sk 10 22 ?_; (try simp only [xd, xe, xf])
     refine sk 11 23 ?_; (try simp only [xd, xe, xf])
     refine sk 12 24 ?_; (try simp only [xd, xe, xf])
     refine sk 13 25 ?_; (try simp only [xd, xe, xf])
     refine tk 14 26 ?_ ?_ ?_; rotate_left; (focus (intro w hSw; obtain rfl : w = wr.drew := hSw.out; go_simp; (try with_reducible rfl); done)); (try simp only [xd, xe, xf])
     refine wpAnyH_done (by kernel_rfl) ?_ _
     all_goals
      gi_wp2
      go_roundw
      case rel => exact ⟨j + 1, by omega, by go_num, hJ3, hide (fun v q hq h => hbw.out v q hq h)⟩
      case measure => simp [intOf]; omega
   ·have h1 : ¬ (j : Int) < (M : Int) := by omega
    obtain rfl : j = M := by omega
    gi_wp2
    go_end0
    exact ⟨⟨_, rfl⟩, .inl (by first | (rw [HF.out]; exact hJs) | exact ⟨_, HF.out.symm, hJs⟩)⟩
 ·obtain rfl : M = 512 := by omega
  clear hM
  gi_wp2
  gi_loopw [9] (fun i wr => ∃ j : Nat, j ≤ 512 ∧ i = .int .i64 j ∧ J (ownUpto m k j) wr ∧ Hid (Kp3 bV bK bN W wr)) (fun i _ => 512 - (intOf i).toNat)
  case atStart => exact ⟨0, by omega, rfl, h0, hide (Kp3.refl _ _ _ _)⟩
  case round =>
   obtain ⟨j, hj, rfl, hJs, hbw⟩ := hrel
   have dV := hbw.out _ _ (.inl rfl) cV
   have dK := hbw.out _ _ (.inr (.inl rfl)) cK
   have dN := hbw.out _ _ (.inr (.inr rfl)) cN
   by_cases hlt : j < 512
   ·have h1 : (j : Int) < 512 := by omega
    have HS := hide (own_snoc m k j)
    have hll := own_len m k j
    by_cases hk : 0 ≤ k
    ·by_cases ho : ofF (j : Int) m = k
     ·have hsel : sel m k (j : Int) = true := by simp [sel, hk, ho]
      have HN : Hid (ownUpto m k (j + 1) = ownUpto m k j ++ [(j : Int)]) := hide (by rw [HS.out, if_pos hsel])
      have HO := hide ho
      obtain ⟨fn, tmps, assign, body, hy, hR⟩ := YieldAt.mono (hY (ownUpto m k j) (j : Int) wr.drew (hJd _ _ hJs) (by omega)) (fun _ _ h => two_of (A := fun W' => J (ownUpto m k j ++ [(j : Int)]) W' ∧ Kp3 bV bK bN wr.drew W') (B := fun W' => Jx (ownUpto m k j ++ [(j : Int)]) W') h)
      clear ho hsel hJs
      gi_wp2
      gi_region_with (first | (refine ⟨trivial, ?_⟩; refine (callsIn_wide.2 (of_any _ (j : Int) m)).mono ?_; rintro e y ⟨rfl, rfl⟩; rw [HO.out]) | (refine hR.mono ?_; rintro e W3 ⟨b, rfl, htw⟩))
      all_goals
       rcases htw.out with ⟨rfl, hJ3, hk3⟩ | ⟨rfl, hJx3⟩
       ·have hb3 := hide (Kp3.trans (fun v q hq h => hbw.out v q hq h) hk3)
        rw [← HN.out] at hJ3
        gi_wp2
        go_roundw
        case rel => exact ⟨j + 1, by omega, by go_num, hJ3, hb3⟩
        case measure => simp [intOf]; omega
       ·gi_wp2
        refine bodyPost_ret (results_none rfl _ _ _) rfl ?_
        exact ⟨⟨_, rfl⟩, .inr (by first | exact ⟨_, hJx3⟩ | exact ⟨_, trivial, hJx3⟩)⟩
     ·have HN : Hid (ownUpto m k (j + 1) = ownUpto m k j) := hide (by rw [HS.out, if_neg (by simp [sel, ho]), List.append_nil])
      obtain ⟨z, hz⟩ : ∃ z, ofF (j : Int) m = z := ⟨_, rfl⟩
      rw [hz] at ho
      have HZ := hide hz
      have hzk : (z == k) = false := by simp only [beq_eq_false_iff_ne, ne_eq]; exact ho
      have hJ3 : J (ownUpto m k (j + 1)) wr.drew := by rw [HN.out]; exact hJd _ _ hJs
      clear hz hJs
      gi_wp2
      refine wpIn_wide.2 ?_
      refine wp_region_held_drew (S := fun w' => Hid (w' = wr.drew)) (by kernel_rfl) (hide rfl) (fun hS0 => ?_)
      refine tk 0 12 ?_ ?_ ?_; rotate_left; (focus (intro w hSw; obtain rfl : w = wr.drew := hSw.out; go_simp; (try with_reducible rfl); done)); (try simp only [xd, xe, xf])
      refine tk 1 13 ?_ ?_ ?_; rotate_left; (focus (intro w hSw; obtain rfl : w = wr.drew := hSw.out; go_simp; (try with_reducible rfl); done)); (try simp only [xd, xe, xf])
      refine tk 2 14 ?_ ?_ ?_; rotate_left; (focus (intro w hSw; obtain rfl : w = wr.drew := hSw.out; go_simp; (try with_reducible rfl); done)); (try simp only [xd, xe, xf])
      refine tk 3 15 ?_ ?_ ?_; rotate_left; (focus (intro w hSw; obtain rfl : w = wr.drew := hSw.out; go_simp; (try with_reducible rfl); done)); (try simp only [xd, xe, xf])
      refine tk 4 16 ?_ ?_ ?_; rotate_left; (focus (intro w hSw; obtain rfl : w = wr.drew := hSw.out; go_simp; (try with_reducible rfl); done)); (try simp only [xd, xe, xf])
      refine tk 6 18 ?_ ?_ ?_; rotate_left; (focus (intro w hSw; obtain rfl : w = wr.drew := hSw.out; go_simp; (try with_reducible rfl); done)); (try simp only [xd, xe, xf])
      refine call_at (i := 5) (d := 17) (by simp only [xa, xb, xc]; rfl) rfl (by kernel_rfl) rfl (fun K hK => ?_)
      go_simp
      refine (of_any _ (j : Int) m).mono ?_
      rintro e y ⟨rfl, rfl⟩
      rw [HZ.out]
      go_wp2_with fail
      refine hK.out _ _ (hide rfl) (fun hSn => ?_)
      clear hK K
      try simp only [xd, xe, xf]
      refine tk 7 19 ?_ ?_ ?_; rotate_left; (focus (intro w hSw; obtain rfl : w = wr.drew := hSw.out; go_simp; (try with_reducible rfl); done)); (try simp only [xd, xe, xf])
      refine tk 8 20 ?_ ?_ ?_; rotate_left; (focus (intro w hSw; obtain rfl : w = wr.drew := hSw.out; go_simp; (try with_reducible rfl); done)); (try simp only [xd, xe, xf])
      refine tk 9 21 ?_ ?_ ?_; rotate_left; (focus (intro w hSw; obtain rfl : w = wr.drew := hSw.out; go_simp; (try with_reducible rfl); done)); (try simp only [xd, xe, xf])
      refine sk 10 22 ?_; (try simp only [xd, xe, xf])
      refine sk 11 23 ?_; (try simp only [xd, xe, xf])
      refine sk 12 24 ?_; (try simp only [xd, xe, xf])
      refine sk 13 25 ?_; (try simp only [xd, xe, xf])
      refine tk 14 26 ?_ ?_ ?_; rotate_left; (focus (intro w hSw; obtain rfl : w = wr.drew := hSw.out; go_simp; (try with_reducible rfl); done)); (try simp only [xd, xe, xf])
      refine wpAnyH_done (by kernel_rfl) ?_ _
      all_goals
       gi_wp2
       go_roundw
       case rel => exact ⟨j + 1, by omega, by go_num, hJ3, hide (fun v q hq h => hbw.out v q hq h)⟩
       case measure => simp [intOf]; omega
    ·have HN : Hid (ownUpto m k (j + 1) = ownUpto m k j) := hide (by rw [HS.out, if_neg (by simp [sel, hk]), List.append_nil])
     have hk' : k < 0 := by omega
     have hdk : decide (0 ≤ k) = false := decide_eq_false (by omega)
     have hJ3 : J (ownUpto m k (j + 1)) wr.drew := by rw [HN.out]; exact hJd _ _ hJs
     clear hJs
     gi_wp2
     refine wpIn_wide.2 ?_
     refine wp_region_held_drew (S := fun w' => Hid (w' = wr.drew)) (by kernel_rfl) (hide rfl) (fun hS0 => ?_)
     refine tk 0 12 ?_ ?_ ?_; rotate_left; (focus (intro w hSw; obtain rfl : w = wr.drew := hSw.out; go_simp; (try with_reducible rfl); done)); (try simp only [xd, xe, xf])
     refine tk 1 13 ?_ ?_ ?_; rotate_left; (focus (intro w hSw; obtain rfl : w = wr.drew := hSw.out; go_simp; (try with_reducible rfl); done)); (try simp only [xd, xe, xf])
     refine tk 2 14 ?_ ?_ ?_; rotate_left; (focus (intro w hSw; obtain rfl : w = wr.drew := hSw.out; go_simp; (try with_reducible rfl); done)); (try simp only [xd, xe, xf])
     refine sk 3 15 ?_; (try simp only [xd, xe, xf])
     refine sk 4 16 ?_; (try simp only [xd, xe, xf])
     refine sk 5 17 ?_; (try simp only [xd, xe, xf])
     refine sk 6 18 ?_; (try simp only [xd, xe, xf])
     refine sk 7 19 ?_; (try simp only [xd, xe, xf])
     refine tk 8 20 ?_ ?_ ?_; rotate_left; (focus (intro w hSw; obtain rfl : w = wr.drew := hSw.out; go_simp; (try with_reducible rfl); done)); (try simp only [xd, xe, xf])
     refine tk 9 21 ?_ ?_ ?_; rotate_left; (focus (intro w hSw; obtain rfl : w = wr.drew := hSw.out; go_simp; (try with_reducible rfl); done)); (try simp only [xd, xe, xf])
     refine sk 10 22 ?_; (try simp only [xd, xe, xf])
     refine sk 11 23 ?_; (try simp only [xd, xe, xf])
     refine sk 12 24 ?_; (try simp only [xd, xe, xf])
     refine sk 13 25 ?_; (try simp only [xd, xe, xf])
     refine tk 14 26 ?_ ?_ ?_; rotate_left; (focus (intro w hSw; obtain rfl : w = wr.drew := hSw.out; go_simp; (try with_reducible rfl); done)); (try simp only [xd, xe, xf])
     refine wpAnyH_done (by kernel_rfl) ?_ _
     all_goals
      gi_wp2
      go_roundw
      case rel => exact ⟨j + 1, by omega, by go_num, hJ3, hide (fun v q hq h => hbw.out v q hq h)⟩
      case measure => simp [intOf]; omega
   ·have h1 : ¬ (j : Int) < 512 := by omega
    obtain rfl : j = 512 := by omega
    gi_wp2
    go_end0
    exact ⟨⟨_, rfl⟩, .inl (by first | (rw [HF.out]; exact hJs) | exact ⟨_, HF.out.symm, hJs⟩)⟩
end Go.Proofs.Ytihdpfjonkagaaa
namespace Go.Proofs.Ytihdpfjonkagaaa
open Go.RowKit Go.Shelf
attribute [local go_sem] Oper.semAt_some
theorem rowned_any (w : World) (V n k : Int) : Calls Try.prog 12 #[.int .i64 V, .int .i64 n, .int .i64 k] w (OwnPost w (ownedF V n k)) := by
 obtain ⟨i0, hi0, hz0, hz1, hz2⟩ := info_parts (show (Try.prog.info? 3).map (fun i => (i.zero, i.size, i.bytes)) = some (some (.int .i64 0), 1, 8) by kernel_rfl)
 obtain ⟨M, hM⟩ : ∃ M, (min V 512).toNat = M := ⟨_, rfl⟩
 have HF : Hid (ownedF V n k = ownUpto n k M) := hide (by rw [ownedF, hM])
 have hM1 : (M : Int) ≤ 512 := by omega
 have HM := hide hM
 go_enter Try.func12, Try.ntmps12
 go_wp2
 go_loopw [7, 8] (fun v7 v8 wr => ∃ (i : Nat) (l : List Int) (A : Option Addr) (c : Nat), i ≤ M ∧ v8 = .int .i64 i ∧ v7 = .slice A l.length c ∧ Hid (ownUpto n k i = l) ∧ l.length ≤ i ∧ Hid (wr.ownsRow w.heap.size 3 1 (.slice A l.length c) l.length (l.map (Value.int .i64))) ∧ Hid (Below w.heap.size w wr)) (fun _ v8 _ => M - (intOf v8).toNat)
 case atStart => exact ⟨0, [], none, 0, by omega, rfl, rfl, hide rfl, by simp, hide (World.ownsRow_nil _ _ _ _), hide (Below.refl _ _)⟩
 case round =>
  obtain ⟨i, l, A, c, hi, rfl, rfl, hl, hll, hown, hbw⟩ := hrel
  obtain ⟨m, hm⟩ : ∃ m, l.length = m := ⟨_, rfl⟩
  rw [hm] at hll hown ⊢
  have HLm := hide hm
  clear hm
  by_cases hlt : i < M
  ·have h1 : (i : Int) < V := by have := HM.out; omega
   have h2 : (i : Int) < 512 := by omega
   have HS := hide (own_snoc n k i)
   have hs := hbw.out.size
   by_cases hk : 0 ≤ k
   ·by_cases ho : ofF (i : Int) n = k
    ·have hsel : sel n k (i : Int) = true := by simp [sel, hk, ho]
     have HN : Hid (ownUpto n k (i + 1) = l ++ [(i : Int)]) := hide (by rw [HS.out, hl.out, if_pos hsel])
     have HA : Hid (l.map (Value.int .i64) ++ [.int .i64 (i : Int)] = (l ++ [(i : Int)]).map (Value.int .i64)) := hide (by simp)
     have HO := hide ho
     clear ho hsel
     go_wp2_with fail
     refine (rof_any _ (i : Int) n).mono ?_
     rintro e y ⟨rfl, rfl⟩
     rw [HO.out]
     go_wp2_with (at_builtin; refine wpList_app rfl (.tmp 27) (.tmp 29) 24 rfl w.heap.size 3 i0 (.int .i64 0) 1 8 Try.underlying24 hi0 hz0 hz1 hz2 rfl (by decide) (.slice A m c) m _ rfl (hown.out.alloc _) (y.heap.size + 1) (some ⟨y.heap.size, 0, none⟩) 1 1 [.int .i64 (i : Int)] rfl rfl (Rd.new _ _ _ _) (by simp [Value.oneCell']) (by unfold maxLen; omega) (by omega) (by simp; omega) ?_; intro A2 c2 w1 hown1 hg1 hat1)
     rw [HA.out] at hown1
     have hb1 := hide (app_below (hbw.out.alloc hs _) (hown.out.alloc _) hg1 (by simp; omega) (Nat.le_refl _))
     have HOwn := hide hown1
     have hlen : (l ++ [(i : Int)]).length = m + 1 := by rw [List.length_append, HLm.out]; rfl
     clear hown hg1 hat1 hown1
     go_wp2
     go_roundw
     case rel => exact ⟨i + 1, l ++ [(i : Int)], A2, c2, by omega, by go_num, by rw [hlen], HN, by omega, by rw [hlen]; exact HOwn, hb1⟩
     case measure => simp [intOf]; omega
    ·have HN : Hid (ownUpto n k (i + 1) = l) := hide (by rw [HS.out, hl.out, if_neg (by simp [sel, ho]), List.append_nil])
     obtain ⟨z, hz⟩ : ∃ z, ofF (i : Int) n = z := ⟨_, rfl⟩
     rw [hz] at ho
     have HZ := hide hz
     clear hz
     go_wp2_with fail
     refine (rof_any _ (i : Int) n).mono ?_
     rintro e y ⟨rfl, rfl⟩
     rw [HZ.out]
     go_wp2
     go_roundw
     case rel => exact ⟨i + 1, l, A, c, by omega, by go_num, by rw [HLm.out], HN, by have := HLm.out; omega, by rw [HLm.out]; exact hown, hbw⟩
     case measure => simp [intOf]; omega
   ·have HN : Hid (ownUpto n k (i + 1) = l) := hide (by rw [HS.out, hl.out, if_neg (by simp [sel, hk]), List.append_nil])
    have hk' : k < 0 := by omega
    go_wp2
    go_roundw
    case rel => exact ⟨i + 1, l, A, c, by omega, by go_num, by rw [HLm.out], HN, by have := HLm.out; omega, by rw [HLm.out]; exact hown, hbw⟩
    case measure => simp [intOf]; omega
  ·obtain rfl : i = M := by omega
   have HFin : Hid (OwnPost w (ownedF V n k) (.returned (.slice A m c)) wr) := hide (by
    rw [HF.out, hl.out]
    exact ⟨A, c, by rw [HLm.out], by rw [HLm.out]; exact hown.out, hbw.out⟩)
   by_cases h1 : (i : Int) < V
   ·have h2 : ¬ (i : Int) < 512 := by have := HM.out; omega
    go_wp2
    go_ret
    exact HFin.out
   ·go_wp2
    go_ret
    exact HFin.out
end Go.Proofs.Ytihdpfjonkagaaa
namespace Go.Proofs.Ytihdpfjonkagaaa
open Go.RowKit Go.Shelf
attribute [local go_sem] Oper.semAt_some
theorem ownedSeq_any (w : World) (V m k : Int) : Calls Try.prog 30 #[.int .i64 V, .int .i64 m, .int .i64 k] w fun e w' => e = .returned (.func (.func 46) #[] #[.pointer (some ⟨w.heap.size, 0, none⟩), .pointer (some ⟨w.heap.size + 2, 0, none⟩), .pointer (some ⟨w.heap.size + 1, 0, none⟩)]) ∧ w' = ((w.alloc (.cells #[.int .i64 V] 3)).alloc (.cells #[.int .i64 m] 3)).alloc (.cells #[.int .i64 k] 3) := by
 go_enter Try.func30, Try.ntmps30
 go_wp2
 go_ret
 exact ⟨rfl, rfl⟩
theorem grown_drew' (w : World) (row : Option Nat) : w.grownBy w.drew row := ⟨rfl, rfl, rfl, Nat.le_refl _, fun _ _ _ => rfl⟩
theorem owned_stops (n : Nat) (hn : 1 ≤ n) (bV bK bN : Nat) (V m k : Int) (w : World) (hV : bV < w.heap.size) (hK : bK < w.heap.size) (hN : bN < w.heap.size)
  (cV : w.cell? ⟨bV, 0, none⟩ = some (.int .i64 V)) (cK : w.cell? ⟨bK, 0, none⟩ = some (.int .i64 k)) (cN : w.cell? ⟨bN, 0, none⟩ = some (.int .i64 m)) :
  SeqStopsK Fence.wide n Try.prog 46 #[.pointer (some ⟨bV, 0, none⟩), .pointer (some ⟨bK, 0, none⟩), .pointer (some ⟨bN, 0, none⟩)] (fun x : Int => #[Value.int .i64 x]) (Kp3 bV bK bN) (fun ys => ys = ownedF V m k) (fun pre => True) 512 w := fun l J Jx W hW hJ _ hY h0 =>
 owned1_in n hn l bV bK bN V m k J Jx hY W ((hW.cell (p := ⟨bV, 0, none⟩) hV).trans cV) ((hW.cell (p := ⟨bK, 0, none⟩) hK).trans cK) ((hW.cell (p := ⟨bN, 0, none⟩) hN).trans cN) h0
  (fun pre W h => hJ pre W _ none h (grown_drew' W none) (fun r e => by cases e))
theorem owned_in (n : Nat) (hn : 3 ≤ n) (V m k : Int) (w : World) : CallsIn Fence.wide n Try.prog 11 #[.int .i64 V, .int .i64 m, .int .i64 k] w (OwnPost w (ownedF V m k)) := by
 have h1 : 1 ≤ n := by omega
 obtain ⟨i0, hi, hz0, hz1, hz2⟩ := info_parts (show (Try.prog.info? 3).map (fun i => (i.zero, i.size, i.bytes)) = some (some (.int .i64 0), 1, 8) by kernel_rfl)
 refine callsIn_of_wp_marks Try.func11 rfl trivial ?_ rfl
 simp only [Try.ntmps11, List.size_toArray, List.length_cons, List.length_nil, Nat.reduceAdd, Nat.reduceSub, Array.replicate_succ, Array.replicate_zero, List.push_toArray, List.append_toArray, List.nil_append, List.cons_append]
 gi_wp2_with fail
 refine ⟨trivial, ?_⟩
 refine (callsIn_wide.2 (ownedSeq_any _ V m k)).mono ?_
 rintro e w' ⟨rfl, rfl⟩
 gi_wp2
 obtain ⟨w0, hw0⟩ : ∃ w0, w0 = w.alloc (.cells #[.slice none 0 0] 24) := ⟨_, rfl⟩
 have hs0 : w0.heap.size = w.heap.size + 1 := by rw [hw0]; simp
 obtain ⟨W4, hW4⟩ : ∃ W4, W4 = (((w.alloc (.cells #[.slice none 0 0] 24)).alloc (.cells #[.int .i64 V] 3)).alloc (.cells #[.int .i64 m] 3)).alloc (.cells #[.int .i64 k] 3) := ⟨_, rfl⟩
 have bO0 := Boxed.new w 24 (.slice none 0 0)
 have bO : Boxed W4 w.heap.size 24 (.slice none 0 0) := by rw [hW4]; exact ((bO0.alloc _).alloc _).alloc _
 have cV : W4.cell? ⟨w.heap.size + 1, 0, none⟩ = some (.int .i64 V) := by rw [hW4]; simp [go_sem]
 have cN : W4.cell? ⟨w.heap.size + 2, 0, none⟩ = some (.int .i64 m) := by rw [hW4]; simp [go_sem]
 have cK : W4.cell? ⟨w.heap.size + 3, 0, none⟩ = some (.int .i64 k) := by rw [hW4]; simp [go_sem]
 have hsz : W4.heap.size = w.heap.size + 4 := by rw [hW4]; simp
 have hB : Below w.heap.size w W4 := by rw [hW4]; exact ((((Below.refl _ w).alloc (Nat.le_refl _) _).alloc (by simp) _).alloc (by simp; omega) _).alloc (by simp; omega) _
 rw [← hW4]
 refine wpIn_rangeFunc_ownG rfl h1 (gf := 46) (lb := #[.pointer (some ⟨w.heap.size + 1, 0, none⟩), .pointer (some ⟨w.heap.size + 1 + 2, 0, none⟩), .pointer (some ⟨w.heap.size + 1 + 1, 0, none⟩)]) rfl trivial (enters_of Try.func46 (by kernel_rfl) rfl)
  (owned_stops (n - 1) (by omega) (w.heap.size + 1) (w.heap.size + 1 + 2) (w.heap.size + 1 + 1) V m k W4 (by omega) (by omega) (by omega) cV cK cN) Kp3.trans (fun W l o o' h1 h2 h3 h4 => Kp3.of_below (belowK_b (Nat.le_refl _) W l o o' h1 h2 h3 h4) (by omega) (by omega) (by omega)) (Below.refl _ _) (fun _ => rfl)
  (fun pre W => (∃ v, Boxed W w.heap.size 24 v ∧ W.ownsRow W4.heap.size 3 1 v pre.length (pre.map (Value.int .i64)) ∧ True) ∧ (W4.heap.size ≤ W.heap.size ∧ Below w.heap.size w W))
  (fun _ _ _ => False)
  (OwnFrom.and (Own.from (holdsRow_own W4.heap.size w.heap.size 24 3 1 (fun pre : List Int => pre.length) (fun pre => pre.map (Value.int .i64)) (fun pre v => True)) _) (OwnFrom.and (Own.from (fun s A B row hs hg hr => Nat.le_trans hs hg.size) _) (ownFrom_below (by omega) (by omega))))
  (fun _ _ _ _ _ hs _ _ => hs)
  ⟨⟨_, bO, World.ownsRow_nil _ _ _ _, trivial⟩, Nat.le_refl _, hB⟩
  (fun x => { tmps := #[.int .i64 V, .int .i64 m, .int .i64 k, undef, undef, undef, .slice none 0 0, .pointer (some ⟨w.heap.size, 0, none⟩), .int .i64 x, .int .i64 V, .int .i64 m, .int .i64 k, .func (.func 46) #[] #[.pointer (some ⟨w.heap.size + 1, 0, none⟩), .pointer (some ⟨w.heap.size + 1 + 2, 0, none⟩), .pointer (some ⟨w.heap.size + 1 + 1, 0, none⟩)], .int .i64 x, undef, undef, undef, undef, undef], defers := [] }) ?assign ?body ?done ?stop
 case assign =>
  intro l x W K hK
  gi_wp2
  exact hK
 case body =>
  rintro l pre x W ⟨⟨v, hv, hrow, _⟩, hW4s, hB⟩ hlt
  have hc := hv.cell
  gi_wp2_with (gi_at_builtin; refine wpListIn_append_own _ rfl _ _ 24 rfl W4.heap.size 3 i0 (.int .i64 0) 1 8 Try.underlying24 hi hz0 hz1 hz2 rfl (by decide) _ _ _ rfl (hrow.alloc _) ⟨W.heap.size, 0, none⟩ 1 1 [.int .i64 x] rfl rfl (cell_one_new _ _ _) (by simp [Value.oneCell']) (by unfold maxLen; omega) (by omega) (by simp; omega) ?_; intro v' w1 hown' hgrow _; obtain ⟨g', cap', rfl⟩ := ownsRow_succ hown'; obtain ⟨hv1, hv2, hr2, hk2, hb2⟩ := hv.appended (by decide) (own_base hrow (by omega)) hB.size (Nat.le_refl _) (own_base hown' (by omega)) hgrow; have hc1 := hv1.cell; have hf1 := hv1.frozen)
  have hgr : (W.alloc (.cells #[.int .i64 x] 3)).grownBy w1 v.ownBlock := hgrow
  have hkp : Kp3 (w.heap.size + 1) (w.heap.size + 1 + 2) (w.heap.size + 1 + 1) W (w1.setCell ⟨w.heap.size, 0, none⟩ (.slice (some ⟨g', 0, none⟩) (pre.length + 1) cap')) := fun u q hq hu => by
   have hqs : q < W4.heap.size ∧ q ≠ w.heap.size := by omega
   rw [World.cell?_setCell_far _ _ _ _ (by show w.heap.size ≠ q; omega)]
   refine (World.cell?_of_block (hgr.block q (by simp; omega) (fun e => by have := (hrow.lt q e.symm).1; omega))).trans ?_
   exact (World.cell?_alloc_lt W _ ⟨q, 0, none⟩ (by show q < _; omega)).trans hu
  have hr4 : (w1.setCell ⟨w.heap.size, 0, none⟩ (.slice (some ⟨g', 0, none⟩) (pre.length + 1) cap')).ownsRow W4.heap.size 3 1 (.slice (some ⟨g', 0, none⟩) (pre.length + 1) cap') (pre.length + 1) (pre.map (Value.int .i64) ++ [.int .i64 x]) :=
   hown'.kept (grownBy_setCell' w1 w.heap.size _) (.inr (hv1.not_row (by decide) hown').symm)
  exact ⟨hk2.from _, hkp, ⟨_, hv2, by simpa using hr4, trivial⟩, Nat.le_trans hW4s hb2.size, hB.trans hb2⟩
 case done =>
  rintro D ys W hD rfl ⟨⟨v, hv, hrow, _⟩, hW4s, hB⟩ hK
  have hc := hv.cell
  gi_wp2
  refine ⟨by simp, .inl ⟨_, _, rfl, run_takeDeferred hK, ?_⟩⟩
  obtain ⟨A, c, rfl⟩ := own_form hrow
  exact ⟨_, results_tmp rfl _ _ _, A, c, rfl, own_base (ownsRow_putObj hrow _ hK rfl) (by omega), hB.trans (belowK_b (w := w) (Nat.le_refl _) W D _ _ (by omega) hK rfl rfl)⟩
 case stop =>
  rintro D c pre W _ _ h _
  exact h.elim
theorem owned_any (w : World) (V m k : Int) : Calls Try.prog 11 #[.int .i64 V, .int .i64 m, .int .i64 k] w (OwnPost w (ownedF V m k)) :=
 (callsIn_wide (n := 3)).1 (owned_in 3 (by decide) V m k w)
end Go.Proofs.Ytihdpfjonkagaaa
namespace Go.Proofs.Ytihdpfjonkagaaa
open Go.RowKit
theorem sameInts_self {w : World} {A B : Option Addr} {xs : List Int} {n c d : Nat} (hx : xs.length = n) (hn : n ≤ 9223372036854775807) (rx : Rd w w.heap.size A (xs.map (Value.int .i64))) (ry : Rd w w.heap.size B (xs.map (Value.int .i64))) :
  Calls Try.prog 10 #[.slice A n c, .slice B n d] w fun e w' => e = .returned (.bool true) ∧ Below w.heap.size w w' :=
 (sameInts_any w A B xs xs n n c d hx hx hn rx ry).mono fun e w' h => ⟨by rw [h.1, eqL_self], h.2⟩
theorem works_any (w : World) : Calls Try.prog 13 #[] w fun e w' => e = .returned (.bool true) ∧ Below w.heap.size w w' := by
 have HO : Hid (ownedF 6 2 0 = [0, 2, 4, 5]) := hide (by decide)
 go_enter Try.func13, Try.ntmps13
 go_wp2_with fail
 refine (of_any _ 0 4).mono ?_
 rintro e y1 ⟨rfl, rfl⟩
 rw [show ofF 0 4 = 0 by decide]
 go_wp2_with fail
 refine (of_any _ 1 4).mono ?_
 rintro e y1 ⟨rfl, rfl⟩
 rw [show ofF 1 4 = 2 by decide]
 go_wp2_with fail
 refine (of_any _ 2 4).mono ?_
 rintro e y1 ⟨rfl, rfl⟩
 rw [show ofF 2 4 = 0 by decide]
 go_wp2_with fail
 refine (of_any _ 3 4).mono ?_
 rintro e y1 ⟨rfl, rfl⟩
 rw [show ofF 3 4 = 3 by decide]
 go_wp2_with fail
 refine (owned_any _ 6 2 0).mono ?_
 rintro e y2 ⟨A, c, rfl, hown, hb⟩
 rw [HO.out] at hown ⊢
 have HOw := hide hown
 have HB := hide hb
 clear hown hb
 obtain ⟨u, hu⟩ : ∃ u, y2.alloc (.cells #[.int .i64 0, .int .i64 2, .int .i64 4, .int .i64 5] 3) = u := ⟨_, rfl⟩
 have hbu : Below y2.heap.size y2 u := by rw [← hu]; exact (Below.refl _ _).alloc (Nat.le_refl _) _
 have R1 : Hid (Rd u u.heap.size A ([0, 2, 4, 5].map (Value.int .i64))) := hide (((Rd.of_own HOw.out).below hbu).more hbu.size)
 have R2 : Hid (Rd u u.heap.size (some ⟨y2.heap.size, 0, none⟩) ([0, 2, 4, 5].map (Value.int .i64))) := hide (by
  rw [← hu]
  exact (Rd.new y2 #[.int .i64 0, .int .i64 2, .int .i64 4, .int .i64 5] 3 (0, 0)).more (by simp))
 have HBU := hide (HB.out.trans (hbu.mono HB.out.size))
 have HU := hide hu
 clear hbu hu
 go_wp2_with fail
 rw [HU.out]
 refine (sameInts_self (xs := [0, 2, 4, 5]) rfl (by decide) R1.out R2.out).mono ?_
 rintro e y3 ⟨rfl, k3⟩
 have K3 := hide (HBU.out.trans (k3.mono HBU.out.size))
 clear k3
 go_wp2_with fail
 refine (of_any _ 1 0).mono ?_
 rintro e y4 ⟨rfl, rfl⟩
 rw [show ofF 1 0 = -1 by decide]
 go_wp2_with fail
 refine (of_any _ 512 2).mono ?_
 rintro e y4 ⟨rfl, rfl⟩
 rw [show ofF 512 2 = -1 by decide]
 obtain ⟨v, hv⟩ : ∃ v, y4.alloc (.cells #[.int .i64 3, .int .i64 5] 3) = v := ⟨_, rfl⟩
 have hbv : Below y4.heap.size y4 v := by rw [← hv]; exact (Below.refl _ _).alloc (Nat.le_refl _) _
 have R3 : Hid (Rd v v.heap.size (some ⟨y4.heap.size, 0, none⟩) ([3, 5].map (Value.int .i64))) := hide (by
  rw [← hv]
  exact (Rd.new y4 #[.int .i64 3, .int .i64 5] 3 (0, 0)).more (by simp))
 have K4 := hide (K3.out.trans (hbv.mono K3.out.size))
 have HV := hide hv
 clear hbv hv
 go_wp2_with fail
 rw [HV.out]
 refine (place_any _ 0 0 0 _ _ _ [3, 5] 2 2 0 0 0 0 5 rfl (by decide) R3.out).mono ?_
 rintro e y5 ⟨rfl, k5⟩
 rw [show idxF [3, 5] 5 = 1 by decide]
 have K5 := hide (K4.out.trans (k5.mono K4.out.size))
 clear k5
 go_wp2
 go_ret
 exact ⟨rfl, K5.out⟩
theorem partsOf_walk (w : World) (v : Int) (_ : -9223372036854775808 ≤ v) (_ : v ≤ 9223372036854775807) (n : Int) (_ : -9223372036854775808 ≤ n) (_ : n ≤ 9223372036854775807) (k : Int) (_ : -9223372036854775808 ≤ k) (_ : k ≤ 9223372036854775807) :
  Calls Try.prog 3 #[.int .i64 v, .int .i64 n, .int .i64 k] w fun e w' => e = .returned (.bool true) ∧ Below w.heap.size w w' := by
 obtain ⟨z, hz⟩ : ∃ z, ofF v n = z := ⟨_, rfl⟩
 obtain ⟨l, hl⟩ : ∃ l, ownedF v n k = l := ⟨_, rfl⟩
 have HZ := hide hz
 have HL := hide hl
 have hlen : Hid (l.length ≤ 512) := hide (by
  rw [← hl]
  unfold ownedF
  have := own_len n k (min v 512).toNat
  omega)
 clear hz hl
 go_enter Try.func3, Try.ntmps3
 go_wp2_with fail
 refine (of_any _ v n).mono ?_
 rintro e y1 ⟨rfl, rfl⟩
 rw [HZ.out]
 go_wp2_with fail
 refine (rof_any _ v n).mono ?_
 rintro e y1 ⟨rfl, rfl⟩
 rw [HZ.out]
 go_wp2_with fail
 refine (owned_any _ v n k).mono ?_
 rintro e y2 ⟨A, c, rfl, hown, hb⟩
 rw [HL.out] at hown ⊢
 have HOw := hide hown
 have HB := hide hb
 clear hown hb
 go_wp2_with fail
 refine (rowned_any _ v n k).mono ?_
 rintro e y3 ⟨A2, c2, rfl, hown, hb⟩
 rw [HL.out] at hown ⊢
 have R1 : Hid (Rd y3 y3.heap.size A (l.map (Value.int .i64))) := hide (((Rd.of_own HOw.out).below hb).more hb.size)
 have R2 : Hid (Rd y3 y3.heap.size A2 (l.map (Value.int .i64))) := hide (Rd.of_own hown)
 have HB3 := hide (HB.out.trans (hb.mono HB.out.size))
 clear hown hb
 go_wp2_with fail
 refine (sameInts_self (xs := l) rfl (by have := hlen.out; omega) R1.out R2.out).mono ?_
 rintro e y4 ⟨rfl, k4⟩
 have K4 := hide (HB3.out.trans (k4.mono HB3.out.size))
 clear k4
 go_wp2_with fail
 refine (works_any _).mono ?_
 rintro e y5 ⟨rfl, k5⟩
 have K5 := hide (K4.out.trans (k5.mono K4.out.size))
 clear k5
 go_wp2
 go_ret
 exact ⟨rfl, K5.out⟩
end Go.Proofs.Ytihdpfjonkagaaa
