/- A worker's vertices: the document's Owned, and Owned. -/
import Derived.RangeFuncNested
import Derived.RangeFuncBound
import Derived.RangeFuncCalls
import Derived.RangeFuncLeaves
import Derived.RangeFuncBox
import Derived.Shelf.Abstract
import Derived.Shelf.RegionOpen
import Derived.WalkKit
import Derived.OwnWalkIn
import Derived.TacticsInMore
import Derived.LoopNIn
import Derived.LoopIn
import Derived.Test.YtihdpfjonkagaaaMof
import Derived.Test.YtihdpfjonkagaaaReg
import Derived.Maps.AppendAt
namespace Go.Proofs.Ytihdpfjonkagaaa
open Go.RowKit Go.Shelf
attribute [local go_sem] Oper.semAt_some
set_option linter.unusedVariables false
set_option linter.unusedSimpArgs false
def sel (n k v : Int) : Bool := decide (0 ≤ k) && decide (ofF v n = k)
/-- the vertices below i that are worker k's -/
def ownUpto (n k : Int) (i : Nat) : List Int := ((List.range i).map fun (j : Nat) => (j : Int)).filter (sel n k)
def ownedF (V n k : Int) : List Int := ownUpto n k (min V 512).toNat
theorem own_snoc (n k : Int) (i : Nat) : ownUpto n k (i + 1) = ownUpto n k i ++ (if sel n k (i : Int) = true then [(i : Int)] else []) := by
  unfold ownUpto
  rw [List.range_succ, List.map_append, List.filter_append]
  congr 1
  simp only [List.map_cons, List.map_nil, List.filter_cons, List.filter_nil]
theorem own_len (n k : Int) (i : Nat) : (ownUpto n k i).length ≤ i := by
  unfold ownUpto
  refine Nat.le_trans (List.length_filter_le _ _) ?_
  simp
def OwnPost (w : World) (l : List Int) (e : Ending) (w' : World) : Prop := ∃ A c, e = .returned (.slice A l.length c) ∧ w'.ownsRow w.heap.size 3 1 (.slice A l.length c) l.length (l.map (Value.int .i64)) ∧ Below w.heap.size w w'
/-- what is captured is as it was -/
def Kp3 (a b c : Nat) (W W' : World) : Prop := ∀ (v : Value) (q : Nat), (q = a ∨ q = b ∨ q = c) → W.cell? ⟨q, 0, none⟩ = some v → W'.cell? ⟨q, 0, none⟩ = some v
theorem Kp3.refl (a b c : Nat) (W : World) : Kp3 a b c W W := fun _ _ _ h => h
theorem Kp3.trans {a b c : Nat} {A B C : World} (h : Kp3 a b c A B) (k : Kp3 a b c B C) : Kp3 a b c A C := fun v q hq e => k v q hq (h v q hq e)
theorem Kp3.of_below {a b c n : Nat} {A B : World} (h : Below n A B) (ha : a < n) (hb : b < n) (hc : c < n) : Kp3 a b c A B := fun v q hq e => (h.cell (p := ⟨q, 0, none⟩) (by show q < n; omega)).trans e
def Two (A B : World → Prop) (e : Ending) (W' : World) : Prop := ∃ b : Bool, e = .returned (.bool b) ∧ Hid ((b = true ∧ A W') ∨ (b = false ∧ B W'))
theorem two_of {A B : World → Prop} {e : Ending} {W' : World} (h : (e = .returned (.bool true) ∧ A W') ∨ (e = .returned (.bool false) ∧ B W')) : Two A B e W' :=
  h.elim (fun ⟨h1, h2⟩ => ⟨true, h1, .inl ⟨rfl, h2⟩⟩) (fun ⟨h1, h2⟩ => ⟨false, h1, .inr ⟨rfl, h2⟩⟩)
set_option maxRecDepth 100000 in
set_option maxHeartbeats 2000000 in
theorem owned1_in (n : Nat) (hn : 1 ≤ n) (l bV bK bN : Nat) (V m k : Int) (J Jx : List Int → World → Prop)
    (hY : ∀ pre x W, J pre W → pre.length < 512 → YieldAt Fence.wide (n - 1) Try.prog l #[.int .i64 x] W fun e W' =>
      (e = .returned (.bool true) ∧ J (pre ++ [x]) W' ∧ Kp3 bV bK bN W W') ∨ (e = .returned (.bool false) ∧ Jx (pre ++ [x]) W'))
    (W : World) (cV : W.cell? ⟨bV, 0, none⟩ = some (.int .i64 V)) (cK : W.cell? ⟨bK, 0, none⟩ = some (.int .i64 k)) (cN : W.cell? ⟨bN, 0, none⟩ = some (.int .i64 m)) (h0 : J [] W)
    (hJd : ∀ pre W, J pre W → J pre W.drew) :
    CallsIn Fence.wide n Try.prog 46 #[.func (.yield l) #[] #[], .pointer (some ⟨bV, 0, none⟩), .pointer (some ⟨bK, 0, none⟩), .pointer (some ⟨bN, 0, none⟩)] W fun e W' => (∃ v, e = .returned v) ∧
      ((∃ ys, ys = ownedF V m k ∧ J ys W') ∨ (∃ pre, True ∧ Jx pre W')) := by
  obtain ⟨M, hM⟩ : ∃ M, (min V 512).toNat = M := ⟨_, rfl⟩
  have HF : Hid (ownedF V m k = ownUpto m k M) := hide (by rw [ownedF, hM])
  have hM1 : (M : Int) ≤ 512 := by omega
  refine callsIn_of_wp Try.func46 rfl trivial ?_ rfl
  simp only [Try.ntmps46, List.size_toArray, List.length_cons, List.length_nil, Nat.reduceAdd, Nat.reduceSub, Array.replicate_succ, Array.replicate_zero, List.push_toArray, List.append_toArray, List.nil_append, List.cons_append]
  rcases (show V < 0 ∨ V = 0 ∨ (0 < V ∧ V ≤ 512) ∨ 512 < V by omega) with hc | hc | ⟨hc, hd⟩ | hc
  · obtain rfl : M = 0 := by omega
    have hd : V < 512 := by omega
    clear hM
    gi_wp2
    gi_loopw [9] (fun i wr => i = .int .i64 0 ∧ J [] wr) (fun i _ => 0)
    case atStart => exact ⟨rfl, h0⟩
    case round =>
      obtain ⟨rfl, hJs⟩ := hrel
      gi_wp2
      go_end0
      exact ⟨⟨_, rfl⟩, .inl (by first | (rw [HF.out]; exact hJs) | exact ⟨_, HF.out.symm, hJs⟩)⟩
  · obtain rfl : M = 0 := by omega
    subst hc
    clear hM
    gi_wp2
    gi_loopw [9] (fun i wr => i = .int .i64 0 ∧ J [] wr) (fun i _ => 0)
    case atStart => exact ⟨rfl, h0⟩
    case round =>
      obtain ⟨rfl, hJs⟩ := hrel
      gi_wp2
      go_end0
      exact ⟨⟨_, rfl⟩, .inl (by first | (rw [HF.out]; exact hJs) | exact ⟨_, HF.out.symm, hJs⟩)⟩
  · have hVM : V = (M : Int) := by omega
    subst hVM
    clear hM
    gi_wp2
    gi_loopw [9] (fun i wr => ∃ j : Nat, j ≤ M ∧ i = .int .i64 j ∧ J (ownUpto m k j) wr ∧ Hid (Kp3 bV bK bN W wr)) (fun i _ => M - (intOf i).toNat)
    case atStart => exact ⟨0, by omega, rfl, h0, hide (Kp3.refl _ _ _ _)⟩
    case round =>
      obtain ⟨j, hj, rfl, hJs, hbw⟩ := hrel
      have dV := hbw.out _ _ (.inl rfl) cV
      have dK := hbw.out _ _ (.inr (.inl rfl)) cK
      have dN := hbw.out _ _ (.inr (.inr rfl)) cN
      by_cases hlt : j < M
      · have h1 : (j : Int) < (M : Int) := by omega
        have HS := hide (own_snoc m k j)
        have hll := own_len m k j
        by_cases hk : 0 ≤ k
        · by_cases ho : ofF (j : Int) m = k
          · have hsel : sel m k (j : Int) = true := by simp [sel, hk, ho]
            have HN : Hid (ownUpto m k (j + 1) = ownUpto m k j ++ [(j : Int)]) := hide (by rw [HS.out, if_pos hsel])
            have HO := hide ho
            obtain ⟨fn, tmps, assign, body, hy, hR⟩ := YieldAt.mono (hY (ownUpto m k j) (j : Int) wr.drew (hJd _ _ hJs) (by omega)) (fun _ _ h => two_of (A := fun W' => J (ownUpto m k j ++ [(j : Int)]) W' ∧ Kp3 bV bK bN wr.drew W') (B := fun W' => Jx (ownUpto m k j ++ [(j : Int)]) W') h)
            clear ho hsel hJs
            gi_wp2
            gi_region_with (first | (refine ⟨trivial, ?_⟩; refine (callsIn_wide.2 (of_any _ (j : Int) m)).mono ?_; rintro e y ⟨rfl, rfl⟩; rw [HO.out]) | (refine hR.mono ?_; rintro e W3 ⟨b, rfl, htw⟩))
            all_goals
              rcases htw.out with ⟨rfl, hJ3, hk3⟩ | ⟨rfl, hJx3⟩
              · have hb3 := hide (Kp3.trans (fun v q hq h => hbw.out v q hq h) hk3)
                rw [← HN.out] at hJ3
                gi_wp2
                go_roundw
                case rel => exact ⟨j + 1, by omega, by go_num, hJ3, hb3⟩
                case measure => simp [intOf]; omega
              · gi_wp2
                refine bodyPost_ret (results_none rfl _ _ _) rfl ?_
                exact ⟨⟨_, rfl⟩, .inr (by first | exact ⟨_, hJx3⟩ | exact ⟨_, trivial, hJx3⟩)⟩
          · have HN : Hid (ownUpto m k (j + 1) = ownUpto m k j) := hide (by rw [HS.out, if_neg (by simp [sel, ho]), List.append_nil])
            obtain ⟨z, hz⟩ : ∃ z, ofF (j : Int) m = z := ⟨_, rfl⟩
            rw [hz] at ho
            have HZ := hide hz
            have hzk : (z == k) = false := by simp only [beq_eq_false_iff_ne, ne_eq]; exact ho
            have hJ3 : J (ownUpto m k (j + 1)) wr.drew := by rw [HN.out]; exact hJd _ _ hJs
            clear hz hJs
            gi_wp2
            refine wpIn_wide.2 ?_
            refine wp_region_held_drew (S := fun w' => Hid (w' = wr.drew)) (by kernel_rfl) (hide rfl) (fun hS0 => ?_)
            refine take_at (i := 0) (d := 12) (v := ?_) (by simp only [List.getElem?_toArray, List.getElem?_cons_succ, List.getElem?_cons_zero]; rfl) rfl (by kernel_rfl) (by kernel_rfl) (by kernel_rfl) (fun _ _ _ h => h) rfl ?_ (by assumption) ?_
            rotate_left
            focus (intro w hSw; obtain rfl : w = wr.drew := hSw.out; go_simp; (try with_reducible rfl); done)
            try simp only [List.setIfInBounds_toArray, List.set_cons_zero, List.set_cons_succ]
            refine take_at (i := 1) (d := 13) (v := ?_) (by simp only [List.getElem?_toArray, List.getElem?_cons_succ, List.getElem?_cons_zero]; rfl) rfl (by kernel_rfl) (by kernel_rfl) (by kernel_rfl) (fun _ _ _ h => h) rfl ?_ (by assumption) ?_
            rotate_left
            focus (intro w hSw; obtain rfl : w = wr.drew := hSw.out; go_simp; (try with_reducible rfl); done)
            try simp only [List.setIfInBounds_toArray, List.set_cons_zero, List.set_cons_succ]
            refine take_at (i := 2) (d := 14) (v := ?_) (by simp only [List.getElem?_toArray, List.getElem?_cons_succ, List.getElem?_cons_zero]; rfl) rfl (by kernel_rfl) (by kernel_rfl) (by kernel_rfl) (fun _ _ _ h => h) rfl ?_ (by assumption) ?_
            rotate_left
            focus (intro w hSw; obtain rfl : w = wr.drew := hSw.out; go_simp; (try with_reducible rfl); done)
            try simp only [List.setIfInBounds_toArray, List.set_cons_zero, List.set_cons_succ]
            refine take_at (i := 3) (d := 15) (v := ?_) (by simp only [List.getElem?_toArray, List.getElem?_cons_succ, List.getElem?_cons_zero]; rfl) rfl (by kernel_rfl) (by kernel_rfl) (by kernel_rfl) (fun _ _ _ h => h) rfl ?_ (by assumption) ?_
            rotate_left
            focus (intro w hSw; obtain rfl : w = wr.drew := hSw.out; go_simp; (try with_reducible rfl); done)
            try simp only [List.setIfInBounds_toArray, List.set_cons_zero, List.set_cons_succ]
            refine take_at (i := 4) (d := 16) (v := ?_) (by simp only [List.getElem?_toArray, List.getElem?_cons_succ, List.getElem?_cons_zero]; rfl) rfl (by kernel_rfl) (by kernel_rfl) (by kernel_rfl) (fun _ _ _ h => h) rfl ?_ (by assumption) ?_
            rotate_left
            focus (intro w hSw; obtain rfl : w = wr.drew := hSw.out; go_simp; (try with_reducible rfl); done)
            try simp only [List.setIfInBounds_toArray, List.set_cons_zero, List.set_cons_succ]
            refine take_at (i := 6) (d := 18) (v := ?_) (by simp only [List.getElem?_toArray, List.getElem?_cons_succ, List.getElem?_cons_zero]; rfl) rfl (by kernel_rfl) (by kernel_rfl) (by kernel_rfl) (fun _ _ _ h => h) rfl ?_ (by assumption) ?_
            rotate_left
            focus (intro w hSw; obtain rfl : w = wr.drew := hSw.out; go_simp; (try with_reducible rfl); done)
            try simp only [List.setIfInBounds_toArray, List.set_cons_zero, List.set_cons_succ]
            refine call_at (i := 5) (d := 17) (by simp only [List.getElem?_toArray, List.getElem?_cons_succ, List.getElem?_cons_zero]; rfl) rfl (by kernel_rfl) rfl (fun K hK => ?_)
            go_simp
            refine (of_any _ (j : Int) m).mono ?_
            rintro e y ⟨rfl, rfl⟩
            rw [HZ.out]
            go_wp2_with fail
            refine hK.out _ _ (hide rfl) (fun hSn => ?_)
            clear hK K
            try simp only [List.setIfInBounds_toArray, List.set_cons_zero, List.set_cons_succ]
            refine take_at (i := 7) (d := 19) (v := ?_) (by simp only [List.getElem?_toArray, List.getElem?_cons_succ, List.getElem?_cons_zero]; rfl) rfl (by kernel_rfl) (by kernel_rfl) (by kernel_rfl) (fun _ _ _ h => h) rfl ?_ (by assumption) ?_
            rotate_left
            focus (intro w hSw; obtain rfl : w = wr.drew := hSw.out; go_simp; (try with_reducible rfl); done)
            try simp only [List.setIfInBounds_toArray, List.set_cons_zero, List.set_cons_succ]
            refine take_at (i := 8) (d := 20) (v := ?_) (by simp only [List.getElem?_toArray, List.getElem?_cons_succ, List.getElem?_cons_zero]; rfl) rfl (by kernel_rfl) (by kernel_rfl) (by kernel_rfl) (fun _ _ _ h => h) rfl ?_ (by assumption) ?_
            rotate_left
            focus (intro w hSw; obtain rfl : w = wr.drew := hSw.out; go_simp; (try with_reducible rfl); done)
            try simp only [List.setIfInBounds_toArray, List.set_cons_zero, List.set_cons_succ]
            refine take_at (i := 9) (d := 21) (v := ?_) (by simp only [List.getElem?_toArray, List.getElem?_cons_succ, List.getElem?_cons_zero]; rfl) rfl (by kernel_rfl) (by kernel_rfl) (by kernel_rfl) (fun _ _ _ h => h) rfl ?_ (by assumption) ?_
            rotate_left
            focus (intro w hSw; obtain rfl : w = wr.drew := hSw.out; go_simp; (try with_reducible rfl); done)
            try simp only [List.setIfInBounds_toArray, List.set_cons_zero, List.set_cons_succ]
            refine skip_at (i := 10) (d := 22) (by simp only [List.getElem?_toArray, List.getElem?_cons_succ, List.getElem?_cons_zero]; rfl) rfl (by kernel_rfl) (by kernel_rfl) (by kernel_rfl) (fun _ _ _ h => h) rfl (by assumption) ?_
            try simp only [List.setIfInBounds_toArray, List.set_cons_zero, List.set_cons_succ]
            refine skip_at (i := 11) (d := 23) (by simp only [List.getElem?_toArray, List.getElem?_cons_succ, List.getElem?_cons_zero]; rfl) rfl (by kernel_rfl) (by kernel_rfl) (by kernel_rfl) (fun _ _ _ h => h) rfl (by assumption) ?_
            try simp only [List.setIfInBounds_toArray, List.set_cons_zero, List.set_cons_succ]
            refine skip_at (i := 12) (d := 24) (by simp only [List.getElem?_toArray, List.getElem?_cons_succ, List.getElem?_cons_zero]; rfl) rfl (by kernel_rfl) (by kernel_rfl) (by kernel_rfl) (fun _ _ _ h => h) rfl (by assumption) ?_
            try simp only [List.setIfInBounds_toArray, List.set_cons_zero, List.set_cons_succ]
            refine skip_at (i := 13) (d := 25) (by simp only [List.getElem?_toArray, List.getElem?_cons_succ, List.getElem?_cons_zero]; rfl) rfl (by kernel_rfl) (by kernel_rfl) (by kernel_rfl) (fun _ _ _ h => h) rfl (by assumption) ?_
            try simp only [List.setIfInBounds_toArray, List.set_cons_zero, List.set_cons_succ]
            refine take_at (i := 14) (d := 26) (v := ?_) (by simp only [List.getElem?_toArray, List.getElem?_cons_succ, List.getElem?_cons_zero]; rfl) rfl (by kernel_rfl) (by kernel_rfl) (by kernel_rfl) (fun _ _ _ h => h) rfl ?_ (by assumption) ?_
            rotate_left
            focus (intro w hSw; obtain rfl : w = wr.drew := hSw.out; go_simp; (try with_reducible rfl); done)
            try simp only [List.setIfInBounds_toArray, List.set_cons_zero, List.set_cons_succ]
            refine wpAnyH_done (by kernel_rfl) ?_ _
            all_goals
              gi_wp2
              go_roundw
              case rel => exact ⟨j + 1, by omega, by go_num, hJ3, hide (fun v q hq h => hbw.out v q hq h)⟩
              case measure => simp [intOf]; omega
        · have HN : Hid (ownUpto m k (j + 1) = ownUpto m k j) := hide (by rw [HS.out, if_neg (by simp [sel, hk]), List.append_nil])
          have hk' : k < 0 := by omega
          have hdk : decide (0 ≤ k) = false := decide_eq_false (by omega)
          have hJ3 : J (ownUpto m k (j + 1)) wr.drew := by rw [HN.out]; exact hJd _ _ hJs
          clear hJs
          gi_wp2
          refine wpIn_wide.2 ?_
          refine wp_region_held_drew (S := fun w' => Hid (w' = wr.drew)) (by kernel_rfl) (hide rfl) (fun hS0 => ?_)
          refine take_at (i := 0) (d := 12) (v := ?_) (by simp only [List.getElem?_toArray, List.getElem?_cons_succ, List.getElem?_cons_zero]; rfl) rfl (by kernel_rfl) (by kernel_rfl) (by kernel_rfl) (fun _ _ _ h => h) rfl ?_ (by assumption) ?_
          rotate_left
          focus (intro w hSw; obtain rfl : w = wr.drew := hSw.out; go_simp; (try with_reducible rfl); done)
          try simp only [List.setIfInBounds_toArray, List.set_cons_zero, List.set_cons_succ]
          refine take_at (i := 1) (d := 13) (v := ?_) (by simp only [List.getElem?_toArray, List.getElem?_cons_succ, List.getElem?_cons_zero]; rfl) rfl (by kernel_rfl) (by kernel_rfl) (by kernel_rfl) (fun _ _ _ h => h) rfl ?_ (by assumption) ?_
          rotate_left
          focus (intro w hSw; obtain rfl : w = wr.drew := hSw.out; go_simp; (try with_reducible rfl); done)
          try simp only [List.setIfInBounds_toArray, List.set_cons_zero, List.set_cons_succ]
          refine take_at (i := 2) (d := 14) (v := ?_) (by simp only [List.getElem?_toArray, List.getElem?_cons_succ, List.getElem?_cons_zero]; rfl) rfl (by kernel_rfl) (by kernel_rfl) (by kernel_rfl) (fun _ _ _ h => h) rfl ?_ (by assumption) ?_
          rotate_left
          focus (intro w hSw; obtain rfl : w = wr.drew := hSw.out; go_simp; (try with_reducible rfl); done)
          try simp only [List.setIfInBounds_toArray, List.set_cons_zero, List.set_cons_succ]
          refine skip_at (i := 3) (d := 15) (by simp only [List.getElem?_toArray, List.getElem?_cons_succ, List.getElem?_cons_zero]; rfl) rfl (by kernel_rfl) (by kernel_rfl) (by kernel_rfl) (fun _ _ _ h => h) rfl (by assumption) ?_
          try simp only [List.setIfInBounds_toArray, List.set_cons_zero, List.set_cons_succ]
          refine skip_at (i := 4) (d := 16) (by simp only [List.getElem?_toArray, List.getElem?_cons_succ, List.getElem?_cons_zero]; rfl) rfl (by kernel_rfl) (by kernel_rfl) (by kernel_rfl) (fun _ _ _ h => h) rfl (by assumption) ?_
          try simp only [List.setIfInBounds_toArray, List.set_cons_zero, List.set_cons_succ]
          refine skip_at (i := 5) (d := 17) (by simp only [List.getElem?_toArray, List.getElem?_cons_succ, List.getElem?_cons_zero]; rfl) rfl (by kernel_rfl) (by kernel_rfl) (by kernel_rfl) (fun _ _ _ h => h) rfl (by assumption) ?_
          try simp only [List.setIfInBounds_toArray, List.set_cons_zero, List.set_cons_succ]
          refine skip_at (i := 6) (d := 18) (by simp only [List.getElem?_toArray, List.getElem?_cons_succ, List.getElem?_cons_zero]; rfl) rfl (by kernel_rfl) (by kernel_rfl) (by kernel_rfl) (fun _ _ _ h => h) rfl (by assumption) ?_
          try simp only [List.setIfInBounds_toArray, List.set_cons_zero, List.set_cons_succ]
          refine skip_at (i := 7) (d := 19) (by simp only [List.getElem?_toArray, List.getElem?_cons_succ, List.getElem?_cons_zero]; rfl) rfl (by kernel_rfl) (by kernel_rfl) (by kernel_rfl) (fun _ _ _ h => h) rfl (by assumption) ?_
          try simp only [List.setIfInBounds_toArray, List.set_cons_zero, List.set_cons_succ]
          refine take_at (i := 8) (d := 20) (v := ?_) (by simp only [List.getElem?_toArray, List.getElem?_cons_succ, List.getElem?_cons_zero]; rfl) rfl (by kernel_rfl) (by kernel_rfl) (by kernel_rfl) (fun _ _ _ h => h) rfl ?_ (by assumption) ?_
          rotate_left
          focus (intro w hSw; obtain rfl : w = wr.drew := hSw.out; go_simp; (try with_reducible rfl); done)
          try simp only [List.setIfInBounds_toArray, List.set_cons_zero, List.set_cons_succ]
          refine take_at (i := 9) (d := 21) (v := ?_) (by simp only [List.getElem?_toArray, List.getElem?_cons_succ, List.getElem?_cons_zero]; rfl) rfl (by kernel_rfl) (by kernel_rfl) (by kernel_rfl) (fun _ _ _ h => h) rfl ?_ (by assumption) ?_
          rotate_left
          focus (intro w hSw; obtain rfl : w = wr.drew := hSw.out; go_simp; (try with_reducible rfl); done)
          try simp only [List.setIfInBounds_toArray, List.set_cons_zero, List.set_cons_succ]
          refine skip_at (i := 10) (d := 22) (by simp only [List.getElem?_toArray, List.getElem?_cons_succ, List.getElem?_cons_zero]; rfl) rfl (by kernel_rfl) (by kernel_rfl) (by kernel_rfl) (fun _ _ _ h => h) rfl (by assumption) ?_
          try simp only [List.setIfInBounds_toArray, List.set_cons_zero, List.set_cons_succ]
          refine skip_at (i := 11) (d := 23) (by simp only [List.getElem?_toArray, List.getElem?_cons_succ, List.getElem?_cons_zero]; rfl) rfl (by kernel_rfl) (by kernel_rfl) (by kernel_rfl) (fun _ _ _ h => h) rfl (by assumption) ?_
          try simp only [List.setIfInBounds_toArray, List.set_cons_zero, List.set_cons_succ]
          refine skip_at (i := 12) (d := 24) (by simp only [List.getElem?_toArray, List.getElem?_cons_succ, List.getElem?_cons_zero]; rfl) rfl (by kernel_rfl) (by kernel_rfl) (by kernel_rfl) (fun _ _ _ h => h) rfl (by assumption) ?_
          try simp only [List.setIfInBounds_toArray, List.set_cons_zero, List.set_cons_succ]
          refine skip_at (i := 13) (d := 25) (by simp only [List.getElem?_toArray, List.getElem?_cons_succ, List.getElem?_cons_zero]; rfl) rfl (by kernel_rfl) (by kernel_rfl) (by kernel_rfl) (fun _ _ _ h => h) rfl (by assumption) ?_
          try simp only [List.setIfInBounds_toArray, List.set_cons_zero, List.set_cons_succ]
          refine take_at (i := 14) (d := 26) (v := ?_) (by simp only [List.getElem?_toArray, List.getElem?_cons_succ, List.getElem?_cons_zero]; rfl) rfl (by kernel_rfl) (by kernel_rfl) (by kernel_rfl) (fun _ _ _ h => h) rfl ?_ (by assumption) ?_
          rotate_left
          focus (intro w hSw; obtain rfl : w = wr.drew := hSw.out; go_simp; (try with_reducible rfl); done)
          try simp only [List.setIfInBounds_toArray, List.set_cons_zero, List.set_cons_succ]
          refine wpAnyH_done (by kernel_rfl) ?_ _
          all_goals
            gi_wp2
            go_roundw
            case rel => exact ⟨j + 1, by omega, by go_num, hJ3, hide (fun v q hq h => hbw.out v q hq h)⟩
            case measure => simp [intOf]; omega
      · have h1 : ¬ (j : Int) < (M : Int) := by omega
        obtain rfl : j = M := by omega
        gi_wp2
        go_end0
        exact ⟨⟨_, rfl⟩, .inl (by first | (rw [HF.out]; exact hJs) | exact ⟨_, HF.out.symm, hJs⟩)⟩
  · obtain rfl : M = 512 := by omega
    clear hM
    gi_wp2
    gi_loopw [9] (fun i wr => ∃ j : Nat, j ≤ 512 ∧ i = .int .i64 j ∧ J (ownUpto m k j) wr ∧ Hid (Kp3 bV bK bN W wr)) (fun i _ => 512 - (intOf i).toNat)
    case atStart => exact ⟨0, by omega, rfl, h0, hide (Kp3.refl _ _ _ _)⟩
    case round =>
      obtain ⟨j, hj, rfl, hJs, hbw⟩ := hrel
      have dV := hbw.out _ _ (.inl rfl) cV
      have dK := hbw.out _ _ (.inr (.inl rfl)) cK
      have dN := hbw.out _ _ (.inr (.inr rfl)) cN
      by_cases hlt : j < 512
      · have h1 : (j : Int) < 512 := by omega
        have HS := hide (own_snoc m k j)
        have hll := own_len m k j
        by_cases hk : 0 ≤ k
        · by_cases ho : ofF (j : Int) m = k
          · have hsel : sel m k (j : Int) = true := by simp [sel, hk, ho]
            have HN : Hid (ownUpto m k (j + 1) = ownUpto m k j ++ [(j : Int)]) := hide (by rw [HS.out, if_pos hsel])
            have HO := hide ho
            obtain ⟨fn, tmps, assign, body, hy, hR⟩ := YieldAt.mono (hY (ownUpto m k j) (j : Int) wr.drew (hJd _ _ hJs) (by omega)) (fun _ _ h => two_of (A := fun W' => J (ownUpto m k j ++ [(j : Int)]) W' ∧ Kp3 bV bK bN wr.drew W') (B := fun W' => Jx (ownUpto m k j ++ [(j : Int)]) W') h)
            clear ho hsel hJs
            gi_wp2
            gi_region_with (first | (refine ⟨trivial, ?_⟩; refine (callsIn_wide.2 (of_any _ (j : Int) m)).mono ?_; rintro e y ⟨rfl, rfl⟩; rw [HO.out]) | (refine hR.mono ?_; rintro e W3 ⟨b, rfl, htw⟩))
            all_goals
              rcases htw.out with ⟨rfl, hJ3, hk3⟩ | ⟨rfl, hJx3⟩
              · have hb3 := hide (Kp3.trans (fun v q hq h => hbw.out v q hq h) hk3)
                rw [← HN.out] at hJ3
                gi_wp2
                go_roundw
                case rel => exact ⟨j + 1, by omega, by go_num, hJ3, hb3⟩
                case measure => simp [intOf]; omega
              · gi_wp2
                refine bodyPost_ret (results_none rfl _ _ _) rfl ?_
                exact ⟨⟨_, rfl⟩, .inr (by first | exact ⟨_, hJx3⟩ | exact ⟨_, trivial, hJx3⟩)⟩
          · have HN : Hid (ownUpto m k (j + 1) = ownUpto m k j) := hide (by rw [HS.out, if_neg (by simp [sel, ho]), List.append_nil])
            obtain ⟨z, hz⟩ : ∃ z, ofF (j : Int) m = z := ⟨_, rfl⟩
            rw [hz] at ho
            have HZ := hide hz
            have hzk : (z == k) = false := by simp only [beq_eq_false_iff_ne, ne_eq]; exact ho
            have hJ3 : J (ownUpto m k (j + 1)) wr.drew := by rw [HN.out]; exact hJd _ _ hJs
            clear hz hJs
            gi_wp2
            refine wpIn_wide.2 ?_
            refine wp_region_held_drew (S := fun w' => Hid (w' = wr.drew)) (by kernel_rfl) (hide rfl) (fun hS0 => ?_)
            refine take_at (i := 0) (d := 12) (v := ?_) (by simp only [List.getElem?_toArray, List.getElem?_cons_succ, List.getElem?_cons_zero]; rfl) rfl (by kernel_rfl) (by kernel_rfl) (by kernel_rfl) (fun _ _ _ h => h) rfl ?_ (by assumption) ?_
            rotate_left
            focus (intro w hSw; obtain rfl : w = wr.drew := hSw.out; go_simp; (try with_reducible rfl); done)
            try simp only [List.setIfInBounds_toArray, List.set_cons_zero, List.set_cons_succ]
            refine take_at (i := 1) (d := 13) (v := ?_) (by simp only [List.getElem?_toArray, List.getElem?_cons_succ, List.getElem?_cons_zero]; rfl) rfl (by kernel_rfl) (by kernel_rfl) (by kernel_rfl) (fun _ _ _ h => h) rfl ?_ (by assumption) ?_
            rotate_left
            focus (intro w hSw; obtain rfl : w = wr.drew := hSw.out; go_simp; (try with_reducible rfl); done)
            try simp only [List.setIfInBounds_toArray, List.set_cons_zero, List.set_cons_succ]
            refine take_at (i := 2) (d := 14) (v := ?_) (by simp only [List.getElem?_toArray, List.getElem?_cons_succ, List.getElem?_cons_zero]; rfl) rfl (by kernel_rfl) (by kernel_rfl) (by kernel_rfl) (fun _ _ _ h => h) rfl ?_ (by assumption) ?_
            rotate_left
            focus (intro w hSw; obtain rfl : w = wr.drew := hSw.out; go_simp; (try with_reducible rfl); done)
            try simp only [List.setIfInBounds_toArray, List.set_cons_zero, List.set_cons_succ]
            refine take_at (i := 3) (d := 15) (v := ?_) (by simp only [List.getElem?_toArray, List.getElem?_cons_succ, List.getElem?_cons_zero]; rfl) rfl (by kernel_rfl) (by kernel_rfl) (by kernel_rfl) (fun _ _ _ h => h) rfl ?_ (by assumption) ?_
            rotate_left
            focus (intro w hSw; obtain rfl : w = wr.drew := hSw.out; go_simp; (try with_reducible rfl); done)
            try simp only [List.setIfInBounds_toArray, List.set_cons_zero, List.set_cons_succ]
            refine take_at (i := 4) (d := 16) (v := ?_) (by simp only [List.getElem?_toArray, List.getElem?_cons_succ, List.getElem?_cons_zero]; rfl) rfl (by kernel_rfl) (by kernel_rfl) (by kernel_rfl) (fun _ _ _ h => h) rfl ?_ (by assumption) ?_
            rotate_left
            focus (intro w hSw; obtain rfl : w = wr.drew := hSw.out; go_simp; (try with_reducible rfl); done)
            try simp only [List.setIfInBounds_toArray, List.set_cons_zero, List.set_cons_succ]
            refine take_at (i := 6) (d := 18) (v := ?_) (by simp only [List.getElem?_toArray, List.getElem?_cons_succ, List.getElem?_cons_zero]; rfl) rfl (by kernel_rfl) (by kernel_rfl) (by kernel_rfl) (fun _ _ _ h => h) rfl ?_ (by assumption) ?_
            rotate_left
            focus (intro w hSw; obtain rfl : w = wr.drew := hSw.out; go_simp; (try with_reducible rfl); done)
            try simp only [List.setIfInBounds_toArray, List.set_cons_zero, List.set_cons_succ]
            refine call_at (i := 5) (d := 17) (by simp only [List.getElem?_toArray, List.getElem?_cons_succ, List.getElem?_cons_zero]; rfl) rfl (by kernel_rfl) rfl (fun K hK => ?_)
            go_simp
            refine (of_any _ (j : Int) m).mono ?_
            rintro e y ⟨rfl, rfl⟩
            rw [HZ.out]
            go_wp2_with fail
            refine hK.out _ _ (hide rfl) (fun hSn => ?_)
            clear hK K
            try simp only [List.setIfInBounds_toArray, List.set_cons_zero, List.set_cons_succ]
            refine take_at (i := 7) (d := 19) (v := ?_) (by simp only [List.getElem?_toArray, List.getElem?_cons_succ, List.getElem?_cons_zero]; rfl) rfl (by kernel_rfl) (by kernel_rfl) (by kernel_rfl) (fun _ _ _ h => h) rfl ?_ (by assumption) ?_
            rotate_left
            focus (intro w hSw; obtain rfl : w = wr.drew := hSw.out; go_simp; (try with_reducible rfl); done)
            try simp only [List.setIfInBounds_toArray, List.set_cons_zero, List.set_cons_succ]
            refine take_at (i := 8) (d := 20) (v := ?_) (by simp only [List.getElem?_toArray, List.getElem?_cons_succ, List.getElem?_cons_zero]; rfl) rfl (by kernel_rfl) (by kernel_rfl) (by kernel_rfl) (fun _ _ _ h => h) rfl ?_ (by assumption) ?_
            rotate_left
            focus (intro w hSw; obtain rfl : w = wr.drew := hSw.out; go_simp; (try with_reducible rfl); done)
            try simp only [List.setIfInBounds_toArray, List.set_cons_zero, List.set_cons_succ]
            refine take_at (i := 9) (d := 21) (v := ?_) (by simp only [List.getElem?_toArray, List.getElem?_cons_succ, List.getElem?_cons_zero]; rfl) rfl (by kernel_rfl) (by kernel_rfl) (by kernel_rfl) (fun _ _ _ h => h) rfl ?_ (by assumption) ?_
            rotate_left
            focus (intro w hSw; obtain rfl : w = wr.drew := hSw.out; go_simp; (try with_reducible rfl); done)
            try simp only [List.setIfInBounds_toArray, List.set_cons_zero, List.set_cons_succ]
            refine skip_at (i := 10) (d := 22) (by simp only [List.getElem?_toArray, List.getElem?_cons_succ, List.getElem?_cons_zero]; rfl) rfl (by kernel_rfl) (by kernel_rfl) (by kernel_rfl) (fun _ _ _ h => h) rfl (by assumption) ?_
            try simp only [List.setIfInBounds_toArray, List.set_cons_zero, List.set_cons_succ]
            refine skip_at (i := 11) (d := 23) (by simp only [List.getElem?_toArray, List.getElem?_cons_succ, List.getElem?_cons_zero]; rfl) rfl (by kernel_rfl) (by kernel_rfl) (by kernel_rfl) (fun _ _ _ h => h) rfl (by assumption) ?_
            try simp only [List.setIfInBounds_toArray, List.set_cons_zero, List.set_cons_succ]
            refine skip_at (i := 12) (d := 24) (by simp only [List.getElem?_toArray, List.getElem?_cons_succ, List.getElem?_cons_zero]; rfl) rfl (by kernel_rfl) (by kernel_rfl) (by kernel_rfl) (fun _ _ _ h => h) rfl (by assumption) ?_
            try simp only [List.setIfInBounds_toArray, List.set_cons_zero, List.set_cons_succ]
            refine skip_at (i := 13) (d := 25) (by simp only [List.getElem?_toArray, List.getElem?_cons_succ, List.getElem?_cons_zero]; rfl) rfl (by kernel_rfl) (by kernel_rfl) (by kernel_rfl) (fun _ _ _ h => h) rfl (by assumption) ?_
            try simp only [List.setIfInBounds_toArray, List.set_cons_zero, List.set_cons_succ]
            refine take_at (i := 14) (d := 26) (v := ?_) (by simp only [List.getElem?_toArray, List.getElem?_cons_succ, List.getElem?_cons_zero]; rfl) rfl (by kernel_rfl) (by kernel_rfl) (by kernel_rfl) (fun _ _ _ h => h) rfl ?_ (by assumption) ?_
            rotate_left
            focus (intro w hSw; obtain rfl : w = wr.drew := hSw.out; go_simp; (try with_reducible rfl); done)
            try simp only [List.setIfInBounds_toArray, List.set_cons_zero, List.set_cons_succ]
            refine wpAnyH_done (by kernel_rfl) ?_ _
            all_goals
              gi_wp2
              go_roundw
              case rel => exact ⟨j + 1, by omega, by go_num, hJ3, hide (fun v q hq h => hbw.out v q hq h)⟩
              case measure => simp [intOf]; omega
        · have HN : Hid (ownUpto m k (j + 1) = ownUpto m k j) := hide (by rw [HS.out, if_neg (by simp [sel, hk]), List.append_nil])
          have hk' : k < 0 := by omega
          have hdk : decide (0 ≤ k) = false := decide_eq_false (by omega)
          have hJ3 : J (ownUpto m k (j + 1)) wr.drew := by rw [HN.out]; exact hJd _ _ hJs
          clear hJs
          gi_wp2
          refine wpIn_wide.2 ?_
          refine wp_region_held_drew (S := fun w' => Hid (w' = wr.drew)) (by kernel_rfl) (hide rfl) (fun hS0 => ?_)
          refine take_at (i := 0) (d := 12) (v := ?_) (by simp only [List.getElem?_toArray, List.getElem?_cons_succ, List.getElem?_cons_zero]; rfl) rfl (by kernel_rfl) (by kernel_rfl) (by kernel_rfl) (fun _ _ _ h => h) rfl ?_ (by assumption) ?_
          rotate_left
          focus (intro w hSw; obtain rfl : w = wr.drew := hSw.out; go_simp; (try with_reducible rfl); done)
          try simp only [List.setIfInBounds_toArray, List.set_cons_zero, List.set_cons_succ]
          refine take_at (i := 1) (d := 13) (v := ?_) (by simp only [List.getElem?_toArray, List.getElem?_cons_succ, List.getElem?_cons_zero]; rfl) rfl (by kernel_rfl) (by kernel_rfl) (by kernel_rfl) (fun _ _ _ h => h) rfl ?_ (by assumption) ?_
          rotate_left
          focus (intro w hSw; obtain rfl : w = wr.drew := hSw.out; go_simp; (try with_reducible rfl); done)
          try simp only [List.setIfInBounds_toArray, List.set_cons_zero, List.set_cons_succ]
          refine take_at (i := 2) (d := 14) (v := ?_) (by simp only [List.getElem?_toArray, List.getElem?_cons_succ, List.getElem?_cons_zero]; rfl) rfl (by kernel_rfl) (by kernel_rfl) (by kernel_rfl) (fun _ _ _ h => h) rfl ?_ (by assumption) ?_
          rotate_left
          focus (intro w hSw; obtain rfl : w = wr.drew := hSw.out; go_simp; (try with_reducible rfl); done)
          try simp only [List.setIfInBounds_toArray, List.set_cons_zero, List.set_cons_succ]
          refine skip_at (i := 3) (d := 15) (by simp only [List.getElem?_toArray, List.getElem?_cons_succ, List.getElem?_cons_zero]; rfl) rfl (by kernel_rfl) (by kernel_rfl) (by kernel_rfl) (fun _ _ _ h => h) rfl (by assumption) ?_
          try simp only [List.setIfInBounds_toArray, List.set_cons_zero, List.set_cons_succ]
          refine skip_at (i := 4) (d := 16) (by simp only [List.getElem?_toArray, List.getElem?_cons_succ, List.getElem?_cons_zero]; rfl) rfl (by kernel_rfl) (by kernel_rfl) (by kernel_rfl) (fun _ _ _ h => h) rfl (by assumption) ?_
          try simp only [List.setIfInBounds_toArray, List.set_cons_zero, List.set_cons_succ]
          refine skip_at (i := 5) (d := 17) (by simp only [List.getElem?_toArray, List.getElem?_cons_succ, List.getElem?_cons_zero]; rfl) rfl (by kernel_rfl) (by kernel_rfl) (by kernel_rfl) (fun _ _ _ h => h) rfl (by assumption) ?_
          try simp only [List.setIfInBounds_toArray, List.set_cons_zero, List.set_cons_succ]
          refine skip_at (i := 6) (d := 18) (by simp only [List.getElem?_toArray, List.getElem?_cons_succ, List.getElem?_cons_zero]; rfl) rfl (by kernel_rfl) (by kernel_rfl) (by kernel_rfl) (fun _ _ _ h => h) rfl (by assumption) ?_
          try simp only [List.setIfInBounds_toArray, List.set_cons_zero, List.set_cons_succ]
          refine skip_at (i := 7) (d := 19) (by simp only [List.getElem?_toArray, List.getElem?_cons_succ, List.getElem?_cons_zero]; rfl) rfl (by kernel_rfl) (by kernel_rfl) (by kernel_rfl) (fun _ _ _ h => h) rfl (by assumption) ?_
          try simp only [List.setIfInBounds_toArray, List.set_cons_zero, List.set_cons_succ]
          refine take_at (i := 8) (d := 20) (v := ?_) (by simp only [List.getElem?_toArray, List.getElem?_cons_succ, List.getElem?_cons_zero]; rfl) rfl (by kernel_rfl) (by kernel_rfl) (by kernel_rfl) (fun _ _ _ h => h) rfl ?_ (by assumption) ?_
          rotate_left
          focus (intro w hSw; obtain rfl : w = wr.drew := hSw.out; go_simp; (try with_reducible rfl); done)
          try simp only [List.setIfInBounds_toArray, List.set_cons_zero, List.set_cons_succ]
          refine take_at (i := 9) (d := 21) (v := ?_) (by simp only [List.getElem?_toArray, List.getElem?_cons_succ, List.getElem?_cons_zero]; rfl) rfl (by kernel_rfl) (by kernel_rfl) (by kernel_rfl) (fun _ _ _ h => h) rfl ?_ (by assumption) ?_
          rotate_left
          focus (intro w hSw; obtain rfl : w = wr.drew := hSw.out; go_simp; (try with_reducible rfl); done)
          try simp only [List.setIfInBounds_toArray, List.set_cons_zero, List.set_cons_succ]
          refine skip_at (i := 10) (d := 22) (by simp only [List.getElem?_toArray, List.getElem?_cons_succ, List.getElem?_cons_zero]; rfl) rfl (by kernel_rfl) (by kernel_rfl) (by kernel_rfl) (fun _ _ _ h => h) rfl (by assumption) ?_
          try simp only [List.setIfInBounds_toArray, List.set_cons_zero, List.set_cons_succ]
          refine skip_at (i := 11) (d := 23) (by simp only [List.getElem?_toArray, List.getElem?_cons_succ, List.getElem?_cons_zero]; rfl) rfl (by kernel_rfl) (by kernel_rfl) (by kernel_rfl) (fun _ _ _ h => h) rfl (by assumption) ?_
          try simp only [List.setIfInBounds_toArray, List.set_cons_zero, List.set_cons_succ]
          refine skip_at (i := 12) (d := 24) (by simp only [List.getElem?_toArray, List.getElem?_cons_succ, List.getElem?_cons_zero]; rfl) rfl (by kernel_rfl) (by kernel_rfl) (by kernel_rfl) (fun _ _ _ h => h) rfl (by assumption) ?_
          try simp only [List.setIfInBounds_toArray, List.set_cons_zero, List.set_cons_succ]
          refine skip_at (i := 13) (d := 25) (by simp only [List.getElem?_toArray, List.getElem?_cons_succ, List.getElem?_cons_zero]; rfl) rfl (by kernel_rfl) (by kernel_rfl) (by kernel_rfl) (fun _ _ _ h => h) rfl (by assumption) ?_
          try simp only [List.setIfInBounds_toArray, List.set_cons_zero, List.set_cons_succ]
          refine take_at (i := 14) (d := 26) (v := ?_) (by simp only [List.getElem?_toArray, List.getElem?_cons_succ, List.getElem?_cons_zero]; rfl) rfl (by kernel_rfl) (by kernel_rfl) (by kernel_rfl) (fun _ _ _ h => h) rfl ?_ (by assumption) ?_
          rotate_left
          focus (intro w hSw; obtain rfl : w = wr.drew := hSw.out; go_simp; (try with_reducible rfl); done)
          try simp only [List.setIfInBounds_toArray, List.set_cons_zero, List.set_cons_succ]
          refine wpAnyH_done (by kernel_rfl) ?_ _
          all_goals
            gi_wp2
            go_roundw
            case rel => exact ⟨j + 1, by omega, by go_num, hJ3, hide (fun v q hq h => hbw.out v q hq h)⟩
            case measure => simp [intOf]; omega
      · have h1 : ¬ (j : Int) < 512 := by omega
        obtain rfl : j = 512 := by omega
        gi_wp2
        go_end0
        exact ⟨⟨_, rfl⟩, .inl (by first | (rw [HF.out]; exact hJs) | exact ⟨_, HF.out.symm, hJs⟩)⟩
end Go.Proofs.Ytihdpfjonkagaaa
