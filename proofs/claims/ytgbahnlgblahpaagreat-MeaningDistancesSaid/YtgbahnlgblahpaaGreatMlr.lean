/- The closure root of Labels: a vertex's root; the way is made short; the roots stay. (printed by gen/mlr.py) -/
import Derived.Test.YtgbahnlgblahpaaGreatMrw
import Derived.Test.YtgbahnlgblahpaaGreatRgl
import Derived.WalkSpells
import Derived.WalkMore
import Derived.IntWalk
namespace Go.Proofs.YtgbahnlgblahpaaGreat
open Go.RowKit
set_option linter.unusedVariables false
set_option linter.unusedSimpArgs false
structure UpM (w : World) (Bu Br G n : Nat) (u : List Nat) : Prop where
  cu : w.cell? ⟨Bu, 0, none⟩ = some (.slice (some ⟨G, 0, none⟩) n n)
  cr : w.cell? ⟨Br, 0, none⟩ = some (.func (.func 33) #[] #[.pointer (some ⟨Bu, 0, none⟩), .pointer (some ⟨Br, 0, none⟩)])
  row : RowI w G 3 (natI u)
  len : u.length = n
def RootS (u u' : List Nat) : Prop := u'.length = u.length ∧ UpOk u' ∧ ∀ x, rootF u' x = rootF u x
theorem UpM.far {w w' : World} {Bu Br G n : Nat} {u u' : List Nat} (h : UpM w Bu Br G n u) (hf : FarG G w w') (hu : Bu ≠ G) (hr : Br ≠ G) (hrow : RowI w' G 3 (natI u')) (hl : u'.length = u.length) : UpM w' Bu Br G n u' :=
  ⟨(World.cell?_of_block (hf.block Bu hu hu)).trans h.cu, (World.cell?_of_block (hf.block Br hr hr)).trans h.cr, hrow, hl.trans h.len⟩
theorem UpM.drew {w : World} {Bu Br G n : Nat} {u : List Nat} (h : UpM w Bu Br G n u) : UpM w.drew Bu Br G n u := ⟨h.cu, h.cr, h.row, h.len⟩
def RootPost (G : Nat) (u : List Nat) (v : Nat) (w : World) (e : Ending) (w' : World) : Prop :=
  e = .returned (.int .i64 (rootF u v : Int)) ∧ ∃ u', RootS u u' ∧ upAt u' v = rootF u v ∧ RowI w' G 3 (natI u') ∧ FarG G w w'
set_option maxRecDepth 100000 in
set_option maxHeartbeats 4000000 in
theorem root_any (Bu Br G n : Nat) (hBu : Bu ≠ G) (hBr : Br ≠ G) (hn : n ≤ 512) : ∀ (N : Nat) (w : World) (u : List Nat) (v : Nat), v ≤ N → v < n → UpM w Bu Br G n u → UpOk u →
    Calls Tryz.prog 33 #[.int .i64 (v : Int), .pointer (some ⟨Bu, 0, none⟩), .pointer (some ⟨Br, 0, none⟩)] w (RootPost G u v w) := by
  intro N
  induction N with
  | zero => ?_
  | succ N ih => ?_
  all_goals
    intro w u v hvN hvn hM hU
    have hcu := hM.cu
    have hcr := hM.cr
    have hg := hM.row.cell (i := v) (by rw [natI_len, hM.len]; exact hvn)
    rw [natI_at (by rw [hM.len]; exact hvn)] at hg
    have hgt := hU v
    have hi0 : (0 : Int) ≤ (v : Int) := by omega
    have hi1 : (v : Int) < (n : Int) := by omega
    obtain ⟨p, hp⟩ : ∃ p, upAt u v = p := ⟨_, rfl⟩
    rw [hp] at hg hgt
    have HM := hide hM
    have HUp := hide hU
    have HP := hide hp
    clear hM hU hp
    by_cases hpv : p = v
    · subst hpv
      have HFin : Hid (RootPost G u p w (.returned (.int .i64 (p : Int))) w) := hide ⟨by rw [root_of_fix HP.out], u, ⟨rfl, HUp.out, fun _ => rfl⟩, by rw [root_of_fix HP.out]; exact HP.out, HM.out.row, FarS.refl _ _ _⟩
      go_enter Tryz.func33, Tryz.ntmps33
      go_wp2
      go_ret
      exact HFin.out
    · first
      | omega
      | (have hne : ¬ (p : Int) = (v : Int) := by omega
         have IH := hide ih
         have hpi : (0 : Int) ≤ (p : Int) := by omega
         have hle2 : p ≤ N := by omega
         have hvn2 : p < n := by omega
         have hroot : rootF u v = rootF u p := by rw [root_step (by rw [HP.out]; omega), HP.out]
         have HR := hide hroot
         clear ih hroot
         go_enter Tryz.func33, Tryz.ntmps33
         go_wp2_with fail
         refine wpL_region (S := (fun w9 : World => w9.cell? ⟨Bu, 0, none⟩ = some (.slice (some ⟨G, 0, none⟩) n n) ∧ w9.cell? ⟨Br, 0, none⟩ = some (.func (.func 33) #[] #[.pointer (some ⟨Bu, 0, none⟩), .pointer (some ⟨Br, 0, none⟩)]))) [9] (by kernel_rfl) ⟨hcu, hcr⟩ (fun hS0 => ?_)
         refine takeL_at (i := 0) (d := 11) (v := ?_) (by simp only [List.getElem?_toArray, List.getElem?_cons_succ, List.getElem?_cons_zero]; rfl) rfl (by kernel_rfl) (by kernel_rfl) (by kernel_rfl) (by kernel_rfl) (fun _ _ _ h => h) rfl ?_ (by assumption) ?_
         rotate_left
         focus (intro w hSw; go_simp; (try with_reducible rfl); done)
         try simp only [List.setIfInBounds_toArray, List.set_cons_zero, List.set_cons_succ]
         refine takeL_at (i := 1) (d := 12) (v := ?_) (by simp only [List.getElem?_toArray, List.getElem?_cons_succ, List.getElem?_cons_zero]; rfl) rfl (by kernel_rfl) (by kernel_rfl) (by kernel_rfl) (by kernel_rfl) (fun _ _ _ h => h) rfl ?_ (by assumption) ?_
         rotate_left
         focus (intro w hSw; go_simp; (try with_reducible rfl); done)
         try simp only [List.setIfInBounds_toArray, List.set_cons_zero, List.set_cons_succ]
         refine takeL_at (i := 2) (d := 13) (v := ?_) (by simp only [List.getElem?_toArray, List.getElem?_cons_succ, List.getElem?_cons_zero]; rfl) rfl (by kernel_rfl) (by kernel_rfl) (by kernel_rfl) (by kernel_rfl) (fun _ _ _ h => h) rfl ?_ (by assumption) ?_
         rotate_left
         focus (intro w hSw; go_simp; (try with_reducible rfl); done)
         try simp only [List.setIfInBounds_toArray, List.set_cons_zero, List.set_cons_succ]
         refine takeL_at (i := 3) (d := 14) (v := ?_) (by simp only [List.getElem?_toArray, List.getElem?_cons_succ, List.getElem?_cons_zero]; rfl) rfl (by kernel_rfl) (by kernel_rfl) (by kernel_rfl) (by kernel_rfl) (fun _ _ _ h => h) rfl ?_ (by assumption) ?_
         rotate_left
         focus (intro w hSw; go_simp; (try with_reducible rfl); done)
         try simp only [List.setIfInBounds_toArray, List.set_cons_zero, List.set_cons_succ]
         refine takeL_at (i := 4) (d := 15) (v := ?_) (by simp only [List.getElem?_toArray, List.getElem?_cons_succ, List.getElem?_cons_zero]; rfl) rfl (by kernel_rfl) (by kernel_rfl) (by kernel_rfl) (by kernel_rfl) (fun _ _ _ h => h) rfl ?_ (by assumption) ?_
         rotate_left
         focus (intro w hSw; go_simp; (try with_reducible rfl); done)
         try simp only [List.setIfInBounds_toArray, List.set_cons_zero, List.set_cons_succ]
         refine takeL_at (i := 5) (d := 16) (v := ?_) (by simp only [List.getElem?_toArray, List.getElem?_cons_succ, List.getElem?_cons_zero]; rfl) rfl (by kernel_rfl) (by kernel_rfl) (by kernel_rfl) (by kernel_rfl) (fun _ _ _ h => h) rfl ?_ (by assumption) ?_
         rotate_left
         focus (intro w hSw; go_simp; (try with_reducible rfl); done)
         try simp only [List.setIfInBounds_toArray, List.set_cons_zero, List.set_cons_succ]
         refine callL_at (i := 6) (d := 17) (by simp only [List.getElem?_toArray, List.getElem?_cons_succ, List.getElem?_cons_zero]; rfl) rfl (by kernel_rfl) rfl (fun K hK => ?_)
         go_simp
         refine hK.out _ _ hS0 (fun hSn => ?_)
         clear hK K
         try simp only [List.setIfInBounds_toArray, List.set_cons_zero, List.set_cons_succ]
         refine callL_at (i := 7) (d := 18) (by simp only [List.getElem?_toArray, List.getElem?_cons_succ, List.getElem?_cons_zero]; rfl) rfl (by kernel_rfl) rfl (fun K hK => ?_)
         go_simp
         refine (IH.out w.drew u p hle2 hvn2 HM.out.drew HUp.out).mono ?_
         rintro e y ⟨rfl, u1, hs1, hup1, hrow1, hf1⟩
         have hf1 := ((FarS.refl G G w).drew).trans hf1
         have hM1 := HM.out.far hf1 hBu hBr hrow1 hs1.1
         have hS1 : y.cell? ⟨Bu, 0, none⟩ = some (.slice (some ⟨G, 0, none⟩) n n) ∧ y.cell? ⟨Br, 0, none⟩ = some (.func (.func 33) #[] #[.pointer (some ⟨Bu, 0, none⟩), .pointer (some ⟨Br, 0, none⟩)]) := ⟨hM1.cu, hM1.cr⟩
         have HM1 := hide hM1
         have HS1 := hide hs1
         have HF1 := hide hf1
         have yfz := hM1.row.frozen v
         have yg := hM1.row.cell (i := v) (by rw [natI_len, hM1.len]; exact hvn)
         clear hM1 hs1 hf1 hrow1 hup1
         go_wp2_with fail
         refine hK.out _ _ hS1 (fun hSn => ?_)
         clear hK K
         try simp only [List.setIfInBounds_toArray, List.set_cons_zero, List.set_cons_succ]
         refine takeL_at (i := 8) (d := 19) (v := ?_) (by simp only [List.getElem?_toArray, List.getElem?_cons_succ, List.getElem?_cons_zero]; rfl) rfl (by kernel_rfl) (by kernel_rfl) (by kernel_rfl) (by kernel_rfl) (fun _ _ _ h => h) rfl ?_ (by assumption) ?_
         rotate_left
         focus (intro w hSw; go_simp; (try with_reducible rfl); done)
         try simp only [List.setIfInBounds_toArray, List.set_cons_zero, List.set_cons_succ]
         refine exL_at (i := 9) (by simp only [List.getElem?_toArray, List.getElem?_cons_succ, List.getElem?_cons_zero]; rfl) (by kernel_rfl) rfl (by kernel_rfl) (fun K hK => ?_)
         go_wp2_with fail
         refine hK.out _ _ ?_
         clear hK K
         try simp only [List.setIfInBounds_toArray, List.set_cons_zero, List.set_cons_succ]
         refine wpAnyL_done (by kernel_rfl) ?_ _
         obtain ⟨r, hr⟩ : ∃ r, rootF u p = r := ⟨_, rfl⟩
         rw [hr]
         have hset := hide (set_root HS1.out.2.1 v)
         have hrv : rootF u1 v = r := by rw [HS1.out.2.2 v, HR.out, hr]
         have hsn := HM1.out.row.set v (r : Int)
         rw [natI_set] at hsn
         have hu1l : v < u1.length := by rw [HM1.out.len]; exact hvn
         have hM2 : UpM (y.setCell ⟨G, v, none⟩ (.int .i64 (r : Int))) Bu Br G n (u1.set v r) := HM1.out.far ((FarS.refl G G y).set (.inl rfl) _) hBu hBr hsn (by simp)
         have hat : upAt (u1.set v r) v = r := by rw [upAt_set, if_pos ⟨rfl, hu1l⟩]
         have g2 := hsn.cell (i := v) (by rw [natI_len, List.length_set]; exact hu1l)
         rw [natI_at (by rw [List.length_set]; exact hu1l), hat] at g2
         have hc2 := hM2.cu
         have HFin : Hid (RootPost G u v w (.returned (.int .i64 (r : Int))) (y.setCell ⟨G, v, none⟩ (.int .i64 (r : Int)))) := hide ⟨by rw [HR.out, hr], u1.set v r, ⟨by rw [List.length_set]; exact HS1.out.1, set_ok HS1.out.2.1 (by rw [← hrv]; exact root_le _ _), fun x => by
           have h := hset.out x
           rw [hrv] at h
           rw [h]; exact HS1.out.2.2 x⟩, by rw [hat, HR.out, hr], hsn, HF1.out.trans ((FarS.refl G G y).set (.inl rfl) _)⟩
         clear hsn hM2 hat hrv hr hset hS1 hS0 hSn hcu hcr yg
         go_wp2
         go_ret
         exact HFin.out)
end Go.Proofs.YtgbahnlgblahpaaGreat
