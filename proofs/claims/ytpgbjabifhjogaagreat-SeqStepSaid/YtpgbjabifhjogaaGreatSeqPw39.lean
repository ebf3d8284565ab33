/- Lemmas: Qwk, Qlh, Qst, Mso. -/
import Derived.Test.YtpgbjabifhjogaaGreatProg
import Derived.Lib.Hide
import Derived.Shelf.SlicesE.Kit
import Derived.WalkSpells
import Derived.WalkMore
import Derived.Test.YtpgbjabifhjogaaGreatSeqPw37
import Derived.Test.YtpgbjabifhjogaaGreatSeqPw38
set_option linter.unusedVariables false
set_option linter.unusedSimpArgs false
set_option maxRecDepth 100000
set_option maxHeartbeats 16000000
namespace Go.Proofs.YtpgbjabifhjogaaGreat
open Go.RowKit Go.Shelf
attribute [local go_sem] Oper.semAt_some
def es3 : List Ed := [(0, 1, 4), (0, 2, 1), (2, 1, 2)]
def insI (x : Int) : List Int → List Int
 | [] => [x]
 | y :: l => if x ≤ y then x :: y :: l else y :: insI x l
def sorI (l : List Int) : List Int := l.foldr insI []
theorem insI_perm (x : Int) : ∀ l, (insI x l).Perm (x :: l)
 | [] => List.Perm.refl _
 | y :: l => by
  unfold insI
  split
  ·exact List.Perm.refl _
  ·exact ((insI_perm x l).cons y).trans (List.Perm.swap x y l)
theorem insI_up (x : Int) : ∀ {l : List Int}, l.Pairwise (· ≤ ·) → (insI x l).Pairwise (· ≤ ·)
 | [], _ => by simp [insI]
 | y :: l, h => by
  have h2 := List.pairwise_cons.1 h
  unfold insI
  split
  ·rename_i hx
   refine List.pairwise_cons.2 ⟨fun z hz => ?_, h⟩
   rcases List.mem_cons.1 hz with rfl | hz
   ·exact hx
   ·exact Int.le_trans hx (h2.1 z hz)
  ·rename_i hx
   refine List.pairwise_cons.2 ⟨fun z hz => ?_, insI_up x h2.2⟩
   rcases List.mem_cons.1 ((insI_perm x l).mem_iff.1 hz) with rfl | hz
   ·omega
   ·exact h2.1 z hz
theorem sorI_perm : ∀ l, (sorI l).Perm l
 | [] => List.Perm.refl _
 | x :: l => (insI_perm x (sorI l)).trans ((sorI_perm l).cons x)
theorem sorI_up : ∀ l, (sorI l).Pairwise (· ≤ ·)
 | [] => List.Pairwise.nil
 | x :: l => insI_up x (sorI_up l)
theorem pw_eq : ∀ {a b : List Int}, a.Pairwise (· ≤ ·) → b.Pairwise (· ≤ ·) → a.Perm b → a = b
 | [], b, _, _, h => (List.Perm.nil_eq h)
 | x :: a, [], _, _, h => (List.Perm.eq_nil h)
 | x :: a, y :: b, ha, hb, h => by
  have h1 := List.pairwise_cons.1 ha
  have h2 := List.pairwise_cons.1 hb
  have e : x = y := by
   have hx : x ∈ y :: b := h.mem_iff.1 (List.mem_cons_self ..)
   have hy : y ∈ x :: a := h.mem_iff.2 (List.mem_cons_self ..)
   rcases List.mem_cons.1 hx with e | hx
   ·exact e
   ·rcases List.mem_cons.1 hy with e | hy
    ·exact e.symm
    ·have := h1.1 y hy
     have := h2.1 x hx
     omega
  subst e
  rw [pw_eq h1.2 h2.2 (List.Perm.cons_inv h)]
theorem sortI_eq : sortI = sorI := funext fun l => pw_eq (sort_up l) (sorI_up l) ((List.mergeSort_perm l _).trans (sorI_perm l).symm)
theorem TillPost.lit {w : World} {V : Nat} {s : SV} {e : Ending} {w' : World} {t : Int} {l : List Int} (h : TillPost w 0 V s e w') (ht : s.st = t) (hl : s.vals = l) :
  ∃ Av Ac Ai cv cc ci sm mo, e = .returned (.tuple #[.agg #[.int .i64 t, .slice Av V cv, .slice Ac V cc, .slice Ai V ci, .int .i64 sm, .int .i64 mo], .int .i64 0]) ∧ Rd w' w'.heap.size Av (i64s l) ∧ Below w.heap.size w w' := by
 rcases h with ⟨h, _⟩ | ⟨_, Av, Ac, Ai, cv, cc, ci, rfl, hin, hb, _⟩
 ·exact absurd rfl h
 ·subst ht hl
  exact ⟨Av, Ac, Ai, cv, cc, ci, s.sm, s.mo, rfl, hin.vals, hb⟩
def WkPost (x : World) (t : Int) (l : List Int) (e : Ending) (w' : World) : Prop :=
  ∃ Av Ac Ai cv cc ci sm mo, e = .returned (.tuple #[.agg #[.int .i64 t, .slice Av 4 cv, .slice Ac 4 cc, .slice Ai 4 ci, .int .i64 sm, .int .i64 mo], .int .i64 0]) ∧ Rd w' w'.heap.size Av (i64s l) ∧ Below x.heap.size x w'
theorem lab2 : (atV 2 0 0 es3 4 2).vals = [0, 0, 0, 3] := by
 show (nextV 2 0 es3 4 (nextV 2 0 es3 4 (startV 2 0 es3 4))).vals = _
 delta nextV startV tellV toldM rowsV rowV sndD sndL lbMs nearF
 rw [sortI_eq]
 kernel_rfl
theorem lab1d : doneF 2 9 0 (atV 2 0 0 es3 4 1).st (atV 2 0 0 es3 4 1).mo = false := by
 show doneF 2 9 0 (nextV 2 0 es3 4 (startV 2 0 es3 4)).st (nextV 2 0 es3 4 (startV 2 0 es3 4)).mo = false
 delta nextV startV tellV toldM rowsV rowV sndD sndL lbMs nearF
 rw [sortI_eq]
 kernel_rfl
theorem lab2d : doneF 2 9 0 (atV 2 0 0 es3 4 2).st (atV 2 0 0 es3 4 2).mo = true := by
 show doneF 2 9 0 (nextV 2 0 es3 4 (nextV 2 0 es3 4 (startV 2 0 es3 4))).st (nextV 2 0 es3 4 (nextV 2 0 es3 4 (startV 2 0 es3 4))).mo = true
 delta nextV startV tellV toldM rowsV rowV sndD sndL lbMs nearF
 rw [sortI_eq]
 kernel_rfl
theorem lab_run : runN 2 9 0 0 0 es3 4 = 2 := by
 have h0 : doneF 2 9 0 (atV 2 0 0 es3 4 0).st (atV 2 0 0 es3 4 0).mo = false := by kernel_rfl
 have h1 := lab1d
 have h2 := lab2d
 show firstN (fun n => doneF 2 9 0 (atV 2 0 0 es3 4 n).st (atV 2 0 0 es3 4 n).mo) 9 = 2
 rw [firstN, if_neg (by rw [h0]; decide), firstN, if_neg (by show ¬ doneF 2 9 0 (atV 2 0 0 es3 4 1).st (atV 2 0 0 es3 4 1).mo = true; rw [h1]; decide), firstN, if_pos (show doneF 2 9 0 (atV 2 0 0 es3 4 2).st (atV 2 0 0 es3 4 2).mo = true from h2)]
theorem wk1 (x : World) (A : Option Addr) (hE : Eds x x.heap.size A es3) : Calls Tryz.prog 12 #[.agg #[.int .i64 4, .slice A 3 3], .agg #[.int .u8 3, .int .i64 9, .int .i64 0, .int .i64 0, .int .i64 0], .int .i64 1] x (WkPost x 1 [0, 4, 1, 4611686018427387904]) := by
 have h := qat_any x 4 A es3 3 3 rfl (by omega) hE 3 9 0 0 0 1 (fun _ => by omega)
 rw [show atE (acheckF 3 9 0 0 0 4 es3) 1 = 0 by kernel_rfl] at h
 exact h.mono fun e w' h => h.lit (by kernel_rfl) (by kernel_rfl)
theorem wk2 (x : World) (A : Option Addr) (hE : Eds x x.heap.size A es3) : Calls Tryz.prog 21 #[.agg #[.int .i64 4, .slice A 3 3], .agg #[.int .u8 3, .int .i64 9, .int .i64 0, .int .i64 0, .int .i64 0]] x (WkPost x 3 [0, 3, 1, 4611686018427387904]) := by
 have h := qrun_any x 4 A es3 3 3 rfl (by omega) hE 3 9 0 0 0 (fun _ => by omega)
 rw [show acheckF 3 9 0 0 0 4 es3 = 0 by kernel_rfl, show runN 3 9 0 0 0 es3 (4 : Int).toNat = 3 by kernel_rfl] at h
 exact h.mono fun e w' h => h.lit (by kernel_rfl) (by kernel_rfl)
theorem wk3 (x : World) (A : Option Addr) (hE : Eds x x.heap.size A es3) : Calls Tryz.prog 21 #[.agg #[.int .i64 4, .slice A 3 3], .agg #[.int .u8 2, .int .i64 9, .int .i64 0, .int .i64 0, .int .i64 0]] x (WkPost x 2 [0, 0, 0, 3]) := by
 have h := qrun_any x 4 A es3 3 3 rfl (by omega) hE 2 9 0 0 0 (fun _ => by omega)
 rw [show acheckF 2 9 0 0 0 4 es3 = 0 by kernel_rfl, show runN 2 9 0 0 0 es3 (4 : Int).toNat = 2 from lab_run] at h
 exact h.mono fun e w' h => h.lit (atV_st _ _ _ _ _ _) lab2
theorem wk4 (x : World) (A : Option Addr) (hE : Eds x x.heap.size A es3) : Calls Tryz.prog 21 #[.agg #[.int .i64 4, .slice A 3 3], .agg #[.int .u8 2, .int .i64 0, .int .i64 0, .int .i64 0, .int .i64 0]] x (WkPost x 0 [0, 1, 2, 3]) := by
 have h := qrun_any x 4 A es3 3 3 rfl (by omega) hE 2 0 0 0 0 (fun _ => by omega)
 rw [show acheckF 2 0 0 0 0 4 es3 = 0 by kernel_rfl, show runN 2 0 0 0 0 es3 (4 : Int).toNat = 0 by rfl] at h
 exact h.mono fun e w' h => h.lit (by kernel_rfl) (by kernel_rfl)
theorem wkE (w : World) : Eds (w.alloc (.cells #[.int .i64 0, .int .i64 1, .int .i64 4, .int .i64 0, .int .i64 2, .int .i64 1, .int .i64 2, .int .i64 1, .int .i64 2] 58)) (w.alloc (.cells #[.int .i64 0, .int .i64 1, .int .i64 4, .int .i64 0, .int .i64 2, .int .i64 1, .int .i64 2, .int .i64 1, .int .i64 2] 58)).heap.size (some ⟨w.heap.size, 0, none⟩) es3 := by
 refine Eds.of_rd ?_ (wt_of (by decide))
 have h := Rd.new w #[.int .i64 0, .int .i64 1, .int .i64 4, .int .i64 0, .int .i64 2, .int .i64 1, .int .i64 2, .int .i64 1, .int .i64 2] 58 (0, 0)
 rw [World.size_alloc]
 exact h
theorem rd4 (w : World) (a b c d : Int) : Rd (w.alloc (.cells #[.int .i64 a, .int .i64 b, .int .i64 c, .int .i64 d] 2)) (w.alloc (.cells #[.int .i64 a, .int .i64 b, .int .i64 c, .int .i64 d] 2)).heap.size (some ⟨w.heap.size, 0, none⟩) ([a, b, c, d].map (Value.int .i64)) := by
 have h := Rd.new w #[.int .i64 a, .int .i64 b, .int .i64 c, .int .i64 d] 2 (0, 0)
 rw [← show (w.alloc (.cells #[.int .i64 a, .int .i64 b, .int .i64 c, .int .i64 d] 2)).heap.size = w.heap.size + 1 by simp] at h
 exact h
theorem works_any (w : World) : Calls Tryz.prog 11 #[] w fun e w' => e = .returned (.bool true) ∧ Below w.heap.size w w' := by
 go_enter Tryz.func11, Tryz.ntmps11
 go_upto_region 3 with fail
 obtain ⟨v, hv⟩ : ∃ v, ((w.alloc (.cells #[.int .i64 0, .int .i64 1, .int .i64 4, .int .i64 0, .int .i64 2, .int .i64 1, .int .i64 2, .int .i64 1, .int .i64 2] 58)).alloc (.cells #[.int .i64 4, .slice (some ⟨w.heap.size, 0, none⟩) 3 3] 24)).alloc (.cells #[.int .u8 3, .int .i64 9, .int .i64 0, .int .i64 0, .int .i64 0] 26) = v := ⟨_, rfl⟩
 rw [hv]
 have HU := hide (allocs3 hv)
 have HE := hide (show Eds v v.heap.size (some ⟨w.heap.size, 0, none⟩) es3 from by rw [← hv]; exact (((wkE w).below ((Below.refl _ _).alloc (Nat.le_refl _) _ |>.alloc (by simp) _) (Nat.le_refl _)).more (by simp)))
 clear hv
 have hzv : v.heap.size = w.heap.size + 3 := HU.out.2.1
 have HB0 := hide HU.out.1
 have K1 := hide (show Below v.heap.size v v from Below.refl _ _)
 have c0 : v.cell? ⟨w.heap.size + 1, 0, none⟩ = some (.int .i64 4) := cell_of_row _ _ 0 _ _ _ ((K1.out.block _ (by omega)).trans HU.out.2.2.2.1)
 have c1 : v.cell? ⟨w.heap.size + 1, 1, none⟩ = some (.slice (some ⟨w.heap.size, 0, none⟩) 3 3) := cell_of_row _ _ 1 _ _ _ ((K1.out.block _ (by omega)).trans HU.out.2.2.2.1)
 have d0 : v.cell? ⟨w.heap.size + 1 + 1, 0, none⟩ = some (.int .u8 3) := cell_of_row _ _ 0 _ _ _ ((K1.out.block _ (by omega)).trans HU.out.2.2.2.2)
 have d1 : v.cell? ⟨w.heap.size + 1 + 1, 1, none⟩ = some (.int .i64 9) := cell_of_row _ _ 1 _ _ _ ((K1.out.block _ (by omega)).trans HU.out.2.2.2.2)
 have d2 : v.cell? ⟨w.heap.size + 1 + 1, 2, none⟩ = some (.int .i64 0) := cell_of_row _ _ 2 _ _ _ ((K1.out.block _ (by omega)).trans HU.out.2.2.2.2)
 have d3 : v.cell? ⟨w.heap.size + 1 + 1, 3, none⟩ = some (.int .i64 0) := cell_of_row _ _ 3 _ _ _ ((K1.out.block _ (by omega)).trans HU.out.2.2.2.2)
 have d4 : v.cell? ⟨w.heap.size + 1 + 1, 4, none⟩ = some (.int .i64 0) := cell_of_row _ _ 4 _ _ _ ((K1.out.block _ (by omega)).trans HU.out.2.2.2.2)
 have sz : v.heap.size ≤ v.heap.size := K1.out.size
 have z1 : w.heap.size + 1 < v.heap.size := by omega
 have z2 : w.heap.size + 1 + 1 < v.heap.size := by omega
 go_wp2_with fail
 refine (wk1 v _ ((HE.out.below K1.out (Nat.le_refl _)).more K1.out.size)).mono ?_
 rintro e y1 ⟨Av1, Ac1, Ai1, cv1, cc1, ci1, sm1, mo1, rfl, hr, hb⟩
 have HR1 := hide hr
 have HY1 := hide hb
 have sy1 : v.heap.size ≤ y1.heap.size := hb.size
 clear hr hb c0 c1 d0 d1 d2 d3 d4 z1 z2
 go_upto_region 4 with fail
 obtain ⟨a1, ha⟩ : ∃ q, y1.alloc (.cells #[.int .i64 1, .slice Av1 4 cv1, .slice Ac1 4 cc1, .slice Ai1 4 ci1, .int .i64 sm1, .int .i64 mo1] 33) = q := ⟨_, rfl⟩
 have HA1 := hide (show Below y1.heap.size y1 a1 by rw [← ha]; exact (Below.refl _ _).alloc (Nat.le_refl _) _)
 have HS1 := hide (show a1.heap[y1.heap.size]? = some (.cells #[.int .i64 1, .slice Av1 4 cv1, .slice Ac1 4 cc1, .slice Ai1 4 ci1, .int .i64 sm1, .int .i64 mo1] 33) by rw [← ha]; exact heap_alloc_last _ _)
 have sa1 : y1.heap.size + 1 ≤ a1.heap.size := by rw [← ha]; simp
 rw [ha]
 clear ha
 obtain ⟨T1, hT⟩ : ∃ q, y1.heap.size = q := ⟨_, rfl⟩
 have HT1 := hide hT
 rw [hT] at HS1 sa1 ⊢
 clear hT
 have KC1 := hide ((K1.out.trans (HY1.out.mono sz)).trans (HA1.out.mono (by omega)))
 have hst1 : T1 < a1.heap.size := by omega
 clear sz
 have K2 := hide (show Below v.heap.size v a1 from (KC1.out))
 have c0 : a1.cell? ⟨w.heap.size + 1, 0, none⟩ = some (.int .i64 4) := cell_of_row _ _ 0 _ _ _ ((K2.out.block _ (by omega)).trans HU.out.2.2.2.1)
 have c1 : a1.cell? ⟨w.heap.size + 1, 1, none⟩ = some (.slice (some ⟨w.heap.size, 0, none⟩) 3 3) := cell_of_row _ _ 1 _ _ _ ((K2.out.block _ (by omega)).trans HU.out.2.2.2.1)
 have d0 : a1.cell? ⟨w.heap.size + 1 + 1, 0, none⟩ = some (.int .u8 3) := cell_of_row _ _ 0 _ _ _ ((K2.out.block _ (by omega)).trans HU.out.2.2.2.2)
 have d1 : a1.cell? ⟨w.heap.size + 1 + 1, 1, none⟩ = some (.int .i64 9) := cell_of_row _ _ 1 _ _ _ ((K2.out.block _ (by omega)).trans HU.out.2.2.2.2)
 have d2 : a1.cell? ⟨w.heap.size + 1 + 1, 2, none⟩ = some (.int .i64 0) := cell_of_row _ _ 2 _ _ _ ((K2.out.block _ (by omega)).trans HU.out.2.2.2.2)
 have d3 : a1.cell? ⟨w.heap.size + 1 + 1, 3, none⟩ = some (.int .i64 0) := cell_of_row _ _ 3 _ _ _ ((K2.out.block _ (by omega)).trans HU.out.2.2.2.2)
 have d4 : a1.cell? ⟨w.heap.size + 1 + 1, 4, none⟩ = some (.int .i64 0) := cell_of_row _ _ 4 _ _ _ ((K2.out.block _ (by omega)).trans HU.out.2.2.2.2)
 have sz : v.heap.size ≤ a1.heap.size := K2.out.size
 have z1 : w.heap.size + 1 < a1.heap.size := by omega
 have z2 : w.heap.size + 1 + 1 < a1.heap.size := by omega
 go_wp2_with fail
 refine (wk2 a1 _ ((HE.out.below K2.out (Nat.le_refl _)).more K2.out.size)).mono ?_
 rintro e y2 ⟨Av2, Ac2, Ai2, cv2, cc2, ci2, sm2, mo2, rfl, hr, hb⟩
 have HR2 := hide hr
 have HY2 := hide hb
 have sy2 : a1.heap.size ≤ y2.heap.size := hb.size
 clear hr hb c0 c1 d0 d1 d2 d3 d4 z1 z2
 go_upto_region 5 with fail
 obtain ⟨a2, ha⟩ : ∃ q, y2.alloc (.cells #[.int .i64 3, .slice Av2 4 cv2, .slice Ac2 4 cc2, .slice Ai2 4 ci2, .int .i64 sm2, .int .i64 mo2] 33) = q := ⟨_, rfl⟩
 have HA2 := hide (show Below y2.heap.size y2 a2 by rw [← ha]; exact (Below.refl _ _).alloc (Nat.le_refl _) _)
 have HS2 := hide (show a2.heap[y2.heap.size]? = some (.cells #[.int .i64 3, .slice Av2 4 cv2, .slice Ac2 4 cc2, .slice Ai2 4 ci2, .int .i64 sm2, .int .i64 mo2] 33) by rw [← ha]; exact heap_alloc_last _ _)
 have sa2 : y2.heap.size + 1 ≤ a2.heap.size := by rw [← ha]; simp
 rw [ha]
 clear ha
 obtain ⟨T2, hT⟩ : ∃ q, y2.heap.size = q := ⟨_, rfl⟩
 have HT2 := hide hT
 rw [hT] at HS2 sa2 ⊢
 clear hT
 have KC2 := hide ((K2.out.trans (HY2.out.mono sz)).trans (HA2.out.mono (by omega)))
 have hst2 : T2 < a2.heap.size := by omega
 clear sz
 have K3 := hide (show Below v.heap.size v a2 from (KC2.out))
 have c0 : a2.cell? ⟨w.heap.size + 1, 0, none⟩ = some (.int .i64 4) := cell_of_row _ _ 0 _ _ _ ((K3.out.block _ (by omega)).trans HU.out.2.2.2.1)
 have c1 : a2.cell? ⟨w.heap.size + 1, 1, none⟩ = some (.slice (some ⟨w.heap.size, 0, none⟩) 3 3) := cell_of_row _ _ 1 _ _ _ ((K3.out.block _ (by omega)).trans HU.out.2.2.2.1)
 have d0 : a2.cell? ⟨w.heap.size + 1 + 1, 0, none⟩ = some (.int .u8 3) := cell_of_row _ _ 0 _ _ _ ((K3.out.block _ (by omega)).trans HU.out.2.2.2.2)
 have d1 : a2.cell? ⟨w.heap.size + 1 + 1, 1, none⟩ = some (.int .i64 9) := cell_of_row _ _ 1 _ _ _ ((K3.out.block _ (by omega)).trans HU.out.2.2.2.2)
 have d2 : a2.cell? ⟨w.heap.size + 1 + 1, 2, none⟩ = some (.int .i64 0) := cell_of_row _ _ 2 _ _ _ ((K3.out.block _ (by omega)).trans HU.out.2.2.2.2)
 have d3 : a2.cell? ⟨w.heap.size + 1 + 1, 3, none⟩ = some (.int .i64 0) := cell_of_row _ _ 3 _ _ _ ((K3.out.block _ (by omega)).trans HU.out.2.2.2.2)
 have d4 : a2.cell? ⟨w.heap.size + 1 + 1, 4, none⟩ = some (.int .i64 0) := cell_of_row _ _ 4 _ _ _ ((K3.out.block _ (by omega)).trans HU.out.2.2.2.2)
 have sz : v.heap.size ≤ a2.heap.size := K3.out.size
 have z1 : w.heap.size + 1 < a2.heap.size := by omega
 have z2 : w.heap.size + 1 + 1 < a2.heap.size := by omega
 go_wp2_with fail
 refine (wk3 a2 _ ((HE.out.below K3.out (Nat.le_refl _)).more K3.out.size)).mono ?_
 rintro e y3 ⟨Av3, Ac3, Ai3, cv3, cc3, ci3, sm3, mo3, rfl, hr, hb⟩
 have HR3 := hide hr
 have HY3 := hide hb
 have sy3 : a2.heap.size ≤ y3.heap.size := hb.size
 clear hr hb c0 c1 d0 d1 d2 d3 d4 z1 z2
 go_upto_region 6 with fail
 obtain ⟨a3, ha⟩ : ∃ q, y3.alloc (.cells #[.int .i64 2, .slice Av3 4 cv3, .slice Ac3 4 cc3, .slice Ai3 4 ci3, .int .i64 sm3, .int .i64 mo3] 33) = q := ⟨_, rfl⟩
 have HA3 := hide (show Below y3.heap.size y3 a3 by rw [← ha]; exact (Below.refl _ _).alloc (Nat.le_refl _) _)
 have HS3 := hide (show a3.heap[y3.heap.size]? = some (.cells #[.int .i64 2, .slice Av3 4 cv3, .slice Ac3 4 cc3, .slice Ai3 4 ci3, .int .i64 sm3, .int .i64 mo3] 33) by rw [← ha]; exact heap_alloc_last _ _)
 have sa3 : y3.heap.size + 1 ≤ a3.heap.size := by rw [← ha]; simp
 rw [ha]
 clear ha
 obtain ⟨T3, hT⟩ : ∃ q, y3.heap.size = q := ⟨_, rfl⟩
 have HT3 := hide hT
 rw [hT] at HS3 sa3 ⊢
 clear hT
 have KC3 := hide ((K3.out.trans (HY3.out.mono sz)).trans (HA3.out.mono (by omega)))
 have hst3 : T3 < a3.heap.size := by omega
 clear sz
 have K4 := hide (show Below v.heap.size v a3 from (KC3.out))
 have c0 : a3.cell? ⟨w.heap.size + 1, 0, none⟩ = some (.int .i64 4) := cell_of_row _ _ 0 _ _ _ ((K4.out.block _ (by omega)).trans HU.out.2.2.2.1)
 have c1 : a3.cell? ⟨w.heap.size + 1, 1, none⟩ = some (.slice (some ⟨w.heap.size, 0, none⟩) 3 3) := cell_of_row _ _ 1 _ _ _ ((K4.out.block _ (by omega)).trans HU.out.2.2.2.1)
 have d0 : a3.cell? ⟨w.heap.size + 1 + 1, 0, none⟩ = some (.int .u8 3) := cell_of_row _ _ 0 _ _ _ ((K4.out.block _ (by omega)).trans HU.out.2.2.2.2)
 have d1 : a3.cell? ⟨w.heap.size + 1 + 1, 1, none⟩ = some (.int .i64 9) := cell_of_row _ _ 1 _ _ _ ((K4.out.block _ (by omega)).trans HU.out.2.2.2.2)
 have d2 : a3.cell? ⟨w.heap.size + 1 + 1, 2, none⟩ = some (.int .i64 0) := cell_of_row _ _ 2 _ _ _ ((K4.out.block _ (by omega)).trans HU.out.2.2.2.2)
 have d3 : a3.cell? ⟨w.heap.size + 1 + 1, 3, none⟩ = some (.int .i64 0) := cell_of_row _ _ 3 _ _ _ ((K4.out.block _ (by omega)).trans HU.out.2.2.2.2)
 have d4 : a3.cell? ⟨w.heap.size + 1 + 1, 4, none⟩ = some (.int .i64 0) := cell_of_row _ _ 4 _ _ _ ((K4.out.block _ (by omega)).trans HU.out.2.2.2.2)
 have sz : v.heap.size ≤ a3.heap.size := K4.out.size
 have z1 : w.heap.size + 1 < a3.heap.size := by omega
 have z2 : w.heap.size + 1 + 1 < a3.heap.size := by omega
 go_wp2_with fail
 refine (wk4 a3 _ ((HE.out.below K4.out (Nat.le_refl _)).more K4.out.size)).mono ?_
 rintro e y4 ⟨Av4, Ac4, Ai4, cv4, cc4, ci4, sm4, mo4, rfl, hr, hb⟩
 have HR4 := hide hr
 have HY4 := hide hb
 have sy4 : a3.heap.size ≤ y4.heap.size := hb.size
 clear hr hb c0 c1 d0 d1 d2 d3 d4 z1 z2
 go_upto_region 7 with fail
 obtain ⟨a4, ha⟩ : ∃ q, y4.alloc (.cells #[.int .i64 0, .slice Av4 4 cv4, .slice Ac4 4 cc4, .slice Ai4 4 ci4, .int .i64 sm4, .int .i64 mo4] 33) = q := ⟨_, rfl⟩
 have HA4 := hide (show Below y4.heap.size y4 a4 by rw [← ha]; exact (Below.refl _ _).alloc (Nat.le_refl _) _)
 have HS4 := hide (show a4.heap[y4.heap.size]? = some (.cells #[.int .i64 0, .slice Av4 4 cv4, .slice Ac4 4 cc4, .slice Ai4 4 ci4, .int .i64 sm4, .int .i64 mo4] 33) by rw [← ha]; exact heap_alloc_last _ _)
 have sa4 : y4.heap.size + 1 ≤ a4.heap.size := by rw [← ha]; simp
 rw [ha]
 clear ha
 obtain ⟨T4, hT⟩ : ∃ q, y4.heap.size = q := ⟨_, rfl⟩
 have HT4 := hide hT
 rw [hT] at HS4 sa4 ⊢
 clear hT
 have KC4 := hide ((K4.out.trans (HY4.out.mono sz)).trans (HA4.out.mono (by omega)))
 have hst4 : T4 < a4.heap.size := by omega
 clear sz
 have Q1 : Hid (Below a1.heap.size a1 a4) := hide (by have h4 := HY4.out.trans (HA4.out.mono HY4.out.size); have h3 := HY3.out.trans (HA3.out.mono HY3.out.size); have h2 := HY2.out.trans (HA2.out.mono HY2.out.size); exact (h2.trans (h3.mono h2.size)).trans (h4.mono (Nat.le_trans h2.size h3.size)))
 have Q2 : Hid (Below a2.heap.size a2 a4) := hide (by have h4 := HY4.out.trans (HA4.out.mono HY4.out.size); have h3 := HY3.out.trans (HA3.out.mono HY3.out.size); exact h3.trans (h4.mono h3.size))
 have Q3 : Hid (Below a3.heap.size a3 a4) := hide (by have h4 := HY4.out.trans (HA4.out.mono HY4.out.size); exact h4)
 have Q4 : Hid (Below a4.heap.size a4 a4) := hide (by exact Below.refl _ _)
 have N0 := hide (Below.refl a4.heap.size a4)
 have sz : a4.heap.size ≤ a4.heap.size := N0.out.size
 have szq := Q1.out.size
 have GS := (N0.out.block T1 (by omega)).trans ((Q1.out.block T1 hst1).trans HS1.out)
 have s0 : a4.cell? ⟨T1, 0, none⟩ = some (.int .i64 1) := cell_of_row _ _ 0 _ _ _ GS
 have s1 : a4.cell? ⟨T1, 1, none⟩ = some (.slice Av1 4 cv1) := cell_of_row _ _ 1 _ _ _ GS
 have hz : T1 < a4.heap.size := by omega
 clear GS szq
 go_wp2_with fail
 have hn := N0.out.alloc sz (.cells #[.int .i64 0, .int .i64 4, .int .i64 1, .int .i64 4611686018427387904] 2)
 have hcall := same64_any (a4.alloc (.cells #[.int .i64 0, .int .i64 4, .int .i64 1, .int .i64 4611686018427387904] 2)) Av1 (some ⟨a4.heap.size, 0, none⟩) [0, 4, 1, 4611686018427387904] [0, 4, 1, 4611686018427387904] 4 4 cv1 4 rfl rfl (by omega) (((HR1.out.next HA1.out).next Q1.out).next hn) (rd4 a4 0 4 1 4611686018427387904)
 rw [show eqL ([0, 4, 1, 4611686018427387904] : List Int) [0, 4, 1, 4611686018427387904] = true by decide] at hcall
 have HC := hide hcall
 have HN := hide hn
 clear hcall hn
 refine HC.out.mono ?_
 rintro e n1 ⟨rfl, hb⟩
 have N1 := hide (HN.out.trans (hb.mono HN.out.size))
 clear hb HC HN s0 s1 hz sz
 have sz : a4.heap.size ≤ n1.heap.size := N1.out.size
 have szq := Q2.out.size
 have GS := (N1.out.block T2 (by omega)).trans ((Q2.out.block T2 hst2).trans HS2.out)
 have s0 : n1.cell? ⟨T2, 0, none⟩ = some (.int .i64 3) := cell_of_row _ _ 0 _ _ _ GS
 have s1 : n1.cell? ⟨T2, 1, none⟩ = some (.slice Av2 4 cv2) := cell_of_row _ _ 1 _ _ _ GS
 have hz : T2 < n1.heap.size := by omega
 clear GS szq
 go_wp2_with fail
 have hn := N1.out.alloc sz (.cells #[.int .i64 0, .int .i64 3, .int .i64 1, .int .i64 4611686018427387904] 2)
 have hcall := same64_any (n1.alloc (.cells #[.int .i64 0, .int .i64 3, .int .i64 1, .int .i64 4611686018427387904] 2)) Av2 (some ⟨n1.heap.size, 0, none⟩) [0, 3, 1, 4611686018427387904] [0, 3, 1, 4611686018427387904] 4 4 cv2 4 rfl rfl (by omega) (((HR2.out.next HA2.out).next Q2.out).next hn) (rd4 n1 0 3 1 4611686018427387904)
 rw [show eqL ([0, 3, 1, 4611686018427387904] : List Int) [0, 3, 1, 4611686018427387904] = true by decide] at hcall
 have HC := hide hcall
 have HN := hide hn
 clear hcall hn
 refine HC.out.mono ?_
 rintro e n2 ⟨rfl, hb⟩
 have N2 := hide (HN.out.trans (hb.mono HN.out.size))
 clear hb HC HN s0 s1 hz sz
 have sz : a4.heap.size ≤ n2.heap.size := N2.out.size
 have szq := Q3.out.size
 have GS := (N2.out.block T3 (by omega)).trans ((Q3.out.block T3 hst3).trans HS3.out)
 have s0 : n2.cell? ⟨T3, 0, none⟩ = some (.int .i64 2) := cell_of_row _ _ 0 _ _ _ GS
 have s1 : n2.cell? ⟨T3, 1, none⟩ = some (.slice Av3 4 cv3) := cell_of_row _ _ 1 _ _ _ GS
 have hz : T3 < n2.heap.size := by omega
 clear GS szq
 go_wp2_with fail
 have hn := N2.out.alloc sz (.cells #[.int .i64 0, .int .i64 0, .int .i64 0, .int .i64 3] 2)
 have hcall := same64_any (n2.alloc (.cells #[.int .i64 0, .int .i64 0, .int .i64 0, .int .i64 3] 2)) Av3 (some ⟨n2.heap.size, 0, none⟩) [0, 0, 0, 3] [0, 0, 0, 3] 4 4 cv3 4 rfl rfl (by omega) (((HR3.out.next HA3.out).next Q3.out).next hn) (rd4 n2 0 0 0 3)
 rw [show eqL ([0, 0, 0, 3] : List Int) [0, 0, 0, 3] = true by decide] at hcall
 have HC := hide hcall
 have HN := hide hn
 clear hcall hn
 refine HC.out.mono ?_
 rintro e n3 ⟨rfl, hb⟩
 have N3 := hide (HN.out.trans (hb.mono HN.out.size))
 clear hb HC HN s0 s1 hz sz
 have sz : a4.heap.size ≤ n3.heap.size := N3.out.size
 have szq := Q4.out.size
 have GS := (N3.out.block T4 (by omega)).trans ((Q4.out.block T4 hst4).trans HS4.out)
 have s0 : n3.cell? ⟨T4, 0, none⟩ = some (.int .i64 0) := cell_of_row _ _ 0 _ _ _ GS
 have s1 : n3.cell? ⟨T4, 1, none⟩ = some (.slice Av4 4 cv4) := cell_of_row _ _ 1 _ _ _ GS
 have hz : T4 < n3.heap.size := by omega
 clear GS szq
 go_wp2_with fail
 have hn := N3.out.alloc sz (.cells #[.int .i64 0, .int .i64 1, .int .i64 2, .int .i64 3] 2)
 have hcall := same64_any (n3.alloc (.cells #[.int .i64 0, .int .i64 1, .int .i64 2, .int .i64 3] 2)) Av4 (some ⟨n3.heap.size, 0, none⟩) [0, 1, 2, 3] [0, 1, 2, 3] 4 4 cv4 4 rfl rfl (by omega) (((HR4.out.next HA4.out).next Q4.out).next hn) (rd4 n3 0 1 2 3)
 rw [show eqL ([0, 1, 2, 3] : List Int) [0, 1, 2, 3] = true by decide] at hcall
 have HC := hide hcall
 have HN := hide hn
 clear hcall hn
 refine HC.out.mono ?_
 rintro e n4 ⟨rfl, hb⟩
 have N4 := hide (HN.out.trans (hb.mono HN.out.size))
 clear hb HC HN s0 s1 hz sz
 go_wp2
 go_ret
 exact ⟨rfl, (HB0.out.trans (KC4.out.mono (by omega))).trans (N4.out.mono (by have := KC4.out.size; omega))⟩
end Go.Proofs.YtpgbjabifhjogaaGreat
namespace Go.Proofs.YtpgbjabifhjogaaGreat
open Go.RowKit Go.Shelf
attribute [local go_sem] Oper.semAt_some
theorem sameV_rfl (p : SV) : sameV p p = true := by simp [sameV, eqL]
def lit12 (V : Int) (es : List Ed) : Bool := decide ((es.length : Int) ≤ 80) && (decide (V ≤ 12) || decide (checkF V es ≠ 0))
theorem lit12_le {V : Int} {es : List Ed} (h : lit12 V es = true) : es.length ≤ 80 := by
 unfold lit12 at h
 simp only [Bool.and_eq_true, decide_eq_true_eq] at h
 omega
def zeroV : SV := ⟨0, [], [], [], 0, 0⟩
def resV (E : Int) (s : SV) : SV := if E = 0 then s else zeroV
theorem TillPost.val {w : World} {E : Int} {V : Nat} {s : SV} {e : Ending} {w' : World} (h : TillPost w E V s e w') (hs : E = 0 → OkS V s ∧ V ≤ 512) :
  ∃ Av Ac Ai nv nc ni cv cc ci, e = .returned (.tuple #[.agg #[.int .i64 (resV E s).st, .slice Av nv cv, .slice Ac nc cc, .slice Ai ni ci, .int .i64 (resV E s).sm, .int .i64 (resV E s).mo], .int .i64 E]) ∧ VLen (resV E s) nv nc ni ∧ VIn w' (resV E s) Av Ac Ai ∧ Below w.heap.size w w' ∧ nv ≤ 512 ∧ nc ≤ 512 ∧ ni ≤ 512 := by
 rcases h with ⟨h, he, hb⟩ | ⟨h, Av, Ac, Ai, cv, cc, ci, he, hin, hb, _⟩
 ·rw [show resV E s = zeroV from if_neg h]
  exact ⟨none, none, none, 0, 0, 0, 0, 0, 0, he, ⟨rfl, rfl, rfl⟩, ⟨fun hn => absurd rfl hn, fun hn => absurd rfl hn, fun hn => absurd rfl hn⟩, hb, by omega, by omega, by omega⟩
 ·subst h
  rw [show resV 0 s = s from if_pos rfl]
  have hk := hs rfl
  exact ⟨Av, Ac, Ai, V, V, V, cv, cc, ci, he, ⟨hk.1.lv, hk.1.lc, hk.1.li⟩, hin, hb, hk.2, hk.2, hk.2⟩
theorem lightq_any (w : World) (V : Int) (A : Option Addr) (es : List Ed) (L c : Nat) (hL : es.length = L) (hL9 : L ≤ 9223372036854775807) (hE : Eds w w.heap.size A es) : Calls Tryz.prog 10 #[.agg #[.int .i64 V, .slice A L c]] w fun e w' => e = .returned (.bool (lit12 V es)) ∧ Below w.heap.size w w' := by
 have HL := hide hL
 have HE := hide hE
 clear hL hE
 obtain ⟨u, hu⟩ : ∃ u, w.alloc (.cells #[.int .i64 V, .slice A L c] 24) = u := ⟨_, rfl⟩
 have HB := hide (show Below w.heap.size w u by rw [← hu]; exact (Below.refl _ _).alloc (Nat.le_refl _) _)
 have hz : w.heap.size < u.heap.size := by rw [← hu]; simp
 have hG : u.heap[w.heap.size]? = some (.cells #[.int .i64 V, .slice A L c] 24) := by rw [← hu]; exact heap_alloc_last _ _
 have HG := hide hG
 have HU := hide hu
 have c0 : u.cell? ⟨w.heap.size, 0, none⟩ = some (.int .i64 V) := cell_of_row _ _ 0 _ _ _ hG
 have c1 : u.cell? ⟨w.heap.size, 1, none⟩ = some (.slice A L c) := cell_of_row _ _ 1 _ _ _ hG
 clear hu hG
 rcases hv : lit12 V es with _ | _
 ·by_cases h8 : L ≤ 80
  rotate_left
  ·clear hv
   have hlc := light_any u V A L c 80
   rw [show decide ((L : Int) ≤ 80) = false by simp; omega] at hlc
   have HLC := hide hlc
   clear hlc
   go_enter Tryz.func10, Tryz.ntmps10
   go_upto_region 1 with fail
   rw [HU.out]
   go_wp2_with fail
   refine HLC.out.mono ?_
   rintro e y ⟨rfl, hy⟩
   have HY := hide hy
   have szy : u.heap.size ≤ y.heap.size := hy.size
   clear hy c0 c1
   have HF := hide (HB.out.trans (HY.out.mono HB.out.size))
   go_wp2
   go_ret
   first | exact ⟨rfl, HF.out⟩ | exact ⟨ret_b (by simp [h12]), HF.out⟩
  have h12 : ¬ V ≤ 12 := by intro h; simp [lit12, HL.out, h] at hv; omega
  have hc0 : checkF V es = 0 := by simp [lit12, HL.out] at hv; omega
  clear hv
  have hlc := light_any u V A L c 80
  rw [show decide ((L : Int) ≤ 80) = true by simp; omega] at hlc
  have HLC := hide hlc
  clear hlc
  go_enter Tryz.func10, Tryz.ntmps10
  go_upto_region 1 with fail
  rw [HU.out]
  go_wp2_with fail
  refine HLC.out.mono ?_
  rintro e y ⟨rfl, hy⟩
  have HY := hide hy
  have szy : u.heap.size ≤ y.heap.size := hy.size
  clear hy c0 c1
  have zy : w.heap.size < y.heap.size := by omega
  have c0 : y.cell? ⟨w.heap.size, 0, none⟩ = some (.int .i64 V) := cell_of_row _ _ 0 _ _ _ ((HY.out.block _ hz).trans HG.out)
  have c1 : y.cell? ⟨w.heap.size, 1, none⟩ = some (.slice A L c) := cell_of_row _ _ 1 _ _ _ ((HY.out.block _ hz).trans HG.out)
  have hck := rcheck_any y V A es L c HL.out ((HE.out.below (HB.out.trans (HY.out.mono HB.out.size)) (Nat.le_refl _)).more (HB.out.trans (HY.out.mono HB.out.size)).size) hL9
  rw [hc0] at hck
  have HCK := hide hck
  clear hck hc0
  go_wp2_with fail
  refine HCK.out.mono ?_
  rintro e z ⟨rfl, hzz⟩
  have HF := hide ((HB.out.trans (HY.out.mono HB.out.size)).trans (hzz.mono (by have := HB.out.size; omega)))
  clear hzz
  go_wp2
  go_ret
  first | exact ⟨rfl, HF.out⟩ | exact ⟨ret_b (by simp [h12]), HF.out⟩
 ·have h8 : L ≤ 80 := by have := lit12_le hv; have := HL.out; omega
  by_cases h12 : V ≤ 12
  ·clear hv
   have hlc := light_any u V A L c 80
   rw [show decide ((L : Int) ≤ 80) = true by simp; omega] at hlc
   have HLC := hide hlc
   clear hlc
   go_enter Tryz.func10, Tryz.ntmps10
   go_upto_region 1 with fail
   rw [HU.out]
   go_wp2_with fail
   refine HLC.out.mono ?_
   rintro e y ⟨rfl, hy⟩
   have HY := hide hy
   have szy : u.heap.size ≤ y.heap.size := hy.size
   clear hy c0 c1
   have zy : w.heap.size < y.heap.size := by omega
   have c0 : y.cell? ⟨w.heap.size, 0, none⟩ = some (.int .i64 V) := cell_of_row _ _ 0 _ _ _ ((HY.out.block _ hz).trans HG.out)
   have c1 : y.cell? ⟨w.heap.size, 1, none⟩ = some (.slice A L c) := cell_of_row _ _ 1 _ _ _ ((HY.out.block _ hz).trans HG.out)
   have HF := hide (HB.out.trans (HY.out.mono HB.out.size))
   go_wp2
   go_ret
   first | exact ⟨rfl, HF.out⟩ | exact ⟨ret_b (by simp [h12]), HF.out⟩
  ·have hc0 : checkF V es ≠ 0 := by simp [lit12, HL.out] at hv; omega
   clear hv
   have hlc := light_any u V A L c 80
   rw [show decide ((L : Int) ≤ 80) = true by simp; omega] at hlc
   have HLC := hide hlc
   clear hlc
   go_enter Tryz.func10, Tryz.ntmps10
   go_upto_region 1 with fail
   rw [HU.out]
   go_wp2_with fail
   refine HLC.out.mono ?_
   rintro e y ⟨rfl, hy⟩
   have HY := hide hy
   have szy : u.heap.size ≤ y.heap.size := hy.size
   clear hy c0 c1
   have zy : w.heap.size < y.heap.size := by omega
   have c0 : y.cell? ⟨w.heap.size, 0, none⟩ = some (.int .i64 V) := cell_of_row _ _ 0 _ _ _ ((HY.out.block _ hz).trans HG.out)
   have c1 : y.cell? ⟨w.heap.size, 1, none⟩ = some (.slice A L c) := cell_of_row _ _ 1 _ _ _ ((HY.out.block _ hz).trans HG.out)
   have hck := rcheck_any y V A es L c HL.out ((HE.out.below (HB.out.trans (HY.out.mono HB.out.size)) (Nat.le_refl _)).more (HB.out.trans (HY.out.mono HB.out.size)).size) hL9
   obtain ⟨E, hEe⟩ : ∃ E, checkF V es = E := ⟨_, rfl⟩
   rw [hEe] at hck hc0
   have hE1 : (E == 0) = false := by simpa using hc0
   have hE2 : (E != 0) = true := by simpa using hc0
   have HCK := hide hck
   clear hck hc0
   clear hEe
   go_wp2_with fail
   refine HCK.out.mono ?_
   rintro e z ⟨rfl, hzz⟩
   have HF := hide ((HB.out.trans (HY.out.mono HB.out.size)).trans (hzz.mono (by have := HB.out.size; omega)))
   clear hzz
   go_wp2
   go_ret
   first | exact ⟨rfl, HF.out⟩ | exact ⟨ret_b (by simp [h12]), HF.out⟩
end Go.Proofs.YtpgbjabifhjogaaGreat
namespace Go.Proofs.YtpgbjabifhjogaaGreat
open Go.RowKit Go.Shelf
attribute [local go_sem] Oper.semAt_some
def stepE (E V : Int) (p : SV) : Int := if E ≠ 0 then E else if mayV V p = false ∨ p.st = 2000 then 4 else 0
theorem mayV_ok {V : Int} {p : SV} (h : mayV V p = true) (hb : ∀ m ∈ p.inb, i64V m.2) : (p.vals.length : Int) = V ∧ (p.chg.length : Int) = V ∧ (p.inb.length : Int) = V ∧ 0 ≤ p.st ∧ p.st ≤ 2000 ∧ OkS V.toNat p := by
 unfold mayV at h
 simp only [Bool.and_eq_true, decide_eq_true_eq] at h
 obtain ⟨⟨⟨⟨⟨⟨⟨⟨h1, h2⟩, h3⟩, h4⟩, h5⟩, h6⟩, h7⟩, h8⟩, h9⟩ := h
 refine ⟨h3, h4, h5, h1, h2, ⟨by omega, by omega, by omega, fun x hx => ?_, hb, ?_⟩⟩
 ·have := List.all_eq_true.1 h8 x hx
  simp only [wiB, Bool.and_eq_true, decide_eq_true_eq] at this
  unfold i64V
  omega
 ·simp only [wiB, Bool.and_eq_true, decide_eq_true_eq] at h6
  unfold i64V
  omega
theorem qrstep_any (w : World) (V : Int) (A : Option Addr) (es : List Ed) (L c : Nat) (hL : es.length = L) (hL9 : L ≤ 9223372036854775807) (hE : Eds w w.heap.size A es) (k j1 j2 j3 j4 : Int) (hG : acheckF k j1 j2 j3 j4 V es = 0 → L ≤ 80) (p : SV) (Av Ac Ai : Option Addr) (nv nc ni cv cc ci : Nat) (hl : VLen p nv nc ni) (hi : VIn w p Av Ac Ai) (hbi : ∀ m ∈ p.inb, i64V m.2) (bv : nv ≤ 9223372036854775807) (bi : ni ≤ 9223372036854775807) :
  Calls Tryz.prog 20 #[.agg #[.int .i64 V, .slice A L c], .agg #[.int .u8 k, .int .i64 j1, .int .i64 j2, .int .i64 j3, .int .i64 j4], .agg #[.int .i64 p.st, .slice Av nv cv, .slice Ac nc cc, .slice Ai ni ci, .int .i64 p.sm, .int .i64 p.mo]] w (TillPost w (stepE (acheckF k j1 j2 j3 j4 V es) V p) V.toNat (nextV k j3 es V.toNat p)) := by
 have HL := hide hL
 have HE := hide hE
 have HG := hide hG
 have HVL := hide hl
 have HVI := hide hi
 clear hL hE hG hl hi
 obtain ⟨E, hEe⟩ : ∃ E, acheckF k j1 j2 j3 j4 V es = E := ⟨_, rfl⟩
 have HEe := hide hEe
 clear hEe
 by_cases hE0 : E = 0
 rotate_left
 ·have hE1 : (E == 0) = false := by simpa using hE0
  have hE2 : (E != 0) = true := by simpa using hE0
  have HN0 := hide hE0
  have HNE : Hid (acheckF k j1 j2 j3 j4 V es ≠ 0) := hide (by rw [HEe.out]; exact hE0)
  clear hE0
  rw [show stepE (acheckF k j1 j2 j3 j4 V es) V p = E by rw [HEe.out, stepE, if_pos HN0.out]]
  go_enter Tryz.func20, Tryz.ntmps20
  go_upto_region 1 with fail
  obtain ⟨u, hu⟩ : ∃ u, (((w.alloc (.cells #[.int .i64 V, .slice A L c] 24)).alloc (.cells #[.int .u8 k, .int .i64 j1, .int .i64 j2, .int .i64 j3, .int .i64 j4] 26)).alloc (.cells #[.int .i64 p.st, .slice Av nv cv, .slice Ac nc cc, .slice Ai ni ci, .int .i64 p.sm, .int .i64 p.mo] 33)).alloc (.cells #[.int .i64 0, .slice none 0 0, .slice none 0 0, .slice none 0 0, .int .i64 0, .int .i64 0] 33) = u := ⟨_, rfl⟩
  rw [hu]
  have HU := hide (allocs4 hu)
  clear hu
  have hzu : u.heap.size = w.heap.size + 4 := HU.out.2.1
  have c0 : u.cell? ⟨w.heap.size, 0, none⟩ = some (.int .i64 V) := cell_of_row _ _ 0 _ _ _ HU.out.2.2.1
  have c1 : u.cell? ⟨w.heap.size, 1, none⟩ = some (.slice A L c) := cell_of_row _ _ 1 _ _ _ HU.out.2.2.1
  have d0 : u.cell? ⟨w.heap.size + 1, 0, none⟩ = some (.int .u8 k) := cell_of_row _ _ 0 _ _ _ HU.out.2.2.2.1
  have d1 : u.cell? ⟨w.heap.size + 1, 1, none⟩ = some (.int .i64 j1) := cell_of_row _ _ 1 _ _ _ HU.out.2.2.2.1
  have d2 : u.cell? ⟨w.heap.size + 1, 2, none⟩ = some (.int .i64 j2) := cell_of_row _ _ 2 _ _ _ HU.out.2.2.2.1
  have d3 : u.cell? ⟨w.heap.size + 1, 3, none⟩ = some (.int .i64 j3) := cell_of_row _ _ 3 _ _ _ HU.out.2.2.2.1
  have d4 : u.cell? ⟨w.heap.size + 1, 4, none⟩ = some (.int .i64 j4) := cell_of_row _ _ 4 _ _ _ HU.out.2.2.2.1
  have hz0 : w.heap.size < u.heap.size := by omega
  have hz1 : w.heap.size + 1 < u.heap.size := by omega
  have hb0 := racheck_any u k j1 j2 j3 j4 V A es L c HL.out ((HE.out.below HU.out.1 (Nat.le_refl _)).more HU.out.1.size) hL9
  rw [HEe.out] at hb0
  have HB0 := hide hb0
  clear hb0
  go_wp2_with fail
  refine HB0.out.mono ?_
  rintro e y ⟨rfl, hy⟩
  clear c0 c1 d0 d1 d2 d3 d4 hz0 hz1
  have HY := hide hy
  have syu : u.heap.size ≤ y.heap.size := hy.size
  clear hy
  have HRow := hide (((HY.out.block _ (by omega)).trans HU.out.2.2.2.2.2))
  have hRz : w.heap.size + 1 + 1 + 1 < y.heap.size := by omega
  have q0 : y.cell? ⟨w.heap.size + 1 + 1 + 1, 0, none⟩ = some (.int .i64 0) := cell_of_row _ _ 0 _ _ _ HRow.out
  have q1 : y.cell? ⟨w.heap.size + 1 + 1 + 1, 1, none⟩ = some (.slice none 0 0) := cell_of_row _ _ 1 _ _ _ HRow.out
  have q2 : y.cell? ⟨w.heap.size + 1 + 1 + 1, 2, none⟩ = some (.slice none 0 0) := cell_of_row _ _ 2 _ _ _ HRow.out
  have q3 : y.cell? ⟨w.heap.size + 1 + 1 + 1, 3, none⟩ = some (.slice none 0 0) := cell_of_row _ _ 3 _ _ _ HRow.out
  have q4 : y.cell? ⟨w.heap.size + 1 + 1 + 1, 4, none⟩ = some (.int .i64 0) := cell_of_row _ _ 4 _ _ _ HRow.out
  have q5 : y.cell? ⟨w.heap.size + 1 + 1 + 1, 5, none⟩ = some (.int .i64 0) := cell_of_row _ _ 5 _ _ _ HRow.out
  have f0 : y.frozen? ⟨w.heap.size + 1 + 1 + 1, 0, none⟩ = false := frozen_of_row _ _ 0 _ _ HRow.out
  have f1 : y.frozen? ⟨w.heap.size + 1 + 1 + 1, 1, none⟩ = false := frozen_of_row _ _ 1 _ _ HRow.out
  have f2 : y.frozen? ⟨w.heap.size + 1 + 1 + 1, 2, none⟩ = false := frozen_of_row _ _ 2 _ _ HRow.out
  have f3 : y.frozen? ⟨w.heap.size + 1 + 1 + 1, 3, none⟩ = false := frozen_of_row _ _ 3 _ _ HRow.out
  have f4 : y.frozen? ⟨w.heap.size + 1 + 1 + 1, 4, none⟩ = false := frozen_of_row _ _ 4 _ _ HRow.out
  have f5 : y.frozen? ⟨w.heap.size + 1 + 1 + 1, 5, none⟩ = false := frozen_of_row _ _ 5 _ _ HRow.out
  go_wp2
  obtain ⟨wf, hwf⟩ : ∃ q, (((((y.setCell ⟨w.heap.size + 1 + 1 + 1, 0, none⟩ (.int .i64 0)).setCell ⟨w.heap.size + 1 + 1 + 1, 1, none⟩ (.slice none 0 0)).setCell ⟨w.heap.size + 1 + 1 + 1, 2, none⟩ (.slice none 0 0)).setCell ⟨w.heap.size + 1 + 1 + 1, 3, none⟩ (.slice none 0 0)).setCell ⟨w.heap.size + 1 + 1 + 1, 4, none⟩ (.int .i64 0)).setCell ⟨w.heap.size + 1 + 1 + 1, 5, none⟩ (.int .i64 0) = q := ⟨_, rfl⟩
  have hF := far6 y (w.heap.size + 1 + 1 + 1) (w.heap.size + 1 + 1 + 1) (.int .i64 0) (.slice none 0 0) (.slice none 0 0) (.slice none 0 0) (.int .i64 0) (.int .i64 0) HRow.out
  rw [hwf] at hF ⊢
  obtain ⟨FF, HFY⟩ := hF
  obtain ⟨y0, y1, y2, y3, y4, y5⟩ := cells6 HFY
  clear hwf HFY
  exact bodyPost_ret (v := .tuple #[.agg #[.int .i64 0, .slice none 0 0, .slice none 0 0, .slice none 0 0, .int .i64 0, .int .i64 0], .int .i64 E]) (by simp [results, Tryz.results20, go_sem, y0, y1, y2, y3, y4, y5]) rfl (.inl ⟨HN0.out, rfl, (HU.out.1.trans (HY.out.mono (by omega))).trans (FF.below (by omega) (by omega))⟩)
 subst hE0
 have HEe0 := HEe.out
 obtain ⟨⟨hV1, hV, hEB⟩, _⟩ := acheck_ok HEe0
 have hL5 := HG.out HEe0
 clear HEe0
 rcases hm : mayV V p with _ | _
 ·have HMV := hide hm
  rw [show stepE (acheckF k j1 j2 j3 j4 V es) V p = 4 by rw [HEe.out, stepE, if_neg (fun h => h rfl), if_pos (.inl hm)]]
  obtain ⟨V, rfl⟩ : ∃ q : Nat, V = (q : Int) := ⟨V.toNat, by omega⟩
  rw [show ((V : Int)).toNat = V from rfl]
  have hV : V ≤ 512 := by omega
  clear hm
  go_enter Tryz.func20, Tryz.ntmps20
  go_upto_region 1 with fail
  obtain ⟨u, hu⟩ : ∃ u, (((w.alloc (.cells #[.int .i64 (V : Int), .slice A L c] 24)).alloc (.cells #[.int .u8 k, .int .i64 j1, .int .i64 j2, .int .i64 j3, .int .i64 j4] 26)).alloc (.cells #[.int .i64 p.st, .slice Av nv cv, .slice Ac nc cc, .slice Ai ni ci, .int .i64 p.sm, .int .i64 p.mo] 33)).alloc (.cells #[.int .i64 0, .slice none 0 0, .slice none 0 0, .slice none 0 0, .int .i64 0, .int .i64 0] 33) = u := ⟨_, rfl⟩
  rw [hu]
  have HU := hide (allocs4 hu)
  clear hu
  have hzu : u.heap.size = w.heap.size + 4 := HU.out.2.1
  have c0 : u.cell? ⟨w.heap.size, 0, none⟩ = some (.int .i64 (V : Int)) := cell_of_row _ _ 0 _ _ _ HU.out.2.2.1
  have c1 : u.cell? ⟨w.heap.size, 1, none⟩ = some (.slice A L c) := cell_of_row _ _ 1 _ _ _ HU.out.2.2.1
  have d0 : u.cell? ⟨w.heap.size + 1, 0, none⟩ = some (.int .u8 k) := cell_of_row _ _ 0 _ _ _ HU.out.2.2.2.1
  have d1 : u.cell? ⟨w.heap.size + 1, 1, none⟩ = some (.int .i64 j1) := cell_of_row _ _ 1 _ _ _ HU.out.2.2.2.1
  have d2 : u.cell? ⟨w.heap.size + 1, 2, none⟩ = some (.int .i64 j2) := cell_of_row _ _ 2 _ _ _ HU.out.2.2.2.1
  have d3 : u.cell? ⟨w.heap.size + 1, 3, none⟩ = some (.int .i64 j3) := cell_of_row _ _ 3 _ _ _ HU.out.2.2.2.1
  have d4 : u.cell? ⟨w.heap.size + 1, 4, none⟩ = some (.int .i64 j4) := cell_of_row _ _ 4 _ _ _ HU.out.2.2.2.1
  have hz0 : w.heap.size < u.heap.size := by omega
  have hz1 : w.heap.size + 1 < u.heap.size := by omega
  have hb0 := racheck_any u k j1 j2 j3 j4 (V : Int) A es L c HL.out ((HE.out.below HU.out.1 (Nat.le_refl _)).more HU.out.1.size) hL9
  rw [HEe.out] at hb0
  have HB0 := hide hb0
  clear hb0
  go_wp2_with fail
  refine HB0.out.mono ?_
  rintro e y ⟨rfl, hy⟩
  have HY := hide hy
  have syu : u.heap.size ≤ y.heap.size := hy.size
  clear hy
  clear c0 c1 d0 d1 d2 d3 d4 hz0 hz1
  have c0 : y.cell? ⟨w.heap.size, 0, none⟩ = some (.int .i64 (V : Int)) := cell_of_row _ _ 0 _ _ _ ((HY.out.block _ (by omega)).trans HU.out.2.2.1)
  have hz0 : w.heap.size < y.heap.size := by omega
  have s0 : y.cell? ⟨w.heap.size + 1 + 1, 0, none⟩ = some (.int .i64 p.st) := cell_of_row _ _ 0 _ _ _ ((HY.out.block _ (by omega)).trans HU.out.2.2.2.2.1)
  have s1 : y.cell? ⟨w.heap.size + 1 + 1, 1, none⟩ = some (.slice Av nv cv) := cell_of_row _ _ 1 _ _ _ ((HY.out.block _ (by omega)).trans HU.out.2.2.2.2.1)
  have s2 : y.cell? ⟨w.heap.size + 1 + 1, 2, none⟩ = some (.slice Ac nc cc) := cell_of_row _ _ 2 _ _ _ ((HY.out.block _ (by omega)).trans HU.out.2.2.2.2.1)
  have s3 : y.cell? ⟨w.heap.size + 1 + 1, 3, none⟩ = some (.slice Ai ni ci) := cell_of_row _ _ 3 _ _ _ ((HY.out.block _ (by omega)).trans HU.out.2.2.2.2.1)
  have s4 : y.cell? ⟨w.heap.size + 1 + 1, 4, none⟩ = some (.int .i64 p.sm) := cell_of_row _ _ 4 _ _ _ ((HY.out.block _ (by omega)).trans HU.out.2.2.2.2.1)
  have s5 : y.cell? ⟨w.heap.size + 1 + 1, 5, none⟩ = some (.int .i64 p.mo) := cell_of_row _ _ 5 _ _ _ ((HY.out.block _ (by omega)).trans HU.out.2.2.2.2.1)
  have hz2 : w.heap.size + 1 + 1 < y.heap.size := by omega
  have hmy := dmay_any y p Av Ac Ai nv nc ni cv cc ci HVL.out (HVI.out.next (HU.out.1.trans (HY.out.mono (by omega)))) (by omega) (by omega) (V : Int)
  rw [HMV.out] at hmy
  have HMY2 := hide hmy
  clear hmy
  go_wp2_with fail
  refine HMY2.out.mono ?_
  rintro e z ⟨rfl, hzz⟩
  have HZ := hide hzz
  have szy : y.heap.size ≤ z.heap.size := hzz.size
  clear hzz c0 hz0
  clear s0 s1 s2 s3 s4 s5 hz2
  have HRow := hide (((HZ.out.block _ (by omega)).trans ((HY.out.block _ (by omega)).trans HU.out.2.2.2.2.2)))
  have hRz : w.heap.size + 1 + 1 + 1 < z.heap.size := by omega
  have q0 : z.cell? ⟨w.heap.size + 1 + 1 + 1, 0, none⟩ = some (.int .i64 0) := cell_of_row _ _ 0 _ _ _ HRow.out
  have q1 : z.cell? ⟨w.heap.size + 1 + 1 + 1, 1, none⟩ = some (.slice none 0 0) := cell_of_row _ _ 1 _ _ _ HRow.out
  have q2 : z.cell? ⟨w.heap.size + 1 + 1 + 1, 2, none⟩ = some (.slice none 0 0) := cell_of_row _ _ 2 _ _ _ HRow.out
  have q3 : z.cell? ⟨w.heap.size + 1 + 1 + 1, 3, none⟩ = some (.slice none 0 0) := cell_of_row _ _ 3 _ _ _ HRow.out
  have q4 : z.cell? ⟨w.heap.size + 1 + 1 + 1, 4, none⟩ = some (.int .i64 0) := cell_of_row _ _ 4 _ _ _ HRow.out
  have q5 : z.cell? ⟨w.heap.size + 1 + 1 + 1, 5, none⟩ = some (.int .i64 0) := cell_of_row _ _ 5 _ _ _ HRow.out
  have f0 : z.frozen? ⟨w.heap.size + 1 + 1 + 1, 0, none⟩ = false := frozen_of_row _ _ 0 _ _ HRow.out
  have f1 : z.frozen? ⟨w.heap.size + 1 + 1 + 1, 1, none⟩ = false := frozen_of_row _ _ 1 _ _ HRow.out
  have f2 : z.frozen? ⟨w.heap.size + 1 + 1 + 1, 2, none⟩ = false := frozen_of_row _ _ 2 _ _ HRow.out
  have f3 : z.frozen? ⟨w.heap.size + 1 + 1 + 1, 3, none⟩ = false := frozen_of_row _ _ 3 _ _ HRow.out
  have f4 : z.frozen? ⟨w.heap.size + 1 + 1 + 1, 4, none⟩ = false := frozen_of_row _ _ 4 _ _ HRow.out
  have f5 : z.frozen? ⟨w.heap.size + 1 + 1 + 1, 5, none⟩ = false := frozen_of_row _ _ 5 _ _ HRow.out
  go_wp2
  obtain ⟨wf, hwf⟩ : ∃ q, (((((z.setCell ⟨w.heap.size + 1 + 1 + 1, 0, none⟩ (.int .i64 0)).setCell ⟨w.heap.size + 1 + 1 + 1, 1, none⟩ (.slice none 0 0)).setCell ⟨w.heap.size + 1 + 1 + 1, 2, none⟩ (.slice none 0 0)).setCell ⟨w.heap.size + 1 + 1 + 1, 3, none⟩ (.slice none 0 0)).setCell ⟨w.heap.size + 1 + 1 + 1, 4, none⟩ (.int .i64 0)).setCell ⟨w.heap.size + 1 + 1 + 1, 5, none⟩ (.int .i64 0) = q := ⟨_, rfl⟩
  have hF := far6 z (w.heap.size + 1 + 1 + 1) (w.heap.size + 1 + 1 + 1) (.int .i64 0) (.slice none 0 0) (.slice none 0 0) (.slice none 0 0) (.int .i64 0) (.int .i64 0) HRow.out
  rw [hwf] at hF ⊢
  obtain ⟨FF, HFY⟩ := hF
  obtain ⟨y0, y1, y2, y3, y4, y5⟩ := cells6 HFY
  clear hwf HFY
  exact bodyPost_ret (v := .tuple #[.agg #[.int .i64 0, .slice none 0 0, .slice none 0 0, .slice none 0 0, .int .i64 0, .int .i64 0], .int .i64 4]) (by simp [results, Tryz.results20, go_sem, y0, y1, y2, y3, y4, y5]) rfl (.inl ⟨by decide, rfl, ((HU.out.1.trans (HY.out.mono (by omega))).trans (HZ.out.mono (by omega))).trans (FF.below (by omega) (by omega))⟩)
 ·by_cases hq : p.st = 2000
  ·have HMV := hide hm
   rw [show stepE (acheckF k j1 j2 j3 j4 V es) V p = 4 by rw [HEe.out, stepE, if_neg (fun h => h rfl), if_pos (.inr hq)]]
   obtain ⟨V, rfl⟩ : ∃ q : Nat, V = (q : Int) := ⟨V.toNat, by omega⟩
   rw [show ((V : Int)).toNat = V from rfl]
   have hV : V ≤ 512 := by omega
   have HQ := hide hq
   clear hm hq
   go_enter Tryz.func20, Tryz.ntmps20
   go_upto_region 1 with fail
   obtain ⟨u, hu⟩ : ∃ u, (((w.alloc (.cells #[.int .i64 (V : Int), .slice A L c] 24)).alloc (.cells #[.int .u8 k, .int .i64 j1, .int .i64 j2, .int .i64 j3, .int .i64 j4] 26)).alloc (.cells #[.int .i64 p.st, .slice Av nv cv, .slice Ac nc cc, .slice Ai ni ci, .int .i64 p.sm, .int .i64 p.mo] 33)).alloc (.cells #[.int .i64 0, .slice none 0 0, .slice none 0 0, .slice none 0 0, .int .i64 0, .int .i64 0] 33) = u := ⟨_, rfl⟩
   rw [hu]
   have HU := hide (allocs4 hu)
   clear hu
   have hzu : u.heap.size = w.heap.size + 4 := HU.out.2.1
   have c0 : u.cell? ⟨w.heap.size, 0, none⟩ = some (.int .i64 (V : Int)) := cell_of_row _ _ 0 _ _ _ HU.out.2.2.1
   have c1 : u.cell? ⟨w.heap.size, 1, none⟩ = some (.slice A L c) := cell_of_row _ _ 1 _ _ _ HU.out.2.2.1
   have d0 : u.cell? ⟨w.heap.size + 1, 0, none⟩ = some (.int .u8 k) := cell_of_row _ _ 0 _ _ _ HU.out.2.2.2.1
   have d1 : u.cell? ⟨w.heap.size + 1, 1, none⟩ = some (.int .i64 j1) := cell_of_row _ _ 1 _ _ _ HU.out.2.2.2.1
   have d2 : u.cell? ⟨w.heap.size + 1, 2, none⟩ = some (.int .i64 j2) := cell_of_row _ _ 2 _ _ _ HU.out.2.2.2.1
   have d3 : u.cell? ⟨w.heap.size + 1, 3, none⟩ = some (.int .i64 j3) := cell_of_row _ _ 3 _ _ _ HU.out.2.2.2.1
   have d4 : u.cell? ⟨w.heap.size + 1, 4, none⟩ = some (.int .i64 j4) := cell_of_row _ _ 4 _ _ _ HU.out.2.2.2.1
   have hz0 : w.heap.size < u.heap.size := by omega
   have hz1 : w.heap.size + 1 < u.heap.size := by omega
   have hb0 := racheck_any u k j1 j2 j3 j4 (V : Int) A es L c HL.out ((HE.out.below HU.out.1 (Nat.le_refl _)).more HU.out.1.size) hL9
   rw [HEe.out] at hb0
   have HB0 := hide hb0
   clear hb0
   go_wp2_with fail
   refine HB0.out.mono ?_
   rintro e y ⟨rfl, hy⟩
   have HY := hide hy
   have syu : u.heap.size ≤ y.heap.size := hy.size
   clear hy
   clear c0 c1 d0 d1 d2 d3 d4 hz0 hz1
   have c0 : y.cell? ⟨w.heap.size, 0, none⟩ = some (.int .i64 (V : Int)) := cell_of_row _ _ 0 _ _ _ ((HY.out.block _ (by omega)).trans HU.out.2.2.1)
   have hz0 : w.heap.size < y.heap.size := by omega
   have s0 : y.cell? ⟨w.heap.size + 1 + 1, 0, none⟩ = some (.int .i64 p.st) := cell_of_row _ _ 0 _ _ _ ((HY.out.block _ (by omega)).trans HU.out.2.2.2.2.1)
   have s1 : y.cell? ⟨w.heap.size + 1 + 1, 1, none⟩ = some (.slice Av nv cv) := cell_of_row _ _ 1 _ _ _ ((HY.out.block _ (by omega)).trans HU.out.2.2.2.2.1)
   have s2 : y.cell? ⟨w.heap.size + 1 + 1, 2, none⟩ = some (.slice Ac nc cc) := cell_of_row _ _ 2 _ _ _ ((HY.out.block _ (by omega)).trans HU.out.2.2.2.2.1)
   have s3 : y.cell? ⟨w.heap.size + 1 + 1, 3, none⟩ = some (.slice Ai ni ci) := cell_of_row _ _ 3 _ _ _ ((HY.out.block _ (by omega)).trans HU.out.2.2.2.2.1)
   have s4 : y.cell? ⟨w.heap.size + 1 + 1, 4, none⟩ = some (.int .i64 p.sm) := cell_of_row _ _ 4 _ _ _ ((HY.out.block _ (by omega)).trans HU.out.2.2.2.2.1)
   have s5 : y.cell? ⟨w.heap.size + 1 + 1, 5, none⟩ = some (.int .i64 p.mo) := cell_of_row _ _ 5 _ _ _ ((HY.out.block _ (by omega)).trans HU.out.2.2.2.2.1)
   have hz2 : w.heap.size + 1 + 1 < y.heap.size := by omega
   have hmy := dmay_any y p Av Ac Ai nv nc ni cv cc ci HVL.out (HVI.out.next (HU.out.1.trans (HY.out.mono (by omega)))) (by omega) (by omega) (V : Int)
   rw [HMV.out] at hmy
   have HMY2 := hide hmy
   clear hmy
   go_wp2_with fail
   refine HMY2.out.mono ?_
   rintro e z ⟨rfl, hzz⟩
   have HZ := hide hzz
   have szy : y.heap.size ≤ z.heap.size := hzz.size
   clear hzz c0 hz0
   clear s0 s1 s2 s3 s4 s5 hz2
   have s0 : z.cell? ⟨w.heap.size + 1 + 1, 0, none⟩ = some (.int .i64 p.st) := cell_of_row _ _ 0 _ _ _ ((HZ.out.block _ (by omega)).trans ((HY.out.block _ (by omega)).trans HU.out.2.2.2.2.1))
   have hz2 : w.heap.size + 1 + 1 < z.heap.size := by omega
   have hq := HQ.out
   have hq1 : (p.st == 2000) = true := by simp [hq]
   have hq2 : 2000 ≤ p.st := by omega
   clear hq
   have HRow := hide (((HZ.out.block _ (by omega)).trans ((HY.out.block _ (by omega)).trans HU.out.2.2.2.2.2)))
   have hRz : w.heap.size + 1 + 1 + 1 < z.heap.size := by omega
   have q0 : z.cell? ⟨w.heap.size + 1 + 1 + 1, 0, none⟩ = some (.int .i64 0) := cell_of_row _ _ 0 _ _ _ HRow.out
   have q1 : z.cell? ⟨w.heap.size + 1 + 1 + 1, 1, none⟩ = some (.slice none 0 0) := cell_of_row _ _ 1 _ _ _ HRow.out
   have q2 : z.cell? ⟨w.heap.size + 1 + 1 + 1, 2, none⟩ = some (.slice none 0 0) := cell_of_row _ _ 2 _ _ _ HRow.out
   have q3 : z.cell? ⟨w.heap.size + 1 + 1 + 1, 3, none⟩ = some (.slice none 0 0) := cell_of_row _ _ 3 _ _ _ HRow.out
   have q4 : z.cell? ⟨w.heap.size + 1 + 1 + 1, 4, none⟩ = some (.int .i64 0) := cell_of_row _ _ 4 _ _ _ HRow.out
   have q5 : z.cell? ⟨w.heap.size + 1 + 1 + 1, 5, none⟩ = some (.int .i64 0) := cell_of_row _ _ 5 _ _ _ HRow.out
   have f0 : z.frozen? ⟨w.heap.size + 1 + 1 + 1, 0, none⟩ = false := frozen_of_row _ _ 0 _ _ HRow.out
   have f1 : z.frozen? ⟨w.heap.size + 1 + 1 + 1, 1, none⟩ = false := frozen_of_row _ _ 1 _ _ HRow.out
   have f2 : z.frozen? ⟨w.heap.size + 1 + 1 + 1, 2, none⟩ = false := frozen_of_row _ _ 2 _ _ HRow.out
   have f3 : z.frozen? ⟨w.heap.size + 1 + 1 + 1, 3, none⟩ = false := frozen_of_row _ _ 3 _ _ HRow.out
   have f4 : z.frozen? ⟨w.heap.size + 1 + 1 + 1, 4, none⟩ = false := frozen_of_row _ _ 4 _ _ HRow.out
   have f5 : z.frozen? ⟨w.heap.size + 1 + 1 + 1, 5, none⟩ = false := frozen_of_row _ _ 5 _ _ HRow.out
   go_wp2
   obtain ⟨wf, hwf⟩ : ∃ q, (((((z.setCell ⟨w.heap.size + 1 + 1 + 1, 0, none⟩ (.int .i64 0)).setCell ⟨w.heap.size + 1 + 1 + 1, 1, none⟩ (.slice none 0 0)).setCell ⟨w.heap.size + 1 + 1 + 1, 2, none⟩ (.slice none 0 0)).setCell ⟨w.heap.size + 1 + 1 + 1, 3, none⟩ (.slice none 0 0)).setCell ⟨w.heap.size + 1 + 1 + 1, 4, none⟩ (.int .i64 0)).setCell ⟨w.heap.size + 1 + 1 + 1, 5, none⟩ (.int .i64 0) = q := ⟨_, rfl⟩
   have hF := far6 z (w.heap.size + 1 + 1 + 1) (w.heap.size + 1 + 1 + 1) (.int .i64 0) (.slice none 0 0) (.slice none 0 0) (.slice none 0 0) (.int .i64 0) (.int .i64 0) HRow.out
   rw [hwf] at hF ⊢
   obtain ⟨FF, HFY⟩ := hF
   obtain ⟨y0, y1, y2, y3, y4, y5⟩ := cells6 HFY
   clear hwf HFY
   exact bodyPost_ret (v := .tuple #[.agg #[.int .i64 0, .slice none 0 0, .slice none 0 0, .slice none 0 0, .int .i64 0, .int .i64 0], .int .i64 4]) (by simp [results, Tryz.results20, go_sem, y0, y1, y2, y3, y4, y5]) rfl (.inl ⟨by decide, rfl, ((HU.out.1.trans (HY.out.mono (by omega))).trans (HZ.out.mono (by omega))).trans (FF.below (by omega) (by omega))⟩)
  ·have HMV := hide hm
   obtain ⟨g1, g2, g3, g4, g5, hok⟩ := mayV_ok hm hbi
   rw [show stepE (acheckF k j1 j2 j3 j4 V es) V p = 0 by rw [HEe.out, stepE, if_neg (fun h => h rfl), if_neg (by rw [hm]; simp [hq])]]
   obtain ⟨V, rfl⟩ : ∃ q : Nat, V = (q : Int) := ⟨V.toNat, by omega⟩
   rw [show ((V : Int)).toNat = V from rfl]
   have hV : V ≤ 512 := by omega
   rw [show ((V : Int)).toNat = V from rfl] at hok
   have HOK := hide hok
   obtain ⟨v1, v2, v3⟩ := HVL.out
   obtain rfl : nv = V := by omega
   obtain rfl : nc = nv := by omega
   obtain rfl : ni = nc := by omega
   clear hm hok g1 g2 g3 v1 v2 v3
   go_enter Tryz.func20, Tryz.ntmps20
   go_upto_region 1 with fail
   obtain ⟨u, hu⟩ : ∃ u, (((w.alloc (.cells #[.int .i64 (ni : Int), .slice A L c] 24)).alloc (.cells #[.int .u8 k, .int .i64 j1, .int .i64 j2, .int .i64 j3, .int .i64 j4] 26)).alloc (.cells #[.int .i64 p.st, .slice Av ni cv, .slice Ac ni cc, .slice Ai ni ci, .int .i64 p.sm, .int .i64 p.mo] 33)).alloc (.cells #[.int .i64 0, .slice none 0 0, .slice none 0 0, .slice none 0 0, .int .i64 0, .int .i64 0] 33) = u := ⟨_, rfl⟩
   rw [hu]
   have HU := hide (allocs4 hu)
   clear hu
   have hzu : u.heap.size = w.heap.size + 4 := HU.out.2.1
   have c0 : u.cell? ⟨w.heap.size, 0, none⟩ = some (.int .i64 (ni : Int)) := cell_of_row _ _ 0 _ _ _ HU.out.2.2.1
   have c1 : u.cell? ⟨w.heap.size, 1, none⟩ = some (.slice A L c) := cell_of_row _ _ 1 _ _ _ HU.out.2.2.1
   have d0 : u.cell? ⟨w.heap.size + 1, 0, none⟩ = some (.int .u8 k) := cell_of_row _ _ 0 _ _ _ HU.out.2.2.2.1
   have d1 : u.cell? ⟨w.heap.size + 1, 1, none⟩ = some (.int .i64 j1) := cell_of_row _ _ 1 _ _ _ HU.out.2.2.2.1
   have d2 : u.cell? ⟨w.heap.size + 1, 2, none⟩ = some (.int .i64 j2) := cell_of_row _ _ 2 _ _ _ HU.out.2.2.2.1
   have d3 : u.cell? ⟨w.heap.size + 1, 3, none⟩ = some (.int .i64 j3) := cell_of_row _ _ 3 _ _ _ HU.out.2.2.2.1
   have d4 : u.cell? ⟨w.heap.size + 1, 4, none⟩ = some (.int .i64 j4) := cell_of_row _ _ 4 _ _ _ HU.out.2.2.2.1
   have hz0 : w.heap.size < u.heap.size := by omega
   have hz1 : w.heap.size + 1 < u.heap.size := by omega
   have hb0 := racheck_any u k j1 j2 j3 j4 (ni : Int) A es L c HL.out ((HE.out.below HU.out.1 (Nat.le_refl _)).more HU.out.1.size) hL9
   rw [HEe.out] at hb0
   have HB0 := hide hb0
   clear hb0
   go_wp2_with fail
   refine HB0.out.mono ?_
   rintro e y ⟨rfl, hy⟩
   have HY := hide hy
   have syu : u.heap.size ≤ y.heap.size := hy.size
   clear hy
   clear c0 c1 d0 d1 d2 d3 d4 hz0 hz1
   have c0 : y.cell? ⟨w.heap.size, 0, none⟩ = some (.int .i64 (ni : Int)) := cell_of_row _ _ 0 _ _ _ ((HY.out.block _ (by omega)).trans HU.out.2.2.1)
   have hz0 : w.heap.size < y.heap.size := by omega
   have s0 : y.cell? ⟨w.heap.size + 1 + 1, 0, none⟩ = some (.int .i64 p.st) := cell_of_row _ _ 0 _ _ _ ((HY.out.block _ (by omega)).trans HU.out.2.2.2.2.1)
   have s1 : y.cell? ⟨w.heap.size + 1 + 1, 1, none⟩ = some (.slice Av ni cv) := cell_of_row _ _ 1 _ _ _ ((HY.out.block _ (by omega)).trans HU.out.2.2.2.2.1)
   have s2 : y.cell? ⟨w.heap.size + 1 + 1, 2, none⟩ = some (.slice Ac ni cc) := cell_of_row _ _ 2 _ _ _ ((HY.out.block _ (by omega)).trans HU.out.2.2.2.2.1)
   have s3 : y.cell? ⟨w.heap.size + 1 + 1, 3, none⟩ = some (.slice Ai ni ci) := cell_of_row _ _ 3 _ _ _ ((HY.out.block _ (by omega)).trans HU.out.2.2.2.2.1)
   have s4 : y.cell? ⟨w.heap.size + 1 + 1, 4, none⟩ = some (.int .i64 p.sm) := cell_of_row _ _ 4 _ _ _ ((HY.out.block _ (by omega)).trans HU.out.2.2.2.2.1)
   have s5 : y.cell? ⟨w.heap.size + 1 + 1, 5, none⟩ = some (.int .i64 p.mo) := cell_of_row _ _ 5 _ _ _ ((HY.out.block _ (by omega)).trans HU.out.2.2.2.2.1)
   have hz2 : w.heap.size + 1 + 1 < y.heap.size := by omega
   have hmy := dmay_any y p Av Ac Ai ni ni ni cv cc ci HVL.out (HVI.out.next (HU.out.1.trans (HY.out.mono (by omega)))) (by omega) (by omega) (ni : Int)
   rw [HMV.out] at hmy
   have HMY2 := hide hmy
   clear hmy
   go_wp2_with fail
   refine HMY2.out.mono ?_
   rintro e z ⟨rfl, hzz⟩
   have HZ := hide hzz
   have szy : y.heap.size ≤ z.heap.size := hzz.size
   clear hzz c0 hz0
   clear s0 s1 s2 s3 s4 s5 hz2
   have s0 : z.cell? ⟨w.heap.size + 1 + 1, 0, none⟩ = some (.int .i64 p.st) := cell_of_row _ _ 0 _ _ _ ((HZ.out.block _ (by omega)).trans ((HY.out.block _ (by omega)).trans HU.out.2.2.2.2.1))
   have hz2 : w.heap.size + 1 + 1 < z.heap.size := by omega
   have hq1 : (p.st == 2000) = false := by simpa using hq
   have hq2 : ¬ (2000 ≤ p.st) := by omega
   clear hq s0 hz2
   have s0 : z.cell? ⟨w.heap.size + 1 + 1, 0, none⟩ = some (.int .i64 p.st) := cell_of_row _ _ 0 _ _ _ ((HZ.out.block _ (by omega)).trans ((HY.out.block _ (by omega)).trans HU.out.2.2.2.2.1))
   have s1 : z.cell? ⟨w.heap.size + 1 + 1, 1, none⟩ = some (.slice Av ni cv) := cell_of_row _ _ 1 _ _ _ ((HZ.out.block _ (by omega)).trans ((HY.out.block _ (by omega)).trans HU.out.2.2.2.2.1))
   have s2 : z.cell? ⟨w.heap.size + 1 + 1, 2, none⟩ = some (.slice Ac ni cc) := cell_of_row _ _ 2 _ _ _ ((HZ.out.block _ (by omega)).trans ((HY.out.block _ (by omega)).trans HU.out.2.2.2.2.1))
   have s3 : z.cell? ⟨w.heap.size + 1 + 1, 3, none⟩ = some (.slice Ai ni ci) := cell_of_row _ _ 3 _ _ _ ((HZ.out.block _ (by omega)).trans ((HY.out.block _ (by omega)).trans HU.out.2.2.2.2.1))
   have s4 : z.cell? ⟨w.heap.size + 1 + 1, 4, none⟩ = some (.int .i64 p.sm) := cell_of_row _ _ 4 _ _ _ ((HZ.out.block _ (by omega)).trans ((HY.out.block _ (by omega)).trans HU.out.2.2.2.2.1))
   have s5 : z.cell? ⟨w.heap.size + 1 + 1, 5, none⟩ = some (.int .i64 p.mo) := cell_of_row _ _ 5 _ _ _ ((HZ.out.block _ (by omega)).trans ((HY.out.block _ (by omega)).trans HU.out.2.2.2.2.1))
   have hz2 : w.heap.size + 1 + 1 < z.heap.size := by omega
   have c0 : z.cell? ⟨w.heap.size, 0, none⟩ = some (.int .i64 (ni : Int)) := cell_of_row _ _ 0 _ _ _ ((HZ.out.block _ (by omega)).trans ((HY.out.block _ (by omega)).trans HU.out.2.2.1))
   have c1 : z.cell? ⟨w.heap.size, 1, none⟩ = some (.slice A L c) := cell_of_row _ _ 1 _ _ _ ((HZ.out.block _ (by omega)).trans ((HY.out.block _ (by omega)).trans HU.out.2.2.1))
   have d0 : z.cell? ⟨w.heap.size + 1, 0, none⟩ = some (.int .u8 k) := cell_of_row _ _ 0 _ _ _ ((HZ.out.block _ (by omega)).trans ((HY.out.block _ (by omega)).trans HU.out.2.2.2.1))
   have d1 : z.cell? ⟨w.heap.size + 1, 1, none⟩ = some (.int .i64 j1) := cell_of_row _ _ 1 _ _ _ ((HZ.out.block _ (by omega)).trans ((HY.out.block _ (by omega)).trans HU.out.2.2.2.1))
   have d2 : z.cell? ⟨w.heap.size + 1, 2, none⟩ = some (.int .i64 j2) := cell_of_row _ _ 2 _ _ _ ((HZ.out.block _ (by omega)).trans ((HY.out.block _ (by omega)).trans HU.out.2.2.2.1))
   have d3 : z.cell? ⟨w.heap.size + 1, 3, none⟩ = some (.int .i64 j3) := cell_of_row _ _ 3 _ _ _ ((HZ.out.block _ (by omega)).trans ((HY.out.block _ (by omega)).trans HU.out.2.2.2.1))
   have d4 : z.cell? ⟨w.heap.size + 1, 4, none⟩ = some (.int .i64 j4) := cell_of_row _ _ 4 _ _ _ ((HZ.out.block _ (by omega)).trans ((HY.out.block _ (by omega)).trans HU.out.2.2.2.1))
   have hz0 : w.heap.size < z.heap.size := by omega
   have hz1 : w.heap.size + 1 < z.heap.size := by omega
   go_wp2_with fail
   refine (qrnext_any z ni A es L c HL.out hL5 ((HE.out.below ((HU.out.1.trans (HY.out.mono (by omega))).trans (HZ.out.mono (by omega))) (Nat.le_refl _)).more (((HU.out.1.trans (HY.out.mono (by omega))).trans (HZ.out.mono (by omega))).size)) k j1 j2 j3 j4 hV hEB p HOK.out Av Ac Ai cv cc ci ((HVI.out.next (HU.out.1.trans (HY.out.mono (by omega)))).next HZ.out) g4 g5).mono ?_
   rintro e z3 ⟨Av2, Ac2, Ai2, cv2, cc2, ci2, rfl, hi2, hb2, n1, n2, n3⟩
   have HI2 := hide hi2
   have HZ3 := hide hb2
   have HN := hide (And.intro n1 (And.intro n2 n3))
   have sz3 : z.heap.size ≤ z3.heap.size := hb2.size
   clear hi2 hb2 n1 n2 n3
   clear s0 s1 s2 s3 s4 s5 hz2
   clear c0 c1 d0 d1 d2 d3 d4 hz0 hz1
   have HRow := hide ((HZ3.out.block _ (by omega)).trans ((HZ.out.block _ (by omega)).trans ((HY.out.block _ (by omega)).trans HU.out.2.2.2.2.2)))
   have hRz : w.heap.size + 1 + 1 + 1 < z3.heap.size := by omega
   have q0 : z3.cell? ⟨w.heap.size + 1 + 1 + 1, 0, none⟩ = some (.int .i64 0) := cell_of_row _ _ 0 _ _ _ HRow.out
   have q1 : z3.cell? ⟨w.heap.size + 1 + 1 + 1, 1, none⟩ = some (.slice none 0 0) := cell_of_row _ _ 1 _ _ _ HRow.out
   have q2 : z3.cell? ⟨w.heap.size + 1 + 1 + 1, 2, none⟩ = some (.slice none 0 0) := cell_of_row _ _ 2 _ _ _ HRow.out
   have q3 : z3.cell? ⟨w.heap.size + 1 + 1 + 1, 3, none⟩ = some (.slice none 0 0) := cell_of_row _ _ 3 _ _ _ HRow.out
   have q4 : z3.cell? ⟨w.heap.size + 1 + 1 + 1, 4, none⟩ = some (.int .i64 0) := cell_of_row _ _ 4 _ _ _ HRow.out
   have q5 : z3.cell? ⟨w.heap.size + 1 + 1 + 1, 5, none⟩ = some (.int .i64 0) := cell_of_row _ _ 5 _ _ _ HRow.out
   have f0 : z3.frozen? ⟨w.heap.size + 1 + 1 + 1, 0, none⟩ = false := frozen_of_row _ _ 0 _ _ HRow.out
   have f1 : z3.frozen? ⟨w.heap.size + 1 + 1 + 1, 1, none⟩ = false := frozen_of_row _ _ 1 _ _ HRow.out
   have f2 : z3.frozen? ⟨w.heap.size + 1 + 1 + 1, 2, none⟩ = false := frozen_of_row _ _ 2 _ _ HRow.out
   have f3 : z3.frozen? ⟨w.heap.size + 1 + 1 + 1, 3, none⟩ = false := frozen_of_row _ _ 3 _ _ HRow.out
   have f4 : z3.frozen? ⟨w.heap.size + 1 + 1 + 1, 4, none⟩ = false := frozen_of_row _ _ 4 _ _ HRow.out
   have f5 : z3.frozen? ⟨w.heap.size + 1 + 1 + 1, 5, none⟩ = false := frozen_of_row _ _ 5 _ _ HRow.out
   go_wp2
   obtain ⟨wf, hwf⟩ : ∃ q, (((((z3.setCell ⟨w.heap.size + 1 + 1 + 1, 0, none⟩ (.int .i64 (nextV k j3 es ni p).st)).setCell ⟨w.heap.size + 1 + 1 + 1, 1, none⟩ (.slice Av2 ni cv2)).setCell ⟨w.heap.size + 1 + 1 + 1, 2, none⟩ (.slice Ac2 ni cc2)).setCell ⟨w.heap.size + 1 + 1 + 1, 3, none⟩ (.slice Ai2 ni ci2)).setCell ⟨w.heap.size + 1 + 1 + 1, 4, none⟩ (.int .i64 (nextV k j3 es ni p).sm)).setCell ⟨w.heap.size + 1 + 1 + 1, 5, none⟩ (.int .i64 (nextV k j3 es ni p).mo) = q := ⟨_, rfl⟩
   have hF := far6 z3 (w.heap.size + 1 + 1 + 1) (w.heap.size + 1 + 1 + 1) (.int .i64 (nextV k j3 es ni p).st) (.slice Av2 ni cv2) (.slice Ac2 ni cc2) (.slice Ai2 ni ci2) (.int .i64 (nextV k j3 es ni p).sm) (.int .i64 (nextV k j3 es ni p).mo) HRow.out
   rw [hwf] at hF ⊢
   obtain ⟨FF, HFY⟩ := hF
   obtain ⟨y0, y1, y2, y3, y4, y5⟩ := cells6 HFY
   clear hwf HFY
   exact bodyPost_ret (v := .tuple #[.agg #[.int .i64 (nextV k j3 es ni p).st, .slice Av2 ni cv2, .slice Ac2 ni cc2, .slice Ai2 ni ci2, .int .i64 (nextV k j3 es ni p).sm, .int .i64 (nextV k j3 es ni p).mo], .int .i64 0]) (by simp [results, Tryz.results20, go_sem, y0, y1, y2, y3, y4, y5]) rfl (.inr ⟨rfl, Av2, Ac2, Ai2, cv2, cc2, ci2, rfl, ⟨FF.rd HI2.out.vals HN.out.1 (by omega) (by omega), FF.rd HI2.out.chg HN.out.2.1 (by omega) (by omega), FF.rd HI2.out.inb HN.out.2.2 (by omega) (by omega)⟩, (((HU.out.1.trans (HY.out.mono (by omega))).trans (HZ.out.mono (by omega))).trans (HZ3.out.mono (by omega))).trans (FF.below (by omega) (by omega)), HN.out.1.mono (by omega), HN.out.2.1.mono (by omega), HN.out.2.2.mono (by omega)⟩)
end Go.Proofs.YtpgbjabifhjogaaGreat
namespace Go.Proofs.YtpgbjabifhjogaaGreat
open Go.RowKit Go.Shelf
attribute [local go_sem] Oper.semAt_some
theorem FarS.own {b1 b2 base size n : Nat} {z f : World} {e : TypeId} {v : Value} {xs : List Value} (h : FarS b1 b2 z f) (ho : z.ownsRow base e size v n xs) (h1 : b1 < base) (h2 : b2 < base) : f.ownsRow base e size v n xs := by
 refine ⟨ho.1, ?_⟩
 rcases ho.2 with h0 | ⟨g, cap, cur, hv, hgb, hc, hrest⟩
 ·exact .inl h0
 ·exact .inr ⟨g, cap, cur, hv, hgb, (h.block g (by omega) (by omega)).trans hc, hrest⟩
def StPostO (w : World) (V : Nat) (s : SV) (e : Ending) (w' : World) : Prop :=
 ∃ Av Ac Ai cv cc ci, e = .returned (.agg #[.int .i64 s.st, .slice Av V cv, .slice Ac V cc, .slice Ai V ci, .int .i64 s.sm, .int .i64 s.mo]) ∧ VIn w' s Av Ac Ai ∧ Below w.heap.size w w' ∧ (NewA w.heap.size Av ∧ NewA w.heap.size Ac ∧ NewA w.heap.size Ai) ∧ w'.ownsRow w.heap.size 2 1 (.slice Av V cv) V (i64s s.vals)
theorem mnextO_any (w : World) (m V : Nat) (A : Option Addr) (L c : Nat) (k j1 j2 j3 j4 : Int) (es : List Ed) (xs : List VX) (Aof Aow : Option Addr) (cof cow : Nat) (hMH : MHas m V A L c k j1 j2 j3 j4 es xs Aof Aow cof cow w) (hV : V ≤ 512) (hL : es.length = L) (hL5 : L ≤ 80) (hEB : edsB es) (s : SV) (hok : OkS V s) (Aw Ac0 Ai : Option Addr) (cw cc0 ci : Nat) (hin : VIn w s Aw Ac0 Ai) (hs0 : 0 ≤ s.st) (hs1 : s.st ≤ 2000) :
  Calls Tryz.prog 44 #[.pointer (some ⟨m, 0, none⟩), .agg #[.int .i64 s.st, .slice Aw V cw, .slice Ac0 V cc0, .slice Ai V ci, .int .i64 s.sm, .int .i64 s.mo]] w (StPostO w V (nextV k j3 es V s)) := by
 obtain ⟨a0, a0i, a0z, a0s, a0b⟩ := info_parts (show (Tryz.prog.info? 2).map (fun i => (i.zero, i.size, i.bytes)) = some (some (.int .i64 0), 1, 8) by kernel_rfl)
 obtain ⟨b0, b0i, b0z, b0s, b0b⟩ := info_parts (show (Tryz.prog.info? 4).map (fun i => (i.zero, i.size, i.bytes)) = some (some (.bool false), 1, 1) by kernel_rfl)
 have hm0 := hMH.lt
 have HMH := hide hMH
 have HL := hide hL
 have HOK := hide hok
 have HVI := hide hin
 have hst : IntKind.i64.wrap (s.st + 1) = s.st + 1 := IntWalk.i64_in _ (by omega)
 clear hL hMH hok hin
 go_enter Tryz.func44, Tryz.ntmps44
 go_upto_region 2 with fail
 obtain ⟨u, hu⟩ : ∃ u, ((w.alloc (.cells #[.int .i64 s.st, .slice Aw V cw, .slice Ac0 V cc0, .slice Ai V ci, .int .i64 s.sm, .int .i64 s.mo] 33)).alloc (.cells #[.int .i64 0, .slice none 0 0, .slice none 0 0, .slice none 0 0, .int .i64 0, .int .i64 0] 33)).alloc (.cells #[.int .i64 (s.st + 1), .slice none 0 0, .slice none 0 0, .slice none 0 0, .int .i64 0, .int .i64 0] 33) = u := ⟨_, rfl⟩
 rw [hu]
 have HU := hide (allocs3 hu)
 clear hu hst
 have hzu : u.heap.size = w.heap.size + 3 := HU.out.2.1
 have a1 : u.cell? ⟨w.heap.size, 1, none⟩ = some (.slice Aw V cw) := cell_of_row _ _ 1 _ _ _ HU.out.2.2.1
 have hmu : w.heap.size < u.heap.size := by omega
 go_wp2
 clear a1 hmu
 go_loopw [17, 6, 7, 8, 9] (fun vi _ _ _ _ wr => ∃ (i : Nat) (Av : Option Addr) (cv : Nat) (Ac : Option Addr) (cc : Nat), i ≤ V ∧ vi = .int .i64 (i : Int) ∧ Hid (wr.ownsRow u.heap.size 2 1 (.slice Av i cv) i (i64s (nextVals k j3 V s i))) ∧ Hid (wr.ownsRow u.heap.size 4 1 (.slice Ac i cc) i (bools (nextChs k j3 V s i))) ∧ Hid (Below w.heap.size w wr) ∧ Hid ((u.heap.size ≤ wr.heap.size ∧ wr.heap[w.heap.size + 2]? = some (.cells #[.int .i64 (s.st + 1), .slice Av i cv, .slice Ac i cc, .slice none 0 0, .int .i64 0, .int .i64 0] 33)) ∧ ∀ q, q < u.heap.size → q ≠ w.heap.size + 2 → wr.heap[q]? = u.heap[q]?)) (fun vi _ _ _ _ _ => V - (intOf vi).toNat)
 case atStart => exact ⟨0, none, 0, none, 0, by omega, rfl, hide (World.ownsRow_nil _ _ _ _), hide (World.ownsRow_nil _ _ _ _), hide HU.out.1, hide ⟨⟨Nat.le_refl _, HU.out.2.2.2.2⟩, fun _ _ _ => rfl⟩⟩
 case round =>
  obtain ⟨i, Av, cv, Ac, cc, hi, rfl, HVo, HCo, HBr, HM⟩ := hrel
  have srw : u.heap.size ≤ wr.heap.size := HM.out.1.1
  by_cases hlt : i < V
  ·have hI1 : (i : Int) < (V : Int) := by omega
   have hI0 : (0 : Int) ≤ (i : Int) := by omega
   have HB_wr := HBr
   have GM := (HB_wr.out.block m hm0).trans HMH.out.mem
   have d0 : wr.cell? ⟨m, 2, none⟩ = some (.int .u8 k) := cell_of_row _ _ 2 _ _ _ GM
   have d1 : wr.cell? ⟨m, 3, none⟩ = some (.int .i64 j1) := cell_of_row _ _ 3 _ _ _ GM
   have d2 : wr.cell? ⟨m, 4, none⟩ = some (.int .i64 j2) := cell_of_row _ _ 4 _ _ _ GM
   have d3 : wr.cell? ⟨m, 5, none⟩ = some (.int .i64 j3) := cell_of_row _ _ 5 _ _ _ GM
   have d4 : wr.cell? ⟨m, 6, none⟩ = some (.int .i64 j4) := cell_of_row _ _ 6 _ _ _ GM
   have dV : wr.cell? ⟨m, 0, none⟩ = some (.int .i64 (V : Int)) := cell_of_row _ _ 0 _ _ _ GM
   clear GM
   obtain ⟨vx, hvx⟩ : ∃ y, s.vals[i]? = some y := ⟨_, List.getElem?_eq_getElem (by rw [HOK.out.lv]; exact hlt)⟩
   obtain ⟨g3, o3, rfl, hg3, x0⟩ := HVI.out.vals.at1 (i64s_get hvx)
   have e0 := (HBr.out.cell (p := ⟨g3, o3 + i, none⟩) hg3).trans x0
   obtain ⟨mm, hmm⟩ : ∃ y, s.inb[i]? = some y := ⟨_, List.getElem?_eq_getElem (by rw [HOK.out.li]; exact hlt)⟩
   obtain ⟨g4, o4, rfl, hg4, x1, x2⟩ := HVI.out.inb.ml hmm
   have HMX := hide (HOK.out.bi mm (List.mem_of_getElem? hmm))
   obtain ⟨mh, mx⟩ := mm
   dsimp only at x1 x2 HMX
   have e1 : wr.cell? ⟨g4, o4 + i * 2, none⟩ = some (.bool mh) := (HBr.out.cell (p := ⟨g4, o4 + i * 2, none⟩) hg4).trans x1
   have e2 : wr.cell? ⟨g4, o4 + i * 2 + 1, none⟩ = some (.int .i64 mx) := (HBr.out.cell (p := ⟨g4, o4 + i * 2 + 1, none⟩) hg4).trans x2
   have HCV := hide (show compK k (V : Int) vx mh mx s.sm j3 = compV k j3 V s i by unfold compV; rw [show s.vals.getD i 0 = vx by simp [List.getD_eq_getElem?_getD, hvx], show s.inb.getD i (false, 0) = (mh, mx) by simp [List.getD_eq_getElem?_getD, hmm]])
   clear x0 x1 x2 hvx hmm
   have G0 := (HM.out.2 w.heap.size (by omega) (by omega)).trans HU.out.2.2.1
   have a3 : wr.cell? ⟨w.heap.size, 3, none⟩ = some (.slice (some ⟨g4, o4, none⟩) V ci) := cell_of_row _ _ 3 _ _ _ G0
   have a4 : wr.cell? ⟨w.heap.size, 4, none⟩ = some (.int .i64 s.sm) := cell_of_row _ _ 4 _ _ _ G0
   clear G0
   have hz1 : w.heap.size < wr.heap.size := by omega
   have hz3 : g3 < wr.heap.size := by omega
   have hz4 : g4 < wr.heap.size := by omega
   have hmr : m < wr.heap.size := by omega
   go_upto_region 5 with fail
   refine wp_region_held_drew (S := Kept wr) (by kernel_rfl) (Kept.drew wr) (fun hS0 => ?_)
   refine tk 0 23 ?_ ?_ ?_; rotate_left; (focus (intro w h; go_simp; (try with_reducible rfl))); (try simp only [xd, xe, xf])
   refine tk 1 24 ?_ ?_ ?_; rotate_left; (focus (intro w h; go_simp; (try with_reducible rfl))); (try simp only [xd, xe, xf])
   refine tk 2 25 ?_ ?_ ?_; rotate_left; (focus (intro w h; go_simp; (try with_reducible rfl))); (try simp only [xd, xe, xf])
   refine tk 3 26 ?_ ?_ ?_; rotate_left; (focus (intro w h; go_simp; (try with_reducible rfl))); (try simp only [xd, xe, xf])
   refine tk 4 27 ?_ ?_ ?_; rotate_left; (focus (intro w h; go_simp; (try with_reducible rfl))); (try simp only [xd, xe, xf])
   refine tk 5 28 ?_ ?_ ?_; rotate_left; (focus (intro w h; go_simp; (try with_reducible rfl))); (try simp only [xd, xe, xf])
   refine tk 6 29 ?_ ?_ ?_; rotate_left; (focus (intro w h; go_simp; (try with_reducible rfl))); (try simp only [xd, xe, xf])
   refine tk 7 30 ?_ ?_ ?_; rotate_left; (focus (intro w h; go_simp; (try with_reducible rfl))); (try simp only [xd, xe, xf])
   refine tk 8 31 ?_ ?_ ?_; rotate_left; (focus (intro w h; go_simp; (try with_reducible rfl))); (try simp only [xd, xe, xf])
   refine tk 9 32 ?_ ?_ ?_; rotate_left; (focus (intro w h; go_simp; (try with_reducible rfl))); (try simp only [xd, xe, xf])
   refine tk 10 33 ?_ ?_ ?_; rotate_left; (focus (intro w h; go_simp; (try with_reducible rfl))); (try simp only [xd, xe, xf])
   refine tk 11 34 ?_ ?_ ?_; rotate_left; (focus (intro w h; go_simp; (try with_reducible rfl))); (try simp only [xd, xe, xf])
   refine tk 12 35 ?_ ?_ ?_; rotate_left; (focus (intro w h; go_simp; (try with_reducible rfl))); (try simp only [xd, xe, xf])
   refine tk 13 36 ?_ ?_ ?_; rotate_left; (focus (intro w h; go_simp; (try with_reducible rfl))); (try simp only [xd, xe, xf])
   refine tk 14 37 ?_ ?_ ?_; rotate_left; (focus (intro w h; go_simp; (try with_reducible rfl))); (try simp only [xd, xe, xf])
   refine tk 15 38 ?_ ?_ ?_; rotate_left; (focus (intro w h; go_simp; (try with_reducible rfl))); (try simp only [xd, xe, xf])
   refine tk 16 39 ?_ ?_ ?_; rotate_left; (focus (intro w h; go_simp; (try with_reducible rfl))); (try simp only [xd, xe, xf])
   refine call_at (i := 17) (d := 40) (by simp only [xa, xb, xc]; rfl) rfl (by kernel_rfl) rfl (fun K hK => ?_)
   go_simp
   refine (acomp_any wr.drew k j1 j2 j3 j4 (V : Int) vx mh mx s.sm (by omega) HMX.out.2 HOK.out.bs.2).mono ?_
   rw [HCV.out]
   rintro e z ⟨rfl, hz⟩
   have hS1 : Kept wr z := hS0.below (Nat.le_refl _) hz
   have HZ : Hid (Below wr.heap.size wr z) := hide (below_undrew hz)
   have szz : wr.heap.size ≤ z.heap.size := hz.size
   clear hz
   go_wp2_with fail
   refine hK.out _ _ hS1 (fun hSn => ?_)
   clear hK K
   try simp only [xd, xe, xf]
   refine tk 18 22 ?_ ?_ ?_; rotate_left; (focus (intro w h; go_simp; (try with_reducible rfl))); (try simp only [xd, xe, xf])
   refine tk 19 41 ?_ ?_ ?_; rotate_left; (focus (intro w h; go_simp; (try with_reducible rfl))); (try simp only [xd, xe, xf])
   refine tk 20 42 ?_ ?_ ?_; rotate_left; (focus (intro w h; go_simp; (try with_reducible rfl))); (try simp only [xd, xe, xf])
   refine tk 21 8 ?_ ?_ ?_; rotate_left; (focus (intro w h; go_simp; (try with_reducible rfl))); (try simp only [xd, xe, xf])
   refine tk 22 9 ?_ ?_ ?_; rotate_left; (focus (intro w h; go_simp; (try with_reducible rfl))); (try simp only [xd, xe, xf])
   refine wpAnyH_done (by kernel_rfl) ?_ _
   clear hS0 hSn hS1 d0 d1 d2 d3 d4 dV e0 e1 e2 a3 a4 hz1 hz3 hz4
   have HV1 := hide (own_below HVo.out HZ.out (fun g hg => (HVo.out.lt g hg).2))
   have HC1 := hide (own_below HCo.out HZ.out (fun g hg => (HCo.out.lt g hg).2))
   have HB1 := hide (HBr.out.trans (HZ.out.mono HBr.out.size))
   have HR1 := hide ((HZ.out.block (w.heap.size + 2) (by omega)).trans HM.out.1.2)
   have p1 : z.cell? ⟨w.heap.size + 1 + 1, 1, none⟩ = some (.slice Av i cv) := cell_of_row _ _ 1 _ _ _ HR1.out
   go_wp2_with (at_builtin; refine wpList_app rfl (.tmp 44) (.tmp 46) 29 rfl u.heap.size 2 a0 (.int .i64 0) 1 8 Tryz.underlying29 a0i a0z a0s a0b rfl (by decide) (.slice Av i cv) i _ rfl (HV1.out.alloc _) (z.heap.size + 1) (some ⟨z.heap.size, 0, none⟩) 1 1 [.int .i64 (compV k j3 V s i).1] rfl rfl (Rd.new _ _ _ _) (by simp [Value.oneCell']) (by unfold maxLen; omega) (by omega) (by simp; omega) ?_)
   intro A2 c2 y own2 hg2 hat2
   have HO_y : Hid (y.ownsRow u.heap.size 2 1 (.slice A2 (i + 1) c2) (i + 1) (i64s (nextVals k j3 V s (i + 1)))) := hide (by rw [nextVals_succ]; simpa [i64s, bools, hzu] using own2)
   have HP_y := hide (own_apart (HC1.out.alloc (.cells #[.int .i64 (compV k j3 V s i).1] 2)) (HV1.out.alloc (.cells #[.int .i64 (compV k j3 V s i).1] 2)) (by decide) hg2)
   have HB_y := hide (app_below (HB1.out.alloc HB1.out.size (.cells #[.int .i64 (compV k j3 V s i).1] 2)) (HV1.out.alloc (.cells #[.int .i64 (compV k j3 V s i).1] 2)) hg2 (by rw [World.size_alloc]; have := HB1.out.size; omega) (by omega))
   have HQ_y := hide (show ∀ q, q < u.heap.size → y.heap[q]? = z.heap[q]? from fun q hq => (hg2.block q (by rw [World.size_alloc]; omega) (fun e => by have := (HV1.out.lt q e.symm).1; omega)).trans (Below.heap_alloc z _ q (by omega)))
   have hs_y : z.heap.size + 1 ≤ y.heap.size := by have := hg2.size; rwa [World.size_alloc] at this
   clear own2 hg2 hat2
   clear p1
   have q1 : y.heap[w.heap.size + 2]? = _ := (HQ_y.out (w.heap.size + 2) (by omega)).trans HR1.out
   have p1 : y.cell? ⟨w.heap.size + 1 + 1, 1, none⟩ = some (.slice Av i cv) := cell_of_row _ _ 1 _ _ _ q1
   have f1 : y.frozen? ⟨w.heap.size + 1 + 1, 1, none⟩ = false := frozen_of_row _ _ 1 _ _ q1
   have HR2 := hide q1
   clear q1
   go_upto_region 7 with fail
   clear p1 f1
   obtain ⟨y1, hy1⟩ : ∃ q, y.setCell ⟨w.heap.size + 1 + 1, 1, none⟩ (.slice A2 (i + 1) c2) = q := ⟨_, rfl⟩
   have HV2 := hide (own_set (b := w.heap.size + 1 + 1) (j := 1) (u := .slice A2 (i + 1) c2) HO_y.out (by omega))
   have HC2 := hide (own_set (b := w.heap.size + 1 + 1) (j := 1) (u := .slice A2 (i + 1) c2) HP_y.out (by omega))
   have HB2 := hide (HB_y.out.setCell (p := ⟨w.heap.size + 1 + 1, 1, none⟩) (by show w.heap.size ≤ w.heap.size + 1 + 1; omega) (.slice A2 (i + 1) c2))
   have HR3 := hide (set_at1 (x := .slice A2 (i + 1) c2) HR2.out)
   have hs1 := World.size_setCell y ⟨w.heap.size + 1 + 1, 1, none⟩ (.slice A2 (i + 1) c2)
   have HQ2 := hide (show ∀ q, q < u.heap.size → q ≠ w.heap.size + 1 + 1 → (y.setCell ⟨w.heap.size + 1 + 1, 1, none⟩ (.slice A2 (i + 1) c2)).heap[q]? = z.heap[q]? from fun q hq hn => (Below.heap_setCell _ _ _ q hn).trans (HQ_y.out q hq))
   rw [hy1] at HV2 HC2 HB2 HR3 hs1 HQ2 ⊢
   have hs2 : z.heap.size + 1 ≤ y1.heap.size := by omega
   clear hy1 hs1
   have p2 : y1.cell? ⟨w.heap.size + 1 + 1, 2, none⟩ = some (.slice Ac i cc) := cell_of_row _ _ 2 _ _ _ HR3.out
   go_wp2_with (at_builtin; refine wpList_app rfl (.tmp 50) (.tmp 52) 30 rfl u.heap.size 4 b0 (.bool false) 1 1 Tryz.underlying30 b0i b0z b0s b0b rfl (by decide) (.slice Ac i cc) i _ rfl (HC2.out.alloc _) (y1.heap.size + 1) (some ⟨y1.heap.size, 0, none⟩) 1 1 [.bool (compV k j3 V s i).2] rfl rfl (Rd.new _ _ _ _) (by simp [Value.oneCell']) (by unfold maxLen; omega) (by omega) (by simp; omega) ?_)
   intro A3 c3 y2 own2 hg2 hat2
   have HO_y2 : Hid (y2.ownsRow u.heap.size 4 1 (.slice A3 (i + 1) c3) (i + 1) (bools (nextChs k j3 V s (i + 1)))) := hide (by rw [nextChs_succ]; simpa [i64s, bools, hzu] using own2)
   have HP_y2 := hide (own_apart (HV2.out.alloc (.cells #[.bool (compV k j3 V s i).2] 4)) (HC2.out.alloc (.cells #[.bool (compV k j3 V s i).2] 4)) (by decide) hg2)
   have HB_y2 := hide (app_below (HB2.out.alloc HB2.out.size (.cells #[.bool (compV k j3 V s i).2] 4)) (HC2.out.alloc (.cells #[.bool (compV k j3 V s i).2] 4)) hg2 (by rw [World.size_alloc]; have := HB2.out.size; omega) (by omega))
   have HQ_y2 := hide (show ∀ q, q < u.heap.size → y2.heap[q]? = y1.heap[q]? from fun q hq => (hg2.block q (by rw [World.size_alloc]; omega) (fun e => by have := (HC2.out.lt q e.symm).1; omega)).trans (Below.heap_alloc y1 _ q (by omega)))
   have hs_y2 : y1.heap.size + 1 ≤ y2.heap.size := by have := hg2.size; rwa [World.size_alloc] at this
   clear own2 hg2 hat2
   clear p2
   have q1 : y2.heap[w.heap.size + 2]? = _ := (HQ_y2.out (w.heap.size + 2) (by omega)).trans HR3.out
   have p2 : y2.cell? ⟨w.heap.size + 1 + 1, 2, none⟩ = some (.slice Ac i cc) := cell_of_row _ _ 2 _ _ _ q1
   have f2 : y2.frozen? ⟨w.heap.size + 1 + 1, 2, none⟩ = false := frozen_of_row _ _ 2 _ _ q1
   have HR4 := hide q1
   clear q1
   go_upto_region 8 with fail
   clear p2 f2
   obtain ⟨y3, hy3⟩ : ∃ q, y2.setCell ⟨w.heap.size + 1 + 1, 2, none⟩ (.slice A3 (i + 1) c3) = q := ⟨_, rfl⟩
   have HC3 := hide (own_set (b := w.heap.size + 1 + 1) (j := 2) (u := .slice A3 (i + 1) c3) HO_y2.out (by omega))
   have HV3 := hide (own_set (b := w.heap.size + 1 + 1) (j := 2) (u := .slice A3 (i + 1) c3) HP_y2.out (by omega))
   have HB3 := hide (HB_y2.out.setCell (p := ⟨w.heap.size + 1 + 1, 2, none⟩) (by show w.heap.size ≤ w.heap.size + 1 + 1; omega) (.slice A3 (i + 1) c3))
   have HR5 := hide (set_at2 (x := .slice A3 (i + 1) c3) HR4.out)
   have hs3 := World.size_setCell y2 ⟨w.heap.size + 1 + 1, 2, none⟩ (.slice A3 (i + 1) c3)
   have HQ3 := hide (show ∀ q, q < u.heap.size → q ≠ w.heap.size + 1 + 1 → (y2.setCell ⟨w.heap.size + 1 + 1, 2, none⟩ (.slice A3 (i + 1) c3)).heap[q]? = u.heap[q]? from fun q hq hn => (Below.heap_setCell _ _ _ q hn).trans ((HQ_y2.out q hq).trans ((HQ2.out q hq hn).trans ((HZ.out.block q (by omega)).trans (HM.out.2 q hq hn)))))
   rw [hy3] at HV3 HC3 HB3 HR5 hs3 HQ3 ⊢
   have hs4 : u.heap.size ≤ y3.heap.size := by omega
   clear hy3 hs3
   go_wp2
   go_roundw
   case rel => exact ⟨i + 1, A2, c2, A3, c3, by omega, by go_num, HV3, HC3, HB3, hide ⟨⟨hs4, HR5.out⟩, HQ3.out⟩⟩
   case measure => simp [intOf]; omega
  ·obtain rfl : i = V := by omega
   have q1 := HM.out.1.2
   have s0 : wr.cell? ⟨w.heap.size + 1 + 1, 0, none⟩ = some (.int .i64 (s.st + 1)) := cell_of_row _ _ 0 _ _ _ q1
   have s1 : wr.cell? ⟨w.heap.size + 1 + 1, 1, none⟩ = some (.slice Av i cv) := cell_of_row _ _ 1 _ _ _ q1
   have s2 : wr.cell? ⟨w.heap.size + 1 + 1, 2, none⟩ = some (.slice Ac i cc) := cell_of_row _ _ 2 _ _ _ q1
   have s3 : wr.cell? ⟨w.heap.size + 1 + 1, 3, none⟩ = some (.slice none 0 0) := cell_of_row _ _ 3 _ _ _ q1
   have s4 : wr.cell? ⟨w.heap.size + 1 + 1, 4, none⟩ = some (.int .i64 0) := cell_of_row _ _ 4 _ _ _ q1
   have s5 : wr.cell? ⟨w.heap.size + 1 + 1, 5, none⟩ = some (.int .i64 0) := cell_of_row _ _ 5 _ _ _ q1
   have G0 := (HM.out.2 w.heap.size (by omega) (by omega)).trans HU.out.2.2.1
   have a1 : wr.cell? ⟨w.heap.size, 1, none⟩ = some (.slice Aw i cw) := cell_of_row _ _ 1 _ _ _ G0
   clear G0
   have HWv := hide (HVI.out.vals.next HBr.out)
   have HR := hide q1
   clear q1
   go_wp2_with fail
   refine (mtell_any wr m i A L c k j1 j2 j3 j4 es xs Aof Aow cof cow (HMH.out.next HBr.out) (by omega) HL.out (by omega) hEB (s.st + 1) 0 0 s.vals (nextVals k j3 i s i) (nextChs k j3 i s i) Av Ac none Aw cv cc 0 0 cw ⟨by simp [nextVals], Rd.of_own HVo.out, nextVals_bd HOK.out⟩ ⟨by simp [nextChs], Rd.of_own HCo.out⟩ ⟨HOK.out.lv, HWv.out, HOK.out.bv⟩).mono ?_
   rintro e z ⟨Ai2, ci2, rfl, hrd, hbz, hnew⟩
   have HRD := hide hrd
   have HBZ := hide hbz
   have HNW := hide hnew
   have szz : wr.heap.size ≤ z.heap.size := hbz.size
   clear hrd hbz hnew s0 s1 s2 s3 s4 s5 a1
   have HR0 := hide ((HBZ.out.block (w.heap.size + 1) (by omega)).trans ((HM.out.2 (w.heap.size + 1) (by omega) (by omega)).trans HU.out.2.2.2.1))
   have HVz := hide ((Rd.of_own HVo.out).next HBZ.out)
   have HCz := hide ((Rd.of_own HCo.out).next HBZ.out)
   have HNV := hide (own_new HVo.out (Nat.le_refl _))
   have HNC := hide (own_new HCo.out (Nat.le_refl _))
   have q0 : z.cell? ⟨w.heap.size + 1, 0, none⟩ = some (.int .i64 0) := cell_of_row _ _ 0 _ _ _ HR0.out
   have q1 : z.cell? ⟨w.heap.size + 1, 1, none⟩ = some (.slice none 0 0) := cell_of_row _ _ 1 _ _ _ HR0.out
   have q2 : z.cell? ⟨w.heap.size + 1, 2, none⟩ = some (.slice none 0 0) := cell_of_row _ _ 2 _ _ _ HR0.out
   have q3 : z.cell? ⟨w.heap.size + 1, 3, none⟩ = some (.slice none 0 0) := cell_of_row _ _ 3 _ _ _ HR0.out
   have q4 : z.cell? ⟨w.heap.size + 1, 4, none⟩ = some (.int .i64 0) := cell_of_row _ _ 4 _ _ _ HR0.out
   have q5 : z.cell? ⟨w.heap.size + 1, 5, none⟩ = some (.int .i64 0) := cell_of_row _ _ 5 _ _ _ HR0.out
   have f0 : z.frozen? ⟨w.heap.size + 1, 0, none⟩ = false := frozen_of_row _ _ 0 _ _ HR0.out
   have f1 : z.frozen? ⟨w.heap.size + 1, 1, none⟩ = false := frozen_of_row _ _ 1 _ _ HR0.out
   have f2 : z.frozen? ⟨w.heap.size + 1, 2, none⟩ = false := frozen_of_row _ _ 2 _ _ HR0.out
   have f3 : z.frozen? ⟨w.heap.size + 1, 3, none⟩ = false := frozen_of_row _ _ 3 _ _ HR0.out
   have f4 : z.frozen? ⟨w.heap.size + 1, 4, none⟩ = false := frozen_of_row _ _ 4 _ _ HR0.out
   have f5 : z.frozen? ⟨w.heap.size + 1, 5, none⟩ = false := frozen_of_row _ _ 5 _ _ HR0.out
   have zz1 : w.heap.size + 1 < z.heap.size := by omega
   go_wp2
   obtain ⟨wf, hwf⟩ : ∃ q, (((((z.setCell ⟨w.heap.size + 1, 0, none⟩ (.int .i64 (s.st + 1))).setCell ⟨w.heap.size + 1, 1, none⟩ (.slice Av i cv)).setCell ⟨w.heap.size + 1, 2, none⟩ (.slice Ac i cc)).setCell ⟨w.heap.size + 1, 3, none⟩ (.slice Ai2 i ci2)).setCell ⟨w.heap.size + 1, 4, none⟩ (.int .i64 (totV k es s.vals (nextVals k j3 i s i) (nextChs k j3 i s i) i).1)).setCell ⟨w.heap.size + 1, 5, none⟩ (.int .i64 (totV k es s.vals (nextVals k j3 i s i) (nextChs k j3 i s i) i).2) = q := ⟨_, rfl⟩
   have hF := far6 z (w.heap.size + 1) (w.heap.size + 1) (.int .i64 (s.st + 1)) (.slice Av i cv) (.slice Ac i cc) (.slice Ai2 i ci2) (.int .i64 (totV k es s.vals (nextVals k j3 i s i) (nextChs k j3 i s i) i).1) (.int .i64 (totV k es s.vals (nextVals k j3 i s i) (nextChs k j3 i s i) i).2) HR0.out
   rw [hwf] at hF ⊢
   obtain ⟨FF, HY⟩ := hF
   obtain ⟨y0, y1, y2, y3, y4, y5⟩ := cells6 HY
   clear hwf HY
   exact bodyPost_ret (v := .agg #[.int .i64 (s.st + 1), .slice Av i cv, .slice Ac i cc, .slice Ai2 i ci2, .int .i64 (totV k es s.vals (nextVals k j3 i s i) (nextChs k j3 i s i) i).1, .int .i64 (totV k es s.vals (nextVals k j3 i s i) (nextChs k j3 i s i) i).2]) (by simp [results, Tryz.results44, go_sem, y0, y1, y2, y3, y4, y5]) rfl ⟨Av, Ac, Ai2, cv, cc, ci2, rfl, ⟨FF.rd HVz.out HNV.out (by omega) (by omega), FF.rd HCz.out HNC.out (by omega) (by omega), FF.rd HRD.out HNW.out (by omega) (by omega)⟩, (HBr.out.trans (HBZ.out.mono HBr.out.size)).trans (FF.below (by omega) (by omega)), ⟨HNV.out.mono (by omega), HNC.out.mono (by omega), HNW.out.mono (by omega)⟩, ownsRow_lower (FF.own (own_below HVo.out HBZ.out (fun g hg => (HVo.out.lt g hg).2)) (by omega) (by omega)) (by omega)⟩
end Go.Proofs.YtpgbjabifhjogaaGreat
