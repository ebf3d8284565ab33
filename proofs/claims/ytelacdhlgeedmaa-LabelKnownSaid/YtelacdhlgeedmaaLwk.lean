/- works of law08; the walks of LabelTake and LabelMarks. -/
import Derived.Test.YtelacdhlgeedmaaLnr
import Derived.Test.YtelacdhlgeedmaaLlt
import Derived.Test.YtelacdhlgeedmaaSai
import Derived.Test.YtelacdhlgeedmaaOap
import Derived.Test.YtelacdhlgeedmaaRow
namespace Go.Proofs.Ytelacdhlgeedmaa
open Go.ChangeShapes Go.WideShapes Go.ChangeAt Go.RowKit
set_option linter.unusedVariables false
set_option linter.unusedSimpArgs false
theorem sameInts_of {w : World} {A B : Option Addr} {xs ys : List Int} {n m c d : Nat} (b : Bool) (hb : eqL xs ys = b) (hx : xs.length = n) (hy : ys.length = m) (hn : n ≤ 9223372036854775807) (rx : Rd w w.heap.size A (xs.map (Value.int .i64))) (ry : Rd w w.heap.size B (ys.map (Value.int .i64))) :
    Calls Try.prog 9 #[.slice A n c, .slice B m d] w fun e w' => e = .returned (.bool b) ∧ Below w.heap.size w w' :=
  (sameInts_any w A B xs ys n m c d hx hy hn rx ry).mono fun e w' h => ⟨by rw [h.1, hb], h.2⟩
theorem near_ex : nearF 1 [(1, 3, 0), (1, 1, 0)] [(0, 1, 0), (3, 1, 0)] = [0, 3] := by
  have h : sortI [3, 1, 0, 3] = [0, 1, 3, 3] := by simp [sortI, List.mergeSort, List.MergeSort.Internal.splitInTwo, List.merge]
  show (Lib.compact (sortI [3, 1, 0, 3])).filter _ = _
  rw [h]
  decide +kernel
theorem marks_ex1 : marksF [0, 0, 2, 0] = (2, true) := by decide +kernel
theorem marks_ex2 : marksF [1, 1] = (0, false) := by decide +kernel
theorem near_n (w : World) (v : Int) (A1 A2 : Option Addr) (outs backs : List Ed) (n1 c1 n2 c2 : Nat) (l : List Int) (hl : nearF v outs backs = l) (h1 : outs.length = n1) (h2 : backs.length = n2) (hn1 : n1 ≤ 10000) (hn2 : n2 ≤ 10000) (e1 : Eds w w.heap.size A1 outs) (e2 : Eds w w.heap.size A2 backs) :
    Calls Try.prog 8 #[.int .i64 v, .slice A1 n1 c1, .slice A2 n2 c2] w (NearPost w l) := by
  subst hl; exact near_any w v A1 A2 outs backs n1 c1 n2 c2 h1 h2 hn1 hn2 e1 e2
theorem marks_n (w : World) (A : Option Addr) (vals : List Int) (n c : Nat) (p : Int) (b : Bool) (hm : marksF vals = (p, b)) (hx : vals.length = n) (hn : n ≤ 1000000) (rx : Rd w w.heap.size A (vals.map (Value.int .i64))) :
    Calls Try.prog 14 #[.slice A n c] w fun e w' => e = .returned (.tuple #[.int .i64 p, .bool b]) ∧ w' = w :=
  (marks_any w A vals n c hx hn rx).mono fun e w' h => ⟨by rw [h.1, hm], h.2⟩
set_option maxRecDepth 100000 in
set_option maxHeartbeats 4000000 in
theorem works_any (w : World) : Calls Try.prog 7 #[] w fun e w' => e = .returned (.bool true) ∧ Below w.heap.size w w' := by
  obtain ⟨v1, hv1⟩ : ∃ v1, w.alloc (.cells #[.int .i64 1, .int .i64 3, .int .i64 0, .int .i64 1, .int .i64 1, .int .i64 0] 42) = v1 := ⟨_, rfl⟩
  have hz1 : v1.heap.size = w.heap.size + 1 := by rw [← hv1]; simp
  have hb1 : Below w.heap.size w v1 := by rw [← hv1]; exact (Below.refl _ _).alloc (Nat.le_refl _) _
  obtain ⟨v, hv⟩ : ∃ v, v1.alloc (.cells #[.int .i64 0, .int .i64 1, .int .i64 0, .int .i64 3, .int .i64 1, .int .i64 0] 42) = v := ⟨_, rfl⟩
  have hz : v.heap.size = w.heap.size + 2 := by rw [← hv]; simp [hz1]
  have hb2 : Below v1.heap.size v1 v := by rw [← hv]; exact (Below.refl _ _).alloc (Nat.le_refl _) _
  have hb : Below w.heap.size w v := hb1.trans (hb2.mono hb1.size)
  have E1 : Hid (Eds v v.heap.size (some ⟨w.heap.size, 0, none⟩) [(1, 3, 0), (1, 1, 0)]) := hide (by
    refine Eds.of_rd ?_ (wt_of (by decide))
    have h := Rd.new w #[.int .i64 1, .int .i64 3, .int .i64 0, .int .i64 1, .int .i64 1, .int .i64 0] 42 (0, 0)
    rw [hv1] at h
    exact (h.below' hb2 (by omega)).more (by omega))
  have E2 : Hid (Eds v v.heap.size (some ⟨w.heap.size + 1, 0, none⟩) [(0, 1, 0), (3, 1, 0)]) := hide (by
    refine Eds.of_rd ?_ (wt_of (by decide))
    have h := Rd.new v1 #[.int .i64 0, .int .i64 1, .int .i64 0, .int .i64 3, .int .i64 1, .int .i64 0] 42 (0, 0)
    rw [hv, hz1] at h
    exact h.more (by omega))
  have HV := hide (And.intro hv1 hv)
  have HB := hide hb
  clear hv1 hz1 hb1 hv hz hb2 hb
  go_enter Try.func7, Try.ntmps7
  go_wp2_with fail
  rw [HV.out.1, HV.out.2]
  refine (near_n _ 1 _ _ _ _ 2 2 2 2 [0, 3] near_ex rfl rfl (by decide) (by decide) E1.out E2.out).mono ?_
  rintro e y1 ⟨A, c, rfl, hown, k1⟩
  have HOw := hide hown
  have K1 := hide (HB.out.trans (k1.mono HB.out.size))
  clear hown k1
  rw [show ([0, 3] : List Int).length = 2 from rfl] at HOw ⊢
  go_wp2_with fail
  refine (ltake_any _ 5 true 3).mono ?_
  rintro e y2 ⟨rfl, k2⟩
  rw [show ltakeOf 5 true 3 = (3, true) by decide]
  have HO2 := hide ((Rd.of_own HOw.out).below k2)
  have K2 := hide (K1.out.trans (k2.mono K1.out.size))
  have R2 := hide (HO2.out.more k2.size)
  clear k2 HO2
  go_wp2_with fail
  refine (ltake_any _ 5 true 7).mono ?_
  rintro e y3 ⟨rfl, k3⟩
  rw [show ltakeOf 5 true 7 = (5, false) by decide]
  have R3 := hide ((R2.out.below k3).more k3.size)
  have K3 := hide (K2.out.trans (k3.mono K2.out.size))
  clear k3
  go_wp2_with fail
  refine (ltake_any _ 5 false 3).mono ?_
  rintro e y4 ⟨rfl, k4⟩
  rw [show ltakeOf 5 false 3 = (5, false) by decide]
  have R4 := hide ((R3.out.below k4).more k4.size)
  have K4 := hide (K3.out.trans (k4.mono K3.out.size))
  clear k4
  obtain ⟨u, hu⟩ : ∃ u, y4.alloc (.cells #[.int .i64 0, .int .i64 0, .int .i64 2, .int .i64 0] 2) = u := ⟨_, rfl⟩
  have hbu : Below y4.heap.size y4 u := by rw [← hu]; exact (Below.refl _ _).alloc (Nat.le_refl _) _
  have RM : Hid (Rd u u.heap.size (some ⟨y4.heap.size, 0, none⟩) ([0, 0, 2, 0].map (Value.int .i64))) := hide (by
    rw [← hu]
    exact (Rd.new y4 #[.int .i64 0, .int .i64 0, .int .i64 2, .int .i64 0] 2 (0, 0)).more (by simp))
  have R5 := hide ((R4.out.below hbu).more hbu.size)
  have K5 := hide (K4.out.trans (hbu.mono K4.out.size))
  have HU := hide hu
  clear hbu hu
  go_wp2_with fail
  rw [HU.out]
  refine (marks_n _ _ [0, 0, 2, 0] 4 4 2 true marks_ex1 rfl (by decide) RM.out).mono ?_
  rintro e y5 ⟨rfl, rfl⟩
  obtain ⟨t, ht⟩ : ∃ t, y5.alloc (.cells #[.int .i64 1, .int .i64 1] 2) = t := ⟨_, rfl⟩
  have hbt : Below y5.heap.size y5 t := by rw [← ht]; exact (Below.refl _ _).alloc (Nat.le_refl _) _
  have RN : Hid (Rd t t.heap.size (some ⟨y5.heap.size, 0, none⟩) ([1, 1].map (Value.int .i64))) := hide (by
    rw [← ht]
    exact (Rd.new y5 #[.int .i64 1, .int .i64 1] 2 (0, 0)).more (by simp))
  have R6 := hide ((R5.out.below hbt).more hbt.size)
  have K6 := hide (K5.out.trans (hbt.mono K5.out.size))
  have HT := hide ht
  clear hbt ht
  go_wp2_with fail
  rw [HT.out]
  refine (marks_n _ _ [1, 1] 2 2 0 false marks_ex2 rfl (by decide) RN.out).mono ?_
  rintro e y6 ⟨rfl, rfl⟩
  obtain ⟨s, hs⟩ : ∃ s, y6.alloc (.cells #[.int .i64 0, .int .i64 3] 3) = s := ⟨_, rfl⟩
  have hbs : Below y6.heap.size y6 s := by rw [← hs]; exact (Below.refl _ _).alloc (Nat.le_refl _) _
  have RS : Hid (Rd s s.heap.size (some ⟨y6.heap.size, 0, none⟩) ([0, 3].map (Value.int .i64))) := hide (by
    rw [← hs]
    exact (Rd.new y6 #[.int .i64 0, .int .i64 3] 3 (0, 0)).more (by simp))
  have R7 := hide ((R6.out.below hbs).more hbs.size)
  have K7 := hide (K6.out.trans (hbs.mono K6.out.size))
  have HS := hide hs
  clear hbs hs
  go_wp2_with fail
  rw [HS.out]
  refine (sameInts_of (xs := [0, 3]) (ys := [0, 3]) true (by decide) rfl rfl (by decide) R7.out RS.out).mono ?_
  rintro e y7 ⟨rfl, k7⟩
  have K8 := hide (K7.out.trans (k7.mono K7.out.size))
  clear k7
  go_wp2
  go_ret
  exact ⟨rfl, K8.out⟩
end Go.Proofs.Ytelacdhlgeedmaa
