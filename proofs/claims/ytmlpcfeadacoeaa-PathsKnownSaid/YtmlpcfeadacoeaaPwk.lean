/- works, of the chapter on paths. -/
import Derived.Test.YtmlpcfeadacoeaaPtg
namespace Go.Proofs.Ytmlpcfeadacoeaa
open Go.RowKit
set_option linter.unusedVariables false
set_option linter.unusedSimpArgs false
def es3 : List Ed := [(0, 1, 4), (0, 2, 1), (2, 1, 2)]
theorem tight_n (w : World) (V : Int) (A : Option Addr) (es : List Ed) (vals : List Int) (L c : Nat) (s : Int) (g : Nat) (res : Bool) (hL : es.length = L) (hE : Eds w w.heap.size A es) (hc : L ≤ 9223372036854775807) (hM : vals.length = 4) (hR : Rd w w.heap.size (some ⟨g, 0, none⟩) (vals.map (Value.int .i64))) (hvb : ∀ x ∈ vals, -9223372036854775808 ≤ x ∧ x ≤ 9223372036854775807) (hres : tightF V es s vals = res) :
    Calls Try.prog 16 #[.agg #[.int .i64 V, .slice A L c], .int .i64 s, .slice (some ⟨g, 0, none⟩) 4 4] w fun e w' => e = .returned (.bool res) ∧ Below w.heap.size w w' := by
  subst hres; exact tight_any w V A _ es vals L c 4 4 s hL hE hc hM hR hvb
theorem rd4 (w : World) (a b c d : Int) : Rd (w.alloc (.cells #[.int .i64 a, .int .i64 b, .int .i64 c, .int .i64 d] 2)) (w.alloc (.cells #[.int .i64 a, .int .i64 b, .int .i64 c, .int .i64 d] 2)).heap.size (some ⟨w.heap.size, 0, none⟩) ([a, b, c, d].map (Value.int .i64)) := by
  have h := Rd.new w #[.int .i64 a, .int .i64 b, .int .i64 c, .int .i64 d] 2 (0, 0)
  rw [← show (w.alloc (.cells #[.int .i64 a, .int .i64 b, .int .i64 c, .int .i64 d] 2)).heap.size = w.heap.size + 1 by simp] at h
  exact h
set_option maxRecDepth 100000 in
set_option maxHeartbeats 8000000 in
theorem works_any (w : World) : Calls Try.prog 12 #[] w fun e w' => e = .returned (.bool true) ∧ Below w.heap.size w w' := by
  obtain ⟨v1, hv1⟩ : ∃ v1, w.alloc (.cells #[.int .i64 0, .int .i64 1, .int .i64 4, .int .i64 0, .int .i64 2, .int .i64 1, .int .i64 2, .int .i64 1, .int .i64 2] 23) = v1 := ⟨_, rfl⟩
  obtain ⟨v, hv⟩ : ∃ v, v1.alloc (.cells #[.int .i64 4, .slice (some ⟨w.heap.size, 0, none⟩) 3 3] 35) = v := ⟨_, rfl⟩
  have hz1 : v1.heap.size = w.heap.size + 1 := by rw [← hv1]; simp
  have hz : v.heap.size = w.heap.size + 1 + 1 := by rw [← hv]; simp [hz1]
  have hb1 : Below w.heap.size w v1 := by rw [← hv1]; exact (Below.refl _ _).alloc (Nat.le_refl _) _
  have hb2 : Below v1.heap.size v1 v := by rw [← hv]; exact (Below.refl _ _).alloc (Nat.le_refl _) _
  have hb : Below w.heap.size w v := hb1.trans (hb2.mono hb1.size)
  have ce1 : v1.heap[w.heap.size]? = some (.cells #[.int .i64 0, .int .i64 1, .int .i64 4, .int .i64 0, .int .i64 2, .int .i64 1, .int .i64 2, .int .i64 1, .int .i64 2] 23) := by rw [← hv1]; exact heap_alloc_last w _
  have ce := (hb2.block w.heap.size (by omega)).trans ce1
  have cg : v.heap[w.heap.size + 1]? = some (.cells #[.int .i64 4, .slice (some ⟨w.heap.size, 0, none⟩) 3 3] 35) := by rw [← hv, ← hz1]; exact heap_alloc_last v1 _
  have hE : Eds v v.heap.size (some ⟨w.heap.size, 0, none⟩) es3 := fun _ => by
    refine ⟨w.heap.size, 0, rfl, by omega, fun i x hx => ⟨[.int .i64 x.1, .int .i64 x.2.1, .int .i64 x.2.2], rfl, ⟨rfl, ?_⟩, fun j u hu => ?_⟩⟩
    · rcases i with _ | _ | _ | i <;> simp [es3] at hx <;> subst hx <;> simp
    · rw [cell_of_row _ _ _ _ _ _ ce]
      rcases i with _ | _ | _ | i <;> simp [es3] at hx <;> subst hx <;> (rcases j with _ | _ | _ | j <;> simp at hu <;> subst hu <;> rfl)
  have HE := hide hE
  have HCG := hide cg
  have HCE := hide ce
  have HV := hide (And.intro hv1 hv)
  have HB := hide hb
  have hl0 : w.heap.size < v.heap.size := by omega
  have hl1 : w.heap.size + 1 < v.heap.size := by omega
  have cg0 : v.cell? ⟨w.heap.size + 1, 0, none⟩ = some (.int .i64 4) := cell_of_row _ _ 0 _ _ _ cg
  have cg1 : v.cell? ⟨w.heap.size + 1, 1, none⟩ = some (.slice (some ⟨w.heap.size, 0, none⟩) 3 3) := cell_of_row _ _ 1 _ _ _ cg
  have c0 : v.cell? ⟨w.heap.size, 0, none⟩ = some (.int .i64 0) := cell_of_row _ _ 0 _ _ _ ce
  have c1 : v.cell? ⟨w.heap.size, 1, none⟩ = some (.int .i64 1) := cell_of_row _ _ 1 _ _ _ ce
  have c2 : v.cell? ⟨w.heap.size, 2, none⟩ = some (.int .i64 4) := cell_of_row _ _ 2 _ _ _ ce
  clear hv1 hv hz1 hz hb1 hb2 hb ce1 ce cg hE
  go_enter Try.func12, Try.ntmps12
  go_wp2_with fail
  rw [HV.out.1, HV.out.2]
  refine (take_any _ 5 true 3).mono ?_
  rintro e y1 ⟨rfl, k1⟩
  rw [show takeOf 5 true 3 = (3, true) by decide]
  go_wp2_with fail
  refine (take_any _ 5 false 3).mono ?_
  rintro e y2 ⟨rfl, k2'⟩
  rw [show takeOf 5 false 3 = (5, false) by decide]
  have k2 := k1.trans (k2'.mono k1.size)
  clear k1 k2'
  have ay2 := (k2.cell (p := ⟨w.heap.size + 1, 0, none⟩) hl1).trans cg0
  have by2 := (k2.cell (p := ⟨w.heap.size + 1, 1, none⟩) hl1).trans cg1
  have sy2 := k2.size
  have al2 : Below y2.heap.size y2 (y2.alloc (.cells #[.int .i64 0, .int .i64 3, .int .i64 1, .int .i64 4611686018427387904] 2)) := (Below.refl _ _).alloc (Nat.le_refl _) _
  have kk2 := k2.trans (al2.mono sy2)
  have AL2 := hide kk2
  clear al2 kk2
  go_wp2_with fail
  refine (tight_n _ 4 _ es3 [0, 3, 1, 4611686018427387904] 3 3 0 _ true rfl ((HE.out.below AL2.out (Nat.le_refl _)).more AL2.out.size) (by decide) rfl (rd4 y2 0 3 1 4611686018427387904) (by decide) (by decide +kernel)).mono ?_
  rintro e y3 ⟨rfl, q2⟩
  have k3 := AL2.out.trans (q2.mono AL2.out.size)
  clear q2 AL2 ay2 by2 sy2 k2
  have ay3 := (k3.cell (p := ⟨w.heap.size + 1, 0, none⟩) hl1).trans cg0
  have by3 := (k3.cell (p := ⟨w.heap.size + 1, 1, none⟩) hl1).trans cg1
  have sy3 := k3.size
  have al3 : Below y3.heap.size y3 (y3.alloc (.cells #[.int .i64 0, .int .i64 4, .int .i64 1, .int .i64 4611686018427387904] 2)) := (Below.refl _ _).alloc (Nat.le_refl _) _
  have kk3 := k3.trans (al3.mono sy3)
  have AL3 := hide kk3
  clear al3 kk3
  go_wp2_with fail
  refine (tight_n _ 4 _ es3 [0, 4, 1, 4611686018427387904] 3 3 0 _ false rfl ((HE.out.below AL3.out (Nat.le_refl _)).more AL3.out.size) (by decide) rfl (rd4 y3 0 4 1 4611686018427387904) (by decide) (by decide +kernel)).mono ?_
  rintro e y4 ⟨rfl, q3⟩
  have k4 := AL3.out.trans (q3.mono AL3.out.size)
  clear q3 AL3 ay3 by3 sy3 k3
  have ay4 := (k4.cell (p := ⟨w.heap.size + 1, 0, none⟩) hl1).trans cg0
  have by4 := (k4.cell (p := ⟨w.heap.size + 1, 1, none⟩) hl1).trans cg1
  have sy4 := k4.size
  have al4 : Below y4.heap.size y4 (y4.alloc (.cells #[.int .i64 0, .int .i64 2, .int .i64 1, .int .i64 4611686018427387904] 2)) := (Below.refl _ _).alloc (Nat.le_refl _) _
  have kk4 := k4.trans (al4.mono sy4)
  have AL4 := hide kk4
  clear al4 kk4
  go_wp2_with fail
  refine (tight_n _ 4 _ es3 [0, 2, 1, 4611686018427387904] 3 3 0 _ false rfl ((HE.out.below AL4.out (Nat.le_refl _)).more AL4.out.size) (by decide) rfl (rd4 y4 0 2 1 4611686018427387904) (by decide) (by decide +kernel)).mono ?_
  rintro e y5 ⟨rfl, q4⟩
  have k5 := AL4.out.trans (q4.mono AL4.out.size)
  clear q4 AL4 ay4 by4 sy4 k4
  have ay5 := (k5.cell (p := ⟨w.heap.size + 1, 0, none⟩) hl1).trans cg0
  have by5 := (k5.cell (p := ⟨w.heap.size + 1, 1, none⟩) hl1).trans cg1
  have sy5 := k5.size
  have al5 : Below y5.heap.size y5 (y5.alloc (.cells #[.int .i64 0, .int .i64 3, .int .i64 1, .int .i64 7] 2)) := (Below.refl _ _).alloc (Nat.le_refl _) _
  have kk5 := k5.trans (al5.mono sy5)
  have AL5 := hide kk5
  clear al5 kk5
  go_wp2_with fail
  refine (tight_n _ 4 _ es3 [0, 3, 1, 7] 3 3 0 _ false rfl ((HE.out.below AL5.out (Nat.le_refl _)).more AL5.out.size) (by decide) rfl (rd4 y5 0 3 1 7) (by decide) (by decide +kernel)).mono ?_
  rintro e y6 ⟨rfl, q5⟩
  have k6 := AL5.out.trans (q5.mono AL5.out.size)
  clear q5 AL5 ay5 by5 sy5 k5
  have ay6 := (k6.cell (p := ⟨w.heap.size + 1, 0, none⟩) hl1).trans cg0
  have by6 := (k6.cell (p := ⟨w.heap.size + 1, 1, none⟩) hl1).trans cg1
  have sy6 := k6.size
  have e6 := (k6.cell (p := ⟨w.heap.size, 0, none⟩) hl0).trans c0
  have f6 := (k6.cell (p := ⟨w.heap.size, 1, none⟩) hl0).trans c1
  have g6 := (k6.cell (p := ⟨w.heap.size, 2, none⟩) hl0).trans c2
  go_wp2_with fail
  refine (give_any _ 4611686018427387904 0 1 4 (by decide) (by decide) (by decide) (by decide)).mono ?_
  rintro e y7 ⟨rfl, q6⟩
  rw [show dadd 4611686018427387904 4 = 4611686018427387904 by decide]
  have k7 := k6.trans (q6.mono k6.size)
  clear q6 ay6 by6 sy6 k6 e6 f6 g6
  have ay7 := (k7.cell (p := ⟨w.heap.size + 1, 0, none⟩) hl1).trans cg0
  have by7 := (k7.cell (p := ⟨w.heap.size + 1, 1, none⟩) hl1).trans cg1
  have sy7 := k7.size
  have e7 := (k7.cell (p := ⟨w.heap.size, 0, none⟩) hl0).trans c0
  have f7 := (k7.cell (p := ⟨w.heap.size, 1, none⟩) hl0).trans c1
  have g7 := (k7.cell (p := ⟨w.heap.size, 2, none⟩) hl0).trans c2
  go_wp2_with fail
  refine (give_any _ 2 0 1 4 (by decide) (by decide) (by decide) (by decide)).mono ?_
  rintro e y8 ⟨rfl, q7⟩
  rw [show dadd 2 4 = 6 by decide]
  have k8 := k7.trans (q7.mono k7.size)
  clear q7 ay7 by7 sy7 k7 e7 f7 g7
  go_wp2_with fail
  refine (start_any _ 1 1).mono ?_
  rintro e z1 ⟨rfl, rfl⟩
  rw [show startOf 1 1 = 0 by decide]
  go_wp2_with fail
  refine (start_any _ 0 1).mono ?_
  rintro e z2 ⟨rfl, rfl⟩
  rw [show startOf 0 1 = 4611686018427387904 by decide]
  go_wp2
  go_ret
  exact ⟨rfl, HB.out.trans (k8.mono (Nat.le_of_lt hl0))⟩
end Go.Proofs.Ytmlpcfeadacoeaa
