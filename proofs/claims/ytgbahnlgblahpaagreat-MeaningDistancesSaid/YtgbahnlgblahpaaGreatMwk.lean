/- works of law13: the chapter's examples. (printed by gen/mwk.py) -/
import Derived.Test.YtgbahnlgblahpaaGreatMdi
import Derived.Test.YtgbahnlgblahpaaGreatMel
import Derived.Test.YtgbahnlgblahpaaGreatAsy
import Derived.Test.YtgbahnlgblahpaaGreatSam
namespace Go.Proofs.YtgbahnlgblahpaaGreat
open Go.RowKit
set_option linter.unusedVariables false
set_option linter.unusedSimpArgs false
set_option maxRecDepth 100000 in
set_option maxHeartbeats 8000000 in
theorem means3_any (w : World) (V : Int) (A : Option Addr) (es : List Ed) (L c : Nat) (j1 j2 j3 j4 st : Int) (B : Option Addr) (vals : List Int) (n cb : Nat) (hL : es.length = L) (hE : Eds w w.heap.size A es) (hc : L ≤ 8192) (heb : ∀ e ∈ es, -9223372036854775808 ≤ e.2.2 ∧ e.2.2 ≤ 9223372036854775807)
    (hn : vals.length = n) (hn2 : n ≤ 100000) (hR : Rd w w.heap.size B (vals.map (Value.int .i64))) (hck : acheckF 3 j1 j2 j3 j4 V es = 0) (hs0 : 0 ≤ st) (hs1 : st < j1) (hl : (distL V es j2).length ≤ 100000) :
    Calls Tryz.prog 11 #[.agg #[.int .i64 V, .slice A L c], .agg #[.int .u8 3, .int .i64 j1, .int .i64 j2, .int .i64 j3, .int .i64 j4], .agg #[.int .i64 st, .slice B n cb, .slice none 0 0, .slice none 0 0, .int .i64 0, .int .i64 0]] w fun e w' => e = .returned (.bool (eqL (distL V es j2) vals)) ∧ Below w.heap.size w w' := by
  obtain ⟨u1, hu1⟩ : ∃ u, w.alloc (.cells #[.int .i64 V, .slice A L c] 24) = u := ⟨_, rfl⟩
  obtain ⟨u2, hu2⟩ : ∃ u, u1.alloc (.cells #[.int .u8 3, .int .i64 j1, .int .i64 j2, .int .i64 j3, .int .i64 j4] 26) = u := ⟨_, rfl⟩
  obtain ⟨u, hu⟩ : ∃ u, u2.alloc (.cells #[.int .i64 st, .slice B n cb, .slice none 0 0, .slice none 0 0, .int .i64 0, .int .i64 0] 35) = u := ⟨_, rfl⟩
  have z1 : u1.heap.size = w.heap.size + 1 := by rw [← hu1]; simp
  have z2 : u2.heap.size = w.heap.size + 1 + 1 := by rw [← hu2]; simp [z1]
  have z3 : u.heap.size = w.heap.size + 1 + 1 + 1 := by rw [← hu]; simp [z2]
  have b1 : Below w.heap.size w u1 := by rw [← hu1]; exact (Below.refl _ _).alloc (Nat.le_refl _) _
  have b2 : Below u1.heap.size u1 u2 := by rw [← hu2]; exact (Below.refl _ _).alloc (Nat.le_refl _) _
  have b3 : Below u2.heap.size u2 u := by rw [← hu]; exact (Below.refl _ _).alloc (Nat.le_refl _) _
  have hb : Below w.heap.size w u := (b1.trans (b2.mono (by omega))).trans (b3.mono (by omega))
  have M0 := hide (show u.heap[w.heap.size]? = some (.cells #[.int .i64 V, .slice A L c] 24) from (b3.block _ (by omega)).trans ((b2.block _ (by omega)).trans (by rw [← hu1]; exact heap_alloc_last _ _)))
  have M1 := hide (show u.heap[w.heap.size + 1]? = some (.cells #[.int .u8 3, .int .i64 j1, .int .i64 j2, .int .i64 j3, .int .i64 j4] 26) from (b3.block _ (by omega)).trans (by rw [← hu2, ← z1]; exact heap_alloc_last _ _))
  have M2 := hide (show u.heap[w.heap.size + 1 + 1]? = some (.cells #[.int .i64 st, .slice B n cb, .slice none 0 0, .slice none 0 0, .int .i64 0, .int .i64 0] 35) from by rw [← hu, ← z2]; exact heap_alloc_last _ _)
  have HB := hide hb
  have HEu : Hid (Eds u u.heap.size A es) := hide ((Eds.below hE hb (Nat.le_refl _)).more hb.size)
  have HRu := hide ((hR.below hb).more hb.size)
  have HL := hide hL
  have HN := hide hn
  have HEb := hide heb
  have HCk := hide hck
  have hzu : w.heap.size + 1 + 1 < u.heap.size := by omega
  have HU := hide (And.intro hu1 (And.intro hu2 hu))
  have Hl := hide hl
  have n1 : ¬ st < 0 := by omega
  have n2 : ¬ j1 < st := by omega
  have n3 : ¬ st = j1 := by omega
  clear hu1 hu2 hu z1 z2 z3 b1 b2 b3 hb hE hR hL hn heb hck hl
  have a0 : u.cell? ⟨w.heap.size, 0, none⟩ = some (.int .i64 V) := cell_of_row _ _ 0 _ _ _ M0.out
  have a1 : u.cell? ⟨w.heap.size, 1, none⟩ = some (.slice A L c) := cell_of_row _ _ 1 _ _ _ M0.out
  have b0 : u.cell? ⟨w.heap.size + 1, 0, none⟩ = some (.int .u8 3) := cell_of_row _ _ 0 _ _ _ M1.out
  have b1 : u.cell? ⟨w.heap.size + 1, 1, none⟩ = some (.int .i64 j1) := cell_of_row _ _ 1 _ _ _ M1.out
  have b2 : u.cell? ⟨w.heap.size + 1, 2, none⟩ = some (.int .i64 j2) := cell_of_row _ _ 2 _ _ _ M1.out
  have b3 : u.cell? ⟨w.heap.size + 1, 3, none⟩ = some (.int .i64 j3) := cell_of_row _ _ 3 _ _ _ M1.out
  have b4 : u.cell? ⟨w.heap.size + 1, 4, none⟩ = some (.int .i64 j4) := cell_of_row _ _ 4 _ _ _ M1.out
  have c0 : u.cell? ⟨w.heap.size + 1 + 1, 0, none⟩ = some (.int .i64 st) := cell_of_row _ _ 0 _ _ _ M2.out
  have c1 : u.cell? ⟨w.heap.size + 1 + 1, 1, none⟩ = some (.slice B n cb) := cell_of_row _ _ 1 _ _ _ M2.out
  go_enter Tryz.func11, Tryz.ntmps11
  go_wp2_with fail
  rw [HU.out.1, HU.out.2.1, HU.out.2.2]
  refine (acheck_any _ 3 j1 j2 j3 j4 V A es L c HL.out HEu.out (by omega)).mono ?_
  rintro e y ⟨rfl, hy⟩
  rw [HCk.out]
  have HBy := hide (HB.out.trans (hy.mono HB.out.size))
  have N0 := hide ((hy.block _ (by omega)).trans M0.out)
  have N1 := hide ((hy.block _ (by omega)).trans M1.out)
  have N2 := hide ((hy.block _ (by omega)).trans M2.out)
  have HEy : Hid (Eds y y.heap.size A es) := hide ((Eds.below HEu.out hy (Nat.le_refl _)).more hy.size)
  have HRy := hide ((HRu.out.below hy).more hy.size)
  have hzy : w.heap.size + 1 + 1 < y.heap.size := by have := hy.size; omega
  clear hy a0 a1 b0 b1 b2 b3 b4 c0 c1 M0 M1 M2 HEu HRu
  have a0 : y.cell? ⟨w.heap.size, 0, none⟩ = some (.int .i64 V) := cell_of_row _ _ 0 _ _ _ N0.out
  have a1 : y.cell? ⟨w.heap.size, 1, none⟩ = some (.slice A L c) := cell_of_row _ _ 1 _ _ _ N0.out
  have b0 : y.cell? ⟨w.heap.size + 1, 0, none⟩ = some (.int .u8 3) := cell_of_row _ _ 0 _ _ _ N1.out
  have b1 : y.cell? ⟨w.heap.size + 1, 1, none⟩ = some (.int .i64 j1) := cell_of_row _ _ 1 _ _ _ N1.out
  have b2 : y.cell? ⟨w.heap.size + 1, 2, none⟩ = some (.int .i64 j2) := cell_of_row _ _ 2 _ _ _ N1.out
  have b3 : y.cell? ⟨w.heap.size + 1, 3, none⟩ = some (.int .i64 j3) := cell_of_row _ _ 3 _ _ _ N1.out
  have b4 : y.cell? ⟨w.heap.size + 1, 4, none⟩ = some (.int .i64 j4) := cell_of_row _ _ 4 _ _ _ N1.out
  have c0 : y.cell? ⟨w.heap.size + 1 + 1, 0, none⟩ = some (.int .i64 st) := cell_of_row _ _ 0 _ _ _ N2.out
  have c1 : y.cell? ⟨w.heap.size + 1 + 1, 1, none⟩ = some (.slice B n cb) := cell_of_row _ _ 1 _ _ _ N2.out
  go_wp2_with fail
  refine (distances_any y V A es L c j2 HL.out HEy.out hc HEb.out).mono ?_
  rintro e z ⟨A2, c2, rfl, ho, hz⟩
  have HRz := hide ((HRy.out.below hz).more hz.size)
  have HBz := hide (HBy.out.trans (hz.mono HBy.out.size))
  have P2 := hide ((hz.block _ (by omega)).trans N2.out)
  have HOz := hide (Rd.of_own ho)
  clear hz ho a0 a1 b0 b1 b2 b3 b4 c0 c1 N0 N1 N2
  have c1 : z.cell? ⟨w.heap.size + 1 + 1, 1, none⟩ = some (.slice B n cb) := cell_of_row _ _ 1 _ _ _ P2.out
  obtain ⟨dl, hdl⟩ : ∃ q, distL V es j2 = q := ⟨_, rfl⟩
  rw [hdl] at HOz Hl ⊢
  have HDl := hide hdl
  obtain ⟨dn, hdn⟩ : ∃ q, dl.length = q := ⟨_, rfl⟩
  have HDn := hide hdn
  have hdn2 : dn ≤ 100000 := by rw [← hdn]; exact Hl.out
  rw [hdn] at ⊢
  clear hdl hdn
  go_wp2_with fail
  refine (eqv_any z A2 B dl vals dn n c2 cb HDn.out HN.out (by omega) HOz.out HRz.out).mono ?_
  rintro e z1 ⟨rfl, hz⟩
  have HBf := hide (HBz.out.trans (hz.mono HBz.out.size))
  clear hz c1
  go_wp2
  go_ret
  exact ⟨ret_b (by rw [HDl.out]), HBf.out⟩
def esw : List Ed := [(0, 1, 4), (0, 2, 1), (2, 1, 2)]
theorem wck : checkF 4 esw = 0 := by decide +kernel
theorem wlab : labL 4 esw = [0, 0, 0, 3] := by decide +kernel
theorem wd0 : distL 4 esw 0 = [0, 3, 1, 4611686018427387904] := by decide +kernel
theorem wd1 : distL 4 esw 1 = [4611686018427387904, 0, 4611686018427387904, 4611686018427387904] := by decide +kernel
theorem wd4 : distL 4 esw 4 = [] := by decide +kernel
theorem we0 : distE 4 esw 0 = 0 := by decide +kernel
theorem we1 : distE 4 esw 1 = 0 := by decide +kernel
theorem we4 : distE 4 esw 4 = 2 := by decide +kernel
theorem wac : acheckF 3 9 0 0 0 4 esw = 0 := by decide +kernel
theorem rdq4 (w : World) (a b c d : Int) : Rd (w.alloc (.cells #[.int .i64 a, .int .i64 b, .int .i64 c, .int .i64 d] 2)) (w.alloc (.cells #[.int .i64 a, .int .i64 b, .int .i64 c, .int .i64 d] 2)).heap.size (some ⟨w.heap.size, 0, none⟩) ([a, b, c, d].map (Value.int .i64)) := by
  have h := Rd.new w #[.int .i64 a, .int .i64 b, .int .i64 c, .int .i64 d] 2 (0, 0)
  rw [← show (w.alloc (.cells #[.int .i64 a, .int .i64 b, .int .i64 c, .int .i64 d] 2)).heap.size = w.heap.size + 1 by simp] at h
  exact h
set_option maxRecDepth 100000 in
set_option maxHeartbeats 16000000 in
theorem works_any (w : World) : Calls Tryz.prog 9 #[] w fun e w' => e = .returned (.bool true) ∧ Below w.heap.size w w' := by
  obtain ⟨v1, hv1⟩ : ∃ v1, w.alloc (.cells #[.int .i64 0, .int .i64 1, .int .i64 4, .int .i64 0, .int .i64 2, .int .i64 1, .int .i64 2, .int .i64 1, .int .i64 2] 46) = v1 := ⟨_, rfl⟩
  obtain ⟨v, hv⟩ : ∃ v, v1.alloc (.cells #[.int .i64 4, .slice (some ⟨w.heap.size, 0, none⟩) 3 3] 24) = v := ⟨_, rfl⟩
  have hz1 : v1.heap.size = w.heap.size + 1 := by rw [← hv1]; simp
  have hz : v.heap.size = w.heap.size + 1 + 1 := by rw [← hv]; simp [hz1]
  have hb1 : Below w.heap.size w v1 := by rw [← hv1]; exact (Below.refl _ _).alloc (Nat.le_refl _) _
  have hb2 : Below v1.heap.size v1 v := by rw [← hv]; exact (Below.refl _ _).alloc (Nat.le_refl _) _
  have hb : Below w.heap.size w v := hb1.trans (hb2.mono hb1.size)
  have ce1 : v1.heap[w.heap.size]? = some (.cells #[.int .i64 0, .int .i64 1, .int .i64 4, .int .i64 0, .int .i64 2, .int .i64 1, .int .i64 2, .int .i64 1, .int .i64 2] 46) := by rw [← hv1]; exact heap_alloc_last w _
  have ce := (hb2.block w.heap.size (by omega)).trans ce1
  have cg : v.heap[w.heap.size + 1]? = some (.cells #[.int .i64 4, .slice (some ⟨w.heap.size, 0, none⟩) 3 3] 24) := by rw [← hv, ← hz1]; exact heap_alloc_last v1 _
  have hE : Eds v v.heap.size (some ⟨w.heap.size, 0, none⟩) esw := fun _ => by
    refine ⟨w.heap.size, 0, rfl, by omega, fun i x hx => ⟨[.int .i64 x.1, .int .i64 x.2.1, .int .i64 x.2.2], rfl, ⟨rfl, ?_⟩, fun j u hu => ?_⟩⟩
    · rcases i with _ | _ | _ | i <;> simp [esw] at hx <;> subst hx <;> simp
    · rw [cell_of_row _ _ _ _ _ _ ce]
      rcases i with _ | _ | _ | i <;> simp [esw] at hx <;> subst hx <;> (rcases j with _ | _ | _ | j <;> simp at hu <;> subst hu <;> rfl)
  have HE := hide hE
  have HCG := hide cg
  have HV := hide (And.intro hv1 hv)
  have HB := hide hb
  have hl0 : w.heap.size < v.heap.size := by omega
  have hl1 : w.heap.size + 1 < v.heap.size := by omega
  have cg0 : v.cell? ⟨w.heap.size + 1, 0, none⟩ = some (.int .i64 4) := cell_of_row _ _ 0 _ _ _ cg
  have cg1 : v.cell? ⟨w.heap.size + 1, 1, none⟩ = some (.slice (some ⟨w.heap.size, 0, none⟩) 3 3) := cell_of_row _ _ 1 _ _ _ cg
  have heb : ∀ e ∈ esw, -9223372036854775808 ≤ e.2.2 ∧ e.2.2 ≤ 9223372036854775807 := by decide
  have HEb := hide heb
  have hK0 := hide (Below.refl v.heap.size v)
  clear hv1 hv hz1 hz hb1 hb2 hb ce1 ce cg hE heb
  go_enter Tryz.func9, Tryz.ntmps9
  go_wp2_with fail
  rw [HV.out.1, HV.out.2]
  skip
  refine (labels_any v 4 _ esw 3 3 rfl ((Eds.below HE.out hK0.out (Nat.le_refl _)).more hK0.out.size) (by decide)).mono ?_
  rintro e x1 ⟨A1, c1, rfl, ho1, hz⟩
  rw [wck] at ⊢
  rw [wlab] at ho1 ⊢
  have hK1 := hide (hK0.out.trans (hz.mono hK0.out.size))
  have HR1 := hide (Rd.of_own ho1)
  simp only [List.length_cons, List.length_nil] at ⊢
  clear hz ho1 cg0 cg1
  have cg0 : x1.cell? ⟨w.heap.size + 1, 0, none⟩ = some (.int .i64 4) := cell_of_row _ _ 0 _ _ _ ((hK1.out.block _ hl1).trans HCG.out)
  have cg1 : x1.cell? ⟨w.heap.size + 1, 1, none⟩ = some (.slice (some ⟨w.heap.size, 0, none⟩) 3 3) := cell_of_row _ _ 1 _ _ _ ((hK1.out.block _ hl1).trans HCG.out)
  go_wp2_with fail
  refine (distances_any x1 4 _ esw 3 3 0 rfl ((Eds.below HE.out hK1.out (Nat.le_refl _)).more hK1.out.size) (by decide) HEb.out).mono ?_
  rintro e x2 ⟨A2, c2, rfl, ho2, hz⟩
  rw [we0] at ⊢
  rw [wd0] at ho2 ⊢
  have hK2 := hide (hK1.out.trans (hz.mono hK1.out.size))
  have HR1 := hide ((HR1.out.below hz).more hz.size)
  have HR2 := hide (Rd.of_own ho2)
  simp only [List.length_cons, List.length_nil] at ⊢
  clear hz ho2 cg0 cg1
  have cg0 : x2.cell? ⟨w.heap.size + 1, 0, none⟩ = some (.int .i64 4) := cell_of_row _ _ 0 _ _ _ ((hK2.out.block _ hl1).trans HCG.out)
  have cg1 : x2.cell? ⟨w.heap.size + 1, 1, none⟩ = some (.slice (some ⟨w.heap.size, 0, none⟩) 3 3) := cell_of_row _ _ 1 _ _ _ ((hK2.out.block _ hl1).trans HCG.out)
  go_wp2_with fail
  refine (distances_any x2 4 _ esw 3 3 1 rfl ((Eds.below HE.out hK2.out (Nat.le_refl _)).more hK2.out.size) (by decide) HEb.out).mono ?_
  rintro e x3 ⟨A3, c3, rfl, ho3, hz⟩
  rw [we1] at ⊢
  rw [wd1] at ho3 ⊢
  have hK3 := hide (hK2.out.trans (hz.mono hK2.out.size))
  have HR1 := hide ((HR1.out.below hz).more hz.size)
  have HR2 := hide ((HR2.out.below hz).more hz.size)
  have HR3 := hide (Rd.of_own ho3)
  simp only [List.length_cons, List.length_nil] at ⊢
  clear hz ho3 cg0 cg1
  have cg0 : x3.cell? ⟨w.heap.size + 1, 0, none⟩ = some (.int .i64 4) := cell_of_row _ _ 0 _ _ _ ((hK3.out.block _ hl1).trans HCG.out)
  have cg1 : x3.cell? ⟨w.heap.size + 1, 1, none⟩ = some (.slice (some ⟨w.heap.size, 0, none⟩) 3 3) := cell_of_row _ _ 1 _ _ _ ((hK3.out.block _ hl1).trans HCG.out)
  go_wp2_with fail
  refine (distances_any x3 4 _ esw 3 3 4 rfl ((Eds.below HE.out hK3.out (Nat.le_refl _)).more hK3.out.size) (by decide) HEb.out).mono ?_
  rintro e x4 ⟨A4, c4, rfl, ho4, hz⟩
  rw [we4] at ⊢
  rw [wd4] at ho4 ⊢
  have hK4 := hide (hK3.out.trans (hz.mono hK3.out.size))
  have HR1 := hide ((HR1.out.below hz).more hz.size)
  have HR2 := hide ((HR2.out.below hz).more hz.size)
  have HR3 := hide ((HR3.out.below hz).more hz.size)
  have HR4 := hide (Rd.of_own ho4)
  simp only [List.length_cons, List.length_nil] at ⊢
  clear hz ho4 cg0 cg1
  have cg0 : x4.cell? ⟨w.heap.size + 1, 0, none⟩ = some (.int .i64 4) := cell_of_row _ _ 0 _ _ _ ((hK4.out.block _ hl1).trans HCG.out)
  have cg1 : x4.cell? ⟨w.heap.size + 1, 1, none⟩ = some (.slice (some ⟨w.heap.size, 0, none⟩) 3 3) := cell_of_row _ _ 1 _ _ _ ((hK4.out.block _ hl1).trans HCG.out)
  go_wp2_with fail
  have al : Below x4.heap.size x4 (x4.alloc (.cells #[.int .i64 0, .int .i64 0, .int .i64 0, .int .i64 3] 2)) := (Below.refl _ _).alloc (Nat.le_refl _) _
  refine (same64_any _ A1 _ [0, 0, 0, 3] [0, 0, 0, 3] 4 4 c1 4 rfl rfl (by decide) ((HR1.out.below al).more al.size) (rdq4 x4 0 0 0 3)).mono ?_
  rintro e x5 ⟨rfl, hz⟩
  rw [show eqL ([0, 0, 0, 3] : List Int) [0, 0, 0, 3] = true from by decide]
  have hz2 := al.trans (hz.mono al.size)
  have hK5 := hide (hK4.out.trans (hz2.mono hK4.out.size))
  have HR1 := hide ((HR1.out.below hz2).more hz2.size)
  have HR2 := hide ((HR2.out.below hz2).more hz2.size)
  have HR3 := hide ((HR3.out.below hz2).more hz2.size)
  clear al hz hz2 cg0 cg1
  have cg0 : x5.cell? ⟨w.heap.size + 1, 0, none⟩ = some (.int .i64 4) := cell_of_row _ _ 0 _ _ _ ((hK5.out.block _ hl1).trans HCG.out)
  have cg1 : x5.cell? ⟨w.heap.size + 1, 1, none⟩ = some (.slice (some ⟨w.heap.size, 0, none⟩) 3 3) := cell_of_row _ _ 1 _ _ _ ((hK5.out.block _ hl1).trans HCG.out)
  go_wp2_with fail
  have al : Below x5.heap.size x5 (x5.alloc (.cells #[.int .i64 0, .int .i64 3, .int .i64 1, .int .i64 4611686018427387904] 2)) := (Below.refl _ _).alloc (Nat.le_refl _) _
  refine (same64_any _ A2 _ [0, 3, 1, 4611686018427387904] [0, 3, 1, 4611686018427387904] 4 4 c2 4 rfl rfl (by decide) ((HR2.out.below al).more al.size) (rdq4 x5 0 3 1 4611686018427387904)).mono ?_
  rintro e x6 ⟨rfl, hz⟩
  rw [show eqL ([0, 3, 1, 4611686018427387904] : List Int) [0, 3, 1, 4611686018427387904] = true from by decide]
  have hz2 := al.trans (hz.mono al.size)
  have hK6 := hide (hK5.out.trans (hz2.mono hK5.out.size))
  have HR1 := hide ((HR1.out.below hz2).more hz2.size)
  have HR2 := hide ((HR2.out.below hz2).more hz2.size)
  have HR3 := hide ((HR3.out.below hz2).more hz2.size)
  clear al hz hz2 cg0 cg1
  have cg0 : x6.cell? ⟨w.heap.size + 1, 0, none⟩ = some (.int .i64 4) := cell_of_row _ _ 0 _ _ _ ((hK6.out.block _ hl1).trans HCG.out)
  have cg1 : x6.cell? ⟨w.heap.size + 1, 1, none⟩ = some (.slice (some ⟨w.heap.size, 0, none⟩) 3 3) := cell_of_row _ _ 1 _ _ _ ((hK6.out.block _ hl1).trans HCG.out)
  go_wp2_with fail
  have al : Below x6.heap.size x6 (x6.alloc (.cells #[.int .i64 4611686018427387904, .int .i64 0, .int .i64 4611686018427387904, .int .i64 4611686018427387904] 2)) := (Below.refl _ _).alloc (Nat.le_refl _) _
  refine (same64_any _ A3 _ [4611686018427387904, 0, 4611686018427387904, 4611686018427387904] [4611686018427387904, 0, 4611686018427387904, 4611686018427387904] 4 4 c3 4 rfl rfl (by decide) ((HR3.out.below al).more al.size) (rdq4 x6 4611686018427387904 0 4611686018427387904 4611686018427387904)).mono ?_
  rintro e x7 ⟨rfl, hz⟩
  rw [show eqL ([4611686018427387904, 0, 4611686018427387904, 4611686018427387904] : List Int) [4611686018427387904, 0, 4611686018427387904, 4611686018427387904] = true from by decide]
  have hz2 := al.trans (hz.mono al.size)
  have hK7 := hide (hK6.out.trans (hz2.mono hK6.out.size))
  have HR1 := hide ((HR1.out.below hz2).more hz2.size)
  have HR2 := hide ((HR2.out.below hz2).more hz2.size)
  have HR3 := hide ((HR3.out.below hz2).more hz2.size)
  clear al hz hz2 cg0 cg1
  have cg0 : x7.cell? ⟨w.heap.size + 1, 0, none⟩ = some (.int .i64 4) := cell_of_row _ _ 0 _ _ _ ((hK7.out.block _ hl1).trans HCG.out)
  have cg1 : x7.cell? ⟨w.heap.size + 1, 1, none⟩ = some (.slice (some ⟨w.heap.size, 0, none⟩) 3 3) := cell_of_row _ _ 1 _ _ _ ((hK7.out.block _ hl1).trans HCG.out)
  go_wp2_with fail
  refine (means3_any x7 4 _ esw 3 3 9 0 0 0 3 A2 [0, 3, 1, 4611686018427387904] 4 c2 rfl ((Eds.below HE.out hK7.out (Nat.le_refl _)).more hK7.out.size) (by decide) HEb.out rfl (by decide) HR2.out wac (by decide) (by decide) (by rw [wd0]; decide)).mono ?_
  rintro e y ⟨rfl, hz⟩
  rw [wd0, show eqL ([0, 3, 1, 4611686018427387904] : List Int) [0, 3, 1, 4611686018427387904] = true from by decide]
  have HF := hide (HB.out.trans ((hK7.out.trans (hz.mono hK7.out.size)).mono HB.out.size))
  clear hz cg0 cg1
  go_wp2
  go_ret
  exact ⟨rfl, HF.out⟩
end Go.Proofs.YtgbahnlgblahpaaGreat
