/- What the laws of the states share. -/
import Derived.Test.YtpgbjabifhjogaaGreatSeqRunw41
import Derived.Test.YtpgbjabifhjogaaGreatSeqRunw42
namespace Go.Proofs.YtpgbjabifhjogaaGreat
open Go.RowKit Go.Shelf
attribute [local go_sem] Oper.semAt_some
set_option linter.unusedVariables false
set_option linter.unusedSimpArgs false
theorem sameV_rfl (p : SV) : sameV p p = true := by simp [sameV, eqL]
/-- a graph of at most 12 vertices and 80 edges, or one that may not be -/
def lit12 (V : Int) (es : List Ed) : Bool := decide ((es.length : Int) ≤ 80) && (decide (V ≤ 12) || decide (checkF V es ≠ 0))
theorem lit12_le {V : Int} {es : List Ed} (h : lit12 V es = true) : es.length ≤ 80 := by
 unfold lit12 at h
 simp only [Bool.and_eq_true, decide_eq_true_eq] at h
 omega
def zeroV : SV := ⟨0, [], [], [], 0, 0⟩
def resV (E : Int) (s : SV) : SV := if E = 0 then s else zeroV
/-- what a function has made, whether it is a state or none -/
theorem TillPost.val {w : World} {E : Int} {V : Nat} {s : SV} {e : Ending} {w' : World} (h : TillPost w E V s e w') (hs : E = 0 → OkS V s ∧ V ≤ 512) :
  ∃ Av Ac Ai nv nc ni cv cc ci, e = .returned (.tuple #[.agg #[.int .i64 (resV E s).st, .slice Av nv cv, .slice Ac nc cc, .slice Ai ni ci, .int .i64 (resV E s).sm, .int .i64 (resV E s).mo], .int .i64 E]) ∧ VLen (resV E s) nv nc ni ∧ VIn w' (resV E s) Av Ac Ai ∧ Below w.heap.size w w' ∧ nv ≤ 512 ∧ nc ≤ 512 ∧ ni ≤ 512 := by
 rcases h with ⟨h, he, hb⟩ | ⟨h, Av, Ac, Ai, cv, cc, ci, he, hin, hb, _⟩
 ·rw [show resV E s = zeroV from if_neg h]
  exact ⟨none, none, none, 0, 0, 0, 0, 0, 0, he, ⟨rfl, rfl, rfl⟩, ⟨fun hn => absurd rfl hn, fun hn => absurd rfl hn, fun hn => absurd rfl hn⟩, hb, by omega, by omega, by omega⟩
 ·subst h
  rw [show resV 0 s = s from if_pos rfl]
  have hk := hs rfl
  exact ⟨Av, Ac, Ai, V, V, V, cv, cc, ci, he, ⟨hk.1.lv, hk.1.lc, hk.1.li⟩, hin, hb, hk.2, hk.2, hk.2⟩
set_option maxRecDepth 100000 in
set_option maxHeartbeats 4000000 in
theorem lightq_any (w : World) (V : Int) (A : Option Addr) (es : List Ed) (L c : Nat) (hL : es.length = L) (hL9 : L ≤ 9223372036854775807) (hE : Eds w w.heap.size A es) : Calls Tryz.prog 10 #[.agg #[.int .i64 V, .slice A L c]] w fun e w' => e = .returned (.bool (lit12 V es)) ∧ Below w.heap.size w w' := by
 have HL := hide hL
 have HE := hide hE
 clear hL hE
 obtain ⟨u, hu⟩ : ∃ u, w.alloc (.cells #[.int .i64 V, .slice A L c] 24) = u := ⟨_, rfl⟩
 have HB := hide (show Below w.heap.size w u by rw [← hu]; exact (Below.refl _ _).alloc (Nat.le_refl _) _)
 have hz : w.heap.size < u.heap.size := by rw [← hu]; simp
 have hG : u.heap[w.heap.size]? = some (.cells #[.int .i64 V, .slice A L c] 24) := by rw [← hu]; exact heap_alloc_last _ _
 have HG := hide hG
 have HU := hide hu
 have c0 : u.cell? ⟨w.heap.size, 0, none⟩ = some (.int .i64 V) := cell_of_row _ _ 0 _ _ _ hG
 have c1 : u.cell? ⟨w.heap.size, 1, none⟩ = some (.slice A L c) := cell_of_row _ _ 1 _ _ _ hG
 clear hu hG
 rcases hv : lit12 V es with _ | _
 ·by_cases h8 : L ≤ 80
  rotate_left
  ·clear hv
   have hlc := light_any u V A L c 80
   rw [show decide ((L : Int) ≤ 80) = false by simp; omega] at hlc
   have HLC := hide hlc
   clear hlc
   go_enter Tryz.func10, Tryz.ntmps10
   go_upto_region 1 with fail
   rw [HU.out]
   go_wp2_with fail
   refine HLC.out.mono ?_
   rintro e y ⟨rfl, hy⟩
   have HY := hide hy
   have szy : u.heap.size ≤ y.heap.size := hy.size
   clear hy c0 c1
   have HF := hide (HB.out.trans (HY.out.mono HB.out.size))
   go_wp2
   go_ret
   first | exact ⟨rfl, HF.out⟩ | exact ⟨ret_b (by simp [h12]), HF.out⟩
  have h12 : ¬ V ≤ 12 := by intro h; simp [lit12, HL.out, h] at hv; omega
  have hc0 : checkF V es = 0 := by simp [lit12, HL.out] at hv; omega
  clear hv
  have hlc := light_any u V A L c 80
  rw [show decide ((L : Int) ≤ 80) = true by simp; omega] at hlc
  have HLC := hide hlc
  clear hlc
  go_enter Tryz.func10, Tryz.ntmps10
  go_upto_region 1 with fail
  rw [HU.out]
  go_wp2_with fail
  refine HLC.out.mono ?_
  rintro e y ⟨rfl, hy⟩
  have HY := hide hy
  have szy : u.heap.size ≤ y.heap.size := hy.size
  clear hy c0 c1
  have zy : w.heap.size < y.heap.size := by omega
  have c0 : y.cell? ⟨w.heap.size, 0, none⟩ = some (.int .i64 V) := cell_of_row _ _ 0 _ _ _ ((HY.out.block _ hz).trans HG.out)
  have c1 : y.cell? ⟨w.heap.size, 1, none⟩ = some (.slice A L c) := cell_of_row _ _ 1 _ _ _ ((HY.out.block _ hz).trans HG.out)
  have hck := rcheck_any y V A es L c HL.out ((HE.out.below (HB.out.trans (HY.out.mono HB.out.size)) (Nat.le_refl _)).more (HB.out.trans (HY.out.mono HB.out.size)).size) hL9
  rw [hc0] at hck
  have HCK := hide hck
  clear hck hc0
  go_wp2_with fail
  refine HCK.out.mono ?_
  rintro e z ⟨rfl, hzz⟩
  have HF := hide ((HB.out.trans (HY.out.mono HB.out.size)).trans (hzz.mono (by have := HB.out.size; omega)))
  clear hzz
  go_wp2
  go_ret
  first | exact ⟨rfl, HF.out⟩ | exact ⟨ret_b (by simp [h12]), HF.out⟩
 ·have h8 : L ≤ 80 := by have := lit12_le hv; have := HL.out; omega
  by_cases h12 : V ≤ 12
  ·clear hv
   have hlc := light_any u V A L c 80
   rw [show decide ((L : Int) ≤ 80) = true by simp; omega] at hlc
   have HLC := hide hlc
   clear hlc
   go_enter Tryz.func10, Tryz.ntmps10
   go_upto_region 1 with fail
   rw [HU.out]
   go_wp2_with fail
   refine HLC.out.mono ?_
   rintro e y ⟨rfl, hy⟩
   have HY := hide hy
   have szy : u.heap.size ≤ y.heap.size := hy.size
   clear hy c0 c1
   have zy : w.heap.size < y.heap.size := by omega
   have c0 : y.cell? ⟨w.heap.size, 0, none⟩ = some (.int .i64 V) := cell_of_row _ _ 0 _ _ _ ((HY.out.block _ hz).trans HG.out)
   have c1 : y.cell? ⟨w.heap.size, 1, none⟩ = some (.slice A L c) := cell_of_row _ _ 1 _ _ _ ((HY.out.block _ hz).trans HG.out)
   have HF := hide (HB.out.trans (HY.out.mono HB.out.size))
   go_wp2
   go_ret
   first | exact ⟨rfl, HF.out⟩ | exact ⟨ret_b (by simp [h12]), HF.out⟩
  ·have hc0 : checkF V es ≠ 0 := by simp [lit12, HL.out] at hv; omega
   clear hv
   have hlc := light_any u V A L c 80
   rw [show decide ((L : Int) ≤ 80) = true by simp; omega] at hlc
   have HLC := hide hlc
   clear hlc
   go_enter Tryz.func10, Tryz.ntmps10
   go_upto_region 1 with fail
   rw [HU.out]
   go_wp2_with fail
   refine HLC.out.mono ?_
   rintro e y ⟨rfl, hy⟩
   have HY := hide hy
   have szy : u.heap.size ≤ y.heap.size := hy.size
   clear hy c0 c1
   have zy : w.heap.size < y.heap.size := by omega
   have c0 : y.cell? ⟨w.heap.size, 0, none⟩ = some (.int .i64 V) := cell_of_row _ _ 0 _ _ _ ((HY.out.block _ hz).trans HG.out)
   have c1 : y.cell? ⟨w.heap.size, 1, none⟩ = some (.slice A L c) := cell_of_row _ _ 1 _ _ _ ((HY.out.block _ hz).trans HG.out)
   have hck := rcheck_any y V A es L c HL.out ((HE.out.below (HB.out.trans (HY.out.mono HB.out.size)) (Nat.le_refl _)).more (HB.out.trans (HY.out.mono HB.out.size)).size) hL9
   obtain ⟨E, hEe⟩ : ∃ E, checkF V es = E := ⟨_, rfl⟩
   rw [hEe] at hck hc0
   have hE1 : (E == 0) = false := by simpa using hc0
   have hE2 : (E != 0) = true := by simpa using hc0
   have HCK := hide hck
   clear hck hc0
   clear hEe
   go_wp2_with fail
   refine HCK.out.mono ?_
   rintro e z ⟨rfl, hzz⟩
   have HF := hide ((HB.out.trans (HY.out.mono HB.out.size)).trans (hzz.mono (by have := HB.out.size; omega)))
   clear hzz
   go_wp2
   go_ret
   first | exact ⟨rfl, HF.out⟩ | exact ⟨ret_b (by simp [h12]), HF.out⟩
end Go.Proofs.YtpgbjabifhjogaaGreat
