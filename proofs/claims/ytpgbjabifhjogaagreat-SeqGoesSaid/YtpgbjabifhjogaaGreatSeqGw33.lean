/- Lemmas: Qgo. -/
import Derived.Test.YtpgbjabifhjogaaGreatProg
import Derived.Lib.Hide
import Derived.WalkSpells
import Derived.WalkMore
import Derived.Shelf.SlicesE.Kit
import Derived.Test.YtpgbjabifhjogaaGreatSeqGw32
set_option linter.unusedVariables false
set_option linter.unusedSimpArgs false
set_option maxRecDepth 100000
set_option maxHeartbeats 16000000
namespace Go.Proofs.YtpgbjabifhjogaaGreat
open Go.RowKit Go.Shelf
attribute [local go_sem] Oper.semAt_some
theorem TillPost.good {w : World} {V : Nat} {s : SV} {e : Ending} {w' : World} (h : TillPost w 0 V s e w') :
  ∃ Av Ac Ai cv cc ci, e = .returned (.tuple #[.agg #[.int .i64 s.st, .slice Av V cv, .slice Ac V cc, .slice Ai V ci, .int .i64 s.sm, .int .i64 s.mo], .int .i64 0]) ∧ VIn w' s Av Ac Ai ∧ Below w.heap.size w w' ∧ NewA w.heap.size Av ∧ NewA w.heap.size Ac ∧ NewA w.heap.size Ai := by
 rcases h with ⟨h, _⟩ | ⟨_, Av, Ac, Ai, cv, cc, ci, he, hin, hb, hn⟩
 ·exact absurd rfl h
 ·exact ⟨Av, Ac, Ai, cv, cc, ci, he, hin, hb, hn⟩
theorem seqGoes_walk (w : World) (V : Int) (A : Option Addr) (es : List Ed) (c : Nat) (hV1 : -9223372036854775808 ≤ V) (hV2 : V ≤ 9223372036854775807) (hE : Eds w w.heap.size A es) (hl : es.length ≤ c) (hc : c ≤ 9223372036854775807) (hB : ∀ e ∈ es, edB e) (k j1 j2 j3 j4 : Int) (hk : 0 ≤ k ∧ k ≤ 255) (hj1 : i64B j1) (hj2 : i64B j2) (hj3 : i64B j3) (hj4 : i64B j4) :
  Calls Tryz.prog 8 #[.agg #[.int .i64 V, .slice A es.length c], .agg #[.int .u8 k, .int .i64 j1, .int .i64 j2, .int .i64 j3, .int .i64 j4]] w fun e w' => e = .returned (.bool true) ∧ Below w.heap.size w w' := by
 have HE := hide hE
 obtain ⟨L, hL⟩ : ∃ q, es.length = q := ⟨_, rfl⟩
 rw [hL] at hl ⊢
 have HL := hide hL
 clear hL hE hB
 rcases hv : lit12 V es with _ | _
 ·have HV := hide hv
  obtain ⟨u, hu⟩ : ∃ u, (w.alloc (.cells #[.int .i64 V, .slice A L c] 24)).alloc (.cells #[.int .u8 k, .int .i64 j1, .int .i64 j2, .int .i64 j3, .int .i64 j4] 26) = u := ⟨_, rfl⟩
  have HU := hide (allocs2 hu)
  have HUe := hide hu
  clear hu
  have hzu : u.heap.size = w.heap.size + 2 := HU.out.2.1
  have hu0 : w.heap.size < u.heap.size := by omega
  have hu1 : w.heap.size + 1 < u.heap.size := by omega
  have K0 := hide (Below.refl u.heap.size u)
  have hlq := lightq_any u V A es L c HL.out (by omega) ((HE.out.below HU.out.1 (Nat.le_refl _)).more HU.out.1.size)
  rw [HV.out] at hlq
  have HLQ := hide hlq
  clear hlq
  clear hv
  have c0 : u.cell? ⟨w.heap.size, 0, none⟩ = some (.int .i64 V) := cell_of_row _ _ 0 _ _ _ ((K0.out.block _ hu0).trans HU.out.2.2.1)
  have c1 : u.cell? ⟨w.heap.size, 1, none⟩ = some (.slice A L c) := cell_of_row _ _ 1 _ _ _ ((K0.out.block _ hu0).trans HU.out.2.2.1)
  have d0 : u.cell? ⟨w.heap.size + 1, 0, none⟩ = some (.int .u8 k) := cell_of_row _ _ 0 _ _ _ ((K0.out.block _ hu1).trans HU.out.2.2.2)
  have d1 : u.cell? ⟨w.heap.size + 1, 1, none⟩ = some (.int .i64 j1) := cell_of_row _ _ 1 _ _ _ ((K0.out.block _ hu1).trans HU.out.2.2.2)
  have d2 : u.cell? ⟨w.heap.size + 1, 2, none⟩ = some (.int .i64 j2) := cell_of_row _ _ 2 _ _ _ ((K0.out.block _ hu1).trans HU.out.2.2.2)
  have d3 : u.cell? ⟨w.heap.size + 1, 3, none⟩ = some (.int .i64 j3) := cell_of_row _ _ 3 _ _ _ ((K0.out.block _ hu1).trans HU.out.2.2.2)
  have d4 : u.cell? ⟨w.heap.size + 1, 4, none⟩ = some (.int .i64 j4) := cell_of_row _ _ 4 _ _ _ ((K0.out.block _ hu1).trans HU.out.2.2.2)
  have hz0 : w.heap.size < u.heap.size := by have := K0.out.size; omega
  have hz1 : w.heap.size + 1 < u.heap.size := by have := K0.out.size; omega
  go_enter Tryz.func8, Tryz.ntmps8
  go_upto_region 1 with fail
  rw [HUe.out]
  go_wp2_with fail
  refine HLQ.out.mono ?_
  rintro e v1 ⟨rfl, hb⟩
  have K1 : Hid (Below u.heap.size u v1) := hide hb
  have sv1 : u.heap.size ≤ v1.heap.size := hb.size
  clear hb
  clear c0 c1 d0 d1 d2 d3 d4 hz0 hz1
  go_wp2_with fail
  refine (works_any _).mono ?_
  rintro e zz ⟨rfl, hzz⟩
  have HZ := hide (HU.out.1.trans ((K1.out.trans (hzz.mono K1.out.size)).mono (by omega)))
  clear hzz
  go_wp2
  go_ret
  exact ⟨rfl, HZ.out⟩
 ·by_cases hj : j1 ≤ 30
  rotate_left
  ·have hj' : 30 < j1 := by omega
   have HV := hide hv
   obtain ⟨u, hu⟩ : ∃ u, (w.alloc (.cells #[.int .i64 V, .slice A L c] 24)).alloc (.cells #[.int .u8 k, .int .i64 j1, .int .i64 j2, .int .i64 j3, .int .i64 j4] 26) = u := ⟨_, rfl⟩
   have HU := hide (allocs2 hu)
   have HUe := hide hu
   clear hu
   have hzu : u.heap.size = w.heap.size + 2 := HU.out.2.1
   have hu0 : w.heap.size < u.heap.size := by omega
   have hu1 : w.heap.size + 1 < u.heap.size := by omega
   have K0 := hide (Below.refl u.heap.size u)
   have hlq := lightq_any u V A es L c HL.out (by omega) ((HE.out.below HU.out.1 (Nat.le_refl _)).more HU.out.1.size)
   rw [HV.out] at hlq
   have HLQ := hide hlq
   clear hlq
   clear hv
   have c0 : u.cell? ⟨w.heap.size, 0, none⟩ = some (.int .i64 V) := cell_of_row _ _ 0 _ _ _ ((K0.out.block _ hu0).trans HU.out.2.2.1)
   have c1 : u.cell? ⟨w.heap.size, 1, none⟩ = some (.slice A L c) := cell_of_row _ _ 1 _ _ _ ((K0.out.block _ hu0).trans HU.out.2.2.1)
   have d0 : u.cell? ⟨w.heap.size + 1, 0, none⟩ = some (.int .u8 k) := cell_of_row _ _ 0 _ _ _ ((K0.out.block _ hu1).trans HU.out.2.2.2)
   have d1 : u.cell? ⟨w.heap.size + 1, 1, none⟩ = some (.int .i64 j1) := cell_of_row _ _ 1 _ _ _ ((K0.out.block _ hu1).trans HU.out.2.2.2)
   have d2 : u.cell? ⟨w.heap.size + 1, 2, none⟩ = some (.int .i64 j2) := cell_of_row _ _ 2 _ _ _ ((K0.out.block _ hu1).trans HU.out.2.2.2)
   have d3 : u.cell? ⟨w.heap.size + 1, 3, none⟩ = some (.int .i64 j3) := cell_of_row _ _ 3 _ _ _ ((K0.out.block _ hu1).trans HU.out.2.2.2)
   have d4 : u.cell? ⟨w.heap.size + 1, 4, none⟩ = some (.int .i64 j4) := cell_of_row _ _ 4 _ _ _ ((K0.out.block _ hu1).trans HU.out.2.2.2)
   have hz0 : w.heap.size < u.heap.size := by have := K0.out.size; omega
   have hz1 : w.heap.size + 1 < u.heap.size := by have := K0.out.size; omega
   go_enter Tryz.func8, Tryz.ntmps8
   go_upto_region 1 with fail
   rw [HUe.out]
   go_wp2_with fail
   refine HLQ.out.mono ?_
   rintro e v1 ⟨rfl, hb⟩
   have K1 : Hid (Below u.heap.size u v1) := hide hb
   have sv1 : u.heap.size ≤ v1.heap.size := hb.size
   clear hb
   clear c0 c1 d0 d1 d2 d3 d4 hz0 hz1
   have c0 : v1.cell? ⟨w.heap.size, 0, none⟩ = some (.int .i64 V) := cell_of_row _ _ 0 _ _ _ ((K1.out.block _ hu0).trans HU.out.2.2.1)
   have c1 : v1.cell? ⟨w.heap.size, 1, none⟩ = some (.slice A L c) := cell_of_row _ _ 1 _ _ _ ((K1.out.block _ hu0).trans HU.out.2.2.1)
   have d0 : v1.cell? ⟨w.heap.size + 1, 0, none⟩ = some (.int .u8 k) := cell_of_row _ _ 0 _ _ _ ((K1.out.block _ hu1).trans HU.out.2.2.2)
   have d1 : v1.cell? ⟨w.heap.size + 1, 1, none⟩ = some (.int .i64 j1) := cell_of_row _ _ 1 _ _ _ ((K1.out.block _ hu1).trans HU.out.2.2.2)
   have d2 : v1.cell? ⟨w.heap.size + 1, 2, none⟩ = some (.int .i64 j2) := cell_of_row _ _ 2 _ _ _ ((K1.out.block _ hu1).trans HU.out.2.2.2)
   have d3 : v1.cell? ⟨w.heap.size + 1, 3, none⟩ = some (.int .i64 j3) := cell_of_row _ _ 3 _ _ _ ((K1.out.block _ hu1).trans HU.out.2.2.2)
   have d4 : v1.cell? ⟨w.heap.size + 1, 4, none⟩ = some (.int .i64 j4) := cell_of_row _ _ 4 _ _ _ ((K1.out.block _ hu1).trans HU.out.2.2.2)
   have hz0 : w.heap.size < v1.heap.size := by have := K1.out.size; omega
   have hz1 : w.heap.size + 1 < v1.heap.size := by have := K1.out.size; omega
   go_wp2_with fail
   refine (works_any _).mono ?_
   rintro e zz ⟨rfl, hzz⟩
   have HZ := hide (HU.out.1.trans ((K1.out.trans (hzz.mono K1.out.size)).mono (by omega)))
   clear hzz
   go_wp2
   go_ret
   exact ⟨rfl, HZ.out⟩
  have hj' : ¬ (30 < j1) := by omega
  obtain ⟨E, hEe⟩ : ∃ q, acheckF k j1 j2 j3 j4 V es = q := ⟨_, rfl⟩
  have HEe := hide hEe
  clear hEe
  by_cases hE0 : E = 0
  rotate_left
  ·have HV := hide hv
   have hE1 : (E == 0) = false := by simpa using hE0
   have hE2 : (E != 0) = true := by simpa using hE0
   clear hE0
   obtain ⟨u, hu⟩ : ∃ u, (w.alloc (.cells #[.int .i64 V, .slice A L c] 24)).alloc (.cells #[.int .u8 k, .int .i64 j1, .int .i64 j2, .int .i64 j3, .int .i64 j4] 26) = u := ⟨_, rfl⟩
   have HU := hide (allocs2 hu)
   have HUe := hide hu
   clear hu
   have hzu : u.heap.size = w.heap.size + 2 := HU.out.2.1
   have hu0 : w.heap.size < u.heap.size := by omega
   have hu1 : w.heap.size + 1 < u.heap.size := by omega
   have K0 := hide (Below.refl u.heap.size u)
   have hlq := lightq_any u V A es L c HL.out (by omega) ((HE.out.below HU.out.1 (Nat.le_refl _)).more HU.out.1.size)
   rw [HV.out] at hlq
   have HLQ := hide hlq
   clear hlq
   clear hv
   have c0 : u.cell? ⟨w.heap.size, 0, none⟩ = some (.int .i64 V) := cell_of_row _ _ 0 _ _ _ ((K0.out.block _ hu0).trans HU.out.2.2.1)
   have c1 : u.cell? ⟨w.heap.size, 1, none⟩ = some (.slice A L c) := cell_of_row _ _ 1 _ _ _ ((K0.out.block _ hu0).trans HU.out.2.2.1)
   have d0 : u.cell? ⟨w.heap.size + 1, 0, none⟩ = some (.int .u8 k) := cell_of_row _ _ 0 _ _ _ ((K0.out.block _ hu1).trans HU.out.2.2.2)
   have d1 : u.cell? ⟨w.heap.size + 1, 1, none⟩ = some (.int .i64 j1) := cell_of_row _ _ 1 _ _ _ ((K0.out.block _ hu1).trans HU.out.2.2.2)
   have d2 : u.cell? ⟨w.heap.size + 1, 2, none⟩ = some (.int .i64 j2) := cell_of_row _ _ 2 _ _ _ ((K0.out.block _ hu1).trans HU.out.2.2.2)
   have d3 : u.cell? ⟨w.heap.size + 1, 3, none⟩ = some (.int .i64 j3) := cell_of_row _ _ 3 _ _ _ ((K0.out.block _ hu1).trans HU.out.2.2.2)
   have d4 : u.cell? ⟨w.heap.size + 1, 4, none⟩ = some (.int .i64 j4) := cell_of_row _ _ 4 _ _ _ ((K0.out.block _ hu1).trans HU.out.2.2.2)
   have hz0 : w.heap.size < u.heap.size := by have := K0.out.size; omega
   have hz1 : w.heap.size + 1 < u.heap.size := by have := K0.out.size; omega
   go_enter Tryz.func8, Tryz.ntmps8
   go_upto_region 1 with fail
   rw [HUe.out]
   go_wp2_with fail
   refine HLQ.out.mono ?_
   rintro e v1 ⟨rfl, hb⟩
   have K1 : Hid (Below u.heap.size u v1) := hide hb
   have sv1 : u.heap.size ≤ v1.heap.size := hb.size
   clear hb
   clear c0 c1 d0 d1 d2 d3 d4 hz0 hz1
   have c0 : v1.cell? ⟨w.heap.size, 0, none⟩ = some (.int .i64 V) := cell_of_row _ _ 0 _ _ _ ((K1.out.block _ hu0).trans HU.out.2.2.1)
   have c1 : v1.cell? ⟨w.heap.size, 1, none⟩ = some (.slice A L c) := cell_of_row _ _ 1 _ _ _ ((K1.out.block _ hu0).trans HU.out.2.2.1)
   have d0 : v1.cell? ⟨w.heap.size + 1, 0, none⟩ = some (.int .u8 k) := cell_of_row _ _ 0 _ _ _ ((K1.out.block _ hu1).trans HU.out.2.2.2)
   have d1 : v1.cell? ⟨w.heap.size + 1, 1, none⟩ = some (.int .i64 j1) := cell_of_row _ _ 1 _ _ _ ((K1.out.block _ hu1).trans HU.out.2.2.2)
   have d2 : v1.cell? ⟨w.heap.size + 1, 2, none⟩ = some (.int .i64 j2) := cell_of_row _ _ 2 _ _ _ ((K1.out.block _ hu1).trans HU.out.2.2.2)
   have d3 : v1.cell? ⟨w.heap.size + 1, 3, none⟩ = some (.int .i64 j3) := cell_of_row _ _ 3 _ _ _ ((K1.out.block _ hu1).trans HU.out.2.2.2)
   have d4 : v1.cell? ⟨w.heap.size + 1, 4, none⟩ = some (.int .i64 j4) := cell_of_row _ _ 4 _ _ _ ((K1.out.block _ hu1).trans HU.out.2.2.2)
   have hz0 : w.heap.size < v1.heap.size := by have := K1.out.size; omega
   have hz1 : w.heap.size + 1 < v1.heap.size := by have := K1.out.size; omega
   have hck := acheck_any v1 k j1 j2 j3 j4 V A es L c HL.out ((HE.out.below (HU.out.1.trans (K1.out.mono (by omega))) (Nat.le_refl _)).more (HU.out.1.trans (K1.out.mono (by omega))).size) (by omega)
   rw [HEe.out] at hck
   have HCK := hide hck
   clear hck
   go_wp2_with fail
   refine HCK.out.mono ?_
   rintro e v2 ⟨rfl, hb⟩
   have K2 := hide (K1.out.trans (hb.mono K1.out.size))
   have sv2 : v1.heap.size ≤ v2.heap.size := hb.size
   clear hb
   clear c0 c1 d0 d1 d2 d3 d4 hz0 hz1
   go_wp2_with fail
   refine (works_any _).mono ?_
   rintro e zz ⟨rfl, hzz⟩
   have HZ := hide (HU.out.1.trans ((K2.out.trans (hzz.mono K2.out.size)).mono (by omega)))
   clear hzz
   go_wp2
   go_ret
   exact ⟨rfl, HZ.out⟩
  subst hE0
  have HEe0 := HEe.out
  obtain ⟨⟨hV1', hV3, hEB⟩, hk3, hj0, hjj⟩ := acheck_ok HEe0
  have hL8 : L ≤ 80 := by have := lit12_le hv; have := HL.out; omega
  obtain ⟨V, rfl⟩ : ∃ q : Nat, V = (q : Int) := ⟨V.toNat, by omega⟩
  have hV : V ≤ 512 := by omega
  have HG := hide (goes_all HEe0)
  have HR := hide (runN_spec (j2 := j2) (j3 := j3) (j4 := j4) (es := es) (V := V) hk3 hj0)
  have HV := hide hv
  clear HEe0 hv hk3
  obtain ⟨u, hu⟩ : ∃ u, (w.alloc (.cells #[.int .i64 (V : Int), .slice A L c] 24)).alloc (.cells #[.int .u8 k, .int .i64 j1, .int .i64 j2, .int .i64 j3, .int .i64 j4] 26) = u := ⟨_, rfl⟩
  have HU := hide (allocs2 hu)
  have HUe := hide hu
  clear hu
  have hzu : u.heap.size = w.heap.size + 2 := HU.out.2.1
  have hu0 : w.heap.size < u.heap.size := by omega
  have hu1 : w.heap.size + 1 < u.heap.size := by omega
  have K0 := hide (Below.refl u.heap.size u)
  have hlq := lightq_any u (V : Int) A es L c HL.out (by omega) ((HE.out.below HU.out.1 (Nat.le_refl _)).more HU.out.1.size)
  rw [HV.out] at hlq
  have HLQ := hide hlq
  clear hlq
  have HST := hide (fun (x : World) (hx : Below u.heap.size u x) => qstart_any x (V : Int) A es L c HL.out (by omega) ((HE.out.below (HU.out.1.trans (hx.mono (by omega))) (Nat.le_refl _)).more (HU.out.1.trans (hx.mono (by omega))).size) k j1 j2 j3 j4 (fun _ => hL8))
  rw [HEe.out, show ((V : Int)).toNat = V from rfl] at HST
  have HSP := hide (fun (x : World) (hx : Below u.heap.size u x) (n : Nat) (hn : n < 2000) (B1 B2 B3 : Option Addr) (e1 e2 e3 : Nat) (hin : VIn x (atV k j2 j3 es V n) B1 B2 B3) => show Calls Tryz.prog 19 #[.agg #[.int .i64 (V : Int), .slice A L c], .agg #[.int .u8 k, .int .i64 j1, .int .i64 j2, .int .i64 j3, .int .i64 j4], .agg #[.int .i64 (atV k j2 j3 es V n).st, .slice B1 V e1, .slice B2 V e2, .slice B3 V e3, .int .i64 (atV k j2 j3 es V n).sm, .int .i64 (atV k j2 j3 es V n).mo]] x (TillPost x 0 V (atV k j2 j3 es V (n + 1))) from by have h := qstep_any x (V : Int) A es L c HL.out (by omega) ((HE.out.below (HU.out.1.trans (hx.mono (by omega))) (Nat.le_refl _)).more (HU.out.1.trans (hx.mono (by omega))).size) k j1 j2 j3 j4 (fun _ => hL8) (atV k j2 j3 es V n) B1 B2 B3 V V V e1 e2 e3 ⟨(HG.out.st n).ok.lv, (HG.out.st n).ok.lc, (HG.out.st n).ok.li⟩ hin (HG.out.st n).ok.bi (by omega) (by omega); rw [HEe.out, HG.out.step n hn] at h; exact h)
  have HAT := hide (fun (x : World) (hx : Below u.heap.size u x) (n : Nat) (hn : n ≤ 2000) => show Calls Tryz.prog 12 #[.agg #[.int .i64 (V : Int), .slice A L c], .agg #[.int .u8 k, .int .i64 j1, .int .i64 j2, .int .i64 j3, .int .i64 j4], .int .i64 (n : Int)] x (TillPost x 0 V (atV k j2 j3 es V n)) from by have h := qat_any x (V : Int) A es L c HL.out (by omega) ((HE.out.below (HU.out.1.trans (hx.mono (by omega))) (Nat.le_refl _)).more (HU.out.1.trans (hx.mono (by omega))).size) k j1 j2 j3 j4 (n : Int) (fun _ => hL8); rw [HEe.out, show atE 0 (n : Int) = 0 by rw [atE, if_neg (fun h => h rfl), if_neg (by omega)]] at h; exact h)
  have HRU := hide (fun (x : World) (hx : Below u.heap.size u x) => qrun_any x (V : Int) A es L c HL.out (by omega) ((HE.out.below (HU.out.1.trans (hx.mono (by omega))) (Nat.le_refl _)).more (HU.out.1.trans (hx.mono (by omega))).size) k j1 j2 j3 j4 (fun _ => hL8))
  rw [HEe.out, show ((V : Int)).toNat = V from rfl] at HRU
  have c0 : u.cell? ⟨w.heap.size, 0, none⟩ = some (.int .i64 (V : Int)) := cell_of_row _ _ 0 _ _ _ ((K0.out.block _ hu0).trans HU.out.2.2.1)
  have c1 : u.cell? ⟨w.heap.size, 1, none⟩ = some (.slice A L c) := cell_of_row _ _ 1 _ _ _ ((K0.out.block _ hu0).trans HU.out.2.2.1)
  have d0 : u.cell? ⟨w.heap.size + 1, 0, none⟩ = some (.int .u8 k) := cell_of_row _ _ 0 _ _ _ ((K0.out.block _ hu1).trans HU.out.2.2.2)
  have d1 : u.cell? ⟨w.heap.size + 1, 1, none⟩ = some (.int .i64 j1) := cell_of_row _ _ 1 _ _ _ ((K0.out.block _ hu1).trans HU.out.2.2.2)
  have d2 : u.cell? ⟨w.heap.size + 1, 2, none⟩ = some (.int .i64 j2) := cell_of_row _ _ 2 _ _ _ ((K0.out.block _ hu1).trans HU.out.2.2.2)
  have d3 : u.cell? ⟨w.heap.size + 1, 3, none⟩ = some (.int .i64 j3) := cell_of_row _ _ 3 _ _ _ ((K0.out.block _ hu1).trans HU.out.2.2.2)
  have d4 : u.cell? ⟨w.heap.size + 1, 4, none⟩ = some (.int .i64 j4) := cell_of_row _ _ 4 _ _ _ ((K0.out.block _ hu1).trans HU.out.2.2.2)
  have hz0 : w.heap.size < u.heap.size := by have := K0.out.size; omega
  have hz1 : w.heap.size + 1 < u.heap.size := by have := K0.out.size; omega
  go_enter Tryz.func8, Tryz.ntmps8
  go_upto_region 1 with fail
  rw [HUe.out]
  go_wp2_with fail
  refine HLQ.out.mono ?_
  rintro e v1 ⟨rfl, hb⟩
  have K1 : Hid (Below u.heap.size u v1) := hide hb
  have sv1 : u.heap.size ≤ v1.heap.size := hb.size
  clear hb
  clear c0 c1 d0 d1 d2 d3 d4 hz0 hz1
  have c0 : v1.cell? ⟨w.heap.size, 0, none⟩ = some (.int .i64 (V : Int)) := cell_of_row _ _ 0 _ _ _ ((K1.out.block _ hu0).trans HU.out.2.2.1)
  have c1 : v1.cell? ⟨w.heap.size, 1, none⟩ = some (.slice A L c) := cell_of_row _ _ 1 _ _ _ ((K1.out.block _ hu0).trans HU.out.2.2.1)
  have d0 : v1.cell? ⟨w.heap.size + 1, 0, none⟩ = some (.int .u8 k) := cell_of_row _ _ 0 _ _ _ ((K1.out.block _ hu1).trans HU.out.2.2.2)
  have d1 : v1.cell? ⟨w.heap.size + 1, 1, none⟩ = some (.int .i64 j1) := cell_of_row _ _ 1 _ _ _ ((K1.out.block _ hu1).trans HU.out.2.2.2)
  have d2 : v1.cell? ⟨w.heap.size + 1, 2, none⟩ = some (.int .i64 j2) := cell_of_row _ _ 2 _ _ _ ((K1.out.block _ hu1).trans HU.out.2.2.2)
  have d3 : v1.cell? ⟨w.heap.size + 1, 3, none⟩ = some (.int .i64 j3) := cell_of_row _ _ 3 _ _ _ ((K1.out.block _ hu1).trans HU.out.2.2.2)
  have d4 : v1.cell? ⟨w.heap.size + 1, 4, none⟩ = some (.int .i64 j4) := cell_of_row _ _ 4 _ _ _ ((K1.out.block _ hu1).trans HU.out.2.2.2)
  have hz0 : w.heap.size < v1.heap.size := by have := K1.out.size; omega
  have hz1 : w.heap.size + 1 < v1.heap.size := by have := K1.out.size; omega
  have hck := acheck_any v1 k j1 j2 j3 j4 (V : Int) A es L c HL.out ((HE.out.below (HU.out.1.trans (K1.out.mono (by omega))) (Nat.le_refl _)).more (HU.out.1.trans (K1.out.mono (by omega))).size) (by omega)
  rw [HEe.out] at hck
  have HCK := hide hck
  clear hck
  go_wp2_with fail
  refine HCK.out.mono ?_
  rintro e v2 ⟨rfl, hb⟩
  have K2 := hide (K1.out.trans (hb.mono K1.out.size))
  have sv2 : v1.heap.size ≤ v2.heap.size := hb.size
  clear hb
  clear c0 c1 d0 d1 d2 d3 d4 hz0 hz1
  have c0 : v2.cell? ⟨w.heap.size, 0, none⟩ = some (.int .i64 (V : Int)) := cell_of_row _ _ 0 _ _ _ ((K2.out.block _ hu0).trans HU.out.2.2.1)
  have c1 : v2.cell? ⟨w.heap.size, 1, none⟩ = some (.slice A L c) := cell_of_row _ _ 1 _ _ _ ((K2.out.block _ hu0).trans HU.out.2.2.1)
  have d0 : v2.cell? ⟨w.heap.size + 1, 0, none⟩ = some (.int .u8 k) := cell_of_row _ _ 0 _ _ _ ((K2.out.block _ hu1).trans HU.out.2.2.2)
  have d1 : v2.cell? ⟨w.heap.size + 1, 1, none⟩ = some (.int .i64 j1) := cell_of_row _ _ 1 _ _ _ ((K2.out.block _ hu1).trans HU.out.2.2.2)
  have d2 : v2.cell? ⟨w.heap.size + 1, 2, none⟩ = some (.int .i64 j2) := cell_of_row _ _ 2 _ _ _ ((K2.out.block _ hu1).trans HU.out.2.2.2)
  have d3 : v2.cell? ⟨w.heap.size + 1, 3, none⟩ = some (.int .i64 j3) := cell_of_row _ _ 3 _ _ _ ((K2.out.block _ hu1).trans HU.out.2.2.2)
  have d4 : v2.cell? ⟨w.heap.size + 1, 4, none⟩ = some (.int .i64 j4) := cell_of_row _ _ 4 _ _ _ ((K2.out.block _ hu1).trans HU.out.2.2.2)
  have hz0 : w.heap.size < v2.heap.size := by have := K2.out.size; omega
  have hz1 : w.heap.size + 1 < v2.heap.size := by have := K2.out.size; omega
  go_wp2_with fail
  refine (HST.out v2 K2.out).mono ?_
  intro e y hpost
  obtain ⟨Av0, Ac0, Ai0, cv0, cc0, ci0, he, hi0, hb, hnw0⟩ := hpost.good
  have HN0 := hide hnw0
  clear hnw0
  subst he
  have KY := hide (K2.out.trans (hb.mono K2.out.size))
  have hby := hide hb
  have syy : v2.heap.size ≤ y.heap.size := hb.size
  clear c0 c1 d0 d1 d2 d3 d4 hz0 hz1
  clear hpost hb
  go_upto_region 4 with fail
  obtain ⟨a0, ha⟩ : ∃ x, y.alloc (.cells #[.int .i64 (startV k j2 es V).st, .slice Av0 V cv0, .slice Ac0 V cc0, .slice Ai0 V ci0, .int .i64 (startV k j2 es V).sm, .int .i64 (startV k j2 es V).mo] 33) = x := ⟨_, rfl⟩
  have hAl : Below y.heap.size y a0 := by rw [← ha]; exact (Below.refl _ _).alloc (Nat.le_refl _) _
  have hSx : a0.heap[y.heap.size]? = some (.cells #[.int .i64 (startV k j2 es V).st, .slice Av0 V cv0, .slice Ac0 V cc0, .slice Ai0 V ci0, .int .i64 (startV k j2 es V).sm, .int .i64 (startV k j2 es V).mo] 33) := by rw [← ha]; exact heap_alloc_last _ _
  have sa0 : y.heap.size < a0.heap.size := by rw [← ha]; simp
  rw [ha]
  have HI0 := hide (hi0.next hAl)
  have KA := hide (KY.out.trans (hAl.mono KY.out.size))
  have HBA0 := hide (hby.out.trans (hAl.mono syy))
  obtain ⟨S5, hT⟩ : ∃ x, y.heap.size = x := ⟨_, rfl⟩
  rw [hT] at hSx sa0 syy ⊢
  have HS0 := hide hSx
  have sT0 := syy
  clear ha hAl hi0 KY syy hT hSx hby
  go_wp2
  go_loopw [7] (fun vi wr => ∃ (n : Nat) (Av Ac Ai : Option Addr) (cv cc ci : Nat), n ≤ 14 ∧ vi = .int .i64 (n : Int) ∧ Hid (wr.heap[S5]? = some (.cells #[.int .i64 (atV k j2 j3 es V n).st, .slice Av V cv, .slice Ac V cc, .slice Ai V ci, .int .i64 (atV k j2 j3 es V n).sm, .int .i64 (atV k j2 j3 es V n).mo] 33)) ∧ Hid (VIn wr (atV k j2 j3 es V n) Av Ac Ai) ∧ Hid (Below u.heap.size u wr)) (fun vi _ => 14 - (intOf vi).toNat)
  case atStart => exact ⟨0, Av0, Ac0, Ai0, cv0, cc0, ci0, by omega, rfl, HS0, HI0, KA⟩
  case round =>
   obtain ⟨n, Av, Ac, Ai, cv, cc, ci, hn, rfl, HS, HI, HBr⟩ := hrel
   have hSw : S5 < wr.heap.size := (Array.getElem?_eq_some_iff.1 HS.out).1
   have srw : u.heap.size ≤ wr.heap.size := HBr.out.size
   by_cases hlt : n < 14
   ·have hn14 : (n : Int) < 14 := by omega
    have c0 : wr.cell? ⟨w.heap.size, 0, none⟩ = some (.int .i64 (V : Int)) := cell_of_row _ _ 0 _ _ _ ((HBr.out.block _ hu0).trans HU.out.2.2.1)
    have c1 : wr.cell? ⟨w.heap.size, 1, none⟩ = some (.slice A L c) := cell_of_row _ _ 1 _ _ _ ((HBr.out.block _ hu0).trans HU.out.2.2.1)
    have d0 : wr.cell? ⟨w.heap.size + 1, 0, none⟩ = some (.int .u8 k) := cell_of_row _ _ 0 _ _ _ ((HBr.out.block _ hu1).trans HU.out.2.2.2)
    have d1 : wr.cell? ⟨w.heap.size + 1, 1, none⟩ = some (.int .i64 j1) := cell_of_row _ _ 1 _ _ _ ((HBr.out.block _ hu1).trans HU.out.2.2.2)
    have d2 : wr.cell? ⟨w.heap.size + 1, 2, none⟩ = some (.int .i64 j2) := cell_of_row _ _ 2 _ _ _ ((HBr.out.block _ hu1).trans HU.out.2.2.2)
    have d3 : wr.cell? ⟨w.heap.size + 1, 3, none⟩ = some (.int .i64 j3) := cell_of_row _ _ 3 _ _ _ ((HBr.out.block _ hu1).trans HU.out.2.2.2)
    have d4 : wr.cell? ⟨w.heap.size + 1, 4, none⟩ = some (.int .i64 j4) := cell_of_row _ _ 4 _ _ _ ((HBr.out.block _ hu1).trans HU.out.2.2.2)
    have hz0 : w.heap.size < wr.heap.size := by have := HBr.out.size; omega
    have hz1 : w.heap.size + 1 < wr.heap.size := by have := HBr.out.size; omega
    have s0 : wr.cell? ⟨S5, 0, none⟩ = some (.int .i64 (atV k j2 j3 es V n).st) := cell_of_row _ _ 0 _ _ _ HS.out
    have s1 : wr.cell? ⟨S5, 1, none⟩ = some (.slice Av V cv) := cell_of_row _ _ 1 _ _ _ HS.out
    have s2 : wr.cell? ⟨S5, 2, none⟩ = some (.slice Ac V cc) := cell_of_row _ _ 2 _ _ _ HS.out
    have s3 : wr.cell? ⟨S5, 3, none⟩ = some (.slice Ai V ci) := cell_of_row _ _ 3 _ _ _ HS.out
    have s4 : wr.cell? ⟨S5, 4, none⟩ = some (.int .i64 (atV k j2 j3 es V n).sm) := cell_of_row _ _ 4 _ _ _ HS.out
    have s5 : wr.cell? ⟨S5, 5, none⟩ = some (.int .i64 (atV k j2 j3 es V n).mo) := cell_of_row _ _ 5 _ _ _ HS.out
    go_wp2_with fail
    refine (HSP.out wr HBr.out n (by omega) Av Ac Ai cv cc ci HI.out).mono ?_
    intro e y hpost
    obtain ⟨Av1, Ac1, Ai1, cv1, cc1, ci1, he, hi1, hb, hnw1⟩ := hpost.good
    have HN1 := hide hnw1
    clear hnw1
    subst he
    have KY := hide (HBr.out.trans (hb.mono HBr.out.size))
    have hby := hide hb
    have syy : wr.heap.size ≤ y.heap.size := hb.size
    clear c0 c1 d0 d1 d2 d3 d4 hz0 hz1
    clear hpost hb
    go_upto_region 10 with fail
    obtain ⟨a1, ha⟩ : ∃ x, y.alloc (.cells #[.int .i64 (atV k j2 j3 es V (n + 1)).st, .slice Av1 V cv1, .slice Ac1 V cc1, .slice Ai1 V ci1, .int .i64 (atV k j2 j3 es V (n + 1)).sm, .int .i64 (atV k j2 j3 es V (n + 1)).mo] 33) = x := ⟨_, rfl⟩
    have hAl : Below y.heap.size y a1 := by rw [← ha]; exact (Below.refl _ _).alloc (Nat.le_refl _) _
    have hSx : a1.heap[y.heap.size]? = some (.cells #[.int .i64 (atV k j2 j3 es V (n + 1)).st, .slice Av1 V cv1, .slice Ac1 V cc1, .slice Ai1 V ci1, .int .i64 (atV k j2 j3 es V (n + 1)).sm, .int .i64 (atV k j2 j3 es V (n + 1)).mo] 33) := by rw [← ha]; exact heap_alloc_last _ _
    have sa1 : y.heap.size < a1.heap.size := by rw [← ha]; simp
    rw [ha]
    have HI1 := hide (hi1.next hAl)
    have KB := hide (KY.out.trans (hAl.mono KY.out.size))
    have HBA1 := hide (hby.out.trans (hAl.mono syy))
    obtain ⟨T8, hT⟩ : ∃ x, y.heap.size = x := ⟨_, rfl⟩
    rw [hT] at hSx sa1 syy ⊢
    have HS1 := hide hSx
    have sT1 := syy
    clear ha hAl hi1 KY syy hT hSx hby
    clear s0 s1 s2 s3 s4 s5
    have HSa := hide ((HBA1.out.block S5 hSw).trans HS.out)
    have HIa := hide (HI.out.next HBA1.out)
    have c0 : a1.cell? ⟨w.heap.size, 0, none⟩ = some (.int .i64 (V : Int)) := cell_of_row _ _ 0 _ _ _ ((KB.out.block _ hu0).trans HU.out.2.2.1)
    have c1 : a1.cell? ⟨w.heap.size, 1, none⟩ = some (.slice A L c) := cell_of_row _ _ 1 _ _ _ ((KB.out.block _ hu0).trans HU.out.2.2.1)
    have d0 : a1.cell? ⟨w.heap.size + 1, 0, none⟩ = some (.int .u8 k) := cell_of_row _ _ 0 _ _ _ ((KB.out.block _ hu1).trans HU.out.2.2.2)
    have d1 : a1.cell? ⟨w.heap.size + 1, 1, none⟩ = some (.int .i64 j1) := cell_of_row _ _ 1 _ _ _ ((KB.out.block _ hu1).trans HU.out.2.2.2)
    have d2 : a1.cell? ⟨w.heap.size + 1, 2, none⟩ = some (.int .i64 j2) := cell_of_row _ _ 2 _ _ _ ((KB.out.block _ hu1).trans HU.out.2.2.2)
    have d3 : a1.cell? ⟨w.heap.size + 1, 3, none⟩ = some (.int .i64 j3) := cell_of_row _ _ 3 _ _ _ ((KB.out.block _ hu1).trans HU.out.2.2.2)
    have d4 : a1.cell? ⟨w.heap.size + 1, 4, none⟩ = some (.int .i64 j4) := cell_of_row _ _ 4 _ _ _ ((KB.out.block _ hu1).trans HU.out.2.2.2)
    have hz0 : w.heap.size < a1.heap.size := by have := KB.out.size; omega
    have hz1 : w.heap.size + 1 < a1.heap.size := by have := KB.out.size; omega
    go_wp2_with fail
    refine (HAT.out a1 KB.out n (by omega)).mono ?_
    intro e y hpost
    obtain ⟨Av2, Ac2, Ai2, cv2, cc2, ci2, he, hi2, hb, hnw2⟩ := hpost.good
    have HN2 := hide hnw2
    clear hnw2
    subst he
    have KY := hide (KB.out.trans (hb.mono KB.out.size))
    have hby := hide hb
    have syy : a1.heap.size ≤ y.heap.size := hb.size
    clear c0 c1 d0 d1 d2 d3 d4 hz0 hz1
    clear hpost hb
    go_upto_region 11 with fail
    obtain ⟨a2, ha⟩ : ∃ x, y.alloc (.cells #[.int .i64 (atV k j2 j3 es V n).st, .slice Av2 V cv2, .slice Ac2 V cc2, .slice Ai2 V ci2, .int .i64 (atV k j2 j3 es V n).sm, .int .i64 (atV k j2 j3 es V n).mo] 33) = x := ⟨_, rfl⟩
    have hAl : Below y.heap.size y a2 := by rw [← ha]; exact (Below.refl _ _).alloc (Nat.le_refl _) _
    have hSx : a2.heap[y.heap.size]? = some (.cells #[.int .i64 (atV k j2 j3 es V n).st, .slice Av2 V cv2, .slice Ac2 V cc2, .slice Ai2 V ci2, .int .i64 (atV k j2 j3 es V n).sm, .int .i64 (atV k j2 j3 es V n).mo] 33) := by rw [← ha]; exact heap_alloc_last _ _
    have sa2 : y.heap.size < a2.heap.size := by rw [← ha]; simp
    rw [ha]
    have HI2 := hide (hi2.next hAl)
    have KC := hide (KY.out.trans (hAl.mono KY.out.size))
    have HBA2 := hide (hby.out.trans (hAl.mono syy))
    obtain ⟨T10, hT⟩ : ∃ x, y.heap.size = x := ⟨_, rfl⟩
    rw [hT] at hSx sa2 syy ⊢
    have HS2 := hide hSx
    have sT2 := syy
    clear ha hAl hi2 KY syy hT hSx hby
    have HSb := hide ((HBA2.out.block S5 (by omega)).trans HSa.out)
    have HIb := hide (HIa.out.next HBA2.out)
    have HTb := hide ((HBA2.out.block T8 sa1).trans HS1.out)
    have HI1b := hide (HI1.out.next HBA2.out)
    have s0 : a2.cell? ⟨S5, 0, none⟩ = some (.int .i64 (atV k j2 j3 es V n).st) := cell_of_row _ _ 0 _ _ _ HSb.out
    have s1 : a2.cell? ⟨S5, 1, none⟩ = some (.slice Av V cv) := cell_of_row _ _ 1 _ _ _ HSb.out
    have s2 : a2.cell? ⟨S5, 2, none⟩ = some (.slice Ac V cc) := cell_of_row _ _ 2 _ _ _ HSb.out
    have s3 : a2.cell? ⟨S5, 3, none⟩ = some (.slice Ai V ci) := cell_of_row _ _ 3 _ _ _ HSb.out
    have s4 : a2.cell? ⟨S5, 4, none⟩ = some (.int .i64 (atV k j2 j3 es V n).sm) := cell_of_row _ _ 4 _ _ _ HSb.out
    have s5 : a2.cell? ⟨S5, 5, none⟩ = some (.int .i64 (atV k j2 j3 es V n).mo) := cell_of_row _ _ 5 _ _ _ HSb.out
    have y0 : a2.cell? ⟨T10, 0, none⟩ = some (.int .i64 (atV k j2 j3 es V n).st) := cell_of_row _ _ 0 _ _ _ HS2.out
    have y1 : a2.cell? ⟨T10, 1, none⟩ = some (.slice Av2 V cv2) := cell_of_row _ _ 1 _ _ _ HS2.out
    have y2 : a2.cell? ⟨T10, 2, none⟩ = some (.slice Ac2 V cc2) := cell_of_row _ _ 2 _ _ _ HS2.out
    have y3 : a2.cell? ⟨T10, 3, none⟩ = some (.slice Ai2 V ci2) := cell_of_row _ _ 3 _ _ _ HS2.out
    have y4 : a2.cell? ⟨T10, 4, none⟩ = some (.int .i64 (atV k j2 j3 es V n).sm) := cell_of_row _ _ 4 _ _ _ HS2.out
    have y5 : a2.cell? ⟨T10, 5, none⟩ = some (.int .i64 (atV k j2 j3 es V n).mo) := cell_of_row _ _ 5 _ _ _ HS2.out
    have hS5 : S5 < a2.heap.size := by omega
    have hc1 := qsame_any a2 (atV k j2 j3 es V n) Av Ac Ai V V V cv cc ci ⟨(HG.out.st n).ok.lv, (HG.out.st n).ok.lc, (HG.out.st n).ok.li⟩ HIb.out (atV k j2 j3 es V n) Av2 Ac2 Ai2 V V V cv2 cc2 ci2 ⟨(HG.out.st n).ok.lv, (HG.out.st n).ok.lc, (HG.out.st n).ok.li⟩ HI2.out (by omega) (by omega) (by omega)
    rw [sameV_rfl] at hc1
    have HC1 := hide hc1
    clear hc1
    go_wp2_with fail
    refine HC1.out.mono ?_
    rintro e n1 ⟨rfl, hn1⟩
    have N1 := hide hn1
    have sn1 : a2.heap.size ≤ n1.heap.size := hn1.size
    clear hn1 s0 s1 s2 s3 s4 s5 y0 y1 y2 y3 y4 y5
    have KD := hide (KC.out.trans (N1.out.mono KC.out.size))
    have HTc := hide ((N1.out.block T8 (by omega)).trans HTb.out)
    have HSc := hide ((N1.out.block S5 hS5).trans HSb.out)
    have HI1c := hide (HI1b.out.next N1.out)
    have HIc := hide (HIb.out.next N1.out)
    have t0 : n1.cell? ⟨T8, 0, none⟩ = some (.int .i64 (atV k j2 j3 es V (n + 1)).st) := cell_of_row _ _ 0 _ _ _ HTc.out
    have t1 : n1.cell? ⟨T8, 1, none⟩ = some (.slice Av1 V cv1) := cell_of_row _ _ 1 _ _ _ HTc.out
    have t2 : n1.cell? ⟨T8, 2, none⟩ = some (.slice Ac1 V cc1) := cell_of_row _ _ 2 _ _ _ HTc.out
    have t3 : n1.cell? ⟨T8, 3, none⟩ = some (.slice Ai1 V ci1) := cell_of_row _ _ 3 _ _ _ HTc.out
    have t4 : n1.cell? ⟨T8, 4, none⟩ = some (.int .i64 (atV k j2 j3 es V (n + 1)).sm) := cell_of_row _ _ 4 _ _ _ HTc.out
    have t5 : n1.cell? ⟨T8, 5, none⟩ = some (.int .i64 (atV k j2 j3 es V (n + 1)).mo) := cell_of_row _ _ 5 _ _ _ HTc.out
    have c0 : n1.cell? ⟨w.heap.size, 0, none⟩ = some (.int .i64 (V : Int)) := cell_of_row _ _ 0 _ _ _ ((KD.out.block _ hu0).trans HU.out.2.2.1)
    have hz0 : w.heap.size < n1.heap.size := by omega
    have hT8 : T8 < n1.heap.size := by omega
    have hc2 := dmay_any n1 (atV k j2 j3 es V (n + 1)) Av1 Ac1 Ai1 V V V cv1 cc1 ci1 ⟨(HG.out.st (n + 1)).ok.lv, (HG.out.st (n + 1)).ok.lc, (HG.out.st (n + 1)).ok.li⟩ HI1c.out (by omega) (by omega) (V : Int)
    rw [HG.out.may (n + 1) (by omega)] at hc2
    have HC2 := hide hc2
    clear hc2
    go_wp2_with fail
    refine HC2.out.mono ?_
    rintro e n2 ⟨rfl, hn2⟩
    have N2 := hide hn2
    have sn2 : n1.heap.size ≤ n2.heap.size := hn2.size
    clear hn2 t0 t1 t2 t3 t4 t5 c0 hz0
    have KE := hide (KD.out.trans (N2.out.mono KD.out.size))
    have HTd := hide ((N2.out.block T8 hT8).trans HTc.out)
    have HSd := hide ((N2.out.block S5 (by omega)).trans HSc.out)
    have HI1d := hide (HI1c.out.next N2.out)
    have HId := hide (HIc.out.next N2.out)
    go_wp2
    go_loopw [13, 12] (fun v13 v12 wx => ∃ i : Nat, i ≤ V ∧ v13 = .int .i64 (i : Int) ∧ v12 = .int .i64 (addN (fun v => (atV k j2 j3 es V (n + 1)).vals.getD v 0) i) ∧ Hid (Below n2.heap.size n2 wx)) (fun v13 _ _ => V - (intOf v13).toNat)
    case atStart => exact ⟨0, by omega, rfl, rfl, hide (Below.refl _ _)⟩
    case round =>
     obtain ⟨i, hi, rfl, rfl, hbx⟩ := hrel
     have hsx : n2.heap.size ≤ wr.heap.size := hbx.out.size
     have hS5n : S5 < n2.heap.size := by omega
     have hT8n : T8 < n2.heap.size := by omega
     by_cases hi2 : i < V
     ·have hI0 : (0 : Int) ≤ (i : Int) := by omega
      have hI1 : (i : Int) < (V : Int) := by omega
      obtain ⟨x, hx⟩ : ∃ y, (atV k j2 j3 es V (n + 1)).vals[i]? = some y := ⟨_, List.getElem?_eq_getElem (by rw [(HG.out.st (n + 1)).ok.lv]; exact hi2)⟩
      obtain ⟨y, hy⟩ : ∃ y, (atV k j2 j3 es V n).vals[i]? = some y := ⟨_, List.getElem?_eq_getElem (by rw [(HG.out.st n).ok.lv]; exact hi2)⟩
      obtain ⟨b1, o1, hA1, l1, x0⟩ := HI1d.out.vals.at1 (i64s_get hx)
      obtain ⟨b2, o2, hA2, l2, y0⟩ := HId.out.vals.at1 (i64s_get hy)
      have hxg : (atV k j2 j3 es V (n + 1)).vals.getD i 0 = x := by simp [List.getD_eq_getElem?_getD, hx]
      have hyg : (atV k j2 j3 es V n).vals.getD i 0 = y := by simp [List.getD_eq_getElem?_getD, hy]
      have hxb := (HG.out.st (n + 1)).ok.bv x (List.mem_of_getElem? hx)
      have hac := fun (z : World) => add_any z (addN (fun v => (atV k j2 j3 es V (n + 1)).vals.getD v 0) i) x (by have := addN_in (fun v => (atV k j2 j3 es V (n + 1)).vals.getD v 0) i; unfold IN at this; omega) (by have := addN_in (fun v => (atV k j2 j3 es V (n + 1)).vals.getD v 0) i; unfold IN at this; omega) hxb.1 hxb.2
      rw [show dadd (addN (fun v => (atV k j2 j3 es V (n + 1)).vals.getD v 0) i) x = addN (fun v => (atV k j2 j3 es V (n + 1)).vals.getD v 0) (i + 1) by simp only [addN, hxg]] at hac
      have HAC := hide hac
      have hfall : k ≠ 1 → x ≤ y := fun hk1 => by have := HG.out.falls hk1 n i hi2; rw [hxg, hyg] at this; exact this
      have HFA := hide hfall
      have HA1 := hide hA1
      have HA2 := hide hA2
      have X0 := hide x0
      have Y0 := hide y0
      clear hx hy hxg hyg hxb hac hfall hA1 hA2 x0 y0
      have c0 : wr.cell? ⟨w.heap.size, 0, none⟩ = some (.int .i64 (V : Int)) := cell_of_row _ _ 0 _ _ _ ((hbx.out.block _ (by omega)).trans ((KE.out.block _ hu0).trans HU.out.2.2.1))
      have d0 : wr.cell? ⟨w.heap.size + 1, 0, none⟩ = some (.int .u8 k) := cell_of_row _ _ 0 _ _ _ ((hbx.out.block _ (by omega)).trans ((KE.out.block _ hu1).trans HU.out.2.2.2))
      have t1 : wr.cell? ⟨T8, 1, none⟩ = some (.slice Av1 V cv1) := cell_of_row _ _ 1 _ _ _ ((hbx.out.block _ (by omega)).trans HTd.out)
      have s1 : wr.cell? ⟨S5, 1, none⟩ = some (.slice Av V cv) := cell_of_row _ _ 1 _ _ _ ((hbx.out.block _ (by omega)).trans HSd.out)
      have e0 : wr.cell? ⟨b1, o1 + i, none⟩ = some (.int .i64 x) := (hbx.out.cell (p := ⟨b1, o1 + i, none⟩) l1).trans X0.out
      have e1 : wr.cell? ⟨b2, o2 + i, none⟩ = some (.int .i64 y) := (hbx.out.cell (p := ⟨b2, o2 + i, none⟩) l2).trans Y0.out
      rw [HA1.out] at t1
      rw [HA2.out] at s1
      have z0 : w.heap.size < wr.heap.size := by have := hbx.out.size; omega
      have z1 : w.heap.size + 1 < wr.heap.size := by have := hbx.out.size; omega
      have z2 : T8 < wr.heap.size := by have := hbx.out.size; omega
      have z3 : S5 < wr.heap.size := by have := hbx.out.size; omega
      have z4 : b1 < wr.heap.size := by have := hbx.out.size; omega
      have z5 : b2 < wr.heap.size := by have := hbx.out.size; omega
      by_cases hk1 : k = 1
      ·have hkb : (k != 1) = false := by simp [hk1]
       have HK := hide hk1
       clear hk1
       go_upto_region 17 with fail
       refine wp_region_held_drew (S := Kept wr) (by kernel_rfl) (Kept.drew wr) (fun hS0 => ?_)
       refine tk 0 82 ?_ ?_ ?_; rotate_left; (focus (intro w h; go_simp; (try with_reducible rfl))); (try simp only [xd, xe, xf])
       refine tk 1 83 ?_ ?_ ?_; rotate_left; (focus (intro w h; go_simp; (try with_reducible rfl))); (try simp only [xd, xe, xf])
       refine tk 2 84 ?_ ?_ ?_; rotate_left; (focus (intro w h; go_simp; (try with_reducible rfl))); (try simp only [xd, xe, xf])
       refine tk 3 85 ?_ ?_ ?_; rotate_left; (focus (intro w h; go_simp; (try with_reducible rfl))); (try simp only [xd, xe, xf])
       refine sk 4 86 ?_; (try simp only [xd, xe, xf])
       refine sk 5 87 ?_; (try simp only [xd, xe, xf])
       refine sk 6 88 ?_; (try simp only [xd, xe, xf])
       refine sk 7 89 ?_; (try simp only [xd, xe, xf])
       refine sk 8 90 ?_; (try simp only [xd, xe, xf])
       refine sk 9 91 ?_; (try simp only [xd, xe, xf])
       refine sk 10 92 ?_; (try simp only [xd, xe, xf])
       refine sk 11 93 ?_; (try simp only [xd, xe, xf])
       refine sk 12 94 ?_; (try simp only [xd, xe, xf])
       refine sk 13 95 ?_; (try simp only [xd, xe, xf])
       refine sk 14 96 ?_; (try simp only [xd, xe, xf])
       refine tk 15 97 ?_ ?_ ?_; rotate_left; (focus (intro w h; go_simp; (try with_reducible rfl))); (try simp only [xd, xe, xf])
       refine wpAnyH_done (by kernel_rfl) ?_ _
       clear hS0
       clear c0 d0 t1 s1 e0 e1 z0 z1 z2 z3 z4 z5
       obtain ⟨wd, hwd⟩ : ∃ z, wr.drew = z := ⟨_, rfl⟩
       have hbd : Hid (Below n2.heap.size n2 wd) := hide (by rw [← hwd]; exact hbx.out.drew)
       rw [hwd]
       clear hwd
       have c0 : wd.cell? ⟨w.heap.size, 0, none⟩ = some (.int .i64 (V : Int)) := cell_of_row _ _ 0 _ _ _ ((hbd.out.block _ (by omega)).trans ((KE.out.block _ hu0).trans HU.out.2.2.1))
       have d0 : wd.cell? ⟨w.heap.size + 1, 0, none⟩ = some (.int .u8 k) := cell_of_row _ _ 0 _ _ _ ((hbd.out.block _ (by omega)).trans ((KE.out.block _ hu1).trans HU.out.2.2.2))
       have t1 : wd.cell? ⟨T8, 1, none⟩ = some (.slice Av1 V cv1) := cell_of_row _ _ 1 _ _ _ ((hbd.out.block _ (by omega)).trans HTd.out)
       have s1 : wd.cell? ⟨S5, 1, none⟩ = some (.slice Av V cv) := cell_of_row _ _ 1 _ _ _ ((hbd.out.block _ (by omega)).trans HSd.out)
       have e0 : wd.cell? ⟨b1, o1 + i, none⟩ = some (.int .i64 x) := (hbd.out.cell (p := ⟨b1, o1 + i, none⟩) l1).trans X0.out
       have e1 : wd.cell? ⟨b2, o2 + i, none⟩ = some (.int .i64 y) := (hbd.out.cell (p := ⟨b2, o2 + i, none⟩) l2).trans Y0.out
       rw [HA1.out] at t1
       rw [HA2.out] at s1
       have z0 : w.heap.size < wd.heap.size := by have := hbd.out.size; omega
       have z1 : w.heap.size + 1 < wd.heap.size := by have := hbd.out.size; omega
       have z2 : T8 < wd.heap.size := by have := hbd.out.size; omega
       have z3 : S5 < wd.heap.size := by have := hbd.out.size; omega
       have z4 : b1 < wd.heap.size := by have := hbd.out.size; omega
       have z5 : b2 < wd.heap.size := by have := hbd.out.size; omega
       go_wp2_with fail
       refine (HAC.out wd).mono ?_
       rintro e w5 ⟨rfl, hw5⟩
       have HB5 : Hid (Below n2.heap.size n2 w5) := hide (by first | (subst hw5; exact hbd.out) | exact hbd.out.trans (hw5.mono hbd.out.size))
       clear hw5
       clear c0 d0 t1 s1 e0 e1 z0 z1 z2 z3 z4 z5
       go_wp2
       go_roundw
       case rel => exact ⟨i + 1, by omega, by go_num, rfl, HB5⟩
       case measure => simp [intOf]; omega
      ·have hkb : (k != 1) = true := by simpa using hk1
       have hxy : ¬ (y < x) := by have := HFA.out hk1; omega
       clear hk1
       go_upto_region 17 with fail
       refine wp_region_held_drew (S := Kept wr) (by kernel_rfl) (Kept.drew wr) (fun hS0 => ?_)
       refine tk 0 82 ?_ ?_ ?_; rotate_left; (focus (intro w h; go_simp; (try with_reducible rfl))); (try simp only [xd, xe, xf])
       refine tk 1 83 ?_ ?_ ?_; rotate_left; (focus (intro w h; go_simp; (try with_reducible rfl))); (try simp only [xd, xe, xf])
       refine tk 2 84 ?_ ?_ ?_; rotate_left; (focus (intro w h; go_simp; (try with_reducible rfl))); (try simp only [xd, xe, xf])
       refine tk 3 85 ?_ ?_ ?_; rotate_left; (focus (intro w h; go_simp; (try with_reducible rfl))); (try simp only [xd, xe, xf])
       refine tk 4 86 ?_ ?_ ?_; rotate_left; (focus (intro w h; go_simp; (try with_reducible rfl))); (try simp only [xd, xe, xf])
       refine tk 5 87 ?_ ?_ ?_; rotate_left; (focus (intro w h; go_simp; (try with_reducible rfl))); (try simp only [xd, xe, xf])
       refine tk 6 88 ?_ ?_ ?_; rotate_left; (focus (intro w h; go_simp; (try with_reducible rfl))); (try simp only [xd, xe, xf])
       refine tk 7 89 ?_ ?_ ?_; rotate_left; (focus (intro w h; go_simp; (try with_reducible rfl))); (try simp only [xd, xe, xf])
       refine tk 8 90 ?_ ?_ ?_; rotate_left; (focus (intro w h; go_simp; (try with_reducible rfl))); (try simp only [xd, xe, xf])
       refine tk 9 91 ?_ ?_ ?_; rotate_left; (focus (intro w h; go_simp; (try with_reducible rfl))); (try simp only [xd, xe, xf])
       refine tk 10 92 ?_ ?_ ?_; rotate_left; (focus (intro w h; go_simp; (try with_reducible rfl))); (try simp only [xd, xe, xf])
       refine tk 11 93 ?_ ?_ ?_; rotate_left; (focus (intro w h; go_simp; (try with_reducible rfl))); (try simp only [xd, xe, xf])
       refine tk 12 94 ?_ ?_ ?_; rotate_left; (focus (intro w h; go_simp; (try with_reducible rfl))); (try simp only [xd, xe, xf])
       refine tk 13 95 ?_ ?_ ?_; rotate_left; (focus (intro w h; go_simp; (try with_reducible rfl))); (try simp only [xd, xe, xf])
       refine tk 14 96 ?_ ?_ ?_; rotate_left; (focus (intro w h; go_simp; (try with_reducible rfl))); (try simp only [xd, xe, xf])
       refine tk 15 97 ?_ ?_ ?_; rotate_left; (focus (intro w h; go_simp; (try with_reducible rfl))); (try simp only [xd, xe, xf])
       refine wpAnyH_done (by kernel_rfl) ?_ _
       clear hS0
       clear c0 d0 t1 s1 e0 e1 z0 z1 z2 z3 z4 z5
       obtain ⟨wd, hwd⟩ : ∃ z, wr.drew = z := ⟨_, rfl⟩
       have hbd : Hid (Below n2.heap.size n2 wd) := hide (by rw [← hwd]; exact hbx.out.drew)
       rw [hwd]
       clear hwd
       have c0 : wd.cell? ⟨w.heap.size, 0, none⟩ = some (.int .i64 (V : Int)) := cell_of_row _ _ 0 _ _ _ ((hbd.out.block _ (by omega)).trans ((KE.out.block _ hu0).trans HU.out.2.2.1))
       have d0 : wd.cell? ⟨w.heap.size + 1, 0, none⟩ = some (.int .u8 k) := cell_of_row _ _ 0 _ _ _ ((hbd.out.block _ (by omega)).trans ((KE.out.block _ hu1).trans HU.out.2.2.2))
       have t1 : wd.cell? ⟨T8, 1, none⟩ = some (.slice Av1 V cv1) := cell_of_row _ _ 1 _ _ _ ((hbd.out.block _ (by omega)).trans HTd.out)
       have s1 : wd.cell? ⟨S5, 1, none⟩ = some (.slice Av V cv) := cell_of_row _ _ 1 _ _ _ ((hbd.out.block _ (by omega)).trans HSd.out)
       have e0 : wd.cell? ⟨b1, o1 + i, none⟩ = some (.int .i64 x) := (hbd.out.cell (p := ⟨b1, o1 + i, none⟩) l1).trans X0.out
       have e1 : wd.cell? ⟨b2, o2 + i, none⟩ = some (.int .i64 y) := (hbd.out.cell (p := ⟨b2, o2 + i, none⟩) l2).trans Y0.out
       rw [HA1.out] at t1
       rw [HA2.out] at s1
       have z0 : w.heap.size < wd.heap.size := by have := hbd.out.size; omega
       have z1 : w.heap.size + 1 < wd.heap.size := by have := hbd.out.size; omega
       have z2 : T8 < wd.heap.size := by have := hbd.out.size; omega
       have z3 : S5 < wd.heap.size := by have := hbd.out.size; omega
       have z4 : b1 < wd.heap.size := by have := hbd.out.size; omega
       have z5 : b2 < wd.heap.size := by have := hbd.out.size; omega
       go_wp2_with fail
       refine (HAC.out wd).mono ?_
       rintro e w5 ⟨rfl, hw5⟩
       have HB5 : Hid (Below n2.heap.size n2 w5) := hide (by first | (subst hw5; exact hbd.out) | exact hbd.out.trans (hw5.mono hbd.out.size))
       clear hw5
       clear c0 d0 t1 s1 e0 e1 z0 z1 z2 z3 z4 z5
       go_wp2
       go_roundw
       case rel => exact ⟨i + 1, by omega, by go_num, rfl, HB5⟩
       case measure => simp [intOf]; omega
     ·have hiV : i = V := by omega
      have hge : ¬ ((i : Int) < (V : Int)) := by omega
      have hsumH := hide (HG.out.sum)
      by_cases hk1 : k = 1
      ·have hkb : (k == 1) = true := by simp [hk1]
       have hkn : (k != 1) = false := by simp [hk1]
       have hal : ¬ (4294967296 < addN (fun v => (atV k j2 j3 es V (n + 1)).vals.getD v 0) i) := by rw [hiV]; have := HG.out.sum hk1 (n + 1); omega
       clear hk1 hiV
       have c0 : wr.cell? ⟨w.heap.size, 0, none⟩ = some (.int .i64 (V : Int)) := cell_of_row _ _ 0 _ _ _ ((hbx.out.block _ (by omega)).trans ((KE.out.block _ hu0).trans HU.out.2.2.1))
       have d0 : wr.cell? ⟨w.heap.size + 1, 0, none⟩ = some (.int .u8 k) := cell_of_row _ _ 0 _ _ _ ((hbx.out.block _ (by omega)).trans ((KE.out.block _ hu1).trans HU.out.2.2.2))
       have t0 : wr.cell? ⟨T8, 0, none⟩ = some (.int .i64 (atV k j2 j3 es V (n + 1)).st) := cell_of_row _ _ 0 _ _ _ ((hbx.out.block _ (by omega)).trans HTd.out)
       have t1 : wr.cell? ⟨T8, 1, none⟩ = some (.slice Av1 V cv1) := cell_of_row _ _ 1 _ _ _ ((hbx.out.block _ (by omega)).trans HTd.out)
       have t2 : wr.cell? ⟨T8, 2, none⟩ = some (.slice Ac1 V cc1) := cell_of_row _ _ 2 _ _ _ ((hbx.out.block _ (by omega)).trans HTd.out)
       have t3 : wr.cell? ⟨T8, 3, none⟩ = some (.slice Ai1 V ci1) := cell_of_row _ _ 3 _ _ _ ((hbx.out.block _ (by omega)).trans HTd.out)
       have t4 : wr.cell? ⟨T8, 4, none⟩ = some (.int .i64 (atV k j2 j3 es V (n + 1)).sm) := cell_of_row _ _ 4 _ _ _ ((hbx.out.block _ (by omega)).trans HTd.out)
       have t5 : wr.cell? ⟨T8, 5, none⟩ = some (.int .i64 (atV k j2 j3 es V (n + 1)).mo) := cell_of_row _ _ 5 _ _ _ ((hbx.out.block _ (by omega)).trans HTd.out)
       have s0 : wr.cell? ⟨S5, 0, none⟩ = some (.int .i64 (atV k j2 j3 es V n).st) := cell_of_row _ _ 0 _ _ _ ((hbx.out.block _ (by omega)).trans HSd.out)
       have s1 : wr.cell? ⟨S5, 1, none⟩ = some (.slice Av V cv) := cell_of_row _ _ 1 _ _ _ ((hbx.out.block _ (by omega)).trans HSd.out)
       have s2 : wr.cell? ⟨S5, 2, none⟩ = some (.slice Ac V cc) := cell_of_row _ _ 2 _ _ _ ((hbx.out.block _ (by omega)).trans HSd.out)
       have s3 : wr.cell? ⟨S5, 3, none⟩ = some (.slice Ai V ci) := cell_of_row _ _ 3 _ _ _ ((hbx.out.block _ (by omega)).trans HSd.out)
       have s4 : wr.cell? ⟨S5, 4, none⟩ = some (.int .i64 (atV k j2 j3 es V n).sm) := cell_of_row _ _ 4 _ _ _ ((hbx.out.block _ (by omega)).trans HSd.out)
       have s5 : wr.cell? ⟨S5, 5, none⟩ = some (.int .i64 (atV k j2 j3 es V n).mo) := cell_of_row _ _ 5 _ _ _ ((hbx.out.block _ (by omega)).trans HSd.out)
       have f0 : wr.frozen? ⟨S5, 0, none⟩ = false := frozen_of_row _ _ 0 _ _ ((hbx.out.block _ (by omega)).trans HSd.out)
       have f1 : wr.frozen? ⟨S5, 1, none⟩ = false := frozen_of_row _ _ 1 _ _ ((hbx.out.block _ (by omega)).trans HSd.out)
       have f2 : wr.frozen? ⟨S5, 2, none⟩ = false := frozen_of_row _ _ 2 _ _ ((hbx.out.block _ (by omega)).trans HSd.out)
       have f3 : wr.frozen? ⟨S5, 3, none⟩ = false := frozen_of_row _ _ 3 _ _ ((hbx.out.block _ (by omega)).trans HSd.out)
       have f4 : wr.frozen? ⟨S5, 4, none⟩ = false := frozen_of_row _ _ 4 _ _ ((hbx.out.block _ (by omega)).trans HSd.out)
       have f5 : wr.frozen? ⟨S5, 5, none⟩ = false := frozen_of_row _ _ 5 _ _ ((hbx.out.block _ (by omega)).trans HSd.out)
       have z0 : w.heap.size < wr.heap.size := by have := hbx.out.size; omega
       have z1 : w.heap.size + 1 < wr.heap.size := by have := hbx.out.size; omega
       have z2 : T8 < wr.heap.size := by have := hbx.out.size; omega
       have z3 : S5 < wr.heap.size := by have := hbx.out.size; omega
       have HSZ := hide ((hbx.out.block _ (by omega)).trans HSd.out)
       have HIZ := hide (HI1d.out.next hbx.out)
       have KZ := hide (KE.out.trans (hbx.out.mono KE.out.size))
       go_wp2
       obtain ⟨y9, hy9⟩ : ∃ q, (((((wr.setCell ⟨S5, 0, none⟩ (.int .i64 (atV k j2 j3 es V (n + 1)).st)).setCell ⟨S5, 1, none⟩ (.slice Av1 V cv1)).setCell ⟨S5, 2, none⟩ (.slice Ac1 V cc1)).setCell ⟨S5, 3, none⟩ (.slice Ai1 V ci1)).setCell ⟨S5, 4, none⟩ (.int .i64 (atV k j2 j3 es V (n + 1)).sm)).setCell ⟨S5, 5, none⟩ (.int .i64 (atV k j2 j3 es V (n + 1)).mo) = q := ⟨_, rfl⟩
       have hF := far6 wr S5 S5 (.int .i64 (atV k j2 j3 es V (n + 1)).st) (.slice Av1 V cv1) (.slice Ac1 V cc1) (.slice Ai1 V ci1) (.int .i64 (atV k j2 j3 es V (n + 1)).sm) (.int .i64 (atV k j2 j3 es V (n + 1)).mo) HSZ.out
       rw [hy9] at hF ⊢
       obtain ⟨F4, hY⟩ := hF
       have HF4 := hide F4
       have HY4 := hide hY
       clear hy9 F4 hY
       have HI9 : Hid (VIn y9 (atV k j2 j3 es V (n + 1)) Av1 Ac1 Ai1) := hide ⟨HF4.out.rd (HIZ.out).vals HN1.out.1 (by omega) (by omega), HF4.out.rd (HIZ.out).chg HN1.out.2.1 (by omega) (by omega), HF4.out.rd (HIZ.out).inb HN1.out.2.2 (by omega) (by omega)⟩
       have HB9 := hide (KZ.out.trans (HF4.out.below (by omega) (by omega)))
       go_roundw
       case rel => exact ⟨n + 1, Av1, Ac1, Ai1, cv1, cc1, ci1, by omega, by go_num, HY4, HI9, HB9⟩
       case measure => simp [intOf]; omega
      ·have hkb : (k == 1) = false := by simpa using hk1
       have hkn : (k != 1) = true := by simpa using hk1
       by_cases hn0 : n = 0
       ·have hn0' : ¬ ((n : Int) > 0) := by omega
        have hn0'' : ¬ (0 < (n : Int)) := by omega
        clear hk1 hiV hn0
        have c0 : wr.cell? ⟨w.heap.size, 0, none⟩ = some (.int .i64 (V : Int)) := cell_of_row _ _ 0 _ _ _ ((hbx.out.block _ (by omega)).trans ((KE.out.block _ hu0).trans HU.out.2.2.1))
        have d0 : wr.cell? ⟨w.heap.size + 1, 0, none⟩ = some (.int .u8 k) := cell_of_row _ _ 0 _ _ _ ((hbx.out.block _ (by omega)).trans ((KE.out.block _ hu1).trans HU.out.2.2.2))
        have t0 : wr.cell? ⟨T8, 0, none⟩ = some (.int .i64 (atV k j2 j3 es V (n + 1)).st) := cell_of_row _ _ 0 _ _ _ ((hbx.out.block _ (by omega)).trans HTd.out)
        have t1 : wr.cell? ⟨T8, 1, none⟩ = some (.slice Av1 V cv1) := cell_of_row _ _ 1 _ _ _ ((hbx.out.block _ (by omega)).trans HTd.out)
        have t2 : wr.cell? ⟨T8, 2, none⟩ = some (.slice Ac1 V cc1) := cell_of_row _ _ 2 _ _ _ ((hbx.out.block _ (by omega)).trans HTd.out)
        have t3 : wr.cell? ⟨T8, 3, none⟩ = some (.slice Ai1 V ci1) := cell_of_row _ _ 3 _ _ _ ((hbx.out.block _ (by omega)).trans HTd.out)
        have t4 : wr.cell? ⟨T8, 4, none⟩ = some (.int .i64 (atV k j2 j3 es V (n + 1)).sm) := cell_of_row _ _ 4 _ _ _ ((hbx.out.block _ (by omega)).trans HTd.out)
        have t5 : wr.cell? ⟨T8, 5, none⟩ = some (.int .i64 (atV k j2 j3 es V (n + 1)).mo) := cell_of_row _ _ 5 _ _ _ ((hbx.out.block _ (by omega)).trans HTd.out)
        have s0 : wr.cell? ⟨S5, 0, none⟩ = some (.int .i64 (atV k j2 j3 es V n).st) := cell_of_row _ _ 0 _ _ _ ((hbx.out.block _ (by omega)).trans HSd.out)
        have s1 : wr.cell? ⟨S5, 1, none⟩ = some (.slice Av V cv) := cell_of_row _ _ 1 _ _ _ ((hbx.out.block _ (by omega)).trans HSd.out)
        have s2 : wr.cell? ⟨S5, 2, none⟩ = some (.slice Ac V cc) := cell_of_row _ _ 2 _ _ _ ((hbx.out.block _ (by omega)).trans HSd.out)
        have s3 : wr.cell? ⟨S5, 3, none⟩ = some (.slice Ai V ci) := cell_of_row _ _ 3 _ _ _ ((hbx.out.block _ (by omega)).trans HSd.out)
        have s4 : wr.cell? ⟨S5, 4, none⟩ = some (.int .i64 (atV k j2 j3 es V n).sm) := cell_of_row _ _ 4 _ _ _ ((hbx.out.block _ (by omega)).trans HSd.out)
        have s5 : wr.cell? ⟨S5, 5, none⟩ = some (.int .i64 (atV k j2 j3 es V n).mo) := cell_of_row _ _ 5 _ _ _ ((hbx.out.block _ (by omega)).trans HSd.out)
        have f0 : wr.frozen? ⟨S5, 0, none⟩ = false := frozen_of_row _ _ 0 _ _ ((hbx.out.block _ (by omega)).trans HSd.out)
        have f1 : wr.frozen? ⟨S5, 1, none⟩ = false := frozen_of_row _ _ 1 _ _ ((hbx.out.block _ (by omega)).trans HSd.out)
        have f2 : wr.frozen? ⟨S5, 2, none⟩ = false := frozen_of_row _ _ 2 _ _ ((hbx.out.block _ (by omega)).trans HSd.out)
        have f3 : wr.frozen? ⟨S5, 3, none⟩ = false := frozen_of_row _ _ 3 _ _ ((hbx.out.block _ (by omega)).trans HSd.out)
        have f4 : wr.frozen? ⟨S5, 4, none⟩ = false := frozen_of_row _ _ 4 _ _ ((hbx.out.block _ (by omega)).trans HSd.out)
        have f5 : wr.frozen? ⟨S5, 5, none⟩ = false := frozen_of_row _ _ 5 _ _ ((hbx.out.block _ (by omega)).trans HSd.out)
        have z0 : w.heap.size < wr.heap.size := by have := hbx.out.size; omega
        have z1 : w.heap.size + 1 < wr.heap.size := by have := hbx.out.size; omega
        have z2 : T8 < wr.heap.size := by have := hbx.out.size; omega
        have z3 : S5 < wr.heap.size := by have := hbx.out.size; omega
        have HSZ := hide ((hbx.out.block _ (by omega)).trans HSd.out)
        have HIZ := hide (HI1d.out.next hbx.out)
        have KZ := hide (KE.out.trans (hbx.out.mono KE.out.size))
        go_wp2
        obtain ⟨y9, hy9⟩ : ∃ q, (((((wr.setCell ⟨S5, 0, none⟩ (.int .i64 (atV k j2 j3 es V (n + 1)).st)).setCell ⟨S5, 1, none⟩ (.slice Av1 V cv1)).setCell ⟨S5, 2, none⟩ (.slice Ac1 V cc1)).setCell ⟨S5, 3, none⟩ (.slice Ai1 V ci1)).setCell ⟨S5, 4, none⟩ (.int .i64 (atV k j2 j3 es V (n + 1)).sm)).setCell ⟨S5, 5, none⟩ (.int .i64 (atV k j2 j3 es V (n + 1)).mo) = q := ⟨_, rfl⟩
        have hF := far6 wr S5 S5 (.int .i64 (atV k j2 j3 es V (n + 1)).st) (.slice Av1 V cv1) (.slice Ac1 V cc1) (.slice Ai1 V ci1) (.int .i64 (atV k j2 j3 es V (n + 1)).sm) (.int .i64 (atV k j2 j3 es V (n + 1)).mo) HSZ.out
        rw [hy9] at hF ⊢
        obtain ⟨F4, hY⟩ := hF
        have HF4 := hide F4
        have HY4 := hide hY
        clear hy9 F4 hY
        have HI9 : Hid (VIn y9 (atV k j2 j3 es V (n + 1)) Av1 Ac1 Ai1) := hide ⟨HF4.out.rd (HIZ.out).vals HN1.out.1 (by omega) (by omega), HF4.out.rd (HIZ.out).chg HN1.out.2.1 (by omega) (by omega), HF4.out.rd (HIZ.out).inb HN1.out.2.2 (by omega) (by omega)⟩
        have HB9 := hide (KZ.out.trans (HF4.out.below (by omega) (by omega)))
        go_roundw
        case rel => exact ⟨n + 1, Av1, Ac1, Ai1, cv1, cc1, ci1, by omega, by go_num, HY4, HI9, HB9⟩
        case measure => simp [intOf]; omega
       ·by_cases hm : (atV k j2 j3 es V n).mo = 0
        ·have hdn := HG.out.done hk1 n (by omega) hm
         have hmb : ((atV k j2 j3 es V n).mo == 0) = true := by simpa using hm
         have hmc : ((atV k j2 j3 es V (n + 1)).mo != 0) = false := by simpa using hdn.1
         have hn0'' : (0 < (n : Int)) := by omega
         have HDV := hide hdn.2
         clear hk1 hiV hm hdn
         have c0 : wr.cell? ⟨w.heap.size, 0, none⟩ = some (.int .i64 (V : Int)) := cell_of_row _ _ 0 _ _ _ ((hbx.out.block _ (by omega)).trans ((KE.out.block _ hu0).trans HU.out.2.2.1))
         have d0 : wr.cell? ⟨w.heap.size + 1, 0, none⟩ = some (.int .u8 k) := cell_of_row _ _ 0 _ _ _ ((hbx.out.block _ (by omega)).trans ((KE.out.block _ hu1).trans HU.out.2.2.2))
         have t0 : wr.cell? ⟨T8, 0, none⟩ = some (.int .i64 (atV k j2 j3 es V (n + 1)).st) := cell_of_row _ _ 0 _ _ _ ((hbx.out.block _ (by omega)).trans HTd.out)
         have t1 : wr.cell? ⟨T8, 1, none⟩ = some (.slice Av1 V cv1) := cell_of_row _ _ 1 _ _ _ ((hbx.out.block _ (by omega)).trans HTd.out)
         have t2 : wr.cell? ⟨T8, 2, none⟩ = some (.slice Ac1 V cc1) := cell_of_row _ _ 2 _ _ _ ((hbx.out.block _ (by omega)).trans HTd.out)
         have t3 : wr.cell? ⟨T8, 3, none⟩ = some (.slice Ai1 V ci1) := cell_of_row _ _ 3 _ _ _ ((hbx.out.block _ (by omega)).trans HTd.out)
         have t4 : wr.cell? ⟨T8, 4, none⟩ = some (.int .i64 (atV k j2 j3 es V (n + 1)).sm) := cell_of_row _ _ 4 _ _ _ ((hbx.out.block _ (by omega)).trans HTd.out)
         have t5 : wr.cell? ⟨T8, 5, none⟩ = some (.int .i64 (atV k j2 j3 es V (n + 1)).mo) := cell_of_row _ _ 5 _ _ _ ((hbx.out.block _ (by omega)).trans HTd.out)
         have s0 : wr.cell? ⟨S5, 0, none⟩ = some (.int .i64 (atV k j2 j3 es V n).st) := cell_of_row _ _ 0 _ _ _ ((hbx.out.block _ (by omega)).trans HSd.out)
         have s1 : wr.cell? ⟨S5, 1, none⟩ = some (.slice Av V cv) := cell_of_row _ _ 1 _ _ _ ((hbx.out.block _ (by omega)).trans HSd.out)
         have s2 : wr.cell? ⟨S5, 2, none⟩ = some (.slice Ac V cc) := cell_of_row _ _ 2 _ _ _ ((hbx.out.block _ (by omega)).trans HSd.out)
         have s3 : wr.cell? ⟨S5, 3, none⟩ = some (.slice Ai V ci) := cell_of_row _ _ 3 _ _ _ ((hbx.out.block _ (by omega)).trans HSd.out)
         have s4 : wr.cell? ⟨S5, 4, none⟩ = some (.int .i64 (atV k j2 j3 es V n).sm) := cell_of_row _ _ 4 _ _ _ ((hbx.out.block _ (by omega)).trans HSd.out)
         have s5 : wr.cell? ⟨S5, 5, none⟩ = some (.int .i64 (atV k j2 j3 es V n).mo) := cell_of_row _ _ 5 _ _ _ ((hbx.out.block _ (by omega)).trans HSd.out)
         have f0 : wr.frozen? ⟨S5, 0, none⟩ = false := frozen_of_row _ _ 0 _ _ ((hbx.out.block _ (by omega)).trans HSd.out)
         have f1 : wr.frozen? ⟨S5, 1, none⟩ = false := frozen_of_row _ _ 1 _ _ ((hbx.out.block _ (by omega)).trans HSd.out)
         have f2 : wr.frozen? ⟨S5, 2, none⟩ = false := frozen_of_row _ _ 2 _ _ ((hbx.out.block _ (by omega)).trans HSd.out)
         have f3 : wr.frozen? ⟨S5, 3, none⟩ = false := frozen_of_row _ _ 3 _ _ ((hbx.out.block _ (by omega)).trans HSd.out)
         have f4 : wr.frozen? ⟨S5, 4, none⟩ = false := frozen_of_row _ _ 4 _ _ ((hbx.out.block _ (by omega)).trans HSd.out)
         have f5 : wr.frozen? ⟨S5, 5, none⟩ = false := frozen_of_row _ _ 5 _ _ ((hbx.out.block _ (by omega)).trans HSd.out)
         have z0 : w.heap.size < wr.heap.size := by have := hbx.out.size; omega
         have z1 : w.heap.size + 1 < wr.heap.size := by have := hbx.out.size; omega
         have z2 : T8 < wr.heap.size := by have := hbx.out.size; omega
         have z3 : S5 < wr.heap.size := by have := hbx.out.size; omega
         have HSZ := hide ((hbx.out.block _ (by omega)).trans HSd.out)
         have HIZ := hide (HI1d.out.next hbx.out)
         have KZ := hide (KE.out.trans (hbx.out.mono KE.out.size))
         have hc3 := same64_any wr Av Av1 (atV k j2 j3 es V n).vals (atV k j2 j3 es V (n + 1)).vals V V cv cv1 (HG.out.st n).ok.lv (HG.out.st (n + 1)).ok.lv (by omega) (HId.out.next hbx.out).vals (HI1d.out.next hbx.out).vals
         rw [HDV.out, show eqL (atV k j2 j3 es V n).vals (atV k j2 j3 es V n).vals = true by simp [eqL]] at hc3
         have HC3 := hide hc3
         clear hc3
         go_wp2_with fail
         refine HC3.out.mono ?_
         rintro e w6 ⟨rfl, hw6⟩
         have hb6 := hide (hbx.out.trans (hw6.mono hbx.out.size))
         clear hw6 c0 d0 t0 s0 f0 t1 s1 f1 t2 s2 f2 t3 s3 f3 t4 s4 f4 t5 s5 f5 z0 z1 z2 z3 HSZ HIZ KZ
         have c0 : w6.cell? ⟨w.heap.size, 0, none⟩ = some (.int .i64 (V : Int)) := cell_of_row _ _ 0 _ _ _ ((hb6.out.block _ (by omega)).trans ((KE.out.block _ hu0).trans HU.out.2.2.1))
         have d0 : w6.cell? ⟨w.heap.size + 1, 0, none⟩ = some (.int .u8 k) := cell_of_row _ _ 0 _ _ _ ((hb6.out.block _ (by omega)).trans ((KE.out.block _ hu1).trans HU.out.2.2.2))
         have t0 : w6.cell? ⟨T8, 0, none⟩ = some (.int .i64 (atV k j2 j3 es V (n + 1)).st) := cell_of_row _ _ 0 _ _ _ ((hb6.out.block _ (by omega)).trans HTd.out)
         have t1 : w6.cell? ⟨T8, 1, none⟩ = some (.slice Av1 V cv1) := cell_of_row _ _ 1 _ _ _ ((hb6.out.block _ (by omega)).trans HTd.out)
         have t2 : w6.cell? ⟨T8, 2, none⟩ = some (.slice Ac1 V cc1) := cell_of_row _ _ 2 _ _ _ ((hb6.out.block _ (by omega)).trans HTd.out)
         have t3 : w6.cell? ⟨T8, 3, none⟩ = some (.slice Ai1 V ci1) := cell_of_row _ _ 3 _ _ _ ((hb6.out.block _ (by omega)).trans HTd.out)
         have t4 : w6.cell? ⟨T8, 4, none⟩ = some (.int .i64 (atV k j2 j3 es V (n + 1)).sm) := cell_of_row _ _ 4 _ _ _ ((hb6.out.block _ (by omega)).trans HTd.out)
         have t5 : w6.cell? ⟨T8, 5, none⟩ = some (.int .i64 (atV k j2 j3 es V (n + 1)).mo) := cell_of_row _ _ 5 _ _ _ ((hb6.out.block _ (by omega)).trans HTd.out)
         have s0 : w6.cell? ⟨S5, 0, none⟩ = some (.int .i64 (atV k j2 j3 es V n).st) := cell_of_row _ _ 0 _ _ _ ((hb6.out.block _ (by omega)).trans HSd.out)
         have s1 : w6.cell? ⟨S5, 1, none⟩ = some (.slice Av V cv) := cell_of_row _ _ 1 _ _ _ ((hb6.out.block _ (by omega)).trans HSd.out)
         have s2 : w6.cell? ⟨S5, 2, none⟩ = some (.slice Ac V cc) := cell_of_row _ _ 2 _ _ _ ((hb6.out.block _ (by omega)).trans HSd.out)
         have s3 : w6.cell? ⟨S5, 3, none⟩ = some (.slice Ai V ci) := cell_of_row _ _ 3 _ _ _ ((hb6.out.block _ (by omega)).trans HSd.out)
         have s4 : w6.cell? ⟨S5, 4, none⟩ = some (.int .i64 (atV k j2 j3 es V n).sm) := cell_of_row _ _ 4 _ _ _ ((hb6.out.block _ (by omega)).trans HSd.out)
         have s5 : w6.cell? ⟨S5, 5, none⟩ = some (.int .i64 (atV k j2 j3 es V n).mo) := cell_of_row _ _ 5 _ _ _ ((hb6.out.block _ (by omega)).trans HSd.out)
         have f0 : w6.frozen? ⟨S5, 0, none⟩ = false := frozen_of_row _ _ 0 _ _ ((hb6.out.block _ (by omega)).trans HSd.out)
         have f1 : w6.frozen? ⟨S5, 1, none⟩ = false := frozen_of_row _ _ 1 _ _ ((hb6.out.block _ (by omega)).trans HSd.out)
         have f2 : w6.frozen? ⟨S5, 2, none⟩ = false := frozen_of_row _ _ 2 _ _ ((hb6.out.block _ (by omega)).trans HSd.out)
         have f3 : w6.frozen? ⟨S5, 3, none⟩ = false := frozen_of_row _ _ 3 _ _ ((hb6.out.block _ (by omega)).trans HSd.out)
         have f4 : w6.frozen? ⟨S5, 4, none⟩ = false := frozen_of_row _ _ 4 _ _ ((hb6.out.block _ (by omega)).trans HSd.out)
         have f5 : w6.frozen? ⟨S5, 5, none⟩ = false := frozen_of_row _ _ 5 _ _ ((hb6.out.block _ (by omega)).trans HSd.out)
         have z0 : w.heap.size < w6.heap.size := by have := hb6.out.size; omega
         have z1 : w.heap.size + 1 < w6.heap.size := by have := hb6.out.size; omega
         have z2 : T8 < w6.heap.size := by have := hb6.out.size; omega
         have z3 : S5 < w6.heap.size := by have := hb6.out.size; omega
         have HSZ := hide ((hb6.out.block _ (by omega)).trans HSd.out)
         have HIZ := hide (HI1d.out.next hb6.out)
         have KZ := hide (KE.out.trans (hb6.out.mono KE.out.size))
         go_wp2
         obtain ⟨y9, hy9⟩ : ∃ q, (((((w6.setCell ⟨S5, 0, none⟩ (.int .i64 (atV k j2 j3 es V (n + 1)).st)).setCell ⟨S5, 1, none⟩ (.slice Av1 V cv1)).setCell ⟨S5, 2, none⟩ (.slice Ac1 V cc1)).setCell ⟨S5, 3, none⟩ (.slice Ai1 V ci1)).setCell ⟨S5, 4, none⟩ (.int .i64 (atV k j2 j3 es V (n + 1)).sm)).setCell ⟨S5, 5, none⟩ (.int .i64 (atV k j2 j3 es V (n + 1)).mo) = q := ⟨_, rfl⟩
         have hF := far6 w6 S5 S5 (.int .i64 (atV k j2 j3 es V (n + 1)).st) (.slice Av1 V cv1) (.slice Ac1 V cc1) (.slice Ai1 V ci1) (.int .i64 (atV k j2 j3 es V (n + 1)).sm) (.int .i64 (atV k j2 j3 es V (n + 1)).mo) HSZ.out
         rw [hy9] at hF ⊢
         obtain ⟨F4, hY⟩ := hF
         have HF4 := hide F4
         have HY4 := hide hY
         clear hy9 F4 hY
         have HI9 : Hid (VIn y9 (atV k j2 j3 es V (n + 1)) Av1 Ac1 Ai1) := hide ⟨HF4.out.rd (HIZ.out).vals HN1.out.1 (by omega) (by omega), HF4.out.rd (HIZ.out).chg HN1.out.2.1 (by omega) (by omega), HF4.out.rd (HIZ.out).inb HN1.out.2.2 (by omega) (by omega)⟩
         have HB9 := hide (KZ.out.trans (HF4.out.below (by omega) (by omega)))
         go_roundw
         case rel => exact ⟨n + 1, Av1, Ac1, Ai1, cv1, cc1, ci1, by omega, by go_num, HY4, HI9, HB9⟩
         case measure => simp [intOf]; omega
        ·have hmb : ((atV k j2 j3 es V n).mo == 0) = false := by simpa using hm
         have hn0'' : (0 < (n : Int)) := by omega
         clear hk1 hiV hm
         have c0 : wr.cell? ⟨w.heap.size, 0, none⟩ = some (.int .i64 (V : Int)) := cell_of_row _ _ 0 _ _ _ ((hbx.out.block _ (by omega)).trans ((KE.out.block _ hu0).trans HU.out.2.2.1))
         have d0 : wr.cell? ⟨w.heap.size + 1, 0, none⟩ = some (.int .u8 k) := cell_of_row _ _ 0 _ _ _ ((hbx.out.block _ (by omega)).trans ((KE.out.block _ hu1).trans HU.out.2.2.2))
         have t0 : wr.cell? ⟨T8, 0, none⟩ = some (.int .i64 (atV k j2 j3 es V (n + 1)).st) := cell_of_row _ _ 0 _ _ _ ((hbx.out.block _ (by omega)).trans HTd.out)
         have t1 : wr.cell? ⟨T8, 1, none⟩ = some (.slice Av1 V cv1) := cell_of_row _ _ 1 _ _ _ ((hbx.out.block _ (by omega)).trans HTd.out)
         have t2 : wr.cell? ⟨T8, 2, none⟩ = some (.slice Ac1 V cc1) := cell_of_row _ _ 2 _ _ _ ((hbx.out.block _ (by omega)).trans HTd.out)
         have t3 : wr.cell? ⟨T8, 3, none⟩ = some (.slice Ai1 V ci1) := cell_of_row _ _ 3 _ _ _ ((hbx.out.block _ (by omega)).trans HTd.out)
         have t4 : wr.cell? ⟨T8, 4, none⟩ = some (.int .i64 (atV k j2 j3 es V (n + 1)).sm) := cell_of_row _ _ 4 _ _ _ ((hbx.out.block _ (by omega)).trans HTd.out)
         have t5 : wr.cell? ⟨T8, 5, none⟩ = some (.int .i64 (atV k j2 j3 es V (n + 1)).mo) := cell_of_row _ _ 5 _ _ _ ((hbx.out.block _ (by omega)).trans HTd.out)
         have s0 : wr.cell? ⟨S5, 0, none⟩ = some (.int .i64 (atV k j2 j3 es V n).st) := cell_of_row _ _ 0 _ _ _ ((hbx.out.block _ (by omega)).trans HSd.out)
         have s1 : wr.cell? ⟨S5, 1, none⟩ = some (.slice Av V cv) := cell_of_row _ _ 1 _ _ _ ((hbx.out.block _ (by omega)).trans HSd.out)
         have s2 : wr.cell? ⟨S5, 2, none⟩ = some (.slice Ac V cc) := cell_of_row _ _ 2 _ _ _ ((hbx.out.block _ (by omega)).trans HSd.out)
         have s3 : wr.cell? ⟨S5, 3, none⟩ = some (.slice Ai V ci) := cell_of_row _ _ 3 _ _ _ ((hbx.out.block _ (by omega)).trans HSd.out)
         have s4 : wr.cell? ⟨S5, 4, none⟩ = some (.int .i64 (atV k j2 j3 es V n).sm) := cell_of_row _ _ 4 _ _ _ ((hbx.out.block _ (by omega)).trans HSd.out)
         have s5 : wr.cell? ⟨S5, 5, none⟩ = some (.int .i64 (atV k j2 j3 es V n).mo) := cell_of_row _ _ 5 _ _ _ ((hbx.out.block _ (by omega)).trans HSd.out)
         have f0 : wr.frozen? ⟨S5, 0, none⟩ = false := frozen_of_row _ _ 0 _ _ ((hbx.out.block _ (by omega)).trans HSd.out)
         have f1 : wr.frozen? ⟨S5, 1, none⟩ = false := frozen_of_row _ _ 1 _ _ ((hbx.out.block _ (by omega)).trans HSd.out)
         have f2 : wr.frozen? ⟨S5, 2, none⟩ = false := frozen_of_row _ _ 2 _ _ ((hbx.out.block _ (by omega)).trans HSd.out)
         have f3 : wr.frozen? ⟨S5, 3, none⟩ = false := frozen_of_row _ _ 3 _ _ ((hbx.out.block _ (by omega)).trans HSd.out)
         have f4 : wr.frozen? ⟨S5, 4, none⟩ = false := frozen_of_row _ _ 4 _ _ ((hbx.out.block _ (by omega)).trans HSd.out)
         have f5 : wr.frozen? ⟨S5, 5, none⟩ = false := frozen_of_row _ _ 5 _ _ ((hbx.out.block _ (by omega)).trans HSd.out)
         have z0 : w.heap.size < wr.heap.size := by have := hbx.out.size; omega
         have z1 : w.heap.size + 1 < wr.heap.size := by have := hbx.out.size; omega
         have z2 : T8 < wr.heap.size := by have := hbx.out.size; omega
         have z3 : S5 < wr.heap.size := by have := hbx.out.size; omega
         have HSZ := hide ((hbx.out.block _ (by omega)).trans HSd.out)
         have HIZ := hide (HI1d.out.next hbx.out)
         have KZ := hide (KE.out.trans (hbx.out.mono KE.out.size))
         go_wp2
         obtain ⟨y9, hy9⟩ : ∃ q, (((((wr.setCell ⟨S5, 0, none⟩ (.int .i64 (atV k j2 j3 es V (n + 1)).st)).setCell ⟨S5, 1, none⟩ (.slice Av1 V cv1)).setCell ⟨S5, 2, none⟩ (.slice Ac1 V cc1)).setCell ⟨S5, 3, none⟩ (.slice Ai1 V ci1)).setCell ⟨S5, 4, none⟩ (.int .i64 (atV k j2 j3 es V (n + 1)).sm)).setCell ⟨S5, 5, none⟩ (.int .i64 (atV k j2 j3 es V (n + 1)).mo) = q := ⟨_, rfl⟩
         have hF := far6 wr S5 S5 (.int .i64 (atV k j2 j3 es V (n + 1)).st) (.slice Av1 V cv1) (.slice Ac1 V cc1) (.slice Ai1 V ci1) (.int .i64 (atV k j2 j3 es V (n + 1)).sm) (.int .i64 (atV k j2 j3 es V (n + 1)).mo) HSZ.out
         rw [hy9] at hF ⊢
         obtain ⟨F4, hY⟩ := hF
         have HF4 := hide F4
         have HY4 := hide hY
         clear hy9 F4 hY
         have HI9 : Hid (VIn y9 (atV k j2 j3 es V (n + 1)) Av1 Ac1 Ai1) := hide ⟨HF4.out.rd (HIZ.out).vals HN1.out.1 (by omega) (by omega), HF4.out.rd (HIZ.out).chg HN1.out.2.1 (by omega) (by omega), HF4.out.rd (HIZ.out).inb HN1.out.2.2 (by omega) (by omega)⟩
         have HB9 := hide (KZ.out.trans (HF4.out.below (by omega) (by omega)))
         go_roundw
         case rel => exact ⟨n + 1, Av1, Ac1, Ai1, cv1, cc1, ci1, by omega, by go_num, HY4, HI9, HB9⟩
         case measure => simp [intOf]; omega
   ·obtain rfl : n = 14 := by omega
    obtain ⟨N, hNe⟩ : ∃ q, runN k j1 j2 j3 j4 es V = q := ⟨_, rfl⟩
    rw [hNe] at HRU HR
    clear hNe
    have c0 : wr.cell? ⟨w.heap.size, 0, none⟩ = some (.int .i64 (V : Int)) := cell_of_row _ _ 0 _ _ _ ((HBr.out.block _ hu0).trans HU.out.2.2.1)
    have c1 : wr.cell? ⟨w.heap.size, 1, none⟩ = some (.slice A L c) := cell_of_row _ _ 1 _ _ _ ((HBr.out.block _ hu0).trans HU.out.2.2.1)
    have d0 : wr.cell? ⟨w.heap.size + 1, 0, none⟩ = some (.int .u8 k) := cell_of_row _ _ 0 _ _ _ ((HBr.out.block _ hu1).trans HU.out.2.2.2)
    have d1 : wr.cell? ⟨w.heap.size + 1, 1, none⟩ = some (.int .i64 j1) := cell_of_row _ _ 1 _ _ _ ((HBr.out.block _ hu1).trans HU.out.2.2.2)
    have d2 : wr.cell? ⟨w.heap.size + 1, 2, none⟩ = some (.int .i64 j2) := cell_of_row _ _ 2 _ _ _ ((HBr.out.block _ hu1).trans HU.out.2.2.2)
    have d3 : wr.cell? ⟨w.heap.size + 1, 3, none⟩ = some (.int .i64 j3) := cell_of_row _ _ 3 _ _ _ ((HBr.out.block _ hu1).trans HU.out.2.2.2)
    have d4 : wr.cell? ⟨w.heap.size + 1, 4, none⟩ = some (.int .i64 j4) := cell_of_row _ _ 4 _ _ _ ((HBr.out.block _ hu1).trans HU.out.2.2.2)
    have hz0 : w.heap.size < wr.heap.size := by have := HBr.out.size; omega
    have hz1 : w.heap.size + 1 < wr.heap.size := by have := HBr.out.size; omega
    go_wp2_with fail
    refine (HRU.out wr HBr.out).mono ?_
    intro e y hpost
    obtain ⟨Av3, Ac3, Ai3, cv3, cc3, ci3, he, hi3, hb, hnw3⟩ := hpost.good
    have HN3 := hide hnw3
    clear hnw3
    subst he
    have KY := hide (HBr.out.trans (hb.mono HBr.out.size))
    have hby := hide hb
    have syy : wr.heap.size ≤ y.heap.size := hb.size
    clear c0 c1 d0 d1 d2 d3 d4 hz0 hz1
    clear hpost hb
    go_upto_region 26 with fail
    obtain ⟨a3, ha⟩ : ∃ x, y.alloc (.cells #[.int .i64 (atV k j2 j3 es V N).st, .slice Av3 V cv3, .slice Ac3 V cc3, .slice Ai3 V ci3, .int .i64 (atV k j2 j3 es V N).sm, .int .i64 (atV k j2 j3 es V N).mo] 33) = x := ⟨_, rfl⟩
    have hAl : Below y.heap.size y a3 := by rw [← ha]; exact (Below.refl _ _).alloc (Nat.le_refl _) _
    have hSx : a3.heap[y.heap.size]? = some (.cells #[.int .i64 (atV k j2 j3 es V N).st, .slice Av3 V cv3, .slice Ac3 V cc3, .slice Ai3 V ci3, .int .i64 (atV k j2 j3 es V N).sm, .int .i64 (atV k j2 j3 es V N).mo] 33) := by rw [← ha]; exact heap_alloc_last _ _
    have sa3 : y.heap.size < a3.heap.size := by rw [← ha]; simp
    rw [ha]
    have HI3 := hide (hi3.next hAl)
    have KR := hide (KY.out.trans (hAl.mono KY.out.size))
    have HBA3 := hide (hby.out.trans (hAl.mono syy))
    obtain ⟨T14, hT⟩ : ∃ x, y.heap.size = x := ⟨_, rfl⟩
    rw [hT] at hSx sa3 syy ⊢
    have HS3 := hide hSx
    have sT3 := syy
    clear ha hAl hi3 KY syy hT hSx hby
    have y0 : a3.cell? ⟨T14, 0, none⟩ = some (.int .i64 (atV k j2 j3 es V N).st) := cell_of_row _ _ 0 _ _ _ HS3.out
    have y1 : a3.cell? ⟨T14, 1, none⟩ = some (.slice Av3 V cv3) := cell_of_row _ _ 1 _ _ _ HS3.out
    have y2 : a3.cell? ⟨T14, 2, none⟩ = some (.slice Ac3 V cc3) := cell_of_row _ _ 2 _ _ _ HS3.out
    have y3 : a3.cell? ⟨T14, 3, none⟩ = some (.slice Ai3 V ci3) := cell_of_row _ _ 3 _ _ _ HS3.out
    have y4 : a3.cell? ⟨T14, 4, none⟩ = some (.int .i64 (atV k j2 j3 es V N).sm) := cell_of_row _ _ 4 _ _ _ HS3.out
    have y5 : a3.cell? ⟨T14, 5, none⟩ = some (.int .i64 (atV k j2 j3 es V N).mo) := cell_of_row _ _ 5 _ _ _ HS3.out
    have c0 : a3.cell? ⟨w.heap.size, 0, none⟩ = some (.int .i64 (V : Int)) := cell_of_row _ _ 0 _ _ _ ((KR.out.block _ hu0).trans HU.out.2.2.1)
    have c1 : a3.cell? ⟨w.heap.size, 1, none⟩ = some (.slice A L c) := cell_of_row _ _ 1 _ _ _ ((KR.out.block _ hu0).trans HU.out.2.2.1)
    have d0 : a3.cell? ⟨w.heap.size + 1, 0, none⟩ = some (.int .u8 k) := cell_of_row _ _ 0 _ _ _ ((KR.out.block _ hu1).trans HU.out.2.2.2)
    have d1 : a3.cell? ⟨w.heap.size + 1, 1, none⟩ = some (.int .i64 j1) := cell_of_row _ _ 1 _ _ _ ((KR.out.block _ hu1).trans HU.out.2.2.2)
    have d2 : a3.cell? ⟨w.heap.size + 1, 2, none⟩ = some (.int .i64 j2) := cell_of_row _ _ 2 _ _ _ ((KR.out.block _ hu1).trans HU.out.2.2.2)
    have d3 : a3.cell? ⟨w.heap.size + 1, 3, none⟩ = some (.int .i64 j3) := cell_of_row _ _ 3 _ _ _ ((KR.out.block _ hu1).trans HU.out.2.2.2)
    have d4 : a3.cell? ⟨w.heap.size + 1, 4, none⟩ = some (.int .i64 j4) := cell_of_row _ _ 4 _ _ _ ((KR.out.block _ hu1).trans HU.out.2.2.2)
    have hz0 : w.heap.size < a3.heap.size := by have := KR.out.size; omega
    have hz1 : w.heap.size + 1 < a3.heap.size := by have := KR.out.size; omega
    have hT14 : T14 < a3.heap.size := by omega
    have hdc := done_any a3 k j1 j2 j3 j4 (atV k j2 j3 es V N).st (atV k j2 j3 es V N).mo
    rw [HR.out.1] at hdc
    have HDC := hide hdc
    clear hdc
    go_wp2_with fail
    refine HDC.out.mono ?_
    rintro e n3 ⟨rfl, hn3⟩
    have N3 := hide hn3
    have sn3 : a3.heap.size ≤ n3.heap.size := hn3.size
    clear hn3 y0 y1 y2 y3 y4 y5
    clear c0 c1 d0 d1 d2 d3 d4 hz0 hz1
    have KS := hide (KR.out.trans (N3.out.mono KR.out.size))
    have HT3 := hide ((N3.out.block T14 hT14).trans HS3.out)
    have y0 : n3.cell? ⟨T14, 0, none⟩ = some (.int .i64 (atV k j2 j3 es V N).st) := cell_of_row _ _ 0 _ _ _ HT3.out
    have y1 : n3.cell? ⟨T14, 1, none⟩ = some (.slice Av3 V cv3) := cell_of_row _ _ 1 _ _ _ HT3.out
    have y2 : n3.cell? ⟨T14, 2, none⟩ = some (.slice Ac3 V cc3) := cell_of_row _ _ 2 _ _ _ HT3.out
    have y3 : n3.cell? ⟨T14, 3, none⟩ = some (.slice Ai3 V ci3) := cell_of_row _ _ 3 _ _ _ HT3.out
    have y4 : n3.cell? ⟨T14, 4, none⟩ = some (.int .i64 (atV k j2 j3 es V N).sm) := cell_of_row _ _ 4 _ _ _ HT3.out
    have y5 : n3.cell? ⟨T14, 5, none⟩ = some (.int .i64 (atV k j2 j3 es V N).mo) := cell_of_row _ _ 5 _ _ _ HT3.out
    have c0 : n3.cell? ⟨w.heap.size, 0, none⟩ = some (.int .i64 (V : Int)) := cell_of_row _ _ 0 _ _ _ ((KS.out.block _ hu0).trans HU.out.2.2.1)
    have c1 : n3.cell? ⟨w.heap.size, 1, none⟩ = some (.slice A L c) := cell_of_row _ _ 1 _ _ _ ((KS.out.block _ hu0).trans HU.out.2.2.1)
    have d0 : n3.cell? ⟨w.heap.size + 1, 0, none⟩ = some (.int .u8 k) := cell_of_row _ _ 0 _ _ _ ((KS.out.block _ hu1).trans HU.out.2.2.2)
    have d1 : n3.cell? ⟨w.heap.size + 1, 1, none⟩ = some (.int .i64 j1) := cell_of_row _ _ 1 _ _ _ ((KS.out.block _ hu1).trans HU.out.2.2.2)
    have d2 : n3.cell? ⟨w.heap.size + 1, 2, none⟩ = some (.int .i64 j2) := cell_of_row _ _ 2 _ _ _ ((KS.out.block _ hu1).trans HU.out.2.2.2)
    have d3 : n3.cell? ⟨w.heap.size + 1, 3, none⟩ = some (.int .i64 j3) := cell_of_row _ _ 3 _ _ _ ((KS.out.block _ hu1).trans HU.out.2.2.2)
    have d4 : n3.cell? ⟨w.heap.size + 1, 4, none⟩ = some (.int .i64 j4) := cell_of_row _ _ 4 _ _ _ ((KS.out.block _ hu1).trans HU.out.2.2.2)
    have hz0 : w.heap.size < n3.heap.size := by have := KS.out.size; omega
    have hz1 : w.heap.size + 1 < n3.heap.size := by have := KS.out.size; omega
    have hT15 : T14 < n3.heap.size := by omega
    have hstN : (atV k j2 j3 es V N).st = (N : Int) := atV_st _ _ _ _ _ _
    have hNle := HR.out.2.1
    by_cases hs0 : (atV k j2 j3 es V N).st = 0
    ·have hsb : ((atV k j2 j3 es V N).st == 0) = true := by simpa using hs0
     clear hs0 hstN
     go_wp2_with fail
     refine (works_any _).mono ?_
     rintro e zz ⟨rfl, hzz⟩
     have HZ := hide (HU.out.1.trans ((KS.out.trans (hzz.mono KS.out.size)).mono (by omega)))
     clear hzz
     go_wp2
     go_ret
     exact ⟨rfl, HZ.out⟩
    ·have hsb : ((atV k j2 j3 es V N).st == 0) = false := by simpa using hs0
     have hsl : (atV k j2 j3 es V N).st ≤ j1 := by rw [hstN]; omega
     clear hs0 hstN
     go_wp2_with fail
     refine (works_any _).mono ?_
     rintro e zz ⟨rfl, hzz⟩
     have HZ := hide (HU.out.1.trans ((KS.out.trans (hzz.mono KS.out.size)).mono (by omega)))
     clear hzz
     go_wp2
     go_ret
     exact ⟨rfl, HZ.out⟩
end Go.Proofs.YtpgbjabifhjogaaGreat
