/- The walk of the statement PathsTight. (printed by gen/plk.py) -/
import Derived.Test.YtmlpcfeadacoeaaPtr
import Derived.Test.YtmlpcfeadacoeaaPwk
import Derived.Test.YtmlpcfeadacoeaaSam
import Derived.Test.YtmlpcfeadacoeaaLgt
import Derived.Test.YtmlpcfeadacoeaaOed
namespace Go.Proofs.Ytmlpcfeadacoeaa
open Go.ChangeShapes Go.WideShapes Go.ChangeAt Go.RowKit
set_option linter.unusedVariables false
set_option linter.unusedSimpArgs false
set_option maxRecDepth 100000 in
set_option maxHeartbeats 4000000 in
theorem pathsTight_walk (w : World) (V : Int) (A : Option Addr) (es : List Ed) (c : Nat) (_ : -9223372036854775808 ≤ V) (_ : V ≤ 9223372036854775807) (hE : Eds w w.heap.size A es) (hc1 : es.length ≤ c) (hc2 : c ≤ 9223372036854775807) (_ : ∀ e ∈ es, edB e) (s : Int) (hs1 : -9223372036854775808 ≤ s) (hs2 : s ≤ 9223372036854775807) (A2 : Option Addr) (vals : List Int) (c2 : Nat) (hR : Rd w w.heap.size A2 (vals.map (Value.int .i64))) (hvb : ∀ x ∈ vals, (Lit.int .i64 x).wf = true) :
    Calls Try.prog 5 #[.agg #[.int .i64 V, .slice A es.length c], .int .i64 s, .slice A2 vals.length c2] w fun e w' => e = .returned (.bool true) ∧ Below w.heap.size w w' := by
  obtain ⟨L, hL⟩ : ∃ L, es.length = L := ⟨_, rfl⟩
  obtain ⟨M, hM⟩ : ∃ M, vals.length = M := ⟨_, rfl⟩
  rw [hL] at hc1 ⊢
  rw [hM]
  obtain ⟨v, hv⟩ : ∃ v, w.alloc (.cells #[.int .i64 V, .slice A L c] 35) = v := ⟨_, rfl⟩
  have hz : v.heap.size = w.heap.size + 1 := by rw [← hv]; simp
  have hb : Below w.heap.size w v := by rw [← hv]; exact (Below.refl _ _).alloc (Nat.le_refl _) _
  have cg : v.heap[w.heap.size]? = some (.cells #[.int .i64 V, .slice A L c] 35) := by rw [← hv]; exact heap_alloc_last w _
  have cg0 : v.cell? ⟨w.heap.size, 0, none⟩ = some (.int .i64 V) := cell_of_row _ _ 0 _ _ _ cg
  have cg1 : v.cell? ⟨w.heap.size, 1, none⟩ = some (.slice A L c) := cell_of_row _ _ 1 _ _ _ cg
  have hlg : w.heap.size < v.heap.size := by omega
  have hvb' : ∀ x ∈ vals, -9223372036854775808 ≤ x ∧ x ≤ 9223372036854775807 := fun x hx => bounds_i64 (hvb x hx)
  have HE := hide hE
  have HR := hide hR
  have HV := hide hv
  have HB := hide hb
  have HL := hide hL
  have HM := hide hM
  have HZ := hide hz
  have HVB := hide hvb'
  clear hv hb hz cg hE hL hR hM hvb hvb'
  by_cases hbig : 300 < L ∨ 600 < M
  · by_cases hL3 : L ≤ 300
    · have hM6 : (600 : Int) < (M : Int) := by omega
      have hd : decide ((L : Int) ≤ 300) = true := decide_eq_true (by omega)
      clear hbig
      go_enter Try.func5, Try.ntmps5
      go_wp2_with fail
      rw [HV.out]
      refine (light_any _ V A L c 300).mono ?_
      rintro e y1 ⟨rfl, k1⟩
      rw [hd]
      go_wp2_with fail
      refine (works_any _).mono ?_
      rintro e y2 ⟨rfl, k2⟩
      have k3 := HB.out.trans ((k1.trans (k2.mono k1.size)).mono HB.out.size)
      clear k1 k2
      go_wp2
      go_ret
      exact ⟨rfl, k3⟩
    · have hd : decide ((L : Int) ≤ 300) = false := decide_eq_false (by omega)
      clear hbig
      go_enter Try.func5, Try.ntmps5
      go_wp2_with fail
      rw [HV.out]
      refine (light_any _ V A L c 300).mono ?_
      rintro e y1 ⟨rfl, k1⟩
      rw [hd]
      go_wp2_with fail
      refine (works_any _).mono ?_
      rintro e y2 ⟨rfl, k2⟩
      have k3 := HB.out.trans ((k1.trans (k2.mono k1.size)).mono HB.out.size)
      clear k1 k2
      go_wp2
      go_ret
      exact ⟨rfl, k3⟩
  · have hM6 : ¬ (600 : Int) < (M : Int) := by omega
    have hd : decide ((L : Int) ≤ 300) = true := decide_eq_true (by omega)
    have hMl : M ≤ 600 := by omega
    obtain ⟨i0, hi0, hz0, hz1, hz2⟩ := info_parts (show (Try.prog.info? 2).map (fun i => (i.zero, i.size, i.bytes)) = some (some (.int .i64 0), 1, 8) by kernel_rfl)
    clear hbig
    go_enter Try.func5, Try.ntmps5
    go_wp2_with fail
    rw [HV.out]
    refine (light_any _ V A L c 300).mono ?_
    rintro e y1 ⟨rfl, k1⟩
    rw [hd]
    obtain ⟨q, hq⟩ : ∃ q, y1.heap.size = q := ⟨_, rfl⟩
    have K1 := hide (HB.out.trans (k1.mono (Nat.le_of_lt hlg)))
    have KV1 : Hid (Kept v y1) := hide (fun p hp => k1.cell hp)
    have hsz1 : v.heap.size ≤ y1.heap.size := k1.size
    have RY := hide (HR.out.below K1.out)
    clear k1 hq
    go_wp2_with (at_builtin; refine wpList_app rfl (.tmp 17) (.tmp 18) 36 rfl y1.heap.size 2 i0 (.int .i64 0) 1 8 Try.underlying36 hi0 hz0 hz1 hz2 rfl (by decide) (.slice none 0 0) 0 [] rfl (World.ownsRow_nil _ _ _ _) w.heap.size A2 M c2 (vals.map (Value.int .i64)) rfl (by rw [List.length_map, HM.out]; omega) RY.out (by intro u hu; obtain ⟨z, _, rfl⟩ := List.mem_map.1 hu; rfl) (by unfold maxLen; omega) (by omega) (Nat.le_refl _) ?_; intro A' c' w2 hown hgrow hblk)
    have hown' := hide hown
    have hg2 : Below y1.heap.size y1 w2 := (Below.refl _ y1).grown hgrow (Nat.le_refl _) (fun k e => by cases e)
    rw [Nat.zero_add] at hown'
    rw [List.nil_append] at hown'
    have RO := hide (Rd.of_own hown'.out)
    have R2 := hide (HR.out.below (K1.out.trans (hg2.mono (by have := K1.out.size; omega))))
    have KV2 : Hid (Kept v w2) := hide (KV1.out.below hsz1 hg2)
    have K2 := hide (K1.out.trans (hg2.mono K1.out.size))
    have HE2 := hide (HE.out.below K2.out (Nat.le_refl _))
    have HE3 : Hid (Eds w2.drew w2.drew.heap.size A es) := hide (HE2.out.more (by have := K2.out.drew.size; omega))
    have R3 : Hid (Rd w2.drew w2.drew.heap.size A2 (vals.map (Value.int .i64))) := hide (R2.out.more (by have := K2.out.drew.size; omega))
    have hsz2 : v.heap.size ≤ w2.heap.size := by have := hg2.size; omega
    have hk20 := K2.out.size
    clear hown hgrow hblk hg2 hsz1
    have v0 : w2.cell? ⟨w.heap.size, 0, none⟩ = some (.int .i64 V) := (KV2.out ⟨w.heap.size, 0, none⟩ hlg).trans cg0
    have v1 : w2.cell? ⟨w.heap.size, 1, none⟩ = some (.slice A L c) := (KV2.out ⟨w.heap.size, 1, none⟩ hlg).trans cg1
    have hlg2 : w.heap.size < w2.heap.size := by omega
    obtain ⟨T, hT⟩ : ∃ T, tightF V es s vals = T := ⟨_, rfl⟩
    have HT1 := hide hT
    have HT2 : Hid (rtightF V es s vals = T) := hide (by rw [← tight_eq]; exact hT)
    clear hT
    go_wp2
    clear cg0 cg1
    refine wp_region_held_drew (S := Kept w2) (by kernel_rfl) (Kept.drew w2) (fun hS0 => ?_)
    refine take_at (i := 0) (d := 20) (v := ?_) (by simp only [List.getElem?_toArray, List.getElem?_cons_succ, List.getElem?_cons_zero]; rfl) rfl (by kernel_rfl) (by kernel_rfl) (by kernel_rfl) (fun _ _ _ h => h) rfl ?_ (by assumption) ?_
    rotate_left
    focus (intro w hSw; go_simp; (try with_reducible rfl); done)
    try simp only [List.setIfInBounds_toArray, List.set_cons_zero, List.set_cons_succ]
    refine take_at (i := 1) (d := 21) (v := ?_) (by simp only [List.getElem?_toArray, List.getElem?_cons_succ, List.getElem?_cons_zero]; rfl) rfl (by kernel_rfl) (by kernel_rfl) (by kernel_rfl) (fun _ _ _ h => h) rfl ?_ (by assumption) ?_
    rotate_left
    focus (intro w hSw; go_simp; (try with_reducible rfl); done)
    try simp only [List.setIfInBounds_toArray, List.set_cons_zero, List.set_cons_succ]
    refine take_at (i := 2) (d := 22) (v := ?_) (by simp only [List.getElem?_toArray, List.getElem?_cons_succ, List.getElem?_cons_zero]; rfl) rfl (by kernel_rfl) (by kernel_rfl) (by kernel_rfl) (fun _ _ _ h => h) rfl ?_ (by assumption) ?_
    rotate_left
    focus (intro w hSw; go_simp; (try with_reducible rfl); done)
    try simp only [List.setIfInBounds_toArray, List.set_cons_zero, List.set_cons_succ]
    refine take_at (i := 4) (d := 24) (v := ?_) (by simp only [List.getElem?_toArray, List.getElem?_cons_succ, List.getElem?_cons_zero]; rfl) rfl (by kernel_rfl) (by kernel_rfl) (by kernel_rfl) (fun _ _ _ h => h) rfl ?_ (by assumption) ?_
    rotate_left
    focus (intro w hSw; go_simp; (try with_reducible rfl); done)
    try simp only [List.setIfInBounds_toArray, List.set_cons_zero, List.set_cons_succ]
    refine take_at (i := 5) (d := 25) (v := ?_) (by simp only [List.getElem?_toArray, List.getElem?_cons_succ, List.getElem?_cons_zero]; rfl) rfl (by kernel_rfl) (by kernel_rfl) (by kernel_rfl) (fun _ _ _ h => h) rfl ?_ (by assumption) ?_
    rotate_left
    focus (intro w hSw; go_simp; (try with_reducible rfl); done)
    try simp only [List.setIfInBounds_toArray, List.set_cons_zero, List.set_cons_succ]
    refine take_at (i := 6) (d := 26) (v := ?_) (by simp only [List.getElem?_toArray, List.getElem?_cons_succ, List.getElem?_cons_zero]; rfl) rfl (by kernel_rfl) (by kernel_rfl) (by kernel_rfl) (fun _ _ _ h => h) rfl ?_ (by assumption) ?_
    rotate_left
    focus (intro w hSw; go_simp; (try with_reducible rfl); done)
    try simp only [List.setIfInBounds_toArray, List.set_cons_zero, List.set_cons_succ]
    refine call_at (i := 3) (d := 23) (by simp only [List.getElem?_toArray, List.getElem?_cons_succ, List.getElem?_cons_zero]; rfl) rfl (by kernel_rfl) rfl (fun K hK => ?_)
    go_simp
    refine (tight_any _ V A A2 es vals L c M c2 s HL.out HE3.out (by omega) HM.out R3.out HVB.out).mono ?_
    rintro e z1 ⟨rfl, b1⟩
    rw [HT1.out]
    have hS1 : Kept w2 z1 := hS0.below (by simp) b1
    have K2_ := hide ((Below.refl w2.heap.size w2).drew.trans b1)
    have K3 := K2_
    clear b1
    go_wp2_with fail
    refine hK.out _ _ hS1 (fun hSn => ?_)
    clear hK K
    try simp only [List.setIfInBounds_toArray, List.set_cons_zero, List.set_cons_succ]
    refine call_at (i := 7) (d := 27) (by simp only [List.getElem?_toArray, List.getElem?_cons_succ, List.getElem?_cons_zero]; rfl) rfl (by kernel_rfl) rfl (fun K hK => ?_)
    go_simp
    refine (rtight_any _ V A A2 es vals L c M c2 s HL.out ((HE2.out.below K3.out (by omega)).more (by have := K3.out.size; omega)) (by omega) HM.out ((R2.out.below' K3.out (by omega)).more (by have := K3.out.size; omega)) HVB.out).mono ?_
    rintro e z2 ⟨rfl, b2⟩
    rw [HT2.out]
    have hS2 : Kept w2 z2 := hS1.below (by have := K3.out.size; omega) b2
    have K4 := hide (K3.out.trans (b2.mono K3.out.size))
    clear b2
    go_wp2_with fail
    refine hK.out _ _ hS2 (fun hSn => ?_)
    clear hK K
    try simp only [List.setIfInBounds_toArray, List.set_cons_zero, List.set_cons_succ]
    refine take_at (i := 8) (d := 28) (v := ?_) (by simp only [List.getElem?_toArray, List.getElem?_cons_succ, List.getElem?_cons_zero]; rfl) rfl (by kernel_rfl) (by kernel_rfl) (by kernel_rfl) (fun _ _ _ h => h) rfl ?_ (by assumption) ?_
    rotate_left
    focus (intro w hSw; go_simp; (try with_reducible rfl); done)
    try simp only [List.setIfInBounds_toArray, List.set_cons_zero, List.set_cons_succ]
    refine take_at (i := 9) (d := 29) (v := ?_) (by simp only [List.getElem?_toArray, List.getElem?_cons_succ, List.getElem?_cons_zero]; rfl) rfl (by kernel_rfl) (by kernel_rfl) (by kernel_rfl) (fun _ _ _ h => h) rfl ?_ (by assumption) ?_
    rotate_left
    focus (intro w hSw; go_simp; (try with_reducible rfl); done)
    try simp only [List.setIfInBounds_toArray, List.set_cons_zero, List.set_cons_succ]
    refine take_at (i := 10) (d := 30) (v := ?_) (by simp only [List.getElem?_toArray, List.getElem?_cons_succ, List.getElem?_cons_zero]; rfl) rfl (by kernel_rfl) (by kernel_rfl) (by kernel_rfl) (fun _ _ _ h => h) rfl ?_ (by assumption) ?_
    rotate_left
    focus (intro w hSw; go_simp; (try with_reducible rfl); done)
    try simp only [List.setIfInBounds_toArray, List.set_cons_zero, List.set_cons_succ]
    refine take_at (i := 11) (d := 31) (v := ?_) (by simp only [List.getElem?_toArray, List.getElem?_cons_succ, List.getElem?_cons_zero]; rfl) rfl (by kernel_rfl) (by kernel_rfl) (by kernel_rfl) (fun _ _ _ h => h) rfl ?_ (by assumption) ?_
    rotate_left
    focus (intro w hSw; go_simp; (try with_reducible rfl); done)
    try simp only [List.setIfInBounds_toArray, List.set_cons_zero, List.set_cons_succ]
    refine call_at (i := 12) (d := 32) (by simp only [List.getElem?_toArray, List.getElem?_cons_succ, List.getElem?_cons_zero]; rfl) rfl (by kernel_rfl) rfl (fun K hK => ?_)
    go_simp
    refine (same64_any _ A' A2 vals vals M M c' c2 HM.out HM.out (by omega) ((RO.out.below K4.out).more K4.out.size) ((R2.out.below' K4.out (by omega)).more (by have := K4.out.size; omega))).mono ?_
    rintro e z3 ⟨rfl, b3⟩
    rw [eqL_self]
    have hS3 : Kept w2 z3 := hS2.below (by have := K4.out.size; omega) b3
    have K5 := hide (K4.out.trans (b3.mono K4.out.size))
    clear b3
    go_wp2_with fail
    refine hK.out _ _ hS3 (fun hSn => ?_)
    clear hK K
    try simp only [List.setIfInBounds_toArray, List.set_cons_zero, List.set_cons_succ]
    refine take_at (i := 13) (d := 33) (v := ?_) (by simp only [List.getElem?_toArray, List.getElem?_cons_succ, List.getElem?_cons_zero]; rfl) rfl (by kernel_rfl) (by kernel_rfl) (by kernel_rfl) (fun _ _ _ h => h) rfl ?_ (by assumption) ?_
    rotate_left
    focus (intro w hSw; go_simp; (try with_reducible rfl); done)
    try simp only [List.setIfInBounds_toArray, List.set_cons_zero, List.set_cons_succ]
    refine take_at (i := 14) (d := 34) (v := ?_) (by simp only [List.getElem?_toArray, List.getElem?_cons_succ, List.getElem?_cons_zero]; rfl) rfl (by kernel_rfl) (by kernel_rfl) (by kernel_rfl) (fun _ _ _ h => h) rfl ?_ (by assumption) ?_
    rotate_left
    focus (intro w hSw; go_simp; (try with_reducible rfl); done)
    try simp only [List.setIfInBounds_toArray, List.set_cons_zero, List.set_cons_succ]
    refine call_at (i := 15) (d := 35) (by simp only [List.getElem?_toArray, List.getElem?_cons_succ, List.getElem?_cons_zero]; rfl) rfl (by kernel_rfl) rfl (fun K hK => ?_)
    go_simp
    refine (works_any _).mono ?_
    rintro e z4 ⟨rfl, b4⟩
    have hS4 : Kept w2 z4 := hS3.below (by have := K5.out.size; omega) b4
    have K6 := hide (K5.out.trans (b4.mono K5.out.size))
    clear b4
    go_wp2_with fail
    refine hK.out _ _ hS4 (fun hSn => ?_)
    clear hK K
    try simp only [List.setIfInBounds_toArray, List.set_cons_zero, List.set_cons_succ]
    refine take_at (i := 16) (d := 36) (v := ?_) (by simp only [List.getElem?_toArray, List.getElem?_cons_succ, List.getElem?_cons_zero]; rfl) rfl (by kernel_rfl) (by kernel_rfl) (by kernel_rfl) (fun _ _ _ h => h) rfl ?_ (by assumption) ?_
    rotate_left
    focus (intro w hSw; go_simp; (try with_reducible rfl); done)
    try simp only [List.setIfInBounds_toArray, List.set_cons_zero, List.set_cons_succ]
    refine take_at (i := 17) (d := 6) (v := ?_) (by simp only [List.getElem?_toArray, List.getElem?_cons_succ, List.getElem?_cons_zero]; rfl) rfl (by kernel_rfl) (by kernel_rfl) (by kernel_rfl) (fun _ _ _ h => h) rfl ?_ (by assumption) ?_
    rotate_left
    focus (intro w hSw; go_simp; (try with_reducible rfl); done)
    try simp only [List.setIfInBounds_toArray, List.set_cons_zero, List.set_cons_succ]
    refine wpAnyH_done (by kernel_rfl) ?_ _
    have KL := hide (K2.out.trans (K6.out.mono hk20))
    clear hS0 hS1 hS2 hS3 hS4 hSn
    go_wp2
    go_ret
    exact ⟨rfl, KL.out⟩
end Go.Proofs.Ytmlpcfeadacoeaa
