/- The walk of the statement PathsOne. (printed by gen/pon.py) -/
import Derived.Test.YtmlpcfeadacoeaaPrx
import Derived.Test.YtmlpcfeadacoeaaPwk
import Derived.Test.YtmlpcfeadacoeaaLgt
import Derived.Test.YtmlpcfeadacoeaaOed
namespace Go.Proofs.Ytmlpcfeadacoeaa
open Go.ChangeShapes Go.WideShapes Go.ChangeAt Go.RowKit
set_option linter.unusedVariables false
set_option linter.unusedSimpArgs false
theorem rd_own {w : World} {base : Nat} {e : TypeId} {g n c : Nat} {xs : List Value} (h : w.ownsRow base e 1 (.slice (some ⟨g, 0, none⟩) n c) n xs) : Rd w w.heap.size (some ⟨g, 0, none⟩) xs := Rd.of_own h
set_option maxRecDepth 100000 in
set_option maxHeartbeats 4000000 in
theorem pathsOne_walk (w : World) (V : Int) (A : Option Addr) (es : List Ed) (c : Nat) (hV1 : -9223372036854775808 ≤ V) (hV2 : V ≤ 9223372036854775807) (hE : Eds w w.heap.size A es) (hc1 : es.length ≤ c) (hc2 : c ≤ 9223372036854775807) (_ : ∀ e ∈ es, edB e) (s : Int) (hs1 : -9223372036854775808 ≤ s) (hs2 : s ≤ 9223372036854775807) (at' : Int) (ha1 : -9223372036854775808 ≤ at') (ha2 : at' ≤ 9223372036854775807) (x : Int) (hx1 : -9223372036854775808 ≤ x) (hx2 : x ≤ 9223372036854775807) :
    Calls Try.prog 6 #[.agg #[.int .i64 V, .slice A es.length c], .int .i64 s, .int .i64 at', .int .i64 x] w fun e w' => e = .returned (.bool true) ∧ Below w.heap.size w w' := by
  obtain ⟨L, hL⟩ : ∃ L, es.length = L := ⟨_, rfl⟩
  rw [hL] at hc1 ⊢
  obtain ⟨v, hv⟩ : ∃ v, w.alloc (.cells #[.int .i64 V, .slice A L c] 35) = v := ⟨_, rfl⟩
  have hz : v.heap.size = w.heap.size + 1 := by rw [← hv]; simp
  have hb : Below w.heap.size w v := by rw [← hv]; exact (Below.refl _ _).alloc (Nat.le_refl _) _
  have cg : v.heap[w.heap.size]? = some (.cells #[.int .i64 V, .slice A L c] 35) := by rw [← hv]; exact heap_alloc_last w _
  have cg0 : v.cell? ⟨w.heap.size, 0, none⟩ = some (.int .i64 V) := cell_of_row _ _ 0 _ _ _ cg
  have cg1 : v.cell? ⟨w.heap.size, 1, none⟩ = some (.slice A L c) := cell_of_row _ _ 1 _ _ _ cg
  have hlg : w.heap.size < v.heap.size := by omega
  have HE := hide hE
  have HV := hide hv
  have HB := hide hb
  have HL := hide hL
  have HZ := hide hz
  have CG0 := hide cg0
  have CG1 := hide cg1
  clear hv hb hz cg hE hL cg0 cg1
  by_cases hgo : L ≤ 100 ∧ V ≤ 12 ∧ checkF V es = 0 ∧ 0 ≤ s ∧ s < V
  · obtain ⟨g1, g2, g3, g4, g5⟩ := hgo
    have HC := hide g3
    obtain ⟨hV3, hV4, hok⟩ := checkF_zero g3
    have HT1 : Hid (tightF V es s (relaxedF V es s) = true) := hide ((tight_one V es s g3 g4 g5 _).2 rfl)
    have HT2 : Hid (∀ X, ¬ X = relaxedF V es s → tightF V es s X = false) := hide (fun X h => by
      rw [Bool.eq_false_iff]
      exact fun e => h ((tight_one V es s g3 g4 g5 X).1 e))
    have hw0 := within_of g3
    have HAL : Hid (all64 (relaxedF V es s)) := hide (relaxed_64 V es s hw0)
    have HLen : Hid ((relaxedF V es s).length = V.toNat) := hide (relaxed_len V es s)
    obtain ⟨M, rfl⟩ := Int.eq_ofNat_of_zero_le (show 0 ≤ V by omega)
    rw [Int.toNat_natCast] at HLen
    have hd : decide ((L : Int) ≤ 100) = true := decide_eq_true (by omega)
    have hpr := pick_rng at' (M : Int) (by omega)
    obtain ⟨t, ht⟩ := Int.eq_ofNat_of_zero_le hpr.1
    rw [ht] at hpr
    have htM : t < M := by omega
    have ht0 : (0 : Int) ≤ (t : Int) := by omega
    have ht1 : (t : Int) < (M : Int) := by omega
    have HTP := hide ht
    obtain ⟨l, hl⟩ : ∃ l, relaxedF (M : Int) es s = l := ⟨_, rfl⟩
    rw [hl] at HT1 HT2 HAL HLen
    have HLR := hide hl
    clear g3 hok hw0 hl ht hpr
    go_enter Try.func6, Try.ntmps6
    go_wp2_with fail
    rw [HV.out]
    refine (light_any _ (M : Int) A L c 100).mono ?_
    rintro e y1 ⟨rfl, k1⟩
    rw [hd]
    have K1 := hide (HB.out.trans (k1.mono (Nat.le_of_lt hlg)))
    have KV1 : Hid (Kept v y1) := hide (fun p hp => k1.cell hp)
    have hz1 : v.heap.size ≤ y1.heap.size := k1.size
    have a0 := (KV1.out ⟨w.heap.size, 0, none⟩ hlg).trans CG0.out
    have a1 := (KV1.out ⟨w.heap.size, 1, none⟩ hlg).trans CG1.out
    clear k1
    go_wp2_with fail
    refine (rcheck_any _ (M : Int) A es L c HL.out ((HE.out.below K1.out (Nat.le_refl _)).more (by omega)) (by omega)).mono ?_
    rintro e y2 ⟨rfl, k2⟩
    rw [HC.out]
    have K2 := hide (K1.out.trans (k2.mono (by omega)))
    have KV2 : Hid (Kept v y2) := hide (KV1.out.below hz1 k2)
    have hz2 : v.heap.size ≤ y2.heap.size := by have := k2.size; omega
    clear k2 a0 a1
    have a0 := (KV2.out ⟨w.heap.size, 0, none⟩ hlg).trans CG0.out
    have a1 := (KV2.out ⟨w.heap.size, 1, none⟩ hlg).trans CG1.out
    go_wp2_with fail
    refine (relaxed_any _ (M : Int) A es L c s HL.out ((HE.out.below K2.out (Nat.le_refl _)).more (by omega)) (by omega) HC.out).mono ?_
    rintro e y3 ⟨g, c', rfl, hown, k3⟩
    rw [Int.toNat_natCast, HLR.out] at hown
    rw [Int.toNat_natCast]
    have hgl := hown.lt g rfl
    have K3 := hide (K2.out.trans (k3.mono (by omega)))
    have KV3 : Hid (Kept v y3) := hide (KV2.out.below hz2 k3)
    have hz3 : v.heap.size ≤ y3.heap.size := by have := k3.size; omega
    have HO := hide hown
    clear k3 a0 a1 hown
    have a0 := (KV3.out ⟨w.heap.size, 0, none⟩ hlg).trans CG0.out
    have a1 := (KV3.out ⟨w.heap.size, 1, none⟩ hlg).trans CG1.out
    go_wp2_with fail
    refine (tight_any _ (M : Int) A (some ⟨g, 0, none⟩) es l L c M c' s HL.out ((HE.out.below K3.out (Nat.le_refl _)).more (by omega)) (by omega) HLen.out (rd_own HO.out) HAL.out).mono ?_
    rintro e y4 ⟨rfl, k4⟩
    rw [HT1.out]
    have HO4 := hide (own_below_g HO.out k4 hgl.2)
    have K4 := hide (K3.out.trans (k4.mono (by omega)))
    have KV4 : Hid (Kept v y4) := hide (KV3.out.below hz3 k4)
    have hz4 : v.heap.size ≤ y4.heap.size := by have := k4.size; omega
    have hg4 : g < y4.heap.size := by have := k4.size; omega
    clear k4 a0 a1
    have a0 := (KV4.out ⟨w.heap.size, 0, none⟩ hlg).trans CG0.out
    have a1 := (KV4.out ⟨w.heap.size, 1, none⟩ hlg).trans CG1.out
    go_wp2_with fail
    refine (pick_any _ at' (M : Int) ha1 ha2 (by omega) (by omega)).mono ?_
    rintro e y5 ⟨rfl, rfl⟩
    rw [HTP.out]
    have ct := own_int HO4.out (j := t) (by have := HLen.out; omega)
    have cf := HO4.out.frozenAt t
    by_cases hlx : at_ l (t : Int) = x
    · rw [hlx] at ct
      clear a0 a1
      go_wp2_with fail
      refine (works_any _).mono ?_
      rintro e y6 ⟨rfl, k6⟩
      have K6 := hide (K4.out.trans (k6.mono (by have := K4.out.size; omega)))
      clear k6
      go_wp2
      go_ret
      exact ⟨rfl, K6.out⟩
    · have hset := (HO4.out.stored t (.int .i64 x)).1
      rw [← List.map_set] at hset
      have HT3 : Hid (tightF (M : Int) es s (l.set t x) = false) := hide (HT2.out _ (fun e => hlx (by
        rw [← e, at_nat, List.getElem?_set, if_pos rfl, if_pos (by have := HLen.out; omega)]; rfl)))
      have HAL2 : Hid (all64 (l.set t x)) := hide (fun z hz => by
        rcases List.mem_or_eq_of_mem_set hz with h | rfl
        · exact HAL.out z h
        · exact ⟨hx1, hx2⟩)
      have HLen2 : Hid ((l.set t x).length = M) := hide (by rw [List.length_set]; exact HLen.out)
      have hk5 : Below v.heap.size v (y5.setCell ⟨g, t, none⟩ (.int .i64 x)) ∨ True := .inr trivial
      have KV5 : Hid (Kept v (y5.setCell ⟨g, t, none⟩ (.int .i64 x))) := hide (fun p hp => (World.cell?_setCell_far y5 ⟨g, t, none⟩ p _ (by first | (show p.block ≠ g; omega) | (show g ≠ p.block; omega))).trans (KV4.out p hp))
      have K5 := hide (K4.out.setCell (p := ⟨g, t, none⟩) (by show _ ≤ g; omega) (.int .i64 x))
      have HO5 := hide hset
      have hz5 : v.heap.size ≤ (y5.setCell ⟨g, t, none⟩ (.int .i64 x)).heap.size := by rw [World.size_setCell]; exact hz4
      have hE5 := hide ((HE.out.below K5.out (Nat.le_refl _)).more (by omega : w.heap.size ≤ (y5.setCell ⟨g, t, none⟩ (.int .i64 x)).heap.size))
      obtain ⟨X, hX⟩ : ∃ X, at_ l (t : Int) = X := ⟨_, rfl⟩
      rw [hX] at ct hlx
      clear a0 a1 hX hset
      obtain ⟨u, hu⟩ : ∃ u, y5.setCell ⟨g, t, none⟩ (.int .i64 x) = u := ⟨_, rfl⟩
      rw [hu] at KV5 K5 HO5 hz5 hE5
      have a0 := (KV5.out ⟨w.heap.size, 0, none⟩ hlg).trans CG0.out
      have a1 := (KV5.out ⟨w.heap.size, 1, none⟩ hlg).trans CG1.out
      have HU := hide hu
      have nx : (X == x) = false := by simp only [beq_eq_false_iff_ne, ne_eq]; exact hlx
      have c0' := (KV4.out ⟨w.heap.size, 0, none⟩ hlg).trans CG0.out
      have c1' := (KV4.out ⟨w.heap.size, 1, none⟩ hlg).trans CG1.out
      have hne1 : g ≠ w.heap.size := by omega
      have hne2 : w.heap.size ≠ g := by omega
      clear hu hlx
      go_wp2_with fail
      rw [HU.out]
      refine (tight_any _ (M : Int) A (some ⟨g, 0, none⟩) es (l.set t x) L c M c' s HL.out hE5.out (by omega) HLen2.out (rd_own HO5.out) HAL2.out).mono ?_
      rintro e y6 ⟨rfl, k6⟩
      rw [HT3.out]
      have K6 := hide (K5.out.trans (k6.mono (by omega)))
      clear k6 a0 a1 c0' c1'
      go_wp2_with fail
      refine (works_any _).mono ?_
      rintro e y7 ⟨rfl, k7⟩
      have K7 := hide (K6.out.trans (k7.mono (by have := K6.out.size; omega)))
      clear k7
      go_wp2
      go_ret
      exact ⟨rfl, K7.out⟩
  · by_cases h1 : L ≤ 100
    · have hd : decide ((L : Int) ≤ 100) = true := decide_eq_true (by omega)
      by_cases h2 : V ≤ 12
      · have h2' : ¬ 12 < V := by omega
        by_cases h3 : checkF V es = 0
        · obtain ⟨hV3, hV4, _⟩ := checkF_zero h3
          have HC := hide h3
          by_cases h4 : s < 0
          · clear hgo h3
            go_enter Try.func6, Try.ntmps6
            go_wp2_with fail
            rw [HV.out]
            refine (light_any _ V A L c 100).mono ?_
            rintro e y1 ⟨rfl, k1⟩
            rw [hd]
            have K1 := hide (HB.out.trans (k1.mono (Nat.le_of_lt hlg)))
            have KV1 : Hid (Kept v y1) := hide (fun p hp => k1.cell hp)
            have hz1 : v.heap.size ≤ y1.heap.size := k1.size
            have a0 := (KV1.out ⟨w.heap.size, 0, none⟩ hlg).trans CG0.out
            have a1 := (KV1.out ⟨w.heap.size, 1, none⟩ hlg).trans CG1.out
            clear k1
            go_wp2_with fail
            refine (rcheck_any _ V A es L c HL.out ((HE.out.below K1.out (Nat.le_refl _)).more (by omega)) (by omega)).mono ?_
            rintro e y2 ⟨rfl, k2⟩
            rw [HC.out]
            have K2 := hide (K1.out.trans (k2.mono (by omega)))
            have KV2 : Hid (Kept v y2) := hide (KV1.out.below hz1 k2)
            clear k2 a0 a1
            have a0 := (KV2.out ⟨w.heap.size, 0, none⟩ hlg).trans CG0.out
            have a1 := (KV2.out ⟨w.heap.size, 1, none⟩ hlg).trans CG1.out
            go_wp2_with fail
            refine (works_any _).mono ?_
            rintro e y6 ⟨rfl, k6⟩
            have K6 := hide (K2.out.trans (k6.mono K2.out.size))
            clear k6
            go_wp2
            go_ret
            exact ⟨rfl, K6.out⟩
          · have h5 : V ≤ s := by
              rcases Int.lt_or_le s V with h | h
              · exact absurd ⟨h1, h2, h3, by omega, h⟩ hgo
              · exact h
            clear hgo h3
            go_enter Try.func6, Try.ntmps6
            go_wp2_with fail
            rw [HV.out]
            refine (light_any _ V A L c 100).mono ?_
            rintro e y1 ⟨rfl, k1⟩
            rw [hd]
            have K1 := hide (HB.out.trans (k1.mono (Nat.le_of_lt hlg)))
            have KV1 : Hid (Kept v y1) := hide (fun p hp => k1.cell hp)
            have hz1 : v.heap.size ≤ y1.heap.size := k1.size
            have a0 := (KV1.out ⟨w.heap.size, 0, none⟩ hlg).trans CG0.out
            have a1 := (KV1.out ⟨w.heap.size, 1, none⟩ hlg).trans CG1.out
            clear k1
            go_wp2_with fail
            refine (rcheck_any _ V A es L c HL.out ((HE.out.below K1.out (Nat.le_refl _)).more (by omega)) (by omega)).mono ?_
            rintro e y2 ⟨rfl, k2⟩
            rw [HC.out]
            have K2 := hide (K1.out.trans (k2.mono (by omega)))
            have KV2 : Hid (Kept v y2) := hide (KV1.out.below hz1 k2)
            clear k2 a0 a1
            have a0 := (KV2.out ⟨w.heap.size, 0, none⟩ hlg).trans CG0.out
            have a1 := (KV2.out ⟨w.heap.size, 1, none⟩ hlg).trans CG1.out
            go_wp2_with fail
            refine (works_any _).mono ?_
            rintro e y6 ⟨rfl, k6⟩
            have K6 := hide (K2.out.trans (k6.mono K2.out.size))
            clear k6
            go_wp2
            go_ret
            exact ⟨rfl, K6.out⟩
        · obtain ⟨z, hz⟩ : ∃ z, checkF V es = z := ⟨_, rfl⟩
          rw [hz] at h3
          have HC := hide hz
          clear hgo hz
          go_enter Try.func6, Try.ntmps6
          go_wp2_with fail
          rw [HV.out]
          refine (light_any _ V A L c 100).mono ?_
          rintro e y1 ⟨rfl, k1⟩
          rw [hd]
          have K1 := hide (HB.out.trans (k1.mono (Nat.le_of_lt hlg)))
          have KV1 : Hid (Kept v y1) := hide (fun p hp => k1.cell hp)
          have hz1 : v.heap.size ≤ y1.heap.size := k1.size
          have a0 := (KV1.out ⟨w.heap.size, 0, none⟩ hlg).trans CG0.out
          have a1 := (KV1.out ⟨w.heap.size, 1, none⟩ hlg).trans CG1.out
          clear k1
          go_wp2_with fail
          refine (rcheck_any _ V A es L c HL.out ((HE.out.below K1.out (Nat.le_refl _)).more (by omega)) (by omega)).mono ?_
          rintro e y2 ⟨rfl, k2⟩
          rw [HC.out]
          have K2 := hide (K1.out.trans (k2.mono (by omega)))
          have KV2 : Hid (Kept v y2) := hide (KV1.out.below hz1 k2)
          clear k2 a0 a1
          have a0 := (KV2.out ⟨w.heap.size, 0, none⟩ hlg).trans CG0.out
          have a1 := (KV2.out ⟨w.heap.size, 1, none⟩ hlg).trans CG1.out
          go_wp2_with fail
          refine (works_any _).mono ?_
          rintro e y6 ⟨rfl, k6⟩
          have K6 := hide (K2.out.trans (k6.mono K2.out.size))
          clear k6
          go_wp2
          go_ret
          exact ⟨rfl, K6.out⟩
      · have h2' : 12 < V := by omega
        clear hgo
        go_enter Try.func6, Try.ntmps6
        go_wp2_with fail
        rw [HV.out]
        refine (light_any _ V A L c 100).mono ?_
        rintro e y1 ⟨rfl, k1⟩
        rw [hd]
        have K1 := hide (HB.out.trans (k1.mono (Nat.le_of_lt hlg)))
        have KV1 : Hid (Kept v y1) := hide (fun p hp => k1.cell hp)
        have hz1 : v.heap.size ≤ y1.heap.size := k1.size
        have a0 := (KV1.out ⟨w.heap.size, 0, none⟩ hlg).trans CG0.out
        have a1 := (KV1.out ⟨w.heap.size, 1, none⟩ hlg).trans CG1.out
        clear k1
        go_wp2_with fail
        refine (works_any _).mono ?_
        rintro e y6 ⟨rfl, k6⟩
        have K6 := hide (K1.out.trans (k6.mono K1.out.size))
        clear k6
        go_wp2
        go_ret
        exact ⟨rfl, K6.out⟩
    · have hd : decide ((L : Int) ≤ 100) = false := decide_eq_false (by omega)
      clear hgo
      go_enter Try.func6, Try.ntmps6
      go_wp2_with fail
      rw [HV.out]
      refine (light_any _ V A L c 100).mono ?_
      rintro e y1 ⟨rfl, k1⟩
      rw [hd]
      have K1 := hide (HB.out.trans (k1.mono (Nat.le_of_lt hlg)))
      have KV1 : Hid (Kept v y1) := hide (fun p hp => k1.cell hp)
      have hz1 : v.heap.size ≤ y1.heap.size := k1.size
      have a0 := (KV1.out ⟨w.heap.size, 0, none⟩ hlg).trans CG0.out
      have a1 := (KV1.out ⟨w.heap.size, 1, none⟩ hlg).trans CG1.out
      clear k1
      go_wp2_with fail
      refine (works_any _).mono ?_
      rintro e y6 ⟨rfl, k6⟩
      have K6 := hide (K1.out.trans (k6.mono K1.out.size))
      clear k6
      go_wp2
      go_ret
      exact ⟨rfl, K6.out⟩
end Go.Proofs.Ytmlpcfeadacoeaa
