/- The document's Tight. (printed by gen/ptr.py) -/
import Derived.Test.YtmlpcfeadacoeaaPtp
import Derived.Test.YtmlpcfeadacoeaaPrf
namespace Go.Proofs.Ytmlpcfeadacoeaa
open Go.RowKit
set_option linter.unusedVariables false
set_option linter.unusedSimpArgs false

theorem viol_step {vals : List Int} {es : List Ed} {i : Nat} {e : Ed} (he : es[i]? = some e) : viol vals (es.drop i) = (decide (dadd (at_ vals e.1) e.2.2 < at_ vals e.2.1) || viol vals (es.drop (i + 1))) := by
  obtain ⟨hi, rfl⟩ := List.getElem?_eq_some_iff.1 he
  rw [List.drop_eq_getElem_cons hi]; rfl
theorem viol_end (vals : List Int) (es : List Ed) : viol vals (es.drop es.length) = false := by rw [List.drop_length]; rfl
theorem fold_step {vals : List Int} {es : List Ed} {i : Nat} {e : Ed} (r : List Bool) (he : es[i]? = some e) : (es.drop i).foldl (mark vals) r = (es.drop (i + 1)).foldl (mark vals) (mark vals r e) := by
  obtain ⟨hi, rfl⟩ := List.getElem?_eq_some_iff.1 he
  rw [List.drop_eq_getElem_cons hi]; rfl
theorem rounds_next (vals : List Int) (es : List Ed) (M n : Nat) (r : List Bool) (h : n < M) : rounds vals es (M - n) r = rounds vals es (M - (n + 1)) (pass vals es r) := by
  rw [show M - n = (M - (n + 1)) + 1 by omega]; rfl

set_option maxRecDepth 100000 in
set_option maxHeartbeats 4000000 in
theorem rtight_any (w : World) (V : Int) (A A2 : Option Addr) (es : List Ed) (vals : List Int) (L c M c2 : Nat) (s : Int) (hL : es.length = L) (hE : Eds w w.heap.size A es) (hc : L ≤ 9223372036854775807) (hM : vals.length = M) (hR : Rd w w.heap.size A2 (vals.map (Value.int .i64))) (hvb : ∀ x ∈ vals, -9223372036854775808 ≤ x ∧ x ≤ 9223372036854775807) :
    Calls Try.prog 17 #[.agg #[.int .i64 V, .slice A L c], .int .i64 s, .slice A2 M c2] w fun e w' => e = .returned (.bool (rtightF V es s vals)) ∧ Below w.heap.size w w' := by
  obtain ⟨v, hv⟩ : ∃ v, w.alloc (.cells #[.int .i64 V, .slice A L c] 35) = v := ⟨_, rfl⟩
  have hz : v.heap.size = w.heap.size + 1 := by rw [← hv]; simp
  have hb : Below w.heap.size w v := by rw [← hv]; exact (Below.refl _ _).alloc (Nat.le_refl _) _
  have cg : v.heap[w.heap.size]? = some (.cells #[.int .i64 V, .slice A L c] 35) := by rw [← hv]; exact heap_alloc_last w _
  have hlg : w.heap.size < v.heap.size := by omega
  have HE := hide (hE.below hb (Nat.le_refl _))
  have HR := hide (hR.below hb)
  have HV := hide hv
  have HB := hide hb
  have HL := hide hL
  have HM := hide hM
  have HZ := hide hz
  have HCG := hide cg
  have HVB := hide hvb
  clear hv hb hz cg hE hL hR hM hvb
  by_cases hgood : checkF V es = 0 ∧ 0 ≤ s ∧ s < V ∧ (vals.length : Int) = V ∧ at_ vals s = 0
  · have HT : Hid (rtightF V es s vals = (!viol vals es && lastOk vals (rounds vals es V.toNat (first V s)) 0)) := hide (by rw [rtightF, if_pos hgood])
    obtain ⟨hchk, hs0, hsV, hlen, hat⟩ := hgood
    obtain ⟨hV1, hV2, hok⟩ := checkF_zero hchk
    obtain ⟨N, rfl⟩ := Int.eq_ofNat_of_zero_le (show 0 ≤ V by omega)
    obtain ⟨q, rfl⟩ := Int.eq_ofNat_of_zero_le hs0
    rw [HM.out] at hlen
    obtain rfl : M = N := by omega
    obtain ⟨b2, off2, rfl, hb2, _⟩ := HR.out.at_ (k := q) (by rw [List.length_map, HM.out]; omega)
    have cs0 := at_cell HR.out (k := q) (by rw [HM.out]; omega)
    rw [hat] at cs0
    have HChk := hide hchk
    have HOk := hide hok
    obtain ⟨r0, hr0⟩ : ∃ r0, first (M : Int) (q : Int) = r0 := ⟨_, rfl⟩
    rw [hr0, Int.toNat_natCast] at HT
    have HR0 : Hid ((List.replicate M false).set q true = r0) := hide (by rw [← hr0, first, Int.toNat_natCast, Int.toNat_natCast])
    clear hat hchk hok hr0 hlen
    obtain ⟨i0, hi0, hz0, hz1, hz2⟩ := info_parts (show (Try.prog.info? 4).map (fun i => (i.zero, i.size, i.bytes)) = some (some (.bool false), 1, 1) by kernel_rfl)
    have hb8 : i0.bytes * M ≤ 281474976710656 := by rw [hz2]; omega
    have hI0 : (0 : Int) ≤ (q : Int) := by omega
    have hI1 : (q : Int) < (M : Int) := by omega
    have dq1 : decide ((q : Int) < 0) = false := decide_eq_false (by omega)
    have dq2 : decide (M ≤ q) = false := decide_eq_false (by omega)
    have hrow0 : Hid ((bools (List.replicate M false)).toArray[q]? = some (.bool false)) := hide (by rw [List.getElem?_toArray, bools_get (by rw [List.length_replicate]; omega)]; simp)
    have cg0 : v.cell? ⟨w.heap.size, 0, none⟩ = some (.int .i64 (M : Int)) := cell_of_row _ _ 0 _ _ _ HCG.out
    have cg1 : v.cell? ⟨w.heap.size, 1, none⟩ = some (.slice A L c) := cell_of_row _ _ 1 _ _ _ HCG.out
    go_enter Try.func17, Try.ntmps17
    go_wp2_with fail
    rw [HV.out]
    refine (rcheck_any _ _ A es L c HL.out (HE.out.more (Nat.le_of_lt hlg)) hc).mono ?_
    rintro e w1 ⟨rfl, hb1⟩
    rw [HChk.out]
    have g0 := (hb1.cell (p := ⟨w.heap.size, 0, none⟩) hlg).trans cg0
    have g1 := (hb1.cell (p := ⟨w.heap.size, 1, none⟩) hlg).trans cg1
    have g2 := (hb1.cell (p := ⟨b2, off2 + q, none⟩) (by show b2 < _; omega)).trans cs0
    have hk1 : Hid (Kept v w1) := hide (fun p hp => hb1.cell hp)
    have hw1 := HB.out.trans (hb1.mono (by omega))
    have hs1 := hb1.size
    clear hb1
    go_wp2
    clear g0 g1 g2
    go_loopw [7] (fun vi wr => ∃ i : Nat, i ≤ L ∧ vi = .int .i64 i ∧ Hid (viol vals es = viol vals (es.drop i)) ∧ Hid (Kept v wr) ∧ Below w.heap.size w wr ∧ v.heap.size ≤ wr.heap.size) (fun vi _ => L - (intOf vi).toNat)
    case atStart => exact ⟨0, by omega, rfl, hide rfl, hk1, hw1, hs1⟩
    case round =>
      clear hk1 hw1 hs1
      obtain ⟨i, hi, rfl, hvi, hkr, hbw, hsz⟩ := hrel
      have hs := hbw.size
      have kg0 := (hkr.out ⟨w.heap.size, 0, none⟩ hlg).trans cg0
      have kg1 := (hkr.out ⟨w.heap.size, 1, none⟩ hlg).trans cg1
      by_cases hlt : i < L
      · obtain ⟨e, he⟩ : ∃ e, es[i]? = some e := ⟨_, List.getElem?_eq_getElem (by rw [HL.out]; exact hlt)⟩
        have hfit := fits_bounds (ok_all HOk.out he)
        obtain ⟨b, off, rfl, hbl, c0, c1, c2', hx1, hx2⟩ := Eds.get HE.out he
        have HStep := hide (viol_step (vals := vals) he)
        obtain ⟨e1, e2, e3⟩ := e
        dsimp only at c0 c1 c2' hfit hx1 hx2 HStep
        obtain ⟨f, rfl⟩ := Int.eq_ofNat_of_zero_le hfit.1
        obtain ⟨t, rfl⟩ := Int.eq_ofNat_of_zero_le hfit.2.2.1
        have hfM : f < M := by omega
        have htM : t < M := by omega
        have uf := at_cell HR.out (k := f) (by rw [HM.out]; exact hfM)
        have ut := at_cell HR.out (k := t) (by rw [HM.out]; exact htM)
        have hbF := HVB.out (at_ vals f) (by unfold at_; rw [Int.toNat_natCast, List.getElem?_eq_getElem (by rw [HM.out]; exact hfM)]; exact List.getElem_mem _)
        have hI0' : (0 : Int) ≤ (i : Int) := by omega
        have hI1' : (i : Int) < (L : Int) := by omega
        have hf0 : (0 : Int) ≤ (f : Int) := by omega
        have hf1 : (f : Int) < (M : Int) := by omega
        have ht0 : (0 : Int) ≤ (t : Int) := by omega
        have ht1 : (t : Int) < (M : Int) := by omega
        have hlb2 : b2 < v.heap.size := by omega
        have hlb : b < v.heap.size := by omega
        have hlast : ∀ w', Below wr.drew.heap.size wr.drew w' → Hid (Kept v w') ∧ Below w.heap.size w w' ∧ v.heap.size ≤ w'.heap.size := fun w' h => ⟨hide (hkr.out.below hsz (below_undrew h)), hbw.drew.trans (h.mono hbw.drew.size), by have := h.size; simp at this; omega⟩
        have HLAST := hide hlast
        obtain ⟨Fv, hF⟩ : ∃ F, at_ vals (f : Int) = F := ⟨_, rfl⟩
        obtain ⟨X, hX⟩ : ∃ X, at_ vals (t : Int) = X := ⟨_, rfl⟩
        rw [hF] at uf hbF HStep
        rw [hX] at ut HStep
        have hS00 : Hid (Kept v wr.drew) := hide (fun p hp => hkr.out p hp)
        clear he hfit hlast hF hX
        go_wp2
        clear kg0 kg1
        refine wp_region_held_drew (S := Kept v) (by kernel_rfl) hS00.out (fun hS0 => ?_)
        refine take_at (i := 0) (d := 47) (v := ?_) (by simp only [List.getElem?_toArray, List.getElem?_cons_succ, List.getElem?_cons_zero]; rfl) rfl (by kernel_rfl) (by kernel_rfl) (by kernel_rfl) (fun _ _ _ h => h) rfl ?_ (by assumption) ?_
        rotate_left
        focus (intro w hSw; go_simp; (try with_reducible rfl); done)
        try simp only [List.setIfInBounds_toArray, List.set_cons_zero, List.set_cons_succ]
        refine take_at (i := 1) (d := 48) (v := ?_) (by simp only [List.getElem?_toArray, List.getElem?_cons_succ, List.getElem?_cons_zero]; rfl) rfl (by kernel_rfl) (by kernel_rfl) (by kernel_rfl) (fun _ _ _ h => h) rfl ?_ (by assumption) ?_
        rotate_left
        focus (intro w hSw; go_simp; (try with_reducible rfl); done)
        try simp only [List.setIfInBounds_toArray, List.set_cons_zero, List.set_cons_succ]
        refine take_at (i := 2) (d := 49) (v := ?_) (by simp only [List.getElem?_toArray, List.getElem?_cons_succ, List.getElem?_cons_zero]; rfl) rfl (by kernel_rfl) (by kernel_rfl) (by kernel_rfl) (fun _ _ _ h => h) rfl ?_ (by assumption) ?_
        rotate_left
        focus (intro w hSw; go_simp; (try with_reducible rfl); done)
        try simp only [List.setIfInBounds_toArray, List.set_cons_zero, List.set_cons_succ]
        refine take_at (i := 3) (d := 50) (v := ?_) (by simp only [List.getElem?_toArray, List.getElem?_cons_succ, List.getElem?_cons_zero]; rfl) rfl (by kernel_rfl) (by kernel_rfl) (by kernel_rfl) (fun _ _ _ h => h) rfl ?_ (by assumption) ?_
        rotate_left
        focus (intro w hSw; go_simp; (try with_reducible rfl); done)
        try simp only [List.setIfInBounds_toArray, List.set_cons_zero, List.set_cons_succ]
        refine take_at (i := 4) (d := 51) (v := ?_) (by simp only [List.getElem?_toArray, List.getElem?_cons_succ, List.getElem?_cons_zero]; rfl) rfl (by kernel_rfl) (by kernel_rfl) (by kernel_rfl) (fun _ _ _ h => h) rfl ?_ (by assumption) ?_
        rotate_left
        focus (intro w hSw; go_simp; (try with_reducible rfl); done)
        try simp only [List.setIfInBounds_toArray, List.set_cons_zero, List.set_cons_succ]
        refine take_at (i := 5) (d := 52) (v := ?_) (by simp only [List.getElem?_toArray, List.getElem?_cons_succ, List.getElem?_cons_zero]; rfl) rfl (by kernel_rfl) (by kernel_rfl) (by kernel_rfl) (fun _ _ _ h => h) rfl ?_ (by assumption) ?_
        rotate_left
        focus (intro w hSw; go_simp; (try with_reducible rfl); done)
        try simp only [List.setIfInBounds_toArray, List.set_cons_zero, List.set_cons_succ]
        refine take_at (i := 6) (d := 53) (v := ?_) (by simp only [List.getElem?_toArray, List.getElem?_cons_succ, List.getElem?_cons_zero]; rfl) rfl (by kernel_rfl) (by kernel_rfl) (by kernel_rfl) (fun _ _ _ h => h) rfl ?_ (by assumption) ?_
        rotate_left
        focus (intro w hSw; go_simp; (try with_reducible rfl); done)
        try simp only [List.setIfInBounds_toArray, List.set_cons_zero, List.set_cons_succ]
        refine take_at (i := 7) (d := 54) (v := ?_) (by simp only [List.getElem?_toArray, List.getElem?_cons_succ, List.getElem?_cons_zero]; rfl) rfl (by kernel_rfl) (by kernel_rfl) (by kernel_rfl) (fun _ _ _ h => h) rfl ?_ (by assumption) ?_
        rotate_left
        focus (intro w hSw; go_simp; (try with_reducible rfl); done)
        try simp only [List.setIfInBounds_toArray, List.set_cons_zero, List.set_cons_succ]
        refine take_at (i := 8) (d := 55) (v := ?_) (by simp only [List.getElem?_toArray, List.getElem?_cons_succ, List.getElem?_cons_zero]; rfl) rfl (by kernel_rfl) (by kernel_rfl) (by kernel_rfl) (fun _ _ _ h => h) rfl ?_ (by assumption) ?_
        rotate_left
        focus (intro w hSw; go_simp; (try with_reducible rfl); done)
        try simp only [List.setIfInBounds_toArray, List.set_cons_zero, List.set_cons_succ]
        refine take_at (i := 9) (d := 56) (v := ?_) (by simp only [List.getElem?_toArray, List.getElem?_cons_succ, List.getElem?_cons_zero]; rfl) rfl (by kernel_rfl) (by kernel_rfl) (by kernel_rfl) (fun _ _ _ h => h) rfl ?_ (by assumption) ?_
        rotate_left
        focus (intro w hSw; go_simp; (try with_reducible rfl); done)
        try simp only [List.setIfInBounds_toArray, List.set_cons_zero, List.set_cons_succ]
        refine take_at (i := 10) (d := 57) (v := ?_) (by simp only [List.getElem?_toArray, List.getElem?_cons_succ, List.getElem?_cons_zero]; rfl) rfl (by kernel_rfl) (by kernel_rfl) (by kernel_rfl) (fun _ _ _ h => h) rfl ?_ (by assumption) ?_
        rotate_left
        focus (intro w hSw; go_simp; (try with_reducible rfl); done)
        try simp only [List.setIfInBounds_toArray, List.set_cons_zero, List.set_cons_succ]
        refine take_at (i := 11) (d := 58) (v := ?_) (by simp only [List.getElem?_toArray, List.getElem?_cons_succ, List.getElem?_cons_zero]; rfl) rfl (by kernel_rfl) (by kernel_rfl) (by kernel_rfl) (fun _ _ _ h => h) rfl ?_ (by assumption) ?_
        rotate_left
        focus (intro w hSw; go_simp; (try with_reducible rfl); done)
        try simp only [List.setIfInBounds_toArray, List.set_cons_zero, List.set_cons_succ]
        refine take_at (i := 12) (d := 59) (v := ?_) (by simp only [List.getElem?_toArray, List.getElem?_cons_succ, List.getElem?_cons_zero]; rfl) rfl (by kernel_rfl) (by kernel_rfl) (by kernel_rfl) (fun _ _ _ h => h) rfl ?_ (by assumption) ?_
        rotate_left
        focus (intro w hSw; go_simp; (try with_reducible rfl); done)
        try simp only [List.setIfInBounds_toArray, List.set_cons_zero, List.set_cons_succ]
        refine take_at (i := 13) (d := 60) (v := ?_) (by simp only [List.getElem?_toArray, List.getElem?_cons_succ, List.getElem?_cons_zero]; rfl) rfl (by kernel_rfl) (by kernel_rfl) (by kernel_rfl) (fun _ _ _ h => h) rfl ?_ (by assumption) ?_
        rotate_left
        focus (intro w hSw; go_simp; (try with_reducible rfl); done)
        try simp only [List.setIfInBounds_toArray, List.set_cons_zero, List.set_cons_succ]
        refine take_at (i := 14) (d := 61) (v := ?_) (by simp only [List.getElem?_toArray, List.getElem?_cons_succ, List.getElem?_cons_zero]; rfl) rfl (by kernel_rfl) (by kernel_rfl) (by kernel_rfl) (fun _ _ _ h => h) rfl ?_ (by assumption) ?_
        rotate_left
        focus (intro w hSw; go_simp; (try with_reducible rfl); done)
        try simp only [List.setIfInBounds_toArray, List.set_cons_zero, List.set_cons_succ]
        refine take_at (i := 15) (d := 62) (v := ?_) (by simp only [List.getElem?_toArray, List.getElem?_cons_succ, List.getElem?_cons_zero]; rfl) rfl (by kernel_rfl) (by kernel_rfl) (by kernel_rfl) (fun _ _ _ h => h) rfl ?_ (by assumption) ?_
        rotate_left
        focus (intro w hSw; go_simp; (try with_reducible rfl); done)
        try simp only [List.setIfInBounds_toArray, List.set_cons_zero, List.set_cons_succ]
        refine take_at (i := 16) (d := 63) (v := ?_) (by simp only [List.getElem?_toArray, List.getElem?_cons_succ, List.getElem?_cons_zero]; rfl) rfl (by kernel_rfl) (by kernel_rfl) (by kernel_rfl) (fun _ _ _ h => h) rfl ?_ (by assumption) ?_
        rotate_left
        focus (intro w hSw; go_simp; (try with_reducible rfl); done)
        try simp only [List.setIfInBounds_toArray, List.set_cons_zero, List.set_cons_succ]
        refine take_at (i := 17) (d := 64) (v := ?_) (by simp only [List.getElem?_toArray, List.getElem?_cons_succ, List.getElem?_cons_zero]; rfl) rfl (by kernel_rfl) (by kernel_rfl) (by kernel_rfl) (fun _ _ _ h => h) rfl ?_ (by assumption) ?_
        rotate_left
        focus (intro w hSw; go_simp; (try with_reducible rfl); done)
        try simp only [List.setIfInBounds_toArray, List.set_cons_zero, List.set_cons_succ]
        refine take_at (i := 18) (d := 65) (v := ?_) (by simp only [List.getElem?_toArray, List.getElem?_cons_succ, List.getElem?_cons_zero]; rfl) rfl (by kernel_rfl) (by kernel_rfl) (by kernel_rfl) (fun _ _ _ h => h) rfl ?_ (by assumption) ?_
        rotate_left
        focus (intro w hSw; go_simp; (try with_reducible rfl); done)
        try simp only [List.setIfInBounds_toArray, List.set_cons_zero, List.set_cons_succ]
        refine take_at (i := 19) (d := 66) (v := ?_) (by simp only [List.getElem?_toArray, List.getElem?_cons_succ, List.getElem?_cons_zero]; rfl) rfl (by kernel_rfl) (by kernel_rfl) (by kernel_rfl) (fun _ _ _ h => h) rfl ?_ (by assumption) ?_
        rotate_left
        focus (intro w hSw; go_simp; (try with_reducible rfl); done)
        try simp only [List.setIfInBounds_toArray, List.set_cons_zero, List.set_cons_succ]
        refine take_at (i := 20) (d := 67) (v := ?_) (by simp only [List.getElem?_toArray, List.getElem?_cons_succ, List.getElem?_cons_zero]; rfl) rfl (by kernel_rfl) (by kernel_rfl) (by kernel_rfl) (fun _ _ _ h => h) rfl ?_ (by assumption) ?_
        rotate_left
        focus (intro w hSw; go_simp; (try with_reducible rfl); done)
        try simp only [List.setIfInBounds_toArray, List.set_cons_zero, List.set_cons_succ]
        refine take_at (i := 21) (d := 68) (v := ?_) (by simp only [List.getElem?_toArray, List.getElem?_cons_succ, List.getElem?_cons_zero]; rfl) rfl (by kernel_rfl) (by kernel_rfl) (by kernel_rfl) (fun _ _ _ h => h) rfl ?_ (by assumption) ?_
        rotate_left
        focus (intro w hSw; go_simp; (try with_reducible rfl); done)
        try simp only [List.setIfInBounds_toArray, List.set_cons_zero, List.set_cons_succ]
        refine take_at (i := 22) (d := 69) (v := ?_) (by simp only [List.getElem?_toArray, List.getElem?_cons_succ, List.getElem?_cons_zero]; rfl) rfl (by kernel_rfl) (by kernel_rfl) (by kernel_rfl) (fun _ _ _ h => h) rfl ?_ (by assumption) ?_
        rotate_left
        focus (intro w hSw; go_simp; (try with_reducible rfl); done)
        try simp only [List.setIfInBounds_toArray, List.set_cons_zero, List.set_cons_succ]
        refine call_at (i := 23) (d := 70) (by simp only [List.getElem?_toArray, List.getElem?_cons_succ, List.getElem?_cons_zero]; rfl) rfl (by kernel_rfl) rfl (fun K hK => ?_)
        go_simp
        refine (rgive_any _ Fv (f : Int) (t : Int) e3).mono ?_
        rintro e y1 ⟨rfl, hy1⟩
        have hS1 : Kept v y1 := hS0.below (by first | (simp; done) | (simp; omega)) hy1
        have HY1 := hide hy1
        clear hy1
        go_wp2_with fail
        refine hK.out _ _ hS1 (fun hSn => ?_)
        clear hK K
        try simp only [List.setIfInBounds_toArray, List.set_cons_zero, List.set_cons_succ]
        refine take_at (i := 24) (d := 71) (v := ?_) (by simp only [List.getElem?_toArray, List.getElem?_cons_succ, List.getElem?_cons_zero]; rfl) rfl (by kernel_rfl) (by kernel_rfl) (by kernel_rfl) (fun _ _ _ h => h) rfl ?_ (by assumption) ?_
        rotate_left
        focus (intro w hSw; go_simp; (try with_reducible rfl); done)
        try simp only [List.setIfInBounds_toArray, List.set_cons_zero, List.set_cons_succ]
        refine wpAnyH_done (by kernel_rfl) ?_ _
        have hgo := HLAST.out _ HY1.out
        clear hS0 hSn hS1
        obtain ⟨d, hd⟩ : ∃ d, dadd Fv e3 = d := ⟨_, rfl⟩
        rw [hd] at HStep ⊢
        clear hd
        by_cases hgt : d < X
        · have HTF : Hid (rtightF (M : Int) es (q : Int) vals = false) := hide (by rw [HT.out, hvi.out, HStep.out, decide_eq_true hgt]; rfl)
          go_wp2
          go_ret
          exact ⟨ret_bool (by rw [HTF.out]), hgo.2.1⟩
        · have HVI : Hid (viol vals es = viol vals (es.drop (i + 1))) := hide (by rw [hvi.out, HStep.out, decide_eq_false hgt]; rfl)
          go_wp2
          go_roundw
          case rel => exact ⟨i + 1, by omega, by go_num, HVI, hgo⟩
          case measure => simp [intOf]; omega
      · obtain rfl : i = L := by omega
        have HVI : Hid (viol vals es = false) := hide (by rw [hvi.out, ← HL.out, viol_end])
        clear hvi
        obtain ⟨w1, hw1⟩ : ∃ w1, wr = w1 := ⟨_, rfl⟩
        subst hw1
        have hbw0 := hide hbw
        go_wp2_with (at_make; refine wpList_make_full _ rfl (.tmp 73) (.tmp 73) 49 rfl wr.heap.size 4 i0 (.bool false) 1 Try.underlying49 hi0 hz0 hz1 .i64 .i64 _ _ M rfl rfl ?_ ?_ hb8 (by unfold maxLen; omega) (Nat.le_refl _) ?_; rfl; rfl; intro w2 hown2 hg2; have hb2w : Below wr.heap.size wr w2 := (Below.refl _ wr).grown hg2 (Nat.le_refl _) (fun k e => by cases e); have hm0 := made_cells hown2; rw [made_no] at hm0; have hc0 := cell_of_row _ _ q _ _ _ hm0; have hf0 := frozen_of_row _ _ q _ _ hm0; have HM0 := hide hm0; have HBW := hide hb2w; rw [hrow0.out] at hc0; clear hown2 hg2 hm0 hb2w)
        have hrow := heap_setCell_same _ _ q _ _ (.bool true) HM0.out
        rw [List.setIfInBounds_toArray, bools_set, HR0.out] at hrow
        have hbq : Hid (Below w.heap.size w (w2.setCell ⟨wr.heap.size, q, none⟩ (.bool true))) := hide ((hbw0.out.trans (HBW.out.mono (by omega))).setCell (p := ⟨wr.heap.size, q, none⟩) (by show _ ≤ wr.heap.size; omega) _)
        have hkq : Hid (Kept v (w2.setCell ⟨wr.heap.size, q, none⟩ (.bool true))) := hide (fun p hp => (World.cell?_setCell_far w2 ⟨wr.heap.size, q, none⟩ p _ (by first | (show p.block ≠ wr.heap.size; omega) | (show wr.heap.size ≠ p.block; omega))).trans ((HBW.out.cell (by omega)).trans (hkr.out p hp)))
        obtain ⟨wq, hwq⟩ : ∃ wq, w2.setCell ⟨wr.heap.size, q, none⟩ (.bool true) = wq := ⟨_, rfl⟩
        rw [hwq] at hrow hbq hkq ⊢
        obtain ⟨G, hGe⟩ : ∃ G, wr.heap.size = G := ⟨_, rfl⟩
        rw [hGe] at hrow ⊢
        have hG : v.heap.size ≤ G := by omega
        have hrl : r0.length = M := by rw [← HR0.out, List.length_set, List.length_replicate]
        have HRow := hide hrow
        clear hwq hGe HM0 HBW kg0 kg1 hc0 hf0 hrow hkr hbw hbw0 hsz hs
        go_loopw [9] (fun vn wr => ∃ (n : Nat) (r : List Bool), n ≤ M ∧ vn = .int .i64 n ∧ r.length = M ∧ Hid (rounds vals es M r0 = rounds vals es (M - n) r) ∧ Hid (wr.heap[G]? = some (.cells (bools r).toArray 4)) ∧ Hid (Kept v wr) ∧ Hid (Below w.heap.size w wr)) (fun vn _ => M - (intOf vn).toNat)
        case atStart => exact ⟨0, r0, by omega, rfl, hrl, hide rfl, HRow, hkq, hbq⟩
        case round =>
          clear HRow hkq hbq hrl
          obtain ⟨n, r, hn, rfl, hrl, hrnd, hrw, hkn, hbn⟩ := hrel
          have kg0 := (hkn.out ⟨w.heap.size, 0, none⟩ hlg).trans cg0
          by_cases hnM : n < M
          · have HNext := hide (rounds_next vals es M n r hnM)
            go_wp2
            clear kg0
            go_loopw [10] (fun vi wr => ∃ (k : Nat) (r' : List Bool), k ≤ i ∧ vi = .int .i64 k ∧ r'.length = M ∧ Hid (pass vals es r = (es.drop k).foldl (mark vals) r') ∧ Hid (wr.heap[G]? = some (.cells (bools r').toArray 4)) ∧ Hid (Kept v wr) ∧ Hid (Below w.heap.size w wr)) (fun vi _ => i - (intOf vi).toNat)
            case atStart => exact ⟨0, r, by omega, rfl, hrl, hide rfl, hrw, hkn, hbn⟩
            case round =>
              clear hrw hkn hbn
              rename_i u10
              obtain ⟨k, r', hk, rfl, hrl', hps, hrw, hkr, hbr⟩ := hrel
              have kg1 := (hkr.out ⟨w.heap.size, 1, none⟩ hlg).trans cg1
              have hsr := hbr.out.size
              by_cases hlt2 : k < i
              · obtain ⟨e, he⟩ : ∃ e, es[k]? = some e := ⟨_, List.getElem?_eq_getElem (by rw [HL.out]; exact hlt2)⟩
                have hfit := fits_bounds (ok_all HOk.out he)
                obtain ⟨b, off, rfl, hbl, c0, c1, c2', hx1, hx2⟩ := Eds.get HE.out he
                have HStep := hide (fold_step (vals := vals) r' he)
                obtain ⟨e1, e2, e3⟩ := e
                dsimp only at c0 c1 c2' hfit hx1 hx2 HStep
                obtain ⟨f, rfl⟩ := Int.eq_ofNat_of_zero_le hfit.1
                obtain ⟨t, rfl⟩ := Int.eq_ofNat_of_zero_le hfit.2.2.1
                have hfM : f < M := by omega
                have htM : t < M := by omega
                have k0 := (hkr.out ⟨b, off + k * 3, none⟩ (by show b < _; omega)).trans c0
                have k1 := (hkr.out ⟨b, off + k * 3 + 1, none⟩ (by show b < _; omega)).trans c1
                have k2 := (hkr.out ⟨b, off + k * 3 + 2, none⟩ (by show b < _; omega)).trans c2'
                have hI0' : (0 : Int) ≤ (k : Int) := by omega
                have hI1' : (k : Int) < (i : Int) := by omega
                clear he c0 c1 c2' hfit
                go_wp2
                obtain ⟨u, hu⟩ : ∃ u, wr.alloc (.cells #[.int .i64 (f : Int), .int .i64 (t : Int), .int .i64 e3] 23) = u := ⟨_, rfl⟩
                have hbu : Below wr.heap.size wr u := by rw [← hu]; exact (Below.refl _ _).alloc (Nat.le_refl _) _
                have ce : u.heap[wr.heap.size]? = some (.cells #[.int .i64 (f : Int), .int .i64 (t : Int), .int .i64 e3] 23) := by rw [← hu]; exact heap_alloc_last wr _
                have ue0 : u.cell? ⟨wr.heap.size, 0, none⟩ = some (.int .i64 (f : Int)) := cell_of_row _ _ 0 _ _ _ ce
                have ue1 : u.cell? ⟨wr.heap.size, 1, none⟩ = some (.int .i64 (t : Int)) := cell_of_row _ _ 1 _ _ _ ce
                have ue2 : u.cell? ⟨wr.heap.size, 2, none⟩ = some (.int .i64 e3) := cell_of_row _ _ 2 _ _ _ ce
                have hlu : wr.heap.size < u.heap.size := lt_of_block ce
                have hvr : v.heap.size ≤ wr.heap.size := by have h1 := lt_of_block hrw.out; omega
                have hku : Hid (Kept v u) := hide (hkr.out.below hvr hbu)
                have hrwu := (hbu.block G (lt_of_block hrw.out)).trans hrw.out
                have uf := ((hku.out ⟨b2, off2 + f, none⟩ (by show b2 < _; omega)).trans (at_cell HR.out (by rw [HM.out]; exact hfM)))
                have ut := ((hku.out ⟨b2, off2 + t, none⟩ (by show b2 < _; omega)).trans (at_cell HR.out (by rw [HM.out]; exact htM)))
                have urf := row_bat hrwu (k := f) (by omega)
                have hbF := HVB.out (at_ vals f) (by unfold at_; rw [Int.toNat_natCast, List.getElem?_eq_getElem (by rw [HM.out]; exact hfM)]; exact List.getElem_mem _)
                have hlb2 : b2 < u.heap.size := by omega
                have hlG : G < u.heap.size := lt_of_block hrwu
                have hwu := hide (hbr.out.trans (hbu.mono hsr))
                have HU := hide hu
                have HRU := hide hrwu
                have hf0 : (0 : Int) ≤ (f : Int) := by omega
                have hf1 : (f : Int) < (M : Int) := by omega
                have ht0 : (0 : Int) ≤ (t : Int) := by omega
                have ht1 : (t : Int) < (M : Int) := by omega
                have hMk : Hid (mark vals r' ((f : Int), (t : Int), e3) = if bat r' (f : Int) = true ∧ dadd (at_ vals (f : Int)) e3 = at_ vals (t : Int) then r'.set t true else r') := hide (by rw [mark]; dsimp only; rw [Int.toNat_natCast])
                obtain ⟨Fv, hF⟩ : ∃ F, at_ vals (f : Int) = F := ⟨_, rfl⟩
                obtain ⟨X, hX⟩ : ∃ X, at_ vals (t : Int) = X := ⟨_, rfl⟩
                obtain ⟨RF, hRF⟩ : ∃ RF, bat r' (f : Int) = RF := ⟨_, rfl⟩
                rw [hF] at uf hbF hMk
                rw [hX] at ut hMk
                rw [hRF] at urf hMk
                clear hu ce hbu hkr hbr hF hX hRF hrwu k0 k1 k2 kg1
                go_wp2
                rw [HU.out]
                cases RF
                · have HPS : Hid (pass vals es r = (es.drop (k + 1)).foldl (mark vals) r') := hide (by rw [hps.out, HStep.out, hMk.out, if_neg (by simp)])
                  refine wp_region_held_drew (S := Kept u) (by kernel_rfl) (Kept.drew u) (fun hS0 => ?_)
                  refine take_at (i := 0) (d := 96) (v := ?_) (by simp only [List.getElem?_toArray, List.getElem?_cons_succ, List.getElem?_cons_zero]; rfl) rfl (by kernel_rfl) (by kernel_rfl) (by kernel_rfl) (fun _ _ _ h => h) rfl ?_ (by assumption) ?_
                  rotate_left
                  focus (intro w hSw; go_simp; (try with_reducible rfl); done)
                  try simp only [List.setIfInBounds_toArray, List.set_cons_zero, List.set_cons_succ]
                  refine take_at (i := 1) (d := 97) (v := ?_) (by simp only [List.getElem?_toArray, List.getElem?_cons_succ, List.getElem?_cons_zero]; rfl) rfl (by kernel_rfl) (by kernel_rfl) (by kernel_rfl) (fun _ _ _ h => h) rfl ?_ (by assumption) ?_
                  rotate_left
                  focus (intro w hSw; go_simp; (try with_reducible rfl); done)
                  try simp only [List.setIfInBounds_toArray, List.set_cons_zero, List.set_cons_succ]
                  refine take_at (i := 2) (d := 98) (v := ?_) (by simp only [List.getElem?_toArray, List.getElem?_cons_succ, List.getElem?_cons_zero]; rfl) rfl (by kernel_rfl) (by kernel_rfl) (by kernel_rfl) (fun _ _ _ h => h) rfl ?_ (by assumption) ?_
                  rotate_left
                  focus (intro w hSw; go_simp; (try with_reducible rfl); done)
                  try simp only [List.setIfInBounds_toArray, List.set_cons_zero, List.set_cons_succ]
                  refine take_at (i := 3) (d := 99) (v := ?_) (by simp only [List.getElem?_toArray, List.getElem?_cons_succ, List.getElem?_cons_zero]; rfl) rfl (by kernel_rfl) (by kernel_rfl) (by kernel_rfl) (fun _ _ _ h => h) rfl ?_ (by assumption) ?_
                  rotate_left
                  focus (intro w hSw; go_simp; (try with_reducible rfl); done)
                  try simp only [List.setIfInBounds_toArray, List.set_cons_zero, List.set_cons_succ]
                  refine take_at (i := 4) (d := 100) (v := ?_) (by simp only [List.getElem?_toArray, List.getElem?_cons_succ, List.getElem?_cons_zero]; rfl) rfl (by kernel_rfl) (by kernel_rfl) (by kernel_rfl) (fun _ _ _ h => h) rfl ?_ (by assumption) ?_
                  rotate_left
                  focus (intro w hSw; go_simp; (try with_reducible rfl); done)
                  try simp only [List.setIfInBounds_toArray, List.set_cons_zero, List.set_cons_succ]
                  refine take_at (i := 5) (d := 101) (v := ?_) (by simp only [List.getElem?_toArray, List.getElem?_cons_succ, List.getElem?_cons_zero]; rfl) rfl (by kernel_rfl) (by kernel_rfl) (by kernel_rfl) (fun _ _ _ h => h) rfl ?_ (by assumption) ?_
                  rotate_left
                  focus (intro w hSw; go_simp; (try with_reducible rfl); done)
                  try simp only [List.setIfInBounds_toArray, List.set_cons_zero, List.set_cons_succ]
                  refine skip_at (i := 6) (d := 102) (by simp only [List.getElem?_toArray, List.getElem?_cons_succ, List.getElem?_cons_zero]; rfl) rfl (by kernel_rfl) (by kernel_rfl) (by kernel_rfl) (fun _ _ _ h => h) rfl (by assumption) ?_
                  try simp only [List.setIfInBounds_toArray, List.set_cons_zero, List.set_cons_succ]
                  refine skip_at (i := 7) (d := 103) (by simp only [List.getElem?_toArray, List.getElem?_cons_succ, List.getElem?_cons_zero]; rfl) rfl (by kernel_rfl) (by kernel_rfl) (by kernel_rfl) (fun _ _ _ h => h) rfl (by assumption) ?_
                  try simp only [List.setIfInBounds_toArray, List.set_cons_zero, List.set_cons_succ]
                  refine skip_at (i := 8) (d := 104) (by simp only [List.getElem?_toArray, List.getElem?_cons_succ, List.getElem?_cons_zero]; rfl) rfl (by kernel_rfl) (by kernel_rfl) (by kernel_rfl) (fun _ _ _ h => h) rfl (by assumption) ?_
                  try simp only [List.setIfInBounds_toArray, List.set_cons_zero, List.set_cons_succ]
                  refine skip_at (i := 9) (d := 105) (by simp only [List.getElem?_toArray, List.getElem?_cons_succ, List.getElem?_cons_zero]; rfl) rfl (by kernel_rfl) (by kernel_rfl) (by kernel_rfl) (fun _ _ _ h => h) rfl (by assumption) ?_
                  try simp only [List.setIfInBounds_toArray, List.set_cons_zero, List.set_cons_succ]
                  refine skip_at (i := 10) (d := 106) (by simp only [List.getElem?_toArray, List.getElem?_cons_succ, List.getElem?_cons_zero]; rfl) rfl (by kernel_rfl) (by kernel_rfl) (by kernel_rfl) (fun _ _ _ h => h) rfl (by assumption) ?_
                  try simp only [List.setIfInBounds_toArray, List.set_cons_zero, List.set_cons_succ]
                  refine skip_at (i := 11) (d := 107) (by simp only [List.getElem?_toArray, List.getElem?_cons_succ, List.getElem?_cons_zero]; rfl) rfl (by kernel_rfl) (by kernel_rfl) (by kernel_rfl) (fun _ _ _ h => h) rfl (by assumption) ?_
                  try simp only [List.setIfInBounds_toArray, List.set_cons_zero, List.set_cons_succ]
                  refine skip_at (i := 12) (d := 108) (by simp only [List.getElem?_toArray, List.getElem?_cons_succ, List.getElem?_cons_zero]; rfl) rfl (by kernel_rfl) (by kernel_rfl) (by kernel_rfl) (fun _ _ _ h => h) rfl (by assumption) ?_
                  try simp only [List.setIfInBounds_toArray, List.set_cons_zero, List.set_cons_succ]
                  refine skip_at (i := 13) (d := 109) (by simp only [List.getElem?_toArray, List.getElem?_cons_succ, List.getElem?_cons_zero]; rfl) rfl (by kernel_rfl) (by kernel_rfl) (by kernel_rfl) (fun _ _ _ h => h) rfl (by assumption) ?_
                  try simp only [List.setIfInBounds_toArray, List.set_cons_zero, List.set_cons_succ]
                  refine skip_at (i := 14) (d := 110) (by simp only [List.getElem?_toArray, List.getElem?_cons_succ, List.getElem?_cons_zero]; rfl) rfl (by kernel_rfl) (by kernel_rfl) (by kernel_rfl) (fun _ _ _ h => h) rfl (by assumption) ?_
                  try simp only [List.setIfInBounds_toArray, List.set_cons_zero, List.set_cons_succ]
                  refine skip_at (i := 15) (d := 111) (by simp only [List.getElem?_toArray, List.getElem?_cons_succ, List.getElem?_cons_zero]; rfl) rfl (by kernel_rfl) (by kernel_rfl) (by kernel_rfl) (fun _ _ _ h => h) rfl (by assumption) ?_
                  try simp only [List.setIfInBounds_toArray, List.set_cons_zero, List.set_cons_succ]
                  refine skip_at (i := 16) (d := 112) (by simp only [List.getElem?_toArray, List.getElem?_cons_succ, List.getElem?_cons_zero]; rfl) rfl (by kernel_rfl) (by kernel_rfl) (by kernel_rfl) (fun _ _ _ h => h) rfl (by assumption) ?_
                  try simp only [List.setIfInBounds_toArray, List.set_cons_zero, List.set_cons_succ]
                  refine skip_at (i := 17) (d := 113) (by simp only [List.getElem?_toArray, List.getElem?_cons_succ, List.getElem?_cons_zero]; rfl) rfl (by kernel_rfl) (by kernel_rfl) (by kernel_rfl) (fun _ _ _ h => h) rfl (by assumption) ?_
                  try simp only [List.setIfInBounds_toArray, List.set_cons_zero, List.set_cons_succ]
                  refine skip_at (i := 18) (d := 114) (by simp only [List.getElem?_toArray, List.getElem?_cons_succ, List.getElem?_cons_zero]; rfl) rfl (by kernel_rfl) (by kernel_rfl) (by kernel_rfl) (fun _ _ _ h => h) rfl (by assumption) ?_
                  try simp only [List.setIfInBounds_toArray, List.set_cons_zero, List.set_cons_succ]
                  refine take_at (i := 19) (d := 115) (v := ?_) (by simp only [List.getElem?_toArray, List.getElem?_cons_succ, List.getElem?_cons_zero]; rfl) rfl (by kernel_rfl) (by kernel_rfl) (by kernel_rfl) (fun _ _ _ h => h) rfl ?_ (by assumption) ?_
                  rotate_left
                  focus (intro w hSw; go_simp; (try with_reducible rfl); done)
                  try simp only [List.setIfInBounds_toArray, List.set_cons_zero, List.set_cons_succ]
                  refine wpAnyH_done (by kernel_rfl) ?_ _
                  clear hS0
                  go_wp2
                  go_roundw
                  case rel => exact ⟨k + 1, r', by omega, by go_num, hrl', HPS, HRU, hide (fun p hp => hku.out p hp), hide hwu.out.drew⟩
                  case measure => simp [intOf]; omega
                · skip
                  refine wp_region_held_drew (S := Kept u) (by kernel_rfl) (Kept.drew u) (fun hS0 => ?_)
                  refine take_at (i := 0) (d := 96) (v := ?_) (by simp only [List.getElem?_toArray, List.getElem?_cons_succ, List.getElem?_cons_zero]; rfl) rfl (by kernel_rfl) (by kernel_rfl) (by kernel_rfl) (fun _ _ _ h => h) rfl ?_ (by assumption) ?_
                  rotate_left
                  focus (intro w hSw; go_simp; (try with_reducible rfl); done)
                  try simp only [List.setIfInBounds_toArray, List.set_cons_zero, List.set_cons_succ]
                  refine take_at (i := 1) (d := 97) (v := ?_) (by simp only [List.getElem?_toArray, List.getElem?_cons_succ, List.getElem?_cons_zero]; rfl) rfl (by kernel_rfl) (by kernel_rfl) (by kernel_rfl) (fun _ _ _ h => h) rfl ?_ (by assumption) ?_
                  rotate_left
                  focus (intro w hSw; go_simp; (try with_reducible rfl); done)
                  try simp only [List.setIfInBounds_toArray, List.set_cons_zero, List.set_cons_succ]
                  refine take_at (i := 2) (d := 98) (v := ?_) (by simp only [List.getElem?_toArray, List.getElem?_cons_succ, List.getElem?_cons_zero]; rfl) rfl (by kernel_rfl) (by kernel_rfl) (by kernel_rfl) (fun _ _ _ h => h) rfl ?_ (by assumption) ?_
                  rotate_left
                  focus (intro w hSw; go_simp; (try with_reducible rfl); done)
                  try simp only [List.setIfInBounds_toArray, List.set_cons_zero, List.set_cons_succ]
                  refine take_at (i := 3) (d := 99) (v := ?_) (by simp only [List.getElem?_toArray, List.getElem?_cons_succ, List.getElem?_cons_zero]; rfl) rfl (by kernel_rfl) (by kernel_rfl) (by kernel_rfl) (fun _ _ _ h => h) rfl ?_ (by assumption) ?_
                  rotate_left
                  focus (intro w hSw; go_simp; (try with_reducible rfl); done)
                  try simp only [List.setIfInBounds_toArray, List.set_cons_zero, List.set_cons_succ]
                  refine take_at (i := 4) (d := 100) (v := ?_) (by simp only [List.getElem?_toArray, List.getElem?_cons_succ, List.getElem?_cons_zero]; rfl) rfl (by kernel_rfl) (by kernel_rfl) (by kernel_rfl) (fun _ _ _ h => h) rfl ?_ (by assumption) ?_
                  rotate_left
                  focus (intro w hSw; go_simp; (try with_reducible rfl); done)
                  try simp only [List.setIfInBounds_toArray, List.set_cons_zero, List.set_cons_succ]
                  refine take_at (i := 5) (d := 101) (v := ?_) (by simp only [List.getElem?_toArray, List.getElem?_cons_succ, List.getElem?_cons_zero]; rfl) rfl (by kernel_rfl) (by kernel_rfl) (by kernel_rfl) (fun _ _ _ h => h) rfl ?_ (by assumption) ?_
                  rotate_left
                  focus (intro w hSw; go_simp; (try with_reducible rfl); done)
                  try simp only [List.setIfInBounds_toArray, List.set_cons_zero, List.set_cons_succ]
                  refine take_at (i := 6) (d := 102) (v := ?_) (by simp only [List.getElem?_toArray, List.getElem?_cons_succ, List.getElem?_cons_zero]; rfl) rfl (by kernel_rfl) (by kernel_rfl) (by kernel_rfl) (fun _ _ _ h => h) rfl ?_ (by assumption) ?_
                  rotate_left
                  focus (intro w hSw; go_simp; (try with_reducible rfl); done)
                  try simp only [List.setIfInBounds_toArray, List.set_cons_zero, List.set_cons_succ]
                  refine take_at (i := 7) (d := 103) (v := ?_) (by simp only [List.getElem?_toArray, List.getElem?_cons_succ, List.getElem?_cons_zero]; rfl) rfl (by kernel_rfl) (by kernel_rfl) (by kernel_rfl) (fun _ _ _ h => h) rfl ?_ (by assumption) ?_
                  rotate_left
                  focus (intro w hSw; go_simp; (try with_reducible rfl); done)
                  try simp only [List.setIfInBounds_toArray, List.set_cons_zero, List.set_cons_succ]
                  refine take_at (i := 8) (d := 104) (v := ?_) (by simp only [List.getElem?_toArray, List.getElem?_cons_succ, List.getElem?_cons_zero]; rfl) rfl (by kernel_rfl) (by kernel_rfl) (by kernel_rfl) (fun _ _ _ h => h) rfl ?_ (by assumption) ?_
                  rotate_left
                  focus (intro w hSw; go_simp; (try with_reducible rfl); done)
                  try simp only [List.setIfInBounds_toArray, List.set_cons_zero, List.set_cons_succ]
                  refine take_at (i := 9) (d := 105) (v := ?_) (by simp only [List.getElem?_toArray, List.getElem?_cons_succ, List.getElem?_cons_zero]; rfl) rfl (by kernel_rfl) (by kernel_rfl) (by kernel_rfl) (fun _ _ _ h => h) rfl ?_ (by assumption) ?_
                  rotate_left
                  focus (intro w hSw; go_simp; (try with_reducible rfl); done)
                  try simp only [List.setIfInBounds_toArray, List.set_cons_zero, List.set_cons_succ]
                  refine take_at (i := 10) (d := 106) (v := ?_) (by simp only [List.getElem?_toArray, List.getElem?_cons_succ, List.getElem?_cons_zero]; rfl) rfl (by kernel_rfl) (by kernel_rfl) (by kernel_rfl) (fun _ _ _ h => h) rfl ?_ (by assumption) ?_
                  rotate_left
                  focus (intro w hSw; go_simp; (try with_reducible rfl); done)
                  try simp only [List.setIfInBounds_toArray, List.set_cons_zero, List.set_cons_succ]
                  refine take_at (i := 11) (d := 107) (v := ?_) (by simp only [List.getElem?_toArray, List.getElem?_cons_succ, List.getElem?_cons_zero]; rfl) rfl (by kernel_rfl) (by kernel_rfl) (by kernel_rfl) (fun _ _ _ h => h) rfl ?_ (by assumption) ?_
                  rotate_left
                  focus (intro w hSw; go_simp; (try with_reducible rfl); done)
                  try simp only [List.setIfInBounds_toArray, List.set_cons_zero, List.set_cons_succ]
                  refine take_at (i := 13) (d := 109) (v := ?_) (by simp only [List.getElem?_toArray, List.getElem?_cons_succ, List.getElem?_cons_zero]; rfl) rfl (by kernel_rfl) (by kernel_rfl) (by kernel_rfl) (fun _ _ _ h => h) rfl ?_ (by assumption) ?_
                  rotate_left
                  focus (intro w hSw; go_simp; (try with_reducible rfl); done)
                  try simp only [List.setIfInBounds_toArray, List.set_cons_zero, List.set_cons_succ]
                  refine take_at (i := 14) (d := 110) (v := ?_) (by simp only [List.getElem?_toArray, List.getElem?_cons_succ, List.getElem?_cons_zero]; rfl) rfl (by kernel_rfl) (by kernel_rfl) (by kernel_rfl) (fun _ _ _ h => h) rfl ?_ (by assumption) ?_
                  rotate_left
                  focus (intro w hSw; go_simp; (try with_reducible rfl); done)
                  try simp only [List.setIfInBounds_toArray, List.set_cons_zero, List.set_cons_succ]
                  refine take_at (i := 15) (d := 111) (v := ?_) (by simp only [List.getElem?_toArray, List.getElem?_cons_succ, List.getElem?_cons_zero]; rfl) rfl (by kernel_rfl) (by kernel_rfl) (by kernel_rfl) (fun _ _ _ h => h) rfl ?_ (by assumption) ?_
                  rotate_left
                  focus (intro w hSw; go_simp; (try with_reducible rfl); done)
                  try simp only [List.setIfInBounds_toArray, List.set_cons_zero, List.set_cons_succ]
                  refine take_at (i := 16) (d := 112) (v := ?_) (by simp only [List.getElem?_toArray, List.getElem?_cons_succ, List.getElem?_cons_zero]; rfl) rfl (by kernel_rfl) (by kernel_rfl) (by kernel_rfl) (fun _ _ _ h => h) rfl ?_ (by assumption) ?_
                  rotate_left
                  focus (intro w hSw; go_simp; (try with_reducible rfl); done)
                  try simp only [List.setIfInBounds_toArray, List.set_cons_zero, List.set_cons_succ]
                  refine take_at (i := 17) (d := 113) (v := ?_) (by simp only [List.getElem?_toArray, List.getElem?_cons_succ, List.getElem?_cons_zero]; rfl) rfl (by kernel_rfl) (by kernel_rfl) (by kernel_rfl) (fun _ _ _ h => h) rfl ?_ (by assumption) ?_
                  rotate_left
                  focus (intro w hSw; go_simp; (try with_reducible rfl); done)
                  try simp only [List.setIfInBounds_toArray, List.set_cons_zero, List.set_cons_succ]
                  refine call_at (i := 12) (d := 108) (by simp only [List.getElem?_toArray, List.getElem?_cons_succ, List.getElem?_cons_zero]; rfl) rfl (by kernel_rfl) rfl (fun K hK => ?_)
                  go_simp
                  refine (rgive_any _ Fv (f : Int) (t : Int) e3).mono ?_
                  rintro e y1 ⟨rfl, hy1⟩
                  have hS1 : Kept u y1 := hS0.below (by first | (simp; done) | (simp; omega)) hy1
                  have HY1 := hide hy1
                  clear hy1
                  go_wp2_with fail
                  refine hK.out _ _ hS1 (fun hSn => ?_)
                  clear hK K
                  try simp only [List.setIfInBounds_toArray, List.set_cons_zero, List.set_cons_succ]
                  refine take_at (i := 18) (d := 114) (v := ?_) (by simp only [List.getElem?_toArray, List.getElem?_cons_succ, List.getElem?_cons_zero]; rfl) rfl (by kernel_rfl) (by kernel_rfl) (by kernel_rfl) (fun _ _ _ h => h) rfl ?_ (by assumption) ?_
                  rotate_left
                  focus (intro w hSw; go_simp; (try with_reducible rfl); done)
                  try simp only [List.setIfInBounds_toArray, List.set_cons_zero, List.set_cons_succ]
                  refine take_at (i := 19) (d := 115) (v := ?_) (by simp only [List.getElem?_toArray, List.getElem?_cons_succ, List.getElem?_cons_zero]; rfl) rfl (by kernel_rfl) (by kernel_rfl) (by kernel_rfl) (fun _ _ _ h => h) rfl ?_ (by assumption) ?_
                  rotate_left
                  focus (intro w hSw; go_simp; (try with_reducible rfl); done)
                  try simp only [List.setIfInBounds_toArray, List.set_cons_zero, List.set_cons_succ]
                  refine wpAnyH_done (by kernel_rfl) ?_ _
                  clear hS0 hSn
                  obtain ⟨d, hd⟩ : ∃ d, dadd Fv e3 = d := ⟨_, rfl⟩
                  rw [hd] at hMk ⊢
                  have hYb : Below u.heap.size u y1 := (Below.refl u.heap.size u).drew.trans HY1.out
                  have ye1 := (hS1 ⟨wr.heap.size, 1, none⟩ hlu).trans ue1
                  have yrow := hide ((hYb.block G hlG).trans HRU.out)
                  have yrt := row_bat yrow.out (k := t) (by omega)
                  have yfz := frozen_of_row _ _ t _ _ yrow.out
                  have hkY : Hid (Kept v y1) := hide (hku.out.below (by omega) hYb)
                  have hwY := hide (hwu.out.trans (hYb.mono hwu.out.size))
                  have hnew := heap_setCell_same _ _ t _ _ (.bool true) yrow.out
                  rw [List.setIfInBounds_toArray, bools_set] at hnew
                  have HNew := hide hnew
                  have HKs : Hid (Kept v (y1.setCell ⟨G, t, none⟩ (.bool true))) := hide (fun p hp => (World.cell?_setCell_far y1 ⟨G, t, none⟩ p _ (by first | (show p.block ≠ G; omega) | (show G ≠ p.block; omega))).trans (hkY.out p hp))
                  have HBs := hide (hwY.out.setCell (p := ⟨G, t, none⟩) (by show _ ≤ G; omega) (.bool true))
                  clear hS1 HY1 hYb ue0 ue1 ue2 uf ut urf hku hwu hd HRU HU hnew
                  by_cases hdX : d = X
                  · have HPS : Hid (pass vals es r = (es.drop (k + 1)).foldl (mark vals) (r'.set t true)) := hide (by rw [hps.out, HStep.out, hMk.out, if_pos (by first | exact ⟨rfl, hdX⟩ | exact ⟨trivial, hdX⟩)])
                    subst hdX
                    go_wp2
                    go_roundw
                    case rel => exact ⟨k + 1, r'.set t true, by omega, by go_num, by rw [List.length_set]; exact hrl', HPS, HNew, HKs, HBs⟩
                    case measure => simp [intOf]; omega
                  · have HPS : Hid (pass vals es r = (es.drop (k + 1)).foldl (mark vals) r') := hide (by rw [hps.out, HStep.out, hMk.out, if_neg (fun h => hdX h.2)])
                    go_wp2
                    go_roundw
                    case rel => exact ⟨k + 1, r', by omega, by go_num, hrl', HPS, yrow, hkY, hwY⟩
                    case measure => simp [intOf]; omega
              · obtain rfl : k = i := by omega
                have hpf : pass vals es r = r' := by rw [hps.out, ← HL.out, List.drop_length]; rfl
                have HRN : Hid (rounds vals es M r0 = rounds vals es (M - (n + 1)) r') := hide (by rw [hrnd.out, HNext.out, hpf])
                clear hpf
                go_wp2
                go_roundw
                case rel => exact ⟨n + 1, r', by omega, by go_num, hrl', HRN, hrw, hkr, hbr⟩
                case measure => simp [intOf]; omega
          · obtain rfl : M = n := by omega
            have hrr : rounds vals es M r0 = r := by rw [hrnd.out, Nat.sub_self]; rfl
            have HTF : Hid (rtightF (M : Int) es (q : Int) vals = lastOk vals r 0) := hide (by rw [HT.out, HVI.out, hrr]; rfl)
            clear hrr hrnd
            go_wp2
            obtain ⟨wo, hwo⟩ : ∃ wo, wr = wo := ⟨_, rfl⟩
            subst hwo
            go_loop [12] (fun vi => ∃ j : Nat, j ≤ M ∧ vi = .int .i64 j ∧ Hid (lastOk vals r 0 = lastOk vals r j)) (fun vi => M - (intOf vi).toNat)
            case atStart => exact ⟨0, by omega, rfl, hide rfl⟩
            case round =>
              obtain ⟨j, hj, rfl, hla⟩ := hrel
              by_cases hjM : j < M
              · have zc := ((hkn.out ⟨b2, off2 + j, none⟩ (by show b2 < _; omega)).trans (at_cell HR.out (by rw [HM.out]; exact hjM)))
                have zr := row_bat hrw.out (k := j) (by omega)
                have HS := hide (last_step vals r j (by rw [HM.out]; exact hjM))
                have HA : Hid (lastAt vals r j = (decide (0 ≤ at_ vals (j : Int)) && decide (at_ vals (j : Int) ≤ 4611686018427387904) && (!decide (at_ vals (j : Int) < 4611686018427387904) || bat r (j : Int)))) := hide rfl
                obtain ⟨x, hx⟩ : ∃ x, at_ vals (j : Int) = x := ⟨_, rfl⟩
                obtain ⟨rb, hrb⟩ : ∃ rb, bat r (j : Int) = rb := ⟨_, rfl⟩
                rw [hx] at zc HA
                rw [hrb] at zr HA
                have hj0 : (0 : Int) ≤ (j : Int) := by omega
                have hj1 : (j : Int) < (M : Int) := by omega
                clear hx hrb
                have hfin : lastAt vals r j = false → rtightF (M : Int) es (q : Int) vals = false := fun h => by rw [HTF.out, hla.out, HS.out, h]; rfl
                have hgo : lastAt vals r j = true → lastOk vals r 0 = lastOk vals r (j + 1) := fun h => by rw [hla.out, HS.out, h]; rfl
                have HFin := hide hfin
                have HGo := hide hgo
                clear hfin hgo
                by_cases h1 : x < 0
                · have HF := hide (HFin.out (by rw [HA.out, decide_eq_false (by omega)]; rfl))
                  go_wp2
                  go_ret
                  exact ⟨ret_bool (by rw [HF.out]), hbn.out⟩
                · by_cases h2 : 4611686018427387904 < x
                  · have HF := hide (HFin.out (by rw [HA.out, decide_eq_true (show 0 ≤ x by omega), decide_eq_false (show ¬ x ≤ 4611686018427387904 by omega)]; rfl))
                    go_wp2
                    go_ret
                    exact ⟨ret_bool (by rw [HF.out]), hbn.out⟩
                  · by_cases h3 : x < 4611686018427387904
                    · cases rb
                      · have HF := hide (HFin.out (by rw [HA.out, decide_eq_true (show 0 ≤ x by omega), decide_eq_true (show x ≤ 4611686018427387904 by omega), decide_eq_true h3]; rfl))
                        go_wp2
                        go_ret
                        exact ⟨ret_bool (by rw [HF.out]), hbn.out⟩
                      · have HG := hide (HGo.out (by rw [HA.out, decide_eq_true (show 0 ≤ x by omega), decide_eq_true (show x ≤ 4611686018427387904 by omega), decide_eq_true h3]; rfl))
                        go_wp2
                        go_round
                        case rel => exact ⟨j + 1, by omega, by go_num, HG⟩
                        case measure => simp [intOf]; omega
                    · have HG := hide (HGo.out (by rw [HA.out, decide_eq_true (show 0 ≤ x by omega), decide_eq_true (show x ≤ 4611686018427387904 by omega), decide_eq_false h3]; rfl))
                      go_wp2
                      go_round
                      case rel => exact ⟨j + 1, by omega, by go_num, HG⟩
                      case measure => simp [intOf]; omega
              · obtain rfl : M = j := by omega
                have HF : Hid (rtightF (M : Int) es (q : Int) vals = true) := hide (by rw [HTF.out, hla.out, ← HM.out]; exact last_end _ _)
                go_wp2
                go_ret
                exact ⟨ret_bool (by rw [HF.out]), hbn.out⟩
  · have HF : Hid (rtightF V es s vals = false) := hide (by rw [rtightF, if_neg hgood])
    have cg0 : v.cell? ⟨w.heap.size, 0, none⟩ = some (.int .i64 V) := cell_of_row _ _ 0 _ _ _ HCG.out
    have cg1 : v.cell? ⟨w.heap.size, 1, none⟩ = some (.slice A L c) := cell_of_row _ _ 1 _ _ _ HCG.out
    by_cases hchk : checkF V es = 0
    · obtain ⟨hV1, hV2, _⟩ := checkF_zero hchk
      have HChk := hide hchk
      by_cases h1 : s < 0
      · have HG := hide hgood
        clear hgood hchk
        go_enter Try.func17, Try.ntmps17
        go_wp2_with fail
        rw [HV.out]
        refine (rcheck_any _ _ A es L c HL.out (HE.out.more (Nat.le_of_lt hlg)) hc).mono ?_
        rintro e w1 ⟨rfl, hb1⟩
        have g0 := (hb1.cell (p := ⟨w.heap.size, 0, none⟩) hlg).trans cg0
        have hbw := hide (HB.out.trans (hb1.mono (by omega)))
        rw [HChk.out]
        clear hb1
        go_wp2
        go_ret
        exact ⟨ret_bool (by rw [HF.out]), hbw.out⟩
      · by_cases h2 : V ≤ s
        · have HG := hide hgood
          clear hgood hchk
          go_enter Try.func17, Try.ntmps17
          go_wp2_with fail
          rw [HV.out]
          refine (rcheck_any _ _ A es L c HL.out (HE.out.more (Nat.le_of_lt hlg)) hc).mono ?_
          rintro e w1 ⟨rfl, hb1⟩
          have g0 := (hb1.cell (p := ⟨w.heap.size, 0, none⟩) hlg).trans cg0
          have hbw := hide (HB.out.trans (hb1.mono (by omega)))
          rw [HChk.out]
          clear hb1
          go_wp2
          go_ret
          exact ⟨ret_bool (by rw [HF.out]), hbw.out⟩
        · by_cases h3 : (M : Int) = V
          · obtain ⟨q, rfl⟩ := Int.eq_ofNat_of_zero_le (show 0 ≤ s by omega)
            obtain ⟨b2, off2, rfl, hb2, _⟩ := HR.out.at_ (k := q) (by rw [List.length_map, HM.out]; omega)
            have cs0 := at_cell HR.out (k := q) (by rw [HM.out]; omega)
            have hne : ¬ at_ vals (q : Int) = 0 := fun h => hgood ⟨hchk, by omega, by omega, by rw [HM.out]; exact h3, h⟩
            subst h3
            obtain ⟨y, hy⟩ : ∃ y, at_ vals (q : Int) = y := ⟨_, rfl⟩
            rw [hy] at cs0 hne
            have hI0 : (0 : Int) ≤ (q : Int) := by omega
            have hI1 : (q : Int) < (M : Int) := by omega
            have HG := hide hgood
            clear hgood hchk hy
            have dq1 : decide ((q : Int) < 0) = false := decide_eq_false (by omega)
            have dq2 : decide (M ≤ q) = false := decide_eq_false (by omega)
            go_enter Try.func17, Try.ntmps17
            go_wp2_with fail
            rw [HV.out]
            refine (rcheck_any _ _ A es L c HL.out (HE.out.more (Nat.le_of_lt hlg)) hc).mono ?_
            rintro e w1 ⟨rfl, hb1⟩
            have g0 := (hb1.cell (p := ⟨w.heap.size, 0, none⟩) hlg).trans cg0
            have hbw := hide (HB.out.trans (hb1.mono (by omega)))
            rw [HChk.out]
            have g2 := (hb1.cell (p := ⟨b2, off2 + q, none⟩) (by show b2 < _; omega)).trans cs0
            clear hb1 cs0
            go_wp2
            go_ret
            exact ⟨ret_bool (by rw [HF.out]), hbw.out⟩
          · have HG := hide hgood
            clear hgood hchk
            go_enter Try.func17, Try.ntmps17
            go_wp2_with fail
            rw [HV.out]
            refine (rcheck_any _ _ A es L c HL.out (HE.out.more (Nat.le_of_lt hlg)) hc).mono ?_
            rintro e w1 ⟨rfl, hb1⟩
            have g0 := (hb1.cell (p := ⟨w.heap.size, 0, none⟩) hlg).trans cg0
            have hbw := hide (HB.out.trans (hb1.mono (by omega)))
            rw [HChk.out]
            clear hb1
            go_wp2
            go_ret
            exact ⟨ret_bool (by rw [HF.out]), hbw.out⟩
    · have HG := hide hgood
      clear hgood
      go_enter Try.func17, Try.ntmps17
      go_wp2_with fail
      rw [HV.out]
      refine (rcheck_any _ _ A es L c HL.out (HE.out.more (Nat.le_of_lt hlg)) hc).mono ?_
      rintro e w1 ⟨rfl, hb1⟩
      have g0 := (hb1.cell (p := ⟨w.heap.size, 0, none⟩) hlg).trans cg0
      have hbw := hide (HB.out.trans (hb1.mono (by omega)))
      obtain ⟨z, hz⟩ : ∃ z, checkF V es = z := ⟨_, rfl⟩
      rw [hz] at hchk ⊢
      clear hb1 hz
      go_wp2
      go_ret
      exact ⟨ret_bool (by rw [HF.out]), hbw.out⟩
end Go.Proofs.Ytmlpcfeadacoeaa
