/- The walks of LabelTake and LabelMarks. -/
import Derived.Test.YtelacdhlgeedmaaLwk
import Derived.Test.YtelacdhlgeedmaaOml
namespace Go.Proofs.Ytelacdhlgeedmaa
open Go.ChangeShapes Go.WideShapes Go.ChangeAt Go.RowKit
set_option linter.unusedVariables false
set_option linter.unusedSimpArgs false
theorem ltake_shape (v : Int) (h : Bool) (x : Int) : ((ltakeOf v h x).2 = true ∧ (ltakeOf v h x).1 < v) ∨ ((ltakeOf v h x).2 = false ∧ (ltakeOf v h x).1 = v) := by
  unfold ltakeOf
  split
  · rename_i g; exact .inl ⟨rfl, g.2⟩
  · exact .inr ⟨rfl, rfl⟩
theorem ltake_again (v : Int) (h : Bool) (x : Int) : ltakeOf (ltakeOf v h x).1 h x = ((ltakeOf v h x).1, false) := by
  unfold ltakeOf
  by_cases g : h = true ∧ x < v
  · rw [if_pos g]
    exact if_neg (fun k => Int.lt_irrefl _ k.2)
  · rw [if_neg g]
    exact if_neg g
theorem ltake_first (v : Int) (h : Bool) (x : Int) : (ltakeOf v h x).1 = if h = true then min v x else v := by
  unfold ltakeOf
  cases h
  · rfl
  · by_cases g : x < v
    · rw [if_pos ⟨rfl, g⟩, if_pos rfl]; dsimp only; omega
    · rw [if_neg (fun k => g k.2), if_pos rfl]; dsimp only; omega
theorem ltake_swap (v : Int) (h1 : Bool) (x1 : Int) (h2 : Bool) (x2 : Int) : (ltakeOf (ltakeOf v h1 x1).1 h2 x2).1 = (ltakeOf (ltakeOf v h2 x2).1 h1 x1).1 := by
  rw [ltake_first, ltake_first, ltake_first, ltake_first]
  cases h1 <;> cases h2 <;> simp <;> omega
set_option maxRecDepth 100000 in
set_option maxHeartbeats 4000000 in
theorem labelTake_walk (w : World) (v : Int) (hv1 : -9223372036854775808 ≤ v) (hv2 : v ≤ 9223372036854775807) (h1 : Bool) (x1 : Int) (_ : -9223372036854775808 ≤ x1) (_ : x1 ≤ 9223372036854775807) (h2 : Bool) (x2 : Int) (_ : -9223372036854775808 ≤ x2) (_ : x2 ≤ 9223372036854775807) :
    Calls Try.prog 4 #[.int .i64 v, .agg #[.bool h1, .int .i64 x1], .agg #[.bool h2, .int .i64 x2]] w fun e w' => e = .returned (.bool true) ∧ Below w.heap.size w w' := by
  obtain ⟨u, hu⟩ : ∃ u, (w.alloc (.cells #[.bool h1, .int .i64 x1] 30)).alloc (.cells #[.bool h2, .int .i64 x2] 30) = u := ⟨_, rfl⟩
  have hz : u.heap.size = w.heap.size + 2 := by rw [← hu]; simp
  have hb : Below w.heap.size w u := by rw [← hu]; exact ((Below.refl _ _).alloc (Nat.le_refl _) _).alloc (by simp) _
  have ca : u.heap[w.heap.size]? = some (.cells #[.bool h1, .int .i64 x1] 30) := by rw [← hu]; exact (Below.heap_alloc _ _ _ (by simp)).trans (heap_alloc_last w _)
  have cb : u.heap[w.heap.size + 1]? = some (.cells #[.bool h2, .int .i64 x2] 30) := by
    rw [← hu]
    have := heap_alloc_last (w.alloc (.cells #[.bool h1, .int .i64 x1] 30)) (.cells #[.bool h2, .int .i64 x2] 30)
    rw [World.size_alloc] at this
    exact this
  have CA0 := hide (show u.cell? ⟨w.heap.size, 0, none⟩ = some (.bool h1) from cell_of_row _ _ 0 _ _ _ ca)
  have CA1 := hide (show u.cell? ⟨w.heap.size, 1, none⟩ = some (.int .i64 x1) from cell_of_row _ _ 1 _ _ _ ca)
  have CB0 := hide (show u.cell? ⟨w.heap.size + 1, 0, none⟩ = some (.bool h2) from cell_of_row _ _ 0 _ _ _ cb)
  have CB1 := hide (show u.cell? ⟨w.heap.size + 1, 1, none⟩ = some (.int .i64 x2) from cell_of_row _ _ 1 _ _ _ cb)
  have hl0 : w.heap.size < u.heap.size := by omega
  have hl1 : w.heap.size + 1 < u.heap.size := by omega
  have a0 := CA0.out
  have a1 := CA1.out
  have b0 := CB0.out
  have b1 := CB1.out
  have HU := hide hu
  have HB := hide hb
  clear hu hb hz ca cb
  have hsh := ltake_shape v h1 x1
  have hag := ltake_again v h1 x1
  have hsw := ltake_swap v h1 x1 h2 x2
  obtain ⟨A, C, hAC⟩ : ∃ A C, ltakeOf v h1 x1 = (A, C) := ⟨_, _, rfl⟩
  rw [hAC] at hsh hag hsw
  obtain ⟨P, C2, hP⟩ : ∃ P C2, ltakeOf A h2 x2 = (P, C2) := ⟨_, _, rfl⟩
  obtain ⟨Q, C3, hQ⟩ : ∃ Q C3, ltakeOf v h2 x2 = (Q, C3) := ⟨_, _, rfl⟩
  obtain ⟨R, C4, hR⟩ : ∃ R C4, ltakeOf Q h1 x1 = (R, C4) := ⟨_, _, rfl⟩
  dsimp only at hsh hag hsw
  rw [hP, hQ] at hsw
  dsimp only at hsw
  rw [hR] at hsw
  dsimp only at hsw
  subst hsw
  have HAC := hide hAC
  have HAG := hide hag
  have HP := hide hP
  have HQ := hide hQ
  have HR := hide hR
  clear hAC hag hP hQ hR
  have hAv : A ≤ v := by rcases hsh with h | h <;> omega
  have hdA : decide (v < A) = false := decide_eq_false (by omega)
  have hor : (C = true ∧ (A != v) = true) ∨ (C = false ∧ (A != v) = false) := by
    rcases hsh with ⟨h, g⟩ | ⟨h, g⟩
    · exact .inl ⟨h, by simp only [bne_iff_ne, ne_eq]; omega⟩
    · exact .inr ⟨h, by rw [g]; simp⟩
  clear hsh
  rcases hor with ⟨rfl, hne⟩ | ⟨rfl, hne⟩
  · go_enter Try.func4, Try.ntmps4
    go_wp2_with fail
    rw [HU.out]
    go_wp2_with fail
    refine (ltake_any _ v h1 x1).mono ?_
    rintro e y1 ⟨rfl, k0⟩
    rw [HAC.out]
    have K0 := hide (HB.out.trans (k0.mono HB.out.size))
    have KV0 : Hid (Kept u y1) := hide (fun p hp => k0.cell hp)
    have HS0 : Hid (u.heap.size ≤ y1.heap.size) := hide k0.size
    clear k0 a0 a1 b0 b1
    have a0 := (KV0.out ⟨w.heap.size, 0, none⟩ hl0).trans CA0.out
    have a1 := (KV0.out ⟨w.heap.size, 1, none⟩ hl0).trans CA1.out
    have b0 := (KV0.out ⟨w.heap.size + 1, 0, none⟩ hl1).trans CB0.out
    have b1 := (KV0.out ⟨w.heap.size + 1, 1, none⟩ hl1).trans CB1.out
    go_wp2_with fail
    refine (rltake_any _ v h1 x1).mono ?_
    rintro e y2 ⟨rfl, k1⟩
    rw [HAC.out]
    have K1 := hide (K0.out.trans (k1.mono K0.out.size))
    have KV1 : Hid (Kept u y2) := hide (KV0.out.below HS0.out k1)
    have HS1 : Hid (u.heap.size ≤ y2.heap.size) := hide (Nat.le_trans HS0.out k1.size)
    clear k1 a0 a1 b0 b1
    have a0 := (KV1.out ⟨w.heap.size, 0, none⟩ hl0).trans CA0.out
    have a1 := (KV1.out ⟨w.heap.size, 1, none⟩ hl0).trans CA1.out
    have b0 := (KV1.out ⟨w.heap.size + 1, 0, none⟩ hl1).trans CB0.out
    have b1 := (KV1.out ⟨w.heap.size + 1, 1, none⟩ hl1).trans CB1.out
    go_wp2_with fail
    refine (ltake_any _ A h1 x1).mono ?_
    rintro e y3 ⟨rfl, k2⟩
    rw [HAG.out]
    have K2 := hide (K1.out.trans (k2.mono K1.out.size))
    have KV2 : Hid (Kept u y3) := hide (KV1.out.below HS1.out k2)
    have HS2 : Hid (u.heap.size ≤ y3.heap.size) := hide (Nat.le_trans HS1.out k2.size)
    clear k2 a0 a1 b0 b1
    have a0 := (KV2.out ⟨w.heap.size, 0, none⟩ hl0).trans CA0.out
    have a1 := (KV2.out ⟨w.heap.size, 1, none⟩ hl0).trans CA1.out
    have b0 := (KV2.out ⟨w.heap.size + 1, 0, none⟩ hl1).trans CB0.out
    have b1 := (KV2.out ⟨w.heap.size + 1, 1, none⟩ hl1).trans CB1.out
    go_wp2_with fail
    refine (ltake_any _ A h2 x2).mono ?_
    rintro e y4 ⟨rfl, k3⟩
    rw [HP.out]
    have K3 := hide (K2.out.trans (k3.mono K2.out.size))
    have KV3 : Hid (Kept u y4) := hide (KV2.out.below HS2.out k3)
    have HS3 : Hid (u.heap.size ≤ y4.heap.size) := hide (Nat.le_trans HS2.out k3.size)
    clear k3 a0 a1 b0 b1
    have a0 := (KV3.out ⟨w.heap.size, 0, none⟩ hl0).trans CA0.out
    have a1 := (KV3.out ⟨w.heap.size, 1, none⟩ hl0).trans CA1.out
    have b0 := (KV3.out ⟨w.heap.size + 1, 0, none⟩ hl1).trans CB0.out
    have b1 := (KV3.out ⟨w.heap.size + 1, 1, none⟩ hl1).trans CB1.out
    go_wp2_with fail
    refine (ltake_any _ v h2 x2).mono ?_
    rintro e y5 ⟨rfl, k4⟩
    rw [HQ.out]
    have K4 := hide (K3.out.trans (k4.mono K3.out.size))
    have KV4 : Hid (Kept u y5) := hide (KV3.out.below HS3.out k4)
    have HS4 : Hid (u.heap.size ≤ y5.heap.size) := hide (Nat.le_trans HS3.out k4.size)
    clear k4 a0 a1 b0 b1
    have a0 := (KV4.out ⟨w.heap.size, 0, none⟩ hl0).trans CA0.out
    have a1 := (KV4.out ⟨w.heap.size, 1, none⟩ hl0).trans CA1.out
    have b0 := (KV4.out ⟨w.heap.size + 1, 0, none⟩ hl1).trans CB0.out
    have b1 := (KV4.out ⟨w.heap.size + 1, 1, none⟩ hl1).trans CB1.out
    go_wp2_with fail
    refine (ltake_any _ Q h1 x1).mono ?_
    rintro e y6 ⟨rfl, k5⟩
    rw [HR.out]
    have K5 := hide (K4.out.trans (k5.mono K4.out.size))
    have KV5 : Hid (Kept u y6) := hide (KV4.out.below HS4.out k5)
    have HS5 : Hid (u.heap.size ≤ y6.heap.size) := hide (Nat.le_trans HS4.out k5.size)
    clear k5 a0 a1 b0 b1
    have a0 := (KV5.out ⟨w.heap.size, 0, none⟩ hl0).trans CA0.out
    have a1 := (KV5.out ⟨w.heap.size, 1, none⟩ hl0).trans CA1.out
    have b0 := (KV5.out ⟨w.heap.size + 1, 0, none⟩ hl1).trans CB0.out
    have b1 := (KV5.out ⟨w.heap.size + 1, 1, none⟩ hl1).trans CB1.out
    go_wp2_with fail
    refine (works_any _).mono ?_
    rintro e y7 ⟨rfl, k7⟩
    have K7 := hide (K5.out.trans (k7.mono K5.out.size))
    clear k7
    go_wp2
    go_ret
    exact ⟨rfl, K7.out⟩
  · go_enter Try.func4, Try.ntmps4
    go_wp2_with fail
    rw [HU.out]
    go_wp2_with fail
    refine (ltake_any _ v h1 x1).mono ?_
    rintro e y1 ⟨rfl, k0⟩
    rw [HAC.out]
    have K0 := hide (HB.out.trans (k0.mono HB.out.size))
    have KV0 : Hid (Kept u y1) := hide (fun p hp => k0.cell hp)
    have HS0 : Hid (u.heap.size ≤ y1.heap.size) := hide k0.size
    clear k0 a0 a1 b0 b1
    have a0 := (KV0.out ⟨w.heap.size, 0, none⟩ hl0).trans CA0.out
    have a1 := (KV0.out ⟨w.heap.size, 1, none⟩ hl0).trans CA1.out
    have b0 := (KV0.out ⟨w.heap.size + 1, 0, none⟩ hl1).trans CB0.out
    have b1 := (KV0.out ⟨w.heap.size + 1, 1, none⟩ hl1).trans CB1.out
    go_wp2_with fail
    refine (rltake_any _ v h1 x1).mono ?_
    rintro e y2 ⟨rfl, k1⟩
    rw [HAC.out]
    have K1 := hide (K0.out.trans (k1.mono K0.out.size))
    have KV1 : Hid (Kept u y2) := hide (KV0.out.below HS0.out k1)
    have HS1 : Hid (u.heap.size ≤ y2.heap.size) := hide (Nat.le_trans HS0.out k1.size)
    clear k1 a0 a1 b0 b1
    have a0 := (KV1.out ⟨w.heap.size, 0, none⟩ hl0).trans CA0.out
    have a1 := (KV1.out ⟨w.heap.size, 1, none⟩ hl0).trans CA1.out
    have b0 := (KV1.out ⟨w.heap.size + 1, 0, none⟩ hl1).trans CB0.out
    have b1 := (KV1.out ⟨w.heap.size + 1, 1, none⟩ hl1).trans CB1.out
    go_wp2_with fail
    refine (ltake_any _ A h1 x1).mono ?_
    rintro e y3 ⟨rfl, k2⟩
    rw [HAG.out]
    have K2 := hide (K1.out.trans (k2.mono K1.out.size))
    have KV2 : Hid (Kept u y3) := hide (KV1.out.below HS1.out k2)
    have HS2 : Hid (u.heap.size ≤ y3.heap.size) := hide (Nat.le_trans HS1.out k2.size)
    clear k2 a0 a1 b0 b1
    have a0 := (KV2.out ⟨w.heap.size, 0, none⟩ hl0).trans CA0.out
    have a1 := (KV2.out ⟨w.heap.size, 1, none⟩ hl0).trans CA1.out
    have b0 := (KV2.out ⟨w.heap.size + 1, 0, none⟩ hl1).trans CB0.out
    have b1 := (KV2.out ⟨w.heap.size + 1, 1, none⟩ hl1).trans CB1.out
    go_wp2_with fail
    refine (ltake_any _ A h2 x2).mono ?_
    rintro e y4 ⟨rfl, k3⟩
    rw [HP.out]
    have K3 := hide (K2.out.trans (k3.mono K2.out.size))
    have KV3 : Hid (Kept u y4) := hide (KV2.out.below HS2.out k3)
    have HS3 : Hid (u.heap.size ≤ y4.heap.size) := hide (Nat.le_trans HS2.out k3.size)
    clear k3 a0 a1 b0 b1
    have a0 := (KV3.out ⟨w.heap.size, 0, none⟩ hl0).trans CA0.out
    have a1 := (KV3.out ⟨w.heap.size, 1, none⟩ hl0).trans CA1.out
    have b0 := (KV3.out ⟨w.heap.size + 1, 0, none⟩ hl1).trans CB0.out
    have b1 := (KV3.out ⟨w.heap.size + 1, 1, none⟩ hl1).trans CB1.out
    go_wp2_with fail
    refine (ltake_any _ v h2 x2).mono ?_
    rintro e y5 ⟨rfl, k4⟩
    rw [HQ.out]
    have K4 := hide (K3.out.trans (k4.mono K3.out.size))
    have KV4 : Hid (Kept u y5) := hide (KV3.out.below HS3.out k4)
    have HS4 : Hid (u.heap.size ≤ y5.heap.size) := hide (Nat.le_trans HS3.out k4.size)
    clear k4 a0 a1 b0 b1
    have a0 := (KV4.out ⟨w.heap.size, 0, none⟩ hl0).trans CA0.out
    have a1 := (KV4.out ⟨w.heap.size, 1, none⟩ hl0).trans CA1.out
    have b0 := (KV4.out ⟨w.heap.size + 1, 0, none⟩ hl1).trans CB0.out
    have b1 := (KV4.out ⟨w.heap.size + 1, 1, none⟩ hl1).trans CB1.out
    go_wp2_with fail
    refine (ltake_any _ Q h1 x1).mono ?_
    rintro e y6 ⟨rfl, k5⟩
    rw [HR.out]
    have K5 := hide (K4.out.trans (k5.mono K4.out.size))
    have KV5 : Hid (Kept u y6) := hide (KV4.out.below HS4.out k5)
    have HS5 : Hid (u.heap.size ≤ y6.heap.size) := hide (Nat.le_trans HS4.out k5.size)
    clear k5 a0 a1 b0 b1
    have a0 := (KV5.out ⟨w.heap.size, 0, none⟩ hl0).trans CA0.out
    have a1 := (KV5.out ⟨w.heap.size, 1, none⟩ hl0).trans CA1.out
    have b0 := (KV5.out ⟨w.heap.size + 1, 0, none⟩ hl1).trans CB0.out
    have b1 := (KV5.out ⟨w.heap.size + 1, 1, none⟩ hl1).trans CB1.out
    go_wp2_with fail
    refine (works_any _).mono ?_
    rintro e y7 ⟨rfl, k7⟩
    have K7 := hide (K5.out.trans (k7.mono K5.out.size))
    clear k7
    go_wp2
    go_ret
    exact ⟨rfl, K7.out⟩
set_option maxRecDepth 100000 in
set_option maxHeartbeats 4000000 in
theorem labelMarks_walk (w : World) (A : Option Addr) (vals : List Int) (c : Nat) (hR : Rd w w.heap.size A (vals.map (Value.int .i64))) (hvb : ∀ x ∈ vals, (Lit.int .i64 x).wf = true) :
    Calls Try.prog 5 #[.slice A vals.length c] w fun e w' => e = .returned (.bool true) ∧ Below w.heap.size w w' := by
  obtain ⟨n, hn⟩ : ∃ n, vals.length = n := ⟨_, rfl⟩
  rw [hn]
  have HN := hide hn
  have HR := hide hR
  clear hn hR hvb
  by_cases hbig : 600 < n
  · have h6 : (600 : Int) < (n : Int) := by omega
    go_enter Try.func5, Try.ntmps5
    go_wp2_with fail
    refine (works_any _).mono ?_
    rintro e y7 ⟨rfl, k7⟩
    have K7 := hide k7
    clear k7
    go_wp2
    go_ret
    exact ⟨rfl, K7.out⟩
  · have h6 : ¬ (600 : Int) < (n : Int) := by omega
    obtain ⟨P, B, hm⟩ : ∃ P B, marksF vals = (P, B) := ⟨_, _, rfl⟩
    have HM := hide hm
    clear hm
    go_enter Try.func5, Try.ntmps5
    go_wp2_with fail
    refine (marks_any _ A vals n c HN.out (by omega) HR.out).mono ?_
    rintro e y1 ⟨rfl, rfl⟩
    rw [HM.out]
    go_wp2_with fail
    refine (rmarks_any _ A vals n c HN.out (by omega) HR.out).mono ?_
    rintro e y1 ⟨rfl, rfl⟩
    rw [HM.out]
    go_wp2_with fail
    refine (works_any _).mono ?_
    rintro e y7 ⟨rfl, k7⟩
    have K7 := hide k7
    clear k7
    go_wp2
    go_ret
    exact ⟨rfl, K7.out⟩
end Go.Proofs.Ytelacdhlgeedmaa
