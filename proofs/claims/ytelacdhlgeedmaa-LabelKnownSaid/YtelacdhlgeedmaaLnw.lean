/- The walk of the statement LabelNear. -/
import Derived.Test.YtelacdhlgeedmaaLrf
import Derived.Test.YtelacdhlgeedmaaLwk
import Derived.Test.YtelacdhlgeedmaaSme
import Derived.Test.YtelacdhlgeedmaaOed
namespace Go.Proofs.Ytelacdhlgeedmaa
open Go.ChangeShapes Go.WideShapes Go.ChangeAt Go.RowKit
set_option linter.unusedVariables false
set_option linter.unusedSimpArgs false
theorem near_bound (v : Int) (outs backs : List Ed) : (rnearF v outs backs).length ≤ outs.length + backs.length := by
  have h : ∀ (xs l : List Int), (putAll v l xs).length ≤ l.length + xs.length := fun xs => by
    induction xs with
    | nil => intro l; exact Nat.le_refl _
    | cons x xs ih =>
      intro l
      have e : putAll v l (x :: xs) = putAll v (if x = v then l else putF l x) xs := rfl
      rw [e]
      have h1 := ih (if x = v then l else putF l x)
      have h2 : (if x = v then l else putF l x).length ≤ l.length + 1 := by
        split
        · omega
        · exact put_len l x
      rw [List.length_cons]
      omega
  unfold rnearF
  have h1 := h (froms backs) (putAll v [] (tos outs))
  have h2 := h (tos outs) []
  have h3 : (froms backs).length = backs.length := by simp [froms]
  have h4 : (tos outs).length = outs.length := by simp [tos]
  simp only [List.length_nil] at h2
  omega
set_option maxRecDepth 100000 in
set_option maxHeartbeats 4000000 in
theorem labelNear_walk (w : World) (v : Int) (_ : -9223372036854775808 ≤ v) (_ : v ≤ 9223372036854775807) (A1 : Option Addr) (outs : List Ed) (c1 : Nat) (e1 : Eds w w.heap.size A1 outs) (hc1 : outs.length ≤ c1) (_ : c1 ≤ 9223372036854775807) (_ : ∀ e ∈ outs, edB e) (A2 : Option Addr) (backs : List Ed) (c2 : Nat) (e2 : Eds w w.heap.size A2 backs) (hc2 : backs.length ≤ c2) (_ : c2 ≤ 9223372036854775807) (_ : ∀ e ∈ backs, edB e) :
    Calls Try.prog 3 #[.int .i64 v, .slice A1 outs.length c1, .slice A2 backs.length c2] w fun e w' => e = .returned (.bool true) ∧ Below w.heap.size w w' := by
  obtain ⟨n1, hn1⟩ : ∃ n, outs.length = n := ⟨_, rfl⟩
  obtain ⟨n2, hn2⟩ : ∃ n, backs.length = n := ⟨_, rfl⟩
  rw [hn1] at hc1 ⊢
  rw [hn2] at hc2 ⊢
  have E1 := hide e1
  have E2 := hide e2
  have HL1 := hide hn1
  have HL2 := hide hn2
  clear e1 e2 hn1 hn2
  by_cases hbig : 200 < n1 ∨ 200 < n2
  · by_cases h1 : n1 ≤ 200
    · have g1 : ¬ (200 : Int) < (n1 : Int) := by omega
      have g2 : (200 : Int) < (n2 : Int) := by omega
      clear hbig
      go_enter Try.func3, Try.ntmps3
      go_wp2_with fail
      refine (works_any _).mono ?_
      rintro e y2 ⟨rfl, k2⟩
      have K2 := hide k2
      clear k2
      go_wp2
      go_ret
      exact ⟨rfl, K2.out⟩
    · have g1 : (200 : Int) < (n1 : Int) := by omega
      clear hbig
      go_enter Try.func3, Try.ntmps3
      go_wp2_with fail
      refine (works_any _).mono ?_
      rintro e y2 ⟨rfl, k2⟩
      have K2 := hide k2
      clear k2
      go_wp2
      go_ret
      exact ⟨rfl, K2.out⟩
  · have g1 : ¬ (200 : Int) < (n1 : Int) := by omega
    have g2 : ¬ (200 : Int) < (n2 : Int) := by omega
    have g3 : n1 ≤ 200 := by omega
    have g4 : n2 ≤ 200 := by omega
    obtain ⟨i0, hi0, hz0, hz1, hz2⟩ := info_parts (show (Try.prog.info? 42).map (fun i => (i.zero, i.size, i.bytes)) = some (some (.agg #[.int .i64 0, .int .i64 0, .int .i64 0]), 3, 24) by kernel_rfl)
    have hwt1 := hide E1.out.wt
    have hwt2 := hide E2.out.wt
    clear hbig
    go_enter Try.func3, Try.ntmps3
    go_wp2_with (first
      | (at_builtin; refine wpList_app rfl (.tmp 19) (.tmp 20) 22 rfl w.heap.size 42 i0 (.agg #[.int .i64 0, .int .i64 0, .int .i64 0]) 3 24 Try.underlying22 hi0 hz0 hz1 hz2 rfl (by decide) (.slice none 0 0) 0 [] rfl (World.ownsRow_nil _ _ _ _) w.heap.size A1 n1 c1 (edFlat outs) rfl (by rw [edFlat_len, HL1.out]) E1.out.rd (edFlat_one _) (by unfold maxLen; omega) (by omega) (Nat.le_refl _) ?_; intro A3 c3 y1 hown1 hg1 hat1; have hb1 : Below w.heap.size w y1 := (Below.refl _ w).grown hg1 (Nat.le_refl _) (fun k e => by cases e); clear hg1 hat1)
      | (at_builtin; refine wpList_app rfl (.tmp 22) (.tmp 23) 22 rfl y1.heap.size 42 i0 (.agg #[.int .i64 0, .int .i64 0, .int .i64 0]) 3 24 Try.underlying22 hi0 hz0 hz1 hz2 rfl (by decide) (.slice none 0 0) 0 [] rfl (World.ownsRow_nil _ _ _ _) w.heap.size A2 n2 c2 (edFlat backs) rfl (by rw [edFlat_len, HL2.out]) ((E2.out.rd).below hb1) (edFlat_one _) (by unfold maxLen; omega) (by omega) (Nat.le_refl _) ?_; intro A4 c4 y2 hown2 hg2 hat2; have hb2 : Below y1.heap.size y1 y2 := (Below.refl _ y1).grown hg2 (Nat.le_refl _) (fun k e => by cases e); clear hg2 hat2)
      | fail)
    have Ea : Hid (Eds y2 y2.heap.size A3 outs) := hide (Eds.of_rd (((Rd.of_own hown1).below hb2).more hb2.size) hwt1.out)
    have Eb : Hid (Eds y2 y2.heap.size A4 backs) := hide (Eds.of_rd (Rd.of_own hown2) hwt2.out)
    have KB2 := hide (hb1.trans (hb2.mono hb1.size))
    have F1 : Hid (Eds y2 y2.heap.size A1 outs) := hide ((E1.out.below KB2.out (Nat.le_refl _)).more KB2.out.size)
    have F2 : Hid (Eds y2 y2.heap.size A2 backs) := hide ((E2.out.below KB2.out (Nat.le_refl _)).more KB2.out.size)
    have hnb := near_bound v outs backs
    rw [HL1.out, HL2.out] at hnb
    obtain ⟨L, hL⟩ : ∃ L, rnearF v outs backs = L := ⟨_, rfl⟩
    rw [hL] at hnb
    have HR := hide hL
    have HN : Hid (nearF v outs backs = L) := hide ((near_eq v outs backs).trans hL)
    obtain ⟨m, hm⟩ : ∃ m, L.length = m := ⟨_, rfl⟩
    rw [hm] at hnb
    have HM := hide hm
    clear hown1 hown2 hb1 hb2 hL hm
    refine (near_any _ v A3 A4 outs backs n1 c3 n2 c4 HL1.out HL2.out (by omega) (by omega) Ea.out Eb.out).mono ?_
    rintro e y3 ⟨A5, c5, rfl, hown, k3⟩
    rw [HN.out, HM.out] at hown
    rw [HN.out, HM.out]
    have R3 := hide (Rd.of_own hown)
    have K3 := hide (KB2.out.trans (k3.mono KB2.out.size))
    have Ea3 := hide (Ea.out.next k3)
    have Eb3 := hide (Eb.out.next k3)
    have G1 := hide (F1.out.next k3)
    have G2 := hide (F2.out.next k3)
    clear hown k3
    go_wp2_with fail
    refine (rnear_any _ v A1 A2 outs backs n1 c1 n2 c2 HL1.out HL2.out (by omega) (by omega) G1.out G2.out).mono ?_
    rintro e y4 ⟨A6, c6, rfl, r4, _, _, k4⟩
    rw [HR.out] at r4
    rw [HR.out, HM.out]
    have R4 := hide r4
    have R34 := hide (R3.out.next k4)
    have K4 := hide (K3.out.trans (k4.mono K3.out.size))
    have Ea4 := hide (Ea3.out.next k4)
    have Eb4 := hide (Eb3.out.next k4)
    have I1 := hide (G1.out.next k4)
    have I2 := hide (G2.out.next k4)
    clear r4 k4
    go_wp2_with fail
    refine (sameInts_of true (eqL_self L) HM.out HM.out (by omega) R34.out R4.out).mono ?_
    rintro e y5 ⟨rfl, k5⟩
    have K5 := hide (K4.out.trans (k5.mono K4.out.size))
    have Ea5 := hide (Ea4.out.next k5)
    have Eb5 := hide (Eb4.out.next k5)
    have J1 := hide (I1.out.next k5)
    have J2 := hide (I2.out.next k5)
    clear k5
    go_wp2_with fail
    refine (sameEdges_any _ A3 A1 outs outs n1 n1 c3 c1 HL1.out HL1.out (by omega) Ea5.out J1.out).mono ?_
    rintro e y6 ⟨rfl, k6⟩
    rw [eqL_self]
    have K6 := hide (K5.out.trans (k6.mono K5.out.size))
    have Eb6 := hide (Eb5.out.next k6)
    have L2 := hide (J2.out.next k6)
    clear k6
    go_wp2_with fail
    refine (sameEdges_any _ A4 A2 backs backs n2 n2 c4 c2 HL2.out HL2.out (by omega) Eb6.out L2.out).mono ?_
    rintro e y7 ⟨rfl, k7⟩
    rw [eqL_self]
    have K7 := hide (K6.out.trans (k7.mono K6.out.size))
    clear k7
    go_wp2_with fail
    refine (works_any _).mono ?_
    rintro e y8 ⟨rfl, k8⟩
    have K8 := hide (K7.out.trans (k8.mono K7.out.size))
    clear k8
    go_wp2
    go_ret
    exact ⟨rfl, K8.out⟩
end Go.Proofs.Ytelacdhlgeedmaa
