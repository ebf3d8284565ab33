/- Which worker has a vertex: Of, of the program and of the document; may. -/
import Derived.Test.YtihdpfjonkagaaaProg
import Derived.Test.YtihdpfjonkagaaaMem
import Derived.Test.YtihdpfjonkagaaaKep
import Derived.Lib.Hide
import Derived.WalkSpells
import Derived.WalkMore
import Derived.IntWalk
namespace Go.Proofs.Ytihdpfjonkagaaa
open Go.RowKit
set_option linter.unusedVariables false
set_option linter.unusedSimpArgs false
def mayB (n : Int) : Bool := decide (1 ≤ n) && decide (n ≤ 64)
theorem mayB_iff {n : Int} : mayB n = true ↔ 1 ≤ n ∧ n ≤ 64 := by simp [mayB]
def ofF (v n : Int) : Int := if v < 0 ∨ 512 ≤ v ∨ n < 1 ∨ 64 < n then -1 else 2654435761 * v % 4294967296 * n / 4294967296
set_option maxRecDepth 100000 in
theorem may_any (w : World) (n : Int) : Calls Try.prog 29 #[.int .i64 n] w fun e w' => e = .returned (.bool (mayB n)) ∧ w' = w := by
  go_enter Try.func29, Try.ntmps29
  go_wp2
  all_goals
    go_ret
    exact ⟨ret_b (by unfold mayB; first | rfl | (rw [Bool.eq_iff_iff]; simp only [Bool.and_eq_true, decide_eq_true_eq, Bool.false_eq_true, eq_self_iff_true, true_iff, false_iff]; omega)), rfl⟩
theorem of_bounds (v n : Int) (h : ¬ (v < 0 ∨ 512 ≤ v ∨ n < 1 ∨ 64 < n)) : 0 ≤ 2654435761 * v % 4294967296 * n / 4294967296 ∧ 2654435761 * v % 4294967296 * n / 4294967296 < n ∧ 0 ≤ 2654435761 * v % 4294967296 ∧ 2654435761 * v % 4294967296 < 4294967296 ∧ 0 ≤ 2654435761 * v % 4294967296 * n ∧ 2654435761 * v % 4294967296 * n < 4294967296 * n := by
  obtain ⟨m, hm⟩ : ∃ m, 2654435761 * v % 4294967296 = m := ⟨_, rfl⟩
  have h0 : 0 ≤ m ∧ m < 4294967296 := by omega
  rw [hm]
  have h1 : 0 ≤ m * n := Int.mul_nonneg h0.1 (by omega)
  have h2 : m * n < 4294967296 * n := Int.mul_lt_mul_of_pos_right h0.2 (by omega)
  obtain ⟨p, hp⟩ : ∃ p, m * n = p := ⟨_, rfl⟩
  rw [hp] at h1 h2 ⊢
  omega
theorem ofF_lt (v n : Int) (h : ofF v n ≠ -1) : 0 ≤ ofF v n ∧ ofF v n < n := by
  unfold ofF at h ⊢
  split at h
  · exact absurd rfl h
  · rename_i hc
    rw [if_neg hc]
    exact ⟨(of_bounds v n hc).1, (of_bounds v n hc).2.1⟩
theorem ofF_ok (v n : Int) (h0 : 0 ≤ v) (h1 : v < 512) (h2 : 1 ≤ n) (h3 : n ≤ 64) : 0 ≤ ofF v n ∧ ofF v n < n := by
  have hc : ¬ (v < 0 ∨ 512 ≤ v ∨ n < 1 ∨ 64 < n) := by omega
  unfold ofF
  rw [if_neg hc]
  exact ⟨(of_bounds v n hc).1, (of_bounds v n hc).2.1⟩
set_option maxRecDepth 100000 in
set_option maxHeartbeats 1000000 in
theorem rof_any (w : World) (v n : Int) : Calls Try.prog 9 #[.int .i64 v, .int .i64 n] w fun e w' => e = .returned (.int .i64 (ofF v n)) ∧ w' = w := by
  by_cases hc : v < 0 ∨ 512 ≤ v ∨ n < 1 ∨ 64 < n
  · have hF : ofF v n = -1 := by unfold ofF; rw [if_pos hc]
    have HF := hide hF
    clear hF
    by_cases h1 : v < 0
    · clear hc
      go_enter Try.func9, Try.ntmps9
      go_wp2
      go_ret
      exact ⟨ret_n (by rw [HF.out]), rfl⟩
    · by_cases h2 : 512 ≤ v
      · clear hc
        go_enter Try.func9, Try.ntmps9
        go_wp2
        go_ret
        exact ⟨ret_n (by rw [HF.out]), rfl⟩
      · by_cases h3 : n < 1
        · clear hc
          go_enter Try.func9, Try.ntmps9
          go_wp2
          go_ret
          exact ⟨ret_n (by rw [HF.out]), rfl⟩
        · have h4 : 64 < n := by omega
          clear hc
          go_enter Try.func9, Try.ntmps9
          go_wp2
          go_ret
          exact ⟨ret_n (by rw [HF.out]), rfl⟩
  · have hb := of_bounds v n hc
    have hF : ofF v n = 2654435761 * v % 4294967296 * n / 4294967296 := by unfold ofF; rw [if_neg hc]
    have HF := hide hF
    have h1 : ¬ v < 0 := by omega
    have h2 : ¬ 512 ≤ v := by omega
    have h3 : ¬ n < 1 := by omega
    have h4 : ¬ 64 < n := by omega
    have h5 : 0 ≤ v := by omega
    have e1 : IntKind.i64.wrap (2654435761 * v) = 2654435761 * v := IntWalk.i64_in _ (by omega)
    have e2 : (2654435761 * v).tmod 4294967296 = 2654435761 * v % 4294967296 := Int.tmod_eq_emod_of_nonneg (by omega)
    obtain ⟨m, hm⟩ : ∃ m, 2654435761 * v % 4294967296 = m := ⟨_, rfl⟩
    rw [hm] at hb HF e2
    have e3 : IntKind.i64.wrap m = m := IntWalk.i64_in _ (by omega)
    obtain ⟨p, hp⟩ : ∃ p, m * n = p := ⟨_, rfl⟩
    have e4 : IntKind.i64.wrap (m * n) = p := by rw [hp]; exact IntWalk.i64_in _ (by rw [hp] at hb; omega)
    rw [hp] at hb HF
    have HP := hide hp
    have HM := hide hm
    have hp0 : 0 ≤ p := hb.2.2.2.2.1
    have hp1 : p < 274877906944 := by omega
    have hm0 : 0 ≤ m := hb.2.2.1
    have hm1 : m < 4294967296 := hb.2.2.2.1
    have e5 : p.tdiv 4294967296 = p / 4294967296 := Int.tdiv_eq_ediv_of_nonneg hp0
    clear hF hc hp hm hb
    go_enter Try.func9, Try.ntmps9
    go_wp2
    go_ret
    exact ⟨ret_n (by rw [HF.out]), rfl⟩
theorem of_val (v n : Int) (hb : 0 ≤ 2654435761 * v % 4294967296 * n / 4294967296 ∧ 2654435761 * v % 4294967296 * n / 4294967296 < n ∧ 0 ≤ 2654435761 * v % 4294967296 ∧ 2654435761 * v % 4294967296 < 4294967296 ∧ 0 ≤ 2654435761 * v % 4294967296 * n ∧ 2654435761 * v % 4294967296 * n < 4294967296 * n) (h7 : n ≤ 64) :
    wrap64 (IntKind.u64.wrap (v * 2654435761 % 4294967296 * n) / 4294967296) = 2654435761 * v % 4294967296 * n / 4294967296 := by
  rw [Int.mul_comm v]
  obtain ⟨p, hp⟩ : ∃ p, 2654435761 * v % 4294967296 * n = p := ⟨_, rfl⟩
  rw [hp] at hb ⊢
  rw [IntWalk.u64_in p (by omega)]
  rw [IntWalk.wrap64_in (p / 4294967296) (by omega)]
set_option maxRecDepth 100000 in
set_option maxHeartbeats 1000000 in
theorem of_any (w : World) (v n : Int) : Calls Try.prog 8 #[.int .i64 v, .int .i64 n] w fun e w' => e = .returned (.int .i64 (ofF v n)) ∧ w' = w := by
  by_cases hc : v < 0 ∨ 512 ≤ v ∨ n < 1 ∨ 64 < n
  · have hF : ofF v n = -1 := by unfold ofF; rw [if_pos hc]
    have HF := hide hF
    clear hF
    by_cases h1 : v < 0
    · clear hc
      go_enter Try.func8, Try.ntmps8
      go_wp2
      go_ret
      exact ⟨ret_n (by rw [HF.out]), rfl⟩
    · by_cases h2 : 512 ≤ v
      · clear hc
        go_enter Try.func8, Try.ntmps8
        go_wp2
        go_ret
        exact ⟨ret_n (by rw [HF.out]), rfl⟩
      · have hm : mayB n = false := by
          rw [Bool.eq_false_iff]; intro h; have := mayB_iff.1 h; omega
        clear hc
        go_enter Try.func8, Try.ntmps8
        go_wp2_with fail
        refine (may_any _ n).mono ?_
        rintro e w1 ⟨rfl, rfl⟩
        rw [hm]
        go_wp2
        go_ret
        exact ⟨ret_n (by rw [HF.out]), rfl⟩
  · have hb := of_bounds v n hc
    have hF : ofF v n = 2654435761 * v % 4294967296 * n / 4294967296 := by unfold ofF; rw [if_neg hc]
    have HF := hide hF
    have h1 : ¬ v < 0 := by omega
    have h2 : ¬ 512 ≤ v := by omega
    have h5 : 0 ≤ v := by omega
    have h6 : 0 ≤ n := by omega
    have h7 : n ≤ 64 := by omega
    have hm9 : mayB n = true := mayB_iff.2 (by omega)
    clear hF hc
    go_enter Try.func8, Try.ntmps8
    go_wp2_with fail
    refine (may_any _ n).mono ?_
    rintro e w1 ⟨rfl, rfl⟩
    rw [hm9]
    go_wp2
    go_ret
    exact ⟨ret_n (by rw [HF.out]; exact of_val v n hb h7), rfl⟩
end Go.Proofs.Ytihdpfjonkagaaa
