/- Pick. -/
import Derived.Test.YtgfdlllmcbgbcaaSms
import Derived.Lib.Hide
namespace Go.Proofs.Ytgfdlllmcbgbcaa
open Go.RowKit
set_option linter.unusedVariables false
set_option linter.unusedSimpArgs false
def pickOf (i n : Int) : Int := if n ≤ 0 then 0 else (i.tmod n + n).tmod n
theorem pick_rng (i n : Int) (h : 0 < n) : 0 ≤ pickOf i n ∧ pickOf i n < n := by
  unfold pickOf
  rw [if_neg (by omega)]
  have h1 := Int.tmod_lt_of_pos i h
  have h2 : -n < i.tmod n := by
    have := Int.tmod_lt_of_pos (-i) h
    rw [Int.neg_tmod] at this
    omega
  have h3 := Int.tmod_lt_of_pos (i.tmod n + n) h
  have h4 := Int.tmod_nonneg (b := n) (a := i.tmod n + n) (by omega)
  omega
set_option maxRecDepth 100000 in
set_option maxHeartbeats 1000000 in
theorem pick_any (w : World) (i n : Int) (hi1 : -9223372036854775808 ≤ i) (hi2 : i ≤ 9223372036854775807) (hn : 0 < n) (hn2 : n ≤ 4611686018427387904) : Calls Try.prog 19 #[.int .i64 i, .int .i64 n] w fun e w' => e = .returned (.int .i64 (pickOf i n)) ∧ w' = w := by
  have hp : pickOf i n = (i.tmod n + n).tmod n := by unfold pickOf; rw [if_neg (by omega)]
  have HP := hide hp
  have h1 := Int.tmod_lt_of_pos i hn
  have h2 : -n < i.tmod n := by
    have := Int.tmod_lt_of_pos (-i) hn
    rw [Int.neg_tmod] at this
    omega
  have hpr := pick_rng i n hn
  rw [hp] at hpr
  clear hp
  have w1 : IntKind.i64.wrap (i.tmod n) = i.tmod n := IntWalk.i64_in _ (by omega)
  have w2 : IntKind.i64.wrap (i.tmod n + n) = i.tmod n + n := IntWalk.i64_in _ (by omega)
  have w3 : IntKind.i64.wrap ((i.tmod n + n).tmod n) = (i.tmod n + n).tmod n := IntWalk.i64_in _ (by omega)
  have d0 : ¬ n = 0 := by omega
  have hnn : 0 ≤ i.tmod n + n := by omega
  go_enter Try.func19, Try.ntmps19
  go_wp2
  go_ret
  exact ⟨ret_n (by rw [HP.out, Int.tmod_eq_emod_of_nonneg hnn]), rfl⟩
end Go.Proofs.Ytgfdlllmcbgbcaa
