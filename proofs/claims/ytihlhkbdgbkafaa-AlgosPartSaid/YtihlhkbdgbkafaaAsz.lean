/- How far numbers are apart. (printed by gen/asz.py) -/
import Derived.Test.YtihlhkbdgbkafaaAsv
namespace Go.Proofs.Ytihlhkbdgbkafaa
open Go.RowKit
set_option linter.unusedVariables false
set_option linter.unusedSimpArgs false
def apartF (a b : Int) : Int := if dist b < dist a then dist a - dist b else dist b - dist a
set_option maxRecDepth 100000 in
set_option maxHeartbeats 4000000 in
theorem apart_any (w : World) (a b : Int) (h1 : -9223372036854775808 ≤ a) (h2 : a ≤ 9223372036854775807) (h3 : -9223372036854775808 ≤ b) (h4 : b ≤ 9223372036854775807) : Calls Try.prog 48 #[.int .i64 a, .int .i64 b] w fun e w' => e = .returned (.int .i64 (apartF a b)) ∧ w = w' := by
  have ba := dist_bounds a
  have bb := dist_bounds b
  have hF := hide (show apartF a b = if dist b < dist a then dist a - dist b else dist b - dist a from rfl)
  go_enter Try.func48, Try.ntmps48
  go_wp2_with fail
  refine (distance_any _ a h1 h2).mono ?_
  rintro e w1 ⟨rfl, rfl⟩
  go_wp2_with fail
  refine (distance_any _ b h3 h4).mono ?_
  rintro e w1 ⟨rfl, rfl⟩
  obtain ⟨x, hx⟩ : ∃ x, dist a = x := ⟨_, rfl⟩
  obtain ⟨y, hy⟩ : ∃ y, dist b = y := ⟨_, rfl⟩
  rw [hx] at ba hF ⊢
  rw [hy] at bb hF ⊢
  clear hx hy
  have e1 : IntKind.i64.wrap (x - y) = x - y := IntWalk.i64_in _ (by omega)
  have e2 : IntKind.i64.wrap (y - x) = y - x := IntWalk.i64_in _ (by omega)
  rcases (show x < y ∨ ¬ x < y by omega) with hlt | hlt
  all_goals
    go_wp2
    all_goals
      go_ret
      exact ⟨ret_i64 (by rw [hF.out]; split <;> omega), rfl⟩
set_option maxRecDepth 100000 in
set_option maxHeartbeats 4000000 in
theorem rapart_any (w : World) (a b : Int) : Calls Try.prog 49 #[.int .i64 a, .int .i64 b] w fun e w' => e = .returned (.int .i64 (apartF a b)) ∧ w = w' := by
  have ba := dist_bounds a
  have bb := dist_bounds b
  have hF := hide (show apartF a b = if dist b < dist a then dist a - dist b else dist b - dist a from rfl)
  go_enter Try.func49, Try.ntmps49
  go_wp2_with fail
  refine (rdist_any _ a).mono ?_
  rintro e w1 ⟨rfl, rfl⟩
  go_wp2_with fail
  refine (rdist_any _ b).mono ?_
  rintro e w1 ⟨rfl, rfl⟩
  obtain ⟨x, hx⟩ : ∃ x, dist a = x := ⟨_, rfl⟩
  obtain ⟨y, hy⟩ : ∃ y, dist b = y := ⟨_, rfl⟩
  rw [hx] at ba hF ⊢
  rw [hy] at bb hF ⊢
  clear hx hy
  have e1 : IntKind.i64.wrap (x - y) = x - y := IntWalk.i64_in _ (by omega)
  have e2 : IntKind.i64.wrap (y - x) = y - x := IntWalk.i64_in _ (by omega)
  rcases (show x < y ∨ ¬ x < y by omega) with hlt | hlt
  all_goals
    go_wp2
    all_goals
      go_ret
      exact ⟨ret_i64 (by rw [hF.out]; split <;> omega), rfl⟩
end Go.Proofs.Ytihlhkbdgbkafaa
