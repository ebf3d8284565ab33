/- A job's program: of, shares, Combine, Join. -/
import Derived.Test.YtihlhkbdgbkafaaPfx
import Derived.Handy
namespace Go.Proofs.Ytihlhkbdgbkafaa
open Go.RowKit
set_option linter.unusedVariables false
set_option linter.unusedSimpArgs false
def progV (k : Int) : Value := if k = 1 then .iface 88 (.agg #[]) else if k = 2 then .iface 91 (.agg #[]) else if k = 3 then .iface 92 (.agg #[]) else .nilIface
set_option maxRecDepth 100000 in
set_option maxHeartbeats 2000000 in
theorem of_any (w : World) (k : Int) (j1 j2 j3 j4 : Int) : Calls Try.prog 30 #[.agg #[.int .u8 k, .int .i64 j1, .int .i64 j2, .int .i64 j3, .int .i64 j4]] w fun e w' => e = .returned (progV k) ∧ Below w.heap.size w w' := by
  go_enter Try.func30, Try.ntmps30
  go_wp2_with fail
  all_goals
    go_ret
    refine ⟨?_, (Below.refl _ _).alloc (Nat.le_refl _) _⟩
    unfold progV
    simp_all
theorem of1 (w : World) (j1 j2 j3 j4 : Int) : Calls Try.prog 30 #[.agg #[.int .u8 1, .int .i64 j1, .int .i64 j2, .int .i64 j3, .int .i64 j4]] w fun e w' => e = .returned (.iface 88 (.agg #[])) ∧ Below w.heap.size w w' := of_any w 1 j1 j2 j3 j4
theorem of2 (w : World) (j1 j2 j3 j4 : Int) : Calls Try.prog 30 #[.agg #[.int .u8 2, .int .i64 j1, .int .i64 j2, .int .i64 j3, .int .i64 j4]] w fun e w' => e = .returned (.iface 91 (.agg #[])) ∧ Below w.heap.size w w' := of_any w 2 j1 j2 j3 j4
theorem of3 (w : World) (j1 j2 j3 j4 : Int) : Calls Try.prog 30 #[.agg #[.int .u8 3, .int .i64 j1, .int .i64 j2, .int .i64 j3, .int .i64 j4]] w fun e w' => e = .returned (.iface 92 (.agg #[])) ∧ Below w.heap.size w w' := of_any w 3 j1 j2 j3 j4
theorem of0 (w : World) (k : Int) (h1 : ¬ k = 1) (h2 : ¬ k = 2) (h3 : ¬ k = 3) (j1 j2 j3 j4 : Int) : Calls Try.prog 30 #[.agg #[.int .u8 k, .int .i64 j1, .int .i64 j2, .int .i64 j3, .int .i64 j4]] w fun e w' => e = .returned .nilIface ∧ Below w.heap.size w w' := by
  have h := of_any w k j1 j2 j3 j4
  unfold progV at h
  rw [if_neg h1, if_neg h2, if_neg h3] at h
  exact h
def combF (k a b : Int) : Int := if k = 1 then dadd a b else if k = 2 ∨ k = 3 then min a b else 0
set_option maxRecDepth 100000 in
set_option maxHeartbeats 2000000 in
theorem rkcomb_any (w : World) (a b : Int) (h1 : -9223372036854775808 ≤ a) (h2 : a ≤ 9223372036854775807) (h3 : -9223372036854775808 ≤ b) (h4 : b ≤ 9223372036854775807) : Calls Try.prog 81 #[.agg #[], .int .i64 a, .int .i64 b] w fun e w' => e = .returned (.int .i64 (dadd a b)) ∧ Below w.heap.size w w' := by
  go_enter Try.func81, Try.ntmps81
  go_wp2_with fail
  refine (add_any _ a b h1 h2 h3 h4).mono ?_
  rintro e w1 ⟨rfl, rfl⟩
  go_wp2
  go_ret
  exact ⟨rfl, (Below.refl _ _).alloc (Nat.le_refl _) _⟩
set_option maxRecDepth 100000 in
set_option maxHeartbeats 2000000 in
theorem lscomb_any (w : World) (a b : Int) : Calls Try.prog 93 #[.agg #[], .int .i64 a, .int .i64 b] w fun e w' => e = .returned (.int .i64 (min a b)) ∧ Below w.heap.size w w' := by
  go_enter Try.func93, Try.ntmps93
  go_wp2
  all_goals
    go_ret
    exact ⟨ret_i64 (by omega), (Below.refl _ _).alloc (Nat.le_refl _) _⟩
theorem below_box {w w' : World} {o : Obj} (h : Below (w.alloc o).heap.size (w.alloc o) w') : Below w.heap.size w w' := ((Below.refl _ _).alloc (Nat.le_refl _) _).trans (h.mono (by simp))
theorem below_box2 {w w1 w2 : World} {o : Obj} (h : Below (w.alloc o).heap.size (w.alloc o) w1) (h2 : Below w1.heap.size w1 w2) : Below w.heap.size w w2 := below_box (h.trans (h2.mono h.size))
set_option maxRecDepth 100000 in
set_option maxHeartbeats 2000000 in
theorem comb_any (w : World) (k : Int) (j1 j2 j3 j4 : Int) (a b : Int) (h1 : -9223372036854775808 ≤ a) (h2 : a ≤ 9223372036854775807) (h3 : -9223372036854775808 ≤ b) (h4 : b ≤ 9223372036854775807) : Calls Try.prog 22 #[.agg #[.int .u8 k, .int .i64 j1, .int .i64 j2, .int .i64 j3, .int .i64 j4], .int .i64 a, .int .i64 b] w fun e w' => e = .returned (.int .i64 (combF k a b)) ∧ Below w.heap.size w w' := by
  by_cases k1 : k = 1
  · subst k1
    go_enter Try.func22, Try.ntmps22
    go_wp2_with fail
    refine (of1 _ j1 j2 j3 j4).mono ?_
    rintro e w1 ⟨rfl, hb⟩
    have HB := hide hb
    clear hb
    go_wp2_with fail
    refine (rkcomb_any _ a b h1 h2 h3 h4).mono ?_
    rintro e w2 ⟨rfl, hb2⟩
    have HB2 := hide hb2
    clear hb2
    go_wp2
    go_ret
    exact ⟨rfl, below_box2 HB.out HB2.out⟩
  by_cases k2 : k = 2
  · subst k2
    go_enter Try.func22, Try.ntmps22
    go_wp2_with fail
    refine (of2 _ j1 j2 j3 j4).mono ?_
    rintro e w1 ⟨rfl, hb⟩
    have HB := hide hb
    clear hb
    go_wp2_with fail
    refine (lscomb_any _ a b).mono ?_
    rintro e w2 ⟨rfl, hb2⟩
    have HB2 := hide hb2
    clear hb2
    go_wp2
    go_ret
    exact ⟨rfl, below_box2 HB.out HB2.out⟩
  by_cases k3 : k = 3
  · subst k3
    go_enter Try.func22, Try.ntmps22
    go_wp2_with fail
    refine (of3 _ j1 j2 j3 j4).mono ?_
    rintro e w1 ⟨rfl, hb⟩
    have HB := hide hb
    clear hb
    go_wp2_with fail
    refine (lscomb_any _ a b).mono ?_
    rintro e w2 ⟨rfl, hb2⟩
    have HB2 := hide hb2
    clear hb2
    go_wp2
    go_ret
    exact ⟨rfl, below_box2 HB.out HB2.out⟩
  ·
    go_enter Try.func22, Try.ntmps22
    go_wp2_with fail
    refine (of0 _ k k1 k2 k3 j1 j2 j3 j4).mono ?_
    rintro e w1 ⟨rfl, hb⟩
    have HB := hide hb
    clear hb
    go_wp2
    go_ret
    exact ⟨by rw [combF, if_neg k1, if_neg (by omega)]; rfl, below_box HB.out⟩
set_option maxRecDepth 100000 in
set_option maxHeartbeats 2000000 in
theorem rcomb_any (w : World) (k : Int) (j1 j2 j3 j4 : Int) (a b : Int) : Calls Try.prog 23 #[.agg #[.int .u8 k, .int .i64 j1, .int .i64 j2, .int .i64 j3, .int .i64 j4], .int .i64 a, .int .i64 b] w fun e w' => e = .returned (.int .i64 (combF k a b)) ∧ Below w.heap.size w w' := by
  have hbox := (Below.refl w.heap.size w).alloc (Nat.le_refl _) (.cells #[.int .u8 k, .int .i64 j1, .int .i64 j2, .int .i64 j3, .int .i64 j4] 26)
  have HBX := hide hbox
  clear hbox
  by_cases k1 : k = 1
  · subst k1
    go_enter Try.func23, Try.ntmps23
    go_wp2_with fail
    refine (radd_any _ a b).mono ?_
    rintro e w1 ⟨rfl, rfl⟩
    go_wp2
    go_ret
    exact ⟨rfl, HBX.out⟩
  by_cases k2 : k = 2
  · subst k2
    go_enter Try.func23, Try.ntmps23
    go_wp2
    all_goals
      go_ret
      exact ⟨ret_i64 (by rw [show combF 2 a b = min a b by simp [combF]]; omega), HBX.out⟩
  by_cases k3 : k = 3
  · subst k3
    go_enter Try.func23, Try.ntmps23
    go_wp2
    all_goals
      go_ret
      exact ⟨ret_i64 (by rw [show combF 3 a b = min a b by simp [combF]]; omega), HBX.out⟩
  ·
    go_enter Try.func23, Try.ntmps23
    go_wp2
    all_goals
      go_ret
      exact ⟨by rw [combF, if_neg k1, if_neg (by omega)]; rfl, HBX.out⟩
end Go.Proofs.Ytihlhkbdgbkafaa
