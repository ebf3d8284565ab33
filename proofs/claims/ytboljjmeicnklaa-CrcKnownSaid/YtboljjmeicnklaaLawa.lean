/- The walks of the statements CrcRing and CrcPowers. -/
import Derived.Test.YtboljjmeicnklaaCrcl
namespace Go.Proofs.Ytboljjmeicnklaa
open Go.RowKit
set_option linter.unusedVariables false

set_option maxRecDepth 100000 in
set_option maxHeartbeats 1000000 in
theorem crcRing_nat (w : World) (a b c : Nat) (ha : a < 4294967296) (hb : b < 4294967296) (hc : c < 4294967296) :
    Calls Try.prog 5 #[.int .u32 a, .int .u32 b, .int .u32 c] w fun e w' => e = .returned (.bool true) ∧ Below w.heap.size w w' := by
  have hab := crcm.times_lt a b hb
  have hba := crcm.times_lt b a ha
  have hbc := crcm.times_lt b c hc
  have hac := crcm.times_lt a c hc
  have hx : b ^^^ c < 4294967296 := Nat.xor_lt_two_pow (n := 32) hb hc
  have t1 : (((crcm.times a b : Nat) : Int) == ((crcm.times b a : Nat) : Int)) = true := by rw [crcm.times_comm a b ha hb]; simp
  have t2 : (((crcm.times (crcm.times a b) c : Nat) : Int) == ((crcm.times a (crcm.times b c) : Nat) : Int)) = true := by rw [crcm.times_assoc a b c hb hc]; simp
  have x1 : bits .xor .u32 (b : Int) (c : Int) = ((b ^^^ c : Nat) : Int) := u32_xor_nat b c hb hc
  have t3 : (((crcm.times a (b ^^^ c) : Nat) : Int) == bits .xor .u32 ((crcm.times a b : Nat) : Int) ((crcm.times a c : Nat) : Int)) = true := by
    rw [u32_xor_nat _ _ hab hac, crcm.times_xor]; simp
  have t4 : (((crcm.times a 2147483648 : Nat) : Int) == (a : Int)) = true := by rw [show crcm.times a 2147483648 = a from crcm.times_unit a ha]; simp
  have t5 : (((crcm.times a 0 : Nat) : Int) == 0) = true := by rw [crcm.times_zero]; rfl
  go_enter Try.func5, Try.ntmps5
  go_wp2_with fail
  refine (times_any a b ha hb _).mono ?_
  rintro e w' ⟨rfl, rfl⟩
  go_wp2_with fail
  refine (times_any b a hb ha _).mono ?_
  rintro e w' ⟨rfl, rfl⟩
  go_wp2_with fail
  refine (times_any a b ha hb _).mono ?_
  rintro e w' ⟨rfl, rfl⟩
  go_wp2_with fail
  refine (times_any (crcm.times a b) c hab hc _).mono ?_
  rintro e w' ⟨rfl, rfl⟩
  go_wp2_with fail
  refine (times_any b c hb hc _).mono ?_
  rintro e w' ⟨rfl, rfl⟩
  go_wp2_with fail
  refine (times_any a (crcm.times b c) ha hbc _).mono ?_
  rintro e w' ⟨rfl, rfl⟩
  go_wp2_with fail
  refine (times_any a (b ^^^ c) ha hx _).mono ?_
  rintro e w' ⟨rfl, rfl⟩
  go_wp2_with fail
  refine (times_any a b ha hb _).mono ?_
  rintro e w' ⟨rfl, rfl⟩
  go_wp2_with fail
  refine (times_any a c ha hc _).mono ?_
  rintro e w' ⟨rfl, rfl⟩
  go_wp2_with fail
  refine (times_any a 2147483648 ha (by decide) _).mono ?_
  rintro e w' ⟨rfl, rfl⟩
  go_wp2_with fail
  refine (times_any a 0 ha (by decide) _).mono ?_
  rintro e w' ⟨rfl, rfl⟩
  go_wp2_with fail
  refine (works_any _).mono ?_
  rintro e w1 ⟨rfl, hb1⟩
  go_wp2_with fail
  go_ret
  exact ⟨rfl, hb1⟩
theorem crcRing_walk (w : World) (a : Int) (ha1 : 0 ≤ a) (ha2 : a ≤ 4294967295) (b : Int) (hb1 : 0 ≤ b) (hb2 : b ≤ 4294967295) (c : Int) (hc1 : 0 ≤ c) (hc2 : c ≤ 4294967295) :
    Calls Try.prog 5 #[.int .u32 a, .int .u32 b, .int .u32 c] w fun e w' => e = .returned (.bool true) ∧ Below w.heap.size w w' := by
  obtain ⟨a, rfl⟩ := Int.eq_ofNat_of_zero_le ha1
  obtain ⟨b, rfl⟩ := Int.eq_ofNat_of_zero_le hb1
  obtain ⟨c, rfl⟩ := Int.eq_ofNat_of_zero_le hc1
  exact crcRing_nat w a b c (by omega) (by omega) (by omega)

set_option maxRecDepth 100000 in
set_option maxHeartbeats 1000000 in
theorem crcPowers_walk (w : World) (m : Int) (hm1 : -9223372036854775808 ≤ m) (hm2 : m ≤ 9223372036854775807) (n : Int) (hn1 : -9223372036854775808 ≤ n) (hn2 : n ≤ 9223372036854775807) :
    Calls Try.prog 6 #[.int .i64 m, .int .i64 n] w fun e w' => e = .returned (.bool true) ∧ Below w.heap.size w w' := by
  by_cases hout : m < 0 ∨ n < 0 ∨ 2305843009213693952 < m ∨ 2305843009213693952 < n
  · by_cases h1 : m < 0
    · go_enter Try.func6, Try.ntmps6
      go_wp2_with (go_at_call 10; refine (works_any _).mono ?_; rintro e w1 ⟨rfl, hb1⟩)
      go_ret
      exact ⟨rfl, hb1⟩
    · by_cases h2 : n < 0
      · have h1' : decide (m < 0) = false := decide_eq_false h1
        clear hout
        go_enter Try.func6, Try.ntmps6
        go_wp2_with (go_at_call 10; refine (works_any _).mono ?_; rintro e w1 ⟨rfl, hb1⟩)
        go_ret
        exact ⟨rfl, hb1⟩
      · by_cases h3 : 2305843009213693952 < m
        · clear hout
          go_enter Try.func6, Try.ntmps6
          go_wp2_with (go_at_call 10; refine (works_any _).mono ?_; rintro e w1 ⟨rfl, hb1⟩)
          go_ret
          exact ⟨rfl, hb1⟩
        · have h4 : 2305843009213693952 < n := by omega
          clear hout
          go_enter Try.func6, Try.ntmps6
          go_wp2_with (go_at_call 10; refine (works_any _).mono ?_; rintro e w1 ⟨rfl, hb1⟩)
          go_ret
          exact ⟨rfl, hb1⟩
  · have h1 : ¬ m < 0 := by omega
    have h2 : ¬ n < 0 := by omega
    have h3 : ¬ 2305843009213693952 < m := by omega
    have h4 : ¬ 2305843009213693952 < n := by omega
    have hs : m + n ≤ 4611686018427387904 := by omega
    have hs0 : 0 ≤ m + n := by omega
    have t1 : (((crcm.power (m + n).toNat : Nat) : Int) == ((crcm.times (crcm.power m.toNat) (crcm.power n.toNat) : Nat) : Int)) = true := by
      rw [show (m + n).toNat = m.toNat + n.toNat by omega, crcm.power_add]; simp
    have t2 : (((crcm.power (-1 - m).toNat : Nat) : Int) == 2147483648) = true := by
      rw [show (-1 - m).toNat = 0 by omega]; rfl
    clear hout
    go_enter Try.func6, Try.ntmps6
    go_wp2_with fail
    refine (power_any (m + n) (by omega) _).mono ?_
    rintro e w' ⟨rfl, rfl⟩
    go_wp2_with fail
    refine (power_any m (by omega) _).mono ?_
    rintro e w' ⟨rfl, rfl⟩
    go_wp2_with fail
    refine (power_any n (by omega) _).mono ?_
    rintro e w' ⟨rfl, rfl⟩
    go_wp2_with fail
    refine (times_any _ _ (crcm.power_lt _) (crcm.power_lt _) _).mono ?_
    rintro e w' ⟨rfl, rfl⟩
    go_wp2_with fail
    refine (power_any (-1 - m) (by omega) _).mono ?_
    rintro e w' ⟨rfl, rfl⟩
    go_wp2_with fail
    refine (works_any _).mono ?_
    rintro e w1 ⟨rfl, hb1⟩
    go_wp2_with fail
    go_ret
    exact ⟨rfl, hb1⟩

end Go.Proofs.Ytboljjmeicnklaa
