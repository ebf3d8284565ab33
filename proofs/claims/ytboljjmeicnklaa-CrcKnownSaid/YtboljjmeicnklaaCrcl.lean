/- What the helpers of the statements of layer 1 compute: Join, works, ones. -/
import Derived.Test.YtboljjmeicnklaaCrcw
namespace Go.Proofs.Ytboljjmeicnklaa
open Go.RowKit
set_option linter.unusedVariables false

set_option maxHeartbeats 400000 in
/-- two checks joined -/
theorem join_any (a b : Nat) (n : Int) (ha : a < 4294967296) (hb : b < 4294967296) (hn : n ≤ 9223372036854775807) (w : World) :
    Calls Try.prog 18 #[.int .u32 a, .int .u32 b, .int .i64 n] w fun e w' => e = .returned (.int .u32 (crcm.upk (8 * n.toNat) a ^^^ b : Nat)) ∧ w = w' := by
  have hp := crcm.power_lt n.toNat
  have hv : bits .xor .u32 (crcm.times a (crcm.power n.toNat) : Nat) (b : Nat) = ((crcm.upk (8 * n.toNat) a ^^^ b : Nat) : Int) := by
    rw [← crcm.times_power a n.toNat ha]
    exact u32_xor_nat _ _ (crcm.times_lt _ _ hp) hb
  have HV := hide hv
  clear hv
  go_enter Try.func18, Try.ntmps18
  go_wp2_with (first
    | (go_at_call 13; refine (power_any _ hn _).mono ?_; rintro e w' ⟨rfl, rfl⟩)
    | (go_at_call 15; refine (times_any _ _ ha hp _).mono ?_; rintro e w' ⟨rfl, rfl⟩))
  go_ret
  exact ⟨ret_num HV.out, rfl⟩

theorem sum_digits : crcm.sum [49, 50, 51, 52, 53, 54, 55, 56, 57] = 3808858755 := by decide +kernel
theorem sum_nil : crcm.sum [] = 0 := by decide +kernel

set_option maxRecDepth 100000 in
set_option maxHeartbeats 400000 in
theorem works_any (w : World) :
    Calls Try.prog 10 #[] w fun e w' => e = .returned (.bool true) ∧ Below w.heap.size w w' := by
  have kc := fun (w : World) (C : Array Value) (n c : Nat) => Lib.run_convert_bytes_const (P := Try.prog) w 22 5 C n c Try.underlying22 Try.underlying5
  have e1 : (((crcm.sum [49, 50, 51, 52, 53, 54, 55, 56, 57] : Nat) : Int) == 3808858755) = true := by rw [sum_digits]; rfl
  have e2 : (((crcm.sum [] : Nat) : Int) == 0) = true := by rw [sum_nil]; rfl
  have e3 : (((crcm.times 2147483648 305419896 : Nat) : Int) == 305419896) = true := by decide +kernel
  have e4 : (((crcm.power 0 : Nat) : Int) == 2147483648) = true := by decide +kernel
  have e5 : (((crcm.power 1 : Nat) : Int) == 8388608) = true := by decide +kernel
  go_enter Try.func10, Try.ntmps10
  go_wp2_with fail
  refine (sum_any [49, 50, 51, 52, 53, 54, 55, 56, 57] _ _ _ _ (Rd.new _ _ _ _) (by simp) (by decide)).mono ?_
  rintro e w1 ⟨rfl, hb1⟩
  go_wp2_with fail
  refine (sum_any [] none 0 0 _ Rd.nil_ (by omega) (by decide)).mono ?_
  rintro e w2 ⟨rfl, hb2⟩
  go_wp2_with fail
  refine (times_any 2147483648 305419896 (by decide) (by decide) _).mono ?_
  rintro e w3 ⟨rfl, rfl⟩
  go_wp2_with fail
  refine (power_any 0 (by decide) _).mono ?_
  rintro e w3 ⟨rfl, rfl⟩
  go_wp2_with fail
  refine (power_any 1 (by decide) _).mono ?_
  rintro e w3 ⟨rfl, rfl⟩
  go_wp2_with fail
  go_ret
  refine ⟨rfl, ?_⟩
  have hw : Below w.heap.size w (w.alloc (.cells #[.int .u8 49, .int .u8 50, .int .u8 51, .int .u8 52, .int .u8 53, .int .u8 54, .int .u8 55, .int .u8 56, .int .u8 57] 5 (9, 10))) := (Below.refl _ _).alloc (Nat.le_refl _) _
  exact (hw.trans (hb1.mono (by simp))).trans (hb2.mono (Nat.le_trans (by simp) hb1.size))

end Go.Proofs.Ytboljjmeicnklaa
