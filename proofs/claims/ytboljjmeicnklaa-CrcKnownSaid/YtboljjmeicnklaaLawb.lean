/- The walks of the statements CrcProducts and CrcDivides. -/
import Derived.Test.YtboljjmeicnklaaCrcs
namespace Go.Proofs.Ytboljjmeicnklaa
open Go.RowKit
set_option linter.unusedVariables false

set_option maxRecDepth 100000 in
set_option maxHeartbeats 1000000 in
theorem crcProducts_nat (w : World) (a b : Nat) (ha : a < 4294967296) (hb : b < 4294967296) (n : Int) (hn1 : -9223372036854775808 ≤ n) (hn2 : n ≤ 9223372036854775807) :
    Calls Try.prog 4 #[.int .u32 a, .int .u32 b, .int .i64 n] w fun e w' => e = .returned (.bool true) ∧ Below w.heap.size w w' := by
  have t1 : (((crcm.power n.toNat : Nat) : Int) != ((crcm.power n.toNat : Nat) : Int)) = false := by simp
  have t2 : (((crcm.times a b : Nat) : Int) == ((crcm.times a b : Nat) : Int)) = true := by simp
  by_cases hsmall : n ≤ 2000
  · go_enter Try.func4, Try.ntmps4
    go_wp2_with fail
    refine (power_any n hn2 _).mono ?_
    rintro e w' ⟨rfl, rfl⟩
    go_wp2_with fail
    refine (refPower_any n hn1 hsmall _).mono ?_
    rintro e w1 ⟨rfl, hb1⟩
    go_wp2_with fail
    refine (times_any a b ha hb _).mono ?_
    rintro e w' ⟨rfl, rfl⟩
    go_wp2_with fail
    refine (refTimes_any a b ha hb _).mono ?_
    rintro e w2 ⟨rfl, hb2⟩
    go_wp2_with fail
    refine (works_any _).mono ?_
    rintro e w3 ⟨rfl, hb3⟩
    go_wp2_with fail
    go_ret
    have h12 := hb1.trans (hb2.mono hb1.size)
    exact ⟨rfl, h12.trans (hb3.mono h12.size)⟩
  · go_enter Try.func4, Try.ntmps4
    go_wp2_with fail
    refine (times_any a b ha hb _).mono ?_
    rintro e w' ⟨rfl, rfl⟩
    go_wp2_with fail
    refine (refTimes_any a b ha hb _).mono ?_
    rintro e w2 ⟨rfl, hb2⟩
    go_wp2_with fail
    refine (works_any _).mono ?_
    rintro e w3 ⟨rfl, hb3⟩
    go_wp2_with fail
    go_ret
    exact ⟨rfl, hb2.trans (hb3.mono hb2.size)⟩
theorem crcProducts_walk (w : World) (a : Int) (ha1 : 0 ≤ a) (ha2 : a ≤ 4294967295) (b : Int) (hb1 : 0 ≤ b) (hb2 : b ≤ 4294967295) (n : Int) (hn1 : -9223372036854775808 ≤ n) (hn2 : n ≤ 9223372036854775807) :
    Calls Try.prog 4 #[.int .u32 a, .int .u32 b, .int .i64 n] w fun e w' => e = .returned (.bool true) ∧ Below w.heap.size w w' := by
  obtain ⟨a, rfl⟩ := Int.eq_ofNat_of_zero_le ha1
  obtain ⟨b, rfl⟩ := Int.eq_ofNat_of_zero_le hb1
  exact crcProducts_nat w a b (by omega) (by omega) n hn1 hn2

set_option maxRecDepth 100000 in
set_option maxHeartbeats 1000000 in
theorem crcDivides_walk (w : World) (A : Option Addr) (bs : List UInt8) (c : Nat) (hr : Rd w w.heap.size A (u8s bs)) (hl : bs.length ≤ 9223372036854775807) :
    Calls Try.prog 3 #[.slice A bs.length c] w fun e w' => e = .returned (.bool true) ∧ Below w.heap.size w w' := by
  by_cases hbig : 3000 < bs.length
  · go_enter Try.func3, Try.ntmps3
    go_wp2_with fail
    refine (works_any _).mono ?_
    rintro e w3 ⟨rfl, hb3⟩
    go_wp2_with fail
    go_ret
    exact ⟨rfl, hb3⟩
  · have ks := hide (fun (W : World) (h : Rd W w.heap.size A (u8s bs)) => run_string_of (P := Try.prog) W 22 9 5 A c w.heap.size bs Try.underlying22 Try.underlying5 Try.underlying9 h)
    have k1 := ks.out w hr
    have kb := fun (W : World) (l : List UInt8) => run_bytes_of (P := Try.prog) W 9 22 5 l Try.underlying9 Try.underlying22 Try.underlying5
    have t1 : (((crcm.sum bs : Nat) : Int) == ((crcm.sum bs : Nat) : Int)) = true := by simp
    have hz0 := bytesWorld_size w 5 bs
    have hb0 := bytesWorld_below w 5 bs
    have hr0 := (bytesWorld_rd w 5 bs).more (Nat.le_of_eq hz0.symm)
    have HZ := hide hz0
    have hsz : w.heap.size < (bytesWorld w 5 bs).heap.size := by omega
    clear hz0
    go_enter Try.func3, Try.ntmps3
    go_wp2_with fail
    clear kb k1
    generalize bytesWorld w 5 bs = w0 at *
    generalize grownCap w bs.length 0 5 = c0 at *
    refine (sum_any bs _ _ _ _ hr0 (Nat.le_refl _) hl).mono ?_
    rintro e w1 ⟨rfl, hb1⟩
    go_wp2_with fail
    refine (refSum_any bs _ _ _ _ ((hr.below hb0).below' hb1 (by omega)) (by have := hb1.size; omega) (by omega)).mono ?_
    rintro e w2 ⟨rfl, hb2⟩
    have hb02 : Below w.heap.size w w2 := (hb0.trans (hb1.mono (by omega))).trans (hb2.mono (by have := hb1.size; omega))
    have hr02 : Rd w2 w0.heap.size (some ⟨w.heap.size, 0, none⟩) (u8s bs) := (hr0.below hb1).below' hb2 hb1.size
    have k2 := run_string_of (P := Try.prog) w2 22 9 5 (some ⟨w.heap.size, 0, none⟩) c0 _ bs Try.underlying22 Try.underlying5 Try.underlying9 hr02
    have k3 := run_string_of (P := Try.prog) w2 22 9 5 A c _ bs Try.underlying22 Try.underlying5 Try.underlying9 (hr.below hb02)
    go_wp2_with fail
    refine (works_any _).mono ?_
    rintro e w3 ⟨rfl, hb3⟩
    go_wp2_with fail
    go_ret
    exact ⟨rfl, hb02.trans (hb3.mono hb02.size)⟩

end Go.Proofs.Ytboljjmeicnklaa
