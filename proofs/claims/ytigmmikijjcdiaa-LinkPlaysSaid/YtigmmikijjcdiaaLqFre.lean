/- Reading numbers and bytes from a Reader. -/
import Derived.Test.YtigmmikijjcdiaaLqFrd

namespace Go.Proofs.Ytigmmikijjcdiaa
open Go.RowKit
set_option linter.unusedVariables false

/-- the number of bytes, the highest first -/
def num (bs : List UInt8) : Nat := bs.foldl (fun a b => a * 256 + b.toNat) 0
theorem num_snoc (bs : List UInt8) (b : UInt8) : num (bs ++ [b]) = num bs * 256 + b.toNat := by simp [num]
theorem num_lt (bs : List UInt8) : num bs < 256 ^ bs.length := by
  rcases List.eq_nil_or_concat bs with rfl | ⟨l, b, rfl⟩
  · decide
  · have ih := num_lt l
    have hb := b.toNat_lt
    rw [List.concat_eq_append, num_snoc, List.length_append, List.length_singleton, Nat.pow_succ]
    omega
termination_by bs.length
decreasing_by simp_all
theorem num_take {bs : List UInt8} {i : Nat} (h : i < bs.length) : num (bs.take (i + 1)) = num (bs.take i) * 256 + (bs[i]).toNat := by
  rw [List.take_succ_eq_append_getElem h, num_snoc]
theorem nx_len (bs : List UInt8) (s : Nat × Bool) (n : Nat) : (nx bs s n).1.length ≤ n := by
  unfold nx
  split
  · simp
  · simp; omega
theorem or_byte (a b : Nat) (hb : b < 256) : (a * 256) ||| b = a * 256 + b := by
  have h := Nat.two_pow_add_eq_or_of_lt (i := 8) (b := b) hb a
  rw [show 2 ^ 8 * a = a * 256 by omega] at h
  omega
theorem bits_or_nat8 {a b : Nat} (ha : a < 256 ^ (1 - 1)) (hb : b < 256) : bits .or .u8 ((a : Int) * 256) (b : Int) = ((a * 256 ||| b : Nat) : Int) := by
  have h : a * 256 < 2 ^ 8 := by omega
  have h2 : b < 2 ^ 8 := by omega
  rw [show ((a : Int) * 256) = ((a * 256 : Nat) : Int) by omega]
  generalize a * 256 = m at h ⊢
  have h3 : m ||| b < 2 ^ 8 := Nat.or_lt_two_pow h h2
  have e1 : (BitVec.ofInt 8 (m : Int)).toNat = m := by
    rw [BitVec.ofInt_natCast, BitVec.toNat_ofNat]; exact Nat.mod_eq_of_lt h
  have e2 : (BitVec.ofInt 8 (b : Int)).toNat = b := by
    rw [BitVec.ofInt_natCast, BitVec.toNat_ofNat]; exact Nat.mod_eq_of_lt h2
  show IntKind.u8.wrap ((BitVec.ofInt 8 (m : Int) ||| BitVec.ofInt 8 (b : Int)).toNat : Int) = _
  rw [BitVec.toNat_or, e1, e2, IntKind.wrap_u8]
  omega
theorem bits_or_nat16 {a b : Nat} (ha : a < 256 ^ (2 - 1)) (hb : b < 256) : bits .or .u16 ((a : Int) * 256) (b : Int) = ((a * 256 ||| b : Nat) : Int) := by
  have h : a * 256 < 2 ^ 16 := by omega
  have h2 : b < 2 ^ 16 := by omega
  rw [show ((a : Int) * 256) = ((a * 256 : Nat) : Int) by omega]
  generalize a * 256 = m at h ⊢
  have h3 : m ||| b < 2 ^ 16 := Nat.or_lt_two_pow h h2
  have e1 : (BitVec.ofInt 16 (m : Int)).toNat = m := by
    rw [BitVec.ofInt_natCast, BitVec.toNat_ofNat]; exact Nat.mod_eq_of_lt h
  have e2 : (BitVec.ofInt 16 (b : Int)).toNat = b := by
    rw [BitVec.ofInt_natCast, BitVec.toNat_ofNat]; exact Nat.mod_eq_of_lt h2
  show IntKind.u16.wrap ((BitVec.ofInt 16 (m : Int) ||| BitVec.ofInt 16 (b : Int)).toNat : Int) = _
  rw [BitVec.toNat_or, e1, e2, IntKind.wrap_u16]
  omega
theorem bits_or_nat32 {a b : Nat} (ha : a < 256 ^ (4 - 1)) (hb : b < 256) : bits .or .u32 ((a : Int) * 256) (b : Int) = ((a * 256 ||| b : Nat) : Int) := by
  have h : a * 256 < 2 ^ 32 := by omega
  have h2 : b < 2 ^ 32 := by omega
  rw [show ((a : Int) * 256) = ((a * 256 : Nat) : Int) by omega]
  generalize a * 256 = m at h ⊢
  have h3 : m ||| b < 2 ^ 32 := Nat.or_lt_two_pow h h2
  have e1 : (BitVec.ofInt 32 (m : Int)).toNat = m := by
    rw [BitVec.ofInt_natCast, BitVec.toNat_ofNat]; exact Nat.mod_eq_of_lt h
  have e2 : (BitVec.ofInt 32 (b : Int)).toNat = b := by
    rw [BitVec.ofInt_natCast, BitVec.toNat_ofNat]; exact Nat.mod_eq_of_lt h2
  show IntKind.u32.wrap ((BitVec.ofInt 32 (m : Int) ||| BitVec.ofInt 32 (b : Int)).toNat : Int) = _
  rw [BitVec.toNat_or, e1, e2, IntKind.wrap_u32]
  omega
theorem bits_or_nat64 {a b : Nat} (ha : a < 256 ^ (8 - 1)) (hb : b < 256) : bits .or .u64 ((a : Int) * 256) (b : Int) = ((a * 256 ||| b : Nat) : Int) := by
  have h : a * 256 < 2 ^ 64 := by omega
  have h2 : b < 2 ^ 64 := by omega
  rw [show ((a : Int) * 256) = ((a * 256 : Nat) : Int) by omega]
  generalize a * 256 = m at h ⊢
  have h3 : m ||| b < 2 ^ 64 := Nat.or_lt_two_pow h h2
  have e1 : (BitVec.ofInt 64 (m : Int)).toNat = m := by
    rw [BitVec.ofInt_natCast, BitVec.toNat_ofNat]; exact Nat.mod_eq_of_lt h
  have e2 : (BitVec.ofInt 64 (b : Int)).toNat = b := by
    rw [BitVec.ofInt_natCast, BitVec.toNat_ofNat]; exact Nat.mod_eq_of_lt h2
  show IntKind.u64.wrap ((BitVec.ofInt 64 (m : Int) ||| BitVec.ofInt 64 (b : Int)).toNat : Int) = _
  rw [BitVec.toNat_or, e1, e2, IntKind.wrap_u64]
  omega

set_option maxRecDepth 100000 in
set_option maxHeartbeats 1000000 in
theorem read8 (w : World) (r : Nat) (bs : List UInt8) (s : Nat × Bool) (hr : Rr 107 w r bs s) :
    Calls Try.prog 58 #[.pointer (some ⟨r, 0, none⟩)] w fun e w' => e = .returned (.int .u8 (num (nx bs s 1).1 : Nat)) ∧ Rr 107 w' r bs (nx bs s 1).2 ∧ Besides r w w' := by
  go_enter Try.func58, Try.ntmps58
  go_wp2_with fail
  refine (width8 _).mono ?_
  rintro e w1 ⟨rfl, rfl⟩
  go_wp2_with fail
  refine (next_any _ r bs s hr 1 (by decide) (by decide)).mono ?_
  rintro e w1 ⟨⟨A, c, rfl, hR, _⟩, hr1, hb1⟩
  have hL : (nx bs s 1).1.length ≤ 1 := nx_len bs s 1
  generalize hx : nx bs s 1 = x at hR hr1 hL ⊢
  have HX := hide hx
  clear hx
  obtain ⟨xs, s'⟩ := x
  dsimp only at hR hr1 hL ⊢
  have HR := hide hR
  have HR1 := hide hr1
  clear hR hr1
  obtain ⟨L, hLe⟩ : ∃ L, xs.length = L := ⟨_, rfl⟩
  have HL := hide hLe
  rw [hLe] at hL ⊢
  clear hLe
  go_wp2
  go_loop [2, 4, 9] (fun vn _ vi => ∃ i : Nat, vi = .int .i64 i ∧ i ≤ L ∧ vn = .int .u8 (num (xs.take i) : Nat)) (fun _ _ vi => L - (intOf vi).toNat)
  case atStart => exact ⟨0, rfl, by omega, rfl⟩
  case round =>
    obtain ⟨i, rfl, hi, rfl⟩ := hrel
    by_cases hlt : i < L
    · have hil : i < xs.length := by rw [HL.out]; exact hlt
      obtain ⟨b, off, rfl, _, _, hc⟩ := HR.out (fun e => by have := congrArg List.length e; rw [u8s_len] at this; simp only [List.length_nil] at this; omega)
      have hc1 := hc i _ (u8s_get hil)
      have ht := hide (num_take hil)
      have hb := (xs[i]).toNat_lt
      have hlt2 := num_lt (xs.take i)
      have hpow : 256 ^ (xs.take i).length ≤ 256 ^ (1 - 1) := Nat.pow_le_pow_right (by decide) (by rw [List.length_take]; omega)
      have ha : num (xs.take i) < 256 ^ (1 - 1) := Nat.lt_of_lt_of_le hlt2 hpow
      clear hlt2 hpow hc
      generalize num (xs.take i) = a at ha ht
      generalize (xs[i]).toNat = y at hb hc1 ht
      go_wp2
      go_round
      case rel => exact ⟨i + 1, by go_num, by omega, by rw [ht.out, ← or_byte _ _ hb]; exact congrArg _ (bits_or_nat8 (by omega) (by omega))⟩
      case measure => simp [intOf]; omega
    · obtain rfl : i = L := by omega
      go_wp2
      go_ret
      rw [← HL.out, List.take_length, HX.out]
      exact ⟨rfl, HR1.out, hb1⟩

set_option maxRecDepth 100000 in
set_option maxHeartbeats 1000000 in
theorem read32 (w : World) (r : Nat) (bs : List UInt8) (s : Nat × Bool) (hr : Rr 107 w r bs s) :
    Calls Try.prog 61 #[.pointer (some ⟨r, 0, none⟩)] w fun e w' => e = .returned (.int .u32 (num (nx bs s 4).1 : Nat)) ∧ Rr 107 w' r bs (nx bs s 4).2 ∧ Besides r w w' := by
  go_enter Try.func61, Try.ntmps61
  go_wp2_with fail
  refine (width32 _).mono ?_
  rintro e w1 ⟨rfl, rfl⟩
  go_wp2_with fail
  refine (next_any _ r bs s hr 4 (by decide) (by decide)).mono ?_
  rintro e w1 ⟨⟨A, c, rfl, hR, _⟩, hr1, hb1⟩
  have hL : (nx bs s 4).1.length ≤ 4 := nx_len bs s 4
  generalize hx : nx bs s 4 = x at hR hr1 hL ⊢
  have HX := hide hx
  clear hx
  obtain ⟨xs, s'⟩ := x
  dsimp only at hR hr1 hL ⊢
  have HR := hide hR
  have HR1 := hide hr1
  clear hR hr1
  obtain ⟨L, hLe⟩ : ∃ L, xs.length = L := ⟨_, rfl⟩
  have HL := hide hLe
  rw [hLe] at hL ⊢
  clear hLe
  go_wp2
  go_loop [2, 4, 9] (fun vn _ vi => ∃ i : Nat, vi = .int .i64 i ∧ i ≤ L ∧ vn = .int .u32 (num (xs.take i) : Nat)) (fun _ _ vi => L - (intOf vi).toNat)
  case atStart => exact ⟨0, rfl, by omega, rfl⟩
  case round =>
    obtain ⟨i, rfl, hi, rfl⟩ := hrel
    by_cases hlt : i < L
    · have hil : i < xs.length := by rw [HL.out]; exact hlt
      obtain ⟨b, off, rfl, _, _, hc⟩ := HR.out (fun e => by have := congrArg List.length e; rw [u8s_len] at this; simp only [List.length_nil] at this; omega)
      have hc1 := hc i _ (u8s_get hil)
      have ht := hide (num_take hil)
      have hb := (xs[i]).toNat_lt
      have hlt2 := num_lt (xs.take i)
      have hpow : 256 ^ (xs.take i).length ≤ 256 ^ (4 - 1) := Nat.pow_le_pow_right (by decide) (by rw [List.length_take]; omega)
      have ha : num (xs.take i) < 256 ^ (4 - 1) := Nat.lt_of_lt_of_le hlt2 hpow
      clear hlt2 hpow hc
      generalize num (xs.take i) = a at ha ht
      generalize (xs[i]).toNat = y at hb hc1 ht
      go_wp2
      go_round
      case rel => exact ⟨i + 1, by go_num, by omega, by rw [ht.out, ← or_byte _ _ hb]; exact congrArg _ (bits_or_nat32 (by omega) (by omega))⟩
      case measure => simp [intOf]; omega
    · obtain rfl : i = L := by omega
      go_wp2
      go_ret
      rw [← HL.out, List.take_length, HX.out]
      exact ⟨rfl, HR1.out, hb1⟩

set_option maxRecDepth 100000 in
set_option maxHeartbeats 1000000 in
theorem read64 (w : World) (r : Nat) (bs : List UInt8) (s : Nat × Bool) (hr : Rr 107 w r bs s) :
    Calls Try.prog 59 #[.pointer (some ⟨r, 0, none⟩)] w fun e w' => e = .returned (.int .u64 (num (nx bs s 8).1 : Nat)) ∧ Rr 107 w' r bs (nx bs s 8).2 ∧ Besides r w w' := by
  go_enter Try.func59, Try.ntmps59
  go_wp2_with fail
  refine (width64 _).mono ?_
  rintro e w1 ⟨rfl, rfl⟩
  go_wp2_with fail
  refine (next_any _ r bs s hr 8 (by decide) (by decide)).mono ?_
  rintro e w1 ⟨⟨A, c, rfl, hR, _⟩, hr1, hb1⟩
  have hL : (nx bs s 8).1.length ≤ 8 := nx_len bs s 8
  generalize hx : nx bs s 8 = x at hR hr1 hL ⊢
  have HX := hide hx
  clear hx
  obtain ⟨xs, s'⟩ := x
  dsimp only at hR hr1 hL ⊢
  have HR := hide hR
  have HR1 := hide hr1
  clear hR hr1
  obtain ⟨L, hLe⟩ : ∃ L, xs.length = L := ⟨_, rfl⟩
  have HL := hide hLe
  rw [hLe] at hL ⊢
  clear hLe
  go_wp2
  go_loop [2, 4, 9] (fun vn _ vi => ∃ i : Nat, vi = .int .i64 i ∧ i ≤ L ∧ vn = .int .u64 (num (xs.take i) : Nat)) (fun _ _ vi => L - (intOf vi).toNat)
  case atStart => exact ⟨0, rfl, by omega, rfl⟩
  case round =>
    obtain ⟨i, rfl, hi, rfl⟩ := hrel
    by_cases hlt : i < L
    · have hil : i < xs.length := by rw [HL.out]; exact hlt
      obtain ⟨b, off, rfl, _, _, hc⟩ := HR.out (fun e => by have := congrArg List.length e; rw [u8s_len] at this; simp only [List.length_nil] at this; omega)
      have hc1 := hc i _ (u8s_get hil)
      have ht := hide (num_take hil)
      have hb := (xs[i]).toNat_lt
      have hlt2 := num_lt (xs.take i)
      have hpow : 256 ^ (xs.take i).length ≤ 256 ^ (8 - 1) := Nat.pow_le_pow_right (by decide) (by rw [List.length_take]; omega)
      have ha : num (xs.take i) < 256 ^ (8 - 1) := Nat.lt_of_lt_of_le hlt2 hpow
      clear hlt2 hpow hc
      generalize num (xs.take i) = a at ha ht
      generalize (xs[i]).toNat = y at hb hc1 ht
      go_wp2
      go_round
      case rel => exact ⟨i + 1, by go_num, by omega, by rw [ht.out, ← or_byte _ _ hb]; exact congrArg _ (bits_or_nat64 (by omega) (by omega))⟩
      case measure => simp [intOf]; omega
    · obtain rfl : i = L := by omega
      go_wp2
      go_ret
      rw [← HL.out, List.take_length, HX.out]
      exact ⟨rfl, HR1.out, hb1⟩

set_option maxRecDepth 100000 in
set_option maxHeartbeats 1000000 in
theorem get8 (w : World) (r : Nat) (bs : List UInt8) (s : Nat × Bool) (hr : Rr 107 w r bs s) :
    Calls Try.prog 43 #[.pointer (some ⟨r, 0, none⟩)] w fun e w' => e = .returned (.int .u8 (num (nx bs s 1).1 : Nat)) ∧ Rr 107 w' r bs (nx bs s 1).2 ∧ Besides r w w' := by
  go_enter Try.func43, Try.ntmps43
  go_wp2_with fail
  refine (read8 _ r bs s hr).mono ?_
  rintro e w1 ⟨rfl, hr1, hb1⟩
  go_wp2
  go_ret
  exact ⟨rfl, hr1, hb1⟩

set_option maxRecDepth 100000 in
set_option maxHeartbeats 1000000 in
theorem get32 (w : World) (r : Nat) (bs : List UInt8) (s : Nat × Bool) (hr : Rr 107 w r bs s) :
    Calls Try.prog 48 #[.pointer (some ⟨r, 0, none⟩)] w fun e w' => e = .returned (.int .u32 (num (nx bs s 4).1 : Nat)) ∧ Rr 107 w' r bs (nx bs s 4).2 ∧ Besides r w w' := by
  go_enter Try.func48, Try.ntmps48
  go_wp2_with fail
  refine (read32 _ r bs s hr).mono ?_
  rintro e w1 ⟨rfl, hr1, hb1⟩
  go_wp2
  go_ret
  exact ⟨rfl, hr1, hb1⟩

set_option maxRecDepth 100000 in
set_option maxHeartbeats 1000000 in
theorem get64 (w : World) (r : Nat) (bs : List UInt8) (s : Nat × Bool) (hr : Rr 107 w r bs s) :
    Calls Try.prog 44 #[.pointer (some ⟨r, 0, none⟩)] w fun e w' => e = .returned (.int .u64 (num (nx bs s 8).1 : Nat)) ∧ Rr 107 w' r bs (nx bs s 8).2 ∧ Besides r w w' := by
  go_enter Try.func44, Try.ntmps44
  go_wp2_with fail
  refine (read64 _ r bs s hr).mono ?_
  rintro e w1 ⟨rfl, hr1, hb1⟩
  go_wp2
  go_ret
  exact ⟨rfl, hr1, hb1⟩

end Go.Proofs.Ytigmmikijjcdiaa
