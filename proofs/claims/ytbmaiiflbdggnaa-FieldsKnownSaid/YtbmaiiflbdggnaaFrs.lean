/- Several Readers at once: where a Reader's bytes lie; what a Reader tells of the digits of a number. -/
import Derived.Test.YtbmaiiflbdggnaaFlw
import Derived.Test.YtbmaiiflbdggnaaFou
namespace Go.Proofs.Ytbmaiiflbdggnaa
open Go.RowKit
set_option linter.unusedVariables false
set_option linter.unusedSimpArgs false

/-- a Reader in block g whose bytes lie at block lo or behind it -/
def Rl (w : World) (g lo : Nat) (bs : List UInt8) (s : Nat × Bool) : Prop :=
  ∃ A c, w.heap[g]? = some (.cells #[.slice A bs.length c, .int .i64 (s.1 : Nat), .bool s.2] 65) ∧ Rn w g A (u8s bs) ∧ (bs.length ≤ c ∧ bs.length ≤ 140737488351232 ∧ s.1 ≤ bs.length) ∧ lo ≤ g ∧ ∀ b off e, A = some ⟨b, off, e⟩ → lo ≤ b
theorem Rl.rr {w : World} {g lo : Nat} {bs : List UInt8} {s : Nat × Bool} (h : Rl w g lo bs s) : Rr 65 w g bs s := by
  obtain ⟨A, c, h1, h2, h3, _⟩ := h
  exact ⟨A, c, h1, h2, h3⟩
theorem Rl.le {w : World} {g lo : Nat} {bs : List UInt8} {s : Nat × Bool} (h : Rl w g lo bs s) : lo ≤ g := by obtain ⟨A, c, _, _, _, h, _⟩ := h; exact h
theorem Rl.other {w w' : World} {g lo k : Nat} {bs : List UInt8} {s : Nat × Bool} (h : Rl w g lo bs s) (hb : Besides k w w') (hk : k < lo) : Rl w' g lo bs s := by
  obtain ⟨A, c, h1, h2, h3, h4, h5⟩ := h
  refine ⟨A, c, (hb.block g (lt_of_block h1) (by omega)).trans h1, fun hn => ?_, h3, h4, h5⟩
  obtain ⟨b, off, e, hg, hlt, hc⟩ := h2 hn
  have := h5 b off none e
  exact ⟨b, off, e, hg, Nat.lt_of_lt_of_le hlt hb.size, fun j u hu => (hb.cell (p := ⟨b, off + j, none⟩) hlt (by show b ≠ k; omega)).trans (hc j u hu)⟩
theorem Rl.below {w w' : World} {g lo : Nat} {bs : List UInt8} {s : Nat × Bool} (h : Rl w g lo bs s) (hb : Below w.heap.size w w') : Rl w' g lo bs s := by
  obtain ⟨A, c, h1, h2, h3, h4, h5⟩ := h
  exact ⟨A, c, (hb.block g (lt_of_block h1)).trans h1, h2.besides (.of_below hb), h3, h4, h5⟩

set_option maxRecDepth 100000 in
set_option maxHeartbeats 1000000 in
theorem open_lo (w : World) (A : Option Addr) (bs : List UInt8) (n c : Nat) (hn : bs.length = n) (hR : Rd w w.heap.size A (u8s bs)) (hl : bs.length ≤ 1000000000000) :
    Calls Try.prog 14 #[.slice A n c] w fun e w' => (∃ r, e = .returned (.pointer (some ⟨r, 0, none⟩)) ∧ Rl w' r w.heap.size bs (0, false)) ∧ Below w.heap.size w w' := by
  subst hn
  go_enter Try.func14, Try.ntmps14
  go_wp2_with fail
  refine (clone_any _ A bs c hR (by omega)).mono ?_
  rintro e w1 ⟨⟨A', c', rfl, hown⟩, hb1⟩
  go_wp2
  go_ret
  have hr1 := (Rd.of_own hown).alloc (Nat.le_refl _) (.cells #[.slice A' bs.length c', .int .i64 0, .bool false] 65)
  refine ⟨⟨w1.heap.size, rfl, A', c', heap_alloc_last w1 _, Rn.of_rd hr1 (Nat.le_refl _) (by simp), ⟨own_cap hown, by omega, Nat.zero_le _⟩, hb1.size, fun b off e h => ?_⟩, hb1.alloc hb1.size _⟩
  rcases hown.2 with ⟨h0, _⟩ | ⟨g, cap, cur, hv, hg, _⟩
  · injection h0 with h0; rw [h0] at h; cases h
  · injection hv with hv; rw [hv] at h; injection h with h; injection h with h1 _; omega

theorem second_new (w : World) : Wr ((w.alloc (.cells #[.pointer none, .int .i64 0] 28)).alloc (.cells #[.pointer none, .int .i64 0] 28)) (w.heap.size + 1) (w.heap.size + 1) [] := by
  have s1 : (w.alloc (.cells #[.pointer none, .int .i64 0] 28)).heap.size = w.heap.size + 1 := by simp
  have h2 := Wr.new (w.alloc (.cells #[.pointer none, .int .i64 0] 28))
  rw [s1] at h2
  exact h2
theorem be_take (k n m : Nat) : (be (k + n) m).take k = be k (m / 256 ^ n) := by
  induction n generalizing m with
  | zero => rw [Nat.add_zero, Nat.pow_zero, Nat.div_one]; exact List.take_of_length_le (by rw [be_len]; exact Nat.le_refl _)
  | succ n ih => rw [show k + (n + 1) = (k + n) + 1 by omega, be, List.take_append_of_le_length (by rw [be_len]; omega), ih, Nat.div_div_eq_div_mul, Nat.pow_succ, Nat.mul_comm]
/-- what a Reader tells of a number's digits: k of them, with r behind them -/
theorem nx_be (L m s k r : Nat) (i : Int) (hi : i = (k : Int)) (h : s + k + r = L) : nx (be L m) (s, false) i = (be k (m / 256 ^ r), (s + k, false)) := by
  subst hi
  have hn : ¬ ((s, false).2 = true ∨ (k : Int) < 0 ∨ ((be L m).length : Int) - (((s, false) : Nat × Bool).1 : Int) < k) := by
    rw [be_len]
    rintro (h | h | h)
    · cases h
    · omega
    · dsimp only at h; omega
  rw [nx, if_neg hn]
  dsimp only
  rw [Int.toNat_natCast]
  subst h
  rw [show s + k + r = s + (k + r) by omega, be_drop, be_take]
theorem put8i (w : World) (g : Nat) {lo : Nat} (out : List UInt8) (x : Int) (m : Nat) (hx : x = (m : Int)) (hm : m < 256) (hW : Wo w g lo out) (hl : out.length ≤ 1000000000000) :
    Calls Try.prog 25 #[.pointer (some ⟨g, 0, none⟩), .int .u8 x] w fun e w' => e = .returned (.tuple #[]) ∧ Wo w' g lo (out ++ be 1 m) ∧ Besides g w w' := by
  subst hx; exact put8 w g out m hm hW hl
theorem put16i (w : World) (g : Nat) {lo : Nat} (out : List UInt8) (x : Int) (m : Nat) (hx : x = (m : Int)) (hm : m < 65536) (hW : Wo w g lo out) (hl : out.length ≤ 1000000000000) :
    Calls Try.prog 26 #[.pointer (some ⟨g, 0, none⟩), .int .u16 x] w fun e w' => e = .returned (.tuple #[]) ∧ Wo w' g lo (out ++ be 2 m) ∧ Besides g w w' := by
  subst hx; exact put16 w g out m hm hW hl
theorem put32i (w : World) (g : Nat) {lo : Nat} (out : List UInt8) (x : Int) (m : Nat) (hx : x = (m : Int)) (hm : m < 4294967296) (hW : Wo w g lo out) (hl : out.length ≤ 1000000000000) :
    Calls Try.prog 27 #[.pointer (some ⟨g, 0, none⟩), .int .u32 x] w fun e w' => e = .returned (.tuple #[]) ∧ Wo w' g lo (out ++ be 4 m) ∧ Besides g w w' := by
  subst hx; exact put32 w g out m hm hW hl
theorem put64i (w : World) (g : Nat) {lo : Nat} (out : List UInt8) (x : Int) (m : Nat) (hx : x = (m : Int)) (hm : m < 18446744073709551616) (hW : Wo w g lo out) (hl : out.length ≤ 1000000000000) :
    Calls Try.prog 24 #[.pointer (some ⟨g, 0, none⟩), .int .u64 x] w fun e w' => e = .returned (.tuple #[]) ∧ Wo w' g lo (out ++ be 8 m) ∧ Besides g w w' := by
  subst hx; exact put64 w g out m hm hW hl
theorem be_app (k n m : Nat) : be k (m / 256 ^ n) ++ be n m = be (k + n) m := by
  rw [← be_take k n m, ← be_drop k n m, List.take_append_drop]
theorem be_halves (n : Nat) : [] ++ be 4 (n / 4294967296) ++ be 2 (n / 65536 % 65536) ++ be 1 (n / 256 % 256) ++ be 1 (n % 256) = be 8 n := by
  have h1 := be_mod 2 (n / 65536) 0
  have h2 := be_mod 1 (n / 256) 0
  have h3 := be_mod 1 n 0
  rw [show (256 : Nat) ^ (2 + 0) = 65536 by decide] at h1
  rw [show (256 : Nat) ^ (1 + 0) = 256 by decide] at h2 h3
  have h4 := be_app 4 2 (n / 65536)
  rw [show n / 65536 / 256 ^ 2 = n / 4294967296 by rw [Nat.div_div_eq_div_mul]] at h4
  have h5 := be_app (4 + 2) 1 (n / 256)
  rw [show n / 256 / 256 ^ 1 = n / 65536 by rw [Nat.div_div_eq_div_mul]] at h5
  have h6 := be_app (4 + 2 + 1) 1 n
  rw [show n / 256 ^ 1 = n / 256 by rw [Nat.pow_one]] at h6
  rw [h1, h2, h3, List.nil_append, h4, h5, h6]
theorem half16 (n i : Nat) (hn : n < 18446744073709551616) (hi : i < 4) : n / 256 ^ (8 - 2 * i) < 281474976710656 ∧ n / 256 ^ (8 - 2 * i) * 65536 + n / 256 ^ (6 - 2 * i) % 256 ^ 2 = n / 256 ^ (8 - 2 * (i + 1)) := by
  obtain rfl | rfl | rfl | rfl : i = 0 ∨ i = 1 ∨ i = 2 ∨ i = 3 := by omega
  all_goals simp only [Nat.reduceMul, Nat.reduceSub, Nat.reduceAdd, Nat.reducePow, Nat.div_one]; omega
theorem half8 (n i : Nat) (hn : n < 18446744073709551616) (hi : i < 8) : n / 256 ^ (8 - i) < 72057594037927936 ∧ n / 256 ^ (8 - i) * 256 + n / 256 ^ (7 - i) % 256 ^ 1 = n / 256 ^ (8 - (i + 1)) := by
  obtain rfl | rfl | rfl | rfl | rfl | rfl | rfl | rfl : i = 0 ∨ i = 1 ∨ i = 2 ∨ i = 3 ∨ i = 4 ∨ i = 5 ∨ i = 6 ∨ i = 7 := by omega
  all_goals simp only [Nat.reduceMul, Nat.reduceSub, Nat.reduceAdd, Nat.reducePow, Nat.div_one]; omega
theorem bits_or64 {a b k : Nat} (hk : k ≤ 64) (ha : a * 2 ^ k < 2 ^ 64) (hb : b < 2 ^ k) : bits .or .u64 ((a * 2 ^ k : Nat) : Int) (b : Int) = ((a * 2 ^ k + b : Nat) : Int) := by
  have e0 : a * 2 ^ k ||| b = a * 2 ^ k + b := by rw [Nat.mul_comm, Nat.two_pow_add_eq_or_of_lt hb]
  have h2 : b < 2 ^ 64 := Nat.lt_of_lt_of_le hb (Nat.pow_le_pow_right (by decide) hk)
  generalize a * 2 ^ k = m at ha e0 ⊢
  have h3 : m ||| b < 2 ^ 64 := Nat.or_lt_two_pow ha h2
  have e1 : (BitVec.ofInt 64 (m : Int)).toNat = m := by
    rw [BitVec.ofInt_natCast, BitVec.toNat_ofNat]; exact Nat.mod_eq_of_lt ha
  have e2 : (BitVec.ofInt 64 (b : Int)).toNat = b := by
    rw [BitVec.ofInt_natCast, BitVec.toNat_ofNat]; exact Nat.mod_eq_of_lt h2
  show IntKind.u64.wrap ((BitVec.ofInt 64 (m : Int) ||| BitVec.ofInt 64 (b : Int)).toNat : Int) = _
  rw [BitVec.toNat_or, e1, e2, IntKind.wrap_u64, e0]
  rw [e0] at h3
  omega

end Go.Proofs.Ytbmaiiflbdggnaa
