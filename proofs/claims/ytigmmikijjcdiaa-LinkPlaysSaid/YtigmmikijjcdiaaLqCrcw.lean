/- What each function of package crc computes: its walk. -/
import Derived.Test.YtigmmikijjcdiaaProg
import Derived.Test.YtigmmikijjcdiaaLqCrcm
import Derived.Test.YtigmmikijjcdiaaLqMem
import Derived.WalkKit
import Derived.WalkSpells
import Derived.WalkLawsBesides
import Derived.Lib.Hide
import Derived.WalkMore
import Derived.ScopeJumps
import Derived.Deep.WholeRow










namespace Go.Proofs.Ytigmmikijjcdiaa
open Go.RowKit

theorem ret_num {k : IntKind} {a b : Int} (h : a = b) : Ending.returned (.int k a) = .returned (.int k b) := by rw [h]
theorem and_one_u32 (r : Nat) (hr : r < 4294967296) : bits .and .u32 (r : Int) 1 = ((r % 2 : Nat) : Int) := by
  have h := u32_and_nat r 1 hr (by omega)
  rw [nat_mask1] at h
  exact h

set_option maxHeartbeats 400000 in
theorem up_any (r : Nat) (hr : r < 4294967296) (w : World) :
    Calls Try.prog 74 #[.int .u32 r] w fun e w' => e = .returned (.int .u32 (crcm.up r : Nat)) ∧ w = w' := by
  have e1 := and_one_u32 r hr
  have e2 := u32_xor_nat (r / 2) 2197175160 (by omega) (by omega)
  by_cases h : r % 2 = 1
  · have hb : (bits .and .u32 (r : Int) 1 == 1) = true := by rw [e1, h]; rfl
    have hv : bits .xor .u32 ((r : Int) / 2) 2197175160 = (crcm.up r : Nat) := by unfold crcm.up; rw [if_pos h]; exact e2
    have HV := Lib.hid hv
    clear e1 e2 h hv
    go_enter Try.func74, Try.ntmps74
    go_wp2
    go_ret
    exact ⟨ret_num HV.out, rfl⟩
  · have hb : (bits .and .u32 (r : Int) 1 == 1) = false := by rw [e1]; simp; omega
    have hv : ((r : Int) / 2) = (crcm.up r : Nat) := by unfold crcm.up; rw [if_neg h]; rfl
    have HV := Lib.hid hv
    clear e1 e2 h hv
    go_enter Try.func74, Try.ntmps74
    go_wp2
    go_ret
    exact ⟨ret_num HV.out, rfl⟩

set_option maxHeartbeats 400000 in
theorem leave_any (r : Nat) (hr : r < 4294967296) (w : World) :
    Calls Try.prog 73 #[.int .u32 r] w fun e w' => e = .returned (.int .u32 (crcm.upk 4 r : Nat)) ∧ w = w' := by
  go_enter Try.func73, Try.ntmps73
  go_wp2
  go_loop [0, 3] (fun t i => ∃ k : Nat, k ≤ 4 ∧ i = .int .i64 k ∧ t = .int .u32 (crcm.upk k r : Nat)) (fun _ i => 4 - (intOf i).toNat)
  case atStart => exact ⟨0, by omega, rfl, rfl⟩
  case round =>
    obtain ⟨k, hk, rfl, rfl⟩ := hrel
    by_cases hlt : k < 4
    · go_wp2_with (go_at_call 74; refine (up_any _ (crcm.upk_lt _ _ hr) _).mono ?_; rintro e w' ⟨rfl, rfl⟩)
      go_round
      case rel => exact ⟨k + 1, by omega, by go_num, rfl⟩
      case measure => simp [intOf]; omega
    · obtain rfl : k = 4 := by omega
      go_wp2
      go_ret
      exact ⟨rfl, rfl⟩

/-- the bit of the power k -/
def bitAt (k : Nat) : Nat := if k < 32 then 2 ^ (31 - k) else 0
theorem bitAt_half (k : Nat) : bitAt k / 2 = bitAt (k + 1) := by
  unfold bitAt
  by_cases h : k + 1 < 32
  · rw [if_pos (by omega), if_pos h, show 31 - k = (31 - (k + 1)) + 1 by omega, Nat.pow_succ]
    omega
  · rw [if_neg h]
    by_cases h2 : k < 32
    · obtain rfl : k = 31 := by omega
      decide
    · rw [if_neg h2]
theorem bitAt_lt (k : Nat) : bitAt k < 4294967296 := by
  unfold bitAt
  split
  · exact Nat.lt_of_le_of_lt (Nat.pow_le_pow_right (by omega) (show 31 - k ≤ 31 by omega)) (by decide)
  · decide
theorem bitAt_ne {k : Nat} (h : k < 32) : ((bitAt k : Nat) : Int) != 0 := by
  unfold bitAt
  rw [if_pos h]
  have := Nat.two_pow_pos (31 - k)
  rw [bne_iff_ne]
  omega
theorem bitAt_test (a k : Nat) (ha : a < 4294967296) (h : k < 32) : (bits .and .u32 (a : Int) ((bitAt k : Nat) : Int) != 0) = a.testBit (31 - k) := by
  rw [u32_and_nat a _ ha (bitAt_lt k)]
  unfold bitAt
  rw [if_pos h, nat_bit, Nat.testBit_eq_decide_div_mod_eq]
  have hp := Nat.two_pow_pos (31 - k)
  generalize 2 ^ (31 - k) = p at hp ⊢
  rcases Nat.mod_two_eq_zero_or_one (a / p) with h0 | h0
  · rw [h0]; simp
  · rw [h0, Nat.one_mul]; simp; omega

theorem and_one_i64 (n : Nat) (hn : n ≤ 9223372036854775807) : bits .and .i64 (n : Int) 1 = ((n % 2 : Nat) : Int) := by
  show IntKind.i64.wrap ((BitVec.ofInt 64 (n : Int) &&& BitVec.ofInt 64 (1 : Nat)).toNat : Int) = _
  rw [BitVec.toNat_and, BitVec.ofInt_natCast, BitVec.ofInt_natCast, BitVec.toNat_ofNat, BitVec.toNat_ofNat, Nat.mod_eq_of_lt (by omega), Nat.mod_eq_of_lt (by omega), nat_mask1, IntKind.wrap_i64]
  omega

theorem odd_step {e d k n : Nat} (h : e + d * k = n) (hk : k % 2 = 1) : (e + d) + (d + d) * (k / 2) = n := by
  obtain ⟨j, rfl⟩ : ∃ j, k = 2 * j + 1 := ⟨k / 2, by omega⟩
  rw [show (2 * j + 1) / 2 = j by omega, ← h, Nat.mul_add, Nat.add_mul, ← Nat.mul_assoc, Nat.mul_comm d 2, Nat.two_mul, Nat.add_mul, Nat.mul_one]
  omega
theorem even_step {e d k n : Nat} (h : e + d * k = n) (hk : ¬ k % 2 = 1) : e + (d + d) * (k / 2) = n := by
  obtain ⟨j, rfl⟩ : ∃ j, k = 2 * j := ⟨k / 2, by omega⟩
  rw [show (2 * j) / 2 = j by omega, ← h, ← Nat.mul_assoc, Nat.mul_comm d 2, Nat.two_mul]

/-- a whole row into the block that was made last -/
theorem wpList_store_last {P : Program} {ops : Array Oper} {rest : List Oper} {o : Oper} {a : Act} {w : World} {Q : Exit → Act → World → Prop} (hgd : o.guard = none) (ty : TypeId) (x y : Operand) (ho : o.op = .store ty x y)
    (cells old : Array Value) (hx : a.eval x = .pointer (some ⟨w.heap.size, 0, none⟩)) (hy : a.eval y = .agg cells) (t : TypeId) (hi : (P.info? ty).map (·.size) = some cells.size)
    (hold : old.size = cells.size) (h1 : cells.all (·.oneCell') = true)
    (h : wpList P ops Q rest (a.put o.dst undef) (w.alloc (.cells cells t))) : wpList P ops Q (o :: rest) a (w.alloc (.cells old t)) :=
  wpList_plain hgd fun _ hK => wp_store_row ty x y ho w.heap.size cells hx hy t old (heap_alloc_last w _) hi hold h1 (hK _ _ (by rw [World.setRow_alloc_new]; exact h))

def tabTo (k : Nat) : Array Value := ((List.range 16).map fun i => if i < k then Value.int .u32 (crcm.upk 4 i : Nat) else .int .u32 0).toArray
theorem tabTo_size (k : Nat) : (tabTo k).size = 16 := by simp [tabTo]
theorem tabTo_get (k i : Nat) (h : i < 16) : (tabTo k)[i]? = some (if i < k then Value.int .u32 (crcm.upk 4 i : Nat) else .int .u32 0) := by
  simp [tabTo, h]
theorem tabTo_one (k : Nat) : (tabTo k).all (·.oneCell') = true := by
  simp only [tabTo, List.all_toArray, List.all_map]
  rw [List.all_eq_true]
  intro x _
  simp only [Function.comp]
  split <;> rfl
theorem tabTo_set (k : Nat) (_h : k < 16) : (tabTo k).setIfInBounds k (.int .u32 (crcm.upk 4 k : Nat)) = tabTo (k + 1) := by
  apply Array.ext
  · simp [tabTo_size]
  · intro i h1 h2
    have hi : i < 16 := by simpa [tabTo_size] using h2
    have e2 := tabTo_get (k + 1) i hi
    have e1 := tabTo_get k i hi
    rw [Array.getElem?_eq_getElem h2] at e2
    rw [Array.getElem?_eq_getElem (by simpa [tabTo_size] using hi)] at e1
    simp only [Option.some.injEq] at e1 e2
    rw [Array.getElem_setIfInBounds (by simpa [tabTo_size] using hi), e1, e2]
    by_cases hk : k = i
    · subst hk; simp
    · rw [if_neg hk]
      by_cases hlt : i < k
      · rw [if_pos hlt, if_pos (by omega)]
      · rw [if_neg hlt, if_neg (by omega)]
theorem info_tab : (Try.prog.info? 111).map (·.size) = some 16 := by kernel_rfl

set_option maxRecDepth 100000 in
set_option maxHeartbeats 400000 in
/-- the table of what four bits make -/
theorem halves_any (w : World) :
    Calls Try.prog 62 #[] w fun e w' => e = .returned (.agg (tabTo 16)) ∧ Below w.heap.size w w' := by
  go_enter Try.func62, Try.ntmps62
  go_wp2
  go_loopw [2, 3] (fun _ i wr => ∃ k : Nat, k ≤ 16 ∧ i = .int .i64 k ∧ wr = w.alloc (.cells (tabTo k) 111)) (fun _ i _ => 16 - (intOf i).toNat)
  case atStart => exact ⟨0, by omega, rfl, rfl⟩
  case round =>
    obtain ⟨k, hk, rfl, rfl⟩ := hrel
    by_cases hlt : k < 16
    · have g1 := tabTo_get k k hlt
      rw [if_neg (Nat.lt_irrefl k)] at g1
      go_wp2_with (go_at_call 73; refine (leave_any _ (by omega) _).mono ?_; rintro e w' ⟨rfl, rfl⟩)
      go_roundw
      case rel => exact ⟨k + 1, by omega, by go_num, by rw [tabTo_set k hlt]⟩
      case measure => simp [intOf]; omega
    · obtain rfl : k = 16 := by omega
      go_wp2_with (first
        | (refine wpList_load_row rfl 111 (.tmp 0) rfl w.heap.size rfl 111 (tabTo 16) (0, 0) _ (heap_alloc_last w _) Try.underlying111 rfl (by rw [info_tab, tabTo_size]) ?_)
        | (refine wpList_store_last rfl 111 (.tmp 0) (.tmp 13) rfl (tabTo 16) (tabTo 16) rfl rfl 111 (by rw [info_tab, tabTo_size]) rfl (tabTo_one 16) ?_))
      refine bodyPost_ret (v := .agg (tabTo 16)) (results_cell_row rfl _ _ w.heap.size 111 (tabTo 16) (0, 0) _ rfl (heap_alloc_last w _) Try.underlying111 rfl (by rw [info_tab, tabTo_size])) rfl ⟨rfl, ?_⟩
      exact (Below.refl _ _).alloc (Nat.le_refl _) _

set_option maxRecDepth 100000 in
set_option maxHeartbeats 1000000 in
/-- the check of bytes -/
theorem sum_any (bs : List UInt8) (A : Option Addr) (cap B : Nat) (w : World) (hr : Rd w B A (u8s bs)) (hB : B ≤ w.heap.size) (hl : bs.length ≤ 9223372036854775807) :
    Calls Try.prog 49 #[.slice A bs.length cap] w fun e w' => e = .returned (.int .u32 (crcm.sum bs : Nat)) ∧ Below w.heap.size w w' := by
  go_enter Try.func49, Try.ntmps49
  go_wp2_with (first
    | (go_at_call 62; refine (halves_any _).mono ?_; rintro e w1 ⟨rfl, hb1⟩)
    | (refine wpList_store_last rfl 111 (.tmp 3) (.tmp 7) rfl (tabTo 16) _ rfl rfl 111 (by rw [info_tab, tabTo_size]) (by rw [tabTo_size]; rfl) (tabTo_one 16) ?_))
  have hr1 := (hr.below' hb1 hB).alloc (Nat.le_trans hB hb1.size) (.cells (tabTo 16) 111)
  go_loop [4, 6, 10] (fun r _ i => ∃ k : Nat, k ≤ bs.length ∧ i = .int .i64 k ∧ r = .int .u32 (crcm.sumR 4294967295 (bs.take k) : Nat)) (fun _ _ i => bs.length - (intOf i).toNat)
  case atStart => exact ⟨0, by omega, rfl, rfl⟩
  case round =>
    obtain ⟨k, hk, rfl, rfl⟩ := hrel
    by_cases hlt : k < bs.length
    · obtain ⟨b, off, rfl, hbB, hcell⟩ := hr1.at_ (k := k) (by rw [u8s_len]; exact hlt)
      have hc := hcell k _ (u8s_get hlt)
      have hsn := hide (crcm.sumR_snoc 4294967295 (bs.take k) bs[k])
      have htk : Hid (bs.take (k + 1) = bs.take k ++ [bs[k]]) := by rw [List.take_succ_eq_append_getElem hlt]; exact hide rfl
      have hrl := crcm.sumR_lt (bs.take k) 4294967295 (by omega)
      have hcl := crcm.byte_lt bs[k]
      clear hcell hr1
      generalize bs[k] = c at *
      generalize hg : crcm.sumR 4294967295 (bs.take k) = r at *
      clear hg
      obtain ⟨s, hs⟩ : ∃ s, s = r ^^^ c.toNat := ⟨_, rfl⟩
      have hsl : s < 4294967296 := by rw [hs]; exact Nat.xor_lt_two_pow (n := 32) hrl (by omega)
      have x1 : bits .xor .u32 (r : Int) (c.toNat : Int) = (s : Int) := by rw [hs]; exact u32_xor_nat _ _ hrl (by omega)
      have HS := hide hs
      clear hs
      obtain ⟨q, hq⟩ : ∃ q, q = s % 16 := ⟨_, rfl⟩
      have hql : q < 16 := by omega
      have a1 : bits .and .u32 (s : Int) 15 = (q : Int) := by rw [hq, ← nat_mask4]; exact u32_and_nat s 15 hsl (by omega)
      have g1 := tabTo_get 16 q hql
      rw [if_pos hql] at g1
      obtain ⟨s2, hs2⟩ : ∃ s2, s2 = s / 16 ^^^ crcm.upk 4 q := ⟨_, rfl⟩
      have hul := crcm.upk_lt 4 q (by omega)
      have hs2l : s2 < 4294967296 := by rw [hs2]; exact Nat.xor_lt_two_pow (n := 32) (by omega) hul
      have x2 : bits .xor .u32 ((s : Int) / 16) (crcm.upk 4 q : Nat) = (s2 : Int) := by rw [hs2]; exact u32_xor_nat (s / 16) _ (by omega) hul
      obtain ⟨q2, hq2⟩ : ∃ q, q = s2 % 16 := ⟨_, rfl⟩
      have hq2l : q2 < 16 := by omega
      have a2 : bits .and .u32 (s2 : Int) 15 = (q2 : Int) := by rw [hq2, ← nat_mask4]; exact u32_and_nat s2 15 hs2l (by omega)
      have g2 := tabTo_get 16 q2 hq2l
      rw [if_pos hq2l] at g2
      have hul2 := crcm.upk_lt 4 q2 (by omega)
      have x3 : bits .xor .u32 ((s2 : Int) / 16) (crcm.upk 4 q2 : Nat) = (crcm.upk 8 s : Nat) := by
        rw [← crcm.byte_step s, ← hq, ← hs2, ← hq2]; exact u32_xor_nat (s2 / 16) _ (by omega) hul2
      have HQ := hide hq
      have HQ2 := hide hq2
      have HS2 := hide hs2
      clear hq hq2 hs2
      go_wp2
      go_round
      case rel =>
        refine ⟨k + 1, by omega, by go_num, ?_⟩
        rw [htk.out, hsn.out, ← HS.out]
      case measure => simp [intOf]; omega
    · obtain rfl : k = bs.length := by omega
      rw [List.take_length]
      have hrl := crcm.sumR_lt bs 4294967295 (by omega)
      have hv := hide (u32_xor_nat 4294967295 _ (by omega) hrl)
      clear hr1 hrl
      go_wp2
      go_ret
      refine ⟨ret_num ?_, hb1.alloc hb1.size _⟩
      refine hv.out.trans ?_
      rw [Nat.xor_comm]
      rfl

end Go.Proofs.Ytigmmikijjcdiaa
