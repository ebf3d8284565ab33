/- What the reference's Power, Times and Sum compute: their walks. -/
import Derived.Test.YtigmmikijjcdiaaLqCrcr

namespace Go.Proofs.Ytigmmikijjcdiaa
open Go.RowKit
set_option linter.unusedVariables false

theorem made_bools (n : Nat) : (madeCells (Value.bool false).cells (n * 1)).toList = bools (List.replicate n false) := by
  rw [Nat.mul_one, show (Value.bool false).cells = #[Value.bool false] from rfl, toList_madeCells_one]
  simp [bools]

theorem own_rep {w : World} {base : Nat} {e : TypeId} {g n c m : Nat} (h : w.ownsRow base e 1 (.slice (some ⟨g, 0, none⟩) n c) n (bools (List.replicate m false))) {j : Nat} (hj : j < m) :
    w.cell? ⟨g, j, none⟩ = some (.bool false) := by
  have := own_bool h (j := j) (by simpa using hj)
  simpa using this

theorem bitsOf_get (n i : Nat) (h : i < 32) : (bools (bitsOf n))[i]? = some (.bool (n.testBit i)) := by
  simp [bools, bitsOf, h]
theorem bitsOf_len (n : Nat) : (bools (bitsOf n)).length = 32 := by simp [bools, bitsOf]

theorem byte_test (x k : Nat) (hx : x < 256) : (bits .and .u8 ((x : Int) / 2 ^ k) 1 == 1) = x.testBit k := by
  have e : ((x : Int) / 2 ^ k) = ((x / 2 ^ k : Nat) : Int) := by simp
  have hl : x / 2 ^ k < 256 := Nat.lt_of_le_of_lt (Nat.div_le_self _ _) hx
  have h1 : bits .and .u8 ((x / 2 ^ k : Nat) : Int) 1 = ((x / 2 ^ k % 2 : Nat) : Int) := by
    have h := u8_and_nat (x / 2 ^ k) 1 hl (by omega)
    rw [nat_mask1] at h
    exact h
  rw [e, h1, Nat.testBit_eq_decide_div_mod_eq]
  rcases Nat.mod_two_eq_zero_or_one (x / 2 ^ k) with h0 | h0 <;> rw [h0] <;> rfl

set_option maxRecDepth 100000 in
set_option maxHeartbeats 1600000 in
theorem refSum_any (bs : List UInt8) (A : Option Addr) (cap B : Nat) (w : World) (hr : Rd w B A (u8s bs)) (hB : B ≤ w.heap.size) (hl : bs.length ≤ 16777216) :
    Calls Try.prog 40 #[.slice A bs.length cap] w fun e w' => e = .returned (.int .u32 (crcm.sum bs : Nat)) ∧ Below w.heap.size w w' := by
  obtain ⟨i0, hi0, hz0, hz1, hz2⟩ := info_parts info_bool
  obtain ⟨N, hN⟩ : ∃ N, 8 * bs.length + 32 = N := ⟨_, rfl⟩
  have hrep := hide (made_bools N)
  have hNl : N ≤ 134217760 := by omega
  have hN32 : 32 ≤ N := by omega
  have hNi : 8 * (bs.length : Int) + 32 = (N : Int) := by omega
  have HN := hide hN
  clear hN
  go_enter Try.func40, Try.ntmps40
  go_wp2_with (at_make; refine wpList_make_full _ rfl (.tmp 10) (.tmp 10) 95 rfl w.heap.size 4 i0 (.bool false) 1 Try.underlying95 hi0 hz0 hz1 .i64 .i64 _ _ N rfl rfl (by omega) (by omega) (by rw [hz2]; omega) (by unfold maxLen; omega) (Nat.le_refl _) ?_; intro w1 hown1 hg1; rw [hrep.out] at hown1; have hb1 := (Below.refl w.heap.size w).grown hg1 (Nat.le_refl _) (fun k hk => by cases hk); have hr1 := hr.below' hb1 hB)
  clear hg1 hr
  go_loopw [4, 5] (fun vi _ wr => ∃ (i : Nat) (cu : List Bool), vi = .int .i64 i ∧ i ≤ bs.length ∧ cu.length = N ∧ wr.ownsRow w.heap.size 4 1 (.slice (some ⟨w.heap.size, 0, none⟩) N N) N (bools cu) ∧ Rd wr B A (u8s bs) ∧ Below w.heap.size w wr ∧ Hid (crcm.rest cu = crcm.upk (8 * (bs.length - i)) (crcm.sumR 0 (bs.take i))) ∧ Hid (∀ j, 8 * i ≤ j → j < N → cu[j]? = some false)) (fun vi _ _ => bs.length - (intOf vi).toNat)
  case atStart =>
    refine ⟨0, _, rfl, by omega, by rw [List.length_replicate], hown1, hr1, hb1, hide ?_, hide ?_⟩
    · rw [crcm.rest_false, List.take_zero]; exact (crcm.upk_zero _).symm
    · intro j _ hj; simp [hj]
  case round =>
    obtain ⟨i, cu, rfl, hi, hcu, hown, hrd, hbw, hrs, hz⟩ := hrel
    have HC := hide hcu
    clear hown1 hr1 hb1 hcu
    obtain ⟨wo, hwo⟩ : ∃ wo, wr = wo := ⟨_, rfl⟩
    subst hwo
    by_cases hlt : i < bs.length
    · obtain ⟨b, o, rfl, hbB, _⟩ := hrd.at_ (k := i) (by rw [u8s_len]; exact hlt)
      obtain ⟨w0, hw0⟩ : ∃ w0, w0 = wr := ⟨_, rfl⟩
      have HW0 := hide hw0
      have hdone := hide (crcm.byte_done bs.length i bs hlt rfl)
      have hget := hide (u8s_get hlt)
      have hxl := crcm.byte_lt bs[i]
      generalize bs[i] = x at hdone hget hxl
      obtain ⟨R, hR⟩ : ∃ R, crcm.upk (8 * (bs.length - i)) (crcm.sumR 0 (bs.take i)) = R := ⟨_, rfl⟩
      have hrs' := hide (hrs.out.trans hR)
      have hdone' := hide hdone.out
      rw [hR] at hdone'
      have HZ := hide hz.out
      clear hw0 hrs hdone hz hR
      go_wp2
      go_loopw [5] (fun vk wk => ∃ (k : Nat) (cu : List Bool), vk = .int .i64 k ∧ k ≤ 8 ∧ cu.length = N ∧ wk.ownsRow w.heap.size 4 1 (.slice (some ⟨w.heap.size, 0, none⟩) N N) N (bools cu) ∧ Rd wk B (some ⟨b, o, none⟩) (u8s bs) ∧ Below w.heap.size w wk ∧ Hid (crcm.rest cu = R ^^^ crcm.upk (8 * (bs.length - i)) (x.toNat % 2 ^ k)) ∧ Hid (∀ j, 8 * i + k ≤ j → j < N → cu[j]? = some false)) (fun vk _ => 8 - (intOf vk).toNat)
      case atStart => exact ⟨0, cu, rfl, by omega, HC.out, hown, hrd, hbw, hide (by rw [hrs'.out, show x.toNat % 2 ^ 0 = 0 by omega, crcm.upk_zero, Nat.xor_zero]), HZ⟩
      case round =>
        obtain ⟨k, cu, rfl, hk, hcu, hown, hrd, hbw, hrs, hz⟩ := hrel
        have HC2 := hide hcu
        clear hcu
        by_cases hklt : k < 8
        · obtain ⟨q, hq⟩ : ∃ q, 8 * i + k = q := ⟨_, rfl⟩
          have hqN : q < N := by have := HN.out; omega
          have hqc : q < cu.length := by have := HC2.out; omega
          have hqi : 8 * (i : Int) + (k : Int) = (q : Int) := by omega
          have hx := hrd.cell hget.out
          have ht := byte_test x.toNat k hxl
          have hqf : cu[q] = false := by
            have := hz.out q (by omega) hqN
            rw [List.getElem?_eq_getElem hqc] at this
            simpa using this
          have hrs2 := hide (crcm.bit_step cu bs.length i k q x.toNat R (by rw [HC2.out]; exact HN.out.symm) hlt hklt hrs.out hq hqc hqf)
          have hcell := own_bool hown hqc
          have hfr := hown.frozenAt q
          have hset := own_set hown q (.bool (x.toNat.testBit k))
          rw [bools_set] at hset
          have hset2 := hide hset
          have hrd2 := hide (hrd.setCell (p := ⟨w.heap.size, q, none⟩) hB (.bool (x.toNat.testBit k)))
          have hbw2 := hide (hbw.setCell (p := ⟨w.heap.size, q, none⟩) (Nat.le_refl _) (.bool (x.toNat.testBit k)))
          have hz2 : Hid (∀ j, 8 * i + (k + 1) ≤ j → j < N → (cu.set q (x.toNat.testBit k))[j]? = some false) := hide (fun j hj hjN => by
            rw [List.getElem?_set_ne (by omega)]
            exact hz.out j (by omega) hjN)
          rw [hqf] at hcell
          clear hset hown hrd hbw hrs hz hqf hq
          go_wp2
          go_roundw
          case rel => exact ⟨k + 1, _, by go_num, by omega, by rw [List.length_set]; exact HC2.out, hset2.out, hrd2.out, hbw2.out, hrs2, hz2⟩
          case measure => simp [intOf]; omega
        · obtain rfl : k = 8 := by omega
          have hrs2 := hide (hrs.out.trans hdone'.out)
          have hz2 : Hid (∀ j, 8 * (i + 1) ≤ j → j < N → cu[j]? = some false) := hide (fun j hj hjN => hz.out j (by omega) hjN)
          clear hrs hz
          go_wp2
          go_roundw
          case rel => exact ⟨i + 1, cu, by go_num, by omega, HC2.out, hown, hrd, hbw, hrs2, hz2⟩
          case measure => simp [intOf]; omega
    · obtain rfl : i = bs.length := by omega
      have hrs0 : Hid (crcm.rest cu = crcm.sumR 0 bs) := hide (by rw [hrs.out, Nat.sub_self, List.take_length]; rfl)
      clear hrs hz hrd
      go_wp2
      go_loopw [6] (fun vk wk => ∃ (k : Nat) (cu : List Bool), vk = .int .i64 k ∧ k ≤ 32 ∧ cu.length = N ∧ wk.ownsRow w.heap.size 4 1 (.slice (some ⟨w.heap.size, 0, none⟩) N N) N (bools cu) ∧ Below w.heap.size w wk ∧ Hid (crcm.rest cu = crcm.sumR 0 bs ^^^ crcm.upk (8 * bs.length) (4294967295 % 2 ^ k))) (fun vk _ => 32 - (intOf vk).toNat)
      case atStart => exact ⟨0, cu, rfl, by omega, HC.out, hown, hbw, hide (by rw [hrs0.out, show 4294967295 % 2 ^ 0 = 0 by omega, crcm.upk_zero, Nat.xor_zero])⟩
      case round =>
        obtain ⟨k, cu, rfl, hk, hcu, hown, hbw, hrs⟩ := hrel
        have HC2 := hide hcu
        clear hcu hrs0
        by_cases hklt : k < 32
        · have hkc : k < cu.length := by have := HC2.out; omega
          have hkN : k < N := by omega
          have hrs2 := hide (crcm.front_step cu bs.length k _ (by rw [HC2.out]; exact HN.out.symm) hklt hrs.out hkc)
          have hcell := own_bool hown hkc
          have hfr := hown.frozenAt k
          have hset := own_set hown k (.bool (!cu[k]))
          rw [bools_set] at hset
          have hset2 := hide hset
          have hbw2 := hide (hbw.setCell (p := ⟨w.heap.size, k, none⟩) (Nat.le_refl _) (.bool (!cu[k])))
          clear hset hown hbw hrs
          generalize cu[k] = bb at hcell hset2 hrs2 hbw2
          go_wp2
          go_roundw
          case rel => exact ⟨k + 1, _, by go_num, by omega, by rw [List.length_set]; exact HC2.out, hset2.out, hbw2.out, hrs2⟩
          case measure => simp [intOf]; omega
        · obtain rfl : k = 32 := by omega
          have hres : Hid (crcm.rest cu ^^^ 4294967295 = crcm.sum bs) := hide (by rw [hrs.out, ← crcm.ref_sum bs])
          have hcall := fun W B hr hB => refRest_any cu (some ⟨w.heap.size, 0, none⟩) N B W hr hB (by rw [HC2.out]; omega)
          rw [HC2.out] at hcall
          have HK := hide hcall
          have hr := hide (Rd.of_own hown)
          clear hcall hrs hown
          go_wp2_with fail
          refine (HK.out _ _ hr.out (Nat.le_refl _)).mono ?_
          rintro e w4 ⟨rfl, hb4⟩
          have hv := hide ((u32_xor_nat _ 4294967295 (crcm.rest_lt cu) (by omega)).trans (congrArg (fun n : Nat => (n : Int)) hres.out))
          go_wp2_with fail
          go_ret
          exact ⟨ret_num hv.out, hbw.trans (hb4.mono hbw.size)⟩

end Go.Proofs.Ytigmmikijjcdiaa
