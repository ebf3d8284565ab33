/- What the reference's Power, Times and Sum compute: their walks. -/
import Derived.Test.YtboljjmeicnklaaCrcr
namespace Go.Proofs.Ytboljjmeicnklaa
open Go.RowKit
set_option linter.unusedVariables false

theorem made_bools (n : Nat) : (madeCells (Value.bool false).cells (n * 1)).toList = bools (List.replicate n false) := by
  rw [Nat.mul_one, show (Value.bool false).cells = #[Value.bool false] from rfl, toList_madeCells_one]
  simp [bools]

theorem own_rep {w : World} {base : Nat} {e : TypeId} {g n c m : Nat} (h : w.ownsRow base e 1 (.slice (some ⟨g, 0, none⟩) n c) n (bools (List.replicate m false))) {j : Nat} (hj : j < m) :
    w.cell? ⟨g, j, none⟩ = some (.bool false) := by
  have := own_bool h (j := j) (by simpa using hj)
  simpa using this

set_option maxRecDepth 100000 in
set_option maxHeartbeats 800000 in
theorem refPower_any (n : Int) (hn0 : -9223372036854775808 ≤ n) (hn : n ≤ 2000) (w : World) :
    Calls Try.prog 14 #[.int .i64 n] w fun e w' => e = .returned (.int .u32 (crcm.power n.toNat : Nat)) ∧ Below w.heap.size w w' := by
  obtain ⟨i0, hi0, hz0, hz1, hz2⟩ := info_parts info_bool
  obtain ⟨m, hm⟩ : ∃ m, n.toNat = m := ⟨_, rfl⟩
  obtain ⟨N, hN⟩ : ∃ N, 8 * m + 1 = N := ⟨_, rfl⟩
  rw [hm]
  have hml : m ≤ 2000 := by omega
  have hlist : Hid ((bools (List.replicate N false)).set 0 (.bool true) = bools (true :: List.replicate (8 * m) false)) := hide (by rw [← hN, List.replicate_succ]; rfl)
  have hNl : Hid ((true :: List.replicate (8 * m) false).length = N) := hide (by rw [List.length_cons, List.length_replicate]; exact hN)
  have hfirst : Hid (crcm.rest (true :: List.replicate (8 * m) false) = crcm.power m) := hide (crcm.ref_power m)
  generalize true :: List.replicate (8 * m) false = l at hlist hNl hfirst
  have hNp : 0 < N := by omega
  have hNb : N ≤ 16001 := by omega
  have hrep := hide (made_bools N)
  by_cases hpos : 0 < n
  · have hn8 : 8 * n + 1 = (N : Int) := by omega
    have HM := hide hm
    have HN := hide hN
    clear hm hN
    go_enter Try.func14, Try.ntmps14
    go_wp2_with (at_make; refine wpList_make_full _ rfl (.tmp 7) (.tmp 7) 40 rfl w.heap.size 4 i0 (.bool false) 1 Try.underlying40 hi0 hz0 hz1 .i64 .i64 _ _ N rfl rfl (by omega) (by omega) (by rw [hz2]; omega) (by unfold maxLen; omega) (Nat.le_refl _) ?_; intro w1 hown1 hg1; rw [hrep.out] at hown1; have hc1 := own_rep hown1 hNp; have hf1 := hown1.frozenAt 0)
    have hset := own_set hown1 0 (.bool true)
    rw [hlist.out] at hset
    have hset' := hide hset
    have hb1 := hide (((Below.refl w.heap.size w).grown hg1 (Nat.le_refl _) (fun k hk => by cases hk)).setCell (p := ⟨w.heap.size, 0, none⟩) (Nat.le_refl _) (.bool true))
    clear hown1 hset hg1
    have hNl' := hNl.out
    subst hNl'
    have hb := hb1.out
    refine (refRest_any l _ _ _ _ (Rd.of_own hset'.out) (Nat.le_refl _) (by omega)).mono ?_
    rintro e w2 ⟨rfl, hb2⟩
    go_wp2_with fail
    go_ret
    exact ⟨ret_num (by rw [hfirst.out]), hb.trans (hb2.mono hb.size)⟩
  · have hn8 : N = 1 := by omega
    have HM := hide hm
    have HN := hide hN
    have HE := hide hn8
    clear hm hN hn8
    go_enter Try.func14, Try.ntmps14
    go_wp2_with (at_make; refine wpList_make_full _ rfl (.tmp 7) (.tmp 7) 40 rfl w.heap.size 4 i0 (.bool false) 1 Try.underlying40 hi0 hz0 hz1 .i64 .i64 _ _ N rfl rfl (by have := HE.out; omega) (by have := HE.out; omega) (by rw [hz2]; omega) (by unfold maxLen; omega) (Nat.le_refl _) ?_; intro w1 hown1 hg1; rw [hrep.out] at hown1; have hc1 := own_rep hown1 hNp; have hf1 := hown1.frozenAt 0)
    have hset := own_set hown1 0 (.bool true)
    rw [hlist.out] at hset
    have hset' := hide hset
    have hb1 := hide (((Below.refl w.heap.size w).grown hg1 (Nat.le_refl _) (fun k hk => by cases hk)).setCell (p := ⟨w.heap.size, 0, none⟩) (Nat.le_refl _) (.bool true))
    clear hown1 hset hg1
    have hNl' := hNl.out
    subst hNl'
    have hb := hb1.out
    refine (refRest_any l _ _ _ _ (Rd.of_own hset'.out) (Nat.le_refl _) (by omega)).mono ?_
    rintro e w2 ⟨rfl, hb2⟩
    go_wp2_with fail
    go_ret
    exact ⟨ret_num (by rw [hfirst.out]), hb.trans (hb2.mono hb.size)⟩

theorem bitsOf_get (n i : Nat) (h : i < 32) : (bools (bitsOf n))[i]? = some (.bool (n.testBit i)) := by
  simp [bools, bitsOf, h]
theorem bitsOf_len (n : Nat) : (bools (bitsOf n)).length = 32 := by simp [bools, bitsOf]

set_option maxRecDepth 100000 in
set_option maxHeartbeats 1600000 in
theorem refTimes_any (a b : Nat) (ha : a < 4294967296) (hb : b < 4294967296) (w : World) :
    Calls Try.prog 16 #[.int .u32 a, .int .u32 b] w fun e w' => e = .returned (.int .u32 (crcm.times a b : Nat)) ∧ Below w.heap.size w w' := by
  obtain ⟨i0, hi0, hz0, hz1, hz2⟩ := info_parts info_bool
  have hrep := hide (made_bools 63)
  go_enter Try.func16, Try.ntmps16
  go_wp2_with fail
  refine (refOf_any a ha _).mono ?_
  rintro e w1 ⟨A1, c1, rfl, hr1, hb1⟩
  go_wp2_with fail
  refine (refOf_any b hb _).mono ?_
  rintro e w2 ⟨A2, c2, rfl, hr2, hb2⟩
  have hz12 := hb2.size
  have hr1' := (hr1.below hb2).more hz12
  have hbw2 := hb1.trans (hb2.mono hb1.size)
  have hs2 := hbw2.size
  obtain ⟨b1, o1, rfl, hq1, _⟩ := hr1'.at_ (k := 0) (by rw [bitsOf_len]; omega)
  obtain ⟨b2, o2, rfl, hq2, _⟩ := hr2.at_ (k := 0) (by rw [bitsOf_len]; omega)
  clear hr1 hb1 hb2
  go_wp2_with (at_make; refine wpList_make_full _ rfl (.const (.int .i64 63)) (.const (.int .i64 63)) 40 rfl w.heap.size 4 i0 (.bool false) 1 Try.underlying40 hi0 hz0 hz1 .i64 .i64 _ _ 63 rfl rfl rfl rfl (by rw [hz2]; omega) (by unfold maxLen; omega) hs2 ?_; intro w3 hown3 hg3; rw [hrep.out] at hown3; have hb3 := hbw2.grown hg3 hs2 (fun k hk => by cases hk); have hr13 := hr1'.grown hg3 (Nat.le_refl _) (fun k hk => by cases hk); have hr23 := hr2.grown hg3 (Nat.le_refl _) (fun k hk => by cases hk))
  clear hr1' hr2 hbw2 hg3 hz12 hq1 hq2
  generalize w2.heap.size = g at *
  go_loopw [8, 9] (fun vi _ wr => ∃ (i : Nat) (cu : List Bool), vi = .int .i64 i ∧ i ≤ 32 ∧ cu.length = 63 ∧ wr.ownsRow w.heap.size 4 1 (.slice (some ⟨g, 0, none⟩) 63 63) 63 (bools cu) ∧ Rd wr g (some ⟨b1, o1, none⟩) (bools (bitsOf a)) ∧ Rd wr g (some ⟨b2, o2, none⟩) (bools (bitsOf b)) ∧ Below w.heap.size w wr ∧ Hid (crcm.rest cu = crcm.upTo a b i)) (fun vi _ _ => 32 - (intOf vi).toNat)
  case atStart => exact ⟨0, _, rfl, by omega, by rw [List.length_replicate], hown3, hr13, hr23, hb3, hide (crcm.rest_false 63)⟩
  case round =>
    obtain ⟨i, cu, rfl, hi, hcu, hown, hra, hrb, hbw, hrs⟩ := hrel
    have HC := hide hcu
    clear hown3 hr13 hr23 hb3 hcu
    obtain ⟨wo, hwo⟩ : ∃ wo, wr = wo := ⟨_, rfl⟩
    subst hwo
    by_cases hlt : i < 32
    · obtain ⟨w0, hw0⟩ : ∃ w0, w0 = wr := ⟨_, rfl⟩
      have HW0 := hide hw0
      clear hw0
      have hR := hide hrs.out
      clear hrs
      cases hta : a.testBit i
      · have HT := hide hta
        clear hta
        go_wp2
        go_loopw [9] (fun vk wk => ∃ (k : Nat), vk = .int .i64 k ∧ k ≤ 32 ∧ wk = wr) (fun vk _ => 32 - (intOf vk).toNat)
        case atStart => exact ⟨0, rfl, by omega, rfl⟩
        case round =>
          obtain ⟨k, rfl, hk, rfl⟩ := hrel
          have hx := hra.cell (bitsOf_get a i hlt)
          rw [HT.out] at hx
          by_cases hklt : k < 32
          · go_wp2
            go_roundw
            case rel => exact ⟨k + 1, by go_num, by omega, by trivial⟩
            case measure => simp [intOf]; omega
          · obtain rfl : k = 32 := by omega
            have hrs2 : Hid (crcm.rest cu = crcm.upTo a b (i + 1)) := hide (by rw [hR.out, crcm.upTo, HT.out]; simp)
            clear hx
            go_wp2
            go_roundw
            case rel => exact ⟨i + 1, cu, by go_num, by omega, HC.out, hown, hra, hrb, hbw, hrs2⟩
            case measure => simp [intOf]; omega
      · have HT := hide hta
        clear hta
        go_wp2
        go_loopw [9] (fun vk wk => ∃ (k : Nat) (cu : List Bool), vk = .int .i64 k ∧ k ≤ 32 ∧ cu.length = 63 ∧ wk.ownsRow w.heap.size 4 1 (.slice (some ⟨g, 0, none⟩) 63 63) 63 (bools cu) ∧ Rd wk g (some ⟨b1, o1, none⟩) (bools (bitsOf a)) ∧ Rd wk g (some ⟨b2, o2, none⟩) (bools (bitsOf b)) ∧ Below w.heap.size w wk ∧ Hid (crcm.rest cu = crcm.upTo a b i ^^^ crcm.upk (31 - i) (b % 2 ^ k))) (fun vk _ => 32 - (intOf vk).toNat)
        case atStart => exact ⟨0, cu, rfl, by omega, HC.out, hown, hra, hrb, hbw, hide (by rw [hR.out, show b % 2 ^ 0 = 0 by omega, crcm.upk_zero, Nat.xor_zero])⟩
        case round =>
          obtain ⟨k, cu, rfl, hk, hcu, hown, hra, hrb, hbw, hrs⟩ := hrel
          have HC2 := hide hcu
          clear hcu
          by_cases hklt : k < 32
          · have hx := hra.cell (bitsOf_get a i hlt)
            rw [HT.out] at hx
            have hy := hrb.cell (bitsOf_get b k hklt)
            cases htb : b.testBit k
            · rw [htb] at hy
              have hrs2 : Hid (crcm.rest cu = crcm.upTo a b i ^^^ crcm.upk (31 - i) (b % 2 ^ (k + 1))) := hide (by rw [crcm.prod_skip k b htb]; exact hrs.out)
              clear htb
              go_wp2
              go_roundw
              case rel => exact ⟨k + 1, cu, by go_num, by omega, HC2.out, hown, hra, hrb, hbw, hrs2⟩
              case measure => simp [intOf]; omega
            · rw [htb] at hy
              obtain ⟨q, hq⟩ : ∃ q, i + k = q := ⟨_, rfl⟩
              have hj : q < cu.length := by have := HC2.out; omega
              have hij : (i : Int) + (k : Int) = (q : Int) := by omega
              have hrs2 := hide (crcm.prod_step cu i k q b (crcm.upTo a b i) HC2.out hlt hklt htb hrs.out hq hj)
              have hcell := own_bool hown hj
              have hfr := hown.frozenAt q
              have hset := own_set hown q (.bool (!cu[q]))
              rw [bools_set] at hset
              have hset2 := hide hset
              have hra2 := hide (hra.setCell (p := ⟨g, q, none⟩) (Nat.le_refl _) (.bool (!cu[q])))
              have hrb2 := hide (hrb.setCell (p := ⟨g, q, none⟩) (Nat.le_refl _) (.bool (!cu[q])))
              have hbw2 := hide (hbw.setCell (p := ⟨g, q, none⟩) hs2 (.bool (!cu[q])))
              have hjs : q < 63 := by omega
              clear hset hown hbw htb hra hrb hq
              generalize cu[q] = bb at hcell hset2 hrs2 hra2 hrb2 hbw2
              go_wp2
              go_roundw
              case rel => exact ⟨k + 1, cu.set q (!bb), by go_num, by omega, by rw [List.length_set]; exact HC2.out, hset2.out, hra2.out, hrb2.out, hbw2.out, hrs2⟩
              case measure => simp [intOf]; omega
          · obtain rfl : k = 32 := by omega
            have hrs2 : Hid (crcm.rest cu = crcm.upTo a b (i + 1)) := hide (by rw [hrs.out, crcm.upTo, if_pos HT.out, Nat.mod_eq_of_lt hb])
            clear hrs hR
            go_wp2
            go_roundw
            case rel => exact ⟨i + 1, cu, by go_num, by omega, HC2.out, hown, hra, hrb, hbw, hrs2⟩
            case measure => simp [intOf]; omega
    · obtain rfl : i = 32 := by omega
      have hres := hide (hrs.out.trans (crcm.upTo_all a b))
      have hcall := fun W B hr hB => refRest_any cu (some ⟨g, 0, none⟩) 63 B W hr hB (by rw [HC.out]; omega)
      rw [HC.out] at hcall
      have HK := hide hcall
      have hr := hide (Rd.of_own hown)
      clear hcall hrs hra hrb hown
      go_wp2_with fail
      refine (HK.out _ _ hr.out (Nat.le_refl _)).mono ?_
      rintro e w4 ⟨rfl, hb4⟩
      have hv := hide (congrArg (fun n : Nat => (n : Int)) hres.out)
      go_wp2_with fail
      go_ret
      exact ⟨ret_num hv.out, hbw.trans (hb4.mono hbw.size)⟩

theorem byte_test (x k : Nat) (hx : x < 256) : (bits .and .u8 ((x : Int) / 2 ^ k) 1 == 1) = x.testBit k := by
  have e : ((x : Int) / 2 ^ k) = ((x / 2 ^ k : Nat) : Int) := by simp
  have hl : x / 2 ^ k < 256 := Nat.lt_of_le_of_lt (Nat.div_le_self _ _) hx
  have h1 : bits .and .u8 ((x / 2 ^ k : Nat) : Int) 1 = ((x / 2 ^ k % 2 : Nat) : Int) := by
    have h := u8_and_nat (x / 2 ^ k) 1 hl (by omega)
    rw [nat_mask1] at h
    exact h
  rw [e, h1, Nat.testBit_eq_decide_div_mod_eq]
  rcases Nat.mod_two_eq_zero_or_one (x / 2 ^ k) with h0 | h0 <;> rw [h0] <;> rfl

set_option maxRecDepth 100000 in
set_option maxHeartbeats 1600000 in
theorem refSum_any (bs : List UInt8) (A : Option Addr) (cap B : Nat) (w : World) (hr : Rd w B A (u8s bs)) (hB : B ≤ w.heap.size) (hl : bs.length ≤ 16777216) :
    Calls Try.prog 12 #[.slice A bs.length cap] w fun e w' => e = .returned (.int .u32 (crcm.sum bs : Nat)) ∧ Below w.heap.size w w' := by
  obtain ⟨i0, hi0, hz0, hz1, hz2⟩ := info_parts info_bool
  obtain ⟨N, hN⟩ : ∃ N, 8 * bs.length + 32 = N := ⟨_, rfl⟩
  have hrep := hide (made_bools N)
  have hNl : N ≤ 134217760 := by omega
  have hN32 : 32 ≤ N := by omega
  have hNi : 8 * (bs.length : Int) + 32 = (N : Int) := by omega
  have HN := hide hN
  clear hN
  go_enter Try.func12, Try.ntmps12
  go_wp2_with (at_make; refine wpList_make_full _ rfl (.tmp 10) (.tmp 10) 40 rfl w.heap.size 4 i0 (.bool false) 1 Try.underlying40 hi0 hz0 hz1 .i64 .i64 _ _ N rfl rfl (by omega) (by omega) (by rw [hz2]; omega) (by unfold maxLen; omega) (Nat.le_refl _) ?_; intro w1 hown1 hg1; rw [hrep.out] at hown1; have hb1 := (Below.refl w.heap.size w).grown hg1 (Nat.le_refl _) (fun k hk => by cases hk); have hr1 := hr.below' hb1 hB)
  clear hg1 hr
  go_loopw [4, 5] (fun vi _ wr => ∃ (i : Nat) (cu : List Bool), vi = .int .i64 i ∧ i ≤ bs.length ∧ cu.length = N ∧ wr.ownsRow w.heap.size 4 1 (.slice (some ⟨w.heap.size, 0, none⟩) N N) N (bools cu) ∧ Rd wr B A (u8s bs) ∧ Below w.heap.size w wr ∧ Hid (crcm.rest cu = crcm.upk (8 * (bs.length - i)) (crcm.sumR 0 (bs.take i))) ∧ Hid (∀ j, 8 * i ≤ j → j < N → cu[j]? = some false)) (fun vi _ _ => bs.length - (intOf vi).toNat)
  case atStart =>
    refine ⟨0, _, rfl, by omega, by rw [List.length_replicate], hown1, hr1, hb1, hide ?_, hide ?_⟩
    · rw [crcm.rest_false, List.take_zero]; exact (crcm.upk_zero _).symm
    · intro j _ hj; simp [hj]
  case round =>
    obtain ⟨i, cu, rfl, hi, hcu, hown, hrd, hbw, hrs, hz⟩ := hrel
    have HC := hide hcu
    clear hown1 hr1 hb1 hcu
    obtain ⟨wo, hwo⟩ : ∃ wo, wr = wo := ⟨_, rfl⟩
    subst hwo
    by_cases hlt : i < bs.length
    · obtain ⟨b, o, rfl, hbB, _⟩ := hrd.at_ (k := i) (by rw [u8s_len]; exact hlt)
      obtain ⟨w0, hw0⟩ : ∃ w0, w0 = wr := ⟨_, rfl⟩
      have HW0 := hide hw0
      have hdone := hide (crcm.byte_done bs.length i bs hlt rfl)
      have hget := hide (u8s_get hlt)
      have hxl := crcm.byte_lt bs[i]
      generalize bs[i] = x at hdone hget hxl
      obtain ⟨R, hR⟩ : ∃ R, crcm.upk (8 * (bs.length - i)) (crcm.sumR 0 (bs.take i)) = R := ⟨_, rfl⟩
      have hrs' := hide (hrs.out.trans hR)
      have hdone' := hide hdone.out
      rw [hR] at hdone'
      have HZ := hide hz.out
      clear hw0 hrs hdone hz hR
      go_wp2
      go_loopw [5] (fun vk wk => ∃ (k : Nat) (cu : List Bool), vk = .int .i64 k ∧ k ≤ 8 ∧ cu.length = N ∧ wk.ownsRow w.heap.size 4 1 (.slice (some ⟨w.heap.size, 0, none⟩) N N) N (bools cu) ∧ Rd wk B (some ⟨b, o, none⟩) (u8s bs) ∧ Below w.heap.size w wk ∧ Hid (crcm.rest cu = R ^^^ crcm.upk (8 * (bs.length - i)) (x.toNat % 2 ^ k)) ∧ Hid (∀ j, 8 * i + k ≤ j → j < N → cu[j]? = some false)) (fun vk _ => 8 - (intOf vk).toNat)
      case atStart => exact ⟨0, cu, rfl, by omega, HC.out, hown, hrd, hbw, hide (by rw [hrs'.out, show x.toNat % 2 ^ 0 = 0 by omega, crcm.upk_zero, Nat.xor_zero]), HZ⟩
      case round =>
        obtain ⟨k, cu, rfl, hk, hcu, hown, hrd, hbw, hrs, hz⟩ := hrel
        have HC2 := hide hcu
        clear hcu
        by_cases hklt : k < 8
        · obtain ⟨q, hq⟩ : ∃ q, 8 * i + k = q := ⟨_, rfl⟩
          have hqN : q < N := by have := HN.out; omega
          have hqc : q < cu.length := by have := HC2.out; omega
          have hqi : 8 * (i : Int) + (k : Int) = (q : Int) := by omega
          have hx := hrd.cell hget.out
          have ht := byte_test x.toNat k hxl
          have hqf : cu[q] = false := by
            have := hz.out q (by omega) hqN
            rw [List.getElem?_eq_getElem hqc] at this
            simpa using this
          have hrs2 := hide (crcm.bit_step cu bs.length i k q x.toNat R (by rw [HC2.out]; exact HN.out.symm) hlt hklt hrs.out hq hqc hqf)
          have hcell := own_bool hown hqc
          have hfr := hown.frozenAt q
          have hset := own_set hown q (.bool (x.toNat.testBit k))
          rw [bools_set] at hset
          have hset2 := hide hset
          have hrd2 := hide (hrd.setCell (p := ⟨w.heap.size, q, none⟩) hB (.bool (x.toNat.testBit k)))
          have hbw2 := hide (hbw.setCell (p := ⟨w.heap.size, q, none⟩) (Nat.le_refl _) (.bool (x.toNat.testBit k)))
          have hz2 : Hid (∀ j, 8 * i + (k + 1) ≤ j → j < N → (cu.set q (x.toNat.testBit k))[j]? = some false) := hide (fun j hj hjN => by
            rw [List.getElem?_set_ne (by omega)]
            exact hz.out j (by omega) hjN)
          rw [hqf] at hcell
          clear hset hown hrd hbw hrs hz hqf hq
          go_wp2
          go_roundw
          case rel => exact ⟨k + 1, _, by go_num, by omega, by rw [List.length_set]; exact HC2.out, hset2.out, hrd2.out, hbw2.out, hrs2, hz2⟩
          case measure => simp [intOf]; omega
        · obtain rfl : k = 8 := by omega
          have hrs2 := hide (hrs.out.trans hdone'.out)
          have hz2 : Hid (∀ j, 8 * (i + 1) ≤ j → j < N → cu[j]? = some false) := hide (fun j hj hjN => hz.out j (by omega) hjN)
          clear hrs hz
          go_wp2
          go_roundw
          case rel => exact ⟨i + 1, cu, by go_num, by omega, HC2.out, hown, hrd, hbw, hrs2, hz2⟩
          case measure => simp [intOf]; omega
    · obtain rfl : i = bs.length := by omega
      have hrs0 : Hid (crcm.rest cu = crcm.sumR 0 bs) := hide (by rw [hrs.out, Nat.sub_self, List.take_length]; rfl)
      clear hrs hz hrd
      go_wp2
      go_loopw [6] (fun vk wk => ∃ (k : Nat) (cu : List Bool), vk = .int .i64 k ∧ k ≤ 32 ∧ cu.length = N ∧ wk.ownsRow w.heap.size 4 1 (.slice (some ⟨w.heap.size, 0, none⟩) N N) N (bools cu) ∧ Below w.heap.size w wk ∧ Hid (crcm.rest cu = crcm.sumR 0 bs ^^^ crcm.upk (8 * bs.length) (4294967295 % 2 ^ k))) (fun vk _ => 32 - (intOf vk).toNat)
      case atStart => exact ⟨0, cu, rfl, by omega, HC.out, hown, hbw, hide (by rw [hrs0.out, show 4294967295 % 2 ^ 0 = 0 by omega, crcm.upk_zero, Nat.xor_zero])⟩
      case round =>
        obtain ⟨k, cu, rfl, hk, hcu, hown, hbw, hrs⟩ := hrel
        have HC2 := hide hcu
        clear hcu hrs0
        by_cases hklt : k < 32
        · have hkc : k < cu.length := by have := HC2.out; omega
          have hkN : k < N := by omega
          have hrs2 := hide (crcm.front_step cu bs.length k _ (by rw [HC2.out]; exact HN.out.symm) hklt hrs.out hkc)
          have hcell := own_bool hown hkc
          have hfr := hown.frozenAt k
          have hset := own_set hown k (.bool (!cu[k]))
          rw [bools_set] at hset
          have hset2 := hide hset
          have hbw2 := hide (hbw.setCell (p := ⟨w.heap.size, k, none⟩) (Nat.le_refl _) (.bool (!cu[k])))
          clear hset hown hbw hrs
          generalize cu[k] = bb at hcell hset2 hrs2 hbw2
          go_wp2
          go_roundw
          case rel => exact ⟨k + 1, _, by go_num, by omega, by rw [List.length_set]; exact HC2.out, hset2.out, hbw2.out, hrs2⟩
          case measure => simp [intOf]; omega
        · obtain rfl : k = 32 := by omega
          have hres : Hid (crcm.rest cu ^^^ 4294967295 = crcm.sum bs) := hide (by rw [hrs.out, ← crcm.ref_sum bs])
          have hcall := fun W B hr hB => refRest_any cu (some ⟨w.heap.size, 0, none⟩) N B W hr hB (by rw [HC2.out]; omega)
          rw [HC2.out] at hcall
          have HK := hide hcall
          have hr := hide (Rd.of_own hown)
          clear hcall hrs hown
          go_wp2_with fail
          refine (HK.out _ _ hr.out (Nat.le_refl _)).mono ?_
          rintro e w4 ⟨rfl, hb4⟩
          have hv := hide ((u32_xor_nat _ 4294967295 (crcm.rest_lt cu) (by omega)).trans (congrArg (fun n : Nat => (n : Int)) hres.out))
          go_wp2_with fail
          go_ret
          exact ⟨ret_num hv.out, hbw.trans (hb4.mono hbw.size)⟩

end Go.Proofs.Ytboljjmeicnklaa
