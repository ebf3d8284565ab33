/- The walk of the statement CrcEven. -/
import Derived.Test.YtboljjmeicnklaaCrcl
import Derived.Test.YtboljjmeicnklaaCrcn
import Derived.Deep.QuietTactic
import Derived.BigQuiet
namespace Go.Proofs.Ytboljjmeicnklaa
open Go.RowKit
set_option linter.unusedVariables false

theorem quiet_same {P : Program} {f : FuncId} {args : Array Value} {w : World} {n : Nat} {v : Value}
    (h : Calls P f args (w.drewN n) fun e w' => e = .returned v ∧ w.drewN n = w') : Calls P f args (w.drewN n) fun e w'' => e = .returned v ∧ ∃ m, w'' = w.drewN m :=
  h.mono fun _ _ ⟨he, hm⟩ => ⟨he, n, hm.symm⟩

set_option maxRecDepth 100000 in
set_option maxHeartbeats 400000 in
theorem ones_any (n : Nat) (hn : n < 4294967296) (w : World) :
    Calls Try.prog 17 #[.int .u32 n] w fun e w' => e = .returned (.int .i64 (crcm.par n : Nat)) ∧ w = w' := by
  go_enter Try.func17, Try.ntmps17
  go_wp2
  go_loop [0, 3] (fun vn vk => ∃ (m k : Nat), vn = .int .u32 m ∧ vk = .int .i64 k ∧ m < 4294967296 ∧ k ≤ 32 ∧ Hid (k + crcm.pop m = crcm.pop n)) (fun vn _ => (intOf vn).toNat)
  case atStart => exact ⟨n, 0, rfl, rfl, hn, by omega, hide (by omega)⟩
  case round =>
    obtain ⟨m, k, rfl, rfl, hm, hk, hp⟩ := hrel
    by_cases hpos : 0 < m
    · have hs := crcm.pop_step m hm
      have hle := crcm.pop_le n
      have hp2 : Hid ((k + m % 2) + crcm.pop (m / 2) = crcm.pop n) := hide (by have := hp.out; omega)
      have hk2 : k + m % 2 ≤ 32 := by have := hp2.out; omega
      have e1 := and_one_u32 m hm
      clear hs hle
      obtain ⟨q, hq⟩ : ∃ q, q = m % 2 := ⟨_, rfl⟩
      rw [← hq] at e1 hp2 hk2
      have HQ := hide hq
      clear hq hp
      go_wp2
      go_round
      case rel => exact ⟨m / 2, k + q, rfl, by go_num, by omega, hk2, hp2⟩
      case measure => simp [intOf]; omega
    · obtain rfl : m = 0 := by omega
      have hv : Hid (((k % 2 : Nat) : Int) = (crcm.par n : Nat)) := hide (by have := hp.out; rw [crcm.pop_zero] at this; unfold crcm.par; omega)
      clear hp
      go_wp2
      go_ret
      exact ⟨ret_num hv.out, rfl⟩

set_option maxRecDepth 100000 in
set_option maxHeartbeats 1000000 in
theorem crcEven_walk (w : World) (A : Option Addr) (a : List UInt8) (ca : Nat) (hra : Rd w w.heap.size A (u8s a)) (hla : a.length ≤ 9223372036854775807)
    (B : Option Addr) (b : List UInt8) (cb : Nat) (hrb : Rd w w.heap.size B (u8s b)) (hlb : b.length ≤ 9223372036854775807) :
    Calls Try.prog 7 #[.slice A a.length ca, .slice B b.length cb] w fun e w' => e = .returned (.bool true) ∧ Below w.heap.size w w' := by
  by_cases hbig : 10000 < a.length
  · go_enter Try.func7, Try.ntmps7
    go_wp2_with fail
    refine (works_any _).mono ?_
    rintro e w3 ⟨rfl, hb3⟩
    go_wp2_with fail
    go_ret
    exact ⟨rfl, hb3⟩
  by_cases hne : a.length = b.length
  · have HNE := hide hne
    obtain ⟨n, hn⟩ : ∃ n, a.length = n := ⟨_, rfl⟩
    have HA := hide hn
    have HB := hide (hne.symm.trans hn)
    rw [hn] at hbig hla
    have e1 : a.length = n := hn
    have e2 : b.length = n := HB.out
    rw [e1, e2]
    clear hn hne e1 e2 hlb
    go_enter Try.func7, Try.ntmps7
    go_wp2
    go_loopw [5, 6] (fun vk vi wr => ∃ (i : Nat), vi = .int .i64 i ∧ i ≤ n ∧ vk = .int .i64 (crcm.diffTo a b i : Nat) ∧ Below w.heap.size w wr) (fun _ vi _ => n - (intOf vi).toNat)
    case atStart => exact ⟨0, rfl, by omega, rfl, Below.refl _ _⟩
    case round =>
      obtain ⟨i, rfl, hi, rfl, hbw⟩ := hrel
      by_cases hlt : i < n
      · have hia : i < a.length := by rw [HA.out]; exact hlt
        have hib : i < b.length := by rw [HB.out]; exact hlt
        obtain ⟨b1, o1, rfl, hq1, _⟩ := hra.at_ (k := i) (by rw [u8s_len]; exact hia)
        obtain ⟨b2, o2, rfl, hq2, _⟩ := hrb.at_ (k := i) (by rw [u8s_len]; exact hib)
        have c1 := (hra.below hbw).cell (u8s_get hia)
        have c2 := (hrb.below hbw).cell (u8s_get hib)
        have hd : Hid (crcm.diffTo a b (i + 1) = crcm.diffTo a b i + crcm.par (a[i].toNat ^^^ b[i].toNat)) := hide (by
          rw [crcm.diffTo, List.getD_eq_getElem?_getD, List.getD_eq_getElem?_getD, List.getElem?_eq_getElem hia, List.getElem?_eq_getElem hib]; rfl)
        have hx1 := crcm.byte_lt a[i]
        have hx2 := crcm.byte_lt b[i]
        generalize a[i] = x at c1 hd hx1
        generalize b[i] = y at c2 hd hx2
        have hxy := u8_xor_nat x.toNat y.toNat hx1 hx2
        have hzl : x.toNat ^^^ y.toNat < 256 := Nat.xor_lt_two_pow (n := 8) hx1 hx2
        have hpl := crcm.par_lt (x.toNat ^^^ y.toNat)
        have hdl := crcm.diffTo_le a b i
        obtain ⟨z, hz⟩ : ∃ z, x.toNat ^^^ y.toNat = z := ⟨_, rfl⟩
        rw [hz] at hxy hzl hd hpl
        have hsum : IntKind.i64.wrap (((crcm.diffTo a b i : Nat) : Int) + ((crcm.par z : Nat) : Int)) = ((crcm.diffTo a b i : Nat) : Int) + ((crcm.par z : Nat) : Int) := IntWalk.i64_in _ (by omega)
        clear hz
        go_wp2
        go_quiet ((go_at_call 17; exact quiet_same (ones_any z (by omega) _)))
        go_wp2
        go_roundw
        case rel => exact ⟨i + 1, by go_num, by omega, by rw [hd.out]; go_num, below_drewN hbw _⟩
        case measure => simp [intOf]; omega
      · obtain rfl : i = n := by omega
        have hs := hbw.size
        have hra2 := hra.below hbw
        have hrb2 := hrb.below hbw
        have hca := fun (W : World) (h : Rd W W.heap.size A (u8s a)) => sum_any a A ca W.heap.size W h (Nat.le_refl _) (by rw [HA.out]; omega)
        have hcb := fun (W : World) (h : Rd W W.heap.size B (u8s b)) => sum_any b B cb W.heap.size W h (Nat.le_refl _) (by rw [HB.out]; omega)
        rw [HA.out] at hca
        rw [HB.out] at hcb
        have HCA := hide hca
        have HCB := hide hcb
        have hp : crcm.par (crcm.sum a ^^^ crcm.sum b) = crcm.diffTo a b i % 2 := by
          rw [crcm.par_sums a b HNE.out, HA.out]
        have hxx := u32_xor_nat (crcm.sum a) (crcm.sum b) (crcm.sum_lt a) (crcm.sum_lt b)
        have hxl : crcm.sum a ^^^ crcm.sum b < 4294967296 := Nat.xor_lt_two_pow (n := 32) (crcm.sum_lt a) (crcm.sum_lt b)
        have hdl := crcm.diffTo_le a b i
        have hx0 : crcm.sum a ^^^ crcm.sum b = 0 → crcm.diffTo a b i % 2 = 0 := fun h => by rw [← hp, h]; rfl
        obtain ⟨x, hx⟩ : ∃ x, crcm.sum a ^^^ crcm.sum b = x := ⟨_, rfl⟩
        rw [hx] at hp hxx hxl hx0
        obtain ⟨d, hd⟩ : ∃ d, crcm.diffTo a b i = d := ⟨_, rfl⟩
        rw [hd] at hp hdl hx0 ⊢
        have HXX := hide hxx
        have HP := hide hp
        have t1 : (((crcm.par x : Nat) : Int) == (d : Int) % 2) = true := by rw [hp]; simp
        have hcase : (d % 2 = 0) ∨ (d % 2 = 1 ∧ 0 < x) := by
          rcases Nat.mod_two_eq_zero_or_one d with h | h
          · exact .inl h
          · refine .inr ⟨h, ?_⟩
            rcases Nat.eq_zero_or_pos x with h0 | h0
            · have := hx0 h0; omega
            · exact h0
        have HC := hide hcase
        clear hx hd hxx hp hx0 hca hcb hcase hra hrb
        have hbw' := hide hbw
        go_wp2_with fail
        refine (HCA.out _ ((hra2.more hs))).mono ?_
        rintro e w1 ⟨rfl, hb1⟩
        go_wp2_with fail
        refine (HCB.out _ (((hrb2.below' hb1 hs).more (Nat.le_trans hs hb1.size)))).mono ?_
        rintro e w2 ⟨rfl, hb2⟩
        have hb02 : Below w.heap.size w w2 := (hbw.trans (hb1.mono hs)).trans (hb2.mono (Nat.le_trans hs hb1.size))
        have hxx := HXX.out
        rcases HC.out with h0 | ⟨h1, hpos⟩
        · have t2 : ((d : Int) % 2 == 0) = true := by simp; omega
          go_wp2_with fail
          refine (ones_any x hxl _).mono ?_
          rintro e w3 ⟨rfl, rfl⟩
          go_wp2_with fail
          refine (works_any _).mono ?_
          rintro e w3 ⟨rfl, hb3⟩
          go_wp2_with fail
          go_ret
          exact ⟨rfl, hb02.trans (hb3.mono hb02.size)⟩
        · have t2 : ((d : Int) % 2 == 0) = false := by simp; omega
          have t3 : ((x : Int) != 0) = true := by simp; omega
          go_wp2_with fail
          refine (ones_any x hxl _).mono ?_
          rintro e w3 ⟨rfl, rfl⟩
          go_wp2_with fail
          refine (works_any _).mono ?_
          rintro e w3 ⟨rfl, hb3⟩
          go_wp2_with fail
          go_ret
          exact ⟨rfl, hb02.trans (hb3.mono hb02.size)⟩
  · have hne' : ((a.length : Int) != (b.length : Int)) = true := by simp; omega
    go_enter Try.func7, Try.ntmps7
    go_wp2_with fail
    refine (works_any _).mono ?_
    rintro e w3 ⟨rfl, hb3⟩
    go_wp2_with fail
    go_ret
    exact ⟨rfl, hb3⟩

end Go.Proofs.Ytboljjmeicnklaa
