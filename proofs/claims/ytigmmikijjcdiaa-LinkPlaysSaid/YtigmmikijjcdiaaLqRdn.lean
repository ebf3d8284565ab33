/- The document's Digits and Number, for layer 18. (cut out of XFdg and XFrx) -/
import Derived.Test.YtigmmikijjcdiaaLqFwq
import Derived.Test.YtigmmikijjcdiaaLqFrq
import Derived.Test.YtigmmikijjcdiaaLqLkf



namespace Go.Proofs.Ytigmmikijjcdiaa
open Go.RowKit
set_option linter.unusedVariables false
set_option linter.unusedSimpArgs false

theorem be_take (k n m : Nat) : (be (k + n) m).take k = be k (m / 256 ^ n) := by
  induction n generalizing m with
  | zero => rw [Nat.add_zero, Nat.pow_zero, Nat.div_one]; exact List.take_of_length_le (by rw [be_len]; exact Nat.le_refl _)
  | succ n ih => rw [show k + (n + 1) = (k + n) + 1 by omega, be, List.take_append_of_le_length (by rw [be_len]; omega), ih, Nat.div_div_eq_div_mul, Nat.pow_succ, Nat.mul_comm]
theorem be_app (k n m : Nat) : be k (m / 256 ^ n) ++ be n m = be (k + n) m := by
  rw [← be_take k n m, ← be_drop k n m, List.take_append_drop]
theorem be_cons (j m : Nat) : be (1 + j) m = UInt8.ofNat (m / 256 ^ j) :: be j m := by
  rw [← be_app 1 j m]; rfl
theorem dg_set (q j m : Nat) : (u8s (List.replicate (q + 1) 0 ++ be j m)).set q (.int .u8 ((m / 256 ^ j % 256 : Nat) : Int)) = u8s (List.replicate q 0 ++ be (j + 1) m) := by
  have e : (Value.int .u8 ((m / 256 ^ j % 256 : Nat) : Int)) = .int .u8 ((UInt8.ofNat (m / 256 ^ j)).toNat : Nat) := by simp [UInt8.toNat_ofNat']
  rw [e, Nat.add_comm j 1, be_cons, List.replicate_succ']
  simp only [u8s, List.map_append, List.append_assoc]
  rw [List.set_append_right _ _ (by simp)]
  simp

set_option maxRecDepth 100000 in
set_option maxHeartbeats 2000000 in
theorem rdigits_any (w : World) (n N : Nat) (hn : n < 18446744073709551616) (hN1 : 1 ≤ N) (hN2 : N ≤ 1000) :
    Calls Try.prog 39 #[.int .u64 n, .int .i64 N] w fun e w' => e = .returned (.slice (some ⟨w.heap.size, 0, none⟩) N N) ∧ w'.heap[w.heap.size]? = some (.cells (u8s (be N n)).toArray 5) ∧ Below w.heap.size w w' := by
  obtain ⟨i0, hi0, hz0, hz1, hz2⟩ := info_parts (show (Try.prog.info? 5).map (fun i => (i.zero, i.size, i.bytes)) = some (some (.int .u8 0), 1, 1) by kernel_rfl)
  have hb8 : i0.bytes * N ≤ 281474976710656 := by rw [hz2]; omega
  go_enter Try.func39, Try.ntmps39
  go_wp2_with (at_make; refine wpList_make_full _ rfl (.tmp 7) (.tmp 7) 23 rfl w.heap.size 5 i0 (.int .u8 0) 1 Try.underlying23 hi0 hz0 hz1 .i64 .i64 _ _ N rfl rfl (by omega) (by omega) hb8 (by unfold maxLen; omega) (Nat.le_refl _) ?_; intro w1 hown1 hg1; have hb1 : Below w.heap.size w w1 := (Below.refl _ w).grown hg1 (Nat.le_refl _) (fun k e => by cases e); have hm0 := made_cells hown1; rw [made_zero] at hm0; have hm1 := hide hm0; clear hown1 hg1 hm0)
  go_loopw [0, 6] (fun vn vi wr => ∃ q j : Nat, q + j = N ∧ vi = .int .i64 ((q : Int) - 1) ∧ vn = .int .u64 (n / 256 ^ j : Nat) ∧ Hid (wr.heap[w.heap.size]? = some (.cells (u8s (List.replicate q 0 ++ be j n)).toArray 5)) ∧ Below w.heap.size w wr) (fun _ vi _ => (intOf vi + 1).toNat)
  case atStart => exact ⟨N, 0, by omega, by go_num, by simp, hide (by rw [hm1.out]; simp [u8s, be, outRow]), hb1⟩
  case round =>
    obtain ⟨q, j, hq, rfl, rfl, hrow, hb⟩ := hrel
    have hs := hb.size
    rcases q with _ | q
    · obtain rfl : j = N := by omega
      go_wp2
      go_ret
      refine ⟨rfl, ?_, hb⟩
      simpa using hrow.out
    · rw [show ((q + 1 : Nat) : Int) - 1 = (q : Int) by omega]
      have hle := Nat.div_le_self n (256 ^ j)
      have hset := dg_set q j n
      have hdd := hide (show n / 256 ^ (j + 1) = n / 256 ^ j / 256 by rw [Nat.div_div_eq_div_mul, Nat.pow_succ])
      have hrow2 := hide (heap_setCell_same wr w.heap.size q _ _ (.int .u8 ((n / 256 ^ j % 256 : Nat) : Int)) hrow.out)
      rw [List.setIfInBounds_toArray, hset] at hrow2
      have hc : wr.cell? ⟨w.heap.size, q, none⟩ = some (.int .u8 0) := by
        rw [cell_of_row _ _ q _ _ _ hrow.out]
        simp [u8s, List.getElem?_append]
      have hf := frozen_of_row _ _ q _ _ hrow.out
      obtain ⟨a, ha⟩ : ∃ a, n / 256 ^ j = a := ⟨_, rfl⟩
      rw [ha] at hle hrow2 hdd ⊢
      have hb2 := hide (hb.setCell (p := ⟨w.heap.size, q, none⟩) (Nat.le_refl _) (.int .u8 ((a % 256 : Nat) : Int)))
      have HR := hide hrow.out
      have hqN : q < N := by omega
      clear hset hrow ha
      go_wp2
      go_roundw
      case rel => exact ⟨q, j + 1, by omega, by go_num, by rw [hdd.out]; go_num, by first | exact hrow2 | skip, by first | exact hb2.out | skip⟩
      case measure => simp [intOf]
set_option maxRecDepth 100000 in
set_option maxHeartbeats 2000000 in
theorem rnumber0_any (w : World) (A : Option Addr) (bs : List UInt8) (L c : Nat) (hL : bs.length = L) (hR : Rd w w.heap.size A (u8s bs)) (h8 : L ≤ 8) :
    Calls Try.prog 77 #[.slice A L c] w fun e w' => e = .returned (.int .u64 (num bs : Nat)) ∧ w' = w := by
  have HL := hide hL
  have HR := hide hR
  clear hL hR
  go_enter Try.func77, Try.ntmps77
  go_wp2
  go_loop [3, 4] (fun vn vi => ∃ i : Nat, i ≤ L ∧ vi = .int .i64 i ∧ vn = .int .u64 (num (bs.take i) : Nat)) (fun _ vi => L - (intOf vi).toNat)
  case atStart => exact ⟨0, by omega, rfl, rfl⟩
  case round =>
    obtain ⟨i, hi, rfl, rfl⟩ := hrel
    by_cases hlt : i < L
    · have hil : i < bs.length := by rw [HL.out]; exact hlt
      obtain ⟨b, off, rfl, _, hc⟩ := HR.out.at_ (k := i) (by rw [u8s_len]; exact hil)
      have hc1 := hc i _ (u8s_get hil)
      have ht := hide (num_take hil)
      have hb := (bs[i]).toNat_lt
      have hlt2 := num_lt (bs.take i)
      have hpow : 256 ^ (bs.take i).length ≤ 256 ^ 7 := Nat.pow_le_pow_right (by decide) (by rw [List.length_take]; omega)
      have ha : num (bs.take i) < 72057594037927936 := by omega
      obtain ⟨a, haa⟩ : ∃ a, num (bs.take i) = a := ⟨_, rfl⟩
      obtain ⟨y, hy⟩ : ∃ y, (bs[i]).toNat = y := ⟨_, rfl⟩
      rw [haa] at ha ht ⊢
      rw [hy] at hc1 hb ht
      clear hlt2 hpow haa hy hc hil
      have hI0 : (0 : Int) ≤ (i : Int) := by omega
      have hI1 : (i : Int) < (L : Int) := by omega
      go_wp2
      go_round
      case rel => exact ⟨i + 1, by omega, by go_num, by rw [ht.out]; go_num⟩
      case measure => simp [intOf]; omega
    · obtain rfl : i = L := by omega
      rw [← HL.out, List.take_length]
      go_wp2
      go_ret
      exact ⟨rfl, rfl⟩

end Go.Proofs.Ytigmmikijjcdiaa
