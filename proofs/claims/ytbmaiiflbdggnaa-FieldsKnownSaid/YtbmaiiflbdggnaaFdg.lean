/- The document's Digits and Number; an item's bytes; how an item is put; few. -/
import Derived.Test.YtbmaiiflbdggnaaFit
import Derived.Test.YtbmaiiflbdggnaaFrs
namespace Go.Proofs.Ytbmaiiflbdggnaa
open Go.RowKit
set_option linter.unusedVariables false
set_option linter.unusedSimpArgs false

theorem be_cons (j m : Nat) : be (1 + j) m = UInt8.ofNat (m / 256 ^ j) :: be j m := by
  rw [← be_app 1 j m]; rfl
theorem dg_set (q j m : Nat) : (u8s (List.replicate (q + 1) 0 ++ be j m)).set q (.int .u8 ((m / 256 ^ j % 256 : Nat) : Int)) = u8s (List.replicate q 0 ++ be (j + 1) m) := by
  have e : (Value.int .u8 ((m / 256 ^ j % 256 : Nat) : Int)) = .int .u8 ((UInt8.ofNat (m / 256 ^ j)).toNat : Nat) := by simp [UInt8.toNat_ofNat']
  rw [e, Nat.add_comm j 1, be_cons, List.replicate_succ']
  simp only [u8s, List.map_append, List.append_assoc]
  rw [List.set_append_right _ _ (by simp)]
  simp

set_option maxRecDepth 100000 in
set_option maxHeartbeats 2000000 in
theorem digits_any (w : World) (n N : Nat) (hn : n < 18446744073709551616) (hN1 : 1 ≤ N) (hN2 : N ≤ 1000) :
    Calls Try.prog 30 #[.int .u64 n, .int .i64 N] w fun e w' => e = .returned (.slice (some ⟨w.heap.size, 0, none⟩) N N) ∧ w'.heap[w.heap.size]? = some (.cells (u8s (be N n)).toArray 5) ∧ Below w.heap.size w w' := by
  obtain ⟨i0, hi0, hz0, hz1, hz2⟩ := info_parts (show (Try.prog.info? 5).map (fun i => (i.zero, i.size, i.bytes)) = some (some (.int .u8 0), 1, 1) by kernel_rfl)
  have hb8 : i0.bytes * N ≤ 281474976710656 := by rw [hz2]; omega
  go_enter Try.func30, Try.ntmps30
  go_wp2_with (at_make; refine wpList_make_full _ rfl (.tmp 7) (.tmp 7) 31 rfl w.heap.size 5 i0 (.int .u8 0) 1 Try.underlying31 hi0 hz0 hz1 .i64 .i64 _ _ N rfl rfl (by omega) (by omega) hb8 (by unfold maxLen; omega) (Nat.le_refl _) ?_; intro w1 hown1 hg1; have hb1 : Below w.heap.size w w1 := (Below.refl _ w).grown hg1 (Nat.le_refl _) (fun k e => by cases e); have hm0 := made_cells hown1; rw [made_zero] at hm0; have hm1 := hide hm0; clear hown1 hg1 hm0)
  go_loopw [0, 6] (fun vn vi wr => ∃ q j : Nat, q + j = N ∧ vi = .int .i64 ((q : Int) - 1) ∧ vn = .int .u64 (n / 256 ^ j : Nat) ∧ Hid (wr.heap[w.heap.size]? = some (.cells (u8s (List.replicate q 0 ++ be j n)).toArray 5)) ∧ Below w.heap.size w wr) (fun _ vi _ => (intOf vi + 1).toNat)
  case atStart => exact ⟨N, 0, by omega, by go_num, by simp, hide (by rw [hm1.out]; simp [u8s, be, outRow]), hb1⟩
  case round =>
    obtain ⟨q, j, hq, rfl, rfl, hrow, hb⟩ := hrel
    have hs := hb.size
    rcases q with _ | q
    · obtain rfl : j = N := by omega
      go_wp2
      go_ret
      refine ⟨rfl, ?_, hb⟩
      simpa using hrow.out
    · rw [show ((q + 1 : Nat) : Int) - 1 = (q : Int) by omega]
      have hle := Nat.div_le_self n (256 ^ j)
      have hset := dg_set q j n
      have hdd := hide (show n / 256 ^ (j + 1) = n / 256 ^ j / 256 by rw [Nat.div_div_eq_div_mul, Nat.pow_succ])
      have hrow2 := hide (heap_setCell_same wr w.heap.size q _ _ (.int .u8 ((n / 256 ^ j % 256 : Nat) : Int)) hrow.out)
      rw [List.setIfInBounds_toArray, hset] at hrow2
      have hc : wr.cell? ⟨w.heap.size, q, none⟩ = some (.int .u8 0) := by
        rw [cell_of_row _ _ q _ _ _ hrow.out]
        simp [u8s, List.getElem?_append]
      have hf := frozen_of_row _ _ q _ _ hrow.out
      obtain ⟨a, ha⟩ : ∃ a, n / 256 ^ j = a := ⟨_, rfl⟩
      rw [ha] at hle hrow2 hdd ⊢
      have hb2 := hide (hb.setCell (p := ⟨w.heap.size, q, none⟩) (Nat.le_refl _) (.int .u8 ((a % 256 : Nat) : Int)))
      have HR := hide hrow.out
      have hqN : q < N := by omega
      clear hset hrow ha
      go_wp2
      go_roundw
      case rel => exact ⟨q, j + 1, by omega, by go_num, by rw [hdd.out]; go_num, by first | exact hrow2 | skip, by first | exact hb2.out | skip⟩
      case measure => simp [intOf]
theorem wrap64_in (x : Int) (h : -9223372036854775808 ≤ x ∧ x < 9223372036854775808) : wrap64 x = x := by unfold wrap64; omega
def total (xs : List It) : Nat := (xs.map fun x => 8 + x.bs.length).sum
theorem take_snoc {xs : List It} {i : Nat} {x : It} (h : xs[i]? = some x) : xs.take (i + 1) = xs.take i ++ [x] := by
  obtain ⟨hi, rfl⟩ := List.getElem?_eq_some_iff.1 h
  exact List.take_succ_eq_append_getElem hi
theorem total_snoc {xs : List It} {i : Nat} {x : It} (h : xs[i]? = some x) : total (xs.take (i + 1)) = total (xs.take i) + (8 + x.bs.length) := by
  rw [take_snoc h]; simp only [total, List.map_append, List.sum_append, List.map_cons, List.map_nil, List.sum_cons, List.sum_nil]; omega
theorem total_le (xs : List It) (h : ∀ x ∈ xs, x.bs.length ≤ 140737488351232) : total xs ≤ xs.length * 140737488351240 := by
  induction xs with
  | nil => simp [total]
  | cons x xs ih =>
    have := ih (fun y hy => h y (List.mem_cons_of_mem _ hy))
    have := h x (List.mem_cons_self ..)
    simp only [total, List.map_cons, List.sum_cons, List.length_cons] at *
    omega
theorem total_take_le (xs : List It) (i : Nat) : total (xs.take i) ≤ total xs := by
  have h := congrArg total (List.take_append_drop i xs)
  simp only [total, List.map_append, List.sum_append] at h ⊢
  omega
theorem item_le {xs : List It} {i : Nat} {x : It} (h : xs[i]? = some x) : x.bs.length ≤ total xs := by
  have := total_snoc h
  have := total_take_le xs (i + 1)
  omega

def FewPost (xs : List It) (L most : Nat) (w : World) (e : Ending) (w' : World) : Prop :=
  (∃ r : Bool, e = .returned (.bool r) ∧ (r = true → L ≤ most ∧ total xs ≤ 3000)) ∧ w' = w
set_option maxRecDepth 100000 in
set_option maxHeartbeats 2000000 in
theorem few_any (w : World) (A : Option Addr) (xs : List It) (L c most : Nat) (hL : xs.length = L) (hI : Its w w.heap.size A xs) (hc : L ≤ 9223372036854775807) (hm : most ≤ 60) :
    Calls Try.prog 9 #[.slice A L c, .int .i64 most] w fun e w' => FewPost xs L most w e w' := by
  have HL := hide hL
  have HI := hide hI
  clear hL hI
  go_enter Try.func9, Try.ntmps9
  go_wp2
  go_loop [5, 6] (fun vn vi => ∃ (i : Nat) (z : Int), i ≤ L ∧ vi = .int .i64 i ∧ vn = .int .i64 z ∧ Hid (L ≤ 60 → z = (total (xs.take i) : Nat))) (fun _ vi => L - (intOf vi).toNat)
  case atStart => exact ⟨0, 0, by omega, rfl, rfl, hide (fun _ => by simp [total])⟩
  case round =>
    obtain ⟨i, z, hi, rfl, rfl, hz⟩ := hrel
    by_cases hlt : i < L
    · have hil : i < xs.length := by rw [HL.out]; exact hlt
      obtain ⟨x, hx⟩ : ∃ x, xs[i]? = some x := ⟨_, List.getElem?_eq_getElem hil⟩
      obtain ⟨b, off, rfl, _, _, _, c2, _, hok⟩ := Its.get HI.out hx
      have ht := hide (total_snoc hx)
      have htl := hide (total_take_le xs i)
      have hall : Hid (L ≤ 60 → total (xs.take i) ≤ 60 * 140737488351240) := hide (fun h => by
        refine Nat.le_trans (total_le _ (fun x hx => ?_)) (Nat.mul_le_mul_right _ (by rw [List.length_take]; omega))
        obtain ⟨j, hj, rfl⟩ := List.getElem_of_mem (List.mem_of_mem_take hx)
        obtain ⟨_, _, _, _, _, _, _, _, hk⟩ := Its.get HI.out (List.getElem?_eq_getElem hj)
        exact hk.2.2.1)
      have hlen := hok.2.2.1
      obtain ⟨m, hm'⟩ : ∃ m, x.bs.length = m := ⟨_, rfl⟩
      rw [hm'] at c2 hlen
      have HM := hide hm'
      clear hx hm' hok hil
      have hI0 : (0 : Int) ≤ (i : Int) := by omega
      have hI1 : (i : Int) < (L : Int) := by omega
      go_wp2
      go_round
      case rel =>
        refine ⟨i + 1, _, by omega, by go_num, rfl, hide (fun h => ?_)⟩
        have h1 := hz.out h
        have h2 := ht.out
        have h3 := hall.out h
        rw [HM.out] at h2
        rw [h1]
        rw [wrap64_in ((total (xs.take i) : Nat) + 8) (by omega), wrap64_in _ (by omega)]
        omega
      case measure => simp [intOf]; omega
    · obtain rfl : i = L := by omega
      have hz' := hz.out
      rw [← HL.out, List.take_length, HL.out] at hz'
      have HZ := hide hz'
      clear hz hz'
      by_cases hle : i ≤ most
      · have d1 : decide ((i : Int) ≤ (most : Int)) = true := decide_eq_true (by omega)
        go_wp2
        go_ret
        refine ⟨⟨_, rfl, fun h => ⟨hle, ?_⟩⟩, rfl⟩
        have := HZ.out (by omega)
        have h2 := of_decide_eq_true h
        omega
      · have d1 : decide ((i : Int) ≤ (most : Int)) = false := decide_eq_false (by omega)
        go_wp2
        go_ret
        exact ⟨⟨_, rfl, fun h => by simp at h⟩, rfl⟩

def BytesPost (w : World) (x : It) (e : Ending) (w' : World) : Prop :=
  (∃ A c, e = .returned (.slice A x.bytes.length c) ∧ Rd w' w'.heap.size A (u8s x.bytes) ∧ x.bytes.length ≤ c ∧ ((A = x.A ∧ x.bytes = x.bs) ∨ ∃ b, A = some ⟨b, 0, none⟩ ∧ w.heap.size ≤ b)) ∧ Below w.heap.size w w'
theorem bytes_num {x : It} (h : ¬ x.k % 5 = 4) : x.bytes = be (2 ^ (x.k % 5)) x.n := by rw [It.bytes, if_neg h]
theorem bytes_row {x : It} (h : x.k % 5 = 4) : x.bytes = x.bs := by rw [It.bytes, if_pos h]
theorem bytes_le (x : It) (hx : x.bs.length ≤ 140737488351232) : x.bytes.length ≤ 8 + x.bs.length := by
  by_cases h : x.k % 5 = 4
  · rw [bytes_row h]; omega
  · rw [bytes_num h, be_len]
    have : x.k % 5 = 0 ∨ x.k % 5 = 1 ∨ x.k % 5 = 2 ∨ x.k % 5 = 3 := by omega
    rcases this with h | h | h | h <;> rw [h] <;> omega

set_option maxRecDepth 100000 in
set_option maxHeartbeats 2000000 in
theorem bytes_any (w : World) (x : It) (hR : Rd w w.heap.size x.A (u8s x.bs)) (hx : x.ok) :
    Calls Try.prog 13 #[.agg #[.int .u8 x.k, .int .u64 x.n, .slice x.A x.bs.length x.c]] w fun e w' => BytesPost w x e w' := by
  obtain ⟨h1, h2, h3, h4⟩ := hx
  have HR := hide hR
  have HB := hide (fun h => bytes_row (x := x) h)
  have HN := hide (fun h => bytes_num (x := x) h)
  obtain ⟨k, n, A, bs, c⟩ := x
  dsimp only at h1 h2 h3 h4 HR HB HN ⊢
  clear hR
  have hcases : k % 5 = 4 ∨ k % 5 = 0 ∨ k % 5 = 1 ∨ k % 5 = 2 ∨ k % 5 = 3 := by omega
  rcases hcases with h | h | h | h | h
  · have hk : (k : Int) % 5 = 4 := by omega
    go_enter Try.func13, Try.ntmps13
    go_wp2
    go_ret
    have hb := (Below.refl w.heap.size w).alloc (Nat.le_refl _) (.cells #[.int .u8 k, .int .u64 n, .slice A bs.length c] 33)
    refine ⟨⟨A, c, by rw [HB.out h]; rfl, ?_, by rw [HB.out h]; exact h4, .inl ⟨rfl, HB.out h⟩⟩, hb⟩
    rw [HB.out h]
    exact (HR.out.below hb).more hb.size
  · have hk : (k : Int) % 5 = 0 := by omega
    have hb := (Below.refl w.heap.size w).alloc (Nat.le_refl _) (.cells #[.int .u8 k, .int .u64 n, .slice A bs.length c] 33)
    go_enter Try.func13, Try.ntmps13
    go_wp2_with fail
    refine (digits_any _ n 1 h2 (by decide) (by decide)).mono ?_
    rintro e w1 ⟨rfl, hg, hb1⟩
    have hb1' := hb.trans (hb1.mono hb.size)
    have hr := Rd.of_block hg
    rw [show (w.alloc (.cells #[.int .u8 k, .int .u64 n, .slice A bs.length c] 33)).heap.size = w.heap.size + 1 by simp] at hr
    have HR1 := hide hr
    clear hg hr
    go_wp2
    go_ret
    refine ⟨⟨some ⟨w.heap.size + 1, 0, none⟩, 1, ?_, ?_, ?_, .inr ⟨_, rfl, by omega⟩⟩, hb1'⟩
    rotate_left
    · rw [HN.out (by omega), h]; exact HR1.out
    · rw [HN.out (by omega), h, be_len]; decide
    · rw [HN.out (by omega), h, be_len]; rfl
  · have hk : (k : Int) % 5 = 1 := by omega
    have hb := (Below.refl w.heap.size w).alloc (Nat.le_refl _) (.cells #[.int .u8 k, .int .u64 n, .slice A bs.length c] 33)
    go_enter Try.func13, Try.ntmps13
    go_wp2_with fail
    refine (digits_any _ n 2 h2 (by decide) (by decide)).mono ?_
    rintro e w1 ⟨rfl, hg, hb1⟩
    have hb1' := hb.trans (hb1.mono hb.size)
    have hr := Rd.of_block hg
    rw [show (w.alloc (.cells #[.int .u8 k, .int .u64 n, .slice A bs.length c] 33)).heap.size = w.heap.size + 1 by simp] at hr
    have HR1 := hide hr
    clear hg hr
    go_wp2
    go_ret
    refine ⟨⟨some ⟨w.heap.size + 1, 0, none⟩, 2, ?_, ?_, ?_, .inr ⟨_, rfl, by omega⟩⟩, hb1'⟩
    rotate_left
    · rw [HN.out (by omega), h]; exact HR1.out
    · rw [HN.out (by omega), h, be_len]; decide
    · rw [HN.out (by omega), h, be_len]; rfl
  · have hk : (k : Int) % 5 = 2 := by omega
    have hb := (Below.refl w.heap.size w).alloc (Nat.le_refl _) (.cells #[.int .u8 k, .int .u64 n, .slice A bs.length c] 33)
    go_enter Try.func13, Try.ntmps13
    go_wp2_with fail
    refine (digits_any _ n 4 h2 (by decide) (by decide)).mono ?_
    rintro e w1 ⟨rfl, hg, hb1⟩
    have hb1' := hb.trans (hb1.mono hb.size)
    have hr := Rd.of_block hg
    rw [show (w.alloc (.cells #[.int .u8 k, .int .u64 n, .slice A bs.length c] 33)).heap.size = w.heap.size + 1 by simp] at hr
    have HR1 := hide hr
    clear hg hr
    go_wp2
    go_ret
    refine ⟨⟨some ⟨w.heap.size + 1, 0, none⟩, 4, ?_, ?_, ?_, .inr ⟨_, rfl, by omega⟩⟩, hb1'⟩
    rotate_left
    · rw [HN.out (by omega), h]; exact HR1.out
    · rw [HN.out (by omega), h, be_len]; decide
    · rw [HN.out (by omega), h, be_len]; rfl
  · have hk : (k : Int) % 5 = 3 := by omega
    have hb := (Below.refl w.heap.size w).alloc (Nat.le_refl _) (.cells #[.int .u8 k, .int .u64 n, .slice A bs.length c] 33)
    go_enter Try.func13, Try.ntmps13
    go_wp2_with fail
    refine (digits_any _ n 8 h2 (by decide) (by decide)).mono ?_
    rintro e w1 ⟨rfl, hg, hb1⟩
    have hb1' := hb.trans (hb1.mono hb.size)
    have hr := Rd.of_block hg
    rw [show (w.alloc (.cells #[.int .u8 k, .int .u64 n, .slice A bs.length c] 33)).heap.size = w.heap.size + 1 by simp] at hr
    have HR1 := hide hr
    clear hg hr
    go_wp2
    go_ret
    refine ⟨⟨some ⟨w.heap.size + 1, 0, none⟩, 8, ?_, ?_, ?_, .inr ⟨_, rfl, by omega⟩⟩, hb1'⟩
    rotate_left
    · rw [HN.out (by omega), h]; exact HR1.out
    · rw [HN.out (by omega), h, be_len]; decide
    · rw [HN.out (by omega), h, be_len]; rfl
theorem bytes_apart {w w' : World} {x : It} {A : Option Addr} {B r : Nat} (hb : Below w.heap.size w w') (hR : Rd w B x.A (u8s x.bs)) (hB : B ≤ r) (hr : r < w.heap.size) (h : Rd w' w'.heap.size A (u8s x.bytes))
    (hA : (A = x.A ∧ x.bytes = x.bs) ∨ ∃ b, A = some ⟨b, 0, none⟩ ∧ w.heap.size ≤ b) : ∀ hn : u8s x.bytes ≠ [], ∃ b off, A = some ⟨b, off, none⟩ ∧ b ≠ r ∧ b < w'.heap.size ∧ ∀ j u, (u8s x.bytes)[j]? = some u → w'.cell? ⟨b, off + j, none⟩ = some u := fun hn => by
  obtain ⟨b, off, e, hlt, hc⟩ := h hn
  refine ⟨b, off, e, ?_, hlt, hc⟩
  rcases hA with ⟨h1, h2⟩ | ⟨b', h1, h2⟩
  · rw [h2] at hn
    obtain ⟨b2, off2, e2, hlt2, _⟩ := hR hn
    rw [h1, e2] at e
    injection e with e
    injection e with e3
    omega
  · rw [h1] at e
    injection e with e
    injection e with e3
    omega
def PutPost (w : World) (g lo : Nat) (out : List UInt8) (x : It) (e : Ending) (w' : World) : Prop :=
  e = .returned (.tuple #[]) ∧ Wo w' g lo (out ++ x.bytes) ∧ Besides g w w'
set_option maxRecDepth 100000 in
set_option maxHeartbeats 4000000 in
theorem put_it (w : World) (g : Nat) {lo : Nat} (out : List UInt8) (x : It) (hW : Wo w g lo out) (hl : out.length ≤ 1000000000000) (hR : Rd w w.heap.size x.A (u8s x.bs)) (hx : x.ok) (hl2 : x.bs.length ≤ 1000000000000) :
    Calls Try.prog 11 #[.pointer (some ⟨g, 0, none⟩), .agg #[.int .u8 x.k, .int .u64 x.n, .slice x.A x.bs.length x.c]] w fun e w' => PutPost w g lo out x e w' := by
  obtain ⟨h1, h2, h3, h4⟩ := hx
  have HB := hide (fun h => bytes_row (x := x) h)
  have HN := hide (fun h => bytes_num (x := x) h)
  obtain ⟨k, n, A, bs, c⟩ := x
  dsimp only at h1 h2 h3 h4 HB HN hR hl2 ⊢
  have hb := (Below.refl w.heap.size w).alloc (Nat.le_refl _) (.cells #[.int .u8 k, .int .u64 n, .slice A bs.length c] 33)
  have hR1 := hide ((hR.below hb).more hb.size)
  have hW1 := hide (hW.below hb)
  have hb1 := hide (Besides.of_below (g := g) hb)
  clear hb hR hW
  have hcases : k % 5 = 4 ∨ k % 5 = 0 ∨ k % 5 = 1 ∨ k % 5 = 2 ∨ k % 5 = 3 := by omega
  rcases hcases with h | h | h | h | h
  · have hk : (k : Int) % 5 = 4 := by omega
    go_enter Try.func11, Try.ntmps11
    go_wp2_with fail
    refine (put_raw _ g out A bs c hR1.out hW1.out hl hl2).mono ?_
    rintro e w1 ⟨rfl, hW2, hb2⟩
    have HW2 := hide hW2
    have HB2 := hide (hb1.out.trans hb2)
    clear hW2 hb2
    go_wp2
    go_end0
    exact ⟨rfl, by rw [HB.out h]; exact HW2.out, HB2.out⟩
  · have hk : (k : Int) % 5 = 0 := by omega
    go_enter Try.func11, Try.ntmps11
    go_wp2_with fail
    refine (put8i _ g out _ (n % 256) (by first | omega | (rw [IntKind.wrap_u8]; omega)) (by omega) hW1.out hl).mono ?_
    rintro e w1 ⟨rfl, hW2, hb2⟩
    have e := be_mod 1 n 0; rw [show (256 : Nat) ^ (1 + 0) = 256 by decide] at e; rw [e] at hW2
    have HW2 := hide hW2
    have HB2 := hide (hb1.out.trans hb2)
    clear hW2 hb2
    go_wp2
    go_end0
    exact ⟨rfl, by rw [HN.out (by omega), h]; exact HW2.out, HB2.out⟩
  · have hk : (k : Int) % 5 = 1 := by omega
    go_enter Try.func11, Try.ntmps11
    go_wp2_with fail
    refine (put16i _ g out _ (n % 65536) (by first | omega | (rw [IntKind.wrap_u16]; omega)) (by omega) hW1.out hl).mono ?_
    rintro e w1 ⟨rfl, hW2, hb2⟩
    have e := be_mod 2 n 0; rw [show (256 : Nat) ^ (2 + 0) = 65536 by decide] at e; rw [e] at hW2
    have HW2 := hide hW2
    have HB2 := hide (hb1.out.trans hb2)
    clear hW2 hb2
    go_wp2
    go_end0
    exact ⟨rfl, by rw [HN.out (by omega), h]; exact HW2.out, HB2.out⟩
  · have hk : (k : Int) % 5 = 2 := by omega
    go_enter Try.func11, Try.ntmps11
    go_wp2_with fail
    refine (put32i _ g out _ (n % 4294967296) (by first | omega | (rw [IntKind.wrap_u32]; omega)) (by omega) hW1.out hl).mono ?_
    rintro e w1 ⟨rfl, hW2, hb2⟩
    have e := be_mod 4 n 0; rw [show (256 : Nat) ^ (4 + 0) = 4294967296 by decide] at e; rw [e] at hW2
    have HW2 := hide hW2
    have HB2 := hide (hb1.out.trans hb2)
    clear hW2 hb2
    go_wp2
    go_end0
    exact ⟨rfl, by rw [HN.out (by omega), h]; exact HW2.out, HB2.out⟩
  · have hk : (k : Int) % 5 = 3 := by omega
    go_enter Try.func11, Try.ntmps11
    go_wp2_with fail
    refine (put64i _ g out _ (n) (by rfl) (by omega) hW1.out hl).mono ?_
    rintro e w1 ⟨rfl, hW2, hb2⟩
    skip
    have HW2 := hide hW2
    have HB2 := hide (hb1.out.trans hb2)
    clear hW2 hb2
    go_wp2
    go_end0
    exact ⟨rfl, by rw [HN.out (by omega), h]; exact HW2.out, HB2.out⟩
end Go.Proofs.Ytbmaiiflbdggnaa
