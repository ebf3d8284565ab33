/- The document's Number; how an item is read. -/
import Derived.Test.YtbmaiiflbdggnaaFdg
import Derived.Test.YtbmaiiflbdggnaaFst
namespace Go.Proofs.Ytbmaiiflbdggnaa
open Go.RowKit
set_option linter.unusedVariables false
set_option linter.unusedSimpArgs false

set_option maxRecDepth 100000 in
set_option maxHeartbeats 2000000 in
theorem number_any (w : World) (A : Option Addr) (bs : List UInt8) (L c : Nat) (hL : bs.length = L) (hR : Rd w w.heap.size A (u8s bs)) (h8 : L ≤ 8) :
    Calls Try.prog 21 #[.slice A L c] w fun e w' => e = .returned (.int .u64 (num bs : Nat)) ∧ w' = w := by
  have HL := hide hL
  have HR := hide hR
  clear hL hR
  go_enter Try.func21, Try.ntmps21
  go_wp2
  go_loop [3, 4] (fun vn vi => ∃ i : Nat, i ≤ L ∧ vi = .int .i64 i ∧ vn = .int .u64 (num (bs.take i) : Nat)) (fun _ vi => L - (intOf vi).toNat)
  case atStart => exact ⟨0, by omega, rfl, rfl⟩
  case round =>
    obtain ⟨i, hi, rfl, rfl⟩ := hrel
    by_cases hlt : i < L
    · have hil : i < bs.length := by rw [HL.out]; exact hlt
      obtain ⟨b, off, rfl, _, hc⟩ := HR.out.at_ (k := i) (by rw [u8s_len]; exact hil)
      have hc1 := hc i _ (u8s_get hil)
      have ht := hide (num_take hil)
      have hb := (bs[i]).toNat_lt
      have hlt2 := num_lt (bs.take i)
      have hpow : 256 ^ (bs.take i).length ≤ 256 ^ 7 := Nat.pow_le_pow_right (by decide) (by rw [List.length_take]; omega)
      have ha : num (bs.take i) < 72057594037927936 := by omega
      obtain ⟨a, haa⟩ : ∃ a, num (bs.take i) = a := ⟨_, rfl⟩
      obtain ⟨y, hy⟩ : ∃ y, (bs[i]).toNat = y := ⟨_, rfl⟩
      rw [haa] at ha ht ⊢
      rw [hy] at hc1 hb ht
      clear hlt2 hpow haa hy hc hil
      have hI0 : (0 : Int) ≤ (i : Int) := by omega
      have hI1 : (i : Int) < (L : Int) := by omega
      go_wp2
      go_round
      case rel => exact ⟨i + 1, by omega, by go_num, by rw [ht.out]; go_num⟩
      case measure => simp [intOf]; omega
    · obtain rfl : i = L := by omega
      rw [← HL.out, List.take_length]
      go_wp2
      go_ret
      exact ⟨rfl, rfl⟩

def It.size (x : It) : Nat := if x.k % 5 = 4 then x.bs.length else 2 ^ (x.k % 5)
theorem It.bytes_len (x : It) : x.bytes.length = x.size := by
  unfold It.bytes It.size
  split
  · rfl
  · rw [be_len]
def It.got (x : It) (l : List UInt8) : List UInt8 := if x.k % 5 = 4 then l else be (2 ^ (x.k % 5)) (num l)
theorem num_snoc_mod (l : List UInt8) (b : UInt8) : num (l ++ [b]) / 256 = num l ∧ UInt8.ofNat (num (l ++ [b])) = b := by
  rw [num_snoc]
  have := b.toNat_lt
  constructor
  · omega
  · apply UInt8.toNat_inj.1
    rw [UInt8.toNat_ofNat']
    omega
theorem be_num : ∀ (n : Nat) (l : List UInt8), l.length = n → be n (num l) = l
  | 0, l, h => by rw [List.eq_nil_of_length_eq_zero h]; rfl
  | n + 1, l, h => by
    rcases List.eq_nil_or_concat l with rfl | ⟨l', b, rfl⟩
    · simp at h
    · rw [List.concat_eq_append] at h ⊢
      obtain ⟨h1, h2⟩ := num_snoc_mod l' b
      rw [be, h1, h2, be_num n l' (by simpa using h)]
/-- what was read whole is what stands there -/
theorem It.got_bytes (x : It) (l : List UInt8) (h : l.length = x.size) : x.got l = l := by
  unfold It.got It.size at *
  split
  · rfl
  · rename_i hk
    rw [if_neg hk] at h
    exact be_num _ _ h
theorem It.got_nil (x : It) : num (x.got []) = 0 ∧ ((x.k % 5 = 4) → x.got [] = []) ∧ (¬ x.k % 5 = 4 → (x.got []).length = 2 ^ (x.k % 5)) := by
  unfold It.got
  split
  · exact ⟨rfl, fun _ => rfl, fun h => absurd ‹_› h⟩
  · refine ⟨?_, fun h => absurd h ‹_›, fun _ => be_len _ _⟩
    rw [num_be]; simp [num]

def ReadPost (w : World) (r : Nat) (bs : List UInt8) (s : Nat × Bool) (x : It) (e : Ending) (w' : World) : Prop :=
  (∃ A c, e = .returned (.slice A (x.got (nx bs s x.size).1).length c) ∧ Rd w' w'.heap.size A (u8s (x.got (nx bs s x.size).1)) ∧ (x.got (nx bs s x.size).1).length ≤ c) ∧ Rr 65 w' r bs (nx bs s x.size).2 ∧ Besides r w w'
theorem size_row {x : It} (h : x.k % 5 = 4) : x.size = x.bs.length := by rw [It.size, if_pos h]
theorem size_num {x : It} (h : ¬ x.k % 5 = 4) : x.size = 2 ^ (x.k % 5) := by rw [It.size, if_neg h]
theorem got_row {x : It} (h : x.k % 5 = 4) (l : List UInt8) : x.got l = l := by rw [It.got, if_pos h]
theorem got_num {x : It} (h : ¬ x.k % 5 = 4) (l : List UInt8) : x.got l = be (2 ^ (x.k % 5)) (num l) := by rw [It.got, if_neg h]

set_option maxRecDepth 100000 in
set_option maxHeartbeats 4000000 in
theorem read_any (w : World) (r : Nat) (bs : List UInt8) (s : Nat × Bool) (x : It) (hr : Rr 65 w r bs s) (hx : x.ok) :
    Calls Try.prog 28 #[.pointer (some ⟨r, 0, none⟩), .agg #[.int .u8 x.k, .int .u64 x.n, .slice x.A x.bs.length x.c]] w fun e w' => ReadPost w r bs s x e w' := by
  obtain ⟨h1, h2, h3, h4⟩ := hx
  have HS1 := hide (fun h => size_row (x := x) h)
  have HS2 := hide (fun h => size_num (x := x) h)
  have HG1 := hide (fun h => got_row (x := x) h)
  have HG2 := hide (fun h => got_num (x := x) h)
  have hb := (Below.refl w.heap.size w).alloc (Nat.le_refl _) (.cells #[.int .u8 x.k, .int .u64 x.n, .slice x.A x.bs.length x.c] 33)
  have hr1 := hide (hr.below hb)
  have hb1 := hide (Besides.of_below (g := r) hb)
  have hlt := hr.lt
  clear hb hr
  have hcases : x.k % 5 = 4 ∨ x.k % 5 = 0 ∨ x.k % 5 = 1 ∨ x.k % 5 = 2 ∨ x.k % 5 = 3 := by omega
  unfold ReadPost
  rcases hcases with h | h | h | h | h
  · have hk : (x.k : Int) % 5 = 4 := by omega
    rw [HS1.out h, HG1.out h]
    obtain ⟨k, n, A, l, c⟩ := x
    dsimp only at h1 h2 h3 h4 h hk hr1 hb1 ⊢
    clear HS1 HS2 HG1 HG2
    go_enter Try.func28, Try.ntmps28
    go_wp2_with fail
    refine (get_raw _ r bs s hr1.out (l.length : Int) (by omega) (by omega)).mono ?_
    rintro e w1 ⟨⟨A', c', rfl, hown⟩, hr2, hb2⟩
    have HO := hide hown
    have HR2 := hide hr2
    have HB2 := hide hb2
    clear hown hr2 hb2
    go_wp2
    go_ret
    exact ⟨⟨A', c', rfl, Rd.of_own HO.out, own_cap HO.out⟩, HR2.out, hb1.out.trans HB2.out⟩
  · have hk : (x.k : Int) % 5 = 0 := by omega
    have hgl := nx_len bs s 1
    have hnl := num_lt (nx bs s 1).1
    have hpow : 256 ^ (nx bs s 1).1.length ≤ 256 ^ 1 := Nat.pow_le_pow_right (by decide) hgl
    have hn64 : num (nx bs s 1).1 < 256 := by omega
    rw [HS2.out (by omega), HG2.out (by omega), h, be_len]
    rw [show ((2 ^ 0 : Nat) : Int) = 1 by decide, show (2 : Nat) ^ 0 = 1 by decide]
    obtain ⟨k, n, A, l, c⟩ := x
    dsimp only at h1 h2 h3 h4 h hk hr1 hb1 ⊢
    clear HS1 HS2 HG1 HG2 hgl hnl hpow
    go_enter Try.func28, Try.ntmps28
    go_wp2_with fail
    refine (get8 _ r bs s hr1.out).mono ?_
    rintro e w1 ⟨rfl, hr2, hb2⟩
    obtain ⟨m, hm⟩ : ∃ m, num (nx bs s 1).1 = m := ⟨_, rfl⟩
    rw [hm] at hn64 ⊢
    have HR2 := hide hr2
    have HB2 := hide hb2
    have HM := hide hm
    clear hr2 hb2 hm
    go_wp2_with fail
    refine (digits_any _ m 1 (by omega) (by decide) (by decide)).mono ?_
    rintro e w2 ⟨rfl, hg, hb3⟩
    have HD := hide (Rd.of_block hg)
    have HR3 := hide (HR2.out.below hb3)
    have HB3 := hide ((hb1.out.trans HB2.out).trans (Besides.of_below hb3))
    clear hg hb3 HR2 HB2
    go_wp2
    go_ret
    exact ⟨⟨_, 1, rfl, by rw [HM.out]; exact HD.out, Nat.le_refl _⟩, HR3.out, HB3.out⟩
  · have hk : (x.k : Int) % 5 = 1 := by omega
    have hgl := nx_len bs s 2
    have hnl := num_lt (nx bs s 2).1
    have hpow : 256 ^ (nx bs s 2).1.length ≤ 256 ^ 2 := Nat.pow_le_pow_right (by decide) hgl
    have hn64 : num (nx bs s 2).1 < 65536 := by omega
    rw [HS2.out (by omega), HG2.out (by omega), h, be_len]
    rw [show ((2 ^ 1 : Nat) : Int) = 2 by decide, show (2 : Nat) ^ 1 = 2 by decide]
    obtain ⟨k, n, A, l, c⟩ := x
    dsimp only at h1 h2 h3 h4 h hk hr1 hb1 ⊢
    clear HS1 HS2 HG1 HG2 hgl hnl hpow
    go_enter Try.func28, Try.ntmps28
    go_wp2_with fail
    refine (get16 _ r bs s hr1.out).mono ?_
    rintro e w1 ⟨rfl, hr2, hb2⟩
    obtain ⟨m, hm⟩ : ∃ m, num (nx bs s 2).1 = m := ⟨_, rfl⟩
    rw [hm] at hn64 ⊢
    have HR2 := hide hr2
    have HB2 := hide hb2
    have HM := hide hm
    clear hr2 hb2 hm
    go_wp2_with fail
    refine (digits_any _ m 2 (by omega) (by decide) (by decide)).mono ?_
    rintro e w2 ⟨rfl, hg, hb3⟩
    have HD := hide (Rd.of_block hg)
    have HR3 := hide (HR2.out.below hb3)
    have HB3 := hide ((hb1.out.trans HB2.out).trans (Besides.of_below hb3))
    clear hg hb3 HR2 HB2
    go_wp2
    go_ret
    exact ⟨⟨_, 2, rfl, by rw [HM.out]; exact HD.out, Nat.le_refl _⟩, HR3.out, HB3.out⟩
  · have hk : (x.k : Int) % 5 = 2 := by omega
    have hgl := nx_len bs s 4
    have hnl := num_lt (nx bs s 4).1
    have hpow : 256 ^ (nx bs s 4).1.length ≤ 256 ^ 4 := Nat.pow_le_pow_right (by decide) hgl
    have hn64 : num (nx bs s 4).1 < 4294967296 := by omega
    rw [HS2.out (by omega), HG2.out (by omega), h, be_len]
    rw [show ((2 ^ 2 : Nat) : Int) = 4 by decide, show (2 : Nat) ^ 2 = 4 by decide]
    obtain ⟨k, n, A, l, c⟩ := x
    dsimp only at h1 h2 h3 h4 h hk hr1 hb1 ⊢
    clear HS1 HS2 HG1 HG2 hgl hnl hpow
    go_enter Try.func28, Try.ntmps28
    go_wp2_with fail
    refine (get32 _ r bs s hr1.out).mono ?_
    rintro e w1 ⟨rfl, hr2, hb2⟩
    obtain ⟨m, hm⟩ : ∃ m, num (nx bs s 4).1 = m := ⟨_, rfl⟩
    rw [hm] at hn64 ⊢
    have HR2 := hide hr2
    have HB2 := hide hb2
    have HM := hide hm
    clear hr2 hb2 hm
    go_wp2_with fail
    refine (digits_any _ m 4 (by omega) (by decide) (by decide)).mono ?_
    rintro e w2 ⟨rfl, hg, hb3⟩
    have HD := hide (Rd.of_block hg)
    have HR3 := hide (HR2.out.below hb3)
    have HB3 := hide ((hb1.out.trans HB2.out).trans (Besides.of_below hb3))
    clear hg hb3 HR2 HB2
    go_wp2
    go_ret
    exact ⟨⟨_, 4, rfl, by rw [HM.out]; exact HD.out, Nat.le_refl _⟩, HR3.out, HB3.out⟩
  · have hk : (x.k : Int) % 5 = 3 := by omega
    have hgl := nx_len bs s 8
    have hnl := num_lt (nx bs s 8).1
    have hpow : 256 ^ (nx bs s 8).1.length ≤ 256 ^ 8 := Nat.pow_le_pow_right (by decide) hgl
    have hn64 : num (nx bs s 8).1 < 18446744073709551616 := by omega
    rw [HS2.out (by omega), HG2.out (by omega), h, be_len]
    rw [show ((2 ^ 3 : Nat) : Int) = 8 by decide, show (2 : Nat) ^ 3 = 8 by decide]
    obtain ⟨k, n, A, l, c⟩ := x
    dsimp only at h1 h2 h3 h4 h hk hr1 hb1 ⊢
    clear HS1 HS2 HG1 HG2 hgl hnl hpow
    go_enter Try.func28, Try.ntmps28
    go_wp2_with fail
    refine (get64 _ r bs s hr1.out).mono ?_
    rintro e w1 ⟨rfl, hr2, hb2⟩
    obtain ⟨m, hm⟩ : ∃ m, num (nx bs s 8).1 = m := ⟨_, rfl⟩
    rw [hm] at hn64 ⊢
    have HR2 := hide hr2
    have HB2 := hide hb2
    have HM := hide hm
    clear hr2 hb2 hm
    go_wp2_with fail
    refine (digits_any _ m 8 (by omega) (by decide) (by decide)).mono ?_
    rintro e w2 ⟨rfl, hg, hb3⟩
    have HD := hide (Rd.of_block hg)
    have HR3 := hide (HR2.out.below hb3)
    have HB3 := hide ((hb1.out.trans HB2.out).trans (Besides.of_below hb3))
    clear hg hb3 HR2 HB2
    go_wp2
    go_ret
    exact ⟨⟨_, 8, rfl, by rw [HM.out]; exact HD.out, Nat.le_refl _⟩, HR3.out, HB3.out⟩
end Go.Proofs.Ytbmaiiflbdggnaa
