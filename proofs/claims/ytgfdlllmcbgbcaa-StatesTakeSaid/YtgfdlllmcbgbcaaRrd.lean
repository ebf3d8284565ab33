/- The document's read: a number at a place. (printed by gen/rge.py) -/
import Derived.Test.YtgfdlllmcbgbcaaProg
import Derived.Test.YtgfdlllmcbgbcaaSgt
import Derived.Lib.Hide
import Derived.WalkSpells
import Derived.WalkLawsBesides
import Derived.WalkMore
import Derived.IntWalk
namespace Go.Proofs.Ytgfdlllmcbgbcaa
open Go.RowKit
set_option linter.unusedVariables false
set_option linter.unusedSimpArgs false
set_option maxRecDepth 100000 in
set_option maxHeartbeats 4000000 in
theorem rread_no (w : World) (A : Option Addr) (bs : List UInt8) (L c : Nat) (s k : Nat) (z y : Int) (hz : z = (s : Int)) (hy : y = (k : Int)) (hL : bs.length = L) (hl : L ≤ 1000000) (hs : s ≤ 2000000) (hk : k ≤ 8) (h : L < s + k) :
    Calls Try.prog 41 #[.slice A L c, .int .i64 z, .int .i64 y] w fun e w' => e = .returned (.tuple #[.int .u64 0, .bool false]) ∧ w = w' := by
  have h1 : (L : Int) < z + y := by omega
  have h2 : 0 ≤ z := by omega
  have h3 : 0 ≤ y := by omega
  have h4 : z ≤ 2000000 := by omega
  have h5 : y ≤ 8 := by omega
  clear hz hy hL h
  go_enter Try.func41, Try.ntmps41
  go_wp2
  go_ret2
  exact ⟨rfl, rfl⟩
set_option maxRecDepth 100000 in
set_option maxHeartbeats 4000000 in
theorem rread_ok (w : World) (A : Option Addr) (bs : List UInt8) (L c : Nat) (s k : Nat) (z y : Int) (hz : z = (s : Int)) (hy : y = (k : Int)) (hL : bs.length = L) (hl : L ≤ 1000000) (hR : Rd w w.heap.size A (u8s bs)) (hk : k ≤ 8) (h : s + k ≤ L) :
    Calls Try.prog 41 #[.slice A L c, .int .i64 z, .int .i64 y] w fun e w' => e = .returned (.tuple #[.int .u64 (rz.num ((bs.drop s).take k) : Nat), .bool true]) ∧ w = w' := by
  subst hz hy
  have hs2 : s ≤ 1000000 := by omega
  have h1 : (s : Int) + (k : Int) ≤ (L : Int) := by omega
  have HR := hide hR
  have HL := hide hL
  clear hR hL
  go_enter Try.func41, Try.ntmps41
  go_wp2
  go_loop [8, 9] (fun v8 v9 => ∃ i : Nat, i ≤ k ∧ v9 = .int .i64 i ∧ v8 = .int .u64 (rz.num (((bs.drop s).take k).take i) : Nat)) (fun _ v9 => k - (intOf v9).toNat)
  case atStart => exact ⟨0, by omega, rfl, rfl⟩
  case round =>
    obtain ⟨i, hi, rfl, rfl⟩ := hrel
    by_cases hlt : i < k
    · have hlen : ((bs.drop s).take k).length = k := by rw [List.length_take, List.length_drop, HL.out]; omega
      have hil : i < ((bs.drop s).take k).length := by rw [hlen]; exact hlt
      have ht := hide (rz.num_take hil)
      have hn := num_lt_of (l := ((bs.drop s).take k).take i) (k := 7) (by rw [List.length_take]; omega)
      obtain ⟨b, hb⟩ : ∃ b, ((bs.drop s).take k)[i] = b := ⟨_, rfl⟩
      have hbs : bs[s + i]? = some b := by
        rw [← hb]
        have e := List.getElem?_eq_getElem hil
        rw [List.getElem?_take, if_pos hlt, List.getElem?_drop] at e
        exact e
      have hbb := b.toNat_lt
      rw [hb] at ht
      obtain ⟨bb, off, rfl, hlb, d0⟩ := HR.out.at_ (k := s + i) (by rw [u8s_len, HL.out]; omega)
      have hu : (u8s bs)[s + i]? = some (.int .u8 (b.toNat : Int)) := by simp [u8s, hbs]
      have d1 := d0 (s + i) _ hu
      clear hu
      obtain ⟨n, hnn⟩ : ∃ n, rz.num (((bs.drop s).take k).take i) = n := ⟨_, rfl⟩
      obtain ⟨q, hq⟩ : ∃ q, b.toNat = q := ⟨_, rfl⟩
      rw [hnn, hq] at ht
      rw [hnn] at hn ⊢
      rw [hq] at hbb d1
      have hn7 : n < 72057594037927936 := by simpa using hn
      have hI0 : (0 : Int) ≤ (s : Int) + (i : Int) := by omega
      have hI1 : (s : Int) + (i : Int) < (L : Int) := by omega
      have hI2 : ((s : Int) + (i : Int)).toNat = s + i := by omega
      clear d0 hn hb hbs hnn hq hil hlen
      go_wp2
      go_round
      case rel => exact ⟨i + 1, by omega, by go_num, by rw [ht.out]; go_num⟩
      case measure => simp [intOf]; omega
    · obtain rfl : i = k := by omega
      have HT : Hid (((bs.drop s).take i).take i = (bs.drop s).take i) := hide (by rw [List.take_take, Nat.min_self])
      go_wp2
      go_ret2
      refine ⟨?_, rfl⟩
      show Ending.returned (.tuple #[.int .u64 (rz.num (((bs.drop s).take i).take i) : Nat), .bool true]) = _
      rw [HT.out]
end Go.Proofs.Ytgfdlllmcbgbcaa
