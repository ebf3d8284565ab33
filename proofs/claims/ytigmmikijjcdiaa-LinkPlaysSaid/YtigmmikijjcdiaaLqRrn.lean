/- The document's number. (printed by gen/rrn.py) -/
import Derived.Test.YtigmmikijjcdiaaProg
import Derived.Test.YtigmmikijjcdiaaLqRfr
import Derived.Test.YtigmmikijjcdiaaLqLkr
import Derived.Deep.DeepCutAuto
import Derived.Lib.Hide
import Derived.WalkSpells
import Derived.WalkMore
import Derived.IntWalk








namespace Go.Proofs.Ytigmmikijjcdiaa
open Go.RowKit
set_option linter.unusedVariables false
set_option linter.unusedSimpArgs false
theorem num_snoc_mod (l : List UInt8) (b : UInt8) : num (l ++ [b]) / 256 = num l ∧ UInt8.ofNat (num (l ++ [b])) = b := by
  rw [num_snoc]
  have := b.toNat_lt
  constructor
  · omega
  · apply UInt8.toNat_inj.1
    rw [UInt8.toNat_ofNat']
    omega
theorem be_num : ∀ (n : Nat) (l : List UInt8), l.length = n → be n (num l) = l
  | 0, l, h => by rw [List.eq_nil_of_length_eq_zero h]; rfl
  | n + 1, l, h => by
    rcases List.eq_nil_or_concat l with rfl | ⟨l', b, rfl⟩
    · simp at h
    · rw [List.concat_eq_append] at h ⊢
      obtain ⟨h1, h2⟩ := num_snoc_mod l' b
      rw [be, h1, h2, be_num n l' (by simpa using h)]
/-- a number at a place: -1: none that may be -/
def numI (f : BL) (at_ : Nat) : Int := if (f.length : Int) - 4 < (at_ : Int) + 8 then -1 else if mostL < num ((f.drop at_).take 8) then -1 else (num ((f.drop at_).take 8) : Nat)
set_option maxRecDepth 100000 in
set_option maxHeartbeats 2000000 in
theorem rnumber_any (w : World) (A : Option Addr) (f : BL) (c at_ : Nat) (hR : Rd w w.heap.size A (u8s f)) (hc : f.length ≤ c) (hc2 : c ≤ 9223372036854775807) (hat : at_ ≤ 17) :
    Calls Try.prog 75 #[.slice A f.length c, .int .i64 at_] w fun e w' => e = .returned (.int .i64 (numI f at_)) ∧ w' = w := by
  obtain ⟨m, hm⟩ : ∃ z, f.length = z := ⟨_, rfl⟩
  rw [hm] at hc ⊢
  have HM := hide hm
  have HR := hide hR
  obtain ⟨dl, hdl⟩ : ∃ z, (f.drop at_).take 8 = z := ⟨_, rfl⟩
  have hnl : num dl < 18446744073709551616 := by have h9 := num_lt dl; have h8 : 256 ^ dl.length ≤ 256 ^ 8 := Nat.pow_le_pow_right (by omega) (by rw [← hdl, List.length_take]; omega); omega
  obtain ⟨nn, hnn⟩ : ∃ z, num dl = z := ⟨_, rfl⟩
  rw [hnn] at hnl
  have hE : numI f at_ = if (m : Int) - 4 < (at_ : Int) + 8 then -1 else if 4611686018427387904 < nn then -1 else (nn : Int) := by unfold numI mostL; rw [hm, hdl, hnn]
  have HE := hide hE
  have HDl := hide hdl
  have HNn := hide hnn
  clear hm hR hE hdl hnn
  by_cases hs : (m : Int) - 4 < (at_ : Int) + 8
  · have HE2 : Hid (numI f at_ = -1) := hide (by rw [HE.out, if_pos hs])
    go_enter Try.func75, Try.ntmps75
    go_wp2
    go_ret
    exact ⟨by rw [HE2.out]; rfl, rfl⟩
  · have hne : f ≠ [] := by rintro rfl; have := HM.out; simp at this; omega
    obtain ⟨g, off, rfl, hg, -⟩ := HR.out (by intro e; apply hne; have := congrArg List.length e; rw [u8s_len] at this; exact List.eq_nil_of_length_eq_zero (by simpa using this))
    have hrd := rd_drop HR.out at_
    have hcall := rnumber0_any w (some ⟨g, off + at_, none⟩) dl 8 (c - at_) (by rw [← HDl.out, List.length_take, List.length_drop, HM.out]; omega) (by rw [← HDl.out]; have h := hrd.take 8; rw [show u8s ((f.drop at_).take 8) = ((u8s f).drop at_).take 8 by unfold u8s; rw [List.map_take, List.map_drop]]; exact h) (by decide)
    rw [HNn.out] at hcall
    have HCl := hide hcall
    clear hcall hrd hne
    have q1 : (at_ : Int) + 8 ≤ (c : Int) := by omega
    have kw : IntKind.i64.wrap ((at_ : Int) + 8) = (at_ : Int) + 8 := IntWalk.i64_in _ (by omega)
    have kw2 : IntKind.i64.wrap ((m : Int) - 4) = (m : Int) - 4 := IntWalk.i64_in _ (by omega)
    go_enter Try.func75, Try.ntmps75
    go_wp2_with fail
    refine HCl.out.mono ?_
    rintro e w1 ⟨rfl, rfl⟩
    by_cases hb : 4611686018427387904 < nn
    · have HE2 : Hid (numI f at_ = -1) := hide (by rw [HE.out, if_neg (by omega), if_pos (by omega)])
      have hb1 : (4611686018427387904 : Int) < (nn : Int) := by omega
      go_wp2
      go_ret
      exact ⟨by rw [HE2.out]; rfl, rfl⟩
    · have HE2 : Hid (numI f at_ = (nn : Int)) := hide (by rw [HE.out, if_neg (by omega), if_neg (by omega)])
      have hb1 : ¬ (4611686018427387904 : Int) < (nn : Int) := by omega
      go_wp2
      go_ret
      exact ⟨by rw [HE2.out]; rfl, rfl⟩
end Go.Proofs.Ytigmmikijjcdiaa
