/- Lemmas: Rrx, Ren, Rso. -/
import Derived.Test.YtigmmikijjcdiaaProg
import Derived.Deep.DeepCutAuto
import Derived.Lib.Hide
import Derived.WalkSpells
import Derived.WalkMore
import Derived.IntWalk
import Derived.Test.YtigmmikijjcdiaaLnWw17
set_option linter.unusedVariables false
set_option linter.unusedSimpArgs false
set_option maxRecDepth 100000
set_option maxHeartbeats 16000000
namespace Go.Proofs.Ytigmmikijjcdiaa
open Go.RowKit
theorem numI_bd (f : BL) (k : Nat) : -1 ≤ numI f k ∧ numI f k ≤ 4611686018427387904 := by
 unfold numI mostL
 split
 ·omega
 ·split <;> omega
theorem numI_len {f : BL} {k : Nat} (h : 0 ≤ numI f k) : k + 12 ≤ f.length := by
 unfold numI at h
 split at h
 ·omega
 ·omega
def RrxPost (w : World) (f : BL) (e : Ending) (w' : World) : Prop := Below w.heap.size w w' ∧ match readL f with
 | none => e = .returned (.tuple #[.int .i64 0, .int .i64 0, .int .i64 0, .string ⟨#[]⟩, .bool false])
 | some (ep, h, n, b) => e = .returned (.tuple #[.int .i64 (ep : Int), .int .i64 (h : Int), .int .i64 (n : Int), .string ⟨b.toArray⟩, .bool true])
theorem rread_any (w : World) (A : Option Addr) (f : BL) (c : Nat) (hR : Rd w w.heap.size A (u8s f)) (hf : f.length ≤ 3000000) (hc : f.length ≤ c) (hc2 : c ≤ 9223372036854775807) :
  Calls Try.prog 63 #[.slice A f.length c] w (RrxPost w f) := by
 obtain ⟨m, hm⟩ : ∃ z, f.length = z := ⟨_, rfl⟩
 rw [hm] at hc hf ⊢
 have HM := hide hm
 have HR := hide hR
 clear hm hR
 by_cases h21 : m < 21
 ·have HNo : Hid (readL f = none) := hide (by unfold readL; rw [if_pos (by rw [HM.out]; exact h21)])
  have hI : (m : Int) < 21 := by omega
  go_enter Try.func63, Try.ntmps63
  go_wp2
  exact bodyPost_ret (v := .tuple #[.int .i64 0, .int .i64 0, .int .i64 0, .string ⟨#[]⟩, .bool false]) (by simp [results, Try.results63, go_sem]) rfl ⟨Below.refl _ _, by rw [HNo.out]⟩
 have hI : ¬ (m : Int) < 21 := by omega
 have hm0 : 0 < m := by omega
 obtain ⟨x, hx⟩ : ∃ x, f[0]? = some x := ⟨_, List.getElem?_eq_getElem (by rw [HM.out]; omega)⟩
 have ht1 : f.take 1 = [x] := by cases f with | nil => simp at hx | cons a l => simp at hx; subst hx; rfl
 obtain ⟨tg, htg⟩ : ∃ z, x.toNat = z := ⟨_, rfl⟩
 have HTg : Hid (num (f.take 1) = tg) := hide (by rw [ht1, ← htg]; simp [num])
 have htl : tg < 256 := by rw [← htg]; exact x.toNat_lt
 obtain ⟨g, off, rfl, hg, hcell⟩ := HR.out (by intro e; have := congrArg List.length e; rw [u8s_len, HM.out] at this; simp at this; omega)
 have q0 : w.cell? ⟨g, off, none⟩ = some (.int .u8 (tg : Int)) := by have h := hcell 0 (.int .u8 (x.toNat : Int)) (by unfold u8s; rw [List.getElem?_map, hx]; rfl); rw [htg] at h; simpa using h
 clear hx ht1 htg hcell
 have HG := hide hg
 by_cases t1 : tg = 1
 ·have n1 := rnumber_any w (some ⟨g, off, none⟩) f c 1 HR.out (by rw [HM.out]; exact hc) hc2 (by decide)
  rw [HM.out, show ((1 : Nat) : Int) = 1 from rfl] at n1
  have epb := numI_bd f 1
  obtain ⟨ep, hep⟩ : ∃ z, numI f 1 = z := ⟨_, rfl⟩
  rw [hep] at n1 epb
  have HN1 := hide n1
  have Hep := hide hep
  clear n1
  have n9 := rnumber_any w (some ⟨g, off, none⟩) f c 9 HR.out (by rw [HM.out]; exact hc) hc2 (by decide)
  rw [HM.out, show ((9 : Nat) : Int) = 9 from rfl] at n9
  have hhb := numI_bd f 9
  obtain ⟨hh, hhh⟩ : ∃ z, numI f 9 = z := ⟨_, rfl⟩
  rw [hhh] at n9 hhb
  have HN9 := hide n9
  have Hhh := hide hhh
  clear n9
  have n17 := rnumber_any w (some ⟨g, off, none⟩) f c 17 HR.out (by rw [HM.out]; exact hc) hc2 (by decide)
  rw [HM.out, show ((17 : Nat) : Int) = 17 from rfl] at n17
  have nnb := numI_bd f 17
  obtain ⟨nn, hnn⟩ : ∃ z, numI f 17 = z := ⟨_, rfl⟩
  rw [hnn] at n17 nnb
  have HN17 := hide n17
  have Hnn := hide hnn
  clear n17
  obtain ⟨b, hb⟩ : ∃ z, (f.take (f.length - 4)).drop 25 = z := ⟨_, rfl⟩
  have HRD : Hid (readL f = if nn < 1 ∨ ep < 0 ∨ hh < 0 ∨ 1048576 < (m : Int) - 29 ∨ frI 1 b ep hh nn ≠ f then none else some (ep.toNat, hh.toNat, nn.toNat, b)) := hide (by have h := rd_one (f := f) (by rw [HM.out]; omega) (by rw [HTg.out, t1]); rw [hep, hhh, hnn, hb, HM.out] at h; exact h)
  have HTt := hide t1
  subst t1
  have HB := hide hb
  clear hep hhh hnn hb
  go_enter Try.func63, Try.ntmps63
  go_wp2_with fail
  refine HN1.out.mono ?_
  rintro e w1 ⟨rfl, hw⟩
  obtain rfl : w = w1 := hw.symm
  go_wp2_with fail
  refine HN9.out.mono ?_
  rintro e w2 ⟨rfl, hw⟩
  obtain rfl : w = w2 := hw.symm
  go_wp2_with fail
  refine HN17.out.mono ?_
  rintro e w3 ⟨rfl, hw⟩
  obtain rfl : w = w3 := hw.symm
  by_cases c1 : nn < 1
  ·have HNo : Hid (readL f = none) := hide (by rw [HRD.out, if_pos (.inl c1)])
   go_wp2
   exact bodyPost_ret (v := .tuple #[.int .i64 0, .int .i64 0, .int .i64 0, .string ⟨#[]⟩, .bool false]) (by simp [results, Try.results63, go_sem]) rfl ⟨Below.refl _ _, by rw [HNo.out]⟩
  have hm29 : 29 ≤ m := by have h := numI_len (f := f) (k := 17) (by rw [Hnn.out]; omega); rw [HM.out] at h; omega
  obtain ⟨bl, hbl⟩ : ∃ z, b.length = z := ⟨_, rfl⟩
  have hblm : bl = m - 4 - 25 := by rw [← hbl, ← HB.out, List.length_drop, List.length_take, HM.out]; omega
  have hrb : Rd w w.heap.size (some ⟨g, off + 25, none⟩) (u8s b) := by have h := (rd_drop HR.out 25).take (m - 29); rw [← HB.out, HM.out, List.drop_take, show m - 4 - 25 = m - 29 by omega]; unfold u8s at h ⊢; rw [List.map_take, List.map_drop]; exact h
  have HBl := hide hbl
  have HRb := hide hrb
  have kb := run_string_of (P := Try.prog) w 23 9 5 (some ⟨g, off + 25, none⟩) (c - 25) _ b Try.underlying23 Try.underlying5 Try.underlying9 hrb
  rw [hbl, hblm] at kb
  have HBlm := hide hblm
  clear hrb hbl hblm
  clear hw
  go_upto_region 9 with fail
  go_upto_region 10 with fail
  have hfr : ∀ z : World, Calls Try.prog 27 #[.int .u8 1, .int .i64 ep, .int .i64 hh, .int .i64 nn, .string ⟨(b).toArray⟩] z fun e w' => e = .returned (.string ⟨(frI 1 (b) ep hh nn).toArray⟩) ∧ Below z.heap.size z w' := fun z => rframe_any z 1 (by decide) ep hh nn (by omega) (by omega) (by omega) (by omega) (by omega) (by omega) (b) (by have := HBl.out; have := HBlm.out; omega)
  have HFr := hide hfr
  clear hfr
  have HKf : Hid (∀ z : World, Kept w z → (convert 23 9 (.slice (some ⟨g, off, none⟩) m c)).run Try.prog z = .ok (.string ⟨f.toArray⟩) z) := hide (fun z hz => by have h := run_string_of (P := Try.prog) z 23 9 5 (some ⟨g, off, none⟩) c _ f Try.underlying23 Try.underlying5 Try.underlying9 (HR.out.keep fun p hp => hz p hp); rw [HM.out] at h; exact h)
  by_cases c2 : ep < 0
  ·have dc2 : decide (ep < 0) = true := decide_eq_true c2
   have HNo : Hid (readL f = none) := hide (by rw [HRD.out, if_pos (.inr (.inl c2))])
   refine wp_region_held_drew (S := Kept w) (by kernel_rfl) (Kept.drew w) (fun hS0 => ?_)
   refine tk 0 44 ?_ ?_ ?_; rotate_left; (focus (intro w h; go_simp; (try with_reducible rfl))); (try simp only [zqd, zqe, zqf])
   refine tk 1 45 ?_ ?_ ?_; rotate_left; (focus (intro w h; go_simp; (try with_reducible rfl))); (try simp only [zqd, zqe, zqf])
   refine tk 2 46 ?_ ?_ ?_; rotate_left; (focus (intro w h; go_simp; (try with_reducible rfl))); (try simp only [zqd, zqe, zqf])
   refine sk 3 47 ?_; (try simp only [zqd, zqe, zqf])
   refine sk 4 48 ?_; (try simp only [zqd, zqe, zqf])
   refine tk 5 49 ?_ ?_ ?_; rotate_left; (focus (intro w h; go_simp; (try with_reducible rfl))); (try simp only [zqd, zqe, zqf])
   refine tk 6 50 ?_ ?_ ?_; rotate_left; (focus (intro w h; go_simp; (try with_reducible rfl))); (try simp only [zqd, zqe, zqf])
   refine sk 7 51 ?_; (try simp only [zqd, zqe, zqf])
   refine sk 8 52 ?_; (try simp only [zqd, zqe, zqf])
   refine sk 9 53 ?_; (try simp only [zqd, zqe, zqf])
   refine tk 10 54 ?_ ?_ ?_; rotate_left; (focus (intro w h; go_simp; (try with_reducible rfl))); (try simp only [zqd, zqe, zqf])
   refine tk 11 55 ?_ ?_ ?_; rotate_left; (focus (intro w h; go_simp; (try with_reducible rfl))); (try simp only [zqd, zqe, zqf])
   refine sk 12 56 ?_; (try simp only [zqd, zqe, zqf])
   refine sk 13 57 ?_; (try simp only [zqd, zqe, zqf])
   refine sk 14 58 ?_; (try simp only [zqd, zqe, zqf])
   refine sk 15 59 ?_; (try simp only [zqd, zqe, zqf])
   refine sk 16 60 ?_; (try simp only [zqd, zqe, zqf])
   refine sk 17 61 ?_; (try simp only [zqd, zqe, zqf])
   refine sk 18 62 ?_; (try simp only [zqd, zqe, zqf])
   refine sk 19 63 ?_; (try simp only [zqd, zqe, zqf])
   refine sk 20 64 ?_; (try simp only [zqd, zqe, zqf])
   refine sk 21 65 ?_; (try simp only [zqd, zqe, zqf])
   refine sk 22 66 ?_; (try simp only [zqd, zqe, zqf])
   refine tk 23 67 ?_ ?_ ?_; rotate_left; (focus (intro w h; go_simp; (try with_reducible rfl))); (try simp only [zqd, zqe, zqf])
   refine wpAnyH_done (by kernel_rfl) ?_ _
   clear hS0
   go_wp2
   exact bodyPost_ret (v := .tuple #[.int .i64 0, .int .i64 0, .int .i64 0, .string ⟨#[]⟩, .bool false]) (by simp [results, Try.results63, go_sem]) rfl ⟨(Below.refl _ _).drew, by rw [HNo.out]⟩
  have dc2 : decide (ep < 0) = false := decide_eq_false c2
  by_cases c3 : hh < 0
  ·have dc3 : decide (hh < 0) = true := decide_eq_true c3
   have HNo : Hid (readL f = none) := hide (by rw [HRD.out, if_pos (.inr (.inr (.inl c3)))])
   refine wp_region_held_drew (S := Kept w) (by kernel_rfl) (Kept.drew w) (fun hS0 => ?_)
   refine tk 0 44 ?_ ?_ ?_; rotate_left; (focus (intro w h; go_simp; (try with_reducible rfl))); (try simp only [zqd, zqe, zqf])
   refine tk 1 45 ?_ ?_ ?_; rotate_left; (focus (intro w h; go_simp; (try with_reducible rfl))); (try simp only [zqd, zqe, zqf])
   refine tk 2 46 ?_ ?_ ?_; rotate_left; (focus (intro w h; go_simp; (try with_reducible rfl))); (try simp only [zqd, zqe, zqf])
   refine tk 3 47 ?_ ?_ ?_; rotate_left; (focus (intro w h; go_simp; (try with_reducible rfl))); (try simp only [zqd, zqe, zqf])
   refine tk 4 48 ?_ ?_ ?_; rotate_left; (focus (intro w h; go_simp; (try with_reducible rfl))); (try simp only [zqd, zqe, zqf])
   refine tk 5 49 ?_ ?_ ?_; rotate_left; (focus (intro w h; go_simp; (try with_reducible rfl))); (try simp only [zqd, zqe, zqf])
   refine tk 6 50 ?_ ?_ ?_; rotate_left; (focus (intro w h; go_simp; (try with_reducible rfl))); (try simp only [zqd, zqe, zqf])
   refine sk 7 51 ?_; (try simp only [zqd, zqe, zqf])
   refine sk 8 52 ?_; (try simp only [zqd, zqe, zqf])
   refine sk 9 53 ?_; (try simp only [zqd, zqe, zqf])
   refine tk 10 54 ?_ ?_ ?_; rotate_left; (focus (intro w h; go_simp; (try with_reducible rfl))); (try simp only [zqd, zqe, zqf])
   refine tk 11 55 ?_ ?_ ?_; rotate_left; (focus (intro w h; go_simp; (try with_reducible rfl))); (try simp only [zqd, zqe, zqf])
   refine sk 12 56 ?_; (try simp only [zqd, zqe, zqf])
   refine sk 13 57 ?_; (try simp only [zqd, zqe, zqf])
   refine sk 14 58 ?_; (try simp only [zqd, zqe, zqf])
   refine sk 15 59 ?_; (try simp only [zqd, zqe, zqf])
   refine sk 16 60 ?_; (try simp only [zqd, zqe, zqf])
   refine sk 17 61 ?_; (try simp only [zqd, zqe, zqf])
   refine sk 18 62 ?_; (try simp only [zqd, zqe, zqf])
   refine sk 19 63 ?_; (try simp only [zqd, zqe, zqf])
   refine sk 20 64 ?_; (try simp only [zqd, zqe, zqf])
   refine sk 21 65 ?_; (try simp only [zqd, zqe, zqf])
   refine sk 22 66 ?_; (try simp only [zqd, zqe, zqf])
   refine tk 23 67 ?_ ?_ ?_; rotate_left; (focus (intro w h; go_simp; (try with_reducible rfl))); (try simp only [zqd, zqe, zqf])
   refine wpAnyH_done (by kernel_rfl) ?_ _
   clear hS0
   go_wp2
   exact bodyPost_ret (v := .tuple #[.int .i64 0, .int .i64 0, .int .i64 0, .string ⟨#[]⟩, .bool false]) (by simp [results, Try.results63, go_sem]) rfl ⟨(Below.refl _ _).drew, by rw [HNo.out]⟩
  have dc3 : decide (hh < 0) = false := decide_eq_false c3
  by_cases c4 : (1048576 : Int) < (bl : Int)
  ·have dc4 : decide ((1048576 : Int) < (bl : Int)) = true := decide_eq_true c4
   have HNo : Hid (readL f = none) := hide (by rw [HRD.out, if_pos (.inr (.inr (.inr (.inl (by have := HBlm.out; omega)))))])
   refine wp_region_held_drew (S := Kept w) (by kernel_rfl) (Kept.drew w) (fun hS0 => ?_)
   refine tk 0 44 ?_ ?_ ?_; rotate_left; (focus (intro w h; go_simp; (try with_reducible rfl))); (try simp only [zqd, zqe, zqf])
   refine tk 1 45 ?_ ?_ ?_; rotate_left; (focus (intro w h; go_simp; (try with_reducible rfl))); (try simp only [zqd, zqe, zqf])
   refine tk 2 46 ?_ ?_ ?_; rotate_left; (focus (intro w h; go_simp; (try with_reducible rfl))); (try simp only [zqd, zqe, zqf])
   refine tk 3 47 ?_ ?_ ?_; rotate_left; (focus (intro w h; go_simp; (try with_reducible rfl))); (try simp only [zqd, zqe, zqf])
   refine tk 4 48 ?_ ?_ ?_; rotate_left; (focus (intro w h; go_simp; (try with_reducible rfl))); (try simp only [zqd, zqe, zqf])
   refine tk 5 49 ?_ ?_ ?_; rotate_left; (focus (intro w h; go_simp; (try with_reducible rfl))); (try simp only [zqd, zqe, zqf])
   refine tk 6 50 ?_ ?_ ?_; rotate_left; (focus (intro w h; go_simp; (try with_reducible rfl))); (try simp only [zqd, zqe, zqf])
   refine tk 7 51 ?_ ?_ ?_; rotate_left; (focus (intro w h; go_simp; (try with_reducible rfl))); (try simp only [zqd, zqe, zqf])
   refine tk 8 52 ?_ ?_ ?_; rotate_left; (focus (intro w hSw; go_simp; (try rw [HBl.out]); (try with_reducible rfl); done)); (try simp only [zqd, zqe, zqf])
   refine tk 9 53 ?_ ?_ ?_; rotate_left; (focus (intro w h; go_simp; (try with_reducible rfl))); (try simp only [zqd, zqe, zqf])
   refine tk 10 54 ?_ ?_ ?_; rotate_left; (focus (intro w h; go_simp; (try with_reducible rfl))); (try simp only [zqd, zqe, zqf])
   refine tk 11 55 ?_ ?_ ?_; rotate_left; (focus (intro w h; go_simp; (try with_reducible rfl))); (try simp only [zqd, zqe, zqf])
   refine sk 12 56 ?_; (try simp only [zqd, zqe, zqf])
   refine sk 13 57 ?_; (try simp only [zqd, zqe, zqf])
   refine sk 14 58 ?_; (try simp only [zqd, zqe, zqf])
   refine sk 15 59 ?_; (try simp only [zqd, zqe, zqf])
   refine sk 16 60 ?_; (try simp only [zqd, zqe, zqf])
   refine sk 17 61 ?_; (try simp only [zqd, zqe, zqf])
   refine sk 18 62 ?_; (try simp only [zqd, zqe, zqf])
   refine sk 19 63 ?_; (try simp only [zqd, zqe, zqf])
   refine sk 20 64 ?_; (try simp only [zqd, zqe, zqf])
   refine sk 21 65 ?_; (try simp only [zqd, zqe, zqf])
   refine sk 22 66 ?_; (try simp only [zqd, zqe, zqf])
   refine tk 23 67 ?_ ?_ ?_; rotate_left; (focus (intro w h; go_simp; (try with_reducible rfl))); (try simp only [zqd, zqe, zqf])
   refine wpAnyH_done (by kernel_rfl) ?_ _
   clear hS0
   go_wp2
   exact bodyPost_ret (v := .tuple #[.int .i64 0, .int .i64 0, .int .i64 0, .string ⟨#[]⟩, .bool false]) (by simp [results, Try.results63, go_sem]) rfl ⟨(Below.refl _ _).drew, by rw [HNo.out]⟩
  have dc4 : decide ((1048576 : Int) < (bl : Int)) = false := decide_eq_false c4
  by_cases c5 : frI 1 (b) ep hh nn = f
  ·have HY : Hid (readL f = some (ep.toNat, hh.toNat, nn.toNat, b)) := hide (by
     rw [HRD.out, if_neg]
     rintro (h | h | h | h | h)
     ·have := HBlm.out; omega
     ·have := HBlm.out; omega
     ·have := HBlm.out; omega
     ·have := HBlm.out; omega
     ·exact h c5)
   have HCmp : Hid ((frI 1 (b) ep hh nn == f) = true) := hide (beq_iff_eq.2 c5)
   have HE1 := hide (Int.toNat_of_nonneg (show 0 ≤ ep by omega))
   have HE2 := hide (Int.toNat_of_nonneg (show 0 ≤ hh by omega))
   have HE3 := hide (Int.toNat_of_nonneg (show 0 ≤ nn by omega))
   have HC5 := hide c5
   clear c5
   refine wp_region_held_drew (S := Kept w) (by kernel_rfl) (Kept.drew w) (fun hS0 => ?_)
   refine tk 0 44 ?_ ?_ ?_; rotate_left; (focus (intro w h; go_simp; (try with_reducible rfl))); (try simp only [zqd, zqe, zqf])
   refine tk 1 45 ?_ ?_ ?_; rotate_left; (focus (intro w h; go_simp; (try with_reducible rfl))); (try simp only [zqd, zqe, zqf])
   refine tk 2 46 ?_ ?_ ?_; rotate_left; (focus (intro w h; go_simp; (try with_reducible rfl))); (try simp only [zqd, zqe, zqf])
   refine tk 3 47 ?_ ?_ ?_; rotate_left; (focus (intro w h; go_simp; (try with_reducible rfl))); (try simp only [zqd, zqe, zqf])
   refine tk 4 48 ?_ ?_ ?_; rotate_left; (focus (intro w h; go_simp; (try with_reducible rfl))); (try simp only [zqd, zqe, zqf])
   refine tk 5 49 ?_ ?_ ?_; rotate_left; (focus (intro w h; go_simp; (try with_reducible rfl))); (try simp only [zqd, zqe, zqf])
   refine tk 6 50 ?_ ?_ ?_; rotate_left; (focus (intro w h; go_simp; (try with_reducible rfl))); (try simp only [zqd, zqe, zqf])
   refine tk 7 51 ?_ ?_ ?_; rotate_left; (focus (intro w h; go_simp; (try with_reducible rfl))); (try simp only [zqd, zqe, zqf])
   refine tk 8 52 ?_ ?_ ?_; rotate_left; (focus (intro w hSw; go_simp; (try rw [HBl.out]); (try with_reducible rfl); done)); (try simp only [zqd, zqe, zqf])
   refine tk 9 53 ?_ ?_ ?_; rotate_left; (focus (intro w h; go_simp; (try with_reducible rfl))); (try simp only [zqd, zqe, zqf])
   refine tk 10 54 ?_ ?_ ?_; rotate_left; (focus (intro w h; go_simp; (try with_reducible rfl))); (try simp only [zqd, zqe, zqf])
   refine tk 11 55 ?_ ?_ ?_; rotate_left; (focus (intro w h; go_simp; (try with_reducible rfl))); (try simp only [zqd, zqe, zqf])
   refine tk 12 56 ?_ ?_ ?_; rotate_left; (focus (intro w h; go_simp; (try with_reducible rfl))); (try simp only [zqd, zqe, zqf])
   refine tk 13 57 ?_ ?_ ?_; rotate_left; (focus (intro w h; go_simp; (try with_reducible rfl))); (try simp only [zqd, zqe, zqf])
   refine tk 14 58 ?_ ?_ ?_; rotate_left; (focus (intro w h; go_simp; (try with_reducible rfl))); (try simp only [zqd, zqe, zqf])
   refine tk 15 59 ?_ ?_ ?_; rotate_left; (focus (intro w h; go_simp; (try with_reducible rfl))); (try simp only [zqd, zqe, zqf])
   refine tk 16 60 ?_ ?_ ?_; rotate_left; (focus (intro w h; go_simp; (try with_reducible rfl))); (try simp only [zqd, zqe, zqf])
   refine tk 17 61 ?_ ?_ ?_; rotate_left; (focus (intro w h; go_simp; (try with_reducible rfl))); (try simp only [zqd, zqe, zqf])
   refine tk 18 62 ?_ ?_ ?_; rotate_left; (focus (intro w h; go_simp; (try with_reducible rfl))); (try simp only [zqd, zqe, zqf])
   refine tk 20 64 ?_ ?_ ?_; rotate_left; (focus (intro w h; go_simp; (try with_reducible rfl))); (try simp only [zqd, zqe, zqf])
   refine tk 21 65 ?_ ?_ ?_; rotate_left; (focus (intro w hSw; have hh := HKf.out w hSw; go_simp; (try with_reducible rfl); done)); (try simp only [zqd, zqe, zqf])
   refine call_at (i := 19) (d := 63) (by simp only [zqa, zqb, zqc]; rfl) rfl (by kernel_rfl) rfl (fun K hK => ?_)
   go_simp
   refine (HFr.out _).mono ?_
   rintro e y1 ⟨rfl, hb1⟩
   have hS1 : Kept w y1 := hS0.below (Nat.le_refl _) hb1
   have HB1 : Hid (Below w.heap.size w y1) := hide ((Below.refl _ _).drew.trans hb1)
   clear hb1
   go_wp2_with fail
   refine hK.out _ _ hS1 (fun hSn => ?_)
   clear hK K
   try simp only [zqd, zqe, zqf]
   refine tk 22 66 ?_ ?_ ?_; rotate_left; (focus (intro w hSw; go_simp; rw [HCmp.out]; (try simp only [Bool.not_true, Bool.not_false]); (try with_reducible rfl); done)); (try simp only [zqd, zqe, zqf])
   refine tk 23 67 ?_ ?_ ?_; rotate_left; (focus (intro w h; go_simp; (try with_reducible rfl))); (try simp only [zqd, zqe, zqf])
   refine wpAnyH_done (by kernel_rfl) ?_ _
   clear hS0 hS1
   go_wp2
   refine bodyPost_ret (v := .tuple #[.int .i64 ep, .int .i64 hh, .int .i64 nn, .string ⟨(b).toArray⟩, .bool true]) (by simp [results, Try.results63, go_sem]) rfl ⟨HB1.out, ?_⟩
   rw [HY.out]
   dsimp only
   rw [HE1.out, HE2.out, HE3.out]
  have HNo : Hid (readL f = none) := hide (by rw [HRD.out, if_pos (.inr (.inr (.inr (.inr c5))))])
  have HCmp : Hid ((frI 1 (b) ep hh nn == f) = false) := hide (beq_eq_false_iff_ne.2 c5)
  have HC5 := hide c5
  clear c5
  refine wp_region_held_drew (S := Kept w) (by kernel_rfl) (Kept.drew w) (fun hS0 => ?_)
  refine tk 0 44 ?_ ?_ ?_; rotate_left; (focus (intro w h; go_simp; (try with_reducible rfl))); (try simp only [zqd, zqe, zqf])
  refine tk 1 45 ?_ ?_ ?_; rotate_left; (focus (intro w h; go_simp; (try with_reducible rfl))); (try simp only [zqd, zqe, zqf])
  refine tk 2 46 ?_ ?_ ?_; rotate_left; (focus (intro w h; go_simp; (try with_reducible rfl))); (try simp only [zqd, zqe, zqf])
  refine tk 3 47 ?_ ?_ ?_; rotate_left; (focus (intro w h; go_simp; (try with_reducible rfl))); (try simp only [zqd, zqe, zqf])
  refine tk 4 48 ?_ ?_ ?_; rotate_left; (focus (intro w h; go_simp; (try with_reducible rfl))); (try simp only [zqd, zqe, zqf])
  refine tk 5 49 ?_ ?_ ?_; rotate_left; (focus (intro w h; go_simp; (try with_reducible rfl))); (try simp only [zqd, zqe, zqf])
  refine tk 6 50 ?_ ?_ ?_; rotate_left; (focus (intro w h; go_simp; (try with_reducible rfl))); (try simp only [zqd, zqe, zqf])
  refine tk 7 51 ?_ ?_ ?_; rotate_left; (focus (intro w h; go_simp; (try with_reducible rfl))); (try simp only [zqd, zqe, zqf])
  refine tk 8 52 ?_ ?_ ?_; rotate_left; (focus (intro w hSw; go_simp; (try rw [HBl.out]); (try with_reducible rfl); done)); (try simp only [zqd, zqe, zqf])
  refine tk 9 53 ?_ ?_ ?_; rotate_left; (focus (intro w h; go_simp; (try with_reducible rfl))); (try simp only [zqd, zqe, zqf])
  refine tk 10 54 ?_ ?_ ?_; rotate_left; (focus (intro w h; go_simp; (try with_reducible rfl))); (try simp only [zqd, zqe, zqf])
  refine tk 11 55 ?_ ?_ ?_; rotate_left; (focus (intro w h; go_simp; (try with_reducible rfl))); (try simp only [zqd, zqe, zqf])
  refine tk 12 56 ?_ ?_ ?_; rotate_left; (focus (intro w h; go_simp; (try with_reducible rfl))); (try simp only [zqd, zqe, zqf])
  refine tk 13 57 ?_ ?_ ?_; rotate_left; (focus (intro w h; go_simp; (try with_reducible rfl))); (try simp only [zqd, zqe, zqf])
  refine tk 14 58 ?_ ?_ ?_; rotate_left; (focus (intro w h; go_simp; (try with_reducible rfl))); (try simp only [zqd, zqe, zqf])
  refine tk 15 59 ?_ ?_ ?_; rotate_left; (focus (intro w h; go_simp; (try with_reducible rfl))); (try simp only [zqd, zqe, zqf])
  refine tk 16 60 ?_ ?_ ?_; rotate_left; (focus (intro w h; go_simp; (try with_reducible rfl))); (try simp only [zqd, zqe, zqf])
  refine tk 17 61 ?_ ?_ ?_; rotate_left; (focus (intro w h; go_simp; (try with_reducible rfl))); (try simp only [zqd, zqe, zqf])
  refine tk 18 62 ?_ ?_ ?_; rotate_left; (focus (intro w h; go_simp; (try with_reducible rfl))); (try simp only [zqd, zqe, zqf])
  refine tk 20 64 ?_ ?_ ?_; rotate_left; (focus (intro w h; go_simp; (try with_reducible rfl))); (try simp only [zqd, zqe, zqf])
  refine tk 21 65 ?_ ?_ ?_; rotate_left; (focus (intro w hSw; have hh := HKf.out w hSw; go_simp; (try with_reducible rfl); done)); (try simp only [zqd, zqe, zqf])
  refine call_at (i := 19) (d := 63) (by simp only [zqa, zqb, zqc]; rfl) rfl (by kernel_rfl) rfl (fun K hK => ?_)
  go_simp
  refine (HFr.out _).mono ?_
  rintro e y1 ⟨rfl, hb1⟩
  have hS1 : Kept w y1 := hS0.below (Nat.le_refl _) hb1
  have HB1 : Hid (Below w.heap.size w y1) := hide ((Below.refl _ _).drew.trans hb1)
  clear hb1
  go_wp2_with fail
  refine hK.out _ _ hS1 (fun hSn => ?_)
  clear hK K
  try simp only [zqd, zqe, zqf]
  refine tk 22 66 ?_ ?_ ?_; rotate_left; (focus (intro w hSw; go_simp; rw [HCmp.out]; (try simp only [Bool.not_true, Bool.not_false]); (try with_reducible rfl); done)); (try simp only [zqd, zqe, zqf])
  refine tk 23 67 ?_ ?_ ?_; rotate_left; (focus (intro w h; go_simp; (try with_reducible rfl))); (try simp only [zqd, zqe, zqf])
  refine wpAnyH_done (by kernel_rfl) ?_ _
  clear hS0 hS1
  go_wp2
  exact bodyPost_ret (v := .tuple #[.int .i64 0, .int .i64 0, .int .i64 0, .string ⟨#[]⟩, .bool false]) (by simp [results, Try.results63, go_sem]) rfl ⟨HB1.out, by rw [HNo.out]⟩
 by_cases t2 : tg = 2
 ·have n1 := rnumber_any w (some ⟨g, off, none⟩) f c 1 HR.out (by rw [HM.out]; exact hc) hc2 (by decide)
  rw [HM.out, show ((1 : Nat) : Int) = 1 from rfl] at n1
  have epb := numI_bd f 1
  obtain ⟨ep, hep⟩ : ∃ z, numI f 1 = z := ⟨_, rfl⟩
  rw [hep] at n1 epb
  have HN1 := hide n1
  have Hep := hide hep
  clear n1
  have n9 := rnumber_any w (some ⟨g, off, none⟩) f c 9 HR.out (by rw [HM.out]; exact hc) hc2 (by decide)
  rw [HM.out, show ((9 : Nat) : Int) = 9 from rfl] at n9
  have hhb := numI_bd f 9
  obtain ⟨hh, hhh⟩ : ∃ z, numI f 9 = z := ⟨_, rfl⟩
  rw [hhh] at n9 hhb
  have HN9 := hide n9
  have Hhh := hide hhh
  clear n9
  have HRD : Hid (readL f = if ep < 0 ∨ hh < 0 ∨ frI 2 [] ep hh 0 ≠ f then none else some (ep.toNat, hh.toNat, 0, [])) := hide (by have h := rd_two (f := f) (by rw [HM.out]; omega) (by rw [HTg.out, t2]); rw [hep, hhh] at h; exact h)
  have HTt := hide t2
  subst t2
  clear hep hhh t1
  go_enter Try.func63, Try.ntmps63
  go_wp2_with fail
  refine HN1.out.mono ?_
  rintro e w1 ⟨rfl, hw⟩
  obtain rfl : w = w1 := hw.symm
  go_wp2_with fail
  refine HN9.out.mono ?_
  rintro e w2 ⟨rfl, hw⟩
  obtain rfl : w = w2 := hw.symm
  clear hw
  go_upto_region 10 with fail
  have hfr : ∀ z : World, Calls Try.prog 27 #[.int .u8 2, .int .i64 ep, .int .i64 hh, .int .i64 0, .string ⟨([]).toArray⟩] z fun e w' => e = .returned (.string ⟨(frI 2 ([]) ep hh 0).toArray⟩) ∧ Below z.heap.size z w' := fun z => rframe_any z 2 (by decide) ep hh 0 (by omega) (by omega) (by omega) (by omega) (by omega) (by omega) ([]) (by simp)
  have HFr := hide hfr
  clear hfr
  have HKf : Hid (∀ z : World, Kept w z → (convert 23 9 (.slice (some ⟨g, off, none⟩) m c)).run Try.prog z = .ok (.string ⟨f.toArray⟩) z) := hide (fun z hz => by have h := run_string_of (P := Try.prog) z 23 9 5 (some ⟨g, off, none⟩) c _ f Try.underlying23 Try.underlying5 Try.underlying9 (HR.out.keep fun p hp => hz p hp); rw [HM.out] at h; exact h)
  by_cases c2 : ep < 0
  ·have dc2 : decide (ep < 0) = true := decide_eq_true c2
   have HNo : Hid (readL f = none) := hide (by rw [HRD.out, if_pos (.inl c2)])
   refine wp_region_held_drew (S := Kept w) (by kernel_rfl) (Kept.drew w) (fun hS0 => ?_)
   refine tk 0 44 ?_ ?_ ?_; rotate_left; (focus (intro w h; go_simp; (try with_reducible rfl))); (try simp only [zqd, zqe, zqf])
   refine tk 1 45 ?_ ?_ ?_; rotate_left; (focus (intro w h; go_simp; (try with_reducible rfl))); (try simp only [zqd, zqe, zqf])
   refine tk 2 46 ?_ ?_ ?_; rotate_left; (focus (intro w h; go_simp; (try with_reducible rfl))); (try simp only [zqd, zqe, zqf])
   refine sk 3 47 ?_; (try simp only [zqd, zqe, zqf])
   refine sk 4 48 ?_; (try simp only [zqd, zqe, zqf])
   refine tk 5 49 ?_ ?_ ?_; rotate_left; (focus (intro w h; go_simp; (try with_reducible rfl))); (try simp only [zqd, zqe, zqf])
   refine tk 6 50 ?_ ?_ ?_; rotate_left; (focus (intro w h; go_simp; (try with_reducible rfl))); (try simp only [zqd, zqe, zqf])
   refine sk 7 51 ?_; (try simp only [zqd, zqe, zqf])
   refine sk 8 52 ?_; (try simp only [zqd, zqe, zqf])
   refine sk 9 53 ?_; (try simp only [zqd, zqe, zqf])
   refine tk 10 54 ?_ ?_ ?_; rotate_left; (focus (intro w h; go_simp; (try with_reducible rfl))); (try simp only [zqd, zqe, zqf])
   refine tk 11 55 ?_ ?_ ?_; rotate_left; (focus (intro w h; go_simp; (try with_reducible rfl))); (try simp only [zqd, zqe, zqf])
   refine sk 12 56 ?_; (try simp only [zqd, zqe, zqf])
   refine sk 13 57 ?_; (try simp only [zqd, zqe, zqf])
   refine sk 14 58 ?_; (try simp only [zqd, zqe, zqf])
   refine sk 15 59 ?_; (try simp only [zqd, zqe, zqf])
   refine sk 16 60 ?_; (try simp only [zqd, zqe, zqf])
   refine sk 17 61 ?_; (try simp only [zqd, zqe, zqf])
   refine sk 18 62 ?_; (try simp only [zqd, zqe, zqf])
   refine sk 19 63 ?_; (try simp only [zqd, zqe, zqf])
   refine sk 20 64 ?_; (try simp only [zqd, zqe, zqf])
   refine sk 21 65 ?_; (try simp only [zqd, zqe, zqf])
   refine sk 22 66 ?_; (try simp only [zqd, zqe, zqf])
   refine tk 23 67 ?_ ?_ ?_; rotate_left; (focus (intro w h; go_simp; (try with_reducible rfl))); (try simp only [zqd, zqe, zqf])
   refine wpAnyH_done (by kernel_rfl) ?_ _
   clear hS0
   go_wp2
   exact bodyPost_ret (v := .tuple #[.int .i64 0, .int .i64 0, .int .i64 0, .string ⟨#[]⟩, .bool false]) (by simp [results, Try.results63, go_sem]) rfl ⟨(Below.refl _ _).drew, by rw [HNo.out]⟩
  have dc2 : decide (ep < 0) = false := decide_eq_false c2
  by_cases c3 : hh < 0
  ·have dc3 : decide (hh < 0) = true := decide_eq_true c3
   have HNo : Hid (readL f = none) := hide (by rw [HRD.out, if_pos (.inr (.inl c3))])
   refine wp_region_held_drew (S := Kept w) (by kernel_rfl) (Kept.drew w) (fun hS0 => ?_)
   refine tk 0 44 ?_ ?_ ?_; rotate_left; (focus (intro w h; go_simp; (try with_reducible rfl))); (try simp only [zqd, zqe, zqf])
   refine tk 1 45 ?_ ?_ ?_; rotate_left; (focus (intro w h; go_simp; (try with_reducible rfl))); (try simp only [zqd, zqe, zqf])
   refine tk 2 46 ?_ ?_ ?_; rotate_left; (focus (intro w h; go_simp; (try with_reducible rfl))); (try simp only [zqd, zqe, zqf])
   refine tk 3 47 ?_ ?_ ?_; rotate_left; (focus (intro w h; go_simp; (try with_reducible rfl))); (try simp only [zqd, zqe, zqf])
   refine tk 4 48 ?_ ?_ ?_; rotate_left; (focus (intro w h; go_simp; (try with_reducible rfl))); (try simp only [zqd, zqe, zqf])
   refine tk 5 49 ?_ ?_ ?_; rotate_left; (focus (intro w h; go_simp; (try with_reducible rfl))); (try simp only [zqd, zqe, zqf])
   refine tk 6 50 ?_ ?_ ?_; rotate_left; (focus (intro w h; go_simp; (try with_reducible rfl))); (try simp only [zqd, zqe, zqf])
   refine sk 7 51 ?_; (try simp only [zqd, zqe, zqf])
   refine sk 8 52 ?_; (try simp only [zqd, zqe, zqf])
   refine sk 9 53 ?_; (try simp only [zqd, zqe, zqf])
   refine tk 10 54 ?_ ?_ ?_; rotate_left; (focus (intro w h; go_simp; (try with_reducible rfl))); (try simp only [zqd, zqe, zqf])
   refine tk 11 55 ?_ ?_ ?_; rotate_left; (focus (intro w h; go_simp; (try with_reducible rfl))); (try simp only [zqd, zqe, zqf])
   refine sk 12 56 ?_; (try simp only [zqd, zqe, zqf])
   refine sk 13 57 ?_; (try simp only [zqd, zqe, zqf])
   refine sk 14 58 ?_; (try simp only [zqd, zqe, zqf])
   refine sk 15 59 ?_; (try simp only [zqd, zqe, zqf])
   refine sk 16 60 ?_; (try simp only [zqd, zqe, zqf])
   refine sk 17 61 ?_; (try simp only [zqd, zqe, zqf])
   refine sk 18 62 ?_; (try simp only [zqd, zqe, zqf])
   refine sk 19 63 ?_; (try simp only [zqd, zqe, zqf])
   refine sk 20 64 ?_; (try simp only [zqd, zqe, zqf])
   refine sk 21 65 ?_; (try simp only [zqd, zqe, zqf])
   refine sk 22 66 ?_; (try simp only [zqd, zqe, zqf])
   refine tk 23 67 ?_ ?_ ?_; rotate_left; (focus (intro w h; go_simp; (try with_reducible rfl))); (try simp only [zqd, zqe, zqf])
   refine wpAnyH_done (by kernel_rfl) ?_ _
   clear hS0
   go_wp2
   exact bodyPost_ret (v := .tuple #[.int .i64 0, .int .i64 0, .int .i64 0, .string ⟨#[]⟩, .bool false]) (by simp [results, Try.results63, go_sem]) rfl ⟨(Below.refl _ _).drew, by rw [HNo.out]⟩
  have dc3 : decide (hh < 0) = false := decide_eq_false c3
  by_cases c5 : frI 2 ([]) ep hh 0 = f
  ·have HY : Hid (readL f = some (ep.toNat, hh.toNat, 0, [])) := hide (by
     rw [HRD.out, if_neg]
     rintro (h | h | h)
     ·omega
     ·omega
     ·exact h c5)
   have HCmp : Hid ((frI 2 ([]) ep hh 0 == f) = true) := hide (beq_iff_eq.2 c5)
   have HE1 := hide (Int.toNat_of_nonneg (show 0 ≤ ep by omega))
   have HE2 := hide (Int.toNat_of_nonneg (show 0 ≤ hh by omega))
   have HC5 := hide c5
   clear c5
   refine wp_region_held_drew (S := Kept w) (by kernel_rfl) (Kept.drew w) (fun hS0 => ?_)
   refine tk 0 44 ?_ ?_ ?_; rotate_left; (focus (intro w h; go_simp; (try with_reducible rfl))); (try simp only [zqd, zqe, zqf])
   refine tk 1 45 ?_ ?_ ?_; rotate_left; (focus (intro w h; go_simp; (try with_reducible rfl))); (try simp only [zqd, zqe, zqf])
   refine tk 2 46 ?_ ?_ ?_; rotate_left; (focus (intro w h; go_simp; (try with_reducible rfl))); (try simp only [zqd, zqe, zqf])
   refine tk 3 47 ?_ ?_ ?_; rotate_left; (focus (intro w h; go_simp; (try with_reducible rfl))); (try simp only [zqd, zqe, zqf])
   refine tk 4 48 ?_ ?_ ?_; rotate_left; (focus (intro w h; go_simp; (try with_reducible rfl))); (try simp only [zqd, zqe, zqf])
   refine tk 5 49 ?_ ?_ ?_; rotate_left; (focus (intro w h; go_simp; (try with_reducible rfl))); (try simp only [zqd, zqe, zqf])
   refine tk 6 50 ?_ ?_ ?_; rotate_left; (focus (intro w h; go_simp; (try with_reducible rfl))); (try simp only [zqd, zqe, zqf])
   refine tk 7 51 ?_ ?_ ?_; rotate_left; (focus (intro w h; go_simp; (try with_reducible rfl))); (try simp only [zqd, zqe, zqf])
   refine tk 8 52 ?_ ?_ ?_; rotate_left; (focus (intro w hSw; go_simp; (try rw [HBl.out]); (try with_reducible rfl); done)); (try simp only [zqd, zqe, zqf])
   refine tk 9 53 ?_ ?_ ?_; rotate_left; (focus (intro w h; go_simp; (try with_reducible rfl))); (try simp only [zqd, zqe, zqf])
   refine tk 10 54 ?_ ?_ ?_; rotate_left; (focus (intro w h; go_simp; (try with_reducible rfl))); (try simp only [zqd, zqe, zqf])
   refine tk 11 55 ?_ ?_ ?_; rotate_left; (focus (intro w h; go_simp; (try with_reducible rfl))); (try simp only [zqd, zqe, zqf])
   refine tk 12 56 ?_ ?_ ?_; rotate_left; (focus (intro w h; go_simp; (try with_reducible rfl))); (try simp only [zqd, zqe, zqf])
   refine tk 13 57 ?_ ?_ ?_; rotate_left; (focus (intro w h; go_simp; (try with_reducible rfl))); (try simp only [zqd, zqe, zqf])
   refine tk 14 58 ?_ ?_ ?_; rotate_left; (focus (intro w h; go_simp; (try with_reducible rfl))); (try simp only [zqd, zqe, zqf])
   refine tk 15 59 ?_ ?_ ?_; rotate_left; (focus (intro w h; go_simp; (try with_reducible rfl))); (try simp only [zqd, zqe, zqf])
   refine tk 16 60 ?_ ?_ ?_; rotate_left; (focus (intro w h; go_simp; (try with_reducible rfl))); (try simp only [zqd, zqe, zqf])
   refine tk 17 61 ?_ ?_ ?_; rotate_left; (focus (intro w h; go_simp; (try with_reducible rfl))); (try simp only [zqd, zqe, zqf])
   refine tk 18 62 ?_ ?_ ?_; rotate_left; (focus (intro w h; go_simp; (try with_reducible rfl))); (try simp only [zqd, zqe, zqf])
   refine tk 20 64 ?_ ?_ ?_; rotate_left; (focus (intro w h; go_simp; (try with_reducible rfl))); (try simp only [zqd, zqe, zqf])
   refine tk 21 65 ?_ ?_ ?_; rotate_left; (focus (intro w hSw; have hh := HKf.out w hSw; go_simp; (try with_reducible rfl); done)); (try simp only [zqd, zqe, zqf])
   refine call_at (i := 19) (d := 63) (by simp only [zqa, zqb, zqc]; rfl) rfl (by kernel_rfl) rfl (fun K hK => ?_)
   go_simp
   refine (HFr.out _).mono ?_
   rintro e y1 ⟨rfl, hb1⟩
   have hS1 : Kept w y1 := hS0.below (Nat.le_refl _) hb1
   have HB1 : Hid (Below w.heap.size w y1) := hide ((Below.refl _ _).drew.trans hb1)
   clear hb1
   go_wp2_with fail
   refine hK.out _ _ hS1 (fun hSn => ?_)
   clear hK K
   try simp only [zqd, zqe, zqf]
   refine tk 22 66 ?_ ?_ ?_; rotate_left; (focus (intro w hSw; go_simp; rw [HCmp.out]; (try simp only [Bool.not_true, Bool.not_false]); (try with_reducible rfl); done)); (try simp only [zqd, zqe, zqf])
   refine tk 23 67 ?_ ?_ ?_; rotate_left; (focus (intro w h; go_simp; (try with_reducible rfl))); (try simp only [zqd, zqe, zqf])
   refine wpAnyH_done (by kernel_rfl) ?_ _
   clear hS0 hS1
   go_wp2
   refine bodyPost_ret (v := .tuple #[.int .i64 ep, .int .i64 hh, .int .i64 0, .string ⟨([]).toArray⟩, .bool true]) (by simp [results, Try.results63, go_sem]) rfl ⟨HB1.out, ?_⟩
   rw [HY.out]
   dsimp only
   rw [HE1.out, HE2.out]
   rfl
  have HNo : Hid (readL f = none) := hide (by rw [HRD.out, if_pos (.inr (.inr c5))])
  have HCmp : Hid ((frI 2 ([]) ep hh 0 == f) = false) := hide (beq_eq_false_iff_ne.2 c5)
  have HC5 := hide c5
  clear c5
  refine wp_region_held_drew (S := Kept w) (by kernel_rfl) (Kept.drew w) (fun hS0 => ?_)
  refine tk 0 44 ?_ ?_ ?_; rotate_left; (focus (intro w h; go_simp; (try with_reducible rfl))); (try simp only [zqd, zqe, zqf])
  refine tk 1 45 ?_ ?_ ?_; rotate_left; (focus (intro w h; go_simp; (try with_reducible rfl))); (try simp only [zqd, zqe, zqf])
  refine tk 2 46 ?_ ?_ ?_; rotate_left; (focus (intro w h; go_simp; (try with_reducible rfl))); (try simp only [zqd, zqe, zqf])
  refine tk 3 47 ?_ ?_ ?_; rotate_left; (focus (intro w h; go_simp; (try with_reducible rfl))); (try simp only [zqd, zqe, zqf])
  refine tk 4 48 ?_ ?_ ?_; rotate_left; (focus (intro w h; go_simp; (try with_reducible rfl))); (try simp only [zqd, zqe, zqf])
  refine tk 5 49 ?_ ?_ ?_; rotate_left; (focus (intro w h; go_simp; (try with_reducible rfl))); (try simp only [zqd, zqe, zqf])
  refine tk 6 50 ?_ ?_ ?_; rotate_left; (focus (intro w h; go_simp; (try with_reducible rfl))); (try simp only [zqd, zqe, zqf])
  refine tk 7 51 ?_ ?_ ?_; rotate_left; (focus (intro w h; go_simp; (try with_reducible rfl))); (try simp only [zqd, zqe, zqf])
  refine tk 8 52 ?_ ?_ ?_; rotate_left; (focus (intro w hSw; go_simp; (try rw [HBl.out]); (try with_reducible rfl); done)); (try simp only [zqd, zqe, zqf])
  refine tk 9 53 ?_ ?_ ?_; rotate_left; (focus (intro w h; go_simp; (try with_reducible rfl))); (try simp only [zqd, zqe, zqf])
  refine tk 10 54 ?_ ?_ ?_; rotate_left; (focus (intro w h; go_simp; (try with_reducible rfl))); (try simp only [zqd, zqe, zqf])
  refine tk 11 55 ?_ ?_ ?_; rotate_left; (focus (intro w h; go_simp; (try with_reducible rfl))); (try simp only [zqd, zqe, zqf])
  refine tk 12 56 ?_ ?_ ?_; rotate_left; (focus (intro w h; go_simp; (try with_reducible rfl))); (try simp only [zqd, zqe, zqf])
  refine tk 13 57 ?_ ?_ ?_; rotate_left; (focus (intro w h; go_simp; (try with_reducible rfl))); (try simp only [zqd, zqe, zqf])
  refine tk 14 58 ?_ ?_ ?_; rotate_left; (focus (intro w h; go_simp; (try with_reducible rfl))); (try simp only [zqd, zqe, zqf])
  refine tk 15 59 ?_ ?_ ?_; rotate_left; (focus (intro w h; go_simp; (try with_reducible rfl))); (try simp only [zqd, zqe, zqf])
  refine tk 16 60 ?_ ?_ ?_; rotate_left; (focus (intro w h; go_simp; (try with_reducible rfl))); (try simp only [zqd, zqe, zqf])
  refine tk 17 61 ?_ ?_ ?_; rotate_left; (focus (intro w h; go_simp; (try with_reducible rfl))); (try simp only [zqd, zqe, zqf])
  refine tk 18 62 ?_ ?_ ?_; rotate_left; (focus (intro w h; go_simp; (try with_reducible rfl))); (try simp only [zqd, zqe, zqf])
  refine tk 20 64 ?_ ?_ ?_; rotate_left; (focus (intro w h; go_simp; (try with_reducible rfl))); (try simp only [zqd, zqe, zqf])
  refine tk 21 65 ?_ ?_ ?_; rotate_left; (focus (intro w hSw; have hh := HKf.out w hSw; go_simp; (try with_reducible rfl); done)); (try simp only [zqd, zqe, zqf])
  refine call_at (i := 19) (d := 63) (by simp only [zqa, zqb, zqc]; rfl) rfl (by kernel_rfl) rfl (fun K hK => ?_)
  go_simp
  refine (HFr.out _).mono ?_
  rintro e y1 ⟨rfl, hb1⟩
  have hS1 : Kept w y1 := hS0.below (Nat.le_refl _) hb1
  have HB1 : Hid (Below w.heap.size w y1) := hide ((Below.refl _ _).drew.trans hb1)
  clear hb1
  go_wp2_with fail
  refine hK.out _ _ hS1 (fun hSn => ?_)
  clear hK K
  try simp only [zqd, zqe, zqf]
  refine tk 22 66 ?_ ?_ ?_; rotate_left; (focus (intro w hSw; go_simp; rw [HCmp.out]; (try simp only [Bool.not_true, Bool.not_false]); (try with_reducible rfl); done)); (try simp only [zqd, zqe, zqf])
  refine tk 23 67 ?_ ?_ ?_; rotate_left; (focus (intro w h; go_simp; (try with_reducible rfl))); (try simp only [zqd, zqe, zqf])
  refine wpAnyH_done (by kernel_rfl) ?_ _
  clear hS0 hS1
  go_wp2
  exact bodyPost_ret (v := .tuple #[.int .i64 0, .int .i64 0, .int .i64 0, .string ⟨#[]⟩, .bool false]) (by simp [results, Try.results63, go_sem]) rfl ⟨HB1.out, by rw [HNo.out]⟩
 have HNo : Hid (readL f = none) := hide (rd_none (by rw [HTg.out]; exact t1) (by rw [HTg.out]; exact t2))
 have k1 : ¬ (tg : Int) = 1 := by omega
 have k2 : ¬ (tg : Int) = 2 := by omega
 have k3 : ((tg : Int) == 1) = false := by simp; omega
 have k4 : ((tg : Int) == 2) = false := by simp; omega
 have k5 : ((tg : Int) != 1) = true := by simp; omega
 have k6 : ((tg : Int) != 2) = true := by simp; omega
 have k7 : ¬ tg = 1 := t1
 have k8 : ¬ tg = 2 := t2
 go_enter Try.func63, Try.ntmps63
 go_wp2
 exact bodyPost_ret (v := .tuple #[.int .i64 0, .int .i64 0, .int .i64 0, .string ⟨#[]⟩, .bool false]) (by simp [results, Try.results63, go_sem]) rfl ⟨Below.refl _ _, by rw [HNo.out]⟩
end Go.Proofs.Ytigmmikijjcdiaa
namespace Go.Proofs.Ytigmmikijjcdiaa
open Go.RowKit
def TRow (w : World) (G : Option Nat) (v : Value) (vs : List Value) : Prop :=
 ∃ A c, v = .slice A vs.length c ∧ vs.length ≤ c ∧ c ≤ maxLen ∧ (∀ u ∈ vs, u.oneCell' = true) ∧ (∀ g, G = some g → ∃ cur, w.heap[g]? = some (.cells cur 9 (0, 0))) ∧
  (0 < c → ∃ g off cur, G = some g ∧ A = some ⟨g, off, none⟩ ∧ w.heap[g]? = some (.cells cur 9 (0, 0)) ∧ off + c ≤ cur.size ∧ ∀ j u, vs[j]? = some u → cur[off + j]? = some u)
theorem TRow.nil (w : World) : TRow w none (.slice none 0 0) [] := ⟨none, 0, rfl, Nat.le_refl _, by decide, (fun _ h => by simp at h), (fun _ h => by cases h), fun h => by omega⟩
theorem TRow.blk {w : World} {G : Option Nat} {v : Value} {vs : List Value} (h : TRow w G v vs) : ∀ g, G = some g → ∃ cur, w.heap[g]? = some (.cells cur 9 (0, 0)) := by
 obtain ⟨A, c, h1, h2, h3, h4, hg, h5⟩ := h
 exact hg
theorem TRow.keep {w w' : World} {G : Option Nat} {v : Value} {vs : List Value} (h : TRow w G v vs) (hk : ∀ g, G = some g → g < w.heap.size → w'.heap[g]? = w.heap[g]?) : TRow w' G v vs := by
 obtain ⟨A, c, h1, h2, h3, h4, hg, h5⟩ := h
 refine ⟨A, c, h1, h2, h3, h4, fun g e => by obtain ⟨cur, h⟩ := hg g e; exact ⟨cur, (hk g e (lt_of_block h)).trans h⟩, fun hc => ?_⟩
 obtain ⟨g, off, cur, e1, e2, e3, e4, e5⟩ := h5 hc
 exact ⟨g, off, cur, e1, e2, (hk g e1 (lt_of_block e3)).trans e3, e4, e5⟩
theorem TRow.at_ {w : World} {G : Option Nat} {A : Option Addr} {n c : Nat} {vs : List Value} (h : TRow w G (.slice A n c) vs) {i : Nat} {u : Value} (hi : vs[i]? = some u) : ∃ g off, A = some ⟨g, off, none⟩ ∧ n = vs.length ∧ g < w.heap.size ∧ G = some g ∧ w.cell? ⟨g, off + i, none⟩ = some u := by
 obtain ⟨A', c', h1, h2, h3, h4, hg, h5⟩ := h
 injection h1 with e1 e2 e3
 have hl := (List.getElem?_eq_some_iff.1 hi).1
 obtain ⟨g, off, cur, f1, f2, f3, f4, f5⟩ := h5 (by omega)
 exact ⟨g, off, e1.trans f2, e2, lt_of_block f3, f1, (cell_of_row w g _ cur _ _ f3).trans (f5 i u hi)⟩
theorem TRow.drop {w : World} {G : Option Nat} {A : Option Addr} {n c : Nat} {vs : List Value} (h : TRow w G (.slice A n c) vs) {k : Nat} (hk : k ≤ vs.length) (A' : Option Addr) (hA : k < c → ∀ g off, A = some ⟨g, off, none⟩ → A' = some ⟨g, off + k, none⟩) : TRow w G (.slice A' (n - k) (c - k)) (vs.drop k) := by
 obtain ⟨B, c', h1, h2, h3, h4, hg, h5⟩ := h
 injection h1 with e1 e2 e3
 subst e3
 refine ⟨A', c - k, by rw [List.length_drop, e2], by rw [List.length_drop]; omega, by omega, fun u hu => h4 u (List.mem_of_mem_drop hu), hg, fun hc => ?_⟩
 obtain ⟨g, off, cur, f1, f2, f3, f4, f5⟩ := h5 (by omega)
 refine ⟨g, off + k, cur, f1, hA (by omega) g off (e1.trans f2), f3, by omega, fun j u hu => ?_⟩
 rw [List.getElem?_drop] at hu
 have := f5 _ _ hu
 rwa [show off + k + j = off + (k + j) by omega]
section
variable {P : Program} {w : World}
theorem op_trow {o : Oper} {a : Act} {K : Act → World → Prop} {Q : Exit → Act → World → Prop} (s x : Operand) (t : TypeId)
  (ho : o.op = .call { callee := .builtin .append, args := #[s, x], argTypes := #[t, t] })
  (i : TypeInfo) (z : Value) (ht : P.underlying t = some (.slice 9)) (hi : P.info? 9 = some i) (hz : i.zero = some z)
  (hsize : i.size = 1) (hby : i.bytes = 16) (hzs : z.cells.size = 1)
  (v : Value) (G : Option Nat) (vs : List Value) (hs : a.eval s = v) (h : TRow w G v vs)
  (ad : Addr) (c : Nat) (u : Value) (hx : a.eval x = .slice (some ad) 1 c) (hu : w.cell? ad = some u) (h1 : u.oneCell' = true) (hn : vs.length < 1000000)
  (hK : ∀ v' w' G', TRow w' G' v' (vs ++ [u]) → KB G.toList w w' → (G' = G ∨ ∃ g, G' = some g ∧ w.heap.size ≤ g) → K (a.put o.dst v') w') : Oper.wp P o a w K Q := by
 obtain ⟨A, cap, rfl, h2, h3, h4, hgb, h5⟩ := h
 have hads : ∀ j u', [u][j]? = some u' → w.cell? (ad.add j) = some u' := fun j u' hj => by
  rcases j with _ | j
  ·simp at hj; subst hj; rw [Addr.add_zero']; exact hu
  ·simp at hj
 have h1c : ∀ y ∈ [u], y.oneCell' = true := fun y hy => by simp at hy; subst hy; exact h1
 have hall : ∀ y ∈ vs ++ [u], y.oneCell' = true := fun y hy => by
  rcases List.mem_append.1 hy with hy | hy
  ·exact h4 y hy
  ·exact h1c y hy
 have own2 : ∀ v' w', w'.ownsRow w.heap.size 9 1 v' (vs.length + 1) (vs ++ [u]) → w.grownBy w' none → K (a.put o.dst v') w' := fun v' w' r1 r2 => by
  obtain ⟨r3, r4⟩ := r1
  rcases r4 with ⟨_, h0⟩ | ⟨g, cap', cur, e1, e2, e3, e4, e5, e6, e7⟩
  ·omega
  ·refine hK v' w' (some g) ⟨some ⟨g, 0, none⟩, cap', by rw [e1]; simp, by simpa using e4, e5, hall, fun g' hg' => by injection hg' with hg'; subst hg'; exact ⟨cur, e3⟩, fun _ => ⟨g, 0, cur, rfl, rfl, e3, by omega, fun j y hj => ?_⟩⟩ ⟨r2.size, fun b hb _ => r2.block b hb (by simp), Env.of_grown r2⟩ (.inr ⟨g, rfl, e2⟩)
   rw [← e7, List.getElem?_take] at hj
   split at hj
   ·rw [Nat.zero_add]
    simpa using hj
   ·cases hj
 have hmx : vs.length + 1 ≤ maxLen := by unfold maxLen; omega
 have hby2 : (vs.length + 1) * 16 ≤ 140737488355328 := by omega
 have hrun : ∀ v' w', (Builtin.append_ #[t, t] o.type #[.slice A vs.length cap, .slice (some ad) 1 c]).run P w = .ok v' w' → K (a.put o.dst v') w' → Oper.wp P o a w K Q := fun v' w' hr hk => by
  unfold Oper.wp execOp
  simp only [ho, resolve, invoke, builtin, Sem.run_bind, Sem.run_pure, Result.andThen_ok, List.map_toArray, List.map_cons, List.map_nil, hs, hx, hr]
  exact hk
 rcases A with _ | b
 ·have hc0 : cap = 0 := by
   rcases Nat.eq_zero_or_pos cap with h0 | h0
   ·exact h0
   ·obtain ⟨g, off, cur, _, e2, _⟩ := h5 h0
    cases e2
  subst hc0
  obtain rfl : vs = [] := List.eq_nil_of_length_eq_zero (by omega)
  obtain ⟨v', w', hr, r1, r2, _⟩ := run_append_own (P := P) w w.heap.size t o.type 9 i z 1 16 ht hi hz hsize hby hzs (by omega) (.slice none 0 0) 0 [] (World.ownsRow_nil w _ _ 1) ad 1 c [u] rfl hads h1c hmx hby2 (Nat.le_refl _)
  exact hrun v' w' hr (own2 v' w' r1 r2)
 ·rcases Nat.lt_or_ge vs.length cap with hr | hr
  ·obtain ⟨g, off, cur, e1, e2, e3, e4, e5⟩ := h5 (by omega)
   injection e2 with e2
   subst e2
   have hcell : ∀ j, j < 1 → (w.cell? ⟨g, off + vs.length * i.size + j, none⟩).isSome = true := fun j hj => by
    rw [cell_of_row w g _ cur _ _ e3, hsize, Array.getElem?_eq_getElem (by omega)]
    rfl
   have hsame : (w.setCells g (off + vs.length * i.size) [u]).heap[g]? = some (.cells (cur.setIfInBounds (off + vs.length) u) 9 (0, 0)) := by
     rw [hsize, Nat.mul_one]
     show (w.setCell ⟨g, off + vs.length, none⟩ u).heap[g]? = _
     simp only [World.setCell, Array.getElem?_modify]
     rw [if_pos trivial, e3]
     rfl
   have hrn := run_append_room_cells (P := P) w t o.type 9 i ht hi g off vs.length cap ad 1 c [u] (by rw [hsize]; rfl) hads h1c (by omega) (fun j hj => hcell j hj) (fun j hj => frozen_of_row w g _ cur _ e3)
   refine hrun _ _ hrn (hK _ _ (some g) ⟨some ⟨g, off, none⟩, cap, by rw [List.length_append]; rfl, by rw [List.length_append]; exact hr, h3, hall, fun g' hg' => by injection hg' with hg'; subst hg'; exact ⟨_, hsame⟩, fun _ => ⟨g, off, cur.setIfInBounds (off + vs.length) u, rfl, rfl, hsame, by rw [Array.size_setIfInBounds]; exact e4, fun j y hj => ?_⟩⟩ ?_ (.inl e1.symm))
   ·rw [Array.getElem?_setIfInBounds]
    by_cases hj2 : j = vs.length
    ·subst hj2
     rw [if_pos rfl, if_pos (by omega)]
     simpa using hj
    ·rw [if_neg (by omega)]
     refine e5 j y ?_
     rcases Nat.lt_or_ge j vs.length with hl | hl
     ·rwa [List.getElem?_append_left hl] at hj
     ·rw [List.getElem?_eq_none (by rw [List.length_append]; simp; omega)] at hj
      cases hj
   ·rw [hsize, Nat.mul_one]
    show KB G.toList w (w.setCell ⟨g, off + vs.length, none⟩ u)
    exact (KB.refl _ _).setCell (.inr (by rw [e1]; simp)) u
  ·have holds : ∀ j y, vs[j]? = some y → w.cell? (b.add j) = some y := fun j y hj => by
    have hl := (List.getElem?_eq_some_iff.1 hj).1
    obtain ⟨g, off, cur, e1, e2, e3, e4, e5⟩ := h5 (by omega)
    injection e2 with e2
    subst e2
    rw [Addr.add_lit, cell_of_row w g _ cur _ _ e3]
    exact e5 j y hj
   obtain ⟨v', w', hr2, r1, r2⟩ := run_append_arg_grows (P := P) w t o.type 9 i z 1 16 ht hi hz hsize hby hzs (by omega) b vs.length cap vs (by omega) holds ad 1 c [u] rfl hads (by omega) hmx hby2
   exact hrun v' w' hr2 (own2 v' w' r1 r2)
end
def ahC (xs : List (Nat × BL)) : List Value := xs.flatMap fun x => [.int .i64 (x.1 : Int), .string ⟨x.2.toArray⟩]
theorem ahC_num : ∀ (xs : List (Nat × BL)) (i : Nat) (x : Nat × BL), xs[i]? = some x → (ahC xs)[i * 2]? = some (.int .i64 (x.1 : Int)) ∧ (ahC xs)[i * 2 + 1]? = some (.string ⟨x.2.toArray⟩)
 | [], i, x, h => by simp at h
 | y :: xs, 0, x, h => by
  simp at h
  subst h
  exact ⟨rfl, rfl⟩
 | y :: xs, i + 1, x, h => by
  have h1 := ahC_num xs i x (by simpa using h)
  have e : ahC (y :: xs) = .int .i64 (y.1 : Int) :: .string ⟨y.2.toArray⟩ :: ahC xs := rfl
  rw [e, show (i + 1) * 2 = i * 2 + 1 + 1 by omega, show i * 2 + 1 + 1 + 1 = (i * 2 + 1) + 1 + 1 by omega]
  exact ⟨h1.1, h1.2⟩
def AhR (w : World) (lo : Nat) (v : Value) (xs : List (Nat × BL)) : Prop :=
 ∃ A c, v = .slice A xs.length c ∧ xs.length ≤ c ∧ c ≤ maxLen ∧ (0 < c → ∃ g off cur, A = some ⟨g, off, none⟩ ∧ lo ≤ g ∧ w.heap[g]? = some (.cells cur 118 (0, 0)) ∧ ∀ j u, (ahC xs)[j]? = some u → cur[off + j]? = some u)
theorem AhR.nil (w : World) (lo : Nat) : AhR w lo (.slice none 0 0) [] := ⟨none, 0, rfl, Nat.le_refl _, by decide, fun h => by omega⟩
theorem AhR.keep {w w' : World} {lo : Nat} {v : Value} {xs : List (Nat × BL)} (h : AhR w lo v xs) (hk : ∀ (g : Nat) (cur : Array Value), w.heap[g]? = some (Obj.cells cur 118 (0, 0)) → w'.heap[g]? = w.heap[g]?) : AhR w' lo v xs := by
 obtain ⟨A, c, h1, h2, h3, h4⟩ := h
 refine ⟨A, c, h1, h2, h3, fun hc => ?_⟩
 obtain ⟨g, off, cur, e1, e2, e3, e4⟩ := h4 hc
 exact ⟨g, off, cur, e1, e2, (hk g cur e3).trans e3, e4⟩
def AhF (xs : List (Nat × BL)) (f : Nat → Option BL) : Prop := xs.Pairwise (fun a b => a.1 < b.1) ∧ ∀ n b, f n = some b ↔ (n, b) ∈ xs
theorem AhF.nil : AhF [] (fun _ => none) := ⟨List.Pairwise.nil, fun n b => ⟨fun h => by (cases h), fun h => by (cases h)⟩⟩
def REnd (w : World) (L Q : Nat) (G : Option Nat) (s : LE) : Prop :=
 LEok s ∧ L ≤ Q ∧ (∀ g, G = some g → L ≤ g) ∧
 ∃ sv av xs, w.heap[Q]? = some (.cells #[.int .i64 s.ep, .int .i64 s.next, .int .i64 s.heard, .int .i64 s.fresh, .bool s.owes, sv, av] 78 (0, 0)) ∧
  TRow w G sv (strs s.sent) ∧ AhR w L av xs ∧ AhF xs s.ahead
theorem REnd.keep {w w' : World} {L Q : Nat} {G : Option Nat} {s : LE} (h : REnd w L Q G s) (hk : ∀ (g : Nat) (cur : Array Value) (T : TypeId), w.heap[g]? = some (Obj.cells cur T (0, 0)) → (T = 78 ∨ T = 9 ∨ T = 118) → w'.heap[g]? = w.heap[g]?) : REnd w' L Q G s := by
 obtain ⟨h1, h2, h3, sv, av, xs, h4, h5, h6, h7⟩ := h
 refine ⟨h1, h2, h3, sv, av, xs, (hk Q _ _ h4 (.inl rfl)).trans h4, h5.keep (fun g e hl => ?_), h6.keep (fun g cur hc => hk g cur _ hc (.inr (.inr rfl))), h7⟩
 obtain ⟨cur, hc⟩ := h5.blk g e
 exact hk g cur _ hc (.inr (.inl rfl))
theorem REnd.next {w w' : World} {L Q : Nat} {G : Option Nat} {s : LE} (h : REnd w L Q G s) (hb : Below w.heap.size w w') : REnd w' L Q G s := h.keep fun g cur T hc _ => hb.block g (lt_of_block hc)
end Go.Proofs.Ytigmmikijjcdiaa
namespace Go.Proofs.Ytigmmikijjcdiaa
open Go.RowKit
def ROpenPost (w : World) (ep : Nat) (e : Ending) (w' : World) : Prop :=
 ∃ Q, e = .returned (.pointer (some ⟨Q, 0, none⟩)) ∧ w.heap.size ≤ Q ∧ (∀ L, L ≤ w.heap.size → REnd w' L Q none (openL ep)) ∧ Below w.heap.size w w'
theorem ropen_fin (w : World) (ep : Nat) (h : ep ≤ mostL) : ROpenPost w ep (.returned (.pointer (some ⟨w.heap.size, 0, none⟩))) (w.alloc (.cells #[.int .i64 ep, .int .i64 1, .int .i64 0, .int .i64 1, .bool false, .slice none 0 0, .slice none 0 0] 78)) :=
 ⟨w.heap.size, rfl, Nat.le_refl _, fun L hL => ⟨openL_ok h, hL, fun g e => (by cases e), .slice none 0 0, .slice none 0 0, [], heap_alloc_last _ _, TRow.nil _, AhR.nil _ _, AhF.nil⟩, (Below.refl _ _).alloc (Nat.le_refl _) _⟩
theorem ropen_any (w : World) (e : Int) : Calls Try.prog 21 #[.int .i64 e] w (ROpenPost w (epN e)) := by
 by_cases hc : e < 0 ∨ 4611686018427387904 < e
 ·have hF : epN e = 0 := by unfold epN; rw [if_pos hc]
  have HF := hide hF
  have HW := hide (ropen_fin w 0 (by decide))
  rw [hF]
  clear hF HF
  by_cases h1 : e < 0
  ·clear hc
   go_enter Try.func21, Try.ntmps21
   go_wp2
   go_ret
   exact HW.out
  ·have h2 : 4611686018427387904 < e := by omega
   clear hc
   go_enter Try.func21, Try.ntmps21
   go_wp2
   go_ret
   exact HW.out
 ·obtain ⟨n, rfl⟩ : ∃ n : Nat, (n : Int) = e := ⟨e.toNat, by omega⟩
  have hF : epN n = n := by unfold epN; rw [if_neg hc]; omega
  have h1 : ¬ (n : Int) < 0 := by omega
  have h2 : ¬ (4611686018427387904 : Int) < n := by omega
  have HW := hide (ropen_fin w n (by unfold mostL; omega))
  rw [hF]
  clear hF hc
  go_enter Try.func21, Try.ntmps21
  go_wp2
  go_ret
  exact HW.out
section
variable {w : World} {L Q : Nat} {G : Option Nat} {s : LE}
theorem REnd.cells (h : REnd w L Q G s) : ∃ A c B d m, w.cell? ⟨Q, 0, none⟩ = some (.int .i64 s.ep) ∧ w.cell? ⟨Q, 1, none⟩ = some (.int .i64 s.next) ∧ w.cell? ⟨Q, 2, none⟩ = some (.int .i64 s.heard) ∧ w.cell? ⟨Q, 3, none⟩ = some (.int .i64 s.fresh) ∧ w.cell? ⟨Q, 4, none⟩ = some (.bool s.owes) ∧ w.cell? ⟨Q, 5, none⟩ = some (.slice A s.sent.length c) ∧ w.cell? ⟨Q, 6, none⟩ = some (.slice B m d) ∧ Q < w.heap.size := by
 obtain ⟨h0, h1, h2, sv, av, xs, h4, h5, h6, h7⟩ := h
 obtain ⟨A, c, rfl, _⟩ := h5
 obtain ⟨B, d, rfl, _⟩ := h6
 rw [strs_len] at h4
 exact ⟨A, c, B, d, xs.length, cell_of_row _ _ 0 _ _ _ h4, cell_of_row _ _ 1 _ _ _ h4, cell_of_row _ _ 2 _ _ _ h4, cell_of_row _ _ 3 _ _ _ h4, cell_of_row _ _ 4 _ _ _ h4, cell_of_row _ _ 5 _ _ _ h4, cell_of_row _ _ 6 _ _ _ h4, lt_of_block h4⟩
end
def ROfPost (w : World) (f : BL) (e : Ending) (w' : World) : Prop := Below w.heap.size w w' ∧ match readL f with
 | none => e = .returned (.tuple #[.int .i64 0, .bool false])
 | some (ep, h, n, b) => e = .returned (.tuple #[.int .i64 (ep : Int), .bool true])
theorem rof_any (w : World) (A : Option Addr) (f : BL) (c : Nat) (hR : Rd w w.heap.size A (u8s f)) (hf : f.length ≤ 3000000) (hc : f.length ≤ c) (hc2 : c ≤ 9223372036854775807) :
  Calls Try.prog 51 #[.slice A f.length c] w (ROfPost w f) := by
 have HX := hide (rread_any w A f c hR hf hc hc2)
 obtain ⟨m, hm⟩ : ∃ z, f.length = z := ⟨_, rfl⟩
 rw [hm] at HX ⊢
 clear hm hR hf hc
 go_enter Try.func51, Try.ntmps51
 go_wp2_with fail
 refine HX.out.mono ?_
 rintro e w1 ⟨hb, he⟩
 have HB := hide hb
 clear hb HX
 rcases hr : readL f with _ | ⟨ep, h, n, b⟩
 ·rw [hr] at he
  dsimp only at he
  subst he
  have HR := hide hr
  clear hr
  go_wp2
  exact bodyPost_ret (v := .tuple #[.int .i64 0, .bool false]) (by simp [results, Try.results51, go_sem]) rfl ⟨HB.out, by rw [HR.out]⟩
 ·rw [hr] at he
  dsimp only at he
  subst he
  have HR := hide hr
  clear hr
  go_wp2
  exact bodyPost_ret (v := .tuple #[.int .i64 (ep : Int), .bool true]) (by simp [results, Try.results51, go_sem]) rfl ⟨HB.out, by rw [HR.out]⟩
end Go.Proofs.Ytigmmikijjcdiaa
