/- Lemmas: Nq4, Nq5, Nrd, Noc. -/
import Derived.Test.YtigmmikijjcdiaaProg
import Derived.Deep.DeepCutAuto
import Derived.Lib.Hide
import Derived.WalkSpells
import Derived.WalkMore
import Derived.IntWalk
import Derived.Test.YtigmmikijjcdiaaLnWw27
import Derived.Test.YtigmmikijjcdiaaLnWw28
set_option linter.unusedVariables false
set_option linter.unusedSimpArgs false
set_option maxRecDepth 100000
set_option maxHeartbeats 16000000
namespace Go.Proofs.Ytigmmikijjcdiaa
open Go.RowKit
theorem step_out (w : World) {L W P1 P2 a Q1 Q2 ep m n : Nat} (hS : NSt w L W P1 P2 a Q1 Q2 ep m n) (ha : a < 2) (hm : m ≤ 1000) (hn : n ≤ 1000) (k A8 N8 : Nat) (hk : k < 256) (hA : A8 < 256) (hN8 : N8 < 256) (hAa : A8 % 2 = a) (Ab : Option Addr) (b : BL) (bl cb : Nat) (hbl : b.length = bl) (hR : Rd w L Ab (u8s b)) (hb : bl ≤ 5000) (hkk : k % 10 = 2) :
  Calls Try.prog 18 #[.pointer (some ⟨W, 0, none⟩), .agg #[.int .u8 (k : Int), .int .u8 (A8 : Int), .int .u8 (N8 : Int), .slice Ab bl cb]] w (StepPost w L W P1 P2 a Q1 Q2 ep m n) := by
 obtain ⟨E, Y, U, T, tag, B, ways, puts, gots, s, t, ws, wt, ps, pt, gs, gt, hN, hT, hBw, hE1, hE2, hW, hP, hG, hD⟩ := hS
 obtain ⟨x, hx⟩ : ∃ z, w.alloc (.cells #[.int .u8 (k : Int), .int .u8 (A8 : Int), .int .u8 (N8 : Int), .slice Ab bl cb] 40) = z := ⟨_, rfl⟩
 obtain ⟨X, hX⟩ : ∃ z, w.heap.size = z := ⟨_, rfl⟩
 have HX : Hid (x.heap[X]? = some (.cells #[.int .u8 (k : Int), .int .u8 (A8 : Int), .int .u8 (N8 : Int), .slice Ab bl cb] 40)) := hide (by rw [← hx, ← hX]; exact heap_alloc_last w _)
 have HBx : Hid (Below w.heap.size w x) := hide (by rw [← hx]; exact (Below.refl _ _).alloc (Nat.le_refl _) _)
 have hLw : L < w.heap.size := hT.low
 have hE0 : E < w.heap.size := lt_of_block hN.en
 have hy1 := (HBx.out.cell (p := ⟨E, a, none⟩) hE0).trans hE1
 have hy2 := (HBx.out.cell (p := ⟨E, 1 - a, none⟩) hE0).trans hE2
 have HN := hide (hN.next HBx.out)
 have HT := hide (hT.next HBx.out)
 have HRb := hide (hR.below' HBx.out (Nat.le_of_lt hLw))
 have HBx2 : Hid (Below L w x) := hide (HBx.out.mono (Nat.le_of_lt hLw))
 have hBx : B ≤ x.heap.size := Nat.le_trans hBw HBx.out.size
 have HXe : Hid (w.heap.size = X) := hide hX
 have HXn := hide hx
 have HD := hide hD
 have HW := hide hW
 have HP := hide hP
 have HG := hide hG
 have HLw := hide hLw
 have HAa := hide hAa
 have HBl := hide hbl
 clear hx hX hN hT hE1 hE2 hW hP hG hD hR hBw HBx hAa hbl
 obtain ⟨v0, hv0, hR0⟩ := HN.out.way.at_ HW.out.1
 obtain ⟨A0, c0, rfl, -, hc01, hc02⟩ := hR0.rd
 obtain ⟨n0, hn0⟩ : ∃ z, ws.length = z := ⟨_, rfl⟩
 rw [hn0] at hv0 hR0 hc01
 have hn1 : n0 ≤ 100 := by rw [← hn0]; exact HD.out.l1
 have HR0 := hide hR0
 have HN0 := hide hn0
 have s0 : x.cell? ⟨X, 0, none⟩ = some (.int .u8 (k : Int)) := cell_of_row _ _ 0 _ _ _ HX.out
 have s1 : x.cell? ⟨X, 1, none⟩ = some (.int .u8 (A8 : Int)) := cell_of_row _ _ 1 _ _ _ HX.out
 have s2 : x.cell? ⟨X, 2, none⟩ = some (.int .u8 (N8 : Int)) := cell_of_row _ _ 2 _ _ _ HX.out
 have s3 : x.cell? ⟨X, 3, none⟩ = some (.slice Ab bl cb) := cell_of_row _ _ 3 _ _ _ HX.out
 have e0 : x.cell? ⟨W, 0, none⟩ = some (.slice (some ⟨E, 0, none⟩) 2 2) := cell_of_row _ _ 0 _ _ _ HN.out.wd
 have e1 : x.cell? ⟨W, 1, none⟩ = some (.slice (some ⟨Y, 0, none⟩) 2 2) := cell_of_row _ _ 1 _ _ _ HN.out.wd
 have hXx : X < x.heap.size := lt_of_block HX.out
 have hWx : W < x.heap.size := lt_of_block HN.out.wd
 have hYx : Y < x.heap.size := HN.out.way.lt
 have hEx : E < x.heap.size := lt_of_block HN.out.en
 have ha0 : (0 : Int) ≤ (a : Int) := by omega
 have ha1 : (a : Int) < 2 := by omega
 clear hR0 hn0
 have hk10 : (k : Int) % 10 = 2 := by omega
 have hAi : (A8 : Int) % 2 = (a : Int) := by have := HAa.out; omega
 by_cases hz : n0 = 0
 ·have hz0 : ¬ (0 : Int) < (n0 : Int) := by omega
  have hLx0 : L ≤ x.heap.size := Nat.le_trans (Nat.le_of_lt hLw) HBx2.out.size
  obtain ⟨b1, hb1⟩ : ∃ z, 1 - a = z := ⟨_, rfl⟩
  have hb12 : b1 < 2 := by omega
  have kw : IntKind.i64.wrap (1 - (a : Int)) = (b1 : Int) := by rw [IntWalk.i64_in _ (by omega)]; omega
  have HOk := hide HT.out.ok1
  have HB1n := hide hb1
  clear hb1
  go_enter Try.func18, Try.ntmps18
  go_upto_region 1 with fail
  rw [HXn.out, HXe.out]
  go_wp2_with fail
  refine (two_out HT.out).mono ?_
  rintro e y1 ⟨v1, rfl, hf, ht, hm⟩
  obtain ⟨fs, hfs⟩ : ∃ z, (fromL s s.fresh s.owes).1 = z := ⟨_, rfl⟩
  obtain ⟨s1, hs1⟩ : ∃ z, (fromL s s.fresh s.owes).2 = z := ⟨_, rfl⟩
  rw [hfs] at hf
  rw [hs1] at ht
  have HD1 := hide (HD.out.out HOk.out (k := s.fresh) HT.out.ok1.fresh1 s.owes)
  rw [hfs, hs1] at HD1
  have HFl : Hid (fs.length ≤ 1000000) := hide (by rw [← hfs]; have := HOk.out.next; rcases from_len s s.fresh s.owes with h | ⟨_, h⟩ <;> omega)
  have HT1 := hide ht
  have HF1 := hide hf
  have HM1 : Hid (Mid L B x y1) := hide hm
  have HN1 := hide (HN.out.mid hm)
  have HB1 : Hid (Below L w y1) := hide (HBx2.out.trans (hm.toBelow hLx0))
  have hLy : L ≤ y1.heap.size := Nat.le_trans hLx0 hm.1
  have hByy : B ≤ y1.heap.size := Nat.le_trans hBx hm.1
  have HY1 := hide ((HN1.out.ptr HN.out a).trans hy1)
  have HY2 := hide ((HN1.out.ptr HN.out (1 - a)).trans hy2)
  clear hf ht hm hfs hs1 s0 s2 s3 e0 e1 hv0 hy1 hy2
  have hgo := goes_any y1 HN1.out b1 (by omega) (fun wy hwy => by rw [← HB1n.out, HW.out.2] at hwy; injection hwy with hwy; subst hwy; exact HD.out.l2) x.heap.size _ fs HF1.out HFl.out
  have HGo := hide hgo
  clear hgo
  go_wp2_with fail
  refine HGo.out.mono ?_
  rintro e w9 ⟨rfl, ⟨tag9, hn9⟩, hm9⟩
  have HFin : Hid (NSt w9 L W P1 P2 a Q1 Q2 ep (m + 1) (n + 1)) := hide (nst_way (b1 := b1) hn9 hm9 HN1.out HT1.out hByy HY1.out HY2.out ha HB1n.out HW.out HP.out HG.out HD1.out)
  have HFb := hide (HB1.out.trans (hm9.toBelow hLy))
  clear hn9 hm9 HGo
  go_wp2
  go_end0
  exact ⟨rfl, HFin.out, HFb.out⟩
 have hz0 : (0 : Int) < (n0 : Int) := by omega
 obtain ⟨q, hq⟩ : ∃ z, N8 % n0 = z := ⟨_, rfl⟩
 have hqn : q < n0 := by rw [← hq]; exact Nat.mod_lt _ (by omega)
 have hNq : (N8 : Int) % (n0 : Int) = (q : Int) := by rw [← hq]; rfl
 have HQ := hide hq
 clear hq
 have hLx0 : L ≤ x.heap.size := Nat.le_trans (Nat.le_of_lt hLw) HBx2.out.size
 obtain ⟨b1, hb1⟩ : ∃ z, 1 - a = z := ⟨_, rfl⟩
 have hb12 : b1 < 2 := by omega
 have kw : IntKind.i64.wrap (1 - (a : Int)) = (b1 : Int) := by rw [IntWalk.i64_in _ (by omega)]; omega
 have HOk := hide HT.out.ok1
 have HB1n := hide hb1
 clear hb1
 go_enter Try.func18, Try.ntmps18
 go_upto_region 1 with fail
 rw [HXn.out, HXe.out]
 go_wp2_with fail
 refine (two_out HT.out).mono ?_
 rintro e y1 ⟨v1, rfl, hf, ht, hm⟩
 obtain ⟨fs, hfs⟩ : ∃ z, (fromL s s.fresh s.owes).1 = z := ⟨_, rfl⟩
 obtain ⟨s1, hs1⟩ : ∃ z, (fromL s s.fresh s.owes).2 = z := ⟨_, rfl⟩
 rw [hfs] at hf
 rw [hs1] at ht
 have HD1 := hide (HD.out.out HOk.out (k := s.fresh) HT.out.ok1.fresh1 s.owes)
 rw [hfs, hs1] at HD1
 have HFl : Hid (fs.length ≤ 1000000) := hide (by rw [← hfs]; have := HOk.out.next; rcases from_len s s.fresh s.owes with h | ⟨_, h⟩ <;> omega)
 have HT1 := hide ht
 have HF1 := hide hf
 have HM1 : Hid (Mid L B x y1) := hide hm
 have HN1 := hide (HN.out.mid hm)
 have HB1 : Hid (Below L w y1) := hide (HBx2.out.trans (hm.toBelow hLx0))
 have hLy : L ≤ y1.heap.size := Nat.le_trans hLx0 hm.1
 have hByy : B ≤ y1.heap.size := Nat.le_trans hBx hm.1
 have HY1 := hide ((HN1.out.ptr HN.out a).trans hy1)
 have HY2 := hide ((HN1.out.ptr HN.out (1 - a)).trans hy2)
 clear hf ht hm hfs hs1 s0 s2 s3 e0 e1 hv0 hy1 hy2
 have hgo := goes_any y1 HN1.out b1 (by omega) (fun wy hwy => by rw [← HB1n.out, HW.out.2] at hwy; injection hwy with hwy; subst hwy; exact HD.out.l2) x.heap.size _ fs HF1.out HFl.out
 have HGo := hide hgo
 clear hgo
 go_wp2_with fail
 refine HGo.out.mono ?_
 rintro e w9 ⟨rfl, ⟨tag9, hn9⟩, hm9⟩
 have HFin : Hid (NSt w9 L W P1 P2 a Q1 Q2 ep (m + 1) (n + 1)) := hide (nst_way (b1 := b1) hn9 hm9 HN1.out HT1.out hByy HY1.out HY2.out ha HB1n.out HW.out HP.out HG.out HD1.out)
 have HFb := hide (HB1.out.trans (hm9.toBelow hLy))
 clear hn9 hm9 HGo
 go_wp2
 go_end0
 exact ⟨rfl, HFin.out, HFb.out⟩
theorem step_again (w : World) {L W P1 P2 a Q1 Q2 ep m n : Nat} (hS : NSt w L W P1 P2 a Q1 Q2 ep m n) (ha : a < 2) (hm : m ≤ 1000) (hn : n ≤ 1000) (k A8 N8 : Nat) (hk : k < 256) (hA : A8 < 256) (hN8 : N8 < 256) (hAa : A8 % 2 = a) (Ab : Option Addr) (b : BL) (bl cb : Nat) (hbl : b.length = bl) (hR : Rd w L Ab (u8s b)) (hb : bl ≤ 5000) (hkk : k % 10 = 3) :
  Calls Try.prog 18 #[.pointer (some ⟨W, 0, none⟩), .agg #[.int .u8 (k : Int), .int .u8 (A8 : Int), .int .u8 (N8 : Int), .slice Ab bl cb]] w (StepPost w L W P1 P2 a Q1 Q2 ep m n) := by
 obtain ⟨E, Y, U, T, tag, B, ways, puts, gots, s, t, ws, wt, ps, pt, gs, gt, hN, hT, hBw, hE1, hE2, hW, hP, hG, hD⟩ := hS
 obtain ⟨x, hx⟩ : ∃ z, w.alloc (.cells #[.int .u8 (k : Int), .int .u8 (A8 : Int), .int .u8 (N8 : Int), .slice Ab bl cb] 40) = z := ⟨_, rfl⟩
 obtain ⟨X, hX⟩ : ∃ z, w.heap.size = z := ⟨_, rfl⟩
 have HX : Hid (x.heap[X]? = some (.cells #[.int .u8 (k : Int), .int .u8 (A8 : Int), .int .u8 (N8 : Int), .slice Ab bl cb] 40)) := hide (by rw [← hx, ← hX]; exact heap_alloc_last w _)
 have HBx : Hid (Below w.heap.size w x) := hide (by rw [← hx]; exact (Below.refl _ _).alloc (Nat.le_refl _) _)
 have hLw : L < w.heap.size := hT.low
 have hE0 : E < w.heap.size := lt_of_block hN.en
 have hy1 := (HBx.out.cell (p := ⟨E, a, none⟩) hE0).trans hE1
 have hy2 := (HBx.out.cell (p := ⟨E, 1 - a, none⟩) hE0).trans hE2
 have HN := hide (hN.next HBx.out)
 have HT := hide (hT.next HBx.out)
 have HRb := hide (hR.below' HBx.out (Nat.le_of_lt hLw))
 have HBx2 : Hid (Below L w x) := hide (HBx.out.mono (Nat.le_of_lt hLw))
 have hBx : B ≤ x.heap.size := Nat.le_trans hBw HBx.out.size
 have HXe : Hid (w.heap.size = X) := hide hX
 have HXn := hide hx
 have HD := hide hD
 have HW := hide hW
 have HP := hide hP
 have HG := hide hG
 have HLw := hide hLw
 have HAa := hide hAa
 have HBl := hide hbl
 clear hx hX hN hT hE1 hE2 hW hP hG hD hR hBw HBx hAa hbl
 obtain ⟨v0, hv0, hR0⟩ := HN.out.way.at_ HW.out.1
 obtain ⟨A0, c0, rfl, -, hc01, hc02⟩ := hR0.rd
 obtain ⟨n0, hn0⟩ : ∃ z, ws.length = z := ⟨_, rfl⟩
 rw [hn0] at hv0 hR0 hc01
 have hn1 : n0 ≤ 100 := by rw [← hn0]; exact HD.out.l1
 have HR0 := hide hR0
 have HN0 := hide hn0
 have s0 : x.cell? ⟨X, 0, none⟩ = some (.int .u8 (k : Int)) := cell_of_row _ _ 0 _ _ _ HX.out
 have s1 : x.cell? ⟨X, 1, none⟩ = some (.int .u8 (A8 : Int)) := cell_of_row _ _ 1 _ _ _ HX.out
 have s2 : x.cell? ⟨X, 2, none⟩ = some (.int .u8 (N8 : Int)) := cell_of_row _ _ 2 _ _ _ HX.out
 have s3 : x.cell? ⟨X, 3, none⟩ = some (.slice Ab bl cb) := cell_of_row _ _ 3 _ _ _ HX.out
 have e0 : x.cell? ⟨W, 0, none⟩ = some (.slice (some ⟨E, 0, none⟩) 2 2) := cell_of_row _ _ 0 _ _ _ HN.out.wd
 have e1 : x.cell? ⟨W, 1, none⟩ = some (.slice (some ⟨Y, 0, none⟩) 2 2) := cell_of_row _ _ 1 _ _ _ HN.out.wd
 have hXx : X < x.heap.size := lt_of_block HX.out
 have hWx : W < x.heap.size := lt_of_block HN.out.wd
 have hYx : Y < x.heap.size := HN.out.way.lt
 have hEx : E < x.heap.size := lt_of_block HN.out.en
 have ha0 : (0 : Int) ≤ (a : Int) := by omega
 have ha1 : (a : Int) < 2 := by omega
 clear hR0 hn0
 have hk10 : (k : Int) % 10 = 3 := by omega
 have hAi : (A8 : Int) % 2 = (a : Int) := by have := HAa.out; omega
 by_cases hz : n0 = 0
 ·have hz0 : ¬ (0 : Int) < (n0 : Int) := by omega
  have hLx0 : L ≤ x.heap.size := Nat.le_trans (Nat.le_of_lt hLw) HBx2.out.size
  obtain ⟨b1, hb1⟩ : ∃ z, 1 - a = z := ⟨_, rfl⟩
  have hb12 : b1 < 2 := by omega
  have kw : IntKind.i64.wrap (1 - (a : Int)) = (b1 : Int) := by rw [IntWalk.i64_in _ (by omega)]; omega
  have HOk := hide HT.out.ok1
  have HB1n := hide hb1
  clear hb1
  go_enter Try.func18, Try.ntmps18
  go_upto_region 1 with fail
  rw [HXn.out, HXe.out]
  go_wp2_with fail
  refine (two_again HT.out).mono ?_
  rintro e y1 ⟨v1, rfl, hf, ht, hm⟩
  obtain ⟨fs, hfs⟩ : ∃ z, (fromL s s.first true).1 = z := ⟨_, rfl⟩
  obtain ⟨s1, hs1⟩ : ∃ z, (fromL s s.first true).2 = z := ⟨_, rfl⟩
  rw [hfs] at hf
  rw [hs1] at ht
  have HD1 := hide (HD.out.out HOk.out (k := s.first) (Nat.le_refl _) true)
  rw [hfs, hs1] at HD1
  have HFl : Hid (fs.length ≤ 1000000) := hide (by rw [← hfs]; have := HOk.out.next; rcases from_len s s.first true with h | ⟨_, h⟩ <;> omega)
  have HT1 := hide ht
  have HF1 := hide hf
  have HM1 : Hid (Mid L B x y1) := hide hm
  have HN1 := hide (HN.out.mid hm)
  have HB1 : Hid (Below L w y1) := hide (HBx2.out.trans (hm.toBelow hLx0))
  have hLy : L ≤ y1.heap.size := Nat.le_trans hLx0 hm.1
  have hByy : B ≤ y1.heap.size := Nat.le_trans hBx hm.1
  have HY1 := hide ((HN1.out.ptr HN.out a).trans hy1)
  have HY2 := hide ((HN1.out.ptr HN.out (1 - a)).trans hy2)
  clear hf ht hm hfs hs1 s0 s2 s3 e0 e1 hv0 hy1 hy2
  have hgo := goes_any y1 HN1.out b1 (by omega) (fun wy hwy => by rw [← HB1n.out, HW.out.2] at hwy; injection hwy with hwy; subst hwy; exact HD.out.l2) x.heap.size _ fs HF1.out HFl.out
  have HGo := hide hgo
  clear hgo
  go_wp2_with fail
  refine HGo.out.mono ?_
  rintro e w9 ⟨rfl, ⟨tag9, hn9⟩, hm9⟩
  have HFin : Hid (NSt w9 L W P1 P2 a Q1 Q2 ep (m + 1) (n + 1)) := hide (nst_way (b1 := b1) hn9 hm9 HN1.out HT1.out hByy HY1.out HY2.out ha HB1n.out HW.out HP.out HG.out HD1.out)
  have HFb := hide (HB1.out.trans (hm9.toBelow hLy))
  clear hn9 hm9 HGo
  go_wp2
  go_end0
  exact ⟨rfl, HFin.out, HFb.out⟩
 have hz0 : (0 : Int) < (n0 : Int) := by omega
 obtain ⟨q, hq⟩ : ∃ z, N8 % n0 = z := ⟨_, rfl⟩
 have hqn : q < n0 := by rw [← hq]; exact Nat.mod_lt _ (by omega)
 have hNq : (N8 : Int) % (n0 : Int) = (q : Int) := by rw [← hq]; rfl
 have HQ := hide hq
 clear hq
 have hLx0 : L ≤ x.heap.size := Nat.le_trans (Nat.le_of_lt hLw) HBx2.out.size
 obtain ⟨b1, hb1⟩ : ∃ z, 1 - a = z := ⟨_, rfl⟩
 have hb12 : b1 < 2 := by omega
 have kw : IntKind.i64.wrap (1 - (a : Int)) = (b1 : Int) := by rw [IntWalk.i64_in _ (by omega)]; omega
 have HOk := hide HT.out.ok1
 have HB1n := hide hb1
 clear hb1
 go_enter Try.func18, Try.ntmps18
 go_upto_region 1 with fail
 rw [HXn.out, HXe.out]
 go_wp2_with fail
 refine (two_again HT.out).mono ?_
 rintro e y1 ⟨v1, rfl, hf, ht, hm⟩
 obtain ⟨fs, hfs⟩ : ∃ z, (fromL s s.first true).1 = z := ⟨_, rfl⟩
 obtain ⟨s1, hs1⟩ : ∃ z, (fromL s s.first true).2 = z := ⟨_, rfl⟩
 rw [hfs] at hf
 rw [hs1] at ht
 have HD1 := hide (HD.out.out HOk.out (k := s.first) (Nat.le_refl _) true)
 rw [hfs, hs1] at HD1
 have HFl : Hid (fs.length ≤ 1000000) := hide (by rw [← hfs]; have := HOk.out.next; rcases from_len s s.first true with h | ⟨_, h⟩ <;> omega)
 have HT1 := hide ht
 have HF1 := hide hf
 have HM1 : Hid (Mid L B x y1) := hide hm
 have HN1 := hide (HN.out.mid hm)
 have HB1 : Hid (Below L w y1) := hide (HBx2.out.trans (hm.toBelow hLx0))
 have hLy : L ≤ y1.heap.size := Nat.le_trans hLx0 hm.1
 have hByy : B ≤ y1.heap.size := Nat.le_trans hBx hm.1
 have HY1 := hide ((HN1.out.ptr HN.out a).trans hy1)
 have HY2 := hide ((HN1.out.ptr HN.out (1 - a)).trans hy2)
 clear hf ht hm hfs hs1 s0 s2 s3 e0 e1 hv0 hy1 hy2
 have hgo := goes_any y1 HN1.out b1 (by omega) (fun wy hwy => by rw [← HB1n.out, HW.out.2] at hwy; injection hwy with hwy; subst hwy; exact HD.out.l2) x.heap.size _ fs HF1.out HFl.out
 have HGo := hide hgo
 clear hgo
 go_wp2_with fail
 refine HGo.out.mono ?_
 rintro e w9 ⟨rfl, ⟨tag9, hn9⟩, hm9⟩
 have HFin : Hid (NSt w9 L W P1 P2 a Q1 Q2 ep (m + 1) (n + 1)) := hide (nst_way (b1 := b1) hn9 hm9 HN1.out HT1.out hByy HY1.out HY2.out ha HB1n.out HW.out HP.out HG.out HD1.out)
 have HFb := hide (HB1.out.trans (hm9.toBelow hLy))
 clear hn9 hm9 HGo
 go_wp2
 go_end0
 exact ⟨rfl, HFin.out, HFb.out⟩
theorem step_far (w : World) {L W P1 P2 a Q1 Q2 ep m n : Nat} (hS : NSt w L W P1 P2 a Q1 Q2 ep m n) (ha : a < 2) (hm : m ≤ 1000) (hn : n ≤ 1000) (k A8 N8 : Nat) (hk : k < 256) (hA : A8 < 256) (hN8 : N8 < 256) (hAa : A8 % 2 = a) (Ab : Option Addr) (b : BL) (bl cb : Nat) (hbl : b.length = bl) (hR : Rd w L Ab (u8s b)) (hb : bl ≤ 5000) (hkk : k % 10 = 8) :
  Calls Try.prog 18 #[.pointer (some ⟨W, 0, none⟩), .agg #[.int .u8 (k : Int), .int .u8 (A8 : Int), .int .u8 (N8 : Int), .slice Ab bl cb]] w (StepPost w L W P1 P2 a Q1 Q2 ep m n) := by
 obtain ⟨E, Y, U, T, tag, B, ways, puts, gots, s, t, ws, wt, ps, pt, gs, gt, hN, hT, hBw, hE1, hE2, hW, hP, hG, hD⟩ := hS
 obtain ⟨x, hx⟩ : ∃ z, w.alloc (.cells #[.int .u8 (k : Int), .int .u8 (A8 : Int), .int .u8 (N8 : Int), .slice Ab bl cb] 40) = z := ⟨_, rfl⟩
 obtain ⟨X, hX⟩ : ∃ z, w.heap.size = z := ⟨_, rfl⟩
 have HX : Hid (x.heap[X]? = some (.cells #[.int .u8 (k : Int), .int .u8 (A8 : Int), .int .u8 (N8 : Int), .slice Ab bl cb] 40)) := hide (by rw [← hx, ← hX]; exact heap_alloc_last w _)
 have HBx : Hid (Below w.heap.size w x) := hide (by rw [← hx]; exact (Below.refl _ _).alloc (Nat.le_refl _) _)
 have hLw : L < w.heap.size := hT.low
 have hE0 : E < w.heap.size := lt_of_block hN.en
 have hy1 := (HBx.out.cell (p := ⟨E, a, none⟩) hE0).trans hE1
 have hy2 := (HBx.out.cell (p := ⟨E, 1 - a, none⟩) hE0).trans hE2
 have HN := hide (hN.next HBx.out)
 have HT := hide (hT.next HBx.out)
 have HRb := hide (hR.below' HBx.out (Nat.le_of_lt hLw))
 have HBx2 : Hid (Below L w x) := hide (HBx.out.mono (Nat.le_of_lt hLw))
 have hBx : B ≤ x.heap.size := Nat.le_trans hBw HBx.out.size
 have HXe : Hid (w.heap.size = X) := hide hX
 have HXn := hide hx
 have HD := hide hD
 have HW := hide hW
 have HP := hide hP
 have HG := hide hG
 have HLw := hide hLw
 have HAa := hide hAa
 have HBl := hide hbl
 clear hx hX hN hT hE1 hE2 hW hP hG hD hR hBw HBx hAa hbl
 obtain ⟨v0, hv0, hR0⟩ := HN.out.way.at_ HW.out.1
 obtain ⟨A0, c0, rfl, -, hc01, hc02⟩ := hR0.rd
 obtain ⟨n0, hn0⟩ : ∃ z, ws.length = z := ⟨_, rfl⟩
 rw [hn0] at hv0 hR0 hc01
 have hn1 : n0 ≤ 100 := by rw [← hn0]; exact HD.out.l1
 have HR0 := hide hR0
 have HN0 := hide hn0
 have s0 : x.cell? ⟨X, 0, none⟩ = some (.int .u8 (k : Int)) := cell_of_row _ _ 0 _ _ _ HX.out
 have s1 : x.cell? ⟨X, 1, none⟩ = some (.int .u8 (A8 : Int)) := cell_of_row _ _ 1 _ _ _ HX.out
 have s2 : x.cell? ⟨X, 2, none⟩ = some (.int .u8 (N8 : Int)) := cell_of_row _ _ 2 _ _ _ HX.out
 have s3 : x.cell? ⟨X, 3, none⟩ = some (.slice Ab bl cb) := cell_of_row _ _ 3 _ _ _ HX.out
 have e0 : x.cell? ⟨W, 0, none⟩ = some (.slice (some ⟨E, 0, none⟩) 2 2) := cell_of_row _ _ 0 _ _ _ HN.out.wd
 have e1 : x.cell? ⟨W, 1, none⟩ = some (.slice (some ⟨Y, 0, none⟩) 2 2) := cell_of_row _ _ 1 _ _ _ HN.out.wd
 have hXx : X < x.heap.size := lt_of_block HX.out
 have hWx : W < x.heap.size := lt_of_block HN.out.wd
 have hYx : Y < x.heap.size := HN.out.way.lt
 have hEx : E < x.heap.size := lt_of_block HN.out.en
 have ha0 : (0 : Int) ≤ (a : Int) := by omega
 have ha1 : (a : Int) < 2 := by omega
 clear hR0 hn0
 have hk10 : (k : Int) % 10 = 8 := by omega
 have hAi : (A8 : Int) % 2 = (a : Int) := by have := HAa.out; omega
 by_cases hz : n0 = 0
 ·have hz0 : ¬ (0 : Int) < (n0 : Int) := by omega
  have hN64 : IntKind.i64.wrap (N8 : Int) = (N8 : Int) := IntWalk.i64_in _ (by omega)
  have hLx0 : L ≤ x.heap.size := Nat.le_trans (Nat.le_of_lt hLw) HBx2.out.size
  go_enter Try.func18, Try.ntmps18
  go_upto_region 1 with fail
  rw [HXn.out, HXe.out]
  go_upto_region 28 with fail
  by_cases heq : N8 = ep
  ·have hqe : ((N8 : Int) == (ep : Int)) = true := by simp [heq]
   have HNd := hide (HN.out.next (Below.refl _ _).drew)
   have HTd := hide (HT.out.next (Below.refl _ _).drew)
   clear heq
   refine wp_region_held_drew (S := Kept x) (by kernel_rfl) (Kept.drew x) (fun hS0 => ?_)
   refine tk 0 162 ?_ ?_ ?_; rotate_left; (focus (intro w h; go_simp; (try with_reducible rfl))); (try simp only [zqd, zqe, zqf])
   refine tk 1 163 ?_ ?_ ?_; rotate_left; (focus (intro w h; go_simp; (try with_reducible rfl))); (try simp only [zqd, zqe, zqf])
   refine tk 2 164 ?_ ?_ ?_; rotate_left; (focus (intro w h; go_simp; (try with_reducible rfl))); (try simp only [zqd, zqe, zqf])
   refine tk 3 165 ?_ ?_ ?_; rotate_left; (focus (intro w h; go_simp; (try with_reducible rfl))); (try simp only [zqd, zqe, zqf])
   refine tk 4 166 ?_ ?_ ?_; rotate_left; (focus (intro w h; go_simp; (try with_reducible rfl))); (try simp only [zqd, zqe, zqf])
   refine tk 5 167 ?_ ?_ ?_; rotate_left; (focus (intro w h; go_simp; (try with_reducible rfl))); (try simp only [zqd, zqe, zqf])
   refine tk 6 168 ?_ ?_ ?_; rotate_left; (focus (intro w h; go_simp; (try with_reducible rfl))); (try simp only [zqd, zqe, zqf])
   refine tk 7 169 ?_ ?_ ?_; rotate_left; (focus (intro w h; go_simp; (try with_reducible rfl))); (try simp only [zqd, zqe, zqf])
   refine tk 8 170 ?_ ?_ ?_; rotate_left; (focus (intro w h; go_simp; (try with_reducible rfl))); (try simp only [zqd, zqe, zqf])
   refine tk 9 171 ?_ ?_ ?_; rotate_left; (focus (intro w h; go_simp; (try with_reducible rfl))); (try simp only [zqd, zqe, zqf])
   refine call_at (i := 10) (d := 172) (by simp only [zqa, zqb, zqc]; rfl) rfl (by kernel_rfl) rfl (fun K hK => ?_)
   go_simp
   refine (two_epoch (HT.out.next (Below.refl _ _).drew)).mono ?_
   rintro e y1 ⟨rfl, rfl⟩
   have hS1 : Kept x x.drew := Kept.drew x
   rw [HD.out.e1]
   go_wp2_with fail
   refine hK.out _ _ hS1 (fun hSn => ?_)
   clear hK K
   try simp only [zqd, zqe, zqf]
   refine tk 11 173 ?_ ?_ ?_; rotate_left; (focus (intro w hSw; go_simp; (try rw [hN64]); (try rw [hqe]); (try with_reducible rfl); done)); (try simp only [zqd, zqe, zqf])
   refine wpAnyH_done (by kernel_rfl) ?_ _
   clear hS0 hSn
   have HFin : Hid (NSt x.drew L W P1 P2 a Q1 Q2 ep (m + 1) (n + 1)) := hide ⟨E, Y, U, T, tag, B, ways, puts, gots, s, t, ws, wt, ps, pt, gs, gt, HNd.out, HTd.out.mono (Nat.le_refl _) (Nat.le_succ _), hBx, hy1, hy2, HW.out, HP.out, HG.out, HD.out.mono⟩
   have HFb := hide HBx2.out.drew
   go_wp2
   go_end0
   exact ⟨rfl, HFin.out, HFb.out⟩
  have hqe : ((N8 : Int) == (ep : Int)) = false := by simp; omega
  have HNe := hide heq
  clear heq
  refine wp_region_held_drew (S := Kept x) (by kernel_rfl) (Kept.drew x) (fun hS0 => ?_)
  refine tk 0 162 ?_ ?_ ?_; rotate_left; (focus (intro w h; go_simp; (try with_reducible rfl))); (try simp only [zqd, zqe, zqf])
  refine tk 1 163 ?_ ?_ ?_; rotate_left; (focus (intro w h; go_simp; (try with_reducible rfl))); (try simp only [zqd, zqe, zqf])
  refine tk 2 164 ?_ ?_ ?_; rotate_left; (focus (intro w h; go_simp; (try with_reducible rfl))); (try simp only [zqd, zqe, zqf])
  refine tk 3 165 ?_ ?_ ?_; rotate_left; (focus (intro w h; go_simp; (try with_reducible rfl))); (try simp only [zqd, zqe, zqf])
  refine tk 4 166 ?_ ?_ ?_; rotate_left; (focus (intro w h; go_simp; (try with_reducible rfl))); (try simp only [zqd, zqe, zqf])
  refine tk 5 167 ?_ ?_ ?_; rotate_left; (focus (intro w h; go_simp; (try with_reducible rfl))); (try simp only [zqd, zqe, zqf])
  refine tk 6 168 ?_ ?_ ?_; rotate_left; (focus (intro w h; go_simp; (try with_reducible rfl))); (try simp only [zqd, zqe, zqf])
  refine tk 7 169 ?_ ?_ ?_; rotate_left; (focus (intro w h; go_simp; (try with_reducible rfl))); (try simp only [zqd, zqe, zqf])
  refine tk 8 170 ?_ ?_ ?_; rotate_left; (focus (intro w h; go_simp; (try with_reducible rfl))); (try simp only [zqd, zqe, zqf])
  refine tk 9 171 ?_ ?_ ?_; rotate_left; (focus (intro w h; go_simp; (try with_reducible rfl))); (try simp only [zqd, zqe, zqf])
  refine call_at (i := 10) (d := 172) (by simp only [zqa, zqb, zqc]; rfl) rfl (by kernel_rfl) rfl (fun K hK => ?_)
  go_simp
  refine (two_epoch (HT.out.next (Below.refl _ _).drew)).mono ?_
  rintro e y1 ⟨rfl, rfl⟩
  have hS1 : Kept x x.drew := Kept.drew x
  rw [HD.out.e1]
  go_wp2_with fail
  refine hK.out _ _ hS1 (fun hSn => ?_)
  clear hK K
  try simp only [zqd, zqe, zqf]
  refine tk 11 173 ?_ ?_ ?_; rotate_left; (focus (intro w hSw; go_simp; (try rw [hN64]); (try rw [hqe]); (try with_reducible rfl); done)); (try simp only [zqd, zqe, zqf])
  refine wpAnyH_done (by kernel_rfl) ?_ _
  clear hS0 hSn hS1
  obtain ⟨z, hz⟩ : ∃ y, x.drew = y := ⟨_, rfl⟩
  have HBz : Hid (Below x.heap.size x z) := hide (by rw [← hz]; exact (Below.refl _ _).drew)
  have t2 : z.cell? ⟨X, 2, none⟩ = some (.int .u8 (N8 : Int)) := (HBz.out.cell (p := ⟨X, 2, none⟩) hXx).trans s2
  rw [hz]
  have hXz : X < z.heap.size := Nat.lt_of_lt_of_le hXx HBz.out.size
  clear hz s0 s1 e0 e1 hv0
  go_wp2_with fail
  have ho1 := lopen_any z (N8 : Int)
  rw [epN_small (by omega)] at ho1
  refine ho1.mono ?_
  clear ho1
  rintro e y1 ⟨P3, M3, rfl, hE3, hp3, hm3, hb3⟩
  have HB1 : Hid (Below x.heap.size x y1) := hide (HBz.out.trans (hb3.mono HBz.out.size))
  have HP3 : Hid (x.heap.size ≤ P3 ∧ x.heap.size ≤ M3) := hide ⟨Nat.le_trans HBz.out.size hp3, Nat.le_trans HBz.out.size hm3⟩
  have HE3 := hide hE3
  have r3 : y1.cell? ⟨X, 3, none⟩ = some (.slice Ab bl cb) := (HB1.out.cell (p := ⟨X, 3, none⟩) hXx).trans s3
  have hXy : X < y1.heap.size := Nat.lt_of_lt_of_le hXx HB1.out.size
  clear hE3 hp3 hm3 hb3 t2 s2 s3
  go_wp2_with fail
  have hsd := send_any y1 HE3.out Ab b cb ((HRb.out.below' HB1.out hLx0).more (Nat.le_trans hLx0 HB1.out.size)) (by rw [HBl.out]; omega) (show 1 < 1000000 by decide)
  rw [HBl.out] at hsd
  refine hsd.mono ?_
  clear hsd
  rintro e y2 ⟨rfl, G3, own3, hE4, hk4, -, -⟩
  have HX3 : Hid (∃ p, Dir (sendL (openL N8) b).2 (openL (sendL (openL N8) b).2.ep) p []) := hide (by rcases send_dir (Dir.open_ N8 (sendL (openL N8) b).2.ep) b (by rw [HBl.out]; omega) (show 1 < mostL by decide) with ⟨_, h⟩ | ⟨_, _, h⟩; exact ⟨_, h⟩; exact ⟨[], by rw [h]; exact Dir.open_ _ _⟩)
  have HX4 : Hid ((sendL (openL N8) b).2.ep = N8) := hide (by unfold sendL; split; rfl; split <;> rfl)
  obtain ⟨x3, hx3⟩ : ∃ z, (sendL (openL N8) b).2 = z := ⟨_, rfl⟩
  rw [hx3] at hE4 HX3 HX4
  obtain ⟨cd, hcd⟩ : ∃ z, (sendL (openL N8) b).1 = z := ⟨_, rfl⟩
  rw [hcd]
  have HE4 := hide hE4
  have HB2 : Hid (Below x.heap.size x y2) := hide (HB1.out.trans ⟨hk4.env.1, hk4.env.2.1, hk4.env.2.2, hk4.1, fun g hg => hk4.2 g (Nat.lt_of_lt_of_le hg HB1.out.size) (by have := HP3.out.1; simp; omega)⟩)
  clear hE4 hk4 hx3 hcd r3
  go_wp2_with fail
  refine (lout_any y2 HE4.out).mono ?_
  rintro e y3 ⟨v3, own5, rfl, hF3, -, -, hk5⟩
  have HB3 : Hid (Below x.heap.size x y3) := hide (HB2.out.trans ⟨hk5.env.1, hk5.env.2.1, hk5.env.2.2, hk5.1, fun g hg => hk5.2 g (Nat.lt_of_lt_of_le hg HB2.out.size) (by have := HP3.out.1; simp; omega)⟩)
  obtain ⟨fs, hfs⟩ : ∃ z, (fromL x3 x3.fresh x3.owes).1 = z := ⟨_, rfl⟩
  rw [hfs] at hF3
  have HF3 : Hid (FRw y3 y2.heap.size v3 fs) := hide ⟨own5, _, hF3⟩
  have HFl : Hid (fs.length ≤ 1000000) := hide (by rw [← hfs]; have := HE4.out.1.next; rcases from_len x3 x3.fresh x3.owes with h | ⟨_, h⟩ <;> omega)
  have HD1 : Hid (NDir ep s t (goesF ws fs) wt ps pt gs gt (m + 1)) := hide (by obtain ⟨p3, hp3⟩ := HX3.out; rw [← hfs]; exact HD.out.far hp3 HE4.out.1 (by rw [HX4.out]; exact HNe.out) HE4.out.1.fresh1 _)
  have HN3 := hide (HN.out.next HB3.out)
  have HT3 := hide (HT.out.next HB3.out)
  have HBb := hide (HBx2.out.trans (HB3.out.mono hLx0))
  have hLy : L ≤ y3.heap.size := Nat.le_trans hLx0 HB3.out.size
  have hByy : B ≤ y3.heap.size := Nat.le_trans hBx HB3.out.size
  have HY1 := hide ((HN3.out.ptr HN.out a).trans hy1)
  have HY2 := hide ((HN3.out.ptr HN.out (1 - a)).trans hy2)
  clear hF3 hk5 hfs hy1 hy2
  have hgo := goes_any y3 HN3.out a (by omega) (fun wy hwy => by rw [HW.out.1] at hwy; injection hwy with hwy; subst hwy; exact HD.out.l1) y2.heap.size _ fs HF3.out HFl.out
  have HGo := hide hgo
  clear hgo
  go_wp2_with fail
  refine HGo.out.mono ?_
  rintro e w9 ⟨rfl, ⟨tag9, hn9⟩, hm9⟩
  have HFin : Hid (NSt w9 L W P1 P2 a Q1 Q2 ep (m + 1) (n + 1)) := hide (nst_way1 hn9 hm9 HN3.out HT3.out hByy HY1.out HY2.out ha HW.out HP.out HG.out HD1.out)
  have HFb := hide (HBb.out.trans (hm9.toBelow hLy))
  clear hn9 hm9 HGo
  go_wp2
  go_end0
  exact ⟨rfl, HFin.out, HFb.out⟩
 have hz0 : (0 : Int) < (n0 : Int) := by omega
 obtain ⟨q, hq⟩ : ∃ z, N8 % n0 = z := ⟨_, rfl⟩
 have hqn : q < n0 := by rw [← hq]; exact Nat.mod_lt _ (by omega)
 have hNq : (N8 : Int) % (n0 : Int) = (q : Int) := by rw [← hq]; rfl
 have HQ := hide hq
 clear hq
 have hN64 : IntKind.i64.wrap (N8 : Int) = (N8 : Int) := IntWalk.i64_in _ (by omega)
 have hLx0 : L ≤ x.heap.size := Nat.le_trans (Nat.le_of_lt hLw) HBx2.out.size
 go_enter Try.func18, Try.ntmps18
 go_upto_region 1 with fail
 rw [HXn.out, HXe.out]
 go_upto_region 28 with fail
 by_cases heq : N8 = ep
 ·have hqe : ((N8 : Int) == (ep : Int)) = true := by simp [heq]
  have HNd := hide (HN.out.next (Below.refl _ _).drew)
  have HTd := hide (HT.out.next (Below.refl _ _).drew)
  clear heq
  refine wp_region_held_drew (S := Kept x) (by kernel_rfl) (Kept.drew x) (fun hS0 => ?_)
  refine tk 0 162 ?_ ?_ ?_; rotate_left; (focus (intro w h; go_simp; (try with_reducible rfl))); (try simp only [zqd, zqe, zqf])
  refine tk 1 163 ?_ ?_ ?_; rotate_left; (focus (intro w h; go_simp; (try with_reducible rfl))); (try simp only [zqd, zqe, zqf])
  refine tk 2 164 ?_ ?_ ?_; rotate_left; (focus (intro w h; go_simp; (try with_reducible rfl))); (try simp only [zqd, zqe, zqf])
  refine tk 3 165 ?_ ?_ ?_; rotate_left; (focus (intro w h; go_simp; (try with_reducible rfl))); (try simp only [zqd, zqe, zqf])
  refine tk 4 166 ?_ ?_ ?_; rotate_left; (focus (intro w h; go_simp; (try with_reducible rfl))); (try simp only [zqd, zqe, zqf])
  refine tk 5 167 ?_ ?_ ?_; rotate_left; (focus (intro w h; go_simp; (try with_reducible rfl))); (try simp only [zqd, zqe, zqf])
  refine tk 6 168 ?_ ?_ ?_; rotate_left; (focus (intro w h; go_simp; (try with_reducible rfl))); (try simp only [zqd, zqe, zqf])
  refine tk 7 169 ?_ ?_ ?_; rotate_left; (focus (intro w h; go_simp; (try with_reducible rfl))); (try simp only [zqd, zqe, zqf])
  refine tk 8 170 ?_ ?_ ?_; rotate_left; (focus (intro w h; go_simp; (try with_reducible rfl))); (try simp only [zqd, zqe, zqf])
  refine tk 9 171 ?_ ?_ ?_; rotate_left; (focus (intro w h; go_simp; (try with_reducible rfl))); (try simp only [zqd, zqe, zqf])
  refine call_at (i := 10) (d := 172) (by simp only [zqa, zqb, zqc]; rfl) rfl (by kernel_rfl) rfl (fun K hK => ?_)
  go_simp
  refine (two_epoch (HT.out.next (Below.refl _ _).drew)).mono ?_
  rintro e y1 ⟨rfl, rfl⟩
  have hS1 : Kept x x.drew := Kept.drew x
  rw [HD.out.e1]
  go_wp2_with fail
  refine hK.out _ _ hS1 (fun hSn => ?_)
  clear hK K
  try simp only [zqd, zqe, zqf]
  refine tk 11 173 ?_ ?_ ?_; rotate_left; (focus (intro w hSw; go_simp; (try rw [hN64]); (try rw [hqe]); (try with_reducible rfl); done)); (try simp only [zqd, zqe, zqf])
  refine wpAnyH_done (by kernel_rfl) ?_ _
  clear hS0 hSn
  have HFin : Hid (NSt x.drew L W P1 P2 a Q1 Q2 ep (m + 1) (n + 1)) := hide ⟨E, Y, U, T, tag, B, ways, puts, gots, s, t, ws, wt, ps, pt, gs, gt, HNd.out, HTd.out.mono (Nat.le_refl _) (Nat.le_succ _), hBx, hy1, hy2, HW.out, HP.out, HG.out, HD.out.mono⟩
  have HFb := hide HBx2.out.drew
  go_wp2
  go_end0
  exact ⟨rfl, HFin.out, HFb.out⟩
 have hqe : ((N8 : Int) == (ep : Int)) = false := by simp; omega
 have HNe := hide heq
 clear heq
 refine wp_region_held_drew (S := Kept x) (by kernel_rfl) (Kept.drew x) (fun hS0 => ?_)
 refine tk 0 162 ?_ ?_ ?_; rotate_left; (focus (intro w h; go_simp; (try with_reducible rfl))); (try simp only [zqd, zqe, zqf])
 refine tk 1 163 ?_ ?_ ?_; rotate_left; (focus (intro w h; go_simp; (try with_reducible rfl))); (try simp only [zqd, zqe, zqf])
 refine tk 2 164 ?_ ?_ ?_; rotate_left; (focus (intro w h; go_simp; (try with_reducible rfl))); (try simp only [zqd, zqe, zqf])
 refine tk 3 165 ?_ ?_ ?_; rotate_left; (focus (intro w h; go_simp; (try with_reducible rfl))); (try simp only [zqd, zqe, zqf])
 refine tk 4 166 ?_ ?_ ?_; rotate_left; (focus (intro w h; go_simp; (try with_reducible rfl))); (try simp only [zqd, zqe, zqf])
 refine tk 5 167 ?_ ?_ ?_; rotate_left; (focus (intro w h; go_simp; (try with_reducible rfl))); (try simp only [zqd, zqe, zqf])
 refine tk 6 168 ?_ ?_ ?_; rotate_left; (focus (intro w h; go_simp; (try with_reducible rfl))); (try simp only [zqd, zqe, zqf])
 refine tk 7 169 ?_ ?_ ?_; rotate_left; (focus (intro w h; go_simp; (try with_reducible rfl))); (try simp only [zqd, zqe, zqf])
 refine tk 8 170 ?_ ?_ ?_; rotate_left; (focus (intro w h; go_simp; (try with_reducible rfl))); (try simp only [zqd, zqe, zqf])
 refine tk 9 171 ?_ ?_ ?_; rotate_left; (focus (intro w h; go_simp; (try with_reducible rfl))); (try simp only [zqd, zqe, zqf])
 refine call_at (i := 10) (d := 172) (by simp only [zqa, zqb, zqc]; rfl) rfl (by kernel_rfl) rfl (fun K hK => ?_)
 go_simp
 refine (two_epoch (HT.out.next (Below.refl _ _).drew)).mono ?_
 rintro e y1 ⟨rfl, rfl⟩
 have hS1 : Kept x x.drew := Kept.drew x
 rw [HD.out.e1]
 go_wp2_with fail
 refine hK.out _ _ hS1 (fun hSn => ?_)
 clear hK K
 try simp only [zqd, zqe, zqf]
 refine tk 11 173 ?_ ?_ ?_; rotate_left; (focus (intro w hSw; go_simp; (try rw [hN64]); (try rw [hqe]); (try with_reducible rfl); done)); (try simp only [zqd, zqe, zqf])
 refine wpAnyH_done (by kernel_rfl) ?_ _
 clear hS0 hSn hS1
 obtain ⟨z, hz⟩ : ∃ y, x.drew = y := ⟨_, rfl⟩
 have HBz : Hid (Below x.heap.size x z) := hide (by rw [← hz]; exact (Below.refl _ _).drew)
 have t2 : z.cell? ⟨X, 2, none⟩ = some (.int .u8 (N8 : Int)) := (HBz.out.cell (p := ⟨X, 2, none⟩) hXx).trans s2
 rw [hz]
 have hXz : X < z.heap.size := Nat.lt_of_lt_of_le hXx HBz.out.size
 clear hz s0 s1 e0 e1 hv0
 go_wp2_with fail
 have ho1 := lopen_any z (N8 : Int)
 rw [epN_small (by omega)] at ho1
 refine ho1.mono ?_
 clear ho1
 rintro e y1 ⟨P3, M3, rfl, hE3, hp3, hm3, hb3⟩
 have HB1 : Hid (Below x.heap.size x y1) := hide (HBz.out.trans (hb3.mono HBz.out.size))
 have HP3 : Hid (x.heap.size ≤ P3 ∧ x.heap.size ≤ M3) := hide ⟨Nat.le_trans HBz.out.size hp3, Nat.le_trans HBz.out.size hm3⟩
 have HE3 := hide hE3
 have r3 : y1.cell? ⟨X, 3, none⟩ = some (.slice Ab bl cb) := (HB1.out.cell (p := ⟨X, 3, none⟩) hXx).trans s3
 have hXy : X < y1.heap.size := Nat.lt_of_lt_of_le hXx HB1.out.size
 clear hE3 hp3 hm3 hb3 t2 s2 s3
 go_wp2_with fail
 have hsd := send_any y1 HE3.out Ab b cb ((HRb.out.below' HB1.out hLx0).more (Nat.le_trans hLx0 HB1.out.size)) (by rw [HBl.out]; omega) (show 1 < 1000000 by decide)
 rw [HBl.out] at hsd
 refine hsd.mono ?_
 clear hsd
 rintro e y2 ⟨rfl, G3, own3, hE4, hk4, -, -⟩
 have HX3 : Hid (∃ p, Dir (sendL (openL N8) b).2 (openL (sendL (openL N8) b).2.ep) p []) := hide (by rcases send_dir (Dir.open_ N8 (sendL (openL N8) b).2.ep) b (by rw [HBl.out]; omega) (show 1 < mostL by decide) with ⟨_, h⟩ | ⟨_, _, h⟩; exact ⟨_, h⟩; exact ⟨[], by rw [h]; exact Dir.open_ _ _⟩)
 have HX4 : Hid ((sendL (openL N8) b).2.ep = N8) := hide (by unfold sendL; split; rfl; split <;> rfl)
 obtain ⟨x3, hx3⟩ : ∃ z, (sendL (openL N8) b).2 = z := ⟨_, rfl⟩
 rw [hx3] at hE4 HX3 HX4
 obtain ⟨cd, hcd⟩ : ∃ z, (sendL (openL N8) b).1 = z := ⟨_, rfl⟩
 rw [hcd]
 have HE4 := hide hE4
 have HB2 : Hid (Below x.heap.size x y2) := hide (HB1.out.trans ⟨hk4.env.1, hk4.env.2.1, hk4.env.2.2, hk4.1, fun g hg => hk4.2 g (Nat.lt_of_lt_of_le hg HB1.out.size) (by have := HP3.out.1; simp; omega)⟩)
 clear hE4 hk4 hx3 hcd r3
 go_wp2_with fail
 refine (lout_any y2 HE4.out).mono ?_
 rintro e y3 ⟨v3, own5, rfl, hF3, -, -, hk5⟩
 have HB3 : Hid (Below x.heap.size x y3) := hide (HB2.out.trans ⟨hk5.env.1, hk5.env.2.1, hk5.env.2.2, hk5.1, fun g hg => hk5.2 g (Nat.lt_of_lt_of_le hg HB2.out.size) (by have := HP3.out.1; simp; omega)⟩)
 obtain ⟨fs, hfs⟩ : ∃ z, (fromL x3 x3.fresh x3.owes).1 = z := ⟨_, rfl⟩
 rw [hfs] at hF3
 have HF3 : Hid (FRw y3 y2.heap.size v3 fs) := hide ⟨own5, _, hF3⟩
 have HFl : Hid (fs.length ≤ 1000000) := hide (by rw [← hfs]; have := HE4.out.1.next; rcases from_len x3 x3.fresh x3.owes with h | ⟨_, h⟩ <;> omega)
 have HD1 : Hid (NDir ep s t (goesF ws fs) wt ps pt gs gt (m + 1)) := hide (by obtain ⟨p3, hp3⟩ := HX3.out; rw [← hfs]; exact HD.out.far hp3 HE4.out.1 (by rw [HX4.out]; exact HNe.out) HE4.out.1.fresh1 _)
 have HN3 := hide (HN.out.next HB3.out)
 have HT3 := hide (HT.out.next HB3.out)
 have HBb := hide (HBx2.out.trans (HB3.out.mono hLx0))
 have hLy : L ≤ y3.heap.size := Nat.le_trans hLx0 HB3.out.size
 have hByy : B ≤ y3.heap.size := Nat.le_trans hBx HB3.out.size
 have HY1 := hide ((HN3.out.ptr HN.out a).trans hy1)
 have HY2 := hide ((HN3.out.ptr HN.out (1 - a)).trans hy2)
 clear hF3 hk5 hfs hy1 hy2
 have hgo := goes_any y3 HN3.out a (by omega) (fun wy hwy => by rw [HW.out.1] at hwy; injection hwy with hwy; subst hwy; exact HD.out.l1) y2.heap.size _ fs HF3.out HFl.out
 have HGo := hide hgo
 clear hgo
 go_wp2_with fail
 refine HGo.out.mono ?_
 rintro e w9 ⟨rfl, ⟨tag9, hn9⟩, hm9⟩
 have HFin : Hid (NSt w9 L W P1 P2 a Q1 Q2 ep (m + 1) (n + 1)) := hide (nst_way1 hn9 hm9 HN3.out HT3.out hByy HY1.out HY2.out ha HW.out HP.out HG.out HD1.out)
 have HFb := hide (HBb.out.trans (hm9.toBelow hLy))
 clear hn9 hm9 HGo
 go_wp2
 go_end0
 exact ⟨rfl, HFin.out, HFb.out⟩
end Go.Proofs.Ytigmmikijjcdiaa
namespace Go.Proofs.Ytigmmikijjcdiaa
open Go.RowKit
theorem step_any (w : World) {L W P1 P2 a Q1 Q2 ep m n : Nat} (hS : NSt w L W P1 P2 a Q1 Q2 ep m n) (ha : a < 2) (hm : m ≤ 1000) (hn : n ≤ 1000) (k A8 N8 : Nat) (hk : k < 256) (hA : A8 < 256) (hN8 : N8 < 256) (hAa : A8 % 2 = a) (Ab : Option Addr) (b : BL) (bl cb : Nat) (hbl : b.length = bl) (hR : Rd w L Ab (u8s b)) (hb : bl ≤ 5000) :
  Calls Try.prog 18 #[.pointer (some ⟨W, 0, none⟩), .agg #[.int .u8 (k : Int), .int .u8 (A8 : Int), .int .u8 (N8 : Int), .slice Ab bl cb]] w (StepPost w L W P1 P2 a Q1 Q2 ep m n) := by
 have h10 : k % 10 < 10 := Nat.mod_lt _ (by decide)
 rcases hc : k % 10 with _ | _ | _ | _ | _ | _ | _ | _ | _ | _ | c
 ·exact step_send0 w hS ha hm hn k A8 N8 hk hA hN8 hAa Ab b bl cb hbl hR hb hc
 ·exact step_send1 w hS ha hm hn k A8 N8 hk hA hN8 hAa Ab b bl cb hbl hR hb hc
 ·exact step_out w hS ha hm hn k A8 N8 hk hA hN8 hAa Ab b bl cb hbl hR hb hc
 ·exact step_again w hS ha hm hn k A8 N8 hk hA hN8 hAa Ab b bl cb hbl hR hb hc
 ·exact step_hear4 w hS ha hm hn k A8 N8 hk hA hN8 hAa Ab b bl cb hbl hR hb hc
 ·exact step_hear5 w hS ha hm hn k A8 N8 hk hA hN8 hAa Ab b bl cb hbl hR hb hc
 ·exact step_stay w hS ha hm hn k A8 N8 hk hA hN8 hAa Ab b bl cb hbl hR hb hc
 ·exact step_lost w hS ha hm hn k A8 N8 hk hA hN8 hAa Ab b bl cb hbl hR hb hc
 ·exact step_far w hS ha hm hn k A8 N8 hk hA hN8 hAa Ab b bl cb hbl hR hb hc
 ·exact step_turn w hS ha hm hn k A8 N8 hk hA hN8 hAa Ab b bl cb hbl hR hb hc
 ·omega
end Go.Proofs.Ytigmmikijjcdiaa
namespace Go.Proofs.Ytigmmikijjcdiaa
open Go.RowKit
theorem hear_acks {y : LE} {f : BL} {h n : Nat} {b : BL} (hok : LEok y) (hq : readL f = some (y.ep, h, n, b)) (hB : h < y.next) : (hearL y f).2.2.next = y.next ∧ (h + 1 = y.next → (hearL y f).2.2.sent = []) := by
 have hA : (ackL y h).next = y.next ∧ (h + 1 = y.next → (ackL y h).sent = []) := by
  refine ⟨(ackL_eqs y h).2.1, fun e => ?_⟩
  unfold ackL
  have hf : y.first + y.sent.length = y.next := by have := hok.first; unfold LE.first; omega
  by_cases hc : y.first ≤ h
  ·rw [if_pos hc]
   exact List.drop_eq_nil_of_le (by omega)
  ·rw [if_neg hc]
   exact List.eq_nil_of_length_eq_zero (by omega)
 have hT : ∀ k (s : LE), (tellL k s).2.next = s.next ∧ (tellL k s).2.sent = s.sent := fun k => by
  induction k with
  | zero => intro s; exact ⟨rfl, rfl⟩
  | succ k ih =>
   intro s
   rw [tellL]
   split
   ·exact ⟨rfl, rfl⟩
   ·exact ih _
 by_cases hn : n = 0
 ·subst hn
  have hc : hearL y f = (0, [], ackL y h) := by
   unfold hearL
   rw [hq]
   dsimp only
   rw [if_neg (by simp), if_neg (by omega), if_pos rfl]
  rw [hc]
  exact hA
 ·rw [hearL_ok hq hB hn]
  dsimp only
  obtain ⟨t1, t2⟩ := hT 65 (putL (ackL y h) n b)
  obtain ⟨b1, b2, b3, b4, b5, b6⟩ := putL_eqs (ackL y h) n b
  rw [t1, t2, b2, b3]
  exact hA
def RSt (w : World) (L W P1 P2 a Q1 Q2 ep n : Nat) (C : LE → LE → List BL → List BL → List BL → List BL → Prop) : Prop :=
 ∃ E Y U T tag B ways puts gots s t ps pt gs gt, NetM w L W E Y U T P1 P2 tag ways puts gots false ∧ Two w L B n Q1 Q2 s t ∧ B ≤ w.heap.size ∧
  w.cell? ⟨E, a, none⟩ = some (.pointer (some ⟨Q1, 0, none⟩)) ∧ w.cell? ⟨E, 1 - a, none⟩ = some (.pointer (some ⟨Q2, 0, none⟩)) ∧
  (puts[a]? = some ps ∧ puts[1 - a]? = some pt) ∧ (gots[a]? = some gs ∧ gots[1 - a]? = some gt) ∧ (Dir s t ps gt ∧ Dir t s pt gs ∧ s.ep = ep ∧ t.ep = ep ∧ ps.length ≤ 1000 ∧ pt.length ≤ 1000) ∧ C s t ps pt gs gt
theorem RSt.swap {w : World} {L W P1 P2 a Q1 Q2 ep n : Nat} {C : LE → LE → List BL → List BL → List BL → List BL → Prop} (h : RSt w L W P1 P2 a Q1 Q2 ep n C) (ha : a < 2) : RSt w L W P1 P2 (1 - a) Q2 Q1 ep n (fun s t ps pt gs gt => C t s pt ps gt gs) := by
 obtain ⟨E, Y, U, T, tag, B, ways, puts, gots, s, t, ps, pt, gs, gt, h1, h2, h3, h4, h5, h6, h7, ⟨d1, d2, d3, d4, d5, d6⟩, h9⟩ := h
 have e : 1 - (1 - a) = a := by omega
 exact ⟨E, Y, U, T, tag, B, ways, puts, gots, t, s, pt, ps, gt, gs, h1, h2.symm, h3, h5, by rw [e]; exact h4, ⟨h6.2, by rw [e]; exact h6.1⟩, ⟨h7.2, by rw [e]; exact h7.1⟩, ⟨d2, d1, d4, d3, d6, d5⟩, h9⟩
theorem RSt.imp {w : World} {L W P1 P2 a Q1 Q2 ep n n' : Nat} {C C' : LE → LE → List BL → List BL → List BL → List BL → Prop} (h : RSt w L W P1 P2 a Q1 Q2 ep n C) (hn : n ≤ n') (hC : ∀ s t ps pt gs gt, C s t ps pt gs gt → C' s t ps pt gs gt) : RSt w L W P1 P2 a Q1 Q2 ep n' C' := by
 obtain ⟨E, Y, U, T, tag, B, ways, puts, gots, s, t, ps, pt, gs, gt, h1, h2, h3, h4, h5, h6, h7, h8, h9⟩ := h
 exact ⟨E, Y, U, T, tag, B, ways, puts, gots, s, t, ps, pt, gs, gt, h1, h2.mono (Nat.le_refl _) hn, h3, h4, h5, h6, h7, h8, hC _ _ _ _ _ _ h9⟩
theorem RSt.of_nst {w : World} {L W P1 P2 a Q1 Q2 ep m n : Nat} (h : NSt w L W P1 P2 a Q1 Q2 ep m n) (hm : m ≤ 1000) : RSt w L W P1 P2 a Q1 Q2 ep n (fun _ _ _ _ _ _ => True) := by
 obtain ⟨E, Y, U, T, tag, B, ways, puts, gots, s, t, ws, wt, ps, pt, gs, gt, h1, h2, h3, h4, h5, h6, h7, h8, h9⟩ := h
 exact ⟨E, Y, U, T, tag, B, ways, puts, gots, s, t, ps, pt, gs, gt, h1, h2, h3, h4, h5, h7, h8, ⟨h9.d1, h9.d2, h9.e1, h9.e2, Nat.le_trans h9.p1 hm, Nat.le_trans h9.p2 hm⟩, trivial⟩
structure Rnd (s0 : LE) (t : LE) (ps pt gs gt : List BL) (j : Nat) : Prop where
 runs : Runs s0 t ps pt [] gs s0.first j gt
 ack : 0 < j → s0.heard = pt.length → t.sent = []
theorem Rnd.start {s0 t : LE} {ps pt gs gt : List BL} (h1 : Dir s0 t ps gt) (h2 : Dir t s0 pt gs) (he : s0.ep = t.ep) : Rnd s0 t ps pt gs gt 0 := ⟨⟨h1, h2, he, .inl (by have := h1.acked; omega), by have := h1.acked; omega⟩, fun h => absurd h (by decide)⟩
theorem Rnd.step {s0 t : LE} {ps pt gs gt : List BL} {j : Nat} (h : Rnd s0 t ps pt gs gt j) (hok : LEok s0) (hokt : LEok t) {f : BL} (hf : (fromL s0 s0.first true).1[j]? = some f) :
  (∃ k, (hearL t f).2.1 = (ps.drop gt.length).take k ∧ (hearL t f).2.1.length = k) ∧ (hearL t f).1 = 0 ∧ Rnd s0 (hearL t f).2.2 ps pt gs (gt ++ (hearL t f).2.1) (j + 1) ∧ f.length ≤ 1048605 := by
 obtain ⟨hd, hr, ⟨h1, n, b, hq⟩, hl1, hl2⟩ := h.runs.step hok (Nat.le_refl _) hf
 refine ⟨hd.told, hd.code, ⟨hr, fun _ hh => ?_⟩, hl2⟩
 have hnx := h.runs.bwd.next
 have hr2 : ∃ n b, readL f = some (s0.ep, s0.heard, n, b) := by
  rcases from_frame h.runs.fwd hok (Nat.le_refl _) hf with ⟨_, e, _⟩ | ⟨b, _, e, _⟩
  ·exact ⟨_, _, e⟩
  ·exact ⟨_, _, e⟩
 obtain ⟨n', b', hq'⟩ := hr2
 rw [h.runs.ep] at hq'
 exact (hear_acks hokt hq' (by omega)).2 (by omega)
theorem Rnd.fin {s0 t : LE} {ps pt gs gt : List BL} (h : Rnd s0 t ps pt gs gt (fromL s0 s0.first true).1.length) : gt = ps ∧ (s0.heard = pt.length → t.sent = []) := by
 refine ⟨(h.runs.all (fun _ => h.runs.low)).1, fun e => h.ack ?_ e⟩
 have hcase : (fromL s0 s0.first true).1 = if (framesL s0 s0.first).isEmpty && true then [fr 2 [] [s0.ep, s0.heard]] else framesL s0 s0.first := rfl
 rw [hcase]
 split
 ·simp
 ·rename_i hne
  rcases hq : framesL s0 s0.first with _ | ⟨x, l⟩
  ·rw [hq] at hne; simp at hne
  ·simp
end Go.Proofs.Ytigmmikijjcdiaa
namespace Go.Proofs.Ytigmmikijjcdiaa
open Go.RowKit
def MkRow (L : Nat) (w : World) (v : Value) : Prop := ∃ g, v = .slice (some ⟨g, 0, none⟩) 2 2 ∧ w.heap[g]? = some (.cells #[.slice none 0 0, .slice none 0 0] 48 (0, 0)) ∧ L ≤ g
def End1 (L ea : Nat) (w : World) (v : Value) : Prop := ∃ P M, v = .pointer (some ⟨P, 0, none⟩) ∧ EndM w P M none (fun _ => none) 0 (openL ea) ∧ L ≤ P ∧ L ≤ M
def Ends2 (L ea : Nat) (w : World) (v1 v2 : Value) : Prop := ∃ P1 M1 P2 M2, v1 = .pointer (some ⟨P1, 0, none⟩) ∧ v2 = .pointer (some ⟨P2, 0, none⟩) ∧ EndM w P1 M1 none (fun _ => none) 0 (openL ea) ∧ EndM w P2 M2 none (fun _ => none) 0 (openL ea) ∧ P1 ≠ P2 ∧ M1 ≠ M2 ∧ (L ≤ P1 ∧ L ≤ M1 ∧ L ≤ P2 ∧ L ≤ M2)
def ERow (L : Nat) (w : World) (v1 v2 v : Value) : Prop := ∃ E, v = .slice (some ⟨E, 0, none⟩) 2 2 ∧ w.heap[E]? = some (.cells #[v1, v2] 25 (0, 0)) ∧ L ≤ E
def WBox (L : Nat) (w : World) (e y u t v : Value) : Prop := ∃ W, v = .pointer (some ⟨W, 0, none⟩) ∧ w.heap[W]? = some (.cells #[e, y, u, t, .bool false] 45 (0, 0)) ∧ L ≤ W
section
variable {L ea : Nat} {w w' : World} {v v1 v2 e y u t : Value}
theorem MkRow.next (h : MkRow L w v) (hb : Below w.heap.size w w') : MkRow L w' v := by
 obtain ⟨g, h1, h2, h3⟩ := h
 exact ⟨g, h1, (hb.block g (lt_of_block h2)).trans h2, h3⟩
theorem End1.next (h : End1 L ea w v) (hb : Below w.heap.size w w') : End1 L ea w' v := by
 obtain ⟨P, M, h1, h2, h3⟩ := h
 exact ⟨P, M, h1, h2.next hb, h3⟩
theorem Ends2.next (h : Ends2 L ea w v1 v2) (hb : Below w.heap.size w w') : Ends2 L ea w' v1 v2 := by
 obtain ⟨P1, M1, P2, M2, h1, h2, h3, h4, h5⟩ := h
 exact ⟨P1, M1, P2, M2, h1, h2, h3.next hb, h4.next hb, h5⟩
theorem ERow.next (h : ERow L w v1 v2 v) (hb : Below w.heap.size w w') : ERow L w' v1 v2 v := by
 obtain ⟨g, h1, h2, h3⟩ := h
 exact ⟨g, h1, (hb.block g (lt_of_block h2)).trans h2, h3⟩
theorem WBox.next (h : WBox L w e y u t v) (hb : Below w.heap.size w w') : WBox L w' e y u t v := by
 obtain ⟨g, h1, h2, h3⟩ := h
 exact ⟨g, h1, (hb.block g (lt_of_block h2)).trans h2, h3⟩
end
structure OpenC (L ea : Nat) (w0 : World) (l : Nat → Bool) (u : Nat → Value) (w : World) : Prop where
 bl : Below L w0 w
 low : L ≤ w.heap.size
 k1 : l 1 = true → l 0 = true
 k3 : l 3 = true → l 1 = true ∧ l 2 = true
 k4 : l 4 = true → l 3 = true
 k8 : l 8 = true → l 4 = true ∧ l 5 = true ∧ l 6 = true ∧ l 7 = true
 k9 : l 9 = true → l 8 = true
 k10 : l 10 = true → l 9 = true
 c0 : l 0 = true → u 49 = .int .i64 (ea : Int)
 c2 : l 2 = true → u 51 = .int .i64 (ea : Int)
 c1 : l 1 = true → End1 L ea w (u 50)
 c3 : l 3 = true → Ends2 L ea w (u 50) (u 52)
 c4 : l 4 = true → ERow L w (u 50) (u 52) (u 53)
 c5 : l 5 = true → MkRow L w (u 54)
 c6 : l 6 = true → MkRow L w (u 55)
 c7 : l 7 = true → MkRow L w (u 56)
 d56 : l 5 = true → l 6 = true → u 54 ≠ u 55
 d57 : l 5 = true → l 7 = true → u 54 ≠ u 56
 d67 : l 6 = true → l 7 = true → u 55 ≠ u 56
 c8 : l 8 = true → u 57 = .agg #[u 53, u 54, u 55, u 56, .bool false]
 c9 : l 9 = true → WBox L w (u 53) (u 54) (u 55) (u 56) (u 58)
 c10 : l 10 = true → u 7 = u 58
theorem upl_mono {l : Nat → Bool} {i j : Nat} (h : l j = true) : upl l i j = true := by
 unfold upl
 split
 ·rfl
 ·exact h
theorem upl_ne {l : Nat → Bool} {i j : Nat} (h : upl l i j = true) (hj : j ≠ i) : l j = true := by
 unfold upl at h
 rwa [if_neg hj] at h
theorem upv_self (u : Nat → Value) (d : Nat) (v : Value) : upv u d v d = v := if_pos rfl
theorem upv_ne (u : Nat → Value) {d s : Nat} (v : Value) (h : s ≠ d) : upv u d v s = u s := if_neg h
theorem OpenC.s0 {L ea : Nat} {w0 : World} {l : Nat → Bool} {u : Nat → Value} {w : World} (hC : OpenC L ea w0 l u w) (hl : l 0 = false)  {v : Value} {w' : World} (hb : Below w.heap.size w w') (own : v = .int .i64 (ea : Int)) : OpenC L ea w0 (upl l 0) (upv u 49 v) w' := by
 have hno : ∀ {x : Nat → Bool}, l 0 = true → False := fun h => by rw [hl] at h; cases h
 exact ⟨(hC.bl.trans (hb.mono hC.low)), (Nat.le_trans hC.low hb.size), (fun h => upl_mono (hC.k1 (upl_ne h (by decide)))), (fun h => ⟨upl_mono (hC.k3 (upl_ne h (by decide))).1, upl_mono (hC.k3 (upl_ne h (by decide))).2⟩), (fun h => upl_mono (hC.k4 (upl_ne h (by decide)))), (fun h => ⟨upl_mono (hC.k8 (upl_ne h (by decide))).1, upl_mono (hC.k8 (upl_ne h (by decide))).2.1, upl_mono (hC.k8 (upl_ne h (by decide))).2.2.1, upl_mono (hC.k8 (upl_ne h (by decide))).2.2.2⟩), (fun h => upl_mono (hC.k9 (upl_ne h (by decide)))), (fun h => upl_mono (hC.k10 (upl_ne h (by decide)))), (fun h0 => by simp only [upv_self]; exact own), (fun h2 => by simp only [upv_ne u v (show 51 ≠ 49 by decide)]; exact hC.c2 (upl_ne h2 (by decide))), (fun h1 => by simp only [upv_ne u v (show 50 ≠ 49 by decide)]; exact (hC.c1 (upl_ne h1 (by decide))).next hb), (fun h3 => by simp only [upv_ne u v (show 50 ≠ 49 by decide), upv_ne u v (show 52 ≠ 49 by decide)]; exact (hC.c3 (upl_ne h3 (by decide))).next hb), (fun h4 => by simp only [upv_ne u v (show 50 ≠ 49 by decide), upv_ne u v (show 52 ≠ 49 by decide), upv_ne u v (show 53 ≠ 49 by decide)]; exact (hC.c4 (upl_ne h4 (by decide))).next hb), (fun h5 => by simp only [upv_ne u v (show 54 ≠ 49 by decide)]; exact (hC.c5 (upl_ne h5 (by decide))).next hb), (fun h6 => by simp only [upv_ne u v (show 55 ≠ 49 by decide)]; exact (hC.c6 (upl_ne h6 (by decide))).next hb), (fun h7 => by simp only [upv_ne u v (show 56 ≠ 49 by decide)]; exact (hC.c7 (upl_ne h7 (by decide))).next hb), (fun h5 h6 => by simp only [upv_ne u v (show 54 ≠ 49 by decide), upv_ne u v (show 55 ≠ 49 by decide)]; exact hC.d56 (upl_ne h5 (by decide)) (upl_ne h6 (by decide))), (fun h5 h7 => by simp only [upv_ne u v (show 54 ≠ 49 by decide), upv_ne u v (show 56 ≠ 49 by decide)]; exact hC.d57 (upl_ne h5 (by decide)) (upl_ne h7 (by decide))), (fun h6 h7 => by simp only [upv_ne u v (show 55 ≠ 49 by decide), upv_ne u v (show 56 ≠ 49 by decide)]; exact hC.d67 (upl_ne h6 (by decide)) (upl_ne h7 (by decide))), (fun h8 => by simp only [upv_ne u v (show 53 ≠ 49 by decide), upv_ne u v (show 54 ≠ 49 by decide), upv_ne u v (show 55 ≠ 49 by decide), upv_ne u v (show 56 ≠ 49 by decide), upv_ne u v (show 57 ≠ 49 by decide)]; exact hC.c8 (upl_ne h8 (by decide))), (fun h9 => by simp only [upv_ne u v (show 53 ≠ 49 by decide), upv_ne u v (show 54 ≠ 49 by decide), upv_ne u v (show 55 ≠ 49 by decide), upv_ne u v (show 56 ≠ 49 by decide), upv_ne u v (show 58 ≠ 49 by decide)]; exact (hC.c9 (upl_ne h9 (by decide))).next hb), (fun h10 => by simp only [upv_ne u v (show 7 ≠ 49 by decide), upv_ne u v (show 58 ≠ 49 by decide)]; exact hC.c10 (upl_ne h10 (by decide)))⟩
theorem OpenC.s1 {L ea : Nat} {w0 : World} {l : Nat → Bool} {u : Nat → Value} {w : World} (hC : OpenC L ea w0 l u w) (hl : l 1 = false) (hp0 : l 0 = true) {v : Value} {w' : World} (hb : Below w.heap.size w w') (own : End1 L ea w' v) : OpenC L ea w0 (upl l 1) (upv u 50 v) w' := by
 have hno : ∀ {x : Nat → Bool}, l 1 = true → False := fun h => by rw [hl] at h; cases h
 exact ⟨(hC.bl.trans (hb.mono hC.low)), (Nat.le_trans hC.low hb.size), (fun _ => upl_mono hp0), (fun h => ⟨upl_mono (hC.k3 (upl_ne h (by decide))).1, upl_mono (hC.k3 (upl_ne h (by decide))).2⟩), (fun h => upl_mono (hC.k4 (upl_ne h (by decide)))), (fun h => ⟨upl_mono (hC.k8 (upl_ne h (by decide))).1, upl_mono (hC.k8 (upl_ne h (by decide))).2.1, upl_mono (hC.k8 (upl_ne h (by decide))).2.2.1, upl_mono (hC.k8 (upl_ne h (by decide))).2.2.2⟩), (fun h => upl_mono (hC.k9 (upl_ne h (by decide)))), (fun h => upl_mono (hC.k10 (upl_ne h (by decide)))), (fun h0 => by simp only [upv_ne u v (show 49 ≠ 50 by decide)]; exact hC.c0 (upl_ne h0 (by decide))), (fun h2 => by simp only [upv_ne u v (show 51 ≠ 50 by decide)]; exact hC.c2 (upl_ne h2 (by decide))), (fun h1 => by simp only [upv_self]; exact own), (fun h3 => absurd (hC.k3 (upl_ne h3 (by decide))).1 (by rw [hl]; decide)), (fun h4 => absurd (hC.k3 (hC.k4 (upl_ne h4 (by decide)))).1 (by rw [hl]; decide)), (fun h5 => by simp only [upv_ne u v (show 54 ≠ 50 by decide)]; exact (hC.c5 (upl_ne h5 (by decide))).next hb), (fun h6 => by simp only [upv_ne u v (show 55 ≠ 50 by decide)]; exact (hC.c6 (upl_ne h6 (by decide))).next hb), (fun h7 => by simp only [upv_ne u v (show 56 ≠ 50 by decide)]; exact (hC.c7 (upl_ne h7 (by decide))).next hb), (fun h5 h6 => by simp only [upv_ne u v (show 54 ≠ 50 by decide), upv_ne u v (show 55 ≠ 50 by decide)]; exact hC.d56 (upl_ne h5 (by decide)) (upl_ne h6 (by decide))), (fun h5 h7 => by simp only [upv_ne u v (show 54 ≠ 50 by decide), upv_ne u v (show 56 ≠ 50 by decide)]; exact hC.d57 (upl_ne h5 (by decide)) (upl_ne h7 (by decide))), (fun h6 h7 => by simp only [upv_ne u v (show 55 ≠ 50 by decide), upv_ne u v (show 56 ≠ 50 by decide)]; exact hC.d67 (upl_ne h6 (by decide)) (upl_ne h7 (by decide))), (fun h8 => by simp only [upv_ne u v (show 53 ≠ 50 by decide), upv_ne u v (show 54 ≠ 50 by decide), upv_ne u v (show 55 ≠ 50 by decide), upv_ne u v (show 56 ≠ 50 by decide), upv_ne u v (show 57 ≠ 50 by decide)]; exact hC.c8 (upl_ne h8 (by decide))), (fun h9 => by simp only [upv_ne u v (show 53 ≠ 50 by decide), upv_ne u v (show 54 ≠ 50 by decide), upv_ne u v (show 55 ≠ 50 by decide), upv_ne u v (show 56 ≠ 50 by decide), upv_ne u v (show 58 ≠ 50 by decide)]; exact (hC.c9 (upl_ne h9 (by decide))).next hb), (fun h10 => by simp only [upv_ne u v (show 7 ≠ 50 by decide), upv_ne u v (show 58 ≠ 50 by decide)]; exact hC.c10 (upl_ne h10 (by decide)))⟩
theorem OpenC.s2 {L ea : Nat} {w0 : World} {l : Nat → Bool} {u : Nat → Value} {w : World} (hC : OpenC L ea w0 l u w) (hl : l 2 = false)  {v : Value} {w' : World} (hb : Below w.heap.size w w') (own : v = .int .i64 (ea : Int)) : OpenC L ea w0 (upl l 2) (upv u 51 v) w' := by
 have hno : ∀ {x : Nat → Bool}, l 2 = true → False := fun h => by rw [hl] at h; cases h
 exact ⟨(hC.bl.trans (hb.mono hC.low)), (Nat.le_trans hC.low hb.size), (fun h => upl_mono (hC.k1 (upl_ne h (by decide)))), (fun h => ⟨upl_mono (hC.k3 (upl_ne h (by decide))).1, upl_mono (hC.k3 (upl_ne h (by decide))).2⟩), (fun h => upl_mono (hC.k4 (upl_ne h (by decide)))), (fun h => ⟨upl_mono (hC.k8 (upl_ne h (by decide))).1, upl_mono (hC.k8 (upl_ne h (by decide))).2.1, upl_mono (hC.k8 (upl_ne h (by decide))).2.2.1, upl_mono (hC.k8 (upl_ne h (by decide))).2.2.2⟩), (fun h => upl_mono (hC.k9 (upl_ne h (by decide)))), (fun h => upl_mono (hC.k10 (upl_ne h (by decide)))), (fun h0 => by simp only [upv_ne u v (show 49 ≠ 51 by decide)]; exact hC.c0 (upl_ne h0 (by decide))), (fun h2 => by simp only [upv_self]; exact own), (fun h1 => by simp only [upv_ne u v (show 50 ≠ 51 by decide)]; exact (hC.c1 (upl_ne h1 (by decide))).next hb), (fun h3 => by simp only [upv_ne u v (show 50 ≠ 51 by decide), upv_ne u v (show 52 ≠ 51 by decide)]; exact (hC.c3 (upl_ne h3 (by decide))).next hb), (fun h4 => by simp only [upv_ne u v (show 50 ≠ 51 by decide), upv_ne u v (show 52 ≠ 51 by decide), upv_ne u v (show 53 ≠ 51 by decide)]; exact (hC.c4 (upl_ne h4 (by decide))).next hb), (fun h5 => by simp only [upv_ne u v (show 54 ≠ 51 by decide)]; exact (hC.c5 (upl_ne h5 (by decide))).next hb), (fun h6 => by simp only [upv_ne u v (show 55 ≠ 51 by decide)]; exact (hC.c6 (upl_ne h6 (by decide))).next hb), (fun h7 => by simp only [upv_ne u v (show 56 ≠ 51 by decide)]; exact (hC.c7 (upl_ne h7 (by decide))).next hb), (fun h5 h6 => by simp only [upv_ne u v (show 54 ≠ 51 by decide), upv_ne u v (show 55 ≠ 51 by decide)]; exact hC.d56 (upl_ne h5 (by decide)) (upl_ne h6 (by decide))), (fun h5 h7 => by simp only [upv_ne u v (show 54 ≠ 51 by decide), upv_ne u v (show 56 ≠ 51 by decide)]; exact hC.d57 (upl_ne h5 (by decide)) (upl_ne h7 (by decide))), (fun h6 h7 => by simp only [upv_ne u v (show 55 ≠ 51 by decide), upv_ne u v (show 56 ≠ 51 by decide)]; exact hC.d67 (upl_ne h6 (by decide)) (upl_ne h7 (by decide))), (fun h8 => by simp only [upv_ne u v (show 53 ≠ 51 by decide), upv_ne u v (show 54 ≠ 51 by decide), upv_ne u v (show 55 ≠ 51 by decide), upv_ne u v (show 56 ≠ 51 by decide), upv_ne u v (show 57 ≠ 51 by decide)]; exact hC.c8 (upl_ne h8 (by decide))), (fun h9 => by simp only [upv_ne u v (show 53 ≠ 51 by decide), upv_ne u v (show 54 ≠ 51 by decide), upv_ne u v (show 55 ≠ 51 by decide), upv_ne u v (show 56 ≠ 51 by decide), upv_ne u v (show 58 ≠ 51 by decide)]; exact (hC.c9 (upl_ne h9 (by decide))).next hb), (fun h10 => by simp only [upv_ne u v (show 7 ≠ 51 by decide), upv_ne u v (show 58 ≠ 51 by decide)]; exact hC.c10 (upl_ne h10 (by decide)))⟩
theorem OpenC.s3 {L ea : Nat} {w0 : World} {l : Nat → Bool} {u : Nat → Value} {w : World} (hC : OpenC L ea w0 l u w) (hl : l 3 = false) (hp1 : l 1 = true) (hp2 : l 2 = true) {v : Value} {w' : World} (hb : Below w.heap.size w w') (own : Ends2 L ea w' (u 50) v) : OpenC L ea w0 (upl l 3) (upv u 52 v) w' := by
 have hno : ∀ {x : Nat → Bool}, l 3 = true → False := fun h => by rw [hl] at h; cases h
 exact ⟨(hC.bl.trans (hb.mono hC.low)), (Nat.le_trans hC.low hb.size), (fun h => upl_mono (hC.k1 (upl_ne h (by decide)))), (fun _ => ⟨upl_mono hp1, upl_mono hp2⟩), (fun h => upl_mono (hC.k4 (upl_ne h (by decide)))), (fun h => ⟨upl_mono (hC.k8 (upl_ne h (by decide))).1, upl_mono (hC.k8 (upl_ne h (by decide))).2.1, upl_mono (hC.k8 (upl_ne h (by decide))).2.2.1, upl_mono (hC.k8 (upl_ne h (by decide))).2.2.2⟩), (fun h => upl_mono (hC.k9 (upl_ne h (by decide)))), (fun h => upl_mono (hC.k10 (upl_ne h (by decide)))), (fun h0 => by simp only [upv_ne u v (show 49 ≠ 52 by decide)]; exact hC.c0 (upl_ne h0 (by decide))), (fun h2 => by simp only [upv_ne u v (show 51 ≠ 52 by decide)]; exact hC.c2 (upl_ne h2 (by decide))), (fun h1 => by simp only [upv_ne u v (show 50 ≠ 52 by decide)]; exact (hC.c1 (upl_ne h1 (by decide))).next hb), (fun h3 => by simp only [upv_ne u v (show 50 ≠ 52 by decide), upv_self]; exact own), (fun h4 => absurd (hC.k4 (upl_ne h4 (by decide))) (by rw [hl]; decide)), (fun h5 => by simp only [upv_ne u v (show 54 ≠ 52 by decide)]; exact (hC.c5 (upl_ne h5 (by decide))).next hb), (fun h6 => by simp only [upv_ne u v (show 55 ≠ 52 by decide)]; exact (hC.c6 (upl_ne h6 (by decide))).next hb), (fun h7 => by simp only [upv_ne u v (show 56 ≠ 52 by decide)]; exact (hC.c7 (upl_ne h7 (by decide))).next hb), (fun h5 h6 => by simp only [upv_ne u v (show 54 ≠ 52 by decide), upv_ne u v (show 55 ≠ 52 by decide)]; exact hC.d56 (upl_ne h5 (by decide)) (upl_ne h6 (by decide))), (fun h5 h7 => by simp only [upv_ne u v (show 54 ≠ 52 by decide), upv_ne u v (show 56 ≠ 52 by decide)]; exact hC.d57 (upl_ne h5 (by decide)) (upl_ne h7 (by decide))), (fun h6 h7 => by simp only [upv_ne u v (show 55 ≠ 52 by decide), upv_ne u v (show 56 ≠ 52 by decide)]; exact hC.d67 (upl_ne h6 (by decide)) (upl_ne h7 (by decide))), (fun h8 => by simp only [upv_ne u v (show 53 ≠ 52 by decide), upv_ne u v (show 54 ≠ 52 by decide), upv_ne u v (show 55 ≠ 52 by decide), upv_ne u v (show 56 ≠ 52 by decide), upv_ne u v (show 57 ≠ 52 by decide)]; exact hC.c8 (upl_ne h8 (by decide))), (fun h9 => by simp only [upv_ne u v (show 53 ≠ 52 by decide), upv_ne u v (show 54 ≠ 52 by decide), upv_ne u v (show 55 ≠ 52 by decide), upv_ne u v (show 56 ≠ 52 by decide), upv_ne u v (show 58 ≠ 52 by decide)]; exact (hC.c9 (upl_ne h9 (by decide))).next hb), (fun h10 => by simp only [upv_ne u v (show 7 ≠ 52 by decide), upv_ne u v (show 58 ≠ 52 by decide)]; exact hC.c10 (upl_ne h10 (by decide)))⟩
theorem OpenC.s4 {L ea : Nat} {w0 : World} {l : Nat → Bool} {u : Nat → Value} {w : World} (hC : OpenC L ea w0 l u w) (hl : l 4 = false) (hp3 : l 3 = true) {v : Value} {w' : World} (hb : Below w.heap.size w w') (own : ERow L w' (u 50) (u 52) v) : OpenC L ea w0 (upl l 4) (upv u 53 v) w' := by
 have hno : ∀ {x : Nat → Bool}, l 4 = true → False := fun h => by rw [hl] at h; cases h
 exact ⟨(hC.bl.trans (hb.mono hC.low)), (Nat.le_trans hC.low hb.size), (fun h => upl_mono (hC.k1 (upl_ne h (by decide)))), (fun h => ⟨upl_mono (hC.k3 (upl_ne h (by decide))).1, upl_mono (hC.k3 (upl_ne h (by decide))).2⟩), (fun _ => upl_mono hp3), (fun h => ⟨upl_mono (hC.k8 (upl_ne h (by decide))).1, upl_mono (hC.k8 (upl_ne h (by decide))).2.1, upl_mono (hC.k8 (upl_ne h (by decide))).2.2.1, upl_mono (hC.k8 (upl_ne h (by decide))).2.2.2⟩), (fun h => upl_mono (hC.k9 (upl_ne h (by decide)))), (fun h => upl_mono (hC.k10 (upl_ne h (by decide)))), (fun h0 => by simp only [upv_ne u v (show 49 ≠ 53 by decide)]; exact hC.c0 (upl_ne h0 (by decide))), (fun h2 => by simp only [upv_ne u v (show 51 ≠ 53 by decide)]; exact hC.c2 (upl_ne h2 (by decide))), (fun h1 => by simp only [upv_ne u v (show 50 ≠ 53 by decide)]; exact (hC.c1 (upl_ne h1 (by decide))).next hb), (fun h3 => by simp only [upv_ne u v (show 50 ≠ 53 by decide), upv_ne u v (show 52 ≠ 53 by decide)]; exact (hC.c3 (upl_ne h3 (by decide))).next hb), (fun h4 => by simp only [upv_ne u v (show 50 ≠ 53 by decide), upv_ne u v (show 52 ≠ 53 by decide), upv_self]; exact own), (fun h5 => by simp only [upv_ne u v (show 54 ≠ 53 by decide)]; exact (hC.c5 (upl_ne h5 (by decide))).next hb), (fun h6 => by simp only [upv_ne u v (show 55 ≠ 53 by decide)]; exact (hC.c6 (upl_ne h6 (by decide))).next hb), (fun h7 => by simp only [upv_ne u v (show 56 ≠ 53 by decide)]; exact (hC.c7 (upl_ne h7 (by decide))).next hb), (fun h5 h6 => by simp only [upv_ne u v (show 54 ≠ 53 by decide), upv_ne u v (show 55 ≠ 53 by decide)]; exact hC.d56 (upl_ne h5 (by decide)) (upl_ne h6 (by decide))), (fun h5 h7 => by simp only [upv_ne u v (show 54 ≠ 53 by decide), upv_ne u v (show 56 ≠ 53 by decide)]; exact hC.d57 (upl_ne h5 (by decide)) (upl_ne h7 (by decide))), (fun h6 h7 => by simp only [upv_ne u v (show 55 ≠ 53 by decide), upv_ne u v (show 56 ≠ 53 by decide)]; exact hC.d67 (upl_ne h6 (by decide)) (upl_ne h7 (by decide))), (fun h8 => absurd (hC.k8 (upl_ne h8 (by decide))).1 (by rw [hl]; decide)), (fun h9 => absurd (hC.k8 (hC.k9 (upl_ne h9 (by decide)))).1 (by rw [hl]; decide)), (fun h10 => by simp only [upv_ne u v (show 7 ≠ 53 by decide), upv_ne u v (show 58 ≠ 53 by decide)]; exact hC.c10 (upl_ne h10 (by decide)))⟩
theorem OpenC.s5 {L ea : Nat} {w0 : World} {l : Nat → Bool} {u : Nat → Value} {w : World} (hC : OpenC L ea w0 l u w) (hl : l 5 = false)  {v : Value} {w' : World} (hb : Below w.heap.size w w') (own : MkRow L w' v) (hfr : ∀ v0, MkRow L w v0 → v ≠ v0) : OpenC L ea w0 (upl l 5) (upv u 54 v) w' := by
 have hno : ∀ {x : Nat → Bool}, l 5 = true → False := fun h => by rw [hl] at h; cases h
 exact ⟨(hC.bl.trans (hb.mono hC.low)), (Nat.le_trans hC.low hb.size), (fun h => upl_mono (hC.k1 (upl_ne h (by decide)))), (fun h => ⟨upl_mono (hC.k3 (upl_ne h (by decide))).1, upl_mono (hC.k3 (upl_ne h (by decide))).2⟩), (fun h => upl_mono (hC.k4 (upl_ne h (by decide)))), (fun h => ⟨upl_mono (hC.k8 (upl_ne h (by decide))).1, upl_mono (hC.k8 (upl_ne h (by decide))).2.1, upl_mono (hC.k8 (upl_ne h (by decide))).2.2.1, upl_mono (hC.k8 (upl_ne h (by decide))).2.2.2⟩), (fun h => upl_mono (hC.k9 (upl_ne h (by decide)))), (fun h => upl_mono (hC.k10 (upl_ne h (by decide)))), (fun h0 => by simp only [upv_ne u v (show 49 ≠ 54 by decide)]; exact hC.c0 (upl_ne h0 (by decide))), (fun h2 => by simp only [upv_ne u v (show 51 ≠ 54 by decide)]; exact hC.c2 (upl_ne h2 (by decide))), (fun h1 => by simp only [upv_ne u v (show 50 ≠ 54 by decide)]; exact (hC.c1 (upl_ne h1 (by decide))).next hb), (fun h3 => by simp only [upv_ne u v (show 50 ≠ 54 by decide), upv_ne u v (show 52 ≠ 54 by decide)]; exact (hC.c3 (upl_ne h3 (by decide))).next hb), (fun h4 => by simp only [upv_ne u v (show 50 ≠ 54 by decide), upv_ne u v (show 52 ≠ 54 by decide), upv_ne u v (show 53 ≠ 54 by decide)]; exact (hC.c4 (upl_ne h4 (by decide))).next hb), (fun h5 => by simp only [upv_self]; exact own), (fun h6 => by simp only [upv_ne u v (show 55 ≠ 54 by decide)]; exact (hC.c6 (upl_ne h6 (by decide))).next hb), (fun h7 => by simp only [upv_ne u v (show 56 ≠ 54 by decide)]; exact (hC.c7 (upl_ne h7 (by decide))).next hb), (fun h5 h6 => by simp only [upv_self, upv_ne u v (show 55 ≠ 54 by decide)]; exact hfr _ (hC.c6 (upl_ne h6 (by decide)))), (fun h5 h7 => by simp only [upv_self, upv_ne u v (show 56 ≠ 54 by decide)]; exact hfr _ (hC.c7 (upl_ne h7 (by decide)))), (fun h6 h7 => by simp only [upv_ne u v (show 55 ≠ 54 by decide), upv_ne u v (show 56 ≠ 54 by decide)]; exact hC.d67 (upl_ne h6 (by decide)) (upl_ne h7 (by decide))), (fun h8 => absurd (hC.k8 (upl_ne h8 (by decide))).2.1 (by rw [hl]; decide)), (fun h9 => absurd (hC.k8 (hC.k9 (upl_ne h9 (by decide)))).2.1 (by rw [hl]; decide)), (fun h10 => by simp only [upv_ne u v (show 7 ≠ 54 by decide), upv_ne u v (show 58 ≠ 54 by decide)]; exact hC.c10 (upl_ne h10 (by decide)))⟩
theorem OpenC.s6 {L ea : Nat} {w0 : World} {l : Nat → Bool} {u : Nat → Value} {w : World} (hC : OpenC L ea w0 l u w) (hl : l 6 = false)  {v : Value} {w' : World} (hb : Below w.heap.size w w') (own : MkRow L w' v) (hfr : ∀ v0, MkRow L w v0 → v ≠ v0) : OpenC L ea w0 (upl l 6) (upv u 55 v) w' := by
 have hno : ∀ {x : Nat → Bool}, l 6 = true → False := fun h => by rw [hl] at h; cases h
 exact ⟨(hC.bl.trans (hb.mono hC.low)), (Nat.le_trans hC.low hb.size), (fun h => upl_mono (hC.k1 (upl_ne h (by decide)))), (fun h => ⟨upl_mono (hC.k3 (upl_ne h (by decide))).1, upl_mono (hC.k3 (upl_ne h (by decide))).2⟩), (fun h => upl_mono (hC.k4 (upl_ne h (by decide)))), (fun h => ⟨upl_mono (hC.k8 (upl_ne h (by decide))).1, upl_mono (hC.k8 (upl_ne h (by decide))).2.1, upl_mono (hC.k8 (upl_ne h (by decide))).2.2.1, upl_mono (hC.k8 (upl_ne h (by decide))).2.2.2⟩), (fun h => upl_mono (hC.k9 (upl_ne h (by decide)))), (fun h => upl_mono (hC.k10 (upl_ne h (by decide)))), (fun h0 => by simp only [upv_ne u v (show 49 ≠ 55 by decide)]; exact hC.c0 (upl_ne h0 (by decide))), (fun h2 => by simp only [upv_ne u v (show 51 ≠ 55 by decide)]; exact hC.c2 (upl_ne h2 (by decide))), (fun h1 => by simp only [upv_ne u v (show 50 ≠ 55 by decide)]; exact (hC.c1 (upl_ne h1 (by decide))).next hb), (fun h3 => by simp only [upv_ne u v (show 50 ≠ 55 by decide), upv_ne u v (show 52 ≠ 55 by decide)]; exact (hC.c3 (upl_ne h3 (by decide))).next hb), (fun h4 => by simp only [upv_ne u v (show 50 ≠ 55 by decide), upv_ne u v (show 52 ≠ 55 by decide), upv_ne u v (show 53 ≠ 55 by decide)]; exact (hC.c4 (upl_ne h4 (by decide))).next hb), (fun h5 => by simp only [upv_ne u v (show 54 ≠ 55 by decide)]; exact (hC.c5 (upl_ne h5 (by decide))).next hb), (fun h6 => by simp only [upv_self]; exact own), (fun h7 => by simp only [upv_ne u v (show 56 ≠ 55 by decide)]; exact (hC.c7 (upl_ne h7 (by decide))).next hb), (fun h5 h6 => by simp only [upv_ne u v (show 54 ≠ 55 by decide), upv_self]; exact (hfr _ (hC.c5 (upl_ne h5 (by decide)))).symm), (fun h5 h7 => by simp only [upv_ne u v (show 54 ≠ 55 by decide), upv_ne u v (show 56 ≠ 55 by decide)]; exact hC.d57 (upl_ne h5 (by decide)) (upl_ne h7 (by decide))), (fun h6 h7 => by simp only [upv_self, upv_ne u v (show 56 ≠ 55 by decide)]; exact hfr _ (hC.c7 (upl_ne h7 (by decide)))), (fun h8 => absurd (hC.k8 (upl_ne h8 (by decide))).2.2.1 (by rw [hl]; decide)), (fun h9 => absurd (hC.k8 (hC.k9 (upl_ne h9 (by decide)))).2.2.1 (by rw [hl]; decide)), (fun h10 => by simp only [upv_ne u v (show 7 ≠ 55 by decide), upv_ne u v (show 58 ≠ 55 by decide)]; exact hC.c10 (upl_ne h10 (by decide)))⟩
theorem OpenC.s7 {L ea : Nat} {w0 : World} {l : Nat → Bool} {u : Nat → Value} {w : World} (hC : OpenC L ea w0 l u w) (hl : l 7 = false)  {v : Value} {w' : World} (hb : Below w.heap.size w w') (own : MkRow L w' v) (hfr : ∀ v0, MkRow L w v0 → v ≠ v0) : OpenC L ea w0 (upl l 7) (upv u 56 v) w' := by
 have hno : ∀ {x : Nat → Bool}, l 7 = true → False := fun h => by rw [hl] at h; cases h
 exact ⟨(hC.bl.trans (hb.mono hC.low)), (Nat.le_trans hC.low hb.size), (fun h => upl_mono (hC.k1 (upl_ne h (by decide)))), (fun h => ⟨upl_mono (hC.k3 (upl_ne h (by decide))).1, upl_mono (hC.k3 (upl_ne h (by decide))).2⟩), (fun h => upl_mono (hC.k4 (upl_ne h (by decide)))), (fun h => ⟨upl_mono (hC.k8 (upl_ne h (by decide))).1, upl_mono (hC.k8 (upl_ne h (by decide))).2.1, upl_mono (hC.k8 (upl_ne h (by decide))).2.2.1, upl_mono (hC.k8 (upl_ne h (by decide))).2.2.2⟩), (fun h => upl_mono (hC.k9 (upl_ne h (by decide)))), (fun h => upl_mono (hC.k10 (upl_ne h (by decide)))), (fun h0 => by simp only [upv_ne u v (show 49 ≠ 56 by decide)]; exact hC.c0 (upl_ne h0 (by decide))), (fun h2 => by simp only [upv_ne u v (show 51 ≠ 56 by decide)]; exact hC.c2 (upl_ne h2 (by decide))), (fun h1 => by simp only [upv_ne u v (show 50 ≠ 56 by decide)]; exact (hC.c1 (upl_ne h1 (by decide))).next hb), (fun h3 => by simp only [upv_ne u v (show 50 ≠ 56 by decide), upv_ne u v (show 52 ≠ 56 by decide)]; exact (hC.c3 (upl_ne h3 (by decide))).next hb), (fun h4 => by simp only [upv_ne u v (show 50 ≠ 56 by decide), upv_ne u v (show 52 ≠ 56 by decide), upv_ne u v (show 53 ≠ 56 by decide)]; exact (hC.c4 (upl_ne h4 (by decide))).next hb), (fun h5 => by simp only [upv_ne u v (show 54 ≠ 56 by decide)]; exact (hC.c5 (upl_ne h5 (by decide))).next hb), (fun h6 => by simp only [upv_ne u v (show 55 ≠ 56 by decide)]; exact (hC.c6 (upl_ne h6 (by decide))).next hb), (fun h7 => by simp only [upv_self]; exact own), (fun h5 h6 => by simp only [upv_ne u v (show 54 ≠ 56 by decide), upv_ne u v (show 55 ≠ 56 by decide)]; exact hC.d56 (upl_ne h5 (by decide)) (upl_ne h6 (by decide))), (fun h5 h7 => by simp only [upv_ne u v (show 54 ≠ 56 by decide), upv_self]; exact (hfr _ (hC.c5 (upl_ne h5 (by decide)))).symm), (fun h6 h7 => by simp only [upv_ne u v (show 55 ≠ 56 by decide), upv_self]; exact (hfr _ (hC.c6 (upl_ne h6 (by decide)))).symm), (fun h8 => absurd (hC.k8 (upl_ne h8 (by decide))).2.2.2 (by rw [hl]; decide)), (fun h9 => absurd (hC.k8 (hC.k9 (upl_ne h9 (by decide)))).2.2.2 (by rw [hl]; decide)), (fun h10 => by simp only [upv_ne u v (show 7 ≠ 56 by decide), upv_ne u v (show 58 ≠ 56 by decide)]; exact hC.c10 (upl_ne h10 (by decide)))⟩
theorem OpenC.s8 {L ea : Nat} {w0 : World} {l : Nat → Bool} {u : Nat → Value} {w : World} (hC : OpenC L ea w0 l u w) (hl : l 8 = false) (hp4 : l 4 = true) (hp5 : l 5 = true) (hp6 : l 6 = true) (hp7 : l 7 = true) {v : Value} {w' : World} (hb : Below w.heap.size w w') (own : v = .agg #[u 53, u 54, u 55, u 56, .bool false]) : OpenC L ea w0 (upl l 8) (upv u 57 v) w' := by
 have hno : ∀ {x : Nat → Bool}, l 8 = true → False := fun h => by rw [hl] at h; cases h
 exact ⟨(hC.bl.trans (hb.mono hC.low)), (Nat.le_trans hC.low hb.size), (fun h => upl_mono (hC.k1 (upl_ne h (by decide)))), (fun h => ⟨upl_mono (hC.k3 (upl_ne h (by decide))).1, upl_mono (hC.k3 (upl_ne h (by decide))).2⟩), (fun h => upl_mono (hC.k4 (upl_ne h (by decide)))), (fun _ => ⟨upl_mono hp4, upl_mono hp5, upl_mono hp6, upl_mono hp7⟩), (fun h => upl_mono (hC.k9 (upl_ne h (by decide)))), (fun h => upl_mono (hC.k10 (upl_ne h (by decide)))), (fun h0 => by simp only [upv_ne u v (show 49 ≠ 57 by decide)]; exact hC.c0 (upl_ne h0 (by decide))), (fun h2 => by simp only [upv_ne u v (show 51 ≠ 57 by decide)]; exact hC.c2 (upl_ne h2 (by decide))), (fun h1 => by simp only [upv_ne u v (show 50 ≠ 57 by decide)]; exact (hC.c1 (upl_ne h1 (by decide))).next hb), (fun h3 => by simp only [upv_ne u v (show 50 ≠ 57 by decide), upv_ne u v (show 52 ≠ 57 by decide)]; exact (hC.c3 (upl_ne h3 (by decide))).next hb), (fun h4 => by simp only [upv_ne u v (show 50 ≠ 57 by decide), upv_ne u v (show 52 ≠ 57 by decide), upv_ne u v (show 53 ≠ 57 by decide)]; exact (hC.c4 (upl_ne h4 (by decide))).next hb), (fun h5 => by simp only [upv_ne u v (show 54 ≠ 57 by decide)]; exact (hC.c5 (upl_ne h5 (by decide))).next hb), (fun h6 => by simp only [upv_ne u v (show 55 ≠ 57 by decide)]; exact (hC.c6 (upl_ne h6 (by decide))).next hb), (fun h7 => by simp only [upv_ne u v (show 56 ≠ 57 by decide)]; exact (hC.c7 (upl_ne h7 (by decide))).next hb), (fun h5 h6 => by simp only [upv_ne u v (show 54 ≠ 57 by decide), upv_ne u v (show 55 ≠ 57 by decide)]; exact hC.d56 (upl_ne h5 (by decide)) (upl_ne h6 (by decide))), (fun h5 h7 => by simp only [upv_ne u v (show 54 ≠ 57 by decide), upv_ne u v (show 56 ≠ 57 by decide)]; exact hC.d57 (upl_ne h5 (by decide)) (upl_ne h7 (by decide))), (fun h6 h7 => by simp only [upv_ne u v (show 55 ≠ 57 by decide), upv_ne u v (show 56 ≠ 57 by decide)]; exact hC.d67 (upl_ne h6 (by decide)) (upl_ne h7 (by decide))), (fun h8 => by simp only [upv_ne u v (show 53 ≠ 57 by decide), upv_ne u v (show 54 ≠ 57 by decide), upv_ne u v (show 55 ≠ 57 by decide), upv_ne u v (show 56 ≠ 57 by decide), upv_self]; exact own), (fun h9 => by simp only [upv_ne u v (show 53 ≠ 57 by decide), upv_ne u v (show 54 ≠ 57 by decide), upv_ne u v (show 55 ≠ 57 by decide), upv_ne u v (show 56 ≠ 57 by decide), upv_ne u v (show 58 ≠ 57 by decide)]; exact (hC.c9 (upl_ne h9 (by decide))).next hb), (fun h10 => by simp only [upv_ne u v (show 7 ≠ 57 by decide), upv_ne u v (show 58 ≠ 57 by decide)]; exact hC.c10 (upl_ne h10 (by decide)))⟩
theorem OpenC.s9 {L ea : Nat} {w0 : World} {l : Nat → Bool} {u : Nat → Value} {w : World} (hC : OpenC L ea w0 l u w) (hl : l 9 = false) (hp8 : l 8 = true) {v : Value} {w' : World} (hb : Below w.heap.size w w') (own : WBox L w' (u 53) (u 54) (u 55) (u 56) v) : OpenC L ea w0 (upl l 9) (upv u 58 v) w' := by
 have hno : ∀ {x : Nat → Bool}, l 9 = true → False := fun h => by rw [hl] at h; cases h
 exact ⟨(hC.bl.trans (hb.mono hC.low)), (Nat.le_trans hC.low hb.size), (fun h => upl_mono (hC.k1 (upl_ne h (by decide)))), (fun h => ⟨upl_mono (hC.k3 (upl_ne h (by decide))).1, upl_mono (hC.k3 (upl_ne h (by decide))).2⟩), (fun h => upl_mono (hC.k4 (upl_ne h (by decide)))), (fun h => ⟨upl_mono (hC.k8 (upl_ne h (by decide))).1, upl_mono (hC.k8 (upl_ne h (by decide))).2.1, upl_mono (hC.k8 (upl_ne h (by decide))).2.2.1, upl_mono (hC.k8 (upl_ne h (by decide))).2.2.2⟩), (fun _ => upl_mono hp8), (fun h => upl_mono (hC.k10 (upl_ne h (by decide)))), (fun h0 => by simp only [upv_ne u v (show 49 ≠ 58 by decide)]; exact hC.c0 (upl_ne h0 (by decide))), (fun h2 => by simp only [upv_ne u v (show 51 ≠ 58 by decide)]; exact hC.c2 (upl_ne h2 (by decide))), (fun h1 => by simp only [upv_ne u v (show 50 ≠ 58 by decide)]; exact (hC.c1 (upl_ne h1 (by decide))).next hb), (fun h3 => by simp only [upv_ne u v (show 50 ≠ 58 by decide), upv_ne u v (show 52 ≠ 58 by decide)]; exact (hC.c3 (upl_ne h3 (by decide))).next hb), (fun h4 => by simp only [upv_ne u v (show 50 ≠ 58 by decide), upv_ne u v (show 52 ≠ 58 by decide), upv_ne u v (show 53 ≠ 58 by decide)]; exact (hC.c4 (upl_ne h4 (by decide))).next hb), (fun h5 => by simp only [upv_ne u v (show 54 ≠ 58 by decide)]; exact (hC.c5 (upl_ne h5 (by decide))).next hb), (fun h6 => by simp only [upv_ne u v (show 55 ≠ 58 by decide)]; exact (hC.c6 (upl_ne h6 (by decide))).next hb), (fun h7 => by simp only [upv_ne u v (show 56 ≠ 58 by decide)]; exact (hC.c7 (upl_ne h7 (by decide))).next hb), (fun h5 h6 => by simp only [upv_ne u v (show 54 ≠ 58 by decide), upv_ne u v (show 55 ≠ 58 by decide)]; exact hC.d56 (upl_ne h5 (by decide)) (upl_ne h6 (by decide))), (fun h5 h7 => by simp only [upv_ne u v (show 54 ≠ 58 by decide), upv_ne u v (show 56 ≠ 58 by decide)]; exact hC.d57 (upl_ne h5 (by decide)) (upl_ne h7 (by decide))), (fun h6 h7 => by simp only [upv_ne u v (show 55 ≠ 58 by decide), upv_ne u v (show 56 ≠ 58 by decide)]; exact hC.d67 (upl_ne h6 (by decide)) (upl_ne h7 (by decide))), (fun h8 => by simp only [upv_ne u v (show 53 ≠ 58 by decide), upv_ne u v (show 54 ≠ 58 by decide), upv_ne u v (show 55 ≠ 58 by decide), upv_ne u v (show 56 ≠ 58 by decide), upv_ne u v (show 57 ≠ 58 by decide)]; exact hC.c8 (upl_ne h8 (by decide))), (fun h9 => by simp only [upv_ne u v (show 53 ≠ 58 by decide), upv_ne u v (show 54 ≠ 58 by decide), upv_ne u v (show 55 ≠ 58 by decide), upv_ne u v (show 56 ≠ 58 by decide), upv_self]; exact own), (fun h10 => absurd (hC.k10 (upl_ne h10 (by decide))) (by rw [hl]; decide))⟩
theorem OpenC.s10 {L ea : Nat} {w0 : World} {l : Nat → Bool} {u : Nat → Value} {w : World} (hC : OpenC L ea w0 l u w) (hl : l 10 = false) (hp9 : l 9 = true) {v : Value} {w' : World} (hb : Below w.heap.size w w') (own : v = u 58) : OpenC L ea w0 (upl l 10) (upv u 7 v) w' := by
 have hno : ∀ {x : Nat → Bool}, l 10 = true → False := fun h => by rw [hl] at h; cases h
 exact ⟨(hC.bl.trans (hb.mono hC.low)), (Nat.le_trans hC.low hb.size), (fun h => upl_mono (hC.k1 (upl_ne h (by decide)))), (fun h => ⟨upl_mono (hC.k3 (upl_ne h (by decide))).1, upl_mono (hC.k3 (upl_ne h (by decide))).2⟩), (fun h => upl_mono (hC.k4 (upl_ne h (by decide)))), (fun h => ⟨upl_mono (hC.k8 (upl_ne h (by decide))).1, upl_mono (hC.k8 (upl_ne h (by decide))).2.1, upl_mono (hC.k8 (upl_ne h (by decide))).2.2.1, upl_mono (hC.k8 (upl_ne h (by decide))).2.2.2⟩), (fun h => upl_mono (hC.k9 (upl_ne h (by decide)))), (fun _ => upl_mono hp9), (fun h0 => by simp only [upv_ne u v (show 49 ≠ 7 by decide)]; exact hC.c0 (upl_ne h0 (by decide))), (fun h2 => by simp only [upv_ne u v (show 51 ≠ 7 by decide)]; exact hC.c2 (upl_ne h2 (by decide))), (fun h1 => by simp only [upv_ne u v (show 50 ≠ 7 by decide)]; exact (hC.c1 (upl_ne h1 (by decide))).next hb), (fun h3 => by simp only [upv_ne u v (show 50 ≠ 7 by decide), upv_ne u v (show 52 ≠ 7 by decide)]; exact (hC.c3 (upl_ne h3 (by decide))).next hb), (fun h4 => by simp only [upv_ne u v (show 50 ≠ 7 by decide), upv_ne u v (show 52 ≠ 7 by decide), upv_ne u v (show 53 ≠ 7 by decide)]; exact (hC.c4 (upl_ne h4 (by decide))).next hb), (fun h5 => by simp only [upv_ne u v (show 54 ≠ 7 by decide)]; exact (hC.c5 (upl_ne h5 (by decide))).next hb), (fun h6 => by simp only [upv_ne u v (show 55 ≠ 7 by decide)]; exact (hC.c6 (upl_ne h6 (by decide))).next hb), (fun h7 => by simp only [upv_ne u v (show 56 ≠ 7 by decide)]; exact (hC.c7 (upl_ne h7 (by decide))).next hb), (fun h5 h6 => by simp only [upv_ne u v (show 54 ≠ 7 by decide), upv_ne u v (show 55 ≠ 7 by decide)]; exact hC.d56 (upl_ne h5 (by decide)) (upl_ne h6 (by decide))), (fun h5 h7 => by simp only [upv_ne u v (show 54 ≠ 7 by decide), upv_ne u v (show 56 ≠ 7 by decide)]; exact hC.d57 (upl_ne h5 (by decide)) (upl_ne h7 (by decide))), (fun h6 h7 => by simp only [upv_ne u v (show 55 ≠ 7 by decide), upv_ne u v (show 56 ≠ 7 by decide)]; exact hC.d67 (upl_ne h6 (by decide)) (upl_ne h7 (by decide))), (fun h8 => by simp only [upv_ne u v (show 53 ≠ 7 by decide), upv_ne u v (show 54 ≠ 7 by decide), upv_ne u v (show 55 ≠ 7 by decide), upv_ne u v (show 56 ≠ 7 by decide), upv_ne u v (show 57 ≠ 7 by decide)]; exact hC.c8 (upl_ne h8 (by decide))), (fun h9 => by simp only [upv_ne u v (show 53 ≠ 7 by decide), upv_ne u v (show 54 ≠ 7 by decide), upv_ne u v (show 55 ≠ 7 by decide), upv_ne u v (show 56 ≠ 7 by decide), upv_ne u v (show 58 ≠ 7 by decide)]; exact (hC.c9 (upl_ne h9 (by decide))).next hb), (fun h10 => by simp only [upv_self, upv_ne u v (show 58 ≠ 7 by decide)]; exact own)⟩
theorem OpenC.start {L ea : Nat} {w0 : World} (hL : w0.heap.size = L) (u : Nat → Value) : OpenC L ea w0 (fun _ => false) u w0.drew := by
 subst hL
 exact ⟨(Below.refl _ _).drew, Nat.le_refl _, fun h => (by cases h), fun h => (by cases h), fun h => (by cases h), fun h => (by cases h), fun h => (by cases h), fun h => (by cases h), fun h => (by cases h), fun h => (by cases h), fun h => (by cases h), fun h => (by cases h), fun h => (by cases h), fun h => (by cases h), fun h => (by cases h), fun h => (by cases h), fun h => (by cases h), fun h => (by cases h), fun h => (by cases h), fun h => (by cases h), fun h => (by cases h), fun h => (by cases h)⟩
theorem mk_ne {L : Nat} {w : World} : ∀ v0, MkRow L w v0 → Value.slice (some ⟨w.heap.size, 0, none⟩) 2 2 ≠ v0 := fun v0 h e => by
 obtain ⟨g, h1, h2, h3⟩ := h
 rw [← e] at h1
 injection h1 with h1
 injection h1 with h1
 injection h1 with h1
 have := lt_of_block h2
 omega
theorem nil_rows {w : World} {L k B : Nat} (h : w.heap[B]? = some (.cells #[.slice none 0 0, .slice none 0 0] 48 (0, 0))) : SRows w L (fun _ => none) k B [[], []] := by
 refine ⟨[.slice none 0 0, .slice none 0 0], h, rfl, fun i v xs hv hx => ?_⟩
 have e : v = .slice none 0 0 ∧ xs = [] := by
  match i, hv, hx with
  | 0, hv, hx => injection hv with hv; injection hx with hx; exact ⟨hv.symm, hx.symm⟩
  | 1, hv, hx => injection hv with hv; injection hx with hx; exact ⟨hv.symm, hx.symm⟩
  | i + 2, hv, hx => cases hv
 obtain ⟨rfl, rfl⟩ := e
 exact ⟨⟨none, 0, rfl⟩, World.ownsRow_nil _ _ _ _, fun g hg => by cases hg⟩
theorem OpenC.fin {L ea : Nat} {w0 : World} {l : Nat → Bool} {u : Nat → Value} {w : World} (hC : OpenC L ea w0 l u w) (hall : ∀ i, i < 11 → l i = true) (hL : L < w.heap.size ∨ True) : ∃ W P1 P2 : Nat, u 7 = .pointer (some ⟨W, 0, none⟩) ∧ NSt w L W P1 P2 0 P1 P2 ea 0 0 ∧ Below L w0 w := by
 have a := fun i (h : i < 11) => hall i h
 obtain ⟨P1, M1, P2, M2, e1, e2, n1, n2, n3, n4, b1, b2, b3, b4⟩ := hC.c3 (a 3 (by decide))
 obtain ⟨E, e3, h3, b5⟩ := hC.c4 (a 4 (by decide))
 obtain ⟨Y, e4, h4, b6⟩ := hC.c5 (a 5 (by decide))
 obtain ⟨U, e5, h5, b7⟩ := hC.c6 (a 6 (by decide))
 obtain ⟨T, e6, h6, b8⟩ := hC.c7 (a 7 (by decide))
 have d1 := hC.d56 (a 5 (by decide)) (a 6 (by decide))
 have d2 := hC.d57 (a 5 (by decide)) (a 7 (by decide))
 have d3 := hC.d67 (a 6 (by decide)) (a 7 (by decide))
 obtain ⟨W, e7, h7, b9⟩ := hC.c9 (a 9 (by decide))
 have e8 := hC.c10 (a 10 (by decide))
 rw [e4, e5] at d1
 rw [e4, e6] at d2
 rw [e5, e6] at d3
 rw [e3, e4, e5, e6] at h7
 rw [e1, e2] at h3
 obtain ⟨_, _, r1, -⟩ := n1.row
 obtain ⟨_, _, r2, -⟩ := n2.row
 obtain ⟨_, _, _, _, _, _, _, _, _, ⟨⟨es1, cl1, m1, _⟩, _⟩, _⟩ := id n1
 obtain ⟨_, _, _, _, _, _, _, _, _, ⟨⟨es2, cl2, m2, _⟩, _⟩, _⟩ := id n2
 have l1 := lt_of_block r1
 have l2 := lt_of_block r2
 have l3 := lt_of_block m1
 have l4 := lt_of_block m2
 refine ⟨W, P1, P2, by rw [e8, e7], ⟨E, Y, U, T, fun _ => none, w.heap.size, [[], []], [[], []], [[], []], openL ea, openL ea, [], [], [], [], [], [],
  ⟨h7, h3, nil_rows h4, nil_rows h5, nil_rows h6, ⟨fun e => d1 (by rw [e]), fun e => d2 (by rw [e]), fun e => d3 (by rw [e])⟩, ⟨b9, b6, b7, b8⟩, ⟨rfl, rfl, rfl⟩⟩,
  ⟨M1, none, _, 0, M2, none, _, 0, n1, n2, n3, n4, fun g e => (by cases e), Nat.le_refl _, Nat.le_refl _, fun g hg => ?_⟩, Nat.le_refl _, cell_of_row _ _ 0 _ _ _ h3, cell_of_row _ _ 1 _ _ _ h3, ⟨rfl, rfl⟩, ⟨rfl, rfl⟩, ⟨rfl, rfl⟩, NDir.start ea⟩, hC.bl⟩
 rcases hg with rfl | rfl | hg | rfl | rfl | hg
 ·omega
 ·omega
 ·cases hg
 ·omega
 ·omega
 ·cases hg
end Go.Proofs.Ytigmmikijjcdiaa
