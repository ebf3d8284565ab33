/- A step of a script: frames go on their way. (printed by gen/lnp.py) -/
import Derived.Test.YtigmmikijjcdiaaProg
import Derived.Test.YtigmmikijjcdiaaNq0
import Derived.Deep.DeepCutAuto
import Derived.Lib.Hide
import Derived.WalkSpells
import Derived.WalkMore
import Derived.IntWalk
namespace Go.Proofs.Ytigmmikijjcdiaa
open Go.RowKit
set_option linter.unusedVariables false
set_option linter.unusedSimpArgs false
set_option maxRecDepth 100000 in
set_option maxHeartbeats 16000000 in
theorem step_out (w : World) {L W P1 P2 a Q1 Q2 ep m n : Nat} (hS : NSt w L W P1 P2 a Q1 Q2 ep m n) (ha : a < 2) (hm : m ≤ 1000) (hn : n ≤ 1000) (k A8 N8 : Nat) (hk : k < 256) (hA : A8 < 256) (hN8 : N8 < 256) (hAa : A8 % 2 = a) (Ab : Option Addr) (b : BL) (bl cb : Nat) (hbl : b.length = bl) (hR : Rd w L Ab (u8s b)) (hb : bl ≤ 5000) (hkk : k % 10 = 2) :
    Calls Try.prog 18 #[.pointer (some ⟨W, 0, none⟩), .agg #[.int .u8 (k : Int), .int .u8 (A8 : Int), .int .u8 (N8 : Int), .slice Ab bl cb]] w (StepPost w L W P1 P2 a Q1 Q2 ep m n) := by
  obtain ⟨E, Y, U, T, tag, B, ways, puts, gots, s, t, ws, wt, ps, pt, gs, gt, hN, hT, hBw, hE1, hE2, hW, hP, hG, hD⟩ := hS
  obtain ⟨x, hx⟩ : ∃ z, w.alloc (.cells #[.int .u8 (k : Int), .int .u8 (A8 : Int), .int .u8 (N8 : Int), .slice Ab bl cb] 40) = z := ⟨_, rfl⟩
  obtain ⟨X, hX⟩ : ∃ z, w.heap.size = z := ⟨_, rfl⟩
  have HX : Hid (x.heap[X]? = some (.cells #[.int .u8 (k : Int), .int .u8 (A8 : Int), .int .u8 (N8 : Int), .slice Ab bl cb] 40)) := hide (by rw [← hx, ← hX]; exact heap_alloc_last w _)
  have HBx : Hid (Below w.heap.size w x) := hide (by rw [← hx]; exact (Below.refl _ _).alloc (Nat.le_refl _) _)
  have hLw : L < w.heap.size := hT.low
  have hE0 : E < w.heap.size := lt_of_block hN.en
  have hy1 := (HBx.out.cell (p := ⟨E, a, none⟩) hE0).trans hE1
  have hy2 := (HBx.out.cell (p := ⟨E, 1 - a, none⟩) hE0).trans hE2
  have HN := hide (hN.next HBx.out)
  have HT := hide (hT.next HBx.out)
  have HRb := hide (hR.below' HBx.out (Nat.le_of_lt hLw))
  have HBx2 : Hid (Below L w x) := hide (HBx.out.mono (Nat.le_of_lt hLw))
  have hBx : B ≤ x.heap.size := Nat.le_trans hBw HBx.out.size
  have HXe : Hid (w.heap.size = X) := hide hX
  have HXn := hide hx
  have HD := hide hD
  have HW := hide hW
  have HP := hide hP
  have HG := hide hG
  have HLw := hide hLw
  have HAa := hide hAa
  have HBl := hide hbl
  clear hx hX hN hT hE1 hE2 hW hP hG hD hR hBw HBx hAa hbl
  obtain ⟨v0, hv0, hR0⟩ := HN.out.way.at_ HW.out.1
  obtain ⟨A0, c0, rfl, -, hc01, hc02⟩ := hR0.rd
  obtain ⟨n0, hn0⟩ : ∃ z, ws.length = z := ⟨_, rfl⟩
  rw [hn0] at hv0 hR0 hc01
  have hn1 : n0 ≤ 100 := by rw [← hn0]; exact HD.out.l1
  have HR0 := hide hR0
  have HN0 := hide hn0
  have s0 : x.cell? ⟨X, 0, none⟩ = some (.int .u8 (k : Int)) := cell_of_row _ _ 0 _ _ _ HX.out
  have s1 : x.cell? ⟨X, 1, none⟩ = some (.int .u8 (A8 : Int)) := cell_of_row _ _ 1 _ _ _ HX.out
  have s2 : x.cell? ⟨X, 2, none⟩ = some (.int .u8 (N8 : Int)) := cell_of_row _ _ 2 _ _ _ HX.out
  have s3 : x.cell? ⟨X, 3, none⟩ = some (.slice Ab bl cb) := cell_of_row _ _ 3 _ _ _ HX.out
  have e0 : x.cell? ⟨W, 0, none⟩ = some (.slice (some ⟨E, 0, none⟩) 2 2) := cell_of_row _ _ 0 _ _ _ HN.out.wd
  have e1 : x.cell? ⟨W, 1, none⟩ = some (.slice (some ⟨Y, 0, none⟩) 2 2) := cell_of_row _ _ 1 _ _ _ HN.out.wd
  have hXx : X < x.heap.size := lt_of_block HX.out
  have hWx : W < x.heap.size := lt_of_block HN.out.wd
  have hYx : Y < x.heap.size := HN.out.way.lt
  have hEx : E < x.heap.size := lt_of_block HN.out.en
  have ha0 : (0 : Int) ≤ (a : Int) := by omega
  have ha1 : (a : Int) < 2 := by omega
  clear hR0 hn0
  have hk10 : (k : Int) % 10 = 2 := by omega
  have hAi : (A8 : Int) % 2 = (a : Int) := by have := HAa.out; omega
  by_cases hz : n0 = 0
  · have hz0 : ¬ (0 : Int) < (n0 : Int) := by omega
    have hLx0 : L ≤ x.heap.size := Nat.le_trans (Nat.le_of_lt hLw) HBx2.out.size
    obtain ⟨b1, hb1⟩ : ∃ z, 1 - a = z := ⟨_, rfl⟩
    have hb12 : b1 < 2 := by omega
    have kw : IntKind.i64.wrap (1 - (a : Int)) = (b1 : Int) := by rw [IntWalk.i64_in _ (by omega)]; omega
    have HOk := hide HT.out.ok1
    have HB1n := hide hb1
    clear hb1
    go_enter Try.func18, Try.ntmps18
    go_upto_region 1 with fail
    rw [HXn.out, HXe.out]
    go_wp2_with fail
    refine (two_out HT.out).mono ?_
    rintro e y1 ⟨v1, rfl, hf, ht, hm⟩
    obtain ⟨fs, hfs⟩ : ∃ z, (fromL s s.fresh s.owes).1 = z := ⟨_, rfl⟩
    obtain ⟨s1, hs1⟩ : ∃ z, (fromL s s.fresh s.owes).2 = z := ⟨_, rfl⟩
    rw [hfs] at hf
    rw [hs1] at ht
    have HD1 := hide (HD.out.out HOk.out (k := s.fresh) HT.out.ok1.fresh1 s.owes)
    rw [hfs, hs1] at HD1
    have HFl : Hid (fs.length ≤ 1000000) := hide (by rw [← hfs]; have := HOk.out.next; rcases from_len s s.fresh s.owes with h | ⟨_, h⟩ <;> omega)
    have HT1 := hide ht
    have HF1 := hide hf
    have HM1 : Hid (Mid L B x y1) := hide hm
    have HN1 := hide (HN.out.mid hm)
    have HB1 : Hid (Below L w y1) := hide (HBx2.out.trans (hm.toBelow hLx0))
    have hLy : L ≤ y1.heap.size := Nat.le_trans hLx0 hm.1
    have hByy : B ≤ y1.heap.size := Nat.le_trans hBx hm.1
    have HY1 := hide ((HN1.out.ptr HN.out a).trans hy1)
    have HY2 := hide ((HN1.out.ptr HN.out (1 - a)).trans hy2)
    clear hf ht hm hfs hs1 s0 s2 s3 e0 e1 hv0 hy1 hy2
    have hgo := goes_any y1 HN1.out b1 (by omega) (fun wy hwy => by rw [← HB1n.out, HW.out.2] at hwy; injection hwy with hwy; subst hwy; exact HD.out.l2) x.heap.size _ fs HF1.out HFl.out
    have HGo := hide hgo
    clear hgo
    go_wp2_with fail
    refine HGo.out.mono ?_
    rintro e w9 ⟨rfl, ⟨tag9, hn9⟩, hm9⟩
    have HFin : Hid (NSt w9 L W P1 P2 a Q1 Q2 ep (m + 1) (n + 1)) := hide (nst_way (b1 := b1) hn9 hm9 HN1.out HT1.out hByy HY1.out HY2.out ha HB1n.out HW.out HP.out HG.out HD1.out)
    have HFb := hide (HB1.out.trans (hm9.toBelow hLy))
    clear hn9 hm9 HGo
    go_wp2
    go_end0
    exact ⟨rfl, HFin.out, HFb.out⟩
  have hz0 : (0 : Int) < (n0 : Int) := by omega
  obtain ⟨q, hq⟩ : ∃ z, N8 % n0 = z := ⟨_, rfl⟩
  have hqn : q < n0 := by rw [← hq]; exact Nat.mod_lt _ (by omega)
  have hNq : (N8 : Int) % (n0 : Int) = (q : Int) := by rw [← hq]; rfl
  have HQ := hide hq
  clear hq
  have hLx0 : L ≤ x.heap.size := Nat.le_trans (Nat.le_of_lt hLw) HBx2.out.size
  obtain ⟨b1, hb1⟩ : ∃ z, 1 - a = z := ⟨_, rfl⟩
  have hb12 : b1 < 2 := by omega
  have kw : IntKind.i64.wrap (1 - (a : Int)) = (b1 : Int) := by rw [IntWalk.i64_in _ (by omega)]; omega
  have HOk := hide HT.out.ok1
  have HB1n := hide hb1
  clear hb1
  go_enter Try.func18, Try.ntmps18
  go_upto_region 1 with fail
  rw [HXn.out, HXe.out]
  go_wp2_with fail
  refine (two_out HT.out).mono ?_
  rintro e y1 ⟨v1, rfl, hf, ht, hm⟩
  obtain ⟨fs, hfs⟩ : ∃ z, (fromL s s.fresh s.owes).1 = z := ⟨_, rfl⟩
  obtain ⟨s1, hs1⟩ : ∃ z, (fromL s s.fresh s.owes).2 = z := ⟨_, rfl⟩
  rw [hfs] at hf
  rw [hs1] at ht
  have HD1 := hide (HD.out.out HOk.out (k := s.fresh) HT.out.ok1.fresh1 s.owes)
  rw [hfs, hs1] at HD1
  have HFl : Hid (fs.length ≤ 1000000) := hide (by rw [← hfs]; have := HOk.out.next; rcases from_len s s.fresh s.owes with h | ⟨_, h⟩ <;> omega)
  have HT1 := hide ht
  have HF1 := hide hf
  have HM1 : Hid (Mid L B x y1) := hide hm
  have HN1 := hide (HN.out.mid hm)
  have HB1 : Hid (Below L w y1) := hide (HBx2.out.trans (hm.toBelow hLx0))
  have hLy : L ≤ y1.heap.size := Nat.le_trans hLx0 hm.1
  have hByy : B ≤ y1.heap.size := Nat.le_trans hBx hm.1
  have HY1 := hide ((HN1.out.ptr HN.out a).trans hy1)
  have HY2 := hide ((HN1.out.ptr HN.out (1 - a)).trans hy2)
  clear hf ht hm hfs hs1 s0 s2 s3 e0 e1 hv0 hy1 hy2
  have hgo := goes_any y1 HN1.out b1 (by omega) (fun wy hwy => by rw [← HB1n.out, HW.out.2] at hwy; injection hwy with hwy; subst hwy; exact HD.out.l2) x.heap.size _ fs HF1.out HFl.out
  have HGo := hide hgo
  clear hgo
  go_wp2_with fail
  refine HGo.out.mono ?_
  rintro e w9 ⟨rfl, ⟨tag9, hn9⟩, hm9⟩
  have HFin : Hid (NSt w9 L W P1 P2 a Q1 Q2 ep (m + 1) (n + 1)) := hide (nst_way (b1 := b1) hn9 hm9 HN1.out HT1.out hByy HY1.out HY2.out ha HB1n.out HW.out HP.out HG.out HD1.out)
  have HFb := hide (HB1.out.trans (hm9.toBelow hLy))
  clear hn9 hm9 HGo
  go_wp2
  go_end0
  exact ⟨rfl, HFin.out, HFb.out⟩
set_option maxRecDepth 100000 in
set_option maxHeartbeats 16000000 in
theorem step_again (w : World) {L W P1 P2 a Q1 Q2 ep m n : Nat} (hS : NSt w L W P1 P2 a Q1 Q2 ep m n) (ha : a < 2) (hm : m ≤ 1000) (hn : n ≤ 1000) (k A8 N8 : Nat) (hk : k < 256) (hA : A8 < 256) (hN8 : N8 < 256) (hAa : A8 % 2 = a) (Ab : Option Addr) (b : BL) (bl cb : Nat) (hbl : b.length = bl) (hR : Rd w L Ab (u8s b)) (hb : bl ≤ 5000) (hkk : k % 10 = 3) :
    Calls Try.prog 18 #[.pointer (some ⟨W, 0, none⟩), .agg #[.int .u8 (k : Int), .int .u8 (A8 : Int), .int .u8 (N8 : Int), .slice Ab bl cb]] w (StepPost w L W P1 P2 a Q1 Q2 ep m n) := by
  obtain ⟨E, Y, U, T, tag, B, ways, puts, gots, s, t, ws, wt, ps, pt, gs, gt, hN, hT, hBw, hE1, hE2, hW, hP, hG, hD⟩ := hS
  obtain ⟨x, hx⟩ : ∃ z, w.alloc (.cells #[.int .u8 (k : Int), .int .u8 (A8 : Int), .int .u8 (N8 : Int), .slice Ab bl cb] 40) = z := ⟨_, rfl⟩
  obtain ⟨X, hX⟩ : ∃ z, w.heap.size = z := ⟨_, rfl⟩
  have HX : Hid (x.heap[X]? = some (.cells #[.int .u8 (k : Int), .int .u8 (A8 : Int), .int .u8 (N8 : Int), .slice Ab bl cb] 40)) := hide (by rw [← hx, ← hX]; exact heap_alloc_last w _)
  have HBx : Hid (Below w.heap.size w x) := hide (by rw [← hx]; exact (Below.refl _ _).alloc (Nat.le_refl _) _)
  have hLw : L < w.heap.size := hT.low
  have hE0 : E < w.heap.size := lt_of_block hN.en
  have hy1 := (HBx.out.cell (p := ⟨E, a, none⟩) hE0).trans hE1
  have hy2 := (HBx.out.cell (p := ⟨E, 1 - a, none⟩) hE0).trans hE2
  have HN := hide (hN.next HBx.out)
  have HT := hide (hT.next HBx.out)
  have HRb := hide (hR.below' HBx.out (Nat.le_of_lt hLw))
  have HBx2 : Hid (Below L w x) := hide (HBx.out.mono (Nat.le_of_lt hLw))
  have hBx : B ≤ x.heap.size := Nat.le_trans hBw HBx.out.size
  have HXe : Hid (w.heap.size = X) := hide hX
  have HXn := hide hx
  have HD := hide hD
  have HW := hide hW
  have HP := hide hP
  have HG := hide hG
  have HLw := hide hLw
  have HAa := hide hAa
  have HBl := hide hbl
  clear hx hX hN hT hE1 hE2 hW hP hG hD hR hBw HBx hAa hbl
  obtain ⟨v0, hv0, hR0⟩ := HN.out.way.at_ HW.out.1
  obtain ⟨A0, c0, rfl, -, hc01, hc02⟩ := hR0.rd
  obtain ⟨n0, hn0⟩ : ∃ z, ws.length = z := ⟨_, rfl⟩
  rw [hn0] at hv0 hR0 hc01
  have hn1 : n0 ≤ 100 := by rw [← hn0]; exact HD.out.l1
  have HR0 := hide hR0
  have HN0 := hide hn0
  have s0 : x.cell? ⟨X, 0, none⟩ = some (.int .u8 (k : Int)) := cell_of_row _ _ 0 _ _ _ HX.out
  have s1 : x.cell? ⟨X, 1, none⟩ = some (.int .u8 (A8 : Int)) := cell_of_row _ _ 1 _ _ _ HX.out
  have s2 : x.cell? ⟨X, 2, none⟩ = some (.int .u8 (N8 : Int)) := cell_of_row _ _ 2 _ _ _ HX.out
  have s3 : x.cell? ⟨X, 3, none⟩ = some (.slice Ab bl cb) := cell_of_row _ _ 3 _ _ _ HX.out
  have e0 : x.cell? ⟨W, 0, none⟩ = some (.slice (some ⟨E, 0, none⟩) 2 2) := cell_of_row _ _ 0 _ _ _ HN.out.wd
  have e1 : x.cell? ⟨W, 1, none⟩ = some (.slice (some ⟨Y, 0, none⟩) 2 2) := cell_of_row _ _ 1 _ _ _ HN.out.wd
  have hXx : X < x.heap.size := lt_of_block HX.out
  have hWx : W < x.heap.size := lt_of_block HN.out.wd
  have hYx : Y < x.heap.size := HN.out.way.lt
  have hEx : E < x.heap.size := lt_of_block HN.out.en
  have ha0 : (0 : Int) ≤ (a : Int) := by omega
  have ha1 : (a : Int) < 2 := by omega
  clear hR0 hn0
  have hk10 : (k : Int) % 10 = 3 := by omega
  have hAi : (A8 : Int) % 2 = (a : Int) := by have := HAa.out; omega
  by_cases hz : n0 = 0
  · have hz0 : ¬ (0 : Int) < (n0 : Int) := by omega
    have hLx0 : L ≤ x.heap.size := Nat.le_trans (Nat.le_of_lt hLw) HBx2.out.size
    obtain ⟨b1, hb1⟩ : ∃ z, 1 - a = z := ⟨_, rfl⟩
    have hb12 : b1 < 2 := by omega
    have kw : IntKind.i64.wrap (1 - (a : Int)) = (b1 : Int) := by rw [IntWalk.i64_in _ (by omega)]; omega
    have HOk := hide HT.out.ok1
    have HB1n := hide hb1
    clear hb1
    go_enter Try.func18, Try.ntmps18
    go_upto_region 1 with fail
    rw [HXn.out, HXe.out]
    go_wp2_with fail
    refine (two_again HT.out).mono ?_
    rintro e y1 ⟨v1, rfl, hf, ht, hm⟩
    obtain ⟨fs, hfs⟩ : ∃ z, (fromL s s.first true).1 = z := ⟨_, rfl⟩
    obtain ⟨s1, hs1⟩ : ∃ z, (fromL s s.first true).2 = z := ⟨_, rfl⟩
    rw [hfs] at hf
    rw [hs1] at ht
    have HD1 := hide (HD.out.out HOk.out (k := s.first) (Nat.le_refl _) true)
    rw [hfs, hs1] at HD1
    have HFl : Hid (fs.length ≤ 1000000) := hide (by rw [← hfs]; have := HOk.out.next; rcases from_len s s.first true with h | ⟨_, h⟩ <;> omega)
    have HT1 := hide ht
    have HF1 := hide hf
    have HM1 : Hid (Mid L B x y1) := hide hm
    have HN1 := hide (HN.out.mid hm)
    have HB1 : Hid (Below L w y1) := hide (HBx2.out.trans (hm.toBelow hLx0))
    have hLy : L ≤ y1.heap.size := Nat.le_trans hLx0 hm.1
    have hByy : B ≤ y1.heap.size := Nat.le_trans hBx hm.1
    have HY1 := hide ((HN1.out.ptr HN.out a).trans hy1)
    have HY2 := hide ((HN1.out.ptr HN.out (1 - a)).trans hy2)
    clear hf ht hm hfs hs1 s0 s2 s3 e0 e1 hv0 hy1 hy2
    have hgo := goes_any y1 HN1.out b1 (by omega) (fun wy hwy => by rw [← HB1n.out, HW.out.2] at hwy; injection hwy with hwy; subst hwy; exact HD.out.l2) x.heap.size _ fs HF1.out HFl.out
    have HGo := hide hgo
    clear hgo
    go_wp2_with fail
    refine HGo.out.mono ?_
    rintro e w9 ⟨rfl, ⟨tag9, hn9⟩, hm9⟩
    have HFin : Hid (NSt w9 L W P1 P2 a Q1 Q2 ep (m + 1) (n + 1)) := hide (nst_way (b1 := b1) hn9 hm9 HN1.out HT1.out hByy HY1.out HY2.out ha HB1n.out HW.out HP.out HG.out HD1.out)
    have HFb := hide (HB1.out.trans (hm9.toBelow hLy))
    clear hn9 hm9 HGo
    go_wp2
    go_end0
    exact ⟨rfl, HFin.out, HFb.out⟩
  have hz0 : (0 : Int) < (n0 : Int) := by omega
  obtain ⟨q, hq⟩ : ∃ z, N8 % n0 = z := ⟨_, rfl⟩
  have hqn : q < n0 := by rw [← hq]; exact Nat.mod_lt _ (by omega)
  have hNq : (N8 : Int) % (n0 : Int) = (q : Int) := by rw [← hq]; rfl
  have HQ := hide hq
  clear hq
  have hLx0 : L ≤ x.heap.size := Nat.le_trans (Nat.le_of_lt hLw) HBx2.out.size
  obtain ⟨b1, hb1⟩ : ∃ z, 1 - a = z := ⟨_, rfl⟩
  have hb12 : b1 < 2 := by omega
  have kw : IntKind.i64.wrap (1 - (a : Int)) = (b1 : Int) := by rw [IntWalk.i64_in _ (by omega)]; omega
  have HOk := hide HT.out.ok1
  have HB1n := hide hb1
  clear hb1
  go_enter Try.func18, Try.ntmps18
  go_upto_region 1 with fail
  rw [HXn.out, HXe.out]
  go_wp2_with fail
  refine (two_again HT.out).mono ?_
  rintro e y1 ⟨v1, rfl, hf, ht, hm⟩
  obtain ⟨fs, hfs⟩ : ∃ z, (fromL s s.first true).1 = z := ⟨_, rfl⟩
  obtain ⟨s1, hs1⟩ : ∃ z, (fromL s s.first true).2 = z := ⟨_, rfl⟩
  rw [hfs] at hf
  rw [hs1] at ht
  have HD1 := hide (HD.out.out HOk.out (k := s.first) (Nat.le_refl _) true)
  rw [hfs, hs1] at HD1
  have HFl : Hid (fs.length ≤ 1000000) := hide (by rw [← hfs]; have := HOk.out.next; rcases from_len s s.first true with h | ⟨_, h⟩ <;> omega)
  have HT1 := hide ht
  have HF1 := hide hf
  have HM1 : Hid (Mid L B x y1) := hide hm
  have HN1 := hide (HN.out.mid hm)
  have HB1 : Hid (Below L w y1) := hide (HBx2.out.trans (hm.toBelow hLx0))
  have hLy : L ≤ y1.heap.size := Nat.le_trans hLx0 hm.1
  have hByy : B ≤ y1.heap.size := Nat.le_trans hBx hm.1
  have HY1 := hide ((HN1.out.ptr HN.out a).trans hy1)
  have HY2 := hide ((HN1.out.ptr HN.out (1 - a)).trans hy2)
  clear hf ht hm hfs hs1 s0 s2 s3 e0 e1 hv0 hy1 hy2
  have hgo := goes_any y1 HN1.out b1 (by omega) (fun wy hwy => by rw [← HB1n.out, HW.out.2] at hwy; injection hwy with hwy; subst hwy; exact HD.out.l2) x.heap.size _ fs HF1.out HFl.out
  have HGo := hide hgo
  clear hgo
  go_wp2_with fail
  refine HGo.out.mono ?_
  rintro e w9 ⟨rfl, ⟨tag9, hn9⟩, hm9⟩
  have HFin : Hid (NSt w9 L W P1 P2 a Q1 Q2 ep (m + 1) (n + 1)) := hide (nst_way (b1 := b1) hn9 hm9 HN1.out HT1.out hByy HY1.out HY2.out ha HB1n.out HW.out HP.out HG.out HD1.out)
  have HFb := hide (HB1.out.trans (hm9.toBelow hLy))
  clear hn9 hm9 HGo
  go_wp2
  go_end0
  exact ⟨rfl, HFin.out, HFb.out⟩
set_option maxRecDepth 100000 in
set_option maxHeartbeats 16000000 in
theorem step_far (w : World) {L W P1 P2 a Q1 Q2 ep m n : Nat} (hS : NSt w L W P1 P2 a Q1 Q2 ep m n) (ha : a < 2) (hm : m ≤ 1000) (hn : n ≤ 1000) (k A8 N8 : Nat) (hk : k < 256) (hA : A8 < 256) (hN8 : N8 < 256) (hAa : A8 % 2 = a) (Ab : Option Addr) (b : BL) (bl cb : Nat) (hbl : b.length = bl) (hR : Rd w L Ab (u8s b)) (hb : bl ≤ 5000) (hkk : k % 10 = 8) :
    Calls Try.prog 18 #[.pointer (some ⟨W, 0, none⟩), .agg #[.int .u8 (k : Int), .int .u8 (A8 : Int), .int .u8 (N8 : Int), .slice Ab bl cb]] w (StepPost w L W P1 P2 a Q1 Q2 ep m n) := by
  obtain ⟨E, Y, U, T, tag, B, ways, puts, gots, s, t, ws, wt, ps, pt, gs, gt, hN, hT, hBw, hE1, hE2, hW, hP, hG, hD⟩ := hS
  obtain ⟨x, hx⟩ : ∃ z, w.alloc (.cells #[.int .u8 (k : Int), .int .u8 (A8 : Int), .int .u8 (N8 : Int), .slice Ab bl cb] 40) = z := ⟨_, rfl⟩
  obtain ⟨X, hX⟩ : ∃ z, w.heap.size = z := ⟨_, rfl⟩
  have HX : Hid (x.heap[X]? = some (.cells #[.int .u8 (k : Int), .int .u8 (A8 : Int), .int .u8 (N8 : Int), .slice Ab bl cb] 40)) := hide (by rw [← hx, ← hX]; exact heap_alloc_last w _)
  have HBx : Hid (Below w.heap.size w x) := hide (by rw [← hx]; exact (Below.refl _ _).alloc (Nat.le_refl _) _)
  have hLw : L < w.heap.size := hT.low
  have hE0 : E < w.heap.size := lt_of_block hN.en
  have hy1 := (HBx.out.cell (p := ⟨E, a, none⟩) hE0).trans hE1
  have hy2 := (HBx.out.cell (p := ⟨E, 1 - a, none⟩) hE0).trans hE2
  have HN := hide (hN.next HBx.out)
  have HT := hide (hT.next HBx.out)
  have HRb := hide (hR.below' HBx.out (Nat.le_of_lt hLw))
  have HBx2 : Hid (Below L w x) := hide (HBx.out.mono (Nat.le_of_lt hLw))
  have hBx : B ≤ x.heap.size := Nat.le_trans hBw HBx.out.size
  have HXe : Hid (w.heap.size = X) := hide hX
  have HXn := hide hx
  have HD := hide hD
  have HW := hide hW
  have HP := hide hP
  have HG := hide hG
  have HLw := hide hLw
  have HAa := hide hAa
  have HBl := hide hbl
  clear hx hX hN hT hE1 hE2 hW hP hG hD hR hBw HBx hAa hbl
  obtain ⟨v0, hv0, hR0⟩ := HN.out.way.at_ HW.out.1
  obtain ⟨A0, c0, rfl, -, hc01, hc02⟩ := hR0.rd
  obtain ⟨n0, hn0⟩ : ∃ z, ws.length = z := ⟨_, rfl⟩
  rw [hn0] at hv0 hR0 hc01
  have hn1 : n0 ≤ 100 := by rw [← hn0]; exact HD.out.l1
  have HR0 := hide hR0
  have HN0 := hide hn0
  have s0 : x.cell? ⟨X, 0, none⟩ = some (.int .u8 (k : Int)) := cell_of_row _ _ 0 _ _ _ HX.out
  have s1 : x.cell? ⟨X, 1, none⟩ = some (.int .u8 (A8 : Int)) := cell_of_row _ _ 1 _ _ _ HX.out
  have s2 : x.cell? ⟨X, 2, none⟩ = some (.int .u8 (N8 : Int)) := cell_of_row _ _ 2 _ _ _ HX.out
  have s3 : x.cell? ⟨X, 3, none⟩ = some (.slice Ab bl cb) := cell_of_row _ _ 3 _ _ _ HX.out
  have e0 : x.cell? ⟨W, 0, none⟩ = some (.slice (some ⟨E, 0, none⟩) 2 2) := cell_of_row _ _ 0 _ _ _ HN.out.wd
  have e1 : x.cell? ⟨W, 1, none⟩ = some (.slice (some ⟨Y, 0, none⟩) 2 2) := cell_of_row _ _ 1 _ _ _ HN.out.wd
  have hXx : X < x.heap.size := lt_of_block HX.out
  have hWx : W < x.heap.size := lt_of_block HN.out.wd
  have hYx : Y < x.heap.size := HN.out.way.lt
  have hEx : E < x.heap.size := lt_of_block HN.out.en
  have ha0 : (0 : Int) ≤ (a : Int) := by omega
  have ha1 : (a : Int) < 2 := by omega
  clear hR0 hn0
  have hk10 : (k : Int) % 10 = 8 := by omega
  have hAi : (A8 : Int) % 2 = (a : Int) := by have := HAa.out; omega
  by_cases hz : n0 = 0
  · have hz0 : ¬ (0 : Int) < (n0 : Int) := by omega
    have hN64 : IntKind.i64.wrap (N8 : Int) = (N8 : Int) := IntWalk.i64_in _ (by omega)
    have hLx0 : L ≤ x.heap.size := Nat.le_trans (Nat.le_of_lt hLw) HBx2.out.size
    go_enter Try.func18, Try.ntmps18
    go_upto_region 1 with fail
    rw [HXn.out, HXe.out]
    go_upto_region 28 with fail
    by_cases heq : N8 = ep
    · have hqe : ((N8 : Int) == (ep : Int)) = true := by simp [heq]
      have HNd := hide (HN.out.next (Below.refl _ _).drew)
      have HTd := hide (HT.out.next (Below.refl _ _).drew)
      clear heq
      refine wp_region_held_drew (S := Kept x) (by kernel_rfl) (Kept.drew x) (fun hS0 => ?_)
      refine take_at (i := 0) (d := 162) (v := ?_) (by simp only [List.getElem?_toArray, List.getElem?_cons_succ, List.getElem?_cons_zero]; rfl) rfl (by kernel_rfl) (by kernel_rfl) (by kernel_rfl) (fun _ _ _ h => h) rfl ?_ (by assumption) ?_
      rotate_left
      focus (intro w hSw; go_simp; (try with_reducible rfl); done)
      try simp only [List.setIfInBounds_toArray, List.set_cons_zero, List.set_cons_succ]
      refine take_at (i := 1) (d := 163) (v := ?_) (by simp only [List.getElem?_toArray, List.getElem?_cons_succ, List.getElem?_cons_zero]; rfl) rfl (by kernel_rfl) (by kernel_rfl) (by kernel_rfl) (fun _ _ _ h => h) rfl ?_ (by assumption) ?_
      rotate_left
      focus (intro w hSw; go_simp; (try with_reducible rfl); done)
      try simp only [List.setIfInBounds_toArray, List.set_cons_zero, List.set_cons_succ]
      refine take_at (i := 2) (d := 164) (v := ?_) (by simp only [List.getElem?_toArray, List.getElem?_cons_succ, List.getElem?_cons_zero]; rfl) rfl (by kernel_rfl) (by kernel_rfl) (by kernel_rfl) (fun _ _ _ h => h) rfl ?_ (by assumption) ?_
      rotate_left
      focus (intro w hSw; go_simp; (try with_reducible rfl); done)
      try simp only [List.setIfInBounds_toArray, List.set_cons_zero, List.set_cons_succ]
      refine take_at (i := 3) (d := 165) (v := ?_) (by simp only [List.getElem?_toArray, List.getElem?_cons_succ, List.getElem?_cons_zero]; rfl) rfl (by kernel_rfl) (by kernel_rfl) (by kernel_rfl) (fun _ _ _ h => h) rfl ?_ (by assumption) ?_
      rotate_left
      focus (intro w hSw; go_simp; (try with_reducible rfl); done)
      try simp only [List.setIfInBounds_toArray, List.set_cons_zero, List.set_cons_succ]
      refine take_at (i := 4) (d := 166) (v := ?_) (by simp only [List.getElem?_toArray, List.getElem?_cons_succ, List.getElem?_cons_zero]; rfl) rfl (by kernel_rfl) (by kernel_rfl) (by kernel_rfl) (fun _ _ _ h => h) rfl ?_ (by assumption) ?_
      rotate_left
      focus (intro w hSw; go_simp; (try with_reducible rfl); done)
      try simp only [List.setIfInBounds_toArray, List.set_cons_zero, List.set_cons_succ]
      refine take_at (i := 5) (d := 167) (v := ?_) (by simp only [List.getElem?_toArray, List.getElem?_cons_succ, List.getElem?_cons_zero]; rfl) rfl (by kernel_rfl) (by kernel_rfl) (by kernel_rfl) (fun _ _ _ h => h) rfl ?_ (by assumption) ?_
      rotate_left
      focus (intro w hSw; go_simp; (try with_reducible rfl); done)
      try simp only [List.setIfInBounds_toArray, List.set_cons_zero, List.set_cons_succ]
      refine take_at (i := 6) (d := 168) (v := ?_) (by simp only [List.getElem?_toArray, List.getElem?_cons_succ, List.getElem?_cons_zero]; rfl) rfl (by kernel_rfl) (by kernel_rfl) (by kernel_rfl) (fun _ _ _ h => h) rfl ?_ (by assumption) ?_
      rotate_left
      focus (intro w hSw; go_simp; (try with_reducible rfl); done)
      try simp only [List.setIfInBounds_toArray, List.set_cons_zero, List.set_cons_succ]
      refine take_at (i := 7) (d := 169) (v := ?_) (by simp only [List.getElem?_toArray, List.getElem?_cons_succ, List.getElem?_cons_zero]; rfl) rfl (by kernel_rfl) (by kernel_rfl) (by kernel_rfl) (fun _ _ _ h => h) rfl ?_ (by assumption) ?_
      rotate_left
      focus (intro w hSw; go_simp; (try with_reducible rfl); done)
      try simp only [List.setIfInBounds_toArray, List.set_cons_zero, List.set_cons_succ]
      refine take_at (i := 8) (d := 170) (v := ?_) (by simp only [List.getElem?_toArray, List.getElem?_cons_succ, List.getElem?_cons_zero]; rfl) rfl (by kernel_rfl) (by kernel_rfl) (by kernel_rfl) (fun _ _ _ h => h) rfl ?_ (by assumption) ?_
      rotate_left
      focus (intro w hSw; go_simp; (try with_reducible rfl); done)
      try simp only [List.setIfInBounds_toArray, List.set_cons_zero, List.set_cons_succ]
      refine take_at (i := 9) (d := 171) (v := ?_) (by simp only [List.getElem?_toArray, List.getElem?_cons_succ, List.getElem?_cons_zero]; rfl) rfl (by kernel_rfl) (by kernel_rfl) (by kernel_rfl) (fun _ _ _ h => h) rfl ?_ (by assumption) ?_
      rotate_left
      focus (intro w hSw; go_simp; (try with_reducible rfl); done)
      try simp only [List.setIfInBounds_toArray, List.set_cons_zero, List.set_cons_succ]
      refine call_at (i := 10) (d := 172) (by simp only [List.getElem?_toArray, List.getElem?_cons_succ, List.getElem?_cons_zero]; rfl) rfl (by kernel_rfl) rfl (fun K hK => ?_)
      go_simp
      refine (two_epoch (HT.out.next (Below.refl _ _).drew)).mono ?_
      rintro e y1 ⟨rfl, rfl⟩
      have hS1 : Kept x x.drew := Kept.drew x
      rw [HD.out.e1]
      go_wp2_with fail
      refine hK.out _ _ hS1 (fun hSn => ?_)
      clear hK K
      try simp only [List.setIfInBounds_toArray, List.set_cons_zero, List.set_cons_succ]
      refine take_at (i := 11) (d := 173) (v := ?_) (by simp only [List.getElem?_toArray, List.getElem?_cons_succ, List.getElem?_cons_zero]; rfl) rfl (by kernel_rfl) (by kernel_rfl) (by kernel_rfl) (fun _ _ _ h => h) rfl ?_ (by assumption) ?_
      rotate_left
      focus (intro w hSw; go_simp; (try rw [hN64]); (try rw [hqe]); (try with_reducible rfl); done)
      try simp only [List.setIfInBounds_toArray, List.set_cons_zero, List.set_cons_succ]
      refine wpAnyH_done (by kernel_rfl) ?_ _
      clear hS0 hSn
      have HFin : Hid (NSt x.drew L W P1 P2 a Q1 Q2 ep (m + 1) (n + 1)) := hide ⟨E, Y, U, T, tag, B, ways, puts, gots, s, t, ws, wt, ps, pt, gs, gt, HNd.out, HTd.out.mono (Nat.le_refl _) (Nat.le_succ _), hBx, hy1, hy2, HW.out, HP.out, HG.out, HD.out.mono⟩
      have HFb := hide HBx2.out.drew
      go_wp2
      go_end0
      exact ⟨rfl, HFin.out, HFb.out⟩
    have hqe : ((N8 : Int) == (ep : Int)) = false := by simp; omega
    have HNe := hide heq
    clear heq
    refine wp_region_held_drew (S := Kept x) (by kernel_rfl) (Kept.drew x) (fun hS0 => ?_)
    refine take_at (i := 0) (d := 162) (v := ?_) (by simp only [List.getElem?_toArray, List.getElem?_cons_succ, List.getElem?_cons_zero]; rfl) rfl (by kernel_rfl) (by kernel_rfl) (by kernel_rfl) (fun _ _ _ h => h) rfl ?_ (by assumption) ?_
    rotate_left
    focus (intro w hSw; go_simp; (try with_reducible rfl); done)
    try simp only [List.setIfInBounds_toArray, List.set_cons_zero, List.set_cons_succ]
    refine take_at (i := 1) (d := 163) (v := ?_) (by simp only [List.getElem?_toArray, List.getElem?_cons_succ, List.getElem?_cons_zero]; rfl) rfl (by kernel_rfl) (by kernel_rfl) (by kernel_rfl) (fun _ _ _ h => h) rfl ?_ (by assumption) ?_
    rotate_left
    focus (intro w hSw; go_simp; (try with_reducible rfl); done)
    try simp only [List.setIfInBounds_toArray, List.set_cons_zero, List.set_cons_succ]
    refine take_at (i := 2) (d := 164) (v := ?_) (by simp only [List.getElem?_toArray, List.getElem?_cons_succ, List.getElem?_cons_zero]; rfl) rfl (by kernel_rfl) (by kernel_rfl) (by kernel_rfl) (fun _ _ _ h => h) rfl ?_ (by assumption) ?_
    rotate_left
    focus (intro w hSw; go_simp; (try with_reducible rfl); done)
    try simp only [List.setIfInBounds_toArray, List.set_cons_zero, List.set_cons_succ]
    refine take_at (i := 3) (d := 165) (v := ?_) (by simp only [List.getElem?_toArray, List.getElem?_cons_succ, List.getElem?_cons_zero]; rfl) rfl (by kernel_rfl) (by kernel_rfl) (by kernel_rfl) (fun _ _ _ h => h) rfl ?_ (by assumption) ?_
    rotate_left
    focus (intro w hSw; go_simp; (try with_reducible rfl); done)
    try simp only [List.setIfInBounds_toArray, List.set_cons_zero, List.set_cons_succ]
    refine take_at (i := 4) (d := 166) (v := ?_) (by simp only [List.getElem?_toArray, List.getElem?_cons_succ, List.getElem?_cons_zero]; rfl) rfl (by kernel_rfl) (by kernel_rfl) (by kernel_rfl) (fun _ _ _ h => h) rfl ?_ (by assumption) ?_
    rotate_left
    focus (intro w hSw; go_simp; (try with_reducible rfl); done)
    try simp only [List.setIfInBounds_toArray, List.set_cons_zero, List.set_cons_succ]
    refine take_at (i := 5) (d := 167) (v := ?_) (by simp only [List.getElem?_toArray, List.getElem?_cons_succ, List.getElem?_cons_zero]; rfl) rfl (by kernel_rfl) (by kernel_rfl) (by kernel_rfl) (fun _ _ _ h => h) rfl ?_ (by assumption) ?_
    rotate_left
    focus (intro w hSw; go_simp; (try with_reducible rfl); done)
    try simp only [List.setIfInBounds_toArray, List.set_cons_zero, List.set_cons_succ]
    refine take_at (i := 6) (d := 168) (v := ?_) (by simp only [List.getElem?_toArray, List.getElem?_cons_succ, List.getElem?_cons_zero]; rfl) rfl (by kernel_rfl) (by kernel_rfl) (by kernel_rfl) (fun _ _ _ h => h) rfl ?_ (by assumption) ?_
    rotate_left
    focus (intro w hSw; go_simp; (try with_reducible rfl); done)
    try simp only [List.setIfInBounds_toArray, List.set_cons_zero, List.set_cons_succ]
    refine take_at (i := 7) (d := 169) (v := ?_) (by simp only [List.getElem?_toArray, List.getElem?_cons_succ, List.getElem?_cons_zero]; rfl) rfl (by kernel_rfl) (by kernel_rfl) (by kernel_rfl) (fun _ _ _ h => h) rfl ?_ (by assumption) ?_
    rotate_left
    focus (intro w hSw; go_simp; (try with_reducible rfl); done)
    try simp only [List.setIfInBounds_toArray, List.set_cons_zero, List.set_cons_succ]
    refine take_at (i := 8) (d := 170) (v := ?_) (by simp only [List.getElem?_toArray, List.getElem?_cons_succ, List.getElem?_cons_zero]; rfl) rfl (by kernel_rfl) (by kernel_rfl) (by kernel_rfl) (fun _ _ _ h => h) rfl ?_ (by assumption) ?_
    rotate_left
    focus (intro w hSw; go_simp; (try with_reducible rfl); done)
    try simp only [List.setIfInBounds_toArray, List.set_cons_zero, List.set_cons_succ]
    refine take_at (i := 9) (d := 171) (v := ?_) (by simp only [List.getElem?_toArray, List.getElem?_cons_succ, List.getElem?_cons_zero]; rfl) rfl (by kernel_rfl) (by kernel_rfl) (by kernel_rfl) (fun _ _ _ h => h) rfl ?_ (by assumption) ?_
    rotate_left
    focus (intro w hSw; go_simp; (try with_reducible rfl); done)
    try simp only [List.setIfInBounds_toArray, List.set_cons_zero, List.set_cons_succ]
    refine call_at (i := 10) (d := 172) (by simp only [List.getElem?_toArray, List.getElem?_cons_succ, List.getElem?_cons_zero]; rfl) rfl (by kernel_rfl) rfl (fun K hK => ?_)
    go_simp
    refine (two_epoch (HT.out.next (Below.refl _ _).drew)).mono ?_
    rintro e y1 ⟨rfl, rfl⟩
    have hS1 : Kept x x.drew := Kept.drew x
    rw [HD.out.e1]
    go_wp2_with fail
    refine hK.out _ _ hS1 (fun hSn => ?_)
    clear hK K
    try simp only [List.setIfInBounds_toArray, List.set_cons_zero, List.set_cons_succ]
    refine take_at (i := 11) (d := 173) (v := ?_) (by simp only [List.getElem?_toArray, List.getElem?_cons_succ, List.getElem?_cons_zero]; rfl) rfl (by kernel_rfl) (by kernel_rfl) (by kernel_rfl) (fun _ _ _ h => h) rfl ?_ (by assumption) ?_
    rotate_left
    focus (intro w hSw; go_simp; (try rw [hN64]); (try rw [hqe]); (try with_reducible rfl); done)
    try simp only [List.setIfInBounds_toArray, List.set_cons_zero, List.set_cons_succ]
    refine wpAnyH_done (by kernel_rfl) ?_ _
    clear hS0 hSn hS1
    obtain ⟨z, hz⟩ : ∃ y, x.drew = y := ⟨_, rfl⟩
    have HBz : Hid (Below x.heap.size x z) := hide (by rw [← hz]; exact (Below.refl _ _).drew)
    have t2 : z.cell? ⟨X, 2, none⟩ = some (.int .u8 (N8 : Int)) := (HBz.out.cell (p := ⟨X, 2, none⟩) hXx).trans s2
    rw [hz]
    have hXz : X < z.heap.size := Nat.lt_of_lt_of_le hXx HBz.out.size
    clear hz s0 s1 e0 e1 hv0
    go_wp2_with fail
    have ho1 := lopen_any z (N8 : Int)
    rw [epN_small (by omega)] at ho1
    refine ho1.mono ?_
    clear ho1
    rintro e y1 ⟨P3, M3, rfl, hE3, hp3, hm3, hb3⟩
    have HB1 : Hid (Below x.heap.size x y1) := hide (HBz.out.trans (hb3.mono HBz.out.size))
    have HP3 : Hid (x.heap.size ≤ P3 ∧ x.heap.size ≤ M3) := hide ⟨Nat.le_trans HBz.out.size hp3, Nat.le_trans HBz.out.size hm3⟩
    have HE3 := hide hE3
    have r3 : y1.cell? ⟨X, 3, none⟩ = some (.slice Ab bl cb) := (HB1.out.cell (p := ⟨X, 3, none⟩) hXx).trans s3
    have hXy : X < y1.heap.size := Nat.lt_of_lt_of_le hXx HB1.out.size
    clear hE3 hp3 hm3 hb3 t2 s2 s3
    go_wp2_with fail
    have hsd := send_any y1 HE3.out Ab b cb ((HRb.out.below' HB1.out hLx0).more (Nat.le_trans hLx0 HB1.out.size)) (by rw [HBl.out]; omega) (show 1 < 1000000 by decide)
    rw [HBl.out] at hsd
    refine hsd.mono ?_
    clear hsd
    rintro e y2 ⟨rfl, G3, own3, hE4, hk4, -, -⟩
    have HX3 : Hid (∃ p, Dir (sendL (openL N8) b).2 (openL (sendL (openL N8) b).2.ep) p []) := hide (by rcases send_dir (Dir.open_ N8 (sendL (openL N8) b).2.ep) b (by rw [HBl.out]; omega) (show 1 < mostL by decide) with ⟨_, h⟩ | ⟨_, _, h⟩; exact ⟨_, h⟩; exact ⟨[], by rw [h]; exact Dir.open_ _ _⟩)
    have HX4 : Hid ((sendL (openL N8) b).2.ep = N8) := hide (by unfold sendL; split; rfl; split <;> rfl)
    obtain ⟨x3, hx3⟩ : ∃ z, (sendL (openL N8) b).2 = z := ⟨_, rfl⟩
    rw [hx3] at hE4 HX3 HX4
    obtain ⟨cd, hcd⟩ : ∃ z, (sendL (openL N8) b).1 = z := ⟨_, rfl⟩
    rw [hcd]
    have HE4 := hide hE4
    have HB2 : Hid (Below x.heap.size x y2) := hide (HB1.out.trans ⟨hk4.env.1, hk4.env.2.1, hk4.env.2.2, hk4.1, fun g hg => hk4.2 g (Nat.lt_of_lt_of_le hg HB1.out.size) (by have := HP3.out.1; simp; omega)⟩)
    clear hE4 hk4 hx3 hcd r3
    go_wp2_with fail
    refine (lout_any y2 HE4.out).mono ?_
    rintro e y3 ⟨v3, own5, rfl, hF3, -, -, hk5⟩
    have HB3 : Hid (Below x.heap.size x y3) := hide (HB2.out.trans ⟨hk5.env.1, hk5.env.2.1, hk5.env.2.2, hk5.1, fun g hg => hk5.2 g (Nat.lt_of_lt_of_le hg HB2.out.size) (by have := HP3.out.1; simp; omega)⟩)
    obtain ⟨fs, hfs⟩ : ∃ z, (fromL x3 x3.fresh x3.owes).1 = z := ⟨_, rfl⟩
    rw [hfs] at hF3
    have HF3 : Hid (FRw y3 y2.heap.size v3 fs) := hide ⟨own5, _, hF3⟩
    have HFl : Hid (fs.length ≤ 1000000) := hide (by rw [← hfs]; have := HE4.out.1.next; rcases from_len x3 x3.fresh x3.owes with h | ⟨_, h⟩ <;> omega)
    have HD1 : Hid (NDir ep s t (goesF ws fs) wt ps pt gs gt (m + 1)) := hide (by obtain ⟨p3, hp3⟩ := HX3.out; rw [← hfs]; exact HD.out.far hp3 HE4.out.1 (by rw [HX4.out]; exact HNe.out) HE4.out.1.fresh1 _)
    have HN3 := hide (HN.out.next HB3.out)
    have HT3 := hide (HT.out.next HB3.out)
    have HBb := hide (HBx2.out.trans (HB3.out.mono hLx0))
    have hLy : L ≤ y3.heap.size := Nat.le_trans hLx0 HB3.out.size
    have hByy : B ≤ y3.heap.size := Nat.le_trans hBx HB3.out.size
    have HY1 := hide ((HN3.out.ptr HN.out a).trans hy1)
    have HY2 := hide ((HN3.out.ptr HN.out (1 - a)).trans hy2)
    clear hF3 hk5 hfs hy1 hy2
    have hgo := goes_any y3 HN3.out a (by omega) (fun wy hwy => by rw [HW.out.1] at hwy; injection hwy with hwy; subst hwy; exact HD.out.l1) y2.heap.size _ fs HF3.out HFl.out
    have HGo := hide hgo
    clear hgo
    go_wp2_with fail
    refine HGo.out.mono ?_
    rintro e w9 ⟨rfl, ⟨tag9, hn9⟩, hm9⟩
    have HFin : Hid (NSt w9 L W P1 P2 a Q1 Q2 ep (m + 1) (n + 1)) := hide (nst_way1 hn9 hm9 HN3.out HT3.out hByy HY1.out HY2.out ha HW.out HP.out HG.out HD1.out)
    have HFb := hide (HBb.out.trans (hm9.toBelow hLy))
    clear hn9 hm9 HGo
    go_wp2
    go_end0
    exact ⟨rfl, HFin.out, HFb.out⟩
  have hz0 : (0 : Int) < (n0 : Int) := by omega
  obtain ⟨q, hq⟩ : ∃ z, N8 % n0 = z := ⟨_, rfl⟩
  have hqn : q < n0 := by rw [← hq]; exact Nat.mod_lt _ (by omega)
  have hNq : (N8 : Int) % (n0 : Int) = (q : Int) := by rw [← hq]; rfl
  have HQ := hide hq
  clear hq
  have hN64 : IntKind.i64.wrap (N8 : Int) = (N8 : Int) := IntWalk.i64_in _ (by omega)
  have hLx0 : L ≤ x.heap.size := Nat.le_trans (Nat.le_of_lt hLw) HBx2.out.size
  go_enter Try.func18, Try.ntmps18
  go_upto_region 1 with fail
  rw [HXn.out, HXe.out]
  go_upto_region 28 with fail
  by_cases heq : N8 = ep
  · have hqe : ((N8 : Int) == (ep : Int)) = true := by simp [heq]
    have HNd := hide (HN.out.next (Below.refl _ _).drew)
    have HTd := hide (HT.out.next (Below.refl _ _).drew)
    clear heq
    refine wp_region_held_drew (S := Kept x) (by kernel_rfl) (Kept.drew x) (fun hS0 => ?_)
    refine take_at (i := 0) (d := 162) (v := ?_) (by simp only [List.getElem?_toArray, List.getElem?_cons_succ, List.getElem?_cons_zero]; rfl) rfl (by kernel_rfl) (by kernel_rfl) (by kernel_rfl) (fun _ _ _ h => h) rfl ?_ (by assumption) ?_
    rotate_left
    focus (intro w hSw; go_simp; (try with_reducible rfl); done)
    try simp only [List.setIfInBounds_toArray, List.set_cons_zero, List.set_cons_succ]
    refine take_at (i := 1) (d := 163) (v := ?_) (by simp only [List.getElem?_toArray, List.getElem?_cons_succ, List.getElem?_cons_zero]; rfl) rfl (by kernel_rfl) (by kernel_rfl) (by kernel_rfl) (fun _ _ _ h => h) rfl ?_ (by assumption) ?_
    rotate_left
    focus (intro w hSw; go_simp; (try with_reducible rfl); done)
    try simp only [List.setIfInBounds_toArray, List.set_cons_zero, List.set_cons_succ]
    refine take_at (i := 2) (d := 164) (v := ?_) (by simp only [List.getElem?_toArray, List.getElem?_cons_succ, List.getElem?_cons_zero]; rfl) rfl (by kernel_rfl) (by kernel_rfl) (by kernel_rfl) (fun _ _ _ h => h) rfl ?_ (by assumption) ?_
    rotate_left
    focus (intro w hSw; go_simp; (try with_reducible rfl); done)
    try simp only [List.setIfInBounds_toArray, List.set_cons_zero, List.set_cons_succ]
    refine take_at (i := 3) (d := 165) (v := ?_) (by simp only [List.getElem?_toArray, List.getElem?_cons_succ, List.getElem?_cons_zero]; rfl) rfl (by kernel_rfl) (by kernel_rfl) (by kernel_rfl) (fun _ _ _ h => h) rfl ?_ (by assumption) ?_
    rotate_left
    focus (intro w hSw; go_simp; (try with_reducible rfl); done)
    try simp only [List.setIfInBounds_toArray, List.set_cons_zero, List.set_cons_succ]
    refine take_at (i := 4) (d := 166) (v := ?_) (by simp only [List.getElem?_toArray, List.getElem?_cons_succ, List.getElem?_cons_zero]; rfl) rfl (by kernel_rfl) (by kernel_rfl) (by kernel_rfl) (fun _ _ _ h => h) rfl ?_ (by assumption) ?_
    rotate_left
    focus (intro w hSw; go_simp; (try with_reducible rfl); done)
    try simp only [List.setIfInBounds_toArray, List.set_cons_zero, List.set_cons_succ]
    refine take_at (i := 5) (d := 167) (v := ?_) (by simp only [List.getElem?_toArray, List.getElem?_cons_succ, List.getElem?_cons_zero]; rfl) rfl (by kernel_rfl) (by kernel_rfl) (by kernel_rfl) (fun _ _ _ h => h) rfl ?_ (by assumption) ?_
    rotate_left
    focus (intro w hSw; go_simp; (try with_reducible rfl); done)
    try simp only [List.setIfInBounds_toArray, List.set_cons_zero, List.set_cons_succ]
    refine take_at (i := 6) (d := 168) (v := ?_) (by simp only [List.getElem?_toArray, List.getElem?_cons_succ, List.getElem?_cons_zero]; rfl) rfl (by kernel_rfl) (by kernel_rfl) (by kernel_rfl) (fun _ _ _ h => h) rfl ?_ (by assumption) ?_
    rotate_left
    focus (intro w hSw; go_simp; (try with_reducible rfl); done)
    try simp only [List.setIfInBounds_toArray, List.set_cons_zero, List.set_cons_succ]
    refine take_at (i := 7) (d := 169) (v := ?_) (by simp only [List.getElem?_toArray, List.getElem?_cons_succ, List.getElem?_cons_zero]; rfl) rfl (by kernel_rfl) (by kernel_rfl) (by kernel_rfl) (fun _ _ _ h => h) rfl ?_ (by assumption) ?_
    rotate_left
    focus (intro w hSw; go_simp; (try with_reducible rfl); done)
    try simp only [List.setIfInBounds_toArray, List.set_cons_zero, List.set_cons_succ]
    refine take_at (i := 8) (d := 170) (v := ?_) (by simp only [List.getElem?_toArray, List.getElem?_cons_succ, List.getElem?_cons_zero]; rfl) rfl (by kernel_rfl) (by kernel_rfl) (by kernel_rfl) (fun _ _ _ h => h) rfl ?_ (by assumption) ?_
    rotate_left
    focus (intro w hSw; go_simp; (try with_reducible rfl); done)
    try simp only [List.setIfInBounds_toArray, List.set_cons_zero, List.set_cons_succ]
    refine take_at (i := 9) (d := 171) (v := ?_) (by simp only [List.getElem?_toArray, List.getElem?_cons_succ, List.getElem?_cons_zero]; rfl) rfl (by kernel_rfl) (by kernel_rfl) (by kernel_rfl) (fun _ _ _ h => h) rfl ?_ (by assumption) ?_
    rotate_left
    focus (intro w hSw; go_simp; (try with_reducible rfl); done)
    try simp only [List.setIfInBounds_toArray, List.set_cons_zero, List.set_cons_succ]
    refine call_at (i := 10) (d := 172) (by simp only [List.getElem?_toArray, List.getElem?_cons_succ, List.getElem?_cons_zero]; rfl) rfl (by kernel_rfl) rfl (fun K hK => ?_)
    go_simp
    refine (two_epoch (HT.out.next (Below.refl _ _).drew)).mono ?_
    rintro e y1 ⟨rfl, rfl⟩
    have hS1 : Kept x x.drew := Kept.drew x
    rw [HD.out.e1]
    go_wp2_with fail
    refine hK.out _ _ hS1 (fun hSn => ?_)
    clear hK K
    try simp only [List.setIfInBounds_toArray, List.set_cons_zero, List.set_cons_succ]
    refine take_at (i := 11) (d := 173) (v := ?_) (by simp only [List.getElem?_toArray, List.getElem?_cons_succ, List.getElem?_cons_zero]; rfl) rfl (by kernel_rfl) (by kernel_rfl) (by kernel_rfl) (fun _ _ _ h => h) rfl ?_ (by assumption) ?_
    rotate_left
    focus (intro w hSw; go_simp; (try rw [hN64]); (try rw [hqe]); (try with_reducible rfl); done)
    try simp only [List.setIfInBounds_toArray, List.set_cons_zero, List.set_cons_succ]
    refine wpAnyH_done (by kernel_rfl) ?_ _
    clear hS0 hSn
    have HFin : Hid (NSt x.drew L W P1 P2 a Q1 Q2 ep (m + 1) (n + 1)) := hide ⟨E, Y, U, T, tag, B, ways, puts, gots, s, t, ws, wt, ps, pt, gs, gt, HNd.out, HTd.out.mono (Nat.le_refl _) (Nat.le_succ _), hBx, hy1, hy2, HW.out, HP.out, HG.out, HD.out.mono⟩
    have HFb := hide HBx2.out.drew
    go_wp2
    go_end0
    exact ⟨rfl, HFin.out, HFb.out⟩
  have hqe : ((N8 : Int) == (ep : Int)) = false := by simp; omega
  have HNe := hide heq
  clear heq
  refine wp_region_held_drew (S := Kept x) (by kernel_rfl) (Kept.drew x) (fun hS0 => ?_)
  refine take_at (i := 0) (d := 162) (v := ?_) (by simp only [List.getElem?_toArray, List.getElem?_cons_succ, List.getElem?_cons_zero]; rfl) rfl (by kernel_rfl) (by kernel_rfl) (by kernel_rfl) (fun _ _ _ h => h) rfl ?_ (by assumption) ?_
  rotate_left
  focus (intro w hSw; go_simp; (try with_reducible rfl); done)
  try simp only [List.setIfInBounds_toArray, List.set_cons_zero, List.set_cons_succ]
  refine take_at (i := 1) (d := 163) (v := ?_) (by simp only [List.getElem?_toArray, List.getElem?_cons_succ, List.getElem?_cons_zero]; rfl) rfl (by kernel_rfl) (by kernel_rfl) (by kernel_rfl) (fun _ _ _ h => h) rfl ?_ (by assumption) ?_
  rotate_left
  focus (intro w hSw; go_simp; (try with_reducible rfl); done)
  try simp only [List.setIfInBounds_toArray, List.set_cons_zero, List.set_cons_succ]
  refine take_at (i := 2) (d := 164) (v := ?_) (by simp only [List.getElem?_toArray, List.getElem?_cons_succ, List.getElem?_cons_zero]; rfl) rfl (by kernel_rfl) (by kernel_rfl) (by kernel_rfl) (fun _ _ _ h => h) rfl ?_ (by assumption) ?_
  rotate_left
  focus (intro w hSw; go_simp; (try with_reducible rfl); done)
  try simp only [List.setIfInBounds_toArray, List.set_cons_zero, List.set_cons_succ]
  refine take_at (i := 3) (d := 165) (v := ?_) (by simp only [List.getElem?_toArray, List.getElem?_cons_succ, List.getElem?_cons_zero]; rfl) rfl (by kernel_rfl) (by kernel_rfl) (by kernel_rfl) (fun _ _ _ h => h) rfl ?_ (by assumption) ?_
  rotate_left
  focus (intro w hSw; go_simp; (try with_reducible rfl); done)
  try simp only [List.setIfInBounds_toArray, List.set_cons_zero, List.set_cons_succ]
  refine take_at (i := 4) (d := 166) (v := ?_) (by simp only [List.getElem?_toArray, List.getElem?_cons_succ, List.getElem?_cons_zero]; rfl) rfl (by kernel_rfl) (by kernel_rfl) (by kernel_rfl) (fun _ _ _ h => h) rfl ?_ (by assumption) ?_
  rotate_left
  focus (intro w hSw; go_simp; (try with_reducible rfl); done)
  try simp only [List.setIfInBounds_toArray, List.set_cons_zero, List.set_cons_succ]
  refine take_at (i := 5) (d := 167) (v := ?_) (by simp only [List.getElem?_toArray, List.getElem?_cons_succ, List.getElem?_cons_zero]; rfl) rfl (by kernel_rfl) (by kernel_rfl) (by kernel_rfl) (fun _ _ _ h => h) rfl ?_ (by assumption) ?_
  rotate_left
  focus (intro w hSw; go_simp; (try with_reducible rfl); done)
  try simp only [List.setIfInBounds_toArray, List.set_cons_zero, List.set_cons_succ]
  refine take_at (i := 6) (d := 168) (v := ?_) (by simp only [List.getElem?_toArray, List.getElem?_cons_succ, List.getElem?_cons_zero]; rfl) rfl (by kernel_rfl) (by kernel_rfl) (by kernel_rfl) (fun _ _ _ h => h) rfl ?_ (by assumption) ?_
  rotate_left
  focus (intro w hSw; go_simp; (try with_reducible rfl); done)
  try simp only [List.setIfInBounds_toArray, List.set_cons_zero, List.set_cons_succ]
  refine take_at (i := 7) (d := 169) (v := ?_) (by simp only [List.getElem?_toArray, List.getElem?_cons_succ, List.getElem?_cons_zero]; rfl) rfl (by kernel_rfl) (by kernel_rfl) (by kernel_rfl) (fun _ _ _ h => h) rfl ?_ (by assumption) ?_
  rotate_left
  focus (intro w hSw; go_simp; (try with_reducible rfl); done)
  try simp only [List.setIfInBounds_toArray, List.set_cons_zero, List.set_cons_succ]
  refine take_at (i := 8) (d := 170) (v := ?_) (by simp only [List.getElem?_toArray, List.getElem?_cons_succ, List.getElem?_cons_zero]; rfl) rfl (by kernel_rfl) (by kernel_rfl) (by kernel_rfl) (fun _ _ _ h => h) rfl ?_ (by assumption) ?_
  rotate_left
  focus (intro w hSw; go_simp; (try with_reducible rfl); done)
  try simp only [List.setIfInBounds_toArray, List.set_cons_zero, List.set_cons_succ]
  refine take_at (i := 9) (d := 171) (v := ?_) (by simp only [List.getElem?_toArray, List.getElem?_cons_succ, List.getElem?_cons_zero]; rfl) rfl (by kernel_rfl) (by kernel_rfl) (by kernel_rfl) (fun _ _ _ h => h) rfl ?_ (by assumption) ?_
  rotate_left
  focus (intro w hSw; go_simp; (try with_reducible rfl); done)
  try simp only [List.setIfInBounds_toArray, List.set_cons_zero, List.set_cons_succ]
  refine call_at (i := 10) (d := 172) (by simp only [List.getElem?_toArray, List.getElem?_cons_succ, List.getElem?_cons_zero]; rfl) rfl (by kernel_rfl) rfl (fun K hK => ?_)
  go_simp
  refine (two_epoch (HT.out.next (Below.refl _ _).drew)).mono ?_
  rintro e y1 ⟨rfl, rfl⟩
  have hS1 : Kept x x.drew := Kept.drew x
  rw [HD.out.e1]
  go_wp2_with fail
  refine hK.out _ _ hS1 (fun hSn => ?_)
  clear hK K
  try simp only [List.setIfInBounds_toArray, List.set_cons_zero, List.set_cons_succ]
  refine take_at (i := 11) (d := 173) (v := ?_) (by simp only [List.getElem?_toArray, List.getElem?_cons_succ, List.getElem?_cons_zero]; rfl) rfl (by kernel_rfl) (by kernel_rfl) (by kernel_rfl) (fun _ _ _ h => h) rfl ?_ (by assumption) ?_
  rotate_left
  focus (intro w hSw; go_simp; (try rw [hN64]); (try rw [hqe]); (try with_reducible rfl); done)
  try simp only [List.setIfInBounds_toArray, List.set_cons_zero, List.set_cons_succ]
  refine wpAnyH_done (by kernel_rfl) ?_ _
  clear hS0 hSn hS1
  obtain ⟨z, hz⟩ : ∃ y, x.drew = y := ⟨_, rfl⟩
  have HBz : Hid (Below x.heap.size x z) := hide (by rw [← hz]; exact (Below.refl _ _).drew)
  have t2 : z.cell? ⟨X, 2, none⟩ = some (.int .u8 (N8 : Int)) := (HBz.out.cell (p := ⟨X, 2, none⟩) hXx).trans s2
  rw [hz]
  have hXz : X < z.heap.size := Nat.lt_of_lt_of_le hXx HBz.out.size
  clear hz s0 s1 e0 e1 hv0
  go_wp2_with fail
  have ho1 := lopen_any z (N8 : Int)
  rw [epN_small (by omega)] at ho1
  refine ho1.mono ?_
  clear ho1
  rintro e y1 ⟨P3, M3, rfl, hE3, hp3, hm3, hb3⟩
  have HB1 : Hid (Below x.heap.size x y1) := hide (HBz.out.trans (hb3.mono HBz.out.size))
  have HP3 : Hid (x.heap.size ≤ P3 ∧ x.heap.size ≤ M3) := hide ⟨Nat.le_trans HBz.out.size hp3, Nat.le_trans HBz.out.size hm3⟩
  have HE3 := hide hE3
  have r3 : y1.cell? ⟨X, 3, none⟩ = some (.slice Ab bl cb) := (HB1.out.cell (p := ⟨X, 3, none⟩) hXx).trans s3
  have hXy : X < y1.heap.size := Nat.lt_of_lt_of_le hXx HB1.out.size
  clear hE3 hp3 hm3 hb3 t2 s2 s3
  go_wp2_with fail
  have hsd := send_any y1 HE3.out Ab b cb ((HRb.out.below' HB1.out hLx0).more (Nat.le_trans hLx0 HB1.out.size)) (by rw [HBl.out]; omega) (show 1 < 1000000 by decide)
  rw [HBl.out] at hsd
  refine hsd.mono ?_
  clear hsd
  rintro e y2 ⟨rfl, G3, own3, hE4, hk4, -, -⟩
  have HX3 : Hid (∃ p, Dir (sendL (openL N8) b).2 (openL (sendL (openL N8) b).2.ep) p []) := hide (by rcases send_dir (Dir.open_ N8 (sendL (openL N8) b).2.ep) b (by rw [HBl.out]; omega) (show 1 < mostL by decide) with ⟨_, h⟩ | ⟨_, _, h⟩; exact ⟨_, h⟩; exact ⟨[], by rw [h]; exact Dir.open_ _ _⟩)
  have HX4 : Hid ((sendL (openL N8) b).2.ep = N8) := hide (by unfold sendL; split; rfl; split <;> rfl)
  obtain ⟨x3, hx3⟩ : ∃ z, (sendL (openL N8) b).2 = z := ⟨_, rfl⟩
  rw [hx3] at hE4 HX3 HX4
  obtain ⟨cd, hcd⟩ : ∃ z, (sendL (openL N8) b).1 = z := ⟨_, rfl⟩
  rw [hcd]
  have HE4 := hide hE4
  have HB2 : Hid (Below x.heap.size x y2) := hide (HB1.out.trans ⟨hk4.env.1, hk4.env.2.1, hk4.env.2.2, hk4.1, fun g hg => hk4.2 g (Nat.lt_of_lt_of_le hg HB1.out.size) (by have := HP3.out.1; simp; omega)⟩)
  clear hE4 hk4 hx3 hcd r3
  go_wp2_with fail
  refine (lout_any y2 HE4.out).mono ?_
  rintro e y3 ⟨v3, own5, rfl, hF3, -, -, hk5⟩
  have HB3 : Hid (Below x.heap.size x y3) := hide (HB2.out.trans ⟨hk5.env.1, hk5.env.2.1, hk5.env.2.2, hk5.1, fun g hg => hk5.2 g (Nat.lt_of_lt_of_le hg HB2.out.size) (by have := HP3.out.1; simp; omega)⟩)
  obtain ⟨fs, hfs⟩ : ∃ z, (fromL x3 x3.fresh x3.owes).1 = z := ⟨_, rfl⟩
  rw [hfs] at hF3
  have HF3 : Hid (FRw y3 y2.heap.size v3 fs) := hide ⟨own5, _, hF3⟩
  have HFl : Hid (fs.length ≤ 1000000) := hide (by rw [← hfs]; have := HE4.out.1.next; rcases from_len x3 x3.fresh x3.owes with h | ⟨_, h⟩ <;> omega)
  have HD1 : Hid (NDir ep s t (goesF ws fs) wt ps pt gs gt (m + 1)) := hide (by obtain ⟨p3, hp3⟩ := HX3.out; rw [← hfs]; exact HD.out.far hp3 HE4.out.1 (by rw [HX4.out]; exact HNe.out) HE4.out.1.fresh1 _)
  have HN3 := hide (HN.out.next HB3.out)
  have HT3 := hide (HT.out.next HB3.out)
  have HBb := hide (HBx2.out.trans (HB3.out.mono hLx0))
  have hLy : L ≤ y3.heap.size := Nat.le_trans hLx0 HB3.out.size
  have hByy : B ≤ y3.heap.size := Nat.le_trans hBx HB3.out.size
  have HY1 := hide ((HN3.out.ptr HN.out a).trans hy1)
  have HY2 := hide ((HN3.out.ptr HN.out (1 - a)).trans hy2)
  clear hF3 hk5 hfs hy1 hy2
  have hgo := goes_any y3 HN3.out a (by omega) (fun wy hwy => by rw [HW.out.1] at hwy; injection hwy with hwy; subst hwy; exact HD.out.l1) y2.heap.size _ fs HF3.out HFl.out
  have HGo := hide hgo
  clear hgo
  go_wp2_with fail
  refine HGo.out.mono ?_
  rintro e w9 ⟨rfl, ⟨tag9, hn9⟩, hm9⟩
  have HFin : Hid (NSt w9 L W P1 P2 a Q1 Q2 ep (m + 1) (n + 1)) := hide (nst_way1 hn9 hm9 HN3.out HT3.out hByy HY1.out HY2.out ha HW.out HP.out HG.out HD1.out)
  have HFb := hide (HBb.out.trans (hm9.toBelow hLy))
  clear hn9 hm9 HGo
  go_wp2
  go_end0
  exact ⟨rfl, HFin.out, HFb.out⟩
end Go.Proofs.Ytigmmikijjcdiaa
