/- Lemmas: Nq3. -/
import Derived.Test.YtigmmikijjcdiaaProg
import Derived.Deep.DeepCutAuto
import Derived.Lib.Hide
import Derived.WalkSpells
import Derived.WalkMore
import Derived.IntWalk
import Derived.Test.YtigmmikijjcdiaaLnWw24
set_option linter.unusedVariables false
set_option linter.unusedSimpArgs false
set_option maxRecDepth 100000
set_option maxHeartbeats 16000000
namespace Go.Proofs.Ytigmmikijjcdiaa
open Go.RowKit
theorem step_send0 (w : World) {L W P1 P2 a Q1 Q2 ep m n : Nat} (hS : NSt w L W P1 P2 a Q1 Q2 ep m n) (ha : a < 2) (hm : m ≤ 1000) (hn : n ≤ 1000) (k A8 N8 : Nat) (hk : k < 256) (hA : A8 < 256) (hN8 : N8 < 256) (hAa : A8 % 2 = a) (Ab : Option Addr) (b : BL) (bl cb : Nat) (hbl : b.length = bl) (hR : Rd w L Ab (u8s b)) (hb : bl ≤ 5000) (hkk : k % 10 = 0) :
  Calls Try.prog 18 #[.pointer (some ⟨W, 0, none⟩), .agg #[.int .u8 (k : Int), .int .u8 (A8 : Int), .int .u8 (N8 : Int), .slice Ab bl cb]] w (StepPost w L W P1 P2 a Q1 Q2 ep m n) := by
 obtain ⟨E, Y, U, T, tag, B, ways, puts, gots, s, t, ws, wt, ps, pt, gs, gt, hN, hT, hBw, hE1, hE2, hW, hP, hG, hD⟩ := hS
 obtain ⟨x, hx⟩ : ∃ z, w.alloc (.cells #[.int .u8 (k : Int), .int .u8 (A8 : Int), .int .u8 (N8 : Int), .slice Ab bl cb] 40) = z := ⟨_, rfl⟩
 obtain ⟨X, hX⟩ : ∃ z, w.heap.size = z := ⟨_, rfl⟩
 have HX : Hid (x.heap[X]? = some (.cells #[.int .u8 (k : Int), .int .u8 (A8 : Int), .int .u8 (N8 : Int), .slice Ab bl cb] 40)) := hide (by rw [← hx, ← hX]; exact heap_alloc_last w _)
 have HBx : Hid (Below w.heap.size w x) := hide (by rw [← hx]; exact (Below.refl _ _).alloc (Nat.le_refl _) _)
 have hLw : L < w.heap.size := hT.low
 have hE0 : E < w.heap.size := lt_of_block hN.en
 have hy1 := (HBx.out.cell (p := ⟨E, a, none⟩) hE0).trans hE1
 have hy2 := (HBx.out.cell (p := ⟨E, 1 - a, none⟩) hE0).trans hE2
 have HN := hide (hN.next HBx.out)
 have HT := hide (hT.next HBx.out)
 have HRb := hide (hR.below' HBx.out (Nat.le_of_lt hLw))
 have HBx2 : Hid (Below L w x) := hide (HBx.out.mono (Nat.le_of_lt hLw))
 have hBx : B ≤ x.heap.size := Nat.le_trans hBw HBx.out.size
 have HXe : Hid (w.heap.size = X) := hide hX
 have HXn := hide hx
 have HD := hide hD
 have HW := hide hW
 have HP := hide hP
 have HG := hide hG
 have HLw := hide hLw
 have HAa := hide hAa
 have HBl := hide hbl
 clear hx hX hN hT hE1 hE2 hW hP hG hD hR hBw HBx hAa hbl
 obtain ⟨v0, hv0, hR0⟩ := HN.out.way.at_ HW.out.1
 obtain ⟨A0, c0, rfl, -, hc01, hc02⟩ := hR0.rd
 obtain ⟨n0, hn0⟩ : ∃ z, ws.length = z := ⟨_, rfl⟩
 rw [hn0] at hv0 hR0 hc01
 have hn1 : n0 ≤ 100 := by rw [← hn0]; exact HD.out.l1
 have HR0 := hide hR0
 have HN0 := hide hn0
 have s0 : x.cell? ⟨X, 0, none⟩ = some (.int .u8 (k : Int)) := cell_of_row _ _ 0 _ _ _ HX.out
 have s1 : x.cell? ⟨X, 1, none⟩ = some (.int .u8 (A8 : Int)) := cell_of_row _ _ 1 _ _ _ HX.out
 have s2 : x.cell? ⟨X, 2, none⟩ = some (.int .u8 (N8 : Int)) := cell_of_row _ _ 2 _ _ _ HX.out
 have s3 : x.cell? ⟨X, 3, none⟩ = some (.slice Ab bl cb) := cell_of_row _ _ 3 _ _ _ HX.out
 have e0 : x.cell? ⟨W, 0, none⟩ = some (.slice (some ⟨E, 0, none⟩) 2 2) := cell_of_row _ _ 0 _ _ _ HN.out.wd
 have e1 : x.cell? ⟨W, 1, none⟩ = some (.slice (some ⟨Y, 0, none⟩) 2 2) := cell_of_row _ _ 1 _ _ _ HN.out.wd
 have hXx : X < x.heap.size := lt_of_block HX.out
 have hWx : W < x.heap.size := lt_of_block HN.out.wd
 have hYx : Y < x.heap.size := HN.out.way.lt
 have hEx : E < x.heap.size := lt_of_block HN.out.en
 have ha0 : (0 : Int) ≤ (a : Int) := by omega
 have ha1 : (a : Int) < 2 := by omega
 clear hR0 hn0
 have hk10 : (k : Int) % 10 = 0 := by omega
 have hAi : (A8 : Int) % 2 = (a : Int) := by have := HAa.out; omega
 by_cases hz : n0 = 0
 ·have hz0 : ¬ (0 : Int) < (n0 : Int) := by omega
  have hLx0 : L ≤ x.heap.size := Nat.le_trans (Nat.le_of_lt hLw) HBx2.out.size
  go_enter Try.func18, Try.ntmps18
  go_upto_region 1 with fail
  rw [HXn.out, HXe.out]
  go_upto_region 21 with fail
  refine wp_region_held_drew (S := (fun w9 : World => (w9.cell? ⟨W, 0, none⟩ = some (.slice (some ⟨E, 0, none⟩) 2 2) ∧ w9.cell? ⟨E, a, none⟩ = some (.pointer (some ⟨Q1, 0, none⟩)) ∧ w9.cell? ⟨X, 3, none⟩ = some (.slice Ab bl cb)))) (by kernel_rfl) ⟨e0, hy1, s3⟩ (fun hS0 => ?_)
  refine tk 0 103 ?_ ?_ ?_; rotate_left; (focus (intro w h; go_simp; (try with_reducible rfl))); (try simp only [zqd, zqe, zqf])
  refine tk 1 104 ?_ ?_ ?_; rotate_left; (focus (intro w h; go_simp; (try with_reducible rfl))); (try simp only [zqd, zqe, zqf])
  refine tk 2 105 ?_ ?_ ?_; rotate_left; (focus (intro w h; go_simp; (try with_reducible rfl))); (try simp only [zqd, zqe, zqf])
  refine tk 3 106 ?_ ?_ ?_; rotate_left; (focus (intro w h; go_simp; (try with_reducible rfl))); (try simp only [zqd, zqe, zqf])
  refine tk 4 107 ?_ ?_ ?_; rotate_left; (focus (intro w h; go_simp; (try with_reducible rfl))); (try simp only [zqd, zqe, zqf])
  refine tk 5 108 ?_ ?_ ?_; rotate_left; (focus (intro w h; go_simp; (try with_reducible rfl))); (try simp only [zqd, zqe, zqf])
  refine tk 6 109 ?_ ?_ ?_; rotate_left; (focus (intro w h; go_simp; (try with_reducible rfl))); (try simp only [zqd, zqe, zqf])
  refine tk 7 110 ?_ ?_ ?_; rotate_left; (focus (intro w h; go_simp; (try with_reducible rfl))); (try simp only [zqd, zqe, zqf])
  refine tk 8 111 ?_ ?_ ?_; rotate_left; (focus (intro w h; go_simp; (try with_reducible rfl))); (try simp only [zqd, zqe, zqf])
  refine call_at (i := 9) (d := 112) (by simp only [zqa, zqb, zqc]; rfl) rfl (by kernel_rfl) rfl (fun K hK => ?_)
  go_simp
  have hsd := two_send (HT.out.next (Below.refl _ _).drew) (show B ≤ x.drew.heap.size from hBx) Ab b cb (show Rd x.drew x.drew.heap.size Ab (u8s b) from (HRb.out.more hLx0).drew) (by rw [HBl.out]; omega) (by have := HD.out.d1.next; have := HD.out.p1; omega)
  rw [HBl.out] at hsd
  refine hsd.mono ?_
  clear hsd
  rintro e y1 ⟨rfl, ht, hm⟩
  obtain ⟨cd, hcd⟩ : ∃ z, (sendL s b).1 = z := ⟨_, rfl⟩
  rw [hcd]
  have HCd := hide hcd
  have HT1 := hide ht
  have HM1 : Hid (Mid L B x y1) := hide ⟨hm.1, hm.2, hm.3, hm.4⟩
  have hS1 : (y1.cell? ⟨W, 0, none⟩ = some (.slice (some ⟨E, 0, none⟩) 2 2) ∧ y1.cell? ⟨E, a, none⟩ = some (.pointer (some ⟨Q1, 0, none⟩)) ∧ y1.cell? ⟨X, 3, none⟩ = some (.slice Ab bl cb)) := ⟨(World.cell?_of_block (HM1.out.oth _ _ _ HN.out.wd (by decide) (by decide))).trans e0, (World.cell?_of_block (HM1.out.oth _ _ _ HN.out.en (by decide) (by decide))).trans hy1, (World.cell?_of_block (HM1.out.oth _ _ _ HX.out (by decide) (by decide))).trans s3⟩
  clear ht hm hcd
  go_wp2_with fail
  refine hK.out _ _ hS1 (fun hSn => ?_)
  clear hK K
  try simp only [zqd, zqe, zqf]
  refine tk 10 113 ?_ ?_ ?_; rotate_left; (focus (intro w h; go_simp; (try with_reducible rfl))); (try simp only [zqd, zqe, zqf])
  refine wpAnyH_done (by kernel_rfl) ?_ _
  clear hS0 hSn hS1
  have HSd := hide (HD.out.send b (by rw [HBl.out]; omega) (by omega))
  have HN1 := hide (HN.out.mid HM1.out)
  have HB1 : Hid (Below L w y1) := hide (HBx2.out.trans (HM1.out.toBelow hLx0))
  have HX1 := hide ((HM1.out.oth _ _ _ HX.out (by decide) (by decide)).trans HX.out)
  have HE1 := hide ((HN1.out.ptr HN.out a).trans hy1)
  have HE2 := hide ((HN1.out.ptr HN.out (1 - a)).trans hy2)
  have hLy : L ≤ y1.heap.size := Nat.le_trans hLx0 HM1.out.size
  have HRb1 := hide (HRb.out.below' (HM1.out.toBelow hLx0) (Nat.le_refl _))
  clear s0 s1 s2 s3 e0 e1 hv0 hy1 hy2
  by_cases hc0 : cd = 0
  rotate_left
  ·have hcq : (cd == 0) = false := by simp [hc0]
   have HFin : Hid (NSt y1 L W P1 P2 a Q1 Q2 ep (m + 1) (n + 1)) := hide (by rcases HSd.out with ⟨h, _⟩ | ⟨_, h⟩; exact absurd (HCd.out.symm.trans h) hc0; exact ⟨E, Y, U, T, tag, _, ways, puts, gots, _, t, ws, wt, ps, pt, gs, gt, HN1.out, HT1.out.mono (Nat.le_refl _) (Nat.le_succ _), Nat.le_refl _, HE1.out, HE2.out, HW.out, HP.out, HG.out, h⟩)
   go_wp2
   go_end0
   exact ⟨rfl, HFin.out, HB1.out⟩
  have hcq : (cd == 0) = true := by simp [hc0]
  have HSd2 : Hid (NDir ep (sendL s b).2 t ws wt (ps ++ [b]) pt gs gt (m + 1)) := hide (by rcases HSd.out with ⟨_, h⟩ | ⟨h, _⟩; exact h; exact absurd (HCd.out.trans hc0) h)
  clear hc0 HR0 hc01 hc02
  obtain ⟨vp, hvp, hRp⟩ := HN1.out.put.at_ HP.out.1
  obtain ⟨A0, c0, rfl, -, -, -⟩ := hRp.rd
  obtain ⟨np, hnp⟩ : ∃ z, ps.length = z := ⟨_, rfl⟩
  rw [hnp] at hvp
  have hnp2 : np ≤ 10000 := by have := HD.out.p1; omega
  obtain ⟨xs, hxs⟩ : ∃ z, ps = z := ⟨_, rfl⟩
  rw [hxs] at hRp hnp HSd2 HP
  have HR0 : Hid (StrRow y1 L tag (1, a) (.slice A0 np c0) xs) := hide (by rw [← hnp]; exact hRp)
  have HRo : Hid (y1.ownsRow L 9 1 (.slice A0 np c0) np (strs xs)) := hide (by have h := HR0.out.2.1; rwa [hnp] at h)
  have HNp := hide hnp
  clear hRp hnp hxs
  have q1 : y1.cell? ⟨W, 2, none⟩ = some (.slice (some ⟨U, 0, none⟩) 2 2) := cell_of_row _ _ 2 _ _ _ HN1.out.wd
  have q3 : y1.cell? ⟨X, 3, none⟩ = some (.slice Ab bl cb) := cell_of_row _ _ 3 _ _ _ HX1.out
  have hWy : W < y1.heap.size := lt_of_block HN1.out.wd
  have hUy : U < y1.heap.size := HN1.out.put.lt
  have hXy : X < y1.heap.size := lt_of_block HX1.out
  go_upto_region 22 with fail
  have hLx : L ≤ y1.heap.size := by have := HN1.out.lo; have := HN1.out.put.lt; omega
  obtain ⟨i3, a3i, a3z, a3s, a3b⟩ := info_parts (show (Try.prog.info? 9).map (fun i => (i.zero, i.size, i.bytes)) = some (some (.string ⟨#[]⟩), 1, 16) by kernel_rfl)
  refine wpL_region (S := (fun w9 : World => w9.cell? ⟨W, 2, none⟩ = some (.slice (some ⟨U, 0, none⟩) 2 2) ∧ w9.cell? ⟨U, a, none⟩ = some (.slice A0 np c0) ∧ w9.cell? ⟨X, 3, none⟩ = some (.slice Ab bl cb) ∧ Rd w9 L Ab (u8s b))) [18] (by kernel_rfl) ⟨q1, hvp, q3, HRb1.out⟩ (fun hS0 => ?_)
  refine tl 0 114 ?_ ?_ ?_; rotate_left; (focus (intro w h; go_simp; (try with_reducible rfl))); (try simp only [zqd, zqe, zqf])
  refine tl 1 115 ?_ ?_ ?_; rotate_left; (focus (intro w h; go_simp; (try with_reducible rfl))); (try simp only [zqd, zqe, zqf])
  refine tl 2 116 ?_ ?_ ?_; rotate_left; (focus (intro w h; go_simp; (try with_reducible rfl))); (try simp only [zqd, zqe, zqf])
  refine tl 3 117 ?_ ?_ ?_; rotate_left; (focus (intro w h; go_simp; (try with_reducible rfl))); (try simp only [zqd, zqe, zqf])
  refine tl 4 118 ?_ ?_ ?_; rotate_left; (focus (intro w h; go_simp; (try with_reducible rfl))); (try simp only [zqd, zqe, zqf])
  refine tl 5 119 ?_ ?_ ?_; rotate_left; (focus (intro w h; go_simp; (try with_reducible rfl))); (try simp only [zqd, zqe, zqf])
  refine tl 6 120 ?_ ?_ ?_; rotate_left; (focus (intro w h; go_simp; (try with_reducible rfl))); (try simp only [zqd, zqe, zqf])
  refine tl 7 121 ?_ ?_ ?_; rotate_left; (focus (intro w h; go_simp; (try with_reducible rfl))); (try simp only [zqd, zqe, zqf])
  refine tl 8 122 ?_ ?_ ?_; rotate_left; (focus (intro w h; go_simp; (try with_reducible rfl))); (try simp only [zqd, zqe, zqf])
  refine tl 9 123 ?_ ?_ ?_; rotate_left; (focus (intro w h; go_simp; (try with_reducible rfl))); (try simp only [zqd, zqe, zqf])
  refine tl 10 124 ?_ ?_ ?_; rotate_left; (focus (intro w h; go_simp; (try with_reducible rfl))); (try simp only [zqd, zqe, zqf])
  refine tl 11 125 ?_ ?_ ?_; rotate_left; (focus (intro w h; go_simp; (try with_reducible rfl))); (try simp only [zqd, zqe, zqf])
  refine tl 12 126 ?_ ?_ ?_; rotate_left; (focus (intro w h; go_simp; (try with_reducible rfl))); (try simp only [zqd, zqe, zqf])
  refine tl 13 127 ?_ ?_ ?_; rotate_left; (focus (intro w h; go_simp; (try with_reducible rfl))); (try simp only [zqd, zqe, zqf])
  refine tl 14 128 ?_ ?_ ?_; rotate_left; (focus (intro w hSw; have hh := rd_conv (c := cb) hSw.2.2.2 HBl.out; go_simp; (try with_reducible rfl); done)); (try simp only [zqd, zqe, zqf])
  refine callL_at (i := 15) (d := 129) (by simp only [zqa, zqb, zqc]; rfl) rfl (by kernel_rfl) rfl (fun K hK => ?_)
  go_simp
  obtain ⟨y4, hy⟩ : ∃ z, (y1.alloc (.cells #[.string ⟨(b).toArray⟩] 9)).drew = z := ⟨_, rfl⟩
  have HY4 : Hid (Below y1.heap.size y1 y4) := hide (by rw [← hy]; exact ((Below.refl _ _).alloc (Nat.le_refl _) _).drew)
  have HO1 : Hid (y4.heap[y1.heap.size]? = some (.cells #[.string ⟨(b).toArray⟩] 9)) := hide (by rw [← hy]; exact heap_alloc_last y1 _)
  rw [hy]
  clear hy
  have hS4 : y4.cell? ⟨W, 2, none⟩ = some (.slice (some ⟨U, 0, none⟩) 2 2) ∧ y4.cell? ⟨U, a, none⟩ = some (.slice A0 np c0) ∧ y4.cell? ⟨X, 3, none⟩ = some (.slice Ab bl cb) ∧ Rd y4 L Ab (u8s b) := ⟨(HY4.out.cell (p := ⟨W, 2, none⟩) hWy).trans q1, (HY4.out.cell (p := ⟨U, a, none⟩) hUy).trans hvp, (HY4.out.cell (p := ⟨X, 3, none⟩) hXy).trans q3, HRb1.out.below' HY4.out hLy⟩
  refine hK.out _ _ hS4 (fun hSn => ?_)
  clear hK K
  try simp only [zqd, zqe, zqf]
  refine callL_at (i := 16) (d := 130) (by simp only [zqa, zqb, zqc]; rfl) rfl (by kernel_rfl) rfl (fun K hK => ?_)
  refine op_app (.tmp 125) (.tmp 129) 48 rfl L 9 i3 (.string ⟨#[]⟩) 1 16 Try.underlying48 a3i a3z a3s a3b rfl (by decide) (.slice A0 np c0) np (strs xs) rfl (own_below HRo.out HY4.out (fun g hg => (HRo.out.lt g hg).2)) y4.heap.size (some ⟨y1.heap.size, 0, none⟩) 1 1 [.string ⟨(b).toArray⟩] rfl rfl (rd_cells HO1.out) (by simp [Value.oneCell']) (by unfold maxLen; omega) (by omega) (Nat.le_trans hLx HY4.out.size) ?_
  intro A8 c8 y5 own5 hg5 hat5
  have HOwn : Hid (y5.ownsRow L 9 1 (.slice A8 (np + 1) c8) (np + 1) (strs (xs ++ [b]))) := hide (by rw [strs_app]; exact own5)
  have HG5 := hide hg5
  have HA5 := hide hat5
  have HSm : Hid (∀ g, g < y1.heap.size → (Value.slice A0 np c0).ownBlock ≠ some g → y5.heap[g]? = y1.heap[g]?) := hide (fun g hl hne => (HG5.out.block g (Nat.lt_of_lt_of_le hl HY4.out.size) (fun e => hne e.symm)).trans (HY4.out.block g hl))
  have HNw : Hid (∀ g, (Value.slice A8 (np + 1) c8).ownBlock = some g → (Value.slice A0 np c0).ownBlock = some g ∨ y1.heap.size ≤ g) := hide (fun g hg => by rcases HA5.out with h | h; exact .inl (by rw [← h]; exact hg); right; rw [h] at hg; injection hg with hg; rw [← hg]; exact HY4.out.size)
  have HSz : Hid (y1.heap.size ≤ y5.heap.size ∧ Env y1 y5) := hide ⟨Nat.le_trans HY4.out.size HG5.out.size, (Env.of_below HY4.out).grown HG5.out⟩
  have hS5 : y5.cell? ⟨W, 2, none⟩ = some (.slice (some ⟨U, 0, none⟩) 2 2) ∧ y5.cell? ⟨U, a, none⟩ = some (.slice A0 np c0) ∧ y5.cell? ⟨X, 3, none⟩ = some (.slice Ab bl cb) ∧ Rd y5 L Ab (u8s b) := by obtain ⟨vs, z1, _⟩ := HN1.out.put; exact ⟨(World.cell?_of_block (cell_at HSm.out HR0.out HN1.out.wd (by decide))).trans q1, (World.cell?_of_block (cell_at HSm.out HR0.out z1 (by decide))).trans hvp, (World.cell?_of_block (cell_at HSm.out HR0.out HX1.out (by decide))).trans q3, HRb1.out.keep fun p hp => World.cell?_of_block (HSm.out _ (Nat.lt_of_lt_of_le hp hLy) (fun e => by have := (HR0.out.2.1.lt _ e).1; omega))⟩
  clear own5 hg5 hat5
  refine hK.out _ _ hS5 (fun hSn => ?_)
  clear hK K
  simp only [Act.put]
  try simp only [zqd, zqe, zqf]
  refine tl 17 131 ?_ ?_ ?_; rotate_left; (focus (intro w h; go_simp; (try with_reducible rfl))); (try simp only [zqd, zqe, zqf])
  refine exL_at (i := 18) (by simp only [zqa, zqb, zqc]; rfl) (by kernel_rfl) rfl (by kernel_rfl) (fun K hK => ?_)
  have z5 : y5.frozen? ⟨U, a, none⟩ = false := frozen_at HSm.out HN1.out.put HR0.out _
  go_wp2_with fail
  refine hK.out _ _ ?_
  clear hK K
  try simp only [zqd, zqe, zqf]
  refine wpAnyL_done (by kernel_rfl) ?_ _
  clear hS0 hSn hS4 hS5
  skip
  have HNew : Hid (NetM (y5.setCell ⟨U, a, none⟩ (.slice A8 (np + 1) c8)) L W E Y U T P1 P2 (tagN tag (.slice A8 (np + 1) c8) (1, a)) ways (puts.set a (xs ++ [b])) gots false) := hide (HN1.out.updPut HP.out.1 HR0.out HSz.out.1 HSm.out HNw.out (xs' := xs ++ [b]) ⟨A8, c8, by simp [HNp.out]⟩ (by rw [List.length_append, HNp.out]; exact HOwn.out))
  have HMd : Hid (ModN L y1 (y5.setCell ⟨U, a, none⟩ (.slice A8 (np + 1) c8))) := hide (modn_upd HR0.out HN1.out.blkT.2.1 HN1.out.lo.2.2.1 HSz.out.1 HSz.out.2 HSm.out)
  obtain ⟨y6, hy6⟩ : ∃ z, y5.setCell ⟨U, a, none⟩ (.slice A8 (np + 1) c8) = z := ⟨_, rfl⟩
  rw [hy6] at HNew HMd ⊢
  have hne : a ≠ 1 - a := by omega
  have hal : a < puts.length := (List.getElem?_eq_some_iff.1 HP.out.1).1
  have HFin : Hid (NSt y6 L W P1 P2 a Q1 Q2 ep (m + 1) (n + 1)) := hide ⟨E, Y, U, T, _, _, ways, _, gots, _, t, ws, wt, _, pt, gs, gt, HNew.out, (HT1.out.modn HMd.out).mono (Nat.le_refl _) (Nat.le_succ _), HMd.out.size, (HNew.out.ptr HN1.out a).trans HE1.out, (HNew.out.ptr HN1.out (1 - a)).trans HE2.out, HW.out, ⟨List.getElem?_set_self hal, by rw [List.getElem?_set_ne hne]; exact HP.out.2⟩, HG.out, HSd2.out⟩
  have HFb := hide (HB1.out.trans (HMd.out.toBelow hLy))
  go_wp2
  go_end0
  exact ⟨rfl, HFin.out, HFb.out⟩
 have hz0 : (0 : Int) < (n0 : Int) := by omega
 obtain ⟨q, hq⟩ : ∃ z, N8 % n0 = z := ⟨_, rfl⟩
 have hqn : q < n0 := by rw [← hq]; exact Nat.mod_lt _ (by omega)
 have hNq : (N8 : Int) % (n0 : Int) = (q : Int) := by rw [← hq]; rfl
 have HQ := hide hq
 clear hq
 have hLx0 : L ≤ x.heap.size := Nat.le_trans (Nat.le_of_lt hLw) HBx2.out.size
 go_enter Try.func18, Try.ntmps18
 go_upto_region 1 with fail
 rw [HXn.out, HXe.out]
 go_upto_region 21 with fail
 refine wp_region_held_drew (S := (fun w9 : World => (w9.cell? ⟨W, 0, none⟩ = some (.slice (some ⟨E, 0, none⟩) 2 2) ∧ w9.cell? ⟨E, a, none⟩ = some (.pointer (some ⟨Q1, 0, none⟩)) ∧ w9.cell? ⟨X, 3, none⟩ = some (.slice Ab bl cb)))) (by kernel_rfl) ⟨e0, hy1, s3⟩ (fun hS0 => ?_)
 refine tk 0 103 ?_ ?_ ?_; rotate_left; (focus (intro w h; go_simp; (try with_reducible rfl))); (try simp only [zqd, zqe, zqf])
 refine tk 1 104 ?_ ?_ ?_; rotate_left; (focus (intro w h; go_simp; (try with_reducible rfl))); (try simp only [zqd, zqe, zqf])
 refine tk 2 105 ?_ ?_ ?_; rotate_left; (focus (intro w h; go_simp; (try with_reducible rfl))); (try simp only [zqd, zqe, zqf])
 refine tk 3 106 ?_ ?_ ?_; rotate_left; (focus (intro w h; go_simp; (try with_reducible rfl))); (try simp only [zqd, zqe, zqf])
 refine tk 4 107 ?_ ?_ ?_; rotate_left; (focus (intro w h; go_simp; (try with_reducible rfl))); (try simp only [zqd, zqe, zqf])
 refine tk 5 108 ?_ ?_ ?_; rotate_left; (focus (intro w h; go_simp; (try with_reducible rfl))); (try simp only [zqd, zqe, zqf])
 refine tk 6 109 ?_ ?_ ?_; rotate_left; (focus (intro w h; go_simp; (try with_reducible rfl))); (try simp only [zqd, zqe, zqf])
 refine tk 7 110 ?_ ?_ ?_; rotate_left; (focus (intro w h; go_simp; (try with_reducible rfl))); (try simp only [zqd, zqe, zqf])
 refine tk 8 111 ?_ ?_ ?_; rotate_left; (focus (intro w h; go_simp; (try with_reducible rfl))); (try simp only [zqd, zqe, zqf])
 refine call_at (i := 9) (d := 112) (by simp only [zqa, zqb, zqc]; rfl) rfl (by kernel_rfl) rfl (fun K hK => ?_)
 go_simp
 have hsd := two_send (HT.out.next (Below.refl _ _).drew) (show B ≤ x.drew.heap.size from hBx) Ab b cb (show Rd x.drew x.drew.heap.size Ab (u8s b) from (HRb.out.more hLx0).drew) (by rw [HBl.out]; omega) (by have := HD.out.d1.next; have := HD.out.p1; omega)
 rw [HBl.out] at hsd
 refine hsd.mono ?_
 clear hsd
 rintro e y1 ⟨rfl, ht, hm⟩
 obtain ⟨cd, hcd⟩ : ∃ z, (sendL s b).1 = z := ⟨_, rfl⟩
 rw [hcd]
 have HCd := hide hcd
 have HT1 := hide ht
 have HM1 : Hid (Mid L B x y1) := hide ⟨hm.1, hm.2, hm.3, hm.4⟩
 have hS1 : (y1.cell? ⟨W, 0, none⟩ = some (.slice (some ⟨E, 0, none⟩) 2 2) ∧ y1.cell? ⟨E, a, none⟩ = some (.pointer (some ⟨Q1, 0, none⟩)) ∧ y1.cell? ⟨X, 3, none⟩ = some (.slice Ab bl cb)) := ⟨(World.cell?_of_block (HM1.out.oth _ _ _ HN.out.wd (by decide) (by decide))).trans e0, (World.cell?_of_block (HM1.out.oth _ _ _ HN.out.en (by decide) (by decide))).trans hy1, (World.cell?_of_block (HM1.out.oth _ _ _ HX.out (by decide) (by decide))).trans s3⟩
 clear ht hm hcd
 go_wp2_with fail
 refine hK.out _ _ hS1 (fun hSn => ?_)
 clear hK K
 try simp only [zqd, zqe, zqf]
 refine tk 10 113 ?_ ?_ ?_; rotate_left; (focus (intro w h; go_simp; (try with_reducible rfl))); (try simp only [zqd, zqe, zqf])
 refine wpAnyH_done (by kernel_rfl) ?_ _
 clear hS0 hSn hS1
 have HSd := hide (HD.out.send b (by rw [HBl.out]; omega) (by omega))
 have HN1 := hide (HN.out.mid HM1.out)
 have HB1 : Hid (Below L w y1) := hide (HBx2.out.trans (HM1.out.toBelow hLx0))
 have HX1 := hide ((HM1.out.oth _ _ _ HX.out (by decide) (by decide)).trans HX.out)
 have HE1 := hide ((HN1.out.ptr HN.out a).trans hy1)
 have HE2 := hide ((HN1.out.ptr HN.out (1 - a)).trans hy2)
 have hLy : L ≤ y1.heap.size := Nat.le_trans hLx0 HM1.out.size
 have HRb1 := hide (HRb.out.below' (HM1.out.toBelow hLx0) (Nat.le_refl _))
 clear s0 s1 s2 s3 e0 e1 hv0 hy1 hy2
 by_cases hc0 : cd = 0
 rotate_left
 ·have hcq : (cd == 0) = false := by simp [hc0]
  have HFin : Hid (NSt y1 L W P1 P2 a Q1 Q2 ep (m + 1) (n + 1)) := hide (by rcases HSd.out with ⟨h, _⟩ | ⟨_, h⟩; exact absurd (HCd.out.symm.trans h) hc0; exact ⟨E, Y, U, T, tag, _, ways, puts, gots, _, t, ws, wt, ps, pt, gs, gt, HN1.out, HT1.out.mono (Nat.le_refl _) (Nat.le_succ _), Nat.le_refl _, HE1.out, HE2.out, HW.out, HP.out, HG.out, h⟩)
  go_wp2
  go_end0
  exact ⟨rfl, HFin.out, HB1.out⟩
 have hcq : (cd == 0) = true := by simp [hc0]
 have HSd2 : Hid (NDir ep (sendL s b).2 t ws wt (ps ++ [b]) pt gs gt (m + 1)) := hide (by rcases HSd.out with ⟨_, h⟩ | ⟨h, _⟩; exact h; exact absurd (HCd.out.trans hc0) h)
 clear hc0 HR0 hc01 hc02
 obtain ⟨vp, hvp, hRp⟩ := HN1.out.put.at_ HP.out.1
 obtain ⟨A0, c0, rfl, -, -, -⟩ := hRp.rd
 obtain ⟨np, hnp⟩ : ∃ z, ps.length = z := ⟨_, rfl⟩
 rw [hnp] at hvp
 have hnp2 : np ≤ 10000 := by have := HD.out.p1; omega
 obtain ⟨xs, hxs⟩ : ∃ z, ps = z := ⟨_, rfl⟩
 rw [hxs] at hRp hnp HSd2 HP
 have HR0 : Hid (StrRow y1 L tag (1, a) (.slice A0 np c0) xs) := hide (by rw [← hnp]; exact hRp)
 have HRo : Hid (y1.ownsRow L 9 1 (.slice A0 np c0) np (strs xs)) := hide (by have h := HR0.out.2.1; rwa [hnp] at h)
 have HNp := hide hnp
 clear hRp hnp hxs
 have q1 : y1.cell? ⟨W, 2, none⟩ = some (.slice (some ⟨U, 0, none⟩) 2 2) := cell_of_row _ _ 2 _ _ _ HN1.out.wd
 have q3 : y1.cell? ⟨X, 3, none⟩ = some (.slice Ab bl cb) := cell_of_row _ _ 3 _ _ _ HX1.out
 have hWy : W < y1.heap.size := lt_of_block HN1.out.wd
 have hUy : U < y1.heap.size := HN1.out.put.lt
 have hXy : X < y1.heap.size := lt_of_block HX1.out
 go_upto_region 22 with fail
 have hLx : L ≤ y1.heap.size := by have := HN1.out.lo; have := HN1.out.put.lt; omega
 obtain ⟨i3, a3i, a3z, a3s, a3b⟩ := info_parts (show (Try.prog.info? 9).map (fun i => (i.zero, i.size, i.bytes)) = some (some (.string ⟨#[]⟩), 1, 16) by kernel_rfl)
 refine wpL_region (S := (fun w9 : World => w9.cell? ⟨W, 2, none⟩ = some (.slice (some ⟨U, 0, none⟩) 2 2) ∧ w9.cell? ⟨U, a, none⟩ = some (.slice A0 np c0) ∧ w9.cell? ⟨X, 3, none⟩ = some (.slice Ab bl cb) ∧ Rd w9 L Ab (u8s b))) [18] (by kernel_rfl) ⟨q1, hvp, q3, HRb1.out⟩ (fun hS0 => ?_)
 refine tl 0 114 ?_ ?_ ?_; rotate_left; (focus (intro w h; go_simp; (try with_reducible rfl))); (try simp only [zqd, zqe, zqf])
 refine tl 1 115 ?_ ?_ ?_; rotate_left; (focus (intro w h; go_simp; (try with_reducible rfl))); (try simp only [zqd, zqe, zqf])
 refine tl 2 116 ?_ ?_ ?_; rotate_left; (focus (intro w h; go_simp; (try with_reducible rfl))); (try simp only [zqd, zqe, zqf])
 refine tl 3 117 ?_ ?_ ?_; rotate_left; (focus (intro w h; go_simp; (try with_reducible rfl))); (try simp only [zqd, zqe, zqf])
 refine tl 4 118 ?_ ?_ ?_; rotate_left; (focus (intro w h; go_simp; (try with_reducible rfl))); (try simp only [zqd, zqe, zqf])
 refine tl 5 119 ?_ ?_ ?_; rotate_left; (focus (intro w h; go_simp; (try with_reducible rfl))); (try simp only [zqd, zqe, zqf])
 refine tl 6 120 ?_ ?_ ?_; rotate_left; (focus (intro w h; go_simp; (try with_reducible rfl))); (try simp only [zqd, zqe, zqf])
 refine tl 7 121 ?_ ?_ ?_; rotate_left; (focus (intro w h; go_simp; (try with_reducible rfl))); (try simp only [zqd, zqe, zqf])
 refine tl 8 122 ?_ ?_ ?_; rotate_left; (focus (intro w h; go_simp; (try with_reducible rfl))); (try simp only [zqd, zqe, zqf])
 refine tl 9 123 ?_ ?_ ?_; rotate_left; (focus (intro w h; go_simp; (try with_reducible rfl))); (try simp only [zqd, zqe, zqf])
 refine tl 10 124 ?_ ?_ ?_; rotate_left; (focus (intro w h; go_simp; (try with_reducible rfl))); (try simp only [zqd, zqe, zqf])
 refine tl 11 125 ?_ ?_ ?_; rotate_left; (focus (intro w h; go_simp; (try with_reducible rfl))); (try simp only [zqd, zqe, zqf])
 refine tl 12 126 ?_ ?_ ?_; rotate_left; (focus (intro w h; go_simp; (try with_reducible rfl))); (try simp only [zqd, zqe, zqf])
 refine tl 13 127 ?_ ?_ ?_; rotate_left; (focus (intro w h; go_simp; (try with_reducible rfl))); (try simp only [zqd, zqe, zqf])
 refine tl 14 128 ?_ ?_ ?_; rotate_left; (focus (intro w hSw; have hh := rd_conv (c := cb) hSw.2.2.2 HBl.out; go_simp; (try with_reducible rfl); done)); (try simp only [zqd, zqe, zqf])
 refine callL_at (i := 15) (d := 129) (by simp only [zqa, zqb, zqc]; rfl) rfl (by kernel_rfl) rfl (fun K hK => ?_)
 go_simp
 obtain ⟨y4, hy⟩ : ∃ z, (y1.alloc (.cells #[.string ⟨(b).toArray⟩] 9)).drew = z := ⟨_, rfl⟩
 have HY4 : Hid (Below y1.heap.size y1 y4) := hide (by rw [← hy]; exact ((Below.refl _ _).alloc (Nat.le_refl _) _).drew)
 have HO1 : Hid (y4.heap[y1.heap.size]? = some (.cells #[.string ⟨(b).toArray⟩] 9)) := hide (by rw [← hy]; exact heap_alloc_last y1 _)
 rw [hy]
 clear hy
 have hS4 : y4.cell? ⟨W, 2, none⟩ = some (.slice (some ⟨U, 0, none⟩) 2 2) ∧ y4.cell? ⟨U, a, none⟩ = some (.slice A0 np c0) ∧ y4.cell? ⟨X, 3, none⟩ = some (.slice Ab bl cb) ∧ Rd y4 L Ab (u8s b) := ⟨(HY4.out.cell (p := ⟨W, 2, none⟩) hWy).trans q1, (HY4.out.cell (p := ⟨U, a, none⟩) hUy).trans hvp, (HY4.out.cell (p := ⟨X, 3, none⟩) hXy).trans q3, HRb1.out.below' HY4.out hLy⟩
 refine hK.out _ _ hS4 (fun hSn => ?_)
 clear hK K
 try simp only [zqd, zqe, zqf]
 refine callL_at (i := 16) (d := 130) (by simp only [zqa, zqb, zqc]; rfl) rfl (by kernel_rfl) rfl (fun K hK => ?_)
 refine op_app (.tmp 125) (.tmp 129) 48 rfl L 9 i3 (.string ⟨#[]⟩) 1 16 Try.underlying48 a3i a3z a3s a3b rfl (by decide) (.slice A0 np c0) np (strs xs) rfl (own_below HRo.out HY4.out (fun g hg => (HRo.out.lt g hg).2)) y4.heap.size (some ⟨y1.heap.size, 0, none⟩) 1 1 [.string ⟨(b).toArray⟩] rfl rfl (rd_cells HO1.out) (by simp [Value.oneCell']) (by unfold maxLen; omega) (by omega) (Nat.le_trans hLx HY4.out.size) ?_
 intro A8 c8 y5 own5 hg5 hat5
 have HOwn : Hid (y5.ownsRow L 9 1 (.slice A8 (np + 1) c8) (np + 1) (strs (xs ++ [b]))) := hide (by rw [strs_app]; exact own5)
 have HG5 := hide hg5
 have HA5 := hide hat5
 have HSm : Hid (∀ g, g < y1.heap.size → (Value.slice A0 np c0).ownBlock ≠ some g → y5.heap[g]? = y1.heap[g]?) := hide (fun g hl hne => (HG5.out.block g (Nat.lt_of_lt_of_le hl HY4.out.size) (fun e => hne e.symm)).trans (HY4.out.block g hl))
 have HNw : Hid (∀ g, (Value.slice A8 (np + 1) c8).ownBlock = some g → (Value.slice A0 np c0).ownBlock = some g ∨ y1.heap.size ≤ g) := hide (fun g hg => by rcases HA5.out with h | h; exact .inl (by rw [← h]; exact hg); right; rw [h] at hg; injection hg with hg; rw [← hg]; exact HY4.out.size)
 have HSz : Hid (y1.heap.size ≤ y5.heap.size ∧ Env y1 y5) := hide ⟨Nat.le_trans HY4.out.size HG5.out.size, (Env.of_below HY4.out).grown HG5.out⟩
 have hS5 : y5.cell? ⟨W, 2, none⟩ = some (.slice (some ⟨U, 0, none⟩) 2 2) ∧ y5.cell? ⟨U, a, none⟩ = some (.slice A0 np c0) ∧ y5.cell? ⟨X, 3, none⟩ = some (.slice Ab bl cb) ∧ Rd y5 L Ab (u8s b) := by obtain ⟨vs, z1, _⟩ := HN1.out.put; exact ⟨(World.cell?_of_block (cell_at HSm.out HR0.out HN1.out.wd (by decide))).trans q1, (World.cell?_of_block (cell_at HSm.out HR0.out z1 (by decide))).trans hvp, (World.cell?_of_block (cell_at HSm.out HR0.out HX1.out (by decide))).trans q3, HRb1.out.keep fun p hp => World.cell?_of_block (HSm.out _ (Nat.lt_of_lt_of_le hp hLy) (fun e => by have := (HR0.out.2.1.lt _ e).1; omega))⟩
 clear own5 hg5 hat5
 refine hK.out _ _ hS5 (fun hSn => ?_)
 clear hK K
 simp only [Act.put]
 try simp only [zqd, zqe, zqf]
 refine tl 17 131 ?_ ?_ ?_; rotate_left; (focus (intro w h; go_simp; (try with_reducible rfl))); (try simp only [zqd, zqe, zqf])
 refine exL_at (i := 18) (by simp only [zqa, zqb, zqc]; rfl) (by kernel_rfl) rfl (by kernel_rfl) (fun K hK => ?_)
 have z5 : y5.frozen? ⟨U, a, none⟩ = false := frozen_at HSm.out HN1.out.put HR0.out _
 go_wp2_with fail
 refine hK.out _ _ ?_
 clear hK K
 try simp only [zqd, zqe, zqf]
 refine wpAnyL_done (by kernel_rfl) ?_ _
 clear hS0 hSn hS4 hS5
 skip
 have HNew : Hid (NetM (y5.setCell ⟨U, a, none⟩ (.slice A8 (np + 1) c8)) L W E Y U T P1 P2 (tagN tag (.slice A8 (np + 1) c8) (1, a)) ways (puts.set a (xs ++ [b])) gots false) := hide (HN1.out.updPut HP.out.1 HR0.out HSz.out.1 HSm.out HNw.out (xs' := xs ++ [b]) ⟨A8, c8, by simp [HNp.out]⟩ (by rw [List.length_append, HNp.out]; exact HOwn.out))
 have HMd : Hid (ModN L y1 (y5.setCell ⟨U, a, none⟩ (.slice A8 (np + 1) c8))) := hide (modn_upd HR0.out HN1.out.blkT.2.1 HN1.out.lo.2.2.1 HSz.out.1 HSz.out.2 HSm.out)
 obtain ⟨y6, hy6⟩ : ∃ z, y5.setCell ⟨U, a, none⟩ (.slice A8 (np + 1) c8) = z := ⟨_, rfl⟩
 rw [hy6] at HNew HMd ⊢
 have hne : a ≠ 1 - a := by omega
 have hal : a < puts.length := (List.getElem?_eq_some_iff.1 HP.out.1).1
 have HFin : Hid (NSt y6 L W P1 P2 a Q1 Q2 ep (m + 1) (n + 1)) := hide ⟨E, Y, U, T, _, _, ways, _, gots, _, t, ws, wt, _, pt, gs, gt, HNew.out, (HT1.out.modn HMd.out).mono (Nat.le_refl _) (Nat.le_succ _), HMd.out.size, (HNew.out.ptr HN1.out a).trans HE1.out, (HNew.out.ptr HN1.out (1 - a)).trans HE2.out, HW.out, ⟨List.getElem?_set_self hal, by rw [List.getElem?_set_ne hne]; exact HP.out.2⟩, HG.out, HSd2.out⟩
 have HFb := hide (HB1.out.trans (HMd.out.toBelow hLy))
 go_wp2
 go_end0
 exact ⟨rfl, HFin.out, HFb.out⟩
theorem step_send1 (w : World) {L W P1 P2 a Q1 Q2 ep m n : Nat} (hS : NSt w L W P1 P2 a Q1 Q2 ep m n) (ha : a < 2) (hm : m ≤ 1000) (hn : n ≤ 1000) (k A8 N8 : Nat) (hk : k < 256) (hA : A8 < 256) (hN8 : N8 < 256) (hAa : A8 % 2 = a) (Ab : Option Addr) (b : BL) (bl cb : Nat) (hbl : b.length = bl) (hR : Rd w L Ab (u8s b)) (hb : bl ≤ 5000) (hkk : k % 10 = 1) :
  Calls Try.prog 18 #[.pointer (some ⟨W, 0, none⟩), .agg #[.int .u8 (k : Int), .int .u8 (A8 : Int), .int .u8 (N8 : Int), .slice Ab bl cb]] w (StepPost w L W P1 P2 a Q1 Q2 ep m n) := by
 obtain ⟨E, Y, U, T, tag, B, ways, puts, gots, s, t, ws, wt, ps, pt, gs, gt, hN, hT, hBw, hE1, hE2, hW, hP, hG, hD⟩ := hS
 obtain ⟨x, hx⟩ : ∃ z, w.alloc (.cells #[.int .u8 (k : Int), .int .u8 (A8 : Int), .int .u8 (N8 : Int), .slice Ab bl cb] 40) = z := ⟨_, rfl⟩
 obtain ⟨X, hX⟩ : ∃ z, w.heap.size = z := ⟨_, rfl⟩
 have HX : Hid (x.heap[X]? = some (.cells #[.int .u8 (k : Int), .int .u8 (A8 : Int), .int .u8 (N8 : Int), .slice Ab bl cb] 40)) := hide (by rw [← hx, ← hX]; exact heap_alloc_last w _)
 have HBx : Hid (Below w.heap.size w x) := hide (by rw [← hx]; exact (Below.refl _ _).alloc (Nat.le_refl _) _)
 have hLw : L < w.heap.size := hT.low
 have hE0 : E < w.heap.size := lt_of_block hN.en
 have hy1 := (HBx.out.cell (p := ⟨E, a, none⟩) hE0).trans hE1
 have hy2 := (HBx.out.cell (p := ⟨E, 1 - a, none⟩) hE0).trans hE2
 have HN := hide (hN.next HBx.out)
 have HT := hide (hT.next HBx.out)
 have HRb := hide (hR.below' HBx.out (Nat.le_of_lt hLw))
 have HBx2 : Hid (Below L w x) := hide (HBx.out.mono (Nat.le_of_lt hLw))
 have hBx : B ≤ x.heap.size := Nat.le_trans hBw HBx.out.size
 have HXe : Hid (w.heap.size = X) := hide hX
 have HXn := hide hx
 have HD := hide hD
 have HW := hide hW
 have HP := hide hP
 have HG := hide hG
 have HLw := hide hLw
 have HAa := hide hAa
 have HBl := hide hbl
 clear hx hX hN hT hE1 hE2 hW hP hG hD hR hBw HBx hAa hbl
 obtain ⟨v0, hv0, hR0⟩ := HN.out.way.at_ HW.out.1
 obtain ⟨A0, c0, rfl, -, hc01, hc02⟩ := hR0.rd
 obtain ⟨n0, hn0⟩ : ∃ z, ws.length = z := ⟨_, rfl⟩
 rw [hn0] at hv0 hR0 hc01
 have hn1 : n0 ≤ 100 := by rw [← hn0]; exact HD.out.l1
 have HR0 := hide hR0
 have HN0 := hide hn0
 have s0 : x.cell? ⟨X, 0, none⟩ = some (.int .u8 (k : Int)) := cell_of_row _ _ 0 _ _ _ HX.out
 have s1 : x.cell? ⟨X, 1, none⟩ = some (.int .u8 (A8 : Int)) := cell_of_row _ _ 1 _ _ _ HX.out
 have s2 : x.cell? ⟨X, 2, none⟩ = some (.int .u8 (N8 : Int)) := cell_of_row _ _ 2 _ _ _ HX.out
 have s3 : x.cell? ⟨X, 3, none⟩ = some (.slice Ab bl cb) := cell_of_row _ _ 3 _ _ _ HX.out
 have e0 : x.cell? ⟨W, 0, none⟩ = some (.slice (some ⟨E, 0, none⟩) 2 2) := cell_of_row _ _ 0 _ _ _ HN.out.wd
 have e1 : x.cell? ⟨W, 1, none⟩ = some (.slice (some ⟨Y, 0, none⟩) 2 2) := cell_of_row _ _ 1 _ _ _ HN.out.wd
 have hXx : X < x.heap.size := lt_of_block HX.out
 have hWx : W < x.heap.size := lt_of_block HN.out.wd
 have hYx : Y < x.heap.size := HN.out.way.lt
 have hEx : E < x.heap.size := lt_of_block HN.out.en
 have ha0 : (0 : Int) ≤ (a : Int) := by omega
 have ha1 : (a : Int) < 2 := by omega
 clear hR0 hn0
 have hk10 : (k : Int) % 10 = 1 := by omega
 have hAi : (A8 : Int) % 2 = (a : Int) := by have := HAa.out; omega
 by_cases hz : n0 = 0
 ·have hz0 : ¬ (0 : Int) < (n0 : Int) := by omega
  have hLx0 : L ≤ x.heap.size := Nat.le_trans (Nat.le_of_lt hLw) HBx2.out.size
  go_enter Try.func18, Try.ntmps18
  go_upto_region 1 with fail
  rw [HXn.out, HXe.out]
  go_upto_region 21 with fail
  refine wp_region_held_drew (S := (fun w9 : World => (w9.cell? ⟨W, 0, none⟩ = some (.slice (some ⟨E, 0, none⟩) 2 2) ∧ w9.cell? ⟨E, a, none⟩ = some (.pointer (some ⟨Q1, 0, none⟩)) ∧ w9.cell? ⟨X, 3, none⟩ = some (.slice Ab bl cb)))) (by kernel_rfl) ⟨e0, hy1, s3⟩ (fun hS0 => ?_)
  refine tk 0 103 ?_ ?_ ?_; rotate_left; (focus (intro w h; go_simp; (try with_reducible rfl))); (try simp only [zqd, zqe, zqf])
  refine tk 1 104 ?_ ?_ ?_; rotate_left; (focus (intro w h; go_simp; (try with_reducible rfl))); (try simp only [zqd, zqe, zqf])
  refine tk 2 105 ?_ ?_ ?_; rotate_left; (focus (intro w h; go_simp; (try with_reducible rfl))); (try simp only [zqd, zqe, zqf])
  refine tk 3 106 ?_ ?_ ?_; rotate_left; (focus (intro w h; go_simp; (try with_reducible rfl))); (try simp only [zqd, zqe, zqf])
  refine tk 4 107 ?_ ?_ ?_; rotate_left; (focus (intro w h; go_simp; (try with_reducible rfl))); (try simp only [zqd, zqe, zqf])
  refine tk 5 108 ?_ ?_ ?_; rotate_left; (focus (intro w h; go_simp; (try with_reducible rfl))); (try simp only [zqd, zqe, zqf])
  refine tk 6 109 ?_ ?_ ?_; rotate_left; (focus (intro w h; go_simp; (try with_reducible rfl))); (try simp only [zqd, zqe, zqf])
  refine tk 7 110 ?_ ?_ ?_; rotate_left; (focus (intro w h; go_simp; (try with_reducible rfl))); (try simp only [zqd, zqe, zqf])
  refine tk 8 111 ?_ ?_ ?_; rotate_left; (focus (intro w h; go_simp; (try with_reducible rfl))); (try simp only [zqd, zqe, zqf])
  refine call_at (i := 9) (d := 112) (by simp only [zqa, zqb, zqc]; rfl) rfl (by kernel_rfl) rfl (fun K hK => ?_)
  go_simp
  have hsd := two_send (HT.out.next (Below.refl _ _).drew) (show B ≤ x.drew.heap.size from hBx) Ab b cb (show Rd x.drew x.drew.heap.size Ab (u8s b) from (HRb.out.more hLx0).drew) (by rw [HBl.out]; omega) (by have := HD.out.d1.next; have := HD.out.p1; omega)
  rw [HBl.out] at hsd
  refine hsd.mono ?_
  clear hsd
  rintro e y1 ⟨rfl, ht, hm⟩
  obtain ⟨cd, hcd⟩ : ∃ z, (sendL s b).1 = z := ⟨_, rfl⟩
  rw [hcd]
  have HCd := hide hcd
  have HT1 := hide ht
  have HM1 : Hid (Mid L B x y1) := hide ⟨hm.1, hm.2, hm.3, hm.4⟩
  have hS1 : (y1.cell? ⟨W, 0, none⟩ = some (.slice (some ⟨E, 0, none⟩) 2 2) ∧ y1.cell? ⟨E, a, none⟩ = some (.pointer (some ⟨Q1, 0, none⟩)) ∧ y1.cell? ⟨X, 3, none⟩ = some (.slice Ab bl cb)) := ⟨(World.cell?_of_block (HM1.out.oth _ _ _ HN.out.wd (by decide) (by decide))).trans e0, (World.cell?_of_block (HM1.out.oth _ _ _ HN.out.en (by decide) (by decide))).trans hy1, (World.cell?_of_block (HM1.out.oth _ _ _ HX.out (by decide) (by decide))).trans s3⟩
  clear ht hm hcd
  go_wp2_with fail
  refine hK.out _ _ hS1 (fun hSn => ?_)
  clear hK K
  try simp only [zqd, zqe, zqf]
  refine tk 10 113 ?_ ?_ ?_; rotate_left; (focus (intro w h; go_simp; (try with_reducible rfl))); (try simp only [zqd, zqe, zqf])
  refine wpAnyH_done (by kernel_rfl) ?_ _
  clear hS0 hSn hS1
  have HSd := hide (HD.out.send b (by rw [HBl.out]; omega) (by omega))
  have HN1 := hide (HN.out.mid HM1.out)
  have HB1 : Hid (Below L w y1) := hide (HBx2.out.trans (HM1.out.toBelow hLx0))
  have HX1 := hide ((HM1.out.oth _ _ _ HX.out (by decide) (by decide)).trans HX.out)
  have HE1 := hide ((HN1.out.ptr HN.out a).trans hy1)
  have HE2 := hide ((HN1.out.ptr HN.out (1 - a)).trans hy2)
  have hLy : L ≤ y1.heap.size := Nat.le_trans hLx0 HM1.out.size
  have HRb1 := hide (HRb.out.below' (HM1.out.toBelow hLx0) (Nat.le_refl _))
  clear s0 s1 s2 s3 e0 e1 hv0 hy1 hy2
  by_cases hc0 : cd = 0
  rotate_left
  ·have hcq : (cd == 0) = false := by simp [hc0]
   have HFin : Hid (NSt y1 L W P1 P2 a Q1 Q2 ep (m + 1) (n + 1)) := hide (by rcases HSd.out with ⟨h, _⟩ | ⟨_, h⟩; exact absurd (HCd.out.symm.trans h) hc0; exact ⟨E, Y, U, T, tag, _, ways, puts, gots, _, t, ws, wt, ps, pt, gs, gt, HN1.out, HT1.out.mono (Nat.le_refl _) (Nat.le_succ _), Nat.le_refl _, HE1.out, HE2.out, HW.out, HP.out, HG.out, h⟩)
   go_wp2
   go_end0
   exact ⟨rfl, HFin.out, HB1.out⟩
  have hcq : (cd == 0) = true := by simp [hc0]
  have HSd2 : Hid (NDir ep (sendL s b).2 t ws wt (ps ++ [b]) pt gs gt (m + 1)) := hide (by rcases HSd.out with ⟨_, h⟩ | ⟨h, _⟩; exact h; exact absurd (HCd.out.trans hc0) h)
  clear hc0 HR0 hc01 hc02
  obtain ⟨vp, hvp, hRp⟩ := HN1.out.put.at_ HP.out.1
  obtain ⟨A0, c0, rfl, -, -, -⟩ := hRp.rd
  obtain ⟨np, hnp⟩ : ∃ z, ps.length = z := ⟨_, rfl⟩
  rw [hnp] at hvp
  have hnp2 : np ≤ 10000 := by have := HD.out.p1; omega
  obtain ⟨xs, hxs⟩ : ∃ z, ps = z := ⟨_, rfl⟩
  rw [hxs] at hRp hnp HSd2 HP
  have HR0 : Hid (StrRow y1 L tag (1, a) (.slice A0 np c0) xs) := hide (by rw [← hnp]; exact hRp)
  have HRo : Hid (y1.ownsRow L 9 1 (.slice A0 np c0) np (strs xs)) := hide (by have h := HR0.out.2.1; rwa [hnp] at h)
  have HNp := hide hnp
  clear hRp hnp hxs
  have q1 : y1.cell? ⟨W, 2, none⟩ = some (.slice (some ⟨U, 0, none⟩) 2 2) := cell_of_row _ _ 2 _ _ _ HN1.out.wd
  have q3 : y1.cell? ⟨X, 3, none⟩ = some (.slice Ab bl cb) := cell_of_row _ _ 3 _ _ _ HX1.out
  have hWy : W < y1.heap.size := lt_of_block HN1.out.wd
  have hUy : U < y1.heap.size := HN1.out.put.lt
  have hXy : X < y1.heap.size := lt_of_block HX1.out
  go_upto_region 22 with fail
  have hLx : L ≤ y1.heap.size := by have := HN1.out.lo; have := HN1.out.put.lt; omega
  obtain ⟨i3, a3i, a3z, a3s, a3b⟩ := info_parts (show (Try.prog.info? 9).map (fun i => (i.zero, i.size, i.bytes)) = some (some (.string ⟨#[]⟩), 1, 16) by kernel_rfl)
  refine wpL_region (S := (fun w9 : World => w9.cell? ⟨W, 2, none⟩ = some (.slice (some ⟨U, 0, none⟩) 2 2) ∧ w9.cell? ⟨U, a, none⟩ = some (.slice A0 np c0) ∧ w9.cell? ⟨X, 3, none⟩ = some (.slice Ab bl cb) ∧ Rd w9 L Ab (u8s b))) [18] (by kernel_rfl) ⟨q1, hvp, q3, HRb1.out⟩ (fun hS0 => ?_)
  refine tl 0 114 ?_ ?_ ?_; rotate_left; (focus (intro w h; go_simp; (try with_reducible rfl))); (try simp only [zqd, zqe, zqf])
  refine tl 1 115 ?_ ?_ ?_; rotate_left; (focus (intro w h; go_simp; (try with_reducible rfl))); (try simp only [zqd, zqe, zqf])
  refine tl 2 116 ?_ ?_ ?_; rotate_left; (focus (intro w h; go_simp; (try with_reducible rfl))); (try simp only [zqd, zqe, zqf])
  refine tl 3 117 ?_ ?_ ?_; rotate_left; (focus (intro w h; go_simp; (try with_reducible rfl))); (try simp only [zqd, zqe, zqf])
  refine tl 4 118 ?_ ?_ ?_; rotate_left; (focus (intro w h; go_simp; (try with_reducible rfl))); (try simp only [zqd, zqe, zqf])
  refine tl 5 119 ?_ ?_ ?_; rotate_left; (focus (intro w h; go_simp; (try with_reducible rfl))); (try simp only [zqd, zqe, zqf])
  refine tl 6 120 ?_ ?_ ?_; rotate_left; (focus (intro w h; go_simp; (try with_reducible rfl))); (try simp only [zqd, zqe, zqf])
  refine tl 7 121 ?_ ?_ ?_; rotate_left; (focus (intro w h; go_simp; (try with_reducible rfl))); (try simp only [zqd, zqe, zqf])
  refine tl 8 122 ?_ ?_ ?_; rotate_left; (focus (intro w h; go_simp; (try with_reducible rfl))); (try simp only [zqd, zqe, zqf])
  refine tl 9 123 ?_ ?_ ?_; rotate_left; (focus (intro w h; go_simp; (try with_reducible rfl))); (try simp only [zqd, zqe, zqf])
  refine tl 10 124 ?_ ?_ ?_; rotate_left; (focus (intro w h; go_simp; (try with_reducible rfl))); (try simp only [zqd, zqe, zqf])
  refine tl 11 125 ?_ ?_ ?_; rotate_left; (focus (intro w h; go_simp; (try with_reducible rfl))); (try simp only [zqd, zqe, zqf])
  refine tl 12 126 ?_ ?_ ?_; rotate_left; (focus (intro w h; go_simp; (try with_reducible rfl))); (try simp only [zqd, zqe, zqf])
  refine tl 13 127 ?_ ?_ ?_; rotate_left; (focus (intro w h; go_simp; (try with_reducible rfl))); (try simp only [zqd, zqe, zqf])
  refine tl 14 128 ?_ ?_ ?_; rotate_left; (focus (intro w hSw; have hh := rd_conv (c := cb) hSw.2.2.2 HBl.out; go_simp; (try with_reducible rfl); done)); (try simp only [zqd, zqe, zqf])
  refine callL_at (i := 15) (d := 129) (by simp only [zqa, zqb, zqc]; rfl) rfl (by kernel_rfl) rfl (fun K hK => ?_)
  go_simp
  obtain ⟨y4, hy⟩ : ∃ z, (y1.alloc (.cells #[.string ⟨(b).toArray⟩] 9)).drew = z := ⟨_, rfl⟩
  have HY4 : Hid (Below y1.heap.size y1 y4) := hide (by rw [← hy]; exact ((Below.refl _ _).alloc (Nat.le_refl _) _).drew)
  have HO1 : Hid (y4.heap[y1.heap.size]? = some (.cells #[.string ⟨(b).toArray⟩] 9)) := hide (by rw [← hy]; exact heap_alloc_last y1 _)
  rw [hy]
  clear hy
  have hS4 : y4.cell? ⟨W, 2, none⟩ = some (.slice (some ⟨U, 0, none⟩) 2 2) ∧ y4.cell? ⟨U, a, none⟩ = some (.slice A0 np c0) ∧ y4.cell? ⟨X, 3, none⟩ = some (.slice Ab bl cb) ∧ Rd y4 L Ab (u8s b) := ⟨(HY4.out.cell (p := ⟨W, 2, none⟩) hWy).trans q1, (HY4.out.cell (p := ⟨U, a, none⟩) hUy).trans hvp, (HY4.out.cell (p := ⟨X, 3, none⟩) hXy).trans q3, HRb1.out.below' HY4.out hLy⟩
  refine hK.out _ _ hS4 (fun hSn => ?_)
  clear hK K
  try simp only [zqd, zqe, zqf]
  refine callL_at (i := 16) (d := 130) (by simp only [zqa, zqb, zqc]; rfl) rfl (by kernel_rfl) rfl (fun K hK => ?_)
  refine op_app (.tmp 125) (.tmp 129) 48 rfl L 9 i3 (.string ⟨#[]⟩) 1 16 Try.underlying48 a3i a3z a3s a3b rfl (by decide) (.slice A0 np c0) np (strs xs) rfl (own_below HRo.out HY4.out (fun g hg => (HRo.out.lt g hg).2)) y4.heap.size (some ⟨y1.heap.size, 0, none⟩) 1 1 [.string ⟨(b).toArray⟩] rfl rfl (rd_cells HO1.out) (by simp [Value.oneCell']) (by unfold maxLen; omega) (by omega) (Nat.le_trans hLx HY4.out.size) ?_
  intro A8 c8 y5 own5 hg5 hat5
  have HOwn : Hid (y5.ownsRow L 9 1 (.slice A8 (np + 1) c8) (np + 1) (strs (xs ++ [b]))) := hide (by rw [strs_app]; exact own5)
  have HG5 := hide hg5
  have HA5 := hide hat5
  have HSm : Hid (∀ g, g < y1.heap.size → (Value.slice A0 np c0).ownBlock ≠ some g → y5.heap[g]? = y1.heap[g]?) := hide (fun g hl hne => (HG5.out.block g (Nat.lt_of_lt_of_le hl HY4.out.size) (fun e => hne e.symm)).trans (HY4.out.block g hl))
  have HNw : Hid (∀ g, (Value.slice A8 (np + 1) c8).ownBlock = some g → (Value.slice A0 np c0).ownBlock = some g ∨ y1.heap.size ≤ g) := hide (fun g hg => by rcases HA5.out with h | h; exact .inl (by rw [← h]; exact hg); right; rw [h] at hg; injection hg with hg; rw [← hg]; exact HY4.out.size)
  have HSz : Hid (y1.heap.size ≤ y5.heap.size ∧ Env y1 y5) := hide ⟨Nat.le_trans HY4.out.size HG5.out.size, (Env.of_below HY4.out).grown HG5.out⟩
  have hS5 : y5.cell? ⟨W, 2, none⟩ = some (.slice (some ⟨U, 0, none⟩) 2 2) ∧ y5.cell? ⟨U, a, none⟩ = some (.slice A0 np c0) ∧ y5.cell? ⟨X, 3, none⟩ = some (.slice Ab bl cb) ∧ Rd y5 L Ab (u8s b) := by obtain ⟨vs, z1, _⟩ := HN1.out.put; exact ⟨(World.cell?_of_block (cell_at HSm.out HR0.out HN1.out.wd (by decide))).trans q1, (World.cell?_of_block (cell_at HSm.out HR0.out z1 (by decide))).trans hvp, (World.cell?_of_block (cell_at HSm.out HR0.out HX1.out (by decide))).trans q3, HRb1.out.keep fun p hp => World.cell?_of_block (HSm.out _ (Nat.lt_of_lt_of_le hp hLy) (fun e => by have := (HR0.out.2.1.lt _ e).1; omega))⟩
  clear own5 hg5 hat5
  refine hK.out _ _ hS5 (fun hSn => ?_)
  clear hK K
  simp only [Act.put]
  try simp only [zqd, zqe, zqf]
  refine tl 17 131 ?_ ?_ ?_; rotate_left; (focus (intro w h; go_simp; (try with_reducible rfl))); (try simp only [zqd, zqe, zqf])
  refine exL_at (i := 18) (by simp only [zqa, zqb, zqc]; rfl) (by kernel_rfl) rfl (by kernel_rfl) (fun K hK => ?_)
  have z5 : y5.frozen? ⟨U, a, none⟩ = false := frozen_at HSm.out HN1.out.put HR0.out _
  go_wp2_with fail
  refine hK.out _ _ ?_
  clear hK K
  try simp only [zqd, zqe, zqf]
  refine wpAnyL_done (by kernel_rfl) ?_ _
  clear hS0 hSn hS4 hS5
  skip
  have HNew : Hid (NetM (y5.setCell ⟨U, a, none⟩ (.slice A8 (np + 1) c8)) L W E Y U T P1 P2 (tagN tag (.slice A8 (np + 1) c8) (1, a)) ways (puts.set a (xs ++ [b])) gots false) := hide (HN1.out.updPut HP.out.1 HR0.out HSz.out.1 HSm.out HNw.out (xs' := xs ++ [b]) ⟨A8, c8, by simp [HNp.out]⟩ (by rw [List.length_append, HNp.out]; exact HOwn.out))
  have HMd : Hid (ModN L y1 (y5.setCell ⟨U, a, none⟩ (.slice A8 (np + 1) c8))) := hide (modn_upd HR0.out HN1.out.blkT.2.1 HN1.out.lo.2.2.1 HSz.out.1 HSz.out.2 HSm.out)
  obtain ⟨y6, hy6⟩ : ∃ z, y5.setCell ⟨U, a, none⟩ (.slice A8 (np + 1) c8) = z := ⟨_, rfl⟩
  rw [hy6] at HNew HMd ⊢
  have hne : a ≠ 1 - a := by omega
  have hal : a < puts.length := (List.getElem?_eq_some_iff.1 HP.out.1).1
  have HFin : Hid (NSt y6 L W P1 P2 a Q1 Q2 ep (m + 1) (n + 1)) := hide ⟨E, Y, U, T, _, _, ways, _, gots, _, t, ws, wt, _, pt, gs, gt, HNew.out, (HT1.out.modn HMd.out).mono (Nat.le_refl _) (Nat.le_succ _), HMd.out.size, (HNew.out.ptr HN1.out a).trans HE1.out, (HNew.out.ptr HN1.out (1 - a)).trans HE2.out, HW.out, ⟨List.getElem?_set_self hal, by rw [List.getElem?_set_ne hne]; exact HP.out.2⟩, HG.out, HSd2.out⟩
  have HFb := hide (HB1.out.trans (HMd.out.toBelow hLy))
  go_wp2
  go_end0
  exact ⟨rfl, HFin.out, HFb.out⟩
 have hz0 : (0 : Int) < (n0 : Int) := by omega
 obtain ⟨q, hq⟩ : ∃ z, N8 % n0 = z := ⟨_, rfl⟩
 have hqn : q < n0 := by rw [← hq]; exact Nat.mod_lt _ (by omega)
 have hNq : (N8 : Int) % (n0 : Int) = (q : Int) := by rw [← hq]; rfl
 have HQ := hide hq
 clear hq
 have hLx0 : L ≤ x.heap.size := Nat.le_trans (Nat.le_of_lt hLw) HBx2.out.size
 go_enter Try.func18, Try.ntmps18
 go_upto_region 1 with fail
 rw [HXn.out, HXe.out]
 go_upto_region 21 with fail
 refine wp_region_held_drew (S := (fun w9 : World => (w9.cell? ⟨W, 0, none⟩ = some (.slice (some ⟨E, 0, none⟩) 2 2) ∧ w9.cell? ⟨E, a, none⟩ = some (.pointer (some ⟨Q1, 0, none⟩)) ∧ w9.cell? ⟨X, 3, none⟩ = some (.slice Ab bl cb)))) (by kernel_rfl) ⟨e0, hy1, s3⟩ (fun hS0 => ?_)
 refine tk 0 103 ?_ ?_ ?_; rotate_left; (focus (intro w h; go_simp; (try with_reducible rfl))); (try simp only [zqd, zqe, zqf])
 refine tk 1 104 ?_ ?_ ?_; rotate_left; (focus (intro w h; go_simp; (try with_reducible rfl))); (try simp only [zqd, zqe, zqf])
 refine tk 2 105 ?_ ?_ ?_; rotate_left; (focus (intro w h; go_simp; (try with_reducible rfl))); (try simp only [zqd, zqe, zqf])
 refine tk 3 106 ?_ ?_ ?_; rotate_left; (focus (intro w h; go_simp; (try with_reducible rfl))); (try simp only [zqd, zqe, zqf])
 refine tk 4 107 ?_ ?_ ?_; rotate_left; (focus (intro w h; go_simp; (try with_reducible rfl))); (try simp only [zqd, zqe, zqf])
 refine tk 5 108 ?_ ?_ ?_; rotate_left; (focus (intro w h; go_simp; (try with_reducible rfl))); (try simp only [zqd, zqe, zqf])
 refine tk 6 109 ?_ ?_ ?_; rotate_left; (focus (intro w h; go_simp; (try with_reducible rfl))); (try simp only [zqd, zqe, zqf])
 refine tk 7 110 ?_ ?_ ?_; rotate_left; (focus (intro w h; go_simp; (try with_reducible rfl))); (try simp only [zqd, zqe, zqf])
 refine tk 8 111 ?_ ?_ ?_; rotate_left; (focus (intro w h; go_simp; (try with_reducible rfl))); (try simp only [zqd, zqe, zqf])
 refine call_at (i := 9) (d := 112) (by simp only [zqa, zqb, zqc]; rfl) rfl (by kernel_rfl) rfl (fun K hK => ?_)
 go_simp
 have hsd := two_send (HT.out.next (Below.refl _ _).drew) (show B ≤ x.drew.heap.size from hBx) Ab b cb (show Rd x.drew x.drew.heap.size Ab (u8s b) from (HRb.out.more hLx0).drew) (by rw [HBl.out]; omega) (by have := HD.out.d1.next; have := HD.out.p1; omega)
 rw [HBl.out] at hsd
 refine hsd.mono ?_
 clear hsd
 rintro e y1 ⟨rfl, ht, hm⟩
 obtain ⟨cd, hcd⟩ : ∃ z, (sendL s b).1 = z := ⟨_, rfl⟩
 rw [hcd]
 have HCd := hide hcd
 have HT1 := hide ht
 have HM1 : Hid (Mid L B x y1) := hide ⟨hm.1, hm.2, hm.3, hm.4⟩
 have hS1 : (y1.cell? ⟨W, 0, none⟩ = some (.slice (some ⟨E, 0, none⟩) 2 2) ∧ y1.cell? ⟨E, a, none⟩ = some (.pointer (some ⟨Q1, 0, none⟩)) ∧ y1.cell? ⟨X, 3, none⟩ = some (.slice Ab bl cb)) := ⟨(World.cell?_of_block (HM1.out.oth _ _ _ HN.out.wd (by decide) (by decide))).trans e0, (World.cell?_of_block (HM1.out.oth _ _ _ HN.out.en (by decide) (by decide))).trans hy1, (World.cell?_of_block (HM1.out.oth _ _ _ HX.out (by decide) (by decide))).trans s3⟩
 clear ht hm hcd
 go_wp2_with fail
 refine hK.out _ _ hS1 (fun hSn => ?_)
 clear hK K
 try simp only [zqd, zqe, zqf]
 refine tk 10 113 ?_ ?_ ?_; rotate_left; (focus (intro w h; go_simp; (try with_reducible rfl))); (try simp only [zqd, zqe, zqf])
 refine wpAnyH_done (by kernel_rfl) ?_ _
 clear hS0 hSn hS1
 have HSd := hide (HD.out.send b (by rw [HBl.out]; omega) (by omega))
 have HN1 := hide (HN.out.mid HM1.out)
 have HB1 : Hid (Below L w y1) := hide (HBx2.out.trans (HM1.out.toBelow hLx0))
 have HX1 := hide ((HM1.out.oth _ _ _ HX.out (by decide) (by decide)).trans HX.out)
 have HE1 := hide ((HN1.out.ptr HN.out a).trans hy1)
 have HE2 := hide ((HN1.out.ptr HN.out (1 - a)).trans hy2)
 have hLy : L ≤ y1.heap.size := Nat.le_trans hLx0 HM1.out.size
 have HRb1 := hide (HRb.out.below' (HM1.out.toBelow hLx0) (Nat.le_refl _))
 clear s0 s1 s2 s3 e0 e1 hv0 hy1 hy2
 by_cases hc0 : cd = 0
 rotate_left
 ·have hcq : (cd == 0) = false := by simp [hc0]
  have HFin : Hid (NSt y1 L W P1 P2 a Q1 Q2 ep (m + 1) (n + 1)) := hide (by rcases HSd.out with ⟨h, _⟩ | ⟨_, h⟩; exact absurd (HCd.out.symm.trans h) hc0; exact ⟨E, Y, U, T, tag, _, ways, puts, gots, _, t, ws, wt, ps, pt, gs, gt, HN1.out, HT1.out.mono (Nat.le_refl _) (Nat.le_succ _), Nat.le_refl _, HE1.out, HE2.out, HW.out, HP.out, HG.out, h⟩)
  go_wp2
  go_end0
  exact ⟨rfl, HFin.out, HB1.out⟩
 have hcq : (cd == 0) = true := by simp [hc0]
 have HSd2 : Hid (NDir ep (sendL s b).2 t ws wt (ps ++ [b]) pt gs gt (m + 1)) := hide (by rcases HSd.out with ⟨_, h⟩ | ⟨h, _⟩; exact h; exact absurd (HCd.out.trans hc0) h)
 clear hc0 HR0 hc01 hc02
 obtain ⟨vp, hvp, hRp⟩ := HN1.out.put.at_ HP.out.1
 obtain ⟨A0, c0, rfl, -, -, -⟩ := hRp.rd
 obtain ⟨np, hnp⟩ : ∃ z, ps.length = z := ⟨_, rfl⟩
 rw [hnp] at hvp
 have hnp2 : np ≤ 10000 := by have := HD.out.p1; omega
 obtain ⟨xs, hxs⟩ : ∃ z, ps = z := ⟨_, rfl⟩
 rw [hxs] at hRp hnp HSd2 HP
 have HR0 : Hid (StrRow y1 L tag (1, a) (.slice A0 np c0) xs) := hide (by rw [← hnp]; exact hRp)
 have HRo : Hid (y1.ownsRow L 9 1 (.slice A0 np c0) np (strs xs)) := hide (by have h := HR0.out.2.1; rwa [hnp] at h)
 have HNp := hide hnp
 clear hRp hnp hxs
 have q1 : y1.cell? ⟨W, 2, none⟩ = some (.slice (some ⟨U, 0, none⟩) 2 2) := cell_of_row _ _ 2 _ _ _ HN1.out.wd
 have q3 : y1.cell? ⟨X, 3, none⟩ = some (.slice Ab bl cb) := cell_of_row _ _ 3 _ _ _ HX1.out
 have hWy : W < y1.heap.size := lt_of_block HN1.out.wd
 have hUy : U < y1.heap.size := HN1.out.put.lt
 have hXy : X < y1.heap.size := lt_of_block HX1.out
 go_upto_region 22 with fail
 have hLx : L ≤ y1.heap.size := by have := HN1.out.lo; have := HN1.out.put.lt; omega
 obtain ⟨i3, a3i, a3z, a3s, a3b⟩ := info_parts (show (Try.prog.info? 9).map (fun i => (i.zero, i.size, i.bytes)) = some (some (.string ⟨#[]⟩), 1, 16) by kernel_rfl)
 refine wpL_region (S := (fun w9 : World => w9.cell? ⟨W, 2, none⟩ = some (.slice (some ⟨U, 0, none⟩) 2 2) ∧ w9.cell? ⟨U, a, none⟩ = some (.slice A0 np c0) ∧ w9.cell? ⟨X, 3, none⟩ = some (.slice Ab bl cb) ∧ Rd w9 L Ab (u8s b))) [18] (by kernel_rfl) ⟨q1, hvp, q3, HRb1.out⟩ (fun hS0 => ?_)
 refine tl 0 114 ?_ ?_ ?_; rotate_left; (focus (intro w h; go_simp; (try with_reducible rfl))); (try simp only [zqd, zqe, zqf])
 refine tl 1 115 ?_ ?_ ?_; rotate_left; (focus (intro w h; go_simp; (try with_reducible rfl))); (try simp only [zqd, zqe, zqf])
 refine tl 2 116 ?_ ?_ ?_; rotate_left; (focus (intro w h; go_simp; (try with_reducible rfl))); (try simp only [zqd, zqe, zqf])
 refine tl 3 117 ?_ ?_ ?_; rotate_left; (focus (intro w h; go_simp; (try with_reducible rfl))); (try simp only [zqd, zqe, zqf])
 refine tl 4 118 ?_ ?_ ?_; rotate_left; (focus (intro w h; go_simp; (try with_reducible rfl))); (try simp only [zqd, zqe, zqf])
 refine tl 5 119 ?_ ?_ ?_; rotate_left; (focus (intro w h; go_simp; (try with_reducible rfl))); (try simp only [zqd, zqe, zqf])
 refine tl 6 120 ?_ ?_ ?_; rotate_left; (focus (intro w h; go_simp; (try with_reducible rfl))); (try simp only [zqd, zqe, zqf])
 refine tl 7 121 ?_ ?_ ?_; rotate_left; (focus (intro w h; go_simp; (try with_reducible rfl))); (try simp only [zqd, zqe, zqf])
 refine tl 8 122 ?_ ?_ ?_; rotate_left; (focus (intro w h; go_simp; (try with_reducible rfl))); (try simp only [zqd, zqe, zqf])
 refine tl 9 123 ?_ ?_ ?_; rotate_left; (focus (intro w h; go_simp; (try with_reducible rfl))); (try simp only [zqd, zqe, zqf])
 refine tl 10 124 ?_ ?_ ?_; rotate_left; (focus (intro w h; go_simp; (try with_reducible rfl))); (try simp only [zqd, zqe, zqf])
 refine tl 11 125 ?_ ?_ ?_; rotate_left; (focus (intro w h; go_simp; (try with_reducible rfl))); (try simp only [zqd, zqe, zqf])
 refine tl 12 126 ?_ ?_ ?_; rotate_left; (focus (intro w h; go_simp; (try with_reducible rfl))); (try simp only [zqd, zqe, zqf])
 refine tl 13 127 ?_ ?_ ?_; rotate_left; (focus (intro w h; go_simp; (try with_reducible rfl))); (try simp only [zqd, zqe, zqf])
 refine tl 14 128 ?_ ?_ ?_; rotate_left; (focus (intro w hSw; have hh := rd_conv (c := cb) hSw.2.2.2 HBl.out; go_simp; (try with_reducible rfl); done)); (try simp only [zqd, zqe, zqf])
 refine callL_at (i := 15) (d := 129) (by simp only [zqa, zqb, zqc]; rfl) rfl (by kernel_rfl) rfl (fun K hK => ?_)
 go_simp
 obtain ⟨y4, hy⟩ : ∃ z, (y1.alloc (.cells #[.string ⟨(b).toArray⟩] 9)).drew = z := ⟨_, rfl⟩
 have HY4 : Hid (Below y1.heap.size y1 y4) := hide (by rw [← hy]; exact ((Below.refl _ _).alloc (Nat.le_refl _) _).drew)
 have HO1 : Hid (y4.heap[y1.heap.size]? = some (.cells #[.string ⟨(b).toArray⟩] 9)) := hide (by rw [← hy]; exact heap_alloc_last y1 _)
 rw [hy]
 clear hy
 have hS4 : y4.cell? ⟨W, 2, none⟩ = some (.slice (some ⟨U, 0, none⟩) 2 2) ∧ y4.cell? ⟨U, a, none⟩ = some (.slice A0 np c0) ∧ y4.cell? ⟨X, 3, none⟩ = some (.slice Ab bl cb) ∧ Rd y4 L Ab (u8s b) := ⟨(HY4.out.cell (p := ⟨W, 2, none⟩) hWy).trans q1, (HY4.out.cell (p := ⟨U, a, none⟩) hUy).trans hvp, (HY4.out.cell (p := ⟨X, 3, none⟩) hXy).trans q3, HRb1.out.below' HY4.out hLy⟩
 refine hK.out _ _ hS4 (fun hSn => ?_)
 clear hK K
 try simp only [zqd, zqe, zqf]
 refine callL_at (i := 16) (d := 130) (by simp only [zqa, zqb, zqc]; rfl) rfl (by kernel_rfl) rfl (fun K hK => ?_)
 refine op_app (.tmp 125) (.tmp 129) 48 rfl L 9 i3 (.string ⟨#[]⟩) 1 16 Try.underlying48 a3i a3z a3s a3b rfl (by decide) (.slice A0 np c0) np (strs xs) rfl (own_below HRo.out HY4.out (fun g hg => (HRo.out.lt g hg).2)) y4.heap.size (some ⟨y1.heap.size, 0, none⟩) 1 1 [.string ⟨(b).toArray⟩] rfl rfl (rd_cells HO1.out) (by simp [Value.oneCell']) (by unfold maxLen; omega) (by omega) (Nat.le_trans hLx HY4.out.size) ?_
 intro A8 c8 y5 own5 hg5 hat5
 have HOwn : Hid (y5.ownsRow L 9 1 (.slice A8 (np + 1) c8) (np + 1) (strs (xs ++ [b]))) := hide (by rw [strs_app]; exact own5)
 have HG5 := hide hg5
 have HA5 := hide hat5
 have HSm : Hid (∀ g, g < y1.heap.size → (Value.slice A0 np c0).ownBlock ≠ some g → y5.heap[g]? = y1.heap[g]?) := hide (fun g hl hne => (HG5.out.block g (Nat.lt_of_lt_of_le hl HY4.out.size) (fun e => hne e.symm)).trans (HY4.out.block g hl))
 have HNw : Hid (∀ g, (Value.slice A8 (np + 1) c8).ownBlock = some g → (Value.slice A0 np c0).ownBlock = some g ∨ y1.heap.size ≤ g) := hide (fun g hg => by rcases HA5.out with h | h; exact .inl (by rw [← h]; exact hg); right; rw [h] at hg; injection hg with hg; rw [← hg]; exact HY4.out.size)
 have HSz : Hid (y1.heap.size ≤ y5.heap.size ∧ Env y1 y5) := hide ⟨Nat.le_trans HY4.out.size HG5.out.size, (Env.of_below HY4.out).grown HG5.out⟩
 have hS5 : y5.cell? ⟨W, 2, none⟩ = some (.slice (some ⟨U, 0, none⟩) 2 2) ∧ y5.cell? ⟨U, a, none⟩ = some (.slice A0 np c0) ∧ y5.cell? ⟨X, 3, none⟩ = some (.slice Ab bl cb) ∧ Rd y5 L Ab (u8s b) := by obtain ⟨vs, z1, _⟩ := HN1.out.put; exact ⟨(World.cell?_of_block (cell_at HSm.out HR0.out HN1.out.wd (by decide))).trans q1, (World.cell?_of_block (cell_at HSm.out HR0.out z1 (by decide))).trans hvp, (World.cell?_of_block (cell_at HSm.out HR0.out HX1.out (by decide))).trans q3, HRb1.out.keep fun p hp => World.cell?_of_block (HSm.out _ (Nat.lt_of_lt_of_le hp hLy) (fun e => by have := (HR0.out.2.1.lt _ e).1; omega))⟩
 clear own5 hg5 hat5
 refine hK.out _ _ hS5 (fun hSn => ?_)
 clear hK K
 simp only [Act.put]
 try simp only [zqd, zqe, zqf]
 refine tl 17 131 ?_ ?_ ?_; rotate_left; (focus (intro w h; go_simp; (try with_reducible rfl))); (try simp only [zqd, zqe, zqf])
 refine exL_at (i := 18) (by simp only [zqa, zqb, zqc]; rfl) (by kernel_rfl) rfl (by kernel_rfl) (fun K hK => ?_)
 have z5 : y5.frozen? ⟨U, a, none⟩ = false := frozen_at HSm.out HN1.out.put HR0.out _
 go_wp2_with fail
 refine hK.out _ _ ?_
 clear hK K
 try simp only [zqd, zqe, zqf]
 refine wpAnyL_done (by kernel_rfl) ?_ _
 clear hS0 hSn hS4 hS5
 skip
 have HNew : Hid (NetM (y5.setCell ⟨U, a, none⟩ (.slice A8 (np + 1) c8)) L W E Y U T P1 P2 (tagN tag (.slice A8 (np + 1) c8) (1, a)) ways (puts.set a (xs ++ [b])) gots false) := hide (HN1.out.updPut HP.out.1 HR0.out HSz.out.1 HSm.out HNw.out (xs' := xs ++ [b]) ⟨A8, c8, by simp [HNp.out]⟩ (by rw [List.length_append, HNp.out]; exact HOwn.out))
 have HMd : Hid (ModN L y1 (y5.setCell ⟨U, a, none⟩ (.slice A8 (np + 1) c8))) := hide (modn_upd HR0.out HN1.out.blkT.2.1 HN1.out.lo.2.2.1 HSz.out.1 HSz.out.2 HSm.out)
 obtain ⟨y6, hy6⟩ : ∃ z, y5.setCell ⟨U, a, none⟩ (.slice A8 (np + 1) c8) = z := ⟨_, rfl⟩
 rw [hy6] at HNew HMd ⊢
 have hne : a ≠ 1 - a := by omega
 have hal : a < puts.length := (List.getElem?_eq_some_iff.1 HP.out.1).1
 have HFin : Hid (NSt y6 L W P1 P2 a Q1 Q2 ep (m + 1) (n + 1)) := hide ⟨E, Y, U, T, _, _, ways, _, gots, _, t, ws, wt, _, pt, gs, gt, HNew.out, (HT1.out.modn HMd.out).mono (Nat.le_refl _) (Nat.le_succ _), HMd.out.size, (HNew.out.ptr HN1.out a).trans HE1.out, (HNew.out.ptr HN1.out (1 - a)).trans HE2.out, HW.out, ⟨List.getElem?_set_self hal, by rw [List.getElem?_set_ne hne]; exact HP.out.2⟩, HG.out, HSd2.out⟩
 have HFb := hide (HB1.out.trans (HMd.out.toBelow hLy))
 go_wp2
 go_end0
 exact ⟨rfl, HFin.out, HFb.out⟩
end Go.Proofs.Ytigmmikijjcdiaa
