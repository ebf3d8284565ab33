/- Lemmas: Nq1, Nq2. -/
import Derived.Test.YtigmmikijjcdiaaProg
import Derived.Deep.DeepCutAuto
import Derived.Lib.Hide
import Derived.WalkSpells
import Derived.WalkMore
import Derived.IntWalk
import Derived.Test.YtigmmikijjcdiaaLnWw24
set_option linter.unusedVariables false
set_option linter.unusedSimpArgs false
set_option maxRecDepth 100000
set_option maxHeartbeats 16000000
namespace Go.Proofs.Ytigmmikijjcdiaa
open Go.RowKit
theorem step_hear4 (w : World) {L W P1 P2 a Q1 Q2 ep m n : Nat} (hS : NSt w L W P1 P2 a Q1 Q2 ep m n) (ha : a < 2) (hm : m ≤ 1000) (hn : n ≤ 1000) (k A8 N8 : Nat) (hk : k < 256) (hA : A8 < 256) (hN8 : N8 < 256) (hAa : A8 % 2 = a) (Ab : Option Addr) (b : BL) (bl cb : Nat) (hbl : b.length = bl) (hR : Rd w L Ab (u8s b)) (hb : bl ≤ 5000) (hkk : k % 10 = 4) :
  Calls Try.prog 18 #[.pointer (some ⟨W, 0, none⟩), .agg #[.int .u8 (k : Int), .int .u8 (A8 : Int), .int .u8 (N8 : Int), .slice Ab bl cb]] w (StepPost w L W P1 P2 a Q1 Q2 ep m n) := by
 obtain ⟨E, Y, U, T, tag, B, ways, puts, gots, s, t, ws, wt, ps, pt, gs, gt, hN, hT, hBw, hE1, hE2, hW, hP, hG, hD⟩ := hS
 obtain ⟨x, hx⟩ : ∃ z, w.alloc (.cells #[.int .u8 (k : Int), .int .u8 (A8 : Int), .int .u8 (N8 : Int), .slice Ab bl cb] 40) = z := ⟨_, rfl⟩
 obtain ⟨X, hX⟩ : ∃ z, w.heap.size = z := ⟨_, rfl⟩
 have HX : Hid (x.heap[X]? = some (.cells #[.int .u8 (k : Int), .int .u8 (A8 : Int), .int .u8 (N8 : Int), .slice Ab bl cb] 40)) := hide (by rw [← hx, ← hX]; exact heap_alloc_last w _)
 have HBx : Hid (Below w.heap.size w x) := hide (by rw [← hx]; exact (Below.refl _ _).alloc (Nat.le_refl _) _)
 have hLw : L < w.heap.size := hT.low
 have hE0 : E < w.heap.size := lt_of_block hN.en
 have hy1 := (HBx.out.cell (p := ⟨E, a, none⟩) hE0).trans hE1
 have hy2 := (HBx.out.cell (p := ⟨E, 1 - a, none⟩) hE0).trans hE2
 have HN := hide (hN.next HBx.out)
 have HT := hide (hT.next HBx.out)
 have HRb := hide (hR.below' HBx.out (Nat.le_of_lt hLw))
 have HBx2 : Hid (Below L w x) := hide (HBx.out.mono (Nat.le_of_lt hLw))
 have hBx : B ≤ x.heap.size := Nat.le_trans hBw HBx.out.size
 have HXe : Hid (w.heap.size = X) := hide hX
 have HXn := hide hx
 have HD := hide hD
 have HW := hide hW
 have HP := hide hP
 have HG := hide hG
 have HLw := hide hLw
 have HAa := hide hAa
 have HBl := hide hbl
 clear hx hX hN hT hE1 hE2 hW hP hG hD hR hBw HBx hAa hbl
 obtain ⟨v0, hv0, hR0⟩ := HN.out.way.at_ HW.out.1
 obtain ⟨A0, c0, rfl, -, hc01, hc02⟩ := hR0.rd
 obtain ⟨n0, hn0⟩ : ∃ z, ws.length = z := ⟨_, rfl⟩
 rw [hn0] at hv0 hR0 hc01
 have hn1 : n0 ≤ 100 := by rw [← hn0]; exact HD.out.l1
 have HR0 := hide hR0
 have HN0 := hide hn0
 have s0 : x.cell? ⟨X, 0, none⟩ = some (.int .u8 (k : Int)) := cell_of_row _ _ 0 _ _ _ HX.out
 have s1 : x.cell? ⟨X, 1, none⟩ = some (.int .u8 (A8 : Int)) := cell_of_row _ _ 1 _ _ _ HX.out
 have s2 : x.cell? ⟨X, 2, none⟩ = some (.int .u8 (N8 : Int)) := cell_of_row _ _ 2 _ _ _ HX.out
 have s3 : x.cell? ⟨X, 3, none⟩ = some (.slice Ab bl cb) := cell_of_row _ _ 3 _ _ _ HX.out
 have e0 : x.cell? ⟨W, 0, none⟩ = some (.slice (some ⟨E, 0, none⟩) 2 2) := cell_of_row _ _ 0 _ _ _ HN.out.wd
 have e1 : x.cell? ⟨W, 1, none⟩ = some (.slice (some ⟨Y, 0, none⟩) 2 2) := cell_of_row _ _ 1 _ _ _ HN.out.wd
 have hXx : X < x.heap.size := lt_of_block HX.out
 have hWx : W < x.heap.size := lt_of_block HN.out.wd
 have hYx : Y < x.heap.size := HN.out.way.lt
 have hEx : E < x.heap.size := lt_of_block HN.out.en
 have ha0 : (0 : Int) ≤ (a : Int) := by omega
 have ha1 : (a : Int) < 2 := by omega
 clear hR0 hn0
 have hk10 : (k : Int) % 10 = 4 := by omega
 have hAi : (A8 : Int) % 2 = (a : Int) := by have := HAa.out; omega
 by_cases hz : n0 = 0
 ·have hz0 : ¬ (0 : Int) < (n0 : Int) := by omega
  go_enter Try.func18, Try.ntmps18
  go_upto_region 1 with fail
  rw [HXn.out, HXe.out]
  go_wp2
  go_end0
  exact ⟨rfl, ⟨E, Y, U, T, tag, B, ways, puts, gots, s, t, ws, wt, ps, pt, gs, gt, HN.out, HT.out.mono (Nat.le_refl _) (Nat.le_succ _), hBx, hy1, hy2, HW.out, HP.out, HG.out, HD.out.mono⟩, HBx2.out⟩
 have hz0 : (0 : Int) < (n0 : Int) := by omega
 obtain ⟨q, hq⟩ : ∃ z, N8 % n0 = z := ⟨_, rfl⟩
 have hqn : q < n0 := by rw [← hq]; exact Nat.mod_lt _ (by omega)
 have hNq : (N8 : Int) % (n0 : Int) = (q : Int) := by rw [← hq]; rfl
 have HQ := hide hq
 clear hq
 obtain ⟨f, hf⟩ : ∃ f, ws[q]? = some f := ⟨_, List.getElem?_eq_getElem (by rw [HN0.out]; exact hqn)⟩
 obtain ⟨g0, o0, rfl, hg0, hc0⟩ := HR0.out.get hf
 have HFq := hide hf
 have hq0 : (0 : Int) ≤ (q : Int) := by omega
 have hq1 : (q : Int) < (n0 : Int) := by omega
 have hq2 : (q : Int) + 1 ≤ (n0 : Int) := by omega
 have hq3 : (0 : Int) ≤ (q : Int) + 1 := by omega
 have HWy := hide (HD.out.w1 f (List.mem_of_getElem? hf))
 have HStr := hide (show Rd x x.heap.size (some ⟨g0, o0, none⟩) (strs ws) from (by obtain ⟨A9, c9, e9, h9, _⟩ := HR0.out.rd; injection e9 with e9 _ _; rw [e9]; exact h9))
 clear hf
 have HFL := hide HWy.out.2.1
 go_enter Try.func18, Try.ntmps18
 go_upto_region 1 with fail
 rw [HXn.out, HXe.out]
 go_upto_region 8 with fail
 rw [hNq]
 go_upto_region 11 with fail
 obtain ⟨i3, a3i, a3z, a3s, a3b⟩ := info_parts (show (Try.prog.info? 9).map (fun i => (i.zero, i.size, i.bytes)) = some (some (.string ⟨#[]⟩), 1, 16) by kernel_rfl)
 have HDr : Hid (Rd x x.heap.size (if c0 = q + 1 then some ⟨g0, o0, none⟩ else some ⟨g0, o0 + (q + 1), none⟩) (strs (ws.drop (q + 1)))) := hide (by have h := HStr.out.cut (k := q + 1) (cap := c0) (by rw [strs_len, HN0.out]; omega) (by rw [strs_len, HN0.out]; exact hc01); unfold strs at h ⊢; rw [List.map_drop]; exact h)
 obtain ⟨A9, hA9⟩ : ∃ z, (if c0 = q + 1 then (some ⟨g0, o0, none⟩ : Option Addr) else some ⟨g0, o0 + (q + 1), none⟩) = z := ⟨_, rfl⟩
 rw [hA9] at HDr
 have HA9 := hide hA9
 clear hA9
 go_upto_region 12 with (at_builtin; refine wpList_app rfl (.tmp 45) (.tmp 48) 48 rfl x.heap.size 9 i3 (.string ⟨#[]⟩) 1 16 Try.underlying48 a3i a3z a3s a3b rfl (by decide) (.slice none 0 0) 0 [] rfl (World.ownsRow_nil _ _ _ _) x.heap.size (some ⟨g0, o0, none⟩) q c0 (strs (ws.take q)) rfl (by rw [strs_len, List.length_take, HN0.out]; omega) (by have h := HStr.out.take q; unfold strs at h ⊢; rw [List.map_take]; exact h) (strs_one _) (by unfold maxLen; omega) (by omega) (Nat.le_refl _) ?_; intro A1 c1 y1 own1 hg1 hat1)
 rw [Nat.zero_add, List.nil_append] at own1
 try rw [Nat.zero_add]
 have HO1 := hide own1
 have HB1 : Hid (∀ g, g < x.heap.size → y1.heap[g]? = x.heap[g]?) := hide (fun g hl => hg1.block g hl (fun e => by cases e))
 have HZ1 : Hid (x.heap.size ≤ y1.heap.size) := hide hg1.size
 have HEv1 : Hid (Env x y1) := hide (Env.of_grown hg1)
 have HK1 : Hid (Kept x y1) := hide (fun p hp => World.cell?_of_block (HB1.out _ hp))
 clear own1 hg1 hat1
 have kq1 : IntKind.i64.wrap ((q : Int) + 1) = ((q + 1 : Nat) : Int) := by rw [IntWalk.i64_in _ (by omega)]; omega
 refine wpL_region (S := Kept x) [12] (by kernel_rfl) HK1.out (fun hS0 => ?_)
 refine tl 0 50 ?_ ?_ ?_; rotate_left; (focus (intro w h; go_simp; (try with_reducible rfl))); (try simp only [zqd, zqe, zqf])
 refine tl 1 51 ?_ ?_ ?_; rotate_left; (focus (intro w h; go_simp; (try with_reducible rfl))); (try simp only [zqd, zqe, zqf])
 refine tl 2 52 ?_ ?_ ?_; rotate_left; (focus (intro w h; go_simp; (try with_reducible rfl))); (try simp only [zqd, zqe, zqf])
 refine tl 3 53 ?_ ?_ ?_; rotate_left; (focus (intro w h; go_simp; (try with_reducible rfl))); (try simp only [zqd, zqe, zqf])
 refine tl 4 54 ?_ ?_ ?_; rotate_left; (focus (intro w h; go_simp; (try with_reducible rfl))); (try simp only [zqd, zqe, zqf])
 refine tl 5 55 ?_ ?_ ?_; rotate_left; (focus (intro w h; go_simp; (try with_reducible rfl))); (try simp only [zqd, zqe, zqf])
 refine tl 6 56 ?_ ?_ ?_; rotate_left; (focus (intro w h; go_simp; (try with_reducible rfl))); (try simp only [zqd, zqe, zqf])
 refine tl 7 57 ?_ ?_ ?_; rotate_left; (focus (intro w h; go_simp; (try with_reducible rfl))); (try simp only [zqd, zqe, zqf])
 refine tl 8 58 ?_ ?_ ?_; rotate_left; (focus (intro w h; go_simp; (try with_reducible rfl))); (try simp only [zqd, zqe, zqf])
 refine tl 9 59 ?_ ?_ ?_; rotate_left; (focus (intro w hSw; go_simp; rw [HA9.out]; done)); (try simp only [zqd, zqe, zqf])
 refine callL_at (i := 10) (d := 60) (by simp only [zqa, zqb, zqc]; rfl) rfl (by kernel_rfl) rfl (fun K hK => ?_)
 refine op_app (.tmp 55) (.tmp 59) 48 rfl x.heap.size 9 i3 (.string ⟨#[]⟩) 1 16 Try.underlying48 a3i a3z a3s a3b rfl (by decide) (.slice A1 q c1) q (strs (ws.take q)) rfl HO1.out x.heap.size A9 (n0 - (q + 1)) (c0 - (q + 1)) (strs (ws.drop (q + 1))) rfl (by rw [strs_len, List.length_drop, HN0.out]; omega) (Rd.keep HDr.out fun p hp => (HK1.out p hp)) (strs_one _) (by unfold maxLen; omega) (by omega) HZ1.out ?_
 intro A2 c2 y2 own2 hg2 hat2
 have HO2 := hide own2
 have HK2 : Hid (∀ g, g < x.heap.size → y2.heap[g]? = x.heap[g]?) := hide (fun g hl => (hg2.block g (Nat.lt_of_lt_of_le hl HZ1.out) (fun e => by have := (HO1.out.lt g e.symm).1; omega)).trans (HB1.out g hl))
 have HZ2 : Hid (x.heap.size ≤ y2.heap.size ∧ Env x y2) := hide ⟨Nat.le_trans HZ1.out hg2.size, Env.grown (b := y1.drew) ⟨HEv1.out.1, HEv1.out.2.1, HEv1.out.2.2⟩ hg2⟩
 have hS2 : Kept x y2 := fun p hp => World.cell?_of_block (HK2.out _ hp)
 clear own2 hg2 hat2
 refine hK.out _ _ hS2 (fun hSn => ?_)
 clear hK K
 simp only [Act.put]
 try simp only [zqd, zqe, zqf]
 refine tl 11 61 ?_ ?_ ?_; rotate_left; (focus (intro w h; go_simp; (try with_reducible rfl))); (try simp only [zqd, zqe, zqf])
 refine exL_at (i := 12) (by simp only [zqa, zqb, zqc]; rfl) (by kernel_rfl) rfl (by kernel_rfl) (fun K hK => ?_)
 have z6 : y2.frozen? ⟨Y, a, none⟩ = false := by obtain ⟨vs, z1, _⟩ := HN.out.way; exact frozen_of_row _ _ _ _ _ ((HK2.out Y hYx).trans z1)
 go_wp2_with fail
 refine hK.out _ _ ?_
 clear hK K
 try simp only [zqd, zqe, zqf]
 refine wpAnyL_done (by kernel_rfl) ?_ _
 clear hS0 hSn hS2
 obtain ⟨len, hlen⟩ : ∃ z, q + (n0 - (q + 1)) = z := ⟨_, rfl⟩
 have hlen2 : (ws.take q ++ ws.drop (q + 1)).length = len := by rw [List.length_append, List.length_take, List.length_drop, HN0.out]; omega
 have HO3 : Hid (y2.ownsRow L 9 1 (.slice A2 len c2) len (strs (ws.take q ++ ws.drop (q + 1)))) := hide (by have h := own_base HO2.out (base' := L) (Nat.le_trans (Nat.le_of_lt HLw.out) HBx2.out.size); rw [← strs_app, hlen] at h; exact h)
 rw [hlen]
 have HMd : Hid (ModN L x (y2.setCell ⟨Y, a, none⟩ (.slice A2 len c2))) := hide (modn_upd HR0.out HN.out.blkT.1 HN.out.lo.2.1 HZ2.out.1 HZ2.out.2 (fun g hl _ => HK2.out g hl))
 have HN3 : Hid (NetM (y2.setCell ⟨Y, a, none⟩ (.slice A2 len c2)) L W E Y U T P1 P2 (tagN tag (.slice A2 len c2) (0, a)) (ways.set a (ws.take q ++ ws.drop (q + 1))) puts gots false) := hide (HN.out.updWay HW.out.1 HR0.out HZ2.out.1 (fun g hl _ => HK2.out g hl) (fun g hg => .inr (by have h := HO2.out.lt g (by rw [hlen]; exact hg); exact h.1)) ⟨A2, c2, by rw [hlen2]⟩ (by rw [hlen2]; exact HO3.out))
 obtain ⟨y3, hy3⟩ : ∃ z, y2.setCell ⟨Y, a, none⟩ (.slice A2 len c2) = z := ⟨_, rfl⟩
 rw [hy3] at HMd HN3 ⊢
 have HT3 := hide (HT.out.modn HMd.out)
 have HX3 := hide (HMd.out.cells HX.out (by decide) (by decide) (by decide))
 have HB3 : Hid (Below L w y3) := hide (HBx2.out.trans (HMd.out.toBelow (Nat.le_trans (Nat.le_of_lt HLw.out) HBx2.out.size)))
 have hBy : B ≤ y3.heap.size := Nat.le_trans hBx HMd.out.size
 have HY1 := hide ((HN3.out.ptr HN.out a).trans hy1)
 have HY2 := hide ((HN3.out.ptr HN.out (1 - a)).trans hy2)
 have HRb3 := hide (HRb.out.keep fun p hp => World.cell?_of_block (HMd.out.low _ (Nat.lt_of_lt_of_le hp (Nat.le_trans (Nat.le_of_lt HLw.out) HBx2.out.size)) hp))
 have HWs3 : Hid ((ways.set a (ws.take q ++ ws.drop (q + 1)))[a]? = some (ws.take q ++ ws.drop (q + 1)) ∧ (ways.set a (ws.take q ++ ws.drop (q + 1)))[1 - a]? = some wt) := hide ⟨by rw [List.getElem?_set_self (by have := HN.out.len.1; omega)], by rw [List.getElem?_set_ne (by omega)]; exact HW.out.2⟩
 have HD3 : Hid (∀ f' ∈ ws.take q ++ ws.drop (q + 1), f' ∈ ws) := hide (fun f' hf' => by rcases List.mem_append.1 hf' with h | h; exact List.mem_of_mem_take h; exact List.mem_of_mem_drop h)
 have HL3 : Hid ((ws.take q ++ ws.drop (q + 1)).length ≤ ws.length) := hide (by rw [hlen2, HN0.out]; omega)
 have s0' : y3.cell? ⟨X, 0, none⟩ = some (.int .u8 (k : Int)) := cell_of_row _ _ 0 _ _ _ HX3.out
 have s2' : y3.cell? ⟨X, 2, none⟩ = some (.int .u8 (N8 : Int)) := cell_of_row _ _ 2 _ _ _ HX3.out
 have hXy : X < y3.heap.size := lt_of_block HX3.out
 clear hy3 s0 s1 s2 s3 e0 e1 hv0 hc0 hy1 hy2 hlen
 have HH := hide (heard_less HD.out HWy.out HD3.out HL3.out)
 have hhr := hears_any y3 HN3.out a ha HT3.out.symm hBy HY1.out f (by have := HFL.out; omega) (by omega) (by have := HD.out.d2.heard; have := HD.out.d2.glen; have := HD.out.p2; omega) (fun g' p' hg' hp' => by rw [HG.out.1] at hg'; rw [HP.out.2] at hp'; injection hg' with hg'; injection hp' with hp'; subst hg' hp'; exact HH.out.told) HH.out.code (fun g' hg' => by rw [HG.out.1] at hg'; injection hg' with hg'; subst hg'; have := HD.out.d2.glen; have := HD.out.p2; omega) (fun p' hp' => by rw [HP.out.2] at hp'; injection hp' with hp'; subst hp'; have := HD.out.p2; omega)
 have HHr := hide hhr
 clear hhr
 go_wp2_with fail
 refine HHr.out.mono ?_
 rintro e w9 hp9
 have HFin := hide (nst_heard HN3.out HY1.out HY2.out HWs3.out HP.out HG.out HH.out hp9)
 obtain ⟨rfl, -, -⟩ := hp9
 clear HHr
 have HFb := hide (HB3.out.trans HFin.out.2)
 go_wp2
 go_end0
 exact ⟨rfl, HFin.out.1, HFb.out⟩
theorem step_hear5 (w : World) {L W P1 P2 a Q1 Q2 ep m n : Nat} (hS : NSt w L W P1 P2 a Q1 Q2 ep m n) (ha : a < 2) (hm : m ≤ 1000) (hn : n ≤ 1000) (k A8 N8 : Nat) (hk : k < 256) (hA : A8 < 256) (hN8 : N8 < 256) (hAa : A8 % 2 = a) (Ab : Option Addr) (b : BL) (bl cb : Nat) (hbl : b.length = bl) (hR : Rd w L Ab (u8s b)) (hb : bl ≤ 5000) (hkk : k % 10 = 5) :
  Calls Try.prog 18 #[.pointer (some ⟨W, 0, none⟩), .agg #[.int .u8 (k : Int), .int .u8 (A8 : Int), .int .u8 (N8 : Int), .slice Ab bl cb]] w (StepPost w L W P1 P2 a Q1 Q2 ep m n) := by
 obtain ⟨E, Y, U, T, tag, B, ways, puts, gots, s, t, ws, wt, ps, pt, gs, gt, hN, hT, hBw, hE1, hE2, hW, hP, hG, hD⟩ := hS
 obtain ⟨x, hx⟩ : ∃ z, w.alloc (.cells #[.int .u8 (k : Int), .int .u8 (A8 : Int), .int .u8 (N8 : Int), .slice Ab bl cb] 40) = z := ⟨_, rfl⟩
 obtain ⟨X, hX⟩ : ∃ z, w.heap.size = z := ⟨_, rfl⟩
 have HX : Hid (x.heap[X]? = some (.cells #[.int .u8 (k : Int), .int .u8 (A8 : Int), .int .u8 (N8 : Int), .slice Ab bl cb] 40)) := hide (by rw [← hx, ← hX]; exact heap_alloc_last w _)
 have HBx : Hid (Below w.heap.size w x) := hide (by rw [← hx]; exact (Below.refl _ _).alloc (Nat.le_refl _) _)
 have hLw : L < w.heap.size := hT.low
 have hE0 : E < w.heap.size := lt_of_block hN.en
 have hy1 := (HBx.out.cell (p := ⟨E, a, none⟩) hE0).trans hE1
 have hy2 := (HBx.out.cell (p := ⟨E, 1 - a, none⟩) hE0).trans hE2
 have HN := hide (hN.next HBx.out)
 have HT := hide (hT.next HBx.out)
 have HRb := hide (hR.below' HBx.out (Nat.le_of_lt hLw))
 have HBx2 : Hid (Below L w x) := hide (HBx.out.mono (Nat.le_of_lt hLw))
 have hBx : B ≤ x.heap.size := Nat.le_trans hBw HBx.out.size
 have HXe : Hid (w.heap.size = X) := hide hX
 have HXn := hide hx
 have HD := hide hD
 have HW := hide hW
 have HP := hide hP
 have HG := hide hG
 have HLw := hide hLw
 have HAa := hide hAa
 have HBl := hide hbl
 clear hx hX hN hT hE1 hE2 hW hP hG hD hR hBw HBx hAa hbl
 obtain ⟨v0, hv0, hR0⟩ := HN.out.way.at_ HW.out.1
 obtain ⟨A0, c0, rfl, -, hc01, hc02⟩ := hR0.rd
 obtain ⟨n0, hn0⟩ : ∃ z, ws.length = z := ⟨_, rfl⟩
 rw [hn0] at hv0 hR0 hc01
 have hn1 : n0 ≤ 100 := by rw [← hn0]; exact HD.out.l1
 have HR0 := hide hR0
 have HN0 := hide hn0
 have s0 : x.cell? ⟨X, 0, none⟩ = some (.int .u8 (k : Int)) := cell_of_row _ _ 0 _ _ _ HX.out
 have s1 : x.cell? ⟨X, 1, none⟩ = some (.int .u8 (A8 : Int)) := cell_of_row _ _ 1 _ _ _ HX.out
 have s2 : x.cell? ⟨X, 2, none⟩ = some (.int .u8 (N8 : Int)) := cell_of_row _ _ 2 _ _ _ HX.out
 have s3 : x.cell? ⟨X, 3, none⟩ = some (.slice Ab bl cb) := cell_of_row _ _ 3 _ _ _ HX.out
 have e0 : x.cell? ⟨W, 0, none⟩ = some (.slice (some ⟨E, 0, none⟩) 2 2) := cell_of_row _ _ 0 _ _ _ HN.out.wd
 have e1 : x.cell? ⟨W, 1, none⟩ = some (.slice (some ⟨Y, 0, none⟩) 2 2) := cell_of_row _ _ 1 _ _ _ HN.out.wd
 have hXx : X < x.heap.size := lt_of_block HX.out
 have hWx : W < x.heap.size := lt_of_block HN.out.wd
 have hYx : Y < x.heap.size := HN.out.way.lt
 have hEx : E < x.heap.size := lt_of_block HN.out.en
 have ha0 : (0 : Int) ≤ (a : Int) := by omega
 have ha1 : (a : Int) < 2 := by omega
 clear hR0 hn0
 have hk10 : (k : Int) % 10 = 5 := by omega
 have hAi : (A8 : Int) % 2 = (a : Int) := by have := HAa.out; omega
 by_cases hz : n0 = 0
 ·have hz0 : ¬ (0 : Int) < (n0 : Int) := by omega
  go_enter Try.func18, Try.ntmps18
  go_upto_region 1 with fail
  rw [HXn.out, HXe.out]
  go_wp2
  go_end0
  exact ⟨rfl, ⟨E, Y, U, T, tag, B, ways, puts, gots, s, t, ws, wt, ps, pt, gs, gt, HN.out, HT.out.mono (Nat.le_refl _) (Nat.le_succ _), hBx, hy1, hy2, HW.out, HP.out, HG.out, HD.out.mono⟩, HBx2.out⟩
 have hz0 : (0 : Int) < (n0 : Int) := by omega
 obtain ⟨q, hq⟩ : ∃ z, N8 % n0 = z := ⟨_, rfl⟩
 have hqn : q < n0 := by rw [← hq]; exact Nat.mod_lt _ (by omega)
 have hNq : (N8 : Int) % (n0 : Int) = (q : Int) := by rw [← hq]; rfl
 have HQ := hide hq
 clear hq
 obtain ⟨f, hf⟩ : ∃ f, ws[q]? = some f := ⟨_, List.getElem?_eq_getElem (by rw [HN0.out]; exact hqn)⟩
 obtain ⟨g0, o0, rfl, hg0, hc0⟩ := HR0.out.get hf
 have HFq := hide hf
 have hq0 : (0 : Int) ≤ (q : Int) := by omega
 have hq1 : (q : Int) < (n0 : Int) := by omega
 have hq2 : (q : Int) + 1 ≤ (n0 : Int) := by omega
 have hq3 : (0 : Int) ≤ (q : Int) + 1 := by omega
 have HWy := hide (HD.out.w1 f (List.mem_of_getElem? hf))
 have HStr := hide (show Rd x x.heap.size (some ⟨g0, o0, none⟩) (strs ws) from (by obtain ⟨A9, c9, e9, h9, _⟩ := HR0.out.rd; injection e9 with e9 _ _; rw [e9]; exact h9))
 clear hf
 have HFL := hide HWy.out.2.1
 go_enter Try.func18, Try.ntmps18
 go_upto_region 1 with fail
 rw [HXn.out, HXe.out]
 go_upto_region 8 with fail
 rw [hNq]
 go_upto_region 11 with fail
 obtain ⟨i3, a3i, a3z, a3s, a3b⟩ := info_parts (show (Try.prog.info? 9).map (fun i => (i.zero, i.size, i.bytes)) = some (some (.string ⟨#[]⟩), 1, 16) by kernel_rfl)
 have HDr : Hid (Rd x x.heap.size (if c0 = q + 1 then some ⟨g0, o0, none⟩ else some ⟨g0, o0 + (q + 1), none⟩) (strs (ws.drop (q + 1)))) := hide (by have h := HStr.out.cut (k := q + 1) (cap := c0) (by rw [strs_len, HN0.out]; omega) (by rw [strs_len, HN0.out]; exact hc01); unfold strs at h ⊢; rw [List.map_drop]; exact h)
 obtain ⟨A9, hA9⟩ : ∃ z, (if c0 = q + 1 then (some ⟨g0, o0, none⟩ : Option Addr) else some ⟨g0, o0 + (q + 1), none⟩) = z := ⟨_, rfl⟩
 rw [hA9] at HDr
 have HA9 := hide hA9
 clear hA9
 go_upto_region 12 with (at_builtin; refine wpList_app rfl (.tmp 45) (.tmp 48) 48 rfl x.heap.size 9 i3 (.string ⟨#[]⟩) 1 16 Try.underlying48 a3i a3z a3s a3b rfl (by decide) (.slice none 0 0) 0 [] rfl (World.ownsRow_nil _ _ _ _) x.heap.size (some ⟨g0, o0, none⟩) q c0 (strs (ws.take q)) rfl (by rw [strs_len, List.length_take, HN0.out]; omega) (by have h := HStr.out.take q; unfold strs at h ⊢; rw [List.map_take]; exact h) (strs_one _) (by unfold maxLen; omega) (by omega) (Nat.le_refl _) ?_; intro A1 c1 y1 own1 hg1 hat1)
 rw [Nat.zero_add, List.nil_append] at own1
 try rw [Nat.zero_add]
 have HO1 := hide own1
 have HB1 : Hid (∀ g, g < x.heap.size → y1.heap[g]? = x.heap[g]?) := hide (fun g hl => hg1.block g hl (fun e => by cases e))
 have HZ1 : Hid (x.heap.size ≤ y1.heap.size) := hide hg1.size
 have HEv1 : Hid (Env x y1) := hide (Env.of_grown hg1)
 have HK1 : Hid (Kept x y1) := hide (fun p hp => World.cell?_of_block (HB1.out _ hp))
 clear own1 hg1 hat1
 have kq1 : IntKind.i64.wrap ((q : Int) + 1) = ((q + 1 : Nat) : Int) := by rw [IntWalk.i64_in _ (by omega)]; omega
 refine wpL_region (S := Kept x) [12] (by kernel_rfl) HK1.out (fun hS0 => ?_)
 refine tl 0 50 ?_ ?_ ?_; rotate_left; (focus (intro w h; go_simp; (try with_reducible rfl))); (try simp only [zqd, zqe, zqf])
 refine tl 1 51 ?_ ?_ ?_; rotate_left; (focus (intro w h; go_simp; (try with_reducible rfl))); (try simp only [zqd, zqe, zqf])
 refine tl 2 52 ?_ ?_ ?_; rotate_left; (focus (intro w h; go_simp; (try with_reducible rfl))); (try simp only [zqd, zqe, zqf])
 refine tl 3 53 ?_ ?_ ?_; rotate_left; (focus (intro w h; go_simp; (try with_reducible rfl))); (try simp only [zqd, zqe, zqf])
 refine tl 4 54 ?_ ?_ ?_; rotate_left; (focus (intro w h; go_simp; (try with_reducible rfl))); (try simp only [zqd, zqe, zqf])
 refine tl 5 55 ?_ ?_ ?_; rotate_left; (focus (intro w h; go_simp; (try with_reducible rfl))); (try simp only [zqd, zqe, zqf])
 refine tl 6 56 ?_ ?_ ?_; rotate_left; (focus (intro w h; go_simp; (try with_reducible rfl))); (try simp only [zqd, zqe, zqf])
 refine tl 7 57 ?_ ?_ ?_; rotate_left; (focus (intro w h; go_simp; (try with_reducible rfl))); (try simp only [zqd, zqe, zqf])
 refine tl 8 58 ?_ ?_ ?_; rotate_left; (focus (intro w h; go_simp; (try with_reducible rfl))); (try simp only [zqd, zqe, zqf])
 refine tl 9 59 ?_ ?_ ?_; rotate_left; (focus (intro w hSw; go_simp; rw [HA9.out]; done)); (try simp only [zqd, zqe, zqf])
 refine callL_at (i := 10) (d := 60) (by simp only [zqa, zqb, zqc]; rfl) rfl (by kernel_rfl) rfl (fun K hK => ?_)
 refine op_app (.tmp 55) (.tmp 59) 48 rfl x.heap.size 9 i3 (.string ⟨#[]⟩) 1 16 Try.underlying48 a3i a3z a3s a3b rfl (by decide) (.slice A1 q c1) q (strs (ws.take q)) rfl HO1.out x.heap.size A9 (n0 - (q + 1)) (c0 - (q + 1)) (strs (ws.drop (q + 1))) rfl (by rw [strs_len, List.length_drop, HN0.out]; omega) (Rd.keep HDr.out fun p hp => (HK1.out p hp)) (strs_one _) (by unfold maxLen; omega) (by omega) HZ1.out ?_
 intro A2 c2 y2 own2 hg2 hat2
 have HO2 := hide own2
 have HK2 : Hid (∀ g, g < x.heap.size → y2.heap[g]? = x.heap[g]?) := hide (fun g hl => (hg2.block g (Nat.lt_of_lt_of_le hl HZ1.out) (fun e => by have := (HO1.out.lt g e.symm).1; omega)).trans (HB1.out g hl))
 have HZ2 : Hid (x.heap.size ≤ y2.heap.size ∧ Env x y2) := hide ⟨Nat.le_trans HZ1.out hg2.size, Env.grown (b := y1.drew) ⟨HEv1.out.1, HEv1.out.2.1, HEv1.out.2.2⟩ hg2⟩
 have hS2 : Kept x y2 := fun p hp => World.cell?_of_block (HK2.out _ hp)
 clear own2 hg2 hat2
 refine hK.out _ _ hS2 (fun hSn => ?_)
 clear hK K
 simp only [Act.put]
 try simp only [zqd, zqe, zqf]
 refine tl 11 61 ?_ ?_ ?_; rotate_left; (focus (intro w h; go_simp; (try with_reducible rfl))); (try simp only [zqd, zqe, zqf])
 refine exL_at (i := 12) (by simp only [zqa, zqb, zqc]; rfl) (by kernel_rfl) rfl (by kernel_rfl) (fun K hK => ?_)
 have z6 : y2.frozen? ⟨Y, a, none⟩ = false := by obtain ⟨vs, z1, _⟩ := HN.out.way; exact frozen_of_row _ _ _ _ _ ((HK2.out Y hYx).trans z1)
 go_wp2_with fail
 refine hK.out _ _ ?_
 clear hK K
 try simp only [zqd, zqe, zqf]
 refine wpAnyL_done (by kernel_rfl) ?_ _
 clear hS0 hSn hS2
 obtain ⟨len, hlen⟩ : ∃ z, q + (n0 - (q + 1)) = z := ⟨_, rfl⟩
 have hlen2 : (ws.take q ++ ws.drop (q + 1)).length = len := by rw [List.length_append, List.length_take, List.length_drop, HN0.out]; omega
 have HO3 : Hid (y2.ownsRow L 9 1 (.slice A2 len c2) len (strs (ws.take q ++ ws.drop (q + 1)))) := hide (by have h := own_base HO2.out (base' := L) (Nat.le_trans (Nat.le_of_lt HLw.out) HBx2.out.size); rw [← strs_app, hlen] at h; exact h)
 rw [hlen]
 have HMd : Hid (ModN L x (y2.setCell ⟨Y, a, none⟩ (.slice A2 len c2))) := hide (modn_upd HR0.out HN.out.blkT.1 HN.out.lo.2.1 HZ2.out.1 HZ2.out.2 (fun g hl _ => HK2.out g hl))
 have HN3 : Hid (NetM (y2.setCell ⟨Y, a, none⟩ (.slice A2 len c2)) L W E Y U T P1 P2 (tagN tag (.slice A2 len c2) (0, a)) (ways.set a (ws.take q ++ ws.drop (q + 1))) puts gots false) := hide (HN.out.updWay HW.out.1 HR0.out HZ2.out.1 (fun g hl _ => HK2.out g hl) (fun g hg => .inr (by have h := HO2.out.lt g (by rw [hlen]; exact hg); exact h.1)) ⟨A2, c2, by rw [hlen2]⟩ (by rw [hlen2]; exact HO3.out))
 obtain ⟨y3, hy3⟩ : ∃ z, y2.setCell ⟨Y, a, none⟩ (.slice A2 len c2) = z := ⟨_, rfl⟩
 rw [hy3] at HMd HN3 ⊢
 have HT3 := hide (HT.out.modn HMd.out)
 have HX3 := hide (HMd.out.cells HX.out (by decide) (by decide) (by decide))
 have HB3 : Hid (Below L w y3) := hide (HBx2.out.trans (HMd.out.toBelow (Nat.le_trans (Nat.le_of_lt HLw.out) HBx2.out.size)))
 have hBy : B ≤ y3.heap.size := Nat.le_trans hBx HMd.out.size
 have HY1 := hide ((HN3.out.ptr HN.out a).trans hy1)
 have HY2 := hide ((HN3.out.ptr HN.out (1 - a)).trans hy2)
 have HRb3 := hide (HRb.out.keep fun p hp => World.cell?_of_block (HMd.out.low _ (Nat.lt_of_lt_of_le hp (Nat.le_trans (Nat.le_of_lt HLw.out) HBx2.out.size)) hp))
 have HWs3 : Hid ((ways.set a (ws.take q ++ ws.drop (q + 1)))[a]? = some (ws.take q ++ ws.drop (q + 1)) ∧ (ways.set a (ws.take q ++ ws.drop (q + 1)))[1 - a]? = some wt) := hide ⟨by rw [List.getElem?_set_self (by have := HN.out.len.1; omega)], by rw [List.getElem?_set_ne (by omega)]; exact HW.out.2⟩
 have HD3 : Hid (∀ f' ∈ ws.take q ++ ws.drop (q + 1), f' ∈ ws) := hide (fun f' hf' => by rcases List.mem_append.1 hf' with h | h; exact List.mem_of_mem_take h; exact List.mem_of_mem_drop h)
 have HL3 : Hid ((ws.take q ++ ws.drop (q + 1)).length ≤ ws.length) := hide (by rw [hlen2, HN0.out]; omega)
 have s0' : y3.cell? ⟨X, 0, none⟩ = some (.int .u8 (k : Int)) := cell_of_row _ _ 0 _ _ _ HX3.out
 have s2' : y3.cell? ⟨X, 2, none⟩ = some (.int .u8 (N8 : Int)) := cell_of_row _ _ 2 _ _ _ HX3.out
 have hXy : X < y3.heap.size := lt_of_block HX3.out
 clear hy3 s0 s1 s2 s3 e0 e1 hv0 hc0 hy1 hy2 hlen
 have HH := hide (heard_less HD.out HWy.out HD3.out HL3.out)
 have hhr := hears_any y3 HN3.out a ha HT3.out.symm hBy HY1.out f (by have := HFL.out; omega) (by omega) (by have := HD.out.d2.heard; have := HD.out.d2.glen; have := HD.out.p2; omega) (fun g' p' hg' hp' => by rw [HG.out.1] at hg'; rw [HP.out.2] at hp'; injection hg' with hg'; injection hp' with hp'; subst hg' hp'; exact HH.out.told) HH.out.code (fun g' hg' => by rw [HG.out.1] at hg'; injection hg' with hg'; subst hg'; have := HD.out.d2.glen; have := HD.out.p2; omega) (fun p' hp' => by rw [HP.out.2] at hp'; injection hp' with hp'; subst hp'; have := HD.out.p2; omega)
 have HHr := hide hhr
 clear hhr
 go_wp2_with fail
 refine HHr.out.mono ?_
 rintro e w9 hp9
 have HFin := hide (nst_heard HN3.out HY1.out HY2.out HWs3.out HP.out HG.out HH.out hp9)
 obtain ⟨rfl, -, -⟩ := hp9
 clear HHr
 have HFb := hide (HB3.out.trans HFin.out.2)
 go_wp2
 go_end0
 exact ⟨rfl, HFin.out.1, HFb.out⟩
theorem step_lost (w : World) {L W P1 P2 a Q1 Q2 ep m n : Nat} (hS : NSt w L W P1 P2 a Q1 Q2 ep m n) (ha : a < 2) (hm : m ≤ 1000) (hn : n ≤ 1000) (k A8 N8 : Nat) (hk : k < 256) (hA : A8 < 256) (hN8 : N8 < 256) (hAa : A8 % 2 = a) (Ab : Option Addr) (b : BL) (bl cb : Nat) (hbl : b.length = bl) (hR : Rd w L Ab (u8s b)) (hb : bl ≤ 5000) (hkk : k % 10 = 7) :
  Calls Try.prog 18 #[.pointer (some ⟨W, 0, none⟩), .agg #[.int .u8 (k : Int), .int .u8 (A8 : Int), .int .u8 (N8 : Int), .slice Ab bl cb]] w (StepPost w L W P1 P2 a Q1 Q2 ep m n) := by
 obtain ⟨E, Y, U, T, tag, B, ways, puts, gots, s, t, ws, wt, ps, pt, gs, gt, hN, hT, hBw, hE1, hE2, hW, hP, hG, hD⟩ := hS
 obtain ⟨x, hx⟩ : ∃ z, w.alloc (.cells #[.int .u8 (k : Int), .int .u8 (A8 : Int), .int .u8 (N8 : Int), .slice Ab bl cb] 40) = z := ⟨_, rfl⟩
 obtain ⟨X, hX⟩ : ∃ z, w.heap.size = z := ⟨_, rfl⟩
 have HX : Hid (x.heap[X]? = some (.cells #[.int .u8 (k : Int), .int .u8 (A8 : Int), .int .u8 (N8 : Int), .slice Ab bl cb] 40)) := hide (by rw [← hx, ← hX]; exact heap_alloc_last w _)
 have HBx : Hid (Below w.heap.size w x) := hide (by rw [← hx]; exact (Below.refl _ _).alloc (Nat.le_refl _) _)
 have hLw : L < w.heap.size := hT.low
 have hE0 : E < w.heap.size := lt_of_block hN.en
 have hy1 := (HBx.out.cell (p := ⟨E, a, none⟩) hE0).trans hE1
 have hy2 := (HBx.out.cell (p := ⟨E, 1 - a, none⟩) hE0).trans hE2
 have HN := hide (hN.next HBx.out)
 have HT := hide (hT.next HBx.out)
 have HRb := hide (hR.below' HBx.out (Nat.le_of_lt hLw))
 have HBx2 : Hid (Below L w x) := hide (HBx.out.mono (Nat.le_of_lt hLw))
 have hBx : B ≤ x.heap.size := Nat.le_trans hBw HBx.out.size
 have HXe : Hid (w.heap.size = X) := hide hX
 have HXn := hide hx
 have HD := hide hD
 have HW := hide hW
 have HP := hide hP
 have HG := hide hG
 have HLw := hide hLw
 have HAa := hide hAa
 have HBl := hide hbl
 clear hx hX hN hT hE1 hE2 hW hP hG hD hR hBw HBx hAa hbl
 obtain ⟨v0, hv0, hR0⟩ := HN.out.way.at_ HW.out.1
 obtain ⟨A0, c0, rfl, -, hc01, hc02⟩ := hR0.rd
 obtain ⟨n0, hn0⟩ : ∃ z, ws.length = z := ⟨_, rfl⟩
 rw [hn0] at hv0 hR0 hc01
 have hn1 : n0 ≤ 100 := by rw [← hn0]; exact HD.out.l1
 have HR0 := hide hR0
 have HN0 := hide hn0
 have s0 : x.cell? ⟨X, 0, none⟩ = some (.int .u8 (k : Int)) := cell_of_row _ _ 0 _ _ _ HX.out
 have s1 : x.cell? ⟨X, 1, none⟩ = some (.int .u8 (A8 : Int)) := cell_of_row _ _ 1 _ _ _ HX.out
 have s2 : x.cell? ⟨X, 2, none⟩ = some (.int .u8 (N8 : Int)) := cell_of_row _ _ 2 _ _ _ HX.out
 have s3 : x.cell? ⟨X, 3, none⟩ = some (.slice Ab bl cb) := cell_of_row _ _ 3 _ _ _ HX.out
 have e0 : x.cell? ⟨W, 0, none⟩ = some (.slice (some ⟨E, 0, none⟩) 2 2) := cell_of_row _ _ 0 _ _ _ HN.out.wd
 have e1 : x.cell? ⟨W, 1, none⟩ = some (.slice (some ⟨Y, 0, none⟩) 2 2) := cell_of_row _ _ 1 _ _ _ HN.out.wd
 have hXx : X < x.heap.size := lt_of_block HX.out
 have hWx : W < x.heap.size := lt_of_block HN.out.wd
 have hYx : Y < x.heap.size := HN.out.way.lt
 have hEx : E < x.heap.size := lt_of_block HN.out.en
 have ha0 : (0 : Int) ≤ (a : Int) := by omega
 have ha1 : (a : Int) < 2 := by omega
 clear hR0 hn0
 have hk10 : (k : Int) % 10 = 7 := by omega
 have hAi : (A8 : Int) % 2 = (a : Int) := by have := HAa.out; omega
 by_cases hz : n0 = 0
 ·have hz0 : ¬ (0 : Int) < (n0 : Int) := by omega
  go_enter Try.func18, Try.ntmps18
  go_upto_region 1 with fail
  rw [HXn.out, HXe.out]
  go_wp2
  go_end0
  exact ⟨rfl, ⟨E, Y, U, T, tag, B, ways, puts, gots, s, t, ws, wt, ps, pt, gs, gt, HN.out, HT.out.mono (Nat.le_refl _) (Nat.le_succ _), hBx, hy1, hy2, HW.out, HP.out, HG.out, HD.out.mono⟩, HBx2.out⟩
 have hz0 : (0 : Int) < (n0 : Int) := by omega
 obtain ⟨q, hq⟩ : ∃ z, N8 % n0 = z := ⟨_, rfl⟩
 have hqn : q < n0 := by rw [← hq]; exact Nat.mod_lt _ (by omega)
 have hNq : (N8 : Int) % (n0 : Int) = (q : Int) := by rw [← hq]; rfl
 have HQ := hide hq
 clear hq
 obtain ⟨f, hf⟩ : ∃ f, ws[q]? = some f := ⟨_, List.getElem?_eq_getElem (by rw [HN0.out]; exact hqn)⟩
 obtain ⟨g0, o0, rfl, hg0, hc0⟩ := HR0.out.get hf
 have HFq := hide hf
 have hq0 : (0 : Int) ≤ (q : Int) := by omega
 have hq1 : (q : Int) < (n0 : Int) := by omega
 have hq2 : (q : Int) + 1 ≤ (n0 : Int) := by omega
 have hq3 : (0 : Int) ≤ (q : Int) + 1 := by omega
 have HWy := hide (HD.out.w1 f (List.mem_of_getElem? hf))
 have HStr := hide (show Rd x x.heap.size (some ⟨g0, o0, none⟩) (strs ws) from (by obtain ⟨A9, c9, e9, h9, _⟩ := HR0.out.rd; injection e9 with e9 _ _; rw [e9]; exact h9))
 clear hf
 have HFL := hide HWy.out.2.1
 go_enter Try.func18, Try.ntmps18
 go_upto_region 1 with fail
 rw [HXn.out, HXe.out]
 go_upto_region 8 with fail
 rw [hNq]
 go_upto_region 11 with fail
 obtain ⟨i3, a3i, a3z, a3s, a3b⟩ := info_parts (show (Try.prog.info? 9).map (fun i => (i.zero, i.size, i.bytes)) = some (some (.string ⟨#[]⟩), 1, 16) by kernel_rfl)
 have HDr : Hid (Rd x x.heap.size (if c0 = q + 1 then some ⟨g0, o0, none⟩ else some ⟨g0, o0 + (q + 1), none⟩) (strs (ws.drop (q + 1)))) := hide (by have h := HStr.out.cut (k := q + 1) (cap := c0) (by rw [strs_len, HN0.out]; omega) (by rw [strs_len, HN0.out]; exact hc01); unfold strs at h ⊢; rw [List.map_drop]; exact h)
 obtain ⟨A9, hA9⟩ : ∃ z, (if c0 = q + 1 then (some ⟨g0, o0, none⟩ : Option Addr) else some ⟨g0, o0 + (q + 1), none⟩) = z := ⟨_, rfl⟩
 rw [hA9] at HDr
 have HA9 := hide hA9
 clear hA9
 go_upto_region 12 with (at_builtin; refine wpList_app rfl (.tmp 45) (.tmp 48) 48 rfl x.heap.size 9 i3 (.string ⟨#[]⟩) 1 16 Try.underlying48 a3i a3z a3s a3b rfl (by decide) (.slice none 0 0) 0 [] rfl (World.ownsRow_nil _ _ _ _) x.heap.size (some ⟨g0, o0, none⟩) q c0 (strs (ws.take q)) rfl (by rw [strs_len, List.length_take, HN0.out]; omega) (by have h := HStr.out.take q; unfold strs at h ⊢; rw [List.map_take]; exact h) (strs_one _) (by unfold maxLen; omega) (by omega) (Nat.le_refl _) ?_; intro A1 c1 y1 own1 hg1 hat1)
 rw [Nat.zero_add, List.nil_append] at own1
 try rw [Nat.zero_add]
 have HO1 := hide own1
 have HB1 : Hid (∀ g, g < x.heap.size → y1.heap[g]? = x.heap[g]?) := hide (fun g hl => hg1.block g hl (fun e => by cases e))
 have HZ1 : Hid (x.heap.size ≤ y1.heap.size) := hide hg1.size
 have HEv1 : Hid (Env x y1) := hide (Env.of_grown hg1)
 have HK1 : Hid (Kept x y1) := hide (fun p hp => World.cell?_of_block (HB1.out _ hp))
 clear own1 hg1 hat1
 have kq1 : IntKind.i64.wrap ((q : Int) + 1) = ((q + 1 : Nat) : Int) := by rw [IntWalk.i64_in _ (by omega)]; omega
 refine wpL_region (S := Kept x) [12] (by kernel_rfl) HK1.out (fun hS0 => ?_)
 refine tl 0 50 ?_ ?_ ?_; rotate_left; (focus (intro w h; go_simp; (try with_reducible rfl))); (try simp only [zqd, zqe, zqf])
 refine tl 1 51 ?_ ?_ ?_; rotate_left; (focus (intro w h; go_simp; (try with_reducible rfl))); (try simp only [zqd, zqe, zqf])
 refine tl 2 52 ?_ ?_ ?_; rotate_left; (focus (intro w h; go_simp; (try with_reducible rfl))); (try simp only [zqd, zqe, zqf])
 refine tl 3 53 ?_ ?_ ?_; rotate_left; (focus (intro w h; go_simp; (try with_reducible rfl))); (try simp only [zqd, zqe, zqf])
 refine tl 4 54 ?_ ?_ ?_; rotate_left; (focus (intro w h; go_simp; (try with_reducible rfl))); (try simp only [zqd, zqe, zqf])
 refine tl 5 55 ?_ ?_ ?_; rotate_left; (focus (intro w h; go_simp; (try with_reducible rfl))); (try simp only [zqd, zqe, zqf])
 refine tl 6 56 ?_ ?_ ?_; rotate_left; (focus (intro w h; go_simp; (try with_reducible rfl))); (try simp only [zqd, zqe, zqf])
 refine tl 7 57 ?_ ?_ ?_; rotate_left; (focus (intro w h; go_simp; (try with_reducible rfl))); (try simp only [zqd, zqe, zqf])
 refine tl 8 58 ?_ ?_ ?_; rotate_left; (focus (intro w h; go_simp; (try with_reducible rfl))); (try simp only [zqd, zqe, zqf])
 refine tl 9 59 ?_ ?_ ?_; rotate_left; (focus (intro w hSw; go_simp; rw [HA9.out]; done)); (try simp only [zqd, zqe, zqf])
 refine callL_at (i := 10) (d := 60) (by simp only [zqa, zqb, zqc]; rfl) rfl (by kernel_rfl) rfl (fun K hK => ?_)
 refine op_app (.tmp 55) (.tmp 59) 48 rfl x.heap.size 9 i3 (.string ⟨#[]⟩) 1 16 Try.underlying48 a3i a3z a3s a3b rfl (by decide) (.slice A1 q c1) q (strs (ws.take q)) rfl HO1.out x.heap.size A9 (n0 - (q + 1)) (c0 - (q + 1)) (strs (ws.drop (q + 1))) rfl (by rw [strs_len, List.length_drop, HN0.out]; omega) (Rd.keep HDr.out fun p hp => (HK1.out p hp)) (strs_one _) (by unfold maxLen; omega) (by omega) HZ1.out ?_
 intro A2 c2 y2 own2 hg2 hat2
 have HO2 := hide own2
 have HK2 : Hid (∀ g, g < x.heap.size → y2.heap[g]? = x.heap[g]?) := hide (fun g hl => (hg2.block g (Nat.lt_of_lt_of_le hl HZ1.out) (fun e => by have := (HO1.out.lt g e.symm).1; omega)).trans (HB1.out g hl))
 have HZ2 : Hid (x.heap.size ≤ y2.heap.size ∧ Env x y2) := hide ⟨Nat.le_trans HZ1.out hg2.size, Env.grown (b := y1.drew) ⟨HEv1.out.1, HEv1.out.2.1, HEv1.out.2.2⟩ hg2⟩
 have hS2 : Kept x y2 := fun p hp => World.cell?_of_block (HK2.out _ hp)
 clear own2 hg2 hat2
 refine hK.out _ _ hS2 (fun hSn => ?_)
 clear hK K
 simp only [Act.put]
 try simp only [zqd, zqe, zqf]
 refine tl 11 61 ?_ ?_ ?_; rotate_left; (focus (intro w h; go_simp; (try with_reducible rfl))); (try simp only [zqd, zqe, zqf])
 refine exL_at (i := 12) (by simp only [zqa, zqb, zqc]; rfl) (by kernel_rfl) rfl (by kernel_rfl) (fun K hK => ?_)
 have z6 : y2.frozen? ⟨Y, a, none⟩ = false := by obtain ⟨vs, z1, _⟩ := HN.out.way; exact frozen_of_row _ _ _ _ _ ((HK2.out Y hYx).trans z1)
 go_wp2_with fail
 refine hK.out _ _ ?_
 clear hK K
 try simp only [zqd, zqe, zqf]
 refine wpAnyL_done (by kernel_rfl) ?_ _
 clear hS0 hSn hS2
 obtain ⟨len, hlen⟩ : ∃ z, q + (n0 - (q + 1)) = z := ⟨_, rfl⟩
 have hlen2 : (ws.take q ++ ws.drop (q + 1)).length = len := by rw [List.length_append, List.length_take, List.length_drop, HN0.out]; omega
 have HO3 : Hid (y2.ownsRow L 9 1 (.slice A2 len c2) len (strs (ws.take q ++ ws.drop (q + 1)))) := hide (by have h := own_base HO2.out (base' := L) (Nat.le_trans (Nat.le_of_lt HLw.out) HBx2.out.size); rw [← strs_app, hlen] at h; exact h)
 rw [hlen]
 have HMd : Hid (ModN L x (y2.setCell ⟨Y, a, none⟩ (.slice A2 len c2))) := hide (modn_upd HR0.out HN.out.blkT.1 HN.out.lo.2.1 HZ2.out.1 HZ2.out.2 (fun g hl _ => HK2.out g hl))
 have HN3 : Hid (NetM (y2.setCell ⟨Y, a, none⟩ (.slice A2 len c2)) L W E Y U T P1 P2 (tagN tag (.slice A2 len c2) (0, a)) (ways.set a (ws.take q ++ ws.drop (q + 1))) puts gots false) := hide (HN.out.updWay HW.out.1 HR0.out HZ2.out.1 (fun g hl _ => HK2.out g hl) (fun g hg => .inr (by have h := HO2.out.lt g (by rw [hlen]; exact hg); exact h.1)) ⟨A2, c2, by rw [hlen2]⟩ (by rw [hlen2]; exact HO3.out))
 obtain ⟨y3, hy3⟩ : ∃ z, y2.setCell ⟨Y, a, none⟩ (.slice A2 len c2) = z := ⟨_, rfl⟩
 rw [hy3] at HMd HN3 ⊢
 have HT3 := hide (HT.out.modn HMd.out)
 have HX3 := hide (HMd.out.cells HX.out (by decide) (by decide) (by decide))
 have HB3 : Hid (Below L w y3) := hide (HBx2.out.trans (HMd.out.toBelow (Nat.le_trans (Nat.le_of_lt HLw.out) HBx2.out.size)))
 have hBy : B ≤ y3.heap.size := Nat.le_trans hBx HMd.out.size
 have HY1 := hide ((HN3.out.ptr HN.out a).trans hy1)
 have HY2 := hide ((HN3.out.ptr HN.out (1 - a)).trans hy2)
 have HRb3 := hide (HRb.out.keep fun p hp => World.cell?_of_block (HMd.out.low _ (Nat.lt_of_lt_of_le hp (Nat.le_trans (Nat.le_of_lt HLw.out) HBx2.out.size)) hp))
 have HWs3 : Hid ((ways.set a (ws.take q ++ ws.drop (q + 1)))[a]? = some (ws.take q ++ ws.drop (q + 1)) ∧ (ways.set a (ws.take q ++ ws.drop (q + 1)))[1 - a]? = some wt) := hide ⟨by rw [List.getElem?_set_self (by have := HN.out.len.1; omega)], by rw [List.getElem?_set_ne (by omega)]; exact HW.out.2⟩
 have HD3 : Hid (∀ f' ∈ ws.take q ++ ws.drop (q + 1), f' ∈ ws) := hide (fun f' hf' => by rcases List.mem_append.1 hf' with h | h; exact List.mem_of_mem_take h; exact List.mem_of_mem_drop h)
 have HL3 : Hid ((ws.take q ++ ws.drop (q + 1)).length ≤ ws.length) := hide (by rw [hlen2, HN0.out]; omega)
 have s0' : y3.cell? ⟨X, 0, none⟩ = some (.int .u8 (k : Int)) := cell_of_row _ _ 0 _ _ _ HX3.out
 have s2' : y3.cell? ⟨X, 2, none⟩ = some (.int .u8 (N8 : Int)) := cell_of_row _ _ 2 _ _ _ HX3.out
 have hXy : X < y3.heap.size := lt_of_block HX3.out
 clear hy3 s0 s1 s2 s3 e0 e1 hv0 hc0 hy1 hy2 hlen
 have HFin : Hid (NSt y3 L W P1 P2 a Q1 Q2 ep (m + 1) (n + 1)) := hide ⟨E, Y, U, T, _, B, _, puts, gots, s, t, _, wt, ps, pt, gs, gt, HN3.out, HT3.out.mono (Nat.le_refl _) (Nat.le_succ _), hBy, HY1.out, HY2.out, HWs3.out, HP.out, HG.out, HD.out.less HD3.out HL3.out⟩
 go_wp2
 go_end0
 exact ⟨rfl, HFin.out, HB3.out⟩
end Go.Proofs.Ytigmmikijjcdiaa
namespace Go.Proofs.Ytigmmikijjcdiaa
open Go.RowKit
theorem step_stay (w : World) {L W P1 P2 a Q1 Q2 ep m n : Nat} (hS : NSt w L W P1 P2 a Q1 Q2 ep m n) (ha : a < 2) (hm : m ≤ 1000) (hn : n ≤ 1000) (k A8 N8 : Nat) (hk : k < 256) (hA : A8 < 256) (hN8 : N8 < 256) (hAa : A8 % 2 = a) (Ab : Option Addr) (b : BL) (bl cb : Nat) (hbl : b.length = bl) (hR : Rd w L Ab (u8s b)) (hb : bl ≤ 5000) (hkk : k % 10 = 6) :
  Calls Try.prog 18 #[.pointer (some ⟨W, 0, none⟩), .agg #[.int .u8 (k : Int), .int .u8 (A8 : Int), .int .u8 (N8 : Int), .slice Ab bl cb]] w (StepPost w L W P1 P2 a Q1 Q2 ep m n) := by
 obtain ⟨E, Y, U, T, tag, B, ways, puts, gots, s, t, ws, wt, ps, pt, gs, gt, hN, hT, hBw, hE1, hE2, hW, hP, hG, hD⟩ := hS
 obtain ⟨x, hx⟩ : ∃ z, w.alloc (.cells #[.int .u8 (k : Int), .int .u8 (A8 : Int), .int .u8 (N8 : Int), .slice Ab bl cb] 40) = z := ⟨_, rfl⟩
 obtain ⟨X, hX⟩ : ∃ z, w.heap.size = z := ⟨_, rfl⟩
 have HX : Hid (x.heap[X]? = some (.cells #[.int .u8 (k : Int), .int .u8 (A8 : Int), .int .u8 (N8 : Int), .slice Ab bl cb] 40)) := hide (by rw [← hx, ← hX]; exact heap_alloc_last w _)
 have HBx : Hid (Below w.heap.size w x) := hide (by rw [← hx]; exact (Below.refl _ _).alloc (Nat.le_refl _) _)
 have hLw : L < w.heap.size := hT.low
 have hE0 : E < w.heap.size := lt_of_block hN.en
 have hy1 := (HBx.out.cell (p := ⟨E, a, none⟩) hE0).trans hE1
 have hy2 := (HBx.out.cell (p := ⟨E, 1 - a, none⟩) hE0).trans hE2
 have HN := hide (hN.next HBx.out)
 have HT := hide (hT.next HBx.out)
 have HRb := hide (hR.below' HBx.out (Nat.le_of_lt hLw))
 have HBx2 : Hid (Below L w x) := hide (HBx.out.mono (Nat.le_of_lt hLw))
 have hBx : B ≤ x.heap.size := Nat.le_trans hBw HBx.out.size
 have HXe : Hid (w.heap.size = X) := hide hX
 have HXn := hide hx
 have HD := hide hD
 have HW := hide hW
 have HP := hide hP
 have HG := hide hG
 have HLw := hide hLw
 have HAa := hide hAa
 have HBl := hide hbl
 clear hx hX hN hT hE1 hE2 hW hP hG hD hR hBw HBx hAa hbl
 obtain ⟨v0, hv0, hR0⟩ := HN.out.way.at_ HW.out.1
 obtain ⟨A0, c0, rfl, -, hc01, hc02⟩ := hR0.rd
 obtain ⟨n0, hn0⟩ : ∃ z, ws.length = z := ⟨_, rfl⟩
 rw [hn0] at hv0 hR0 hc01
 have hn1 : n0 ≤ 100 := by rw [← hn0]; exact HD.out.l1
 have HR0 := hide hR0
 have HN0 := hide hn0
 have s0 : x.cell? ⟨X, 0, none⟩ = some (.int .u8 (k : Int)) := cell_of_row _ _ 0 _ _ _ HX.out
 have s1 : x.cell? ⟨X, 1, none⟩ = some (.int .u8 (A8 : Int)) := cell_of_row _ _ 1 _ _ _ HX.out
 have s2 : x.cell? ⟨X, 2, none⟩ = some (.int .u8 (N8 : Int)) := cell_of_row _ _ 2 _ _ _ HX.out
 have s3 : x.cell? ⟨X, 3, none⟩ = some (.slice Ab bl cb) := cell_of_row _ _ 3 _ _ _ HX.out
 have e0 : x.cell? ⟨W, 0, none⟩ = some (.slice (some ⟨E, 0, none⟩) 2 2) := cell_of_row _ _ 0 _ _ _ HN.out.wd
 have e1 : x.cell? ⟨W, 1, none⟩ = some (.slice (some ⟨Y, 0, none⟩) 2 2) := cell_of_row _ _ 1 _ _ _ HN.out.wd
 have hXx : X < x.heap.size := lt_of_block HX.out
 have hWx : W < x.heap.size := lt_of_block HN.out.wd
 have hYx : Y < x.heap.size := HN.out.way.lt
 have hEx : E < x.heap.size := lt_of_block HN.out.en
 have ha0 : (0 : Int) ≤ (a : Int) := by omega
 have ha1 : (a : Int) < 2 := by omega
 clear hR0 hn0
 have hk10 : (k : Int) % 10 = 6 := by omega
 have hAi : (A8 : Int) % 2 = (a : Int) := by have := HAa.out; omega
 by_cases hz : n0 = 0
 ·have hz0 : ¬ (0 : Int) < (n0 : Int) := by omega
  go_enter Try.func18, Try.ntmps18
  go_upto_region 1 with fail
  rw [HXn.out, HXe.out]
  go_wp2
  go_end0
  exact ⟨rfl, ⟨E, Y, U, T, tag, B, ways, puts, gots, s, t, ws, wt, ps, pt, gs, gt, HN.out, HT.out.mono (Nat.le_refl _) (Nat.le_succ _), hBx, hy1, hy2, HW.out, HP.out, HG.out, HD.out.mono⟩, HBx2.out⟩
 have hz0 : (0 : Int) < (n0 : Int) := by omega
 obtain ⟨q, hq⟩ : ∃ z, N8 % n0 = z := ⟨_, rfl⟩
 have hqn : q < n0 := by rw [← hq]; exact Nat.mod_lt _ (by omega)
 have hNq : (N8 : Int) % (n0 : Int) = (q : Int) := by rw [← hq]; rfl
 have HQ := hide hq
 clear hq
 obtain ⟨f, hf⟩ : ∃ f, ws[q]? = some f := ⟨_, List.getElem?_eq_getElem (by rw [HN0.out]; exact hqn)⟩
 obtain ⟨g0, o0, rfl, hg0, hc0⟩ := HR0.out.get hf
 have HFq := hide hf
 have hq0 : (0 : Int) ≤ (q : Int) := by omega
 have hq1 : (q : Int) < (n0 : Int) := by omega
 have hq2 : (q : Int) + 1 ≤ (n0 : Int) := by omega
 have hq3 : (0 : Int) ≤ (q : Int) + 1 := by omega
 have HWy := hide (HD.out.w1 f (List.mem_of_getElem? hf))
 have HStr := hide (show Rd x x.heap.size (some ⟨g0, o0, none⟩) (strs ws) from (by obtain ⟨A9, c9, e9, h9, _⟩ := HR0.out.rd; injection e9 with e9 _ _; rw [e9]; exact h9))
 clear hf
 have HFL := hide HWy.out.2.1
 have HY1x := hide hy1
 have HY2x := hide hy2
 go_enter Try.func18, Try.ntmps18
 go_upto_region 1 with fail
 rw [HXn.out, HXe.out]
 go_upto_region 8 with fail
 rw [hNq]
 go_upto_region 18 with fail
 have HH := hide (HD.out.hear HWy.out)
 have hhr := hears_any x HN.out a ha HT.out.symm hBx HY1x.out f (by have := HFL.out; omega) (by omega) (by have := HD.out.d2.heard; have := HD.out.d2.glen; have := HD.out.p2; omega) (fun g' p' hg' hp' => by rw [HG.out.1] at hg'; rw [HP.out.2] at hp'; injection hg' with hg'; injection hp' with hp'; subst hg' hp'; exact HH.out.told) HH.out.code (fun g' hg' => by rw [HG.out.1] at hg'; injection hg' with hg'; subst hg'; have := HD.out.d2.glen; have := HD.out.p2; omega) (fun p' hp' => by rw [HP.out.2] at hp'; injection hp' with hp'; subst hp'; have := HD.out.p2; omega)
 have HHr := hide hhr
 clear hhr
 go_wp2_with fail
 refine HHr.out.mono ?_
 rintro e w9 hp9
 have HFin := hide (nst_heard HN.out HY1x.out HY2x.out HW.out HP.out HG.out HH.out hp9)
 obtain ⟨rfl, -, -⟩ := hp9
 clear HHr
 have HFb := hide (HBx2.out.trans HFin.out.2)
 go_wp2
 go_end0
 exact ⟨rfl, HFin.out.1, HFb.out⟩
theorem step_turn (w : World) {L W P1 P2 a Q1 Q2 ep m n : Nat} (hS : NSt w L W P1 P2 a Q1 Q2 ep m n) (ha : a < 2) (hm : m ≤ 1000) (hn : n ≤ 1000) (k A8 N8 : Nat) (hk : k < 256) (hA : A8 < 256) (hN8 : N8 < 256) (hAa : A8 % 2 = a) (Ab : Option Addr) (b : BL) (bl cb : Nat) (hbl : b.length = bl) (hR : Rd w L Ab (u8s b)) (hb : bl ≤ 5000) (hkk : k % 10 = 9) :
  Calls Try.prog 18 #[.pointer (some ⟨W, 0, none⟩), .agg #[.int .u8 (k : Int), .int .u8 (A8 : Int), .int .u8 (N8 : Int), .slice Ab bl cb]] w (StepPost w L W P1 P2 a Q1 Q2 ep m n) := by
 obtain ⟨E, Y, U, T, tag, B, ways, puts, gots, s, t, ws, wt, ps, pt, gs, gt, hN, hT, hBw, hE1, hE2, hW, hP, hG, hD⟩ := hS
 obtain ⟨x, hx⟩ : ∃ z, w.alloc (.cells #[.int .u8 (k : Int), .int .u8 (A8 : Int), .int .u8 (N8 : Int), .slice Ab bl cb] 40) = z := ⟨_, rfl⟩
 obtain ⟨X, hX⟩ : ∃ z, w.heap.size = z := ⟨_, rfl⟩
 have HX : Hid (x.heap[X]? = some (.cells #[.int .u8 (k : Int), .int .u8 (A8 : Int), .int .u8 (N8 : Int), .slice Ab bl cb] 40)) := hide (by rw [← hx, ← hX]; exact heap_alloc_last w _)
 have HBx : Hid (Below w.heap.size w x) := hide (by rw [← hx]; exact (Below.refl _ _).alloc (Nat.le_refl _) _)
 have hLw : L < w.heap.size := hT.low
 have hE0 : E < w.heap.size := lt_of_block hN.en
 have hy1 := (HBx.out.cell (p := ⟨E, a, none⟩) hE0).trans hE1
 have hy2 := (HBx.out.cell (p := ⟨E, 1 - a, none⟩) hE0).trans hE2
 have HN := hide (hN.next HBx.out)
 have HT := hide (hT.next HBx.out)
 have HRb := hide (hR.below' HBx.out (Nat.le_of_lt hLw))
 have HBx2 : Hid (Below L w x) := hide (HBx.out.mono (Nat.le_of_lt hLw))
 have hBx : B ≤ x.heap.size := Nat.le_trans hBw HBx.out.size
 have HXe : Hid (w.heap.size = X) := hide hX
 have HXn := hide hx
 have HD := hide hD
 have HW := hide hW
 have HP := hide hP
 have HG := hide hG
 have HLw := hide hLw
 have HAa := hide hAa
 have HBl := hide hbl
 clear hx hX hN hT hE1 hE2 hW hP hG hD hR hBw HBx hAa hbl
 obtain ⟨v0, hv0, hR0⟩ := HN.out.way.at_ HW.out.1
 obtain ⟨A0, c0, rfl, -, hc01, hc02⟩ := hR0.rd
 obtain ⟨n0, hn0⟩ : ∃ z, ws.length = z := ⟨_, rfl⟩
 rw [hn0] at hv0 hR0 hc01
 have hn1 : n0 ≤ 100 := by rw [← hn0]; exact HD.out.l1
 have HR0 := hide hR0
 have HN0 := hide hn0
 have s0 : x.cell? ⟨X, 0, none⟩ = some (.int .u8 (k : Int)) := cell_of_row _ _ 0 _ _ _ HX.out
 have s1 : x.cell? ⟨X, 1, none⟩ = some (.int .u8 (A8 : Int)) := cell_of_row _ _ 1 _ _ _ HX.out
 have s2 : x.cell? ⟨X, 2, none⟩ = some (.int .u8 (N8 : Int)) := cell_of_row _ _ 2 _ _ _ HX.out
 have s3 : x.cell? ⟨X, 3, none⟩ = some (.slice Ab bl cb) := cell_of_row _ _ 3 _ _ _ HX.out
 have e0 : x.cell? ⟨W, 0, none⟩ = some (.slice (some ⟨E, 0, none⟩) 2 2) := cell_of_row _ _ 0 _ _ _ HN.out.wd
 have e1 : x.cell? ⟨W, 1, none⟩ = some (.slice (some ⟨Y, 0, none⟩) 2 2) := cell_of_row _ _ 1 _ _ _ HN.out.wd
 have hXx : X < x.heap.size := lt_of_block HX.out
 have hWx : W < x.heap.size := lt_of_block HN.out.wd
 have hYx : Y < x.heap.size := HN.out.way.lt
 have hEx : E < x.heap.size := lt_of_block HN.out.en
 have ha0 : (0 : Int) ≤ (a : Int) := by omega
 have ha1 : (a : Int) < 2 := by omega
 clear hR0 hn0
 have hk10 : (k : Int) % 10 = 9 := by omega
 have hAi : (A8 : Int) % 2 = (a : Int) := by have := HAa.out; omega
 by_cases hz : n0 = 0
 ·have hz0 : ¬ (0 : Int) < (n0 : Int) := by omega
  go_enter Try.func18, Try.ntmps18
  go_upto_region 1 with fail
  rw [HXn.out, HXe.out]
  go_wp2
  go_end0
  exact ⟨rfl, ⟨E, Y, U, T, tag, B, ways, puts, gots, s, t, ws, wt, ps, pt, gs, gt, HN.out, HT.out.mono (Nat.le_refl _) (Nat.le_succ _), hBx, hy1, hy2, HW.out, HP.out, HG.out, HD.out.mono⟩, HBx2.out⟩
 have hz0 : (0 : Int) < (n0 : Int) := by omega
 obtain ⟨q, hq⟩ : ∃ z, N8 % n0 = z := ⟨_, rfl⟩
 have hqn : q < n0 := by rw [← hq]; exact Nat.mod_lt _ (by omega)
 have hNq : (N8 : Int) % (n0 : Int) = (q : Int) := by rw [← hq]; rfl
 have HQ := hide hq
 clear hq
 obtain ⟨f, hf⟩ : ∃ f, ws[q]? = some f := ⟨_, List.getElem?_eq_getElem (by rw [HN0.out]; exact hqn)⟩
 obtain ⟨g0, o0, rfl, hg0, hc0⟩ := HR0.out.get hf
 have HFq := hide hf
 have hq0 : (0 : Int) ≤ (q : Int) := by omega
 have hq1 : (q : Int) < (n0 : Int) := by omega
 have hq2 : (q : Int) + 1 ≤ (n0 : Int) := by omega
 have hq3 : (0 : Int) ≤ (q : Int) + 1 := by omega
 have HWy := hide (HD.out.w1 f (List.mem_of_getElem? hf))
 have HStr := hide (show Rd x x.heap.size (some ⟨g0, o0, none⟩) (strs ws) from (by obtain ⟨A9, c9, e9, h9, _⟩ := HR0.out.rd; injection e9 with e9 _ _; rw [e9]; exact h9))
 clear hf
 have HFL := hide HWy.out.2.1
 have HLo : Hid (21 ≤ f.length) := hide (wy_len HWy.out)
 go_enter Try.func18, Try.ntmps18
 go_upto_region 1 with fail
 rw [HXn.out, HXe.out]
 go_upto_region 8 with fail
 rw [hNq]
 go_upto_region 11 with fail
 obtain ⟨i3, a3i, a3z, a3s, a3b⟩ := info_parts (show (Try.prog.info? 9).map (fun i => (i.zero, i.size, i.bytes)) = some (some (.string ⟨#[]⟩), 1, 16) by kernel_rfl)
 have HDr : Hid (Rd x x.heap.size (if c0 = q + 1 then some ⟨g0, o0, none⟩ else some ⟨g0, o0 + (q + 1), none⟩) (strs (ws.drop (q + 1)))) := hide (by have h := HStr.out.cut (k := q + 1) (cap := c0) (by rw [strs_len, HN0.out]; omega) (by rw [strs_len, HN0.out]; exact hc01); unfold strs at h ⊢; rw [List.map_drop]; exact h)
 obtain ⟨A9, hA9⟩ : ∃ z, (if c0 = q + 1 then (some ⟨g0, o0, none⟩ : Option Addr) else some ⟨g0, o0 + (q + 1), none⟩) = z := ⟨_, rfl⟩
 rw [hA9] at HDr
 have HA9 := hide hA9
 clear hA9
 go_upto_region 12 with (at_builtin; refine wpList_app rfl (.tmp 45) (.tmp 48) 48 rfl x.heap.size 9 i3 (.string ⟨#[]⟩) 1 16 Try.underlying48 a3i a3z a3s a3b rfl (by decide) (.slice none 0 0) 0 [] rfl (World.ownsRow_nil _ _ _ _) x.heap.size (some ⟨g0, o0, none⟩) q c0 (strs (ws.take q)) rfl (by rw [strs_len, List.length_take, HN0.out]; omega) (by have h := HStr.out.take q; unfold strs at h ⊢; rw [List.map_take]; exact h) (strs_one _) (by unfold maxLen; omega) (by omega) (Nat.le_refl _) ?_; intro A1 c1 y1 own1 hg1 hat1)
 rw [Nat.zero_add, List.nil_append] at own1
 try rw [Nat.zero_add]
 have HO1 := hide own1
 have HB1 : Hid (∀ g, g < x.heap.size → y1.heap[g]? = x.heap[g]?) := hide (fun g hl => hg1.block g hl (fun e => by cases e))
 have HZ1 : Hid (x.heap.size ≤ y1.heap.size) := hide hg1.size
 have HEv1 : Hid (Env x y1) := hide (Env.of_grown hg1)
 have HK1 : Hid (Kept x y1) := hide (fun p hp => World.cell?_of_block (HB1.out _ hp))
 clear own1 hg1 hat1
 have kq1 : IntKind.i64.wrap ((q : Int) + 1) = ((q + 1 : Nat) : Int) := by rw [IntWalk.i64_in _ (by omega)]; omega
 refine wpL_region (S := Kept x) [12] (by kernel_rfl) HK1.out (fun hS0 => ?_)
 refine tl 0 50 ?_ ?_ ?_; rotate_left; (focus (intro w h; go_simp; (try with_reducible rfl))); (try simp only [zqd, zqe, zqf])
 refine tl 1 51 ?_ ?_ ?_; rotate_left; (focus (intro w h; go_simp; (try with_reducible rfl))); (try simp only [zqd, zqe, zqf])
 refine tl 2 52 ?_ ?_ ?_; rotate_left; (focus (intro w h; go_simp; (try with_reducible rfl))); (try simp only [zqd, zqe, zqf])
 refine tl 3 53 ?_ ?_ ?_; rotate_left; (focus (intro w h; go_simp; (try with_reducible rfl))); (try simp only [zqd, zqe, zqf])
 refine tl 4 54 ?_ ?_ ?_; rotate_left; (focus (intro w h; go_simp; (try with_reducible rfl))); (try simp only [zqd, zqe, zqf])
 refine tl 5 55 ?_ ?_ ?_; rotate_left; (focus (intro w h; go_simp; (try with_reducible rfl))); (try simp only [zqd, zqe, zqf])
 refine tl 6 56 ?_ ?_ ?_; rotate_left; (focus (intro w h; go_simp; (try with_reducible rfl))); (try simp only [zqd, zqe, zqf])
 refine tl 7 57 ?_ ?_ ?_; rotate_left; (focus (intro w h; go_simp; (try with_reducible rfl))); (try simp only [zqd, zqe, zqf])
 refine tl 8 58 ?_ ?_ ?_; rotate_left; (focus (intro w h; go_simp; (try with_reducible rfl))); (try simp only [zqd, zqe, zqf])
 refine tl 9 59 ?_ ?_ ?_; rotate_left; (focus (intro w hSw; go_simp; rw [HA9.out]; done)); (try simp only [zqd, zqe, zqf])
 refine callL_at (i := 10) (d := 60) (by simp only [zqa, zqb, zqc]; rfl) rfl (by kernel_rfl) rfl (fun K hK => ?_)
 refine op_app (.tmp 55) (.tmp 59) 48 rfl x.heap.size 9 i3 (.string ⟨#[]⟩) 1 16 Try.underlying48 a3i a3z a3s a3b rfl (by decide) (.slice A1 q c1) q (strs (ws.take q)) rfl HO1.out x.heap.size A9 (n0 - (q + 1)) (c0 - (q + 1)) (strs (ws.drop (q + 1))) rfl (by rw [strs_len, List.length_drop, HN0.out]; omega) (Rd.keep HDr.out fun p hp => (HK1.out p hp)) (strs_one _) (by unfold maxLen; omega) (by omega) HZ1.out ?_
 intro A2 c2 y2 own2 hg2 hat2
 have HO2 := hide own2
 have HK2 : Hid (∀ g, g < x.heap.size → y2.heap[g]? = x.heap[g]?) := hide (fun g hl => (hg2.block g (Nat.lt_of_lt_of_le hl HZ1.out) (fun e => by have := (HO1.out.lt g e.symm).1; omega)).trans (HB1.out g hl))
 have HZ2 : Hid (x.heap.size ≤ y2.heap.size ∧ Env x y2) := hide ⟨Nat.le_trans HZ1.out hg2.size, Env.grown (b := y1.drew) ⟨HEv1.out.1, HEv1.out.2.1, HEv1.out.2.2⟩ hg2⟩
 have hS2 : Kept x y2 := fun p hp => World.cell?_of_block (HK2.out _ hp)
 clear own2 hg2 hat2
 refine hK.out _ _ hS2 (fun hSn => ?_)
 clear hK K
 simp only [Act.put]
 try simp only [zqd, zqe, zqf]
 refine tl 11 61 ?_ ?_ ?_; rotate_left; (focus (intro w h; go_simp; (try with_reducible rfl))); (try simp only [zqd, zqe, zqf])
 refine exL_at (i := 12) (by simp only [zqa, zqb, zqc]; rfl) (by kernel_rfl) rfl (by kernel_rfl) (fun K hK => ?_)
 have z6 : y2.frozen? ⟨Y, a, none⟩ = false := by obtain ⟨vs, z1, _⟩ := HN.out.way; exact frozen_of_row _ _ _ _ _ ((HK2.out Y hYx).trans z1)
 go_wp2_with fail
 refine hK.out _ _ ?_
 clear hK K
 try simp only [zqd, zqe, zqf]
 refine wpAnyL_done (by kernel_rfl) ?_ _
 clear hS0 hSn hS2
 obtain ⟨len, hlen⟩ : ∃ z, q + (n0 - (q + 1)) = z := ⟨_, rfl⟩
 have hlen2 : (ws.take q ++ ws.drop (q + 1)).length = len := by rw [List.length_append, List.length_take, List.length_drop, HN0.out]; omega
 have HO3 : Hid (y2.ownsRow L 9 1 (.slice A2 len c2) len (strs (ws.take q ++ ws.drop (q + 1)))) := hide (by have h := own_base HO2.out (base' := L) (Nat.le_trans (Nat.le_of_lt HLw.out) HBx2.out.size); rw [← strs_app, hlen] at h; exact h)
 rw [hlen]
 have HMd : Hid (ModN L x (y2.setCell ⟨Y, a, none⟩ (.slice A2 len c2))) := hide (modn_upd HR0.out HN.out.blkT.1 HN.out.lo.2.1 HZ2.out.1 HZ2.out.2 (fun g hl _ => HK2.out g hl))
 have HN3 : Hid (NetM (y2.setCell ⟨Y, a, none⟩ (.slice A2 len c2)) L W E Y U T P1 P2 (tagN tag (.slice A2 len c2) (0, a)) (ways.set a (ws.take q ++ ws.drop (q + 1))) puts gots false) := hide (HN.out.updWay HW.out.1 HR0.out HZ2.out.1 (fun g hl _ => HK2.out g hl) (fun g hg => .inr (by have h := HO2.out.lt g (by rw [hlen]; exact hg); exact h.1)) ⟨A2, c2, by rw [hlen2]⟩ (by rw [hlen2]; exact HO3.out))
 obtain ⟨y3, hy3⟩ : ∃ z, y2.setCell ⟨Y, a, none⟩ (.slice A2 len c2) = z := ⟨_, rfl⟩
 rw [hy3] at HMd HN3 ⊢
 have HT3 := hide (HT.out.modn HMd.out)
 have HX3 := hide (HMd.out.cells HX.out (by decide) (by decide) (by decide))
 have HB3 : Hid (Below L w y3) := hide (HBx2.out.trans (HMd.out.toBelow (Nat.le_trans (Nat.le_of_lt HLw.out) HBx2.out.size)))
 have hBy : B ≤ y3.heap.size := Nat.le_trans hBx HMd.out.size
 have HY1 := hide ((HN3.out.ptr HN.out a).trans hy1)
 have HY2 := hide ((HN3.out.ptr HN.out (1 - a)).trans hy2)
 have HRb3 := hide (HRb.out.keep fun p hp => World.cell?_of_block (HMd.out.low _ (Nat.lt_of_lt_of_le hp (Nat.le_trans (Nat.le_of_lt HLw.out) HBx2.out.size)) hp))
 have HWs3 : Hid ((ways.set a (ws.take q ++ ws.drop (q + 1)))[a]? = some (ws.take q ++ ws.drop (q + 1)) ∧ (ways.set a (ws.take q ++ ws.drop (q + 1)))[1 - a]? = some wt) := hide ⟨by rw [List.getElem?_set_self (by have := HN.out.len.1; omega)], by rw [List.getElem?_set_ne (by omega)]; exact HW.out.2⟩
 have HD3 : Hid (∀ f' ∈ ws.take q ++ ws.drop (q + 1), f' ∈ ws) := hide (fun f' hf' => by rcases List.mem_append.1 hf' with h | h; exact List.mem_of_mem_take h; exact List.mem_of_mem_drop h)
 have HL3 : Hid ((ws.take q ++ ws.drop (q + 1)).length ≤ ws.length) := hide (by rw [hlen2, HN0.out]; omega)
 have s0' : y3.cell? ⟨X, 0, none⟩ = some (.int .u8 (k : Int)) := cell_of_row _ _ 0 _ _ _ HX3.out
 have s2' : y3.cell? ⟨X, 2, none⟩ = some (.int .u8 (N8 : Int)) := cell_of_row _ _ 2 _ _ _ HX3.out
 have hXy : X < y3.heap.size := lt_of_block HX3.out
 clear hy3 s0 s1 s2 s3 e0 e1 hv0 hc0 hy1 hy2 hlen
 obtain ⟨fl, hfl⟩ : ∃ z, f.length = z := ⟨_, rfl⟩
 have hfl21 : 21 ≤ fl := by rw [← hfl]; obtain ⟨tg, bb, nn, hh⟩ := HWy.out.1; exact HLo.out
 have hflb : fl ≤ 1048605 := by rw [← hfl]; exact HFL.out
 have kq := run_bytes_of (P := Try.prog) y3 9 23 5 f Try.underlying9 Try.underlying23 Try.underlying5
 rw [hfl] at kq
 obtain ⟨cp, hcp⟩ : ∃ z, grownCap y3 fl 0 5 = z := ⟨_, rfl⟩
 rw [hcp] at kq
 have HBb : Hid (Below y3.heap.size y3 (bytesWorld y3 5 f)) := hide (bytesWorld_below _ _ _)
 have HRx : Hid (Rd (bytesWorld y3 5 f) (bytesWorld y3 5 f).heap.size (some ⟨y3.heap.size, 0, none⟩) (u8s f)) := hide (by rw [bytesWorld_size]; exact bytesWorld_rd _ _ _)
 have hfz : ∀ j, j < fl → (bytesWorld y3 5 f).frozen? ⟨y3.heap.size, j, none⟩ = false := fun j hj => bytesWorld_frozen _ _ _ (by rw [hfl]; exact hj)
 obtain ⟨x5, hx5⟩ : ∃ z, bytesWorld y3 5 f = z := ⟨_, rfl⟩
 rw [hx5] at kq HBb HRx hfz
 obtain ⟨g5, hg5⟩ : ∃ z, y3.heap.size = z := ⟨_, rfl⟩
 rw [hg5] at HRx hfz kq
 have HG5 := hide hg5
 have HFl := hide hfl
 clear hx5 hcp hg5 hfl
 obtain ⟨i, hi⟩ : ∃ z, N8 % fl = z := ⟨_, rfl⟩
 have hil : i < fl := by rw [← hi]; exact Nat.mod_lt _ (by omega)
 have hNi : (N8 : Int) % (fl : Int) = (i : Int) := by rw [← hi]; rfl
 have HI := hide hi
 clear hi
 obtain ⟨ch, hch⟩ : ∃ z, f[i]? = some z := ⟨_, List.getElem?_eq_getElem (by rw [HFl.out]; exact hil)⟩
 obtain ⟨cn, hcn⟩ : ∃ z, ch.toNat = z := ⟨_, rfl⟩
 have hcc : x5.cell? ⟨g5, i, none⟩ = some (.int .u8 (cn : Int)) := by obtain ⟨gz, oz, ez, hz1, hz2⟩ := HRx.out.at_ (k := i) (by rw [u8s_len, HFl.out]; exact hil); injection ez with ez; injection ez with ez1 ez2; subst ez1 ez2; have h := hz2 i (.int .u8 (cn : Int)) (by unfold u8s; rw [List.getElem?_map, hch, ← hcn]; rfl); rwa [Nat.zero_add] at h
 have hcn8 : cn < 256 := by rw [← hcn]; exact ch.toNat_lt
 have HCh := hide hch
 have HCn := hide hcn
 clear hch hcn
 have hfi := hfz i hil
 clear hfz
 have t0 : x5.cell? ⟨X, 0, none⟩ = some (.int .u8 (k : Int)) := (HBb.out.cell (p := ⟨X, 0, none⟩) hXy).trans s0'
 have t2 : x5.cell? ⟨X, 2, none⟩ = some (.int .u8 (N8 : Int)) := (HBb.out.cell (p := ⟨X, 2, none⟩) hXy).trans s2'
 have hXx5 : X < x5.heap.size := Nat.lt_of_lt_of_le hXy HBb.out.size
 have hg5x : g5 < x5.heap.size := by obtain ⟨gz, oz, ez, hz1, _⟩ := HRx.out.at_ (k := i) (by rw [u8s_len, HFl.out]; exact hil); injection ez with ez; injection ez with ez1 ez2; subst ez1; exact hz1
 have hi0 : (0 : Int) ≤ (i : Int) := by omega
 have hi1 : (i : Int) < (fl : Int) := by omega
 have hfl0 : ¬ fl = 0 := by omega
 have hN64 : IntKind.i64.wrap (N8 : Int) = (N8 : Int) := IntWalk.i64_in _ (by omega)
 have hNt : (N8 : Int).tmod (fl : Int) = (i : Int) := by rw [Int.tmod_eq_emod_of_nonneg (by omega)]; exact hNi
 obtain ⟨r8, hr8⟩ : ∃ z, N8 % 8 = z := ⟨_, rfl⟩
 have hr8l : r8 < 8 := by omega
 have hN8t : (N8 : Int).tmod 8 = (r8 : Int) := by rw [Int.tmod_eq_emod_of_nonneg (by omega)]; omega
 have HR8 := hide hr8
 clear hr8
 obtain ⟨dn, hdn⟩ : ∃ z, cn ^^^ 2 ^ r8 = z := ⟨_, rfl⟩
 have hp8 : 2 ^ r8 < 256 := Nat.pow_lt_pow_right (a := 2) (by decide) (show r8 < 8 from hr8l)
 have hdn8 : dn < 256 := by rw [← hdn]; exact Nat.xor_lt_two_pow (n := 8) hcn8 hp8
 have HXor : Hid (bits BinOp.xor IntKind.u8 (cn : Int) (IntKind.u8.wrap (2 ^ r8)) = (dn : Int)) := hide (by rw [u8_pow hr8l, u8_xor_nat _ _ hcn8 hp8, hdn])
 have HDn : Hid (cn ≠ dn) := hide (by rw [← hdn]; exact xor_ne hr8l)
 clear hdn hp8
 go_upto_region 15 with fail
 refine wpL_region (S := Kept x5) [22] (by kernel_rfl) (Kept.drew x5) (fun hS0 => ?_)
 refine tl 0 68 ?_ ?_ ?_; rotate_left; (focus (intro w h; go_simp; (try with_reducible rfl))); (try simp only [zqd, zqe, zqf])
 refine tl 1 69 ?_ ?_ ?_; rotate_left; (focus (intro w h; go_simp; (try with_reducible rfl))); (try simp only [zqd, zqe, zqf])
 refine tl 2 70 ?_ ?_ ?_; rotate_left; (focus (intro w h; go_simp; (try with_reducible rfl))); (try simp only [zqd, zqe, zqf])
 refine tl 3 71 ?_ ?_ ?_; rotate_left; (focus (intro w h; go_simp; (try with_reducible rfl))); (try simp only [zqd, zqe, zqf])
 refine tl 4 72 ?_ ?_ ?_; rotate_left; (focus (intro w h; go_simp; (try with_reducible rfl))); (try simp only [zqd, zqe, zqf])
 refine tl 5 73 ?_ ?_ ?_; rotate_left; (focus (intro w h; go_simp; (try with_reducible rfl))); (try simp only [zqd, zqe, zqf])
 refine tl 6 74 ?_ ?_ ?_; rotate_left; (focus (intro w h; go_simp; (try with_reducible rfl))); (try simp only [zqd, zqe, zqf])
 refine tl 7 75 ?_ ?_ ?_; rotate_left; (focus (intro w h; go_simp; (try with_reducible rfl))); (try simp only [zqd, zqe, zqf])
 refine tl 8 76 ?_ ?_ ?_; rotate_left; (focus (intro w h; go_simp; (try with_reducible rfl))); (try simp only [zqd, zqe, zqf])
 refine tl 9 77 ?_ ?_ ?_; rotate_left; (focus (intro w h; go_simp; (try with_reducible rfl))); (try simp only [zqd, zqe, zqf])
 refine tl 10 78 ?_ ?_ ?_; rotate_left; (focus (intro w h; go_simp; (try with_reducible rfl))); (try simp only [zqd, zqe, zqf])
 refine tl 11 79 ?_ ?_ ?_; rotate_left; (focus (intro w h; go_simp; (try with_reducible rfl))); (try simp only [zqd, zqe, zqf])
 refine tl 12 80 ?_ ?_ ?_; rotate_left; (focus (intro w h; go_simp; (try with_reducible rfl))); (try simp only [zqd, zqe, zqf])
 refine tl 13 81 ?_ ?_ ?_; rotate_left; (focus (intro w h; go_simp; (try with_reducible rfl))); (try simp only [zqd, zqe, zqf])
 refine tl 14 82 ?_ ?_ ?_; rotate_left; (focus (intro w h; go_simp; (try with_reducible rfl))); (try simp only [zqd, zqe, zqf])
 refine tl 15 83 ?_ ?_ ?_; rotate_left; (focus (intro w h; go_simp; (try with_reducible rfl))); (try simp only [zqd, zqe, zqf])
 refine tl 16 84 ?_ ?_ ?_; rotate_left; (focus (intro w h; go_simp; (try with_reducible rfl))); (try simp only [zqd, zqe, zqf])
 refine tl 17 85 ?_ ?_ ?_; rotate_left; (focus (intro w h; go_simp; (try with_reducible rfl))); (try simp only [zqd, zqe, zqf])
 refine tl 18 86 ?_ ?_ ?_; rotate_left; (focus (intro w h; go_simp; (try with_reducible rfl))); (try simp only [zqd, zqe, zqf])
 refine tl 19 87 ?_ ?_ ?_; rotate_left; (focus (intro w h; go_simp; (try with_reducible rfl))); (try simp only [zqd, zqe, zqf])
 refine tl 20 88 ?_ ?_ ?_; rotate_left; (focus (intro w hSw; go_simp; rw [HXor.out]; done)); (try simp only [zqd, zqe, zqf])
 refine tl 21 89 ?_ ?_ ?_; rotate_left; (focus (intro w h; go_simp; (try with_reducible rfl))); (try simp only [zqd, zqe, zqf])
 refine exL_at (i := 22) (by simp only [zqa, zqb, zqc]; rfl) (by kernel_rfl) rfl (by kernel_rfl) (fun K hK => ?_)
 go_wp2_with fail
 refine hK.out _ _ ?_
 clear hK K
 try simp only [zqd, zqe, zqf]
 refine wpAnyL_done (by kernel_rfl) ?_ _
 clear hS0
 obtain ⟨y5, hy5⟩ : ∃ z, (x5.setCell ⟨g5, i, none⟩ (.int .u8 (dn : Int))).drew = z := ⟨_, rfl⟩
 obtain ⟨f', hf'⟩ : ∃ z, f.set i (UInt8.ofNat dn) = z := ⟨_, rfl⟩
 have hd8 : (UInt8.ofNat dn).toNat = dn := by rw [UInt8.toNat_ofNat']; omega
 have hfl' : f'.length = fl := by rw [← hf', List.length_set]; exact HFl.out
 have HR5 : Hid (Rd y5 y5.heap.size (some ⟨g5, 0, none⟩) (u8s f')) := hide (by rw [← hy5, ← hf']; show Rd (x5.setCell _ _) (x5.setCell _ _).heap.size _ _; rw [World.size_setCell]; have h := Rd.set8 (w := x5) HRx.out (by rw [HFl.out]; exact hil) hcc (UInt8.ofNat dn); rw [hd8] at h; exact h)
 have hLg : L ≤ g5 := by rw [← HG5.out]; exact Nat.le_trans (Nat.le_of_lt HLw.out) HB3.out.size
 have HMs : Hid (Below y3.heap.size y3 y5) := hide (by rw [← hy5]; exact (HBb.out.setCell (p := ⟨g5, i, none⟩) (by show y3.heap.size ≤ g5; rw [HG5.out]; exact Nat.le_refl _) _).drew)
 have kq2 := run_string_of (P := Try.prog) y5 23 9 5 (some ⟨g5, 0, none⟩) cp _ f' Try.underlying23 Try.underlying5 Try.underlying9 HR5.out
 rw [hfl'] at kq2
 have HNone : Hid (readL f' = none) := hide (by obtain ⟨tg, bb, nn, hh⟩ := HWy.out.1; have hil' := hil; rw [← HFl.out] at hil'; rw [← hf']; subst hh; refine read_turn hil' (fun e => HDn.out ?_); have h1 := HCh.out; rw [List.getElem?_eq_getElem hil'] at h1; injection h1 with h1; rw [← HCn.out, ← h1, e, hd8])
 have HFL' : Hid (f'.length ≤ 1048605) := hide (by rw [hfl']; exact hflb)
 have HN5 := hide (HN3.out.next HMs.out)
 have HT5 := hide (HT3.out.next HMs.out)
 have HE51 := hide ((HN5.out.ptr HN3.out a).trans HY1.out)
 have HE52 := hide ((HN5.out.ptr HN3.out (1 - a)).trans HY2.out)
 have hB5 : B ≤ y5.heap.size := Nat.le_trans hBy HMs.out.size
 have HB5 : Hid (Below L w y5) := hide (HB3.out.trans (HMs.out.mono (Nat.le_trans (Nat.le_of_lt HLw.out) HB3.out.size)))
 have u0 : y5.cell? ⟨X, 0, none⟩ = some (.int .u8 (k : Int)) := (HMs.out.cell (p := ⟨X, 0, none⟩) hXy).trans s0'
 have hXy5 : X < y5.heap.size := Nat.lt_of_lt_of_le hXy HMs.out.size
 rw [hy5]
 have HF'' := hide hf'
 have HFLe := hide hfl'
 clear hy5 hf' hfl' t0 t2 hcc kq hfi s0' s2' hNt hN8t hN64 hfl0 hNi
 go_upto_region 18 with fail
 have HH := hide (none_less HD.out HNone.out HD3.out HL3.out)
 have hhr := hears_any y5 HN5.out a ha HT5.out.symm hB5 HE51.out f' (by have := HFL'.out; omega) (by omega) (by have := HD.out.d2.heard; have := HD.out.d2.glen; have := HD.out.p2; omega) (fun g' p' hg' hp' => by rw [HG.out.1] at hg'; rw [HP.out.2] at hp'; injection hg' with hg'; injection hp' with hp'; subst hg' hp'; exact HH.out.told) HH.out.code (fun g' hg' => by rw [HG.out.1] at hg'; injection hg' with hg'; subst hg'; have := HD.out.d2.glen; have := HD.out.p2; omega) (fun p' hp' => by rw [HP.out.2] at hp'; injection hp' with hp'; subst hp'; have := HD.out.p2; omega)
 have HHr := hide hhr
 clear hhr
 go_wp2_with fail
 refine HHr.out.mono ?_
 rintro e w9 hp9
 have HFin := hide (nst_heard HN5.out HE51.out HE52.out HWs3.out HP.out HG.out HH.out hp9)
 obtain ⟨rfl, -, -⟩ := hp9
 clear HHr
 have HFb := hide (HB5.out.trans HFin.out.2)
 go_wp2
 go_end0
 exact ⟨rfl, HFin.out.1, HFb.out⟩
end Go.Proofs.Ytigmmikijjcdiaa
