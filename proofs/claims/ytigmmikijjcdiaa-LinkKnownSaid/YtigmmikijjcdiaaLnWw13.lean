/- Lemmas: Lkr. -/
import Derived.Test.YtigmmikijjcdiaaProg
import Derived.Deep.DeepCutAuto
import Derived.Lib.Hide
import Derived.WalkSpells
import Derived.WalkMore
import Derived.IntWalk
import Derived.Test.YtigmmikijjcdiaaLnWw11
import Derived.Test.YtigmmikijjcdiaaLnWw12
set_option linter.unusedVariables false
set_option linter.unusedSimpArgs false
set_option maxRecDepth 100000
set_option maxHeartbeats 16000000
namespace Go.Proofs.Ytigmmikijjcdiaa
open Go.RowKit
theorem four_fin {w wf : World} {H : Nat} {T : TypeId} (z0 z1 z2 z3 v0 v1 v2 v3 : Value) (hw : w.heap.size ≤ H) (hz : wf.heap[H]? = some (.cells #[z0, z1, z2, z3] T)) (hb : Below w.heap.size w wf) :
  ∃ f, ((((wf.setCell ⟨H, 0, none⟩ v0).setCell ⟨H, 1, none⟩ v1).setCell ⟨H, 2, none⟩ v2).setCell ⟨H, 3, none⟩ v3) = f ∧ Below w.heap.size w f ∧ f.heap[H]? = some (.cells #[v0, v1, v2, v3] T) ∧ f.heap.size = wf.heap.size ∧ ∀ b, b ≠ H → f.heap[b]? = wf.heap[b]? := by
 have h1 := heap_setCell_same _ H 0 _ _ v0 hz
 have h2 := heap_setCell_same _ H 1 _ _ v1 h1
 have h3 := heap_setCell_same _ H 2 _ _ v2 h2
 have h4 := heap_setCell_same _ H 3 _ _ v3 h3
 refine ⟨_, rfl, (((hb.setCell (p := ⟨H, 0, none⟩) hw v0).setCell (p := ⟨H, 1, none⟩) hw v1).setCell (p := ⟨H, 2, none⟩) hw v2).setCell (p := ⟨H, 3, none⟩) hw v3, h4, by simp only [World.size_setCell], fun b hb' => ?_⟩
 iterate 4 rw [Below.heap_setCell _ _ _ _ hb']
theorem Rr.cellOf {T : TypeId} {w : World} {g k o : Nat} {bs : List UInt8} {s : Nat × Bool} {C : Array Value} {T' : TypeId} {fr : Nat × Nat} (h : Rr T w g bs s) (hk : w.heap[k]? = some (.cells C T' fr)) (hC : ∀ (i : Nat) (v : Value), C[i]? = some v → ∀ x, v ≠ .int .u8 x) (hg : g ≠ k) (u : Value) : Rr T (w.setCell ⟨k, o, none⟩ u) g bs s := by
 have hlt := h.lt
 have hb : Besides k w (w.setCell ⟨k, o, none⟩ u) := Besides.setCell u
 obtain ⟨A, c, h1, h2, h3⟩ := h
 refine ⟨A, c, (hb.block g hlt hg).trans h1, fun hn => ?_, h3⟩
 obtain ⟨b, off, e, hne, hlt2, hc⟩ := h2 hn
 have hbk : b ≠ k := by
  rintro rfl
  rcases bs with _ | ⟨x, xs⟩
  ·simp [u8s] at hn
  have h0 := hc 0 (.int .u8 x.toNat) (by simp [u8s])
  rw [cell_of_row _ _ _ _ _ _ hk] at h0
  exact hC _ _ h0 _ rfl
 exact ⟨b, off, e, hne, Nat.lt_of_lt_of_le hlt2 hb.size, fun j u hu => (hb.cell (p := ⟨b, off + j, none⟩) hlt2 hbk).trans (hc j u hu)⟩
theorem rd_drop {w : World} {B b off : Nat} {xs : List Value} (h : Rd w B (some ⟨b, off, none⟩) xs) (k : Nat) : Rd w B (some ⟨b, off + k, none⟩) (xs.drop k) := fun hn => by
 obtain ⟨b', off', e, hb, hc⟩ := h (fun e => by subst e; simp at hn)
 injection e with e
 injection e with e1 e2
 subst e1 e2
 refine ⟨b, off + k, rfl, hb, fun j u hu => ?_⟩
 rw [List.getElem?_drop] at hu
 rw [Nat.add_assoc]
 exact hc _ _ hu
theorem told_no (a b n : Int) (A : Option Addr) (l c : Nat) : ∀ (i : Nat) (v : Value), (#[Value.int .i64 a, .int .i64 b, .int .i64 n, .slice A l c] : Array Value)[i]? = some v → ∀ x, v ≠ .int .u8 x := by
 intro i v hv x e
 subst e
 rcases i with _ | _ | _ | _ | i <;> simp at hv
theorem w64_cases {x : Nat} {a : Int} (h : x < 18446744073709551616) (ha : wrap64 (x : Int) = a) : (a = (x : Int) ∧ x < 9223372036854775808) ∨ (a < 0 ∧ 9223372036854775808 ≤ x) := by
 unfold wrap64 at ha
 by_cases hx : x < 9223372036854775808
 ·exact .inl ⟨by omega, hx⟩
 ·exact .inr ⟨by omega, by omega⟩
theorem own_same {w w' : World} {b size n : Nat} {e : TypeId} {v : Value} {xs : List Value} (h : w.ownsRow b e size v n xs) (hk : ∀ g, v.ownBlock = some g → w'.heap[g]? = w.heap[g]?) : w'.ownsRow b e size v n xs := by
 refine ⟨h.1, h.2.imp id ?_⟩
 rintro ⟨g, cap, cur, h1, h2, h3, h4⟩
 exact ⟨g, cap, cur, h1, h2, by rw [hk g (by rw [h1]; rfl)]; exact h3, h4⟩
theorem nx_ok {G : List UInt8} {p k : Nat} (h : p + k ≤ G.length) : nx G (p, false) (k : Int) = ((G.drop p).take k, (p + k, false)) := by
 unfold nx
 rw [if_neg (by simp; omega)]
 simp
theorem nx_bad {G : List UInt8} {p k : Nat} (h : G.length < p + k) : nx G (p, false) (k : Int) = ([], (G.length, true)) := by
 unfold nx
 rw [if_pos (by right; right; dsimp only; omega)]
theorem nx_dead {G : List UInt8} {p : Nat} {k : Int} : nx G (p, true) k = ([], (G.length, true)) := by
 unfold nx
 rw [if_pos (.inl rfl)]
def RdPost (w : World) (f : BL) (e : Ending) (w' : World) : Prop := Below w.heap.size w w' ∧ match readL f with
 | none => e = .returned (.tuple #[.agg #[.int .i64 0, .int .i64 0, .int .i64 0, .slice none 0 0], .bool false])
 | some (ep, h, n, b) => ∃ A c, e = .returned (.tuple #[.agg #[.int .i64 (ep : Int), .int .i64 (h : Int), .int .i64 (n : Int), .slice A b.length c], .bool true]) ∧ w'.ownsRow w.heap.size 5 1 (.slice A b.length c) b.length (u8s b)
def RdMid (w : World) (r : Nat) (G : BL) (tg : Nat) (a b : Int) (wc : World) : Prop := ∃ (N : Int) (A3 : Option Addr) (bb : BL) (m3 c3 p : Nat) (bad : Bool), bb.length = m3 ∧ wc.heap[w.heap.size]? = some (.cells #[.int .i64 a, .int .i64 b, .int .i64 N, .slice A3 m3 c3] 71) ∧ Rr 107 wc r G (p, bad) ∧ Below w.heap.size w wc ∧
 wc.ownsRow (w.heap.size + 1) 5 1 (.slice A3 m3 c3) m3 (u8s bb) ∧ w.heap.size < r ∧
 ((tg = 1 ∧ 25 ≤ G.length ∧ N = wrap64 (num ((G.drop 17).take 8) : Nat) ∧ bb = G.drop 25 ∧ p = G.length ∧ bad = false) ∨ (tg = 1 ∧ G.length < 25 ∧ N = 0) ∨ (tg ≠ 1 ∧ N = 0 ∧ bb = [] ∧ p = 17 ∧ bad = false))
theorem read_any (w : World) (A : Option Addr) (f : BL) (c : Nat) (hR : Rd w w.heap.size A (u8s f)) (hf : f.length ≤ 3000000) (hlc : f.length ≤ c) (hc : c ≤ 9223372036854775807) :
  Calls Try.prog 31 #[.slice A f.length c] w (RdPost w f) := by
 obtain ⟨m, hm⟩ : ∃ m, f.length = m := ⟨_, rfl⟩
 rw [hm] at hlc hf ⊢
 have HM := hide hm
 obtain ⟨v0, hu⟩ : ∃ u, w.alloc (.cells #[.int .i64 0, .int .i64 0, .int .i64 0, .slice none 0 0] 71) = u := ⟨_, rfl⟩
 have hzl : w.heap.size < v0.heap.size := by rw [← hu]; simp
 have HB0 := hide (show Below w.heap.size w v0 by rw [← hu]; exact (Below.refl _ _).alloc (Nat.le_refl _) _)
 have M0 := hide (show v0.heap[w.heap.size]? = some (.cells #[.int .i64 0, .int .i64 0, .int .i64 0, .slice none 0 0] 71) by rw [← hu]; exact heap_alloc_last _ _)
 have HU := hide hu
 have HR := hide hR
 clear hu hR hm
 by_cases hm21 : m < 21
 ·have HNo : Hid (readL f = none) := hide (by unfold readL; rw [if_pos (by rw [HM.out]; exact hm21)])
  have h21 : (m : Int) < 21 := by omega
  have ZW := M0
  have HBf := HB0
  go_enter Try.func31, Try.ntmps31
  go_upto_region 1 with fail
  rw [HU.out]
  have zc0 : v0.cell? ⟨w.heap.size, 0, none⟩ = some (.int .i64 0) := cell_of_row _ _ 0 _ _ _ ZW.out
  have zcf0 : v0.frozen? ⟨w.heap.size, 0, none⟩ = false := frozen_of_row _ _ 0 _ _ ZW.out
  have zc1 : v0.cell? ⟨w.heap.size, 1, none⟩ = some (.int .i64 0) := cell_of_row _ _ 1 _ _ _ ZW.out
  have zcf1 : v0.frozen? ⟨w.heap.size, 1, none⟩ = false := frozen_of_row _ _ 1 _ _ ZW.out
  have zc2 : v0.cell? ⟨w.heap.size, 2, none⟩ = some (.int .i64 0) := cell_of_row _ _ 2 _ _ _ ZW.out
  have zcf2 : v0.frozen? ⟨w.heap.size, 2, none⟩ = false := frozen_of_row _ _ 2 _ _ ZW.out
  have zc3 : v0.cell? ⟨w.heap.size, 3, none⟩ = some (.slice none 0 0) := cell_of_row _ _ 3 _ _ _ ZW.out
  have zcf3 : v0.frozen? ⟨w.heap.size, 3, none⟩ = false := frozen_of_row _ _ 3 _ _ ZW.out
  have HFin := hide (four_fin (.int .i64 0) (.int .i64 0) (.int .i64 0) (.slice none 0 0) (.int .i64 0) (.int .i64 0) (.int .i64 0) (.slice none 0 0) (Nat.le_refl w.heap.size) ZW.out HBf.out)
  go_wp2
  obtain ⟨f9, hf, hfB, h6, hfs, hfo⟩ := HFin.out
  rw [hf]
  have y0 : f9.cell? ⟨w.heap.size, 0, none⟩ = some (.int .i64 0) := cell_of_row _ _ 0 _ _ _ h6
  have y1 : f9.cell? ⟨w.heap.size, 1, none⟩ = some (.int .i64 0) := cell_of_row _ _ 1 _ _ _ h6
  have y2 : f9.cell? ⟨w.heap.size, 2, none⟩ = some (.int .i64 0) := cell_of_row _ _ 2 _ _ _ h6
  have y3 : f9.cell? ⟨w.heap.size, 3, none⟩ = some (.slice none 0 0) := cell_of_row _ _ 3 _ _ _ h6
  exact bodyPost_ret (v := .tuple #[.agg #[.int .i64 0, .int .i64 0, .int .i64 0, .slice none 0 0], .bool false]) (by simp [results, Try.results31, go_sem, y0, y1, y2, y3]) rfl ⟨hfB, by rw [HNo.out]⟩
 have h21 : ¬ (m : Int) < 21 := by omega
 obtain ⟨q, hq⟩ : ∃ q, m = q + 4 := ⟨m - 4, by omega⟩
 have hq17 : 17 ≤ q := by omega
 have e1 : (m : Int) - 4 = (q : Int) := by omega
 have e2 : IntKind.i64.wrap (q : Int) = (q : Int) := IntWalk.i64_in _ (by omega)
 have hqm : q ≤ m := by omega
 have hqm4 : m - q = 4 := by omega
 have HQ := hide hq
 have hqc : (q : Int) < (c : Int) := by omega
 have hqmI : (q : Int) ≤ (m : Int) := by omega
 have hmc : (m : Int) ≤ (c : Int) := by omega
 have HQ4 := hide hqm4
 obtain ⟨b0, off, rfl, hbl, -⟩ := HR.out.at_ (k := 0) (by rw [u8s_len, HM.out]; omega)
 obtain ⟨G, hG⟩ : ∃ G, f.take q = G := ⟨_, rfl⟩
 have hGl : G.length = q := by rw [← hG, List.length_take, HM.out]; omega
 have HG := hide hG
 have HGl := hide hGl
 have HRG : Hid (Rd w w.heap.size (some ⟨b0, off, none⟩) (u8s G)) := hide (by rw [← hG, ← u8s_take]; exact HR.out.take q)
 clear hG hGl hq hqm4
 have hopen := open_any v0 (some ⟨b0, off, none⟩) G c ((HRG.out.below HB0.out).more (Nat.le_of_lt hzl)) (by rw [HGl.out]; omega)
 rw [HGl.out] at hopen
 have HOp := hide hopen
 clear hopen
 go_enter Try.func31, Try.ntmps31
 go_upto_region 1 with fail
 rw [HU.out]
 clear HU
 go_upto_region 3 with fail
 go_wp2_with fail
 refine HOp.out.mono ?_
 rintro e w1 ⟨⟨r, rfl, hr0, hrr⟩, hb1⟩
 have HRr := hide hrr
 have HB1 := hide (HB0.out.trans (hb1.mono (Nat.le_of_lt hzl)))
 have hrw : w.heap.size < r := by omega
 have Z1 : Hid (w1.heap[w.heap.size]? = some (.cells #[.int .i64 0, .int .i64 0, .int .i64 0, .slice none 0 0] 71)) := hide ((hb1.block _ hzl).trans M0.out)
 have s1 : v0.heap.size ≤ w1.heap.size := hb1.size
 have hrne : r ≠ w.heap.size := by omega
 clear hrr hb1 HOp M0 HB0
 go_wp2_with fail
 refine (get8 w1 r G (0, false) HRr.out).mono ?_
 rintro e w2 ⟨rfl, hrr, hb2⟩
 have hn8 := nx_ok (G := G) (p := 0) (k := 1) (by rw [HGl.out]; omega)
 have hn8' : nx G (0, false) 1 = ((G.drop 0).take 1, (0 + 1, false)) := hn8
 rw [hn8'] at hrr ⊢
 dsimp only at hrr ⊢
 rw [List.drop_zero]
 obtain ⟨tg, htg⟩ : ∃ t, num (G.take 1) = t := ⟨_, rfl⟩
 rw [htg]
 have htl : tg < 256 := by rw [← htg]; have := num_lt (G.take 1); rw [List.length_take, HGl.out, show min 1 q = 1 by omega] at this; exact this
 have HTg := hide htg
 have HRr := hide hrr
 have HB2 := hide (HB1.out.trans (hb2.below (Nat.le_of_lt hrw) (by have := HB1.out.size; omega)))
 have Z2 : Hid (w2.heap[w.heap.size]? = some (.cells #[.int .i64 0, .int .i64 0, .int .i64 0, .slice none 0 0] 71)) := hide ((hb2.block _ (by omega) hrne.symm).trans Z1.out)
 have s2 : v0.heap.size ≤ w2.heap.size := Nat.le_trans s1 hb2.size
 clear hrr hb2 hn8 hn8' htg Z1 HB1
 go_wp2_with fail
 refine (get64 w2 r G (1, false) HRr.out).mono ?_
 rintro e w3 ⟨rfl, hrr, hb2⟩
 have hn8 := nx_ok (G := G) (p := 1) (k := 8) (by rw [HGl.out]; omega)
 have hn8' : nx G (1, false) 8 = ((G.drop 1).take 8, (1 + 8, false)) := hn8
 rw [hn8'] at hrr ⊢
 dsimp only at hrr ⊢
 obtain ⟨ep, hep⟩ : ∃ t, num ((G.drop 1).take 8) = t := ⟨_, rfl⟩
 rw [hep]
 have Hepl := hide (show ep < 18446744073709551616 by rw [← hep]; have := num_lt ((G.drop 1).take 8); rw [List.length_take, List.length_drop, HGl.out, show min 8 (q - 1) = 8 by omega] at this; exact this)
 have Hep := hide hep
 have HRr := hide hrr
 have HB3 := hide (HB2.out.trans (hb2.below (Nat.le_of_lt hrw) (by have := HB2.out.size; omega)))
 have Z3 := hide ((hb2.block _ (by omega) hrne.symm).trans Z2.out)
 have s3 : v0.heap.size ≤ w3.heap.size := Nat.le_trans s2 hb2.size
 clear hrr hb2 hn8 hn8' hep Z2 HB2
 go_wp2_with fail
 refine (get64 w3 r G (9, false) HRr.out).mono ?_
 rintro e w4 ⟨rfl, hrr, hb2⟩
 have hn8 := nx_ok (G := G) (p := 9) (k := 8) (by rw [HGl.out]; omega)
 have hn8' : nx G (9, false) 8 = ((G.drop 9).take 8, (9 + 8, false)) := hn8
 rw [hn8'] at hrr ⊢
 dsimp only at hrr ⊢
 obtain ⟨hh, hhh⟩ : ∃ t, num ((G.drop 9).take 8) = t := ⟨_, rfl⟩
 rw [hhh]
 have Hhhl := hide (show hh < 18446744073709551616 by rw [← hhh]; have := num_lt ((G.drop 9).take 8); rw [List.length_take, List.length_drop, HGl.out, show min 8 (q - 9) = 8 by omega] at this; exact this)
 have Hhh := hide hhh
 have HRr := hide hrr
 have HB4 := hide (HB3.out.trans (hb2.below (Nat.le_of_lt hrw) (by have := HB3.out.size; omega)))
 have Z4 := hide ((hb2.block _ (by omega) hrne.symm).trans Z3.out)
 have s4 : v0.heap.size ≤ w4.heap.size := Nat.le_trans s3 hb2.size
 clear hrr hb2 hn8 hn8' hhh Z3 HB3
 obtain ⟨a, ha⟩ : ∃ x, wrap64 (ep : Int) = x := ⟨_, rfl⟩
 obtain ⟨b, hb⟩ : ∃ x, wrap64 (hh : Int) = x := ⟨_, rfl⟩
 have HA := hide ha
 have HBb := hide hb
 have ZW := Z4
 have zc0 : w4.cell? ⟨w.heap.size, 0, none⟩ = some (.int .i64 0) := cell_of_row _ _ 0 _ _ _ ZW.out
 have zcf0 : w4.frozen? ⟨w.heap.size, 0, none⟩ = false := frozen_of_row _ _ 0 _ _ ZW.out
 have zc1 : w4.cell? ⟨w.heap.size, 1, none⟩ = some (.int .i64 0) := cell_of_row _ _ 1 _ _ _ ZW.out
 have zcf1 : w4.frozen? ⟨w.heap.size, 1, none⟩ = false := frozen_of_row _ _ 1 _ _ ZW.out
 have zc2 : w4.cell? ⟨w.heap.size, 2, none⟩ = some (.int .i64 0) := cell_of_row _ _ 2 _ _ _ ZW.out
 have zcf2 : w4.frozen? ⟨w.heap.size, 2, none⟩ = false := frozen_of_row _ _ 2 _ _ ZW.out
 have zc3 : w4.cell? ⟨w.heap.size, 3, none⟩ = some (.slice none 0 0) := cell_of_row _ _ 3 _ _ _ ZW.out
 have zcf3 : w4.frozen? ⟨w.heap.size, 3, none⟩ = false := frozen_of_row _ _ 3 _ _ ZW.out
 have hH4 : w.heap.size < w4.heap.size := by omega
 go_upto_region 6 with fail
 obtain ⟨w6, hw6⟩ : ∃ z, (w4.setCell ⟨w.heap.size, 0, none⟩ (.int .i64 a)).setCell ⟨w.heap.size, 1, none⟩ (.int .i64 b) = z := ⟨_, rfl⟩
 have z5 := heap_setCell_same _ w.heap.size 0 _ _ (.int .i64 a) Z4.out
 have z6 := heap_setCell_same _ w.heap.size 1 _ _ (.int .i64 b) z5
 have HRr : Hid (Rr 107 w6 r G (17, false)) := hide (by rw [← hw6]; exact (HRr.out.cellOf Z4.out (told_no 0 0 0 none 0 0) hrne _).cellOf z5 (told_no a 0 0 none 0 0) hrne _)
 have HB6 := hide (show Below w.heap.size w w6 by rw [← hw6]; exact (HB4.out.setCell (p := ⟨w.heap.size, 0, none⟩) (Nat.le_refl _) _).setCell (p := ⟨w.heap.size, 1, none⟩) (Nat.le_refl _) _)
 have Z6 := hide (show w6.heap[w.heap.size]? = some (.cells #[.int .i64 a, .int .i64 b, .int .i64 0, .slice none 0 0] 71) by rw [← hw6]; exact z6)
 have s6 : v0.heap.size ≤ w6.heap.size := by rw [← hw6]; simpa using s4
 rw [hw6]
 have hH6 : w.heap.size < w6.heap.size := by omega
 clear hw6 z5 z6 HB4 Z4 ZW ha hb zc0 zcf0 zc1 zcf1 zc2 zcf2 zc3 zcf3
 go_upto_if 29 with fail
 go_cut [] (fun wc => Hid (RdMid w r G tg a b wc))
 case first =>
  by_cases htg1 : tg = 1
  rotate_left
  ·have ht1 : ((tg : Int) == 1) = false := by simp; omega
   have HFin : Hid (RdMid w r G tg a b w6) := hide (⟨0, none, [], 0, 0, 17, false, rfl, Z6.out, HRr.out, HB6.out, World.ownsRow_nil _ _ _ _, hrw, .inr (.inr ⟨htg1, rfl, rfl, rfl, rfl⟩)⟩)
   go_wp2
   go_meet
   case rel => exact HFin
  have ht1 : ((tg : Int) == 1) = true := by simp; omega
  by_cases h25 : 25 ≤ q
  ·go_wp2_with fail
   refine (get64 w6 r G (17, false) HRr.out).mono ?_
   rintro e w7 ⟨rfl, hrr, hb2⟩
   have hn8 := nx_ok (G := G) (p := 17) (k := 8) (by rw [HGl.out]; omega)
   have hn8' : nx G (17, false) 8 = ((G.drop 17).take 8, (17 + 8, false)) := hn8
   rw [hn8'] at hrr ⊢
   dsimp only at hrr ⊢
   obtain ⟨nn, hnn⟩ : ∃ t, num ((G.drop 17).take 8) = t := ⟨_, rfl⟩
   rw [hnn]
   have HNn := hide hnn
   obtain ⟨N, hN⟩ : ∃ x, wrap64 (nn : Int) = x := ⟨_, rfl⟩
   have HNN := hide hN
   have HRr := hide hrr
   have HB7 := hide (HB6.out.trans (hb2.below (Nat.le_of_lt hrw) (by omega)))
   have Z7 := hide ((hb2.block _ hH6 hrne.symm).trans Z6.out)
   have s7 : v0.heap.size ≤ w7.heap.size := Nat.le_trans s6 hb2.size
   have hH7 : w.heap.size < w7.heap.size := by omega
   clear hrr hb2 hn8 hn8' hnn
   have k2 : w7.cell? ⟨w.heap.size, 2, none⟩ = some (.int .i64 0) := cell_of_row _ _ 2 _ _ _ Z7.out
   have kf2 : w7.frozen? ⟨w.heap.size, 2, none⟩ = false := frozen_of_row _ _ 2 _ _ Z7.out
   go_upto_region 8 with fail
   obtain ⟨w8, hw8⟩ : ∃ z, w7.setCell ⟨w.heap.size, 2, none⟩ (.int .i64 N) = z := ⟨_, rfl⟩
   have Z8 := hide (show w8.heap[w.heap.size]? = some (.cells #[.int .i64 a, .int .i64 b, .int .i64 N, .slice none 0 0] 71) by rw [← hw8]; exact heap_setCell_same _ w.heap.size 2 _ _ _ Z7.out)
   have HB8 := hide (show Below w.heap.size w w8 by rw [← hw8]; exact HB7.out.setCell (p := ⟨w.heap.size, 2, none⟩) (Nat.le_refl _) _)
   have s8 : v0.heap.size ≤ w8.heap.size := by rw [← hw8]; simpa using s7
   have HRr : Hid (Rr 107 w8 r G (25, false)) := hide (by rw [← hw8]; exact HRr.out.cellOf Z7.out (told_no a b 0 none 0 0) hrne _)
   rw [hw8]
   have hH8 : w.heap.size < w8.heap.size := by omega
   clear hw8 k2 kf2 Z7 HB7 hN
   go_wp2_with fail
   refine (left_any w8 r G _ HRr.out).mono ?_
   rintro e w9 ⟨rfl, hb2⟩
   dsimp only
   rw [HGl.out]
   obtain ⟨lf, hlf⟩ : ∃ x : Nat, x = q - 25 := ⟨_, rfl⟩
   rw [show (q : Int) - ((25 : Nat) : Int) = (lf : Int) by omega]
   have HLf := hide hlf
   have hlfq : lf ≤ q := by omega
   clear hlf
   have HRr := hide (HRr.out.below hb2)
   have HB9 := hide (HB8.out.trans (hb2.mono (by omega)))
   have Z9 := hide ((hb2.block _ hH8).trans Z8.out)
   have s9 : v0.heap.size ≤ w9.heap.size := Nat.le_trans s8 hb2.size
   clear hb2 Z8 HB8
   go_wp2_with fail
   refine (get_raw w9 r G _ HRr.out (lf : Nat) (by omega) (by omega)).mono ?_
   rintro e wa ⟨⟨A3, c3, rfl, hown⟩, hrr, hb2⟩
   have hnr := nx_ok (G := G) (p := 25) (k := lf) (by rw [HGl.out]; have := HLf.out; omega)
   rw [hnr] at hrr hown ⊢
   dsimp only at hrr hown ⊢
   rw [List.take_of_length_le (by rw [List.length_drop, HGl.out]; have := HLf.out; omega)] at hown ⊢
   have hbl3 : (G.drop 25).length = lf := by rw [List.length_drop, HGl.out]; exact HLf.out.symm
   rw [hbl3] at hown ⊢
   have HRr := hide hrr
   have HOn := hide (own_base hown (show w.heap.size + 1 ≤ w9.heap.size by omega))
   have HBa := hide (HB9.out.trans (hb2.below (Nat.le_of_lt hrw) (by omega)))
   have Za := hide ((hb2.block _ (by omega) hrne.symm).trans Z9.out)
   have sa : v0.heap.size ≤ wa.heap.size := Nat.le_trans s9 hb2.size
   have hHa : w.heap.size < wa.heap.size := by omega
   clear hrr hb2 hnr hown Z9 HB9
   have k3 : wa.cell? ⟨w.heap.size, 3, none⟩ = some (.slice none 0 0) := cell_of_row _ _ 3 _ _ _ Za.out
   have kf3 : wa.frozen? ⟨w.heap.size, 3, none⟩ = false := frozen_of_row _ _ 3 _ _ Za.out
   have HFin : Hid (RdMid w r G tg a b (wa.setCell ⟨w.heap.size, 3, none⟩ (.slice A3 lf c3))) := hide (⟨N, A3, G.drop 25, lf, c3, _, _, hbl3, heap_setCell_same _ w.heap.size 3 _ _ _ Za.out, HRr.out.cellOf Za.out (told_no a b N none 0 0) hrne _, HBa.out.setCell (p := ⟨w.heap.size, 3, none⟩) (Nat.le_refl _) _, ownsRow_setCell_below HOn.out (a := ⟨w.heap.size, 3, none⟩) (Nat.lt_succ_self _) _, hrw, (.inl ⟨htg1, by rw [HGl.out]; omega, by rw [HNn.out]; exact HNN.out.symm, rfl, by rw [HGl.out]; have := HLf.out; omega, rfl⟩)⟩)
   go_wp2
   go_meet
   case rel => exact HFin
  ·go_wp2_with fail
   refine (get64 w6 r G (17, false) HRr.out).mono ?_
   rintro e w7 ⟨rfl, hrr, hb2⟩
   have hn8 := nx_bad (G := G) (p := 17) (k := 8) (by rw [HGl.out]; omega)
   have hn8' : nx G (17, false) 8 = ([], (G.length, true)) := hn8
   rw [hn8'] at hrr ⊢
   dsimp only at hrr ⊢
   rw [show num [] = 0 from rfl]
   have HRr := hide hrr
   have HB7 := hide (HB6.out.trans (hb2.below (Nat.le_of_lt hrw) (by omega)))
   have Z7 := hide ((hb2.block _ hH6 hrne.symm).trans Z6.out)
   have s7 : v0.heap.size ≤ w7.heap.size := Nat.le_trans s6 hb2.size
   have hH7 : w.heap.size < w7.heap.size := by omega
   clear hrr hb2 hn8 hn8'
   have k2 : w7.cell? ⟨w.heap.size, 2, none⟩ = some (.int .i64 0) := cell_of_row _ _ 2 _ _ _ Z7.out
   have kf2 : w7.frozen? ⟨w.heap.size, 2, none⟩ = false := frozen_of_row _ _ 2 _ _ Z7.out
   go_upto_region 8 with fail
   obtain ⟨w8, hw8⟩ : ∃ z, w7.setCell ⟨w.heap.size, 2, none⟩ (.int .i64 0) = z := ⟨_, rfl⟩
   have Z8 := hide (show w8.heap[w.heap.size]? = some (.cells #[.int .i64 a, .int .i64 b, .int .i64 0, .slice none 0 0] 71) by rw [← hw8]; exact heap_setCell_same _ w.heap.size 2 _ _ _ Z7.out)
   have HB8 := hide (show Below w.heap.size w w8 by rw [← hw8]; exact HB7.out.setCell (p := ⟨w.heap.size, 2, none⟩) (Nat.le_refl _) _)
   have s8 : v0.heap.size ≤ w8.heap.size := by rw [← hw8]; simpa using s7
   have HRr : Hid (Rr 107 w8 r G (G.length, true)) := hide (by rw [← hw8]; exact HRr.out.cellOf Z7.out (told_no a b 0 none 0 0) hrne _)
   rw [hw8]
   have hH8 : w.heap.size < w8.heap.size := by omega
   clear hw8 k2 kf2 Z7 HB7
   go_wp2_with fail
   refine (left_any w8 r G _ HRr.out).mono ?_
   rintro e w9 ⟨rfl, hb2⟩
   dsimp only
   rw [HGl.out]
   rw [show (q : Int) - (q : Int) = ((0 : Nat) : Int) by omega]
   have HRr := hide (HRr.out.below hb2)
   have HB9 := hide (HB8.out.trans (hb2.mono (by omega)))
   have Z9 := hide ((hb2.block _ hH8).trans Z8.out)
   have s9 : v0.heap.size ≤ w9.heap.size := Nat.le_trans s8 hb2.size
   clear hb2 Z8 HB8
   go_wp2_with fail
   refine (get_raw w9 r G _ HRr.out (0 : Nat) (by omega) (by omega)).mono ?_
   rintro e wa ⟨⟨A3, c3, rfl, hown⟩, hrr, hb2⟩
   have hnr := nx_dead (G := G) (p := G.length) (k := ((0 : Nat) : Int))
   rw [hnr] at hrr hown ⊢
   dsimp only at hrr hown ⊢
   have HRr := hide hrr
   have HOn := hide (own_base hown (show w.heap.size + 1 ≤ w9.heap.size by omega))
   have HBa := hide (HB9.out.trans (hb2.below (Nat.le_of_lt hrw) (by omega)))
   have Za := hide ((hb2.block _ (by omega) hrne.symm).trans Z9.out)
   have sa : v0.heap.size ≤ wa.heap.size := Nat.le_trans s9 hb2.size
   have hHa : w.heap.size < wa.heap.size := by omega
   clear hrr hb2 hnr hown Z9 HB9
   simp only [List.length_nil]
   have k3 : wa.cell? ⟨w.heap.size, 3, none⟩ = some (.slice none 0 0) := cell_of_row _ _ 3 _ _ _ Za.out
   have kf3 : wa.frozen? ⟨w.heap.size, 3, none⟩ = false := frozen_of_row _ _ 3 _ _ Za.out
   have HFin : Hid (RdMid w r G tg a b (wa.setCell ⟨w.heap.size, 3, none⟩ (.slice A3 0 c3))) := hide (⟨0, A3, [], 0, c3, _, _, rfl, heap_setCell_same _ w.heap.size 3 _ _ _ Za.out, HRr.out.cellOf Za.out (told_no a b 0 none 0 0) hrne _, HBa.out.setCell (p := ⟨w.heap.size, 3, none⟩) (Nat.le_refl _) _, ownsRow_setCell_below HOn.out (a := ⟨w.heap.size, 3, none⟩) (Nat.lt_succ_self _) _, hrw, (.inr (.inl ⟨htg1, by rw [HGl.out]; omega, rfl⟩))⟩)
   go_wp2
   go_meet
   case rel => exact HFin
 case rest =>
  skip
  obtain ⟨N, A3, bb, m3, c3, p, bad, hm3, hZ, hr, hbc, hown, -, hfacts⟩ := hcut.out
  clear hcut HRr Z6 HB6 s6 hH6
  have HM3 := hide hm3
  have HZ := hide hZ
  have HRr := hide hr
  have HBc := hide hbc
  have HOn := hide hown
  have HFa := hide hfacts
  have hHc : w.heap.size < wc.heap.size := (Array.getElem?_eq_some_iff.1 hZ).1
  have swc : w.heap.size ≤ wc.heap.size := Nat.le_of_lt hHc
  have hrc : r < wc.heap.size := hr.lt
  have HOlt : Hid (∀ g, (Value.slice A3 m3 c3).ownBlock = some g → g < wc.heap.size) := hide (fun g hg => (hown.lt g hg).2)
  clear hm3 hZ hr hbc hown hfacts
  obtain ⟨F4, hF4⟩ : ∃ F, f.drop q = F := ⟨_, rfl⟩
  have hF4l : F4.length = m - q := by rw [← hF4, List.length_drop, HM.out]
  have HF4 := hide hF4
  have HF4l := hide hF4l
  have HRF : Hid (Rd wc wc.heap.size (some ⟨b0, off + q, none⟩) (u8s F4)) := hide (by rw [← hF4, ← u8s_drop]; exact rd_drop ((HR.out.below HBc.out).more swc) q)
  have hopen := open_any wc (some ⟨b0, off + q, none⟩) F4 (c - q) HRF.out (by rw [HF4l.out]; omega)
  rw [hF4l] at hopen
  have HOp := hide hopen
  clear hopen hF4 hF4l
  go_wp2_with fail
  refine HOp.out.mono ?_
  rintro e w9 ⟨⟨r2, rfl, hr2, hrr2⟩, hb9⟩
  have HR2 := hide hrr2
  have HRr := hide (HRr.out.below hb9)
  have HB9 := hide (HBc.out.trans (hb9.mono swc))
  have HZ9 := hide ((hb9.block _ hHc).trans HZ.out)
  have hs9 : wc.heap.size ≤ w9.heap.size := hb9.size
  have HOn := hide (own_below HOn.out hb9 (fun g hg => (HOn.out.lt g hg).2))
  have hrr2ne : r ≠ r2 := by omega
  have hH9 : w.heap.size < w9.heap.size := by omega
  have hHr2 : w.heap.size ≠ r2 := by omega
  clear hrr2 hb9 HOp HZ HBc
  have k0 : w9.cell? ⟨w.heap.size, 0, none⟩ = some (.int .i64 a) := cell_of_row _ _ 0 _ _ _ HZ9.out
  have k1 : w9.cell? ⟨w.heap.size, 1, none⟩ = some (.int .i64 b) := cell_of_row _ _ 1 _ _ _ HZ9.out
  have k2 : w9.cell? ⟨w.heap.size, 2, none⟩ = some (.int .i64 N) := cell_of_row _ _ 2 _ _ _ HZ9.out
  have k3 : w9.cell? ⟨w.heap.size, 3, none⟩ = some (.slice A3 m3 c3) := cell_of_row _ _ 3 _ _ _ HZ9.out
  obtain ⟨rt, hrt⟩ : ∃ x, (decide (tg = 2) || (decide (tg = 1) && decide (1 ≤ N))) = x := ⟨_, rfl⟩
  have HRT := hide hrt
  clear hrt
  have hqcN : q ≤ c := by omega
  have HOr2 : Hid (∀ g, (Value.slice A3 m3 c3).ownBlock = some g → g < r2) := hide (fun g hg => Nat.lt_of_lt_of_le (HOlt.out g hg) hr2)
  go_upto_region 10 with fail
  go_cut [7] (fun v7 wx => v7 = .bool rt ∧ wx = w9)
  case first =>
   by_cases t2 : tg = 2
   ·have q1 : ((tg : Int) == 2) = true := by simp; omega
    have q2 : ((tg : Int) == 1) = false := by simp; omega
    have hrt : rt = true := by rw [← HRT.out]; simp [t2]
    clear t2
    go_wp2
    go_meet
    case rel => first | exact ⟨by rw [hrt], by first | rfl | trivial⟩ | ((repeat apply Exists.intro); exact ⟨⟨by rw [hrt], by first | rfl | trivial⟩, rfl⟩)
   ·have q1 : ((tg : Int) == 2) = false := by simp; omega
    by_cases t1 : tg = 1
    ·have q2 : ((tg : Int) == 1) = true := by simp; omega
     by_cases tn : 1 ≤ N
     ·have dtn : decide (1 ≤ N) = true := decide_eq_true tn
      have hrt : rt = true := by rw [← HRT.out]; simp [t1, tn]
      clear t1
      go_wp2
      go_meet
      case rel => first | exact ⟨by rw [hrt], by first | rfl | trivial⟩ | ((repeat apply Exists.intro); exact ⟨⟨by rw [hrt], by first | rfl | trivial⟩, rfl⟩)
     ·have dtn : decide (1 ≤ N) = false := decide_eq_false tn
      have hrt : rt = false := by rw [← HRT.out]; simp [t1, tn]
      clear t1
      go_wp2
      go_meet
      case rel => first | exact ⟨by rw [hrt], by first | rfl | trivial⟩ | ((repeat apply Exists.intro); exact ⟨⟨by rw [hrt], by first | rfl | trivial⟩, rfl⟩)
    ·have q2 : ((tg : Int) == 1) = false := by simp; omega
     have hrt : rt = false := by rw [← HRT.out]; simp [t1, t2]
     go_wp2
     go_meet
     case rel => first | exact ⟨by rw [hrt], by first | rfl | trivial⟩ | ((repeat apply Exists.intro); exact ⟨⟨by rw [hrt], by first | rfl | trivial⟩, rfl⟩)
  case rest =>
   obtain ⟨rfl, rfl⟩ := hcut
   obtain ⟨w9, rfl⟩ : ∃ z : World, z = wc := ⟨_, rfl⟩
   obtain ⟨n, hn⟩ : ∃ x, num ((G.drop 17).take 8) = x := ⟨_, rfl⟩
   obtain ⟨sm, hsm⟩ : ∃ x, crcm.sum G = x := ⟨_, rfl⟩
   obtain ⟨sm2, hsm2⟩ : ∃ x, num F4 = x := ⟨_, rfl⟩
   have hF4t : f.drop (f.length - 4) = F4 := by rw [HM.out, show m - 4 = q by have := HQ.out; omega]; exact HF4.out
   have hGt : f.take (f.length - 4) = G := by rw [HM.out, show m - 4 = q by have := HQ.out; omega]; exact HG.out
   have hd25 : (G.drop 25).length = q - 25 := by rw [List.length_drop, HGl.out]
   have HRD : Hid (readL f = if sm2 ≠ sm ∨ 4611686018427387904 < ep ∨ 4611686018427387904 < hh then none else if tg = 2 then (if q = 17 then some (ep, hh, 0, []) else none) else if tg = 1 then (if 25 ≤ q ∧ 1 ≤ n ∧ n ≤ 4611686018427387904 ∧ q - 25 ≤ 1048576 then some (ep, hh, n, G.drop 25) else none) else none) := hide (by
     unfold readL
     rw [if_neg (by rw [HM.out]; exact hm21)]
     dsimp only
     rw [hF4t, hGt, Hep.out, Hhh.out, HTg.out, hn, hsm, hsm2, hd25, HGl.out]
     rfl)
   have HSm := hide hsm
   have HSm2 : Hid (num (nx F4 (0, false) 4).1 = sm2) := hide (by rw [show nx F4 (0, false) 4 = ((F4.drop 0).take 4, (0 + 4, false)) from nx_ok (G := F4) (p := 0) (k := 4) (by rw [HF4l.out, HQ4.out]; omega)]; rw [List.drop_zero, List.take_of_length_le (by rw [HF4l.out, HQ4.out]; omega)]; exact hsm2)
   have HA1 := hide (w64_cases (x := ep) Hepl.out HA.out)
   have HB1n := hide (w64_cases (x := hh) Hhhl.out HBb.out)
   have hnl : n < 18446744073709551616 := by rw [← hn]; have h9 := num_lt ((G.drop 17).take 8); have h8 : 256 ^ ((G.drop 17).take 8).length ≤ 256 ^ 8 := Nat.pow_le_pow_right (by omega) (by rw [List.length_take]; omega); omega
   have HF1 : Hid ((tg = 1 ∧ 25 ≤ q ∧ ((N = (n : Int) ∧ n < 9223372036854775808) ∨ (N < 0 ∧ 9223372036854775808 ≤ n)) ∧ m3 = q - 25 ∧ p = q ∧ bad = false) ∨ (tg = 1 ∧ q < 25 ∧ N = 0) ∨ (tg ≠ 1 ∧ N = 0 ∧ m3 = 0 ∧ p = 17 ∧ bad = false)) := hide (by
     rcases HFa.out with ⟨h1, h2, h3, h4, h5, h6⟩ | ⟨h1, h2, h3⟩ | ⟨h1, h2, h3, h4, h5⟩
     ·exact .inl ⟨h1, by rw [← HGl.out]; exact h2, by rw [hn] at h3; exact w64_cases hnl h3.symm, by rw [← HM3.out, h4, hd25], by rw [h5, HGl.out], h6⟩
     ·exact .inr (.inl ⟨h1, by rw [← HGl.out]; exact h2, h3⟩)
     ·exact .inr (.inr ⟨h1, h2, by rw [← HM3.out, h3]; rfl, h4, h5⟩))
   clear hn hsm hsm2 hF4t hGt hd25 hnl
   rcases rt with _ | _
   ·have hrt : tg ≠ 2 ∧ ¬ (tg = 1 ∧ 1 ≤ N) := by have h := HRT.out; simp at h; exact ⟨h.1, fun h2 => by have := h.2 h2.1; omega⟩
    go_upto_region 11 with fail
    refine wp_region_held_drew (S := (fun w9 : World => w9.cell? ⟨w.heap.size, 0, none⟩ = some (.int .i64 a) ∧ w9.cell? ⟨w.heap.size, 1, none⟩ = some (.int .i64 b) ∧ w9.cell? ⟨w.heap.size, 2, none⟩ = some (.int .i64 N) ∧ w9.cell? ⟨w.heap.size, 3, none⟩ = some (.slice A3 m3 c3))) (by kernel_rfl) ⟨k0, k1, k2, k3⟩ (fun hS0 => ?_)
    refine tk 0 56 ?_ ?_ ?_; rotate_left; (focus (intro w h; go_simp; (try with_reducible rfl))); (try simp only [zqd, zqe, zqf])
    refine tk 1 57 ?_ ?_ ?_; rotate_left; (focus (intro w h; go_simp; (try with_reducible rfl))); (try simp only [zqd, zqe, zqf])
    refine tk 2 58 ?_ ?_ ?_; rotate_left; (focus (intro w h; go_simp; (try with_reducible rfl))); (try simp only [zqd, zqe, zqf])
    refine sk 3 59 ?_; (try simp only [zqd, zqe, zqf])
    refine sk 4 60 ?_; (try simp only [zqd, zqe, zqf])
    refine tk 5 61 ?_ ?_ ?_; rotate_left; (focus (intro w h; go_simp; (try with_reducible rfl))); (try simp only [zqd, zqe, zqf])
    refine tk 6 62 ?_ ?_ ?_; rotate_left; (focus (intro w h; go_simp; (try with_reducible rfl))); (try simp only [zqd, zqe, zqf])
    refine sk 7 63 ?_; (try simp only [zqd, zqe, zqf])
    refine sk 8 64 ?_; (try simp only [zqd, zqe, zqf])
    refine sk 9 65 ?_; (try simp only [zqd, zqe, zqf])
    refine tk 10 66 ?_ ?_ ?_; rotate_left; (focus (intro w h; go_simp; (try with_reducible rfl))); (try simp only [zqd, zqe, zqf])
    refine tk 11 67 ?_ ?_ ?_; rotate_left; (focus (intro w h; go_simp; (try with_reducible rfl))); (try simp only [zqd, zqe, zqf])
    refine sk 12 68 ?_; (try simp only [zqd, zqe, zqf])
    refine sk 13 69 ?_; (try simp only [zqd, zqe, zqf])
    refine sk 14 70 ?_; (try simp only [zqd, zqe, zqf])
    refine sk 15 71 ?_; (try simp only [zqd, zqe, zqf])
    refine tk 16 72 ?_ ?_ ?_; rotate_left; (focus (intro w h; go_simp; (try with_reducible rfl))); (try simp only [zqd, zqe, zqf])
    refine tk 17 73 ?_ ?_ ?_; rotate_left; (focus (intro w h; go_simp; (try with_reducible rfl))); (try simp only [zqd, zqe, zqf])
    refine sk 18 74 ?_; (try simp only [zqd, zqe, zqf])
    refine sk 19 75 ?_; (try simp only [zqd, zqe, zqf])
    refine sk 20 76 ?_; (try simp only [zqd, zqe, zqf])
    refine sk 21 77 ?_; (try simp only [zqd, zqe, zqf])
    refine sk 22 78 ?_; (try simp only [zqd, zqe, zqf])
    refine sk 23 79 ?_; (try simp only [zqd, zqe, zqf])
    refine tk 24 80 ?_ ?_ ?_; rotate_left; (focus (intro w h; go_simp; (try with_reducible rfl))); (try simp only [zqd, zqe, zqf])
    refine tk 25 81 ?_ ?_ ?_; rotate_left; (focus (intro w h; go_simp; (try with_reducible rfl))); (try simp only [zqd, zqe, zqf])
    refine sk 26 82 ?_; (try simp only [zqd, zqe, zqf])
    refine sk 27 83 ?_; (try simp only [zqd, zqe, zqf])
    refine sk 28 84 ?_; (try simp only [zqd, zqe, zqf])
    refine sk 29 85 ?_; (try simp only [zqd, zqe, zqf])
    refine sk 30 86 ?_; (try simp only [zqd, zqe, zqf])
    refine sk 31 87 ?_; (try simp only [zqd, zqe, zqf])
    refine sk 32 88 ?_; (try simp only [zqd, zqe, zqf])
    refine sk 33 89 ?_; (try simp only [zqd, zqe, zqf])
    refine tk 34 90 ?_ ?_ ?_; rotate_left; (focus (intro w h; go_simp; (try with_reducible rfl))); (try simp only [zqd, zqe, zqf])
    refine tk 35 91 ?_ ?_ ?_; rotate_left; (focus (intro w h; go_simp; (try with_reducible rfl))); (try simp only [zqd, zqe, zqf])
    refine sk 36 92 ?_; (try simp only [zqd, zqe, zqf])
    refine sk 37 93 ?_; (try simp only [zqd, zqe, zqf])
    refine sk 38 94 ?_; (try simp only [zqd, zqe, zqf])
    refine sk 39 95 ?_; (try simp only [zqd, zqe, zqf])
    refine sk 40 96 ?_; (try simp only [zqd, zqe, zqf])
    refine sk 41 97 ?_; (try simp only [zqd, zqe, zqf])
    refine sk 42 98 ?_; (try simp only [zqd, zqe, zqf])
    refine sk 43 99 ?_; (try simp only [zqd, zqe, zqf])
    refine sk 44 100 ?_; (try simp only [zqd, zqe, zqf])
    refine tk 45 101 ?_ ?_ ?_; rotate_left; (focus (intro w h; go_simp; (try with_reducible rfl))); (try simp only [zqd, zqe, zqf])
    refine wpAnyH_done (by kernel_rfl) ?_ _
    clear hS0
    clear k0 k1 k2 k3
    have HNo : Hid (readL f = none) := hide (by rw [HRD.out]; (try have hq1 := HMn2.out); (try have hq2 := HMx2.out); have hf1 := HF1.out; have ha1 := HA1.out; have hb1 := HB1n.out; (repeat' split) <;> first | rfl | (exfalso; omega))
    obtain ⟨yf, hyf⟩ : ∃ z, w9.drew = z := ⟨_, rfl⟩
    have ZW : Hid (yf.heap[w.heap.size]? = some (.cells #[.int .i64 a, .int .i64 b, .int .i64 N, .slice A3 m3 c3] 71)) := hide (by rw [← hyf]; exact HZ9.out)
    have HBf : Hid (Below w.heap.size w yf) := hide (by rw [← hyf]; exact HB9.out.drew)
    rw [hyf]
    clear hyf
    have zc0 : yf.cell? ⟨w.heap.size, 0, none⟩ = some (.int .i64 a) := cell_of_row _ _ 0 _ _ _ ZW.out
    have zcf0 : yf.frozen? ⟨w.heap.size, 0, none⟩ = false := frozen_of_row _ _ 0 _ _ ZW.out
    have zc1 : yf.cell? ⟨w.heap.size, 1, none⟩ = some (.int .i64 b) := cell_of_row _ _ 1 _ _ _ ZW.out
    have zcf1 : yf.frozen? ⟨w.heap.size, 1, none⟩ = false := frozen_of_row _ _ 1 _ _ ZW.out
    have zc2 : yf.cell? ⟨w.heap.size, 2, none⟩ = some (.int .i64 N) := cell_of_row _ _ 2 _ _ _ ZW.out
    have zcf2 : yf.frozen? ⟨w.heap.size, 2, none⟩ = false := frozen_of_row _ _ 2 _ _ ZW.out
    have zc3 : yf.cell? ⟨w.heap.size, 3, none⟩ = some (.slice A3 m3 c3) := cell_of_row _ _ 3 _ _ _ ZW.out
    have zcf3 : yf.frozen? ⟨w.heap.size, 3, none⟩ = false := frozen_of_row _ _ 3 _ _ ZW.out
    have HFin := hide (four_fin (.int .i64 a) (.int .i64 b) (.int .i64 N) (.slice A3 m3 c3) (.int .i64 0) (.int .i64 0) (.int .i64 0) (.slice none 0 0) (Nat.le_refl w.heap.size) ZW.out HBf.out)
    go_wp2
    obtain ⟨f9, hf, hfB, h6, hfs, hfo⟩ := HFin.out
    rw [hf]
    have y0 : f9.cell? ⟨w.heap.size, 0, none⟩ = some (.int .i64 0) := cell_of_row _ _ 0 _ _ _ h6
    have y1 : f9.cell? ⟨w.heap.size, 1, none⟩ = some (.int .i64 0) := cell_of_row _ _ 1 _ _ _ h6
    have y2 : f9.cell? ⟨w.heap.size, 2, none⟩ = some (.int .i64 0) := cell_of_row _ _ 2 _ _ _ h6
    have y3 : f9.cell? ⟨w.heap.size, 3, none⟩ = some (.slice none 0 0) := cell_of_row _ _ 3 _ _ _ h6
    exact bodyPost_ret (v := .tuple #[.agg #[.int .i64 0, .int .i64 0, .int .i64 0, .slice none 0 0], .bool false]) (by simp [results, Try.results31, go_sem, y0, y1, y2, y3]) rfl ⟨hfB, by rw [HNo.out]⟩
   have hrt : tg = 2 ∨ (tg = 1 ∧ 1 ≤ N) := by have h := HRT.out; simp at h; exact h
   have hbad : bad = false := by
    rcases HF1.out with h | h | h
    ·exact h.2.2.2.2.2
    ·exfalso; omega
    ·exact h.2.2.2.2
   subst hbad
   have hpq : p ≤ q := by have h := HF1.out; omega
   obtain ⟨lf, hlf⟩ : ∃ x : Int, (q : Int) - (p : Int) = x := ⟨_, rfl⟩
   have HLf : Hid ((G.length : Int) - (p : Int) = lf) := hide (by rw [HGl.out]; exact hlf)
   have HLq := hide hlf
   clear hlf
   by_cases cA : 0 < lf
   ·have dcA : decide (0 < lf) = true := decide_eq_true cA
    go_upto_region 11 with fail
    refine wp_region_held_drew (S := (fun w9 : World => w9.cell? ⟨w.heap.size, 0, none⟩ = some (.int .i64 a) ∧ w9.cell? ⟨w.heap.size, 1, none⟩ = some (.int .i64 b) ∧ w9.cell? ⟨w.heap.size, 2, none⟩ = some (.int .i64 N) ∧ w9.cell? ⟨w.heap.size, 3, none⟩ = some (.slice A3 m3 c3))) (by kernel_rfl) ⟨k0, k1, k2, k3⟩ (fun hS0 => ?_)
    refine tk 0 56 ?_ ?_ ?_; rotate_left; (focus (intro w h; go_simp; (try with_reducible rfl))); (try simp only [zqd, zqe, zqf])
    refine tk 1 57 ?_ ?_ ?_; rotate_left; (focus (intro w h; go_simp; (try with_reducible rfl))); (try simp only [zqd, zqe, zqf])
    refine tk 2 58 ?_ ?_ ?_; rotate_left; (focus (intro w h; go_simp; (try with_reducible rfl))); (try simp only [zqd, zqe, zqf])
    refine tk 3 59 ?_ ?_ ?_; rotate_left; (focus (intro w h; go_simp; (try with_reducible rfl))); (try simp only [zqd, zqe, zqf])
    refine call_at (i := 4) (d := 60) (by simp only [zqa, zqb, zqc]; rfl) rfl (by kernel_rfl) rfl (fun K hK => ?_)
    go_simp
    refine (bad_any w9.drew r G (p, false) HRr.out).mono ?_
    rintro e y1 ⟨rfl, hy1⟩
    have HZ10 := hide (show y1.heap[w.heap.size]? = some (.cells #[.int .i64 a, .int .i64 b, .int .i64 N, .slice A3 m3 c3] 71) by rw [← hy1]; exact HZ9.out)
    have HR10 : Hid (Rr 107 y1 r G (p, false)) := hide (by rw [← hy1]; exact HRr.out)
    have HR20 : Hid (Rr 107 y1 r2 F4 (0, false)) := hide (by rw [← hy1]; exact HR2.out)
    have HB10 : Hid (Below w.heap.size w y1) := hide (by rw [← hy1]; exact HB9.out.drew)
    have HOn10 : Hid (y1.ownsRow (w.heap.size + 1) 5 1 (.slice A3 m3 c3) m3 (u8s bb)) := hide (by rw [← hy1]; exact HOn.out.drew)
    have sy1 : w9.heap.size ≤ y1.heap.size := by rw [← hy1]; exact Nat.le_refl _
    have hS1 := (show (fun w9 : World => w9.cell? ⟨w.heap.size, 0, none⟩ = some (.int .i64 a) ∧ w9.cell? ⟨w.heap.size, 1, none⟩ = some (.int .i64 b) ∧ w9.cell? ⟨w.heap.size, 2, none⟩ = some (.int .i64 N) ∧ w9.cell? ⟨w.heap.size, 3, none⟩ = some (.slice A3 m3 c3)) y1 from ⟨cell_of_row _ _ 0 _ _ _ HZ10.out, cell_of_row _ _ 1 _ _ _ HZ10.out, cell_of_row _ _ 2 _ _ _ HZ10.out, cell_of_row _ _ 3 _ _ _ HZ10.out⟩)
    clear hy1
    dsimp only
    go_wp2_with fail
    refine hK.out _ _ hS1 (fun hSn => ?_)
    clear hK K
    try simp only [zqd, zqe, zqf]
    refine tk 5 61 ?_ ?_ ?_; rotate_left; (focus (intro w h; go_simp; (try with_reducible rfl))); (try simp only [zqd, zqe, zqf])
    refine tk 6 62 ?_ ?_ ?_; rotate_left; (focus (intro w h; go_simp; (try with_reducible rfl))); (try simp only [zqd, zqe, zqf])
    refine tk 7 63 ?_ ?_ ?_; rotate_left; (focus (intro w h; go_simp; (try with_reducible rfl))); (try simp only [zqd, zqe, zqf])
    refine call_at (i := 8) (d := 64) (by simp only [zqa, zqb, zqc]; rfl) rfl (by kernel_rfl) rfl (fun K hK => ?_)
    go_simp
    refine (left_any y1 r G _ HR10.out).mono ?_
    rintro e y2 ⟨rfl, hz⟩
    dsimp only
    rw [HLf.out]
    have HZ11 := hide ((hz.block _ (by omega)).trans HZ10.out)
    have HR21 := hide (HR20.out.below hz)
    have HB11 := hide (HB10.out.trans (hz.mono (by omega)))
    have HOn11 := hide (own_below HOn10.out hz (fun g hg => (HOn10.out.lt g hg).2))
    have sy2 : w9.heap.size ≤ y2.heap.size := Nat.le_trans sy1 hz.size
    have hS2 := (show (fun w9 : World => w9.cell? ⟨w.heap.size, 0, none⟩ = some (.int .i64 a) ∧ w9.cell? ⟨w.heap.size, 1, none⟩ = some (.int .i64 b) ∧ w9.cell? ⟨w.heap.size, 2, none⟩ = some (.int .i64 N) ∧ w9.cell? ⟨w.heap.size, 3, none⟩ = some (.slice A3 m3 c3)) y2 from ⟨cell_of_row _ _ 0 _ _ _ HZ11.out, cell_of_row _ _ 1 _ _ _ HZ11.out, cell_of_row _ _ 2 _ _ _ HZ11.out, cell_of_row _ _ 3 _ _ _ HZ11.out⟩)
    clear hz
    go_wp2_with fail
    refine hK.out _ _ hS2 (fun hSn => ?_)
    clear hK K
    try simp only [zqd, zqe, zqf]
    refine tk 9 65 ?_ ?_ ?_; rotate_left; (focus (intro w h; go_simp; (try with_reducible rfl))); (try simp only [zqd, zqe, zqf])
    refine tk 10 66 ?_ ?_ ?_; rotate_left; (focus (intro w h; go_simp; (try with_reducible rfl))); (try simp only [zqd, zqe, zqf])
    refine tk 11 67 ?_ ?_ ?_; rotate_left; (focus (intro w h; go_simp; (try with_reducible rfl))); (try simp only [zqd, zqe, zqf])
    refine sk 12 68 ?_; (try simp only [zqd, zqe, zqf])
    refine sk 13 69 ?_; (try simp only [zqd, zqe, zqf])
    refine sk 14 70 ?_; (try simp only [zqd, zqe, zqf])
    refine sk 15 71 ?_; (try simp only [zqd, zqe, zqf])
    refine tk 16 72 ?_ ?_ ?_; rotate_left; (focus (intro w h; go_simp; (try with_reducible rfl))); (try simp only [zqd, zqe, zqf])
    refine tk 17 73 ?_ ?_ ?_; rotate_left; (focus (intro w h; go_simp; (try with_reducible rfl))); (try simp only [zqd, zqe, zqf])
    refine sk 18 74 ?_; (try simp only [zqd, zqe, zqf])
    refine sk 19 75 ?_; (try simp only [zqd, zqe, zqf])
    refine sk 20 76 ?_; (try simp only [zqd, zqe, zqf])
    refine sk 21 77 ?_; (try simp only [zqd, zqe, zqf])
    refine sk 22 78 ?_; (try simp only [zqd, zqe, zqf])
    refine sk 23 79 ?_; (try simp only [zqd, zqe, zqf])
    refine tk 24 80 ?_ ?_ ?_; rotate_left; (focus (intro w h; go_simp; (try with_reducible rfl))); (try simp only [zqd, zqe, zqf])
    refine tk 25 81 ?_ ?_ ?_; rotate_left; (focus (intro w h; go_simp; (try with_reducible rfl))); (try simp only [zqd, zqe, zqf])
    refine sk 26 82 ?_; (try simp only [zqd, zqe, zqf])
    refine sk 27 83 ?_; (try simp only [zqd, zqe, zqf])
    refine sk 28 84 ?_; (try simp only [zqd, zqe, zqf])
    refine sk 29 85 ?_; (try simp only [zqd, zqe, zqf])
    refine sk 30 86 ?_; (try simp only [zqd, zqe, zqf])
    refine sk 31 87 ?_; (try simp only [zqd, zqe, zqf])
    refine sk 32 88 ?_; (try simp only [zqd, zqe, zqf])
    refine sk 33 89 ?_; (try simp only [zqd, zqe, zqf])
    refine tk 34 90 ?_ ?_ ?_; rotate_left; (focus (intro w h; go_simp; (try with_reducible rfl))); (try simp only [zqd, zqe, zqf])
    refine tk 35 91 ?_ ?_ ?_; rotate_left; (focus (intro w h; go_simp; (try with_reducible rfl))); (try simp only [zqd, zqe, zqf])
    refine sk 36 92 ?_; (try simp only [zqd, zqe, zqf])
    refine sk 37 93 ?_; (try simp only [zqd, zqe, zqf])
    refine sk 38 94 ?_; (try simp only [zqd, zqe, zqf])
    refine sk 39 95 ?_; (try simp only [zqd, zqe, zqf])
    refine sk 40 96 ?_; (try simp only [zqd, zqe, zqf])
    refine sk 41 97 ?_; (try simp only [zqd, zqe, zqf])
    refine sk 42 98 ?_; (try simp only [zqd, zqe, zqf])
    refine sk 43 99 ?_; (try simp only [zqd, zqe, zqf])
    refine sk 44 100 ?_; (try simp only [zqd, zqe, zqf])
    refine tk 45 101 ?_ ?_ ?_; rotate_left; (focus (intro w h; go_simp; (try with_reducible rfl))); (try simp only [zqd, zqe, zqf])
    refine wpAnyH_done (by kernel_rfl) ?_ _
    clear hS0 hS1 hS2
    have hlq := HLq.out
    clear k0 k1 k2 k3
    have HNo : Hid (readL f = none) := hide (by rw [HRD.out]; (try have hq1 := HMn2.out); (try have hq2 := HMx2.out); have hf1 := HF1.out; have ha1 := HA1.out; have hb1 := HB1n.out; (repeat' split) <;> first | rfl | (exfalso; omega))
    obtain ⟨yf, hyf⟩ : ∃ z, y2 = z := ⟨_, rfl⟩
    have ZW : Hid (yf.heap[w.heap.size]? = some (.cells #[.int .i64 a, .int .i64 b, .int .i64 N, .slice A3 m3 c3] 71)) := hide (by rw [← hyf]; exact HZ11.out)
    have HBf : Hid (Below w.heap.size w yf) := hide (by rw [← hyf]; exact HB11.out)
    rw [hyf]
    clear hyf
    have zc0 : yf.cell? ⟨w.heap.size, 0, none⟩ = some (.int .i64 a) := cell_of_row _ _ 0 _ _ _ ZW.out
    have zcf0 : yf.frozen? ⟨w.heap.size, 0, none⟩ = false := frozen_of_row _ _ 0 _ _ ZW.out
    have zc1 : yf.cell? ⟨w.heap.size, 1, none⟩ = some (.int .i64 b) := cell_of_row _ _ 1 _ _ _ ZW.out
    have zcf1 : yf.frozen? ⟨w.heap.size, 1, none⟩ = false := frozen_of_row _ _ 1 _ _ ZW.out
    have zc2 : yf.cell? ⟨w.heap.size, 2, none⟩ = some (.int .i64 N) := cell_of_row _ _ 2 _ _ _ ZW.out
    have zcf2 : yf.frozen? ⟨w.heap.size, 2, none⟩ = false := frozen_of_row _ _ 2 _ _ ZW.out
    have zc3 : yf.cell? ⟨w.heap.size, 3, none⟩ = some (.slice A3 m3 c3) := cell_of_row _ _ 3 _ _ _ ZW.out
    have zcf3 : yf.frozen? ⟨w.heap.size, 3, none⟩ = false := frozen_of_row _ _ 3 _ _ ZW.out
    have HFin := hide (four_fin (.int .i64 a) (.int .i64 b) (.int .i64 N) (.slice A3 m3 c3) (.int .i64 0) (.int .i64 0) (.int .i64 0) (.slice none 0 0) (Nat.le_refl w.heap.size) ZW.out HBf.out)
    go_wp2
    obtain ⟨f9, hf, hfB, h6, hfs, hfo⟩ := HFin.out
    rw [hf]
    have y0 : f9.cell? ⟨w.heap.size, 0, none⟩ = some (.int .i64 0) := cell_of_row _ _ 0 _ _ _ h6
    have y1 : f9.cell? ⟨w.heap.size, 1, none⟩ = some (.int .i64 0) := cell_of_row _ _ 1 _ _ _ h6
    have y2 : f9.cell? ⟨w.heap.size, 2, none⟩ = some (.int .i64 0) := cell_of_row _ _ 2 _ _ _ h6
    have y3 : f9.cell? ⟨w.heap.size, 3, none⟩ = some (.slice none 0 0) := cell_of_row _ _ 3 _ _ _ h6
    exact bodyPost_ret (v := .tuple #[.agg #[.int .i64 0, .int .i64 0, .int .i64 0, .slice none 0 0], .bool false]) (by simp [results, Try.results31, go_sem, y0, y1, y2, y3]) rfl ⟨hfB, by rw [HNo.out]⟩
   have dcA : decide (0 < lf) = false := decide_eq_false cA
   by_cases cB : (1048576 : Int) < (m3 : Int)
   ·have dcB : decide ((1048576 : Int) < (m3 : Int)) = true := decide_eq_true cB
    go_upto_region 11 with fail
    refine wp_region_held_drew (S := (fun w9 : World => w9.cell? ⟨w.heap.size, 0, none⟩ = some (.int .i64 a) ∧ w9.cell? ⟨w.heap.size, 1, none⟩ = some (.int .i64 b) ∧ w9.cell? ⟨w.heap.size, 2, none⟩ = some (.int .i64 N) ∧ w9.cell? ⟨w.heap.size, 3, none⟩ = some (.slice A3 m3 c3))) (by kernel_rfl) ⟨k0, k1, k2, k3⟩ (fun hS0 => ?_)
    refine tk 0 56 ?_ ?_ ?_; rotate_left; (focus (intro w h; go_simp; (try with_reducible rfl))); (try simp only [zqd, zqe, zqf])
    refine tk 1 57 ?_ ?_ ?_; rotate_left; (focus (intro w h; go_simp; (try with_reducible rfl))); (try simp only [zqd, zqe, zqf])
    refine tk 2 58 ?_ ?_ ?_; rotate_left; (focus (intro w h; go_simp; (try with_reducible rfl))); (try simp only [zqd, zqe, zqf])
    refine tk 3 59 ?_ ?_ ?_; rotate_left; (focus (intro w h; go_simp; (try with_reducible rfl))); (try simp only [zqd, zqe, zqf])
    refine call_at (i := 4) (d := 60) (by simp only [zqa, zqb, zqc]; rfl) rfl (by kernel_rfl) rfl (fun K hK => ?_)
    go_simp
    refine (bad_any w9.drew r G (p, false) HRr.out).mono ?_
    rintro e y1 ⟨rfl, hy1⟩
    have HZ10 := hide (show y1.heap[w.heap.size]? = some (.cells #[.int .i64 a, .int .i64 b, .int .i64 N, .slice A3 m3 c3] 71) by rw [← hy1]; exact HZ9.out)
    have HR10 : Hid (Rr 107 y1 r G (p, false)) := hide (by rw [← hy1]; exact HRr.out)
    have HR20 : Hid (Rr 107 y1 r2 F4 (0, false)) := hide (by rw [← hy1]; exact HR2.out)
    have HB10 : Hid (Below w.heap.size w y1) := hide (by rw [← hy1]; exact HB9.out.drew)
    have HOn10 : Hid (y1.ownsRow (w.heap.size + 1) 5 1 (.slice A3 m3 c3) m3 (u8s bb)) := hide (by rw [← hy1]; exact HOn.out.drew)
    have sy1 : w9.heap.size ≤ y1.heap.size := by rw [← hy1]; exact Nat.le_refl _
    have hS1 := (show (fun w9 : World => w9.cell? ⟨w.heap.size, 0, none⟩ = some (.int .i64 a) ∧ w9.cell? ⟨w.heap.size, 1, none⟩ = some (.int .i64 b) ∧ w9.cell? ⟨w.heap.size, 2, none⟩ = some (.int .i64 N) ∧ w9.cell? ⟨w.heap.size, 3, none⟩ = some (.slice A3 m3 c3)) y1 from ⟨cell_of_row _ _ 0 _ _ _ HZ10.out, cell_of_row _ _ 1 _ _ _ HZ10.out, cell_of_row _ _ 2 _ _ _ HZ10.out, cell_of_row _ _ 3 _ _ _ HZ10.out⟩)
    clear hy1
    dsimp only
    go_wp2_with fail
    refine hK.out _ _ hS1 (fun hSn => ?_)
    clear hK K
    try simp only [zqd, zqe, zqf]
    refine tk 5 61 ?_ ?_ ?_; rotate_left; (focus (intro w h; go_simp; (try with_reducible rfl))); (try simp only [zqd, zqe, zqf])
    refine tk 6 62 ?_ ?_ ?_; rotate_left; (focus (intro w h; go_simp; (try with_reducible rfl))); (try simp only [zqd, zqe, zqf])
    refine tk 7 63 ?_ ?_ ?_; rotate_left; (focus (intro w h; go_simp; (try with_reducible rfl))); (try simp only [zqd, zqe, zqf])
    refine call_at (i := 8) (d := 64) (by simp only [zqa, zqb, zqc]; rfl) rfl (by kernel_rfl) rfl (fun K hK => ?_)
    go_simp
    refine (left_any y1 r G _ HR10.out).mono ?_
    rintro e y2 ⟨rfl, hz⟩
    dsimp only
    rw [HLf.out]
    have HZ11 := hide ((hz.block _ (by omega)).trans HZ10.out)
    have HR21 := hide (HR20.out.below hz)
    have HB11 := hide (HB10.out.trans (hz.mono (by omega)))
    have HOn11 := hide (own_below HOn10.out hz (fun g hg => (HOn10.out.lt g hg).2))
    have sy2 : w9.heap.size ≤ y2.heap.size := Nat.le_trans sy1 hz.size
    have hS2 := (show (fun w9 : World => w9.cell? ⟨w.heap.size, 0, none⟩ = some (.int .i64 a) ∧ w9.cell? ⟨w.heap.size, 1, none⟩ = some (.int .i64 b) ∧ w9.cell? ⟨w.heap.size, 2, none⟩ = some (.int .i64 N) ∧ w9.cell? ⟨w.heap.size, 3, none⟩ = some (.slice A3 m3 c3)) y2 from ⟨cell_of_row _ _ 0 _ _ _ HZ11.out, cell_of_row _ _ 1 _ _ _ HZ11.out, cell_of_row _ _ 2 _ _ _ HZ11.out, cell_of_row _ _ 3 _ _ _ HZ11.out⟩)
    clear hz
    go_wp2_with fail
    refine hK.out _ _ hS2 (fun hSn => ?_)
    clear hK K
    try simp only [zqd, zqe, zqf]
    refine tk 9 65 ?_ ?_ ?_; rotate_left; (focus (intro w h; go_simp; (try with_reducible rfl))); (try simp only [zqd, zqe, zqf])
    refine tk 10 66 ?_ ?_ ?_; rotate_left; (focus (intro w h; go_simp; (try with_reducible rfl))); (try simp only [zqd, zqe, zqf])
    refine tk 11 67 ?_ ?_ ?_; rotate_left; (focus (intro w h; go_simp; (try with_reducible rfl))); (try simp only [zqd, zqe, zqf])
    refine tk 12 68 ?_ ?_ ?_; rotate_left; (focus (intro w h; go_simp; (try with_reducible rfl))); (try simp only [zqd, zqe, zqf])
    refine tk 13 69 ?_ ?_ ?_; rotate_left; (focus (intro w h; go_simp; (try with_reducible rfl))); (try simp only [zqd, zqe, zqf])
    refine tk 14 70 ?_ ?_ ?_; rotate_left; (focus (intro w h; go_simp; (try with_reducible rfl))); (try simp only [zqd, zqe, zqf])
    refine tk 15 71 ?_ ?_ ?_; rotate_left; (focus (intro w h; go_simp; (try with_reducible rfl))); (try simp only [zqd, zqe, zqf])
    refine tk 16 72 ?_ ?_ ?_; rotate_left; (focus (intro w h; go_simp; (try with_reducible rfl))); (try simp only [zqd, zqe, zqf])
    refine tk 17 73 ?_ ?_ ?_; rotate_left; (focus (intro w h; go_simp; (try with_reducible rfl))); (try simp only [zqd, zqe, zqf])
    refine sk 18 74 ?_; (try simp only [zqd, zqe, zqf])
    refine sk 19 75 ?_; (try simp only [zqd, zqe, zqf])
    refine sk 20 76 ?_; (try simp only [zqd, zqe, zqf])
    refine sk 21 77 ?_; (try simp only [zqd, zqe, zqf])
    refine sk 22 78 ?_; (try simp only [zqd, zqe, zqf])
    refine sk 23 79 ?_; (try simp only [zqd, zqe, zqf])
    refine tk 24 80 ?_ ?_ ?_; rotate_left; (focus (intro w h; go_simp; (try with_reducible rfl))); (try simp only [zqd, zqe, zqf])
    refine tk 25 81 ?_ ?_ ?_; rotate_left; (focus (intro w h; go_simp; (try with_reducible rfl))); (try simp only [zqd, zqe, zqf])
    refine sk 26 82 ?_; (try simp only [zqd, zqe, zqf])
    refine sk 27 83 ?_; (try simp only [zqd, zqe, zqf])
    refine sk 28 84 ?_; (try simp only [zqd, zqe, zqf])
    refine sk 29 85 ?_; (try simp only [zqd, zqe, zqf])
    refine sk 30 86 ?_; (try simp only [zqd, zqe, zqf])
    refine sk 31 87 ?_; (try simp only [zqd, zqe, zqf])
    refine sk 32 88 ?_; (try simp only [zqd, zqe, zqf])
    refine sk 33 89 ?_; (try simp only [zqd, zqe, zqf])
    refine tk 34 90 ?_ ?_ ?_; rotate_left; (focus (intro w h; go_simp; (try with_reducible rfl))); (try simp only [zqd, zqe, zqf])
    refine tk 35 91 ?_ ?_ ?_; rotate_left; (focus (intro w h; go_simp; (try with_reducible rfl))); (try simp only [zqd, zqe, zqf])
    refine sk 36 92 ?_; (try simp only [zqd, zqe, zqf])
    refine sk 37 93 ?_; (try simp only [zqd, zqe, zqf])
    refine sk 38 94 ?_; (try simp only [zqd, zqe, zqf])
    refine sk 39 95 ?_; (try simp only [zqd, zqe, zqf])
    refine sk 40 96 ?_; (try simp only [zqd, zqe, zqf])
    refine sk 41 97 ?_; (try simp only [zqd, zqe, zqf])
    refine sk 42 98 ?_; (try simp only [zqd, zqe, zqf])
    refine sk 43 99 ?_; (try simp only [zqd, zqe, zqf])
    refine sk 44 100 ?_; (try simp only [zqd, zqe, zqf])
    refine tk 45 101 ?_ ?_ ?_; rotate_left; (focus (intro w h; go_simp; (try with_reducible rfl))); (try simp only [zqd, zqe, zqf])
    refine wpAnyH_done (by kernel_rfl) ?_ _
    clear hS0 hS1 hS2
    clear k0 k1 k2 k3
    have HNo : Hid (readL f = none) := hide (by rw [HRD.out]; (try have hq1 := HMn2.out); (try have hq2 := HMx2.out); have hf1 := HF1.out; have ha1 := HA1.out; have hb1 := HB1n.out; (repeat' split) <;> first | rfl | (exfalso; omega))
    obtain ⟨yf, hyf⟩ : ∃ z, y2 = z := ⟨_, rfl⟩
    have ZW : Hid (yf.heap[w.heap.size]? = some (.cells #[.int .i64 a, .int .i64 b, .int .i64 N, .slice A3 m3 c3] 71)) := hide (by rw [← hyf]; exact HZ11.out)
    have HBf : Hid (Below w.heap.size w yf) := hide (by rw [← hyf]; exact HB11.out)
    rw [hyf]
    clear hyf
    have zc0 : yf.cell? ⟨w.heap.size, 0, none⟩ = some (.int .i64 a) := cell_of_row _ _ 0 _ _ _ ZW.out
    have zcf0 : yf.frozen? ⟨w.heap.size, 0, none⟩ = false := frozen_of_row _ _ 0 _ _ ZW.out
    have zc1 : yf.cell? ⟨w.heap.size, 1, none⟩ = some (.int .i64 b) := cell_of_row _ _ 1 _ _ _ ZW.out
    have zcf1 : yf.frozen? ⟨w.heap.size, 1, none⟩ = false := frozen_of_row _ _ 1 _ _ ZW.out
    have zc2 : yf.cell? ⟨w.heap.size, 2, none⟩ = some (.int .i64 N) := cell_of_row _ _ 2 _ _ _ ZW.out
    have zcf2 : yf.frozen? ⟨w.heap.size, 2, none⟩ = false := frozen_of_row _ _ 2 _ _ ZW.out
    have zc3 : yf.cell? ⟨w.heap.size, 3, none⟩ = some (.slice A3 m3 c3) := cell_of_row _ _ 3 _ _ _ ZW.out
    have zcf3 : yf.frozen? ⟨w.heap.size, 3, none⟩ = false := frozen_of_row _ _ 3 _ _ ZW.out
    have HFin := hide (four_fin (.int .i64 a) (.int .i64 b) (.int .i64 N) (.slice A3 m3 c3) (.int .i64 0) (.int .i64 0) (.int .i64 0) (.slice none 0 0) (Nat.le_refl w.heap.size) ZW.out HBf.out)
    go_wp2
    obtain ⟨f9, hf, hfB, h6, hfs, hfo⟩ := HFin.out
    rw [hf]
    have y0 : f9.cell? ⟨w.heap.size, 0, none⟩ = some (.int .i64 0) := cell_of_row _ _ 0 _ _ _ h6
    have y1 : f9.cell? ⟨w.heap.size, 1, none⟩ = some (.int .i64 0) := cell_of_row _ _ 1 _ _ _ h6
    have y2 : f9.cell? ⟨w.heap.size, 2, none⟩ = some (.int .i64 0) := cell_of_row _ _ 2 _ _ _ h6
    have y3 : f9.cell? ⟨w.heap.size, 3, none⟩ = some (.slice none 0 0) := cell_of_row _ _ 3 _ _ _ h6
    exact bodyPost_ret (v := .tuple #[.agg #[.int .i64 0, .int .i64 0, .int .i64 0, .slice none 0 0], .bool false]) (by simp [results, Try.results31, go_sem, y0, y1, y2, y3]) rfl ⟨hfB, by rw [HNo.out]⟩
   have dcB : decide ((1048576 : Int) < (m3 : Int)) = false := decide_eq_false cB
   obtain ⟨mn, hmn⟩ : ∃ x, (if b < a then b else a) = x := ⟨_, rfl⟩
   have hmn2 : mn < 0 ↔ (a < 0 ∨ b < 0) := by rw [← hmn]; split <;> omega
   have HMn := hide hmn
   obtain ⟨mx, hmx⟩ : ∃ x, (if (if a < b then b else a) < N then N else if a < b then b else a) = x := ⟨_, rfl⟩
   have hmx2 : 4611686018427387904 < mx ↔ (4611686018427387904 < a ∨ 4611686018427387904 < b ∨ 4611686018427387904 < N) := by rw [← hmx]; (repeat' split) <;> omega
   have HMx := hide hmx
   have HMn2 := hide hmn2
   have HMx2 := hide hmx2
   clear hmn hmx hmn2 hmx2
   by_cases cC : mn < 0
   ·have dcC : decide (mn < 0) = true := decide_eq_true cC
    go_upto_region 11 with fail
    refine wp_region_held_drew (S := (fun w9 : World => w9.cell? ⟨w.heap.size, 0, none⟩ = some (.int .i64 a) ∧ w9.cell? ⟨w.heap.size, 1, none⟩ = some (.int .i64 b) ∧ w9.cell? ⟨w.heap.size, 2, none⟩ = some (.int .i64 N) ∧ w9.cell? ⟨w.heap.size, 3, none⟩ = some (.slice A3 m3 c3))) (by kernel_rfl) ⟨k0, k1, k2, k3⟩ (fun hS0 => ?_)
    refine tk 0 56 ?_ ?_ ?_; rotate_left; (focus (intro w h; go_simp; (try with_reducible rfl))); (try simp only [zqd, zqe, zqf])
    refine tk 1 57 ?_ ?_ ?_; rotate_left; (focus (intro w h; go_simp; (try with_reducible rfl))); (try simp only [zqd, zqe, zqf])
    refine tk 2 58 ?_ ?_ ?_; rotate_left; (focus (intro w h; go_simp; (try with_reducible rfl))); (try simp only [zqd, zqe, zqf])
    refine tk 3 59 ?_ ?_ ?_; rotate_left; (focus (intro w h; go_simp; (try with_reducible rfl))); (try simp only [zqd, zqe, zqf])
    refine call_at (i := 4) (d := 60) (by simp only [zqa, zqb, zqc]; rfl) rfl (by kernel_rfl) rfl (fun K hK => ?_)
    go_simp
    refine (bad_any w9.drew r G (p, false) HRr.out).mono ?_
    rintro e y1 ⟨rfl, hy1⟩
    have HZ10 := hide (show y1.heap[w.heap.size]? = some (.cells #[.int .i64 a, .int .i64 b, .int .i64 N, .slice A3 m3 c3] 71) by rw [← hy1]; exact HZ9.out)
    have HR10 : Hid (Rr 107 y1 r G (p, false)) := hide (by rw [← hy1]; exact HRr.out)
    have HR20 : Hid (Rr 107 y1 r2 F4 (0, false)) := hide (by rw [← hy1]; exact HR2.out)
    have HB10 : Hid (Below w.heap.size w y1) := hide (by rw [← hy1]; exact HB9.out.drew)
    have HOn10 : Hid (y1.ownsRow (w.heap.size + 1) 5 1 (.slice A3 m3 c3) m3 (u8s bb)) := hide (by rw [← hy1]; exact HOn.out.drew)
    have sy1 : w9.heap.size ≤ y1.heap.size := by rw [← hy1]; exact Nat.le_refl _
    have hS1 := (show (fun w9 : World => w9.cell? ⟨w.heap.size, 0, none⟩ = some (.int .i64 a) ∧ w9.cell? ⟨w.heap.size, 1, none⟩ = some (.int .i64 b) ∧ w9.cell? ⟨w.heap.size, 2, none⟩ = some (.int .i64 N) ∧ w9.cell? ⟨w.heap.size, 3, none⟩ = some (.slice A3 m3 c3)) y1 from ⟨cell_of_row _ _ 0 _ _ _ HZ10.out, cell_of_row _ _ 1 _ _ _ HZ10.out, cell_of_row _ _ 2 _ _ _ HZ10.out, cell_of_row _ _ 3 _ _ _ HZ10.out⟩)
    clear hy1
    dsimp only
    go_wp2_with fail
    refine hK.out _ _ hS1 (fun hSn => ?_)
    clear hK K
    try simp only [zqd, zqe, zqf]
    refine tk 5 61 ?_ ?_ ?_; rotate_left; (focus (intro w h; go_simp; (try with_reducible rfl))); (try simp only [zqd, zqe, zqf])
    refine tk 6 62 ?_ ?_ ?_; rotate_left; (focus (intro w h; go_simp; (try with_reducible rfl))); (try simp only [zqd, zqe, zqf])
    refine tk 7 63 ?_ ?_ ?_; rotate_left; (focus (intro w h; go_simp; (try with_reducible rfl))); (try simp only [zqd, zqe, zqf])
    refine call_at (i := 8) (d := 64) (by simp only [zqa, zqb, zqc]; rfl) rfl (by kernel_rfl) rfl (fun K hK => ?_)
    go_simp
    refine (left_any y1 r G _ HR10.out).mono ?_
    rintro e y2 ⟨rfl, hz⟩
    dsimp only
    rw [HLf.out]
    have HZ11 := hide ((hz.block _ (by omega)).trans HZ10.out)
    have HR21 := hide (HR20.out.below hz)
    have HB11 := hide (HB10.out.trans (hz.mono (by omega)))
    have HOn11 := hide (own_below HOn10.out hz (fun g hg => (HOn10.out.lt g hg).2))
    have sy2 : w9.heap.size ≤ y2.heap.size := Nat.le_trans sy1 hz.size
    have hS2 := (show (fun w9 : World => w9.cell? ⟨w.heap.size, 0, none⟩ = some (.int .i64 a) ∧ w9.cell? ⟨w.heap.size, 1, none⟩ = some (.int .i64 b) ∧ w9.cell? ⟨w.heap.size, 2, none⟩ = some (.int .i64 N) ∧ w9.cell? ⟨w.heap.size, 3, none⟩ = some (.slice A3 m3 c3)) y2 from ⟨cell_of_row _ _ 0 _ _ _ HZ11.out, cell_of_row _ _ 1 _ _ _ HZ11.out, cell_of_row _ _ 2 _ _ _ HZ11.out, cell_of_row _ _ 3 _ _ _ HZ11.out⟩)
    clear hz
    go_wp2_with fail
    refine hK.out _ _ hS2 (fun hSn => ?_)
    clear hK K
    try simp only [zqd, zqe, zqf]
    refine tk 9 65 ?_ ?_ ?_; rotate_left; (focus (intro w h; go_simp; (try with_reducible rfl))); (try simp only [zqd, zqe, zqf])
    refine tk 10 66 ?_ ?_ ?_; rotate_left; (focus (intro w h; go_simp; (try with_reducible rfl))); (try simp only [zqd, zqe, zqf])
    refine tk 11 67 ?_ ?_ ?_; rotate_left; (focus (intro w h; go_simp; (try with_reducible rfl))); (try simp only [zqd, zqe, zqf])
    refine tk 12 68 ?_ ?_ ?_; rotate_left; (focus (intro w h; go_simp; (try with_reducible rfl))); (try simp only [zqd, zqe, zqf])
    refine tk 13 69 ?_ ?_ ?_; rotate_left; (focus (intro w h; go_simp; (try with_reducible rfl))); (try simp only [zqd, zqe, zqf])
    refine tk 14 70 ?_ ?_ ?_; rotate_left; (focus (intro w h; go_simp; (try with_reducible rfl))); (try simp only [zqd, zqe, zqf])
    refine tk 15 71 ?_ ?_ ?_; rotate_left; (focus (intro w h; go_simp; (try with_reducible rfl))); (try simp only [zqd, zqe, zqf])
    refine tk 16 72 ?_ ?_ ?_; rotate_left; (focus (intro w h; go_simp; (try with_reducible rfl))); (try simp only [zqd, zqe, zqf])
    refine tk 17 73 ?_ ?_ ?_; rotate_left; (focus (intro w h; go_simp; (try with_reducible rfl))); (try simp only [zqd, zqe, zqf])
    refine tk 18 74 ?_ ?_ ?_; rotate_left; (focus (intro w h; go_simp; (try with_reducible rfl))); (try simp only [zqd, zqe, zqf])
    refine tk 19 75 ?_ ?_ ?_; rotate_left; (focus (intro w h; go_simp; (try with_reducible rfl))); (try simp only [zqd, zqe, zqf])
    refine tk 20 76 ?_ ?_ ?_; rotate_left; (focus (intro w h; go_simp; (try with_reducible rfl))); (try simp only [zqd, zqe, zqf])
    refine tk 21 77 ?_ ?_ ?_; rotate_left; (focus (intro w h; go_simp; (try with_reducible rfl))); (try simp only [zqd, zqe, zqf])
    refine tk 22 78 ?_ ?_ ?_; rotate_left; (focus (intro w hSw; go_simp; rw [HMn.out]; (try with_reducible rfl); done)); (try simp only [zqd, zqe, zqf])
    refine tk 23 79 ?_ ?_ ?_; rotate_left; (focus (intro w h; go_simp; (try with_reducible rfl))); (try simp only [zqd, zqe, zqf])
    refine tk 24 80 ?_ ?_ ?_; rotate_left; (focus (intro w h; go_simp; (try with_reducible rfl))); (try simp only [zqd, zqe, zqf])
    refine tk 25 81 ?_ ?_ ?_; rotate_left; (focus (intro w h; go_simp; (try with_reducible rfl))); (try simp only [zqd, zqe, zqf])
    refine sk 26 82 ?_; (try simp only [zqd, zqe, zqf])
    refine sk 27 83 ?_; (try simp only [zqd, zqe, zqf])
    refine sk 28 84 ?_; (try simp only [zqd, zqe, zqf])
    refine sk 29 85 ?_; (try simp only [zqd, zqe, zqf])
    refine sk 30 86 ?_; (try simp only [zqd, zqe, zqf])
    refine sk 31 87 ?_; (try simp only [zqd, zqe, zqf])
    refine sk 32 88 ?_; (try simp only [zqd, zqe, zqf])
    refine sk 33 89 ?_; (try simp only [zqd, zqe, zqf])
    refine tk 34 90 ?_ ?_ ?_; rotate_left; (focus (intro w h; go_simp; (try with_reducible rfl))); (try simp only [zqd, zqe, zqf])
    refine tk 35 91 ?_ ?_ ?_; rotate_left; (focus (intro w h; go_simp; (try with_reducible rfl))); (try simp only [zqd, zqe, zqf])
    refine sk 36 92 ?_; (try simp only [zqd, zqe, zqf])
    refine sk 37 93 ?_; (try simp only [zqd, zqe, zqf])
    refine sk 38 94 ?_; (try simp only [zqd, zqe, zqf])
    refine sk 39 95 ?_; (try simp only [zqd, zqe, zqf])
    refine sk 40 96 ?_; (try simp only [zqd, zqe, zqf])
    refine sk 41 97 ?_; (try simp only [zqd, zqe, zqf])
    refine sk 42 98 ?_; (try simp only [zqd, zqe, zqf])
    refine sk 43 99 ?_; (try simp only [zqd, zqe, zqf])
    refine sk 44 100 ?_; (try simp only [zqd, zqe, zqf])
    refine tk 45 101 ?_ ?_ ?_; rotate_left; (focus (intro w h; go_simp; (try with_reducible rfl))); (try simp only [zqd, zqe, zqf])
    refine wpAnyH_done (by kernel_rfl) ?_ _
    clear hS0 hS1 hS2
    clear k0 k1 k2 k3
    have HNo : Hid (readL f = none) := hide (by rw [HRD.out]; (try have hq1 := HMn2.out); (try have hq2 := HMx2.out); have hf1 := HF1.out; have ha1 := HA1.out; have hb1 := HB1n.out; (repeat' split) <;> first | rfl | (exfalso; omega))
    obtain ⟨yf, hyf⟩ : ∃ z, y2 = z := ⟨_, rfl⟩
    have ZW : Hid (yf.heap[w.heap.size]? = some (.cells #[.int .i64 a, .int .i64 b, .int .i64 N, .slice A3 m3 c3] 71)) := hide (by rw [← hyf]; exact HZ11.out)
    have HBf : Hid (Below w.heap.size w yf) := hide (by rw [← hyf]; exact HB11.out)
    rw [hyf]
    clear hyf
    have zc0 : yf.cell? ⟨w.heap.size, 0, none⟩ = some (.int .i64 a) := cell_of_row _ _ 0 _ _ _ ZW.out
    have zcf0 : yf.frozen? ⟨w.heap.size, 0, none⟩ = false := frozen_of_row _ _ 0 _ _ ZW.out
    have zc1 : yf.cell? ⟨w.heap.size, 1, none⟩ = some (.int .i64 b) := cell_of_row _ _ 1 _ _ _ ZW.out
    have zcf1 : yf.frozen? ⟨w.heap.size, 1, none⟩ = false := frozen_of_row _ _ 1 _ _ ZW.out
    have zc2 : yf.cell? ⟨w.heap.size, 2, none⟩ = some (.int .i64 N) := cell_of_row _ _ 2 _ _ _ ZW.out
    have zcf2 : yf.frozen? ⟨w.heap.size, 2, none⟩ = false := frozen_of_row _ _ 2 _ _ ZW.out
    have zc3 : yf.cell? ⟨w.heap.size, 3, none⟩ = some (.slice A3 m3 c3) := cell_of_row _ _ 3 _ _ _ ZW.out
    have zcf3 : yf.frozen? ⟨w.heap.size, 3, none⟩ = false := frozen_of_row _ _ 3 _ _ ZW.out
    have HFin := hide (four_fin (.int .i64 a) (.int .i64 b) (.int .i64 N) (.slice A3 m3 c3) (.int .i64 0) (.int .i64 0) (.int .i64 0) (.slice none 0 0) (Nat.le_refl w.heap.size) ZW.out HBf.out)
    go_wp2
    obtain ⟨f9, hf, hfB, h6, hfs, hfo⟩ := HFin.out
    rw [hf]
    have y0 : f9.cell? ⟨w.heap.size, 0, none⟩ = some (.int .i64 0) := cell_of_row _ _ 0 _ _ _ h6
    have y1 : f9.cell? ⟨w.heap.size, 1, none⟩ = some (.int .i64 0) := cell_of_row _ _ 1 _ _ _ h6
    have y2 : f9.cell? ⟨w.heap.size, 2, none⟩ = some (.int .i64 0) := cell_of_row _ _ 2 _ _ _ h6
    have y3 : f9.cell? ⟨w.heap.size, 3, none⟩ = some (.slice none 0 0) := cell_of_row _ _ 3 _ _ _ h6
    exact bodyPost_ret (v := .tuple #[.agg #[.int .i64 0, .int .i64 0, .int .i64 0, .slice none 0 0], .bool false]) (by simp [results, Try.results31, go_sem, y0, y1, y2, y3]) rfl ⟨hfB, by rw [HNo.out]⟩
   have dcC : decide (mn < 0) = false := decide_eq_false cC
   by_cases cD : 4611686018427387904 < mx
   ·have dcD : decide (4611686018427387904 < mx) = true := decide_eq_true cD
    go_upto_region 11 with fail
    refine wp_region_held_drew (S := (fun w9 : World => w9.cell? ⟨w.heap.size, 0, none⟩ = some (.int .i64 a) ∧ w9.cell? ⟨w.heap.size, 1, none⟩ = some (.int .i64 b) ∧ w9.cell? ⟨w.heap.size, 2, none⟩ = some (.int .i64 N) ∧ w9.cell? ⟨w.heap.size, 3, none⟩ = some (.slice A3 m3 c3))) (by kernel_rfl) ⟨k0, k1, k2, k3⟩ (fun hS0 => ?_)
    refine tk 0 56 ?_ ?_ ?_; rotate_left; (focus (intro w h; go_simp; (try with_reducible rfl))); (try simp only [zqd, zqe, zqf])
    refine tk 1 57 ?_ ?_ ?_; rotate_left; (focus (intro w h; go_simp; (try with_reducible rfl))); (try simp only [zqd, zqe, zqf])
    refine tk 2 58 ?_ ?_ ?_; rotate_left; (focus (intro w h; go_simp; (try with_reducible rfl))); (try simp only [zqd, zqe, zqf])
    refine tk 3 59 ?_ ?_ ?_; rotate_left; (focus (intro w h; go_simp; (try with_reducible rfl))); (try simp only [zqd, zqe, zqf])
    refine call_at (i := 4) (d := 60) (by simp only [zqa, zqb, zqc]; rfl) rfl (by kernel_rfl) rfl (fun K hK => ?_)
    go_simp
    refine (bad_any w9.drew r G (p, false) HRr.out).mono ?_
    rintro e y1 ⟨rfl, hy1⟩
    have HZ10 := hide (show y1.heap[w.heap.size]? = some (.cells #[.int .i64 a, .int .i64 b, .int .i64 N, .slice A3 m3 c3] 71) by rw [← hy1]; exact HZ9.out)
    have HR10 : Hid (Rr 107 y1 r G (p, false)) := hide (by rw [← hy1]; exact HRr.out)
    have HR20 : Hid (Rr 107 y1 r2 F4 (0, false)) := hide (by rw [← hy1]; exact HR2.out)
    have HB10 : Hid (Below w.heap.size w y1) := hide (by rw [← hy1]; exact HB9.out.drew)
    have HOn10 : Hid (y1.ownsRow (w.heap.size + 1) 5 1 (.slice A3 m3 c3) m3 (u8s bb)) := hide (by rw [← hy1]; exact HOn.out.drew)
    have sy1 : w9.heap.size ≤ y1.heap.size := by rw [← hy1]; exact Nat.le_refl _
    have hS1 := (show (fun w9 : World => w9.cell? ⟨w.heap.size, 0, none⟩ = some (.int .i64 a) ∧ w9.cell? ⟨w.heap.size, 1, none⟩ = some (.int .i64 b) ∧ w9.cell? ⟨w.heap.size, 2, none⟩ = some (.int .i64 N) ∧ w9.cell? ⟨w.heap.size, 3, none⟩ = some (.slice A3 m3 c3)) y1 from ⟨cell_of_row _ _ 0 _ _ _ HZ10.out, cell_of_row _ _ 1 _ _ _ HZ10.out, cell_of_row _ _ 2 _ _ _ HZ10.out, cell_of_row _ _ 3 _ _ _ HZ10.out⟩)
    clear hy1
    dsimp only
    go_wp2_with fail
    refine hK.out _ _ hS1 (fun hSn => ?_)
    clear hK K
    try simp only [zqd, zqe, zqf]
    refine tk 5 61 ?_ ?_ ?_; rotate_left; (focus (intro w h; go_simp; (try with_reducible rfl))); (try simp only [zqd, zqe, zqf])
    refine tk 6 62 ?_ ?_ ?_; rotate_left; (focus (intro w h; go_simp; (try with_reducible rfl))); (try simp only [zqd, zqe, zqf])
    refine tk 7 63 ?_ ?_ ?_; rotate_left; (focus (intro w h; go_simp; (try with_reducible rfl))); (try simp only [zqd, zqe, zqf])
    refine call_at (i := 8) (d := 64) (by simp only [zqa, zqb, zqc]; rfl) rfl (by kernel_rfl) rfl (fun K hK => ?_)
    go_simp
    refine (left_any y1 r G _ HR10.out).mono ?_
    rintro e y2 ⟨rfl, hz⟩
    dsimp only
    rw [HLf.out]
    have HZ11 := hide ((hz.block _ (by omega)).trans HZ10.out)
    have HR21 := hide (HR20.out.below hz)
    have HB11 := hide (HB10.out.trans (hz.mono (by omega)))
    have HOn11 := hide (own_below HOn10.out hz (fun g hg => (HOn10.out.lt g hg).2))
    have sy2 : w9.heap.size ≤ y2.heap.size := Nat.le_trans sy1 hz.size
    have hS2 := (show (fun w9 : World => w9.cell? ⟨w.heap.size, 0, none⟩ = some (.int .i64 a) ∧ w9.cell? ⟨w.heap.size, 1, none⟩ = some (.int .i64 b) ∧ w9.cell? ⟨w.heap.size, 2, none⟩ = some (.int .i64 N) ∧ w9.cell? ⟨w.heap.size, 3, none⟩ = some (.slice A3 m3 c3)) y2 from ⟨cell_of_row _ _ 0 _ _ _ HZ11.out, cell_of_row _ _ 1 _ _ _ HZ11.out, cell_of_row _ _ 2 _ _ _ HZ11.out, cell_of_row _ _ 3 _ _ _ HZ11.out⟩)
    clear hz
    go_wp2_with fail
    refine hK.out _ _ hS2 (fun hSn => ?_)
    clear hK K
    try simp only [zqd, zqe, zqf]
    refine tk 9 65 ?_ ?_ ?_; rotate_left; (focus (intro w h; go_simp; (try with_reducible rfl))); (try simp only [zqd, zqe, zqf])
    refine tk 10 66 ?_ ?_ ?_; rotate_left; (focus (intro w h; go_simp; (try with_reducible rfl))); (try simp only [zqd, zqe, zqf])
    refine tk 11 67 ?_ ?_ ?_; rotate_left; (focus (intro w h; go_simp; (try with_reducible rfl))); (try simp only [zqd, zqe, zqf])
    refine tk 12 68 ?_ ?_ ?_; rotate_left; (focus (intro w h; go_simp; (try with_reducible rfl))); (try simp only [zqd, zqe, zqf])
    refine tk 13 69 ?_ ?_ ?_; rotate_left; (focus (intro w h; go_simp; (try with_reducible rfl))); (try simp only [zqd, zqe, zqf])
    refine tk 14 70 ?_ ?_ ?_; rotate_left; (focus (intro w h; go_simp; (try with_reducible rfl))); (try simp only [zqd, zqe, zqf])
    refine tk 15 71 ?_ ?_ ?_; rotate_left; (focus (intro w h; go_simp; (try with_reducible rfl))); (try simp only [zqd, zqe, zqf])
    refine tk 16 72 ?_ ?_ ?_; rotate_left; (focus (intro w h; go_simp; (try with_reducible rfl))); (try simp only [zqd, zqe, zqf])
    refine tk 17 73 ?_ ?_ ?_; rotate_left; (focus (intro w h; go_simp; (try with_reducible rfl))); (try simp only [zqd, zqe, zqf])
    refine tk 18 74 ?_ ?_ ?_; rotate_left; (focus (intro w h; go_simp; (try with_reducible rfl))); (try simp only [zqd, zqe, zqf])
    refine tk 19 75 ?_ ?_ ?_; rotate_left; (focus (intro w h; go_simp; (try with_reducible rfl))); (try simp only [zqd, zqe, zqf])
    refine tk 20 76 ?_ ?_ ?_; rotate_left; (focus (intro w h; go_simp; (try with_reducible rfl))); (try simp only [zqd, zqe, zqf])
    refine tk 21 77 ?_ ?_ ?_; rotate_left; (focus (intro w h; go_simp; (try with_reducible rfl))); (try simp only [zqd, zqe, zqf])
    refine tk 22 78 ?_ ?_ ?_; rotate_left; (focus (intro w hSw; go_simp; rw [HMn.out]; (try with_reducible rfl); done)); (try simp only [zqd, zqe, zqf])
    refine tk 23 79 ?_ ?_ ?_; rotate_left; (focus (intro w h; go_simp; (try with_reducible rfl))); (try simp only [zqd, zqe, zqf])
    refine tk 24 80 ?_ ?_ ?_; rotate_left; (focus (intro w h; go_simp; (try with_reducible rfl))); (try simp only [zqd, zqe, zqf])
    refine tk 25 81 ?_ ?_ ?_; rotate_left; (focus (intro w h; go_simp; (try with_reducible rfl))); (try simp only [zqd, zqe, zqf])
    refine tk 26 82 ?_ ?_ ?_; rotate_left; (focus (intro w h; go_simp; (try with_reducible rfl))); (try simp only [zqd, zqe, zqf])
    refine tk 27 83 ?_ ?_ ?_; rotate_left; (focus (intro w h; go_simp; (try with_reducible rfl))); (try simp only [zqd, zqe, zqf])
    refine tk 28 84 ?_ ?_ ?_; rotate_left; (focus (intro w h; go_simp; (try with_reducible rfl))); (try simp only [zqd, zqe, zqf])
    refine tk 29 85 ?_ ?_ ?_; rotate_left; (focus (intro w h; go_simp; (try with_reducible rfl))); (try simp only [zqd, zqe, zqf])
    refine tk 30 86 ?_ ?_ ?_; rotate_left; (focus (intro w h; go_simp; (try with_reducible rfl))); (try simp only [zqd, zqe, zqf])
    refine tk 31 87 ?_ ?_ ?_; rotate_left; (focus (intro w h; go_simp; (try with_reducible rfl))); (try simp only [zqd, zqe, zqf])
    refine tk 32 88 ?_ ?_ ?_; rotate_left; (focus (intro w hSw; go_simp; (first | rw [HMx.out] | trace_state); (try with_reducible rfl); done)); (try simp only [zqd, zqe, zqf])
    refine tk 33 89 ?_ ?_ ?_; rotate_left; (focus (intro w h; go_simp; (try with_reducible rfl))); (try simp only [zqd, zqe, zqf])
    refine tk 34 90 ?_ ?_ ?_; rotate_left; (focus (intro w h; go_simp; (try with_reducible rfl))); (try simp only [zqd, zqe, zqf])
    refine tk 35 91 ?_ ?_ ?_; rotate_left; (focus (intro w h; go_simp; (try with_reducible rfl))); (try simp only [zqd, zqe, zqf])
    refine sk 36 92 ?_; (try simp only [zqd, zqe, zqf])
    refine sk 37 93 ?_; (try simp only [zqd, zqe, zqf])
    refine sk 38 94 ?_; (try simp only [zqd, zqe, zqf])
    refine sk 39 95 ?_; (try simp only [zqd, zqe, zqf])
    refine sk 40 96 ?_; (try simp only [zqd, zqe, zqf])
    refine sk 41 97 ?_; (try simp only [zqd, zqe, zqf])
    refine sk 42 98 ?_; (try simp only [zqd, zqe, zqf])
    refine sk 43 99 ?_; (try simp only [zqd, zqe, zqf])
    refine sk 44 100 ?_; (try simp only [zqd, zqe, zqf])
    refine tk 45 101 ?_ ?_ ?_; rotate_left; (focus (intro w h; go_simp; (try with_reducible rfl))); (try simp only [zqd, zqe, zqf])
    refine wpAnyH_done (by kernel_rfl) ?_ _
    clear hS0 hS1 hS2
    clear k0 k1 k2 k3
    have HNo : Hid (readL f = none) := hide (by rw [HRD.out]; (try have hq1 := HMn2.out); (try have hq2 := HMx2.out); have hf1 := HF1.out; have ha1 := HA1.out; have hb1 := HB1n.out; (repeat' split) <;> first | rfl | (exfalso; omega))
    obtain ⟨yf, hyf⟩ : ∃ z, y2 = z := ⟨_, rfl⟩
    have ZW : Hid (yf.heap[w.heap.size]? = some (.cells #[.int .i64 a, .int .i64 b, .int .i64 N, .slice A3 m3 c3] 71)) := hide (by rw [← hyf]; exact HZ11.out)
    have HBf : Hid (Below w.heap.size w yf) := hide (by rw [← hyf]; exact HB11.out)
    rw [hyf]
    clear hyf
    have zc0 : yf.cell? ⟨w.heap.size, 0, none⟩ = some (.int .i64 a) := cell_of_row _ _ 0 _ _ _ ZW.out
    have zcf0 : yf.frozen? ⟨w.heap.size, 0, none⟩ = false := frozen_of_row _ _ 0 _ _ ZW.out
    have zc1 : yf.cell? ⟨w.heap.size, 1, none⟩ = some (.int .i64 b) := cell_of_row _ _ 1 _ _ _ ZW.out
    have zcf1 : yf.frozen? ⟨w.heap.size, 1, none⟩ = false := frozen_of_row _ _ 1 _ _ ZW.out
    have zc2 : yf.cell? ⟨w.heap.size, 2, none⟩ = some (.int .i64 N) := cell_of_row _ _ 2 _ _ _ ZW.out
    have zcf2 : yf.frozen? ⟨w.heap.size, 2, none⟩ = false := frozen_of_row _ _ 2 _ _ ZW.out
    have zc3 : yf.cell? ⟨w.heap.size, 3, none⟩ = some (.slice A3 m3 c3) := cell_of_row _ _ 3 _ _ _ ZW.out
    have zcf3 : yf.frozen? ⟨w.heap.size, 3, none⟩ = false := frozen_of_row _ _ 3 _ _ ZW.out
    have HFin := hide (four_fin (.int .i64 a) (.int .i64 b) (.int .i64 N) (.slice A3 m3 c3) (.int .i64 0) (.int .i64 0) (.int .i64 0) (.slice none 0 0) (Nat.le_refl w.heap.size) ZW.out HBf.out)
    go_wp2
    obtain ⟨f9, hf, hfB, h6, hfs, hfo⟩ := HFin.out
    rw [hf]
    have y0 : f9.cell? ⟨w.heap.size, 0, none⟩ = some (.int .i64 0) := cell_of_row _ _ 0 _ _ _ h6
    have y1 : f9.cell? ⟨w.heap.size, 1, none⟩ = some (.int .i64 0) := cell_of_row _ _ 1 _ _ _ h6
    have y2 : f9.cell? ⟨w.heap.size, 2, none⟩ = some (.int .i64 0) := cell_of_row _ _ 2 _ _ _ h6
    have y3 : f9.cell? ⟨w.heap.size, 3, none⟩ = some (.slice none 0 0) := cell_of_row _ _ 3 _ _ _ h6
    exact bodyPost_ret (v := .tuple #[.agg #[.int .i64 0, .int .i64 0, .int .i64 0, .slice none 0 0], .bool false]) (by simp [results, Try.results31, go_sem, y0, y1, y2, y3]) rfl ⟨hfB, by rw [HNo.out]⟩
   have dcD : decide (4611686018427387904 < mx) = false := decide_eq_false cD
   by_cases cE : sm2 = sm
   rotate_left
   ·have cE1 : ((sm2 : Int) == (sm : Int)) = false := by simp; omega
    have cE2 : ((sm2 : Int) != (sm : Int)) = true := by simp; omega
    go_upto_region 11 with fail
    refine wp_region_held_drew (S := (fun w9 : World => w9.cell? ⟨w.heap.size, 0, none⟩ = some (.int .i64 a) ∧ w9.cell? ⟨w.heap.size, 1, none⟩ = some (.int .i64 b) ∧ w9.cell? ⟨w.heap.size, 2, none⟩ = some (.int .i64 N) ∧ w9.cell? ⟨w.heap.size, 3, none⟩ = some (.slice A3 m3 c3))) (by kernel_rfl) ⟨k0, k1, k2, k3⟩ (fun hS0 => ?_)
    refine tk 0 56 ?_ ?_ ?_; rotate_left; (focus (intro w h; go_simp; (try with_reducible rfl))); (try simp only [zqd, zqe, zqf])
    refine tk 1 57 ?_ ?_ ?_; rotate_left; (focus (intro w h; go_simp; (try with_reducible rfl))); (try simp only [zqd, zqe, zqf])
    refine tk 2 58 ?_ ?_ ?_; rotate_left; (focus (intro w h; go_simp; (try with_reducible rfl))); (try simp only [zqd, zqe, zqf])
    refine tk 3 59 ?_ ?_ ?_; rotate_left; (focus (intro w h; go_simp; (try with_reducible rfl))); (try simp only [zqd, zqe, zqf])
    refine call_at (i := 4) (d := 60) (by simp only [zqa, zqb, zqc]; rfl) rfl (by kernel_rfl) rfl (fun K hK => ?_)
    go_simp
    refine (bad_any w9.drew r G (p, false) HRr.out).mono ?_
    rintro e y1 ⟨rfl, hy1⟩
    have HZ10 := hide (show y1.heap[w.heap.size]? = some (.cells #[.int .i64 a, .int .i64 b, .int .i64 N, .slice A3 m3 c3] 71) by rw [← hy1]; exact HZ9.out)
    have HR10 : Hid (Rr 107 y1 r G (p, false)) := hide (by rw [← hy1]; exact HRr.out)
    have HR20 : Hid (Rr 107 y1 r2 F4 (0, false)) := hide (by rw [← hy1]; exact HR2.out)
    have HB10 : Hid (Below w.heap.size w y1) := hide (by rw [← hy1]; exact HB9.out.drew)
    have HOn10 : Hid (y1.ownsRow (w.heap.size + 1) 5 1 (.slice A3 m3 c3) m3 (u8s bb)) := hide (by rw [← hy1]; exact HOn.out.drew)
    have sy1 : w9.heap.size ≤ y1.heap.size := by rw [← hy1]; exact Nat.le_refl _
    have hS1 := (show (fun w9 : World => w9.cell? ⟨w.heap.size, 0, none⟩ = some (.int .i64 a) ∧ w9.cell? ⟨w.heap.size, 1, none⟩ = some (.int .i64 b) ∧ w9.cell? ⟨w.heap.size, 2, none⟩ = some (.int .i64 N) ∧ w9.cell? ⟨w.heap.size, 3, none⟩ = some (.slice A3 m3 c3)) y1 from ⟨cell_of_row _ _ 0 _ _ _ HZ10.out, cell_of_row _ _ 1 _ _ _ HZ10.out, cell_of_row _ _ 2 _ _ _ HZ10.out, cell_of_row _ _ 3 _ _ _ HZ10.out⟩)
    clear hy1
    dsimp only
    go_wp2_with fail
    refine hK.out _ _ hS1 (fun hSn => ?_)
    clear hK K
    try simp only [zqd, zqe, zqf]
    refine tk 5 61 ?_ ?_ ?_; rotate_left; (focus (intro w h; go_simp; (try with_reducible rfl))); (try simp only [zqd, zqe, zqf])
    refine tk 6 62 ?_ ?_ ?_; rotate_left; (focus (intro w h; go_simp; (try with_reducible rfl))); (try simp only [zqd, zqe, zqf])
    refine tk 7 63 ?_ ?_ ?_; rotate_left; (focus (intro w h; go_simp; (try with_reducible rfl))); (try simp only [zqd, zqe, zqf])
    refine call_at (i := 8) (d := 64) (by simp only [zqa, zqb, zqc]; rfl) rfl (by kernel_rfl) rfl (fun K hK => ?_)
    go_simp
    refine (left_any y1 r G _ HR10.out).mono ?_
    rintro e y2 ⟨rfl, hz⟩
    dsimp only
    rw [HLf.out]
    have HZ11 := hide ((hz.block _ (by omega)).trans HZ10.out)
    have HR21 := hide (HR20.out.below hz)
    have HB11 := hide (HB10.out.trans (hz.mono (by omega)))
    have HOn11 := hide (own_below HOn10.out hz (fun g hg => (HOn10.out.lt g hg).2))
    have sy2 : w9.heap.size ≤ y2.heap.size := Nat.le_trans sy1 hz.size
    have hS2 := (show (fun w9 : World => w9.cell? ⟨w.heap.size, 0, none⟩ = some (.int .i64 a) ∧ w9.cell? ⟨w.heap.size, 1, none⟩ = some (.int .i64 b) ∧ w9.cell? ⟨w.heap.size, 2, none⟩ = some (.int .i64 N) ∧ w9.cell? ⟨w.heap.size, 3, none⟩ = some (.slice A3 m3 c3)) y2 from ⟨cell_of_row _ _ 0 _ _ _ HZ11.out, cell_of_row _ _ 1 _ _ _ HZ11.out, cell_of_row _ _ 2 _ _ _ HZ11.out, cell_of_row _ _ 3 _ _ _ HZ11.out⟩)
    clear hz
    go_wp2_with fail
    refine hK.out _ _ hS2 (fun hSn => ?_)
    clear hK K
    try simp only [zqd, zqe, zqf]
    refine tk 9 65 ?_ ?_ ?_; rotate_left; (focus (intro w h; go_simp; (try with_reducible rfl))); (try simp only [zqd, zqe, zqf])
    refine tk 10 66 ?_ ?_ ?_; rotate_left; (focus (intro w h; go_simp; (try with_reducible rfl))); (try simp only [zqd, zqe, zqf])
    refine tk 11 67 ?_ ?_ ?_; rotate_left; (focus (intro w h; go_simp; (try with_reducible rfl))); (try simp only [zqd, zqe, zqf])
    refine tk 12 68 ?_ ?_ ?_; rotate_left; (focus (intro w h; go_simp; (try with_reducible rfl))); (try simp only [zqd, zqe, zqf])
    refine tk 13 69 ?_ ?_ ?_; rotate_left; (focus (intro w h; go_simp; (try with_reducible rfl))); (try simp only [zqd, zqe, zqf])
    refine tk 14 70 ?_ ?_ ?_; rotate_left; (focus (intro w h; go_simp; (try with_reducible rfl))); (try simp only [zqd, zqe, zqf])
    refine tk 15 71 ?_ ?_ ?_; rotate_left; (focus (intro w h; go_simp; (try with_reducible rfl))); (try simp only [zqd, zqe, zqf])
    refine tk 16 72 ?_ ?_ ?_; rotate_left; (focus (intro w h; go_simp; (try with_reducible rfl))); (try simp only [zqd, zqe, zqf])
    refine tk 17 73 ?_ ?_ ?_; rotate_left; (focus (intro w h; go_simp; (try with_reducible rfl))); (try simp only [zqd, zqe, zqf])
    refine tk 18 74 ?_ ?_ ?_; rotate_left; (focus (intro w h; go_simp; (try with_reducible rfl))); (try simp only [zqd, zqe, zqf])
    refine tk 19 75 ?_ ?_ ?_; rotate_left; (focus (intro w h; go_simp; (try with_reducible rfl))); (try simp only [zqd, zqe, zqf])
    refine tk 20 76 ?_ ?_ ?_; rotate_left; (focus (intro w h; go_simp; (try with_reducible rfl))); (try simp only [zqd, zqe, zqf])
    refine tk 21 77 ?_ ?_ ?_; rotate_left; (focus (intro w h; go_simp; (try with_reducible rfl))); (try simp only [zqd, zqe, zqf])
    refine tk 22 78 ?_ ?_ ?_; rotate_left; (focus (intro w hSw; go_simp; rw [HMn.out]; (try with_reducible rfl); done)); (try simp only [zqd, zqe, zqf])
    refine tk 23 79 ?_ ?_ ?_; rotate_left; (focus (intro w h; go_simp; (try with_reducible rfl))); (try simp only [zqd, zqe, zqf])
    refine tk 24 80 ?_ ?_ ?_; rotate_left; (focus (intro w h; go_simp; (try with_reducible rfl))); (try simp only [zqd, zqe, zqf])
    refine tk 25 81 ?_ ?_ ?_; rotate_left; (focus (intro w h; go_simp; (try with_reducible rfl))); (try simp only [zqd, zqe, zqf])
    refine tk 26 82 ?_ ?_ ?_; rotate_left; (focus (intro w h; go_simp; (try with_reducible rfl))); (try simp only [zqd, zqe, zqf])
    refine tk 27 83 ?_ ?_ ?_; rotate_left; (focus (intro w h; go_simp; (try with_reducible rfl))); (try simp only [zqd, zqe, zqf])
    refine tk 28 84 ?_ ?_ ?_; rotate_left; (focus (intro w h; go_simp; (try with_reducible rfl))); (try simp only [zqd, zqe, zqf])
    refine tk 29 85 ?_ ?_ ?_; rotate_left; (focus (intro w h; go_simp; (try with_reducible rfl))); (try simp only [zqd, zqe, zqf])
    refine tk 30 86 ?_ ?_ ?_; rotate_left; (focus (intro w h; go_simp; (try with_reducible rfl))); (try simp only [zqd, zqe, zqf])
    refine tk 31 87 ?_ ?_ ?_; rotate_left; (focus (intro w h; go_simp; (try with_reducible rfl))); (try simp only [zqd, zqe, zqf])
    refine tk 32 88 ?_ ?_ ?_; rotate_left; (focus (intro w hSw; go_simp; (first | rw [HMx.out] | trace_state); (try with_reducible rfl); done)); (try simp only [zqd, zqe, zqf])
    refine tk 33 89 ?_ ?_ ?_; rotate_left; (focus (intro w h; go_simp; (try with_reducible rfl))); (try simp only [zqd, zqe, zqf])
    refine tk 34 90 ?_ ?_ ?_; rotate_left; (focus (intro w h; go_simp; (try with_reducible rfl))); (try simp only [zqd, zqe, zqf])
    refine tk 35 91 ?_ ?_ ?_; rotate_left; (focus (intro w h; go_simp; (try with_reducible rfl))); (try simp only [zqd, zqe, zqf])
    refine tk 36 92 ?_ ?_ ?_; rotate_left; (focus (intro w h; go_simp; (try with_reducible rfl))); (try simp only [zqd, zqe, zqf])
    refine tk 38 94 ?_ ?_ ?_; rotate_left; (focus (intro w h; go_simp; (try with_reducible rfl))); (try simp only [zqd, zqe, zqf])
    refine tk 39 95 ?_ ?_ ?_; rotate_left; (focus (intro w h; go_simp; (try with_reducible rfl))); (try simp only [zqd, zqe, zqf])
    refine tk 40 96 ?_ ?_ ?_; rotate_left; (focus (intro w h; go_simp; (try with_reducible rfl))); (try simp only [zqd, zqe, zqf])
    refine tk 41 97 ?_ ?_ ?_; rotate_left; (focus (intro w h; go_simp; (try with_reducible rfl))); (try simp only [zqd, zqe, zqf])
    refine tk 42 98 ?_ ?_ ?_; rotate_left; (focus (intro w h; go_simp; (try with_reducible rfl))); (try simp only [zqd, zqe, zqf])
    refine call_at (i := 37) (d := 93) (by simp only [zqa, zqb, zqc]; rfl) rfl (by kernel_rfl) rfl (fun K hK => ?_)
    go_simp
    refine (get32 y2 r2 F4 (0, false) HR21.out).mono ?_
    rintro e y3 ⟨rfl, -, hz⟩
    rw [HSm2.out]
    have HZ12 := hide ((hz.block _ (by omega) hHr2).trans HZ11.out)
    have HB12 := hide (HB11.out.trans (hz.below (by omega) (by omega)))
    have HOn12 := hide (own_same HOn11.out (fun g hg => hz.block g ((HOn11.out.lt g hg).2) (Nat.ne_of_lt (HOr2.out g hg))))
    have sy3 : w9.heap.size ≤ y3.heap.size := Nat.le_trans sy2 hz.size
    have hS3 := (show (fun w9 : World => w9.cell? ⟨w.heap.size, 0, none⟩ = some (.int .i64 a) ∧ w9.cell? ⟨w.heap.size, 1, none⟩ = some (.int .i64 b) ∧ w9.cell? ⟨w.heap.size, 2, none⟩ = some (.int .i64 N) ∧ w9.cell? ⟨w.heap.size, 3, none⟩ = some (.slice A3 m3 c3)) y3 from ⟨cell_of_row _ _ 0 _ _ _ HZ12.out, cell_of_row _ _ 1 _ _ _ HZ12.out, cell_of_row _ _ 2 _ _ _ HZ12.out, cell_of_row _ _ 3 _ _ _ HZ12.out⟩)
    clear hz
    go_wp2_with fail
    refine hK.out _ _ hS3 (fun hSn => ?_)
    clear hK K
    try simp only [zqd, zqe, zqf]
    refine call_at (i := 43) (d := 99) (by simp only [zqa, zqb, zqc]; rfl) rfl (by kernel_rfl) rfl (fun K hK => ?_)
    go_simp
    have hcl := sum_any G (some ⟨b0, off, none⟩) c w.heap.size y3 (HRG.out.below HB12.out) (by omega) (by rw [HGl.out]; omega)
    rw [HGl.out, HSm.out] at hcl
    refine hcl.mono ?_
    clear hcl
    rintro e y4 ⟨rfl, hz⟩
    have HZ13 := hide ((hz.block _ (by omega)).trans HZ12.out)
    have HB13 := hide (HB12.out.trans (hz.mono (by omega)))
    have HOn13 := hide (own_below HOn12.out hz (fun g hg => (HOn12.out.lt g hg).2))
    have hS4 := (show (fun w9 : World => w9.cell? ⟨w.heap.size, 0, none⟩ = some (.int .i64 a) ∧ w9.cell? ⟨w.heap.size, 1, none⟩ = some (.int .i64 b) ∧ w9.cell? ⟨w.heap.size, 2, none⟩ = some (.int .i64 N) ∧ w9.cell? ⟨w.heap.size, 3, none⟩ = some (.slice A3 m3 c3)) y4 from ⟨cell_of_row _ _ 0 _ _ _ HZ13.out, cell_of_row _ _ 1 _ _ _ HZ13.out, cell_of_row _ _ 2 _ _ _ HZ13.out, cell_of_row _ _ 3 _ _ _ HZ13.out⟩)
    clear hz
    go_wp2_with fail
    refine hK.out _ _ hS4 (fun hSn => ?_)
    clear hK K
    try simp only [zqd, zqe, zqf]
    refine tk 44 100 ?_ ?_ ?_; rotate_left; (focus (intro w h; go_simp; (try with_reducible rfl))); (try simp only [zqd, zqe, zqf])
    refine tk 45 101 ?_ ?_ ?_; rotate_left; (focus (intro w h; go_simp; (try with_reducible rfl))); (try simp only [zqd, zqe, zqf])
    refine wpAnyH_done (by kernel_rfl) ?_ _
    clear hS0 hS1 hS2 hS3 hS4
    clear k0 k1 k2 k3
    have HNo : Hid (readL f = none) := hide (by rw [HRD.out]; (try have hq1 := HMn2.out); (try have hq2 := HMx2.out); have hf1 := HF1.out; have ha1 := HA1.out; have hb1 := HB1n.out; (repeat' split) <;> first | rfl | (exfalso; omega))
    obtain ⟨yf, hyf⟩ : ∃ z, y4 = z := ⟨_, rfl⟩
    have ZW : Hid (yf.heap[w.heap.size]? = some (.cells #[.int .i64 a, .int .i64 b, .int .i64 N, .slice A3 m3 c3] 71)) := hide (by rw [← hyf]; exact HZ13.out)
    have HBf : Hid (Below w.heap.size w yf) := hide (by rw [← hyf]; exact HB13.out)
    rw [hyf]
    clear hyf
    have zc0 : yf.cell? ⟨w.heap.size, 0, none⟩ = some (.int .i64 a) := cell_of_row _ _ 0 _ _ _ ZW.out
    have zcf0 : yf.frozen? ⟨w.heap.size, 0, none⟩ = false := frozen_of_row _ _ 0 _ _ ZW.out
    have zc1 : yf.cell? ⟨w.heap.size, 1, none⟩ = some (.int .i64 b) := cell_of_row _ _ 1 _ _ _ ZW.out
    have zcf1 : yf.frozen? ⟨w.heap.size, 1, none⟩ = false := frozen_of_row _ _ 1 _ _ ZW.out
    have zc2 : yf.cell? ⟨w.heap.size, 2, none⟩ = some (.int .i64 N) := cell_of_row _ _ 2 _ _ _ ZW.out
    have zcf2 : yf.frozen? ⟨w.heap.size, 2, none⟩ = false := frozen_of_row _ _ 2 _ _ ZW.out
    have zc3 : yf.cell? ⟨w.heap.size, 3, none⟩ = some (.slice A3 m3 c3) := cell_of_row _ _ 3 _ _ _ ZW.out
    have zcf3 : yf.frozen? ⟨w.heap.size, 3, none⟩ = false := frozen_of_row _ _ 3 _ _ ZW.out
    have HFin := hide (four_fin (.int .i64 a) (.int .i64 b) (.int .i64 N) (.slice A3 m3 c3) (.int .i64 0) (.int .i64 0) (.int .i64 0) (.slice none 0 0) (Nat.le_refl w.heap.size) ZW.out HBf.out)
    go_wp2
    obtain ⟨f9, hf, hfB, h6, hfs, hfo⟩ := HFin.out
    rw [hf]
    have y0 : f9.cell? ⟨w.heap.size, 0, none⟩ = some (.int .i64 0) := cell_of_row _ _ 0 _ _ _ h6
    have y1 : f9.cell? ⟨w.heap.size, 1, none⟩ = some (.int .i64 0) := cell_of_row _ _ 1 _ _ _ h6
    have y2 : f9.cell? ⟨w.heap.size, 2, none⟩ = some (.int .i64 0) := cell_of_row _ _ 2 _ _ _ h6
    have y3 : f9.cell? ⟨w.heap.size, 3, none⟩ = some (.slice none 0 0) := cell_of_row _ _ 3 _ _ _ h6
    exact bodyPost_ret (v := .tuple #[.agg #[.int .i64 0, .int .i64 0, .int .i64 0, .slice none 0 0], .bool false]) (by simp [results, Try.results31, go_sem, y0, y1, y2, y3]) rfl ⟨hfB, by rw [HNo.out]⟩
   have cE1 : ((sm2 : Int) == (sm : Int)) = true := by simp; omega
   have cE2 : ((sm2 : Int) != (sm : Int)) = false := by simp; omega
   go_upto_region 11 with fail
   refine wp_region_held_drew (S := (fun w9 : World => w9.cell? ⟨w.heap.size, 0, none⟩ = some (.int .i64 a) ∧ w9.cell? ⟨w.heap.size, 1, none⟩ = some (.int .i64 b) ∧ w9.cell? ⟨w.heap.size, 2, none⟩ = some (.int .i64 N) ∧ w9.cell? ⟨w.heap.size, 3, none⟩ = some (.slice A3 m3 c3))) (by kernel_rfl) ⟨k0, k1, k2, k3⟩ (fun hS0 => ?_)
   refine tk 0 56 ?_ ?_ ?_; rotate_left; (focus (intro w h; go_simp; (try with_reducible rfl))); (try simp only [zqd, zqe, zqf])
   refine tk 1 57 ?_ ?_ ?_; rotate_left; (focus (intro w h; go_simp; (try with_reducible rfl))); (try simp only [zqd, zqe, zqf])
   refine tk 2 58 ?_ ?_ ?_; rotate_left; (focus (intro w h; go_simp; (try with_reducible rfl))); (try simp only [zqd, zqe, zqf])
   refine tk 3 59 ?_ ?_ ?_; rotate_left; (focus (intro w h; go_simp; (try with_reducible rfl))); (try simp only [zqd, zqe, zqf])
   refine call_at (i := 4) (d := 60) (by simp only [zqa, zqb, zqc]; rfl) rfl (by kernel_rfl) rfl (fun K hK => ?_)
   go_simp
   refine (bad_any w9.drew r G (p, false) HRr.out).mono ?_
   rintro e y1 ⟨rfl, hy1⟩
   have HZ10 := hide (show y1.heap[w.heap.size]? = some (.cells #[.int .i64 a, .int .i64 b, .int .i64 N, .slice A3 m3 c3] 71) by rw [← hy1]; exact HZ9.out)
   have HR10 : Hid (Rr 107 y1 r G (p, false)) := hide (by rw [← hy1]; exact HRr.out)
   have HR20 : Hid (Rr 107 y1 r2 F4 (0, false)) := hide (by rw [← hy1]; exact HR2.out)
   have HB10 : Hid (Below w.heap.size w y1) := hide (by rw [← hy1]; exact HB9.out.drew)
   have HOn10 : Hid (y1.ownsRow (w.heap.size + 1) 5 1 (.slice A3 m3 c3) m3 (u8s bb)) := hide (by rw [← hy1]; exact HOn.out.drew)
   have sy1 : w9.heap.size ≤ y1.heap.size := by rw [← hy1]; exact Nat.le_refl _
   have hS1 := (show (fun w9 : World => w9.cell? ⟨w.heap.size, 0, none⟩ = some (.int .i64 a) ∧ w9.cell? ⟨w.heap.size, 1, none⟩ = some (.int .i64 b) ∧ w9.cell? ⟨w.heap.size, 2, none⟩ = some (.int .i64 N) ∧ w9.cell? ⟨w.heap.size, 3, none⟩ = some (.slice A3 m3 c3)) y1 from ⟨cell_of_row _ _ 0 _ _ _ HZ10.out, cell_of_row _ _ 1 _ _ _ HZ10.out, cell_of_row _ _ 2 _ _ _ HZ10.out, cell_of_row _ _ 3 _ _ _ HZ10.out⟩)
   clear hy1
   dsimp only
   go_wp2_with fail
   refine hK.out _ _ hS1 (fun hSn => ?_)
   clear hK K
   try simp only [zqd, zqe, zqf]
   refine tk 5 61 ?_ ?_ ?_; rotate_left; (focus (intro w h; go_simp; (try with_reducible rfl))); (try simp only [zqd, zqe, zqf])
   refine tk 6 62 ?_ ?_ ?_; rotate_left; (focus (intro w h; go_simp; (try with_reducible rfl))); (try simp only [zqd, zqe, zqf])
   refine tk 7 63 ?_ ?_ ?_; rotate_left; (focus (intro w h; go_simp; (try with_reducible rfl))); (try simp only [zqd, zqe, zqf])
   refine call_at (i := 8) (d := 64) (by simp only [zqa, zqb, zqc]; rfl) rfl (by kernel_rfl) rfl (fun K hK => ?_)
   go_simp
   refine (left_any y1 r G _ HR10.out).mono ?_
   rintro e y2 ⟨rfl, hz⟩
   dsimp only
   rw [HLf.out]
   have HZ11 := hide ((hz.block _ (by omega)).trans HZ10.out)
   have HR21 := hide (HR20.out.below hz)
   have HB11 := hide (HB10.out.trans (hz.mono (by omega)))
   have HOn11 := hide (own_below HOn10.out hz (fun g hg => (HOn10.out.lt g hg).2))
   have sy2 : w9.heap.size ≤ y2.heap.size := Nat.le_trans sy1 hz.size
   have hS2 := (show (fun w9 : World => w9.cell? ⟨w.heap.size, 0, none⟩ = some (.int .i64 a) ∧ w9.cell? ⟨w.heap.size, 1, none⟩ = some (.int .i64 b) ∧ w9.cell? ⟨w.heap.size, 2, none⟩ = some (.int .i64 N) ∧ w9.cell? ⟨w.heap.size, 3, none⟩ = some (.slice A3 m3 c3)) y2 from ⟨cell_of_row _ _ 0 _ _ _ HZ11.out, cell_of_row _ _ 1 _ _ _ HZ11.out, cell_of_row _ _ 2 _ _ _ HZ11.out, cell_of_row _ _ 3 _ _ _ HZ11.out⟩)
   clear hz
   go_wp2_with fail
   refine hK.out _ _ hS2 (fun hSn => ?_)
   clear hK K
   try simp only [zqd, zqe, zqf]
   refine tk 9 65 ?_ ?_ ?_; rotate_left; (focus (intro w h; go_simp; (try with_reducible rfl))); (try simp only [zqd, zqe, zqf])
   refine tk 10 66 ?_ ?_ ?_; rotate_left; (focus (intro w h; go_simp; (try with_reducible rfl))); (try simp only [zqd, zqe, zqf])
   refine tk 11 67 ?_ ?_ ?_; rotate_left; (focus (intro w h; go_simp; (try with_reducible rfl))); (try simp only [zqd, zqe, zqf])
   refine tk 12 68 ?_ ?_ ?_; rotate_left; (focus (intro w h; go_simp; (try with_reducible rfl))); (try simp only [zqd, zqe, zqf])
   refine tk 13 69 ?_ ?_ ?_; rotate_left; (focus (intro w h; go_simp; (try with_reducible rfl))); (try simp only [zqd, zqe, zqf])
   refine tk 14 70 ?_ ?_ ?_; rotate_left; (focus (intro w h; go_simp; (try with_reducible rfl))); (try simp only [zqd, zqe, zqf])
   refine tk 15 71 ?_ ?_ ?_; rotate_left; (focus (intro w h; go_simp; (try with_reducible rfl))); (try simp only [zqd, zqe, zqf])
   refine tk 16 72 ?_ ?_ ?_; rotate_left; (focus (intro w h; go_simp; (try with_reducible rfl))); (try simp only [zqd, zqe, zqf])
   refine tk 17 73 ?_ ?_ ?_; rotate_left; (focus (intro w h; go_simp; (try with_reducible rfl))); (try simp only [zqd, zqe, zqf])
   refine tk 18 74 ?_ ?_ ?_; rotate_left; (focus (intro w h; go_simp; (try with_reducible rfl))); (try simp only [zqd, zqe, zqf])
   refine tk 19 75 ?_ ?_ ?_; rotate_left; (focus (intro w h; go_simp; (try with_reducible rfl))); (try simp only [zqd, zqe, zqf])
   refine tk 20 76 ?_ ?_ ?_; rotate_left; (focus (intro w h; go_simp; (try with_reducible rfl))); (try simp only [zqd, zqe, zqf])
   refine tk 21 77 ?_ ?_ ?_; rotate_left; (focus (intro w h; go_simp; (try with_reducible rfl))); (try simp only [zqd, zqe, zqf])
   refine tk 22 78 ?_ ?_ ?_; rotate_left; (focus (intro w hSw; go_simp; rw [HMn.out]; (try with_reducible rfl); done)); (try simp only [zqd, zqe, zqf])
   refine tk 23 79 ?_ ?_ ?_; rotate_left; (focus (intro w h; go_simp; (try with_reducible rfl))); (try simp only [zqd, zqe, zqf])
   refine tk 24 80 ?_ ?_ ?_; rotate_left; (focus (intro w h; go_simp; (try with_reducible rfl))); (try simp only [zqd, zqe, zqf])
   refine tk 25 81 ?_ ?_ ?_; rotate_left; (focus (intro w h; go_simp; (try with_reducible rfl))); (try simp only [zqd, zqe, zqf])
   refine tk 26 82 ?_ ?_ ?_; rotate_left; (focus (intro w h; go_simp; (try with_reducible rfl))); (try simp only [zqd, zqe, zqf])
   refine tk 27 83 ?_ ?_ ?_; rotate_left; (focus (intro w h; go_simp; (try with_reducible rfl))); (try simp only [zqd, zqe, zqf])
   refine tk 28 84 ?_ ?_ ?_; rotate_left; (focus (intro w h; go_simp; (try with_reducible rfl))); (try simp only [zqd, zqe, zqf])
   refine tk 29 85 ?_ ?_ ?_; rotate_left; (focus (intro w h; go_simp; (try with_reducible rfl))); (try simp only [zqd, zqe, zqf])
   refine tk 30 86 ?_ ?_ ?_; rotate_left; (focus (intro w h; go_simp; (try with_reducible rfl))); (try simp only [zqd, zqe, zqf])
   refine tk 31 87 ?_ ?_ ?_; rotate_left; (focus (intro w h; go_simp; (try with_reducible rfl))); (try simp only [zqd, zqe, zqf])
   refine tk 32 88 ?_ ?_ ?_; rotate_left; (focus (intro w hSw; go_simp; (first | rw [HMx.out] | trace_state); (try with_reducible rfl); done)); (try simp only [zqd, zqe, zqf])
   refine tk 33 89 ?_ ?_ ?_; rotate_left; (focus (intro w h; go_simp; (try with_reducible rfl))); (try simp only [zqd, zqe, zqf])
   refine tk 34 90 ?_ ?_ ?_; rotate_left; (focus (intro w h; go_simp; (try with_reducible rfl))); (try simp only [zqd, zqe, zqf])
   refine tk 35 91 ?_ ?_ ?_; rotate_left; (focus (intro w h; go_simp; (try with_reducible rfl))); (try simp only [zqd, zqe, zqf])
   refine tk 36 92 ?_ ?_ ?_; rotate_left; (focus (intro w h; go_simp; (try with_reducible rfl))); (try simp only [zqd, zqe, zqf])
   refine tk 38 94 ?_ ?_ ?_; rotate_left; (focus (intro w h; go_simp; (try with_reducible rfl))); (try simp only [zqd, zqe, zqf])
   refine tk 39 95 ?_ ?_ ?_; rotate_left; (focus (intro w h; go_simp; (try with_reducible rfl))); (try simp only [zqd, zqe, zqf])
   refine tk 40 96 ?_ ?_ ?_; rotate_left; (focus (intro w h; go_simp; (try with_reducible rfl))); (try simp only [zqd, zqe, zqf])
   refine tk 41 97 ?_ ?_ ?_; rotate_left; (focus (intro w h; go_simp; (try with_reducible rfl))); (try simp only [zqd, zqe, zqf])
   refine tk 42 98 ?_ ?_ ?_; rotate_left; (focus (intro w h; go_simp; (try with_reducible rfl))); (try simp only [zqd, zqe, zqf])
   refine call_at (i := 37) (d := 93) (by simp only [zqa, zqb, zqc]; rfl) rfl (by kernel_rfl) rfl (fun K hK => ?_)
   go_simp
   refine (get32 y2 r2 F4 (0, false) HR21.out).mono ?_
   rintro e y3 ⟨rfl, -, hz⟩
   rw [HSm2.out]
   have HZ12 := hide ((hz.block _ (by omega) hHr2).trans HZ11.out)
   have HB12 := hide (HB11.out.trans (hz.below (by omega) (by omega)))
   have HOn12 := hide (own_same HOn11.out (fun g hg => hz.block g ((HOn11.out.lt g hg).2) (Nat.ne_of_lt (HOr2.out g hg))))
   have sy3 : w9.heap.size ≤ y3.heap.size := Nat.le_trans sy2 hz.size
   have hS3 := (show (fun w9 : World => w9.cell? ⟨w.heap.size, 0, none⟩ = some (.int .i64 a) ∧ w9.cell? ⟨w.heap.size, 1, none⟩ = some (.int .i64 b) ∧ w9.cell? ⟨w.heap.size, 2, none⟩ = some (.int .i64 N) ∧ w9.cell? ⟨w.heap.size, 3, none⟩ = some (.slice A3 m3 c3)) y3 from ⟨cell_of_row _ _ 0 _ _ _ HZ12.out, cell_of_row _ _ 1 _ _ _ HZ12.out, cell_of_row _ _ 2 _ _ _ HZ12.out, cell_of_row _ _ 3 _ _ _ HZ12.out⟩)
   clear hz
   go_wp2_with fail
   refine hK.out _ _ hS3 (fun hSn => ?_)
   clear hK K
   try simp only [zqd, zqe, zqf]
   refine call_at (i := 43) (d := 99) (by simp only [zqa, zqb, zqc]; rfl) rfl (by kernel_rfl) rfl (fun K hK => ?_)
   go_simp
   have hcl := sum_any G (some ⟨b0, off, none⟩) c w.heap.size y3 (HRG.out.below HB12.out) (by omega) (by rw [HGl.out]; omega)
   rw [HGl.out, HSm.out] at hcl
   refine hcl.mono ?_
   clear hcl
   rintro e y4 ⟨rfl, hz⟩
   have HZ13 := hide ((hz.block _ (by omega)).trans HZ12.out)
   have HB13 := hide (HB12.out.trans (hz.mono (by omega)))
   have HOn13 := hide (own_below HOn12.out hz (fun g hg => (HOn12.out.lt g hg).2))
   have hS4 := (show (fun w9 : World => w9.cell? ⟨w.heap.size, 0, none⟩ = some (.int .i64 a) ∧ w9.cell? ⟨w.heap.size, 1, none⟩ = some (.int .i64 b) ∧ w9.cell? ⟨w.heap.size, 2, none⟩ = some (.int .i64 N) ∧ w9.cell? ⟨w.heap.size, 3, none⟩ = some (.slice A3 m3 c3)) y4 from ⟨cell_of_row _ _ 0 _ _ _ HZ13.out, cell_of_row _ _ 1 _ _ _ HZ13.out, cell_of_row _ _ 2 _ _ _ HZ13.out, cell_of_row _ _ 3 _ _ _ HZ13.out⟩)
   clear hz
   go_wp2_with fail
   refine hK.out _ _ hS4 (fun hSn => ?_)
   clear hK K
   try simp only [zqd, zqe, zqf]
   refine tk 44 100 ?_ ?_ ?_; rotate_left; (focus (intro w h; go_simp; (try with_reducible rfl))); (try simp only [zqd, zqe, zqf])
   refine tk 45 101 ?_ ?_ ?_; rotate_left; (focus (intro w h; go_simp; (try with_reducible rfl))); (try simp only [zqd, zqe, zqf])
   refine wpAnyH_done (by kernel_rfl) ?_ _
   clear hS0 hS1 hS2 hS3 hS4
   clear k0 k1 k2 k3
   obtain ⟨yf, hyf⟩ : ∃ z : World, y4 = z := ⟨_, rfl⟩
   have ZW : Hid (yf.heap[w.heap.size]? = some (.cells #[.int .i64 a, .int .i64 b, .int .i64 N, .slice A3 m3 c3] 71)) := hide (by rw [← hyf]; exact HZ13.out)
   have HBf : Hid (Below w.heap.size w yf) := hide (by rw [← hyf]; exact HB13.out)
   have HOyf : Hid (yf.ownsRow (w.heap.size + 1) 5 1 (.slice A3 m3 c3) m3 (u8s bb)) := hide (by rw [← hyf]; exact HOn13.out)
   rw [hyf]
   clear hyf
   have HOf : Hid (yf.ownsRow (w.heap.size + 1) 5 1 (.slice A3 m3 c3) m3 (u8s bb)) := HOyf
   have zc0 : yf.cell? ⟨w.heap.size, 0, none⟩ = some (.int .i64 a) := cell_of_row _ _ 0 _ _ _ ZW.out
   have zcf0 : yf.frozen? ⟨w.heap.size, 0, none⟩ = false := frozen_of_row _ _ 0 _ _ ZW.out
   have zc1 : yf.cell? ⟨w.heap.size, 1, none⟩ = some (.int .i64 b) := cell_of_row _ _ 1 _ _ _ ZW.out
   have zcf1 : yf.frozen? ⟨w.heap.size, 1, none⟩ = false := frozen_of_row _ _ 1 _ _ ZW.out
   have zc2 : yf.cell? ⟨w.heap.size, 2, none⟩ = some (.int .i64 N) := cell_of_row _ _ 2 _ _ _ ZW.out
   have zcf2 : yf.frozen? ⟨w.heap.size, 2, none⟩ = false := frozen_of_row _ _ 2 _ _ ZW.out
   have zc3 : yf.cell? ⟨w.heap.size, 3, none⟩ = some (.slice A3 m3 c3) := cell_of_row _ _ 3 _ _ _ ZW.out
   have zcf3 : yf.frozen? ⟨w.heap.size, 3, none⟩ = false := frozen_of_row _ _ 3 _ _ ZW.out
   have HFc : Hid ((tg = 2 ∧ q = 17 ∧ a = (ep : Int) ∧ b = (hh : Int) ∧ N = 0 ∧ m3 = 0 ∧ ep ≤ 4611686018427387904 ∧ hh ≤ 4611686018427387904) ∨ (tg = 1 ∧ 25 ≤ q ∧ a = (ep : Int) ∧ b = (hh : Int) ∧ N = (n : Int) ∧ m3 = q - 25 ∧ 1 ≤ n ∧ n ≤ 4611686018427387904 ∧ q - 25 ≤ 1048576 ∧ ep ≤ 4611686018427387904 ∧ hh ≤ 4611686018427387904)) := hide (by
     have hq1 := HMn2.out; have hq2 := HMx2.out; have hf1 := HF1.out; have ha1 := HA1.out; have hb1 := HB1n.out; have hl9 := HLq.out
     omega)
   have HCE := hide cE
   clear cE cE1 cE2
   have HFin := hide (four_fin (.int .i64 a) (.int .i64 b) (.int .i64 N) (.slice A3 m3 c3) (.int .i64 a) (.int .i64 b) (.int .i64 N) (.slice A3 m3 c3) (Nat.le_refl w.heap.size) ZW.out HBf.out)
   go_wp2
   obtain ⟨f9, hf, hfB, h6, hfs, hfo⟩ := HFin.out
   rw [hf]
   have y0 : f9.cell? ⟨w.heap.size, 0, none⟩ = some (.int .i64 a) := cell_of_row _ _ 0 _ _ _ h6
   have y1 : f9.cell? ⟨w.heap.size, 1, none⟩ = some (.int .i64 b) := cell_of_row _ _ 1 _ _ _ h6
   have y2 : f9.cell? ⟨w.heap.size, 2, none⟩ = some (.int .i64 N) := cell_of_row _ _ 2 _ _ _ h6
   have y3 : f9.cell? ⟨w.heap.size, 3, none⟩ = some (.slice A3 m3 c3) := cell_of_row _ _ 3 _ _ _ h6
   have o9 := own_same HOf.out (fun g hg => hfo g (fun e => by have h9 := (HOf.out.lt g hg).1; omega))
   rcases HFc.out with ⟨h1, h2, h3, h4, h5, h6, h7, h8⟩ | ⟨h1, h2, h3, h4, h5, h6, h7, h8, h9, h10, h11⟩
   ·have hbb : bb = [] := List.eq_nil_of_length_eq_zero (by rw [HM3.out, h6])
    have hre : readL f = some (ep, hh, 0, []) := by rw [HRD.out, if_neg (by have := HCE.out; omega), if_pos h1, if_pos h2]
    refine bodyPost_ret (v := .tuple #[.agg #[.int .i64 a, .int .i64 b, .int .i64 N, .slice A3 m3 c3], .bool true]) (by simp [results, Try.results31, go_sem, y0, y1, y2, y3]) rfl ⟨hfB, ?_⟩
    rw [hre]
    rw [hbb, h6] at o9
    exact ⟨A3, c3, by rw [h3, h4, h5, h6]; rfl, own_base o9 (Nat.le_succ _)⟩
   ·have hbb : bb = G.drop 25 := by
     rcases HFa.out with ⟨_, _, _, k4, _⟩ | ⟨_, k2, _⟩ | ⟨k1, _⟩
     ·exact k4
     ·rw [HGl.out] at k2; omega
     ·exact absurd h1 k1
    have hre : readL f = some (ep, hh, n, G.drop 25) := by rw [HRD.out, if_neg (by have := HCE.out; omega), if_neg (by omega), if_pos h1, if_pos ⟨h2, h7, h8, h9⟩]
    refine bodyPost_ret (v := .tuple #[.agg #[.int .i64 a, .int .i64 b, .int .i64 N, .slice A3 m3 c3], .bool true]) (by simp [results, Try.results31, go_sem, y0, y1, y2, y3]) rfl ⟨hfB, ?_⟩
    rw [hre]
    have hml : m3 = (G.drop 25).length := by rw [← hbb]; exact HM3.out.symm
    rw [hbb, hml] at o9
    exact ⟨A3, c3, by rw [h3, h4, h5, hml], own_base o9 (Nat.le_succ _)⟩
end Go.Proofs.Ytigmmikijjcdiaa
