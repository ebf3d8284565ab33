/- Lemmas: Lor, Kn. -/
import Derived.Test.YtigmmikijjcdiaaProg
import Derived.Deep.DeepCutAuto
import Derived.Lib.Hide
import Derived.WalkSpells
import Derived.WalkMore
import Derived.IntWalk
import Derived.Lib.SlBytesConst
import Derived.Test.YtigmmikijjcdiaaLnWw3
import Derived.Test.YtigmmikijjcdiaaLnWw21
import Derived.Test.YtigmmikijjcdiaaLnWw26
import Derived.Test.YtigmmikijjcdiaaLnWw29
set_option linter.unusedVariables false
set_option linter.unusedSimpArgs false
set_option maxRecDepth 100000
set_option maxHeartbeats 16000000
namespace Go.Proofs.Ytigmmikijjcdiaa
open Go.RowKit
theorem NSt.bad {w : World} {L W P1 P2 a Q1 Q2 ep m n : Nat} (h : NSt w L W P1 P2 a Q1 Q2 ep m n) : w.cell? ⟨W, 4, none⟩ = some (.bool false) ∧ W < w.heap.size ∧ L < w.heap.size := by
 obtain ⟨E, Y, U, T, tag, B, ways, puts, gots, s, t, ws, wt, ps, pt, gs, gt, h1, h2, h3, h4⟩ := h
 exact ⟨cell_of_row _ _ 4 _ _ _ h1.wd, lt_of_block h1.wd, h2.low⟩
theorem NSt.drew {w : World} {L W P1 P2 a Q1 Q2 ep m n : Nat} (h : NSt w L W P1 P2 a Q1 Q2 ep m n) : NSt w.drew L W P1 P2 a Q1 Q2 ep m n := by
 obtain ⟨E, Y, U, T, tag, B, ways, puts, gots, s, t, ws, wt, ps, pt, gs, gt, h1, h2, h3, h4, h5, h6⟩ := h
 exact ⟨E, Y, U, T, tag, B, ways, puts, gots, s, t, ws, wt, ps, pt, gs, gt, h1.next (Below.refl _ _).drew, h2.next (Below.refl _ _).drew, h3, h4, h5, h6⟩
def Pof (P1 P2 a : Nat) : Nat := if a = 0 then P1 else P2
theorem NSt.at_ {w : World} {L W P1 P2 ep m n : Nat} (h : NSt w L W P1 P2 0 P1 P2 ep m n) {a : Nat} (ha : a < 2) : NSt w L W P1 P2 a (Pof P1 P2 a) (Pof P1 P2 (1 - a)) ep m n := by
 rcases (show a = 0 ∨ a = 1 by omega) with rfl | rfl
 ·exact h
 ·exact h.swap (by decide)
theorem NSt.back {w : World} {L W P1 P2 ep m n a : Nat} (h : NSt w L W P1 P2 a (Pof P1 P2 a) (Pof P1 P2 (1 - a)) ep m n) (ha : a < 2) : NSt w L W P1 P2 0 P1 P2 ep m n := by
 rcases (show a = 0 ∨ a = 1 by omega) with rfl | rfl
 ·exact h
 ·exact h.swap (by decide)
def RC (tt : Nat) (s t : LE) (ps pt gs gt : List BL) : Prop := (1 ≤ tt → gt = ps) ∧ (2 ≤ tt → gs = pt ∧ s.sent = [])
def RCa (a tt : Nat) (s t : LE) (ps pt gs gt : List BL) : Prop := if a = 0 then RC tt s t ps pt gs gt else RC tt t s pt ps gt gs
theorem RSt.at_ {w : World} {L W P1 P2 ep n tt : Nat} (h : RSt w L W P1 P2 0 P1 P2 ep n (RC tt)) {a : Nat} (ha : a < 2) : RSt w L W P1 P2 a (Pof P1 P2 a) (Pof P1 P2 (1 - a)) ep n (RCa a tt) := by
 rcases (show a = 0 ∨ a = 1 by omega) with rfl | rfl
 ·exact h
 ·exact h.swap (by decide)
theorem RSt.back {w : World} {L W P1 P2 ep n tt a : Nat} (h : RSt w L W P1 P2 a (Pof P1 P2 a) (Pof P1 P2 (1 - a)) ep n (RCa a tt)) (ha : a < 2) : RSt w L W P1 P2 0 P1 P2 ep n (RC tt) := by
 rcases (show a = 0 ∨ a = 1 by omega) with rfl | rfl
 ·exact h
 ·exact h.swap (by decide)
theorem RSt.drew {w : World} {L W P1 P2 a Q1 Q2 ep n : Nat} {C : LE → LE → List BL → List BL → List BL → List BL → Prop} (h : RSt w L W P1 P2 a Q1 Q2 ep n C) : RSt w.drew L W P1 P2 a Q1 Q2 ep n C := by
 obtain ⟨E, Y, U, T, tag, B, ways, puts, gots, s, t, ps, pt, gs, gt, h1, h2, h3⟩ := h
 exact ⟨E, Y, U, T, tag, B, ways, puts, gots, s, t, ps, pt, gs, gt, h1.next (Below.refl _ _).drew, h2.next (Below.refl _ _).drew, h3⟩
theorem RCa.next {tt a : Nat} {s s' t t' : LE} {ps pt gs gt : List BL} (h : RCa a tt s t ps pt gs gt) (ha : tt % 2 = a) (hd : Dir t s pt gs) (h1 : s'.sent = s.sent) (h2 : s.heard = pt.length → t'.sent = []) : RCa a (tt + 1) s' t' ps pt gs ps := by
 unfold RCa at h ⊢
 by_cases h0 : a = 0
 ·rw [if_pos h0] at h ⊢
  refine ⟨fun _ => rfl, fun h3 => ?_⟩
  have := h.2 (by omega)
  exact ⟨this.1, by rw [h1]; exact this.2⟩
 ·rw [if_neg h0] at h ⊢
  have hg := h.1 (by omega)
  refine ⟨fun _ => hg, fun _ => ⟨rfl, h2 ?_⟩⟩
  rw [hd.heard, hg]
def totB (xs : List Stp4) : Nat := (xs.map fun x => x.b.length).sum
theorem totB_snoc (xs : List Stp4) (x : Stp4) : totB (xs ++ [x]) = totB xs + x.b.length := by unfold totB; simp
theorem linkOrder_walk (w : World) (ep : Int) (ha1 : -9223372036854775808 ≤ ep) (ha2 : ep ≤ 9223372036854775807) (A : Option Addr) (xs : List Stp4) (c : Nat) (hI : Stps w w.heap.size A xs) (hc1 : xs.length ≤ c) (hc2 : c ≤ 9223372036854775807) :
  Calls Try.prog 5 #[.int .i64 ep, .slice A xs.length c] w fun e w' => e = .returned (.bool true) ∧ Below w.heap.size w w' := by
 obtain ⟨n, hn⟩ : ∃ n, xs.length = n := ⟨_, rfl⟩
 rw [hn] at hc1 ⊢
 have HN := hide hn
 have HI := hide hI
 clear hn hI
 by_cases n0 : (400 : Int) < (n : Int)
 ·go_enter Try.func5, Try.ntmps5
  go_wp2_with fail
  refine (works_any _).mono ?_
  rintro e w1 ⟨rfl, hb⟩
  have HB := hide hb
  clear hb
  go_wp2
  go_ret
  exact ⟨rfl, HB.out⟩
 by_cases a0 : ep < 0
 ·go_enter Try.func5, Try.ntmps5
  go_wp2_with fail
  refine (works_any _).mono ?_
  rintro e w1 ⟨rfl, hb⟩
  have HB := hide hb
  clear hb
  go_wp2
  go_ret
  exact ⟨rfl, HB.out⟩
 by_cases a1 : 4611686018427387904 < ep
 ·go_enter Try.func5, Try.ntmps5
  go_wp2_with fail
  refine (works_any _).mono ?_
  rintro e w1 ⟨rfl, hb⟩
  have HB := hide hb
  clear hb
  go_wp2
  go_ret
  exact ⟨rfl, HB.out⟩
 obtain ⟨ea, rfl⟩ := Int.eq_ofNat_of_zero_le (show 0 ≤ ep by omega)
 have hea : ea ≤ 4611686018427387904 := by omega
 have hn4 : n ≤ 400 := by omega
 obtain ⟨L, hL⟩ : ∃ z, w.heap.size = z := ⟨_, rfl⟩
 go_enter Try.func5, Try.ntmps5
 go_wp2
 go_loopw [5, 6] (fun v5 v6 wr => ∃ (i t : Nat), i ≤ n ∧ t ≤ 5000 ∧ v5 = .int .i64 (t : Int) ∧ v6 = .int .i64 (i : Int) ∧ w = wr ∧ Hid (totB (xs.take i) = t) ∧ Hid (∀ x ∈ xs.take i, x.b.length ≤ 5000)) (fun _ v6 _ => n - (intOf v6).toNat)
 case atStart => exact ⟨0, 0, by omega, by omega, rfl, rfl, rfl, hide rfl, hide (fun x hx => by simp at hx)⟩
 case round =>
  obtain ⟨i, t, hi, ht, rfl, rfl, rfl, HT, HX⟩ := hrel
  by_cases hlt : i < n
  ·have hI1 : (i : Int) < (n : Int) := by omega
   have hI0 : (0 : Int) ≤ (i : Int) := by omega
   obtain ⟨x, hx⟩ : ∃ x, xs[i]? = some x := ⟨_, List.getElem?_eq_getElem (by rw [HN.out]; exact hlt)⟩
   obtain ⟨g, off, rfl, hg, -, -, -, q3, -, hok⟩ := HI.out.get hx
   obtain ⟨bl, hbl⟩ : ∃ z, x.b.length = z := ⟨_, rfl⟩
   rw [hbl] at q3
   have HBl := hide hbl
   have HXi := hide hx
   have hblb : bl ≤ 140737488351232 := by rw [← hbl]; exact hok.2.2.2
   have kw : IntKind.i64.wrap (5000 - (t : Int)) = 5000 - (t : Int) := IntWalk.i64_in _ (by omega)
   clear hbl hx hok
   by_cases hbig : 5000 - (t : Int) < (bl : Int)
   ·go_wp2_with fail
    refine (works_any _).mono ?_
    rintro e w3 ⟨rfl, hb3⟩
    have HB3 := hide hb3
    clear hb3 q3
    go_wp2
    go_ret
    exact ⟨rfl, HB3.out⟩
   have kw2 : IntKind.i64.wrap ((t : Int) + (bl : Int)) = ((t + bl : Nat) : Int) := by rw [IntWalk.i64_in _ (by omega)]; omega
   have HT2 : Hid (totB (xs.take (i + 1)) = t + bl) := hide (by rw [List.take_add_one, HXi.out]; show totB (xs.take i ++ [x]) = _; rw [totB_snoc, HT.out, HBl.out])
   have HX2 : Hid (∀ z ∈ xs.take (i + 1), z.b.length ≤ 5000) := hide (fun z hz => by rw [List.take_add_one, HXi.out] at hz; rcases List.mem_append.1 hz with hz | hz; exact HX.out z hz; simp at hz; subst hz; rw [HBl.out]; omega)
   go_wp2
   go_roundw
   case rel => exact ⟨i + 1, t + bl, by omega, by omega, by first | rfl | go_num, by go_num, by first | rfl | trivial, HT2, HX2⟩
   case measure => simp [intOf]; omega
  have hI1 : ¬ (i : Int) < (n : Int) := by omega
  obtain rfl : i = n := by omega
  have HX0 : Hid (∀ z ∈ xs, z.b.length ≤ 5000) := hide (by have h := HX.out; rwa [List.take_of_length_le (by rw [HN.out]; exact Nat.le_refl _)] at h)
  clear HX HT
  go_upto_region 10 with fail
  go_cut [7] (fun v7 wc => ∃ W P1 P2 : Nat, v7 = .pointer (some ⟨W, 0, none⟩) ∧ Hid (NSt wc L W P1 P2 0 P1 P2 ea 0 0) ∧ Hid (Below L w wc))
  case first =>
   have kmk : ∀ w : World, (Instr.makeSlice 43 (.int .i64 2) (.int .i64 2)).run Try.prog w = .ok (.slice (some ⟨w.heap.size, 0, none⟩) 2 2) (w.alloc (.cells #[.slice none 0 0, .slice none 0 0] 48)) := fun w => by kernel_rfl
   refine region_inv [49, 50, 51, 52, 53, 54, 55, 56, 57, 58, 7] (OpenC L ea w) (by kernel_rfl) (by kernel_rfl) (by kernel_rfl) (OpenC.start hL _) ?_ ?_
   ·intro i o d l u w1 ho hd hl hp hC K hK
    rcases i with _ | _ | _ | _ | _ | _ | _ | _ | _ | _ | _ | i
    ·simp only [List.getElem?_toArray, List.getElem?_cons_succ, List.getElem?_cons_zero] at ho
     injection ho with ho
     subst ho
     injection hd with hd
     subst hd
     clear hp
     simp only [actD, List.foldl_cons, List.foldl_nil, List.setIfInBounds_toArray, List.set_cons_zero, List.set_cons_succ] at hK ⊢
     have HK := hide hK
     clear hK
     go_wp2_with fail
     refine HK.out _ _ ?_
     exact hC.s0 hl (Below.refl _ _) rfl
    ·simp only [List.getElem?_toArray, List.getElem?_cons_succ, List.getElem?_cons_zero] at ho
     injection ho with ho
     subst ho
     injection hd with hd
     subst hd
     have hp0 : l 0 = true := hp { on := 0, ground := .data } (by simp) (by rfl)
     have hu := hC.c0 hp0
     clear hp
     simp only [actD, List.foldl_cons, List.foldl_nil, List.setIfInBounds_toArray, List.set_cons_zero, List.set_cons_succ] at hK ⊢
     rw [hu] at hK ⊢
     have HK := hide hK
     clear hK
     have ho1 := lopen_any w1 (ea : Int)
     rw [epN_small hea] at ho1
     have HO1 := hide ho1
     clear ho1
     go_simp
     go_wp2_with fail
     refine HO1.out.mono ?_
     rintro e w2 ⟨P, M, rfl, hE, hp1, hm1, hb⟩
     go_wp2_with fail
     refine HK.out _ _ ?_
     exact hC.s1 hl hp0 hb ⟨P, M, rfl, hE, Nat.le_trans hC.low hp1, Nat.le_trans hC.low hm1⟩
    ·simp only [List.getElem?_toArray, List.getElem?_cons_succ, List.getElem?_cons_zero] at ho
     injection ho with ho
     subst ho
     injection hd with hd
     subst hd
     clear hp
     simp only [actD, List.foldl_cons, List.foldl_nil, List.setIfInBounds_toArray, List.set_cons_zero, List.set_cons_succ] at hK ⊢
     have HK := hide hK
     clear hK
     go_wp2_with fail
     refine HK.out _ _ ?_
     exact hC.s2 hl (Below.refl _ _) rfl
    ·simp only [List.getElem?_toArray, List.getElem?_cons_succ, List.getElem?_cons_zero] at ho
     injection ho with ho
     subst ho
     injection hd with hd
     subst hd
     have hp1 : l 1 = true := hp { on := 1, ground := .chain } (by simp) (by rfl)
     have hp2 : l 2 = true := hp { on := 2, ground := .data } (by simp) (by rfl)
     have hu := hC.c2 hp2
     clear hp
     simp only [actD, List.foldl_cons, List.foldl_nil, List.setIfInBounds_toArray, List.set_cons_zero, List.set_cons_succ] at hK ⊢
     rw [hu] at hK ⊢
     have HK := hide hK
     clear hK
     have ho1 := lopen_any w1 (ea : Int)
     rw [epN_small hea] at ho1
     have HO1 := hide ho1
     clear ho1
     go_simp
     go_wp2_with fail
     refine HO1.out.mono ?_
     rintro e w2 ⟨P, M, rfl, hE, hp1', hm1, hb⟩
     go_wp2_with fail
     refine HK.out _ _ ?_
     obtain ⟨P1, M1, e1, hE1, q1, q2⟩ := hC.c1 hp1
     obtain ⟨_, _, r1, -⟩ := hE1.row
     obtain ⟨_, _, _, _, _, _, _, _, _, ⟨⟨es1, cl1, m1, _⟩, _⟩, _⟩ := id hE1
     have l1 := lt_of_block r1
     have l2 := lt_of_block m1
     exact hC.s3 hl hp1 hp2 hb ⟨P1, M1, P, M, e1, rfl, hE1.next hb, hE, by omega, by omega, q1, q2, Nat.le_trans hC.low hp1', Nat.le_trans hC.low hm1⟩
    ·simp only [List.getElem?_toArray, List.getElem?_cons_succ, List.getElem?_cons_zero] at ho
     injection ho with ho
     subst ho
     injection hd with hd
     subst hd
     have hp3 : l 3 = true := hp { on := 3, ground := .data } (by simp) (by rfl)
     obtain ⟨P1, M1, P2, M2, e1, e2, -⟩ := hC.c3 hp3
     clear hp
     simp only [actD, List.foldl_cons, List.foldl_nil, List.setIfInBounds_toArray, List.set_cons_zero, List.set_cons_succ] at hK ⊢
     rw [e1, e2] at hK ⊢
     have HK := hide hK
     clear hK
     go_simp
     go_wp2_with fail
     refine HK.out _ _ ?_
     exact hC.s4 hl hp3 ((Below.refl _ _).alloc (Nat.le_refl _) _) ⟨_, rfl, by rw [e1, e2]; exact heap_alloc_last _ _, hC.low⟩
    ·simp only [List.getElem?_toArray, List.getElem?_cons_succ, List.getElem?_cons_zero] at ho
     injection ho with ho
     subst ho
     injection hd with hd
     subst hd
     clear hp
     simp only [actD, List.foldl_cons, List.foldl_nil, List.setIfInBounds_toArray, List.set_cons_zero, List.set_cons_succ] at hK ⊢
     have HK := hide hK
     clear hK
     go_simp
     refine HK.out _ _ ?_
     exact hC.s5 hl ((Below.refl _ _).alloc (Nat.le_refl _) _) ⟨_, rfl, heap_alloc_last _ _, hC.low⟩ mk_ne
    ·simp only [List.getElem?_toArray, List.getElem?_cons_succ, List.getElem?_cons_zero] at ho
     injection ho with ho
     subst ho
     injection hd with hd
     subst hd
     clear hp
     simp only [actD, List.foldl_cons, List.foldl_nil, List.setIfInBounds_toArray, List.set_cons_zero, List.set_cons_succ] at hK ⊢
     have HK := hide hK
     clear hK
     go_simp
     refine HK.out _ _ ?_
     exact hC.s6 hl ((Below.refl _ _).alloc (Nat.le_refl _) _) ⟨_, rfl, heap_alloc_last _ _, hC.low⟩ mk_ne
    ·simp only [List.getElem?_toArray, List.getElem?_cons_succ, List.getElem?_cons_zero] at ho
     injection ho with ho
     subst ho
     injection hd with hd
     subst hd
     clear hp
     simp only [actD, List.foldl_cons, List.foldl_nil, List.setIfInBounds_toArray, List.set_cons_zero, List.set_cons_succ] at hK ⊢
     have HK := hide hK
     clear hK
     go_simp
     refine HK.out _ _ ?_
     exact hC.s7 hl ((Below.refl _ _).alloc (Nat.le_refl _) _) ⟨_, rfl, heap_alloc_last _ _, hC.low⟩ mk_ne
    ·simp only [List.getElem?_toArray, List.getElem?_cons_succ, List.getElem?_cons_zero] at ho
     injection ho with ho
     subst ho
     injection hd with hd
     subst hd
     have hp4 : l 4 = true := hp { on := 4, ground := .data } (by simp) (by rfl)
     have hp5 : l 5 = true := hp { on := 5, ground := .data } (by simp) (by rfl)
     have hp6 : l 6 = true := hp { on := 6, ground := .data } (by simp) (by rfl)
     have hp7 : l 7 = true := hp { on := 7, ground := .data } (by simp) (by rfl)
     obtain ⟨ge, e1, -⟩ := hC.c4 hp4
     obtain ⟨gy, e2, -⟩ := hC.c5 hp5
     obtain ⟨gu, e3, -⟩ := hC.c6 hp6
     obtain ⟨gt, e4, -⟩ := hC.c7 hp7
     clear hp
     simp only [actD, List.foldl_cons, List.foldl_nil, List.setIfInBounds_toArray, List.set_cons_zero, List.set_cons_succ] at hK ⊢
     rw [e1, e2, e3, e4] at hK ⊢
     have HK := hide hK
     clear hK
     go_wp2_with fail
     refine HK.out _ _ ?_
     exact hC.s8 hl hp4 hp5 hp6 hp7 (Below.refl _ _) (by rw [e1, e2, e3, e4])
    ·simp only [List.getElem?_toArray, List.getElem?_cons_succ, List.getElem?_cons_zero] at ho
     injection ho with ho
     subst ho
     injection hd with hd
     subst hd
     have hp8 : l 8 = true := hp { on := 8, ground := .data } (by simp) (by rfl)
     have hu := hC.c8 hp8
     clear hp
     simp only [actD, List.foldl_cons, List.foldl_nil, List.setIfInBounds_toArray, List.set_cons_zero, List.set_cons_succ] at hK ⊢
     rw [hu] at hK ⊢
     have HK := hide hK
     clear hK
     go_simp
     refine HK.out _ _ ?_
     exact hC.s9 hl hp8 ((Below.refl _ _).alloc (Nat.le_refl _) _) ⟨_, rfl, heap_alloc_last _ _, hC.low⟩
    ·simp only [List.getElem?_toArray, List.getElem?_cons_succ, List.getElem?_cons_zero] at ho
     injection ho with ho
     subst ho
     injection hd with hd
     subst hd
     have hp9 : l 9 = true := hp { on := 9, ground := .phase } (by simp) (by rfl)
     clear hp
     simp only [actD, List.foldl_cons, List.foldl_nil, List.setIfInBounds_toArray, List.set_cons_zero, List.set_cons_succ] at hK ⊢
     have HK := hide hK
     clear hK
     go_wp2_with fail
     refine HK.out _ _ ?_
     exact hC.s10 hl hp9 (Below.refl _ _) rfl
    ·simp at ho
   ·intro l u w1 hall hC
    obtain ⟨W, P1, P2, h7, hns, hbl⟩ := hC.fin (fun q hq => hall q (by simpa using hq)) (.inr trivial)
    have HNs := hide hns
    have HBl0 := hide hbl
    clear hns hbl hC
    simp only [actD, List.foldl_cons, List.foldl_nil, List.setIfInBounds_toArray, List.set_cons_zero, List.set_cons_succ]
    rw [h7]
    simp only [Exit.then]
    go_step
    go_meet
    case rel => exact ⟨W, P1, P2, rfl, HNs, HBl0⟩
  case rest =>
   obtain ⟨W, P1, P2, rfl, HS0, HB0⟩ := hcut
   obtain ⟨wz, rfl⟩ : ∃ z : World, z = wc := ⟨_, rfl⟩
   go_wp2
   go_loopw [8] (fun v8 wr => ∃ j : Nat, j ≤ i ∧ v8 = .int .i64 (j : Int) ∧ Hid (NSt wr L W P1 P2 0 P1 P2 ea j j) ∧ Hid (Below L w wr)) (fun v8 _ => i - (intOf v8).toNat)
   case atStart => exact ⟨0, by omega, rfl, HS0, HB0⟩
   case round =>
    clear HS0 HB0
    obtain ⟨j, hj, rfl, hS, hB⟩ := hrel
    obtain ⟨x5, rfl⟩ : ∃ z : World, z = wr := ⟨_, rfl⟩
    by_cases hlt2 : j < i
    ·have hJ1 : (j : Int) < (i : Int) := by omega
     have hJ0 : (0 : Int) ≤ (j : Int) := by omega
     obtain ⟨x, hx⟩ : ∃ x, xs[j]? = some x := ⟨_, List.getElem?_eq_getElem (by rw [HN.out]; exact hlt2)⟩
     have hB0 := hB.out
     rw [← hL] at hB0
     obtain ⟨g, off, rfl, hg, q0, q1, q2, q3, hrd, hok⟩ := (HI.out.below hB0 (Nat.le_refl _)).get hx
     have hb5 := HX0.out x (List.mem_of_getElem? hx)
     rw [hL] at hrd hg
     obtain ⟨hbad, hWx, hLx⟩ := hS.out.bad
     have hgx : g < x5.heap.size := by omega
     obtain ⟨xk, xa, xn, xA, xb, xc⟩ := x
     dsimp only at q0 q1 q2 q3 hrd hok hb5
     obtain ⟨bl, hbl⟩ : ∃ z, xb.length = z := ⟨_, rfl⟩
     rw [hbl] at q3
     obtain ⟨ha, haa⟩ : ∃ z, xa % 2 = z := ⟨_, rfl⟩
     have ha2 : ha < 2 := by rw [← haa]; exact Nat.mod_lt _ (by decide)
     have HSt := hide (step_any x5 (hS.out.at_ ha2) ha2 (by omega) (by omega) xk xa xn hok.1 hok.2.1 hok.2.2.1 haa xA xb bl xc hbl hrd (by rw [← hbl]; exact hb5))
     clear hrd hok hb5 haa hbl hx hB0
     go_wp2_with fail
     refine HSt.out.mono ?_
     rintro e x6 ⟨rfl, hs6, hb6⟩
     have HS6 := hide (hs6.back ha2)
     have HB6 := hide (hB.out.trans hb6)
     obtain ⟨hbad6, hW6, -⟩ := HS6.out.bad
     clear hs6 hb6 HSt q0 q1 q2 q3 hbad
     go_wp2
     go_roundw
     case rel => exact ⟨j + 1, by omega, by go_num, HS6, HB6⟩
     case measure => simp [intOf]; omega
    obtain rfl : j = i := by omega
    have hJ1 : ¬ (j : Int) < (j : Int) := by omega
    have HR0 : Hid (RSt x5 L W P1 P2 0 P1 P2 ea (1000 + 1000 * 0) (RC 0)) := hide ((RSt.of_nst hS.out (by omega)).imp (by omega) (fun s t ps pt gs gt _ => ⟨fun h => absurd h (by decide), fun h => absurd h (by decide)⟩))
    go_wp2
    go_loopw [9] (fun v9 wr => ∃ tt : Nat, tt ≤ 4 ∧ v9 = .int .i64 (tt : Int) ∧ Hid (RSt wr L W P1 P2 0 P1 P2 ea (1000 + 1000 * tt) (RC tt)) ∧ Hid (Below L w wr)) (fun v9 _ => 4 - (intOf v9).toNat)
    case atStart => exact ⟨0, by omega, rfl, HR0, hB⟩
    case round =>
     clear HR0 hS hB
     obtain ⟨tt, htt, rfl, hR, hB⟩ := hrel
     obtain ⟨x6, rfl⟩ : ∃ z : World, z = wr := ⟨_, rfl⟩
     by_cases hlt3 : tt < 4
     ·have hI1 : (tt : Int) < 4 := by omega
      obtain ⟨a, haa⟩ : ∃ z, tt % 2 = z := ⟨_, rfl⟩
      have ha2 : a < 2 := by rw [← haa]; exact Nat.mod_lt _ (by decide)
      have hti : (tt : Int) % 2 = (a : Int) := by omega
      have htm : (tt : Int).tmod 2 = (a : Int) := by rw [Int.tmod_eq_emod_of_nonneg (by omega)]; exact hti
      obtain ⟨b, hb⟩ : ∃ z, 1 - a = z := ⟨_, rfl⟩
      have hb2 : b < 2 := by omega
      have kw : IntKind.i64.wrap (1 - (a : Int)) = (b : Int) := by rw [IntWalk.i64_in _ (by omega)]; omega
      have kw2 : (1 : Int) - (a : Int) = (b : Int) := by omega
      have ha0 : (0 : Int) ≤ (a : Int) := by omega
      have ha1 : (a : Int) < 2 := by omega
      have hb0 : (0 : Int) ≤ (b : Int) := by omega
      have hb1 : (b : Int) < 2 := by omega
      obtain ⟨N, hNn⟩ : ∃ z, 1000 + 1000 * tt = z := ⟨_, rfl⟩
      have hN5 : N ≤ 5000 := by omega
      have hRa := hR.out.at_ ha2
      rw [hb, hNn] at hRa
      obtain ⟨E, Y, U, T, tag, B, ways, puts, gots, s, t, ps, pt, gs, gt, hN, hT, hBw, hE1, hE2, hP, hG, ⟨hd1, hd2, he1, he2, hp1, hp2⟩, hC⟩ := hRa
      rw [hb] at hE2 hP hG
      have HN1 := hide hN
      have HT1 := hide hT
      have HE1 := hide hE1
      have HE2 := hide hE2
      have HP := hide hP
      have HG := hide hG
      have HD1 := hide hd1
      have HD2 := hide hd2
      have HEp := hide (And.intro he1 he2)
      have HC := hide hC
      have HAa := hide haa
      have HBb := hide hb
      have HNn := hide hNn
      have HOk := hide hT.ok1
      have hLx : L < x6.heap.size := hT.low
      have hp1' := hp1
      have hgl := hd1.glen
      have e0 : x6.cell? ⟨W, 0, none⟩ = some (.slice (some ⟨E, 0, none⟩) 2 2) := cell_of_row _ _ 0 _ _ _ hN.wd
      have hWx : W < x6.heap.size := lt_of_block hN.wd
      have hEx : E < x6.heap.size := lt_of_block hN.en
      clear hN hT hE2 hP hG hd1 hd2 he1 he2 hC haa hb hNn
      go_wp2_with fail
      refine (two_again HT1.out).mono ?_
      rintro e y1 ⟨v1, rfl, hf, ht, hm⟩
      obtain ⟨fs, hfs⟩ : ∃ z, (fromL s s.first true).1 = z := ⟨_, rfl⟩
      obtain ⟨s1, hs1⟩ : ∃ z, (fromL s s.first true).2 = z := ⟨_, rfl⟩
      rw [hfs] at hf
      rw [hs1] at ht
      obtain ⟨Af, cf, rfl⟩ := hf.rd.form
      obtain ⟨fl, hfl⟩ : ∃ z, fs.length = z := ⟨_, rfl⟩
      rw [hfl] at hf ⊢
      have hfl65 : fl ≤ 65 := by rw [← hfl, ← hfs]; have h1 := HOk.out.sent; have h2 : s.first + s.sent.length = s.next := (by have := HOk.out.first; unfold LE.first; omega); rcases from_len s s.first true with h | ⟨_, h⟩ <;> omega
      have HFs := hide hfs
      have HS1 := hide hs1
      have HFl := hide hfl
      have HT2 := hide ht
      have HF2 : Hid (FRw y1 x6.heap.size (.slice Af fl cf) fs) := hide hf
      have HN2 := hide (HN1.out.mid hm)
      have HB2 : Hid (Below L w y1) := hide (hB.out.trans (hm.toBelow (Nat.le_of_lt hLx)))
      have HZ2 : Hid (B ≤ y1.heap.size) := hide (Nat.le_trans hBw hm.1)
      have HY1 := hide ((HN2.out.ptr HN1.out a).trans HE1.out)
      have HY2 := hide ((HN2.out.ptr HN1.out b).trans HE2.out)
      have HRn : Hid (Rnd s t ps pt gs gt 0) := hide (Rnd.start HD1.out HD2.out (HEp.out.1.trans HEp.out.2.symm))
      have HNs : Hid (∃ tag', NetM y1 L W E Y U T P1 P2 tag' ways puts (gots.set b gt) false ∧ Two y1 L B (N + 0) (Pof P1 P2 a) (Pof P1 P2 b) s1 t ∧ B ≤ y1.heap.size) := hide ⟨tag, by rw [set_self HG.out.2]; exact HN2.out, HT2.out, HZ2.out⟩
      clear hf ht hm hfs hs1 hfl e0 hE1
      go_wp2
      go_loopw [11] (fun v11 wr => ∃ (i1 : Nat) (t1 : LE) (g1 : List BL), i1 ≤ fl ∧ v11 = .int .i64 (i1 : Int) ∧ Hid (∃ tag', NetM wr L W E Y U T P1 P2 tag' ways puts (gots.set b g1) false ∧ Two wr L B (N + i1) (Pof P1 P2 a) (Pof P1 P2 b) s1 t1 ∧ B ≤ wr.heap.size) ∧ Hid (Below L w wr) ∧ Hid (FRw wr x6.heap.size (.slice Af fl cf) fs) ∧ Hid (Rnd s t1 ps pt gs g1 i1)) (fun v11 _ => fl - (intOf v11).toNat)
      case atStart => exact ⟨0, t, gt, by omega, rfl, HNs, HB2, HF2, HRn⟩
      case round =>
       clear HNs HB2 HF2 HRn HT2
       obtain ⟨i1, t1, g1, hi1, rfl, hNs, hB4, hF4, hRn⟩ := hrel
       obtain ⟨x7, rfl⟩ : ∃ z : World, z = wr := ⟨_, rfl⟩
       obtain ⟨tag7, hN7, hT7, hB7⟩ := hNs.out
       have HN7 := hide hN7
       have HT7 := hide hT7
       have HOk7 := hide hT7.ok2
       have hL7 : L < x7.heap.size := hT7.low
       have e7 : x7.cell? ⟨W, 0, none⟩ = some (.slice (some ⟨E, 0, none⟩) 2 2) := cell_of_row _ _ 0 _ _ _ hN7.wd
       have hW7 : W < x7.heap.size := lt_of_block hN7.wd
       have HE27 := hide ((hN7.ptr HN2.out b).trans HY2.out)
       clear hN7 hT7
       by_cases hlt4 : i1 < fl
       ·have hJ1 : (i1 : Int) < (fl : Int) := by omega
        have hJ0 : (0 : Int) ≤ (i1 : Int) := by omega
        obtain ⟨f, hf⟩ : ∃ f, fs[i1]? = some f := ⟨_, List.getElem?_eq_getElem (by rw [HFl.out]; exact hlt4)⟩
        obtain ⟨st1, st2, st3, st4⟩ := hRn.out.step HOk.out HOk7.out (by rw [HFs.out]; exact hf)
        obtain ⟨-, g, Ar, cr, cur, rfl, hg, hci, hrt, -⟩ := hF4.out.get hf
        obtain ⟨fl2, hfl2⟩ : ∃ z, f.length = z := ⟨_, rfl⟩
        rw [hfl2] at hci
        have q2 : x7.cell? ⟨g, i1, none⟩ = some (.slice Ar fl2 cr) := (cell_of_row _ _ i1 _ _ _ hg).trans hci
        have hg7 : g < x7.heap.size := lt_of_block hg
        have kc := hrt.conv (c := cr) hfl2
        have HSt1 := hide st1
        have HSt2 := hide st2
        have HSt3 := hide st3
        have HSt4 := hide st4
        clear hg hci hrt hf st1 st2 st3 st4 hfl2
        have hgb : (gots.set b g1)[b]? = some g1 := List.getElem?_set_self (List.getElem?_eq_some_iff.1 HG.out.2).1
        have hb1a : 1 - b = a := by have := HBb.out; omega
        have hth := hRn.out.runs.fwd.heard
        have htg := hRn.out.runs.fwd.glen
        have HHr := hide (hears_any x7 HN7.out b hb2 HT7.out hB7 HE27.out f (by have := HSt4.out; omega) (by omega) (by omega) (fun g' p' hg' hp' => by rw [hgb] at hg'; rw [hb1a, HP.out.1] at hp'; injection hg' with hg'; injection hp' with hp'; subst hg' hp'; exact HSt1.out) (fun hc => absurd HSt2.out hc) (fun g' hg' => by rw [hgb] at hg'; injection hg' with hg'; subst hg'; omega) (fun p' hp' => by rw [hb1a, HP.out.1] at hp'; injection hp' with hp'; subst hp'; omega))
        clear hth htg
        go_wp2_with fail
        refine HHr.out.mono ?_
        rintro e x8 ⟨rfl, ⟨tag8, hn8, ht8, hb8⟩, hbl8, hfr8⟩
        have HNs8 : Hid (∃ tag', NetM x8 L W E Y U T P1 P2 tag' ways puts (gots.set b (g1 ++ (hearL t1 f).2.1)) false ∧ Two x8 L B (N + (i1 + 1)) (Pof P1 P2 a) (Pof P1 P2 b) s1 (hearL t1 f).2.2 ∧ B ≤ x8.heap.size) := hide ⟨tag8, by rw [List.getD_eq_getElem?_getD, hgb, List.set_set] at hn8; exact hn8, ht8, hb8⟩
        have HB8 := hide (hB4.out.trans hbl8)
        have HF8 := hide (hfr8 x6.heap.size _ _ hBw hF4.out)
        clear hn8 ht8 hb8 hbl8 hfr8 HHr kc q2 e7
        go_wp2
        go_roundw
        case rel => exact ⟨i1 + 1, _, _, by omega, by go_num, HNs8, HB8, HF8, HSt3⟩
        case measure => simp [intOf]; omega
       obtain rfl : i1 = fl := by omega
       have hJ1 : ¬ (i1 : Int) < (i1 : Int) := by omega
       obtain ⟨hfin1, hfin2⟩ := Rnd.fin (s0 := s) (t := t1) (ps := ps) (pt := pt) (gs := gs) (gt := g1) (by rw [HFs.out, HFl.out]; exact hRn.out)
       have HR9 : Hid (RSt x7 L W P1 P2 0 P1 P2 ea (1000 + 1000 * (tt + 1)) (RC (tt + 1))) := hide (by
        refine RSt.back (a := a) ?_ ha2
        have hal : b < gots.length := (List.getElem?_eq_some_iff.1 HG.out.2).1
        have hne : b ≠ a := by have := HBb.out; omega
        have hrun := hRn.out.runs
        rw [HBb.out]
        refine ⟨E, Y, U, T, tag7, B, ways, puts, gots.set b g1, s1, t1, ps, pt, gs, g1, HN7.out, HT7.out.mono (Nat.le_refl _) (by have := HNn.out; omega), hB7, (HN7.out.ptr HN2.out a).trans HY1.out, by rw [HBb.out]; exact HE27.out, by rw [HBb.out]; exact HP.out, ?_, ⟨?_, ?_, ?_, ?_, hp1, hp2⟩, ?_⟩
        ·rw [HBb.out]
         exact ⟨by rw [List.getElem?_set_ne hne]; exact HG.out.1, List.getElem?_set_self hal⟩
        ·rw [← HS1.out]; exact from_dir hrun.fwd _ _
        ·rw [← HS1.out]; exact from_back hrun.bwd _ _
        ·rw [← HS1.out]; exact HEp.out.1
        ·rw [← hrun.ep]; exact HEp.out.1
        ·rw [hfin1]; exact HC.out.next HAa.out HD2.out (by rw [← HS1.out]; rfl) hfin2)
       clear hfin1 hfin2 e7
       go_wp2
       go_roundw
       case rel => exact ⟨tt + 1, by omega, by go_num, HR9, hB4⟩
       case measure => simp [intOf]; omega
     have hI1 : ¬ (tt : Int) < 4 := by omega
     obtain rfl : tt = 4 := by omega
     go_wp2
     go_loopw [12] (fun v12 wr => ∃ c1 : Nat, c1 ≤ 2 ∧ v12 = .int .i64 (c1 : Int) ∧ Hid (RSt wr L W P1 P2 0 P1 P2 ea (1000 + 1000 * 4) (RC 4)) ∧ Hid (Below L w wr)) (fun v12 _ => 2 - (intOf v12).toNat)
     case atStart => exact ⟨0, by omega, rfl, hR, hB⟩
     case round =>
      clear hR hB
      obtain ⟨c1, hc1', rfl, hR, hB⟩ := hrel
      obtain ⟨x6, rfl⟩ : ∃ z : World, z = wr := ⟨_, rfl⟩
      by_cases hlt3 : c1 < 2
      ·have hI1 : (c1 : Int) < 2 := by omega
       obtain ⟨b, hb⟩ : ∃ z, 1 - c1 = z := ⟨_, rfl⟩
       have hb2 : b < 2 := by omega
       have kw : IntKind.i64.wrap (1 - (c1 : Int)) = (b : Int) := by rw [IntWalk.i64_in _ (by omega)]; omega
       have kw2 : (1 : Int) - (c1 : Int) = (b : Int) := by omega
       have kwb : IntKind.i64.wrap (b : Int) = (b : Int) := IntWalk.i64_in _ (by omega)
       have ha0 : (0 : Int) ≤ (c1 : Int) := by omega
       have hb0 : (0 : Int) ≤ (b : Int) := by omega
       have hb1 : (b : Int) < 2 := by omega
       have hRa := hR.out.at_ hlt3
       rw [hb] at hRa
       obtain ⟨E, Y, U, T, tag, B, ways, puts, gots, s, t, ps, pt, gs, gt, hN, hT, hBw, hE1, hE2, hP, hG, ⟨hd1, hd2, he1, he2, hp1, hp2⟩, hC⟩ := hRa
       rw [hb] at hE2 hP hG
       have hgp : gs = pt := by unfold RCa RC at hC; split at hC; exact (hC.2 (by decide)).1; exact hC.1 (by decide)
       subst hgp
       obtain ⟨vg, hvg, hRg⟩ := hN.got.at_ hG.1
       obtain ⟨Ag, cg, rfl, -, -, -⟩ := hRg.rd
       obtain ⟨vp, hvp, hRp⟩ := hN.put.at_ hP.2
       obtain ⟨Ap, cpp, rfl, -, -, -⟩ := hRp.rd
       have HSh : Hid (s.heard = gs.length) := hide hd2.heard
       obtain ⟨ng, hng⟩ : ∃ z, gs.length = z := ⟨_, rfl⟩
       rw [hng] at hvg hvp HSh
       have HT1 := hide hT
       have q0 : x6.cell? ⟨W, 0, none⟩ = some (.slice (some ⟨E, 0, none⟩) 2 2) := cell_of_row _ _ 0 _ _ _ hN.wd
       have q2 : x6.cell? ⟨W, 2, none⟩ = some (.slice (some ⟨U, 0, none⟩) 2 2) := cell_of_row _ _ 2 _ _ _ hN.wd
       have q3 : x6.cell? ⟨W, 3, none⟩ = some (.slice (some ⟨T, 0, none⟩) 2 2) := cell_of_row _ _ 3 _ _ _ hN.wd
       have q4 : x6.cell? ⟨W, 4, none⟩ = some (.bool false) := cell_of_row _ _ 4 _ _ _ hN.wd
       have hWx : W < x6.heap.size := lt_of_block hN.wd
       have hEx : E < x6.heap.size := lt_of_block hN.en
       have hTx : T < x6.heap.size := hN.got.lt
       have hUx : U < x6.heap.size := hN.put.lt
       have HRd : Hid (RSt x6.drew L W P1 P2 0 P1 P2 ea (1000 + 1000 * 4) (RC 4)) := hide hR.out.drew
       have HBd : Hid (Below L w x6.drew) := hide hB.out.drew
       clear hN hT hE2 hP hG hd1 hd2 he1 he2 hC hRg hRp hng hb
       go_upto_region 28 with fail
       refine wp_region_held_drew (S := Kept x6) (by kernel_rfl) (Kept.drew x6) (fun hS0 => ?_)
       refine tk 0 108 ?_ ?_ ?_; rotate_left; (focus (intro w h; go_simp; (try with_reducible rfl))); (try simp only [zqd, zqe, zqf])
       refine tk 1 109 ?_ ?_ ?_; rotate_left; (focus (intro w h; go_simp; (try with_reducible rfl))); (try simp only [zqd, zqe, zqf])
       refine tk 2 110 ?_ ?_ ?_; rotate_left; (focus (intro w h; go_simp; (try with_reducible rfl))); (try simp only [zqd, zqe, zqf])
       refine tk 3 111 ?_ ?_ ?_; rotate_left; (focus (intro w h; go_simp; (try with_reducible rfl))); (try simp only [zqd, zqe, zqf])
       refine tk 4 112 ?_ ?_ ?_; rotate_left; (focus (intro w h; go_simp; (try with_reducible rfl))); (try simp only [zqd, zqe, zqf])
       refine tk 5 113 ?_ ?_ ?_; rotate_left; (focus (intro w h; go_simp; (try with_reducible rfl))); (try simp only [zqd, zqe, zqf])
       refine tk 6 114 ?_ ?_ ?_; rotate_left; (focus (intro w h; go_simp; (try with_reducible rfl))); (try simp only [zqd, zqe, zqf])
       refine tk 7 115 ?_ ?_ ?_; rotate_left; (focus (intro w h; go_simp; (try with_reducible rfl))); (try simp only [zqd, zqe, zqf])
       refine tk 8 116 ?_ ?_ ?_; rotate_left; (focus (intro w h; go_simp; (try with_reducible rfl))); (try simp only [zqd, zqe, zqf])
       refine tk 9 117 ?_ ?_ ?_; rotate_left; (focus (intro w h; go_simp; (try with_reducible rfl))); (try simp only [zqd, zqe, zqf])
       refine tk 10 118 ?_ ?_ ?_; rotate_left; (focus (intro w h; go_simp; (try with_reducible rfl))); (try simp only [zqd, zqe, zqf])
       refine tk 11 119 ?_ ?_ ?_; rotate_left; (focus (intro w h; go_simp; (try with_reducible rfl))); (try simp only [zqd, zqe, zqf])
       refine tk 12 120 ?_ ?_ ?_; rotate_left; (focus (intro w h; go_simp; (try with_reducible rfl))); (try simp only [zqd, zqe, zqf])
       refine tk 13 121 ?_ ?_ ?_; rotate_left; (focus (intro w h; go_simp; (try with_reducible rfl))); (try simp only [zqd, zqe, zqf])
       refine tk 14 122 ?_ ?_ ?_; rotate_left; (focus (intro w h; go_simp; (try with_reducible rfl))); (try simp only [zqd, zqe, zqf])
       refine tk 15 123 ?_ ?_ ?_; rotate_left; (focus (intro w h; go_simp; (try with_reducible rfl))); (try simp only [zqd, zqe, zqf])
       refine tk 16 124 ?_ ?_ ?_; rotate_left; (focus (intro w h; go_simp; (try with_reducible rfl))); (try simp only [zqd, zqe, zqf])
       refine tk 17 125 ?_ ?_ ?_; rotate_left; (focus (intro w h; go_simp; (try with_reducible rfl))); (try simp only [zqd, zqe, zqf])
       refine tk 18 126 ?_ ?_ ?_; rotate_left; (focus (intro w h; go_simp; (try with_reducible rfl))); (try simp only [zqd, zqe, zqf])
       refine tk 19 127 ?_ ?_ ?_; rotate_left; (focus (intro w h; go_simp; (try with_reducible rfl))); (try simp only [zqd, zqe, zqf])
       refine tk 20 128 ?_ ?_ ?_; rotate_left; (focus (intro w h; go_simp; (try with_reducible rfl))); (try simp only [zqd, zqe, zqf])
       refine tk 21 129 ?_ ?_ ?_; rotate_left; (focus (intro w h; go_simp; (try with_reducible rfl))); (try simp only [zqd, zqe, zqf])
       refine tk 22 130 ?_ ?_ ?_; rotate_left; (focus (intro w h; go_simp; (try with_reducible rfl))); (try simp only [zqd, zqe, zqf])
       refine tk 23 131 ?_ ?_ ?_; rotate_left; (focus (intro w h; go_simp; (try with_reducible rfl))); (try simp only [zqd, zqe, zqf])
       refine tk 24 132 ?_ ?_ ?_; rotate_left; (focus (intro w h; go_simp; (try with_reducible rfl))); (try simp only [zqd, zqe, zqf])
       refine tk 25 133 ?_ ?_ ?_; rotate_left; (focus (intro w h; go_simp; (try with_reducible rfl))); (try simp only [zqd, zqe, zqf])
       refine tk 26 134 ?_ ?_ ?_; rotate_left; (focus (intro w h; go_simp; (try with_reducible rfl))); (try simp only [zqd, zqe, zqf])
       refine tk 27 135 ?_ ?_ ?_; rotate_left; (focus (intro w h; go_simp; (try with_reducible rfl))); (try simp only [zqd, zqe, zqf])
       refine tk 28 136 ?_ ?_ ?_; rotate_left; (focus (intro w h; go_simp; (try with_reducible rfl))); (try simp only [zqd, zqe, zqf])
       refine tk 29 137 ?_ ?_ ?_; rotate_left; (focus (intro w h; go_simp; (try with_reducible rfl))); (try simp only [zqd, zqe, zqf])
       refine tk 30 138 ?_ ?_ ?_; rotate_left; (focus (intro w h; go_simp; (try with_reducible rfl))); (try simp only [zqd, zqe, zqf])
       refine tk 31 139 ?_ ?_ ?_; rotate_left; (focus (intro w h; go_simp; (try with_reducible rfl))); (try simp only [zqd, zqe, zqf])
       refine tk 33 141 ?_ ?_ ?_; rotate_left; (focus (intro w h; go_simp; (try with_reducible rfl))); (try simp only [zqd, zqe, zqf])
       refine tk 34 142 ?_ ?_ ?_; rotate_left; (focus (intro w h; go_simp; (try with_reducible rfl))); (try simp only [zqd, zqe, zqf])
       refine tk 35 143 ?_ ?_ ?_; rotate_left; (focus (intro w h; go_simp; (try with_reducible rfl))); (try simp only [zqd, zqe, zqf])
       refine tk 36 144 ?_ ?_ ?_; rotate_left; (focus (intro w h; go_simp; (try with_reducible rfl))); (try simp only [zqd, zqe, zqf])
       refine tk 37 145 ?_ ?_ ?_; rotate_left; (focus (intro w h; go_simp; (try with_reducible rfl))); (try simp only [zqd, zqe, zqf])
       refine tk 38 146 ?_ ?_ ?_; rotate_left; (focus (intro w h; go_simp; (try with_reducible rfl))); (try simp only [zqd, zqe, zqf])
       refine tk 39 147 ?_ ?_ ?_; rotate_left; (focus (intro w h; go_simp; (try with_reducible rfl))); (try simp only [zqd, zqe, zqf])
       refine tk 40 148 ?_ ?_ ?_; rotate_left; (focus (intro w h; go_simp; (try with_reducible rfl))); (try simp only [zqd, zqe, zqf])
       refine call_at (i := 32) (d := 140) (by simp only [zqa, zqb, zqc]; rfl) rfl (by kernel_rfl) rfl (fun K hK => ?_)
       go_simp
       refine (two_heard (HT1.out.next (Below.refl _ _).drew)).mono ?_
       rintro e y1 ⟨rfl, rfl⟩
       rw [HSh.out]
       have hS1 : Kept x6 x6.drew := Kept.drew x6
       go_wp2_with fail
       refine hK.out _ _ hS1 (fun hSn => ?_)
       clear hK K
       try simp only [zqd, zqe, zqf]
       refine tk 41 149 ?_ ?_ ?_; rotate_left; (focus (intro w h; go_simp; (try with_reducible rfl))); (try simp only [zqd, zqe, zqf])
       refine tk 42 150 ?_ ?_ ?_; rotate_left; (focus (intro w h; go_simp; (try with_reducible rfl))); (try simp only [zqd, zqe, zqf])
       refine wpAnyH_done (by kernel_rfl) ?_ _
       clear hS0 hSn hS1 q0 q2 q3 q4 hvg hvp hE1
       go_wp2
       go_roundw
       case rel => exact ⟨c1 + 1, by omega, by go_num, HRd, HBd⟩
       case measure => simp [intOf]; omega
      have hI1 : ¬ (c1 : Int) < 2 := by omega
      obtain ⟨E, Y, U, T, tag, B, ways, puts, gots, s, t, ps, pt, gs, gt, hN, hT, hBw, hE1, hE2, hP, hG, hD, hC⟩ := hR.out
      have HT1 := hide hT
      have hse : s.sent.length = 0 := by rw [(hC.2 (by decide)).2]; rfl
      have HSe := hide hse
      have q0 : x6.cell? ⟨W, 0, none⟩ = some (.slice (some ⟨E, 0, none⟩) 2 2) := cell_of_row _ _ 0 _ _ _ hN.wd
      have hLx : L ≤ x6.heap.size := Nat.le_of_lt hT.low
      clear hN hT hE2 hP hG hD hC hse
      go_wp2_with fail
      refine (two_waits HT1.out).mono ?_
      rintro e x7 ⟨rfl, rfl⟩
      rw [HSe.out]
      go_wp2_with fail
      refine (works_any _).mono ?_
      rintro e x8 ⟨rfl, hb8⟩
      have HB8 : Hid (Below L w x8) := hide (hB.out.trans (hb8.mono hLx))
      have HB9 : Hid (Below w.heap.size w x8) := hide (by rw [hL]; exact HB8.out)
      clear hb8 q0 hE1
      go_wp2
      go_ret
      first | exact ⟨rfl, HB9.out⟩ | exact ⟨rfl, HB8.out⟩
end Go.Proofs.Ytigmmikijjcdiaa
namespace Go.Proofs.Ytigmmikijjcdiaa
open Go.RowKit
theorem linkKnown_walk (w : World) : Calls Try.prog 7 #[] w fun e w' => e = .returned (.bool true) ∧ Below w.heap.size w w' := by
 go_enter Try.func7, Try.ntmps7
 go_wp2_with fail
 refine (none_hear w).mono ?_
 rintro e w9 ⟨rfl, rfl⟩
 go_wp2_with fail
 refine (none_send w).mono ?_
 rintro e w9 ⟨rfl, rfl⟩
 go_wp2_with fail
 refine (none_out w).mono ?_
 rintro e w9 ⟨rfl, rfl⟩
 go_wp2_with fail
 refine (none_again w).mono ?_
 rintro e w9 ⟨rfl, rfl⟩
 go_wp2_with fail
 refine (none_epoch w).mono ?_
 rintro e w9 ⟨rfl, rfl⟩
 go_wp2_with fail
 refine (none_waits w).mono ?_
 rintro e w9 ⟨rfl, rfl⟩
 go_wp2_with fail
 refine (none_heard w).mono ?_
 rintro e w9 ⟨rfl, rfl⟩
 go_wp2_with fail
 refine (none_next w).mono ?_
 rintro e w9 ⟨rfl, rfl⟩
 go_wp2_with fail
 refine (lopen_any w (-1)).mono ?_
 rintro e x0 ⟨P0, M0, rfl, hE, -, -, hb⟩
 rw [show epN (-1) = 0 by decide] at hE
 have HB0 : Hid (Below w.heap.size w x0) := hide (hb)
 have HE := hide hE
 clear hE hb
 go_wp2_with fail
 refine (lepoch_any HE.out).mono ?_
 rintro e w9 ⟨rfl, hw⟩
 rw [hw]
 clear hw w9
 rw [show (openL 0).ep = 0 from rfl]
 clear HE
 go_wp2_with fail
 refine (lopen_any x0 4611686018427387905).mono ?_
 rintro e x1 ⟨P1, M1, rfl, hE, -, -, hb⟩
 rw [show epN 4611686018427387905 = 0 by decide] at hE
 have HB1 : Hid (Below w.heap.size w x1) := hide (HB0.out.trans (hb.mono HB0.out.size))
 have HE := hide hE
 clear hE hb
 go_wp2_with fail
 refine (lepoch_any HE.out).mono ?_
 rintro e w9 ⟨rfl, hw⟩
 rw [hw]
 clear hw w9
 rw [show (openL 0).ep = 0 from rfl]
 clear HE HB0
 go_wp2_with fail
 refine (lopen_any x1 4611686018427387904).mono ?_
 rintro e x2 ⟨P2, M2, rfl, hE, -, -, hb⟩
 rw [show epN 4611686018427387904 = 4611686018427387904 by decide] at hE
 have HB2 : Hid (Below w.heap.size w x2) := hide (HB1.out.trans (hb.mono HB1.out.size))
 have HE := hide hE
 clear hE hb
 go_wp2_with fail
 refine (lepoch_any HE.out).mono ?_
 rintro e w9 ⟨rfl, hw⟩
 rw [hw]
 clear hw w9
 rw [show (openL 4611686018427387904).ep = 4611686018427387904 from rfl]
 clear HE HB1
 obtain ⟨i3, a3i, a3z, a3s, a3b⟩ := info_parts (show (Try.prog.info? 56).map (fun i => (i.zero, i.size, i.bytes)) = some (some (.agg #[.int .u8 0, .slice none 0 0, .int .i64 0, .int .i64 0, .int .i64 0]), 5, 56) by kernel_rfl)
 have HB2 := HB2
 go_wp2
 go_loopw [5, 6] (fun v5 v6 wr => ∃ (i j : Nat) (A5 : Option Addr) (c5 : Nat) (xs : List Cal5), i ≤ 66 ∧ j ≤ 2 * i ∧ v6 = .int .i64 (i : Int) ∧ v5 = .slice A5 j c5 ∧ Hid (CalO w.heap.size wr (.slice A5 j c5) xs) ∧ Hid (Below w.heap.size w wr)) (fun _ v6 _ => 66 - (intOf v6).toNat)
 case atStart => exact ⟨0, 0, none, 0, [], by omega, by omega, rfl, rfl, hide (CalO.nil _ _), HB2⟩
 case round =>
  obtain ⟨i, j, A5, c5, xs, hi, hj, rfl, rfl, HO, HBr⟩ := hrel
  clear HB2
  obtain ⟨wr, rfl⟩ : ∃ z : World, z = wr := ⟨_, rfl⟩
  have swr : w.heap.size ≤ wr.heap.size := HBr.out.size
  by_cases hlt : i < 66
  ·have hI1 : (i : Int) < 66 := by omega
   have ku : IntKind.u8.wrap (i : Int) = (i : Int) := by simp only [IntKind.wrap, IntKind.bits, IntKind.signed]; simp; omega
   have HOr : Hid (wr.ownsRow w.heap.size 56 5 (.slice A5 j c5) j (calF xs)) := hide (by obtain ⟨A9, c9, e9, h9, -⟩ := HO.out; injection e9 with q1 q2 q3; rw [← q2] at h9; exact h9)
   have HX : Hid (i % 3 = 0 ∨ i % 3 = 1 ∨ i % 3 = 2) := hide (by omega)
   rcases HX.out with h3 | h3 | h3
   ·have hm3 : (i : Int) % 3 = 0 := by omega
    have hm3t : (i : Int).tmod 3 = 0 := by rw [Int.tmod_eq_emod_of_nonneg (by omega)]; omega
    clear h3 HX
    go_wp2_with (at_builtin; refine wpList_app rfl (.tmp 78) (.tmp 91) 50 rfl w.heap.size 56 i3 (.agg #[.int .u8 0, .slice none 0 0, .int .i64 0, .int .i64 0, .int .i64 0]) 5 56 Try.underlying50 a3i a3z a3s a3b rfl (by decide) (.slice A5 j c5) j (calF xs) rfl ((HOr.out.alloc _).alloc _) (wr.heap.size + 1 + 1) (some ⟨wr.heap.size + 1, 0, none⟩) 2 2 [.int .u8 0, .slice (some ⟨wr.heap.size, 0, none⟩) 1 1, .int .i64 0, .int .i64 0, .int .i64 0, .int .u8 2, .slice none 0 0, .int .i64 0, .int .i64 0, .int .i64 0] rfl rfl (by have h9 := Rd.new (wr.alloc (.cells #[.int .u8 (i : Int)] 5)) #[.int .u8 0, .slice (some ⟨wr.heap.size, 0, none⟩) 1 1, .int .i64 0, .int .i64 0, .int .i64 0, .int .u8 2, .slice none 0 0, .int .i64 0, .int .i64 0, .int .i64 0] 56 (0, 0); rw [World.size_alloc] at h9; exact h9) (by simp [Value.oneCell']) (by unfold maxLen; omega) (by omega) (by simp; omega) ?_; intro A6 c6 y own6 hg6 hat6)
    have HBy : Hid (Below w.heap.size w y) := hide (app_below1 ((HBr.out.alloc HBr.out.size _).alloc (by simp; omega) _) HOr.out hg6)
    have HO2 := hide (HO.out.more (w1 := (wr.alloc (.cells #[.int .u8 (i : Int)] 5)).alloc (.cells #[.int .u8 0, .slice (some ⟨wr.heap.size, 0, none⟩) 1 1, .int .i64 0, .int .i64 0, .int .i64 0, .int .u8 2, .slice none 0 0, .int .i64 0, .int .i64 0, .int .i64 0] 56)) (ys := [⟨0, some ⟨wr.heap.size, 0, none⟩, [UInt8.ofNat i], 1, 0, 0, 0⟩, ⟨2, none, [], 0, 0, 0, 0⟩]) (((Below.refl _ _).alloc (Nat.le_refl _) _).alloc (by simp) _) hg6 own6 rfl (fun y9 hy9 => by
     simp at hy9
     rcases hy9 with rfl | rfl
     ·exact ⟨(RdA.new wr _ _ _ (by simp [u8s]; omega)).next ((Below.refl _ _).alloc (Nat.le_refl _) _), by simp [Cal5.ok]⟩
     ·exact ⟨RdA.none_, by simp [Cal5.ok]⟩))
    clear own6 hg6 hat6 hm3 hm3t
    go_wp2
    go_roundw
    case rel => exact ⟨i + 1, j + 2, A6, c6, _, by omega, by omega, by go_num, rfl, HO2, HBy⟩
    case measure => simp [intOf]; omega
   ·have hm3 : (i : Int) % 3 = 1 := by omega
    have hm3t : (i : Int).tmod 3 = 1 := by rw [Int.tmod_eq_emod_of_nonneg (by omega)]; omega
    clear h3 HX
    go_wp2_with (at_builtin; refine wpList_app rfl (.tmp 78) (.tmp 91) 50 rfl w.heap.size 56 i3 (.agg #[.int .u8 0, .slice none 0 0, .int .i64 0, .int .i64 0, .int .i64 0]) 5 56 Try.underlying50 a3i a3z a3s a3b rfl (by decide) (.slice A5 j c5) j (calF xs) rfl ((HOr.out.alloc _).alloc _) (wr.heap.size + 1 + 1) (some ⟨wr.heap.size + 1, 0, none⟩) 2 2 [.int .u8 0, .slice (some ⟨wr.heap.size, 0, none⟩) 1 1, .int .i64 0, .int .i64 0, .int .i64 0, .int .u8 4, .slice none 0 0, .int .i64 0, .int .i64 0, .int .i64 0] rfl rfl (by have h9 := Rd.new (wr.alloc (.cells #[.int .u8 (i : Int)] 5)) #[.int .u8 0, .slice (some ⟨wr.heap.size, 0, none⟩) 1 1, .int .i64 0, .int .i64 0, .int .i64 0, .int .u8 4, .slice none 0 0, .int .i64 0, .int .i64 0, .int .i64 0] 56 (0, 0); rw [World.size_alloc] at h9; exact h9) (by simp [Value.oneCell']) (by unfold maxLen; omega) (by omega) (by simp; omega) ?_; intro A6 c6 y own6 hg6 hat6)
    have HBy : Hid (Below w.heap.size w y) := hide (app_below1 ((HBr.out.alloc HBr.out.size _).alloc (by simp; omega) _) HOr.out hg6)
    have HO2 := hide (HO.out.more (w1 := (wr.alloc (.cells #[.int .u8 (i : Int)] 5)).alloc (.cells #[.int .u8 0, .slice (some ⟨wr.heap.size, 0, none⟩) 1 1, .int .i64 0, .int .i64 0, .int .i64 0, .int .u8 4, .slice none 0 0, .int .i64 0, .int .i64 0, .int .i64 0] 56)) (ys := [⟨0, some ⟨wr.heap.size, 0, none⟩, [UInt8.ofNat i], 1, 0, 0, 0⟩, ⟨4, none, [], 0, 0, 0, 0⟩]) (((Below.refl _ _).alloc (Nat.le_refl _) _).alloc (by simp) _) hg6 own6 rfl (fun y9 hy9 => by
     simp at hy9
     rcases hy9 with rfl | rfl
     ·exact ⟨(RdA.new wr _ _ _ (by simp [u8s]; omega)).next ((Below.refl _ _).alloc (Nat.le_refl _) _), by simp [Cal5.ok]⟩
     ·exact ⟨RdA.none_, by simp [Cal5.ok]⟩))
    clear own6 hg6 hat6 hm3 hm3t
    go_wp2
    go_roundw
    case rel => exact ⟨i + 1, j + 2, A6, c6, _, by omega, by omega, by go_num, rfl, HO2, HBy⟩
    case measure => simp [intOf]; omega
   have hm3 : (i : Int) % 3 = 2 := by omega
   have hm3t : (i : Int).tmod 3 = 2 := by rw [Int.tmod_eq_emod_of_nonneg (by omega)]; omega
   clear h3 HX
   go_wp2_with (at_builtin; refine wpList_app rfl (.tmp 78) (.tmp 91) 50 rfl w.heap.size 56 i3 (.agg #[.int .u8 0, .slice none 0 0, .int .i64 0, .int .i64 0, .int .i64 0]) 5 56 Try.underlying50 a3i a3z a3s a3b rfl (by decide) (.slice A5 j c5) j (calF xs) rfl ((HOr.out.alloc _).alloc _) (wr.heap.size + 1 + 1) (some ⟨wr.heap.size + 1, 0, none⟩) 2 2 [.int .u8 0, .slice (some ⟨wr.heap.size, 0, none⟩) 1 1, .int .i64 0, .int .i64 0, .int .i64 0, .int .u8 4, .slice none 0 0, .int .i64 0, .int .i64 0, .int .i64 0] rfl rfl (by have h9 := Rd.new (wr.alloc (.cells #[.int .u8 (i : Int)] 5)) #[.int .u8 0, .slice (some ⟨wr.heap.size, 0, none⟩) 1 1, .int .i64 0, .int .i64 0, .int .i64 0, .int .u8 4, .slice none 0 0, .int .i64 0, .int .i64 0, .int .i64 0] 56 (0, 0); rw [World.size_alloc] at h9; exact h9) (by simp [Value.oneCell']) (by unfold maxLen; omega) (by omega) (by simp; omega) ?_; intro A6 c6 y own6 hg6 hat6)
   have HBy : Hid (Below w.heap.size w y) := hide (app_below1 ((HBr.out.alloc HBr.out.size _).alloc (by simp; omega) _) HOr.out hg6)
   have HO2 := hide (HO.out.more (w1 := (wr.alloc (.cells #[.int .u8 (i : Int)] 5)).alloc (.cells #[.int .u8 0, .slice (some ⟨wr.heap.size, 0, none⟩) 1 1, .int .i64 0, .int .i64 0, .int .i64 0, .int .u8 4, .slice none 0 0, .int .i64 0, .int .i64 0, .int .i64 0] 56)) (ys := [⟨0, some ⟨wr.heap.size, 0, none⟩, [UInt8.ofNat i], 1, 0, 0, 0⟩, ⟨4, none, [], 0, 0, 0, 0⟩]) (((Below.refl _ _).alloc (Nat.le_refl _) _).alloc (by simp) _) hg6 own6 rfl (fun y9 hy9 => by
    simp at hy9
    rcases hy9 with rfl | rfl
    ·exact ⟨(RdA.new wr _ _ _ (by simp [u8s]; omega)).next ((Below.refl _ _).alloc (Nat.le_refl _) _), by simp [Cal5.ok]⟩
    ·exact ⟨RdA.none_, by simp [Cal5.ok]⟩))
   clear own6 hg6 hat6 hm3 hm3t
   go_wp2
   go_roundw
   case rel => exact ⟨i + 1, j + 2, A6, c6, _, by omega, by omega, by go_num, rfl, HO2, HBy⟩
   case measure => simp [intOf]; omega
  have hI1 : ¬ (i : Int) < 66 := by omega
  have kc := fun (w : World) (C : Array Value) (n c : Nat) => Lib.run_convert_bytes_const (P := Try.prog) w 23 5 C n c Try.underlying23 Try.underlying5
  have kc1 := kc (wr.alloc (.cells #[.int .u8 120] 5 (1, 2))) #[.int .u8 121] 1 1
  rw [World.size_alloc] at kc1
  have kc2 := kc ((wr.alloc (.cells #[.int .u8 120] 5 (1, 2))).alloc (.cells #[.int .u8 121] 5 (1, 2))) #[.int .u8 122] 1 1
  rw [World.size_alloc, World.size_alloc] at kc2
  go_wp2_with fail
  obtain ⟨y1, hy1⟩ : ∃ z, ((((wr.alloc (.cells #[.int .u8 120] 5 (1, 2))).alloc (.cells #[.int .u8 121] 5 (1, 2))).alloc (.cells #[.int .u8 122] 5 (1, 2))).alloc (.cells #[.int .u8 1, .int .u8 7, .int .u8 0, .int .u8 1] 5)) = z := ⟨_, rfl⟩
  rw [hy1]
  have HYy1 : Hid (Below wr.heap.size wr y1) := hide (by rw [← hy1]; exact ((((Below.refl _ _).alloc (Nat.le_refl _) _).alloc (by simp) _).alloc (by simp; omega) _).alloc (by simp; omega) _)
  have HRa0 : Hid (RdA y1 (some ⟨wr.heap.size, 0, none⟩) [120]) := hide (by rw [← hy1]; exact (RdA.new wr _ _ [120] rfl).next ((((Below.refl _ _).alloc (by simp) _).alloc (by simp) _).alloc (by simp) _))
  have HRa1 : Hid (RdA y1 (some ⟨wr.heap.size + 1, 0, none⟩) [121]) := hide (by rw [← hy1]; have h9 := RdA.new (wr.alloc (.cells #[.int .u8 120] 5 (1, 2))) #[.int .u8 121] (1, 2) [121] rfl; rw [World.size_alloc] at h9; exact h9.next (((Below.refl _ _).alloc (by simp) _).alloc (by simp) _))
  have HRa2 : Hid (RdA y1 (some ⟨wr.heap.size + 1 + 1, 0, none⟩) [122]) := hide (by rw [← hy1]; have h9 := RdA.new ((wr.alloc (.cells #[.int .u8 120] 5 (1, 2))).alloc (.cells #[.int .u8 121] 5 (1, 2))) #[.int .u8 122] (1, 2) [122] rfl; rw [World.size_alloc, World.size_alloc] at h9; exact h9.next ((Below.refl _ _).alloc (by simp) _))
  have HRa3 : Hid (RdA y1 (some ⟨wr.heap.size + 1 + 1 + 1, 0, none⟩) [1, 7, 0, 1]) := hide (by rw [← hy1]; have h9 := RdA.new (((wr.alloc (.cells #[.int .u8 120] 5 (1, 2))).alloc (.cells #[.int .u8 121] 5 (1, 2))).alloc (.cells #[.int .u8 122] 5 (1, 2))) #[.int .u8 1, .int .u8 7, .int .u8 0, .int .u8 1] (0, 0) [1, 7, 0, 1] rfl; rw [World.size_alloc, World.size_alloc, World.size_alloc] at h9; exact h9)
  clear hy1 kc kc1 kc2
  refine (rframe_any y1 3 (by decide) 7 0 0 (by decide) (by decide) (by decide) (by decide) (by decide) (by decide) [] (by decide)).mono ?_
  rintro e y2 ⟨rfl, hb⟩
  obtain ⟨F3, hF3⟩ : ∃ z, frI 3 [] 7 0 0 = z := ⟨_, rfl⟩
  have HF3l : Hid (F3.length = 21) := hide (by rw [← hF3]; unfold frI; first | (rw [if_pos rfl, fr_len]; rfl) | (rw [if_neg (by decide), fr_len]; rfl))
  rw [hF3]
  clear hF3
  have HYy2 : Hid (Below wr.heap.size wr y2) := hide (HYy1.out.trans (hb.mono HYy1.out.size))
  have HSy2 := hide hb
  clear hb
  have kq := run_bytes_of (P := Try.prog) y2 9 23 5 (F3) Try.underlying9 Try.underlying23 Try.underlying5
  rw [show (F3).length = 21 from HF3l.out] at kq
  obtain ⟨cp3, hcp3⟩ : ∃ z, grownCap y2 21 0 5 = z := ⟨_, rfl⟩
  have hcpa3 : 21 ≤ cp3 := by rw [← hcp3]; exact grownCap_ge _ _ _ _
  have hcpb3 : cp3 ≤ 9223372036854775807 := by rw [← hcp3]; exact grownCap_le_maxLen _ _ _ _ (by unfold maxLen; omega)
  rw [hcp3] at kq
  have HRx2 := hide (RdA.made y2 (F3))
  have HYx2 : Hid (Below wr.heap.size wr (bytesWorld y2 5 (F3))) := hide (HYy2.out.trans ((bytesWorld_below _ _ _).mono HYy2.out.size))
  have HSx2 := hide (bytesWorld_below y2 5 (F3))
  obtain ⟨x2, hxx2⟩ : ∃ z, bytesWorld y2 5 (F3) = z := ⟨_, rfl⟩
  rw [hxx2] at kq HRx2 HYx2 HSx2
  clear hcp3 hxx2
  go_wp2_with fail
  refine (rframe_any x2 2 (by decide) 7 0 0 (by decide) (by decide) (by decide) (by decide) (by decide) (by decide) [] (by decide)).mono ?_
  rintro e y3 ⟨rfl, hb⟩
  obtain ⟨F2, hF2⟩ : ∃ z, frI 2 [] 7 0 0 = z := ⟨_, rfl⟩
  have HF2l : Hid (F2.length = 21) := hide (by rw [← hF2]; unfold frI; first | (rw [if_pos rfl, fr_len]; rfl) | (rw [if_neg (by decide), fr_len]; rfl))
  rw [hF2]
  clear hF2
  have HYy3 : Hid (Below wr.heap.size wr y3) := hide (HYx2.out.trans (hb.mono HYx2.out.size))
  have HSy3 := hide hb
  clear hb
  clear kq
  have hF2n : ¬ 9223372036854775807 < F2.length + 1 := by rw [HF2l.out]; decide
  obtain ⟨G2, hG2⟩ : ∃ z, F2 ++ [97] = z := ⟨_, rfl⟩
  have HG2l : Hid (G2.length = 22) := hide (by rw [← hG2, List.length_append, HF2l.out]; rfl)
  have hcat : (⟨F2.toArray⟩ ++ ⟨#[97]⟩ : ByteArray) = ⟨G2.toArray⟩ := by rw [← hG2]; apply ByteArray.ext; simp
  clear hG2
  have kq := run_bytes_of (P := Try.prog) y3 9 23 5 (G2) Try.underlying9 Try.underlying23 Try.underlying5
  rw [show (G2).length = 22 from HG2l.out] at kq
  obtain ⟨cp4, hcp4⟩ : ∃ z, grownCap y3 22 0 5 = z := ⟨_, rfl⟩
  have hcpa4 : 22 ≤ cp4 := by rw [← hcp4]; exact grownCap_ge _ _ _ _
  have hcpb4 : cp4 ≤ 9223372036854775807 := by rw [← hcp4]; exact grownCap_le_maxLen _ _ _ _ (by unfold maxLen; omega)
  rw [hcp4] at kq
  have HRx3 := hide (RdA.made y3 (G2))
  have HYx3 : Hid (Below wr.heap.size wr (bytesWorld y3 5 (G2))) := hide (HYy3.out.trans ((bytesWorld_below _ _ _).mono HYy3.out.size))
  have HSx3 := hide (bytesWorld_below y3 5 (G2))
  obtain ⟨x3, hxx3⟩ : ∃ z, bytesWorld y3 5 (G2) = z := ⟨_, rfl⟩
  rw [hxx3] at kq HRx3 HYx3 HSx3
  clear hcp4 hxx3
  rw [← hcat] at kq
  clear hcat
  go_wp2_with fail
  refine (rframe_any x3 1 (by decide) 7 0 3 (by decide) (by decide) (by decide) (by decide) (by decide) (by decide) [] (by decide)).mono ?_
  rintro e y4 ⟨rfl, hb⟩
  obtain ⟨F1, hF1⟩ : ∃ z, frI 1 [] 7 0 3 = z := ⟨_, rfl⟩
  have HF1l : Hid (F1.length = 29) := hide (by rw [← hF1]; unfold frI; first | (rw [if_pos rfl, fr_len]; rfl) | (rw [if_neg (by decide), fr_len]; rfl))
  rw [hF1]
  clear hF1
  have HYy4 : Hid (Below wr.heap.size wr y4) := hide (HYx3.out.trans (hb.mono HYx3.out.size))
  have HSy4 := hide hb
  clear hb
  clear kq hF2n
  have hF1n : (1 : Int) ≤ (F1.length : Int) := by rw [HF1l.out]; decide
  obtain ⟨G1, hG1⟩ : ∃ z, F1.drop 1 = z := ⟨_, rfl⟩
  have HG1l : Hid (G1.length = 28) := hide (by rw [← hG1, List.length_drop, HF1l.out])
  have hext : (⟨F1.toArray⟩ : ByteArray).extract 1 F1.length = ⟨G1.toArray⟩ := by rw [← hG1]; apply ByteArray.ext; simp [ByteArray.data_extract]; exact List.take_of_length_le (by simp)
  clear hG1
  have kq := run_bytes_of (P := Try.prog) y4 9 23 5 (G1) Try.underlying9 Try.underlying23 Try.underlying5
  rw [show (G1).length = 28 from HG1l.out] at kq
  obtain ⟨cp5, hcp5⟩ : ∃ z, grownCap y4 28 0 5 = z := ⟨_, rfl⟩
  have hcpa5 : 28 ≤ cp5 := by rw [← hcp5]; exact grownCap_ge _ _ _ _
  have hcpb5 : cp5 ≤ 9223372036854775807 := by rw [← hcp5]; exact grownCap_le_maxLen _ _ _ _ (by unfold maxLen; omega)
  rw [hcp5] at kq
  have HRx4 := hide (RdA.made y4 (G1))
  have HYx4 : Hid (Below wr.heap.size wr (bytesWorld y4 5 (G1))) := hide (HYy4.out.trans ((bytesWorld_below _ _ _).mono HYy4.out.size))
  have HSx4 := hide (bytesWorld_below y4 5 (G1))
  obtain ⟨x4, hxx4⟩ : ∃ z, bytesWorld y4 5 (G1) = z := ⟨_, rfl⟩
  rw [hxx4] at kq HRx4 HYx4 HSx4
  clear hcp5 hxx4
  rw [← hext] at kq
  clear hext
  have HYd : Hid (Below y1.heap.size y1 x4 ∧ Below x2.heap.size x2 x4 ∧ Below x3.heap.size x3 x4) := hide (by
  have c3 := HSy4.out.trans (HSx4.out.mono HSy4.out.size)
  have c2 := HSx3.out.trans (c3.mono HSx3.out.size)
  have c2 := HSy3.out.trans (c2.mono HSy3.out.size)
  have c1 := HSx2.out.trans (c2.mono HSx2.out.size)
  exact ⟨HSy2.out.trans (c1.mono HSy2.out.size), c2, c3⟩)
  have HOx : Hid (CalO w.heap.size x4 (.slice A5 j c5) xs) := hide (HO.out.next HYx4.out)
  have HOr : Hid (x4.ownsRow w.heap.size 56 5 (.slice A5 j c5) j (calF xs)) := hide (by obtain ⟨A9, c9, e9, h9, -⟩ := HOx.out; injection e9 with q1 q2 q3; rw [← q2] at h9; exact h9)
  obtain ⟨ys, hys⟩ : ∃ z : List Cal5, [⟨5, none, [], 0, 7, 3, 0⟩, ⟨5, none, [], 0, 7, 70, 0⟩, ⟨5, none, [], 0, 8, 0, 1⟩, ⟨5, none, [], 0, 6, 0, 1⟩, ⟨5, (some ⟨wr.heap.size, 0, none⟩), [120], 1, 7, 1, 2⟩, ⟨5, (some ⟨wr.heap.size + 1, 0, none⟩), [121], 1, 7, 5, 64⟩, ⟨5, (some ⟨wr.heap.size + 1 + 1, 0, none⟩), [122], 1, 7, 5, 65⟩, ⟨5, none, [], 0, 7, 0, 2⟩, ⟨2, none, [], 0, 0, 0, 0⟩, ⟨2, none, [], 0, 0, 0, 0⟩, ⟨5, none, [], 0, 7, 0, 1⟩, ⟨3, none, [], 0, 0, 0, 0⟩, ⟨5, none, [], 0, 7, 16, 3⟩, ⟨3, none, [], 0, 0, 0, 0⟩, ⟨5, none, [], 0, 7, 0, (-1)⟩, ⟨5, none, [], 0, 7, (-1), 1⟩, ⟨5, none, [], 0, (-1), 0, 1⟩, ⟨5, none, [], 0, 7, 0, 4611686018427387905⟩, ⟨4, (some ⟨wr.heap.size + 1 + 1 + 1, 0, none⟩), [1, 7, 0, 1], 4, 0, 0, 0⟩, ⟨4, (some ⟨y2.heap.size, 0, none⟩), F3, cp3, 0, 0, 0⟩, ⟨4, (some ⟨y3.heap.size, 0, none⟩), G2, cp4, 0, 0, 0⟩, ⟨4, (some ⟨y4.heap.size, 0, none⟩), G1, cp5, 0, 0, 0⟩] = z := ⟨_, rfl⟩
  have HNw : Hid (calF ys = [.int .u8 5, .slice none 0 0, .int .i64 7, .int .i64 3, .int .i64 0, .int .u8 5, .slice none 0 0, .int .i64 7, .int .i64 70, .int .i64 0, .int .u8 5, .slice none 0 0, .int .i64 8, .int .i64 0, .int .i64 1, .int .u8 5, .slice none 0 0, .int .i64 6, .int .i64 0, .int .i64 1, .int .u8 5, .slice (some ⟨wr.heap.size, 0, none⟩) 1 1, .int .i64 7, .int .i64 1, .int .i64 2, .int .u8 5, .slice (some ⟨wr.heap.size + 1, 0, none⟩) 1 1, .int .i64 7, .int .i64 5, .int .i64 64, .int .u8 5, .slice (some ⟨wr.heap.size + 1 + 1, 0, none⟩) 1 1, .int .i64 7, .int .i64 5, .int .i64 65, .int .u8 5, .slice none 0 0, .int .i64 7, .int .i64 0, .int .i64 2, .int .u8 2, .slice none 0 0, .int .i64 0, .int .i64 0, .int .i64 0, .int .u8 2, .slice none 0 0, .int .i64 0, .int .i64 0, .int .i64 0, .int .u8 5, .slice none 0 0, .int .i64 7, .int .i64 0, .int .i64 1, .int .u8 3, .slice none 0 0, .int .i64 0, .int .i64 0, .int .i64 0, .int .u8 5, .slice none 0 0, .int .i64 7, .int .i64 16, .int .i64 3, .int .u8 3, .slice none 0 0, .int .i64 0, .int .i64 0, .int .i64 0, .int .u8 5, .slice none 0 0, .int .i64 7, .int .i64 0, .int .i64 (-1), .int .u8 5, .slice none 0 0, .int .i64 7, .int .i64 (-1), .int .i64 1, .int .u8 5, .slice none 0 0, .int .i64 (-1), .int .i64 0, .int .i64 1, .int .u8 5, .slice none 0 0, .int .i64 7, .int .i64 0, .int .i64 4611686018427387905, .int .u8 4, .slice (some ⟨wr.heap.size + 1 + 1 + 1, 0, none⟩) 4 4, .int .i64 0, .int .i64 0, .int .i64 0, .int .u8 4, .slice (some ⟨y2.heap.size, 0, none⟩) 21 cp3, .int .i64 0, .int .i64 0, .int .i64 0, .int .u8 4, .slice (some ⟨y3.heap.size, 0, none⟩) 22 cp4, .int .i64 0, .int .i64 0, .int .i64 0, .int .u8 4, .slice (some ⟨y4.heap.size, 0, none⟩) 28 cp5, .int .i64 0, .int .i64 0, .int .i64 0]) := hide (by rw [← hys]; simp only [calF, calC, List.flatMap_cons, List.flatMap_nil, List.cons_append, List.nil_append, List.append_nil, HF3l.out, HG2l.out, HG1l.out]; rfl)
  have HYl : Hid (ys.length = 22) := hide (by rw [← hys]; rfl)
  have HYr : Hid (∀ y ∈ ys, RdA x4 y.A y.b ∧ y.ok) := hide (by
  have d1 := HYd.out
  rw [← hys]
  intro y hy
  simp only [List.mem_cons, List.not_mem_nil, or_false] at hy
  rcases hy with rfl | rfl | rfl | rfl | rfl | rfl | rfl | rfl | rfl | rfl | rfl | rfl | rfl | rfl | rfl | rfl | rfl | rfl | rfl | rfl | rfl | rfl
  ·exact ⟨RdA.none_, by simp [Cal5.ok]⟩
  ·exact ⟨RdA.none_, by simp [Cal5.ok]⟩
  ·exact ⟨RdA.none_, by simp [Cal5.ok]⟩
  ·exact ⟨RdA.none_, by simp [Cal5.ok]⟩
  ·exact ⟨HRa0.out.next d1.1, by simp [Cal5.ok]⟩
  ·exact ⟨HRa1.out.next d1.1, by simp [Cal5.ok]⟩
  ·exact ⟨HRa2.out.next d1.1, by simp [Cal5.ok]⟩
  ·exact ⟨RdA.none_, by simp [Cal5.ok]⟩
  ·exact ⟨RdA.none_, by simp [Cal5.ok]⟩
  ·exact ⟨RdA.none_, by simp [Cal5.ok]⟩
  ·exact ⟨RdA.none_, by simp [Cal5.ok]⟩
  ·exact ⟨RdA.none_, by simp [Cal5.ok]⟩
  ·exact ⟨RdA.none_, by simp [Cal5.ok]⟩
  ·exact ⟨RdA.none_, by simp [Cal5.ok]⟩
  ·exact ⟨RdA.none_, by simp [Cal5.ok]⟩
  ·exact ⟨RdA.none_, by simp [Cal5.ok]⟩
  ·exact ⟨RdA.none_, by simp [Cal5.ok]⟩
  ·exact ⟨RdA.none_, by simp [Cal5.ok]⟩
  ·exact ⟨HRa3.out.next d1.1, by simp [Cal5.ok]⟩
  ·exact ⟨HRx2.out.next d1.2.1, by simp [Cal5.ok, HF3l.out]⟩
  ·exact ⟨HRx3.out.next d1.2.2, by simp [Cal5.ok, HG2l.out]⟩
  ·exact ⟨HRx4.out, by simp [Cal5.ok, HG1l.out]⟩)
  clear hys
  have hjb : j ≤ 132 := by omega
  go_upto_region 10 with (at_builtin; refine wpList_app rfl (.tmp 93) (.tmp 131) 50 rfl w.heap.size 56 i3 (.agg #[.int .u8 0, .slice none 0 0, .int .i64 0, .int .i64 0, .int .i64 0]) 5 56 Try.underlying50 a3i a3z a3s a3b rfl (by decide) (.slice A5 j c5) j (calF xs) rfl (HOr.out.alloc _) (x4.heap.size + 1) (some ⟨x4.heap.size, 0, none⟩) 22 22 [.int .u8 5, .slice none 0 0, .int .i64 7, .int .i64 3, .int .i64 0, .int .u8 5, .slice none 0 0, .int .i64 7, .int .i64 70, .int .i64 0, .int .u8 5, .slice none 0 0, .int .i64 8, .int .i64 0, .int .i64 1, .int .u8 5, .slice none 0 0, .int .i64 6, .int .i64 0, .int .i64 1, .int .u8 5, .slice (some ⟨wr.heap.size, 0, none⟩) 1 1, .int .i64 7, .int .i64 1, .int .i64 2, .int .u8 5, .slice (some ⟨wr.heap.size + 1, 0, none⟩) 1 1, .int .i64 7, .int .i64 5, .int .i64 64, .int .u8 5, .slice (some ⟨wr.heap.size + 1 + 1, 0, none⟩) 1 1, .int .i64 7, .int .i64 5, .int .i64 65, .int .u8 5, .slice none 0 0, .int .i64 7, .int .i64 0, .int .i64 2, .int .u8 2, .slice none 0 0, .int .i64 0, .int .i64 0, .int .i64 0, .int .u8 2, .slice none 0 0, .int .i64 0, .int .i64 0, .int .i64 0, .int .u8 5, .slice none 0 0, .int .i64 7, .int .i64 0, .int .i64 1, .int .u8 3, .slice none 0 0, .int .i64 0, .int .i64 0, .int .i64 0, .int .u8 5, .slice none 0 0, .int .i64 7, .int .i64 16, .int .i64 3, .int .u8 3, .slice none 0 0, .int .i64 0, .int .i64 0, .int .i64 0, .int .u8 5, .slice none 0 0, .int .i64 7, .int .i64 0, .int .i64 (-1), .int .u8 5, .slice none 0 0, .int .i64 7, .int .i64 (-1), .int .i64 1, .int .u8 5, .slice none 0 0, .int .i64 (-1), .int .i64 0, .int .i64 1, .int .u8 5, .slice none 0 0, .int .i64 7, .int .i64 0, .int .i64 4611686018427387905, .int .u8 4, .slice (some ⟨wr.heap.size + 1 + 1 + 1, 0, none⟩) 4 4, .int .i64 0, .int .i64 0, .int .i64 0, .int .u8 4, .slice (some ⟨y2.heap.size, 0, none⟩) 21 cp3, .int .i64 0, .int .i64 0, .int .i64 0, .int .u8 4, .slice (some ⟨y3.heap.size, 0, none⟩) 22 cp4, .int .i64 0, .int .i64 0, .int .i64 0, .int .u8 4, .slice (some ⟨y4.heap.size, 0, none⟩) 28 cp5, .int .i64 0, .int .i64 0, .int .i64 0] rfl rfl (Rd.new _ _ _ _) (by simp [Value.oneCell']) (by unfold maxLen; omega) (by omega) (by have := HYx4.out.size; simp; omega) ?_; intro A6 c6 z own6 hg6 hat6)
  have HOz := hide (HOx.out.more (w1 := x4.alloc (.cells #[.int .u8 5, .slice none 0 0, .int .i64 7, .int .i64 3, .int .i64 0, .int .u8 5, .slice none 0 0, .int .i64 7, .int .i64 70, .int .i64 0, .int .u8 5, .slice none 0 0, .int .i64 8, .int .i64 0, .int .i64 1, .int .u8 5, .slice none 0 0, .int .i64 6, .int .i64 0, .int .i64 1, .int .u8 5, .slice (some ⟨wr.heap.size, 0, none⟩) 1 1, .int .i64 7, .int .i64 1, .int .i64 2, .int .u8 5, .slice (some ⟨wr.heap.size + 1, 0, none⟩) 1 1, .int .i64 7, .int .i64 5, .int .i64 64, .int .u8 5, .slice (some ⟨wr.heap.size + 1 + 1, 0, none⟩) 1 1, .int .i64 7, .int .i64 5, .int .i64 65, .int .u8 5, .slice none 0 0, .int .i64 7, .int .i64 0, .int .i64 2, .int .u8 2, .slice none 0 0, .int .i64 0, .int .i64 0, .int .i64 0, .int .u8 2, .slice none 0 0, .int .i64 0, .int .i64 0, .int .i64 0, .int .u8 5, .slice none 0 0, .int .i64 7, .int .i64 0, .int .i64 1, .int .u8 3, .slice none 0 0, .int .i64 0, .int .i64 0, .int .i64 0, .int .u8 5, .slice none 0 0, .int .i64 7, .int .i64 16, .int .i64 3, .int .u8 3, .slice none 0 0, .int .i64 0, .int .i64 0, .int .i64 0, .int .u8 5, .slice none 0 0, .int .i64 7, .int .i64 0, .int .i64 (-1), .int .u8 5, .slice none 0 0, .int .i64 7, .int .i64 (-1), .int .i64 1, .int .u8 5, .slice none 0 0, .int .i64 (-1), .int .i64 0, .int .i64 1, .int .u8 5, .slice none 0 0, .int .i64 7, .int .i64 0, .int .i64 4611686018427387905, .int .u8 4, .slice (some ⟨wr.heap.size + 1 + 1 + 1, 0, none⟩) 4 4, .int .i64 0, .int .i64 0, .int .i64 0, .int .u8 4, .slice (some ⟨y2.heap.size, 0, none⟩) 21 cp3, .int .i64 0, .int .i64 0, .int .i64 0, .int .u8 4, .slice (some ⟨y3.heap.size, 0, none⟩) 22 cp4, .int .i64 0, .int .i64 0, .int .i64 0, .int .u8 4, .slice (some ⟨y4.heap.size, 0, none⟩) 28 cp5, .int .i64 0, .int .i64 0, .int .i64 0] 56)) (ys := ys) ((Below.refl _ _).alloc (Nat.le_refl _) _) hg6 (by rw [HNw.out]; exact own6) HYl.out (fun y hy => ⟨(HYr.out y hy).1.next ((Below.refl _ _).alloc (Nat.le_refl _) _), (HYr.out y hy).2⟩))
  have HBz : Hid (Below w.heap.size w z) := hide (app_below1 ((HBr.out.trans (HYx4.out.mono swr)).alloc (by have := HYx4.out.size; omega) _) HOr.out hg6)
  obtain ⟨j9, hj9⟩ : ∃ q, j + 22 = q := ⟨_, rfl⟩
  rw [hj9] at HOz
  try rw [hj9]
  have hj9b : j9 ≤ 154 := by omega
  clear hj9
  clear own6 hg6 hat6 HOr HOx HNw HYl HYr HYd HO HBr hF1n kq
  go_wp2_with fail
  refine (rframe_any z 1 (by decide) 7 0 1 (by decide) (by decide) (by decide) (by decide) (by decide) (by decide) [97, 98] (by decide)).mono ?_
  rintro e z1 ⟨rfl, hb⟩
  obtain ⟨Fb, hFb⟩ : ∃ z, frI 1 [97, 98] 7 0 1 = z := ⟨_, rfl⟩
  have HFbl : Hid (Fb.length = 31) := hide (by rw [← hFb]; unfold frI; rw [if_pos rfl, fr_len]; rfl)
  rw [hFb]
  clear hFb
  have HSz1 := hide hb
  clear hb
  have kq := run_bytes_of (P := Try.prog) z1 9 23 5 Fb Try.underlying9 Try.underlying23 Try.underlying5
  rw [HFbl.out] at kq
  obtain ⟨cpf, hcpf⟩ : ∃ z, grownCap z1 31 0 5 = z := ⟨_, rfl⟩
  have hcf1 : 31 ≤ cpf := by rw [← hcpf]; exact grownCap_ge _ _ _ _
  have hcf2 : cpf ≤ 9223372036854775807 := by rw [← hcpf]; exact grownCap_le_maxLen _ _ _ _ (by unfold maxLen; omega)
  rw [hcpf] at kq
  have HRf := hide (RdA.made z1 Fb)
  have HSq : Hid (Below z.heap.size z (bytesWorld z1 5 Fb)) := hide (HSz1.out.trans ((bytesWorld_below _ _ _).mono HSz1.out.size))
  obtain ⟨q0, hq0⟩ : ∃ z, bytesWorld z1 5 Fb = z := ⟨_, rfl⟩
  rw [hq0] at kq HRf HSq
  clear hcpf hq0
  obtain ⟨gf, hgf⟩ : ∃ q, z1.heap.size = q := ⟨_, rfl⟩
  rw [hgf] at HRf kq
  have HOq := hide (HOz.out.next HSq.out)
  have HBq : Hid (Below w.heap.size w q0) := hide (HBz.out.trans (HSq.out.mono HBz.out.size))
  have HGf := hide hgf
  clear HOz HBz HSq HSz1 hgf
  go_wp2
  go_loopw [8] (fun v8 wr => ∃ i : Nat, i ≤ 31 ∧ v8 = .int .i64 (i : Int) ∧ Hid (Below q0.heap.size q0 wr)) (fun v8 _ => 31 - (intOf v8).toNat)
  case atStart => exact ⟨0, by omega, rfl, hide (Below.refl _ _)⟩
  case round =>
   obtain ⟨i, hi, rfl, HSr⟩ := hrel
   obtain ⟨wr, rfl⟩ : ∃ z : World, z = wr := ⟨_, rfl⟩
   clear kq
   by_cases hlt : i < 31
   ·have hI1 : (i : Int) < 31 := by omega
    have hI0 : (0 : Int) ≤ (i : Int) := by omega
    have HRr := hide (HRf.out.next HSr.out)
    have kc := HRr.out.conv (c := cpf) HFbl.out
    have kq := run_bytes_of (P := Try.prog) wr 9 23 5 Fb Try.underlying9 Try.underlying23 Try.underlying5
    rw [HFbl.out] at kq
    obtain ⟨cpx, hcpx⟩ : ∃ z, grownCap wr 31 0 5 = z := ⟨_, rfl⟩
    rw [hcpx] at kq
    have HRp := hide (RdA.made wr Fb)
    have HSp := hide (bytesWorld_below wr 5 Fb)
    have hpf := bytesWorld_frozen wr 5 Fb (j := i) (by rw [HFbl.out]; exact hlt)
    have hps := bytesWorld_size wr 5 Fb
    obtain ⟨p1, hp1⟩ : ∃ z, bytesWorld wr 5 Fb = z := ⟨_, rfl⟩
    rw [hp1] at kq HRp HSp hpf hps
    clear hcpx hp1
    obtain ⟨gx, hgx⟩ : ∃ q, wr.heap.size = q := ⟨_, rfl⟩
    rw [hgx] at HRp kq hpf hps
    have HGx := hide hgx
    clear hgx
    obtain ⟨cn, hcn8, hcc, hset⟩ := HRp.out.set8 (i := i) (by rw [HFbl.out]; exact hlt)
    obtain ⟨dn, hdn⟩ : ∃ z, cn ^^^ 1 = z := ⟨_, rfl⟩
    have hdn8 : dn < 256 := by rw [← hdn]; exact Nat.xor_lt_two_pow (n := 8) hcn8 (by decide)
    have hxor : bits BinOp.xor IntKind.u8 (cn : Int) 1 = (dn : Int) := by have h9 := k8_xor cn 1 hcn8 (by decide); rw [hdn] at h9; exact h9
    have HRq := hide (hset dn hdn8)
    clear hset hdn
    go_upto_region 16 with fail
    obtain ⟨p2, hp2⟩ : ∃ z, p1.setCell ⟨gx, i, none⟩ (.int .u8 (dn : Int)) = z := ⟨_, rfl⟩
    rw [hp2] at HRq ⊢
    have HSp2 : Hid (Below wr.heap.size wr p2) := hide (by rw [← hp2]; exact HSp.out.setCell (p := ⟨gx, i, none⟩) (by show wr.heap.size ≤ gx; rw [HGx.out]; exact Nat.le_refl _) _)
    clear hp2 hcc hpf hxor kc kq hps
    obtain ⟨Fx, hFx⟩ : ∃ z, Fb.set i (UInt8.ofNat dn) = z := ⟨_, rfl⟩
    rw [hFx] at HRq
    have HFxl : Hid (Fx.length = 31) := hide (by rw [← hFx, List.length_set]; exact HFbl.out)
    clear hFx
    have HRr2 := hide (HRr.out.next HSp2.out)
    have hic : (i : Int) ≤ (cpf : Int) := by omega
    have hicn : i ≤ cpf := by omega
    obtain ⟨ys2, hys2⟩ : ∃ z : List Cal5, [⟨4, some ⟨gx, 0, none⟩, Fx, cpx, 0, 0, 0⟩, ⟨4, some ⟨gf, 0, none⟩, Fb.take i, cpf, 0, 0, 0⟩, ⟨4, some ⟨gf, 0, none⟩, Fb, cpf, 0, 0, 0⟩, ⟨2, none, [], 0, 0, 0, 0⟩] = z := ⟨_, rfl⟩
    go_wp2_with fail
    have hct : (Fb.take i).length = i := by rw [List.length_take, HFbl.out]; omega
    have HCs := hide (cals_lit (ys := ys2) (heap_alloc_last p2 (.cells #[.int .u8 4, .slice (some ⟨gx, 0, none⟩) 31 cpx, .int .i64 0, .int .i64 0, .int .i64 0, .int .u8 4, .slice (some ⟨gf, 0, none⟩) i cpf, .int .i64 0, .int .i64 0, .int .i64 0, .int .u8 4, .slice (some ⟨gf, 0, none⟩) 31 cpf, .int .i64 0, .int .i64 0, .int .i64 0, .int .u8 2, .slice none 0 0, .int .i64 0, .int .i64 0, .int .i64 0] 56)) (by rw [← hys2]; simp only [calF, calC, List.flatMap_cons, List.flatMap_nil, List.cons_append, List.nil_append, List.append_nil, HFxl.out, hct, HFbl.out]; rfl) (by
     have hnx : Below p2.heap.size p2 (p2.alloc (.cells #[.int .u8 4, .slice (some ⟨gx, 0, none⟩) 31 cpx, .int .i64 0, .int .i64 0, .int .i64 0, .int .u8 4, .slice (some ⟨gf, 0, none⟩) i cpf, .int .i64 0, .int .i64 0, .int .i64 0, .int .u8 4, .slice (some ⟨gf, 0, none⟩) 31 cpf, .int .i64 0, .int .i64 0, .int .i64 0, .int .u8 2, .slice none 0 0, .int .i64 0, .int .i64 0, .int .i64 0] 56)) := (Below.refl _ _).alloc (Nat.le_refl _) _
     rw [← hys2]
     intro y hy
     simp only [List.mem_cons, List.not_mem_nil, or_false] at hy
     rcases hy with rfl | rfl | rfl | rfl
     ·exact ⟨HRq.out.next hnx, by simp [Cal5.ok, HFxl.out]⟩
     ·exact ⟨(HRr2.out.take i).next hnx, by simp [Cal5.ok, hct]; omega⟩
     ·exact ⟨HRr2.out.next hnx, by simp [Cal5.ok, HFbl.out]⟩
     ·exact ⟨RdA.none_, by simp [Cal5.ok]⟩))
    have HSp3 : Hid (Below wr.heap.size wr (p2.alloc (.cells #[.int .u8 4, .slice (some ⟨gx, 0, none⟩) 31 cpx, .int .i64 0, .int .i64 0, .int .i64 0, .int .u8 4, .slice (some ⟨gf, 0, none⟩) i cpf, .int .i64 0, .int .i64 0, .int .i64 0, .int .u8 4, .slice (some ⟨gf, 0, none⟩) 31 cpf, .int .i64 0, .int .i64 0, .int .i64 0, .int .u8 2, .slice none 0 0, .int .i64 0, .int .i64 0, .int .i64 0] 56))) := hide (HSp2.out.alloc HSp2.out.size _)
    have hyl2 : ys2.length = 4 := by rw [← hys2]; rfl
    clear hys2
    have HPl := hide (linkPlays_walk _ 7 (by decide) (by decide) _ ys2 4 HCs.out (by omega) (by decide))
    rw [hyl2] at HPl
    clear hyl2
    refine HPl.out.mono ?_
    rintro e p4 ⟨rfl, hb⟩
    have HS4 := hide (HSr.out.trans ((HSp3.out.trans (hb.mono HSp3.out.size)).mono HSr.out.size))
    clear hb HPl HCs HSp3
    go_wp2
    go_roundw
    case rel => exact ⟨i + 1, by omega, by go_num, HS4⟩
    case measure => simp [intOf]; omega
   have hI1 : ¬ (i : Int) < 31 := by omega
   have HOr2 := hide (HOq.out.next HSr.out)
   have HBr2 : Hid (Below w.heap.size w wr) := hide (HBq.out.trans (HSr.out.mono HBq.out.size))
   clear HOq HBq HSr HRf
   go_wp2_with fail
   refine (lopen_any wr 1).mono ?_
   rintro e v1 ⟨P, M, rfl, hE, hp, hm, hb⟩
   rw [show epN 1 = 1 from rfl] at hE
   have HE := hide hE
   have HSv := hide hb
   clear hE hb
   obtain ⟨b1, hb1⟩ : ∃ z : BL, List.replicate 1048577 0 = z := ⟨_, rfl⟩
   have HMl1 : Hid (b1.length = 1048577) := hide (by rw [← hb1, List.length_replicate])
   have hmk1 := mk8_run v1 1048577 (by omega)
   have HMr1 := hide (mk8_rd v1 1048577)
   have HMu1 : Hid (Below v1.heap.size v1 (v1.alloc (.cells (madeCells #[.int .u8 0] 1048577) 5))) := hide ((Below.refl _ _).alloc (Nat.le_refl _) _)
   obtain ⟨u1, hu1⟩ : ∃ z, v1.alloc (.cells (madeCells #[.int .u8 0] 1048577) 5) = z := ⟨_, rfl⟩
   rw [hu1] at hmk1 HMr1 HMu1
   rw [hb1] at HMr1
   rw [show ((1048577 : Nat) : Int) = 1048577 from rfl] at hmk1
   clear hb1 hu1
   go_wp2_with fail
   have HSd := hide (send_any u1 (HE.out.next HMu1.out) (some ⟨v1.heap.size, 0, none⟩) b1 1048577 HMr1.out.rd (by rw [HMl1.out]; omega) (by decide))
   rw [HMl1.out] at HSd
   refine HSd.out.mono ?_
   rintro e v3 ⟨rfl, G3, own3, hE3, hk3, hg3, ho3⟩
   have hs3 : sendL (openL 1) b1 = (3, openL 1) := by unfold sendL; rw [if_pos (.inl (by rw [HMl1.out]; omega))]
   rw [hs3] at hE3 ⊢
   have HE3 := hide hE3
   have HSv3 : Hid (Below wr.heap.size wr v3) := hide ((HSv.out.trans (HMu1.out.mono HSv.out.size)).trans (hk3.toBelow (by intro x hx; simp at hx; rw [hx]; exact hp) (by have := HSv.out.size; have := HMu1.out.size; omega)))
   have HG3 := hide hg3
   clear hE3 hk3 hg3 ho3 hs3 HSd HMr1 HMl1 hmk1
   obtain ⟨b2, hb2⟩ : ∃ z : BL, List.replicate 1048576 0 = z := ⟨_, rfl⟩
   have HMl2 : Hid (b2.length = 1048576) := hide (by rw [← hb2, List.length_replicate])
   have hmk2 := mk8_run v3 1048576 (by omega)
   have HMr2 := hide (mk8_rd v3 1048576)
   have HMu2 : Hid (Below v3.heap.size v3 (v3.alloc (.cells (madeCells #[.int .u8 0] 1048576) 5))) := hide ((Below.refl _ _).alloc (Nat.le_refl _) _)
   obtain ⟨u2, hu2⟩ : ∃ z, v3.alloc (.cells (madeCells #[.int .u8 0] 1048576) 5) = z := ⟨_, rfl⟩
   rw [hu2] at hmk2 HMr2 HMu2
   rw [hb2] at HMr2
   rw [show ((1048576 : Nat) : Int) = 1048576 from rfl] at hmk2
   clear hb2 hu2
   go_wp2_with fail
   have HSd := hide (send_any u2 (HE3.out.next HMu2.out) (some ⟨v3.heap.size, 0, none⟩) b2 1048576 HMr2.out.rd (by rw [HMl2.out]; omega) (by decide))
   rw [HMl2.out] at HSd
   refine HSd.out.mono ?_
   rintro e v5 ⟨rfl, G5, own5, hE5, hk5, hg5, ho5⟩
   obtain ⟨s2, hs2⟩ : ∃ z : LE, { openL 1 with sent := [b2], next := 2 } = z := ⟨_, rfl⟩
   have hs5 : sendL (openL 1) b2 = (0, s2) := by unfold sendL; rw [if_neg (by rw [HMl2.out]; simp [openL, mostL]), if_neg (by simp [openL]), ← hs2]; rfl
   have hfr : (fromL s2 s2.fresh s2.owes).1 = [fr 1 b2 [1, 0, 1]] := by rw [← hs2]; rfl
   have HFrm := hide hfr
   clear hfr hs2
   rw [hs5] at hE5 ⊢
   have HE5 := hide hE5
   have HSv5 : Hid (Below wr.heap.size wr v5) := hide ((HSv3.out.trans (HMu2.out.mono HSv3.out.size)).trans (hk5.toBelow (by intro x hx; simp at hx; rcases hx with h | h; rw [h]; exact hp; rcases HG3.out with h9 | ⟨g, h9, h8⟩; rw [h9] at h; cases h; rw [h9] at h; injection h with h; have := HSv.out.size; have := HMu1.out.size; omega) (by have := HSv3.out.size; have := HMu2.out.size; omega)))
   clear hE5 hk5 hg5 ho5 hs5 HSd HMr2 hmk2 HE3 HG3
   go_wp2_with fail
   refine (lout_any v5 HE5.out).mono ?_
   rintro e v6 ⟨vo, own6, rfl, ha, ho, hb, hk⟩
   rw [HFrm.out] at ha
   have HSv6 : Hid (Below wr.heap.size wr v6) := hide (HSv5.out.trans (hk.toBelow (by intro x hx; simp at hx; rw [hx]; exact hp) HSv5.out.size))
   obtain ⟨Fr, hFr⟩ : ∃ z, fr 1 b2 [1, 0, 1] = z := ⟨_, rfl⟩
   have HFrl : Hid (Fr.length = 1048605) := hide (by rw [← hFr, fr_len, HMl2.out]; rfl)
   have HFrd : Hid (readL Fr = some (1, 0, 1, b2)) := hide (by rw [← hFr]; exact read_msg (by decide) (by decide) (by decide) (by decide) (by rw [HMl2.out]; decide))
   rw [hFr] at ha
   clear hFr
   obtain ⟨A7, c7, vs7, rfl, -⟩ := id ha
   rw [show ([Fr] : List BL).length = 1 from rfl] at ha ⊢
   obtain ⟨g7, Af, cf, rfl, hg7l, -, hc7, hby⟩ := rows_cell ha (i := 0) rfl
   rw [HFrl.out] at hc7 hby
   have HRF : Hid (Rd v6 v6.heap.size Af (u8s Fr)) := hide hby.row
   obtain ⟨⟨e1, e2⟩, e3⟩ := hby.2 (by intro e; have := HFrl.out; rw [e] at this; cases this)
   have hcf9 : 1048605 ≤ cf ∧ cf ≤ 9223372036854775807 := by rcases e2 with ⟨q0, q9⟩ | ⟨gb, cap, cur, hvb, hgb, hcb, hnb, hmb, hsb, htb⟩; rw [HFrl.out] at q9; cases q9; injection hvb with _ _ hcf; rw [hcf]; rw [HFrl.out] at hnb; exact ⟨hnb, Nat.le_trans hmb (by decide)⟩
   obtain ⟨hcf1', hcf2'⟩ := hcf9
   clear ha ho hb hk hby e1 e2 e3 HE5 HFrm
   go_upto_region 23 with fail
   refine wp_region_held_drew (S := Kept v6) (by kernel_rfl) (Kept.drew v6) (fun hS0 => ?_)
   refine tk 1 182 ?_ ?_ ?_; rotate_left; (focus (intro w h; go_simp; (try with_reducible rfl))); (try simp only [zqd, zqe, zqf])
   refine tk 2 183 ?_ ?_ ?_; rotate_left; (focus (intro w h; go_simp; (try with_reducible rfl))); (try simp only [zqd, zqe, zqf])
   refine tk 3 184 ?_ ?_ ?_; rotate_left; (focus (intro w h; go_simp; (try with_reducible rfl))); (try simp only [zqd, zqe, zqf])
   refine call_at (i := 0) (d := 181) (by simp only [zqa, zqb, zqc]; rfl) rfl (by kernel_rfl) rfl (fun K hK => ?_)
   go_simp
   refine (lopen_any v6.drew 1).mono ?_
   rintro e y1 ⟨P9, M9, rfl, hE9, hp9, hm9, hb9⟩
   rw [show epN 1 = 1 from rfl] at hE9
   have HE9 := hide hE9
   have HSy1 : Hid (Below v6.heap.size v6 y1) := hide (below_dr hb9)
   have hp9 : v6.heap.size ≤ P9 := hp9
   have hm9 : v6.heap.size ≤ M9 := hm9
   have hS1 : Kept v6 y1 := Kept.of_below HSy1.out
   clear hE9 hb9
   go_wp2_with fail
   refine hK.out _ _ hS1 (fun hSn => ?_)
   clear hK K
   try simp only [zqd, zqe, zqf]
   refine call_at (i := 4) (d := 185) (by simp only [zqa, zqb, zqc]; rfl) rfl (by kernel_rfl) rfl (fun K hK => ?_)
   go_simp
   have HHe := hide (hear_any y1 HE9.out Af Fr cf ((HRF.out.below HSy1.out).more HSy1.out.size) (by rw [HFrl.out]; decide) (by rw [HFrl.out]; exact hcf1') hcf2' (by decide) (by decide))
   rw [HFrl.out] at HHe
   refine HHe.out.mono ?_
   rintro e y2 ⟨vh, ownh, rfl, -, -, hk, -⟩
   rw [show (hearL (openL 1) Fr).1 = 0 by rw [hearL_ok (hd := 0) (n := 1) (b := b2) HFrd.out (by decide) (by decide)]]
   have HSy2 : Hid (Below v6.heap.size v6 y2) := hide (HSy1.out.trans (hk.toBelow (by intro x hx; simp at hx; rcases hx with h | h; rw [h]; exact hp9; rw [h]; exact hm9) HSy1.out.size))
   have hS2 : Kept v6 y2 := Kept.of_below HSy2.out
   clear hk HHe
   go_wp2_with fail
   refine hK.out _ _ hS2 (fun hSn => ?_)
   clear hK K
   try simp only [zqd, zqe, zqf]
   refine tk 5 180 ?_ ?_ ?_; rotate_left; (focus (intro w h; go_simp; (try with_reducible rfl))); (try simp only [zqd, zqe, zqf])
   refine tk 6 186 ?_ ?_ ?_; rotate_left; (focus (intro w h; go_simp; (try with_reducible rfl))); (try simp only [zqd, zqe, zqf])
   refine tk 7 187 ?_ ?_ ?_; rotate_left; (focus (intro w h; go_simp; (try with_reducible rfl))); (try simp only [zqd, zqe, zqf])
   refine tk 8 13 ?_ ?_ ?_; rotate_left; (focus (intro w h; go_simp; (try with_reducible rfl))); (try simp only [zqd, zqe, zqf])
   refine tk 9 14 ?_ ?_ ?_; rotate_left; (focus (intro w h; go_simp; (try with_reducible rfl))); (try simp only [zqd, zqe, zqf])
   refine wpAnyH_done (by kernel_rfl) ?_ _
   clear hS0 hSn hS1 hS2 hc7
   have HSr9 : Hid (Below wr.heap.size wr y2) := hide (HSv6.out.trans (HSy2.out.mono HSv6.out.size))
   have HOy := hide (HOr2.out.next HSr9.out)
   have HB2 : Hid (Below w.heap.size w y2) := hide (HBr2.out.trans (HSr9.out.mono HBr2.out.size))
   obtain ⟨zs, hzs⟩ : ∃ z : List Cal5, xs ++ ys = z := ⟨_, rfl⟩
   rw [hzs] at HOy
   obtain ⟨hl9, hC9, hc91, hc92⟩ := HOy.out.cals
   have HPl := hide (linkPlays_walk y2 7 (by decide) (by decide) A6 zs c6 hC9 hc91 hc92)
   rw [← hl9] at HPl
   clear hzs hl9 hC9 hc91 hc92 HOy HOr2 HSr9 HSy1 HSy2 HRF HE9
   go_wp2_with fail
   refine HPl.out.mono ?_
   rintro e y3 ⟨rfl, hb⟩
   have HB3 := hide (HB2.out.trans (hb.mono HB2.out.size))
   clear hb HPl
   have HT9 := hide (turned_known (y3.alloc (.cells #[.int .u8 7] 5)) (some ⟨y3.heap.size, 0, none⟩) 1 ((RdA.new y3 #[.int .u8 7] (0, 0) [7] rfl).rd))
   have HB3' : Hid (Below w.heap.size w (y3.alloc (.cells #[.int .u8 7] 5))) := hide (HB3.out.alloc HB3.out.size _)
   go_wp2_with fail
   refine HT9.out.mono ?_
   rintro e y4 ⟨rfl, hb⟩
   have HB4 : Hid (Below w.heap.size w y4) := hide (HB3'.out.trans (hb.mono HB3'.out.size))
   clear hb HT9 HB3'
   have kc := fun (w : World) (C : Array Value) (n c : Nat) => Lib.run_convert_bytes_const (P := Try.prog) w 23 5 C n c Try.underlying23 Try.underlying5
   have kc1 := kc (y4.alloc (.cells #[.int .u8 97] 5 (1, 2))) #[.int .u8 113] 1 1
   rw [World.size_alloc] at kc1
   have kc2 := kc ((y4.alloc (.cells #[.int .u8 97] 5 (1, 2))).alloc (.cells #[.int .u8 113] 5 (1, 2))) #[.int .u8 98] 1 1
   rw [World.size_alloc, World.size_alloc] at kc2
   go_wp2_with fail
   obtain ⟨ss, hss⟩ : ∃ z : List Stp4, [⟨0, 0, 0, (some ⟨y4.heap.size, 0, none⟩), [97], 1⟩, ⟨2, 0, 0, none, [], 0⟩, ⟨6, 1, 0, none, [], 0⟩, ⟨8, 1, 9, (some ⟨y4.heap.size + 1, 0, none⟩), [113], 1⟩, ⟨4, 1, 0, none, [], 0⟩, ⟨4, 1, 0, none, [], 0⟩, ⟨0, 1, 0, (some ⟨y4.heap.size + 1 + 1, 0, none⟩), [98], 1⟩, ⟨2, 1, 0, none, [], 0⟩, ⟨9, 0, 0, none, [], 0⟩] = z := ⟨_, rfl⟩
   obtain ⟨y5, hy5⟩ : ∃ z, (((y4.alloc (.cells #[.int .u8 97] 5 (1, 2))).alloc (.cells #[.int .u8 113] 5 (1, 2))).alloc (.cells #[.int .u8 98] 5 (1, 2))) = z := ⟨_, rfl⟩
   have HRq0 : Hid (RdA y5 (some ⟨y4.heap.size, 0, none⟩) [97]) := hide (by rw [← hy5]; exact (RdA.new y4 #[.int .u8 97] (1, 2) [97] rfl).next (((Below.refl _ _).alloc (by simp) _).alloc (by simp) _))
   have HRq1 : Hid (RdA y5 (some ⟨y4.heap.size + 1, 0, none⟩) [113]) := hide (by rw [← hy5]; have h9 := RdA.new (y4.alloc (.cells #[.int .u8 97] 5 (1, 2))) #[.int .u8 113] (1, 2) [113] rfl; rw [World.size_alloc] at h9; exact h9.next ((Below.refl _ _).alloc (by simp) _))
   have HRq2 : Hid (RdA y5 (some ⟨y4.heap.size + 1 + 1, 0, none⟩) [98]) := hide (by rw [← hy5]; have h9 := RdA.new ((y4.alloc (.cells #[.int .u8 97] 5 (1, 2))).alloc (.cells #[.int .u8 113] 5 (1, 2))) #[.int .u8 98] (1, 2) [98] rfl; rw [World.size_alloc, World.size_alloc] at h9; exact h9)
   have hs5 : y5.heap.size = y4.heap.size + 1 + 1 + 1 := by rw [← hy5]; simp
   have HB5 : Hid (Below w.heap.size w y5) := hide (by rw [← hy5]; exact ((HB4.out.alloc HB4.out.size _).alloc (by have := HB4.out.size; simp; omega) _).alloc (by have := HB4.out.size; simp; omega) _)
   rw [hy5]
   have HB6 : Hid (Below w.heap.size w (y5.alloc (.cells #[.int .u8 0, .int .u8 0, .int .u8 0, .slice (some ⟨y4.heap.size, 0, none⟩) 1 1, .int .u8 2, .int .u8 0, .int .u8 0, .slice none 0 0, .int .u8 6, .int .u8 1, .int .u8 0, .slice none 0 0, .int .u8 8, .int .u8 1, .int .u8 9, .slice (some ⟨y4.heap.size + 1, 0, none⟩) 1 1, .int .u8 4, .int .u8 1, .int .u8 0, .slice none 0 0, .int .u8 4, .int .u8 1, .int .u8 0, .slice none 0 0, .int .u8 0, .int .u8 1, .int .u8 0, .slice (some ⟨y4.heap.size + 1 + 1, 0, none⟩) 1 1, .int .u8 2, .int .u8 1, .int .u8 0, .slice none 0 0, .int .u8 9, .int .u8 0, .int .u8 0, .slice none 0 0] 40))) := hide (HB5.out.alloc HB5.out.size _)
   have HSt := stps_lit (ys := ss) (heap_alloc_last y5 (.cells #[.int .u8 0, .int .u8 0, .int .u8 0, .slice (some ⟨y4.heap.size, 0, none⟩) 1 1, .int .u8 2, .int .u8 0, .int .u8 0, .slice none 0 0, .int .u8 6, .int .u8 1, .int .u8 0, .slice none 0 0, .int .u8 8, .int .u8 1, .int .u8 9, .slice (some ⟨y4.heap.size + 1, 0, none⟩) 1 1, .int .u8 4, .int .u8 1, .int .u8 0, .slice none 0 0, .int .u8 4, .int .u8 1, .int .u8 0, .slice none 0 0, .int .u8 0, .int .u8 1, .int .u8 0, .slice (some ⟨y4.heap.size + 1 + 1, 0, none⟩) 1 1, .int .u8 2, .int .u8 1, .int .u8 0, .slice none 0 0, .int .u8 9, .int .u8 0, .int .u8 0, .slice none 0 0] 40)) (by rw [← hss]; rfl) (by
  have hnx : Below y5.heap.size y5 (y5.alloc (.cells #[.int .u8 0, .int .u8 0, .int .u8 0, .slice (some ⟨y4.heap.size, 0, none⟩) 1 1, .int .u8 2, .int .u8 0, .int .u8 0, .slice none 0 0, .int .u8 6, .int .u8 1, .int .u8 0, .slice none 0 0, .int .u8 8, .int .u8 1, .int .u8 9, .slice (some ⟨y4.heap.size + 1, 0, none⟩) 1 1, .int .u8 4, .int .u8 1, .int .u8 0, .slice none 0 0, .int .u8 4, .int .u8 1, .int .u8 0, .slice none 0 0, .int .u8 0, .int .u8 1, .int .u8 0, .slice (some ⟨y4.heap.size + 1 + 1, 0, none⟩) 1 1, .int .u8 2, .int .u8 1, .int .u8 0, .slice none 0 0, .int .u8 9, .int .u8 0, .int .u8 0, .slice none 0 0] 40)) := (Below.refl _ _).alloc (Nat.le_refl _) _
  rw [← hss]
  intro y hy
  simp only [List.mem_cons, List.not_mem_nil, or_false] at hy
  rcases hy with rfl | rfl | rfl | rfl | rfl | rfl | rfl | rfl | rfl
  ·exact ⟨HRq0.out.next hnx, by simp [Stp4.ok]⟩
  ·exact ⟨RdA.none_, by simp [Stp4.ok]⟩
  ·exact ⟨RdA.none_, by simp [Stp4.ok]⟩
  ·exact ⟨HRq1.out.next hnx, by simp [Stp4.ok]⟩
  ·exact ⟨RdA.none_, by simp [Stp4.ok]⟩
  ·exact ⟨RdA.none_, by simp [Stp4.ok]⟩
  ·exact ⟨HRq2.out.next hnx, by simp [Stp4.ok]⟩
  ·exact ⟨RdA.none_, by simp [Stp4.ok]⟩
  ·exact ⟨RdA.none_, by simp [Stp4.ok]⟩)
   have hsl : ss.length = 9 := by rw [← hss]; rfl
   have HLo := hide (linkOrder_walk _ 7 (by decide) (by decide) _ ss 9 HSt (by omega) (by decide))
   rw [hsl, hs5] at HLo
   clear HSt hsl hss hy5
   refine HLo.out.mono ?_
   rintro e y6 ⟨rfl, hb⟩
   have HB7 : Hid (Below w.heap.size w y6) := hide (HB6.out.trans (hb.mono HB6.out.size))
   clear hb HLo HB6
   go_wp2_with fail
   refine (works_any y6).mono ?_
   rintro e y7 ⟨rfl, hb⟩
   have HB8 : Hid (Below w.heap.size w y7) := hide (HB7.out.trans (hb.mono HB7.out.size))
   clear hb
   go_wp2
   go_ret
   exact ⟨rfl, HB8.out⟩
end Go.Proofs.Ytigmmikijjcdiaa
