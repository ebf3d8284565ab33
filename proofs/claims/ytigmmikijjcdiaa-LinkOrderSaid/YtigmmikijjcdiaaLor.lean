/- The walk of the statement LinkOrder. (printed by gen/lor.py) -/
import Derived.Test.YtigmmikijjcdiaaProg
import Derived.Test.YtigmmikijjcdiaaNq5
import Derived.Test.YtigmmikijjcdiaaNsp
import Derived.Test.YtigmmikijjcdiaaNrd
import Derived.Test.YtigmmikijjcdiaaNoc
import Derived.Deep.DeepCutAuto
import Derived.Lib.Hide
import Derived.WalkSpells
import Derived.WalkMore
import Derived.IntWalk
namespace Go.Proofs.Ytigmmikijjcdiaa
open Go.RowKit
set_option linter.unusedVariables false
set_option linter.unusedSimpArgs false
theorem NSt.bad {w : World} {L W P1 P2 a Q1 Q2 ep m n : Nat} (h : NSt w L W P1 P2 a Q1 Q2 ep m n) : w.cell? ⟨W, 4, none⟩ = some (.bool false) ∧ W < w.heap.size ∧ L < w.heap.size := by
  obtain ⟨E, Y, U, T, tag, B, ways, puts, gots, s, t, ws, wt, ps, pt, gs, gt, h1, h2, h3, h4⟩ := h
  exact ⟨cell_of_row _ _ 4 _ _ _ h1.wd, lt_of_block h1.wd, h2.low⟩
theorem NSt.drew {w : World} {L W P1 P2 a Q1 Q2 ep m n : Nat} (h : NSt w L W P1 P2 a Q1 Q2 ep m n) : NSt w.drew L W P1 P2 a Q1 Q2 ep m n := by
  obtain ⟨E, Y, U, T, tag, B, ways, puts, gots, s, t, ws, wt, ps, pt, gs, gt, h1, h2, h3, h4, h5, h6⟩ := h
  exact ⟨E, Y, U, T, tag, B, ways, puts, gots, s, t, ws, wt, ps, pt, gs, gt, h1.next (Below.refl _ _).drew, h2.next (Below.refl _ _).drew, h3, h4, h5, h6⟩
/-- the end of a is the one or the other -/
def Pof (P1 P2 a : Nat) : Nat := if a = 0 then P1 else P2
theorem NSt.at_ {w : World} {L W P1 P2 ep m n : Nat} (h : NSt w L W P1 P2 0 P1 P2 ep m n) {a : Nat} (ha : a < 2) : NSt w L W P1 P2 a (Pof P1 P2 a) (Pof P1 P2 (1 - a)) ep m n := by
  rcases (show a = 0 ∨ a = 1 by omega) with rfl | rfl
  · exact h
  · exact h.swap (by decide)
theorem NSt.back {w : World} {L W P1 P2 ep m n a : Nat} (h : NSt w L W P1 P2 a (Pof P1 P2 a) (Pof P1 P2 (1 - a)) ep m n) (ha : a < 2) : NSt w L W P1 P2 0 P1 P2 ep m n := by
  rcases (show a = 0 ∨ a = 1 by omega) with rfl | rfl
  · exact h
  · exact h.swap (by decide)
/-- what the rounds have brought so far -/
def RC (tt : Nat) (s t : LE) (ps pt gs gt : List BL) : Prop := (1 ≤ tt → gt = ps) ∧ (2 ≤ tt → gs = pt ∧ s.sent = [])
def RCa (a tt : Nat) (s t : LE) (ps pt gs gt : List BL) : Prop := if a = 0 then RC tt s t ps pt gs gt else RC tt t s pt ps gt gs
theorem RSt.at_ {w : World} {L W P1 P2 ep n tt : Nat} (h : RSt w L W P1 P2 0 P1 P2 ep n (RC tt)) {a : Nat} (ha : a < 2) : RSt w L W P1 P2 a (Pof P1 P2 a) (Pof P1 P2 (1 - a)) ep n (RCa a tt) := by
  rcases (show a = 0 ∨ a = 1 by omega) with rfl | rfl
  · exact h
  · exact h.swap (by decide)
theorem RSt.back {w : World} {L W P1 P2 ep n tt a : Nat} (h : RSt w L W P1 P2 a (Pof P1 P2 a) (Pof P1 P2 (1 - a)) ep n (RCa a tt)) (ha : a < 2) : RSt w L W P1 P2 0 P1 P2 ep n (RC tt) := by
  rcases (show a = 0 ∨ a = 1 by omega) with rfl | rfl
  · exact h
  · exact h.swap (by decide)
theorem RSt.drew {w : World} {L W P1 P2 a Q1 Q2 ep n : Nat} {C : LE → LE → List BL → List BL → List BL → List BL → Prop} (h : RSt w L W P1 P2 a Q1 Q2 ep n C) : RSt w.drew L W P1 P2 a Q1 Q2 ep n C := by
  obtain ⟨E, Y, U, T, tag, B, ways, puts, gots, s, t, ps, pt, gs, gt, h1, h2, h3⟩ := h
  exact ⟨E, Y, U, T, tag, B, ways, puts, gots, s, t, ps, pt, gs, gt, h1.next (Below.refl _ _).drew, h2.next (Below.refl _ _).drew, h3⟩
theorem RCa.next {tt a : Nat} {s s' t t' : LE} {ps pt gs gt : List BL} (h : RCa a tt s t ps pt gs gt) (ha : tt % 2 = a) (hd : Dir t s pt gs) (h1 : s'.sent = s.sent) (h2 : s.heard = pt.length → t'.sent = []) : RCa a (tt + 1) s' t' ps pt gs ps := by
  unfold RCa at h ⊢
  by_cases h0 : a = 0
  · rw [if_pos h0] at h ⊢
    refine ⟨fun _ => rfl, fun h3 => ?_⟩
    have := h.2 (by omega)
    exact ⟨this.1, by rw [h1]; exact this.2⟩
  · rw [if_neg h0] at h ⊢
    have hg := h.1 (by omega)
    refine ⟨fun _ => hg, fun _ => ⟨rfl, h2 ?_⟩⟩
    rw [hd.heard, hg]
/-- how many bytes the first steps have -/
def totB (xs : List Stp4) : Nat := (xs.map fun x => x.b.length).sum
theorem totB_snoc (xs : List Stp4) (x : Stp4) : totB (xs ++ [x]) = totB xs + x.b.length := by unfold totB; simp
set_option maxRecDepth 100000 in
set_option maxHeartbeats 16000000 in
theorem linkOrder_walk (w : World) (ep : Int) (ha1 : -9223372036854775808 ≤ ep) (ha2 : ep ≤ 9223372036854775807) (A : Option Addr) (xs : List Stp4) (c : Nat) (hI : Stps w w.heap.size A xs) (hc1 : xs.length ≤ c) (hc2 : c ≤ 9223372036854775807) :
    Calls Try.prog 5 #[.int .i64 ep, .slice A xs.length c] w fun e w' => e = .returned (.bool true) ∧ Below w.heap.size w w' := by
  obtain ⟨n, hn⟩ : ∃ n, xs.length = n := ⟨_, rfl⟩
  rw [hn] at hc1 ⊢
  have HN := hide hn
  have HI := hide hI
  clear hn hI
  by_cases n0 : (400 : Int) < (n : Int)
  · go_enter Try.func5, Try.ntmps5
    go_wp2_with fail
    refine (works_any _).mono ?_
    rintro e w1 ⟨rfl, hb⟩
    have HB := hide hb
    clear hb
    go_wp2
    go_ret
    exact ⟨rfl, HB.out⟩
  by_cases a0 : ep < 0
  · go_enter Try.func5, Try.ntmps5
    go_wp2_with fail
    refine (works_any _).mono ?_
    rintro e w1 ⟨rfl, hb⟩
    have HB := hide hb
    clear hb
    go_wp2
    go_ret
    exact ⟨rfl, HB.out⟩
  by_cases a1 : 4611686018427387904 < ep
  · go_enter Try.func5, Try.ntmps5
    go_wp2_with fail
    refine (works_any _).mono ?_
    rintro e w1 ⟨rfl, hb⟩
    have HB := hide hb
    clear hb
    go_wp2
    go_ret
    exact ⟨rfl, HB.out⟩
  obtain ⟨ea, rfl⟩ := Int.eq_ofNat_of_zero_le (show 0 ≤ ep by omega)
  have hea : ea ≤ 4611686018427387904 := by omega
  have hn4 : n ≤ 400 := by omega
  obtain ⟨L, hL⟩ : ∃ z, w.heap.size = z := ⟨_, rfl⟩
  go_enter Try.func5, Try.ntmps5
  go_wp2
  go_loopw [5, 6] (fun v5 v6 wr => ∃ (i t : Nat), i ≤ n ∧ t ≤ 5000 ∧ v5 = .int .i64 (t : Int) ∧ v6 = .int .i64 (i : Int) ∧ w = wr ∧ Hid (totB (xs.take i) = t) ∧ Hid (∀ x ∈ xs.take i, x.b.length ≤ 5000)) (fun _ v6 _ => n - (intOf v6).toNat)
  case atStart => exact ⟨0, 0, by omega, by omega, rfl, rfl, rfl, hide rfl, hide (fun x hx => by simp at hx)⟩
  case round =>
    obtain ⟨i, t, hi, ht, rfl, rfl, rfl, HT, HX⟩ := hrel
    by_cases hlt : i < n
    · have hI1 : (i : Int) < (n : Int) := by omega
      have hI0 : (0 : Int) ≤ (i : Int) := by omega
      obtain ⟨x, hx⟩ : ∃ x, xs[i]? = some x := ⟨_, List.getElem?_eq_getElem (by rw [HN.out]; exact hlt)⟩
      obtain ⟨g, off, rfl, hg, -, -, -, q3, -, hok⟩ := HI.out.get hx
      obtain ⟨bl, hbl⟩ : ∃ z, x.b.length = z := ⟨_, rfl⟩
      rw [hbl] at q3
      have HBl := hide hbl
      have HXi := hide hx
      have hblb : bl ≤ 140737488351232 := by rw [← hbl]; exact hok.2.2.2
      have kw : IntKind.i64.wrap (5000 - (t : Int)) = 5000 - (t : Int) := IntWalk.i64_in _ (by omega)
      clear hbl hx hok
      by_cases hbig : 5000 - (t : Int) < (bl : Int)
      · go_wp2_with fail
        refine (works_any _).mono ?_
        rintro e w3 ⟨rfl, hb3⟩
        have HB3 := hide hb3
        clear hb3 q3
        go_wp2
        go_ret
        exact ⟨rfl, HB3.out⟩
      have kw2 : IntKind.i64.wrap ((t : Int) + (bl : Int)) = ((t + bl : Nat) : Int) := by rw [IntWalk.i64_in _ (by omega)]; omega
      have HT2 : Hid (totB (xs.take (i + 1)) = t + bl) := hide (by rw [List.take_add_one, HXi.out]; show totB (xs.take i ++ [x]) = _; rw [totB_snoc, HT.out, HBl.out])
      have HX2 : Hid (∀ z ∈ xs.take (i + 1), z.b.length ≤ 5000) := hide (fun z hz => by rw [List.take_add_one, HXi.out] at hz; rcases List.mem_append.1 hz with hz | hz; exact HX.out z hz; simp at hz; subst hz; rw [HBl.out]; omega)
      go_wp2
      go_roundw
      case rel => exact ⟨i + 1, t + bl, by omega, by omega, by first | rfl | go_num, by go_num, by first | rfl | trivial, HT2, HX2⟩
      case measure => simp [intOf]; omega
    have hI1 : ¬ (i : Int) < (n : Int) := by omega
    obtain rfl : i = n := by omega
    have HX0 : Hid (∀ z ∈ xs, z.b.length ≤ 5000) := hide (by have h := HX.out; rwa [List.take_of_length_le (by rw [HN.out]; exact Nat.le_refl _)] at h)
    clear HX HT
    go_upto_region 10 with fail
    go_cut [7] (fun v7 wc => ∃ W P1 P2 : Nat, v7 = .pointer (some ⟨W, 0, none⟩) ∧ Hid (NSt wc L W P1 P2 0 P1 P2 ea 0 0) ∧ Hid (Below L w wc))
    case first =>
      have kmk : ∀ w : World, (Instr.makeSlice 43 (.int .i64 2) (.int .i64 2)).run Try.prog w = .ok (.slice (some ⟨w.heap.size, 0, none⟩) 2 2) (w.alloc (.cells #[.slice none 0 0, .slice none 0 0] 48)) := fun w => by kernel_rfl
      refine region_inv [49, 50, 51, 52, 53, 54, 55, 56, 57, 58, 7] (OpenC L ea w) (by kernel_rfl) (by kernel_rfl) (by kernel_rfl) (OpenC.start hL _) ?_ ?_
      · intro i o d l u w1 ho hd hl hp hC K hK
        rcases i with _ | _ | _ | _ | _ | _ | _ | _ | _ | _ | _ | i
        · simp only [List.getElem?_toArray, List.getElem?_cons_succ, List.getElem?_cons_zero] at ho
          injection ho with ho
          subst ho
          injection hd with hd
          subst hd
          clear hp
          simp only [actD, List.foldl_cons, List.foldl_nil, List.setIfInBounds_toArray, List.set_cons_zero, List.set_cons_succ] at hK ⊢
          have HK := hide hK
          clear hK
          go_wp2_with fail
          refine HK.out _ _ ?_
          exact hC.s0 hl (Below.refl _ _) rfl
        · simp only [List.getElem?_toArray, List.getElem?_cons_succ, List.getElem?_cons_zero] at ho
          injection ho with ho
          subst ho
          injection hd with hd
          subst hd
          have hp0 : l 0 = true := hp { on := 0, ground := .data } (by simp) (by rfl)
          have hu := hC.c0 hp0
          clear hp
          simp only [actD, List.foldl_cons, List.foldl_nil, List.setIfInBounds_toArray, List.set_cons_zero, List.set_cons_succ] at hK ⊢
          rw [hu] at hK ⊢
          have HK := hide hK
          clear hK
          have ho1 := lopen_any w1 (ea : Int)
          rw [epN_small hea] at ho1
          have HO1 := hide ho1
          clear ho1
          go_simp
          go_wp2_with fail
          refine HO1.out.mono ?_
          rintro e w2 ⟨P, M, rfl, hE, hp1, hm1, hb⟩
          go_wp2_with fail
          refine HK.out _ _ ?_
          exact hC.s1 hl hp0 hb ⟨P, M, rfl, hE, Nat.le_trans hC.low hp1, Nat.le_trans hC.low hm1⟩
        · simp only [List.getElem?_toArray, List.getElem?_cons_succ, List.getElem?_cons_zero] at ho
          injection ho with ho
          subst ho
          injection hd with hd
          subst hd
          clear hp
          simp only [actD, List.foldl_cons, List.foldl_nil, List.setIfInBounds_toArray, List.set_cons_zero, List.set_cons_succ] at hK ⊢
          have HK := hide hK
          clear hK
          go_wp2_with fail
          refine HK.out _ _ ?_
          exact hC.s2 hl (Below.refl _ _) rfl
        · simp only [List.getElem?_toArray, List.getElem?_cons_succ, List.getElem?_cons_zero] at ho
          injection ho with ho
          subst ho
          injection hd with hd
          subst hd
          have hp1 : l 1 = true := hp { on := 1, ground := .chain } (by simp) (by rfl)
          have hp2 : l 2 = true := hp { on := 2, ground := .data } (by simp) (by rfl)
          have hu := hC.c2 hp2
          clear hp
          simp only [actD, List.foldl_cons, List.foldl_nil, List.setIfInBounds_toArray, List.set_cons_zero, List.set_cons_succ] at hK ⊢
          rw [hu] at hK ⊢
          have HK := hide hK
          clear hK
          have ho1 := lopen_any w1 (ea : Int)
          rw [epN_small hea] at ho1
          have HO1 := hide ho1
          clear ho1
          go_simp
          go_wp2_with fail
          refine HO1.out.mono ?_
          rintro e w2 ⟨P, M, rfl, hE, hp1', hm1, hb⟩
          go_wp2_with fail
          refine HK.out _ _ ?_
          obtain ⟨P1, M1, e1, hE1, q1, q2⟩ := hC.c1 hp1
          obtain ⟨_, _, r1, -⟩ := hE1.row
          obtain ⟨_, _, _, _, _, _, _, _, _, ⟨⟨es1, cl1, m1, _⟩, _⟩, _⟩ := id hE1
          have l1 := lt_of_block r1
          have l2 := lt_of_block m1
          exact hC.s3 hl hp1 hp2 hb ⟨P1, M1, P, M, e1, rfl, hE1.next hb, hE, by omega, by omega, q1, q2, Nat.le_trans hC.low hp1', Nat.le_trans hC.low hm1⟩
        · simp only [List.getElem?_toArray, List.getElem?_cons_succ, List.getElem?_cons_zero] at ho
          injection ho with ho
          subst ho
          injection hd with hd
          subst hd
          have hp3 : l 3 = true := hp { on := 3, ground := .data } (by simp) (by rfl)
          obtain ⟨P1, M1, P2, M2, e1, e2, -⟩ := hC.c3 hp3
          clear hp
          simp only [actD, List.foldl_cons, List.foldl_nil, List.setIfInBounds_toArray, List.set_cons_zero, List.set_cons_succ] at hK ⊢
          rw [e1, e2] at hK ⊢
          have HK := hide hK
          clear hK
          go_simp
          go_wp2_with fail
          refine HK.out _ _ ?_
          exact hC.s4 hl hp3 ((Below.refl _ _).alloc (Nat.le_refl _) _) ⟨_, rfl, by rw [e1, e2]; exact heap_alloc_last _ _, hC.low⟩
        · simp only [List.getElem?_toArray, List.getElem?_cons_succ, List.getElem?_cons_zero] at ho
          injection ho with ho
          subst ho
          injection hd with hd
          subst hd
          clear hp
          simp only [actD, List.foldl_cons, List.foldl_nil, List.setIfInBounds_toArray, List.set_cons_zero, List.set_cons_succ] at hK ⊢
          have HK := hide hK
          clear hK
          go_simp
          refine HK.out _ _ ?_
          exact hC.s5 hl ((Below.refl _ _).alloc (Nat.le_refl _) _) ⟨_, rfl, heap_alloc_last _ _, hC.low⟩ mk_ne
        · simp only [List.getElem?_toArray, List.getElem?_cons_succ, List.getElem?_cons_zero] at ho
          injection ho with ho
          subst ho
          injection hd with hd
          subst hd
          clear hp
          simp only [actD, List.foldl_cons, List.foldl_nil, List.setIfInBounds_toArray, List.set_cons_zero, List.set_cons_succ] at hK ⊢
          have HK := hide hK
          clear hK
          go_simp
          refine HK.out _ _ ?_
          exact hC.s6 hl ((Below.refl _ _).alloc (Nat.le_refl _) _) ⟨_, rfl, heap_alloc_last _ _, hC.low⟩ mk_ne
        · simp only [List.getElem?_toArray, List.getElem?_cons_succ, List.getElem?_cons_zero] at ho
          injection ho with ho
          subst ho
          injection hd with hd
          subst hd
          clear hp
          simp only [actD, List.foldl_cons, List.foldl_nil, List.setIfInBounds_toArray, List.set_cons_zero, List.set_cons_succ] at hK ⊢
          have HK := hide hK
          clear hK
          go_simp
          refine HK.out _ _ ?_
          exact hC.s7 hl ((Below.refl _ _).alloc (Nat.le_refl _) _) ⟨_, rfl, heap_alloc_last _ _, hC.low⟩ mk_ne
        · simp only [List.getElem?_toArray, List.getElem?_cons_succ, List.getElem?_cons_zero] at ho
          injection ho with ho
          subst ho
          injection hd with hd
          subst hd
          have hp4 : l 4 = true := hp { on := 4, ground := .data } (by simp) (by rfl)
          have hp5 : l 5 = true := hp { on := 5, ground := .data } (by simp) (by rfl)
          have hp6 : l 6 = true := hp { on := 6, ground := .data } (by simp) (by rfl)
          have hp7 : l 7 = true := hp { on := 7, ground := .data } (by simp) (by rfl)
          obtain ⟨ge, e1, -⟩ := hC.c4 hp4
          obtain ⟨gy, e2, -⟩ := hC.c5 hp5
          obtain ⟨gu, e3, -⟩ := hC.c6 hp6
          obtain ⟨gt, e4, -⟩ := hC.c7 hp7
          clear hp
          simp only [actD, List.foldl_cons, List.foldl_nil, List.setIfInBounds_toArray, List.set_cons_zero, List.set_cons_succ] at hK ⊢
          rw [e1, e2, e3, e4] at hK ⊢
          have HK := hide hK
          clear hK
          go_wp2_with fail
          refine HK.out _ _ ?_
          exact hC.s8 hl hp4 hp5 hp6 hp7 (Below.refl _ _) (by rw [e1, e2, e3, e4])
        · simp only [List.getElem?_toArray, List.getElem?_cons_succ, List.getElem?_cons_zero] at ho
          injection ho with ho
          subst ho
          injection hd with hd
          subst hd
          have hp8 : l 8 = true := hp { on := 8, ground := .data } (by simp) (by rfl)
          have hu := hC.c8 hp8
          clear hp
          simp only [actD, List.foldl_cons, List.foldl_nil, List.setIfInBounds_toArray, List.set_cons_zero, List.set_cons_succ] at hK ⊢
          rw [hu] at hK ⊢
          have HK := hide hK
          clear hK
          go_simp
          refine HK.out _ _ ?_
          exact hC.s9 hl hp8 ((Below.refl _ _).alloc (Nat.le_refl _) _) ⟨_, rfl, heap_alloc_last _ _, hC.low⟩
        · simp only [List.getElem?_toArray, List.getElem?_cons_succ, List.getElem?_cons_zero] at ho
          injection ho with ho
          subst ho
          injection hd with hd
          subst hd
          have hp9 : l 9 = true := hp { on := 9, ground := .phase } (by simp) (by rfl)
          clear hp
          simp only [actD, List.foldl_cons, List.foldl_nil, List.setIfInBounds_toArray, List.set_cons_zero, List.set_cons_succ] at hK ⊢
          have HK := hide hK
          clear hK
          go_wp2_with fail
          refine HK.out _ _ ?_
          exact hC.s10 hl hp9 (Below.refl _ _) rfl
        · simp at ho
      · intro l u w1 hall hC
        obtain ⟨W, P1, P2, h7, hns, hbl⟩ := hC.fin (fun q hq => hall q (by simpa using hq)) (.inr trivial)
        have HNs := hide hns
        have HBl0 := hide hbl
        clear hns hbl hC
        simp only [actD, List.foldl_cons, List.foldl_nil, List.setIfInBounds_toArray, List.set_cons_zero, List.set_cons_succ]
        rw [h7]
        simp only [Exit.then]
        go_step
        go_meet
        case rel => exact ⟨W, P1, P2, rfl, HNs, HBl0⟩
    case rest =>
      obtain ⟨W, P1, P2, rfl, HS0, HB0⟩ := hcut
      obtain ⟨wz, rfl⟩ : ∃ z : World, z = wc := ⟨_, rfl⟩
      go_wp2
      go_loopw [8] (fun v8 wr => ∃ j : Nat, j ≤ i ∧ v8 = .int .i64 (j : Int) ∧ Hid (NSt wr L W P1 P2 0 P1 P2 ea j j) ∧ Hid (Below L w wr)) (fun v8 _ => i - (intOf v8).toNat)
      case atStart => exact ⟨0, by omega, rfl, HS0, HB0⟩
      case round =>
        clear HS0 HB0
        obtain ⟨j, hj, rfl, hS, hB⟩ := hrel
        obtain ⟨x5, rfl⟩ : ∃ z : World, z = wr := ⟨_, rfl⟩
        by_cases hlt2 : j < i
        · have hJ1 : (j : Int) < (i : Int) := by omega
          have hJ0 : (0 : Int) ≤ (j : Int) := by omega
          obtain ⟨x, hx⟩ : ∃ x, xs[j]? = some x := ⟨_, List.getElem?_eq_getElem (by rw [HN.out]; exact hlt2)⟩
          have hB0 := hB.out
          rw [← hL] at hB0
          obtain ⟨g, off, rfl, hg, q0, q1, q2, q3, hrd, hok⟩ := (HI.out.below hB0 (Nat.le_refl _)).get hx
          have hb5 := HX0.out x (List.mem_of_getElem? hx)
          rw [hL] at hrd hg
          obtain ⟨hbad, hWx, hLx⟩ := hS.out.bad
          have hgx : g < x5.heap.size := by omega
          obtain ⟨xk, xa, xn, xA, xb, xc⟩ := x
          dsimp only at q0 q1 q2 q3 hrd hok hb5
          obtain ⟨bl, hbl⟩ : ∃ z, xb.length = z := ⟨_, rfl⟩
          rw [hbl] at q3
          obtain ⟨ha, haa⟩ : ∃ z, xa % 2 = z := ⟨_, rfl⟩
          have ha2 : ha < 2 := by rw [← haa]; exact Nat.mod_lt _ (by decide)
          have HSt := hide (step_any x5 (hS.out.at_ ha2) ha2 (by omega) (by omega) xk xa xn hok.1 hok.2.1 hok.2.2.1 haa xA xb bl xc hbl hrd (by rw [← hbl]; exact hb5))
          clear hrd hok hb5 haa hbl hx hB0
          go_wp2_with fail
          refine HSt.out.mono ?_
          rintro e x6 ⟨rfl, hs6, hb6⟩
          have HS6 := hide (hs6.back ha2)
          have HB6 := hide (hB.out.trans hb6)
          obtain ⟨hbad6, hW6, -⟩ := HS6.out.bad
          clear hs6 hb6 HSt q0 q1 q2 q3 hbad
          go_wp2
          go_roundw
          case rel => exact ⟨j + 1, by omega, by go_num, HS6, HB6⟩
          case measure => simp [intOf]; omega
        obtain rfl : j = i := by omega
        have hJ1 : ¬ (j : Int) < (j : Int) := by omega
        have HR0 : Hid (RSt x5 L W P1 P2 0 P1 P2 ea (1000 + 1000 * 0) (RC 0)) := hide ((RSt.of_nst hS.out (by omega)).imp (by omega) (fun s t ps pt gs gt _ => ⟨fun h => absurd h (by decide), fun h => absurd h (by decide)⟩))
        go_wp2
        go_loopw [9] (fun v9 wr => ∃ tt : Nat, tt ≤ 4 ∧ v9 = .int .i64 (tt : Int) ∧ Hid (RSt wr L W P1 P2 0 P1 P2 ea (1000 + 1000 * tt) (RC tt)) ∧ Hid (Below L w wr)) (fun v9 _ => 4 - (intOf v9).toNat)
        case atStart => exact ⟨0, by omega, rfl, HR0, hB⟩
        case round =>
          clear HR0 hS hB
          obtain ⟨tt, htt, rfl, hR, hB⟩ := hrel
          obtain ⟨x6, rfl⟩ : ∃ z : World, z = wr := ⟨_, rfl⟩
          by_cases hlt3 : tt < 4
          · have hI1 : (tt : Int) < 4 := by omega
            obtain ⟨a, haa⟩ : ∃ z, tt % 2 = z := ⟨_, rfl⟩
            have ha2 : a < 2 := by rw [← haa]; exact Nat.mod_lt _ (by decide)
            have hti : (tt : Int) % 2 = (a : Int) := by omega
            have htm : (tt : Int).tmod 2 = (a : Int) := by rw [Int.tmod_eq_emod_of_nonneg (by omega)]; exact hti
            obtain ⟨b, hb⟩ : ∃ z, 1 - a = z := ⟨_, rfl⟩
            have hb2 : b < 2 := by omega
            have kw : IntKind.i64.wrap (1 - (a : Int)) = (b : Int) := by rw [IntWalk.i64_in _ (by omega)]; omega
            have kw2 : (1 : Int) - (a : Int) = (b : Int) := by omega
            have ha0 : (0 : Int) ≤ (a : Int) := by omega
            have ha1 : (a : Int) < 2 := by omega
            have hb0 : (0 : Int) ≤ (b : Int) := by omega
            have hb1 : (b : Int) < 2 := by omega
            obtain ⟨N, hNn⟩ : ∃ z, 1000 + 1000 * tt = z := ⟨_, rfl⟩
            have hN5 : N ≤ 5000 := by omega
            have hRa := hR.out.at_ ha2
            rw [hb, hNn] at hRa
            obtain ⟨E, Y, U, T, tag, B, ways, puts, gots, s, t, ps, pt, gs, gt, hN, hT, hBw, hE1, hE2, hP, hG, ⟨hd1, hd2, he1, he2, hp1, hp2⟩, hC⟩ := hRa
            rw [hb] at hE2 hP hG
            have HN1 := hide hN
            have HT1 := hide hT
            have HE1 := hide hE1
            have HE2 := hide hE2
            have HP := hide hP
            have HG := hide hG
            have HD1 := hide hd1
            have HD2 := hide hd2
            have HEp := hide (And.intro he1 he2)
            have HC := hide hC
            have HAa := hide haa
            have HBb := hide hb
            have HNn := hide hNn
            have HOk := hide hT.ok1
            have hLx : L < x6.heap.size := hT.low
            have hp1' := hp1
            have hgl := hd1.glen
            have e0 : x6.cell? ⟨W, 0, none⟩ = some (.slice (some ⟨E, 0, none⟩) 2 2) := cell_of_row _ _ 0 _ _ _ hN.wd
            have hWx : W < x6.heap.size := lt_of_block hN.wd
            have hEx : E < x6.heap.size := lt_of_block hN.en
            clear hN hT hE2 hP hG hd1 hd2 he1 he2 hC haa hb hNn
            go_wp2_with fail
            refine (two_again HT1.out).mono ?_
            rintro e y1 ⟨v1, rfl, hf, ht, hm⟩
            obtain ⟨fs, hfs⟩ : ∃ z, (fromL s s.first true).1 = z := ⟨_, rfl⟩
            obtain ⟨s1, hs1⟩ : ∃ z, (fromL s s.first true).2 = z := ⟨_, rfl⟩
            rw [hfs] at hf
            rw [hs1] at ht
            obtain ⟨Af, cf, rfl⟩ := hf.rd.form
            obtain ⟨fl, hfl⟩ : ∃ z, fs.length = z := ⟨_, rfl⟩
            rw [hfl] at hf ⊢
            have hfl65 : fl ≤ 65 := by rw [← hfl, ← hfs]; have h1 := HOk.out.sent; have h2 : s.first + s.sent.length = s.next := (by have := HOk.out.first; unfold LE.first; omega); rcases from_len s s.first true with h | ⟨_, h⟩ <;> omega
            have HFs := hide hfs
            have HS1 := hide hs1
            have HFl := hide hfl
            have HT2 := hide ht
            have HF2 : Hid (FRw y1 x6.heap.size (.slice Af fl cf) fs) := hide hf
            have HN2 := hide (HN1.out.mid hm)
            have HB2 : Hid (Below L w y1) := hide (hB.out.trans (hm.toBelow (Nat.le_of_lt hLx)))
            have HZ2 : Hid (B ≤ y1.heap.size) := hide (Nat.le_trans hBw hm.1)
            have HY1 := hide ((HN2.out.ptr HN1.out a).trans HE1.out)
            have HY2 := hide ((HN2.out.ptr HN1.out b).trans HE2.out)
            have HRn : Hid (Rnd s t ps pt gs gt 0) := hide (Rnd.start HD1.out HD2.out (HEp.out.1.trans HEp.out.2.symm))
            have HNs : Hid (∃ tag', NetM y1 L W E Y U T P1 P2 tag' ways puts (gots.set b gt) false ∧ Two y1 L B (N + 0) (Pof P1 P2 a) (Pof P1 P2 b) s1 t ∧ B ≤ y1.heap.size) := hide ⟨tag, by rw [set_self HG.out.2]; exact HN2.out, HT2.out, HZ2.out⟩
            clear hf ht hm hfs hs1 hfl e0 hE1
            go_wp2
            go_loopw [11] (fun v11 wr => ∃ (i1 : Nat) (t1 : LE) (g1 : List BL), i1 ≤ fl ∧ v11 = .int .i64 (i1 : Int) ∧ Hid (∃ tag', NetM wr L W E Y U T P1 P2 tag' ways puts (gots.set b g1) false ∧ Two wr L B (N + i1) (Pof P1 P2 a) (Pof P1 P2 b) s1 t1 ∧ B ≤ wr.heap.size) ∧ Hid (Below L w wr) ∧ Hid (FRw wr x6.heap.size (.slice Af fl cf) fs) ∧ Hid (Rnd s t1 ps pt gs g1 i1)) (fun v11 _ => fl - (intOf v11).toNat)
            case atStart => exact ⟨0, t, gt, by omega, rfl, HNs, HB2, HF2, HRn⟩
            case round =>
              clear HNs HB2 HF2 HRn HT2
              obtain ⟨i1, t1, g1, hi1, rfl, hNs, hB4, hF4, hRn⟩ := hrel
              obtain ⟨x7, rfl⟩ : ∃ z : World, z = wr := ⟨_, rfl⟩
              obtain ⟨tag7, hN7, hT7, hB7⟩ := hNs.out
              have HN7 := hide hN7
              have HT7 := hide hT7
              have HOk7 := hide hT7.ok2
              have hL7 : L < x7.heap.size := hT7.low
              have e7 : x7.cell? ⟨W, 0, none⟩ = some (.slice (some ⟨E, 0, none⟩) 2 2) := cell_of_row _ _ 0 _ _ _ hN7.wd
              have hW7 : W < x7.heap.size := lt_of_block hN7.wd
              have HE27 := hide ((hN7.ptr HN2.out b).trans HY2.out)
              clear hN7 hT7
              by_cases hlt4 : i1 < fl
              · have hJ1 : (i1 : Int) < (fl : Int) := by omega
                have hJ0 : (0 : Int) ≤ (i1 : Int) := by omega
                obtain ⟨f, hf⟩ : ∃ f, fs[i1]? = some f := ⟨_, List.getElem?_eq_getElem (by rw [HFl.out]; exact hlt4)⟩
                obtain ⟨st1, st2, st3, st4⟩ := hRn.out.step HOk.out HOk7.out (by rw [HFs.out]; exact hf)
                obtain ⟨-, g, Ar, cr, cur, rfl, hg, hci, hrt, -⟩ := hF4.out.get hf
                obtain ⟨fl2, hfl2⟩ : ∃ z, f.length = z := ⟨_, rfl⟩
                rw [hfl2] at hci
                have q2 : x7.cell? ⟨g, i1, none⟩ = some (.slice Ar fl2 cr) := (cell_of_row _ _ i1 _ _ _ hg).trans hci
                have hg7 : g < x7.heap.size := lt_of_block hg
                have kc := hrt.conv (c := cr) hfl2
                have HSt1 := hide st1
                have HSt2 := hide st2
                have HSt3 := hide st3
                have HSt4 := hide st4
                clear hg hci hrt hf st1 st2 st3 st4 hfl2
                have hgb : (gots.set b g1)[b]? = some g1 := List.getElem?_set_self (List.getElem?_eq_some_iff.1 HG.out.2).1
                have hb1a : 1 - b = a := by have := HBb.out; omega
                have hth := hRn.out.runs.fwd.heard
                have htg := hRn.out.runs.fwd.glen
                have HHr := hide (hears_any x7 HN7.out b hb2 HT7.out hB7 HE27.out f (by have := HSt4.out; omega) (by omega) (by omega) (fun g' p' hg' hp' => by rw [hgb] at hg'; rw [hb1a, HP.out.1] at hp'; injection hg' with hg'; injection hp' with hp'; subst hg' hp'; exact HSt1.out) (fun hc => absurd HSt2.out hc) (fun g' hg' => by rw [hgb] at hg'; injection hg' with hg'; subst hg'; omega) (fun p' hp' => by rw [hb1a, HP.out.1] at hp'; injection hp' with hp'; subst hp'; omega))
                clear hth htg
                go_wp2_with fail
                refine HHr.out.mono ?_
                rintro e x8 ⟨rfl, ⟨tag8, hn8, ht8, hb8⟩, hbl8, hfr8⟩
                have HNs8 : Hid (∃ tag', NetM x8 L W E Y U T P1 P2 tag' ways puts (gots.set b (g1 ++ (hearL t1 f).2.1)) false ∧ Two x8 L B (N + (i1 + 1)) (Pof P1 P2 a) (Pof P1 P2 b) s1 (hearL t1 f).2.2 ∧ B ≤ x8.heap.size) := hide ⟨tag8, by rw [List.getD_eq_getElem?_getD, hgb, List.set_set] at hn8; exact hn8, ht8, hb8⟩
                have HB8 := hide (hB4.out.trans hbl8)
                have HF8 := hide (hfr8 x6.heap.size _ _ hBw hF4.out)
                clear hn8 ht8 hb8 hbl8 hfr8 HHr kc q2 e7
                go_wp2
                go_roundw
                case rel => exact ⟨i1 + 1, _, _, by omega, by go_num, HNs8, HB8, HF8, HSt3⟩
                case measure => simp [intOf]; omega
              obtain rfl : i1 = fl := by omega
              have hJ1 : ¬ (i1 : Int) < (i1 : Int) := by omega
              obtain ⟨hfin1, hfin2⟩ := Rnd.fin (s0 := s) (t := t1) (ps := ps) (pt := pt) (gs := gs) (gt := g1) (by rw [HFs.out, HFl.out]; exact hRn.out)
              have HR9 : Hid (RSt x7 L W P1 P2 0 P1 P2 ea (1000 + 1000 * (tt + 1)) (RC (tt + 1))) := hide (by
                refine RSt.back (a := a) ?_ ha2
                have hal : b < gots.length := (List.getElem?_eq_some_iff.1 HG.out.2).1
                have hne : b ≠ a := by have := HBb.out; omega
                have hrun := hRn.out.runs
                rw [HBb.out]
                refine ⟨E, Y, U, T, tag7, B, ways, puts, gots.set b g1, s1, t1, ps, pt, gs, g1, HN7.out, HT7.out.mono (Nat.le_refl _) (by have := HNn.out; omega), hB7, (HN7.out.ptr HN2.out a).trans HY1.out, by rw [HBb.out]; exact HE27.out, by rw [HBb.out]; exact HP.out, ?_, ⟨?_, ?_, ?_, ?_, hp1, hp2⟩, ?_⟩
                · rw [HBb.out]
                  exact ⟨by rw [List.getElem?_set_ne hne]; exact HG.out.1, List.getElem?_set_self hal⟩
                · rw [← HS1.out]; exact from_dir hrun.fwd _ _
                · rw [← HS1.out]; exact from_back hrun.bwd _ _
                · rw [← HS1.out]; exact HEp.out.1
                · rw [← hrun.ep]; exact HEp.out.1
                · rw [hfin1]; exact HC.out.next HAa.out HD2.out (by rw [← HS1.out]; rfl) hfin2)
              clear hfin1 hfin2 e7
              go_wp2
              go_roundw
              case rel => exact ⟨tt + 1, by omega, by go_num, HR9, hB4⟩
              case measure => simp [intOf]; omega
          have hI1 : ¬ (tt : Int) < 4 := by omega
          obtain rfl : tt = 4 := by omega
          go_wp2
          go_loopw [12] (fun v12 wr => ∃ c1 : Nat, c1 ≤ 2 ∧ v12 = .int .i64 (c1 : Int) ∧ Hid (RSt wr L W P1 P2 0 P1 P2 ea (1000 + 1000 * 4) (RC 4)) ∧ Hid (Below L w wr)) (fun v12 _ => 2 - (intOf v12).toNat)
          case atStart => exact ⟨0, by omega, rfl, hR, hB⟩
          case round =>
            clear hR hB
            obtain ⟨c1, hc1', rfl, hR, hB⟩ := hrel
            obtain ⟨x6, rfl⟩ : ∃ z : World, z = wr := ⟨_, rfl⟩
            by_cases hlt3 : c1 < 2
            · have hI1 : (c1 : Int) < 2 := by omega
              obtain ⟨b, hb⟩ : ∃ z, 1 - c1 = z := ⟨_, rfl⟩
              have hb2 : b < 2 := by omega
              have kw : IntKind.i64.wrap (1 - (c1 : Int)) = (b : Int) := by rw [IntWalk.i64_in _ (by omega)]; omega
              have kw2 : (1 : Int) - (c1 : Int) = (b : Int) := by omega
              have kwb : IntKind.i64.wrap (b : Int) = (b : Int) := IntWalk.i64_in _ (by omega)
              have ha0 : (0 : Int) ≤ (c1 : Int) := by omega
              have hb0 : (0 : Int) ≤ (b : Int) := by omega
              have hb1 : (b : Int) < 2 := by omega
              have hRa := hR.out.at_ hlt3
              rw [hb] at hRa
              obtain ⟨E, Y, U, T, tag, B, ways, puts, gots, s, t, ps, pt, gs, gt, hN, hT, hBw, hE1, hE2, hP, hG, ⟨hd1, hd2, he1, he2, hp1, hp2⟩, hC⟩ := hRa
              rw [hb] at hE2 hP hG
              have hgp : gs = pt := by unfold RCa RC at hC; split at hC; exact (hC.2 (by decide)).1; exact hC.1 (by decide)
              subst hgp
              obtain ⟨vg, hvg, hRg⟩ := hN.got.at_ hG.1
              obtain ⟨Ag, cg, rfl, -, -, -⟩ := hRg.rd
              obtain ⟨vp, hvp, hRp⟩ := hN.put.at_ hP.2
              obtain ⟨Ap, cpp, rfl, -, -, -⟩ := hRp.rd
              have HSh : Hid (s.heard = gs.length) := hide hd2.heard
              obtain ⟨ng, hng⟩ : ∃ z, gs.length = z := ⟨_, rfl⟩
              rw [hng] at hvg hvp HSh
              have HT1 := hide hT
              have q0 : x6.cell? ⟨W, 0, none⟩ = some (.slice (some ⟨E, 0, none⟩) 2 2) := cell_of_row _ _ 0 _ _ _ hN.wd
              have q2 : x6.cell? ⟨W, 2, none⟩ = some (.slice (some ⟨U, 0, none⟩) 2 2) := cell_of_row _ _ 2 _ _ _ hN.wd
              have q3 : x6.cell? ⟨W, 3, none⟩ = some (.slice (some ⟨T, 0, none⟩) 2 2) := cell_of_row _ _ 3 _ _ _ hN.wd
              have q4 : x6.cell? ⟨W, 4, none⟩ = some (.bool false) := cell_of_row _ _ 4 _ _ _ hN.wd
              have hWx : W < x6.heap.size := lt_of_block hN.wd
              have hEx : E < x6.heap.size := lt_of_block hN.en
              have hTx : T < x6.heap.size := hN.got.lt
              have hUx : U < x6.heap.size := hN.put.lt
              have HRd : Hid (RSt x6.drew L W P1 P2 0 P1 P2 ea (1000 + 1000 * 4) (RC 4)) := hide hR.out.drew
              have HBd : Hid (Below L w x6.drew) := hide hB.out.drew
              clear hN hT hE2 hP hG hd1 hd2 he1 he2 hC hRg hRp hng hb
              go_upto_region 28 with fail
              refine wp_region_held_drew (S := Kept x6) (by kernel_rfl) (Kept.drew x6) (fun hS0 => ?_)
              refine take_at (i := 0) (d := 108) (v := ?_) (by simp only [List.getElem?_toArray, List.getElem?_cons_succ, List.getElem?_cons_zero]; rfl) rfl (by kernel_rfl) (by kernel_rfl) (by kernel_rfl) (fun _ _ _ h => h) rfl ?_ (by assumption) ?_
              rotate_left
              focus (intro w hSw; go_simp; (try with_reducible rfl); done)
              try simp only [List.setIfInBounds_toArray, List.set_cons_zero, List.set_cons_succ]
              refine take_at (i := 1) (d := 109) (v := ?_) (by simp only [List.getElem?_toArray, List.getElem?_cons_succ, List.getElem?_cons_zero]; rfl) rfl (by kernel_rfl) (by kernel_rfl) (by kernel_rfl) (fun _ _ _ h => h) rfl ?_ (by assumption) ?_
              rotate_left
              focus (intro w hSw; go_simp; (try with_reducible rfl); done)
              try simp only [List.setIfInBounds_toArray, List.set_cons_zero, List.set_cons_succ]
              refine take_at (i := 2) (d := 110) (v := ?_) (by simp only [List.getElem?_toArray, List.getElem?_cons_succ, List.getElem?_cons_zero]; rfl) rfl (by kernel_rfl) (by kernel_rfl) (by kernel_rfl) (fun _ _ _ h => h) rfl ?_ (by assumption) ?_
              rotate_left
              focus (intro w hSw; go_simp; (try with_reducible rfl); done)
              try simp only [List.setIfInBounds_toArray, List.set_cons_zero, List.set_cons_succ]
              refine take_at (i := 3) (d := 111) (v := ?_) (by simp only [List.getElem?_toArray, List.getElem?_cons_succ, List.getElem?_cons_zero]; rfl) rfl (by kernel_rfl) (by kernel_rfl) (by kernel_rfl) (fun _ _ _ h => h) rfl ?_ (by assumption) ?_
              rotate_left
              focus (intro w hSw; go_simp; (try with_reducible rfl); done)
              try simp only [List.setIfInBounds_toArray, List.set_cons_zero, List.set_cons_succ]
              refine take_at (i := 4) (d := 112) (v := ?_) (by simp only [List.getElem?_toArray, List.getElem?_cons_succ, List.getElem?_cons_zero]; rfl) rfl (by kernel_rfl) (by kernel_rfl) (by kernel_rfl) (fun _ _ _ h => h) rfl ?_ (by assumption) ?_
              rotate_left
              focus (intro w hSw; go_simp; (try with_reducible rfl); done)
              try simp only [List.setIfInBounds_toArray, List.set_cons_zero, List.set_cons_succ]
              refine take_at (i := 5) (d := 113) (v := ?_) (by simp only [List.getElem?_toArray, List.getElem?_cons_succ, List.getElem?_cons_zero]; rfl) rfl (by kernel_rfl) (by kernel_rfl) (by kernel_rfl) (fun _ _ _ h => h) rfl ?_ (by assumption) ?_
              rotate_left
              focus (intro w hSw; go_simp; (try with_reducible rfl); done)
              try simp only [List.setIfInBounds_toArray, List.set_cons_zero, List.set_cons_succ]
              refine take_at (i := 6) (d := 114) (v := ?_) (by simp only [List.getElem?_toArray, List.getElem?_cons_succ, List.getElem?_cons_zero]; rfl) rfl (by kernel_rfl) (by kernel_rfl) (by kernel_rfl) (fun _ _ _ h => h) rfl ?_ (by assumption) ?_
              rotate_left
              focus (intro w hSw; go_simp; (try with_reducible rfl); done)
              try simp only [List.setIfInBounds_toArray, List.set_cons_zero, List.set_cons_succ]
              refine take_at (i := 7) (d := 115) (v := ?_) (by simp only [List.getElem?_toArray, List.getElem?_cons_succ, List.getElem?_cons_zero]; rfl) rfl (by kernel_rfl) (by kernel_rfl) (by kernel_rfl) (fun _ _ _ h => h) rfl ?_ (by assumption) ?_
              rotate_left
              focus (intro w hSw; go_simp; (try with_reducible rfl); done)
              try simp only [List.setIfInBounds_toArray, List.set_cons_zero, List.set_cons_succ]
              refine take_at (i := 8) (d := 116) (v := ?_) (by simp only [List.getElem?_toArray, List.getElem?_cons_succ, List.getElem?_cons_zero]; rfl) rfl (by kernel_rfl) (by kernel_rfl) (by kernel_rfl) (fun _ _ _ h => h) rfl ?_ (by assumption) ?_
              rotate_left
              focus (intro w hSw; go_simp; (try with_reducible rfl); done)
              try simp only [List.setIfInBounds_toArray, List.set_cons_zero, List.set_cons_succ]
              refine take_at (i := 9) (d := 117) (v := ?_) (by simp only [List.getElem?_toArray, List.getElem?_cons_succ, List.getElem?_cons_zero]; rfl) rfl (by kernel_rfl) (by kernel_rfl) (by kernel_rfl) (fun _ _ _ h => h) rfl ?_ (by assumption) ?_
              rotate_left
              focus (intro w hSw; go_simp; (try with_reducible rfl); done)
              try simp only [List.setIfInBounds_toArray, List.set_cons_zero, List.set_cons_succ]
              refine take_at (i := 10) (d := 118) (v := ?_) (by simp only [List.getElem?_toArray, List.getElem?_cons_succ, List.getElem?_cons_zero]; rfl) rfl (by kernel_rfl) (by kernel_rfl) (by kernel_rfl) (fun _ _ _ h => h) rfl ?_ (by assumption) ?_
              rotate_left
              focus (intro w hSw; go_simp; (try with_reducible rfl); done)
              try simp only [List.setIfInBounds_toArray, List.set_cons_zero, List.set_cons_succ]
              refine take_at (i := 11) (d := 119) (v := ?_) (by simp only [List.getElem?_toArray, List.getElem?_cons_succ, List.getElem?_cons_zero]; rfl) rfl (by kernel_rfl) (by kernel_rfl) (by kernel_rfl) (fun _ _ _ h => h) rfl ?_ (by assumption) ?_
              rotate_left
              focus (intro w hSw; go_simp; (try with_reducible rfl); done)
              try simp only [List.setIfInBounds_toArray, List.set_cons_zero, List.set_cons_succ]
              refine take_at (i := 12) (d := 120) (v := ?_) (by simp only [List.getElem?_toArray, List.getElem?_cons_succ, List.getElem?_cons_zero]; rfl) rfl (by kernel_rfl) (by kernel_rfl) (by kernel_rfl) (fun _ _ _ h => h) rfl ?_ (by assumption) ?_
              rotate_left
              focus (intro w hSw; go_simp; (try with_reducible rfl); done)
              try simp only [List.setIfInBounds_toArray, List.set_cons_zero, List.set_cons_succ]
              refine take_at (i := 13) (d := 121) (v := ?_) (by simp only [List.getElem?_toArray, List.getElem?_cons_succ, List.getElem?_cons_zero]; rfl) rfl (by kernel_rfl) (by kernel_rfl) (by kernel_rfl) (fun _ _ _ h => h) rfl ?_ (by assumption) ?_
              rotate_left
              focus (intro w hSw; go_simp; (try with_reducible rfl); done)
              try simp only [List.setIfInBounds_toArray, List.set_cons_zero, List.set_cons_succ]
              refine take_at (i := 14) (d := 122) (v := ?_) (by simp only [List.getElem?_toArray, List.getElem?_cons_succ, List.getElem?_cons_zero]; rfl) rfl (by kernel_rfl) (by kernel_rfl) (by kernel_rfl) (fun _ _ _ h => h) rfl ?_ (by assumption) ?_
              rotate_left
              focus (intro w hSw; go_simp; (try with_reducible rfl); done)
              try simp only [List.setIfInBounds_toArray, List.set_cons_zero, List.set_cons_succ]
              refine take_at (i := 15) (d := 123) (v := ?_) (by simp only [List.getElem?_toArray, List.getElem?_cons_succ, List.getElem?_cons_zero]; rfl) rfl (by kernel_rfl) (by kernel_rfl) (by kernel_rfl) (fun _ _ _ h => h) rfl ?_ (by assumption) ?_
              rotate_left
              focus (intro w hSw; go_simp; (try with_reducible rfl); done)
              try simp only [List.setIfInBounds_toArray, List.set_cons_zero, List.set_cons_succ]
              refine take_at (i := 16) (d := 124) (v := ?_) (by simp only [List.getElem?_toArray, List.getElem?_cons_succ, List.getElem?_cons_zero]; rfl) rfl (by kernel_rfl) (by kernel_rfl) (by kernel_rfl) (fun _ _ _ h => h) rfl ?_ (by assumption) ?_
              rotate_left
              focus (intro w hSw; go_simp; (try with_reducible rfl); done)
              try simp only [List.setIfInBounds_toArray, List.set_cons_zero, List.set_cons_succ]
              refine take_at (i := 17) (d := 125) (v := ?_) (by simp only [List.getElem?_toArray, List.getElem?_cons_succ, List.getElem?_cons_zero]; rfl) rfl (by kernel_rfl) (by kernel_rfl) (by kernel_rfl) (fun _ _ _ h => h) rfl ?_ (by assumption) ?_
              rotate_left
              focus (intro w hSw; go_simp; (try with_reducible rfl); done)
              try simp only [List.setIfInBounds_toArray, List.set_cons_zero, List.set_cons_succ]
              refine take_at (i := 18) (d := 126) (v := ?_) (by simp only [List.getElem?_toArray, List.getElem?_cons_succ, List.getElem?_cons_zero]; rfl) rfl (by kernel_rfl) (by kernel_rfl) (by kernel_rfl) (fun _ _ _ h => h) rfl ?_ (by assumption) ?_
              rotate_left
              focus (intro w hSw; go_simp; (try with_reducible rfl); done)
              try simp only [List.setIfInBounds_toArray, List.set_cons_zero, List.set_cons_succ]
              refine take_at (i := 19) (d := 127) (v := ?_) (by simp only [List.getElem?_toArray, List.getElem?_cons_succ, List.getElem?_cons_zero]; rfl) rfl (by kernel_rfl) (by kernel_rfl) (by kernel_rfl) (fun _ _ _ h => h) rfl ?_ (by assumption) ?_
              rotate_left
              focus (intro w hSw; go_simp; (try with_reducible rfl); done)
              try simp only [List.setIfInBounds_toArray, List.set_cons_zero, List.set_cons_succ]
              refine take_at (i := 20) (d := 128) (v := ?_) (by simp only [List.getElem?_toArray, List.getElem?_cons_succ, List.getElem?_cons_zero]; rfl) rfl (by kernel_rfl) (by kernel_rfl) (by kernel_rfl) (fun _ _ _ h => h) rfl ?_ (by assumption) ?_
              rotate_left
              focus (intro w hSw; go_simp; (try with_reducible rfl); done)
              try simp only [List.setIfInBounds_toArray, List.set_cons_zero, List.set_cons_succ]
              refine take_at (i := 21) (d := 129) (v := ?_) (by simp only [List.getElem?_toArray, List.getElem?_cons_succ, List.getElem?_cons_zero]; rfl) rfl (by kernel_rfl) (by kernel_rfl) (by kernel_rfl) (fun _ _ _ h => h) rfl ?_ (by assumption) ?_
              rotate_left
              focus (intro w hSw; go_simp; (try with_reducible rfl); done)
              try simp only [List.setIfInBounds_toArray, List.set_cons_zero, List.set_cons_succ]
              refine take_at (i := 22) (d := 130) (v := ?_) (by simp only [List.getElem?_toArray, List.getElem?_cons_succ, List.getElem?_cons_zero]; rfl) rfl (by kernel_rfl) (by kernel_rfl) (by kernel_rfl) (fun _ _ _ h => h) rfl ?_ (by assumption) ?_
              rotate_left
              focus (intro w hSw; go_simp; (try with_reducible rfl); done)
              try simp only [List.setIfInBounds_toArray, List.set_cons_zero, List.set_cons_succ]
              refine take_at (i := 23) (d := 131) (v := ?_) (by simp only [List.getElem?_toArray, List.getElem?_cons_succ, List.getElem?_cons_zero]; rfl) rfl (by kernel_rfl) (by kernel_rfl) (by kernel_rfl) (fun _ _ _ h => h) rfl ?_ (by assumption) ?_
              rotate_left
              focus (intro w hSw; go_simp; (try with_reducible rfl); done)
              try simp only [List.setIfInBounds_toArray, List.set_cons_zero, List.set_cons_succ]
              refine take_at (i := 24) (d := 132) (v := ?_) (by simp only [List.getElem?_toArray, List.getElem?_cons_succ, List.getElem?_cons_zero]; rfl) rfl (by kernel_rfl) (by kernel_rfl) (by kernel_rfl) (fun _ _ _ h => h) rfl ?_ (by assumption) ?_
              rotate_left
              focus (intro w hSw; go_simp; (try with_reducible rfl); done)
              try simp only [List.setIfInBounds_toArray, List.set_cons_zero, List.set_cons_succ]
              refine take_at (i := 25) (d := 133) (v := ?_) (by simp only [List.getElem?_toArray, List.getElem?_cons_succ, List.getElem?_cons_zero]; rfl) rfl (by kernel_rfl) (by kernel_rfl) (by kernel_rfl) (fun _ _ _ h => h) rfl ?_ (by assumption) ?_
              rotate_left
              focus (intro w hSw; go_simp; (try with_reducible rfl); done)
              try simp only [List.setIfInBounds_toArray, List.set_cons_zero, List.set_cons_succ]
              refine take_at (i := 26) (d := 134) (v := ?_) (by simp only [List.getElem?_toArray, List.getElem?_cons_succ, List.getElem?_cons_zero]; rfl) rfl (by kernel_rfl) (by kernel_rfl) (by kernel_rfl) (fun _ _ _ h => h) rfl ?_ (by assumption) ?_
              rotate_left
              focus (intro w hSw; go_simp; (try with_reducible rfl); done)
              try simp only [List.setIfInBounds_toArray, List.set_cons_zero, List.set_cons_succ]
              refine take_at (i := 27) (d := 135) (v := ?_) (by simp only [List.getElem?_toArray, List.getElem?_cons_succ, List.getElem?_cons_zero]; rfl) rfl (by kernel_rfl) (by kernel_rfl) (by kernel_rfl) (fun _ _ _ h => h) rfl ?_ (by assumption) ?_
              rotate_left
              focus (intro w hSw; go_simp; (try with_reducible rfl); done)
              try simp only [List.setIfInBounds_toArray, List.set_cons_zero, List.set_cons_succ]
              refine take_at (i := 28) (d := 136) (v := ?_) (by simp only [List.getElem?_toArray, List.getElem?_cons_succ, List.getElem?_cons_zero]; rfl) rfl (by kernel_rfl) (by kernel_rfl) (by kernel_rfl) (fun _ _ _ h => h) rfl ?_ (by assumption) ?_
              rotate_left
              focus (intro w hSw; go_simp; (try with_reducible rfl); done)
              try simp only [List.setIfInBounds_toArray, List.set_cons_zero, List.set_cons_succ]
              refine take_at (i := 29) (d := 137) (v := ?_) (by simp only [List.getElem?_toArray, List.getElem?_cons_succ, List.getElem?_cons_zero]; rfl) rfl (by kernel_rfl) (by kernel_rfl) (by kernel_rfl) (fun _ _ _ h => h) rfl ?_ (by assumption) ?_
              rotate_left
              focus (intro w hSw; go_simp; (try with_reducible rfl); done)
              try simp only [List.setIfInBounds_toArray, List.set_cons_zero, List.set_cons_succ]
              refine take_at (i := 30) (d := 138) (v := ?_) (by simp only [List.getElem?_toArray, List.getElem?_cons_succ, List.getElem?_cons_zero]; rfl) rfl (by kernel_rfl) (by kernel_rfl) (by kernel_rfl) (fun _ _ _ h => h) rfl ?_ (by assumption) ?_
              rotate_left
              focus (intro w hSw; go_simp; (try with_reducible rfl); done)
              try simp only [List.setIfInBounds_toArray, List.set_cons_zero, List.set_cons_succ]
              refine take_at (i := 31) (d := 139) (v := ?_) (by simp only [List.getElem?_toArray, List.getElem?_cons_succ, List.getElem?_cons_zero]; rfl) rfl (by kernel_rfl) (by kernel_rfl) (by kernel_rfl) (fun _ _ _ h => h) rfl ?_ (by assumption) ?_
              rotate_left
              focus (intro w hSw; go_simp; (try with_reducible rfl); done)
              try simp only [List.setIfInBounds_toArray, List.set_cons_zero, List.set_cons_succ]
              refine take_at (i := 33) (d := 141) (v := ?_) (by simp only [List.getElem?_toArray, List.getElem?_cons_succ, List.getElem?_cons_zero]; rfl) rfl (by kernel_rfl) (by kernel_rfl) (by kernel_rfl) (fun _ _ _ h => h) rfl ?_ (by assumption) ?_
              rotate_left
              focus (intro w hSw; go_simp; (try with_reducible rfl); done)
              try simp only [List.setIfInBounds_toArray, List.set_cons_zero, List.set_cons_succ]
              refine take_at (i := 34) (d := 142) (v := ?_) (by simp only [List.getElem?_toArray, List.getElem?_cons_succ, List.getElem?_cons_zero]; rfl) rfl (by kernel_rfl) (by kernel_rfl) (by kernel_rfl) (fun _ _ _ h => h) rfl ?_ (by assumption) ?_
              rotate_left
              focus (intro w hSw; go_simp; (try with_reducible rfl); done)
              try simp only [List.setIfInBounds_toArray, List.set_cons_zero, List.set_cons_succ]
              refine take_at (i := 35) (d := 143) (v := ?_) (by simp only [List.getElem?_toArray, List.getElem?_cons_succ, List.getElem?_cons_zero]; rfl) rfl (by kernel_rfl) (by kernel_rfl) (by kernel_rfl) (fun _ _ _ h => h) rfl ?_ (by assumption) ?_
              rotate_left
              focus (intro w hSw; go_simp; (try with_reducible rfl); done)
              try simp only [List.setIfInBounds_toArray, List.set_cons_zero, List.set_cons_succ]
              refine take_at (i := 36) (d := 144) (v := ?_) (by simp only [List.getElem?_toArray, List.getElem?_cons_succ, List.getElem?_cons_zero]; rfl) rfl (by kernel_rfl) (by kernel_rfl) (by kernel_rfl) (fun _ _ _ h => h) rfl ?_ (by assumption) ?_
              rotate_left
              focus (intro w hSw; go_simp; (try with_reducible rfl); done)
              try simp only [List.setIfInBounds_toArray, List.set_cons_zero, List.set_cons_succ]
              refine take_at (i := 37) (d := 145) (v := ?_) (by simp only [List.getElem?_toArray, List.getElem?_cons_succ, List.getElem?_cons_zero]; rfl) rfl (by kernel_rfl) (by kernel_rfl) (by kernel_rfl) (fun _ _ _ h => h) rfl ?_ (by assumption) ?_
              rotate_left
              focus (intro w hSw; go_simp; (try with_reducible rfl); done)
              try simp only [List.setIfInBounds_toArray, List.set_cons_zero, List.set_cons_succ]
              refine take_at (i := 38) (d := 146) (v := ?_) (by simp only [List.getElem?_toArray, List.getElem?_cons_succ, List.getElem?_cons_zero]; rfl) rfl (by kernel_rfl) (by kernel_rfl) (by kernel_rfl) (fun _ _ _ h => h) rfl ?_ (by assumption) ?_
              rotate_left
              focus (intro w hSw; go_simp; (try with_reducible rfl); done)
              try simp only [List.setIfInBounds_toArray, List.set_cons_zero, List.set_cons_succ]
              refine take_at (i := 39) (d := 147) (v := ?_) (by simp only [List.getElem?_toArray, List.getElem?_cons_succ, List.getElem?_cons_zero]; rfl) rfl (by kernel_rfl) (by kernel_rfl) (by kernel_rfl) (fun _ _ _ h => h) rfl ?_ (by assumption) ?_
              rotate_left
              focus (intro w hSw; go_simp; (try with_reducible rfl); done)
              try simp only [List.setIfInBounds_toArray, List.set_cons_zero, List.set_cons_succ]
              refine take_at (i := 40) (d := 148) (v := ?_) (by simp only [List.getElem?_toArray, List.getElem?_cons_succ, List.getElem?_cons_zero]; rfl) rfl (by kernel_rfl) (by kernel_rfl) (by kernel_rfl) (fun _ _ _ h => h) rfl ?_ (by assumption) ?_
              rotate_left
              focus (intro w hSw; go_simp; (try with_reducible rfl); done)
              try simp only [List.setIfInBounds_toArray, List.set_cons_zero, List.set_cons_succ]
              refine call_at (i := 32) (d := 140) (by simp only [List.getElem?_toArray, List.getElem?_cons_succ, List.getElem?_cons_zero]; rfl) rfl (by kernel_rfl) rfl (fun K hK => ?_)
              go_simp
              refine (two_heard (HT1.out.next (Below.refl _ _).drew)).mono ?_
              rintro e y1 ⟨rfl, rfl⟩
              rw [HSh.out]
              have hS1 : Kept x6 x6.drew := Kept.drew x6
              go_wp2_with fail
              refine hK.out _ _ hS1 (fun hSn => ?_)
              clear hK K
              try simp only [List.setIfInBounds_toArray, List.set_cons_zero, List.set_cons_succ]
              refine take_at (i := 41) (d := 149) (v := ?_) (by simp only [List.getElem?_toArray, List.getElem?_cons_succ, List.getElem?_cons_zero]; rfl) rfl (by kernel_rfl) (by kernel_rfl) (by kernel_rfl) (fun _ _ _ h => h) rfl ?_ (by assumption) ?_
              rotate_left
              focus (intro w hSw; go_simp; (try with_reducible rfl); done)
              try simp only [List.setIfInBounds_toArray, List.set_cons_zero, List.set_cons_succ]
              refine take_at (i := 42) (d := 150) (v := ?_) (by simp only [List.getElem?_toArray, List.getElem?_cons_succ, List.getElem?_cons_zero]; rfl) rfl (by kernel_rfl) (by kernel_rfl) (by kernel_rfl) (fun _ _ _ h => h) rfl ?_ (by assumption) ?_
              rotate_left
              focus (intro w hSw; go_simp; (try with_reducible rfl); done)
              try simp only [List.setIfInBounds_toArray, List.set_cons_zero, List.set_cons_succ]
              refine wpAnyH_done (by kernel_rfl) ?_ _
              clear hS0 hSn hS1 q0 q2 q3 q4 hvg hvp hE1
              go_wp2
              go_roundw
              case rel => exact ⟨c1 + 1, by omega, by go_num, HRd, HBd⟩
              case measure => simp [intOf]; omega
            have hI1 : ¬ (c1 : Int) < 2 := by omega
            obtain ⟨E, Y, U, T, tag, B, ways, puts, gots, s, t, ps, pt, gs, gt, hN, hT, hBw, hE1, hE2, hP, hG, hD, hC⟩ := hR.out
            have HT1 := hide hT
            have hse : s.sent.length = 0 := by rw [(hC.2 (by decide)).2]; rfl
            have HSe := hide hse
            have q0 : x6.cell? ⟨W, 0, none⟩ = some (.slice (some ⟨E, 0, none⟩) 2 2) := cell_of_row _ _ 0 _ _ _ hN.wd
            have hLx : L ≤ x6.heap.size := Nat.le_of_lt hT.low
            clear hN hT hE2 hP hG hD hC hse
            go_wp2_with fail
            refine (two_waits HT1.out).mono ?_
            rintro e x7 ⟨rfl, rfl⟩
            rw [HSe.out]
            go_wp2_with fail
            refine (works_any _).mono ?_
            rintro e x8 ⟨rfl, hb8⟩
            have HB8 : Hid (Below L w x8) := hide (hB.out.trans (hb8.mono hLx))
            have HB9 : Hid (Below w.heap.size w x8) := hide (by rw [hL]; exact HB8.out)
            clear hb8 q0 hE1
            go_wp2
            go_ret
            first | exact ⟨rfl, HB9.out⟩ | exact ⟨rfl, HB8.out⟩
end Go.Proofs.Ytigmmikijjcdiaa
