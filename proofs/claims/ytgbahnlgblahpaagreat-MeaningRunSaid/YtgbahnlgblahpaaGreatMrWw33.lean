/- Lemmas: Prf. -/
import Derived.Test.YtgbahnlgblahpaaGreatMrWw22
set_option linter.unusedVariables false
set_option linter.unusedSimpArgs false
set_option maxRecDepth 100000
set_option maxHeartbeats 16000000
namespace Go.Proofs.YtgbahnlgblahpaaGreat
open Go.RowKit
theorem rfits_any (w : World) (f t x V : Int) : Calls Tryz.prog 43 #[.agg #[.int .i64 f, .int .i64 t, .int .i64 x], .int .i64 V] w fun e w' => e = .returned (.bool (fitsB f t x V)) ∧ Below w.heap.size w w' := by
 have hb : Below w.heap.size w (w.alloc (.cells #[.int .i64 f, .int .i64 t, .int .i64 x] 46)) := (Below.refl _ _).alloc (Nat.le_refl _) _
 have HB := hide hb
 clear hb
 go_enter Tryz.func43, Tryz.ntmps43
 go_wp2
 all_goals
  go_ret
  exact ⟨ret_bool (by unfold fitsB; first | rfl | (rw [Bool.eq_iff_iff]; simp only [Bool.and_eq_true, decide_eq_true_eq, Bool.false_eq_true, eq_self_iff_true, true_iff, false_iff]; omega)), HB.out⟩
theorem order_neg (a1 a2 a3 b1 b2 b3 : Int) : (orderOf (a1, a2, a3) (b1, b2, b3) < 0) ↔ (a1 < b1 ∨ (a1 = b1 ∧ a2 < b2)) := by
 unfold orderOf orOf cmpOf
 dsimp only
 (repeat' split) <;> omega
theorem ahead_any (w : World) (a1 a2 a3 b1 b2 b3 : Int) : Calls Tryz.prog 44 #[.agg #[.int .i64 a1, .int .i64 a2, .int .i64 a3], .agg #[.int .i64 b1, .int .i64 b2, .int .i64 b3]] w fun e w' => e = .returned (.bool (decide (orderOf (a1, a2, a3) (b1, b2, b3) < 0))) ∧ Below w.heap.size w w' := by
 have hb : Below w.heap.size w ((w.alloc (.cells #[.int .i64 a1, .int .i64 a2, .int .i64 a3] 46)).alloc (.cells #[.int .i64 b1, .int .i64 b2, .int .i64 b3] 46)) := ((Below.refl _ _).alloc (Nat.le_refl _) _).alloc (by simp) _
 have HB := hide hb
 have HO := hide (order_neg a1 a2 a3 b1 b2 b3)
 clear hb
 by_cases h1 : a1 < b1
 ·have HF := hide (decide_eq_true (HO.out.2 (.inl h1)))
  go_enter Tryz.func44, Tryz.ntmps44
  go_wp2
  go_ret
  exact ⟨ret_bool (by rw [HF.out]), HB.out⟩
 ·by_cases h2 : a1 = b1
  ·subst h2
   by_cases h3 : a2 < b2
   ·have HF := hide (decide_eq_true (HO.out.2 (.inr ⟨rfl, h3⟩)))
    go_enter Tryz.func44, Tryz.ntmps44
    go_wp2
    go_ret
    exact ⟨ret_bool (by rw [HF.out]), HB.out⟩
   ·have HF := hide (decide_eq_false (fun h => by have h9 := HO.out.1 h; omega))
    go_enter Tryz.func44, Tryz.ntmps44
    go_wp2
    go_ret
    exact ⟨ret_bool (by rw [HF.out]), HB.out⟩
  ·have HF := hide (decide_eq_false (fun h => by have h9 := HO.out.1 h; omega))
   go_enter Tryz.func44, Tryz.ntmps44
   go_wp2
   go_ret
   exact ⟨ret_bool (by rw [HF.out]), HB.out⟩
theorem rcheck_any (w : World) (V : Int) (A : Option Addr) (es : List Ed) (L c : Nat) (hL : es.length = L) (hE : Eds w w.heap.size A es) (hc : L ≤ 9223372036854775807) :
  Calls Tryz.prog 24 #[.agg #[.int .i64 V, .slice A L c]] w fun e w' => e = .returned (.int .i64 (checkF V es)) ∧ Below w.heap.size w w' := by
 obtain ⟨v, hv⟩ : ∃ v, w.alloc (.cells #[.int .i64 V, .slice A L c] 24) = v := ⟨_, rfl⟩
 have hz : v.heap.size = w.heap.size + 1 := by rw [← hv]; simp
 have hb : Below w.heap.size w v := by rw [← hv]; exact (Below.refl _ _).alloc (Nat.le_refl _) _
 have cg : v.heap[w.heap.size]? = some (.cells #[.int .i64 V, .slice A L c] 24) := by rw [← hv]; exact heap_alloc_last w _
 have cg0 : v.cell? ⟨w.heap.size, 0, none⟩ = some (.int .i64 V) := cell_of_row _ _ 0 _ _ _ cg
 have cg1 : v.cell? ⟨w.heap.size, 1, none⟩ = some (.slice A L c) := cell_of_row _ _ 1 _ _ _ cg
 have hlg : w.heap.size < v.heap.size := by omega
 have HE := hide (Els.more (hE.below hb (Nat.le_refl _)) (Nat.le_of_lt hlg))
 have HV := hide hv
 have HB := hide hb
 have HL := hide hL
 have HZ := hide hz
 clear hv hb hz cg hE hL
 by_cases h1 : V > 512 ∨ L > 8192
 ·have hF : checkF V es = 3 := by rw [checkF, HL.out, if_pos h1]
  have HF := hide hF
  clear hF
  by_cases hV : 512 < V
  ·go_enter Tryz.func24, Tryz.ntmps24
   go_wp2
   go_ret
   rw [HV.out, HF.out]
   exact ⟨rfl, HB.out⟩
  ·have hV' : ¬ 512 < V := by omega
   have hL' : (8192 : Int) < (L : Int) := by omega
   go_enter Tryz.func24, Tryz.ntmps24
   go_wp2
   go_ret
   rw [HV.out, HF.out]
   exact ⟨rfl, HB.out⟩
 ·have hV : ¬ 512 < V := by omega
  have hL' : ¬ (8192 : Int) < (L : Int) := by omega
  have hF : checkF V es = if V < 1 then 40 else if okFrom V es 0 = true then 0 else 40 := by rw [checkF, HL.out, if_neg h1]
  have HF := hide hF
  clear hF h1
  have hL2 : L ≤ 8192 := by omega
  go_enter Tryz.func24, Tryz.ntmps24
  go_wp2
  rw [HV.out]
  go_loopw [3] (fun vi wr => ∃ i : Nat, i ≤ L ∧ vi = .int .i64 i ∧ Hid (okFrom V es 0 = okFrom V es i) ∧ Kept v wr ∧ Below w.heap.size w wr ∧ v.heap.size ≤ wr.heap.size) (fun vi _ => L - (intOf vi).toNat)
  case atStart => exact ⟨0, by omega, rfl, hide rfl, Kept.refl v, HB.out, Nat.le_refl _⟩
  case round =>
   obtain ⟨i, hi, rfl, hok, hk, hbw, hsz⟩ := hrel
   have hs := hbw.size
   by_cases hlt : i < L
   ·obtain ⟨e, he⟩ : ∃ e, es[i]? = some e := ⟨_, List.getElem?_eq_getElem (by rw [HL.out]; exact hlt)⟩
    obtain ⟨b, off, rfl, hbl, c0, c1, c2, _, _⟩ := Eds.get HE.out he
    have hI0 : (0 : Int) ≤ (i : Int) := by omega
    have hI1 : (i : Int) < (L : Int) := by omega
    have HStep := hide (okFrom_step V es i (by rw [HL.out]; exact hlt))
    have HEi := hide he
    clear he
    obtain ⟨e1, e2, e3⟩ := e
    dsimp only at c0 c1 c2
    have hlast : ∀ w', Below wr.drew.heap.size wr.drew w' → Kept v w' ∧ Below w.heap.size w w' ∧ v.heap.size ≤ w'.heap.size := fun w' h => ⟨hk.below hsz (below_undrew h), hbw.drew.trans (h.mono hbw.drew.size), by have := h.size; simp at this; omega⟩
    have HLAST := hide hlast
    clear hlast
    by_cases hf : fitsB e1 e2 e3 V = true
    ·rcases Nat.eq_zero_or_pos i with hi0 | hi0
     ·subst hi0
      have hat : okAt V es 0 = true := by
       rw [okAt, HEi.out]
       show (fitsB e1 e2 e3 V && true) = true
       rw [hf]; rfl
      have HST : Hid (okFrom V es 0 = okFrom V es 1) := hide (by rw [HStep.out, hat, Bool.true_and])
      clear hat
      rw [show ((0 : Nat) : Int) = 0 from rfl]
      simp only [Nat.zero_mul, Nat.add_zero] at c0 c1 c2
      go_wp2
      refine wp_region_held_drew (S := Kept v) (by kernel_rfl) (fun p hp => hk p hp) (fun hS0 => ?_)
      refine tk 0 20 ?_ ?_ ?_; rotate_left; (focus (intro w h; go_simp; (try with_reducible rfl))); (try simp only [zqd, zqe, zqf])
      refine tk 1 21 ?_ ?_ ?_; rotate_left; (focus (intro w h; go_simp; (try with_reducible rfl))); (try simp only [zqd, zqe, zqf])
      refine tk 2 22 ?_ ?_ ?_; rotate_left; (focus (intro w h; go_simp; (try with_reducible rfl))); (try simp only [zqd, zqe, zqf])
      refine tk 3 23 ?_ ?_ ?_; rotate_left; (focus (intro w h; go_simp; (try with_reducible rfl))); (try simp only [zqd, zqe, zqf])
      refine tk 4 24 ?_ ?_ ?_; rotate_left; (focus (intro w h; go_simp; (try with_reducible rfl))); (try simp only [zqd, zqe, zqf])
      refine tk 5 25 ?_ ?_ ?_; rotate_left; (focus (intro w h; go_simp; (try with_reducible rfl))); (try simp only [zqd, zqe, zqf])
      refine tk 6 26 ?_ ?_ ?_; rotate_left; (focus (intro w h; go_simp; (try with_reducible rfl))); (try simp only [zqd, zqe, zqf])
      refine call_at (i := 7) (d := 27) (by simp only [zqa, zqb, zqc]; rfl) rfl (by kernel_rfl) rfl (fun K hK => ?_)
      go_simp
      refine (rfits_any _ e1 e2 e3 V).mono ?_
      rintro e y1 ⟨rfl, hy1⟩
      rw [hf]
      have hS1 : Kept v y1 := hS0.below (by simp; omega) hy1
      have HY1 := hide hy1
      clear hy1
      go_wp2_with fail
      refine hK.out _ _ hS1 (fun hSn => ?_)
      clear hK K
      try simp only [zqd, zqe, zqf]
      refine tk 8 28 ?_ ?_ ?_; rotate_left; (focus (intro w h; go_simp; (try with_reducible rfl))); (try simp only [zqd, zqe, zqf])
      refine tk 9 29 ?_ ?_ ?_; rotate_left; (focus (intro w h; go_simp; (try with_reducible rfl))); (try simp only [zqd, zqe, zqf])
      refine tk 10 30 ?_ ?_ ?_; rotate_left; (focus (intro w h; go_simp; (try with_reducible rfl))); (try simp only [zqd, zqe, zqf])
      refine tk 11 31 ?_ ?_ ?_; rotate_left; (focus (intro w h; go_simp; (try with_reducible rfl))); (try simp only [zqd, zqe, zqf])
      refine tk 12 32 ?_ ?_ ?_; rotate_left; (focus (intro w h; go_simp; (try with_reducible rfl))); (try simp only [zqd, zqe, zqf])
      refine sk 13 33 ?_; (try simp only [zqd, zqe, zqf])
      refine sk 14 34 ?_; (try simp only [zqd, zqe, zqf])
      refine sk 15 35 ?_; (try simp only [zqd, zqe, zqf])
      refine sk 16 36 ?_; (try simp only [zqd, zqe, zqf])
      refine sk 17 37 ?_; (try simp only [zqd, zqe, zqf])
      refine sk 18 38 ?_; (try simp only [zqd, zqe, zqf])
      refine sk 19 39 ?_; (try simp only [zqd, zqe, zqf])
      refine sk 20 40 ?_; (try simp only [zqd, zqe, zqf])
      refine sk 21 41 ?_; (try simp only [zqd, zqe, zqf])
      refine sk 22 42 ?_; (try simp only [zqd, zqe, zqf])
      refine sk 23 43 ?_; (try simp only [zqd, zqe, zqf])
      refine sk 24 44 ?_; (try simp only [zqd, zqe, zqf])
      refine sk 25 45 ?_; (try simp only [zqd, zqe, zqf])
      refine tk 26 46 ?_ ?_ ?_; rotate_left; (focus (intro w h; go_simp; (try with_reducible rfl))); (try simp only [zqd, zqe, zqf])
      refine tk 27 47 ?_ ?_ ?_; rotate_left; (focus (intro w h; go_simp; (try with_reducible rfl))); (try simp only [zqd, zqe, zqf])
      refine wpAnyH_done (by kernel_rfl) ?_ _
      have hgo := HLAST.out _ HY1.out
      clear hS0 hSn
      go_wp2
      go_roundw
      case rel => exact ⟨1, by omega, by go_num, HST, hgo⟩
      case measure => simp [intOf]; omega
     ·obtain ⟨k, rfl⟩ : ∃ k, i = k + 1 := ⟨i - 1, by omega⟩
      have hpos : (0 : Int) < ((k + 1 : Nat) : Int) := by omega
      have hsub : ((k + 1 : Nat) : Int) - 1 = (k : Int) := by omega
      have hk0 : (0 : Int) ≤ (k : Int) := by omega
      have hk9 : (0 : Int) ≤ (k : Int) + 1 := by omega
      have hk1 : (k : Int) < (L : Int) := by omega
      have hwk : IntKind.i64.wrap (k : Int) = (k : Int) := IntWalk.i64_in _ (by omega)
      obtain ⟨pe, hpe⟩ : ∃ pe, es[k]? = some pe := ⟨_, List.getElem?_eq_getElem (by have := HL.out; omega)⟩
      obtain ⟨p1, p2, p3⟩ := pe
      obtain ⟨b', off', hA', _, q0, q1, q2, _, _⟩ := Eds.get HE.out hpe
      injection hA' with hA'
      injection hA' with hA1 hA2
      subst hA1 hA2
      dsimp only at q0 q1 q2
      have hat : okAt V es (k + 1) = decide (orderOf (p1, p2, p3) (e1, e2, e3) < 0) := by
       rw [okAt, HEi.out]
       show (fitsB e1 e2 e3 V && _) = _
       rw [hf, if_neg (by omega), Nat.add_sub_cancel, hpe]; rfl
      have HAt := hide hat
      have HPe := hide hpe
      clear hat hpe
      by_cases hord : orderOf (p1, p2, p3) (e1, e2, e3) < 0
      ·have HST : Hid (okFrom V es 0 = okFrom V es (k + 1 + 1)) := hide (by rw [hok.out, HStep.out, HAt.out, decide_eq_true hord, Bool.true_and])
       have HD := hide (decide_eq_true hord)
       clear hord
       go_wp2
       refine wp_region_held_drew (S := Kept v) (by kernel_rfl) (fun p hp => hk p hp) (fun hS0 => ?_)
       refine tk 0 20 ?_ ?_ ?_; rotate_left; (focus (intro w h; go_simp; (try with_reducible rfl))); (try simp only [zqd, zqe, zqf])
       refine tk 1 21 ?_ ?_ ?_; rotate_left; (focus (intro w h; go_simp; (try with_reducible rfl))); (try simp only [zqd, zqe, zqf])
       refine tk 2 22 ?_ ?_ ?_; rotate_left; (focus (intro w h; go_simp; (try with_reducible rfl))); (try simp only [zqd, zqe, zqf])
       refine tk 3 23 ?_ ?_ ?_; rotate_left; (focus (intro w h; go_simp; (try with_reducible rfl))); (try simp only [zqd, zqe, zqf])
       refine tk 4 24 ?_ ?_ ?_; rotate_left; (focus (intro w h; go_simp; (try with_reducible rfl))); (try simp only [zqd, zqe, zqf])
       refine tk 5 25 ?_ ?_ ?_; rotate_left; (focus (intro w h; go_simp; (try with_reducible rfl))); (try simp only [zqd, zqe, zqf])
       refine tk 6 26 ?_ ?_ ?_; rotate_left; (focus (intro w h; go_simp; (try with_reducible rfl))); (try simp only [zqd, zqe, zqf])
       refine call_at (i := 7) (d := 27) (by simp only [zqa, zqb, zqc]; rfl) rfl (by kernel_rfl) rfl (fun K hK => ?_)
       go_simp
       refine (rfits_any _ e1 e2 e3 V).mono ?_
       rintro e y1 ⟨rfl, hy1⟩
       rw [hf]
       have hS1 : Kept v y1 := hS0.below (by simp; omega) hy1
       have HY1 := hide hy1
       clear hy1
       go_wp2_with fail
       refine hK.out _ _ hS1 (fun hSn => ?_)
       clear hK K
       try simp only [zqd, zqe, zqf]
       refine tk 8 28 ?_ ?_ ?_; rotate_left; (focus (intro w h; go_simp; (try with_reducible rfl))); (try simp only [zqd, zqe, zqf])
       refine tk 9 29 ?_ ?_ ?_; rotate_left; (focus (intro w h; go_simp; (try with_reducible rfl))); (try simp only [zqd, zqe, zqf])
       refine tk 10 30 ?_ ?_ ?_; rotate_left; (focus (intro w h; go_simp; (try with_reducible rfl))); (try simp only [zqd, zqe, zqf])
       refine tk 11 31 ?_ ?_ ?_; rotate_left; (focus (intro w h; go_simp; (try with_reducible rfl))); (try simp only [zqd, zqe, zqf])
       refine tk 12 32 ?_ ?_ ?_; rotate_left; (focus (intro w h; go_simp; (try with_reducible rfl))); (try simp only [zqd, zqe, zqf])
       refine tk 13 33 ?_ ?_ ?_; rotate_left; (focus (intro w h; go_simp; (try with_reducible rfl))); (try simp only [zqd, zqe, zqf])
       refine tk 14 34 ?_ ?_ ?_; rotate_left; (focus (intro w h; go_simp; (try with_reducible rfl))); (try simp only [zqd, zqe, zqf])
       refine tk 15 35 ?_ ?_ ?_; rotate_left; (focus (intro w h; go_simp; (try with_reducible rfl))); (try simp only [zqd, zqe, zqf])
       refine tk 16 36 ?_ ?_ ?_; rotate_left; (focus (intro w h; go_simp; (try with_reducible rfl))); (try simp only [zqd, zqe, zqf])
       refine tk 17 37 ?_ ?_ ?_; rotate_left; (focus (intro w h; go_simp; (try with_reducible rfl))); (try simp only [zqd, zqe, zqf])
       refine tk 18 38 ?_ ?_ ?_; rotate_left; (focus (intro w h; go_simp; (try with_reducible rfl))); (try simp only [zqd, zqe, zqf])
       refine tk 19 39 ?_ ?_ ?_; rotate_left; (focus (intro w h; go_simp; (try with_reducible rfl))); (try simp only [zqd, zqe, zqf])
       refine tk 20 40 ?_ ?_ ?_; rotate_left; (focus (intro w h; go_simp; (try with_reducible rfl))); (try simp only [zqd, zqe, zqf])
       refine tk 21 41 ?_ ?_ ?_; rotate_left; (focus (intro w h; go_simp; (try with_reducible rfl))); (try simp only [zqd, zqe, zqf])
       refine tk 22 42 ?_ ?_ ?_; rotate_left; (focus (intro w h; go_simp; (try with_reducible rfl))); (try simp only [zqd, zqe, zqf])
       refine tk 23 43 ?_ ?_ ?_; rotate_left; (focus (intro w h; go_simp; (try with_reducible rfl))); (try simp only [zqd, zqe, zqf])
       refine call_at (i := 24) (d := 44) (by simp only [zqa, zqb, zqc]; rfl) rfl (by kernel_rfl) rfl (fun K hK => ?_)
       go_simp
       refine (ahead_any _ p1 p2 p3 e1 e2 e3).mono ?_
       rintro e y2 ⟨rfl, hy2⟩
       rw [HD.out]
       have hS2 : Kept v y2 := hS1.below (by have := HY1.out.size; simp at this; omega) hy2
       have HY2 := hide (HY1.out.trans (hy2.mono HY1.out.size))
       clear hy2
       go_wp2_with fail
       refine hK.out _ _ hS2 (fun hSn => ?_)
       clear hK K
       try simp only [zqd, zqe, zqf]
       refine tk 25 45 ?_ ?_ ?_; rotate_left; (focus (intro w h; go_simp; (try with_reducible rfl))); (try simp only [zqd, zqe, zqf])
       refine tk 26 46 ?_ ?_ ?_; rotate_left; (focus (intro w h; go_simp; (try with_reducible rfl))); (try simp only [zqd, zqe, zqf])
       refine tk 27 47 ?_ ?_ ?_; rotate_left; (focus (intro w h; go_simp; (try with_reducible rfl))); (try simp only [zqd, zqe, zqf])
       refine wpAnyH_done (by kernel_rfl) ?_ _
       have hgo := HLAST.out _ HY2.out
       clear hS0 hSn
       go_wp2
       go_roundw
       case rel => exact ⟨k + 1 + 1, by omega, by go_num, HST, hgo⟩
       case measure => simp [intOf]; omega
      ·have HST : Hid (okFrom V es 0 = false) := hide (by rw [hok.out, HStep.out, HAt.out, decide_eq_false hord, Bool.false_and])
       have HD := hide (decide_eq_false hord)
       clear hord
       go_wp2
       refine wp_region_held_drew (S := Kept v) (by kernel_rfl) (fun p hp => hk p hp) (fun hS0 => ?_)
       refine tk 0 20 ?_ ?_ ?_; rotate_left; (focus (intro w h; go_simp; (try with_reducible rfl))); (try simp only [zqd, zqe, zqf])
       refine tk 1 21 ?_ ?_ ?_; rotate_left; (focus (intro w h; go_simp; (try with_reducible rfl))); (try simp only [zqd, zqe, zqf])
       refine tk 2 22 ?_ ?_ ?_; rotate_left; (focus (intro w h; go_simp; (try with_reducible rfl))); (try simp only [zqd, zqe, zqf])
       refine tk 3 23 ?_ ?_ ?_; rotate_left; (focus (intro w h; go_simp; (try with_reducible rfl))); (try simp only [zqd, zqe, zqf])
       refine tk 4 24 ?_ ?_ ?_; rotate_left; (focus (intro w h; go_simp; (try with_reducible rfl))); (try simp only [zqd, zqe, zqf])
       refine tk 5 25 ?_ ?_ ?_; rotate_left; (focus (intro w h; go_simp; (try with_reducible rfl))); (try simp only [zqd, zqe, zqf])
       refine tk 6 26 ?_ ?_ ?_; rotate_left; (focus (intro w h; go_simp; (try with_reducible rfl))); (try simp only [zqd, zqe, zqf])
       refine call_at (i := 7) (d := 27) (by simp only [zqa, zqb, zqc]; rfl) rfl (by kernel_rfl) rfl (fun K hK => ?_)
       go_simp
       refine (rfits_any _ e1 e2 e3 V).mono ?_
       rintro e y1 ⟨rfl, hy1⟩
       rw [hf]
       have hS1 : Kept v y1 := hS0.below (by simp; omega) hy1
       have HY1 := hide hy1
       clear hy1
       go_wp2_with fail
       refine hK.out _ _ hS1 (fun hSn => ?_)
       clear hK K
       try simp only [zqd, zqe, zqf]
       refine tk 8 28 ?_ ?_ ?_; rotate_left; (focus (intro w h; go_simp; (try with_reducible rfl))); (try simp only [zqd, zqe, zqf])
       refine tk 9 29 ?_ ?_ ?_; rotate_left; (focus (intro w h; go_simp; (try with_reducible rfl))); (try simp only [zqd, zqe, zqf])
       refine tk 10 30 ?_ ?_ ?_; rotate_left; (focus (intro w h; go_simp; (try with_reducible rfl))); (try simp only [zqd, zqe, zqf])
       refine tk 11 31 ?_ ?_ ?_; rotate_left; (focus (intro w h; go_simp; (try with_reducible rfl))); (try simp only [zqd, zqe, zqf])
       refine tk 12 32 ?_ ?_ ?_; rotate_left; (focus (intro w h; go_simp; (try with_reducible rfl))); (try simp only [zqd, zqe, zqf])
       refine tk 13 33 ?_ ?_ ?_; rotate_left; (focus (intro w h; go_simp; (try with_reducible rfl))); (try simp only [zqd, zqe, zqf])
       refine tk 14 34 ?_ ?_ ?_; rotate_left; (focus (intro w h; go_simp; (try with_reducible rfl))); (try simp only [zqd, zqe, zqf])
       refine tk 15 35 ?_ ?_ ?_; rotate_left; (focus (intro w h; go_simp; (try with_reducible rfl))); (try simp only [zqd, zqe, zqf])
       refine tk 16 36 ?_ ?_ ?_; rotate_left; (focus (intro w h; go_simp; (try with_reducible rfl))); (try simp only [zqd, zqe, zqf])
       refine tk 17 37 ?_ ?_ ?_; rotate_left; (focus (intro w h; go_simp; (try with_reducible rfl))); (try simp only [zqd, zqe, zqf])
       refine tk 18 38 ?_ ?_ ?_; rotate_left; (focus (intro w h; go_simp; (try with_reducible rfl))); (try simp only [zqd, zqe, zqf])
       refine tk 19 39 ?_ ?_ ?_; rotate_left; (focus (intro w h; go_simp; (try with_reducible rfl))); (try simp only [zqd, zqe, zqf])
       refine tk 20 40 ?_ ?_ ?_; rotate_left; (focus (intro w h; go_simp; (try with_reducible rfl))); (try simp only [zqd, zqe, zqf])
       refine tk 21 41 ?_ ?_ ?_; rotate_left; (focus (intro w h; go_simp; (try with_reducible rfl))); (try simp only [zqd, zqe, zqf])
       refine tk 22 42 ?_ ?_ ?_; rotate_left; (focus (intro w h; go_simp; (try with_reducible rfl))); (try simp only [zqd, zqe, zqf])
       refine tk 23 43 ?_ ?_ ?_; rotate_left; (focus (intro w h; go_simp; (try with_reducible rfl))); (try simp only [zqd, zqe, zqf])
       refine call_at (i := 24) (d := 44) (by simp only [zqa, zqb, zqc]; rfl) rfl (by kernel_rfl) rfl (fun K hK => ?_)
       go_simp
       refine (ahead_any _ p1 p2 p3 e1 e2 e3).mono ?_
       rintro e y2 ⟨rfl, hy2⟩
       rw [HD.out]
       have hS2 : Kept v y2 := hS1.below (by have := HY1.out.size; simp at this; omega) hy2
       have HY2 := hide (HY1.out.trans (hy2.mono HY1.out.size))
       clear hy2
       go_wp2_with fail
       refine hK.out _ _ hS2 (fun hSn => ?_)
       clear hK K
       try simp only [zqd, zqe, zqf]
       refine tk 25 45 ?_ ?_ ?_; rotate_left; (focus (intro w h; go_simp; (try with_reducible rfl))); (try simp only [zqd, zqe, zqf])
       refine tk 26 46 ?_ ?_ ?_; rotate_left; (focus (intro w h; go_simp; (try with_reducible rfl))); (try simp only [zqd, zqe, zqf])
       refine tk 27 47 ?_ ?_ ?_; rotate_left; (focus (intro w h; go_simp; (try with_reducible rfl))); (try simp only [zqd, zqe, zqf])
       refine wpAnyH_done (by kernel_rfl) ?_ _
       have hgo := HLAST.out _ HY2.out
       clear hS0 hSn
       go_wp2
       go_ret
       have hV1 : (if V < 1 then (40 : Int) else if okFrom V es 0 = true then 0 else 40) = 40 := by rw [HST.out]; split <;> rfl
       rw [HF.out, hV1]
       exact ⟨rfl, hgo.2.1⟩
    ·have hf' : fitsB e1 e2 e3 V = false := by simpa using hf
     have HST : Hid (okFrom V es 0 = false) := hide (by
      rw [hok.out, HStep.out, okAt, HEi.out]
      show ((fitsB e1 e2 e3 V && _) && _) = false
      rw [hf']; rfl)
     go_wp2
     refine wp_region_held_drew (S := Kept v) (by kernel_rfl) (fun p hp => hk p hp) (fun hS0 => ?_)
     refine tk 0 20 ?_ ?_ ?_; rotate_left; (focus (intro w h; go_simp; (try with_reducible rfl))); (try simp only [zqd, zqe, zqf])
     refine tk 1 21 ?_ ?_ ?_; rotate_left; (focus (intro w h; go_simp; (try with_reducible rfl))); (try simp only [zqd, zqe, zqf])
     refine tk 2 22 ?_ ?_ ?_; rotate_left; (focus (intro w h; go_simp; (try with_reducible rfl))); (try simp only [zqd, zqe, zqf])
     refine tk 3 23 ?_ ?_ ?_; rotate_left; (focus (intro w h; go_simp; (try with_reducible rfl))); (try simp only [zqd, zqe, zqf])
     refine tk 4 24 ?_ ?_ ?_; rotate_left; (focus (intro w h; go_simp; (try with_reducible rfl))); (try simp only [zqd, zqe, zqf])
     refine tk 5 25 ?_ ?_ ?_; rotate_left; (focus (intro w h; go_simp; (try with_reducible rfl))); (try simp only [zqd, zqe, zqf])
     refine tk 6 26 ?_ ?_ ?_; rotate_left; (focus (intro w h; go_simp; (try with_reducible rfl))); (try simp only [zqd, zqe, zqf])
     refine call_at (i := 7) (d := 27) (by simp only [zqa, zqb, zqc]; rfl) rfl (by kernel_rfl) rfl (fun K hK => ?_)
     go_simp
     refine (rfits_any _ e1 e2 e3 V).mono ?_
     rintro e y1 ⟨rfl, hy1⟩
     rw [hf']
     have hS1 : Kept v y1 := hS0.below (by simp; omega) hy1
     have HY1 := hide hy1
     clear hy1
     go_wp2_with fail
     refine hK.out _ _ hS1 (fun hSn => ?_)
     clear hK K
     try simp only [zqd, zqe, zqf]
     refine tk 8 28 ?_ ?_ ?_; rotate_left; (focus (intro w h; go_simp; (try with_reducible rfl))); (try simp only [zqd, zqe, zqf])
     refine tk 9 29 ?_ ?_ ?_; rotate_left; (focus (intro w h; go_simp; (try with_reducible rfl))); (try simp only [zqd, zqe, zqf])
     refine sk 10 30 ?_; (try simp only [zqd, zqe, zqf])
     refine sk 11 31 ?_; (try simp only [zqd, zqe, zqf])
     refine sk 12 32 ?_; (try simp only [zqd, zqe, zqf])
     refine sk 13 33 ?_; (try simp only [zqd, zqe, zqf])
     refine sk 14 34 ?_; (try simp only [zqd, zqe, zqf])
     refine sk 15 35 ?_; (try simp only [zqd, zqe, zqf])
     refine sk 16 36 ?_; (try simp only [zqd, zqe, zqf])
     refine sk 17 37 ?_; (try simp only [zqd, zqe, zqf])
     refine sk 18 38 ?_; (try simp only [zqd, zqe, zqf])
     refine sk 19 39 ?_; (try simp only [zqd, zqe, zqf])
     refine sk 20 40 ?_; (try simp only [zqd, zqe, zqf])
     refine sk 21 41 ?_; (try simp only [zqd, zqe, zqf])
     refine sk 22 42 ?_; (try simp only [zqd, zqe, zqf])
     refine sk 23 43 ?_; (try simp only [zqd, zqe, zqf])
     refine sk 24 44 ?_; (try simp only [zqd, zqe, zqf])
     refine sk 25 45 ?_; (try simp only [zqd, zqe, zqf])
     refine sk 26 46 ?_; (try simp only [zqd, zqe, zqf])
     refine tk 27 47 ?_ ?_ ?_; rotate_left; (focus (intro w h; go_simp; (try with_reducible rfl))); (try simp only [zqd, zqe, zqf])
     refine wpAnyH_done (by kernel_rfl) ?_ _
     have hgo := HLAST.out _ HY1.out
     clear hS0 hSn
     go_wp2
     go_ret
     have hV1 : (if V < 1 then (40 : Int) else if okFrom V es 0 = true then 0 else 40) = 40 := by rw [HST.out]; split <;> rfl
     rw [HF.out, hV1]
     exact ⟨rfl, hgo.2.1⟩
   ·obtain rfl : i = L := by omega
    have ht : okFrom V es 0 = true := by rw [hok.out, ← HL.out]; exact okFrom_end _ _
    have kg0 := (hk ⟨w.heap.size, 0, none⟩ hlg).trans cg0
    by_cases h2 : V < 1
    ·have HF2 := hide (HF.out.trans (if_pos h2))
     go_wp2
     go_ret
     rw [HF2.out]
     exact ⟨rfl, hbw⟩
    ·have HF2 := hide (HF.out.trans ((if_neg h2).trans (if_pos ht)))
     clear ht
     go_wp2
     go_ret
     rw [HF2.out]
     exact ⟨rfl, hbw⟩
end Go.Proofs.YtgbahnlgblahpaaGreat
