/- The chapter's examples; few; plain. (printed by gen/swk.py) -/
import Derived.Test.YtgfdlllmcbgbcaaSgt
import Derived.Test.YtgfdlllmcbgbcaaSpt
import Derived.Test.YtgfdlllmcbgbcaaSms
import Derived.Deep.DeepCutAuto
import Derived.Deep.CutBlock
namespace Go.Proofs.Ytgfdlllmcbgbcaa
open Go.RowKit
set_option linter.unusedVariables false
set_option linter.unusedSimpArgs false
def wp1 : SPart := ⟨3, [], [], [], []⟩
def wp2 : SPart := ⟨0, [1], [5], [true], [(false, 0)]⟩
def wp3 : SPart := ⟨0, [1], [5], [true], [(true, 9)]⟩
theorem rd_low {w w' : World} {b B : Nat} {xs : List Value} (h : Rd w w.heap.size (some ⟨b, 0, none⟩) xs) (hb : b < B) (hw : Below B w w') (hs : b < w'.heap.size) : Rd w' w'.heap.size (some ⟨b, 0, none⟩) xs := fun hn => by
  obtain ⟨b', off, e, hl, hc⟩ := h hn
  have e0 := e
  injection e with e
  injection e with e1 e2
  subst e1 e2
  exact ⟨b, 0, rfl, hs, fun j u hu => (hw.cell (p := ⟨b, 0 + j, none⟩) hb).trans (hc j u hu)⟩
theorem below_trans' {B C : Nat} {a b c : World} (h : Below C a b) (k : Below B b c) (hBC : B ≤ C) : Below B a c := (h.mono hBC).trans k
set_option maxRecDepth 100000 in
theorem sfew_any (w : World) (st : Int) (Ao Av Ac Ai : Option Addr) (no nv nc ni co cv cc ci : Nat) : Calls Try.prog 9 #[.agg #[.int .i64 st, .slice Ao no co, .slice Av nv cv, .slice Ac nc cc, .slice Ai ni ci]] w fun e w' => e = .returned (.bool (decide (no ≤ 60) && decide (nv ≤ 60) && decide (nc ≤ 60) && decide (ni ≤ 60))) ∧ Below w.heap.size w w' := by
  have HB := hide (show Below w.heap.size w (w.alloc (.cells #[.int .i64 st, .slice Ao no co, .slice Av nv cv, .slice Ac nc cc, .slice Ai ni ci] 27)) from (Below.refl _ _).alloc (Nat.le_refl _) _)
  by_cases h1 : no ≤ 60 <;> by_cases h2 : nv ≤ 60 <;> by_cases h3 : nc ≤ 60 <;> by_cases h4 : ni ≤ 60
  all_goals
    go_enter Try.func9, Try.ntmps9
    go_wp2
    go_ret
    exact ⟨ret_b (by simp [h1, h2, h3, h4] <;> omega), HB.out⟩
set_option maxRecDepth 100000 in
theorem splain_any (w : World) (st : Int) (Ao Av Ac Ai : Option Addr) (no nv nc ni co cv cc ci : Nat) : Calls Try.prog 13 #[.agg #[.int .i64 st, .slice Ao no co, .slice Av nv cv, .slice Ac nc cc, .slice Ai ni ci]] w fun e w' => e = .returned (.agg #[.int .i64 st, .slice Ao no co, .slice Av nv cv, .slice Ac nc cc, .slice Ai ni ci]) ∧ Below w.heap.size w w' := by
  go_enter Try.func13, Try.ntmps13
  go_wp2
  exact bodyPost_ret (v := .agg #[.int .i64 st, .slice Ao no co, .slice Av nv cv, .slice Ac nc cc, .slice Ai ni ci]) (by simp [results, Try.results13, go_sem]) rfl ⟨rfl, ((Below.refl _ _).alloc (Nat.le_refl _) _).alloc (by simp) _⟩
set_option maxRecDepth 100000 in
set_option maxHeartbeats 8000000 in
theorem works_any (w : World) : Calls Try.prog 10 #[] w fun e w' => e = .returned (.bool true) ∧ Below w.heap.size w w' := by
  have hp1 := sput_ok w wp1 none none none none 0 0 0 0 0 0 0 0 ⟨rfl, rfl, rfl, rfl⟩ (by decide) ⟨Rd.nil_, Rd.nil_, Rd.nil_, Rd.nil_⟩ (by decide)
  go_enter Try.func10, Try.ntmps10
  go_wp2_with fail
  refine hp1.mono ?_
  clear hp1
  rintro e w1 ⟨A1, c1, n1, hn1, rfl, hr1, hc1, hm1, hb1⟩
  obtain rfl : n1 = 6 := hn1.symm
  have R1 := hide hr1
  have K1 := hide hb1
  clear hn1 hr1 hb1
  go_upto_region 3 with fail
  obtain ⟨v, hv⟩ : ∃ v, (((((w1.alloc (.cells #[.int .i64 1] 3)).alloc (.cells #[.int .i64 5] 2)).alloc (.cells #[.bool true] 4)).alloc (.cells #[.bool false, .int .i64 0] 61)).alloc (.cells #[.int .i64 0, .slice (some ⟨w1.heap.size, 0, none⟩) 1 1, .slice (some ⟨w1.heap.size + 1, 0, none⟩) 1 1, .slice (some ⟨w1.heap.size + 2, 0, none⟩) 1 1, .slice (some ⟨w1.heap.size + 3, 0, none⟩) 1 1] 27)) = v := ⟨_, rfl⟩
  rw [hv]
  have M0 : v.heap[w1.heap.size]? = some (.cells #[.int .i64 1] 3) := by
      rw [← hv]
      rw [Below.heap_alloc _ _ _ (by simp; try omega)]
      rw [Below.heap_alloc _ _ _ (by simp; try omega)]
      rw [Below.heap_alloc _ _ _ (by simp; try omega)]
      rw [Below.heap_alloc _ _ _ (by simp; try omega)]
      have := heap_alloc_last w1 (.cells #[.int .i64 1] 3)
      simpa using this
  have M1 : v.heap[w1.heap.size + 1]? = some (.cells #[.int .i64 5] 2) := by
      rw [← hv]
      rw [Below.heap_alloc _ _ _ (by simp; try omega)]
      rw [Below.heap_alloc _ _ _ (by simp; try omega)]
      rw [Below.heap_alloc _ _ _ (by simp; try omega)]
      have := heap_alloc_last (w1.alloc (.cells #[.int .i64 1] 3)) (.cells #[.int .i64 5] 2)
      simpa using this
  have M2 : v.heap[w1.heap.size + 2]? = some (.cells #[.bool true] 4) := by
      rw [← hv]
      rw [Below.heap_alloc _ _ _ (by simp; try omega)]
      rw [Below.heap_alloc _ _ _ (by simp; try omega)]
      have := heap_alloc_last ((w1.alloc (.cells #[.int .i64 1] 3)).alloc (.cells #[.int .i64 5] 2)) (.cells #[.bool true] 4)
      simpa using this
  have M3 : v.heap[w1.heap.size + 3]? = some (.cells #[.bool false, .int .i64 0] 61) := by
      rw [← hv]
      rw [Below.heap_alloc _ _ _ (by simp; try omega)]
      have := heap_alloc_last (((w1.alloc (.cells #[.int .i64 1] 3)).alloc (.cells #[.int .i64 5] 2)).alloc (.cells #[.bool true] 4)) (.cells #[.bool false, .int .i64 0] 61)
      simpa using this
  have MP : v.heap[w1.heap.size + 4]? = some (.cells #[.int .i64 0, .slice (some ⟨w1.heap.size, 0, none⟩) 1 1, .slice (some ⟨w1.heap.size + 1, 0, none⟩) 1 1, .slice (some ⟨w1.heap.size + 2, 0, none⟩) 1 1, .slice (some ⟨w1.heap.size + 3, 0, none⟩) 1 1] 27) := by
      rw [← hv]
      have := heap_alloc_last ((((w1.alloc (.cells #[.int .i64 1] 3)).alloc (.cells #[.int .i64 5] 2)).alloc (.cells #[.bool true] 4)).alloc (.cells #[.bool false, .int .i64 0] 61)) (.cells #[.int .i64 0, .slice (some ⟨w1.heap.size, 0, none⟩) 1 1, .slice (some ⟨w1.heap.size + 1, 0, none⟩) 1 1, .slice (some ⟨w1.heap.size + 2, 0, none⟩) 1 1, .slice (some ⟨w1.heap.size + 3, 0, none⟩) 1 1] 27)
      simpa using this
  have hvs : w1.heap.size + 5 ≤ v.heap.size := by rw [← hv]; simp
  have KV := hide (show Below w1.heap.size w1 v by rw [← hv]; exact (((((Below.refl _ _).alloc (Nat.le_refl _) _).alloc (by simp <;> omega) _).alloc (by simp <;> omega) _).alloc (by simp <;> omega) _).alloc (by simp <;> omega) _)
  have S2 := hide (show SIn v wp2 (some ⟨w1.heap.size, 0, none⟩) (some ⟨w1.heap.size + 1, 0, none⟩) (some ⟨w1.heap.size + 2, 0, none⟩) (some ⟨w1.heap.size + 3, 0, none⟩) from ⟨Rd.of_block M0, Rd.of_block M1, Rd.of_block M2, Rd.of_block M3⟩)
  have p0 : v.cell? ⟨w1.heap.size + 4, 0, none⟩ = some (.int .i64 0) := cell_of_row _ _ 0 _ _ _ MP
  have p1 : v.cell? ⟨w1.heap.size + 4, 1, none⟩ = some (.slice (some ⟨w1.heap.size, 0, none⟩) 1 1) := cell_of_row _ _ 1 _ _ _ MP
  have p2 : v.cell? ⟨w1.heap.size + 4, 2, none⟩ = some (.slice (some ⟨w1.heap.size + 1, 0, none⟩) 1 1) := cell_of_row _ _ 2 _ _ _ MP
  have p3 : v.cell? ⟨w1.heap.size + 4, 3, none⟩ = some (.slice (some ⟨w1.heap.size + 2, 0, none⟩) 1 1) := cell_of_row _ _ 3 _ _ _ MP
  have p4 : v.cell? ⟨w1.heap.size + 4, 4, none⟩ = some (.slice (some ⟨w1.heap.size + 3, 0, none⟩) 1 1) := cell_of_row _ _ 4 _ _ _ MP
  have lbp : w1.heap.size + 4 < v.heap.size := by omega
  have HMP := hide MP
  clear M0 M1 M2 M3 MP hv
  have hp2 := sput_ok v wp2 _ _ _ _ 1 1 1 1 1 1 1 1 ⟨rfl, rfl, rfl, rfl⟩ (by decide) S2.out (by decide)
  go_wp2_with fail
  refine hp2.mono ?_
  clear hp2
  rintro e w2 ⟨A2, c2, n2, hn2, rfl, hr2, hc2, hm2, hb2⟩
  obtain rfl : n2 = 17 := hn2.symm
  have R2 := hide hr2
  have K2 := hide hb2
  have S22 := hide (S2.out.next hb2)
  have MP2 := (hb2.block _ lbp).trans HMP.out
  have hw2 := hb2.size
  have q4 : w2.cell? ⟨w1.heap.size + 4, 4, none⟩ = some (.slice (some ⟨w1.heap.size + 3, 0, none⟩) 1 1) := cell_of_row _ _ 4 _ _ _ MP2
  have qf4 : w2.frozen? ⟨w1.heap.size + 4, 4, none⟩ = false := frozen_of_row _ _ 4 _ _ MP2
  have lb2 : w1.heap.size + 4 < w2.heap.size := by omega
  clear hn2 hr2 hb2 p0 p1 p2 p3 p4
  go_upto_region 5 with fail
  obtain ⟨v3, hv3⟩ : ∃ z, (w2.setCell ⟨w1.heap.size + 1 + 1 + 1 + 1, 4, none⟩ (.slice (some ⟨w2.heap.size, 0, none⟩) 1 1)).alloc (.cells #[.bool true, .int .i64 9] 61) = z := ⟨_, rfl⟩
  rw [hv3]
  have HMP2 := hide MP2
  have MP3 : v3.heap[w1.heap.size + 4]? = some (.cells #[.int .i64 0, .slice (some ⟨w1.heap.size, 0, none⟩) 1 1, .slice (some ⟨w1.heap.size + 1, 0, none⟩) 1 1, .slice (some ⟨w1.heap.size + 2, 0, none⟩) 1 1, .slice (some ⟨w2.heap.size, 0, none⟩) 1 1] 27) := by rw [← hv3]; exact (Below.heap_alloc _ _ _ (by rw [World.size_setCell]; exact lb2)).trans (heap_setCell_same w2 (w1.heap.size + 4) 4 _ _ _ MP2)
  have MM : v3.heap[w2.heap.size]? = some (.cells #[.bool true, .int .i64 9] 61) := by
    have h := heap_alloc_last (w2.setCell ⟨w1.heap.size + 1 + 1 + 1 + 1, 4, none⟩ (.slice (some ⟨w2.heap.size, 0, none⟩) 1 1)) (.cells #[.bool true, .int .i64 9] 61)
    rw [World.size_setCell, hv3] at h
    exact h
  have K3 := hide (show Below (w1.heap.size + 4) w2 v3 by rw [← hv3]; exact ((Below.refl _ _).setCell (p := ⟨w1.heap.size + 4, 4, none⟩) (Nat.le_refl _) _).alloc (by rw [World.size_setCell]; show w1.heap.size + 4 ≤ w2.heap.size; omega) _)
  have hv3s : w2.heap.size + 1 ≤ v3.heap.size := by rw [← hv3]; simp
  have S3 := hide (show SIn v3 wp3 (some ⟨w1.heap.size, 0, none⟩) (some ⟨w1.heap.size + 1, 0, none⟩) (some ⟨w1.heap.size + 2, 0, none⟩) (some ⟨w2.heap.size, 0, none⟩) from ⟨(rd_low S2.out.own (by omega) (below_trans' K2.out K3.out (by omega)) (by omega)), (rd_low S2.out.vals (by omega) (below_trans' K2.out K3.out (by omega)) (by omega)), (rd_low S2.out.chg (by omega) (below_trans' K2.out K3.out (by omega)) (by omega)), Rd.of_block MM⟩)
  have p0 : v3.cell? ⟨w1.heap.size + 4, 0, none⟩ = some (.int .i64 0) := cell_of_row _ _ 0 _ _ _ MP3
  have p1 : v3.cell? ⟨w1.heap.size + 4, 1, none⟩ = some (.slice (some ⟨w1.heap.size, 0, none⟩) 1 1) := cell_of_row _ _ 1 _ _ _ MP3
  have p2 : v3.cell? ⟨w1.heap.size + 4, 2, none⟩ = some (.slice (some ⟨w1.heap.size + 1, 0, none⟩) 1 1) := cell_of_row _ _ 2 _ _ _ MP3
  have p3 : v3.cell? ⟨w1.heap.size + 4, 3, none⟩ = some (.slice (some ⟨w1.heap.size + 2, 0, none⟩) 1 1) := cell_of_row _ _ 3 _ _ _ MP3
  have p4 : v3.cell? ⟨w1.heap.size + 4, 4, none⟩ = some (.slice (some ⟨w2.heap.size, 0, none⟩) 1 1) := cell_of_row _ _ 4 _ _ _ MP3
  have lbp : w1.heap.size + 4 < v3.heap.size := by omega
  have HMP3 := hide MP3
  have HV3 := hide hv3
  clear MM MP3 MP2 hv3 q4 qf4 lb2 S22 S2
  have hp3 := sput_ok v3 wp3 _ _ _ _ 1 1 1 1 1 1 1 1 ⟨rfl, rfl, rfl, rfl⟩ (by decide) S3.out (by decide)
  go_wp2_with fail
  refine hp3.mono ?_
  clear hp3
  rintro e w3 ⟨A3, c3, n3, hn3, rfl, hr3, hc3, hm3, hb3⟩
  obtain rfl : n3 = 25 := hn3.symm
  have R3 := hide hr3
  have K4 := hide hb3
  have hw3 := hb3.size
  clear hn3 hr3 hb3 p0 p1 p2 p3 p4
  have hg := sget_any w3 A3 (putB wp3) 25 c3 rfl R3.out (by decide)
  rw [show getP (putB wp3) = wp3 by decide +kernel, show getE (putB wp3) = 0 by decide +kernel] at hg
  go_wp2_with fail
  refine hg.mono ?_
  clear hg
  rintro e w4 ⟨no, nv, nc, ni, Go', co, Gv, cv, Gc, cc, Gi, ci, hsl, hno, rfl, hsi, hb4⟩
  obtain rfl : no = 1 := hsl.1.symm
  obtain rfl : nv = 1 := hsl.2.1.symm
  obtain rfl : nc = 1 := hsl.2.2.1.symm
  obtain rfl : ni = 1 := hsl.2.2.2.symm
  have hw4 := hb4.size
  have SG := hide hsi
  have HSL := hide hsl
  have K5 := hide hb4
  clear hsi hb4 hsl hno
  go_upto_region 7 with fail
  obtain ⟨v5, hv5⟩ : ∃ z, w4.alloc (.cells #[.int .i64 wp3.step, .slice Go' 1 co, .slice Gv 1 cv, .slice Gc 1 cc, .slice Gi 1 ci] 27) = z := ⟨_, rfl⟩
  first | rw [hv5] | (have hv5' := hv5; rw [show wp3.step = 0 from rfl] at hv5'; rw [hv5'])
  have hv5s : w4.heap.size + 1 ≤ v5.heap.size := by rw [← hv5]; simp
  have K6 := hide (show Below w4.heap.size w4 v5 by rw [← hv5]; exact (Below.refl _ _).alloc (Nat.le_refl _) _)
  have MG : v5.heap[w4.heap.size]? = some (.cells #[.int .i64 wp3.step, .slice Go' 1 co, .slice Gv 1 cv, .slice Gc 1 cc, .slice Gi 1 ci] 27) := by rw [← hv5]; exact heap_alloc_last _ _
  have K35 := hide (K4.out.trans ((K5.out.mono hw3).trans (K6.out.mono (by omega))))
  have MP5 := (K35.out.block _ lbp).trans HMP3.out
  have p0 : v5.cell? ⟨w1.heap.size + 4, 0, none⟩ = some (.int .i64 0) := cell_of_row _ _ 0 _ _ _ MP5
  have p1 : v5.cell? ⟨w1.heap.size + 4, 1, none⟩ = some (.slice (some ⟨w1.heap.size, 0, none⟩) 1 1) := cell_of_row _ _ 1 _ _ _ MP5
  have p2 : v5.cell? ⟨w1.heap.size + 4, 2, none⟩ = some (.slice (some ⟨w1.heap.size + 1, 0, none⟩) 1 1) := cell_of_row _ _ 2 _ _ _ MP5
  have p3 : v5.cell? ⟨w1.heap.size + 4, 3, none⟩ = some (.slice (some ⟨w1.heap.size + 2, 0, none⟩) 1 1) := cell_of_row _ _ 3 _ _ _ MP5
  have p4 : v5.cell? ⟨w1.heap.size + 4, 4, none⟩ = some (.slice (some ⟨w2.heap.size, 0, none⟩) 1 1) := cell_of_row _ _ 4 _ _ _ MP5
  have g0 : v5.cell? ⟨w4.heap.size, 0, none⟩ = some (.int .i64 0) := cell_of_row _ _ 0 _ _ _ MG
  have g1 : v5.cell? ⟨w4.heap.size, 1, none⟩ = some (.slice Go' 1 co) := cell_of_row _ _ 1 _ _ _ MG
  have g2 : v5.cell? ⟨w4.heap.size, 2, none⟩ = some (.slice Gv 1 cv) := cell_of_row _ _ 2 _ _ _ MG
  have g3 : v5.cell? ⟨w4.heap.size, 3, none⟩ = some (.slice Gc 1 cc) := cell_of_row _ _ 3 _ _ _ MG
  have g4 : v5.cell? ⟨w4.heap.size, 4, none⟩ = some (.slice Gi 1 ci) := cell_of_row _ _ 4 _ _ _ MG
  have lb5 : w1.heap.size + 4 < v5.heap.size := by omega
  have lg5 : w4.heap.size < v5.heap.size := by omega
  have SG5 := hide (SG.out.next K6.out)
  have S35 := hide (S3.out.next K35.out)
  have kk := hide (((K2.out.mono (show w1.heap.size ≤ v.heap.size by omega)).trans (K3.out.mono (show w1.heap.size ≤ w1.heap.size + 4 by omega))).trans (K35.out.mono (show w1.heap.size ≤ v3.heap.size by omega)))
  have R15 : Rd v5 v5.heap.size A1 (u8s (putB wp1)) := by
    intro hn
    obtain ⟨b, off, e, hl, hc⟩ := R1.out hn
    exact ⟨b, off, e, by omega, fun j u hu => (kk.out.cell (p := ⟨b, off + j, none⟩) hl).trans ((KV.out.cell (p := ⟨b, off + j, none⟩) hl).trans (hc j u hu))⟩
  have R25 : Rd v5 v5.heap.size A2 (u8s (putB wp2)) := by
    intro hn
    obtain ⟨b, off, e, hl, hc⟩ := R2.out hn
    have hne : b ≠ w1.heap.size + 4 := by
      rintro rfl
      have h0 := hc 0 (.int .u8 0) rfl
      rw [cell_of_row _ _ _ _ _ _ HMP2.out] at h0
      rcases off with _ | _ | _ | _ | _ | off <;> simp at h0
    exact ⟨b, off, e, by omega, fun j u hu => (K35.out.cell (p := ⟨b, off + j, none⟩) (by show b < _; omega)).trans (by
      rw [← HV3.out]
      exact (World.cell?_alloc_lt _ _ _ (by rw [World.size_setCell]; exact hl)).trans ((World.cell?_setCell_far w2 ⟨w1.heap.size + 4, 4, none⟩ ⟨b, off + j, none⟩ _ (by first | exact hne | exact fun e => hne e.symm)).trans (hc j u hu)))⟩
  have R35 : Rd v5 v5.heap.size A3 (u8s (putB wp3)) := (R3.out.next K5.out).next K6.out
  have k1 := run_string_of (P := Try.prog) v5 30 9 5 A1 c1 _ (putB wp1) Try.underlying30 Try.underlying5 Try.underlying9 R15
  have k1' : (convert 30 9 (.slice A1 6 c1)).run Try.prog v5 = .ok (.string ⟨#[0, 0, 0, 3, 0, 0]⟩) v5 := k1
  have k2 := run_string_of (P := Try.prog) v5 30 9 5 A2 c2 _ (putB wp2) Try.underlying30 Try.underlying5 Try.underlying9 R25
  have k2' : (convert 30 9 (.slice A2 17 c2)).run Try.prog v5 = .ok (.string ⟨#[0, 0, 0, 0, 0, 1, 0, 1, 0, 0, 0, 0, 0, 0, 0, 5, 1]⟩) v5 := k2
  obtain ⟨b3, o3, rfl, l3, hc3'⟩ := R35.at_ (k := 16) (by decide)
  have d16 : v5.cell? ⟨b3, o3 + 16, none⟩ = some (.int .u8 3) := hc3' 16 _ rfl
  have d24 : v5.cell? ⟨b3, o3 + 24, none⟩ = some (.int .u8 9) := hc3' 24 _ rfl
  clear k1 k2 R15 R25 R35 hc3' MG MP5 hv5
  go_wp2_with fail
  have hs := ssame_any v5 wp3 _ _ _ _ 1 1 1 1 1 1 1 1 ⟨rfl, rfl, rfl, rfl⟩ S35.out wp3 Go' Gv Gc Gi 1 1 1 1 co cv cc ci HSL.out SG5.out (by decide) (by decide) (by decide) (by decide)
  rw [show sameS wp3 wp3 = true by decide] at hs
  refine hs.mono ?_
  clear hs
  rintro e w6 ⟨rfl, hb6⟩
  have K7 := hide hb6
  have S36 := hide (S35.out.next hb6)
  have r0 := (hb6.cell (p := ⟨w1.heap.size + 4, 0, none⟩) lb5).trans p0
  have r1 := (hb6.cell (p := ⟨w1.heap.size + 4, 1, none⟩) lb5).trans p1
  have r2 := (hb6.cell (p := ⟨w1.heap.size + 4, 2, none⟩) lb5).trans p2
  have r3 := (hb6.cell (p := ⟨w1.heap.size + 4, 3, none⟩) lb5).trans p3
  have r4 := (hb6.cell (p := ⟨w1.heap.size + 4, 4, none⟩) lb5).trans p4
  have hw6 := hb6.size
  clear hb6 k1' k2' d16 d24 p0 g0 p1 g1 p2 g2 p3 g3 p4 g4
  go_wp2_with fail
  have hr := right_any w6 wp3 _ _ _ _ 1 1 1 1 1 1 1 1 ⟨rfl, rfl, rfl, rfl⟩ (by decide) S36.out
  rw [show rightB wp3 = true by decide] at hr
  refine hr.mono ?_
  clear hr
  rintro e w7 ⟨rfl, hb7⟩
  have KF : Hid (Below w.heap.size w w7) := hide (by
    have a1 := K1.out.trans (KV.out.mono K1.out.size)
    have a2 := a1.trans (K2.out.mono (by have := K1.out.size; omega))
    have a3 := a2.trans (K3.out.mono (by have := K1.out.size; omega))
    have a4 := a3.trans (K35.out.mono (by have := K1.out.size; omega))
    have a5 := a4.trans (K7.out.mono (by have := K1.out.size; omega))
    exact a5.trans (hb7.mono (by have := K1.out.size; omega)))
  clear hb7
  go_wp2
  go_ret
  exact ⟨rfl, KF.out⟩
end Go.Proofs.Ytgfdlllmcbgbcaa
