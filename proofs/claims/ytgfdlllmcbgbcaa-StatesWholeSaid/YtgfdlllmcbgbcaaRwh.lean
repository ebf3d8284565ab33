/- The whole of a state as a part: the document. (printed by gen/rwh.py) -/
import Derived.Test.YtgfdlllmcbgbcaaTkp
namespace Go.Proofs.Ytgfdlllmcbgbcaa
open Go.RowKit
set_option linter.unusedVariables false
set_option linter.unusedSimpArgs false
theorem five_own {w wf : World} {H B : Nat} {T e : TypeId} {s n : Nat} {v : Value} {xs : List Value} (v0 v1 v2 v3 v4 : Value) (hw : w.heap.size ≤ H) (hz : wf.heap[H]? = some (.cells #[.int .i64 0, .slice none 0 0, .slice none 0 0, .slice none 0 0, .slice none 0 0] T)) (hb : Below w.heap.size w wf) (hH : H < B) (hr : wf.ownsRow B e s v n xs) :
    ∃ f, (((((wf.setCell ⟨H, 0, none⟩ v0).setCell ⟨H, 1, none⟩ v1).setCell ⟨H, 2, none⟩ v2).setCell ⟨H, 3, none⟩ v3).setCell ⟨H, 4, none⟩ v4) = f ∧ Below w.heap.size w f ∧ f.heap[H]? = some (.cells #[v0, v1, v2, v3, v4] T) ∧ f.ownsRow B e s v n xs := by
  obtain ⟨f, h1, h2, h3⟩ := five_fin v0 v1 v2 v3 v4 hw hz hb
  refine ⟨f, h1, h2, h3, ?_⟩
  rw [← h1]
  exact ownsRow_setCell_below (a := ⟨H, 4, none⟩) (ownsRow_setCell_below (a := ⟨H, 3, none⟩) (ownsRow_setCell_below (a := ⟨H, 2, none⟩) (ownsRow_setCell_below (a := ⟨H, 1, none⟩) (ownsRow_setCell_below (a := ⟨H, 0, none⟩) hr hH _) hH _) hH _) hH _) hH _
theorem heap_alloc_keep {w : World} {o c : Obj} {b : Nat} (h : w.heap[b]? = some c) : (w.alloc o).heap[b]? = some c := (((Below.refl w.heap.size w).alloc (Nat.le_refl _) o).block b (Array.getElem?_eq_some_iff.1 h).1).trans h
set_option maxRecDepth 100000 in
set_option maxHeartbeats 8000000 in
theorem rwhole_any (w : World) (st sm mo : Int) (A1 A2 A3 : Option Addr) (V n2 n3 c1 c2 c3 : Nat) (hV : V ≤ 512) : Calls Try.prog 48 #[.agg #[.int .i64 st, .slice A1 V c1, .slice A2 n2 c2, .slice A3 n3 c3, .int .i64 sm, .int .i64 mo]] w fun e w' => ∃ A c, e = .returned (.agg #[.int .i64 st, .slice A V c, .slice A1 V c1, .slice A2 n2 c2, .slice A3 n3 c3]) ∧ Rd w' w'.heap.size A (i64s (upto V)) ∧ Below w.heap.size w w' := by
  obtain ⟨a0, a0i, a0z, a0s, a0b⟩ := info_parts (show (Try.prog.info? 3).map (fun i => (i.zero, i.size, i.bytes)) = some (some (.int .i64 0), 1, 8) by kernel_rfl)
  obtain ⟨v0, hu⟩ : ∃ u, (((w.alloc (.cells #[.int .i64 st, .slice A1 V c1, .slice A2 n2 c2, .slice A3 n3 c3, .int .i64 sm, .int .i64 mo] 48)).alloc (.cells #[.int .i64 0, .slice none 0 0, .slice none 0 0, .slice none 0 0, .slice none 0 0] 35)).alloc (.cells #[.int .i64 st, .slice none 0 0, .slice A1 V c1, .slice A2 n2 c2, .slice A3 n3 c3] 35)) = u := ⟨_, rfl⟩
  have hzu : w.heap.size + 1 + 1 < v0.heap.size := by rw [← hu]; simp
  have HBv := hide (show Below w.heap.size w v0 by rw [← hu]; exact (((Below.refl _ _).alloc (Nat.le_refl _) _).alloc (by simp) _).alloc (by simp; omega) _)
  have M0 := hide (show v0.heap[w.heap.size]? = some (Obj.cells #[.int .i64 st, .slice A1 V c1, .slice A2 n2 c2, .slice A3 n3 c3, .int .i64 sm, .int .i64 mo] 48) by rw [← hu]; exact heap_alloc_keep (heap_alloc_keep ((by have h := heap_alloc_last w (.cells #[.int .i64 st, .slice A1 V c1, .slice A2 n2 c2, .slice A3 n3 c3, .int .i64 sm, .int .i64 mo] 48); simpa using h))))
  have M1 := hide (show v0.heap[w.heap.size + 1]? = some (Obj.cells #[.int .i64 0, .slice none 0 0, .slice none 0 0, .slice none 0 0, .slice none 0 0] 35) by rw [← hu]; exact heap_alloc_keep ((by have h := heap_alloc_last (w.alloc (.cells #[.int .i64 st, .slice A1 V c1, .slice A2 n2 c2, .slice A3 n3 c3, .int .i64 sm, .int .i64 mo] 48)) (.cells #[.int .i64 0, .slice none 0 0, .slice none 0 0, .slice none 0 0, .slice none 0 0] 35); simpa using h)))
  have M2 := hide (show v0.heap[w.heap.size + 1 + 1]? = some (Obj.cells #[.int .i64 st, .slice none 0 0, .slice A1 V c1, .slice A2 n2 c2, .slice A3 n3 c3] 35) by rw [← hu]; exact (by have h := heap_alloc_last ((w.alloc (.cells #[.int .i64 st, .slice A1 V c1, .slice A2 n2 c2, .slice A3 n3 c3, .int .i64 sm, .int .i64 mo] 48)).alloc (.cells #[.int .i64 0, .slice none 0 0, .slice none 0 0, .slice none 0 0, .slice none 0 0] 35)) (.cells #[.int .i64 st, .slice none 0 0, .slice A1 V c1, .slice A2 n2 c2, .slice A3 n3 c3] 35); simpa using h))
  have HU := hide hu
  clear hu
  go_enter Try.func48, Try.ntmps48
  go_upto_region 2 with fail
  rw [HU.out]
  go_wp2
  go_loopw [4] (fun v4 wr => ∃ (i : Nat) (A : Option Addr) (c : Nat), i ≤ V ∧ v4 = .int .i64 i ∧ Hid (wr.heap[w.heap.size + 1 + 1]? = some (.cells #[.int .i64 st, .slice A i c, .slice A1 V c1, .slice A2 n2 c2, .slice A3 n3 c3] 35)) ∧ Hid (wr.ownsRow v0.heap.size 3 1 (.slice A i c) i (i64s (upto i))) ∧ Hid (KB [w.heap.size + 1 + 1] v0 wr) ∧ Hid (Below w.heap.size w wr)) (fun v4 _ => V - (intOf v4).toNat)
  case atStart => exact ⟨0, none, 0, by omega, rfl, M2, hide (World.ownsRow_nil _ _ _ _), hide (KB.refl _ _), HBv⟩
  case round =>
    obtain ⟨i, A, c, hi, rfl, HP, HO, HK, HB⟩ := hrel
    have hsz : v0.heap.size ≤ wr.heap.size := HK.out.1
    have lbp := lt_of_block HP.out
    have lw : w.heap.size < wr.heap.size := by omega
    have x1 : wr.cell? ⟨w.heap.size, 1, none⟩ = some (.slice A1 V c1) := (HK.out.cell (p := ⟨w.heap.size, 1, none⟩) (by show w.heap.size < _; omega) (by simp; omega)).trans (cell_of_row _ _ 1 _ _ _ M0.out)
    by_cases hlt : i < V
    · have p1 : wr.cell? ⟨w.heap.size + 1 + 1, 1, none⟩ = some (.slice A i c) := cell_of_row _ _ 1 _ _ _ HP.out
      have hI : (i : Int) < (V : Int) := by omega
      have hI6 : (i : Int) < 600 := by omega
      have hcap := own_cap HO.out
      go_wp2_with (at_builtin; refine wpList_app rfl (.tmp 26) (.tmp 28) 22 rfl v0.heap.size 3 a0 (.int .i64 0) 1 8 Try.underlying22 a0i a0z a0s a0b rfl (by decide) (.slice A i c) i _ rfl (HO.out.alloc _) (wr.heap.size + 1) (some ⟨wr.heap.size, 0, none⟩) 1 1 [.int .i64 (i : Int)] rfl rfl (Rd.new _ _ _ _) (by simp [Value.oneCell']) (by unfold maxLen; omega) (by omega) (by simp; omega) ?_)
      intro A' c' y own hg hat
      have hp1 : y.heap[w.heap.size + 1 + 1]? = some (.cells #[.int .i64 st, .slice A i c, .slice A1 V c1, .slice A2 n2 c2, .slice A3 n3 c3] 35) := (hg.block _ (by simp; omega) (fun e => by have := (HO.out.lt _ e.symm).1; omega)).trans ((Below.heap_alloc _ _ _ (by omega)).trans HP.out)
      have q1 : y.cell? ⟨w.heap.size + 1 + 1, 1, none⟩ = some (.slice A i c) := cell_of_row _ _ 1 _ _ _ hp1
      have qf1 : y.frozen? ⟨w.heap.size + 1 + 1, 1, none⟩ = false := frozen_of_row _ _ 1 _ _ hp1
      have HP2 := hide (heap_setCell_same y (w.heap.size + 1 + 1) 1 _ _ (.slice A' (i + 1) c') hp1)
      have HO2 : Hid ((y.setCell ⟨w.heap.size + 1 + 1, 1, none⟩ (.slice A' (i + 1) c')).ownsRow v0.heap.size 3 1 (.slice A' (i + 1) c') (i + 1) (i64s (upto (i + 1)))) := hide (by rw [upto_snoc, ← i64s_app]; exact ownsRow_setCell_below (a := ⟨w.heap.size + 1 + 1, 1, none⟩) own (by show w.heap.size + 1 + 1 < _; omega) _)
      have HK2 := hide (((HK.out.alloc (.cells #[.int .i64 (i : Int)] 3)).grown hg (fun g e => .inl (HO.out.lt g e).1)).setCell (p := ⟨w.heap.size + 1 + 1, 1, none⟩) (.inr (by simp)) (.slice A' (i + 1) c'))
      have HB2 := hide ((app_below (HB.out.alloc (by omega) _) (HO.out.alloc _) hg (by simp; omega) (by omega)).setCell (p := ⟨w.heap.size + 1 + 1, 1, none⟩) (by show w.heap.size ≤ w.heap.size + 1 + 1; omega) (.slice A' (i + 1) c'))
      clear hp1 own hg hat p1 HP HO HK HB
      go_wp2
      go_roundw
      case rel => exact ⟨i + 1, A', c', by omega, by go_num, HP2, HO2, HK2, HB2⟩
      case measure => simp [intOf]; omega
    · obtain rfl : i = V := by omega
      have ZW : Hid (wr.heap[w.heap.size + 1]? = some (.cells #[.int .i64 0, .slice none 0 0, .slice none 0 0, .slice none 0 0, .slice none 0 0] 35)) := hide ((HK.out.2 _ (by omega) (by simp)).trans M1.out)
      have p0 : wr.cell? ⟨w.heap.size + 1 + 1, 0, none⟩ = some (.int .i64 st) := cell_of_row _ _ 0 _ _ _ HP.out
      have p1 : wr.cell? ⟨w.heap.size + 1 + 1, 1, none⟩ = some (.slice A i c) := cell_of_row _ _ 1 _ _ _ HP.out
      have p2 : wr.cell? ⟨w.heap.size + 1 + 1, 2, none⟩ = some (.slice A1 i c1) := cell_of_row _ _ 2 _ _ _ HP.out
      have p3 : wr.cell? ⟨w.heap.size + 1 + 1, 3, none⟩ = some (.slice A2 n2 c2) := cell_of_row _ _ 3 _ _ _ HP.out
      have p4 : wr.cell? ⟨w.heap.size + 1 + 1, 4, none⟩ = some (.slice A3 n3 c3) := cell_of_row _ _ 4 _ _ _ HP.out
      have z0 : wr.cell? ⟨w.heap.size + 1, 0, none⟩ = some (.int .i64 0) := cell_of_row _ _ 0 _ _ _ ZW.out
      have zf0 : wr.frozen? ⟨w.heap.size + 1, 0, none⟩ = false := frozen_of_row _ _ 0 _ _ ZW.out
      have z1 : wr.cell? ⟨w.heap.size + 1, 1, none⟩ = some (.slice none 0 0) := cell_of_row _ _ 1 _ _ _ ZW.out
      have zf1 : wr.frozen? ⟨w.heap.size + 1, 1, none⟩ = false := frozen_of_row _ _ 1 _ _ ZW.out
      have z2 : wr.cell? ⟨w.heap.size + 1, 2, none⟩ = some (.slice none 0 0) := cell_of_row _ _ 2 _ _ _ ZW.out
      have zf2 : wr.frozen? ⟨w.heap.size + 1, 2, none⟩ = false := frozen_of_row _ _ 2 _ _ ZW.out
      have z3 : wr.cell? ⟨w.heap.size + 1, 3, none⟩ = some (.slice none 0 0) := cell_of_row _ _ 3 _ _ _ ZW.out
      have zf3 : wr.frozen? ⟨w.heap.size + 1, 3, none⟩ = false := frozen_of_row _ _ 3 _ _ ZW.out
      have z4 : wr.cell? ⟨w.heap.size + 1, 4, none⟩ = some (.slice none 0 0) := cell_of_row _ _ 4 _ _ _ ZW.out
      have zf4 : wr.frozen? ⟨w.heap.size + 1, 4, none⟩ = false := frozen_of_row _ _ 4 _ _ ZW.out
      have lh : w.heap.size + 1 < wr.heap.size := by omega
      have lh2 : w.heap.size + 1 < v0.heap.size := by omega
      have HFin := hide (five_own (.int .i64 st) (.slice A i c) (.slice A1 i c1) (.slice A2 n2 c2) (.slice A3 n3 c3) (show w.heap.size ≤ w.heap.size + 1 by omega) ZW.out HB.out lh2 HO.out)
      go_wp2
      obtain ⟨f, hf, hfB, h6, ho⟩ := HFin.out
      rw [hf]
      have y0 : f.cell? ⟨w.heap.size + 1, 0, none⟩ = some (.int .i64 st) := cell_of_row _ _ 0 _ _ _ h6
      have y1 : f.cell? ⟨w.heap.size + 1, 1, none⟩ = some (.slice A i c) := cell_of_row _ _ 1 _ _ _ h6
      have y2 : f.cell? ⟨w.heap.size + 1, 2, none⟩ = some (.slice A1 i c1) := cell_of_row _ _ 2 _ _ _ h6
      have y3 : f.cell? ⟨w.heap.size + 1, 3, none⟩ = some (.slice A2 n2 c2) := cell_of_row _ _ 3 _ _ _ h6
      have y4 : f.cell? ⟨w.heap.size + 1, 4, none⟩ = some (.slice A3 n3 c3) := cell_of_row _ _ 4 _ _ _ h6
      exact bodyPost_ret (v := .agg #[.int .i64 st, .slice A i c, .slice A1 i c1, .slice A2 n2 c2, .slice A3 n3 c3]) (by simp [results, Try.results48, go_sem, y0, y1, y2, y3, y4]) rfl ⟨A, c, rfl, Rd.of_own ho, hfB⟩
end Go.Proofs.Ytgfdlllmcbgbcaa
