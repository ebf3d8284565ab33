/- Lemmas: Pct, Ppv. -/
import Derived.Test.YtihdpfjonkagaaaProg
import Derived.Deep.DeepCutAuto
import Derived.Lib.Hide
import Derived.WalkSpells
import Derived.WalkMore
import Derived.IntWalk
import Derived.Test.YtihdpfjonkagaaaPkWw10
import Derived.Test.YtihdpfjonkagaaaPkWw12
set_option linter.unusedVariables false
set_option linter.unusedSimpArgs false
set_option maxRecDepth 100000
set_option maxHeartbeats 16000000
namespace Go.Proofs.Ytihdpfjonkagaaa
open Go.RowKit
theorem owned_nodup (V n k : Int) : (ownedF V n k).Nodup := by
 unfold ownedF ownUpto
 show List.Pairwise (· ≠ ·) _
 refine List.Pairwise.filter _ ?_
 exact (List.pairwise_map).2 (List.nodup_range.imp (fun h e => h (by omega)))
theorem okFrom_all {V : Int} {es : List Ed} (h : okFrom V es 0 = true) {e : Ed} (he : e ∈ es) : 0 ≤ e.1 ∧ e.1 < V ∧ 0 ≤ e.2.1 ∧ e.2.1 < V ∧ 0 ≤ e.2.2 ∧ e.2.2 < 2147483648 := by
 obtain ⟨i, hi⟩ := List.getElem?_of_mem he
 have hl := (List.getElem?_eq_some_iff.1 hi).1
 unfold okFrom at h
 have h1 := List.all_eq_true.1 h i (by rw [List.mem_range]; omega)
 rw [Nat.zero_add] at h1
 unfold okAt at h1
 rw [hi] at h1
 have h2 : fitsE e V = true := by
  cases hf : fitsE e V with
  | true => rfl
  | false => dsimp only at h1; rw [hf] at h1; simp at h1
 unfold fitsE fitsB at h2
 simp only [Bool.and_eq_true, decide_eq_true_eq] at h2
 omega
theorem checkF_ok {V : Int} {es : List Ed} (h : checkF V es = 0) : 1 ≤ V ∧ V ≤ 512 ∧ es.length ≤ 8192 ∧ okFrom V es 0 = true := by
 unfold checkF at h
 split at h
 ·cases h
 ·split at h
  ·cases h
  ·split at h
   ·exact ⟨by omega, by omega, by omega, ‹_›⟩
   ·cases h
theorem rowsAt_from (own : List Int) (es : List Ed) : rowsAt (fun e : Ed => e.1) own es es.length = own.map (fromF es) := by
 unfold rowsAt; rw [List.take_length]; rfl
theorem rowsAt_to (own : List Int) (es : List Ed) : rowsAt (fun e : Ed => e.2.1) own es es.length = own.map (toF es) := by
 unfold rowsAt; rw [List.take_length]; rfl
def CutBad (w : World) (c : Int) (e : Ending) (w' : World) : Prop := e = .returned (.tuple #[.agg #[.int .i64 0, .int .i64 0, .int .i64 0, .slice none 0 0, .slice none 0 0, .slice none 0 0], .int .i64 c]) ∧ Below w.heap.size w w'
theorem cutErr_ne {V : Int} {es : List Ed} {n k : Int} (h : cutErr V es n k ≠ 0) : (checkF V es ≠ 0 ∧ cutErr V es n k = checkF V es) ∨ (checkF V es = 0 ∧ (n < 1 ∨ 64 < n ∨ k < 0 ∨ n ≤ k) ∧ cutErr V es n k = 2) := by
 unfold cutErr at h ⊢
 by_cases h1 : checkF V es = 0
 ·rw [if_neg (by simp [h1])] at h ⊢
  by_cases h2 : n < 1 ∨ 64 < n ∨ k < 0 ∨ n ≤ k
  ·rw [if_pos h2]; exact .inr ⟨h1, h2, rfl⟩
  ·rw [if_neg h2] at h; exact absurd rfl h
 ·rw [if_pos h1]; exact .inl ⟨h1, rfl⟩
theorem rcut_bad (w : World) (V : Int) (A : Option Addr) (es : List Ed) (L c : Nat) (n k : Int) (hL : es.length = L) (hE : Eds w w.heap.size A es) (hc : L ≤ 9223372036854775807) (hok : cutErr V es n k ≠ 0) :
  Calls Try.prog 16 #[.agg #[.int .i64 V, .slice A L c], .int .i64 n, .int .i64 k] w (CutBad w (cutErr V es n k)) := by
 obtain ⟨u, hu⟩ : ∃ u, (w.alloc (.cells #[.int .i64 V, .slice A L c] 30)).alloc (.cells #[.int .i64 0, .int .i64 0, .int .i64 0, .slice none 0 0, .slice none 0 0, .slice none 0 0] 38) = u := ⟨_, rfl⟩
 have hzu : u.heap.size = w.heap.size + 2 := by rw [← hu]; simp
 have hbu : Below w.heap.size w u := by rw [← hu]; exact ((Below.refl _ _).alloc (Nat.le_refl _) _).alloc (by simp) _
 have GU : Hid (u.heap[w.heap.size]? = some (.cells #[.int .i64 V, .slice A L c] 30)) := hide (by rw [← hu]; exact (Below.heap_alloc _ _ _ (by simp)).trans (heap_alloc_last w _))
 have ZU : Hid (u.heap[w.heap.size + 1]? = some (.cells #[.int .i64 0, .int .i64 0, .int .i64 0, .slice none 0 0, .slice none 0 0, .slice none 0 0] 38)) := hide (by
  rw [← hu]
  have := heap_alloc_last (w.alloc (.cells #[.int .i64 V, .slice A L c] 30)) (.cells #[.int .i64 0, .int .i64 0, .int .i64 0, .slice none 0 0, .slice none 0 0, .slice none 0 0] 38)
  rw [World.size_alloc] at this
  exact this)
 have HL := hide hL
 have HE0 := hide hE
 have HWt := hide hE.wt
 have EU := hide (Eds.next hE hbu)
 have HB := hide hbu
 have HU := hide hu
 have HZu := hide hzu
 have fin : ∀ ws : World, Below u.heap.size u ws → ∃ f, ((((((ws.setCell ⟨w.heap.size + 1, 0, none⟩ (.int .i64 0)).setCell ⟨w.heap.size + 1, 1, none⟩ (.int .i64 0)).setCell ⟨w.heap.size + 1, 2, none⟩ (.int .i64 0)).setCell ⟨w.heap.size + 1, 3, none⟩ (.slice none 0 0)).setCell ⟨w.heap.size + 1, 4, none⟩ (.slice none 0 0)).setCell ⟨w.heap.size + 1, 5, none⟩ (.slice none 0 0)) = f ∧ Below w.heap.size w f ∧ f.heap[w.heap.size + 1]? = some (.cells #[.int .i64 0, .int .i64 0, .int .i64 0, .slice none 0 0, .slice none 0 0, .slice none 0 0] 38) := fun ws hb1 => by
  have hZ := (hb1.block _ (by omega)).trans ZU.out
  have hF0 := hZ
  have hF1 := heap_setCell_same _ (w.heap.size + 1) 0 _ _ (.int .i64 0) hF0
  have hF2 := heap_setCell_same _ (w.heap.size + 1) 1 _ _ (.int .i64 0) hF1
  have hF3 := heap_setCell_same _ (w.heap.size + 1) 2 _ _ (.int .i64 0) hF2
  have hF4 := heap_setCell_same _ (w.heap.size + 1) 3 _ _ (.slice none 0 0) hF3
  have hF5 := heap_setCell_same _ (w.heap.size + 1) 4 _ _ (.slice none 0 0) hF4
  have hF6 := heap_setCell_same _ (w.heap.size + 1) 5 _ _ (.slice none 0 0) hF5
  have hlW : w.heap.size ≤ w.heap.size + 1 := by omega
  exact ⟨_, rfl, (((((((hbu.trans (hb1.mono (by omega))).setCell (p := ⟨w.heap.size + 1, 0, none⟩) hlW (.int .i64 0)).setCell (p := ⟨w.heap.size + 1, 1, none⟩) hlW (.int .i64 0)).setCell (p := ⟨w.heap.size + 1, 2, none⟩) hlW (.int .i64 0)).setCell (p := ⟨w.heap.size + 1, 3, none⟩) hlW (.slice none 0 0)).setCell (p := ⟨w.heap.size + 1, 4, none⟩) hlW (.slice none 0 0)).setCell (p := ⟨w.heap.size + 1, 5, none⟩) hlW (.slice none 0 0)), hF6⟩
 have FIN := hide fin
 clear hu hbu hE hL fin
 rcases cutErr_ne hok with ⟨h1, h2⟩ | ⟨h1, h2, h3⟩
 ·rw [h2]
  obtain ⟨q, hq⟩ : ∃ q, checkF V es = q := ⟨_, rfl⟩
  rw [hq] at h1 ⊢
  have HQ := hide hq
  have hq0 : (q != 0) = true := by simpa using h1
  clear h1 h2 hq hok
  go_enter Try.func16, Try.ntmps16
  go_wp2_with fail
  rw [HU.out]
  refine (rcheck_any u V A es L c HL.out EU.out hc).mono ?_
  rintro e ws ⟨rfl, hb1⟩
  rw [HQ.out]
  have ZW : Hid (ws.heap[w.heap.size + 1]? = some (.cells #[.int .i64 0, .int .i64 0, .int .i64 0, .slice none 0 0, .slice none 0 0, .slice none 0 0] 38)) := hide ((hb1.block _ (by omega)).trans ZU.out)
  have HF := hide (FIN.out ws hb1)
  have z0 : ws.cell? ⟨w.heap.size + 1, 0, none⟩ = some (.int .i64 0) := cell_of_row _ _ 0 _ _ _ ZW.out
  have zf0 : ws.frozen? ⟨w.heap.size + 1, 0, none⟩ = false := frozen_of_row _ _ 0 _ _ ZW.out
  have z1 : ws.cell? ⟨w.heap.size + 1, 1, none⟩ = some (.int .i64 0) := cell_of_row _ _ 1 _ _ _ ZW.out
  have zf1 : ws.frozen? ⟨w.heap.size + 1, 1, none⟩ = false := frozen_of_row _ _ 1 _ _ ZW.out
  have z2 : ws.cell? ⟨w.heap.size + 1, 2, none⟩ = some (.int .i64 0) := cell_of_row _ _ 2 _ _ _ ZW.out
  have zf2 : ws.frozen? ⟨w.heap.size + 1, 2, none⟩ = false := frozen_of_row _ _ 2 _ _ ZW.out
  have z3 : ws.cell? ⟨w.heap.size + 1, 3, none⟩ = some (.slice none 0 0) := cell_of_row _ _ 3 _ _ _ ZW.out
  have zf3 : ws.frozen? ⟨w.heap.size + 1, 3, none⟩ = false := frozen_of_row _ _ 3 _ _ ZW.out
  have z4 : ws.cell? ⟨w.heap.size + 1, 4, none⟩ = some (.slice none 0 0) := cell_of_row _ _ 4 _ _ _ ZW.out
  have zf4 : ws.frozen? ⟨w.heap.size + 1, 4, none⟩ = false := frozen_of_row _ _ 4 _ _ ZW.out
  have z5 : ws.cell? ⟨w.heap.size + 1, 5, none⟩ = some (.slice none 0 0) := cell_of_row _ _ 5 _ _ _ ZW.out
  have zf5 : ws.frozen? ⟨w.heap.size + 1, 5, none⟩ = false := frozen_of_row _ _ 5 _ _ ZW.out
  clear hb1
  go_wp2
  obtain ⟨f, hf, hfB, h6⟩ := HF.out
  rw [hf]
  have y0 : f.cell? ⟨w.heap.size + 1, 0, none⟩ = some (.int .i64 0) := cell_of_row _ _ 0 _ _ _ h6
  have y1 : f.cell? ⟨w.heap.size + 1, 1, none⟩ = some (.int .i64 0) := cell_of_row _ _ 1 _ _ _ h6
  have y2 : f.cell? ⟨w.heap.size + 1, 2, none⟩ = some (.int .i64 0) := cell_of_row _ _ 2 _ _ _ h6
  have y3 : f.cell? ⟨w.heap.size + 1, 3, none⟩ = some (.slice none 0 0) := cell_of_row _ _ 3 _ _ _ h6
  have y4 : f.cell? ⟨w.heap.size + 1, 4, none⟩ = some (.slice none 0 0) := cell_of_row _ _ 4 _ _ _ h6
  have y5 : f.cell? ⟨w.heap.size + 1, 5, none⟩ = some (.slice none 0 0) := cell_of_row _ _ 5 _ _ _ h6
  exact bodyPost_ret (v := .tuple #[.agg #[.int .i64 0, .int .i64 0, .int .i64 0, .slice none 0 0, .slice none 0 0, .slice none 0 0], .int .i64 q]) (by simp [results, Try.results16, go_sem, y0, y1, y2, y3, y4, y5]) rfl ⟨rfl, hfB⟩
 ·rw [h3]
  have HC := hide h1
  have H2 := hide h2
  clear h1 h2 h3 hok
  by_cases a1 : n < 1
  ·go_enter Try.func16, Try.ntmps16
   go_wp2_with fail
   rw [HU.out]
   refine (rcheck_any u V A es L c HL.out EU.out hc).mono ?_
   rintro e ws ⟨rfl, hb1⟩
   rw [HC.out]
   have ZW : Hid (ws.heap[w.heap.size + 1]? = some (.cells #[.int .i64 0, .int .i64 0, .int .i64 0, .slice none 0 0, .slice none 0 0, .slice none 0 0] 38)) := hide ((hb1.block _ (by omega)).trans ZU.out)
   have HF := hide (FIN.out ws hb1)
   have z0 : ws.cell? ⟨w.heap.size + 1, 0, none⟩ = some (.int .i64 0) := cell_of_row _ _ 0 _ _ _ ZW.out
   have zf0 : ws.frozen? ⟨w.heap.size + 1, 0, none⟩ = false := frozen_of_row _ _ 0 _ _ ZW.out
   have z1 : ws.cell? ⟨w.heap.size + 1, 1, none⟩ = some (.int .i64 0) := cell_of_row _ _ 1 _ _ _ ZW.out
   have zf1 : ws.frozen? ⟨w.heap.size + 1, 1, none⟩ = false := frozen_of_row _ _ 1 _ _ ZW.out
   have z2 : ws.cell? ⟨w.heap.size + 1, 2, none⟩ = some (.int .i64 0) := cell_of_row _ _ 2 _ _ _ ZW.out
   have zf2 : ws.frozen? ⟨w.heap.size + 1, 2, none⟩ = false := frozen_of_row _ _ 2 _ _ ZW.out
   have z3 : ws.cell? ⟨w.heap.size + 1, 3, none⟩ = some (.slice none 0 0) := cell_of_row _ _ 3 _ _ _ ZW.out
   have zf3 : ws.frozen? ⟨w.heap.size + 1, 3, none⟩ = false := frozen_of_row _ _ 3 _ _ ZW.out
   have z4 : ws.cell? ⟨w.heap.size + 1, 4, none⟩ = some (.slice none 0 0) := cell_of_row _ _ 4 _ _ _ ZW.out
   have zf4 : ws.frozen? ⟨w.heap.size + 1, 4, none⟩ = false := frozen_of_row _ _ 4 _ _ ZW.out
   have z5 : ws.cell? ⟨w.heap.size + 1, 5, none⟩ = some (.slice none 0 0) := cell_of_row _ _ 5 _ _ _ ZW.out
   have zf5 : ws.frozen? ⟨w.heap.size + 1, 5, none⟩ = false := frozen_of_row _ _ 5 _ _ ZW.out
   clear hb1
   go_wp2
   obtain ⟨f, hf, hfB, h6⟩ := HF.out
   rw [hf]
   have y0 : f.cell? ⟨w.heap.size + 1, 0, none⟩ = some (.int .i64 0) := cell_of_row _ _ 0 _ _ _ h6
   have y1 : f.cell? ⟨w.heap.size + 1, 1, none⟩ = some (.int .i64 0) := cell_of_row _ _ 1 _ _ _ h6
   have y2 : f.cell? ⟨w.heap.size + 1, 2, none⟩ = some (.int .i64 0) := cell_of_row _ _ 2 _ _ _ h6
   have y3 : f.cell? ⟨w.heap.size + 1, 3, none⟩ = some (.slice none 0 0) := cell_of_row _ _ 3 _ _ _ h6
   have y4 : f.cell? ⟨w.heap.size + 1, 4, none⟩ = some (.slice none 0 0) := cell_of_row _ _ 4 _ _ _ h6
   have y5 : f.cell? ⟨w.heap.size + 1, 5, none⟩ = some (.slice none 0 0) := cell_of_row _ _ 5 _ _ _ h6
   exact bodyPost_ret (v := .tuple #[.agg #[.int .i64 0, .int .i64 0, .int .i64 0, .slice none 0 0, .slice none 0 0, .slice none 0 0], .int .i64 2]) (by simp [results, Try.results16, go_sem, y0, y1, y2, y3, y4, y5]) rfl ⟨rfl, hfB⟩
  by_cases a2 : 64 < n
  ·go_enter Try.func16, Try.ntmps16
   go_wp2_with fail
   rw [HU.out]
   refine (rcheck_any u V A es L c HL.out EU.out hc).mono ?_
   rintro e ws ⟨rfl, hb1⟩
   rw [HC.out]
   have ZW : Hid (ws.heap[w.heap.size + 1]? = some (.cells #[.int .i64 0, .int .i64 0, .int .i64 0, .slice none 0 0, .slice none 0 0, .slice none 0 0] 38)) := hide ((hb1.block _ (by omega)).trans ZU.out)
   have HF := hide (FIN.out ws hb1)
   have z0 : ws.cell? ⟨w.heap.size + 1, 0, none⟩ = some (.int .i64 0) := cell_of_row _ _ 0 _ _ _ ZW.out
   have zf0 : ws.frozen? ⟨w.heap.size + 1, 0, none⟩ = false := frozen_of_row _ _ 0 _ _ ZW.out
   have z1 : ws.cell? ⟨w.heap.size + 1, 1, none⟩ = some (.int .i64 0) := cell_of_row _ _ 1 _ _ _ ZW.out
   have zf1 : ws.frozen? ⟨w.heap.size + 1, 1, none⟩ = false := frozen_of_row _ _ 1 _ _ ZW.out
   have z2 : ws.cell? ⟨w.heap.size + 1, 2, none⟩ = some (.int .i64 0) := cell_of_row _ _ 2 _ _ _ ZW.out
   have zf2 : ws.frozen? ⟨w.heap.size + 1, 2, none⟩ = false := frozen_of_row _ _ 2 _ _ ZW.out
   have z3 : ws.cell? ⟨w.heap.size + 1, 3, none⟩ = some (.slice none 0 0) := cell_of_row _ _ 3 _ _ _ ZW.out
   have zf3 : ws.frozen? ⟨w.heap.size + 1, 3, none⟩ = false := frozen_of_row _ _ 3 _ _ ZW.out
   have z4 : ws.cell? ⟨w.heap.size + 1, 4, none⟩ = some (.slice none 0 0) := cell_of_row _ _ 4 _ _ _ ZW.out
   have zf4 : ws.frozen? ⟨w.heap.size + 1, 4, none⟩ = false := frozen_of_row _ _ 4 _ _ ZW.out
   have z5 : ws.cell? ⟨w.heap.size + 1, 5, none⟩ = some (.slice none 0 0) := cell_of_row _ _ 5 _ _ _ ZW.out
   have zf5 : ws.frozen? ⟨w.heap.size + 1, 5, none⟩ = false := frozen_of_row _ _ 5 _ _ ZW.out
   clear hb1
   go_wp2
   obtain ⟨f, hf, hfB, h6⟩ := HF.out
   rw [hf]
   have y0 : f.cell? ⟨w.heap.size + 1, 0, none⟩ = some (.int .i64 0) := cell_of_row _ _ 0 _ _ _ h6
   have y1 : f.cell? ⟨w.heap.size + 1, 1, none⟩ = some (.int .i64 0) := cell_of_row _ _ 1 _ _ _ h6
   have y2 : f.cell? ⟨w.heap.size + 1, 2, none⟩ = some (.int .i64 0) := cell_of_row _ _ 2 _ _ _ h6
   have y3 : f.cell? ⟨w.heap.size + 1, 3, none⟩ = some (.slice none 0 0) := cell_of_row _ _ 3 _ _ _ h6
   have y4 : f.cell? ⟨w.heap.size + 1, 4, none⟩ = some (.slice none 0 0) := cell_of_row _ _ 4 _ _ _ h6
   have y5 : f.cell? ⟨w.heap.size + 1, 5, none⟩ = some (.slice none 0 0) := cell_of_row _ _ 5 _ _ _ h6
   exact bodyPost_ret (v := .tuple #[.agg #[.int .i64 0, .int .i64 0, .int .i64 0, .slice none 0 0, .slice none 0 0, .slice none 0 0], .int .i64 2]) (by simp [results, Try.results16, go_sem, y0, y1, y2, y3, y4, y5]) rfl ⟨rfl, hfB⟩
  have a1' : 1 ≤ n := by omega
  have a2' : n ≤ 64 := by omega
  by_cases a3 : k < 0
  ·go_enter Try.func16, Try.ntmps16
   go_wp2_with fail
   rw [HU.out]
   refine (rcheck_any u V A es L c HL.out EU.out hc).mono ?_
   rintro e ws ⟨rfl, hb1⟩
   rw [HC.out]
   have ZW : Hid (ws.heap[w.heap.size + 1]? = some (.cells #[.int .i64 0, .int .i64 0, .int .i64 0, .slice none 0 0, .slice none 0 0, .slice none 0 0] 38)) := hide ((hb1.block _ (by omega)).trans ZU.out)
   have HF := hide (FIN.out ws hb1)
   have z0 : ws.cell? ⟨w.heap.size + 1, 0, none⟩ = some (.int .i64 0) := cell_of_row _ _ 0 _ _ _ ZW.out
   have zf0 : ws.frozen? ⟨w.heap.size + 1, 0, none⟩ = false := frozen_of_row _ _ 0 _ _ ZW.out
   have z1 : ws.cell? ⟨w.heap.size + 1, 1, none⟩ = some (.int .i64 0) := cell_of_row _ _ 1 _ _ _ ZW.out
   have zf1 : ws.frozen? ⟨w.heap.size + 1, 1, none⟩ = false := frozen_of_row _ _ 1 _ _ ZW.out
   have z2 : ws.cell? ⟨w.heap.size + 1, 2, none⟩ = some (.int .i64 0) := cell_of_row _ _ 2 _ _ _ ZW.out
   have zf2 : ws.frozen? ⟨w.heap.size + 1, 2, none⟩ = false := frozen_of_row _ _ 2 _ _ ZW.out
   have z3 : ws.cell? ⟨w.heap.size + 1, 3, none⟩ = some (.slice none 0 0) := cell_of_row _ _ 3 _ _ _ ZW.out
   have zf3 : ws.frozen? ⟨w.heap.size + 1, 3, none⟩ = false := frozen_of_row _ _ 3 _ _ ZW.out
   have z4 : ws.cell? ⟨w.heap.size + 1, 4, none⟩ = some (.slice none 0 0) := cell_of_row _ _ 4 _ _ _ ZW.out
   have zf4 : ws.frozen? ⟨w.heap.size + 1, 4, none⟩ = false := frozen_of_row _ _ 4 _ _ ZW.out
   have z5 : ws.cell? ⟨w.heap.size + 1, 5, none⟩ = some (.slice none 0 0) := cell_of_row _ _ 5 _ _ _ ZW.out
   have zf5 : ws.frozen? ⟨w.heap.size + 1, 5, none⟩ = false := frozen_of_row _ _ 5 _ _ ZW.out
   clear hb1
   go_wp2
   obtain ⟨f, hf, hfB, h6⟩ := HF.out
   rw [hf]
   have y0 : f.cell? ⟨w.heap.size + 1, 0, none⟩ = some (.int .i64 0) := cell_of_row _ _ 0 _ _ _ h6
   have y1 : f.cell? ⟨w.heap.size + 1, 1, none⟩ = some (.int .i64 0) := cell_of_row _ _ 1 _ _ _ h6
   have y2 : f.cell? ⟨w.heap.size + 1, 2, none⟩ = some (.int .i64 0) := cell_of_row _ _ 2 _ _ _ h6
   have y3 : f.cell? ⟨w.heap.size + 1, 3, none⟩ = some (.slice none 0 0) := cell_of_row _ _ 3 _ _ _ h6
   have y4 : f.cell? ⟨w.heap.size + 1, 4, none⟩ = some (.slice none 0 0) := cell_of_row _ _ 4 _ _ _ h6
   have y5 : f.cell? ⟨w.heap.size + 1, 5, none⟩ = some (.slice none 0 0) := cell_of_row _ _ 5 _ _ _ h6
   exact bodyPost_ret (v := .tuple #[.agg #[.int .i64 0, .int .i64 0, .int .i64 0, .slice none 0 0, .slice none 0 0, .slice none 0 0], .int .i64 2]) (by simp [results, Try.results16, go_sem, y0, y1, y2, y3, y4, y5]) rfl ⟨rfl, hfB⟩
  have a3' : 0 ≤ k := by omega
  have a4 : n ≤ k := by have := H2.out; omega
  go_enter Try.func16, Try.ntmps16
  go_wp2_with fail
  rw [HU.out]
  refine (rcheck_any u V A es L c HL.out EU.out hc).mono ?_
  rintro e ws ⟨rfl, hb1⟩
  rw [HC.out]
  have ZW : Hid (ws.heap[w.heap.size + 1]? = some (.cells #[.int .i64 0, .int .i64 0, .int .i64 0, .slice none 0 0, .slice none 0 0, .slice none 0 0] 38)) := hide ((hb1.block _ (by omega)).trans ZU.out)
  have HF := hide (FIN.out ws hb1)
  have z0 : ws.cell? ⟨w.heap.size + 1, 0, none⟩ = some (.int .i64 0) := cell_of_row _ _ 0 _ _ _ ZW.out
  have zf0 : ws.frozen? ⟨w.heap.size + 1, 0, none⟩ = false := frozen_of_row _ _ 0 _ _ ZW.out
  have z1 : ws.cell? ⟨w.heap.size + 1, 1, none⟩ = some (.int .i64 0) := cell_of_row _ _ 1 _ _ _ ZW.out
  have zf1 : ws.frozen? ⟨w.heap.size + 1, 1, none⟩ = false := frozen_of_row _ _ 1 _ _ ZW.out
  have z2 : ws.cell? ⟨w.heap.size + 1, 2, none⟩ = some (.int .i64 0) := cell_of_row _ _ 2 _ _ _ ZW.out
  have zf2 : ws.frozen? ⟨w.heap.size + 1, 2, none⟩ = false := frozen_of_row _ _ 2 _ _ ZW.out
  have z3 : ws.cell? ⟨w.heap.size + 1, 3, none⟩ = some (.slice none 0 0) := cell_of_row _ _ 3 _ _ _ ZW.out
  have zf3 : ws.frozen? ⟨w.heap.size + 1, 3, none⟩ = false := frozen_of_row _ _ 3 _ _ ZW.out
  have z4 : ws.cell? ⟨w.heap.size + 1, 4, none⟩ = some (.slice none 0 0) := cell_of_row _ _ 4 _ _ _ ZW.out
  have zf4 : ws.frozen? ⟨w.heap.size + 1, 4, none⟩ = false := frozen_of_row _ _ 4 _ _ ZW.out
  have z5 : ws.cell? ⟨w.heap.size + 1, 5, none⟩ = some (.slice none 0 0) := cell_of_row _ _ 5 _ _ _ ZW.out
  have zf5 : ws.frozen? ⟨w.heap.size + 1, 5, none⟩ = false := frozen_of_row _ _ 5 _ _ ZW.out
  clear hb1
  go_wp2
  obtain ⟨f, hf, hfB, h6⟩ := HF.out
  rw [hf]
  have y0 : f.cell? ⟨w.heap.size + 1, 0, none⟩ = some (.int .i64 0) := cell_of_row _ _ 0 _ _ _ h6
  have y1 : f.cell? ⟨w.heap.size + 1, 1, none⟩ = some (.int .i64 0) := cell_of_row _ _ 1 _ _ _ h6
  have y2 : f.cell? ⟨w.heap.size + 1, 2, none⟩ = some (.int .i64 0) := cell_of_row _ _ 2 _ _ _ h6
  have y3 : f.cell? ⟨w.heap.size + 1, 3, none⟩ = some (.slice none 0 0) := cell_of_row _ _ 3 _ _ _ h6
  have y4 : f.cell? ⟨w.heap.size + 1, 4, none⟩ = some (.slice none 0 0) := cell_of_row _ _ 4 _ _ _ h6
  have y5 : f.cell? ⟨w.heap.size + 1, 5, none⟩ = some (.slice none 0 0) := cell_of_row _ _ 5 _ _ _ h6
  exact bodyPost_ret (v := .tuple #[.agg #[.int .i64 0, .int .i64 0, .int .i64 0, .slice none 0 0, .slice none 0 0, .slice none 0 0], .int .i64 2]) (by simp [results, Try.results16, go_sem, y0, y1, y2, y3, y4, y5]) rfl ⟨rfl, hfB⟩
theorem pcut_bad (w : World) (V : Int) (A : Option Addr) (es : List Ed) (L c : Nat) (n k : Int) (hL : es.length = L) (hE : Eds w w.heap.size A es) (hc : L ≤ 9223372036854775807) (hok : cutErr V es n k ≠ 0) :
  Calls Try.prog 15 #[.agg #[.int .i64 V, .slice A L c], .int .i64 n, .int .i64 k] w (CutBad w (cutErr V es n k)) := by
 obtain ⟨u, hu⟩ : ∃ u, (w.alloc (.cells #[.int .i64 V, .slice A L c] 30)).alloc (.cells #[.int .i64 0, .int .i64 0, .int .i64 0, .slice none 0 0, .slice none 0 0, .slice none 0 0] 34) = u := ⟨_, rfl⟩
 have hzu : u.heap.size = w.heap.size + 2 := by rw [← hu]; simp
 have hbu : Below w.heap.size w u := by rw [← hu]; exact ((Below.refl _ _).alloc (Nat.le_refl _) _).alloc (by simp) _
 have GU : Hid (u.heap[w.heap.size]? = some (.cells #[.int .i64 V, .slice A L c] 30)) := hide (by rw [← hu]; exact (Below.heap_alloc _ _ _ (by simp)).trans (heap_alloc_last w _))
 have ZU : Hid (u.heap[w.heap.size + 1]? = some (.cells #[.int .i64 0, .int .i64 0, .int .i64 0, .slice none 0 0, .slice none 0 0, .slice none 0 0] 34)) := hide (by
  rw [← hu]
  have := heap_alloc_last (w.alloc (.cells #[.int .i64 V, .slice A L c] 30)) (.cells #[.int .i64 0, .int .i64 0, .int .i64 0, .slice none 0 0, .slice none 0 0, .slice none 0 0] 34)
  rw [World.size_alloc] at this
  exact this)
 have HL := hide hL
 have HE0 := hide hE
 have HWt := hide hE.wt
 have EU := hide (Eds.next hE hbu)
 have HB := hide hbu
 have HU := hide hu
 have HZu := hide hzu
 have fin : ∀ ws : World, Below u.heap.size u ws → ∃ f, ((((((ws.setCell ⟨w.heap.size + 1, 0, none⟩ (.int .i64 0)).setCell ⟨w.heap.size + 1, 1, none⟩ (.int .i64 0)).setCell ⟨w.heap.size + 1, 2, none⟩ (.int .i64 0)).setCell ⟨w.heap.size + 1, 3, none⟩ (.slice none 0 0)).setCell ⟨w.heap.size + 1, 4, none⟩ (.slice none 0 0)).setCell ⟨w.heap.size + 1, 5, none⟩ (.slice none 0 0)) = f ∧ Below w.heap.size w f ∧ f.heap[w.heap.size + 1]? = some (.cells #[.int .i64 0, .int .i64 0, .int .i64 0, .slice none 0 0, .slice none 0 0, .slice none 0 0] 34) := fun ws hb1 => by
  have hZ := (hb1.block _ (by omega)).trans ZU.out
  have hF0 := hZ
  have hF1 := heap_setCell_same _ (w.heap.size + 1) 0 _ _ (.int .i64 0) hF0
  have hF2 := heap_setCell_same _ (w.heap.size + 1) 1 _ _ (.int .i64 0) hF1
  have hF3 := heap_setCell_same _ (w.heap.size + 1) 2 _ _ (.int .i64 0) hF2
  have hF4 := heap_setCell_same _ (w.heap.size + 1) 3 _ _ (.slice none 0 0) hF3
  have hF5 := heap_setCell_same _ (w.heap.size + 1) 4 _ _ (.slice none 0 0) hF4
  have hF6 := heap_setCell_same _ (w.heap.size + 1) 5 _ _ (.slice none 0 0) hF5
  have hlW : w.heap.size ≤ w.heap.size + 1 := by omega
  exact ⟨_, rfl, (((((((hbu.trans (hb1.mono (by omega))).setCell (p := ⟨w.heap.size + 1, 0, none⟩) hlW (.int .i64 0)).setCell (p := ⟨w.heap.size + 1, 1, none⟩) hlW (.int .i64 0)).setCell (p := ⟨w.heap.size + 1, 2, none⟩) hlW (.int .i64 0)).setCell (p := ⟨w.heap.size + 1, 3, none⟩) hlW (.slice none 0 0)).setCell (p := ⟨w.heap.size + 1, 4, none⟩) hlW (.slice none 0 0)).setCell (p := ⟨w.heap.size + 1, 5, none⟩) hlW (.slice none 0 0)), hF6⟩
 have FIN := hide fin
 clear hu hbu hE hL fin
 rcases cutErr_ne hok with ⟨h1, h2⟩ | ⟨h1, h2, h3⟩
 ·rw [h2]
  obtain ⟨q, hq⟩ : ∃ q, checkF V es = q := ⟨_, rfl⟩
  rw [hq] at h1 ⊢
  have HQ := hide hq
  have hq0 : (q != 0) = true := by simpa using h1
  clear h1 h2 hq hok
  go_enter Try.func15, Try.ntmps15
  go_wp2_with fail
  rw [HU.out]
  refine (check_any u V A es L c HL.out EU.out hc).mono ?_
  rintro e ws ⟨rfl, hb1⟩
  rw [HQ.out]
  have ZW : Hid (ws.heap[w.heap.size + 1]? = some (.cells #[.int .i64 0, .int .i64 0, .int .i64 0, .slice none 0 0, .slice none 0 0, .slice none 0 0] 34)) := hide ((hb1.block _ (by omega)).trans ZU.out)
  have HF := hide (FIN.out ws hb1)
  have z0 : ws.cell? ⟨w.heap.size + 1, 0, none⟩ = some (.int .i64 0) := cell_of_row _ _ 0 _ _ _ ZW.out
  have zf0 : ws.frozen? ⟨w.heap.size + 1, 0, none⟩ = false := frozen_of_row _ _ 0 _ _ ZW.out
  have z1 : ws.cell? ⟨w.heap.size + 1, 1, none⟩ = some (.int .i64 0) := cell_of_row _ _ 1 _ _ _ ZW.out
  have zf1 : ws.frozen? ⟨w.heap.size + 1, 1, none⟩ = false := frozen_of_row _ _ 1 _ _ ZW.out
  have z2 : ws.cell? ⟨w.heap.size + 1, 2, none⟩ = some (.int .i64 0) := cell_of_row _ _ 2 _ _ _ ZW.out
  have zf2 : ws.frozen? ⟨w.heap.size + 1, 2, none⟩ = false := frozen_of_row _ _ 2 _ _ ZW.out
  have z3 : ws.cell? ⟨w.heap.size + 1, 3, none⟩ = some (.slice none 0 0) := cell_of_row _ _ 3 _ _ _ ZW.out
  have zf3 : ws.frozen? ⟨w.heap.size + 1, 3, none⟩ = false := frozen_of_row _ _ 3 _ _ ZW.out
  have z4 : ws.cell? ⟨w.heap.size + 1, 4, none⟩ = some (.slice none 0 0) := cell_of_row _ _ 4 _ _ _ ZW.out
  have zf4 : ws.frozen? ⟨w.heap.size + 1, 4, none⟩ = false := frozen_of_row _ _ 4 _ _ ZW.out
  have z5 : ws.cell? ⟨w.heap.size + 1, 5, none⟩ = some (.slice none 0 0) := cell_of_row _ _ 5 _ _ _ ZW.out
  have zf5 : ws.frozen? ⟨w.heap.size + 1, 5, none⟩ = false := frozen_of_row _ _ 5 _ _ ZW.out
  clear hb1
  go_wp2
  obtain ⟨f, hf, hfB, h6⟩ := HF.out
  rw [hf]
  have y0 : f.cell? ⟨w.heap.size + 1, 0, none⟩ = some (.int .i64 0) := cell_of_row _ _ 0 _ _ _ h6
  have y1 : f.cell? ⟨w.heap.size + 1, 1, none⟩ = some (.int .i64 0) := cell_of_row _ _ 1 _ _ _ h6
  have y2 : f.cell? ⟨w.heap.size + 1, 2, none⟩ = some (.int .i64 0) := cell_of_row _ _ 2 _ _ _ h6
  have y3 : f.cell? ⟨w.heap.size + 1, 3, none⟩ = some (.slice none 0 0) := cell_of_row _ _ 3 _ _ _ h6
  have y4 : f.cell? ⟨w.heap.size + 1, 4, none⟩ = some (.slice none 0 0) := cell_of_row _ _ 4 _ _ _ h6
  have y5 : f.cell? ⟨w.heap.size + 1, 5, none⟩ = some (.slice none 0 0) := cell_of_row _ _ 5 _ _ _ h6
  exact bodyPost_ret (v := .tuple #[.agg #[.int .i64 0, .int .i64 0, .int .i64 0, .slice none 0 0, .slice none 0 0, .slice none 0 0], .int .i64 q]) (by simp [results, Try.results15, go_sem, y0, y1, y2, y3, y4, y5]) rfl ⟨rfl, hfB⟩
 ·rw [h3]
  have HC := hide h1
  have H2 := hide h2
  clear h1 h2 h3 hok
  by_cases a1 : n < 1
  ·go_enter Try.func15, Try.ntmps15
   go_wp2_with fail
   rw [HU.out]
   refine (check_any u V A es L c HL.out EU.out hc).mono ?_
   rintro e ws ⟨rfl, hb1⟩
   rw [HC.out]
   have ZW : Hid (ws.heap[w.heap.size + 1]? = some (.cells #[.int .i64 0, .int .i64 0, .int .i64 0, .slice none 0 0, .slice none 0 0, .slice none 0 0] 34)) := hide ((hb1.block _ (by omega)).trans ZU.out)
   have HF := hide (FIN.out ws hb1)
   have z0 : ws.cell? ⟨w.heap.size + 1, 0, none⟩ = some (.int .i64 0) := cell_of_row _ _ 0 _ _ _ ZW.out
   have zf0 : ws.frozen? ⟨w.heap.size + 1, 0, none⟩ = false := frozen_of_row _ _ 0 _ _ ZW.out
   have z1 : ws.cell? ⟨w.heap.size + 1, 1, none⟩ = some (.int .i64 0) := cell_of_row _ _ 1 _ _ _ ZW.out
   have zf1 : ws.frozen? ⟨w.heap.size + 1, 1, none⟩ = false := frozen_of_row _ _ 1 _ _ ZW.out
   have z2 : ws.cell? ⟨w.heap.size + 1, 2, none⟩ = some (.int .i64 0) := cell_of_row _ _ 2 _ _ _ ZW.out
   have zf2 : ws.frozen? ⟨w.heap.size + 1, 2, none⟩ = false := frozen_of_row _ _ 2 _ _ ZW.out
   have z3 : ws.cell? ⟨w.heap.size + 1, 3, none⟩ = some (.slice none 0 0) := cell_of_row _ _ 3 _ _ _ ZW.out
   have zf3 : ws.frozen? ⟨w.heap.size + 1, 3, none⟩ = false := frozen_of_row _ _ 3 _ _ ZW.out
   have z4 : ws.cell? ⟨w.heap.size + 1, 4, none⟩ = some (.slice none 0 0) := cell_of_row _ _ 4 _ _ _ ZW.out
   have zf4 : ws.frozen? ⟨w.heap.size + 1, 4, none⟩ = false := frozen_of_row _ _ 4 _ _ ZW.out
   have z5 : ws.cell? ⟨w.heap.size + 1, 5, none⟩ = some (.slice none 0 0) := cell_of_row _ _ 5 _ _ _ ZW.out
   have zf5 : ws.frozen? ⟨w.heap.size + 1, 5, none⟩ = false := frozen_of_row _ _ 5 _ _ ZW.out
   clear hb1
   go_wp2_with fail
   refine (may_any _ n).mono ?_
   rintro e ws2 ⟨rfl, rfl⟩
   rw [show mayB n = false by simp [mayB]; omega]
   go_wp2
   obtain ⟨f, hf, hfB, h6⟩ := HF.out
   rw [hf]
   have y0 : f.cell? ⟨w.heap.size + 1, 0, none⟩ = some (.int .i64 0) := cell_of_row _ _ 0 _ _ _ h6
   have y1 : f.cell? ⟨w.heap.size + 1, 1, none⟩ = some (.int .i64 0) := cell_of_row _ _ 1 _ _ _ h6
   have y2 : f.cell? ⟨w.heap.size + 1, 2, none⟩ = some (.int .i64 0) := cell_of_row _ _ 2 _ _ _ h6
   have y3 : f.cell? ⟨w.heap.size + 1, 3, none⟩ = some (.slice none 0 0) := cell_of_row _ _ 3 _ _ _ h6
   have y4 : f.cell? ⟨w.heap.size + 1, 4, none⟩ = some (.slice none 0 0) := cell_of_row _ _ 4 _ _ _ h6
   have y5 : f.cell? ⟨w.heap.size + 1, 5, none⟩ = some (.slice none 0 0) := cell_of_row _ _ 5 _ _ _ h6
   exact bodyPost_ret (v := .tuple #[.agg #[.int .i64 0, .int .i64 0, .int .i64 0, .slice none 0 0, .slice none 0 0, .slice none 0 0], .int .i64 2]) (by simp [results, Try.results15, go_sem, y0, y1, y2, y3, y4, y5]) rfl ⟨rfl, hfB⟩
  by_cases a2 : 64 < n
  ·go_enter Try.func15, Try.ntmps15
   go_wp2_with fail
   rw [HU.out]
   refine (check_any u V A es L c HL.out EU.out hc).mono ?_
   rintro e ws ⟨rfl, hb1⟩
   rw [HC.out]
   have ZW : Hid (ws.heap[w.heap.size + 1]? = some (.cells #[.int .i64 0, .int .i64 0, .int .i64 0, .slice none 0 0, .slice none 0 0, .slice none 0 0] 34)) := hide ((hb1.block _ (by omega)).trans ZU.out)
   have HF := hide (FIN.out ws hb1)
   have z0 : ws.cell? ⟨w.heap.size + 1, 0, none⟩ = some (.int .i64 0) := cell_of_row _ _ 0 _ _ _ ZW.out
   have zf0 : ws.frozen? ⟨w.heap.size + 1, 0, none⟩ = false := frozen_of_row _ _ 0 _ _ ZW.out
   have z1 : ws.cell? ⟨w.heap.size + 1, 1, none⟩ = some (.int .i64 0) := cell_of_row _ _ 1 _ _ _ ZW.out
   have zf1 : ws.frozen? ⟨w.heap.size + 1, 1, none⟩ = false := frozen_of_row _ _ 1 _ _ ZW.out
   have z2 : ws.cell? ⟨w.heap.size + 1, 2, none⟩ = some (.int .i64 0) := cell_of_row _ _ 2 _ _ _ ZW.out
   have zf2 : ws.frozen? ⟨w.heap.size + 1, 2, none⟩ = false := frozen_of_row _ _ 2 _ _ ZW.out
   have z3 : ws.cell? ⟨w.heap.size + 1, 3, none⟩ = some (.slice none 0 0) := cell_of_row _ _ 3 _ _ _ ZW.out
   have zf3 : ws.frozen? ⟨w.heap.size + 1, 3, none⟩ = false := frozen_of_row _ _ 3 _ _ ZW.out
   have z4 : ws.cell? ⟨w.heap.size + 1, 4, none⟩ = some (.slice none 0 0) := cell_of_row _ _ 4 _ _ _ ZW.out
   have zf4 : ws.frozen? ⟨w.heap.size + 1, 4, none⟩ = false := frozen_of_row _ _ 4 _ _ ZW.out
   have z5 : ws.cell? ⟨w.heap.size + 1, 5, none⟩ = some (.slice none 0 0) := cell_of_row _ _ 5 _ _ _ ZW.out
   have zf5 : ws.frozen? ⟨w.heap.size + 1, 5, none⟩ = false := frozen_of_row _ _ 5 _ _ ZW.out
   clear hb1
   go_wp2_with fail
   refine (may_any _ n).mono ?_
   rintro e ws2 ⟨rfl, rfl⟩
   rw [show mayB n = false by simp [mayB]; omega]
   go_wp2
   obtain ⟨f, hf, hfB, h6⟩ := HF.out
   rw [hf]
   have y0 : f.cell? ⟨w.heap.size + 1, 0, none⟩ = some (.int .i64 0) := cell_of_row _ _ 0 _ _ _ h6
   have y1 : f.cell? ⟨w.heap.size + 1, 1, none⟩ = some (.int .i64 0) := cell_of_row _ _ 1 _ _ _ h6
   have y2 : f.cell? ⟨w.heap.size + 1, 2, none⟩ = some (.int .i64 0) := cell_of_row _ _ 2 _ _ _ h6
   have y3 : f.cell? ⟨w.heap.size + 1, 3, none⟩ = some (.slice none 0 0) := cell_of_row _ _ 3 _ _ _ h6
   have y4 : f.cell? ⟨w.heap.size + 1, 4, none⟩ = some (.slice none 0 0) := cell_of_row _ _ 4 _ _ _ h6
   have y5 : f.cell? ⟨w.heap.size + 1, 5, none⟩ = some (.slice none 0 0) := cell_of_row _ _ 5 _ _ _ h6
   exact bodyPost_ret (v := .tuple #[.agg #[.int .i64 0, .int .i64 0, .int .i64 0, .slice none 0 0, .slice none 0 0, .slice none 0 0], .int .i64 2]) (by simp [results, Try.results15, go_sem, y0, y1, y2, y3, y4, y5]) rfl ⟨rfl, hfB⟩
  have a1' : 1 ≤ n := by omega
  have a2' : n ≤ 64 := by omega
  by_cases a3 : k < 0
  ·go_enter Try.func15, Try.ntmps15
   go_wp2_with fail
   rw [HU.out]
   refine (check_any u V A es L c HL.out EU.out hc).mono ?_
   rintro e ws ⟨rfl, hb1⟩
   rw [HC.out]
   have ZW : Hid (ws.heap[w.heap.size + 1]? = some (.cells #[.int .i64 0, .int .i64 0, .int .i64 0, .slice none 0 0, .slice none 0 0, .slice none 0 0] 34)) := hide ((hb1.block _ (by omega)).trans ZU.out)
   have HF := hide (FIN.out ws hb1)
   have z0 : ws.cell? ⟨w.heap.size + 1, 0, none⟩ = some (.int .i64 0) := cell_of_row _ _ 0 _ _ _ ZW.out
   have zf0 : ws.frozen? ⟨w.heap.size + 1, 0, none⟩ = false := frozen_of_row _ _ 0 _ _ ZW.out
   have z1 : ws.cell? ⟨w.heap.size + 1, 1, none⟩ = some (.int .i64 0) := cell_of_row _ _ 1 _ _ _ ZW.out
   have zf1 : ws.frozen? ⟨w.heap.size + 1, 1, none⟩ = false := frozen_of_row _ _ 1 _ _ ZW.out
   have z2 : ws.cell? ⟨w.heap.size + 1, 2, none⟩ = some (.int .i64 0) := cell_of_row _ _ 2 _ _ _ ZW.out
   have zf2 : ws.frozen? ⟨w.heap.size + 1, 2, none⟩ = false := frozen_of_row _ _ 2 _ _ ZW.out
   have z3 : ws.cell? ⟨w.heap.size + 1, 3, none⟩ = some (.slice none 0 0) := cell_of_row _ _ 3 _ _ _ ZW.out
   have zf3 : ws.frozen? ⟨w.heap.size + 1, 3, none⟩ = false := frozen_of_row _ _ 3 _ _ ZW.out
   have z4 : ws.cell? ⟨w.heap.size + 1, 4, none⟩ = some (.slice none 0 0) := cell_of_row _ _ 4 _ _ _ ZW.out
   have zf4 : ws.frozen? ⟨w.heap.size + 1, 4, none⟩ = false := frozen_of_row _ _ 4 _ _ ZW.out
   have z5 : ws.cell? ⟨w.heap.size + 1, 5, none⟩ = some (.slice none 0 0) := cell_of_row _ _ 5 _ _ _ ZW.out
   have zf5 : ws.frozen? ⟨w.heap.size + 1, 5, none⟩ = false := frozen_of_row _ _ 5 _ _ ZW.out
   clear hb1
   go_wp2_with fail
   refine (may_any _ n).mono ?_
   rintro e ws2 ⟨rfl, rfl⟩
   rw [show mayB n = true by simp [mayB]; omega]
   go_wp2
   obtain ⟨f, hf, hfB, h6⟩ := HF.out
   rw [hf]
   have y0 : f.cell? ⟨w.heap.size + 1, 0, none⟩ = some (.int .i64 0) := cell_of_row _ _ 0 _ _ _ h6
   have y1 : f.cell? ⟨w.heap.size + 1, 1, none⟩ = some (.int .i64 0) := cell_of_row _ _ 1 _ _ _ h6
   have y2 : f.cell? ⟨w.heap.size + 1, 2, none⟩ = some (.int .i64 0) := cell_of_row _ _ 2 _ _ _ h6
   have y3 : f.cell? ⟨w.heap.size + 1, 3, none⟩ = some (.slice none 0 0) := cell_of_row _ _ 3 _ _ _ h6
   have y4 : f.cell? ⟨w.heap.size + 1, 4, none⟩ = some (.slice none 0 0) := cell_of_row _ _ 4 _ _ _ h6
   have y5 : f.cell? ⟨w.heap.size + 1, 5, none⟩ = some (.slice none 0 0) := cell_of_row _ _ 5 _ _ _ h6
   exact bodyPost_ret (v := .tuple #[.agg #[.int .i64 0, .int .i64 0, .int .i64 0, .slice none 0 0, .slice none 0 0, .slice none 0 0], .int .i64 2]) (by simp [results, Try.results15, go_sem, y0, y1, y2, y3, y4, y5]) rfl ⟨rfl, hfB⟩
  have a3' : 0 ≤ k := by omega
  have a4 : n ≤ k := by have := H2.out; omega
  go_enter Try.func15, Try.ntmps15
  go_wp2_with fail
  rw [HU.out]
  refine (check_any u V A es L c HL.out EU.out hc).mono ?_
  rintro e ws ⟨rfl, hb1⟩
  rw [HC.out]
  have ZW : Hid (ws.heap[w.heap.size + 1]? = some (.cells #[.int .i64 0, .int .i64 0, .int .i64 0, .slice none 0 0, .slice none 0 0, .slice none 0 0] 34)) := hide ((hb1.block _ (by omega)).trans ZU.out)
  have HF := hide (FIN.out ws hb1)
  have z0 : ws.cell? ⟨w.heap.size + 1, 0, none⟩ = some (.int .i64 0) := cell_of_row _ _ 0 _ _ _ ZW.out
  have zf0 : ws.frozen? ⟨w.heap.size + 1, 0, none⟩ = false := frozen_of_row _ _ 0 _ _ ZW.out
  have z1 : ws.cell? ⟨w.heap.size + 1, 1, none⟩ = some (.int .i64 0) := cell_of_row _ _ 1 _ _ _ ZW.out
  have zf1 : ws.frozen? ⟨w.heap.size + 1, 1, none⟩ = false := frozen_of_row _ _ 1 _ _ ZW.out
  have z2 : ws.cell? ⟨w.heap.size + 1, 2, none⟩ = some (.int .i64 0) := cell_of_row _ _ 2 _ _ _ ZW.out
  have zf2 : ws.frozen? ⟨w.heap.size + 1, 2, none⟩ = false := frozen_of_row _ _ 2 _ _ ZW.out
  have z3 : ws.cell? ⟨w.heap.size + 1, 3, none⟩ = some (.slice none 0 0) := cell_of_row _ _ 3 _ _ _ ZW.out
  have zf3 : ws.frozen? ⟨w.heap.size + 1, 3, none⟩ = false := frozen_of_row _ _ 3 _ _ ZW.out
  have z4 : ws.cell? ⟨w.heap.size + 1, 4, none⟩ = some (.slice none 0 0) := cell_of_row _ _ 4 _ _ _ ZW.out
  have zf4 : ws.frozen? ⟨w.heap.size + 1, 4, none⟩ = false := frozen_of_row _ _ 4 _ _ ZW.out
  have z5 : ws.cell? ⟨w.heap.size + 1, 5, none⟩ = some (.slice none 0 0) := cell_of_row _ _ 5 _ _ _ ZW.out
  have zf5 : ws.frozen? ⟨w.heap.size + 1, 5, none⟩ = false := frozen_of_row _ _ 5 _ _ ZW.out
  clear hb1
  go_wp2_with fail
  refine (may_any _ n).mono ?_
  rintro e ws2 ⟨rfl, rfl⟩
  rw [show mayB n = true by simp [mayB]; omega]
  go_wp2
  obtain ⟨f, hf, hfB, h6⟩ := HF.out
  rw [hf]
  have y0 : f.cell? ⟨w.heap.size + 1, 0, none⟩ = some (.int .i64 0) := cell_of_row _ _ 0 _ _ _ h6
  have y1 : f.cell? ⟨w.heap.size + 1, 1, none⟩ = some (.int .i64 0) := cell_of_row _ _ 1 _ _ _ h6
  have y2 : f.cell? ⟨w.heap.size + 1, 2, none⟩ = some (.int .i64 0) := cell_of_row _ _ 2 _ _ _ h6
  have y3 : f.cell? ⟨w.heap.size + 1, 3, none⟩ = some (.slice none 0 0) := cell_of_row _ _ 3 _ _ _ h6
  have y4 : f.cell? ⟨w.heap.size + 1, 4, none⟩ = some (.slice none 0 0) := cell_of_row _ _ 4 _ _ _ h6
  have y5 : f.cell? ⟨w.heap.size + 1, 5, none⟩ = some (.slice none 0 0) := cell_of_row _ _ 5 _ _ _ h6
  exact bodyPost_ret (v := .tuple #[.agg #[.int .i64 0, .int .i64 0, .int .i64 0, .slice none 0 0, .slice none 0 0, .slice none 0 0], .int .i64 2]) (by simp [results, Try.results15, go_sem, y0, y1, y2, y3, y4, y5]) rfl ⟨rfl, hfB⟩
theorem pcut_ok (w : World) (V : Int) (A : Option Addr) (es : List Ed) (L c : Nat) (n k : Int) (hL : es.length = L) (hE : Eds w w.heap.size A es) (hok : cutErr V es n k = 0) :
  Calls Try.prog 15 #[.agg #[.int .i64 V, .slice A L c], .int .i64 n, .int .i64 k] w (CutOK w V es n k) := by
 obtain ⟨hck, hn1, hn2, hk1, hk2⟩ := cutErr_zero hok
 obtain ⟨hV1, hV2, hc0, hokf⟩ := checkF_ok hck
 rw [hL] at hc0
 have HOK := hide hokf
 obtain ⟨u, hu⟩ : ∃ u, (w.alloc (.cells #[.int .i64 V, .slice A L c] 30)).alloc (.cells #[.int .i64 0, .int .i64 0, .int .i64 0, .slice none 0 0, .slice none 0 0, .slice none 0 0] 34) = u := ⟨_, rfl⟩
 have hzu : u.heap.size = w.heap.size + 2 := by rw [← hu]; simp
 have hbu : Below w.heap.size w u := by rw [← hu]; exact ((Below.refl _ _).alloc (Nat.le_refl _) _).alloc (by simp) _
 have GU : Hid (u.heap[w.heap.size]? = some (.cells #[.int .i64 V, .slice A L c] 30)) := hide (by rw [← hu]; exact (Below.heap_alloc _ _ _ (by simp)).trans (heap_alloc_last w _))
 have ZU : Hid (u.heap[w.heap.size + 1]? = some (.cells #[.int .i64 0, .int .i64 0, .int .i64 0, .slice none 0 0, .slice none 0 0, .slice none 0 0] 34)) := hide (by
  rw [← hu]
  have := heap_alloc_last (w.alloc (.cells #[.int .i64 V, .slice A L c] 30)) (.cells #[.int .i64 0, .int .i64 0, .int .i64 0, .slice none 0 0, .slice none 0 0, .slice none 0 0] 34)
  rw [World.size_alloc] at this
  exact this)
 have HL := hide hL
 have HE0 := hide hE
 have HWt := hide hE.wt
 have EU := hide (Eds.next hE hbu)
 have HB := hide hbu
 have HU := hide hu
 have HZu := hide hzu
 have HCK := hide hck
 have hnn1 : 1 ≤ n := hn1
 have hmay : mayB n = true := by simp [mayB]; omega
 have HMay := hide hmay
 clear hu hzu hbu hE hL hck hok hokf hmay
 go_enter Try.func15, Try.ntmps15
 go_wp2_with fail
 rw [HU.out]
 refine (check_any u V A es L c HL.out EU.out (by omega)).mono ?_
 rintro e ws ⟨rfl, hb1⟩
 rw [HCK.out]
 have HB1 : Hid (Below w.heap.size w ws) := hide (HB.out.trans (hb1.mono (by have := HZu.out; omega)))
 have GW : Hid (ws.heap[w.heap.size]? = some (.cells #[.int .i64 V, .slice A L c] 30)) := hide ((hb1.block _ (by have := HZu.out; omega)).trans GU.out)
 have ZW : Hid (ws.heap[w.heap.size + 1]? = some (.cells #[.int .i64 0, .int .i64 0, .int .i64 0, .slice none 0 0, .slice none 0 0, .slice none 0 0] 34)) := hide ((hb1.block _ (by have := HZu.out; omega)).trans ZU.out)
 have hb1s : w.heap.size + 2 ≤ ws.heap.size := by have := hb1.size; have := HZu.out; omega
 have g0 : ws.cell? ⟨w.heap.size, 0, none⟩ = some (.int .i64 V) := cell_of_row _ _ 0 _ _ _ GW.out
 have gl : w.heap.size < ws.heap.size := by omega
 clear hb1
 go_wp2_with fail
 refine (may_any _ n).mono ?_
 rintro e ws2 ⟨rfl, rfl⟩
 obtain ⟨ws, rfl⟩ : ∃ x : World, x = ws2 := ⟨_, rfl⟩
 rw [HMay.out]
 go_upto_region 6 with fail
 go_cut [9] (fun v9 wc => Hid (CutMid w V A L c 34 n k v9 wc))
 case first =>
  refine wpL_region (S := Kept ws) [11] (by kernel_rfl) (Kept.drew ws) (fun hS0 => ?_)
  refine tl 0 29 ?_ ?_ ?_; rotate_left; (focus (intro w h; go_simp; (try with_reducible rfl))); (try simp only [xd, xe, xf])
  refine tl 1 30 ?_ ?_ ?_; rotate_left; (focus (intro w h; go_simp; (try with_reducible rfl))); (try simp only [xd, xe, xf])
  refine tl 2 31 ?_ ?_ ?_; rotate_left; (focus (intro w h; go_simp; (try with_reducible rfl))); (try simp only [xd, xe, xf])
  refine tl 3 32 ?_ ?_ ?_; rotate_left; (focus (intro w h; go_simp; (try with_reducible rfl))); (try simp only [xd, xe, xf])
  refine tl 4 33 ?_ ?_ ?_; rotate_left; (focus (intro w h; go_simp; (try with_reducible rfl))); (try simp only [xd, xe, xf])
  refine tl 5 34 ?_ ?_ ?_; rotate_left; (focus (intro w h; go_simp; (try with_reducible rfl))); (try simp only [xd, xe, xf])
  refine tl 6 35 ?_ ?_ ?_; rotate_left; (focus (intro w h; go_simp; (try with_reducible rfl))); (try simp only [xd, xe, xf])
  refine tl 7 36 ?_ ?_ ?_; rotate_left; (focus (intro w h; go_simp; (try with_reducible rfl))); (try simp only [xd, xe, xf])
  refine call2L_at (i := 8) (j := 10) (by simp only [xa, xb, xc]; rfl) (by simp only [xa, xb, xc]; rfl) (by kernel_rfl) rfl rfl (fun K hK => ?_) (fun K hK => ?_)
  ·go_simp
   refine (owned_any _ V n k).mono ?_
   rintro e z1 ⟨Ao, co, rfl, ho, hz⟩
   obtain ⟨m, hm⟩ : ∃ m, (ownedF V n k).length = m := ⟨_, rfl⟩
   rw [hm] at ho ⊢
   have hS1 : Kept ws z1 := hS0.below (by simp) hz
   have HO := hide ho
   have HZ := hide hz
   have HM := hide hm
   clear ho hz hm
   go_wp2_with fail
   refine hK.out _ _ hS1 (fun hSn => ?_)
   clear hK K
   try simp only [xd, xe, xf]
   refine tl 9 38 ?_ ?_ ?_; rotate_left; (focus (intro w h; go_simp; (try with_reducible rfl))); (try simp only [xd, xe, xf])
   refine callL_at (i := 10) (d := 9) (by simp only [xa, xb, xc]; rfl) rfl (by kernel_rfl) rfl (fun K hK => ?_)
   go_simp
   have hS2 : Kept ws (z1.alloc (.cells #[.int .i64 0, .int .i64 0, .int .i64 0, .slice none 0 0, .slice none 0 0, .slice none 0 0] 34)) := fun p hp => (World.cell?_alloc_lt _ _ _ (by have := HZ.out.size; simp at this; omega)).trans (hS1 p hp)
   refine hK.out _ _ hS2 (fun hSn => ?_)
   clear hK K
   try simp only [xd, xe, xf]
   refine exL_at (i := 11) (by simp only [xa, xb, xc]; rfl) (by kernel_rfl) rfl (by kernel_rfl) (fun K hK => ?_)
   go_wp2_with fail
   refine hK.out _ _ ?_
   clear hK K
   try simp only [xd, xe, xf]
   refine wpAnyL_done (by kernel_rfl) ?_ _
   clear hS0 hS1 hS2 hSn
   have HFin : Hid (CutMid w V A L c 34 n k (.pointer (some ⟨z1.heap.size, 0, none⟩)) (z1.alloc (.cells #[.int .i64 k, .int .i64 n, .int .i64 V, .slice Ao m co, .slice none 0 0, .slice none 0 0] 34))) := hide (by
     have hzs := HZ.out.size
     simp at hzs
     refine ⟨z1.heap.size, m, Ao, co, rfl, by omega, by simp, HM.out, heap_alloc_last _ _, ?_, ?_, own_base ((HO.out).alloc _) (by simp; omega), ?_⟩
     ·exact (Below.heap_alloc _ _ _ (by omega)).trans ((HZ.out.block _ (by simp; omega)).trans GW.out)
     ·exact (Below.heap_alloc _ _ _ (by omega)).trans ((HZ.out.block _ (by simp; omega)).trans ZW.out)
     ·exact (HB1.out.drew.trans (HZ.out.mono (by simp; omega))).alloc (by omega) _)
   go_wp2
   go_meet
   case rel => exact HFin
  ·go_simp
   have hS1 : Kept ws (ws.drew.alloc (.cells #[.int .i64 0, .int .i64 0, .int .i64 0, .slice none 0 0, .slice none 0 0, .slice none 0 0] 34)) := fun p hp => (World.cell?_alloc_lt _ _ _ hp)
   refine hK.out _ _ hS1 (fun hSn => ?_)
   clear hK K
   try simp only [xd, xe, xf]
   refine callL_at (i := 8) (d := 37) (by simp only [xa, xb, xc]; rfl) rfl (by kernel_rfl) rfl (fun K hK => ?_)
   go_simp
   refine (owned_any _ V n k).mono ?_
   rintro e z1 ⟨Ao, co, rfl, ho, hz⟩
   obtain ⟨m, hm⟩ : ∃ m, (ownedF V n k).length = m := ⟨_, rfl⟩
   rw [hm] at ho ⊢
   have hS2 : Kept ws z1 := hS1.below (by simp) hz
   have HO := hide ho
   have HZ := hide hz
   have HM := hide hm
   clear ho hz hm
   go_wp2_with fail
   refine hK.out _ _ hS2 (fun hSn => ?_)
   clear hK K
   try simp only [xd, xe, xf]
   refine tl 9 38 ?_ ?_ ?_; rotate_left; (focus (intro w h; go_simp; (try with_reducible rfl))); (try simp only [xd, xe, xf])
   refine exL_at (i := 11) (by simp only [xa, xb, xc]; rfl) (by kernel_rfl) rfl (by kernel_rfl) (fun K hK => ?_)
   have cP : z1.heap[ws.heap.size]? = some (.cells #[.int .i64 0, .int .i64 0, .int .i64 0, .slice none 0 0, .slice none 0 0, .slice none 0 0] 34) := (HZ.out.block _ (by simp)).trans (heap_alloc_last ws.drew _)
   have cp0 : z1.cell? ⟨ws.heap.size, 0, none⟩ = some (.int .i64 0) := cell_of_row _ _ 0 _ _ _ cP
   have cf0 : z1.frozen? ⟨ws.heap.size, 0, none⟩ = false := frozen_of_row _ _ 0 _ _ cP
   have cp1 : z1.cell? ⟨ws.heap.size, 1, none⟩ = some (.int .i64 0) := cell_of_row _ _ 1 _ _ _ cP
   have cf1 : z1.frozen? ⟨ws.heap.size, 1, none⟩ = false := frozen_of_row _ _ 1 _ _ cP
   have cp2 : z1.cell? ⟨ws.heap.size, 2, none⟩ = some (.int .i64 0) := cell_of_row _ _ 2 _ _ _ cP
   have cf2 : z1.frozen? ⟨ws.heap.size, 2, none⟩ = false := frozen_of_row _ _ 2 _ _ cP
   have cp3 : z1.cell? ⟨ws.heap.size, 3, none⟩ = some (.slice none 0 0) := cell_of_row _ _ 3 _ _ _ cP
   have cf3 : z1.frozen? ⟨ws.heap.size, 3, none⟩ = false := frozen_of_row _ _ 3 _ _ cP
   have cp4 : z1.cell? ⟨ws.heap.size, 4, none⟩ = some (.slice none 0 0) := cell_of_row _ _ 4 _ _ _ cP
   have cf4 : z1.frozen? ⟨ws.heap.size, 4, none⟩ = false := frozen_of_row _ _ 4 _ _ cP
   have cp5 : z1.cell? ⟨ws.heap.size, 5, none⟩ = some (.slice none 0 0) := cell_of_row _ _ 5 _ _ _ cP
   have cf5 : z1.frozen? ⟨ws.heap.size, 5, none⟩ = false := frozen_of_row _ _ 5 _ _ cP
   have CP := hide cP
   clear cP
   go_wp2_with fail
   refine hK.out _ _ ?_
   clear hK K cp0 cf0 cp1 cf1 cp2 cf2 cp3 cf3 cp4 cf4 cp5 cf5
   try simp only [xd, xe, xf]
   refine wpAnyL_done (by kernel_rfl) ?_ _
   clear hS0 hS1 hS2 hSn
   have HFin : Hid (CutMid w V A L c 34 n k (.pointer (some ⟨ws.heap.size, 0, none⟩)) ((((((z1.setCell ⟨ws.heap.size, 0, none⟩ (.int .i64 k)).setCell ⟨ws.heap.size, 1, none⟩ (.int .i64 n)).setCell ⟨ws.heap.size, 2, none⟩ (.int .i64 V)).setCell ⟨ws.heap.size, 3, none⟩ (.slice Ao m co)).setCell ⟨ws.heap.size, 4, none⟩ (.slice none 0 0)).setCell ⟨ws.heap.size, 5, none⟩ (.slice none 0 0))) := hide (by
     have hzs := HZ.out.size
     simp at hzs
     have e1 := heap_setCell_same z1 ws.heap.size 0 _ _ (.int .i64 k) CP.out
     have e2 := heap_setCell_same _ ws.heap.size 1 _ _ (.int .i64 n) e1
     have e3 := heap_setCell_same _ ws.heap.size 2 _ _ (.int .i64 V) e2
     have e4 := heap_setCell_same _ ws.heap.size 3 _ _ (.slice Ao m co) e3
     have e5 := heap_setCell_same _ ws.heap.size 4 _ _ (.slice none 0 0) e4
     have e6 := heap_setCell_same _ ws.heap.size 5 _ _ (.slice none 0 0) e5
     have o1 : z1.ownsRow (ws.heap.size + 1) 3 1 (.slice Ao m co) m ((ownedF V n k).map (Value.int .i64)) := by have := HO.out; simp at this; exact this
     have o2 := fun (w : World) (h : w.ownsRow (ws.heap.size + 1) 3 1 (.slice Ao m co) m ((ownedF V n k).map (Value.int .i64))) (i : Nat) (u : Value) => ownsRow_setCell_below h (a := ⟨ws.heap.size, i, none⟩) (by simp) u
     refine ⟨ws.heap.size, m, Ao, co, rfl, by omega, by simp only [World.size_setCell]; omega, HM.out, e6, ?_, ?_, own_base (o2 _ (o2 _ (o2 _ (o2 _ (o2 _ (o2 _ o1 _ _) _ _) _ _) _ _) _ _) _ _) (by omega), ?_⟩
     ·iterate 6 rw [Below.heap_setCell _ _ _ _ (by show w.heap.size ≠ ws.heap.size; omega)]
      exact (HZ.out.block _ (by simp; omega)).trans ((Below.heap_alloc _ _ _ (by show _ < ws.heap.size; omega)).trans GW.out)
     ·iterate 6 rw [Below.heap_setCell _ _ _ _ (by show w.heap.size + 1 ≠ ws.heap.size; omega)]
      exact (HZ.out.block _ (by simp; omega)).trans ((Below.heap_alloc _ _ _ (by show _ < ws.heap.size; omega)).trans ZW.out)
     ·have b0 := (HB1.out.drew.alloc (by simp; omega) (.cells #[.int .i64 0, .int .i64 0, .int .i64 0, .slice none 0 0, .slice none 0 0, .slice none 0 0] 34)).trans (HZ.out.mono (by simp; omega))
      exact (((((b0.setCell (p := ⟨ws.heap.size, 0, none⟩) (by simp; omega) _).setCell (p := ⟨ws.heap.size, 1, none⟩) (by simp; omega) _).setCell (p := ⟨ws.heap.size, 2, none⟩) (by simp; omega) _).setCell (p := ⟨ws.heap.size, 3, none⟩) (by simp; omega) _).setCell (p := ⟨ws.heap.size, 4, none⟩) (by simp; omega) _).setCell (p := ⟨ws.heap.size, 5, none⟩) (by simp; omega) _)
   go_wp2
   go_meet
   case rel => exact HFin
 case rest =>
  clear g0 gl hb1s GW ZW HB1
  obtain ⟨bp, m, Ao, co, rfl, hbp1, hbp2, hm, hCP, hGB, hZB, hO, hBw⟩ := hcut.out
  obtain ⟨v, rfl⟩ : ∃ v, v = wc := ⟨_, rfl⟩
  have HM := hide hm
  have hm512 : m ≤ 512 := by rw [← hm]; exact owned_le V n k
  have HRO : Hid (Rd v v.heap.size Ao ((ownedF V n k).map (Value.int .i64))) := hide (Rd.of_own hO)
  have HOX := hide (own_ne hO hCP (show 3 ≠ 34 by decide))
  have x0 : v.cell? ⟨w.heap.size, 0, none⟩ = some (.int .i64 V) := cell_of_row _ _ 0 _ _ _ hGB
  have x1 : v.cell? ⟨w.heap.size, 1, none⟩ = some (.slice A L c) := cell_of_row _ _ 1 _ _ _ hGB
  have g3 : v.cell? ⟨bp, 3, none⟩ = some (.slice Ao m co) := cell_of_row _ _ 3 _ _ _ hCP
  have HEv : Hid (Eds v v.heap.size A es) := hide (Els.more (HE0.out.below hBw (Nat.le_refl _)) (by omega))
  have GB := hide hGB
  have ZB := hide hZB
  have HO := hide hO
  have HBw := hide hBw
  have CP := hide hCP
  have hwv : w.heap.size + 3 ≤ v.heap.size := by omega
  have HBD := hide (show ∀ x ∈ ownedF V n k, (-9223372036854775808 : Int) ≤ x ∧ x ≤ 9223372036854775807 from fun x hx => by
   obtain ⟨j, hj⟩ := List.getElem?_of_mem hx
   have := owned_nn hj
   omega)
  clear hm hGB hZB hO hBw hCP hcut
  go_wp2_with fail
  refine (rowsFrom_any v V A Ao es (ownedF V n k) L c m co HL.out HEv.out hc0 HM.out HRO.out hm512 (owned_nodup V n k) HBD.out (fun e he => by have := okFrom_all HOK.out he; omega)).mono ?_
  rintro e y1 ⟨Au, cu, hu, rfl, hRu, hb1⟩
  rw [rowsAt_from] at hRu
  have hl1 := hb1.size
  have CP1 : y1.heap[bp]? = some (.cells #[.int .i64 k, .int .i64 n, .int .i64 V, .slice Ao m co, .slice none 0 0, .slice none 0 0] 34) := (hb1.block bp (by omega)).trans CP.out
  have q1 : y1.cell? ⟨bp, 4, none⟩ = some (.slice none 0 0) := cell_of_row _ _ 4 _ _ _ CP1
  have qf : y1.frozen? ⟨bp, 4, none⟩ = false := frozen_of_row _ _ 4 _ _ CP1
  have CQ := heap_setCell_same y1 bp 4 _ _ (.slice Au m cu) CP1
  obtain ⟨z, hz⟩ : ∃ z, y1.setCell ⟨bp, 4, none⟩ (.slice Au m cu) = z := ⟨_, rfl⟩
  have hbz : Below w.heap.size w z := by rw [← hz]; exact (HBw.out.trans (hb1.mono (by omega))).setCell (by show w.heap.size ≤ bp; omega) _
  have hKz : KB [bp] v z := by rw [← hz]; exact ((KB.refl [bp] v).below hb1 (Nat.le_refl _)).setCell (.inr (by simp)) _
  have hRz : ORows z v.heap.size Au cu hu ((ownedF V n k).map (fromF es)) := by rw [← hz]; exact hRu.setCell hbp2 _
  rw [hz] at CQ
  have HZE := hide hz
  have hX : w.heap.size ∉ [bp] := by simp; omega
  have x0 : z.cell? ⟨w.heap.size, 0, none⟩ = some (.int .i64 V) := (hKz.cell (p := ⟨w.heap.size, 0, none⟩) (by show w.heap.size < _; omega) hX).trans x0
  have x1 : z.cell? ⟨w.heap.size, 1, none⟩ = some (.slice A L c) := (hKz.cell (p := ⟨w.heap.size, 1, none⟩) (by show w.heap.size < _; omega) hX).trans x1
  have g3 : z.cell? ⟨bp, 3, none⟩ = some (.slice Ao m co) := cell_of_row _ _ 3 _ _ _ CQ
  have hzs := hKz.1
  have HKz := hide hKz
  have HOz : Hid (z.ownsRow (w.heap.size + 2) 3 1 (.slice Ao m co) m ((ownedF V n k).map (Value.int .i64))) := hide (hKz.own HO.out (fun g hg => by have := HOX.out g hg; simpa using this))
  have HRz := hide hRz
  have HCQ := hide CQ
  have HBz := hide hbz
  have HEz : Hid (Eds z z.heap.size A es) := hide (Els.more (HE0.out.below hbz (Nat.le_refl _)) (by omega))
  clear hRu hb1 CP1 CQ hz hbz hKz hRz hX
  go_upto_region 8 with fail
  rw [HZE.out]
  go_wp2_with fail
  refine (rowsTo_any z V A Ao es (ownedF V n k) L c m co HL.out HEz.out hc0 HM.out (Rd.of_own HOz.out) hm512 (owned_nodup V n k) HBD.out (fun e he => by have := okFrom_all HOK.out he; omega)).mono ?_
  rintro e y2 ⟨Ab, cb, hb, rfl, hRb, hb2⟩
  rw [rowsAt_to] at hRb
  have hl2 := hb2.size
  have CP2 := (hb2.block bp (by omega)).trans HCQ.out
  have q2 : y2.cell? ⟨bp, 5, none⟩ = some (.slice none 0 0) := cell_of_row _ _ 5 _ _ _ CP2
  have qf2 : y2.frozen? ⟨bp, 5, none⟩ = false := frozen_of_row _ _ 5 _ _ CP2
  have CQ2 := heap_setCell_same y2 bp 5 _ _ (.slice Ab m cb) CP2
  obtain ⟨x, hx⟩ : ∃ x, y2.setCell ⟨bp, 5, none⟩ (.slice Ab m cb) = x := ⟨_, rfl⟩
  have hbx : Below w.heap.size w x := by rw [← hx]; exact (HBz.out.trans (hb2.mono (by omega))).setCell (by show w.heap.size ≤ bp; omega) _
  have hKx : KB [bp] z x := by rw [← hx]; exact ((KB.refl [bp] z).below hb2 (Nat.le_refl _)).setCell (.inr (by simp)) _
  have hRux : ORows x v.heap.size Au cu hu ((ownedF V n k).map (fromF es)) := by rw [← hx]; exact (HRz.out.below hb2 (Nat.le_refl _)).setCell hbp2 _
  have hRbx : ORows x z.heap.size Ab cb hb ((ownedF V n k).map (toF es)) := by rw [← hx]; exact hRb.setCell (by show bp < z.heap.size; omega) _
  have hOx : x.ownsRow (w.heap.size + 2) 3 1 (.slice Ao m co) m ((ownedF V n k).map (Value.int .i64)) := hKx.own HOz.out (fun g hg => by have := HOX.out g hg; simpa using this)
  rw [hx] at CQ2
  have hwX : w.heap.size + 1 ∉ [bp] := by simp; omega
  have hZ : x.heap[w.heap.size + 1]? = some (.cells #[.int .i64 0, .int .i64 0, .int .i64 0, .slice none 0 0, .slice none 0 0, .slice none 0 0] 34) := (hKx.2 _ (by omega) hwX).trans ((HKz.out.2 _ (by omega) hwX).trans ZB.out)
  have HXE := hide hx
  have r0 : x.cell? ⟨bp, 0, none⟩ = some (.int .i64 k) := cell_of_row _ _ 0 _ _ _ CQ2
  have r1 : x.cell? ⟨bp, 1, none⟩ = some (.int .i64 n) := cell_of_row _ _ 1 _ _ _ CQ2
  have r2 : x.cell? ⟨bp, 2, none⟩ = some (.int .i64 V) := cell_of_row _ _ 2 _ _ _ CQ2
  have r3 : x.cell? ⟨bp, 3, none⟩ = some (.slice Ao m co) := cell_of_row _ _ 3 _ _ _ CQ2
  have r4 : x.cell? ⟨bp, 4, none⟩ = some (.slice Au m cu) := cell_of_row _ _ 4 _ _ _ CQ2
  have r5 : x.cell? ⟨bp, 5, none⟩ = some (.slice Ab m cb) := cell_of_row _ _ 5 _ _ _ CQ2
  have s0 : x.cell? ⟨w.heap.size + 1, 0, none⟩ = some (.int .i64 0) := cell_of_row _ _ 0 _ _ _ hZ
  have sf0 : x.frozen? ⟨w.heap.size + 1, 0, none⟩ = false := frozen_of_row _ _ 0 _ _ hZ
  have s1 : x.cell? ⟨w.heap.size + 1, 1, none⟩ = some (.int .i64 0) := cell_of_row _ _ 1 _ _ _ hZ
  have sf1 : x.frozen? ⟨w.heap.size + 1, 1, none⟩ = false := frozen_of_row _ _ 1 _ _ hZ
  have s2 : x.cell? ⟨w.heap.size + 1, 2, none⟩ = some (.int .i64 0) := cell_of_row _ _ 2 _ _ _ hZ
  have sf2 : x.frozen? ⟨w.heap.size + 1, 2, none⟩ = false := frozen_of_row _ _ 2 _ _ hZ
  have s3 : x.cell? ⟨w.heap.size + 1, 3, none⟩ = some (.slice none 0 0) := cell_of_row _ _ 3 _ _ _ hZ
  have sf3 : x.frozen? ⟨w.heap.size + 1, 3, none⟩ = false := frozen_of_row _ _ 3 _ _ hZ
  have s4 : x.cell? ⟨w.heap.size + 1, 4, none⟩ = some (.slice none 0 0) := cell_of_row _ _ 4 _ _ _ hZ
  have sf4 : x.frozen? ⟨w.heap.size + 1, 4, none⟩ = false := frozen_of_row _ _ 4 _ _ hZ
  have s5 : x.cell? ⟨w.heap.size + 1, 5, none⟩ = some (.slice none 0 0) := cell_of_row _ _ 5 _ _ _ hZ
  have sf5 : x.frozen? ⟨w.heap.size + 1, 5, none⟩ = false := frozen_of_row _ _ 5 _ _ hZ
  have hF0 := hZ
  have hF1 := heap_setCell_same _ (w.heap.size + 1) 0 _ _ (.int .i64 k) hF0
  have hF2 := heap_setCell_same _ (w.heap.size + 1) 1 _ _ (.int .i64 n) hF1
  have hF3 := heap_setCell_same _ (w.heap.size + 1) 2 _ _ (.int .i64 V) hF2
  have hF4 := heap_setCell_same _ (w.heap.size + 1) 3 _ _ (.slice Ao m co) hF3
  have hF5 := heap_setCell_same _ (w.heap.size + 1) 4 _ _ (.slice Au m cu) hF4
  have hF6 := heap_setCell_same _ (w.heap.size + 1) 5 _ _ (.slice Ab m cb) hF5
  have hlW : w.heap.size ≤ w.heap.size + 1 := by omega
  have hlB : w.heap.size + 1 < v.heap.size := by omega
  have hlC : w.heap.size + 1 < z.heap.size := by omega
  have hOw2 := fun (w1 : World) (h : w1.ownsRow (w.heap.size + 2) 3 1 (.slice Ao m co) m ((ownedF V n k).map (Value.int .i64))) (j : Nat) (u : Value) => ownsRow_setCell_below h (a := ⟨w.heap.size + 1, j, none⟩) (by show w.heap.size + 1 < _; omega) u
  have fin : ∃ f, ((((((x.setCell ⟨w.heap.size + 1, 0, none⟩ (.int .i64 k)).setCell ⟨w.heap.size + 1, 1, none⟩ (.int .i64 n)).setCell ⟨w.heap.size + 1, 2, none⟩ (.int .i64 V)).setCell ⟨w.heap.size + 1, 3, none⟩ (.slice Ao m co)).setCell ⟨w.heap.size + 1, 4, none⟩ (.slice Au m cu)).setCell ⟨w.heap.size + 1, 5, none⟩ (.slice Ab m cb)) = f ∧ f.heap[w.heap.size + 1]? = some (.cells #[.int .i64 k, .int .i64 n, .int .i64 V, .slice Ao m co, .slice Au m cu, .slice Ab m cb] 34) ∧ Below w.heap.size w f ∧ f.ownsRow (w.heap.size + 2) 3 1 (.slice Ao m co) m ((ownedF V n k).map (Value.int .i64)) ∧ ORows f v.heap.size Au cu hu ((ownedF V n k).map (fromF es)) ∧ ORows f z.heap.size Ab cb hb ((ownedF V n k).map (toF es)) :=
   ⟨_, rfl, hF6, ((((((hbx.setCell (p := ⟨w.heap.size + 1, 0, none⟩) hlW (.int .i64 k)).setCell (p := ⟨w.heap.size + 1, 1, none⟩) hlW (.int .i64 n)).setCell (p := ⟨w.heap.size + 1, 2, none⟩) hlW (.int .i64 V)).setCell (p := ⟨w.heap.size + 1, 3, none⟩) hlW (.slice Ao m co)).setCell (p := ⟨w.heap.size + 1, 4, none⟩) hlW (.slice Au m cu)).setCell (p := ⟨w.heap.size + 1, 5, none⟩) hlW (.slice Ab m cb)), hOw2 _ (hOw2 _ (hOw2 _ (hOw2 _ (hOw2 _ (hOw2 _ hOx _ _) _ _) _ _) _ _) _ _) _ _, ((((((hRux.setCell (p := ⟨w.heap.size + 1, 0, none⟩) hlB (.int .i64 k)).setCell (p := ⟨w.heap.size + 1, 1, none⟩) hlB (.int .i64 n)).setCell (p := ⟨w.heap.size + 1, 2, none⟩) hlB (.int .i64 V)).setCell (p := ⟨w.heap.size + 1, 3, none⟩) hlB (.slice Ao m co)).setCell (p := ⟨w.heap.size + 1, 4, none⟩) hlB (.slice Au m cu)).setCell (p := ⟨w.heap.size + 1, 5, none⟩) hlB (.slice Ab m cb)), ((((((hRbx.setCell (p := ⟨w.heap.size + 1, 0, none⟩) hlC (.int .i64 k)).setCell (p := ⟨w.heap.size + 1, 1, none⟩) hlC (.int .i64 n)).setCell (p := ⟨w.heap.size + 1, 2, none⟩) hlC (.int .i64 V)).setCell (p := ⟨w.heap.size + 1, 3, none⟩) hlC (.slice Ao m co)).setCell (p := ⟨w.heap.size + 1, 4, none⟩) hlC (.slice Au m cu)).setCell (p := ⟨w.heap.size + 1, 5, none⟩) hlC (.slice Ab m cb))⟩
  have FIN := hide fin
  clear hF0 hF1 hF2 hF3 hF4 hF5 hF6 hOw2 fin hOx hRux hRbx hKx hbx hx CQ2 CP2 hRb hb2 hZ hwX hlW hlB x0 x1 g3
  go_upto_region 9 with fail
  rw [HXE.out]
  go_wp2
  obtain ⟨f, hf, h6, hfB, hfo, hfu, hfb⟩ := FIN.out
  rw [hf]
  have y0 : f.cell? ⟨w.heap.size + 1, 0, none⟩ = some (.int .i64 k) := cell_of_row _ _ 0 _ _ _ h6
  have y1 : f.cell? ⟨w.heap.size + 1, 1, none⟩ = some (.int .i64 n) := cell_of_row _ _ 1 _ _ _ h6
  have y2 : f.cell? ⟨w.heap.size + 1, 2, none⟩ = some (.int .i64 V) := cell_of_row _ _ 2 _ _ _ h6
  have y3 : f.cell? ⟨w.heap.size + 1, 3, none⟩ = some (.slice Ao m co) := cell_of_row _ _ 3 _ _ _ h6
  have y4 : f.cell? ⟨w.heap.size + 1, 4, none⟩ = some (.slice Au m cu) := cell_of_row _ _ 4 _ _ _ h6
  have y5 : f.cell? ⟨w.heap.size + 1, 5, none⟩ = some (.slice Ab m cb) := cell_of_row _ _ 5 _ _ _ h6
  exact bodyPost_ret (v := .tuple #[.agg #[.int .i64 k, .int .i64 n, .int .i64 V, .slice Ao m co, .slice Au m cu, .slice Ab m cb], .int .i64 0]) (by simp [results, Try.results15, go_sem, y0, y1, y2, y3, y4, y5]) rfl ⟨m, Ao, co, Au, cu, hu, Ab, cb, hb, HM.out, rfl, own_base hfo (by omega), hfu.lower (by omega), hfb.lower (by omega), hfB⟩
end Go.Proofs.Ytihdpfjonkagaaa
namespace Go.Proofs.Ytihdpfjonkagaaa
open Go.RowKit
structure PartV where
 wk : Int
 ws : Int
 vs : Int
 own : List Int
 out : List (List Ed)
 back : List (List Ed)
deriving DecidableEq
def noPart : PartV := ⟨0, 0, 0, [], [], []⟩
def partF (V : Int) (es : List Ed) (n k : Int) : PartV := if cutErr V es n k = 0 then ⟨k, n, V, ownedF V n k, (ownedF V n k).map (fromF es), (ownedF V n k).map (toF es)⟩ else noPart
def PartPost (w : World) (P : PartV) (code : Int) (e : Ending) (w' : World) : Prop := ∃ (m mu mb : Nat) (Ao : Option Addr) (co : Nat) (Au : Option Addr) (cu : Nat) (hu : List Value) (Ab : Option Addr) (cb : Nat) (hb : List Value),
 P.own.length = m ∧ P.out.length = mu ∧ P.back.length = mb ∧ m ≤ 512 ∧ mu ≤ 512 ∧ mb ≤ 512 ∧ e = .returned (.tuple #[.agg #[.int .i64 P.wk, .int .i64 P.ws, .int .i64 P.vs, .slice Ao m co, .slice Au mu cu, .slice Ab mb cb], .int .i64 code]) ∧
 w'.ownsRow w.heap.size 3 1 (.slice Ao m co) m (P.own.map (Value.int .i64)) ∧ ORows w' w.heap.size Au cu hu P.out ∧ ORows w' w.heap.size Ab cb hb P.back ∧ Below w.heap.size w w'
theorem cut_post {w : World} {V : Int} {es : List Ed} {n k : Int} (h : cutErr V es n k = 0) {e : Ending} {w' : World} (hp : CutOK w V es n k e w') : PartPost w (partF V es n k) (cutErr V es n k) e w' := by
 obtain ⟨m, Ao, co, Au, cu, hu, Ab, cb, hb, h1, h2, h3, h4, h5, h6⟩ := hp
 have hm : m ≤ 512 := by rw [← h1]; exact owned_le V n k
 unfold partF
 rw [if_pos h, h]
 exact ⟨m, m, m, Ao, co, Au, cu, hu, Ab, cb, hb, h1, by rw [List.length_map]; exact h1, by rw [List.length_map]; exact h1, hm, hm, hm, h2, h3, h4, h5, h6⟩
theorem cut_post_bad {w : World} {V : Int} {es : List Ed} {n k : Int} (h : cutErr V es n k ≠ 0) {e : Ending} {w' : World} (hp : CutBad w (cutErr V es n k) e w') : PartPost w (partF V es n k) (cutErr V es n k) e w' := by
 obtain ⟨h1, h2⟩ := hp
 unfold partF
 rw [if_neg h]
 exact ⟨0, 0, 0, none, 0, none, 0, [], none, 0, [], rfl, rfl, rfl, by omega, by omega, by omega, h1, World.ownsRow_nil _ _ _ _, ORows.nil _ _, ORows.nil _ _, h2⟩
theorem pcut_any (w : World) (V : Int) (A : Option Addr) (es : List Ed) (L c : Nat) (n k : Int) (hL : es.length = L) (hE : Eds w w.heap.size A es) (hc : L ≤ 9223372036854775807) :
  Calls Try.prog 15 #[.agg #[.int .i64 V, .slice A L c], .int .i64 n, .int .i64 k] w (PartPost w (partF V es n k) (cutErr V es n k)) := by
 by_cases h : cutErr V es n k = 0
 ·exact (pcut_ok w V A es L c n k hL hE h).mono fun e w' hp => cut_post h hp
 ·exact (pcut_bad w V A es L c n k hL hE hc h).mono fun e w' hp => cut_post_bad h hp
theorem rcut_any (w : World) (V : Int) (A : Option Addr) (es : List Ed) (L c : Nat) (n k : Int) (hL : es.length = L) (hE : Eds w w.heap.size A es) (hc : L ≤ 9223372036854775807) :
  Calls Try.prog 16 #[.agg #[.int .i64 V, .slice A L c], .int .i64 n, .int .i64 k] w (PartPost w (partF V es n k) (cutErr V es n k)) := by
 by_cases h : cutErr V es n k = 0
 ·have hl : L ≤ 8192 := by have := (checkF_ok (cutErr_zero h).1).2.2.1; omega
  exact (rcut_ok w V A es L c n k hL hE hl h).mono fun e w' hp => cut_post h hp
 ·exact (rcut_bad w V A es L c n k hL hE hc h).mono fun e w' hp => cut_post_bad h hp
theorem part_out_le {V : Int} {es : List Ed} {n k : Int} {i m : Nat} (h : ((partF V es n k).out.map List.length)[i]? = some m) : m ≤ es.length := by
 rw [List.getElem?_map, Option.map_eq_some_iff] at h
 obtain ⟨r, hr, rfl⟩ := h
 have := List.mem_of_getElem? hr
 unfold partF at this
 split at this
 ·obtain ⟨v, _, rfl⟩ := List.mem_map.1 this
  exact List.length_filter_le _ _
 ·cases this
structure HRows (w : World) (b : Nat) (A : Option Addr) (c : Nat) (hs : List Value) (ls : List Nat) : Prop where
 own : w.ownsRow b 28 1 (.slice A ls.length c) ls.length hs
 row : ∀ (i : Nat) (h : Value) (n : Nat), hs[i]? = some h → ls[i]? = some n → ∃ (A : Option Addr) (c : Nat), h = .slice A n c ∧ n ≤ c ∧ c ≤ 9223372036854775807 ∧ (n = 0 ∨ ∃ (g : Nat) (cur : Array Value), A = some ⟨g, 0, none⟩ ∧ b ≤ g ∧ w.heap[g]? = some (.cells cur 44 (0, 0)) ∧ n * 3 ≤ cur.size)
theorem ORows.hrows {w : World} {b : Nat} {A : Option Addr} {c : Nat} {hs : List Value} {rs : List (List Ed)} (h : ORows w b A c hs rs) : HRows w b A c hs (rs.map List.length) := by
 refine ⟨by rw [List.length_map]; exact h.own, fun i x n h1 h2 => ?_⟩
 rw [List.getElem?_map, Option.map_eq_some_iff] at h2
 obtain ⟨r, hr, rfl⟩ := h2
 obtain ⟨⟨A2, c2, rfl⟩, k2, k3⟩ := h.row i x r h1 hr
 refine ⟨A2, c2, rfl, own_cap k2, own_max k2, ?_⟩
 rcases k2.2 with ⟨_, h0⟩ | ⟨g, cap, cur, hv, hb, hc, hn, hm, hs, _⟩
 ·exact .inl h0
 ·injection hv with e1 _ e3
  subst e1 e3
  exact .inr ⟨g, cur, rfl, hb, hc, by rw [hs]; exact Nat.mul_le_mul_right 3 hn⟩
theorem HRows.store {w : World} {b : Nat} {A : Option Addr} {c : Nat} {hs : List Value} {ls : List Nat} (h : HRows w b A c hs ls) {g : Nat} {cur : Array Value} (hg : w.heap[g]? = some (.cells cur 44 (0, 0))) (j : Nat) (u : Value) : HRows (w.setCell ⟨g, j, none⟩ u) b A c hs ls := by
 refine ⟨?_, fun i x n h1 h2 => ?_⟩
 ·refine ⟨h.own.1, ?_⟩
  rcases h.own.2 with h0 | ⟨g2, cap, cur2, hv, hb, hc, hr⟩
  ·exact .inl h0
  ·refine .inr ⟨g2, cap, cur2, hv, hb, ?_, hr⟩
   rw [Below.heap_setCell _ _ _ _ (fun e => ?_)]
   ·exact hc
   ·have e : g2 = g := e
    subst e
    rw [hc] at hg
    injection hg with hg
    injection hg with _ e2
    exact absurd e2 (by decide)
 ·obtain ⟨A2, c2, e1, e2, e3, e4⟩ := h.row i x n h1 h2
  refine ⟨A2, c2, e1, e2, e3, e4.imp id fun ⟨g2, cur2, k1, k2, k3, k4⟩ => ?_⟩
  by_cases hgg : g2 = g
  ·subst hgg
   exact ⟨g2, _, k1, k2, heap_setCell_same w g2 j cur2 _ u k3, by simpa using k4⟩
  ·exact ⟨g2, cur2, k1, k2, by rw [Below.heap_setCell _ _ _ _ hgg]; exact k3, k4⟩
end Go.Proofs.Ytihdpfjonkagaaa
