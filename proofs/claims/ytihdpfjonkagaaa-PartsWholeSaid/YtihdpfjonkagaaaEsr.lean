/- A row that is sorted in place. (printed by gen/sst.py) -/
import Derived.Test.YtihdpfjonkagaaaEjc
import Derived.Test.YtihdpfjonkagaaaSty
import Derived.Test.YtihdpfjonkagaaaOrw
namespace Go.Proofs.Ytihdpfjonkagaaa
open Go.RowKit
set_option linter.unusedVariables false
set_option linter.unusedSimpArgs false
def cmpI (x y : Ed) : Int := wrap64 (x.1 - y.1)
def ltF (x y : Ed) : Bool := decide (cmpI x y < 0)
/-- the row holds d; all else is as it was in v0 -/
def SR (v0 : World) (B g n cap : Nat) (d : List Ed) (w : World) : Prop := d.length = n ∧ w.ownsRow B 44 3 (.slice (some ⟨g, 0, none⟩) n cap) n (edFlat d) ∧ KB [g] v0 w ∧ Below g v0 w
section
variable {v0 w w' : World} {B g n cap : Nat} {d : List Ed}
theorem SR.glt (h : SR v0 B g n cap d w) : g < w.heap.size := (h.2.1.lt g rfl).2
theorem SR.below (h : SR v0 B g n cap d w) (hb : Below w.heap.size w w') : SR v0 B g n cap d w' := ⟨h.1, own_below h.2.1 hb (fun q hq => (h.2.1.lt q hq).2), h.2.2.1.below hb h.2.2.1.1, h.2.2.2.trans (hb.mono (Nat.le_of_lt h.glt))⟩
theorem SR.drew (h : SR v0 B g n cap d w) : SR v0 B g n cap d w.drew := ⟨h.1, h.2.1.drew, h.2.2.1.drew, h.2.2.2.drew⟩
theorem SR.frozen (h : SR v0 B g n cap d w) (j : Nat) : w.frozen? ⟨g, j, none⟩ = false := h.2.1.frozenAt j
theorem SR.get (h : SR v0 B g n cap d w) {i : Nat} {m : Ed} (hm : d[i]? = some m) : w.cell? ⟨g, i * 3, none⟩ = some (.int .i64 m.1) ∧ w.cell? ⟨g, i * 3 + 1, none⟩ = some (.int .i64 m.2.1) ∧ w.cell? ⟨g, i * 3 + 2, none⟩ = some (.int .i64 m.2.2) := by
  have hi := lt_of_get hm
  have hl := h.1
  have hn : i * 3 + 3 ≤ n * 3 := by omega
  exact ⟨(h.2.1.cellAt (i * 3) (by omega)).trans (edFlat_get hm 0 _ rfl), (h.2.1.cellAt (i * 3 + 1) (by omega)).trans (edFlat_get hm 1 _ rfl), (h.2.1.cellAt (i * 3 + 2) (by omega)).trans (edFlat_get hm 2 _ rfl)⟩
theorem flat_set : ∀ {d : List Ed} {i : Nat} (m : Ed), i < d.length → edFlat (d.set i m) = (((edFlat d).set (i * 3) (.int .i64 m.1)).set (i * 3 + 1) (.int .i64 m.2.1)).set (i * 3 + 2) (.int .i64 m.2.2) := by
  intro d
  induction d with
  | nil => intro i m h; simp at h
  | cons x d ih =>
    intro i m h
    cases i with
    | zero => simp [edFlat]
    | succ i =>
      have h2 := ih (i := i) m (by simpa using h)
      unfold edFlat at h2 ⊢
      rw [List.set_cons_succ, List.flatMap_cons, h2, List.flatMap_cons]
      simp only [List.cons_append, List.nil_append, show (i + 1) * 3 = i * 3 + 3 by omega, Nat.add_right_comm, List.set_cons_succ]
theorem SR.set (h : SR v0 B g n cap d w) {i : Nat} (hi : i < n) (m : Ed) : SR v0 B g n cap (d.set i m) (((w.setCell ⟨g, i * 3, none⟩ (.int .i64 m.1)).setCell ⟨g, i * 3 + 1, none⟩ (.int .i64 m.2.1)).setCell ⟨g, i * 3 + 2, none⟩ (.int .i64 m.2.2)) := by
  refine ⟨by rw [List.length_set]; exact h.1, ?_, ?_, ?_⟩
  · rw [flat_set m (by rw [h.1]; exact hi)]
    exact (((h.2.1.stored (i * 3) (.int .i64 m.1)).1.stored (i * 3 + 1) (.int .i64 m.2.1)).1.stored (i * 3 + 2) (.int .i64 m.2.2)).1
  · exact (((h.2.2.1.setCell (p := ⟨g, i * 3, none⟩) (.inr (by simp)) _).setCell (p := ⟨g, i * 3 + 1, none⟩) (.inr (by simp)) _).setCell (p := ⟨g, i * 3 + 2, none⟩) (.inr (by simp)) _)
  · exact (((h.2.2.2.setCell (p := ⟨g, i * 3, none⟩) (Nat.le_refl _) _).setCell (p := ⟨g, i * 3 + 1, none⟩) (Nat.le_refl _) _).setCell (p := ⟨g, i * 3 + 2, none⟩) (Nat.le_refl _) _)
end
theorem i64_nat (x : Nat) (h : x ≤ 9223372036854775807) : IntKind.i64.wrap (x : Int) = (x : Int) := IntWalk.i64_in _ (by omega)
theorem clo_any (w : World) (x y : Ed) : Calls Try.prog 40 #[.agg #[.int .i64 x.1, .int .i64 x.2.1, .int .i64 x.2.2], .agg #[.int .i64 y.1, .int .i64 y.2.1, .int .i64 y.2.2]] w fun e w' => e = .returned (.int .i64 (cmpI x y)) ∧ Below w.heap.size w w' := join1_any _ x y
end Go.Proofs.Ytihdpfjonkagaaa
