/- Stores into two blocks: what lies elsewhere stays. -/
import Derived.Test.YtgbahnlgblahpaaGreatNew
import Derived.Test.YtgbahnlgblahpaaGreatStp
namespace Go.Proofs.YtgbahnlgblahpaaGreat
open Go.RowKit Go.Shelf
set_option linter.unusedVariables false
/-- only blocks b1 and b2 were stored into -/
structure FarS (b1 b2 : Nat) (z f : World) : Prop where
  os : f.os = z.os
  tape : f.tape = z.tape
  output : f.output = z.output
  size : f.heap.size = z.heap.size
  block : ∀ q, q ≠ b1 → q ≠ b2 → f.heap[q]? = z.heap[q]?
theorem FarS.refl (b1 b2 : Nat) (z : World) : FarS b1 b2 z z := ⟨rfl, rfl, rfl, rfl, fun _ _ _ => rfl⟩
theorem FarS.set {b1 b2 : Nat} {z f : World} (h : FarS b1 b2 z f) {p : Addr} (hp : p.block = b1 ∨ p.block = b2) (u : Value) : FarS b1 b2 z (f.setCell p u) := by
  have hb := (Below.refl 0 f).setCell (Nat.zero_le p.block) u
  exact ⟨hb.os.trans h.os, hb.tape.trans h.tape, hb.output.trans h.output, (World.size_setCell _ _ _).trans h.size, fun q h1 h2 => (Below.heap_setCell _ _ _ q (by rcases hp with e | e <;> rw [e] <;> assumption)).trans (h.block q h1 h2)⟩
theorem FarS.drew {b1 b2 : Nat} {z f : World} (h : FarS b1 b2 z f) : FarS b1 b2 z f.drew := ⟨h.os, h.tape, h.output, h.size, h.block⟩
theorem FarS.trans {b1 b2 : Nat} {z f g : World} (h : FarS b1 b2 z f) (h2 : FarS b1 b2 f g) : FarS b1 b2 z g := ⟨h2.os.trans h.os, h2.tape.trans h.tape, h2.output.trans h.output, h2.size.trans h.size, fun q h3 h4 => (h2.block q h3 h4).trans (h.block q h3 h4)⟩
theorem FarS.below {b1 b2 B : Nat} {z f : World} (h : FarS b1 b2 z f) (h1 : B ≤ b1) (h2 : B ≤ b2) : Below B z f := ⟨h.os, h.tape, h.output, Nat.le_of_eq h.size.symm, fun q hq => h.block q (by omega) (by omega)⟩
theorem FarS.rd {b1 b2 C : Nat} {z f : World} {A : Option Addr} {xs : List Value} (h : FarS b1 b2 z f) (hr : Rd z z.heap.size A xs) (hn : NewA C A) (h1 : b1 < C) (h2 : b2 < C) : Rd f f.heap.size A xs := fun hx => by
  obtain ⟨g, off, rfl, hg, hc⟩ := hr hx
  have hg2 := hn g off rfl
  exact ⟨g, off, rfl, by rw [h.size]; exact hg, fun q v hq => (World.cell?_of_block (h.block g (by omega) (by omega))).trans (hc q v hq)⟩
theorem set_pair {w : World} {b : Nat} {a0 a1 x0 x1 : Value} {T : TypeId} (h : w.heap[b]? = some (.cells #[a0, a1] T)) : ((w.setCell ⟨b, 0, none⟩ x0).setCell ⟨b, 1, none⟩ x1).heap[b]? = some (.cells #[x0, x1] T) := by
  have h1 := heap_setCell_same w b 0 _ _ x0 h
  have h2 := heap_setCell_same _ b 1 _ _ x1 h1
  simpa using h2
theorem set_six {w : World} {b : Nat} {a0 a1 a2 a3 a4 a5 x0 x1 x2 x3 x4 x5 : Value} {T : TypeId} (h : w.heap[b]? = some (.cells #[a0, a1, a2, a3, a4, a5] T)) : ((((((w.setCell ⟨b, 0, none⟩ x0).setCell ⟨b, 1, none⟩ x1).setCell ⟨b, 2, none⟩ x2).setCell ⟨b, 3, none⟩ x3).setCell ⟨b, 4, none⟩ x4).setCell ⟨b, 5, none⟩ x5).heap[b]? = some (.cells #[x0, x1, x2, x3, x4, x5] T) := by
  have h1 := heap_setCell_same w b 0 _ _ x0 h
  have h2 := heap_setCell_same _ b 1 _ _ x1 h1
  have h3 := heap_setCell_same _ b 2 _ _ x2 h2
  have h4 := heap_setCell_same _ b 3 _ _ x3 h3
  have h5 := heap_setCell_same _ b 4 _ _ x4 h4
  have h6 := heap_setCell_same _ b 5 _ _ x5 h5
  simpa using h6
theorem far9 (z : World) (b1 b2 : Nat) (v3 v4 v5 x0 x1 x2 x3 x4 x5 : Value) {a0 a1 a2 a3 a4 a5 : Value} {T : TypeId} (hne : b2 ≠ b1) (h : z.heap[b2]? = some (.cells #[a0, a1, a2, a3, a4, a5] T)) :
    FarS b1 b2 z (((((((((z.setCell ⟨b1, 3, none⟩ v3).setCell ⟨b1, 4, none⟩ v4).setCell ⟨b1, 5, none⟩ v5).setCell ⟨b2, 0, none⟩ x0).setCell ⟨b2, 1, none⟩ x1).setCell ⟨b2, 2, none⟩ x2).setCell ⟨b2, 3, none⟩ x3).setCell ⟨b2, 4, none⟩ x4).setCell ⟨b2, 5, none⟩ x5) ∧ (((((((((z.setCell ⟨b1, 3, none⟩ v3).setCell ⟨b1, 4, none⟩ v4).setCell ⟨b1, 5, none⟩ v5).setCell ⟨b2, 0, none⟩ x0).setCell ⟨b2, 1, none⟩ x1).setCell ⟨b2, 2, none⟩ x2).setCell ⟨b2, 3, none⟩ x3).setCell ⟨b2, 4, none⟩ x4).setCell ⟨b2, 5, none⟩ x5).heap[b2]? = some (.cells #[x0, x1, x2, x3, x4, x5] T) :=
  ⟨FarS.set (FarS.set (FarS.set (FarS.set (FarS.set (FarS.set (FarS.set (FarS.set (FarS.set (FarS.refl b1 b2 z) (p := ⟨b1, 3, none⟩) (Or.inl rfl) v3) (p := ⟨b1, 4, none⟩) (Or.inl rfl) v4) (p := ⟨b1, 5, none⟩) (Or.inl rfl) v5) (p := ⟨b2, 0, none⟩) (Or.inr rfl) x0) (p := ⟨b2, 1, none⟩) (Or.inr rfl) x1) (p := ⟨b2, 2, none⟩) (Or.inr rfl) x2) (p := ⟨b2, 3, none⟩) (Or.inr rfl) x3) (p := ⟨b2, 4, none⟩) (Or.inr rfl) x4) (p := ⟨b2, 5, none⟩) (Or.inr rfl) x5, set_six ((Below.heap_setCell _ ⟨b1, 5, none⟩ v5 b2 hne).trans ((Below.heap_setCell _ ⟨b1, 4, none⟩ v4 b2 hne).trans ((Below.heap_setCell z ⟨b1, 3, none⟩ v3 b2 hne).trans h)))⟩
theorem set_at3 {w : World} {b : Nat} {a0 a1 a2 a3 a4 a5 x : Value} {T : TypeId} (h : w.heap[b]? = some (.cells #[a0, a1, a2, a3, a4, a5] T)) : (w.setCell ⟨b, 3, none⟩ x).heap[b]? = some (.cells #[a0, a1, a2, x, a4, a5] T) := by
  simpa using heap_setCell_same w b 3 _ _ x h
theorem set_at4 {w : World} {b : Nat} {a0 a1 a2 a3 a4 a5 x : Value} {T : TypeId} (h : w.heap[b]? = some (.cells #[a0, a1, a2, a3, a4, a5] T)) : (w.setCell ⟨b, 4, none⟩ x).heap[b]? = some (.cells #[a0, a1, a2, a3, x, a5] T) := by
  simpa using heap_setCell_same w b 4 _ _ x h
theorem set_at5 {w : World} {b : Nat} {a0 a1 a2 a3 a4 a5 x : Value} {T : TypeId} (h : w.heap[b]? = some (.cells #[a0, a1, a2, a3, a4, a5] T)) : (w.setCell ⟨b, 5, none⟩ x).heap[b]? = some (.cells #[a0, a1, a2, a3, a4, x] T) := by
  simpa using heap_setCell_same w b 5 _ _ x h
theorem set_at1 {w : World} {b : Nat} {a0 a1 a2 a3 a4 a5 x : Value} {T : TypeId} (h : w.heap[b]? = some (.cells #[a0, a1, a2, a3, a4, a5] T)) : (w.setCell ⟨b, 1, none⟩ x).heap[b]? = some (.cells #[a0, x, a2, a3, a4, a5] T) := by
  simpa using heap_setCell_same w b 1 _ _ x h
theorem set_at2 {w : World} {b : Nat} {a0 a1 a2 a3 a4 a5 x : Value} {T : TypeId} (h : w.heap[b]? = some (.cells #[a0, a1, a2, a3, a4, a5] T)) : (w.setCell ⟨b, 2, none⟩ x).heap[b]? = some (.cells #[a0, a1, x, a3, a4, a5] T) := by
  simpa using heap_setCell_same w b 2 _ _ x h
theorem far6 (z : World) (b1 b2 : Nat) (x0 x1 x2 x3 x4 x5 : Value) {a0 a1 a2 a3 a4 a5 : Value} {T : TypeId} (h : z.heap[b2]? = some (.cells #[a0, a1, a2, a3, a4, a5] T)) :
    FarS b1 b2 z ((((((z.setCell ⟨b2, 0, none⟩ x0).setCell ⟨b2, 1, none⟩ x1).setCell ⟨b2, 2, none⟩ x2).setCell ⟨b2, 3, none⟩ x3).setCell ⟨b2, 4, none⟩ x4).setCell ⟨b2, 5, none⟩ x5) ∧ ((((((z.setCell ⟨b2, 0, none⟩ x0).setCell ⟨b2, 1, none⟩ x1).setCell ⟨b2, 2, none⟩ x2).setCell ⟨b2, 3, none⟩ x3).setCell ⟨b2, 4, none⟩ x4).setCell ⟨b2, 5, none⟩ x5).heap[b2]? = some (.cells #[x0, x1, x2, x3, x4, x5] T) :=
  ⟨FarS.set (FarS.set (FarS.set (FarS.set (FarS.set (FarS.set (FarS.refl b1 b2 z) (p := ⟨b2, 0, none⟩) (Or.inr rfl) x0) (p := ⟨b2, 1, none⟩) (Or.inr rfl) x1) (p := ⟨b2, 2, none⟩) (Or.inr rfl) x2) (p := ⟨b2, 3, none⟩) (Or.inr rfl) x3) (p := ⟨b2, 4, none⟩) (Or.inr rfl) x4) (p := ⟨b2, 5, none⟩) (Or.inr rfl) x5, set_six h⟩
theorem cells6 {w : World} {b : Nat} {x0 x1 x2 x3 x4 x5 : Value} {T : TypeId} (h : w.heap[b]? = some (.cells #[x0, x1, x2, x3, x4, x5] T)) :
    w.cell? ⟨b, 0, none⟩ = some x0 ∧ w.cell? ⟨b, 1, none⟩ = some x1 ∧ w.cell? ⟨b, 2, none⟩ = some x2 ∧ w.cell? ⟨b, 3, none⟩ = some x3 ∧ w.cell? ⟨b, 4, none⟩ = some x4 ∧ w.cell? ⟨b, 5, none⟩ = some x5 :=
  ⟨cell_of_row _ _ 0 _ _ _ h, cell_of_row _ _ 1 _ _ _ h, cell_of_row _ _ 2 _ _ _ h, cell_of_row _ _ 3 _ _ _ h, cell_of_row _ _ 4 _ _ _ h, cell_of_row _ _ 5 _ _ _ h⟩
end Go.Proofs.YtgbahnlgblahpaaGreat
