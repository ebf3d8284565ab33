/- What keeps all blocks but some. -/
import Derived.Test.YtgbahnlgblahpaaGreatMem
import Derived.Test.YtgbahnlgblahpaaGreatKep
namespace Go.Proofs.YtgbahnlgblahpaaGreat
open Go.RowKit
set_option linter.unusedVariables false
/-- all blocks that lay in v are as they were, but for those of X -/
def KB (X : List Nat) (v w : World) : Prop := v.heap.size ≤ w.heap.size ∧ ∀ b, b < v.heap.size → b ∉ X → w.heap[b]? = v.heap[b]?
section
variable {X : List Nat} {v w w' : World} {B : Nat}
theorem KB.refl (X : List Nat) (v : World) : KB X v v := ⟨Nat.le_refl _, fun _ _ _ => rfl⟩
theorem KB.drew (h : KB X v w) : KB X v w.drew := h
theorem KB.trans (h : KB X v w) (h' : KB X w w') : KB X v w' := ⟨Nat.le_trans h.1 h'.1, fun b hb hx => (h'.2 b (Nat.lt_of_lt_of_le hb h.1) hx).trans (h.2 b hb hx)⟩
theorem KB.below (h : KB X v w) (hb : Below B w w') (hB : v.heap.size ≤ B) : KB X v w' := ⟨Nat.le_trans h.1 hb.size, fun b hl hx => (hb.block b (Nat.lt_of_lt_of_le hl hB)).trans (h.2 b hl hx)⟩
theorem KB.alloc (h : KB X v w) (o : Obj) : KB X v (w.alloc o) := h.below ((Below.refl w.heap.size w).alloc (Nat.le_refl _) o) h.1
theorem KB.grown (h : KB X v w) {row : Option Nat} (hg : w.grownBy w' row) (hr : ∀ g, row = some g → v.heap.size ≤ g ∨ g ∈ X) : KB X v w' := by
  refine ⟨Nat.le_trans h.1 hg.size, fun b hl hx => (hg.block b (Nat.lt_of_lt_of_le hl h.1) (fun e => ?_)).trans (h.2 b hl hx)⟩
  rcases hr b e.symm with h1 | h1
  · omega
  · exact hx h1
theorem KB.setCell (h : KB X v w) {p : Addr} (hp : v.heap.size ≤ p.block ∨ p.block ∈ X) (u : Value) : KB X v (w.setCell p u) := by
  refine ⟨by rw [World.size_setCell]; exact h.1, fun b hl hx => (Below.heap_setCell _ _ _ _ (fun e => ?_)).trans (h.2 b hl hx)⟩
  rcases hp with h1 | h1
  · omega
  · rw [← e] at h1; exact hx h1
theorem KB.cell (h : KB X v w) {p : Addr} (hl : p.block < v.heap.size) (hx : p.block ∉ X) : w.cell? p = v.cell? p := World.cell?_of_block (h.2 _ hl hx)
theorem KB.frozen (h : KB X v w) {p : Addr} (hl : p.block < v.heap.size) (hx : p.block ∉ X) : w.frozen? p = v.frozen? p := World.frozen?_of_block (h.2 _ hl hx)
theorem KB.own (h : KB X v w) {base size n : Nat} {e : TypeId} {u : Value} {xs : List Value} (ho : v.ownsRow base e size u n xs) (hx : ∀ g, u.ownBlock = some g → g ∉ X) : w.ownsRow base e size u n xs := by
  refine ⟨ho.1, ?_⟩
  rcases ho.2 with h0 | ⟨g, cap, cur, hv, hg, hc, hr⟩
  · exact .inl h0
  · exact .inr ⟨g, cap, cur, hv, hg, (h.2 g (lt_of_block hc) (hx g (by rw [hv]; rfl))).trans hc, hr⟩
theorem KB.rd (h : KB X v w) {A : Option Addr} {xs : List Value} (hr : Rd v B A xs) (hB : B ≤ v.heap.size) (hx : ∀ b ∈ X, B ≤ b) : Rd w B A xs := hr.keep fun p hp => h.cell (by omega) (fun hm => by have := hx _ hm; omega)
end
end Go.Proofs.YtgbahnlgblahpaaGreat
