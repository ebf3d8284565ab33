/- An own row grows by one, and a cell of block m is stored: what stays. -/
import Derived.Test.YtgbahnlgblahpaaGreatVit
import Derived.Test.YtgbahnlgblahpaaGreatRir
import Derived.Test.YtgbahnlgblahpaaGreatOap
namespace Go.Proofs.YtgbahnlgblahpaaGreat
open Go.RowKit
set_option linter.unusedVariables false
/-- all that is no row of elements T, and not block m, is as it was -/
structure StepT (T : TypeId) (B m : Nat) (W z : World) : Prop where
  others : KeepsOthers W z
  kp : KpM B m W z
  cells : ∀ b cs T' fr, W.heap[b]? = some (.cells cs T' fr) → T' ≠ T → b ≠ m → z.heap[b]? = some (.cells cs T' fr)
  os : z.os = W.os
  tape : z.tape = W.tape
  output : z.output = W.output
theorem own_cells {W : World} {base size n : Nat} {e : TypeId} {v : Value} {xs : List Value} (h : W.ownsRow base e size v n xs) : ∀ r, v.ownBlock = some r → base ≤ r ∧ ∃ cs fr, W.heap[r]? = some (.cells cs e fr) := fun r hr => by
  rcases h.2 with ⟨hv, _⟩ | ⟨g, cap, cur, hv, hgb, hc, hrest⟩
  · rw [hv] at hr; cases hr
  · rw [hv] at hr
    obtain rfl := Option.some.inj hr
    exact ⟨hgb, _, _, hc⟩
theorem step_grown {T TM : TypeId} {B m : Nat} {W y : World} {size n j : Nat} {v u : Value} {xs : List Value} {cs : Array Value} {fr : Nat × Nat} (o : Obj) (hB : B ≤ W.heap.size) (hown : W.ownsRow B T size v n xs) (hm : W.heap[m]? = some (.cells cs TM fr)) (hT : TM ≠ T)
    (hg : (W.drew.alloc o).grownBy y v.ownBlock) : y.heap[m]? = some (.cells cs TM fr) ∧ StepT T B m W (y.setCell ⟨m, j, none⟩ u) := by
  have hal : ∀ b, b < W.heap.size → (W.drew.alloc o).heap[b]? = W.heap[b]? := fun b hb => Below.heap_alloc W.drew o b hb
  have hsz : W.heap.size ≤ (W.drew.alloc o).heap.size := by simp
  have hoc := own_cells hown
  have hlt : ∀ {b : Nat} {o' : Obj}, W.heap[b]? = some o' → b < W.heap.size := fun h => (Array.getElem?_eq_some_iff.1 h).1
  have hne : ∀ b cs' T' fr', W.heap[b]? = some (Obj.cells cs' T' fr') → T' ≠ T → some b ≠ v.ownBlock := fun b cs' T' fr' h1 h2 e => by
    obtain ⟨_, cs2, fr2, h3⟩ := hoc b e.symm
    rw [h1] at h3
    injection h3 with h3
    injection h3 with _ h4
    exact h2 h4
  have hcell : ∀ b cs' T' fr', W.heap[b]? = some (Obj.cells cs' T' fr') → T' ≠ T → y.heap[b]? = some (Obj.cells cs' T' fr') := fun b cs' T' fr' h1 h2 =>
    (hg.block b (Nat.lt_of_lt_of_le (hlt h1) hsz) (hne b cs' T' fr' h1 h2)).trans ((hal b (hlt h1)).trans h1)
  have hmy := hcell m cs TM fr hm hT
  refine ⟨hmy, ⟨⟨?_, fun k o' hk hc => ?_⟩, ⟨?_, fun b h1 h2 => ?_⟩, fun b cs' T' fr' h1 h2 h3 => ?_, ?_, ?_, ?_⟩⟩
  · rw [World.size_setCell]; exact Nat.le_trans hsz hg.size
  · have hkm : k ≠ m := fun e => by rw [e, hm] at hk; cases hk; cases hc
    rw [Below.heap_setCell _ _ _ _ hkm]
    refine (hg.block k (Nat.lt_of_lt_of_le (hlt hk) hsz) (fun e => ?_)).trans ((hal k (hlt hk)).trans hk)
    obtain ⟨_, cs2, fr2, h3⟩ := hoc k e.symm
    rw [hk] at h3
    cases h3
    cases hc
  · rw [World.size_setCell]; exact Nat.le_trans hsz hg.size
  · rw [Below.heap_setCell _ _ _ _ h2]
    by_cases hb : b < W.heap.size
    · exact (hg.block b (Nat.lt_of_lt_of_le hb hsz) (fun e => by have := (hoc b e.symm).1; omega)).trans (hal b hb)
    · omega
  · rw [Below.heap_setCell _ _ _ _ h3]
    exact hcell b cs' T' fr' h1 h2
  · exact hg.os
  · exact hg.tape
  · exact hg.output
theorem grown_cell {T T' : TypeId} {B b : Nat} {W y : World} {size n : Nat} {v : Value} {xs : List Value} {cs : Array Value} {fr : Nat × Nat} (o : Obj) (hown : W.ownsRow B T size v n xs) (hm : W.heap[b]? = some (.cells cs T' fr)) (hT : T' ≠ T)
    (hg : (W.drew.alloc o).grownBy y v.ownBlock) : y.heap[b]? = some (.cells cs T' fr) := by
  have hlt : b < W.heap.size := (Array.getElem?_eq_some_iff.1 hm).1
  refine (hg.block b (Nat.lt_of_lt_of_le hlt (by simp)) (fun e => ?_)).trans ((Below.heap_alloc W.drew o b hlt).trans hm)
  obtain ⟨_, cs2, fr2, h3⟩ := own_cells hown b e.symm
  rw [hm] at h3
  injection h3 with h3
  injection h3 with _ h4
  exact hT h4
theorem own_step {T e TM : TypeId} {B m base size n : Nat} {W z : World} {v : Value} {xs : List Value} {cs : Array Value} {fr : Nat × Nat} (hs : StepT T B m W z) (h : W.ownsRow base e size v n xs) (hm : W.heap[m]? = some (.cells cs TM fr)) (hT : e ≠ T) (hM : e ≠ TM) : z.ownsRow base e size v n xs := by
  refine ⟨h.1, ?_⟩
  rcases h.2 with h0 | ⟨g, cap, cur, hv, hgb, hc, hrest⟩
  · exact .inl h0
  · refine .inr ⟨g, cap, cur, hv, hgb, hs.cells _ _ _ _ hc hT (fun e9 => ?_), hrest⟩
    rw [e9, hm] at hc
    injection hc with hc
    injection hc with _ h4
    exact hM h4.symm
theorem own_set {e : TypeId} {base size n b j : Nat} {y : World} {v u : Value} {xs : List Value} (h : y.ownsRow base e size v n xs) (hb : b < base) : (y.setCell ⟨b, j, none⟩ u).ownsRow base e size v n xs := by
  refine ⟨h.1, ?_⟩
  rcases h.2 with h0 | ⟨g, cap, cur, hv, hgb, hc, hrest⟩
  · exact .inl h0
  · exact .inr ⟨g, cap, cur, hv, hgb, (Below.heap_setCell _ _ _ _ (by show g ≠ b; omega)).trans hc, hrest⟩
theorem VxIn.step {es : List Ed} {x : VX} {T TM : TypeId} {B m : Nat} {W z : World} {cs : Array Value} {fr : Nat × Nat} (h : VxIn es x W) (hs : StepT T B m W z) (hm : W.heap[m]? = some (.cells cs TM fr)) (hT : 46 ≠ T) (hM : 46 ≠ TM) : VxIn es x z :=
  ⟨h.1, h.2.1, own_step hs h.2.2.1 hm hT hM, own_step hs h.2.2.2 hm hT hM⟩
theorem StepT.below {T : TypeId} {B m C : Nat} {W z : World} (hs : StepT T B m W z) (hC : C ≤ m) (hB : C ≤ B) : Below C W z :=
  ⟨hs.os, hs.tape, hs.output, hs.kp.1, fun b hb => hs.kp.2 b (Nat.lt_of_lt_of_le hb hB) (by omega)⟩
end Go.Proofs.YtgbahnlgblahpaaGreat
