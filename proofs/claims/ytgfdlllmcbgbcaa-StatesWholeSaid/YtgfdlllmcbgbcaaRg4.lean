/- Three or four operations that are ready together: every order. (printed by gen/rg4.py) -/
import Derived.Test.YtgfdlllmcbgbcaaRg2
namespace Go.Proofs.Ytgfdlllmcbgbcaa
open Go.RowKit
set_option linter.unusedVariables false
theorem call3L_at {P : Program} {md : Region.Mode} {ops : Array Oper} {Q : Exit → Act → World → Prop} {S : World → Prop} {ex : List Nat} {i0 i1 i2 : Nat} {o0 o1 o2 : Oper} {fuel : Nat} {listed : Array Bool} {a : Act} {w : World} (h0 : ops[i0]? = some o0) (h1 : ops[i1]? = some o1) (h2 : ops[i2]? = some o2)
    (hr : Region.ready md ops listed = [i0, i1, i2]) (w0 : Region.wanted o0 (yielded ops a.tmps) = true) (w1 : Region.wanted o1 (yielded ops a.tmps) = true) (w2 : Region.wanted o2 (yielded ops a.tmps) = true)
    (g0 : ∀ K' : Act → World → Prop, Shut (∀ a w, S w → (S w → wpAnyL P md ops Q S ex fuel (listed.setIfInBounds i0 true) a w) → K' a w) → Oper.wp P o0 a w K' Q)
    (g1 : ∀ K' : Act → World → Prop, Shut (∀ a w, S w → (S w → wpAnyL P md ops Q S ex fuel (listed.setIfInBounds i1 true) a w) → K' a w) → Oper.wp P o1 a w K' Q)
    (g2 : ∀ K' : Act → World → Prop, Shut (∀ a w, S w → (S w → wpAnyL P md ops Q S ex fuel (listed.setIfInBounds i2 true) a w) → K' a w) → Oper.wp P o2 a w K' Q) : wpAnyL P md ops Q S ex (fuel + 1) listed a w := by
  refine ⟨fun h0 => (by rw [hr] at h0; cases h0), fun x hx => ?_⟩
  rw [hr] at hx
  have hx' : x = i0 ∨ x = i1 ∨ x = i2 := by simpa using hx
  rcases hx' with rfl | rfl | rfl
  · have := g0 (fun a' w' => (ex.contains x = false → S w → S w') ∧ wpAnyL P md ops Q S ex fuel (listed.setIfInBounds x true) a' w') (fun a w hS hr => ⟨fun _ _ => hS, hr hS⟩)
    unfold wpOp
    simp only [h0, w0, if_true]
    exact .inl this
  · have := g1 (fun a' w' => (ex.contains x = false → S w → S w') ∧ wpAnyL P md ops Q S ex fuel (listed.setIfInBounds x true) a' w') (fun a w hS hr => ⟨fun _ _ => hS, hr hS⟩)
    unfold wpOp
    simp only [h1, w1, if_true]
    exact .inl this
  · have := g2 (fun a' w' => (ex.contains x = false → S w → S w') ∧ wpAnyL P md ops Q S ex fuel (listed.setIfInBounds x true) a' w') (fun a w hS hr => ⟨fun _ _ => hS, hr hS⟩)
    unfold wpOp
    simp only [h2, w2, if_true]
    exact .inl this
theorem call4L_at {P : Program} {md : Region.Mode} {ops : Array Oper} {Q : Exit → Act → World → Prop} {S : World → Prop} {ex : List Nat} {i0 i1 i2 i3 : Nat} {o0 o1 o2 o3 : Oper} {fuel : Nat} {listed : Array Bool} {a : Act} {w : World} (h0 : ops[i0]? = some o0) (h1 : ops[i1]? = some o1) (h2 : ops[i2]? = some o2) (h3 : ops[i3]? = some o3)
    (hr : Region.ready md ops listed = [i0, i1, i2, i3]) (w0 : Region.wanted o0 (yielded ops a.tmps) = true) (w1 : Region.wanted o1 (yielded ops a.tmps) = true) (w2 : Region.wanted o2 (yielded ops a.tmps) = true) (w3 : Region.wanted o3 (yielded ops a.tmps) = true)
    (g0 : ∀ K' : Act → World → Prop, Shut (∀ a w, S w → (S w → wpAnyL P md ops Q S ex fuel (listed.setIfInBounds i0 true) a w) → K' a w) → Oper.wp P o0 a w K' Q)
    (g1 : ∀ K' : Act → World → Prop, Shut (∀ a w, S w → (S w → wpAnyL P md ops Q S ex fuel (listed.setIfInBounds i1 true) a w) → K' a w) → Oper.wp P o1 a w K' Q)
    (g2 : ∀ K' : Act → World → Prop, Shut (∀ a w, S w → (S w → wpAnyL P md ops Q S ex fuel (listed.setIfInBounds i2 true) a w) → K' a w) → Oper.wp P o2 a w K' Q)
    (g3 : ∀ K' : Act → World → Prop, Shut (∀ a w, S w → (S w → wpAnyL P md ops Q S ex fuel (listed.setIfInBounds i3 true) a w) → K' a w) → Oper.wp P o3 a w K' Q) : wpAnyL P md ops Q S ex (fuel + 1) listed a w := by
  refine ⟨fun h0 => (by rw [hr] at h0; cases h0), fun x hx => ?_⟩
  rw [hr] at hx
  have hx' : x = i0 ∨ x = i1 ∨ x = i2 ∨ x = i3 := by simpa using hx
  rcases hx' with rfl | rfl | rfl | rfl
  · have := g0 (fun a' w' => (ex.contains x = false → S w → S w') ∧ wpAnyL P md ops Q S ex fuel (listed.setIfInBounds x true) a' w') (fun a w hS hr => ⟨fun _ _ => hS, hr hS⟩)
    unfold wpOp
    simp only [h0, w0, if_true]
    exact .inl this
  · have := g1 (fun a' w' => (ex.contains x = false → S w → S w') ∧ wpAnyL P md ops Q S ex fuel (listed.setIfInBounds x true) a' w') (fun a w hS hr => ⟨fun _ _ => hS, hr hS⟩)
    unfold wpOp
    simp only [h1, w1, if_true]
    exact .inl this
  · have := g2 (fun a' w' => (ex.contains x = false → S w → S w') ∧ wpAnyL P md ops Q S ex fuel (listed.setIfInBounds x true) a' w') (fun a w hS hr => ⟨fun _ _ => hS, hr hS⟩)
    unfold wpOp
    simp only [h2, w2, if_true]
    exact .inl this
  · have := g3 (fun a' w' => (ex.contains x = false → S w → S w') ∧ wpAnyL P md ops Q S ex fuel (listed.setIfInBounds x true) a' w') (fun a w hS hr => ⟨fun _ _ => hS, hr hS⟩)
    unfold wpOp
    simp only [h3, w3, if_true]
    exact .inl this
end Go.Proofs.Ytgfdlllmcbgbcaa
