/- Two operations that are ready together: both orders. -/
import Derived.Test.YtgbahnlgblahpaaGreatReg
import Derived.Test.YtgbahnlgblahpaaGreatRgl
namespace Go.Proofs.YtgbahnlgblahpaaGreat
open Go.RowKit
set_option linter.unusedVariables false
theorem call2_at {P : Program} {md : Region.Mode} {ops : Array Oper} {Q : Exit → Act → World → Prop} {S : World → Prop} {i j : Nat} {o o2 : Oper} {fuel : Nat} {listed : Array Bool} {a : Act} {w : World} (hi : ops[i]? = some o) (hj : ops[j]? = some o2)
    (hr : Region.ready md ops listed = [i, j]) (hw : Region.wanted o (yielded ops a.tmps) = true) (hw2 : Region.wanted o2 (yielded ops a.tmps) = true)
    (h : ∀ K' : Act → World → Prop, Shut (∀ a w, S w → (S w → wpAnyH P md ops Q S fuel (listed.setIfInBounds i true) a w) → K' a w) → Oper.wp P o a w K' Q)
    (h2 : ∀ K' : Act → World → Prop, Shut (∀ a w, S w → (S w → wpAnyH P md ops Q S fuel (listed.setIfInBounds j true) a w) → K' a w) → Oper.wp P o2 a w K' Q) : wpAnyH P md ops Q S (fuel + 1) listed a w := by
  refine wpAnyH_ready (rs := [i, j]) hr (by simp) (AllReadyH.cons hi (fun K hK => ?_) (AllReadyH.cons hj (fun K hK => ?_) AllReadyH.nil))
  · rw [if_pos hw]
    exact h K hK
  · rw [if_pos hw2]
    exact h2 K hK
theorem call2L_at {P : Program} {md : Region.Mode} {ops : Array Oper} {Q : Exit → Act → World → Prop} {S : World → Prop} {ex : List Nat} {i j : Nat} {o o2 : Oper} {fuel : Nat} {listed : Array Bool} {a : Act} {w : World} (hi : ops[i]? = some o) (hj : ops[j]? = some o2)
    (hr : Region.ready md ops listed = [i, j]) (hw : Region.wanted o (yielded ops a.tmps) = true) (hw2 : Region.wanted o2 (yielded ops a.tmps) = true)
    (h : ∀ K' : Act → World → Prop, Shut (∀ a w, S w → (S w → wpAnyL P md ops Q S ex fuel (listed.setIfInBounds i true) a w) → K' a w) → Oper.wp P o a w K' Q)
    (h2 : ∀ K' : Act → World → Prop, Shut (∀ a w, S w → (S w → wpAnyL P md ops Q S ex fuel (listed.setIfInBounds j true) a w) → K' a w) → Oper.wp P o2 a w K' Q) : wpAnyL P md ops Q S ex (fuel + 1) listed a w := by
  refine ⟨fun h0 => (by rw [hr] at h0; cases h0), fun x hx => ?_⟩
  rw [hr] at hx
  have hx' : x = i ∨ x = j := by simpa using hx
  rcases hx' with rfl | rfl
  · have := h (fun a' w' => (ex.contains x = false → S w → S w') ∧ wpAnyL P md ops Q S ex fuel (listed.setIfInBounds x true) a' w') (fun a w hS hr => ⟨fun _ _ => hS, hr hS⟩)
    unfold wpOp
    simp only [hi, hw, if_true]
    exact .inl this
  · have := h2 (fun a' w' => (ex.contains x = false → S w → S w') ∧ wpAnyL P md ops Q S ex fuel (listed.setIfInBounds x true) a' w') (fun a w hS hr => ⟨fun _ _ => hS, hr hS⟩)
    unfold wpOp
    simp only [hj, hw2, if_true]
    exact .inl this
end Go.Proofs.YtgbahnlgblahpaaGreat
