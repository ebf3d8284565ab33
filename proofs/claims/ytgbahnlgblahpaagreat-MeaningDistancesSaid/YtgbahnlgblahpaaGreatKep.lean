/- What keeps: every cell that lay there; rows that are the same, as a plain function. -/
import Derived.Test.YtgbahnlgblahpaaGreatMem
namespace Go.Proofs.YtgbahnlgblahpaaGreat
open Go.RowKit
/-- everything that lay in v is as it was -/
abbrev Kept (v w : World) : Prop := ∀ p : Addr, p.block < v.heap.size → w.cell? p = v.cell? p
theorem Kept.refl (v : World) : Kept v v := fun _ _ => rfl
theorem Kept.drew (v : World) : Kept v v.drew := fun _ _ => rfl
theorem Kept.below {v w w' : World} (h : Kept v w) (hs : v.heap.size ≤ w.heap.size) (hb : Below w.heap.size w w') : Kept v w' := fun p hp => (hb.cell (Nat.lt_of_lt_of_le hp hs)).trans (h p hp)
theorem Kept.of_below {v w : World} (hb : Below v.heap.size v w) : Kept v w := fun _ hp => hb.cell hp

theorem Rd.next {w w' : World} {A : Option Addr} {xs : List Value} (h : Rd w w.heap.size A xs) (hb : Below w.heap.size w w') : Rd w' w'.heap.size A xs := (h.below hb).more hb.size
theorem own_below_g {w w' : World} {base B : Nat} {e : TypeId} {size n c g : Nat} {xs : List Value} (h : w.ownsRow base e size (.slice (some ⟨g, 0, none⟩) n c) n xs) (hb : Below B w w') (hB : g < B) : w'.ownsRow base e size (.slice (some ⟨g, 0, none⟩) n c) n xs :=
  own_below h hb (fun g' hg' => (Option.some.inj (show some g = some g' from hg')) ▸ hB)
theorem own_max {w : World} {base : Nat} {e : TypeId} {size n c : Nat} {A : Option Addr} {xs : List Value} (h : w.ownsRow base e size (.slice A n c) n xs) : c ≤ 9223372036854775807 := by
  rcases h.2 with ⟨hv, rfl⟩ | ⟨g, cap, cur, hv, hb, hg, hnc, hm, _⟩
  · injection hv with h1 _ h3
    omega
  · injection hv with h1 _ h3
    subst h3
    unfold maxLen at hm
    exact hm
theorem ret_b {x y : Bool} (h : x = y) : Ending.returned (.bool x) = .returned (.bool y) := by rw [h]
theorem ret_n {k : IntKind} {x y : Int} (h : x = y) : Ending.returned (.int k x) = .returned (.int k y) := by rw [h]
def eqL {α : Type} [DecidableEq α] (xs ys : List α) : Bool := decide (xs = ys)
theorem eqL_nil {α : Type} [DecidableEq α] : eqL ([] : List α) [] = true := by simp [eqL]
theorem eqL_true {α : Type} [DecidableEq α] {xs ys : List α} : eqL xs ys = true ↔ xs = ys := by simp [eqL]
theorem eqL_self {α : Type} [DecidableEq α] (xs : List α) : eqL xs xs = true := by simp [eqL]
theorem eqL_len {α : Type} [DecidableEq α] {xs ys : List α} (h : ¬ xs.length = ys.length) : eqL xs ys = false := by
  unfold eqL
  exact decide_eq_false (fun e => h (by rw [e]))
theorem eqL_step {α : Type} [DecidableEq α] (xs ys : List α) (i : Nat) (h : i < xs.length) (h2 : i < ys.length) : eqL (xs.drop i) (ys.drop i) = (decide (xs[i] = ys[i]) && eqL (xs.drop (i + 1)) (ys.drop (i + 1))) := by
  unfold eqL
  rw [List.drop_eq_getElem_cons h, List.drop_eq_getElem_cons h2, Bool.eq_iff_iff]
  simp only [decide_eq_true_eq, Bool.and_eq_true, List.cons.injEq]
end Go.Proofs.YtgbahnlgblahpaaGreat
