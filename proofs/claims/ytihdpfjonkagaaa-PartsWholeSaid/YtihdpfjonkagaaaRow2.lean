/- Own rows of different types lie in different blocks. -/
import Derived.Test.YtihdpfjonkagaaaMem
namespace Go.Proofs.Ytihdpfjonkagaaa
open Go.RowKit
theorem own_apart {w : World} {b1 b2 : Nat} {e1 e2 : TypeId} {s1 s2 n1 n2 : Nat} {v1 v2 : Value} {xs ys : List Value} (h1 : w.ownsRow b1 e1 s1 v1 n1 xs) (h2 : w.ownsRow b2 e2 s2 v2 n2 ys) (he : e1 ≠ e2) : v1.ownBlock = none ∨ v1.ownBlock ≠ v2.ownBlock := by
  rcases h1.2 with ⟨rfl, _⟩ | ⟨g, cap, cur, rfl, _, hc, _⟩
  · exact .inl rfl
  · refine .inr fun e => ?_
    rcases h2.2 with ⟨rfl, _⟩ | ⟨g2, cap2, cur2, rfl, _, hc2, _⟩
    · cases e
    · have e := Option.some.inj (show some g = some g2 from e)
      subst e
      rw [hc] at hc2
      injection hc2 with hc2
      injection hc2 with _ h
      exact he h
end Go.Proofs.Ytihdpfjonkagaaa
