/- An address that is none of what was there. -/
import Derived.Test.YtgbahnlgblahpaaGreatMem
namespace Go.Proofs.YtgbahnlgblahpaaGreat
open Go.RowKit
/-- the address is none of what was there -/
def NewA (B : Nat) (A : Option Addr) : Prop := ∀ b off, A = some ⟨b, off, none⟩ → B ≤ b
theorem NewA.none_ (B : Nat) : NewA B none := fun _ _ e => by cases e
theorem NewA.mono {B C : Nat} {A : Option Addr} (h : NewA B A) (hC : C ≤ B) : NewA C A := fun b off e => Nat.le_trans hC (h b off e)
theorem own_new {w : World} {base B : Nat} {e : TypeId} {size n c : Nat} {A : Option Addr} {xs : List Value} (h : w.ownsRow base e size (.slice A n c) n xs) (hB : B ≤ base) : NewA B A := fun b off he => by
  subst he
  rcases h.2 with ⟨hv, _⟩ | ⟨g, cap, cur, hv, hb, _⟩
  · injection hv with h1
    cases h1
  · injection hv with h1
    injection h1 with h1
    injection h1 with h1
    subst h1
    exact Nat.le_trans hB hb
end Go.Proofs.YtgbahnlgblahpaaGreat
