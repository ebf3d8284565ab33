/- Numbers at places of rows. -/
import Derived.Test.YtgbahnlgblahpaaGreatKep
import Derived.Test.YtgbahnlgblahpaaGreatProg
import Derived.Lib.Hide
import Derived.WalkSpells
import Derived.WalkMore
namespace Go.Proofs.YtgbahnlgblahpaaGreat
open Go.RowKit
def atI (l : List Int) (i : Int) : Int := (l[i.toNat]?).getD 0
theorem rd_at {w : World} {B b off : Nat} {vals : List Int} (h : Rd w B (some ⟨b, off, none⟩) (vals.map (Value.int .i64))) {k : Nat} (hk : k < vals.length) : w.cell? ⟨b, off + k, none⟩ = some (.int .i64 (atI vals (k : Int))) := by
  have := h.cell (j := k) (u := .int .i64 vals[k]) (by simp [hk])
  rw [this, atI]
  simp [hk]
end Go.Proofs.YtgbahnlgblahpaaGreat
