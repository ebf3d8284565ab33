/- Messages that lie in memory. -/
import Derived.Test.YtihlhkbdgbkafaaGreatKep
namespace Go.Proofs.YtihlhkbdgbkafaaGreat
open Go.RowKit
set_option linter.unusedVariables false
abbrev Ms := Int × Int
def msCells (cs : List Value) (m : Ms) : Prop := cs = [.int .i64 m.1, .int .i64 m.2]
/-- messages that lie in memory -/
def Mss (w : World) (B : Nat) (A : Option Addr) (l : List Ms) : Prop := Els w B 2 A l msCells
theorem Mss.get {w : World} {B : Nat} {A : Option Addr} {l : List Ms} (h : Mss w B A l) {i : Nat} {m : Ms} (he : l[i]? = some m) : ∃ b off, A = some ⟨b, off, none⟩ ∧ b < B ∧
    w.cell? ⟨b, off + i * 2, none⟩ = some (.int .i64 m.1) ∧ w.cell? ⟨b, off + i * 2 + 1, none⟩ = some (.int .i64 m.2) := by
  obtain ⟨b, off, rfl, hb⟩ := Els.at_ h (List.getElem?_eq_some_iff.1 he).1
  obtain ⟨cs, hl, h1, hc⟩ := Els.get h he
  obtain rfl : cs = [.int .i64 m.1, .int .i64 m.2] := h1
  exact ⟨b, off, rfl, hb, by simpa using hc 0 _ rfl, by simpa [Nat.add_assoc] using hc 1 _ rfl⟩
theorem Mss.below {w w' : World} {B B' : Nat} {A : Option Addr} {l : List Ms} (h : Mss w B A l) (hb : Below B' w w') (hB : B ≤ B') : Mss w' B A l := Els.keep h (fun p hp => hb.cell (Nat.lt_of_lt_of_le hp hB)) fun _ _ h => h
theorem Mss.next {w w' : World} {A : Option Addr} {l : List Ms} (h : Mss w w.heap.size A l) (hb : Below w.heap.size w w') : Mss w' w'.heap.size A l := Els.more (h.below hb (Nat.le_refl _)) hb.size
end Go.Proofs.YtihlhkbdgbkafaaGreat
