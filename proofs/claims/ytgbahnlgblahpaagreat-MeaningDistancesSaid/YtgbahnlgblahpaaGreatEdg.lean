/- Edges that lie in memory. -/
import Derived.Test.YtgbahnlgblahpaaGreatKep
namespace Go.Proofs.YtgbahnlgblahpaaGreat
open Go.RowKit
set_option linter.unusedVariables false
abbrev Ed := Int × Int × Int
def Ed.value (e : Ed) : Value := .agg #[.int .i64 e.1, .int .i64 e.2.1, .int .i64 e.2.2]
/-- edges that lie in memory -/
def edCells (cs : List Value) (e : Ed) : Prop := cs = [.int .i64 e.1, .int .i64 e.2.1, .int .i64 e.2.2] ∧ (-9223372036854775808 ≤ e.2.2 ∧ e.2.2 ≤ 9223372036854775807)
def Eds (w : World) (B : Nat) (A : Option Addr) (es : List Ed) : Prop := Els w B 3 A es edCells
theorem Eds.kept {v w : World} {A : Option Addr} {es : List Ed} (h : Eds v v.heap.size A es) (hk : Kept v w) : Eds w v.heap.size A es := Els.keep h (fun p hp => hk p hp) fun _ _ h => h
theorem Eds.get {w : World} {B : Nat} {A : Option Addr} {es : List Ed} (h : Eds w B A es) {i : Nat} {e : Ed} (he : es[i]? = some e) : ∃ b off, A = some ⟨b, off, none⟩ ∧ b < B ∧
    w.cell? ⟨b, off + i * 3, none⟩ = some (.int .i64 e.1) ∧ w.cell? ⟨b, off + i * 3 + 1, none⟩ = some (.int .i64 e.2.1) ∧ w.cell? ⟨b, off + i * 3 + 2, none⟩ = some (.int .i64 e.2.2) ∧ -9223372036854775808 ≤ e.2.2 ∧ e.2.2 ≤ 9223372036854775807 := by
  obtain ⟨b, off, rfl, hb⟩ := Els.at_ h (List.getElem?_eq_some_iff.1 he).1
  obtain ⟨cs, hl, ⟨rfl, h1⟩, hc⟩ := Els.get h he
  exact ⟨b, off, rfl, hb, by simpa using hc 0 _ rfl, by simpa [Nat.add_assoc] using hc 1 _ rfl, by simpa [Nat.add_assoc] using hc 2 _ rfl, h1⟩
theorem Eds.below {w w' : World} {B B' : Nat} {A : Option Addr} {es : List Ed} (h : Eds w B A es) (hb : Below B' w w') (hB : B ≤ B') : Eds w' B A es := Els.keep h (fun p hp => hb.cell (Nat.lt_of_lt_of_le hp hB)) fun _ _ h => h
theorem Eds.kept' {v w : World} {B : Nat} {A : Option Addr} {es : List Ed} (h : Eds v B A es) (hB : B ≤ v.heap.size) (hk : Kept v w) : Eds w B A es := Els.keep h (fun p hp => hk p (by omega)) fun _ _ h => h
theorem Eds.next {w w' : World} {A : Option Addr} {es : List Ed} (h : Eds w w.heap.size A es) (hb : Below w.heap.size w w') : Eds w' w'.heap.size A es := Els.more (h.below hb (Nat.le_refl _)) hb.size
def edB (e : Ed) : Prop := -9223372036854775808 ≤ e.1 ∧ e.1 ≤ 9223372036854775807 ∧ -9223372036854775808 ≤ e.2.1 ∧ e.2.1 ≤ 9223372036854775807
end Go.Proofs.YtgbahnlgblahpaaGreat
