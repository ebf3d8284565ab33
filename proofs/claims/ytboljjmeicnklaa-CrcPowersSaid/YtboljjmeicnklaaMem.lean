/- Slices that are read as lists of cells, and what keeps them. -/
import Derived.WalkKit
import Derived.Deep.Draws
import Derived.Deep.WholeRow
import Derived.Laws.IdiomStrings
import Derived.Lib.SlBytesConst
namespace Go.Proofs.Ytboljjmeicnklaa
open Go.RowKit

theorem hide {p : Prop} (h : p) : Hid p := h

/-- the slice value at A is read as the cells xs, which lie below block B; of an empty one nothing is asked -/
def Rd (w : World) (B : Nat) (A : Option Addr) (xs : List Value) : Prop :=
  xs ≠ [] → ∃ b off, A = some ⟨b, off, none⟩ ∧ b < B ∧ ∀ j u, xs[j]? = some u → w.cell? ⟨b, off + j, none⟩ = some u

section
variable {w w' : World} {B B' : Nat} {A : Option Addr} {xs : List Value}
theorem Rd.nil_ : Rd w B A [] := fun h => absurd rfl h
theorem Rd.at_ {k : Nat} (h : Rd w B A xs) (hk : k < xs.length) : ∃ b off, A = some ⟨b, off, none⟩ ∧ b < B ∧ ∀ j u, xs[j]? = some u → w.cell? ⟨b, off + j, none⟩ = some u :=
  h (fun e => by subst e; simp at hk)
theorem Rd.keep (h : Rd w B A xs) (hk : ∀ p : Addr, p.block < B → w'.cell? p = w.cell? p) : Rd w' B A xs := fun hn => by
  obtain ⟨b, off, e, hb, hc⟩ := h hn
  exact ⟨b, off, e, hb, fun j u hu => (hk _ hb).trans (hc j u hu)⟩
theorem Rd.more (h : Rd w B A xs) (hB : B ≤ B') : Rd w B' A xs := fun hn => by
  obtain ⟨b, off, e, hb, hc⟩ := h hn
  exact ⟨b, off, e, by omega, hc⟩
theorem Rd.below (h : Rd w B A xs) (hb : Below B w w') : Rd w' B A xs := h.keep fun _ hp => hb.cell hp
theorem Rd.below' (h : Rd w B A xs) (hb : Below B' w w') (hB : B ≤ B') : Rd w' B A xs := h.keep fun _ hp => hb.cell (Nat.lt_of_lt_of_le hp hB)
theorem Rd.drewN (h : Rd w B A xs) (k : Nat) : Rd (w.drewN k) B A xs := h
theorem Rd.drew (h : Rd w B A xs) : Rd w.drew B A xs := h
theorem Rd.alloc (h : Rd w B A xs) (hB : B ≤ w.heap.size) (o : Obj) : Rd (w.alloc o) B A xs := h.keep fun p hp => World.cell?_alloc_lt w o p (by omega)
theorem Rd.cut (h : Rd w B A xs) {k cap : Nat} (hk : k ≤ xs.length) (hc : xs.length ≤ cap) :
    Rd w B (if cap = k then A else A.map (·.add k)) (xs.drop k) := fun hn => by
  have hlt : k < xs.length := by
    rcases Nat.lt_or_ge k xs.length with hlt | hge
    · exact hlt
    · exact absurd (List.drop_eq_nil_of_le hge) hn
  obtain ⟨b, off, rfl, hb, hcell⟩ := h (fun e => by subst e; simp at hlt)
  rw [if_neg (by omega)]
  refine ⟨b, off + k, by simp only [Option.map_some, Addr.add]; split <;> simp_all, hb, fun j u hu => ?_⟩
  rw [List.getElem?_drop] at hu
  rw [Nat.add_assoc]
  exact hcell _ u hu
theorem Rd.take (h : Rd w B A xs) (k : Nat) : Rd w B A (xs.take k) := fun hn => by
  obtain ⟨b, off, e, hb, hc⟩ := h (fun e => by subst e; simp at hn)
  refine ⟨b, off, e, hb, fun j u hu => hc j u ?_⟩
  rw [List.getElem?_take] at hu
  split at hu
  · exact hu
  · cases hu
end
theorem Rd.new (w : World) (C : Array Value) (t : TypeId) (fr : Nat × Nat) : Rd (w.alloc (.cells C t fr)) (w.heap.size + 1) (some ⟨w.heap.size, 0, none⟩) C.toList := fun _ =>
  ⟨w.heap.size, 0, rfl, by omega, fun j u hu => by rw [Nat.zero_add, World.cell?_alloc_mark, ← hu]; simp⟩

/-- bytes, as the cells that hold them -/
def u8s (bs : List UInt8) : List Value := bs.map fun c => .int .u8 (c.toNat : Int)
theorem u8s_len (bs : List UInt8) : (u8s bs).length = bs.length := by simp [u8s]
theorem u8s_get {bs : List UInt8} {k : Nat} (h : k < bs.length) : (u8s bs)[k]? = some (.int .u8 ((bs[k]).toNat : Int)) := by simp [u8s, h]
theorem u8s_drop (bs : List UInt8) (k : Nat) : (u8s bs).drop k = u8s (bs.drop k) := by simp [u8s]
theorem u8s_take (bs : List UInt8) (k : Nat) : (u8s bs).take k = u8s (bs.take k) := by simp [u8s]
theorem u8s_append (a b : List UInt8) : u8s a ++ u8s b = u8s (a ++ b) := by simp [u8s]

end Go.Proofs.Ytboljjmeicnklaa
