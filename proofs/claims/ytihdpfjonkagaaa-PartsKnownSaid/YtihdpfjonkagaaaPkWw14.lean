/- Lemmas: Ppr. -/
import Derived.Test.YtihdpfjonkagaaaProg
import Derived.Deep.Strs
import Derived.Test.YtihdpfjonkagaaaPkWw2
import Derived.Test.YtihdpfjonkagaaaPkWw13
set_option linter.unusedVariables false
set_option linter.unusedSimpArgs false
set_option maxRecDepth 100000
set_option maxHeartbeats 16000000
namespace Go.Proofs.Ytihdpfjonkagaaa
open Go.ChangeShapes Go.WideShapes Go.ChangeAt Go.RowKit
def PLen (p : PartV) (no nu nb : Nat) : Prop := p.own.length = no ∧ p.out.length = nu ∧ p.back.length = nb
structure PIn (w : World) (p : PartV) (Ao Au Ab : Option Addr) : Prop where
 own : Rd w w.heap.size Ao (p.own.map (Value.int .i64))
 out : ERows w w.heap.size Au p.out
 back : ERows w w.heap.size Ab p.back
def PtVal (w : World) (cs : List Value) (p : PartV) : Prop := ∃ (Ao Au Ab : Option Addr) (no nu nb co cu cb : Nat), cs = [.int .i64 p.wk, .int .i64 p.ws, .int .i64 p.vs, .slice Ao no co, .slice Au nu cu, .slice Ab nb cb] ∧ PLen p no nu nb ∧ PIn w p Ao Au Ab ∧
 (no ≤ 9223372036854775807 ∧ nu ≤ 9223372036854775807 ∧ nb ≤ 9223372036854775807)
def PtRow (w : World) (A : Option Addr) (ps : List PartV) : Prop := Els w w.heap.size 6 A ps (PtVal w)
theorem PIn.kept {u w : World} {p : PartV} {Ao Au Ab : Option Addr} (h : PIn u p Ao Au Ab) (hk : Kept u w) (hs : u.heap.size ≤ w.heap.size) : PIn w p Ao Au Ab :=
 ⟨(h.own.keep hk).more hs, (h.out.keep hk).more hs, (h.back.keep hk).more hs⟩
theorem PtVal.kept {u w : World} {cs : List Value} {p : PartV} (h : PtVal u cs p) (hk : Kept u w) (hs : u.heap.size ≤ w.heap.size) : PtVal w cs p := by
 obtain ⟨Ao, Au, Ab, no, nu, nb, co, cu, cb, h1, h2, h3, h4⟩ := h
 exact ⟨Ao, Au, Ab, no, nu, nb, co, cu, cb, h1, h2, h3.kept hk hs, h4⟩
theorem PtRow.kept {u w : World} {A : Option Addr} {ps : List PartV} (h : PtRow u A ps) (hk : Kept u w) (hs : u.heap.size ≤ w.heap.size) : PtRow w A ps :=
 Els.more (Els.keep h hk fun _ _ hv => hv.kept hk hs) hs
theorem PtRow.next {u w : World} {A : Option Addr} {ps : List PartV} (h : PtRow u A ps) (hb : Below u.heap.size u w) : PtRow w A ps := h.kept (Kept.of_below hb) hb.size
theorem PtRow.nil (w : World) (A : Option Addr) : PtRow w A [] := Els.nil_
theorem PtRow.get {w : World} {A : Option Addr} {ps : List PartV} (h : PtRow w A ps) {i : Nat} {p : PartV} (hp : ps[i]? = some p) :
  ∃ b off, A = some ⟨b, off, none⟩ ∧ b < w.heap.size ∧ ∃ (Ao Au Ab : Option Addr) (no nu nb co cu cb : Nat),
   w.cell? ⟨b, off + i * 6, none⟩ = some (.int .i64 p.wk) ∧ w.cell? ⟨b, off + i * 6 + 1, none⟩ = some (.int .i64 p.ws) ∧ w.cell? ⟨b, off + i * 6 + 2, none⟩ = some (.int .i64 p.vs) ∧ w.cell? ⟨b, off + i * 6 + 3, none⟩ = some (.slice Ao no co) ∧ w.cell? ⟨b, off + i * 6 + 4, none⟩ = some (.slice Au nu cu) ∧ w.cell? ⟨b, off + i * 6 + 5, none⟩ = some (.slice Ab nb cb) ∧
   PLen p no nu nb ∧ PIn w p Ao Au Ab ∧ (no ≤ 9223372036854775807 ∧ nu ≤ 9223372036854775807 ∧ nb ≤ 9223372036854775807) := by
 obtain ⟨b, off, rfl, hb⟩ := Els.at_ h (List.getElem?_eq_some_iff.1 hp).1
 obtain ⟨cs, hl, ⟨Ao, Au, Ab, no, nu, nb, co, cu, cb, rfl, h2, h3, h4⟩, hc⟩ := Els.get h hp
 refine ⟨b, off, rfl, hb, Ao, Au, Ab, no, nu, nb, co, cu, cb, ?_, ?_, ?_, ?_, ?_, ?_, h2, h3, h4⟩
 ·exact hc 0 _ rfl
 ·exact hc 1 _ rfl
 ·exact hc 2 _ rfl
 ·exact hc 3 _ rfl
 ·exact hc 4 _ rfl
 ·exact hc 5 _ rfl
section
variable {H : Type} {enc : TypeId × Value → H}
end
end Go.Proofs.Ytihdpfjonkagaaa
