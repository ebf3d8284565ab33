/- Rows of parts, in memory and as a value. -/
import Derived.Test.YtihdpfjonkagaaaProg
import Derived.Test.YtihdpfjonkagaaaPpv
import Derived.Test.YtihdpfjonkagaaaErw
import Derived.Test.YtihdpfjonkagaaaOed
namespace Go.Proofs.Ytihdpfjonkagaaa
open Go.ChangeShapes Go.WideShapes Go.ChangeAt Go.RowKit
set_option linter.unusedVariables false
def PLen (p : PartV) (no nu nb : Nat) : Prop := p.own.length = no ∧ p.out.length = nu ∧ p.back.length = nb
structure PIn (w : World) (p : PartV) (Ao Au Ab : Option Addr) : Prop where
  own : Rd w w.heap.size Ao (p.own.map (Value.int .i64))
  out : ERows w w.heap.size Au p.out
  back : ERows w w.heap.size Ab p.back
/-- these cells are that part -/
def PtVal (w : World) (cs : List Value) (p : PartV) : Prop := ∃ (Ao Au Ab : Option Addr) (no nu nb co cu cb : Nat), cs = [.int .i64 p.wk, .int .i64 p.ws, .int .i64 p.vs, .slice Ao no co, .slice Au nu cu, .slice Ab nb cb] ∧ PLen p no nu nb ∧ PIn w p Ao Au Ab ∧
  (no ≤ 9223372036854775807 ∧ nu ≤ 9223372036854775807 ∧ nb ≤ 9223372036854775807)
def PtRow (w : World) (A : Option Addr) (ps : List PartV) : Prop := Els w w.heap.size 6 A ps (PtVal w)
theorem PIn.kept {u w : World} {p : PartV} {Ao Au Ab : Option Addr} (h : PIn u p Ao Au Ab) (hk : Kept u w) (hs : u.heap.size ≤ w.heap.size) : PIn w p Ao Au Ab :=
  ⟨(h.own.keep hk).more hs, (h.out.keep hk).more hs, (h.back.keep hk).more hs⟩
theorem PtVal.kept {u w : World} {cs : List Value} {p : PartV} (h : PtVal u cs p) (hk : Kept u w) (hs : u.heap.size ≤ w.heap.size) : PtVal w cs p := by
  obtain ⟨Ao, Au, Ab, no, nu, nb, co, cu, cb, h1, h2, h3, h4⟩ := h
  exact ⟨Ao, Au, Ab, no, nu, nb, co, cu, cb, h1, h2, h3.kept hk hs, h4⟩
theorem PtRow.kept {u w : World} {A : Option Addr} {ps : List PartV} (h : PtRow u A ps) (hk : Kept u w) (hs : u.heap.size ≤ w.heap.size) : PtRow w A ps :=
  Els.more (Els.keep h hk fun _ _ hv => hv.kept hk hs) hs
theorem PtRow.next {u w : World} {A : Option Addr} {ps : List PartV} (h : PtRow u A ps) (hb : Below u.heap.size u w) : PtRow w A ps := h.kept (Kept.of_below hb) hb.size
theorem PtRow.nil (w : World) (A : Option Addr) : PtRow w A [] := Els.nil_
/-- one of a row -/
theorem PtRow.get {w : World} {A : Option Addr} {ps : List PartV} (h : PtRow w A ps) {i : Nat} {p : PartV} (hp : ps[i]? = some p) :
    ∃ b off, A = some ⟨b, off, none⟩ ∧ b < w.heap.size ∧ ∃ (Ao Au Ab : Option Addr) (no nu nb co cu cb : Nat),
      w.cell? ⟨b, off + i * 6, none⟩ = some (.int .i64 p.wk) ∧ w.cell? ⟨b, off + i * 6 + 1, none⟩ = some (.int .i64 p.ws) ∧ w.cell? ⟨b, off + i * 6 + 2, none⟩ = some (.int .i64 p.vs) ∧ w.cell? ⟨b, off + i * 6 + 3, none⟩ = some (.slice Ao no co) ∧ w.cell? ⟨b, off + i * 6 + 4, none⟩ = some (.slice Au nu cu) ∧ w.cell? ⟨b, off + i * 6 + 5, none⟩ = some (.slice Ab nb cb) ∧
      PLen p no nu nb ∧ PIn w p Ao Au Ab ∧ (no ≤ 9223372036854775807 ∧ nu ≤ 9223372036854775807 ∧ nb ≤ 9223372036854775807) := by
  obtain ⟨b, off, rfl, hb⟩ := Els.at_ h (List.getElem?_eq_some_iff.1 hp).1
  obtain ⟨cs, hl, ⟨Ao, Au, Ab, no, nu, nb, co, cu, cb, rfl, h2, h3, h4⟩, hc⟩ := Els.get h hp
  refine ⟨b, off, rfl, hb, Ao, Au, Ab, no, nu, nb, co, cu, cb, ?_, ?_, ?_, ?_, ?_, ?_, h2, h3, h4⟩
  · exact hc 0 _ rfl
  · exact hc 1 _ rfl
  · exact hc 2 _ rfl
  · exact hc 3 _ rfl
  · exact hc 4 _ rfl
  · exact hc 5 _ rfl
section
variable {H : Type} {enc : TypeId × Value → H}
theorem edges1 : Try.prog.cellsOf 28 = 1 := by kernel_rfl
set_option maxRecDepth 100000 in
theorem erows_of {t : TypeId} {fuel : Nat} {W : World} {cs : List Value} {x : DataW H × List MemPlace} (ht : Try.prog.underlying t = some (.slice 28))
    (h : DataW.trod enc Try.prog W 0 (fun _ => true) true fuel t cs = some x) (hz : ∀ n ∈ x.1.weights Try.prog t, n ≤ reachBytes) :
    ∃ (A : Option Addr) (rs : List (List Ed)) (c : Nat), cs = [.slice A rs.length c] ∧ ERows W W.heap.size A rs ∧ rs.length ≤ c ∧ c ≤ 9223372036854775807 := by
  obtain ⟨A, rs, c, h1, h2, h3, _, h5⟩ := elems_of (X := List Ed) ht edges1 (by omega) h hz (erwCells W W.heap.size) (fun n cs y hy hw _ => by
    obtain ⟨A, es, c, e, g1, g2, g3, _⟩ := edges_of Try.underlying28 hy hw
    exact ⟨es, A, c, e, g2, g3, g1⟩)
  exact ⟨A, rs, c, h1, h2, h3, h5⟩
set_option maxRecDepth 100000 in
theorem part_of {fuel : Nat} {W : World} {cs : List Value} {x : DataW H × List MemPlace}
    (h : DataW.trod enc Try.prog W 0 (fun _ => true) true fuel 34 cs = some x) (hz : ∀ n ∈ x.1.weights Try.prog 34, n ≤ reachBytes) : ∃ p : PartV, PtVal W cs p := by
  obtain ⟨xs, n, _, rfl, hl, hlen, hf⟩ := DataW.trod_struct Try.underlying34 h
  match xs, hlen with
  | [y0, y1, y2, y3, y4, y5], _ =>
    have h0 := hf 0 _ rfl
    have h1 := hf 1 _ rfl
    have h2 := hf 2 _ rfl
    have h3 := hf 3 _ rfl
    have h4 := hf 4 _ rfl
    have h5 := hf 5 _ rfl
    simp only [DataW.weights, Try.underlying34, DataW.weightsEach, List.map_cons, List.map_nil, List.append_nil, List.mem_append] at hz
    obtain ⟨x0, e0, _, w0⟩ := DataW.trod_int Try.underlying3 h0
    obtain ⟨x1, e1, _, w1⟩ := DataW.trod_int Try.underlying3 h1
    obtain ⟨x2, e2, _, w2⟩ := DataW.trod_int Try.underlying3 h2
    obtain ⟨Ao, own, co, e3, r3, b3, _, c3, _⟩ := nums_of Try.underlying24 Try.underlying3 int_cells h3 (fun k hk => hz k (by exact .inr (.inr (.inr (.inl hk)))))
    obtain ⟨Au, out, cu, e4, r4, b4, c4⟩ := erows_of Try.underlying32 h4 (fun k hk => hz k (by exact .inr (.inr (.inr (.inr (.inl hk))))))
    obtain ⟨Ab, back, cb, e5, r5, b5, c5⟩ := erows_of Try.underlying32 h5 (fun k hk => hz k (by exact .inr (.inr (.inr (.inr (.inr hk))))))
    rw [show Try.prog.cellsOf 34 = 6 by kernel_rfl] at hl
    match cs, hl with
    | [a, b, c, d, f, g], _ =>
      have ea : a = .int .i64 x0 := by simpa [int_cells] using e0
      have eb : b = .int .i64 x1 := by simpa [int_cells] using e1
      have ec : c = .int .i64 x2 := by simpa [int_cells] using e2
      have ed : d = .slice Ao own.length co := by simpa [int_cells, show Try.prog.cellsOf 24 = 1 by kernel_rfl] using e3
      have ef : f = .slice Au out.length cu := by simpa [int_cells, show Try.prog.cellsOf 24 = 1 by kernel_rfl, show Try.prog.cellsOf 32 = 1 by kernel_rfl] using e4
      have eg : g = .slice Ab back.length cb := by simpa [int_cells, show Try.prog.cellsOf 24 = 1 by kernel_rfl, show Try.prog.cellsOf 32 = 1 by kernel_rfl] using e5
      exact ⟨⟨x0, x1, x2, own, out, back⟩, Ao, Au, Ab, own.length, out.length, back.length, co, cu, cb, by rw [ea, eb, ec, ed, ef, eg], ⟨rfl, rfl, rfl⟩, ⟨r3, r4, r5⟩, ⟨by omega, by omega, by omega⟩⟩
set_option maxRecDepth 100000 in
theorem open_parts {t : TypeId} {W : World} {base : Nat} {r : Reach} {v : Value} {d : DataW H} {p : List MemPlace} (ht : Try.prog.underlying t = some (.slice 34))
    (hv : Value.okWide Try.prog W r base t v) (h : DataW.Trod enc Try.prog W 0 (fun _ => true) true t v d p) (hz : ∀ n ∈ d.weights Try.prog t, n ≤ reachBytes) :
    ∃ (A : Option Addr) (ps : List PartV) (c : Nat), v = .slice A ps.length c ∧ PtRow W A ps ∧ ps.length ≤ c ∧ c ≤ 9223372036854775807 := by
  obtain ⟨a0, len, cap, rfl⟩ := okWide_slice ht hv
  obtain ⟨fuel, hf⟩ := h
  obtain ⟨A, ps, c, h1, h2, h3, _, h5⟩ := elems_of (X := PartV) ht (show Try.prog.cellsOf 34 = 6 by kernel_rfl) (by omega) hf hz (PtVal W) (fun n cs y hy hw _ => part_of hy hw)
  simp only [Value.cells, List.cons.injEq, and_true] at h1
  exact ⟨A, ps, c, by simpa using h1, h2, h3, h5⟩
end
end Go.Proofs.Ytihdpfjonkagaaa
