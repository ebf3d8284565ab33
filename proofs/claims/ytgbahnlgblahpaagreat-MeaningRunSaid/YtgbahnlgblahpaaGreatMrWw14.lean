/- Lemmas: Oed, Ojb. -/
import Derived.Deep.Strs
import Derived.Test.YtgbahnlgblahpaaGreatMrWw2
set_option linter.unusedVariables false
set_option linter.unusedSimpArgs false
set_option maxRecDepth 100000
set_option maxHeartbeats 16000000
namespace Go.Proofs.YtgbahnlgblahpaaGreat
open Go.ChangeShapes Go.WideShapes Go.ChangeAt Go.RowKit Go.Deep
section
variable {H : Type} {enc : TypeId × Value → H}
theorem edge_cells : Tryz.prog.cellsOf 46 = 3 := by kernel_rfl
theorem int_cells : Tryz.prog.cellsOf 3 = 1 := by kernel_rfl
theorem edge_of {fuel : Nat} {W : World} {cs : List Value} {x : DataW H × List MemPlace}
  (h : DataW.trod enc Tryz.prog W 0 (fun _ => true) true fuel 46 cs = some x) : ∃ e : Ed, edCells cs e ∧ edB e := by
 obtain ⟨y0, y1, y2, n, rfl, hl, h0, h1, h2⟩ := trod_struct3 Tryz.underlying46 h
 rw [edge_cells] at hl
 match cs, hl with
 | [a, b, c], _ =>
  obtain ⟨f, e0, _, w0⟩ := DataW.trod_int Tryz.underlying3 h0
  obtain ⟨t, e1, _, w1⟩ := DataW.trod_int Tryz.underlying3 h1
  obtain ⟨x, e2, _, w2⟩ := DataW.trod_int Tryz.underlying2 h2
  have e0' : a = .int .i64 f := by simpa [int_cells] using e0
  have e1' : b = .int .i64 t := by simpa [int_cells] using e1
  have e2' : c = .int .i64 x := by simpa [int64_cells] using e2
  have b0 := bounds_i64 w0
  have b1 := bounds_i64 w1
  have b2 := bounds_i64 w2
  exact ⟨(f, t, x), ⟨by rw [e0', e1', e2'], b2⟩, b0.1, b0.2, b1.1, b1.2⟩
theorem edges_of {t : TypeId} {fuel : Nat} {W : World} {cs : List Value} {x : DataW H × List MemPlace} (ht : Tryz.prog.underlying t = some (.slice 46))
  (h : DataW.trod enc Tryz.prog W 0 (fun _ => true) true fuel t cs = some x) (hz : ∀ n ∈ x.1.weights Tryz.prog t, n ≤ reachBytes) :
  ∃ (A : Option Addr) (es : List Ed) (c : Nat), cs = [.slice A es.length c] ∧ Eds W W.heap.size A es ∧ es.length ≤ c ∧ c ≤ 9223372036854775807 ∧ ∀ e ∈ es, edB e := by
 obtain ⟨A, xs, c, h1, h2, h3, h4, h5⟩ := elems_of (X := { e : Ed // edB e }) ht edge_cells (by omega) h hz (fun cs e => edCells cs e.1) (fun n cs y hy _ _ => by
  obtain ⟨e, h1, h2⟩ := edge_of hy
  exact ⟨⟨e, h2⟩, h1⟩)
 refine ⟨A, xs.map (·.1), c, by rw [List.length_map]; exact h1, fun hn => ?_, by rw [List.length_map]; exact h3, h5, fun e he => ?_⟩
 ·obtain ⟨b, off, e, hb, hc⟩ := h2 (fun e => by subst e; simp at hn)
  refine ⟨b, off, e, hb, fun i x hx => ?_⟩
  rw [List.getElem?_map, Option.map_eq_some_iff] at hx
  obtain ⟨y, hy, rfl⟩ := hx
  exact hc i y hy
 ·obtain ⟨y, _, rfl⟩ := List.mem_map.1 he
  exact y.2
theorem graph_cells : Tryz.prog.cellsOf 24 = 2 := by kernel_rfl
theorem edges_cells : Tryz.prog.cellsOf 22 = 1 := by kernel_rfl
theorem open_graph {W : World} {base : Nat} {r : Reach} {v : Value} {d : DataW H} {p : List MemPlace}
  (hv : Value.okWide Tryz.prog W r base 24 v) (h : DataW.Trod enc Tryz.prog W 0 (fun _ => true) true 24 v d p) (hz : ∀ n ∈ d.weights Tryz.prog 24, n ≤ reachBytes) :
  ∃ (V : Int) (A : Option Addr) (es : List Ed) (c : Nat), v = .agg #[.int .i64 V, .slice A es.length c] ∧ -9223372036854775808 ≤ V ∧ V ≤ 9223372036854775807 ∧ Eds W W.heap.size A es ∧ es.length ≤ c ∧ c ≤ 9223372036854775807 ∧ ∀ e ∈ es, edB e := by
 obtain ⟨cs, rfl, hs⟩ := okWide_struct Tryz.underlying24 hv
 obtain ⟨fuel, hf⟩ := h
 obtain ⟨y0, y1, n, hx, hl, h0, h1⟩ := trod_struct2 Tryz.underlying24 hf
 rw [graph_cells] at hs
 obtain ⟨V, e0, _, w0⟩ := DataW.trod_int Tryz.underlying3 h0
 obtain ⟨A, es, c, e1, k1, k2, k3, k4⟩ := edges_of Tryz.underlying22 h1 (fun k hk => hz k (by
   have hx1 : d = .agg [y0.1, y1.1] := by injection hx
   subst hx1
   simp only [DataW.weights, Tryz.underlying24, DataW.weightsEach, List.map_cons, List.map_nil, List.append_nil]
   exact List.mem_append_right _ hk))
 have bx := bounds_i64 w0
 match cs, hs with
 | ⟨[a, b]⟩, _ =>
  have ea : a = .int .i64 V := by simpa [Value.cells, int_cells] using e0
  have eb : b = .slice A es.length c := by simpa [Value.cells, edges_cells] using e1
  exact ⟨V, A, es, c, by rw [ea, eb], bx.1, bx.2, k1, k2, k3, k4⟩
end
end Go.Proofs.YtgbahnlgblahpaaGreat
namespace Go.Proofs.YtgbahnlgblahpaaGreat
open Go.ChangeShapes Go.WideShapes Go.ChangeAt Go.RowKit Go.Deep
section
variable {H : Type} {enc : TypeId × Value → H}
def i64B (x : Int) : Prop := -9223372036854775808 ≤ x ∧ x ≤ 9223372036854775807
theorem open_job {W : World} {base : Nat} {r : Reach} {v : Value} {d : DataW H} {p : List MemPlace}
  (hv : Value.okWide Tryz.prog W r base 26 v) (h : DataW.Trod enc Tryz.prog W 0 (fun _ => true) true 26 v d p) (hz : ∀ n ∈ d.weights Tryz.prog 26, n ≤ reachBytes) :
  ∃ (k j1 j2 j3 j4 : Int), v = .agg #[.int .u8 k, .int .i64 j1, .int .i64 j2, .int .i64 j3, .int .i64 j4] ∧ (0 ≤ k ∧ k ≤ 255) ∧ i64B j1 ∧ i64B j2 ∧ i64B j3 ∧ i64B j4 := by
 obtain ⟨cs, rfl, hs⟩ := okWide_struct Tryz.underlying26 hv
 obtain ⟨fuel, hf⟩ := h
 obtain ⟨xs, n, _, hcs, hl, hlen, hf⟩ := DataW.trod_struct Tryz.underlying26 hf
 match xs, hlen with
 | [y0, y1, y2, y3, y4], _ =>
  have h0 := hf 0 _ rfl
  have h1 := hf 1 _ rfl
  have h2 := hf 2 _ rfl
  have h3 := hf 3 _ rfl
  have h4 := hf 4 _ rfl
  obtain ⟨k, e0, _, w0⟩ := DataW.trod_int Tryz.underlying5 h0
  obtain ⟨a1, e1, _, w1⟩ := DataW.trod_int Tryz.underlying3 h1
  obtain ⟨a2, e2, _, w2⟩ := DataW.trod_int Tryz.underlying3 h2
  obtain ⟨a3, e3, _, w3⟩ := DataW.trod_int Tryz.underlying2 h3
  obtain ⟨a4, e4, _, w4⟩ := DataW.trod_int Tryz.underlying2 h4
  have b0 := bounds_u8 w0
  have b1 := bounds_i64 w1
  have b2 := bounds_i64 w2
  have b3 := bounds_i64 w3
  have b4 := bounds_i64 w4
  rw [show Tryz.prog.cellsOf 26 = 5 by kernel_rfl] at hl hs
  match cs, hs with
  | ⟨[a, b, c, d, f]⟩, _ =>
   have hu8 : Tryz.prog.cellsOf 5 = 1 := by kernel_rfl
   have hi : Tryz.prog.cellsOf 3 = 1 := by kernel_rfl
   have hi6 : Tryz.prog.cellsOf 2 = 1 := by kernel_rfl
   have ea : a = .int .u8 k := by simpa [Value.cells, hu8, hi, hi6] using e0
   have eb : b = .int .i64 a1 := by simpa [Value.cells, hu8, hi, hi6] using e1
   have ec : c = .int .i64 a2 := by simpa [Value.cells, hu8, hi, hi6] using e2
   have ed : d = .int .i64 a3 := by simpa [Value.cells, hu8, hi, hi6] using e3
   have ef : f = .int .i64 a4 := by simpa [Value.cells, hu8, hi, hi6] using e4
   exact ⟨k, a1, a2, a3, a4, by rw [ea, eb, ec, ed, ef], by omega, b1, b2, b3, b4⟩
end
end Go.Proofs.YtgbahnlgblahpaaGreat
