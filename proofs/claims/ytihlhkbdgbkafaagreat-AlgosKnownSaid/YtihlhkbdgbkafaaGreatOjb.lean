/- Arguments that are jobs, totals. (printed by gen/apw.py) -/
import Derived.Test.YtihlhkbdgbkafaaGreatOed
namespace Go.Proofs.YtihlhkbdgbkafaaGreat
open Go.ChangeShapes Go.WideShapes Go.ChangeAt Go.RowKit Go.Deep
set_option linter.unusedVariables false
section
variable {H : Type} {enc : TypeId × Value → H}
def i64B (x : Int) : Prop := -9223372036854775808 ≤ x ∧ x ≤ 9223372036854775807
set_option maxRecDepth 100000 in
theorem open_job {W : World} {base : Nat} {r : Reach} {v : Value} {d : DataW H} {p : List MemPlace}
    (hv : Value.okWide Tryz.prog W r base 28 v) (h : DataW.Trod enc Tryz.prog W 0 (fun _ => true) true 28 v d p) (hz : ∀ n ∈ d.weights Tryz.prog 28, n ≤ reachBytes) :
    ∃ (k j1 j2 j3 j4 : Int), v = .agg #[.int .u8 k, .int .i64 j1, .int .i64 j2, .int .i64 j3, .int .i64 j4] ∧ (0 ≤ k ∧ k ≤ 255) ∧ i64B j1 ∧ i64B j2 ∧ i64B j3 ∧ i64B j4 := by
  obtain ⟨cs, rfl, hs⟩ := okWide_struct Tryz.underlying28 hv
  obtain ⟨fuel, hf⟩ := h
  obtain ⟨xs, n, _, hcs, hl, hlen, hf⟩ := DataW.trod_struct Tryz.underlying28 hf
  match xs, hlen with
  | [y0, y1, y2, y3, y4], _ =>
    have h0 := hf 0 _ rfl
    have h1 := hf 1 _ rfl
    have h2 := hf 2 _ rfl
    have h3 := hf 3 _ rfl
    have h4 := hf 4 _ rfl
    obtain ⟨k, e0, _, w0⟩ := DataW.trod_int Tryz.underlying5 h0
    obtain ⟨a1, e1, _, w1⟩ := DataW.trod_int Tryz.underlying3 h1
    obtain ⟨a2, e2, _, w2⟩ := DataW.trod_int Tryz.underlying3 h2
    obtain ⟨a3, e3, _, w3⟩ := DataW.trod_int Tryz.underlying2 h3
    obtain ⟨a4, e4, _, w4⟩ := DataW.trod_int Tryz.underlying2 h4
    have b0 := bounds_u8 w0
    have b1 := bounds_i64 w1
    have b2 := bounds_i64 w2
    have b3 := bounds_i64 w3
    have b4 := bounds_i64 w4
    rw [show Tryz.prog.cellsOf 28 = 5 by kernel_rfl] at hl hs
    match cs, hs with
    | ⟨[a, b, c, d, f]⟩, _ =>
      have hu8 : Tryz.prog.cellsOf 5 = 1 := by kernel_rfl
      have hi : Tryz.prog.cellsOf 3 = 1 := by kernel_rfl
      have hi6 : Tryz.prog.cellsOf 2 = 1 := by kernel_rfl
      have ea : a = .int .u8 k := by simpa [Value.cells, hu8, hi, hi6] using e0
      have eb : b = .int .i64 a1 := by simpa [Value.cells, hu8, hi, hi6] using e1
      have ec : c = .int .i64 a2 := by simpa [Value.cells, hu8, hi, hi6] using e2
      have ed : d = .int .i64 a3 := by simpa [Value.cells, hu8, hi, hi6] using e3
      have ef : f = .int .i64 a4 := by simpa [Value.cells, hu8, hi, hi6] using e4
      exact ⟨k, a1, a2, a3, a4, by rw [ea, eb, ec, ed, ef], by omega, b1, b2, b3, b4⟩
set_option maxRecDepth 100000 in
theorem open_total {W : World} {base : Nat} {r : Reach} {v : Value} {d : DataW H} {p : List MemPlace}
    (hv : Value.okWide Tryz.prog W r base 36 v) (h : DataW.Trod enc Tryz.prog W 0 (fun _ => true) true 36 v d p) (hz : ∀ n ∈ d.weights Tryz.prog 36, n ≤ reachBytes) :
    ∃ (a b : Int), v = .agg #[.int .i64 a, .int .i64 b] ∧ i64B a ∧ i64B b := by
  obtain ⟨cs, rfl, hs⟩ := okWide_struct Tryz.underlying36 hv
  obtain ⟨fuel, hf⟩ := h
  obtain ⟨y0, y1, n, _, hl, h0, h1⟩ := trod_struct2 Tryz.underlying36 hf
  rw [show Tryz.prog.cellsOf 36 = 2 by kernel_rfl] at hs
  obtain ⟨x, e0, _, w0⟩ := DataW.trod_int Tryz.underlying2 h0
  obtain ⟨y, e1, _, w1⟩ := DataW.trod_int Tryz.underlying2 h1
  have b0 := bounds_i64 w0
  have b1 := bounds_i64 w1
  match cs, hs with
  | ⟨[a, c]⟩, _ =>
    have hi6 : Tryz.prog.cellsOf 2 = 1 := by kernel_rfl
    have ea : a = .int .i64 x := by simpa [Value.cells, hi6] using e0
    have ec : c = .int .i64 y := by simpa [Value.cells, hi6] using e1
    exact ⟨x, y, by rw [ea, ec], b0, b1⟩
end
end Go.Proofs.YtihlhkbdgbkafaaGreat
