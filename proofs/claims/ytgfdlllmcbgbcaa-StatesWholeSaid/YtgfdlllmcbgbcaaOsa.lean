/- An argument that is a state. -/
import Derived.Test.YtgfdlllmcbgbcaaOsp
namespace Go.Proofs.Ytgfdlllmcbgbcaa
open Go.ChangeShapes Go.WideShapes Go.ChangeAt Go.RowKit Go.Deep
set_option linter.unusedVariables false
section
variable {H : Type} {enc : TypeId × Value → H}
set_option maxRecDepth 100000 in
theorem state_of {fuel : Nat} {W : World} {cs : List Value} {x : DataW H × List MemPlace}
    (h : DataW.trod enc Try.prog W 0 (fun _ => true) true fuel 48 cs = some x) (hz : ∀ n ∈ x.1.weights Try.prog 48, n ≤ reachBytes) :
    ∃ (st sm mo : Int) (vals : List Int) (chg : List Bool) (inb : List Ml) (A1 A2 A3 : Option Addr) (c1 c2 c3 : Nat), cs = [.int .i64 st, .slice A1 vals.length c1, .slice A2 chg.length c2, .slice A3 inb.length c3, .int .i64 sm, .int .i64 mo] ∧
      Rd W W.heap.size A1 (i64s vals) ∧ Rd W W.heap.size A2 (bools chg) ∧ Rd W W.heap.size A3 (mlFlat inb) ∧ (vals.length ≤ 9223372036854775807 ∧ chg.length ≤ 9223372036854775807 ∧ inb.length ≤ 9223372036854775807) := by
  obtain ⟨xs, n, _, rfl, hl, hlen, hf⟩ := DataW.trod_struct Try.underlying48 h
  match xs, hlen with
  | [y0, y1, y2, y3, y4, y5], _ =>
    have h0 := hf 0 _ rfl
    have h1 := hf 1 _ rfl
    have h2 := hf 2 _ rfl
    have h3 := hf 3 _ rfl
    have h4 := hf 4 _ rfl
    have h5 := hf 5 _ rfl
    simp only [DataW.weights, Try.underlying48, DataW.weightsEach, List.map_cons, List.map_nil, List.append_nil, List.mem_append] at hz
    obtain ⟨st, e0, _, w0⟩ := DataW.trod_int Try.underlying3 h0
    obtain ⟨A1, vals, c1, e1, r1, b1, _, k1, _⟩ := nums_of Try.underlying23 Try.underlying2 int64_cells1 h1 (fun k hk => hz k (by exact .inr (.inl hk)))
    obtain ⟨A2, chg, c2, e2, r2, b2, k2⟩ := bools_of Try.underlying24 h2 (fun k hk => hz k (by exact .inr (.inr (.inl hk))))
    obtain ⟨A3, inb, c3, e3, r3, b3, k3⟩ := mails_of Try.underlying25 h3 (fun k hk => hz k (by exact .inr (.inr (.inr (.inl hk)))))
    obtain ⟨sm, e4, _, w4⟩ := DataW.trod_int Try.underlying2 h4
    obtain ⟨mo, e5, _, w5⟩ := DataW.trod_int Try.underlying2 h5
    rw [show Try.prog.cellsOf 48 = 6 by kernel_rfl] at hl
    match cs, hl with
    | [a, b, c, d, f, g], _ =>
      have ea : a = .int .i64 st := by simpa [int_cells1] using e0
      have eb : b = .slice A1 vals.length c1 := by simpa [int_cells1, show Try.prog.cellsOf 23 = 1 by kernel_rfl] using e1
      have ec : c = .slice A2 chg.length c2 := by simpa [int_cells1, show Try.prog.cellsOf 23 = 1 by kernel_rfl, show Try.prog.cellsOf 24 = 1 by kernel_rfl] using e2
      have ed : d = .slice A3 inb.length c3 := by simpa [int_cells1, show Try.prog.cellsOf 23 = 1 by kernel_rfl, show Try.prog.cellsOf 24 = 1 by kernel_rfl, show Try.prog.cellsOf 25 = 1 by kernel_rfl] using e3
      have ef : f = .int .i64 sm := by simpa [int_cells1, int64_cells1, show Try.prog.cellsOf 23 = 1 by kernel_rfl, show Try.prog.cellsOf 24 = 1 by kernel_rfl, show Try.prog.cellsOf 25 = 1 by kernel_rfl] using e4
      have eg : g = .int .i64 mo := by simpa [int_cells1, int64_cells1, show Try.prog.cellsOf 23 = 1 by kernel_rfl, show Try.prog.cellsOf 24 = 1 by kernel_rfl, show Try.prog.cellsOf 25 = 1 by kernel_rfl] using e5
      exact ⟨st, sm, mo, vals, chg, inb, A1, A2, A3, c1, c2, c3, by rw [ea, eb, ec, ed, ef, eg], r1, r2, r3, ⟨by omega, by omega, by omega⟩⟩
set_option maxRecDepth 100000 in
theorem open_state {W : World} {base : Nat} {r : Reach} {v : Value} {d : DataW H} {p : List MemPlace}
    (hv : Value.okWide Try.prog W r base 48 v) (h : DataW.Trod enc Try.prog W 0 (fun _ => true) true 48 v d p) (hz : ∀ n ∈ d.weights Try.prog 48, n ≤ reachBytes) :
    ∃ (st sm mo : Int) (vals : List Int) (chg : List Bool) (inb : List Ml) (A1 A2 A3 : Option Addr) (c1 c2 c3 : Nat), v = .agg #[.int .i64 st, .slice A1 vals.length c1, .slice A2 chg.length c2, .slice A3 inb.length c3, .int .i64 sm, .int .i64 mo] ∧
      Rd W W.heap.size A1 (i64s vals) ∧ Rd W W.heap.size A2 (bools chg) ∧ Rd W W.heap.size A3 (mlFlat inb) ∧ (vals.length ≤ 9223372036854775807 ∧ chg.length ≤ 9223372036854775807 ∧ inb.length ≤ 9223372036854775807) := by
  obtain ⟨cs, rfl, hs⟩ := okWide_struct Try.underlying48 hv
  obtain ⟨fuel, hf⟩ := h
  obtain ⟨st, sm, mo, vals, chg, inb, A1, A2, A3, c1, c2, c3, e, h1⟩ := state_of hf hz
  refine ⟨st, sm, mo, vals, chg, inb, A1, A2, A3, c1, c2, c3, ?_, h1⟩
  have e2 : cs.toList = [.int .i64 st, .slice A1 vals.length c1, .slice A2 chg.length c2, .slice A3 inb.length c3, .int .i64 sm, .int .i64 mo] := e
  rw [show cs = cs.toList.toArray by simp, e2]
end
end Go.Proofs.Ytgfdlllmcbgbcaa
