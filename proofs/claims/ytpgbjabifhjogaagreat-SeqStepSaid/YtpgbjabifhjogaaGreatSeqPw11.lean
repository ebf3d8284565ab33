/- Lemmas: Os2. -/
import Derived.Test.YtpgbjabifhjogaaGreatSeqPw5
import Derived.Test.YtpgbjabifhjogaaGreatSeqPw10
set_option linter.unusedVariables false
set_option linter.unusedSimpArgs false
set_option maxRecDepth 100000
set_option maxHeartbeats 16000000
namespace Go.Proofs.YtpgbjabifhjogaaGreat
open Go.ChangeShapes Go.WideShapes Go.ChangeAt Go.RowKit Go.Deep
section
variable {H : Type} {enc : TypeId × Value → H}
theorem mails_of2 {t : TypeId} {fuel : Nat} {W : World} {cs : List Value} {x : DataW H × List MemPlace} (ht : Tryz.prog.underlying t = some (.slice 76))
  (h : DataW.trod enc Tryz.prog W 0 (fun _ => true) true fuel t cs = some x) (hz : ∀ n ∈ x.1.weights Tryz.prog t, n ≤ reachBytes) :
  ∃ (A : Option Addr) (l : List Ml) (c : Nat), cs = [.slice A l.length c] ∧ Rd W W.heap.size A (mlFlat l) ∧ l.length ≤ c ∧ c ≤ 9223372036854775807 ∧ ∀ m ∈ l, i64V m.2 := by
 obtain ⟨A, l, c, h1, h2, h3, _, h5⟩ := elems_of (X := Ml) ht (show Tryz.prog.cellsOf 76 = 2 by kernel_rfl) (by omega) h hz (fun cs m => cs = [.bool m.1, .int .i64 m.2] ∧ i64V m.2) (fun n cs y hy _ hl => by
  obtain ⟨y0, y1, n, _, hl2, h0, h1⟩ := trod_struct2 Tryz.underlying76 hy
  obtain ⟨b, e0, _⟩ := DataW.trod_bool Tryz.underlying4 h0
  obtain ⟨x, e1, _, w1⟩ := DataW.trod_int Tryz.underlying2 h1
  match cs, hl with
  | [a, c], _ =>
   have ea : a = .bool b := by simpa [show Tryz.prog.cellsOf 4 = 1 by kernel_rfl] using e0
   have ec : c = .int .i64 x := by simpa [show Tryz.prog.cellsOf 2 = 1 by kernel_rfl] using e1
   exact ⟨(b, x), by rw [ea, ec], bounds_i64 w1⟩)
 refine ⟨A, l, c, h1, Els.ml (fun hn => ?_), h3, h5, fun m hm => ?_⟩
 ·obtain ⟨b, off, e, hb, hc⟩ := h2 hn
  exact ⟨b, off, e, hb, fun i x hx => by
   obtain ⟨cs, hl, hr, hcc⟩ := hc i x hx
   exact ⟨cs, hl, hr.1, hcc⟩⟩
 ·obtain ⟨b, off, e, hb, hc⟩ := h2 (fun e => by rw [e] at hm; cases hm)
  obtain ⟨i, hi⟩ := List.getElem?_of_mem hm
  obtain ⟨cs, hl, hr, hcc⟩ := hc i m hi
  exact hr.2
theorem state_of2 {fuel : Nat} {W : World} {cs : List Value} {x : DataW H × List MemPlace}
  (h : DataW.trod enc Tryz.prog W 0 (fun _ => true) true fuel 33 cs = some x) (hz : ∀ n ∈ x.1.weights Tryz.prog 33, n ≤ reachBytes) :
  ∃ (st sm mo : Int) (vals : List Int) (chg : List Bool) (inb : List Ml) (A1 A2 A3 : Option Addr) (c1 c2 c3 : Nat), cs = [.int .i64 st, .slice A1 vals.length c1, .slice A2 chg.length c2, .slice A3 inb.length c3, .int .i64 sm, .int .i64 mo] ∧
   Rd W W.heap.size A1 (i64s vals) ∧ Rd W W.heap.size A2 (bools chg) ∧ Rd W W.heap.size A3 (mlFlat inb) ∧ (vals.length ≤ 9223372036854775807 ∧ chg.length ≤ 9223372036854775807 ∧ inb.length ≤ 9223372036854775807) ∧ ∀ m ∈ inb, i64V m.2 := by
 obtain ⟨xs, n, _, rfl, hl, hlen, hf⟩ := DataW.trod_struct Tryz.underlying33 h
 match xs, hlen with
 | [y0, y1, y2, y3, y4, y5], _ =>
  have h0 := hf 0 _ rfl
  have h1 := hf 1 _ rfl
  have h2 := hf 2 _ rfl
  have h3 := hf 3 _ rfl
  have h4 := hf 4 _ rfl
  have h5 := hf 5 _ rfl
  simp only [DataW.weights, Tryz.underlying33, DataW.weightsEach, List.map_cons, List.map_nil, List.append_nil, List.mem_append] at hz
  obtain ⟨st, e0, _, w0⟩ := DataW.trod_int Tryz.underlying3 h0
  obtain ⟨A1, vals, c1, e1, r1, b1, _, k1, _⟩ := nums_of Tryz.underlying29 Tryz.underlying2 int64_cells1 h1 (fun k hk => hz k (by exact .inr (.inl hk)))
  obtain ⟨A2, chg, c2, e2, r2, b2, k2⟩ := bools_of Tryz.underlying30 h2 (fun k hk => hz k (by exact .inr (.inr (.inl hk))))
  obtain ⟨A3, inb, c3, e3, r3, b3, k3, k4⟩ := mails_of2 Tryz.underlying31 h3 (fun k hk => hz k (by exact .inr (.inr (.inr (.inl hk)))))
  obtain ⟨sm, e4, _, w4⟩ := DataW.trod_int Tryz.underlying2 h4
  obtain ⟨mo, e5, _, w5⟩ := DataW.trod_int Tryz.underlying2 h5
  rw [show Tryz.prog.cellsOf 33 = 6 by kernel_rfl] at hl
  match cs, hl with
  | [a, b, c, d, f, g], _ =>
   have ea : a = .int .i64 st := by simpa [int_cells1] using e0
   have eb : b = .slice A1 vals.length c1 := by simpa [int_cells1, show Tryz.prog.cellsOf 29 = 1 by kernel_rfl] using e1
   have ec : c = .slice A2 chg.length c2 := by simpa [int_cells1, show Tryz.prog.cellsOf 29 = 1 by kernel_rfl, show Tryz.prog.cellsOf 30 = 1 by kernel_rfl] using e2
   have ed : d = .slice A3 inb.length c3 := by simpa [int_cells1, show Tryz.prog.cellsOf 29 = 1 by kernel_rfl, show Tryz.prog.cellsOf 30 = 1 by kernel_rfl, show Tryz.prog.cellsOf 31 = 1 by kernel_rfl] using e3
   have ef : f = .int .i64 sm := by simpa [int_cells1, int64_cells1, show Tryz.prog.cellsOf 29 = 1 by kernel_rfl, show Tryz.prog.cellsOf 30 = 1 by kernel_rfl, show Tryz.prog.cellsOf 31 = 1 by kernel_rfl] using e4
   have eg : g = .int .i64 mo := by simpa [int_cells1, int64_cells1, show Tryz.prog.cellsOf 29 = 1 by kernel_rfl, show Tryz.prog.cellsOf 30 = 1 by kernel_rfl, show Tryz.prog.cellsOf 31 = 1 by kernel_rfl] using e5
   exact ⟨st, sm, mo, vals, chg, inb, A1, A2, A3, c1, c2, c3, by rw [ea, eb, ec, ed, ef, eg], r1, r2, r3, ⟨by omega, by omega, by omega⟩, k4⟩
theorem open_state2 {W : World} {base : Nat} {r : Reach} {v : Value} {d : DataW H} {p : List MemPlace}
  (hv : Value.okWide Tryz.prog W r base 33 v) (h : DataW.Trod enc Tryz.prog W 0 (fun _ => true) true 33 v d p) (hz : ∀ n ∈ d.weights Tryz.prog 33, n ≤ reachBytes) :
  ∃ (st sm mo : Int) (vals : List Int) (chg : List Bool) (inb : List Ml) (A1 A2 A3 : Option Addr) (c1 c2 c3 : Nat), v = .agg #[.int .i64 st, .slice A1 vals.length c1, .slice A2 chg.length c2, .slice A3 inb.length c3, .int .i64 sm, .int .i64 mo] ∧
   Rd W W.heap.size A1 (i64s vals) ∧ Rd W W.heap.size A2 (bools chg) ∧ Rd W W.heap.size A3 (mlFlat inb) ∧ (vals.length ≤ 9223372036854775807 ∧ chg.length ≤ 9223372036854775807 ∧ inb.length ≤ 9223372036854775807) ∧ ∀ m ∈ inb, i64V m.2 := by
 obtain ⟨cs, rfl, hs⟩ := okWide_struct Tryz.underlying33 hv
 obtain ⟨fuel, hf⟩ := h
 obtain ⟨st, sm, mo, vals, chg, inb, A1, A2, A3, c1, c2, c3, e, h1⟩ := state_of2 hf hz
 refine ⟨st, sm, mo, vals, chg, inb, A1, A2, A3, c1, c2, c3, ?_, h1⟩
 have e2 : cs.toList = [.int .i64 st, .slice A1 vals.length c1, .slice A2 chg.length c2, .slice A3 inb.length c3, .int .i64 sm, .int .i64 mo] := e
 rw [show cs = cs.toList.toArray by simp, e2]
end
end Go.Proofs.YtpgbjabifhjogaaGreat
