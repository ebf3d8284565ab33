/- An argument that is a part of a state. -/
import Derived.Test.YtgfdlllmcbgbcaaRow
import Derived.Test.YtgfdlllmcbgbcaaProg
import Derived.Test.YtgfdlllmcbgbcaaSpv
namespace Go.Proofs.Ytgfdlllmcbgbcaa
open Go.ChangeShapes Go.WideShapes Go.ChangeAt Go.RowKit
set_option linter.unusedVariables false
theorem Els.ml {w : World} {B : Nat} {A : Option Addr} {l : List Ml} (h : Els w B 2 A l (fun cs m => cs = [.bool m.1, .int .i64 m.2])) : Rd w B A (mlFlat l) := fun hn => by
  obtain ⟨b, off, rfl, hb, hc⟩ := h (fun e => by subst e; exact hn rfl)
  refine ⟨b, off, rfl, hb, fun j u hu => ?_⟩
  have hj := (List.getElem?_eq_some_iff.1 hu).1
  rw [mlFlat_len] at hj
  have hi : j / 2 < l.length := by omega
  obtain ⟨cs, hl, rfl, hcc⟩ := hc (j / 2) _ (List.getElem?_eq_getElem hi)
  obtain ⟨g0, g1⟩ := mlFlat_get (List.getElem?_eq_getElem hi)
  rcases (show j % 2 = 0 ∨ j % 2 = 1 by omega) with h2 | h2
  · have hjj : j / 2 * 2 = j := by omega
    rw [hjj, hu] at g0
    obtain rfl : u = _ := by simpa using g0
    have := hcc 0 _ rfl
    rw [Nat.add_zero, hjj] at this
    exact this
  · have hjj : j / 2 * 2 + 1 = j := by omega
    rw [hjj, hu] at g1
    obtain rfl : u = _ := by simpa using g1
    have := hcc 1 _ rfl
    rw [hjj] at this
    exact this
section
variable {H : Type} {enc : TypeId × Value → H}
set_option maxRecDepth 100000 in
theorem bools_of {t : TypeId} {fuel : Nat} {W : World} {cs : List Value} {x : DataW H × List MemPlace} (ht : Try.prog.underlying t = some (.slice 4))
    (h : DataW.trod enc Try.prog W 0 (fun _ => true) true fuel t cs = some x) (hz : ∀ n ∈ x.1.weights Try.prog t, n ≤ reachBytes) :
    ∃ (A : Option Addr) (l : List Bool) (c : Nat), cs = [.slice A l.length c] ∧ Rd W W.heap.size A (bools l) ∧ l.length ≤ c ∧ c ≤ 9223372036854775807 := by
  obtain ⟨A, l, c, h1, h2, h3, _, h5⟩ := elems_of (X := Bool) ht (show Try.prog.cellsOf 4 = 1 by kernel_rfl) (by omega) h hz (fun cs b => cs = [.bool b]) (fun n cs y hy _ _ => by
    obtain ⟨b, e, _⟩ := DataW.trod_bool Try.underlying4 hy
    exact ⟨b, e⟩)
  exact ⟨A, l, c, h1, h2.rd (fun b => .bool b) (fun _ _ h => h), h3, h5⟩
set_option maxRecDepth 100000 in
theorem mails_of {t : TypeId} {fuel : Nat} {W : World} {cs : List Value} {x : DataW H × List MemPlace} (ht : Try.prog.underlying t = some (.slice 61))
    (h : DataW.trod enc Try.prog W 0 (fun _ => true) true fuel t cs = some x) (hz : ∀ n ∈ x.1.weights Try.prog t, n ≤ reachBytes) :
    ∃ (A : Option Addr) (l : List Ml) (c : Nat), cs = [.slice A l.length c] ∧ Rd W W.heap.size A (mlFlat l) ∧ l.length ≤ c ∧ c ≤ 9223372036854775807 := by
  obtain ⟨A, l, c, h1, h2, h3, _, h5⟩ := elems_of (X := Ml) ht (show Try.prog.cellsOf 61 = 2 by kernel_rfl) (by omega) h hz (fun cs m => cs = [.bool m.1, .int .i64 m.2]) (fun n cs y hy _ hl => by
    obtain ⟨y0, y1, n, _, hl2, h0, h1⟩ := trod_struct2 Try.underlying61 hy
    obtain ⟨b, e0, _⟩ := DataW.trod_bool Try.underlying4 h0
    obtain ⟨x, e1, _, w1⟩ := DataW.trod_int Try.underlying2 h1
    match cs, hl with
    | [a, c], _ =>
      have ea : a = .bool b := by simpa [show Try.prog.cellsOf 4 = 1 by kernel_rfl] using e0
      have ec : c = .int .i64 x := by simpa [show Try.prog.cellsOf 2 = 1 by kernel_rfl] using e1
      exact ⟨(b, x), by rw [ea, ec]⟩)
  exact ⟨A, l, c, h1, h2.ml, h3, h5⟩
theorem int_cells1 : Try.prog.cellsOf 3 = 1 := by kernel_rfl
theorem int64_cells1 : Try.prog.cellsOf 2 = 1 := by kernel_rfl
set_option maxRecDepth 100000 in
theorem spart_of {fuel : Nat} {W : World} {cs : List Value} {x : DataW H × List MemPlace}
    (h : DataW.trod enc Try.prog W 0 (fun _ => true) true fuel 27 cs = some x) (hz : ∀ n ∈ x.1.weights Try.prog 27, n ≤ reachBytes) :
    ∃ (p : SPart) (Ao Av Ac Ai : Option Addr) (no nv nc ni co cv cc ci : Nat), cs = [.int .i64 p.step, .slice Ao no co, .slice Av nv cv, .slice Ac nc cc, .slice Ai ni ci] ∧ SLen p no nv nc ni ∧ SIn W p Ao Av Ac Ai ∧
      (no ≤ 9223372036854775807 ∧ nv ≤ 9223372036854775807 ∧ nc ≤ 9223372036854775807 ∧ ni ≤ 9223372036854775807) ∧ (-9223372036854775808 ≤ p.step ∧ p.step ≤ 9223372036854775807) := by
  obtain ⟨xs, n, _, rfl, hl, hlen, hf⟩ := DataW.trod_struct Try.underlying27 h
  match xs, hlen with
  | [y0, y1, y2, y3, y4], _ =>
    have h0 := hf 0 _ rfl
    have h1 := hf 1 _ rfl
    have h2 := hf 2 _ rfl
    have h3 := hf 3 _ rfl
    have h4 := hf 4 _ rfl
    simp only [DataW.weights, Try.underlying27, DataW.weightsEach, List.map_cons, List.map_nil, List.append_nil, List.mem_append] at hz
    obtain ⟨st, e0, _, w0⟩ := DataW.trod_int Try.underlying3 h0
    obtain ⟨Ao, own, co, e1, r1, b1, _, c1, _⟩ := nums_of Try.underlying22 Try.underlying3 int_cells1 h1 (fun k hk => hz k (by exact .inr (.inl hk)))
    obtain ⟨Av, vals, cv, e2, r2, b2, _, c2, _⟩ := nums_of Try.underlying23 Try.underlying2 int64_cells1 h2 (fun k hk => hz k (by exact .inr (.inr (.inl hk))))
    obtain ⟨Ac, chg, cc, e3, r3, b3, c3⟩ := bools_of Try.underlying24 h3 (fun k hk => hz k (by exact .inr (.inr (.inr (.inl hk)))))
    obtain ⟨Ai, inb, ci, e4, r4, b4, c4⟩ := mails_of Try.underlying25 h4 (fun k hk => hz k (by exact .inr (.inr (.inr (.inr hk)))))
    have bx := bounds_i64 w0
    rw [show Try.prog.cellsOf 27 = 5 by kernel_rfl] at hl
    match cs, hl with
    | [a, b, c, d, f], _ =>
      have ea : a = .int .i64 st := by simpa [int_cells1] using e0
      have eb : b = .slice Ao own.length co := by simpa [show Try.prog.cellsOf 22 = 1 by kernel_rfl] using e1
      have ec : c = .slice Av vals.length cv := by simpa [show Try.prog.cellsOf 23 = 1 by kernel_rfl] using e2
      have ed : d = .slice Ac chg.length cc := by simpa [show Try.prog.cellsOf 24 = 1 by kernel_rfl] using e3
      have ef : f = .slice Ai inb.length ci := by simpa [show Try.prog.cellsOf 25 = 1 by kernel_rfl] using e4
      exact ⟨⟨st, own, vals, chg, inb⟩, Ao, Av, Ac, Ai, own.length, vals.length, chg.length, inb.length, co, cv, cc, ci, by rw [ea, eb, ec, ed, ef], ⟨rfl, rfl, rfl, rfl⟩, ⟨r1, r2, r3, r4⟩, ⟨by omega, by omega, by omega, by omega⟩, bx⟩
set_option maxRecDepth 100000 in
theorem open_spart {W : World} {base : Nat} {r : Reach} {v : Value} {d : DataW H} {p : List MemPlace}
    (hv : Value.okWide Try.prog W r base 27 v) (h : DataW.Trod enc Try.prog W 0 (fun _ => true) true 27 v d p) (hz : ∀ n ∈ d.weights Try.prog 27, n ≤ reachBytes) :
    ∃ (p : SPart) (Ao Av Ac Ai : Option Addr) (no nv nc ni co cv cc ci : Nat), v = .agg #[.int .i64 p.step, .slice Ao no co, .slice Av nv cv, .slice Ac nc cc, .slice Ai ni ci] ∧ SLen p no nv nc ni ∧ SIn W p Ao Av Ac Ai ∧
      (no ≤ 9223372036854775807 ∧ nv ≤ 9223372036854775807 ∧ nc ≤ 9223372036854775807 ∧ ni ≤ 9223372036854775807) := by
  obtain ⟨cs, rfl, hs⟩ := okWide_struct Try.underlying27 hv
  obtain ⟨fuel, hf⟩ := h
  obtain ⟨p, Ao, Av, Ac, Ai, no, nv, nc, ni, co, cv, cc, ci, e, h1, h2, h3, _⟩ := spart_of hf hz
  refine ⟨p, Ao, Av, Ac, Ai, no, nv, nc, ni, co, cv, cc, ci, ?_, h1, h2, h3⟩
  have e2 : cs.toList = [.int .i64 p.step, .slice Ao no co, .slice Av nv cv, .slice Ac nc cc, .slice Ai ni ci] := e
  rw [show cs = cs.toList.toArray by simp, e2]
end
end Go.Proofs.Ytgfdlllmcbgbcaa
