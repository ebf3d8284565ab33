/- Steps of a script: how they lie in memory, how an argument of steps is opened. -/
import Derived.Test.YtigmmikijjcdiaaMem
import Derived.Test.YtigmmikijjcdiaaRow
import Derived.Deep.Strs
import Derived.Lib.SmallJoins
namespace Go.Proofs.Ytigmmikijjcdiaa
open Go.ChangeShapes Go.WideShapes Go.ChangeAt Go.RowKit Go.Deep
set_option linter.unusedVariables false
set_option maxRecDepth 100000
structure Stp4 where
  k : Nat
  a : Nat
  n : Nat
  A : Option Addr
  b : List UInt8
  c : Nat
def Stp4.ok (x : Stp4) : Prop := x.k < 256 ∧ x.a < 256 ∧ x.n < 256 ∧ x.b.length ≤ 140737488351232
def stpCells (w : World) (B : Nat) (cs : List Value) (x : Stp4) : Prop := cs = [.int .u8 x.k, .int .u8 x.a, .int .u8 x.n, .slice x.A x.b.length x.c] ∧ Rd w B x.A (u8s x.b) ∧ x.ok
def Stps (w : World) (B : Nat) (A : Option Addr) (xs : List Stp4) : Prop := Els w B 4 A xs (stpCells w B)
theorem Stps.below {w w' : World} {B B' : Nat} {A : Option Addr} {xs : List Stp4} (h : Stps w B A xs) (hb : Below B' w w') (hB : B ≤ B') : Stps w' B A xs :=
  Els.keep h (fun p hp => hb.cell (Nat.lt_of_lt_of_le hp hB)) fun cs x hx => ⟨hx.1, hx.2.1.below' hb hB, hx.2.2⟩
theorem Stps.get {w : World} {B : Nat} {A : Option Addr} {xs : List Stp4} (h : Stps w B A xs) {i : Nat} {x : Stp4} (hx : xs[i]? = some x) : ∃ b off, A = some ⟨b, off, none⟩ ∧ b < B ∧
    w.cell? ⟨b, off + i * 4, none⟩ = some (.int .u8 x.k) ∧ w.cell? ⟨b, off + i * 4 + 1, none⟩ = some (.int .u8 x.a) ∧ w.cell? ⟨b, off + i * 4 + 2, none⟩ = some (.int .u8 x.n) ∧ w.cell? ⟨b, off + i * 4 + 3, none⟩ = some (.slice x.A x.b.length x.c) ∧
    Rd w B x.A (u8s x.b) ∧ x.ok := by
  obtain ⟨b, off, rfl, hb⟩ := Els.at_ h (List.getElem?_eq_some_iff.1 hx).1
  obtain ⟨cs, hl, ⟨rfl, hr, hk⟩, hc⟩ := Els.get h hx
  exact ⟨b, off, rfl, hb, by simpa using hc 0 _ rfl, by simpa [Nat.add_assoc] using hc 1 _ rfl, by simpa [Nat.add_assoc] using hc 2 _ rfl, by simpa [Nat.add_assoc] using hc 3 _ rfl, hr, hk⟩
section
variable {H : Type} {enc : TypeId × Value → H}
theorem stp_cells : Try.prog.cellsOf 40 = 4 := by kernel_rfl
theorem stp_of {fuel : Nat} {W : World} {cs : List Value} {x : DataW H × List MemPlace}
    (h : DataW.trod enc Try.prog W 0 (fun _ => true) true fuel 40 cs = some x) (hz : ∀ n ∈ x.1.weights Try.prog 40, n ≤ reachBytes) : ∃ it, stpCells W W.heap.size cs it := by
  obtain ⟨y0, y1, y2, y3, n, rfl, hl, h0, h1, h2, h3⟩ := Go.Joins.trod_struct4 Try.underlying40 h
  rw [stp_cells] at hl
  match cs, hl with
  | [a, b, c, d], _ =>
    obtain ⟨z0, e0, _, w0⟩ := DataW.trod_int Try.underlying5 h0
    obtain ⟨z1, e1, _, w1⟩ := DataW.trod_int Try.underlying5 h1
    obtain ⟨z2, e2, _, w2⟩ := DataW.trod_int Try.underlying5 h2
    obtain ⟨A, bs, c', e3, hr, hc1, hc2⟩ := bytes_of Try.underlying23 Try.underlying5 bytes_cells bytes_bytes h3 (fun k hk => hz k (by
      simp only [DataW.weights, Try.underlying40, DataW.weightsEach, List.map_cons, List.map_nil, List.append_nil]
      exact List.mem_append_right _ (List.mem_append_right _ (List.mem_append_right _ hk))))
    have b0 := bounds_u8 w0
    have b1 := bounds_u8 w1
    have b2 := bounds_u8 w2
    obtain ⟨k, rfl⟩ := Int.eq_ofNat_of_zero_le b0.1
    obtain ⟨m, rfl⟩ := Int.eq_ofNat_of_zero_le b1.1
    obtain ⟨q, rfl⟩ := Int.eq_ofNat_of_zero_le b2.1
    refine ⟨⟨k, m, q, A, bs, c'⟩, ?_, hr, by simp only; omega, by simp only; omega, by simp only; omega, by simp only; omega⟩
    have e0' : a = .int .u8 k := by simpa [bytes_cells] using e0
    have e1' : b = .int .u8 m := by simpa [bytes_cells] using e1
    have e2' : c = .int .u8 q := by simpa [bytes_cells] using e2
    have e3' : d = .slice A bs.length c' := by simpa [show Try.prog.cellsOf 23 = 1 by kernel_rfl, bytes_cells] using e3
    rw [e0', e1', e2', e3']
theorem open_steps {W : World} {base : Nat} {r : Reach} {v : Value} {d : DataW H} {p : List MemPlace}
    (hv : Value.okWide Try.prog W r base 38 v) (h : DataW.Trod enc Try.prog W 0 (fun _ => true) true 38 v d p) (hz : ∀ n ∈ d.weights Try.prog 38, n ≤ reachBytes) :
    ∃ (A : Option Addr) (xs : List Stp4) (c : Nat), v = .slice A xs.length c ∧ Stps W W.heap.size A xs ∧ xs.length ≤ c ∧ c ≤ 9223372036854775807 := by
  obtain ⟨a0, len, cap, rfl⟩ := okWide_slice Try.underlying38 hv
  obtain ⟨fuel, hf⟩ := h
  obtain ⟨A, xs, c, h1, h2, h3, h4, h5⟩ := elems_of Try.underlying38 stp_cells (by omega) hf hz (stpCells W W.heap.size) (fun n cs y hy hk _ => stp_of hy hk)
  simp only [Value.cells, List.cons.injEq, and_true] at h1
  exact ⟨A, xs, c, by simpa using h1, h2, h3, h5⟩
end
end Go.Proofs.Ytigmmikijjcdiaa
