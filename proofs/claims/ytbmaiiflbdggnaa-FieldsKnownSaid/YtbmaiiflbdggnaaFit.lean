/- Items: how they lie in memory, how an argument of items is opened. -/
import Derived.Test.YtbmaiiflbdggnaaMem
import Derived.Test.YtbmaiiflbdggnaaRow
import Derived.Deep.Strs
import Derived.Test.YtbmaiiflbdggnaaFdd
namespace Go.Proofs.Ytbmaiiflbdggnaa
open Go.ChangeShapes Go.WideShapes Go.ChangeAt Go.RowKit Go.Deep
set_option linter.unusedVariables false

structure It where
  k : Nat
  n : Nat
  A : Option Addr
  bs : List UInt8
  c : Nat
def It.ok (x : It) : Prop := x.k < 256 ∧ x.n < 18446744073709551616 ∧ x.bs.length ≤ 140737488351232 ∧ x.bs.length ≤ x.c
def It.bytes (x : It) : List UInt8 := if x.k % 5 = 4 then x.bs else be (2 ^ (x.k % 5)) x.n
def It.value (x : It) : Value := .agg #[.int .u8 x.k, .int .u64 x.n, .slice x.A x.bs.length x.c]
def itCells (w : World) (B : Nat) (cs : List Value) (x : It) : Prop := cs = [.int .u8 x.k, .int .u64 x.n, .slice x.A x.bs.length x.c] ∧ Rd w B x.A (u8s x.bs) ∧ x.ok
def Its (w : World) (B : Nat) (A : Option Addr) (xs : List It) : Prop := Els w B 3 A xs (itCells w B)
theorem Its.below {w w' : World} {B B' : Nat} {A : Option Addr} {xs : List It} (h : Its w B A xs) (hb : Below B' w w') (hB : B ≤ B') : Its w' B A xs :=
  Els.keep h (fun p hp => hb.cell (Nat.lt_of_lt_of_le hp hB)) fun cs x hx => ⟨hx.1, hx.2.1.below' hb hB, hx.2.2⟩
theorem Its.get {w : World} {B : Nat} {A : Option Addr} {xs : List It} (h : Its w B A xs) {i : Nat} {x : It} (hx : xs[i]? = some x) : ∃ b off, A = some ⟨b, off, none⟩ ∧ b < B ∧
    w.cell? ⟨b, off + i * 3, none⟩ = some (.int .u8 x.k) ∧ w.cell? ⟨b, off + i * 3 + 1, none⟩ = some (.int .u64 x.n) ∧ w.cell? ⟨b, off + i * 3 + 2, none⟩ = some (.slice x.A x.bs.length x.c) ∧
    Rd w B x.A (u8s x.bs) ∧ x.ok := by
  obtain ⟨b, off, rfl, hb⟩ := Els.at_ h (List.getElem?_eq_some_iff.1 hx).1
  obtain ⟨cs, hl, ⟨rfl, hr, hk⟩, hc⟩ := Els.get h hx
  exact ⟨b, off, rfl, hb, by simpa using hc 0 _ rfl, by simpa [Nat.add_assoc] using hc 1 _ rfl, by simpa [Nat.add_assoc] using hc 2 _ rfl, hr, hk⟩

section
variable {H : Type} {enc : TypeId × Value → H}
theorem item_cells : Try.prog.cellsOf 33 = 3 := by kernel_rfl
theorem item_of {fuel : Nat} {W : World} {cs : List Value} {x : DataW H × List MemPlace}
    (h : DataW.trod enc Try.prog W 0 (fun _ => true) true fuel 33 cs = some x) (hz : ∀ n ∈ x.1.weights Try.prog 33, n ≤ reachBytes) : ∃ it, itCells W W.heap.size cs it := by
  obtain ⟨y0, y1, y2, n, rfl, hl, h0, h1, h2⟩ := trod_struct3 Try.underlying33 h
  rw [item_cells] at hl
  match cs, hl with
  | [a, b, c], _ =>
    obtain ⟨z0, e0, _, w0⟩ := DataW.trod_int Try.underlying5 h0
    obtain ⟨z1, e1, _, w1⟩ := DataW.trod_int Try.underlying30 h1
    obtain ⟨A, bs, c', e2, hr, hc1, hc2⟩ := bytes_of Try.underlying31 Try.underlying5 bytes_cells bytes_bytes h2 (fun k hk => hz k (by
      simp only [DataW.weights, Try.underlying33, DataW.weightsEach, List.map_cons, List.map_nil, List.append_nil]
      exact List.mem_append_right _ (List.mem_append_right _ hk)))
    have b0 := bounds_u8 w0
    have b1 := bounds_u64 w1
    obtain ⟨k, rfl⟩ := Int.eq_ofNat_of_zero_le b0.1
    obtain ⟨m, rfl⟩ := Int.eq_ofNat_of_zero_le b1.1
    refine ⟨⟨k, m, A, bs, c'⟩, ?_, hr, by simp only; omega, by simp only; omega, by simp only; omega, hc1⟩
    have e0' : a = .int .u8 k := by simpa [bytes_cells] using e0
    have e1' : b = .int .u64 m := by simpa [show Try.prog.cellsOf 30 = 1 by kernel_rfl] using e1
    have e2' : c = .slice A bs.length c' := by simpa [show Try.prog.cellsOf 31 = 1 by kernel_rfl] using e2
    rw [e0', e1', e2']
theorem open_items {W : World} {base : Nat} {r : Reach} {v : Value} {d : DataW H} {p : List MemPlace}
    (hv : Value.okWide Try.prog W r base 22 v) (h : DataW.Trod enc Try.prog W 0 (fun _ => true) true 22 v d p) (hz : ∀ n ∈ d.weights Try.prog 22, n ≤ reachBytes) :
    ∃ (A : Option Addr) (xs : List It) (c : Nat), v = .slice A xs.length c ∧ Its W W.heap.size A xs ∧ xs.length ≤ c ∧ c ≤ 9223372036854775807 := by
  obtain ⟨a0, len, cap, rfl⟩ := okWide_slice Try.underlying22 hv
  obtain ⟨fuel, hf⟩ := h
  obtain ⟨A, xs, c, h1, h2, h3, h4, h5⟩ := elems_of Try.underlying22 item_cells (by omega) hf hz (itCells W W.heap.size) (fun n cs y hy hk _ => item_of hy hk)
  simp only [Value.cells, List.cons.injEq, and_true] at h1
  exact ⟨A, xs, c, by simpa using h1, h2, h3, h5⟩
end
end Go.Proofs.Ytbmaiiflbdggnaa
