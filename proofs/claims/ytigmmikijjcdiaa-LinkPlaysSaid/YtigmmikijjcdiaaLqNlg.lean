/- How many calls and bytes: large. (printed by gen/nlg.py) -/
import Derived.Test.YtigmmikijjcdiaaLqMem
import Derived.Test.YtigmmikijjcdiaaLqRow
import Derived.Deep.Strs
import Derived.Lib.SmallJoins
import Derived.Test.YtigmmikijjcdiaaProg
import Derived.Deep.DeepCutAuto
import Derived.Lib.Hide
import Derived.WalkSpells
import Derived.WalkMore
import Derived.IntWalk




namespace Go.Proofs.Ytigmmikijjcdiaa
open Go.ChangeShapes Go.WideShapes Go.ChangeAt Go.RowKit Go.Deep
set_option linter.unusedVariables false
set_option maxRecDepth 100000
structure Cal5 where
  k : Nat
  A : Option Addr
  b : List UInt8
  c : Nat
  ep : Int
  h : Int
  n : Int
def Cal5.ok (x : Cal5) : Prop := x.k < 256 ∧ x.b.length ≤ 140737488351232 ∧ (-9223372036854775808 ≤ x.ep ∧ x.ep ≤ 9223372036854775807) ∧ (-9223372036854775808 ≤ x.h ∧ x.h ≤ 9223372036854775807) ∧ (-9223372036854775808 ≤ x.n ∧ x.n ≤ 9223372036854775807)
def calCells (w : World) (B : Nat) (cs : List Value) (x : Cal5) : Prop := cs = [.int .u8 x.k, .slice x.A x.b.length x.c, .int .i64 x.ep, .int .i64 x.h, .int .i64 x.n] ∧ Rd w B x.A (u8s x.b) ∧ x.ok
def Cals (w : World) (B : Nat) (A : Option Addr) (xs : List Cal5) : Prop := Els w B 5 A xs (calCells w B)
theorem Cals.below {w w' : World} {B B' : Nat} {A : Option Addr} {xs : List Cal5} (h : Cals w B A xs) (hb : Below B' w w') (hB : B ≤ B') : Cals w' B A xs :=
  Els.keep h (fun p hp => hb.cell (Nat.lt_of_lt_of_le hp hB)) fun cs x hx => ⟨hx.1, hx.2.1.below' hb hB, hx.2.2⟩
theorem Cals.get {w : World} {B : Nat} {A : Option Addr} {xs : List Cal5} (h : Cals w B A xs) {i : Nat} {x : Cal5} (hx : xs[i]? = some x) : ∃ b off, A = some ⟨b, off, none⟩ ∧ b < B ∧
    w.cell? ⟨b, off + i * 5, none⟩ = some (.int .u8 x.k) ∧ w.cell? ⟨b, off + i * 5 + 1, none⟩ = some (.slice x.A x.b.length x.c) ∧ w.cell? ⟨b, off + i * 5 + 2, none⟩ = some (.int .i64 x.ep) ∧ w.cell? ⟨b, off + i * 5 + 3, none⟩ = some (.int .i64 x.h) ∧ w.cell? ⟨b, off + i * 5 + 4, none⟩ = some (.int .i64 x.n) ∧
    Rd w B x.A (u8s x.b) ∧ x.ok := by
  obtain ⟨b, off, rfl, hb⟩ := Els.at_ h (List.getElem?_eq_some_iff.1 hx).1
  obtain ⟨cs, hl, ⟨rfl, hr, hk⟩, hc⟩ := Els.get h hx
  exact ⟨b, off, rfl, hb, by simpa using hc 0 _ rfl, by simpa [Nat.add_assoc] using hc 1 _ rfl, by simpa [Nat.add_assoc] using hc 2 _ rfl, by simpa [Nat.add_assoc] using hc 3 _ rfl, by simpa [Nat.add_assoc] using hc 4 _ rfl, hr, hk⟩
section
variable {H : Type} {enc : TypeId × Value → H}
theorem trod_five {P : Program} {w : World} {base : Nat} {spare : Nat → Bool} {held : Bool} {t : TypeId} {f0 f1 f2 f3 f4 : Field} {fuel : Nat} {cs : List Value} {x : DataW H × List MemPlace} (ht : P.underlying t = some (.struct #[f0, f1, f2, f3, f4])) (h : DataW.trod enc P w base spare held fuel t cs = some x) :
    ∃ y0 y1 y2 y3 y4 n, x = (.agg [y0.1, y1.1, y2.1, y3.1, y4.1], y0.2 ++ (y1.2 ++ (y2.2 ++ (y3.2 ++ y4.2)))) ∧ cs.length = P.cellsOf t ∧ DataW.trod enc P w base spare held n f0.type ((cs.drop f0.offset).take (P.cellsOf f0.type)) = some y0 ∧
      DataW.trod enc P w base spare held n f1.type ((cs.drop f1.offset).take (P.cellsOf f1.type)) = some y1 ∧ DataW.trod enc P w base spare held n f2.type ((cs.drop f2.offset).take (P.cellsOf f2.type)) = some y2 ∧
      DataW.trod enc P w base spare held n f3.type ((cs.drop f3.offset).take (P.cellsOf f3.type)) = some y3 ∧ DataW.trod enc P w base spare held n f4.type ((cs.drop f4.offset).take (P.cellsOf f4.type)) = some y4 := by
  obtain ⟨xs, n, _, rfl, hl, hlen, hf⟩ := DataW.trod_struct ht h
  match xs, hlen with
  | [y0, y1, y2, y3, y4], _ => exact ⟨y0, y1, y2, y3, y4, n, by simp, hl, by simpa using hf 0 f0 rfl, by simpa using hf 1 f1 rfl, by simpa using hf 2 f2 rfl, by simpa using hf 3 f3 rfl, by simpa using hf 4 f4 rfl⟩
theorem cal_cells : Try.prog.cellsOf 56 = 5 := by kernel_rfl
theorem cal_of {fuel : Nat} {W : World} {cs : List Value} {x : DataW H × List MemPlace}
    (h : DataW.trod enc Try.prog W 0 (fun _ => true) true fuel 56 cs = some x) (hz : ∀ n ∈ x.1.weights Try.prog 56, n ≤ reachBytes) : ∃ it, calCells W W.heap.size cs it := by
  obtain ⟨y0, y1, y2, y3, y4, n, rfl, hl, h0, h1, h2, h3, h4⟩ := trod_five Try.underlying56 h
  rw [cal_cells] at hl
  match cs, hl with
  | [a, b, c, d, e], _ =>
    obtain ⟨z0, e0, _, w0⟩ := DataW.trod_int Try.underlying5 h0
    obtain ⟨z2, e2, _, w2⟩ := DataW.trod_int Try.underlying2 h2
    obtain ⟨z3, e3, _, w3⟩ := DataW.trod_int Try.underlying2 h3
    obtain ⟨z4, e4, _, w4⟩ := DataW.trod_int Try.underlying2 h4
    obtain ⟨A, bs, c', e1, hr, hc1, hc2⟩ := bytes_of Try.underlying23 Try.underlying5 bytes_cells bytes_bytes h1 (fun k hk => hz k (by
      simp only [DataW.weights, Try.underlying56, DataW.weightsEach, List.map_cons, List.map_nil, List.append_nil]
      exact List.mem_append_right _ (List.mem_append_left _ hk)))
    have b0 := bounds_u8 w0
    have b2 := bounds_i64 w2
    have b3 := bounds_i64 w3
    have b4 := bounds_i64 w4
    obtain ⟨k, rfl⟩ := Int.eq_ofNat_of_zero_le b0.1
    refine ⟨⟨k, A, bs, c', z2, z3, z4⟩, ?_, hr, by simp only; omega, by simp only; omega, b2, b3, b4⟩
    have c8 : Try.prog.cellsOf 23 = 1 := by kernel_rfl
    have c64 : Try.prog.cellsOf 2 = 1 := by kernel_rfl
    have e0' : a = .int .u8 k := by simpa [bytes_cells] using e0
    have e1' : b = .slice A bs.length c' := by simpa [c8, bytes_cells] using e1
    have e2' : c = .int .i64 z2 := by simpa [c8, c64, bytes_cells] using e2
    have e3' : d = .int .i64 z3 := by simpa [c8, c64, bytes_cells] using e3
    have e4' : e = .int .i64 z4 := by simpa [c8, c64, bytes_cells] using e4
    rw [e0', e1', e2', e3', e4']
theorem open_calls {W : World} {base : Nat} {r : Reach} {v : Value} {d : DataW H} {p : List MemPlace}
    (hv : Value.okWide Try.prog W r base 50 v) (h : DataW.Trod enc Try.prog W 0 (fun _ => true) true 50 v d p) (hz : ∀ n ∈ d.weights Try.prog 50, n ≤ reachBytes) :
    ∃ (A : Option Addr) (xs : List Cal5) (c : Nat), v = .slice A xs.length c ∧ Cals W W.heap.size A xs ∧ xs.length ≤ c ∧ c ≤ 9223372036854775807 := by
  obtain ⟨a0, len, cap, rfl⟩ := okWide_slice Try.underlying50 hv
  obtain ⟨fuel, hf⟩ := h
  obtain ⟨A, xs, c, h1, h2, h3, h4, h5⟩ := elems_of Try.underlying50 cal_cells (by omega) hf hz (calCells W W.heap.size) (fun n cs y hy hk _ => cal_of hy hk)
  simp only [Value.cells, List.cons.injEq, and_true] at h1
  exact ⟨A, xs, c, by simpa using h1, h2, h3, h5⟩
end
end Go.Proofs.Ytigmmikijjcdiaa







namespace Go.Proofs.Ytigmmikijjcdiaa
open Go.RowKit
set_option linter.unusedVariables false
set_option linter.unusedSimpArgs false
def totC (xs : List Cal5) : Nat := (xs.map fun x => x.b.length).sum
theorem totC_snoc (xs : List Cal5) (x : Cal5) : totC (xs ++ [x]) = totC xs + x.b.length := by unfold totC; simp
def LargePost (w : World) (xs : List Cal5) (e : Ending) (w' : World) : Prop := w = w' ∧ ∃ r : Bool, e = .returned (.bool r) ∧ (r = false → xs.length ≤ 200 ∧ totC xs ≤ 5000 ∧ ∀ x ∈ xs, x.b.length ≤ 5000)
set_option maxRecDepth 100000 in
set_option maxHeartbeats 16000000 in
theorem large_any (w : World) (A : Option Addr) (xs : List Cal5) (c : Nat) (hI : Cals w w.heap.size A xs) (hc1 : xs.length ≤ c) (hc2 : c ≤ 9223372036854775807) :
    Calls Try.prog 20 #[.slice A xs.length c] w (LargePost w xs) := by
  obtain ⟨n, hn⟩ : ∃ n, xs.length = n := ⟨_, rfl⟩
  rw [hn] at hc1 ⊢
  have HN := hide hn
  have HI := hide hI
  clear hn hI
  have HYes : Hid (LargePost w xs (.returned (.bool true)) w) := hide ⟨rfl, true, rfl, fun h => by cases h⟩
  by_cases n0 : (200 : Int) < (n : Int)
  · go_enter Try.func20, Try.ntmps20
    go_wp2
    go_ret
    exact HYes.out
  have hn4 : n ≤ 200 := by omega
  go_enter Try.func20, Try.ntmps20
  go_wp2
  go_loopw [3, 4] (fun v3 v4 wr => ∃ (i t : Nat), i ≤ n ∧ t ≤ 5000 ∧ v3 = .int .i64 (t : Int) ∧ v4 = .int .i64 (i : Int) ∧ w = wr ∧ Hid (totC (xs.take i) = t) ∧ Hid (∀ x ∈ xs.take i, x.b.length ≤ 5000)) (fun _ v4 _ => n - (intOf v4).toNat)
  case atStart => exact ⟨0, 0, by omega, by omega, rfl, rfl, rfl, hide rfl, hide (fun x hx => by simp at hx)⟩
  case round =>
    obtain ⟨i, t, hi, ht, rfl, rfl, rfl, HT, HX⟩ := hrel
    by_cases hlt : i < n
    · have hI1 : (i : Int) < (n : Int) := by omega
      have hI0 : (0 : Int) ≤ (i : Int) := by omega
      obtain ⟨x, hx⟩ : ∃ x, xs[i]? = some x := ⟨_, List.getElem?_eq_getElem (by rw [HN.out]; exact hlt)⟩
      obtain ⟨g, off, rfl, hg, -, q3, -, -, -, -, hok⟩ := HI.out.get hx
      obtain ⟨bl, hbl⟩ : ∃ z, x.b.length = z := ⟨_, rfl⟩
      rw [hbl] at q3
      have HBl := hide hbl
      have HXi := hide hx
      have hblb : bl ≤ 140737488351232 := by rw [← hbl]; exact hok.2.1
      have kw : IntKind.i64.wrap (5000 - (t : Int)) = 5000 - (t : Int) := IntWalk.i64_in _ (by omega)
      clear hbl hx hok
      by_cases hbig : 5000 - (t : Int) < (bl : Int)
      · go_wp2
        go_ret
        exact HYes.out
      have kw2 : IntKind.i64.wrap ((t : Int) + (bl : Int)) = ((t + bl : Nat) : Int) := by rw [IntWalk.i64_in _ (by omega)]; omega
      have HT2 : Hid (totC (xs.take (i + 1)) = t + bl) := hide (by rw [List.take_add_one, HXi.out]; show totC (xs.take i ++ [x]) = _; rw [totC_snoc, HT.out, HBl.out])
      have HX2 : Hid (∀ z ∈ xs.take (i + 1), z.b.length ≤ 5000) := hide (fun z hz => by rw [List.take_add_one, HXi.out] at hz; rcases List.mem_append.1 hz with hz | hz; exact HX.out z hz; simp at hz; subst hz; rw [HBl.out]; omega)
      go_wp2
      go_roundw
      case rel => exact ⟨i + 1, t + bl, by omega, by omega, by first | rfl | go_num, by go_num, by first | rfl | trivial, HT2, HX2⟩
      case measure => simp [intOf]; omega
    have hI1 : ¬ (i : Int) < (n : Int) := by omega
    obtain rfl : i = n := by omega
    have HNo : Hid (LargePost w xs (.returned (.bool false)) w) := hide ⟨rfl, false, rfl, fun _ => ⟨by rw [HN.out]; exact hn4, by have h := HT.out; rw [List.take_of_length_le (by rw [HN.out]; exact Nat.le_refl _)] at h; omega, by have h := HX.out; rwa [List.take_of_length_le (by rw [HN.out]; exact Nat.le_refl _)] at h⟩⟩
    clear HX HT
    go_wp2
    go_ret
    exact HNo.out
end Go.Proofs.Ytigmmikijjcdiaa
