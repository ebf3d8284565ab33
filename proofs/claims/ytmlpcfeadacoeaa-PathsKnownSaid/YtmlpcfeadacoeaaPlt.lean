/- The walk of the statement PathsTake. -/
import Derived.Test.YtmlpcfeadacoeaaPwk
import Derived.Test.YtmlpcfeadacoeaaRow
namespace Go.Proofs.Ytmlpcfeadacoeaa
open Go.ChangeShapes Go.WideShapes Go.ChangeAt Go.RowKit
set_option linter.unusedVariables false
set_option linter.unusedSimpArgs false
theorem open_mail {H : Type} {enc : TypeId × Value → H} {W : World} {base : Nat} {r : Reach} {v : Value} {d : DataW H} {p : List MemPlace}
    (hv : Value.okWide Try.prog W r base 29 v) (h : DataW.Trod enc Try.prog W 0 (fun _ => true) true 29 v d p) (hz : ∀ n ∈ d.weights Try.prog 29, n ≤ reachBytes) :
    ∃ (b : Bool) (x : Int), v = .agg #[.bool b, .int .i64 x] ∧ -9223372036854775808 ≤ x ∧ x ≤ 9223372036854775807 := by
  obtain ⟨cs, rfl, hs⟩ := okWide_struct Try.underlying29 hv
  obtain ⟨fuel, hf⟩ := h
  obtain ⟨y0, y1, n, _, hl, h0, h1⟩ := trod_struct2 Try.underlying29 hf
  rw [show Try.prog.cellsOf 29 = 2 by kernel_rfl] at hs
  obtain ⟨b, e0, _⟩ := DataW.trod_bool Try.underlying4 h0
  obtain ⟨x, e1, _, w1⟩ := DataW.trod_int Try.underlying2 h1
  have bx := bounds_i64 w1
  match cs, hs with
  | ⟨[a, c]⟩, _ =>
    have ea : a = .bool b := by simpa [Value.cells, show Try.prog.cellsOf 4 = 1 by kernel_rfl] using e0
    have ec : c = .int .i64 x := by simpa [Value.cells, show Try.prog.cellsOf 2 = 1 by kernel_rfl] using e1
    exact ⟨b, x, by rw [ea, ec], bx.1, bx.2⟩
theorem take_le (v : Int) (has : Bool) (x : Int) : (takeOf v has x).1 ≤ v := by
  unfold takeOf; split
  · rename_i h; exact Int.le_of_lt h.2
  · exact Int.le_refl _
theorem take_again (v : Int) (has : Bool) (x : Int) : takeOf (takeOf v has x).1 has x = ((takeOf v has x).1, false) := by
  unfold takeOf
  by_cases h : has = true ∧ max x 0 < v
  · rw [if_pos h, if_neg (by rintro ⟨_, h2⟩; exact Int.lt_irrefl _ h2)]
  · rw [if_neg h, if_neg h]
set_option maxRecDepth 100000 in
set_option maxHeartbeats 4000000 in
theorem pathsTake_walk (w : World) (v : Int) (hv1 : -9223372036854775808 ≤ v) (hv2 : v ≤ 9223372036854775807) (has : Bool) (x : Int) (hx1 : -9223372036854775808 ≤ x) (hx2 : x ≤ 9223372036854775807) :
    Calls Try.prog 4 #[.int .i64 v, .agg #[.bool has, .int .i64 x]] w fun e w' => e = .returned (.bool true) ∧ Below w.heap.size w w' := by
  have hb0 : Below w.heap.size w (w.alloc (.cells #[.bool has, .int .i64 x] 29)) := (Below.refl _ _).alloc (Nat.le_refl _) _
  have cg : (w.alloc (.cells #[.bool has, .int .i64 x] 29)).heap[w.heap.size]? = some (.cells #[.bool has, .int .i64 x] 29) := heap_alloc_last w _
  have hl := lt_of_block cg
  have c0 : (w.alloc (.cells #[.bool has, .int .i64 x] 29)).cell? ⟨w.heap.size, 0, none⟩ = some (.bool has) := cell_of_row _ _ 0 _ _ _ cg
  have c1 : (w.alloc (.cells #[.bool has, .int .i64 x] 29)).cell? ⟨w.heap.size, 1, none⟩ = some (.int .i64 x) := cell_of_row _ _ 1 _ _ _ cg
  have HT := hide (take_again v has x)
  have hle := take_le v has x
  have HB := hide hb0
  have HL := hide hl
  have C0 := hide c0
  have C1 := hide c1
  clear hb0 cg c0 c1 hl
  go_enter Try.func4, Try.ntmps4
  go_wp2_with fail
  refine (take_any _ v has x).mono ?_
  rintro e y1 ⟨rfl, k1⟩
  obtain ⟨a, b, hab⟩ : ∃ a b, takeOf v has x = (a, b) := ⟨_, _, rfl⟩
  rw [hab] at HT hle ⊢
  dsimp only at HT hle ⊢
  have d0 := (k1.cell (p := ⟨w.heap.size, 0, none⟩) HL.out).trans C0.out
  have d1 := (k1.cell (p := ⟨w.heap.size, 1, none⟩) HL.out).trans C1.out
  have HAB := hide hab
  clear hab
  go_wp2_with fail
  refine (rtake_any _ v has x).mono ?_
  rintro e y2 ⟨rfl, k2⟩
  rw [HAB.out]
  have d0' := (k2.cell (p := ⟨w.heap.size, 0, none⟩) (Nat.lt_of_lt_of_le HL.out k1.size)).trans d0
  have d1' := (k2.cell (p := ⟨w.heap.size, 1, none⟩) (Nat.lt_of_lt_of_le HL.out k1.size)).trans d1
  have k12 := k1.trans (k2.mono k1.size)
  clear d0 d1 k1 k2
  go_wp2_with fail
  refine (take_any _ a has x).mono ?_
  rintro e y3 ⟨rfl, k3⟩
  rw [HT.out]
  have k13 := k12.trans (k3.mono k12.size)
  clear d0' d1' k12 k3
  go_wp2_with fail
  refine (works_any _).mono ?_
  rintro e y4 ⟨rfl, k4⟩
  have k14 := k13.trans (k4.mono k13.size)
  clear k13 k4
  go_wp2
  go_ret
  exact ⟨rfl, HB.out.trans (k14.mono HB.out.size)⟩
end Go.Proofs.Ytmlpcfeadacoeaa
