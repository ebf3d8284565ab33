/- Rows of numbers that fill a block: read, written, made. -/
import Derived.Test.YtgbahnlgblahpaaGreatFar
import Derived.Test.YtgbahnlgblahpaaGreatMld
namespace Go.Proofs.YtgbahnlgblahpaaGreat
open Go.RowKit
set_option linter.unusedVariables false
set_option linter.unusedSimpArgs false
def intsV (l : List Int) : List Value := l.map (Value.int .i64)
/-- the block G holds just these numbers -/
def RowI (w : World) (G : Nat) (T : TypeId) (l : List Int) : Prop := w.heap[G]? = some (.cells (intsV l).toArray T)
section
variable {w : World} {G : Nat} {T : TypeId} {l : List Int}
theorem RowI.cell (h : RowI w G T l) {i : Nat} (hi : i < l.length) : w.cell? ⟨G, i, none⟩ = some (.int .i64 (at_ l (i : Int))) := by
  rw [cell_of_row _ _ i _ _ _ h, at_nat]
  simp [intsV, List.getElem?_eq_getElem hi]
theorem RowI.frozen (h : RowI w G T l) (i : Nat) : w.frozen? ⟨G, i, none⟩ = false := frozen_of_row _ _ i _ _ h
theorem RowI.lt (h : RowI w G T l) : G < w.heap.size := (Array.getElem?_eq_some_iff.1 h).1
theorem RowI.set (h : RowI w G T l) (i : Nat) (v : Int) : RowI (w.setCell ⟨G, i, none⟩ (.int .i64 v)) G T (l.set i v) := by
  have h1 := heap_setCell_same w G i _ _ (.int .i64 v) h
  unfold RowI
  rw [h1, List.setIfInBounds_toArray]
  unfold intsV
  rw [List.map_set]
theorem RowI.block {w' : World} (h : RowI w G T l) (hb : w'.heap[G]? = w.heap[G]?) : RowI w' G T l := hb.trans h
theorem RowI.below {w' : World} {B : Nat} (h : RowI w G T l) (hb : Below B w w') (hG : G < B) : RowI w' G T l := h.block (hb.block G hG)
end
theorem made_i (n : Nat) : madeCells #[.int .i64 0] n = (intsV (List.replicate n 0)).toArray := by
  apply Array.ext
  · simp [madeCells, intsV]
  · intro i h1 h2
    simp [madeCells, intsV, Nat.mod_one]
theorem mkL_run (w : World) (n : Nat) (hn : n ≤ 2000000) :
    (Instr.makeSlice 31 (.int .i64 (n : Int)) (.int .i64 (n : Int))).run Tryz.prog w = .ok (.slice (some ⟨w.heap.size, 0, none⟩) n n) (w.alloc (.cells (intsV (List.replicate n 0)).toArray 2)) := by
  obtain ⟨i, hi, hz, hs, hb⟩ := info_parts (show (Tryz.prog.info? 2).map (fun i => (i.zero, i.size, i.bytes)) = some (some (.int .i64 0), 1, 8) by kernel_rfl)
  have hr := run_make (P := Tryz.prog) w 31 2 i _ Tryz.underlying31 hi hz .i64 .i64 n n (by omega) (Int.le_refl _) (by rw [hb]; omega) (by omega)
  simp only [Int.toNat_natCast, hs, Nat.mul_one] at hr
  rw [← made_i]
  exact hr
theorem mkI_run (w : World) (n : Nat) (hn : n ≤ 2000000) :
    (Instr.makeSlice 65 (.int .i64 (n : Int)) (.int .i64 (n : Int))).run Tryz.prog w = .ok (.slice (some ⟨w.heap.size, 0, none⟩) n n) (w.alloc (.cells (intsV (List.replicate n 0)).toArray 3)) := by
  obtain ⟨i, hi, hz, hs, hb⟩ := info_parts (show (Tryz.prog.info? 3).map (fun i => (i.zero, i.size, i.bytes)) = some (some (.int .i64 0), 1, 8) by kernel_rfl)
  have hr := run_make (P := Tryz.prog) w 65 3 i _ Tryz.underlying65 hi hz .i64 .i64 n n (by omega) (Int.le_refl _) (by rw [hb]; omega) (by omega)
  simp only [Int.toNat_natCast, hs, Nat.mul_one] at hr
  rw [← made_i]
  exact hr
def natI (u : List Nat) : List Int := u.map (fun k : Nat => (k : Int))
theorem natI_len (u : List Nat) : (natI u).length = u.length := by simp [natI]
theorem natI_at {u : List Nat} {v : Nat} (hv : v < u.length) : at_ (natI u) (v : Int) = (upAt u v : Int) := by
  rw [at_nat]
  unfold natI upAt
  rw [List.getElem?_map, List.getElem?_eq_getElem hv]; rfl
theorem natI_set (u : List Nat) (v y : Nat) : (natI u).set v (y : Int) = natI (u.set v y) := by unfold natI; rw [List.map_set]
theorem RowI.own {w : World} {G : Nat} {T : TypeId} {l : List Int} (h : RowI w G T l) {base n : Nat} (hb : base ≤ G) (hn : l.length = n) (hm : n ≤ maxLen) :
    w.ownsRow base T 1 (.slice (some ⟨G, 0, none⟩) n n) n (l.map (Value.int .i64)) := by
  subst hn
  refine ⟨by simp, .inr ⟨G, l.length, _, rfl, hb, h, Nat.le_refl _, hm, by simp [intsV], ?_⟩⟩
  simp [intsV, List.take_of_length_le]
/-- a row of 64-bit numbers of the caller's own, and a code -/
def LPost (w : World) (code : Int) (l : List Int) (e : Ending) (w' : World) : Prop :=
  ∃ A c', e = .returned (.tuple #[.slice A l.length c', .int .i64 code]) ∧ w'.ownsRow w.heap.size 2 1 (.slice A l.length c') l.length (l.map (Value.int .i64)) ∧ Below w.heap.size w w'
/-- only block G was stored into -/
abbrev FarG (G : Nat) (z f : World) : Prop := FarS G G z f
end Go.Proofs.YtgbahnlgblahpaaGreat
