/- Lemmas: Osr. -/
import Derived.Test.YtpgbjabifhjogaaGreatProg
import Derived.Test.YtpgbjabifhjogaaGreatSeqPw2
import Derived.Test.YtpgbjabifhjogaaGreatSeqPw4
set_option linter.unusedVariables false
set_option linter.unusedSimpArgs false
set_option maxRecDepth 100000
set_option maxHeartbeats 16000000
namespace Go.Proofs.YtpgbjabifhjogaaGreat
open Go.ChangeShapes Go.WideShapes Go.ChangeAt Go.RowKit
theorem Els.ml {w : World} {B : Nat} {A : Option Addr} {l : List Ml} (h : Els w B 2 A l (fun cs m => cs = [.bool m.1, .int .i64 m.2])) : Rd w B A (mlFlat l) := fun hn => by
 obtain ⟨b, off, rfl, hb, hc⟩ := h (fun e => by subst e; exact hn rfl)
 refine ⟨b, off, rfl, hb, fun j u hu => ?_⟩
 have hj := (List.getElem?_eq_some_iff.1 hu).1
 rw [mlFlat_len] at hj
 have hi : j / 2 < l.length := by omega
 obtain ⟨cs, hl, rfl, hcc⟩ := hc (j / 2) _ (List.getElem?_eq_getElem hi)
 obtain ⟨g0, g1⟩ := mlFlat_get (List.getElem?_eq_getElem hi)
 rcases (show j % 2 = 0 ∨ j % 2 = 1 by omega) with h2 | h2
 ·have hjj : j / 2 * 2 = j := by omega
  rw [hjj, hu] at g0
  obtain rfl : u = _ := by simpa using g0
  have := hcc 0 _ rfl
  rw [Nat.add_zero, hjj] at this
  exact this
 ·have hjj : j / 2 * 2 + 1 = j := by omega
  rw [hjj, hu] at g1
  obtain rfl : u = _ := by simpa using g1
  have := hcc 1 _ rfl
  rw [hjj] at this
  exact this
section
variable {H : Type} {enc : TypeId × Value → H}
theorem bools_of {t : TypeId} {fuel : Nat} {W : World} {cs : List Value} {x : DataW H × List MemPlace} (ht : Tryz.prog.underlying t = some (.slice 4))
  (h : DataW.trod enc Tryz.prog W 0 (fun _ => true) true fuel t cs = some x) (hz : ∀ n ∈ x.1.weights Tryz.prog t, n ≤ reachBytes) :
  ∃ (A : Option Addr) (l : List Bool) (c : Nat), cs = [.slice A l.length c] ∧ Rd W W.heap.size A (bools l) ∧ l.length ≤ c ∧ c ≤ 9223372036854775807 := by
 obtain ⟨A, l, c, h1, h2, h3, _, h5⟩ := elems_of (X := Bool) ht (show Tryz.prog.cellsOf 4 = 1 by kernel_rfl) (by omega) h hz (fun cs b => cs = [.bool b]) (fun n cs y hy _ _ => by
  obtain ⟨b, e, _⟩ := DataW.trod_bool Tryz.underlying4 hy
  exact ⟨b, e⟩)
 exact ⟨A, l, c, h1, h2.rd (fun b => .bool b) (fun _ _ h => h), h3, h5⟩
theorem int_cells1 : Tryz.prog.cellsOf 3 = 1 := by kernel_rfl
theorem int64_cells1 : Tryz.prog.cellsOf 2 = 1 := by kernel_rfl
end
end Go.Proofs.YtpgbjabifhjogaaGreat
