/- Open, and what an end tells of itself. -/
import Derived.Carry
import Derived.Lib.Hide
import Derived.WalkSpells
import Derived.WalkMore
import Derived.IntWalk
import Derived.Test.YtigmmikijjcdiaaLqLke
import Derived.Test.YtigmmikijjcdiaaLqReg







namespace Go.Proofs.Ytigmmikijjcdiaa
open Go.RowKit
set_option linter.unusedVariables false
set_option linter.unusedSimpArgs false
def epN (e : Int) : Nat := if e < 0 ∨ 4611686018427387904 < e then 0 else e.toNat
theorem epN_le (e : Int) : epN e ≤ mostL := by unfold epN mostL; split <;> omega
def OpenPost (w : World) (ep : Nat) (e : Ending) (w' : World) : Prop :=
  ∃ P M, e = .returned (.pointer (some ⟨P, 0, none⟩)) ∧ EndM w' P M none (fun _ => none) 0 (openL ep) ∧ w.heap.size ≤ P ∧ w.heap.size ≤ M ∧ Below w.heap.size w w'
theorem open_fin (w : World) (ep : Nat) (h : ep ≤ mostL) : OpenPost w ep (.returned (.pointer (some ⟨w.heap.size + 1, 0, none⟩))) ((w.alloc (.map #[] 0)).alloc (.cells #[.int .i64 ep, .slice none 0 0, .int .i64 1, .int .i64 0, .int .i64 1, .bool false, .map (some w.heap.size)] 67)) := by
  refine ⟨w.heap.size + 1, w.heap.size, rfl, ⟨openL_ok h, fun g hg => absurd rfl hg, .slice none 0 0, [], fun _ => none, .map [], ?_, SRow.nil _, ⟨rfl, fun i v b hv => by simp at hv⟩, ⟨?_, AhIs.empty⟩, fun n => rfl, fun n v b hv => by cases hv⟩, by omega, by omega, ?_⟩
  · have h := heap_alloc_last (w.alloc (.map #[] 0)) (.cells #[.int .i64 ep, .slice none 0 0, .int .i64 1, .int .i64 0, .int .i64 1, .bool false, .map (some w.heap.size)] 67)
    rw [World.size_alloc] at h
    exact h
  · exact (World.ownsMap_made w Try.prog 2 heldElem).alloc _
  · exact ((Below.refl _ _).alloc (Nat.le_refl _) _).alloc (by simp) _
set_option maxRecDepth 100000 in
set_option maxHeartbeats 4000000 in
theorem lopen_any (w : World) (e : Int) : Calls Try.prog 9 #[.int .i64 e] w (OpenPost w (epN e)) := by
  have hmm := @run_makeMap Try.prog
  by_cases hc : e < 0 ∨ 4611686018427387904 < e
  · have hF : epN e = 0 := by unfold epN; rw [if_pos hc]
    have HF := hide hF
    have HW := hide (open_fin w 0 (by decide))
    rw [hF]
    clear hF HF
    by_cases h1 : e < 0
    · clear hc
      go_enter Try.func9, Try.ntmps9
      go_wp2
      go_ret
      exact HW.out
    · have h2 : 4611686018427387904 < e := by omega
      clear hc
      go_enter Try.func9, Try.ntmps9
      go_wp2
      go_ret
      exact HW.out
  · obtain ⟨n, rfl⟩ : ∃ n : Nat, (n : Int) = e := ⟨e.toNat, by omega⟩
    have hF : epN n = n := by unfold epN; rw [if_neg hc]; omega
    have h1 : ¬ (n : Int) < 0 := by omega
    have h2 : ¬ (4611686018427387904 : Int) < n := by omega
    have HW := hide (open_fin w n (by unfold mostL; omega))
    rw [hF]
    clear hF hc
    go_enter Try.func9, Try.ntmps9
    go_wp2
    go_ret
    exact HW.out
section
variable {w : World} {P M : Nat} {G : Option Nat} {own : Nat → Option (Bool × Nat)} {k : Nat} {s : LE}
theorem EndM.cells (h : EndM w P M G own k s) : ∃ A c, w.cell? ⟨P, 0, none⟩ = some (.int .i64 s.ep) ∧ w.cell? ⟨P, 1, none⟩ = some (.slice A s.sent.length c) ∧ w.cell? ⟨P, 2, none⟩ = some (.int .i64 s.next) ∧ w.cell? ⟨P, 3, none⟩ = some (.int .i64 s.heard) ∧ w.cell? ⟨P, 4, none⟩ = some (.int .i64 s.fresh) ∧ w.cell? ⟨P, 5, none⟩ = some (.bool s.owes) ∧ P < w.heap.size := by
  obtain ⟨h0, h1, sv, vs, f, D, h2, h3, ⟨h4, h5⟩, ⟨h6, h7⟩, h8, h9⟩ := h
  obtain ⟨A, c, rfl, _⟩ := h3
  rw [h4] at h2
  exact ⟨A, c, cell_of_row _ _ 0 _ _ _ h2, cell_of_row _ _ 1 _ _ _ h2, cell_of_row _ _ 2 _ _ _ h2, cell_of_row _ _ 3 _ _ _ h2, cell_of_row _ _ 4 _ _ _ h2, cell_of_row _ _ 5 _ _ _ h2, lt_of_block h2⟩
set_option maxRecDepth 100000 in
theorem lepoch_any (h : EndM w P M G own k s) : Calls Try.prog 26 #[.pointer (some ⟨P, 0, none⟩)] w fun e w' => e = .returned (.int .i64 s.ep) ∧ w' = w := by
  obtain ⟨A, c, e0, _⟩ := h.cells
  clear h
  go_enter Try.func26, Try.ntmps26
  go_wp2
  go_ret
  exact ⟨rfl, rfl⟩
set_option maxRecDepth 100000 in
theorem lwaits_any (h : EndM w P M G own k s) : Calls Try.prog 13 #[.pointer (some ⟨P, 0, none⟩)] w fun e w' => e = .returned (.int .i64 s.sent.length) ∧ w' = w := by
  obtain ⟨A, c, _, e0, _⟩ := h.cells
  clear h
  go_enter Try.func13, Try.ntmps13
  go_wp2
  go_ret
  exact ⟨rfl, rfl⟩
set_option maxRecDepth 100000 in
theorem lnext_any (h : EndM w P M G own k s) : Calls Try.prog 15 #[.pointer (some ⟨P, 0, none⟩)] w fun e w' => e = .returned (.int .i64 s.next) ∧ w' = w := by
  obtain ⟨A, c, _, _, e0, _⟩ := h.cells
  clear h
  go_enter Try.func15, Try.ntmps15
  go_wp2
  go_ret
  exact ⟨rfl, rfl⟩
set_option maxRecDepth 100000 in
theorem lheard_any (h : EndM w P M G own k s) : Calls Try.prog 14 #[.pointer (some ⟨P, 0, none⟩)] w fun e w' => e = .returned (.int .i64 s.heard) ∧ w' = w := by
  obtain ⟨A, c, _, _, _, e0, _⟩ := h.cells
  clear h
  go_enter Try.func14, Try.ntmps14
  go_wp2
  go_ret
  exact ⟨rfl, rfl⟩
end
end Go.Proofs.Ytigmmikijjcdiaa
