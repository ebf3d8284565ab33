/- The document's Open, Of and Send. -/
import Derived.Deep.DeepCutAuto
import Derived.Lib.Hide
import Derived.WalkSpells
import Derived.WalkMore
import Derived.IntWalk
import Derived.Test.YtigmmikijjcdiaaProg
import Derived.Test.YtigmmikijjcdiaaLqRen
import Derived.Test.YtigmmikijjcdiaaLqLka








namespace Go.Proofs.Ytigmmikijjcdiaa
open Go.RowKit
set_option linter.unusedVariables false
set_option linter.unusedSimpArgs false
def ROpenPost (w : World) (ep : Nat) (e : Ending) (w' : World) : Prop :=
  ∃ Q, e = .returned (.pointer (some ⟨Q, 0, none⟩)) ∧ w.heap.size ≤ Q ∧ (∀ L, L ≤ w.heap.size → REnd w' L Q none (openL ep)) ∧ Below w.heap.size w w'
theorem ropen_fin (w : World) (ep : Nat) (h : ep ≤ mostL) : ROpenPost w ep (.returned (.pointer (some ⟨w.heap.size, 0, none⟩))) (w.alloc (.cells #[.int .i64 ep, .int .i64 1, .int .i64 0, .int .i64 1, .bool false, .slice none 0 0, .slice none 0 0] 78)) :=
  ⟨w.heap.size, rfl, Nat.le_refl _, fun L hL => ⟨openL_ok h, hL, fun g e => (by cases e), .slice none 0 0, .slice none 0 0, [], heap_alloc_last _ _, TRow.nil _, AhR.nil _ _, AhF.nil⟩, (Below.refl _ _).alloc (Nat.le_refl _) _⟩
set_option maxRecDepth 100000 in
set_option maxHeartbeats 4000000 in
theorem ropen_any (w : World) (e : Int) : Calls Try.prog 21 #[.int .i64 e] w (ROpenPost w (epN e)) := by
  by_cases hc : e < 0 ∨ 4611686018427387904 < e
  · have hF : epN e = 0 := by unfold epN; rw [if_pos hc]
    have HF := hide hF
    have HW := hide (ropen_fin w 0 (by decide))
    rw [hF]
    clear hF HF
    by_cases h1 : e < 0
    · clear hc
      go_enter Try.func21, Try.ntmps21
      go_wp2
      go_ret
      exact HW.out
    · have h2 : 4611686018427387904 < e := by omega
      clear hc
      go_enter Try.func21, Try.ntmps21
      go_wp2
      go_ret
      exact HW.out
  · obtain ⟨n, rfl⟩ : ∃ n : Nat, (n : Int) = e := ⟨e.toNat, by omega⟩
    have hF : epN n = n := by unfold epN; rw [if_neg hc]; omega
    have h1 : ¬ (n : Int) < 0 := by omega
    have h2 : ¬ (4611686018427387904 : Int) < n := by omega
    have HW := hide (ropen_fin w n (by unfold mostL; omega))
    rw [hF]
    clear hF hc
    go_enter Try.func21, Try.ntmps21
    go_wp2
    go_ret
    exact HW.out
section
variable {w : World} {L Q : Nat} {G : Option Nat} {s : LE}
theorem REnd.cells (h : REnd w L Q G s) : ∃ A c B d m, w.cell? ⟨Q, 0, none⟩ = some (.int .i64 s.ep) ∧ w.cell? ⟨Q, 1, none⟩ = some (.int .i64 s.next) ∧ w.cell? ⟨Q, 2, none⟩ = some (.int .i64 s.heard) ∧ w.cell? ⟨Q, 3, none⟩ = some (.int .i64 s.fresh) ∧ w.cell? ⟨Q, 4, none⟩ = some (.bool s.owes) ∧ w.cell? ⟨Q, 5, none⟩ = some (.slice A s.sent.length c) ∧ w.cell? ⟨Q, 6, none⟩ = some (.slice B m d) ∧ Q < w.heap.size := by
  obtain ⟨h0, h1, h2, sv, av, xs, h4, h5, h6, h7⟩ := h
  obtain ⟨A, c, rfl, _⟩ := h5
  obtain ⟨B, d, rfl, _⟩ := h6
  rw [strs_len] at h4
  exact ⟨A, c, B, d, xs.length, cell_of_row _ _ 0 _ _ _ h4, cell_of_row _ _ 1 _ _ _ h4, cell_of_row _ _ 2 _ _ _ h4, cell_of_row _ _ 3 _ _ _ h4, cell_of_row _ _ 4 _ _ _ h4, cell_of_row _ _ 5 _ _ _ h4, cell_of_row _ _ 6 _ _ _ h4, lt_of_block h4⟩
end
/-- what the document's Of answers -/
def ROfPost (w : World) (f : BL) (e : Ending) (w' : World) : Prop := Below w.heap.size w w' ∧ match readL f with
  | none => e = .returned (.tuple #[.int .i64 0, .bool false])
  | some (ep, h, n, b) => e = .returned (.tuple #[.int .i64 (ep : Int), .bool true])
set_option maxRecDepth 100000 in
set_option maxHeartbeats 4000000 in
theorem rof_any (w : World) (A : Option Addr) (f : BL) (c : Nat) (hR : Rd w w.heap.size A (u8s f)) (hf : f.length ≤ 3000000) (hc : f.length ≤ c) (hc2 : c ≤ 9223372036854775807) :
    Calls Try.prog 51 #[.slice A f.length c] w (ROfPost w f) := by
  have HX := hide (rread_any w A f c hR hf hc hc2)
  obtain ⟨m, hm⟩ : ∃ z, f.length = z := ⟨_, rfl⟩
  rw [hm] at HX ⊢
  clear hm hR hf hc
  go_enter Try.func51, Try.ntmps51
  go_wp2_with fail
  refine HX.out.mono ?_
  rintro e w1 ⟨hb, he⟩
  have HB := hide hb
  clear hb HX
  rcases hr : readL f with _ | ⟨ep, h, n, b⟩
  · rw [hr] at he
    dsimp only at he
    subst he
    have HR := hide hr
    clear hr
    go_wp2
    exact bodyPost_ret (v := .tuple #[.int .i64 0, .bool false]) (by simp [results, Try.results51, go_sem]) rfl ⟨HB.out, by rw [HR.out]⟩
  · rw [hr] at he
    dsimp only at he
    subst he
    have HR := hide hr
    clear hr
    go_wp2
    exact bodyPost_ret (v := .tuple #[.int .i64 (ep : Int), .bool true]) (by simp [results, Try.results51, go_sem]) rfl ⟨HB.out, by rw [HR.out]⟩
end Go.Proofs.Ytigmmikijjcdiaa
