/- first, by the cells alone (behind a cut of what was sent, before 'fresh' is brought up to it). (printed by gen/lkq.py) -/
import Derived.Test.YtigmmikijjcdiaaProg
import Derived.Test.YtigmmikijjcdiaaLkh
import Derived.Deep.DeepCutAuto
import Derived.Lib.Hide
import Derived.WalkSpells
import Derived.WalkMore
import Derived.IntWalk
namespace Go.Proofs.Ytigmmikijjcdiaa
open Go.RowKit
set_option linter.unusedVariables false
set_option linter.unusedSimpArgs false
/-- a message is owed an ack -/
theorem EndM.owe {y : World} {P M : Nat} {G : Option Nat} {own : Nat → Option (Bool × Nat)} {k : Nat} {s : LE} (h : EndM y P M G own k s) (o : Bool) : EndM (y.setCell ⟨P, 5, none⟩ (.bool o)) P M G own k { s with owes := o } := by
  obtain ⟨h0, h1, sv, vs, f, D, h2, h3, ⟨h4, h5⟩, ⟨h6, h7⟩, h8, h9⟩ := h
  have hk : ∀ g, g ≠ P → (y.setCell ⟨P, 5, none⟩ (.bool o)).heap[g]? = y.heap[g]? := fun g hg => Below.heap_setCell _ _ _ _ hg
  have hB : ∀ tg v b, ByV y own tg v b → ByV (y.setCell ⟨P, 5, none⟩ (.bool o)) own tg v b := fun tg v b hb => EndM.rest (P := P) (M := M) (G := G) h2 hk hb
  have hm : M ≠ P := by
    rintro rfl
    obtain ⟨es, clock, hm, _⟩ := h6
    rw [h2] at hm
    cases hm
  refine ⟨⟨h0.ep, h0.sent, h0.first, h0.fresh1, h0.fresh2, h0.next, h0.heard, h0.bytes, h0.ahead⟩, fun g hg => by rw [World.size_setCell]; exact h1 g hg, sv, vs, f, D, heap_setCell_same _ P 5 _ _ _ h2, h3.keep fun g hg hl => hk g ?_, ⟨h4, fun i v b hv hb => hB _ _ _ (h5 i v b hv hb)⟩, ⟨map_keep h6 (hk M hm), h7⟩, h8, fun n v b hv hb => hB _ _ _ (h9 n v b hv hb)⟩
  obtain ⟨cur, hc⟩ := h3.blk g hg
  exact row_ne hc h2 (by decide)
set_option maxRecDepth 100000 in
set_option maxHeartbeats 16000000 in
theorem lfirst_cells (w : World) (P : Nat) (A : Option Addr) (ns c nx0 : Nat) (e1 : w.cell? ⟨P, 1, none⟩ = some (.slice A ns c)) (e2 : w.cell? ⟨P, 2, none⟩ = some (.int .i64 (nx0 : Int))) (hf : ns ≤ nx0) (hn : nx0 ≤ 1000000) (hP : P < w.heap.size) :
    Calls Try.prog 32 #[.pointer (some ⟨P, 0, none⟩)] w fun e w' => e = .returned (.int .i64 ((nx0 - ns : Nat) : Int)) ∧ Below w.heap.size w w' ∧ w'.heap = w.heap := by
  have HF : Hid (((nx0 - ns : Nat) : Int) = (nx0 : Int) - (ns : Int)) := hide (by omega)
  have k2 : IntKind.i64.wrap ((nx0 : Int) - (ns : Int)) = (nx0 : Int) - (ns : Int) := IntWalk.i64_in _ (by omega)
  go_enter Try.func32, Try.ntmps32
  go_upto_region 1 with fail
  refine wp_region_held_drew (S := Kept w) (by kernel_rfl) (Kept.drew w) (fun hS0 => ?_)
  refine take_at (i := 0) (d := 3) (v := ?_) (by simp only [List.getElem?_toArray, List.getElem?_cons_succ, List.getElem?_cons_zero]; rfl) rfl (by kernel_rfl) (by kernel_rfl) (by kernel_rfl) (fun _ _ _ h => h) rfl ?_ (by assumption) ?_
  rotate_left
  focus (intro w hSw; go_simp; (try with_reducible rfl); done)
  try simp only [List.setIfInBounds_toArray, List.set_cons_zero, List.set_cons_succ]
  refine take_at (i := 1) (d := 4) (v := ?_) (by simp only [List.getElem?_toArray, List.getElem?_cons_succ, List.getElem?_cons_zero]; rfl) rfl (by kernel_rfl) (by kernel_rfl) (by kernel_rfl) (fun _ _ _ h => h) rfl ?_ (by assumption) ?_
  rotate_left
  focus (intro w hSw; go_simp; (try with_reducible rfl); done)
  try simp only [List.setIfInBounds_toArray, List.set_cons_zero, List.set_cons_succ]
  refine take_at (i := 2) (d := 5) (v := ?_) (by simp only [List.getElem?_toArray, List.getElem?_cons_succ, List.getElem?_cons_zero]; rfl) rfl (by kernel_rfl) (by kernel_rfl) (by kernel_rfl) (fun _ _ _ h => h) rfl ?_ (by assumption) ?_
  rotate_left
  focus (intro w hSw; go_simp; (try with_reducible rfl); done)
  try simp only [List.setIfInBounds_toArray, List.set_cons_zero, List.set_cons_succ]
  refine take_at (i := 3) (d := 6) (v := ?_) (by simp only [List.getElem?_toArray, List.getElem?_cons_succ, List.getElem?_cons_zero]; rfl) rfl (by kernel_rfl) (by kernel_rfl) (by kernel_rfl) (fun _ _ _ h => h) rfl ?_ (by assumption) ?_
  rotate_left
  focus (intro w hSw; go_simp; (try with_reducible rfl); done)
  try simp only [List.setIfInBounds_toArray, List.set_cons_zero, List.set_cons_succ]
  refine take_at (i := 4) (d := 7) (v := ?_) (by simp only [List.getElem?_toArray, List.getElem?_cons_succ, List.getElem?_cons_zero]; rfl) rfl (by kernel_rfl) (by kernel_rfl) (by kernel_rfl) (fun _ _ _ h => h) rfl ?_ (by assumption) ?_
  rotate_left
  focus (intro w hSw; go_simp; (try with_reducible rfl); done)
  try simp only [List.setIfInBounds_toArray, List.set_cons_zero, List.set_cons_succ]
  refine take_at (i := 5) (d := 8) (v := ?_) (by simp only [List.getElem?_toArray, List.getElem?_cons_succ, List.getElem?_cons_zero]; rfl) rfl (by kernel_rfl) (by kernel_rfl) (by kernel_rfl) (fun _ _ _ h => h) rfl ?_ (by assumption) ?_
  rotate_left
  focus (intro w hSw; go_simp; (try with_reducible rfl); done)
  try simp only [List.setIfInBounds_toArray, List.set_cons_zero, List.set_cons_succ]
  refine take_at (i := 6) (d := 9) (v := ?_) (by simp only [List.getElem?_toArray, List.getElem?_cons_succ, List.getElem?_cons_zero]; rfl) rfl (by kernel_rfl) (by kernel_rfl) (by kernel_rfl) (fun _ _ _ h => h) rfl ?_ (by assumption) ?_
  rotate_left
  focus (intro w hSw; go_simp; (try with_reducible rfl); done)
  try simp only [List.setIfInBounds_toArray, List.set_cons_zero, List.set_cons_succ]
  refine take_at (i := 7) (d := 10) (v := ?_) (by simp only [List.getElem?_toArray, List.getElem?_cons_succ, List.getElem?_cons_zero]; rfl) rfl (by kernel_rfl) (by kernel_rfl) (by kernel_rfl) (fun _ _ _ h => h) rfl ?_ (by assumption) ?_
  rotate_left
  focus (intro w hSw; go_simp; (try with_reducible rfl); done)
  try simp only [List.setIfInBounds_toArray, List.set_cons_zero, List.set_cons_succ]
  refine take_at (i := 8) (d := 11) (v := ?_) (by simp only [List.getElem?_toArray, List.getElem?_cons_succ, List.getElem?_cons_zero]; rfl) rfl (by kernel_rfl) (by kernel_rfl) (by kernel_rfl) (fun _ _ _ h => h) rfl ?_ (by assumption) ?_
  rotate_left
  focus (intro w hSw; go_simp; (try with_reducible rfl); done)
  try simp only [List.setIfInBounds_toArray, List.set_cons_zero, List.set_cons_succ]
  refine take_at (i := 9) (d := 12) (v := ?_) (by simp only [List.getElem?_toArray, List.getElem?_cons_succ, List.getElem?_cons_zero]; rfl) rfl (by kernel_rfl) (by kernel_rfl) (by kernel_rfl) (fun _ _ _ h => h) rfl ?_ (by assumption) ?_
  rotate_left
  focus (intro w hSw; go_simp; (try with_reducible rfl); done)
  try simp only [List.setIfInBounds_toArray, List.set_cons_zero, List.set_cons_succ]
  refine take_at (i := 10) (d := 2) (v := ?_) (by simp only [List.getElem?_toArray, List.getElem?_cons_succ, List.getElem?_cons_zero]; rfl) rfl (by kernel_rfl) (by kernel_rfl) (by kernel_rfl) (fun _ _ _ h => h) rfl ?_ (by assumption) ?_
  rotate_left
  focus (intro w hSw; go_simp; (try with_reducible rfl); done)
  try simp only [List.setIfInBounds_toArray, List.set_cons_zero, List.set_cons_succ]
  refine wpAnyH_done (by kernel_rfl) ?_ _
  go_wp2
  go_ret
  exact ⟨by rw [HF.out]; try simp [k2], (Below.refl _ _).drew, rfl⟩
end Go.Proofs.Ytigmmikijjcdiaa
