/- first, by the cells alone (behind a cut of what was sent, before 'fresh' is brought up to it). (printed by gen/lkq.py) -/
import Derived.Test.YtigmmikijjcdiaaLqLkg
import Derived.Test.YtigmmikijjcdiaaProg
import Derived.Deep.DeepCutAuto
import Derived.Lib.Hide
import Derived.WalkSpells
import Derived.WalkMore
import Derived.IntWalk

namespace Go.Proofs.Ytigmmikijjcdiaa
open Go.RowKit
set_option linter.unusedVariables false
set_option linter.unusedSimpArgs false
/-- all blocks but the end's own are as they were -/
theorem EndM.rest {y wf : World} {P M : Nat} {G : Option Nat} {own : Nat → Option (Bool × Nat)} {tg : Bool × Nat} {v : Value} {b : BL} {cs : Array Value} (h2 : y.heap[P]? = some (.cells cs 67 (0, 0))) (hfo : ∀ g, g ≠ P → wf.heap[g]? = y.heap[g]?) (h : ByV y own tg v b) : ByV wf own tg v b :=
  h.keep fun g cur hg hc => ⟨hfo g (row_ne hc h2 (by decide)), hg⟩
/-- what is acked goes -/
theorem EndM.ack {y wf : World} {P M : Nat} {G : Option Nat} {own : Nat → Option (Bool × Nat)} {k : Nat} {s : LE} {A A' : Option Addr} {c hh kk : Nat} (h : EndM y P M G own k s) (h1 : s.first ≤ hh) (h2 : hh < s.next) (hkk : hh + 1 - s.first = kk) (hA : y.cell? ⟨P, 1, none⟩ = some (.slice A s.sent.length c))
    (hA' : kk < c → ∀ g off, A = some ⟨g, off, none⟩ → A' = some ⟨g, off + kk, none⟩)
    (hf : wf.heap[P]? = some (.cells #[.int .i64 s.ep, .slice A' (s.sent.length - kk) (c - kk), .int .i64 s.next, .int .i64 s.heard, .int .i64 ((max s.fresh (hh + 1) : Nat) : Int), .bool s.owes, .map (some M)] 67 (0, 0))) (hfo : ∀ g, g ≠ P → wf.heap[g]? = y.heap[g]?) (hfs : wf.heap.size = y.heap.size) :
    EndM wf P M G own k (ackL s hh) := by
  obtain ⟨h0, hb, sv, vs, f, D, hP, h3, ⟨h4, h5⟩, ⟨h6, h7⟩, h8, h9⟩ := h
  have hsv : sv = .slice A s.sent.length c := by
    have h9 := (cell_of_row _ _ 1 _ _ _ hP).symm.trans hA
    injection h9
  subst hsv
  have hm : M ≠ P := by
    rintro rfl
    obtain ⟨es, clock, hm, _⟩ := h6
    rw [hP] at hm
    cases hm
  have hft := h0.first
  have hfi : s.first + s.sent.length = s.next := by unfold LE.first; omega
  have hkl : kk ≤ s.sent.length := by omega
  have hak : ackL s hh = { s with sent := s.sent.drop kk, fresh := max s.fresh (hh + 1) } := by unfold ackL; rw [if_pos h1, hkk]
  have hf2 : ({ s with sent := s.sent.drop kk, fresh := max s.fresh (hh + 1) } : LE).first = s.first + kk := by
    unfold LE.first at hfi ⊢
    dsimp only
    rw [List.length_drop]
    omega
  have hm2 := h0.fresh2
  rw [hak]
  refine ⟨⟨h0.ep, by dsimp only; rw [List.length_drop]; have := h0.sent; omega, by dsimp only; rw [List.length_drop]; omega, by rw [hf2]; dsimp only; omega, by dsimp only; omega, h0.next, h0.heard, fun b hb => h0.bytes b (List.mem_of_mem_drop hb), h0.ahead⟩, fun g hg => by rw [hfs]; exact hb g hg, .slice A' (s.sent.length - kk) (c - kk), vs.drop kk, f, D, hf, (h3.drop (by omega) A' hA').keep fun g hg hl => hfo g ?_, ⟨by simp [h4], fun i v b hv hb' => ?_⟩, ⟨map_keep h6 (hfo M hm), h7⟩, h8, fun n v b hv hb' => EndM.rest (P := P) (M := M) (G := G) hP hfo (h9 n v b hv hb')⟩
  · obtain ⟨cur, hc⟩ := h3.blk g hg
    exact row_ne hc hP (by decide)
  · rw [hf2]
    rw [List.getElem?_drop] at hv
    dsimp only at hb'
    rw [List.getElem?_drop] at hb'
    have h := EndM.rest (P := P) (M := M) (G := G) hP hfo (h5 _ v b hv hb')
    rwa [show s.first + kk + i = s.first + (kk + i) by omega]
/-- the map of what came ahead, and its rows -/
theorem EndM.mapOf {y : World} {P M : Nat} {G : Option Nat} {own : Nat → Option (Bool × Nat)} {k : Nat} {s : LE} (h : EndM y P M G own k s) : ∃ D f, y.ownsMap Try.prog 2 heldElem M k D ∧ AhIs D f ∧ (∀ n, (f n).isSome = (s.ahead n).isSome) ∧ ∀ n v b, f n = some v → s.ahead n = some b → ByV y own (false, n) v b := by
  obtain ⟨h0, hb, sv, vs, f, D, hP, h3, ⟨h4, h5⟩, ⟨h6, h7⟩, h8, h9⟩ := h
  exact ⟨D, f, h6, h7, h8, h9⟩
/-- one comes ahead -/
theorem EndM.put {y z wf : World} {P M : Nat} {G : Option Nat} {own : Nat → Option (Bool × Nat)} {k n : Nat} {s : LE} {D : DataW Value} {f : Nat → Option Value} {b : BL} {A : Option Addr} {c : Nat} (h : EndM y P M G own k s) (hD : AhIs D f) (h8 : ∀ n, (f n).isSome = (s.ahead n).isSome) (h9 : ∀ n v b, f n = some v → s.ahead n = some b → ByV y own (false, n) v b)
    (hz : Below y.heap.size y z) (hv : z.ownsRow y.heap.size 5 1 (.slice A b.length c) b.length (u8s b)) (hm : wf.ownsMap Try.prog 2 heldElem M (k + 1) (D.put (lk n) (.held (.slice A b.length c)))) (hg : z.grownBy wf (some M)) (hn : s.heard < n ∧ n ≤ s.heard + 64) (hb : b.length ≤ 1048576) :
    ∃ own', EndM wf P M G own' (k + 1) { s with ahead := fun m => if m = n then some b else s.ahead m } ∧ KB [M] y wf ∧ ∀ g, own' g = own g ∨ y.heap.size ≤ g := by
  obtain ⟨h0, h1, sv, vs, _, _, hP, h3, ⟨h4, h5⟩, ⟨h6, _⟩, _, _⟩ := h
  obtain ⟨es, clock, hM, _⟩ := h6
  have hMl := lt_of_block hM
  have hs := hz.size
  have hs2 := hg.size
  have hk : ∀ g, g < y.heap.size → g ≠ M → wf.heap[g]? = y.heap[g]? := fun g hl hne => (hg.block g (by omega) (fun e => hne (by injection e))).trans (hz.block g hl)
  have hne : ∀ g cs T, y.heap[g]? = some (.cells cs T (0, 0)) → g ≠ M := fun g cs T hc e => by subst e; rw [hc] at hM; cases hM
  have hvb : ∀ g, (Value.slice A b.length c).ownBlock = some g → y.heap.size ≤ g ∧ g < z.heap.size := fun g hg => hv.lt g hg
  have hby : ∀ tg v b', ByV y own tg v b' → ByV wf (fun g => if (Value.slice A b.length c).ownBlock = some g then some (false, n) else own g) tg v b' := fun tg v b' h => h.keep fun g cur hg hc => by
    refine ⟨hk g (lt_of_block hc) (hne g _ _ hc), ?_⟩
    rw [if_neg (fun e => by have := hvb g e; have := lt_of_block hc; omega)]
    exact hg
  refine ⟨fun g => if (Value.slice A b.length c).ownBlock = some g then some (false, n) else own g, ⟨⟨h0.ep, h0.sent, h0.first, h0.fresh1, h0.fresh2, h0.next, h0.heard, h0.bytes, fun m b' hm' => ?_⟩, fun g hg' => ?_, sv, vs, fun m => if m = n then some (.slice A b.length c) else f m, _, (hk P (lt_of_block hP) (hne P _ _ hP)).trans hP, h3.keep fun g hg' hl => hk g hl ?_, ⟨h4, fun i v b hv hb => hby _ _ _ (h5 i v b hv hb)⟩, ⟨hm, hD.put n _⟩, fun m => ?_, fun m v b' hm1 hm2 => ?_⟩, ⟨by omega, fun g hl hx => hk g hl (by simpa using hx), (Env.of_below hz).grown hg⟩, fun g => ?_⟩
  · dsimp only at hm'
    by_cases e : m = n
    · subst e
      rw [if_pos rfl] at hm'
      injection hm' with hm'
      subst hm'
      exact ⟨hb, hn⟩
    · rw [if_neg e] at hm'
      exact h0.ahead m b' hm'
  · dsimp only at hg'
    by_cases e : (Value.slice A b.length c).ownBlock = some g
    · have := hvb g e; omega
    · rw [if_neg e] at hg'
      have := h1 g hg'; omega
  · obtain ⟨cur, hc⟩ := h3.blk g hg'
    exact hne g _ _ hc
  · dsimp only
    by_cases e : m = n
    · rw [if_pos e, if_pos e]; rfl
    · rw [if_neg e, if_neg e]; exact h8 m
  · dsimp only at hm1 hm2
    by_cases e : m = n
    · subst e
      rw [if_pos rfl] at hm1 hm2
      injection hm1 with hm1
      injection hm2 with hm2
      subst hm1 hm2
      exact ⟨⟨A, c, rfl⟩, fun _ => ⟨own_same (own_base hv (Nat.zero_le _)) fun g hg' => hg.block g (hvb g hg').2 (fun e => by injection e with e; have := hvb g hg'; omega), fun g hg' => if_pos hg'⟩⟩
    · rw [if_neg e] at hm1 hm2
      exact hby _ _ _ (h9 m v b' hm1 hm2)
  · dsimp only
    by_cases e : (Value.slice A b.length c).ownBlock = some g
    · exact .inr (hvb g e).1
    · rw [if_neg e]; exact .inl rfl
/-- the next one is told: it is no longer the end's -/
theorem EndM.tell {y wf : World} {P M : Nat} {G : Option Nat} {own : Nat → Option (Bool × Nat)} {k : Nat} {s : LE} {D : DataW Value} {f : Nat → Option Value} {sv : Value} (h : EndM y P M G own k s) (hD : AhIs D f) (h8 : ∀ n, (f n).isSome = (s.ahead n).isSome) (h9 : ∀ n v b, f n = some v → s.ahead n = some b → ByV y own (false, n) v b) (hn : s.heard < 1000000)
    (hc1 : y.cell? ⟨P, 1, none⟩ = some sv) (hf : wf.heap[P]? = some (.cells #[.int .i64 s.ep, sv, .int .i64 s.next, .int .i64 ((s.heard + 1 : Nat) : Int), .int .i64 s.fresh, .bool s.owes, .map (some M)] 67 (0, 0)))
    (hm : wf.ownsMap Try.prog 2 heldElem M k (D.del (lk (s.heard + 1 : Nat)))) (hfo : ∀ g, g < y.heap.size → g ≠ P → g ≠ M → wf.heap[g]? = y.heap[g]?) (hfs : wf.heap.size = y.heap.size) :
    EndM wf P M G own k { s with heard := s.heard + 1, ahead := fun n => if n = s.heard + 1 then none else s.ahead n } := by
  obtain ⟨h0, h1, sv', vs, _, _, hP, h3, ⟨h4, h5⟩, ⟨h6, _⟩, _, _⟩ := h
  have hsv : sv' = sv := by
    have h9 := (cell_of_row _ _ 1 _ _ _ hP).symm.trans hc1
    injection h9
  subst hsv
  obtain ⟨es, clock, hM, _⟩ := h6
  have hne : ∀ g cs T, y.heap[g]? = some (.cells cs T (0, 0)) → g ≠ M := fun g cs T hc e => by subst e; rw [hc] at hM; cases hM
  have hby : ∀ tg v b', ByV y own tg v b' → ByV wf own tg v b' := fun tg v b' h => h.keep fun g cur hg hc => ⟨hfo g (lt_of_block hc) (row_ne hc hP (by decide)) (hne g _ _ hc), hg⟩
  refine ⟨⟨h0.ep, h0.sent, h0.first, h0.fresh1, h0.fresh2, h0.next, hn, h0.bytes, fun m b' hm' => ?_⟩, fun g hg => by rw [hfs]; exact h1 g hg, sv', vs, fun m => if m = s.heard + 1 then none else f m, _, hf, h3.keep fun g hg' hl => ?_, ⟨h4, fun i v b hv hb => hby _ _ _ (h5 i v b hv hb)⟩, ⟨hm, hD.del (s.heard + 1)⟩, fun m => ?_, fun m v b' hm1 hm2 => ?_⟩
  · dsimp only at hm' ⊢
    by_cases e : m = s.heard + 1
    · rw [if_pos e] at hm'; cases hm'
    · rw [if_neg e] at hm'
      have := h0.ahead m b' hm'
      exact ⟨this.1, by omega, by omega⟩
  · obtain ⟨cur, hc⟩ := h3.blk g hg'
    exact hfo g hl (row_ne hc hP (by decide)) (hne g _ _ hc)
  · dsimp only
    by_cases e : m = s.heard + 1
    · rw [if_pos e, if_pos e]; rfl
    · rw [if_neg e, if_neg e]; exact h8 m
  · dsimp only at hm1 hm2
    by_cases e : m = s.heard + 1
    · rw [if_pos e] at hm1; cases hm1
    · rw [if_neg e] at hm1 hm2
      exact hby _ _ _ (h9 m v b' hm1 hm2)
end Go.Proofs.Ytigmmikijjcdiaa







namespace Go.Proofs.Ytigmmikijjcdiaa
open Go.RowKit
set_option linter.unusedVariables false
set_option linter.unusedSimpArgs false
/-- a message is owed an ack -/
theorem EndM.owe {y : World} {P M : Nat} {G : Option Nat} {own : Nat → Option (Bool × Nat)} {k : Nat} {s : LE} (h : EndM y P M G own k s) (o : Bool) : EndM (y.setCell ⟨P, 5, none⟩ (.bool o)) P M G own k { s with owes := o } := by
  obtain ⟨h0, h1, sv, vs, f, D, h2, h3, ⟨h4, h5⟩, ⟨h6, h7⟩, h8, h9⟩ := h
  have hk : ∀ g, g ≠ P → (y.setCell ⟨P, 5, none⟩ (.bool o)).heap[g]? = y.heap[g]? := fun g hg => Below.heap_setCell _ _ _ _ hg
  have hB : ∀ tg v b, ByV y own tg v b → ByV (y.setCell ⟨P, 5, none⟩ (.bool o)) own tg v b := fun tg v b hb => EndM.rest (P := P) (M := M) (G := G) h2 hk hb
  have hm : M ≠ P := by
    rintro rfl
    obtain ⟨es, clock, hm, _⟩ := h6
    rw [h2] at hm
    cases hm
  refine ⟨⟨h0.ep, h0.sent, h0.first, h0.fresh1, h0.fresh2, h0.next, h0.heard, h0.bytes, h0.ahead⟩, fun g hg => by rw [World.size_setCell]; exact h1 g hg, sv, vs, f, D, heap_setCell_same _ P 5 _ _ _ h2, h3.keep fun g hg hl => hk g ?_, ⟨h4, fun i v b hv hb => hB _ _ _ (h5 i v b hv hb)⟩, ⟨map_keep h6 (hk M hm), h7⟩, h8, fun n v b hv hb => hB _ _ _ (h9 n v b hv hb)⟩
  obtain ⟨cur, hc⟩ := h3.blk g hg
  exact row_ne hc h2 (by decide)
set_option maxRecDepth 100000 in
set_option maxHeartbeats 16000000 in
theorem lfirst_cells (w : World) (P : Nat) (A : Option Addr) (ns c nx0 : Nat) (e1 : w.cell? ⟨P, 1, none⟩ = some (.slice A ns c)) (e2 : w.cell? ⟨P, 2, none⟩ = some (.int .i64 (nx0 : Int))) (hf : ns ≤ nx0) (hn : nx0 ≤ 1000000) (hP : P < w.heap.size) :
    Calls Try.prog 32 #[.pointer (some ⟨P, 0, none⟩)] w fun e w' => e = .returned (.int .i64 ((nx0 - ns : Nat) : Int)) ∧ Below w.heap.size w w' ∧ w'.heap = w.heap := by
  have HF : Hid (((nx0 - ns : Nat) : Int) = (nx0 : Int) - (ns : Int)) := hide (by omega)
  have k2 : IntKind.i64.wrap ((nx0 : Int) - (ns : Int)) = (nx0 : Int) - (ns : Int) := IntWalk.i64_in _ (by omega)
  go_enter Try.func32, Try.ntmps32
  go_upto_region 1 with fail
  refine wp_region_held_drew (S := Kept w) (by kernel_rfl) (Kept.drew w) (fun hS0 => ?_)
  refine take_at (i := 0) (d := 3) (v := ?_) (by simp only [List.getElem?_toArray, List.getElem?_cons_succ, List.getElem?_cons_zero]; rfl) rfl (by kernel_rfl) (by kernel_rfl) (by kernel_rfl) (fun _ _ _ h => h) rfl ?_ (by assumption) ?_
  rotate_left
  focus (intro w hSw; go_simp; (try with_reducible rfl); done)
  try simp only [List.setIfInBounds_toArray, List.set_cons_zero, List.set_cons_succ]
  refine take_at (i := 1) (d := 4) (v := ?_) (by simp only [List.getElem?_toArray, List.getElem?_cons_succ, List.getElem?_cons_zero]; rfl) rfl (by kernel_rfl) (by kernel_rfl) (by kernel_rfl) (fun _ _ _ h => h) rfl ?_ (by assumption) ?_
  rotate_left
  focus (intro w hSw; go_simp; (try with_reducible rfl); done)
  try simp only [List.setIfInBounds_toArray, List.set_cons_zero, List.set_cons_succ]
  refine take_at (i := 2) (d := 5) (v := ?_) (by simp only [List.getElem?_toArray, List.getElem?_cons_succ, List.getElem?_cons_zero]; rfl) rfl (by kernel_rfl) (by kernel_rfl) (by kernel_rfl) (fun _ _ _ h => h) rfl ?_ (by assumption) ?_
  rotate_left
  focus (intro w hSw; go_simp; (try with_reducible rfl); done)
  try simp only [List.setIfInBounds_toArray, List.set_cons_zero, List.set_cons_succ]
  refine take_at (i := 3) (d := 6) (v := ?_) (by simp only [List.getElem?_toArray, List.getElem?_cons_succ, List.getElem?_cons_zero]; rfl) rfl (by kernel_rfl) (by kernel_rfl) (by kernel_rfl) (fun _ _ _ h => h) rfl ?_ (by assumption) ?_
  rotate_left
  focus (intro w hSw; go_simp; (try with_reducible rfl); done)
  try simp only [List.setIfInBounds_toArray, List.set_cons_zero, List.set_cons_succ]
  refine take_at (i := 4) (d := 7) (v := ?_) (by simp only [List.getElem?_toArray, List.getElem?_cons_succ, List.getElem?_cons_zero]; rfl) rfl (by kernel_rfl) (by kernel_rfl) (by kernel_rfl) (fun _ _ _ h => h) rfl ?_ (by assumption) ?_
  rotate_left
  focus (intro w hSw; go_simp; (try with_reducible rfl); done)
  try simp only [List.setIfInBounds_toArray, List.set_cons_zero, List.set_cons_succ]
  refine take_at (i := 5) (d := 8) (v := ?_) (by simp only [List.getElem?_toArray, List.getElem?_cons_succ, List.getElem?_cons_zero]; rfl) rfl (by kernel_rfl) (by kernel_rfl) (by kernel_rfl) (fun _ _ _ h => h) rfl ?_ (by assumption) ?_
  rotate_left
  focus (intro w hSw; go_simp; (try with_reducible rfl); done)
  try simp only [List.setIfInBounds_toArray, List.set_cons_zero, List.set_cons_succ]
  refine take_at (i := 6) (d := 9) (v := ?_) (by simp only [List.getElem?_toArray, List.getElem?_cons_succ, List.getElem?_cons_zero]; rfl) rfl (by kernel_rfl) (by kernel_rfl) (by kernel_rfl) (fun _ _ _ h => h) rfl ?_ (by assumption) ?_
  rotate_left
  focus (intro w hSw; go_simp; (try with_reducible rfl); done)
  try simp only [List.setIfInBounds_toArray, List.set_cons_zero, List.set_cons_succ]
  refine take_at (i := 7) (d := 10) (v := ?_) (by simp only [List.getElem?_toArray, List.getElem?_cons_succ, List.getElem?_cons_zero]; rfl) rfl (by kernel_rfl) (by kernel_rfl) (by kernel_rfl) (fun _ _ _ h => h) rfl ?_ (by assumption) ?_
  rotate_left
  focus (intro w hSw; go_simp; (try with_reducible rfl); done)
  try simp only [List.setIfInBounds_toArray, List.set_cons_zero, List.set_cons_succ]
  refine take_at (i := 8) (d := 11) (v := ?_) (by simp only [List.getElem?_toArray, List.getElem?_cons_succ, List.getElem?_cons_zero]; rfl) rfl (by kernel_rfl) (by kernel_rfl) (by kernel_rfl) (fun _ _ _ h => h) rfl ?_ (by assumption) ?_
  rotate_left
  focus (intro w hSw; go_simp; (try with_reducible rfl); done)
  try simp only [List.setIfInBounds_toArray, List.set_cons_zero, List.set_cons_succ]
  refine take_at (i := 9) (d := 12) (v := ?_) (by simp only [List.getElem?_toArray, List.getElem?_cons_succ, List.getElem?_cons_zero]; rfl) rfl (by kernel_rfl) (by kernel_rfl) (by kernel_rfl) (fun _ _ _ h => h) rfl ?_ (by assumption) ?_
  rotate_left
  focus (intro w hSw; go_simp; (try with_reducible rfl); done)
  try simp only [List.setIfInBounds_toArray, List.set_cons_zero, List.set_cons_succ]
  refine take_at (i := 10) (d := 2) (v := ?_) (by simp only [List.getElem?_toArray, List.getElem?_cons_succ, List.getElem?_cons_zero]; rfl) rfl (by kernel_rfl) (by kernel_rfl) (by kernel_rfl) (fun _ _ _ h => h) rfl ?_ (by assumption) ?_
  rotate_left
  focus (intro w hSw; go_simp; (try with_reducible rfl); done)
  try simp only [List.setIfInBounds_toArray, List.set_cons_zero, List.set_cons_succ]
  refine wpAnyH_done (by kernel_rfl) ?_ _
  go_wp2
  go_ret
  exact ⟨by rw [HF.out]; try simp [k2], (Below.refl _ _).drew, rfl⟩
end Go.Proofs.Ytigmmikijjcdiaa
