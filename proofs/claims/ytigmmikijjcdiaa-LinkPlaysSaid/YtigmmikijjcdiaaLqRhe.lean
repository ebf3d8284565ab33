/- The document's Hear. (printed by gen/rhe.py) -/
import Derived.Test.YtigmmikijjcdiaaProg
import Derived.Test.YtigmmikijjcdiaaLqRad
import Derived.Test.YtigmmikijjcdiaaLqLkx
import Derived.Test.YtigmmikijjcdiaaLqRgl
import Derived.Deep.DeepCutAuto
import Derived.Lib.Hide
import Derived.WalkSpells
import Derived.WalkMore
import Derived.IntWalk



namespace Go.Proofs.Ytigmmikijjcdiaa
open Go.RowKit
set_option linter.unusedVariables false
set_option linter.unusedSimpArgs false
/-- an end's cells, whatever holds of its numbers -/
def RMem (w : World) (L Q : Nat) (G : Option Nat) (s : LE) : Prop :=
  L ≤ Q ∧ (∀ g, G = some g → L ≤ g) ∧
  ∃ sv av xs, w.heap[Q]? = some (.cells #[.int .i64 s.ep, .int .i64 s.next, .int .i64 s.heard, .int .i64 s.fresh, .bool s.owes, sv, av] 78 (0, 0)) ∧
    TRow w G sv (strs s.sent) ∧ AhR w L av xs ∧ AhF xs s.ahead
section
variable {w w' : World} {L Q : Nat} {G : Option Nat} {s : LE}
theorem REnd.mem (h : REnd w L Q G s) : RMem w L Q G s := h.2
theorem RMem.fin (h : RMem w L Q G s) (hok : LEok s) : REnd w L Q G s := ⟨hok, h⟩
theorem RMem.keep (h : RMem w L Q G s) (hQ : w'.heap[Q]? = w.heap[Q]?) (hG : ∀ g, G = some g → w'.heap[g]? = w.heap[g]?) (hA : ∀ (g : Nat) (cur : Array Value), w.heap[g]? = some (Obj.cells cur 118 (0, 0)) → w'.heap[g]? = w.heap[g]?) : RMem w' L Q G s := by
  obtain ⟨h2, h3, sv, av, xs, h4, h5, h6, h7⟩ := h
  exact ⟨h2, h3, sv, av, xs, hQ.trans h4, h5.keep fun g e _ => hG g e, h6.keep hA, h7⟩
theorem RMem.below (h : RMem w L Q G s) (hb : Below w.heap.size w w') : RMem w' L Q G s := by
  have h' := h
  obtain ⟨h2, h3, sv, av, xs, h4, h5, h6, h7⟩ := h'
  exact h.keep (hb.block Q (lt_of_block h4)) (fun g e => by obtain ⟨cur, hc⟩ := h5.blk g e; exact hb.block g (lt_of_block hc)) fun g cur hc => hb.block g (lt_of_block hc)
theorem RMem.row (h : RMem w L Q G s) : ∃ A c B m d, w.heap[Q]? = some (.cells #[.int .i64 s.ep, .int .i64 s.next, .int .i64 s.heard, .int .i64 s.fresh, .bool s.owes, .slice A s.sent.length c, .slice B m d] 78 (0, 0)) ∧ s.sent.length ≤ c ∧ c ≤ maxLen ∧ (0 < c → ∃ g off, A = some ⟨g, off, none⟩) ∧ ∀ g, G = some g → g < w.heap.size := by
  obtain ⟨h2, h3, sv, av, xs, h4, h5, h6, h7⟩ := h
  have hb := h5.blk
  obtain ⟨A, c, rfl, q1, q2, q3, q4, q5⟩ := h5
  obtain ⟨B, d, rfl, _⟩ := h6
  rw [strs_len] at h4 q1
  exact ⟨A, c, B, _, d, h4, q1, q2, fun hc => by obtain ⟨g, off, cur, _, e, _⟩ := q5 hc; exact ⟨g, off, e⟩, fun g e => by obtain ⟨cur, hc⟩ := hb g e; exact lt_of_block hc⟩
/-- one cell of an end is stored: nothing else changes -/
theorem RMem.store (h : RMem w L Q G s) (i : Nat) (u : Value) : (∀ g, g ≠ Q → (w.setCell ⟨Q, i, none⟩ u).heap[g]? = w.heap[g]?) ∧ (∀ g, G = some g → g ≠ Q) ∧ (∀ (g : Nat) (cur : Array Value), w.heap[g]? = some (Obj.cells cur 118 (0, 0)) → g ≠ Q) := by
  obtain ⟨h2, h3, sv, av, xs, h4, h5, h6, h7⟩ := h
  refine ⟨fun g hg => Below.heap_setCell _ _ _ _ hg, fun g e => ?_, fun g cur hc => row_ne hc h4 (by decide)⟩
  obtain ⟨cur, hc⟩ := h5.blk g e
  exact row_ne hc h4 (by decide)
theorem RMem.setF (h : RMem w L Q G s) (x : Nat) : RMem (w.setCell ⟨Q, 3, none⟩ (.int .i64 (x : Int))) L Q G { s with fresh := x } := by
  obtain ⟨e1, e2, e3⟩ := h.store 3 (.int .i64 (x : Int))
  obtain ⟨h2, h3, sv, av, xs, h4, h5, h6, h7⟩ := h
  exact ⟨h2, h3, sv, av, xs, heap_setCell_same _ Q 3 _ _ _ h4, h5.keep fun g e _ => e1 g (e2 g e), h6.keep fun g cur hc => e1 g (e3 g cur hc), h7⟩
theorem RMem.setO (h : RMem w L Q G s) (x : Bool) : RMem (w.setCell ⟨Q, 4, none⟩ (.bool x)) L Q G { s with owes := x } := by
  obtain ⟨e1, e2, e3⟩ := h.store 4 (.bool x)
  obtain ⟨h2, h3, sv, av, xs, h4, h5, h6, h7⟩ := h
  exact ⟨h2, h3, sv, av, xs, heap_setCell_same _ Q 4 _ _ _ h4, h5.keep fun g e _ => e1 g (e2 g e), h6.keep fun g cur hc => e1 g (e3 g cur hc), h7⟩
theorem RMem.setH (h : RMem w L Q G s) (x : Nat) : RMem (w.setCell ⟨Q, 2, none⟩ (.int .i64 (x : Int))) L Q G { s with heard := x } := by
  obtain ⟨e1, e2, e3⟩ := h.store 2 (.int .i64 (x : Int))
  obtain ⟨h2, h3, sv, av, xs, h4, h5, h6, h7⟩ := h
  exact ⟨h2, h3, sv, av, xs, heap_setCell_same _ Q 2 _ _ _ h4, h5.keep fun g e _ => e1 g (e2 g e), h6.keep fun g cur hc => e1 g (e3 g cur hc), h7⟩
/-- the first message goes -/
theorem RMem.drop1 (h : RMem w L Q G s) {A A' : Option Addr} {n c : Nat} (hA : w.cell? ⟨Q, 5, none⟩ = some (.slice A n c)) (hn : 0 < s.sent.length) (hA' : 1 < c → ∀ g off, A = some ⟨g, off, none⟩ → A' = some ⟨g, off + 1, none⟩) :
    RMem (w.setCell ⟨Q, 5, none⟩ (.slice A' (n - 1) (c - 1))) L Q G { s with sent := s.sent.drop 1 } := by
  obtain ⟨e1, e2, e3⟩ := h.store 5 (.slice A' (n - 1) (c - 1))
  obtain ⟨h2, h3, sv, av, xs, h4, h5, h6, h7⟩ := h
  have hsv : sv = .slice A n c := by have h := (cell_of_row _ _ 5 _ _ _ h4).symm.trans hA; injection h
  subst hsv
  refine ⟨h2, h3, _, av, xs, heap_setCell_same _ Q 5 _ _ _ h4, ?_, h6.keep fun g cur hc => e1 g (e3 g cur hc), h7⟩
  have h9 := (h5.drop (k := 1) (by rw [strs_len]; exact hn) A' hA')
  have e : strs (s.sent.drop 1) = (strs s.sent).drop 1 := by unfold strs; rw [List.map_drop]
  show TRow _ G _ (strs (s.sent.drop 1))
  rw [e]
  exact h9.keep fun g e _ => e1 g (e2 g e)
end
theorem ackL_ok {s : LE} {h : Nat} (hok : LEok s) (hh : h < s.next) : LEok (ackL s h) := by
  unfold ackL
  split
  · rename_i h1
    have hft := hok.first
    have hfi : s.first + s.sent.length = s.next := by unfold LE.first; omega
    have hf2 : ({ s with sent := s.sent.drop (h + 1 - s.first), fresh := max s.fresh (h + 1) } : LE).first = h + 1 := by
      unfold LE.first at hfi h1 ⊢
      dsimp only
      rw [List.length_drop]
      omega
    have hm2 := hok.fresh2
    exact ⟨hok.ep, by dsimp only; rw [List.length_drop]; have := hok.sent; omega, by dsimp only; rw [List.length_drop]; omega, by rw [hf2]; dsimp only; omega, by dsimp only; omega, hok.next, hok.heard, fun b hb => hok.bytes b (List.mem_of_mem_drop hb), hok.ahead⟩
  · exact hok
/-- so many go: what an ack leaves -/
def ackD (s : LE) (h : Nat) : Nat := if s.first ≤ h then h + 1 - s.first else 0
theorem ackL_eq {s : LE} {h : Nat} (hok : LEok s) (hh : h < s.next) : ackL s h = { s with sent := s.sent.drop (ackD s h), fresh := max s.fresh (s.next - (s.sent.length - ackD s h)) } := by
  have hft := hok.first
  have hfi : s.first + s.sent.length = s.next := by unfold LE.first; omega
  have hf1 := hok.fresh1
  unfold ackL ackD
  split
  · rw [show s.next - (s.sent.length - (h + 1 - s.first)) = h + 1 by omega]
  · rw [List.drop_zero, show max s.fresh (s.next - (s.sent.length - 0)) = s.fresh by omega]
theorem ackD_le {s : LE} {h : Nat} (hok : LEok s) (hh : h < s.next) : ackD s h ≤ s.sent.length := by
  have hft := hok.first
  have hfi : s.first + s.sent.length = s.next := by unfold LE.first; omega
  unfold ackD
  split <;> omega
/-- goes one more? -/
theorem ackD_more {s : LE} {h d : Nat} (hok : LEok s) (hh : h < s.next) (hd : d ≤ ackD s h) : (d < s.sent.length ∧ s.first + d ≤ h) ↔ d < ackD s h := by
  have hft := hok.first
  have hfi : s.first + s.sent.length = s.next := by unfold LE.first; omega
  unfold ackD at hd ⊢
  split at hd
  · rename_i h1
    rw [if_pos h1]
    omega
  · rename_i h1
    rw [if_neg h1]
    omega
def RHearPost (w : World) (L Q : Nat) (G : Option Nat) (s : LE) (f : BL) (e : Ending) (w' : World) : Prop :=
  ∃ v, e = .returned (.tuple #[v, .int .i64 (hearL s f).1]) ∧ StrO w.heap.size w' v (hearL s f).2.1 ∧ REnd w' L Q G (hearL s f).2.2 ∧ KB [Q] w w'
theorem StrO.nil (B : Nat) (w : World) : StrO B w (.slice none 0 0) [] := ⟨none, 0, rfl, World.ownsRow_nil _ _ _ _⟩
theorem rhear_no {w y : World} {L Q : Nat} {G : Option Nat} {s : LE} {f : BL} {c : Int} (h : REnd w L Q G s) (hb : Below w.heap.size w y) (hc : hearL s f = (c, [], s)) : RHearPost w L Q G s f (.returned (.tuple #[.slice none 0 0, .int .i64 c])) y := by
  unfold RHearPost
  rw [hc]
  exact ⟨_, rfl, StrO.nil _ _, h.next hb, (KB.refl _ _).below hb (Nat.le_refl _)⟩
theorem rhear_is {w y : World} {L Q : Nat} {G : Option Nat} {s s' : LE} {f : BL} (h : REnd y L Q G s') (hk : KB [Q] w y) (hc : hearL s f = (0, [], s')) : RHearPost w L Q G s f (.returned (.tuple #[.slice none 0 0, .int .i64 0])) y := by
  unfold RHearPost
  rw [hc]
  exact ⟨_, rfl, StrO.nil _ _, h, hk⟩
/-- so many are told -/
def RTell (w x : World) (L Q : Nat) (G : Option Nat) (s0 : LE) (j : Nat) (v : Value) (s : LE) : Prop :=
  ∃ bs, bs.length = j ∧ REnd x L Q G s ∧ s.heard = s0.heard + j ∧ StrO w.heap.size x v bs ∧ j ≤ 64 ∧ tellL 65 s0 = (bs ++ (tellL (65 - j) s).1, (tellL (65 - j) s).2) ∧ (∀ n, s.ahead n ≠ none → n ≤ s0.heard + 64) ∧ KB [Q] w x
theorem RTell.start {w x : World} {L Q : Nat} {G : Option Nat} {s0 : LE} (h : REnd x L Q G s0) (hk : KB [Q] w x) : RTell w x L Q G s0 0 (.slice none 0 0) s0 := by
  refine ⟨[], rfl, h, rfl, StrO.nil _ _, by omega, by simp, fun n hn => ?_, hk⟩
  rcases hb : s0.ahead n with _ | b
  · exact absurd hb hn
  · exact (h.1.ahead n b hb).2.2
theorem RTell.fin {w x y : World} {L Q : Nat} {G : Option Nat} {j : Nat} {s s0 s1 : LE} {v : Value} {f : BL} (h : RTell w x L Q G s0 j v s1) (hn : s1.ahead (s1.heard + 1) = none) (hb : Below x.heap.size x y) (hh : hearL s f = (0, (tellL 65 s0).1, (tellL 65 s0).2)) : RHearPost w L Q G s f (.returned (.tuple #[v, .int .i64 0])) y := by
  obtain ⟨bs, h1, h2, h3, h4, h5, h6, h7, h8⟩ := h
  have ht : tellL (65 - j) s1 = ([], s1) := by
    rw [show 65 - j = (64 - j) + 1 by omega]
    unfold tellL
    rw [hn]
  rw [ht, List.append_nil] at h6
  unfold RHearPost
  rw [hh, h6]
  obtain ⟨A, c, g1, g2⟩ := h4
  exact ⟨v, rfl, ⟨A, c, g1, own_below g2 hb (fun g hg => (g2.lt g hg).2)⟩, h2.next hb, h8.below hb h8.1⟩
/-- the first one of a row goes -/
theorem AhR.tail {w : World} {lo n c : Nat} {A A' : Option Addr} {x : Nat × BL} {xs : AhL} (h : AhR w lo (.slice A n c) (x :: xs)) (hA' : 1 < c → ∀ g off, A = some ⟨g, off, none⟩ → A' = some ⟨g, off + 2, none⟩) : AhR w lo (.slice A' (n - 1) (c - 1)) xs := by
  obtain ⟨A0, c0, h1, h2, h3, h4⟩ := h
  injection h1 with e1 e2 e3
  subst e1 e3
  rw [List.length_cons] at e2 h2
  refine ⟨A', c - 1, by rw [e2]; rfl, by omega, by omega, fun hc => ?_⟩
  obtain ⟨g, off, cur, f1, f2, f3, f4⟩ := h4 (by omega)
  refine ⟨g, off + 2, cur, hA' (by omega) g off f1, f2, f3, fun j u hu => ?_⟩
  have e : ahC (x :: xs) = .int .i64 (x.1 : Int) :: .string ⟨x.2.toArray⟩ :: ahC xs := rfl
  have := f4 (j + 1 + 1) u (by rw [e]; exact hu)
  rwa [show off + (j + 1 + 1) = off + 2 + j by omega] at this
/-- one more is told -/
theorem RTell.step {w x x1 x2 : World} {L Q : Nat} {G : Option Nat} {s0 s : LE} {A A' B B' : Option Addr} {j c c' q d : Nat} {bs : List BL} {b : BL} {y : Nat × BL} {xs : AhL}
    (hQ : Q < w.heap.size) (hG : ∀ g, G = some g → g < w.heap.size)
    (h1 : bs.length = j) (h2 : REnd x L Q G s) (h3 : s.heard = s0.heard + j) (h4 : x.ownsRow w.heap.size 9 1 (.slice A j c) j (strs bs)) (h5 : j ≤ 64) (h6 : tellL 65 s0 = (bs ++ (tellL (65 - j) s).1, (tellL (65 - j) s).2)) (h7 : ∀ n, s.ahead n ≠ none → n ≤ s0.heard + 64) (h8 : KB [Q] w x)
    (hB : x.cell? ⟨Q, 6, none⟩ = some (.slice B q d)) (hR : AhR x L (.slice B q d) (y :: xs)) (hF : AhF (y :: xs) s.ahead) (hy : y = (s.heard + 1, b)) (hn : s.heard < 1000000)
    (hb1 : Below x.heap.size x x1) (hg : x1.grownBy x2 (Value.slice A j c).ownBlock) (ho : x2.ownsRow w.heap.size 9 1 (.slice A' (j + 1) c') (j + 1) (strs bs ++ [.string ⟨b.toArray⟩]))
    (hB' : 1 < d → ∀ g off, B = some ⟨g, off, none⟩ → B' = some ⟨g, off + 2, none⟩) :
    j ≤ 63 ∧ RTell w ((x2.setCell ⟨Q, 6, none⟩ (.slice B' (q - 1) (d - 1))).setCell ⟨Q, 2, none⟩ (.int .i64 ((s.heard + 1 : Nat) : Int))) L Q G s0 (j + 1) (.slice A' (j + 1) c') { s with heard := s.heard + 1, ahead := fun n => if n = s.heard + 1 then none else s.ahead n } := by
  subst hy
  have hsb : s.ahead (s.heard + 1) = some b := (hF.2 _ _).2 List.mem_cons_self
  have hj63 : j ≤ 63 := by have := h7 (s.heard + 1) (by rw [hsb]; simp); omega
  have sx := h8.1
  have s1 := hb1.size
  have s2 := hg.size
  have hne : ∀ g, g < w.heap.size → (Value.slice A j c).ownBlock ≠ some g := fun g hl e => by have := (h4.lt g e).1; omega
  have hsame : ∀ g, g < x.heap.size → (Value.slice A j c).ownBlock ≠ some g → x2.heap[g]? = x.heap[g]? := fun g hl e => (hg.block g (by omega) (fun h => e h.symm)).trans (hb1.block g hl)
  have hM2 : RMem x2 L Q G s := h2.mem.keep (hsame Q (by omega) (hne Q hQ)) (fun g e => hsame g (by have := hG g e; omega) (hne g (hG g e))) fun g cur hc => hsame g (lt_of_block hc) fun e => by
    obtain ⟨cur', hc'⟩ := own_type h4 g e
    exact row_ne hc hc' (by decide) rfl
  have hR2 : AhR x2 L (.slice B q d) ((s.heard + 1, b) :: xs) := hR.keep fun g cur hc => hsame g (lt_of_block hc) fun e => by
    obtain ⟨cur', hc'⟩ := own_type h4 g e
    exact row_ne hc hc' (by decide) rfl
  refine ⟨hj63, ?_⟩
  have hM3 : RMem (x2.setCell ⟨Q, 6, none⟩ (.slice B' (q - 1) (d - 1))) L Q G { s with ahead := fun n => if n = s.heard + 1 then none else s.ahead n } := by
    obtain ⟨e1, e2, e3⟩ := hM2.store 6 (.slice B' (q - 1) (d - 1))
    obtain ⟨k2, k3, sv, av, xs', k4, k5, k6, k7⟩ := hM2
    exact ⟨k2, k3, sv, _, xs, heap_setCell_same _ Q 6 _ _ _ k4, k5.keep fun g e _ => e1 g (e2 g e), (hR2.tail hB').keep fun g cur hc => e1 g (e3 g cur hc), hF.tail⟩
  have hok := h2.1
  have hM4 := hM3.setH (s.heard + 1)
  have ht : tellL (65 - j) s = (b :: (tellL (64 - j) { s with heard := s.heard + 1, ahead := fun n => if n = s.heard + 1 then none else s.ahead n }).1, (tellL (64 - j) { s with heard := s.heard + 1, ahead := fun n => if n = s.heard + 1 then none else s.ahead n }).2) := by
    rw [show 65 - j = (64 - j) + 1 by omega]
    rw [tellL, hsb]
  refine ⟨bs ++ [b], by simp [h1], hM4.fin ?_, by dsimp only; omega, ?_, by omega, ?_, fun n hn' => ?_, ?_⟩
  · refine ⟨hok.ep, hok.sent, hok.first, hok.fresh1, hok.fresh2, hok.next, by dsimp only; omega, hok.bytes, fun n c' hc => ?_⟩
    dsimp only at hc ⊢
    split at hc
    · cases hc
    · rename_i hnn
      have := hok.ahead n c' hc
      have h9 : n ≠ s.heard + 1 := hnn
      refine ⟨this.1, by omega, by omega⟩
  · refine ⟨A', c', by simp [h1], ?_⟩
    have e : strs (bs ++ [b]) = strs bs ++ [.string ⟨b.toArray⟩] := by unfold strs; simp
    rw [e, List.length_append, h1]
    exact own_same ho fun g hg' => by
      have hgw := (ho.lt g hg').1
      rw [Below.heap_setCell _ _ _ _ (show g ≠ Q by omega), Below.heap_setCell _ _ _ _ (show g ≠ Q by omega)]
  · rw [h6, ht, show 65 - (j + 1) = 64 - j by omega]
    simp
  · refine h7 n fun e => hn' ?_
    dsimp only
    rw [e]
    split <;> rfl
  · have hk2 : KB [Q] w x2 := ⟨by omega, fun g hl hx => (hsame g (by omega) (hne g hl)).trans (h8.2 g hl hx), (h8.3.below hb1).grown hg⟩
    exact (hk2.setCell (.inr (by simp)) _).setCell (.inr (by simp)) _
theorem putL_in {s : LE} {n : Nat} {b : BL} (h1 : s.heard < n) (h2 : n ≤ s.heard + 64) : putL s n b = putA { s with owes := true } n b := by
  unfold putL putA
  by_cases h : s.ahead n = none
  · rw [if_pos ⟨h1, h2, h⟩, if_pos h]
  · rw [if_neg (by rintro ⟨_, _, h3⟩; exact h h3), if_neg h]
theorem tell_zero {s : LE} (h : s.ahead (s.heard + 1) = none) : tellL 65 s = ([], s) := by
  rw [tellL, h]
theorem setO_ok {s : LE} (h : LEok s) (o : Bool) : LEok { s with owes := o } := ⟨h.ep, h.sent, h.first, h.fresh1, h.fresh2, h.next, h.heard, h.bytes, h.ahead⟩
theorem putA_heard (s : LE) (n : Nat) (b : BL) : (putA s n b).heard = s.heard := by unfold putA; split <;> rfl
end Go.Proofs.Ytigmmikijjcdiaa








namespace Go.Proofs.Ytigmmikijjcdiaa
open Go.RowKit
set_option linter.unusedVariables false
set_option linter.unusedSimpArgs false
def lenAt (w : World) (Q i : Nat) : Nat := match w.cell? ⟨Q, i, none⟩ with | some (.slice _ n _) => n | _ => 0
theorem lenAt_is {w : World} {Q i n c : Nat} {A : Option Addr} (h : w.cell? ⟨Q, i, none⟩ = some (.slice A n c)) : lenAt w Q i = n := by unfold lenAt; rw [h]
theorem lenAt_set {w : World} {Q i n c : Nat} {A : Option Addr} {u : Value} (h : w.cell? ⟨Q, i, none⟩ = some u) : lenAt (w.setCell ⟨Q, i, none⟩ (.slice A n c)).drew Q i = n := lenAt_is (w := (w.setCell ⟨Q, i, none⟩ (.slice A n c)).drew) (show (w.setCell ⟨Q, i, none⟩ (.slice A n c)).cell? ⟨Q, i, none⟩ = _ from World.cell?_setCell_same' _ _ _ (by rw [h]; rfl))
theorem lenAt_set2 {w : World} {Q i j n c : Nat} {A : Option Addr} {u v : Value} (hij : i ≠ j) (h : w.cell? ⟨Q, i, none⟩ = some u) : lenAt ((w.setCell ⟨Q, i, none⟩ (.slice A n c)).setCell ⟨Q, j, none⟩ v) Q i = n := lenAt_is (by rw [World.cell?_setCell_other _ _ _ _ (by intro e; injection e with _ e; exact hij e.symm)]; exact World.cell?_setCell_same' _ _ _ (by rw [h]; rfl))
/-- so many of what was sent have gone -/
def DropSt (w x : World) (L Q : Nat) (G : Option Nat) (s : LE) (d : Nat) : Prop := RMem x L Q G { s with sent := s.sent.drop d } ∧ KB [Q] w x
theorem DropSt.step {w x : World} {L Q : Nat} {G : Option Nat} {s : LE} {d g off q c : Nat} (h : DropSt w x L Q G s d) (hA : x.cell? ⟨Q, 5, none⟩ = some (.slice (some ⟨g, off, none⟩) q c)) (hn : d < s.sent.length) :
    DropSt w (x.setCell ⟨Q, 5, none⟩ (.slice (if c = 1 then some ⟨g, off, none⟩ else some ⟨g, off + 1, none⟩) (q - 1) (c - 1))).drew L Q G s (d + 1) := by
  obtain ⟨h1, h2⟩ := h
  have h3 := h1.drop1 (A' := if c = 1 then some ⟨g, off, none⟩ else some ⟨g, off + 1, none⟩) hA (by dsimp only; rw [List.length_drop]; omega) (fun hc g' off' e => by injection e with e; injection e with e1 e2; subst e1 e2; rw [if_neg (by omega)])
  dsimp only at h3
  rw [List.drop_drop] at h3
  exact ⟨h3.keep rfl (fun _ _ => rfl) fun _ _ _ => rfl, (h2.setCell (.inr (by simp)) _).drew⟩
set_option maxRecDepth 100000 in
set_option maxHeartbeats 16000000 in
theorem rhear_any (w : World) {L Q : Nat} {G : Option Nat} {s : LE} (h : REnd w L Q G s) (hLw : L ≤ w.heap.size) (A : Option Addr) (f : BL) (c : Nat) (hR : Rd w w.heap.size A (u8s f)) (hf : f.length ≤ 3000000) (hlc : f.length ≤ c) (hc : c ≤ 9223372036854775807) (hh : s.heard ≤ 900000) (hn0 : s.ahead (s.heard + 1) = none) :
    Calls Try.prog 50 #[.pointer (some ⟨Q, 0, none⟩), .slice A f.length c] w (RHearPost w L Q G s f) := by
  have HE := hide h
  have hok := h.1
  obtain ⟨A0, c0, B0, m0, d0, hrow, hc1, hc2, hA0, hGl⟩ := h.mem.row
  have hQ := lt_of_block hrow
  have HRow := hide hrow
  have HOk := hide hok
  have hrd := rread_any w A f c hR hf hlc hc
  obtain ⟨fl, hfl⟩ : ∃ z, f.length = z := ⟨_, rfl⟩
  rw [hfl] at hrd ⊢
  have HRd := hide hrd
  clear hrd hfl hR hf hlc h
  obtain ⟨ns, hns⟩ : ∃ x, s.sent.length = x := ⟨_, rfl⟩
  obtain ⟨nx0, hnx⟩ : ∃ x, s.next = x := ⟨_, rfl⟩
  obtain ⟨sep, hep⟩ : ∃ x, s.ep = x := ⟨_, rfl⟩
  obtain ⟨hs0, hhd⟩ : ∃ x, s.heard = x := ⟨_, rfl⟩
  obtain ⟨fr0, hfr⟩ : ∃ x, s.fresh = x := ⟨_, rfl⟩
  obtain ⟨fs, hfs⟩ : ∃ x, s.first = x := ⟨_, rfl⟩
  obtain ⟨ow0, how⟩ : ∃ x, s.owes = x := ⟨_, rfl⟩
  have b1 : ns ≤ 64 := by rw [← hns]; exact hok.sent
  have b2 : nx0 ≤ 1000000 := by rw [← hnx]; exact hok.next
  have b3' : sep ≤ 4611686018427387904 := by rw [← hep]; exact hok.ep
  have b4 : hs0 ≤ 900000 := by rw [← hhd]; exact hh
  have b5 : fs + ns = nx0 := by have := hok.first; rw [← hfs, ← hns, ← hnx]; unfold LE.first; omega
  have b6 : fr0 ≤ nx0 := by rw [← hfr, ← hnx]; exact hok.fresh2
  have HS : Hid (s.sent.length = ns ∧ s.next = nx0 ∧ s.ep = sep ∧ s.heard = hs0 ∧ s.first = fs ∧ s.fresh = fr0 ∧ s.owes = ow0) := hide ⟨hns, hnx, hep, hhd, hfs, hfr, how⟩
  rw [hns, hnx, hep, hhd, hfr, how] at hrow
  clear hns hnx hep hhd hfs hfr how hok
  obtain ⟨i3, a3i, a3z, a3s, a3b⟩ := info_parts (show (Try.prog.info? 9).map (fun i => (i.zero, i.size, i.bytes)) = some (some (.string ⟨#[]⟩), 1, 16) by kernel_rfl)
  rcases hq : readL f with _ | ⟨ep, hd, n, b⟩
  · have HFin : ∀ y, Below w.heap.size w y → Hid (RHearPost w L Q G s f (.returned (.tuple #[.slice none 0 0, .int .i64 150])) y) := fun y hb => hide (rhear_no HE.out hb (by unfold hearL; rw [hq]))
    have HQ := hide hq
    clear hq
    go_enter Try.func50, Try.ntmps50
    go_wp2_with fail
    refine HRd.out.mono ?_
    rintro e y ⟨hb, he⟩
    rw [HQ.out] at he
    dsimp only at he
    subst he
    have HFin := HFin y hb
    clear hb
    go_wp2
    exact bodyPost_ret (v := .tuple #[.slice none 0 0, .int .i64 150]) (by simp [results, Try.results50, go_sem]) rfl HFin.out
  obtain ⟨hb1, hb2, hb3, hb4⟩ := readL_bd hq
  unfold mostL at hb1 hb2 hb3
  have HQ := hide hq
  clear hq
  by_cases ce : ep = sep
  rotate_left
  · have HFin : ∀ y, Below w.heap.size w y → Hid (RHearPost w L Q G s f (.returned (.tuple #[.slice none 0 0, .int .i64 4])) y) := fun y hb => hide (rhear_no HE.out hb (by unfold hearL; rw [HQ.out]; dsimp only; rw [if_pos (by rw [HS.out.2.2.1]; exact ce)]))
    have ceI : ((ep : Int) != (sep : Int)) = true := by simp; omega
    go_enter Try.func50, Try.ntmps50
    go_wp2_with fail
    refine HRd.out.mono ?_
    rintro e y ⟨hb, he⟩
    rw [HQ.out] at he
    dsimp only at he
    subst he
    have HB := hide hb
    have p0 : y.cell? ⟨Q, 0, none⟩ = some (.int .i64 (sep : Int)) := cell_of_row _ _ 0 _ _ _ ((hb.block Q hQ).trans hrow)
    have p1 : y.cell? ⟨Q, 1, none⟩ = some (.int .i64 (nx0 : Int)) := cell_of_row _ _ 1 _ _ _ ((hb.block Q hQ).trans hrow)
    have p2 : y.cell? ⟨Q, 2, none⟩ = some (.int .i64 (hs0 : Int)) := cell_of_row _ _ 2 _ _ _ ((hb.block Q hQ).trans hrow)
    have p3 : y.cell? ⟨Q, 3, none⟩ = some (.int .i64 (fr0 : Int)) := cell_of_row _ _ 3 _ _ _ ((hb.block Q hQ).trans hrow)
    have p4 : y.cell? ⟨Q, 4, none⟩ = some (.bool ow0) := cell_of_row _ _ 4 _ _ _ ((hb.block Q hQ).trans hrow)
    have p5 : y.cell? ⟨Q, 5, none⟩ = some (.slice A0 ns c0) := cell_of_row _ _ 5 _ _ _ ((hb.block Q hQ).trans hrow)
    have p6 : y.cell? ⟨Q, 6, none⟩ = some (.slice B0 m0 d0) := cell_of_row _ _ 6 _ _ _ ((hb.block Q hQ).trans hrow)
    clear hb hrow
    have HFin := HFin y HB.out
    go_wp2
    exact bodyPost_ret (v := .tuple #[.slice none 0 0, .int .i64 4]) (by simp [results, Try.results50, go_sem]) rfl HFin.out
  subst ce
  have ceI : ((ep : Int) != (ep : Int)) = false := by simp
  by_cases cn : nx0 ≤ hd
  · have HFin : ∀ y, Below w.heap.size w y → Hid (RHearPost w L Q G s f (.returned (.tuple #[.slice none 0 0, .int .i64 2])) y) := fun y hb => hide (rhear_no HE.out hb (by unfold hearL; rw [HQ.out]; dsimp only; rw [if_neg (by rw [HS.out.2.2.1]; simp), if_pos (by rw [HS.out.2.1]; exact cn)]))
    have cnI : (nx0 : Int) ≤ (hd : Int) := by omega
    go_enter Try.func50, Try.ntmps50
    go_wp2_with fail
    refine HRd.out.mono ?_
    rintro e y ⟨hb, he⟩
    rw [HQ.out] at he
    dsimp only at he
    subst he
    have HB := hide hb
    have p0 : y.cell? ⟨Q, 0, none⟩ = some (.int .i64 (ep : Int)) := cell_of_row _ _ 0 _ _ _ ((hb.block Q hQ).trans hrow)
    have p1 : y.cell? ⟨Q, 1, none⟩ = some (.int .i64 (nx0 : Int)) := cell_of_row _ _ 1 _ _ _ ((hb.block Q hQ).trans hrow)
    have p2 : y.cell? ⟨Q, 2, none⟩ = some (.int .i64 (hs0 : Int)) := cell_of_row _ _ 2 _ _ _ ((hb.block Q hQ).trans hrow)
    have p3 : y.cell? ⟨Q, 3, none⟩ = some (.int .i64 (fr0 : Int)) := cell_of_row _ _ 3 _ _ _ ((hb.block Q hQ).trans hrow)
    have p4 : y.cell? ⟨Q, 4, none⟩ = some (.bool ow0) := cell_of_row _ _ 4 _ _ _ ((hb.block Q hQ).trans hrow)
    have p5 : y.cell? ⟨Q, 5, none⟩ = some (.slice A0 ns c0) := cell_of_row _ _ 5 _ _ _ ((hb.block Q hQ).trans hrow)
    have p6 : y.cell? ⟨Q, 6, none⟩ = some (.slice B0 m0 d0) := cell_of_row _ _ 6 _ _ _ ((hb.block Q hQ).trans hrow)
    clear hb hrow
    have HFin := HFin y HB.out
    go_wp2
    exact bodyPost_ret (v := .tuple #[.slice none 0 0, .int .i64 2]) (by simp [results, Try.results50, go_sem]) rfl HFin.out
  have cnI : ¬ (nx0 : Int) ≤ (hd : Int) := by omega
  have HNx : Hid (hd < s.next) := hide (by rw [HS.out.2.1]; omega)
  obtain ⟨D, hD⟩ : ∃ z, ackD s hd = z := ⟨_, rfl⟩
  have HD := hide hD
  have hDn : D ≤ ns := by rw [← hD, ← HS.out.1]; exact ackD_le HOk.out HNx.out
  clear hD
  go_enter Try.func50, Try.ntmps50
  go_wp2_with fail
  refine HRd.out.mono ?_
  rintro e y ⟨hb, he⟩
  rw [HQ.out] at he
  dsimp only at he
  subst he
  have HB := hide hb
  have p0 : y.cell? ⟨Q, 0, none⟩ = some (.int .i64 (ep : Int)) := cell_of_row _ _ 0 _ _ _ ((hb.block Q hQ).trans hrow)
  have p1 : y.cell? ⟨Q, 1, none⟩ = some (.int .i64 (nx0 : Int)) := cell_of_row _ _ 1 _ _ _ ((hb.block Q hQ).trans hrow)
  have p2 : y.cell? ⟨Q, 2, none⟩ = some (.int .i64 (hs0 : Int)) := cell_of_row _ _ 2 _ _ _ ((hb.block Q hQ).trans hrow)
  have p3 : y.cell? ⟨Q, 3, none⟩ = some (.int .i64 (fr0 : Int)) := cell_of_row _ _ 3 _ _ _ ((hb.block Q hQ).trans hrow)
  have p4 : y.cell? ⟨Q, 4, none⟩ = some (.bool ow0) := cell_of_row _ _ 4 _ _ _ ((hb.block Q hQ).trans hrow)
  have p5 : y.cell? ⟨Q, 5, none⟩ = some (.slice A0 ns c0) := cell_of_row _ _ 5 _ _ _ ((hb.block Q hQ).trans hrow)
  have p6 : y.cell? ⟨Q, 6, none⟩ = some (.slice B0 m0 d0) := cell_of_row _ _ 6 _ _ _ ((hb.block Q hQ).trans hrow)
  clear hb hrow
  go_wp2
  go_loopw [] (fun wr => ∃ d : Nat, d ≤ D ∧ Hid (DropSt w wr L Q G s d)) (fun wr => lenAt wr Q 5)
  case atStart => exact ⟨0, by omega, hide ⟨HE.out.mem.below HB.out, (KB.refl _ _).below HB.out (Nat.le_refl _)⟩⟩
  case round =>
    obtain ⟨d, hdD, HSt⟩ := hrel
    obtain ⟨wr, rfl⟩ : ∃ z : World, z = wr := ⟨_, rfl⟩
    clear p0 p1 p2 p3 p4 p5 p6
    obtain ⟨A5, c5, B5, m5, d5, hr5, hq1, hq2, hA5, -⟩ := HSt.out.1.row
    dsimp only at hr5 hq1
    rw [List.length_drop, HS.out.1, HS.out.2.1, HS.out.2.2.1, HS.out.2.2.2.1, HS.out.2.2.2.2.2.1, HS.out.2.2.2.2.2.2] at hr5
    rw [List.length_drop, HS.out.1] at hq1
    obtain ⟨q, hqd⟩ : ∃ z, ns - d = z := ⟨_, rfl⟩
    rw [hqd] at hr5 hq1
    have HMore := hide (ackD_more HOk.out HNx.out (show d ≤ ackD s hd by rw [HD.out]; exact hdD))
    rw [HS.out.1, HS.out.2.2.2.2.1, HD.out] at HMore
    have HQd := hide hqd
    clear hqd
    have HR5 := hide hr5
    have hQr := lt_of_block hr5
    have r1 : wr.cell? ⟨Q, 1, none⟩ = some (.int .i64 (nx0 : Int)) := cell_of_row _ _ 1 _ _ _ (hr5)
    have r3 : wr.cell? ⟨Q, 3, none⟩ = some (.int .i64 (fr0 : Int)) := cell_of_row _ _ 3 _ _ _ (hr5)
    have r5 : wr.cell? ⟨Q, 5, none⟩ = some (.slice A5 q c5) := cell_of_row _ _ 5 _ _ _ (hr5)
    clear hr5
    have swr : w.heap.size ≤ wr.heap.size := HSt.out.2.1
    by_cases hmore : d < D
    · have hm := HMore.out.2 hmore
      have k1 : decide (0 < q) = true := decide_eq_true (by have := HQd.out; omega)
      obtain ⟨fd, hfd⟩ : ∃ z, fs + d = z := ⟨_, rfl⟩
      have k2 : (fd : Int) ≤ (hd : Int) := by have := hm.2; omega
      have hd9 : d < ns := hm.1
      have HFd := hide hfd
      clear hm hfd
      have kfs : IntKind.i64.wrap ((nx0 : Int) - (q : Int)) = (fd : Int) := by have h9 := HQd.out; have h8 := HFd.out; rw [IntWalk.i64_in _ (by omega)]; omega
      have kc : 0 < c5 := by have := HQd.out; omega
      obtain ⟨g, off, rfl⟩ := hA5 kc
      go_upto_region 8 with fail
      refine wp_region_held_drew (S := Kept wr) (by kernel_rfl) (Kept.drew wr) (fun hS0 => ?_)
      refine take_at (i := 0) (d := 37) (v := ?_) (by simp only [List.getElem?_toArray, List.getElem?_cons_succ, List.getElem?_cons_zero]; rfl) rfl (by kernel_rfl) (by kernel_rfl) (by kernel_rfl) (fun _ _ _ h => h) rfl ?_ (by assumption) ?_
      rotate_left
      focus (intro w hSw; go_simp; (try with_reducible rfl); done)
      try simp only [List.setIfInBounds_toArray, List.set_cons_zero, List.set_cons_succ]
      refine take_at (i := 1) (d := 38) (v := ?_) (by simp only [List.getElem?_toArray, List.getElem?_cons_succ, List.getElem?_cons_zero]; rfl) rfl (by kernel_rfl) (by kernel_rfl) (by kernel_rfl) (fun _ _ _ h => h) rfl ?_ (by assumption) ?_
      rotate_left
      focus (intro w hSw; go_simp; (try with_reducible rfl); done)
      try simp only [List.setIfInBounds_toArray, List.set_cons_zero, List.set_cons_succ]
      refine take_at (i := 2) (d := 39) (v := ?_) (by simp only [List.getElem?_toArray, List.getElem?_cons_succ, List.getElem?_cons_zero]; rfl) rfl (by kernel_rfl) (by kernel_rfl) (by kernel_rfl) (fun _ _ _ h => h) rfl ?_ (by assumption) ?_
      rotate_left
      focus (intro w hSw; go_simp; (try with_reducible rfl); done)
      try simp only [List.setIfInBounds_toArray, List.set_cons_zero, List.set_cons_succ]
      refine take_at (i := 3) (d := 40) (v := ?_) (by simp only [List.getElem?_toArray, List.getElem?_cons_succ, List.getElem?_cons_zero]; rfl) rfl (by kernel_rfl) (by kernel_rfl) (by kernel_rfl) (fun _ _ _ h => h) rfl ?_ (by assumption) ?_
      rotate_left
      focus (intro w hSw; go_simp; (try with_reducible rfl); done)
      try simp only [List.setIfInBounds_toArray, List.set_cons_zero, List.set_cons_succ]
      refine take_at (i := 4) (d := 41) (v := ?_) (by simp only [List.getElem?_toArray, List.getElem?_cons_succ, List.getElem?_cons_zero]; rfl) rfl (by kernel_rfl) (by kernel_rfl) (by kernel_rfl) (fun _ _ _ h => h) rfl ?_ (by assumption) ?_
      rotate_left
      focus (intro w hSw; go_simp; (try with_reducible rfl); done)
      try simp only [List.setIfInBounds_toArray, List.set_cons_zero, List.set_cons_succ]
      refine take_at (i := 5) (d := 42) (v := ?_) (by simp only [List.getElem?_toArray, List.getElem?_cons_succ, List.getElem?_cons_zero]; rfl) rfl (by kernel_rfl) (by kernel_rfl) (by kernel_rfl) (fun _ _ _ h => h) rfl ?_ (by assumption) ?_
      rotate_left
      focus (intro w hSw; go_simp; (try rw [k1]); (try with_reducible rfl); done)
      try simp only [List.setIfInBounds_toArray, List.set_cons_zero, List.set_cons_succ]
      refine take_at (i := 6) (d := 43) (v := ?_) (by simp only [List.getElem?_toArray, List.getElem?_cons_succ, List.getElem?_cons_zero]; rfl) rfl (by kernel_rfl) (by kernel_rfl) (by kernel_rfl) (fun _ _ _ h => h) rfl ?_ (by assumption) ?_
      rotate_left
      focus (intro w hSw; go_simp; (try with_reducible rfl); done)
      try simp only [List.setIfInBounds_toArray, List.set_cons_zero, List.set_cons_succ]
      refine take_at (i := 7) (d := 44) (v := ?_) (by simp only [List.getElem?_toArray, List.getElem?_cons_succ, List.getElem?_cons_zero]; rfl) rfl (by kernel_rfl) (by kernel_rfl) (by kernel_rfl) (fun _ _ _ h => h) rfl ?_ (by assumption) ?_
      rotate_left
      focus (intro w hSw; go_simp; (try with_reducible rfl); done)
      try simp only [List.setIfInBounds_toArray, List.set_cons_zero, List.set_cons_succ]
      refine take_at (i := 8) (d := 45) (v := ?_) (by simp only [List.getElem?_toArray, List.getElem?_cons_succ, List.getElem?_cons_zero]; rfl) rfl (by kernel_rfl) (by kernel_rfl) (by kernel_rfl) (fun _ _ _ h => h) rfl ?_ (by assumption) ?_
      rotate_left
      focus (intro w hSw; go_simp; (try with_reducible rfl); done)
      try simp only [List.setIfInBounds_toArray, List.set_cons_zero, List.set_cons_succ]
      refine take_at (i := 9) (d := 46) (v := ?_) (by simp only [List.getElem?_toArray, List.getElem?_cons_succ, List.getElem?_cons_zero]; rfl) rfl (by kernel_rfl) (by kernel_rfl) (by kernel_rfl) (fun _ _ _ h => h) rfl ?_ (by assumption) ?_
      rotate_left
      focus (intro w hSw; go_simp; (try with_reducible rfl); done)
      try simp only [List.setIfInBounds_toArray, List.set_cons_zero, List.set_cons_succ]
      refine take_at (i := 10) (d := 47) (v := ?_) (by simp only [List.getElem?_toArray, List.getElem?_cons_succ, List.getElem?_cons_zero]; rfl) rfl (by kernel_rfl) (by kernel_rfl) (by kernel_rfl) (fun _ _ _ h => h) rfl ?_ (by assumption) ?_
      rotate_left
      focus (intro w hSw; go_simp; (try with_reducible rfl); done)
      try simp only [List.setIfInBounds_toArray, List.set_cons_zero, List.set_cons_succ]
      refine take_at (i := 11) (d := 48) (v := ?_) (by simp only [List.getElem?_toArray, List.getElem?_cons_succ, List.getElem?_cons_zero]; rfl) rfl (by kernel_rfl) (by kernel_rfl) (by kernel_rfl) (fun _ _ _ h => h) rfl ?_ (by assumption) ?_
      rotate_left
      focus (intro w hSw; go_simp; (try with_reducible rfl); done)
      try simp only [List.setIfInBounds_toArray, List.set_cons_zero, List.set_cons_succ]
      refine take_at (i := 12) (d := 49) (v := ?_) (by simp only [List.getElem?_toArray, List.getElem?_cons_succ, List.getElem?_cons_zero]; rfl) rfl (by kernel_rfl) (by kernel_rfl) (by kernel_rfl) (fun _ _ _ h => h) rfl ?_ (by assumption) ?_
      rotate_left
      focus (intro w hSw; go_simp; (try with_reducible rfl); done)
      try simp only [List.setIfInBounds_toArray, List.set_cons_zero, List.set_cons_succ]
      refine take_at (i := 13) (d := 50) (v := ?_) (by simp only [List.getElem?_toArray, List.getElem?_cons_succ, List.getElem?_cons_zero]; rfl) rfl (by kernel_rfl) (by kernel_rfl) (by kernel_rfl) (fun _ _ _ h => h) rfl ?_ (by assumption) ?_
      rotate_left
      focus (intro w hSw; go_simp; (try with_reducible rfl); done)
      try simp only [List.setIfInBounds_toArray, List.set_cons_zero, List.set_cons_succ]
      refine take_at (i := 14) (d := 51) (v := ?_) (by simp only [List.getElem?_toArray, List.getElem?_cons_succ, List.getElem?_cons_zero]; rfl) rfl (by kernel_rfl) (by kernel_rfl) (by kernel_rfl) (fun _ _ _ h => h) rfl ?_ (by assumption) ?_
      rotate_left
      focus (intro w hSw; go_simp; (try with_reducible rfl); done)
      try simp only [List.setIfInBounds_toArray, List.set_cons_zero, List.set_cons_succ]
      refine take_at (i := 15) (d := 52) (v := ?_) (by simp only [List.getElem?_toArray, List.getElem?_cons_succ, List.getElem?_cons_zero]; rfl) rfl (by kernel_rfl) (by kernel_rfl) (by kernel_rfl) (fun _ _ _ h => h) rfl ?_ (by assumption) ?_
      rotate_left
      focus (intro w hSw; go_simp; (try with_reducible rfl); done)
      try simp only [List.setIfInBounds_toArray, List.set_cons_zero, List.set_cons_succ]
      refine take_at (i := 16) (d := 53) (v := ?_) (by simp only [List.getElem?_toArray, List.getElem?_cons_succ, List.getElem?_cons_zero]; rfl) rfl (by kernel_rfl) (by kernel_rfl) (by kernel_rfl) (fun _ _ _ h => h) rfl ?_ (by assumption) ?_
      rotate_left
      focus (intro w hSw; go_simp; (try rw [kfs]); (try with_reducible rfl); done)
      try simp only [List.setIfInBounds_toArray, List.set_cons_zero, List.set_cons_succ]
      refine take_at (i := 17) (d := 54) (v := ?_) (by simp only [List.getElem?_toArray, List.getElem?_cons_succ, List.getElem?_cons_zero]; rfl) rfl (by kernel_rfl) (by kernel_rfl) (by kernel_rfl) (fun _ _ _ h => h) rfl ?_ (by assumption) ?_
      rotate_left
      focus (intro w hSw; go_simp; (try with_reducible rfl); done)
      try simp only [List.setIfInBounds_toArray, List.set_cons_zero, List.set_cons_succ]
      refine take_at (i := 18) (d := 55) (v := ?_) (by simp only [List.getElem?_toArray, List.getElem?_cons_succ, List.getElem?_cons_zero]; rfl) rfl (by kernel_rfl) (by kernel_rfl) (by kernel_rfl) (fun _ _ _ h => h) rfl ?_ (by assumption) ?_
      rotate_left
      focus (intro w hSw; go_simp; (try rw [k2]); (try with_reducible rfl); done)
      try simp only [List.setIfInBounds_toArray, List.set_cons_zero, List.set_cons_succ]
      refine take_at (i := 19) (d := 56) (v := ?_) (by simp only [List.getElem?_toArray, List.getElem?_cons_succ, List.getElem?_cons_zero]; rfl) rfl (by kernel_rfl) (by kernel_rfl) (by kernel_rfl) (fun _ _ _ h => h) rfl ?_ (by assumption) ?_
      rotate_left
      focus (intro w hSw; go_simp; (try with_reducible rfl); done)
      try simp only [List.setIfInBounds_toArray, List.set_cons_zero, List.set_cons_succ]
      refine wpAnyH_done (by kernel_rfl) ?_ _
      clear hS0
      have z5 : wr.frozen? ⟨Q, 5, none⟩ = false := frozen_of_row _ _ 5 _ _ HR5.out
      have hq9 : 1 ≤ q := by have := HQd.out; omega
      have kI1 : (1 : Int) ≤ (q : Int) := by omega
      have kI2 : (1 : Int) ≤ (c5 : Int) := by omega
      have HP5 := hide r5
      have HFin := hide (DropSt.step HSt.out r5 (by rw [HS.out.1]; exact hd9))
      clear hq9
      go_wp2
      all_goals go_roundw
      case rel => exact ⟨d + 1, by omega, HFin⟩
      case measure => rw [lenAt_is HP5.out, lenAt_set HP5.out]; omega
    have hdd : d = D := by omega
    have HDD := hide hdd
    clear hdd hmore
    go_upto_region 8 with fail
    go_cut [56] (fun v56 wc => v56 = .bool false ∧ wr.drew = wc)
    case first =>
      by_cases hq0 : 0 < q
      · have k1 : decide (0 < q) = true := decide_eq_true hq0
        obtain ⟨fd, hfd⟩ : ∃ z, fs + d = z := ⟨_, rfl⟩
        have k2 : ¬ (fd : Int) ≤ (hd : Int) := (fun h9 => by have h8 := HMore.out.1 ⟨by have := HQd.out; omega, by omega⟩; have := HDD.out; omega)
        have HFd := hide hfd
        clear hfd
        have kfs : IntKind.i64.wrap ((nx0 : Int) - (q : Int)) = (fd : Int) := by have h9 := HQd.out; have h8 := HFd.out; rw [IntWalk.i64_in _ (by omega)]; omega
        refine wp_region_held_drew (S := Kept wr) (by kernel_rfl) (Kept.drew wr) (fun hS0 => ?_)
        refine take_at (i := 0) (d := 37) (v := ?_) (by simp only [List.getElem?_toArray, List.getElem?_cons_succ, List.getElem?_cons_zero]; rfl) rfl (by kernel_rfl) (by kernel_rfl) (by kernel_rfl) (fun _ _ _ h => h) rfl ?_ (by assumption) ?_
        rotate_left
        focus (intro w hSw; go_simp; (try with_reducible rfl); done)
        try simp only [List.setIfInBounds_toArray, List.set_cons_zero, List.set_cons_succ]
        refine take_at (i := 1) (d := 38) (v := ?_) (by simp only [List.getElem?_toArray, List.getElem?_cons_succ, List.getElem?_cons_zero]; rfl) rfl (by kernel_rfl) (by kernel_rfl) (by kernel_rfl) (fun _ _ _ h => h) rfl ?_ (by assumption) ?_
        rotate_left
        focus (intro w hSw; go_simp; (try with_reducible rfl); done)
        try simp only [List.setIfInBounds_toArray, List.set_cons_zero, List.set_cons_succ]
        refine take_at (i := 2) (d := 39) (v := ?_) (by simp only [List.getElem?_toArray, List.getElem?_cons_succ, List.getElem?_cons_zero]; rfl) rfl (by kernel_rfl) (by kernel_rfl) (by kernel_rfl) (fun _ _ _ h => h) rfl ?_ (by assumption) ?_
        rotate_left
        focus (intro w hSw; go_simp; (try with_reducible rfl); done)
        try simp only [List.setIfInBounds_toArray, List.set_cons_zero, List.set_cons_succ]
        refine take_at (i := 3) (d := 40) (v := ?_) (by simp only [List.getElem?_toArray, List.getElem?_cons_succ, List.getElem?_cons_zero]; rfl) rfl (by kernel_rfl) (by kernel_rfl) (by kernel_rfl) (fun _ _ _ h => h) rfl ?_ (by assumption) ?_
        rotate_left
        focus (intro w hSw; go_simp; (try with_reducible rfl); done)
        try simp only [List.setIfInBounds_toArray, List.set_cons_zero, List.set_cons_succ]
        refine take_at (i := 4) (d := 41) (v := ?_) (by simp only [List.getElem?_toArray, List.getElem?_cons_succ, List.getElem?_cons_zero]; rfl) rfl (by kernel_rfl) (by kernel_rfl) (by kernel_rfl) (fun _ _ _ h => h) rfl ?_ (by assumption) ?_
        rotate_left
        focus (intro w hSw; go_simp; (try with_reducible rfl); done)
        try simp only [List.setIfInBounds_toArray, List.set_cons_zero, List.set_cons_succ]
        refine take_at (i := 5) (d := 42) (v := ?_) (by simp only [List.getElem?_toArray, List.getElem?_cons_succ, List.getElem?_cons_zero]; rfl) rfl (by kernel_rfl) (by kernel_rfl) (by kernel_rfl) (fun _ _ _ h => h) rfl ?_ (by assumption) ?_
        rotate_left
        focus (intro w hSw; go_simp; (try rw [k1]); (try with_reducible rfl); done)
        try simp only [List.setIfInBounds_toArray, List.set_cons_zero, List.set_cons_succ]
        refine take_at (i := 6) (d := 43) (v := ?_) (by simp only [List.getElem?_toArray, List.getElem?_cons_succ, List.getElem?_cons_zero]; rfl) rfl (by kernel_rfl) (by kernel_rfl) (by kernel_rfl) (fun _ _ _ h => h) rfl ?_ (by assumption) ?_
        rotate_left
        focus (intro w hSw; go_simp; (try with_reducible rfl); done)
        try simp only [List.setIfInBounds_toArray, List.set_cons_zero, List.set_cons_succ]
        refine take_at (i := 7) (d := 44) (v := ?_) (by simp only [List.getElem?_toArray, List.getElem?_cons_succ, List.getElem?_cons_zero]; rfl) rfl (by kernel_rfl) (by kernel_rfl) (by kernel_rfl) (fun _ _ _ h => h) rfl ?_ (by assumption) ?_
        rotate_left
        focus (intro w hSw; go_simp; (try with_reducible rfl); done)
        try simp only [List.setIfInBounds_toArray, List.set_cons_zero, List.set_cons_succ]
        refine take_at (i := 8) (d := 45) (v := ?_) (by simp only [List.getElem?_toArray, List.getElem?_cons_succ, List.getElem?_cons_zero]; rfl) rfl (by kernel_rfl) (by kernel_rfl) (by kernel_rfl) (fun _ _ _ h => h) rfl ?_ (by assumption) ?_
        rotate_left
        focus (intro w hSw; go_simp; (try with_reducible rfl); done)
        try simp only [List.setIfInBounds_toArray, List.set_cons_zero, List.set_cons_succ]
        refine take_at (i := 9) (d := 46) (v := ?_) (by simp only [List.getElem?_toArray, List.getElem?_cons_succ, List.getElem?_cons_zero]; rfl) rfl (by kernel_rfl) (by kernel_rfl) (by kernel_rfl) (fun _ _ _ h => h) rfl ?_ (by assumption) ?_
        rotate_left
        focus (intro w hSw; go_simp; (try with_reducible rfl); done)
        try simp only [List.setIfInBounds_toArray, List.set_cons_zero, List.set_cons_succ]
        refine take_at (i := 10) (d := 47) (v := ?_) (by simp only [List.getElem?_toArray, List.getElem?_cons_succ, List.getElem?_cons_zero]; rfl) rfl (by kernel_rfl) (by kernel_rfl) (by kernel_rfl) (fun _ _ _ h => h) rfl ?_ (by assumption) ?_
        rotate_left
        focus (intro w hSw; go_simp; (try with_reducible rfl); done)
        try simp only [List.setIfInBounds_toArray, List.set_cons_zero, List.set_cons_succ]
        refine take_at (i := 11) (d := 48) (v := ?_) (by simp only [List.getElem?_toArray, List.getElem?_cons_succ, List.getElem?_cons_zero]; rfl) rfl (by kernel_rfl) (by kernel_rfl) (by kernel_rfl) (fun _ _ _ h => h) rfl ?_ (by assumption) ?_
        rotate_left
        focus (intro w hSw; go_simp; (try with_reducible rfl); done)
        try simp only [List.setIfInBounds_toArray, List.set_cons_zero, List.set_cons_succ]
        refine take_at (i := 12) (d := 49) (v := ?_) (by simp only [List.getElem?_toArray, List.getElem?_cons_succ, List.getElem?_cons_zero]; rfl) rfl (by kernel_rfl) (by kernel_rfl) (by kernel_rfl) (fun _ _ _ h => h) rfl ?_ (by assumption) ?_
        rotate_left
        focus (intro w hSw; go_simp; (try with_reducible rfl); done)
        try simp only [List.setIfInBounds_toArray, List.set_cons_zero, List.set_cons_succ]
        refine take_at (i := 13) (d := 50) (v := ?_) (by simp only [List.getElem?_toArray, List.getElem?_cons_succ, List.getElem?_cons_zero]; rfl) rfl (by kernel_rfl) (by kernel_rfl) (by kernel_rfl) (fun _ _ _ h => h) rfl ?_ (by assumption) ?_
        rotate_left
        focus (intro w hSw; go_simp; (try with_reducible rfl); done)
        try simp only [List.setIfInBounds_toArray, List.set_cons_zero, List.set_cons_succ]
        refine take_at (i := 14) (d := 51) (v := ?_) (by simp only [List.getElem?_toArray, List.getElem?_cons_succ, List.getElem?_cons_zero]; rfl) rfl (by kernel_rfl) (by kernel_rfl) (by kernel_rfl) (fun _ _ _ h => h) rfl ?_ (by assumption) ?_
        rotate_left
        focus (intro w hSw; go_simp; (try with_reducible rfl); done)
        try simp only [List.setIfInBounds_toArray, List.set_cons_zero, List.set_cons_succ]
        refine take_at (i := 15) (d := 52) (v := ?_) (by simp only [List.getElem?_toArray, List.getElem?_cons_succ, List.getElem?_cons_zero]; rfl) rfl (by kernel_rfl) (by kernel_rfl) (by kernel_rfl) (fun _ _ _ h => h) rfl ?_ (by assumption) ?_
        rotate_left
        focus (intro w hSw; go_simp; (try with_reducible rfl); done)
        try simp only [List.setIfInBounds_toArray, List.set_cons_zero, List.set_cons_succ]
        refine take_at (i := 16) (d := 53) (v := ?_) (by simp only [List.getElem?_toArray, List.getElem?_cons_succ, List.getElem?_cons_zero]; rfl) rfl (by kernel_rfl) (by kernel_rfl) (by kernel_rfl) (fun _ _ _ h => h) rfl ?_ (by assumption) ?_
        rotate_left
        focus (intro w hSw; go_simp; (try rw [kfs]); (try with_reducible rfl); done)
        try simp only [List.setIfInBounds_toArray, List.set_cons_zero, List.set_cons_succ]
        refine take_at (i := 17) (d := 54) (v := ?_) (by simp only [List.getElem?_toArray, List.getElem?_cons_succ, List.getElem?_cons_zero]; rfl) rfl (by kernel_rfl) (by kernel_rfl) (by kernel_rfl) (fun _ _ _ h => h) rfl ?_ (by assumption) ?_
        rotate_left
        focus (intro w hSw; go_simp; (try with_reducible rfl); done)
        try simp only [List.setIfInBounds_toArray, List.set_cons_zero, List.set_cons_succ]
        refine take_at (i := 18) (d := 55) (v := ?_) (by simp only [List.getElem?_toArray, List.getElem?_cons_succ, List.getElem?_cons_zero]; rfl) rfl (by kernel_rfl) (by kernel_rfl) (by kernel_rfl) (fun _ _ _ h => h) rfl ?_ (by assumption) ?_
        rotate_left
        focus (intro w hSw; go_simp; (try rw [k2]); (try with_reducible rfl); done)
        try simp only [List.setIfInBounds_toArray, List.set_cons_zero, List.set_cons_succ]
        refine take_at (i := 19) (d := 56) (v := ?_) (by simp only [List.getElem?_toArray, List.getElem?_cons_succ, List.getElem?_cons_zero]; rfl) rfl (by kernel_rfl) (by kernel_rfl) (by kernel_rfl) (fun _ _ _ h => h) rfl ?_ (by assumption) ?_
        rotate_left
        focus (intro w hSw; go_simp; (try with_reducible rfl); done)
        try simp only [List.setIfInBounds_toArray, List.set_cons_zero, List.set_cons_succ]
        refine wpAnyH_done (by kernel_rfl) ?_ _
        clear hS0
        go_wp2
        go_meet
        case rel => exact ⟨rfl, rfl⟩
      have k1 : decide (0 < q) = false := decide_eq_false hq0
      refine wp_region_held_drew (S := Kept wr) (by kernel_rfl) (Kept.drew wr) (fun hS0 => ?_)
      refine take_at (i := 0) (d := 37) (v := ?_) (by simp only [List.getElem?_toArray, List.getElem?_cons_succ, List.getElem?_cons_zero]; rfl) rfl (by kernel_rfl) (by kernel_rfl) (by kernel_rfl) (fun _ _ _ h => h) rfl ?_ (by assumption) ?_
      rotate_left
      focus (intro w hSw; go_simp; (try with_reducible rfl); done)
      try simp only [List.setIfInBounds_toArray, List.set_cons_zero, List.set_cons_succ]
      refine take_at (i := 1) (d := 38) (v := ?_) (by simp only [List.getElem?_toArray, List.getElem?_cons_succ, List.getElem?_cons_zero]; rfl) rfl (by kernel_rfl) (by kernel_rfl) (by kernel_rfl) (fun _ _ _ h => h) rfl ?_ (by assumption) ?_
      rotate_left
      focus (intro w hSw; go_simp; (try with_reducible rfl); done)
      try simp only [List.setIfInBounds_toArray, List.set_cons_zero, List.set_cons_succ]
      refine take_at (i := 2) (d := 39) (v := ?_) (by simp only [List.getElem?_toArray, List.getElem?_cons_succ, List.getElem?_cons_zero]; rfl) rfl (by kernel_rfl) (by kernel_rfl) (by kernel_rfl) (fun _ _ _ h => h) rfl ?_ (by assumption) ?_
      rotate_left
      focus (intro w hSw; go_simp; (try with_reducible rfl); done)
      try simp only [List.setIfInBounds_toArray, List.set_cons_zero, List.set_cons_succ]
      refine take_at (i := 3) (d := 40) (v := ?_) (by simp only [List.getElem?_toArray, List.getElem?_cons_succ, List.getElem?_cons_zero]; rfl) rfl (by kernel_rfl) (by kernel_rfl) (by kernel_rfl) (fun _ _ _ h => h) rfl ?_ (by assumption) ?_
      rotate_left
      focus (intro w hSw; go_simp; (try with_reducible rfl); done)
      try simp only [List.setIfInBounds_toArray, List.set_cons_zero, List.set_cons_succ]
      refine take_at (i := 4) (d := 41) (v := ?_) (by simp only [List.getElem?_toArray, List.getElem?_cons_succ, List.getElem?_cons_zero]; rfl) rfl (by kernel_rfl) (by kernel_rfl) (by kernel_rfl) (fun _ _ _ h => h) rfl ?_ (by assumption) ?_
      rotate_left
      focus (intro w hSw; go_simp; (try with_reducible rfl); done)
      try simp only [List.setIfInBounds_toArray, List.set_cons_zero, List.set_cons_succ]
      refine take_at (i := 5) (d := 42) (v := ?_) (by simp only [List.getElem?_toArray, List.getElem?_cons_succ, List.getElem?_cons_zero]; rfl) rfl (by kernel_rfl) (by kernel_rfl) (by kernel_rfl) (fun _ _ _ h => h) rfl ?_ (by assumption) ?_
      rotate_left
      focus (intro w hSw; go_simp; (try rw [k1]); (try with_reducible rfl); done)
      try simp only [List.setIfInBounds_toArray, List.set_cons_zero, List.set_cons_succ]
      refine take_at (i := 6) (d := 43) (v := ?_) (by simp only [List.getElem?_toArray, List.getElem?_cons_succ, List.getElem?_cons_zero]; rfl) rfl (by kernel_rfl) (by kernel_rfl) (by kernel_rfl) (fun _ _ _ h => h) rfl ?_ (by assumption) ?_
      rotate_left
      focus (intro w hSw; go_simp; (try with_reducible rfl); done)
      try simp only [List.setIfInBounds_toArray, List.set_cons_zero, List.set_cons_succ]
      refine skip_at (i := 7) (d := 44) (by simp only [List.getElem?_toArray, List.getElem?_cons_succ, List.getElem?_cons_zero]; rfl) rfl (by kernel_rfl) (by kernel_rfl) (by kernel_rfl) (fun _ _ _ h => h) rfl (by assumption) ?_
      try simp only [List.setIfInBounds_toArray, List.set_cons_zero, List.set_cons_succ]
      refine skip_at (i := 8) (d := 45) (by simp only [List.getElem?_toArray, List.getElem?_cons_succ, List.getElem?_cons_zero]; rfl) rfl (by kernel_rfl) (by kernel_rfl) (by kernel_rfl) (fun _ _ _ h => h) rfl (by assumption) ?_
      try simp only [List.setIfInBounds_toArray, List.set_cons_zero, List.set_cons_succ]
      refine skip_at (i := 9) (d := 46) (by simp only [List.getElem?_toArray, List.getElem?_cons_succ, List.getElem?_cons_zero]; rfl) rfl (by kernel_rfl) (by kernel_rfl) (by kernel_rfl) (fun _ _ _ h => h) rfl (by assumption) ?_
      try simp only [List.setIfInBounds_toArray, List.set_cons_zero, List.set_cons_succ]
      refine skip_at (i := 10) (d := 47) (by simp only [List.getElem?_toArray, List.getElem?_cons_succ, List.getElem?_cons_zero]; rfl) rfl (by kernel_rfl) (by kernel_rfl) (by kernel_rfl) (fun _ _ _ h => h) rfl (by assumption) ?_
      try simp only [List.setIfInBounds_toArray, List.set_cons_zero, List.set_cons_succ]
      refine skip_at (i := 11) (d := 48) (by simp only [List.getElem?_toArray, List.getElem?_cons_succ, List.getElem?_cons_zero]; rfl) rfl (by kernel_rfl) (by kernel_rfl) (by kernel_rfl) (fun _ _ _ h => h) rfl (by assumption) ?_
      try simp only [List.setIfInBounds_toArray, List.set_cons_zero, List.set_cons_succ]
      refine skip_at (i := 12) (d := 49) (by simp only [List.getElem?_toArray, List.getElem?_cons_succ, List.getElem?_cons_zero]; rfl) rfl (by kernel_rfl) (by kernel_rfl) (by kernel_rfl) (fun _ _ _ h => h) rfl (by assumption) ?_
      try simp only [List.setIfInBounds_toArray, List.set_cons_zero, List.set_cons_succ]
      refine skip_at (i := 13) (d := 50) (by simp only [List.getElem?_toArray, List.getElem?_cons_succ, List.getElem?_cons_zero]; rfl) rfl (by kernel_rfl) (by kernel_rfl) (by kernel_rfl) (fun _ _ _ h => h) rfl (by assumption) ?_
      try simp only [List.setIfInBounds_toArray, List.set_cons_zero, List.set_cons_succ]
      refine skip_at (i := 14) (d := 51) (by simp only [List.getElem?_toArray, List.getElem?_cons_succ, List.getElem?_cons_zero]; rfl) rfl (by kernel_rfl) (by kernel_rfl) (by kernel_rfl) (fun _ _ _ h => h) rfl (by assumption) ?_
      try simp only [List.setIfInBounds_toArray, List.set_cons_zero, List.set_cons_succ]
      refine skip_at (i := 15) (d := 52) (by simp only [List.getElem?_toArray, List.getElem?_cons_succ, List.getElem?_cons_zero]; rfl) rfl (by kernel_rfl) (by kernel_rfl) (by kernel_rfl) (fun _ _ _ h => h) rfl (by assumption) ?_
      try simp only [List.setIfInBounds_toArray, List.set_cons_zero, List.set_cons_succ]
      refine skip_at (i := 16) (d := 53) (by simp only [List.getElem?_toArray, List.getElem?_cons_succ, List.getElem?_cons_zero]; rfl) rfl (by kernel_rfl) (by kernel_rfl) (by kernel_rfl) (fun _ _ _ h => h) rfl (by assumption) ?_
      try simp only [List.setIfInBounds_toArray, List.set_cons_zero, List.set_cons_succ]
      refine skip_at (i := 17) (d := 54) (by simp only [List.getElem?_toArray, List.getElem?_cons_succ, List.getElem?_cons_zero]; rfl) rfl (by kernel_rfl) (by kernel_rfl) (by kernel_rfl) (fun _ _ _ h => h) rfl (by assumption) ?_
      try simp only [List.setIfInBounds_toArray, List.set_cons_zero, List.set_cons_succ]
      refine skip_at (i := 18) (d := 55) (by simp only [List.getElem?_toArray, List.getElem?_cons_succ, List.getElem?_cons_zero]; rfl) rfl (by kernel_rfl) (by kernel_rfl) (by kernel_rfl) (fun _ _ _ h => h) rfl (by assumption) ?_
      try simp only [List.setIfInBounds_toArray, List.set_cons_zero, List.set_cons_succ]
      refine take_at (i := 19) (d := 56) (v := ?_) (by simp only [List.getElem?_toArray, List.getElem?_cons_succ, List.getElem?_cons_zero]; rfl) rfl (by kernel_rfl) (by kernel_rfl) (by kernel_rfl) (fun _ _ _ h => h) rfl ?_ (by assumption) ?_
      rotate_left
      focus (intro w hSw; go_simp; (try with_reducible rfl); done)
      try simp only [List.setIfInBounds_toArray, List.set_cons_zero, List.set_cons_succ]
      refine wpAnyH_done (by kernel_rfl) ?_ _
      clear hS0
      go_wp2
      go_meet
      case rel => exact ⟨rfl, rfl⟩
    case rest =>
      obtain ⟨rfl, rfl⟩ := hcut
      have HM0 : Hid (RMem wr L Q G { s with sent := s.sent.drop (ackD s hd) } ∧ KB [Q] w wr) := hide (by have h9 := HSt.out; rw [HDD.out, ← HD.out] at h9; exact h9)
      have HX : Hid (nx0 - q = fs + D) := hide (by have := HQd.out; have := HDD.out; omega)
      obtain ⟨fn, hfn⟩ : ∃ z, fs + D = z := ⟨_, rfl⟩
      rw [hfn] at HX
      have hfn1 : fn ≤ nx0 := by omega
      clear HSt HMore
      have HAL : Hid (ackL s hd = { s with sent := s.sent.drop (ackD s hd), fresh := max fr0 fn }) := hide (by rw [ackL_eq HOk.out HNx.out, HS.out.1, HS.out.2.1, HS.out.2.2.2.2.2.1, HD.out, show nx0 - (ns - D) = fn by have := HQd.out; have := HDD.out; omega])
      obtain ⟨mx, hmx⟩ : ∃ z, max fr0 fn = z := ⟨_, rfl⟩
      have HMx := hide hmx
      rw [hmx] at HAL
      have hmx1 : mx ≤ nx0 := by omega
      have HMI : Hid ((if fr0 < fn then (fn : Int) else (fr0 : Int)) = (mx : Int)) := hide (by rw [← hmx]; split <;> omega)
      have kfs : IntKind.i64.wrap ((nx0 : Int) - (q : Int)) = (fn : Int) := by have h9 := HX.out; have h8 := HQd.out; rw [IntWalk.i64_in _ (by omega)]; omega
      clear hmx
      have z3 : wr.frozen? ⟨Q, 3, none⟩ = false := frozen_of_row _ _ 3 _ _ HR5.out
      go_upto_region 10 with fail
      refine wpL_region (S := Kept wr) [18] (by kernel_rfl) (Kept.drew wr) (fun hS0 => ?_)
      refine takeL_at (i := 0) (d := 65) (v := ?_) (by simp only [List.getElem?_toArray, List.getElem?_cons_succ, List.getElem?_cons_zero]; rfl) rfl (by kernel_rfl) (by kernel_rfl) (by kernel_rfl) (by kernel_rfl) (fun _ _ _ h => h) rfl ?_ (by assumption) ?_
      rotate_left
      focus (intro w hSw; go_simp; (try with_reducible rfl); done)
      try simp only [List.setIfInBounds_toArray, List.set_cons_zero, List.set_cons_succ]
      refine takeL_at (i := 1) (d := 66) (v := ?_) (by simp only [List.getElem?_toArray, List.getElem?_cons_succ, List.getElem?_cons_zero]; rfl) rfl (by kernel_rfl) (by kernel_rfl) (by kernel_rfl) (by kernel_rfl) (fun _ _ _ h => h) rfl ?_ (by assumption) ?_
      rotate_left
      focus (intro w hSw; go_simp; (try with_reducible rfl); done)
      try simp only [List.setIfInBounds_toArray, List.set_cons_zero, List.set_cons_succ]
      refine takeL_at (i := 2) (d := 67) (v := ?_) (by simp only [List.getElem?_toArray, List.getElem?_cons_succ, List.getElem?_cons_zero]; rfl) rfl (by kernel_rfl) (by kernel_rfl) (by kernel_rfl) (by kernel_rfl) (fun _ _ _ h => h) rfl ?_ (by assumption) ?_
      rotate_left
      focus (intro w hSw; go_simp; (try with_reducible rfl); done)
      try simp only [List.setIfInBounds_toArray, List.set_cons_zero, List.set_cons_succ]
      refine takeL_at (i := 3) (d := 68) (v := ?_) (by simp only [List.getElem?_toArray, List.getElem?_cons_succ, List.getElem?_cons_zero]; rfl) rfl (by kernel_rfl) (by kernel_rfl) (by kernel_rfl) (by kernel_rfl) (fun _ _ _ h => h) rfl ?_ (by assumption) ?_
      rotate_left
      focus (intro w hSw; go_simp; (try with_reducible rfl); done)
      try simp only [List.setIfInBounds_toArray, List.set_cons_zero, List.set_cons_succ]
      refine takeL_at (i := 4) (d := 69) (v := ?_) (by simp only [List.getElem?_toArray, List.getElem?_cons_succ, List.getElem?_cons_zero]; rfl) rfl (by kernel_rfl) (by kernel_rfl) (by kernel_rfl) (by kernel_rfl) (fun _ _ _ h => h) rfl ?_ (by assumption) ?_
      rotate_left
      focus (intro w hSw; go_simp; (try with_reducible rfl); done)
      try simp only [List.setIfInBounds_toArray, List.set_cons_zero, List.set_cons_succ]
      refine takeL_at (i := 5) (d := 70) (v := ?_) (by simp only [List.getElem?_toArray, List.getElem?_cons_succ, List.getElem?_cons_zero]; rfl) rfl (by kernel_rfl) (by kernel_rfl) (by kernel_rfl) (by kernel_rfl) (fun _ _ _ h => h) rfl ?_ (by assumption) ?_
      rotate_left
      focus (intro w hSw; go_simp; (try with_reducible rfl); done)
      try simp only [List.setIfInBounds_toArray, List.set_cons_zero, List.set_cons_succ]
      refine takeL_at (i := 6) (d := 71) (v := ?_) (by simp only [List.getElem?_toArray, List.getElem?_cons_succ, List.getElem?_cons_zero]; rfl) rfl (by kernel_rfl) (by kernel_rfl) (by kernel_rfl) (by kernel_rfl) (fun _ _ _ h => h) rfl ?_ (by assumption) ?_
      rotate_left
      focus (intro w hSw; go_simp; (try with_reducible rfl); done)
      try simp only [List.setIfInBounds_toArray, List.set_cons_zero, List.set_cons_succ]
      refine takeL_at (i := 7) (d := 72) (v := ?_) (by simp only [List.getElem?_toArray, List.getElem?_cons_succ, List.getElem?_cons_zero]; rfl) rfl (by kernel_rfl) (by kernel_rfl) (by kernel_rfl) (by kernel_rfl) (fun _ _ _ h => h) rfl ?_ (by assumption) ?_
      rotate_left
      focus (intro w hSw; go_simp; (try with_reducible rfl); done)
      try simp only [List.setIfInBounds_toArray, List.set_cons_zero, List.set_cons_succ]
      refine takeL_at (i := 8) (d := 73) (v := ?_) (by simp only [List.getElem?_toArray, List.getElem?_cons_succ, List.getElem?_cons_zero]; rfl) rfl (by kernel_rfl) (by kernel_rfl) (by kernel_rfl) (by kernel_rfl) (fun _ _ _ h => h) rfl ?_ (by assumption) ?_
      rotate_left
      focus (intro w hSw; go_simp; (try with_reducible rfl); done)
      try simp only [List.setIfInBounds_toArray, List.set_cons_zero, List.set_cons_succ]
      refine takeL_at (i := 9) (d := 74) (v := ?_) (by simp only [List.getElem?_toArray, List.getElem?_cons_succ, List.getElem?_cons_zero]; rfl) rfl (by kernel_rfl) (by kernel_rfl) (by kernel_rfl) (by kernel_rfl) (fun _ _ _ h => h) rfl ?_ (by assumption) ?_
      rotate_left
      focus (intro w hSw; go_simp; (try with_reducible rfl); done)
      try simp only [List.setIfInBounds_toArray, List.set_cons_zero, List.set_cons_succ]
      refine takeL_at (i := 10) (d := 75) (v := ?_) (by simp only [List.getElem?_toArray, List.getElem?_cons_succ, List.getElem?_cons_zero]; rfl) rfl (by kernel_rfl) (by kernel_rfl) (by kernel_rfl) (by kernel_rfl) (fun _ _ _ h => h) rfl ?_ (by assumption) ?_
      rotate_left
      focus (intro w hSw; go_simp; (try with_reducible rfl); done)
      try simp only [List.setIfInBounds_toArray, List.set_cons_zero, List.set_cons_succ]
      refine takeL_at (i := 11) (d := 76) (v := ?_) (by simp only [List.getElem?_toArray, List.getElem?_cons_succ, List.getElem?_cons_zero]; rfl) rfl (by kernel_rfl) (by kernel_rfl) (by kernel_rfl) (by kernel_rfl) (fun _ _ _ h => h) rfl ?_ (by assumption) ?_
      rotate_left
      focus (intro w hSw; go_simp; (try with_reducible rfl); done)
      try simp only [List.setIfInBounds_toArray, List.set_cons_zero, List.set_cons_succ]
      refine takeL_at (i := 12) (d := 77) (v := ?_) (by simp only [List.getElem?_toArray, List.getElem?_cons_succ, List.getElem?_cons_zero]; rfl) rfl (by kernel_rfl) (by kernel_rfl) (by kernel_rfl) (by kernel_rfl) (fun _ _ _ h => h) rfl ?_ (by assumption) ?_
      rotate_left
      focus (intro w hSw; go_simp; (try with_reducible rfl); done)
      try simp only [List.setIfInBounds_toArray, List.set_cons_zero, List.set_cons_succ]
      refine takeL_at (i := 13) (d := 78) (v := ?_) (by simp only [List.getElem?_toArray, List.getElem?_cons_succ, List.getElem?_cons_zero]; rfl) rfl (by kernel_rfl) (by kernel_rfl) (by kernel_rfl) (by kernel_rfl) (fun _ _ _ h => h) rfl ?_ (by assumption) ?_
      rotate_left
      focus (intro w hSw; go_simp; (try with_reducible rfl); done)
      try simp only [List.setIfInBounds_toArray, List.set_cons_zero, List.set_cons_succ]
      refine takeL_at (i := 14) (d := 79) (v := ?_) (by simp only [List.getElem?_toArray, List.getElem?_cons_succ, List.getElem?_cons_zero]; rfl) rfl (by kernel_rfl) (by kernel_rfl) (by kernel_rfl) (by kernel_rfl) (fun _ _ _ h => h) rfl ?_ (by assumption) ?_
      rotate_left
      focus (intro w hSw; go_simp; (try rw [kfs]); (try with_reducible rfl); done)
      try simp only [List.setIfInBounds_toArray, List.set_cons_zero, List.set_cons_succ]
      refine takeL_at (i := 15) (d := 80) (v := ?_) (by simp only [List.getElem?_toArray, List.getElem?_cons_succ, List.getElem?_cons_zero]; rfl) rfl (by kernel_rfl) (by kernel_rfl) (by kernel_rfl) (by kernel_rfl) (fun _ _ _ h => h) rfl ?_ (by assumption) ?_
      rotate_left
      focus (intro w hSw; go_simp; (try rw [HMI.out]); trace_state; (try with_reducible rfl); done)
      try simp only [List.setIfInBounds_toArray, List.set_cons_zero, List.set_cons_succ]
      refine takeW_at (i := 16) (d := 81) (v := ?_) (by simp only [List.getElem?_toArray, List.getElem?_cons_succ, List.getElem?_cons_zero]; rfl) rfl (by kernel_rfl) (by kernel_rfl) (by kernel_rfl) (fun _ _ _ h => h) rfl ?_ ?_
      rotate_left
      focus (intro w; go_simp; (try with_reducible rfl); done)
      try simp only [List.setIfInBounds_toArray, List.set_cons_zero, List.set_cons_succ]
      refine takeL_at (i := 17) (d := 82) (v := ?_) (by simp only [List.getElem?_toArray, List.getElem?_cons_succ, List.getElem?_cons_zero]; rfl) rfl (by kernel_rfl) (by kernel_rfl) (by kernel_rfl) (by kernel_rfl) (fun _ _ _ h => h) rfl ?_ (by assumption) ?_
      rotate_left
      focus (intro w hSw; go_simp; (try with_reducible rfl); done)
      try simp only [List.setIfInBounds_toArray, List.set_cons_zero, List.set_cons_succ]
      refine exL_at (i := 18) (by simp only [List.getElem?_toArray, List.getElem?_cons_succ, List.getElem?_cons_zero]; rfl) (by kernel_rfl) rfl (by kernel_rfl) (fun K hK => ?_)
      go_wp2_with fail
      refine hK.out _ _ ?_
      clear hK K
      try simp only [List.setIfInBounds_toArray, List.set_cons_zero, List.set_cons_succ]
      refine wpAnyL_done (by kernel_rfl) ?_ _
      clear hS0
      obtain ⟨x, hx⟩ : ∃ z, (wr.setCell ⟨Q, 3, none⟩ (.int .i64 (mx : Int))).drew.drew = z := ⟨_, rfl⟩
      have HEx : Hid (REnd x L Q G (ackL s hd)) := hide (by rw [← hx]; refine RMem.fin ?_ (ackL_ok HOk.out HNx.out); rw [HAL.out]; exact (HM0.out.1.setF mx).keep rfl (fun _ _ => rfl) fun _ _ _ => rfl)
      have HKx : Hid (KB [Q] w x) := hide (by rw [← hx]; exact (HM0.out.2.setCell (.inr (by simp)) _).drew.drew)
      rw [hx]
      clear hx HM0 HMI HMx HAL HX HDD HQd HR5 r1 r3 r5 z3 kfs hq1 hq2 hA5 hQr swr hfn hfn1 hmx1
      by_cases cn0 : n = 0
      · subst cn0
        have HFin := hide (rhear_is (f := f) HEx.out HKx.out (by unfold hearL; rw [HQ.out]; dsimp only; rw [if_neg (by rw [HS.out.2.2.1]; simp), if_neg (by rw [HS.out.2.1]; omega), if_pos rfl]))
        go_wp2
        exact bodyPost_ret (v := .tuple #[.slice none 0 0, .int .i64 0]) (by simp [results, Try.results50, go_sem]) rfl HFin.out
      have cnI0 : ((n : Int) == 0) = false := by simp; omega
      obtain ⟨e1, e2, e3, e4, e5⟩ := ackL_eqs s hd
      have HAe := hide (show (ackL s hd).heard = s.heard ∧ (ackL s hd).ahead = s.ahead from ⟨e3, e5⟩)
      clear e1 e2 e3 e4 e5
      obtain ⟨A6, c6, B6, m6, d6, hx6, -, -, -, -⟩ := HEx.out.mem.row
      have hQx := lt_of_block hx6
      have x2 := cell_of_row _ _ 2 _ _ _ hx6
      have x4 := cell_of_row _ _ 4 _ _ _ hx6
      have z4 : x.frozen? ⟨Q, 4, none⟩ = false := frozen_of_row _ _ 4 _ _ hx6
      clear hx6
      obtain ⟨y, hy⟩ : ∃ z, x.setCell ⟨Q, 4, none⟩ (.bool true) = z := ⟨_, rfl⟩
      have HEy : Hid (REnd y L Q G { ackL s hd with owes := true }) := hide (by rw [← hy]; exact (HEx.out.mem.setO true).fin (setO_ok HEx.out.1 true))
      have HKy : Hid (KB [Q] w y) := hide (by rw [← hy]; exact HKx.out.setCell (.inr (by simp)) _)
      have y2 : y.cell? ⟨Q, 2, none⟩ = some (.int .i64 (hs0 : Int)) := by rw [← hy, World.cell?_setCell_other _ _ _ _ (by intro e; injection e with _ e; cases e), ← HS.out.2.2.2.1, ← HAe.out.1]; simpa using x2
      have HYe := hide hy
      clear hy x2 HEx HKx
      have kw6 : IntKind.i64.wrap ((hs0 : Int) + 64) = ((hs0 + 64 : Nat) : Int) := by rw [IntWalk.i64_in _ (by omega)]; omega
      obtain ⟨h64, hh64⟩ : ∃ z, hs0 + 64 = z := ⟨_, rfl⟩
      rw [hh64] at kw6
      have HN : Hid (hearL s f = (0, (tellL 65 (putL (ackL s hd) n b)).1, (tellL 65 (putL (ackL s hd) n b)).2)) := hide (hearL_ok (by rw [HQ.out, HS.out.2.2.1]) HNx.out cn0)
      go_upto_region 14 with fail
      rw [HYe.out]
      by_cases cr : n ≤ hs0
      · have crI : (n : Int) ≤ (hs0 : Int) := by omega
        have HFin : Hid (RHearPost w L Q G s f (.returned (.tuple #[.slice none 0 0, .int .i64 0])) y) := hide (rhear_is HEy.out HKy.out (by rw [HN.out, putL_not (by rw [HAe.out.1, HS.out.2.2.2.1]; omega), tell_zero (by show (ackL s hd).ahead ((ackL s hd).heard + 1) = none; rw [HAe.out.1, HAe.out.2]; exact hn0)]))
        clear hh64 cr cn0
        go_wp2
        exact bodyPost_ret (v := .tuple #[.slice none 0 0, .int .i64 0]) (by simp [results, Try.results50, go_sem]) rfl HFin.out
      have crI : ¬ (n : Int) ≤ (hs0 : Int) := by omega
      by_cases cs : h64 < n
      · have csI : (h64 : Int) < (n : Int) := by omega
        have HFin : Hid (RHearPost w L Q G s f (.returned (.tuple #[.slice none 0 0, .int .i64 0])) y) := hide (rhear_is HEy.out HKy.out (by rw [HN.out, putL_not (by rw [HAe.out.1, HS.out.2.2.2.1]; omega), tell_zero (by show (ackL s hd).ahead ((ackL s hd).heard + 1) = none; rw [HAe.out.1, HAe.out.2]; exact hn0)]))
        clear hh64 cr cs cn0
        go_wp2
        exact bodyPost_ret (v := .tuple #[.slice none 0 0, .int .i64 0]) (by simp [results, Try.results50, go_sem]) rfl HFin.out
      have csI : ¬ (h64 : Int) < (n : Int) := by omega
      have HAh := hide (rahead_any y HEy.out (Nat.le_trans hLw HKy.out.1) n b (by show (ackL s hd).heard < n; rw [HAe.out.1, HS.out.2.2.2.1]; omega) (by show n ≤ (ackL s hd).heard + 64; rw [HAe.out.1, HS.out.2.2.2.1]; omega) hb4)
      have HS0 : Hid (hearL s f = (0, (tellL 65 (putA { ackL s hd with owes := true } n b)).1, (tellL 65 (putA { ackL s hd with owes := true } n b)).2)) := hide (by rw [HN.out, putL_in (by rw [HAe.out.1, HS.out.2.2.2.1]; omega) (by rw [HAe.out.1, HS.out.2.2.2.1]; omega)])
      have HHd : Hid ((putA { ackL s hd with owes := true } n b).heard = s.heard) := hide (by rw [putA_heard]; exact HAe.out.1)
      obtain ⟨S0, hS0⟩ : ∃ z, putA { ackL s hd with owes := true } n b = z := ⟨_, rfl⟩
      rw [hS0] at HS0 HHd
      have HSe := hide hS0
      clear hh64 cr cs cn0 hS0 HN
      go_wp2_with fail
      refine HAh.out.mono ?_
      rintro e z ⟨rfl, hz1, hz2⟩
      rw [HSe.out] at hz1
      have HT0 := hide (RTell.start hz1 (HKy.out.trans hz2))
      clear hz1 hz2 HAh HEy HKy HYe y2 x4 z4 kw6 hQx
      go_wp2
      obtain ⟨wa, rfl⟩ : ∃ u : World, u = wr := ⟨_, rfl⟩
      go_loopw [11] (fun v11 wr => ∃ (j : Nat) (A : Option Addr) (c : Nat) (s1 : LE), v11 = .slice A j c ∧ Hid (RTell w wr L Q G S0 j (.slice A j c) s1)) (fun _ wr => lenAt wr Q 6)
      case atStart => exact ⟨0, none, 0, S0, rfl, HT0⟩
      case round =>
        obtain ⟨j, A8, c8, s1, rfl, HT⟩ := hrel
        obtain ⟨wr, rfl⟩ : ∃ u : World, u = wr := ⟨_, rfl⟩
        clear HT0
        obtain ⟨bs, t1, t2, t3, t4, t5, t6, t7, t8⟩ := HT.out
        obtain ⟨-, -, sv, av, xs, h4, h5, h6, h7⟩ := t2.mem
        obtain ⟨B, d7, rfl, g1, g2, g3⟩ := id h6
        obtain ⟨h1, hh1⟩ : ∃ u, s1.heard = u := ⟨_, rfl⟩
        have hh1b : h1 ≤ 1000000 := by have := t2.1.heard; omega
        have hh1c : h1 ≤ 900064 := by have := HHd.out; omega
        rw [hh1] at h4
        have HH1 := hide hh1
        have r2 := cell_of_row _ _ 2 _ _ _ h4
        have r6 := cell_of_row _ _ 6 _ _ _ h4
        have r2 : wr.cell? ⟨Q, 2, none⟩ = some (.int .i64 (h1 : Int)) := by simpa using r2
        have r6 : wr.cell? ⟨Q, 6, none⟩ = some (.slice B xs.length d7) := by simpa using r6
        have hQr := lt_of_block h4
        have swr : w.heap.size ≤ wr.heap.size := t8.1
        have kw : IntKind.i64.wrap ((h1 : Int) + 1) = ((h1 + 1 : Nat) : Int) := by rw [IntWalk.i64_in _ (by omega)]; omega
        obtain ⟨h1s, hh1s⟩ : ∃ u, h1 + 1 = u := ⟨_, rfl⟩
        rw [hh1s] at kw
        have HH1s := hide hh1s
        have H6 := hide h6
        have H7 := hide h7
        have z6 : wr.frozen? ⟨Q, 6, none⟩ = false := frozen_of_row _ _ 6 _ _ h4
        have z2 : wr.frozen? ⟨Q, 2, none⟩ = false := frozen_of_row _ _ 2 _ _ h4
        have HAl : Hid (∀ n b, s1.ahead n = some b → s1.heard < n) := hide (fun n b hb => (t2.1.ahead n b hb).2.1)
        have HTs := hide (And.intro t1 (And.intro t2 (And.intro t3 (And.intro t6 (And.intro t7 t8)))))
        have HT4 := hide t4
        have hj64 : j ≤ 64 := t5
        clear hh1 hh1s h4 h5 h6 h7 t1 t2 t3 t4 t6 t7 t8 g1 g2
        rcases xs with _ | ⟨y0, xs⟩
        · have HNone : Hid (s1.ahead (s1.heard + 1) = none) := hide (H7.out.at_nil _)
          simp only [List.length_nil] at r6
          go_upto_region 18 with fail
          refine wp_region_held_drew (S := Kept wr) (by kernel_rfl) (Kept.drew wr) (fun hS0 => ?_)
          refine take_at (i := 0) (d := 107) (v := ?_) (by simp only [List.getElem?_toArray, List.getElem?_cons_succ, List.getElem?_cons_zero]; rfl) rfl (by kernel_rfl) (by kernel_rfl) (by kernel_rfl) (fun _ _ _ h => h) rfl ?_ (by assumption) ?_
          rotate_left
          focus (intro w hSw; go_simp; (try with_reducible rfl); done)
          try simp only [List.setIfInBounds_toArray, List.set_cons_zero, List.set_cons_succ]
          refine take_at (i := 1) (d := 108) (v := ?_) (by simp only [List.getElem?_toArray, List.getElem?_cons_succ, List.getElem?_cons_zero]; rfl) rfl (by kernel_rfl) (by kernel_rfl) (by kernel_rfl) (fun _ _ _ h => h) rfl ?_ (by assumption) ?_
          rotate_left
          focus (intro w hSw; go_simp; (try with_reducible rfl); done)
          try simp only [List.setIfInBounds_toArray, List.set_cons_zero, List.set_cons_succ]
          refine take_at (i := 2) (d := 109) (v := ?_) (by simp only [List.getElem?_toArray, List.getElem?_cons_succ, List.getElem?_cons_zero]; rfl) rfl (by kernel_rfl) (by kernel_rfl) (by kernel_rfl) (fun _ _ _ h => h) rfl ?_ (by assumption) ?_
          rotate_left
          focus (intro w hSw; go_simp; (try with_reducible rfl); done)
          try simp only [List.setIfInBounds_toArray, List.set_cons_zero, List.set_cons_succ]
          refine take_at (i := 3) (d := 110) (v := ?_) (by simp only [List.getElem?_toArray, List.getElem?_cons_succ, List.getElem?_cons_zero]; rfl) rfl (by kernel_rfl) (by kernel_rfl) (by kernel_rfl) (fun _ _ _ h => h) rfl ?_ (by assumption) ?_
          rotate_left
          focus (intro w hSw; go_simp; (try with_reducible rfl); done)
          try simp only [List.setIfInBounds_toArray, List.set_cons_zero, List.set_cons_succ]
          refine take_at (i := 4) (d := 111) (v := ?_) (by simp only [List.getElem?_toArray, List.getElem?_cons_succ, List.getElem?_cons_zero]; rfl) rfl (by kernel_rfl) (by kernel_rfl) (by kernel_rfl) (fun _ _ _ h => h) rfl ?_ (by assumption) ?_
          rotate_left
          focus (intro w hSw; go_simp; (try with_reducible rfl); done)
          try simp only [List.setIfInBounds_toArray, List.set_cons_zero, List.set_cons_succ]
          refine take_at (i := 5) (d := 112) (v := ?_) (by simp only [List.getElem?_toArray, List.getElem?_cons_succ, List.getElem?_cons_zero]; rfl) rfl (by kernel_rfl) (by kernel_rfl) (by kernel_rfl) (fun _ _ _ h => h) rfl ?_ (by assumption) ?_
          rotate_left
          focus (intro w hSw; go_simp; (try with_reducible rfl); done)
          try simp only [List.setIfInBounds_toArray, List.set_cons_zero, List.set_cons_succ]
          refine take_at (i := 6) (d := 113) (v := ?_) (by simp only [List.getElem?_toArray, List.getElem?_cons_succ, List.getElem?_cons_zero]; rfl) rfl (by kernel_rfl) (by kernel_rfl) (by kernel_rfl) (fun _ _ _ h => h) rfl ?_ (by assumption) ?_
          rotate_left
          focus (intro w hSw; go_simp; (try with_reducible rfl); done)
          try simp only [List.setIfInBounds_toArray, List.set_cons_zero, List.set_cons_succ]
          refine skip_at (i := 7) (d := 114) (by simp only [List.getElem?_toArray, List.getElem?_cons_succ, List.getElem?_cons_zero]; rfl) rfl (by kernel_rfl) (by kernel_rfl) (by kernel_rfl) (fun _ _ _ h => h) rfl (by assumption) ?_
          try simp only [List.setIfInBounds_toArray, List.set_cons_zero, List.set_cons_succ]
          refine skip_at (i := 8) (d := 115) (by simp only [List.getElem?_toArray, List.getElem?_cons_succ, List.getElem?_cons_zero]; rfl) rfl (by kernel_rfl) (by kernel_rfl) (by kernel_rfl) (fun _ _ _ h => h) rfl (by assumption) ?_
          try simp only [List.setIfInBounds_toArray, List.set_cons_zero, List.set_cons_succ]
          refine skip_at (i := 9) (d := 116) (by simp only [List.getElem?_toArray, List.getElem?_cons_succ, List.getElem?_cons_zero]; rfl) rfl (by kernel_rfl) (by kernel_rfl) (by kernel_rfl) (fun _ _ _ h => h) rfl (by assumption) ?_
          try simp only [List.setIfInBounds_toArray, List.set_cons_zero, List.set_cons_succ]
          refine skip_at (i := 10) (d := 117) (by simp only [List.getElem?_toArray, List.getElem?_cons_succ, List.getElem?_cons_zero]; rfl) rfl (by kernel_rfl) (by kernel_rfl) (by kernel_rfl) (fun _ _ _ h => h) rfl (by assumption) ?_
          try simp only [List.setIfInBounds_toArray, List.set_cons_zero, List.set_cons_succ]
          refine skip_at (i := 11) (d := 118) (by simp only [List.getElem?_toArray, List.getElem?_cons_succ, List.getElem?_cons_zero]; rfl) rfl (by kernel_rfl) (by kernel_rfl) (by kernel_rfl) (fun _ _ _ h => h) rfl (by assumption) ?_
          try simp only [List.setIfInBounds_toArray, List.set_cons_zero, List.set_cons_succ]
          refine skip_at (i := 12) (d := 119) (by simp only [List.getElem?_toArray, List.getElem?_cons_succ, List.getElem?_cons_zero]; rfl) rfl (by kernel_rfl) (by kernel_rfl) (by kernel_rfl) (fun _ _ _ h => h) rfl (by assumption) ?_
          try simp only [List.setIfInBounds_toArray, List.set_cons_zero, List.set_cons_succ]
          refine skip_at (i := 13) (d := 120) (by simp only [List.getElem?_toArray, List.getElem?_cons_succ, List.getElem?_cons_zero]; rfl) rfl (by kernel_rfl) (by kernel_rfl) (by kernel_rfl) (fun _ _ _ h => h) rfl (by assumption) ?_
          try simp only [List.setIfInBounds_toArray, List.set_cons_zero, List.set_cons_succ]
          refine skip_at (i := 14) (d := 121) (by simp only [List.getElem?_toArray, List.getElem?_cons_succ, List.getElem?_cons_zero]; rfl) rfl (by kernel_rfl) (by kernel_rfl) (by kernel_rfl) (fun _ _ _ h => h) rfl (by assumption) ?_
          try simp only [List.setIfInBounds_toArray, List.set_cons_zero, List.set_cons_succ]
          refine skip_at (i := 15) (d := 122) (by simp only [List.getElem?_toArray, List.getElem?_cons_succ, List.getElem?_cons_zero]; rfl) rfl (by kernel_rfl) (by kernel_rfl) (by kernel_rfl) (fun _ _ _ h => h) rfl (by assumption) ?_
          try simp only [List.setIfInBounds_toArray, List.set_cons_zero, List.set_cons_succ]
          refine skip_at (i := 16) (d := 123) (by simp only [List.getElem?_toArray, List.getElem?_cons_succ, List.getElem?_cons_zero]; rfl) rfl (by kernel_rfl) (by kernel_rfl) (by kernel_rfl) (fun _ _ _ h => h) rfl (by assumption) ?_
          try simp only [List.setIfInBounds_toArray, List.set_cons_zero, List.set_cons_succ]
          refine skip_at (i := 17) (d := 124) (by simp only [List.getElem?_toArray, List.getElem?_cons_succ, List.getElem?_cons_zero]; rfl) rfl (by kernel_rfl) (by kernel_rfl) (by kernel_rfl) (fun _ _ _ h => h) rfl (by assumption) ?_
          try simp only [List.setIfInBounds_toArray, List.set_cons_zero, List.set_cons_succ]
          refine skip_at (i := 18) (d := 125) (by simp only [List.getElem?_toArray, List.getElem?_cons_succ, List.getElem?_cons_zero]; rfl) rfl (by kernel_rfl) (by kernel_rfl) (by kernel_rfl) (fun _ _ _ h => h) rfl (by assumption) ?_
          try simp only [List.setIfInBounds_toArray, List.set_cons_zero, List.set_cons_succ]
          refine skip_at (i := 19) (d := 126) (by simp only [List.getElem?_toArray, List.getElem?_cons_succ, List.getElem?_cons_zero]; rfl) rfl (by kernel_rfl) (by kernel_rfl) (by kernel_rfl) (fun _ _ _ h => h) rfl (by assumption) ?_
          try simp only [List.setIfInBounds_toArray, List.set_cons_zero, List.set_cons_succ]
          refine take_at (i := 20) (d := 127) (v := ?_) (by simp only [List.getElem?_toArray, List.getElem?_cons_succ, List.getElem?_cons_zero]; rfl) rfl (by kernel_rfl) (by kernel_rfl) (by kernel_rfl) (fun _ _ _ h => h) rfl ?_ (by assumption) ?_
          rotate_left
          focus (intro w hSw; go_simp; (try with_reducible rfl); done)
          try simp only [List.setIfInBounds_toArray, List.set_cons_zero, List.set_cons_succ]
          refine wpAnyH_done (by kernel_rfl) ?_ _
          clear hS0
          have HFin : Hid (RHearPost w L Q G s f (.returned (.tuple #[.slice A8 j c8, .int .i64 0])) wr.drew) := hide (RTell.fin HT.out HNone.out (Below.refl _ _).drew HS0.out)
          go_wp2
          exact bodyPost_ret (v := .tuple #[.slice A8 j c8, .int .i64 0]) (by simp [results, Try.results50, go_sem]) rfl HFin.out
        obtain ⟨q, hq⟩ : ∃ u, (y0 :: xs).length = u := ⟨_, rfl⟩
        have hq1 : 1 ≤ q := by rw [← hq]; simp
        rw [hq] at r6
        have HQq := hide hq
        obtain ⟨g, off, hB, -, hgl, c0, c1⟩ := H6.out.at_ (i := 0) (x := y0) rfl
        subst hB
        have c0 : wr.cell? ⟨g, off, none⟩ = some (.int .i64 (y0.1 : Int)) := by simpa using c0
        have c1 : wr.cell? ⟨g, off + 1, none⟩ = some (.string ⟨y0.2.toArray⟩) := by simpa using c1
        obtain ⟨n0, hn0'⟩ : ∃ u, y0.1 = u := ⟨_, rfl⟩
        obtain ⟨b0, hb0⟩ : ∃ u, y0.2 = u := ⟨_, rfl⟩
        rw [hn0'] at c0
        rw [hb0] at c1
        have HY0 : Hid (y0 = (n0, b0)) := hide (by rw [← hn0', ← hb0])
        have k1 : decide (0 < q) = true := decide_eq_true hq1
        have kI2 : (0 : Int) < (q : Int) := by omega
        clear hq hn0' hb0
        by_cases cx : n0 = h1s
        rotate_left
        · have cxI : ((n0 : Int) == (h1s : Int)) = false := by simp; omega
          have HNone : Hid (s1.ahead (s1.heard + 1) = none) := hide ((H7.out.first HAl.out).2 (by rw [HY0.out, HH1.out, HH1s.out]; exact cx))
          go_upto_region 18 with fail
          refine wp_region_held_drew (S := Kept wr) (by kernel_rfl) (Kept.drew wr) (fun hS0 => ?_)
          refine take_at (i := 0) (d := 107) (v := ?_) (by simp only [List.getElem?_toArray, List.getElem?_cons_succ, List.getElem?_cons_zero]; rfl) rfl (by kernel_rfl) (by kernel_rfl) (by kernel_rfl) (fun _ _ _ h => h) rfl ?_ (by assumption) ?_
          rotate_left
          focus (intro w hSw; go_simp; (try with_reducible rfl); done)
          try simp only [List.setIfInBounds_toArray, List.set_cons_zero, List.set_cons_succ]
          refine take_at (i := 1) (d := 108) (v := ?_) (by simp only [List.getElem?_toArray, List.getElem?_cons_succ, List.getElem?_cons_zero]; rfl) rfl (by kernel_rfl) (by kernel_rfl) (by kernel_rfl) (fun _ _ _ h => h) rfl ?_ (by assumption) ?_
          rotate_left
          focus (intro w hSw; go_simp; (try with_reducible rfl); done)
          try simp only [List.setIfInBounds_toArray, List.set_cons_zero, List.set_cons_succ]
          refine take_at (i := 2) (d := 109) (v := ?_) (by simp only [List.getElem?_toArray, List.getElem?_cons_succ, List.getElem?_cons_zero]; rfl) rfl (by kernel_rfl) (by kernel_rfl) (by kernel_rfl) (fun _ _ _ h => h) rfl ?_ (by assumption) ?_
          rotate_left
          focus (intro w hSw; go_simp; (try with_reducible rfl); done)
          try simp only [List.setIfInBounds_toArray, List.set_cons_zero, List.set_cons_succ]
          refine take_at (i := 3) (d := 110) (v := ?_) (by simp only [List.getElem?_toArray, List.getElem?_cons_succ, List.getElem?_cons_zero]; rfl) rfl (by kernel_rfl) (by kernel_rfl) (by kernel_rfl) (fun _ _ _ h => h) rfl ?_ (by assumption) ?_
          rotate_left
          focus (intro w hSw; go_simp; (try with_reducible rfl); done)
          try simp only [List.setIfInBounds_toArray, List.set_cons_zero, List.set_cons_succ]
          refine take_at (i := 4) (d := 111) (v := ?_) (by simp only [List.getElem?_toArray, List.getElem?_cons_succ, List.getElem?_cons_zero]; rfl) rfl (by kernel_rfl) (by kernel_rfl) (by kernel_rfl) (fun _ _ _ h => h) rfl ?_ (by assumption) ?_
          rotate_left
          focus (intro w hSw; go_simp; (try with_reducible rfl); done)
          try simp only [List.setIfInBounds_toArray, List.set_cons_zero, List.set_cons_succ]
          refine take_at (i := 5) (d := 112) (v := ?_) (by simp only [List.getElem?_toArray, List.getElem?_cons_succ, List.getElem?_cons_zero]; rfl) rfl (by kernel_rfl) (by kernel_rfl) (by kernel_rfl) (fun _ _ _ h => h) rfl ?_ (by assumption) ?_
          rotate_left
          focus (intro w hSw; go_simp; (try rw [k1]); (try with_reducible rfl); done)
          try simp only [List.setIfInBounds_toArray, List.set_cons_zero, List.set_cons_succ]
          refine take_at (i := 6) (d := 113) (v := ?_) (by simp only [List.getElem?_toArray, List.getElem?_cons_succ, List.getElem?_cons_zero]; rfl) rfl (by kernel_rfl) (by kernel_rfl) (by kernel_rfl) (fun _ _ _ h => h) rfl ?_ (by assumption) ?_
          rotate_left
          focus (intro w hSw; go_simp; (try with_reducible rfl); done)
          try simp only [List.setIfInBounds_toArray, List.set_cons_zero, List.set_cons_succ]
          refine take_at (i := 7) (d := 114) (v := ?_) (by simp only [List.getElem?_toArray, List.getElem?_cons_succ, List.getElem?_cons_zero]; rfl) rfl (by kernel_rfl) (by kernel_rfl) (by kernel_rfl) (fun _ _ _ h => h) rfl ?_ (by assumption) ?_
          rotate_left
          focus (intro w hSw; go_simp; (try with_reducible rfl); done)
          try simp only [List.setIfInBounds_toArray, List.set_cons_zero, List.set_cons_succ]
          refine take_at (i := 8) (d := 115) (v := ?_) (by simp only [List.getElem?_toArray, List.getElem?_cons_succ, List.getElem?_cons_zero]; rfl) rfl (by kernel_rfl) (by kernel_rfl) (by kernel_rfl) (fun _ _ _ h => h) rfl ?_ (by assumption) ?_
          rotate_left
          focus (intro w hSw; go_simp; (try with_reducible rfl); done)
          try simp only [List.setIfInBounds_toArray, List.set_cons_zero, List.set_cons_succ]
          refine take_at (i := 9) (d := 116) (v := ?_) (by simp only [List.getElem?_toArray, List.getElem?_cons_succ, List.getElem?_cons_zero]; rfl) rfl (by kernel_rfl) (by kernel_rfl) (by kernel_rfl) (fun _ _ _ h => h) rfl ?_ (by assumption) ?_
          rotate_left
          focus (intro w hSw; go_simp; (try with_reducible rfl); done)
          try simp only [List.setIfInBounds_toArray, List.set_cons_zero, List.set_cons_succ]
          refine take_at (i := 10) (d := 117) (v := ?_) (by simp only [List.getElem?_toArray, List.getElem?_cons_succ, List.getElem?_cons_zero]; rfl) rfl (by kernel_rfl) (by kernel_rfl) (by kernel_rfl) (fun _ _ _ h => h) rfl ?_ (by assumption) ?_
          rotate_left
          focus (intro w hSw; go_simp; (try with_reducible rfl); done)
          try simp only [List.setIfInBounds_toArray, List.set_cons_zero, List.set_cons_succ]
          refine take_at (i := 11) (d := 118) (v := ?_) (by simp only [List.getElem?_toArray, List.getElem?_cons_succ, List.getElem?_cons_zero]; rfl) rfl (by kernel_rfl) (by kernel_rfl) (by kernel_rfl) (fun _ _ _ h => h) rfl ?_ (by assumption) ?_
          rotate_left
          focus (intro w hSw; go_simp; (try with_reducible rfl); done)
          try simp only [List.setIfInBounds_toArray, List.set_cons_zero, List.set_cons_succ]
          refine take_at (i := 12) (d := 119) (v := ?_) (by simp only [List.getElem?_toArray, List.getElem?_cons_succ, List.getElem?_cons_zero]; rfl) rfl (by kernel_rfl) (by kernel_rfl) (by kernel_rfl) (fun _ _ _ h => h) rfl ?_ (by assumption) ?_
          rotate_left
          focus (intro w hSw; go_simp; (try with_reducible rfl); done)
          try simp only [List.setIfInBounds_toArray, List.set_cons_zero, List.set_cons_succ]
          refine take_at (i := 13) (d := 120) (v := ?_) (by simp only [List.getElem?_toArray, List.getElem?_cons_succ, List.getElem?_cons_zero]; rfl) rfl (by kernel_rfl) (by kernel_rfl) (by kernel_rfl) (fun _ _ _ h => h) rfl ?_ (by assumption) ?_
          rotate_left
          focus (intro w hSw; go_simp; (try with_reducible rfl); done)
          try simp only [List.setIfInBounds_toArray, List.set_cons_zero, List.set_cons_succ]
          refine take_at (i := 14) (d := 121) (v := ?_) (by simp only [List.getElem?_toArray, List.getElem?_cons_succ, List.getElem?_cons_zero]; rfl) rfl (by kernel_rfl) (by kernel_rfl) (by kernel_rfl) (fun _ _ _ h => h) rfl ?_ (by assumption) ?_
          rotate_left
          focus (intro w hSw; go_simp; (try with_reducible rfl); done)
          try simp only [List.setIfInBounds_toArray, List.set_cons_zero, List.set_cons_succ]
          refine take_at (i := 15) (d := 122) (v := ?_) (by simp only [List.getElem?_toArray, List.getElem?_cons_succ, List.getElem?_cons_zero]; rfl) rfl (by kernel_rfl) (by kernel_rfl) (by kernel_rfl) (fun _ _ _ h => h) rfl ?_ (by assumption) ?_
          rotate_left
          focus (intro w hSw; go_simp; (try with_reducible rfl); done)
          try simp only [List.setIfInBounds_toArray, List.set_cons_zero, List.set_cons_succ]
          refine take_at (i := 16) (d := 123) (v := ?_) (by simp only [List.getElem?_toArray, List.getElem?_cons_succ, List.getElem?_cons_zero]; rfl) rfl (by kernel_rfl) (by kernel_rfl) (by kernel_rfl) (fun _ _ _ h => h) rfl ?_ (by assumption) ?_
          rotate_left
          focus (intro w hSw; go_simp; (try with_reducible rfl); done)
          try simp only [List.setIfInBounds_toArray, List.set_cons_zero, List.set_cons_succ]
          refine take_at (i := 17) (d := 124) (v := ?_) (by simp only [List.getElem?_toArray, List.getElem?_cons_succ, List.getElem?_cons_zero]; rfl) rfl (by kernel_rfl) (by kernel_rfl) (by kernel_rfl) (fun _ _ _ h => h) rfl ?_ (by assumption) ?_
          rotate_left
          focus (intro w hSw; go_simp; (try with_reducible rfl); done)
          try simp only [List.setIfInBounds_toArray, List.set_cons_zero, List.set_cons_succ]
          refine take_at (i := 18) (d := 125) (v := ?_) (by simp only [List.getElem?_toArray, List.getElem?_cons_succ, List.getElem?_cons_zero]; rfl) rfl (by kernel_rfl) (by kernel_rfl) (by kernel_rfl) (fun _ _ _ h => h) rfl ?_ (by assumption) ?_
          rotate_left
          focus (intro w hSw; go_simp; (try with_reducible rfl); done)
          try simp only [List.setIfInBounds_toArray, List.set_cons_zero, List.set_cons_succ]
          refine take_at (i := 19) (d := 126) (v := ?_) (by simp only [List.getElem?_toArray, List.getElem?_cons_succ, List.getElem?_cons_zero]; rfl) rfl (by kernel_rfl) (by kernel_rfl) (by kernel_rfl) (fun _ _ _ h => h) rfl ?_ (by assumption) ?_
          rotate_left
          focus (intro w hSw; go_simp; (try with_reducible rfl); done)
          try simp only [List.setIfInBounds_toArray, List.set_cons_zero, List.set_cons_succ]
          refine take_at (i := 20) (d := 127) (v := ?_) (by simp only [List.getElem?_toArray, List.getElem?_cons_succ, List.getElem?_cons_zero]; rfl) rfl (by kernel_rfl) (by kernel_rfl) (by kernel_rfl) (fun _ _ _ h => h) rfl ?_ (by assumption) ?_
          rotate_left
          focus (intro w hSw; go_simp; (try with_reducible rfl); done)
          try simp only [List.setIfInBounds_toArray, List.set_cons_zero, List.set_cons_succ]
          refine wpAnyH_done (by kernel_rfl) ?_ _
          clear hS0
          have HFin : Hid (RHearPost w L Q G s f (.returned (.tuple #[.slice A8 j c8, .int .i64 0])) wr.drew) := hide (RTell.fin HT.out HNone.out (Below.refl _ _).drew HS0.out)
          go_wp2
          exact bodyPost_ret (v := .tuple #[.slice A8 j c8, .int .i64 0]) (by simp [results, Try.results50, go_sem]) rfl HFin.out
        subst cx
        have cxI : ((n0 : Int) == (n0 : Int)) = true := by simp
        go_upto_region 18 with fail
        refine wp_region_held_drew (S := Kept wr) (by kernel_rfl) (Kept.drew wr) (fun hS0 => ?_)
        refine take_at (i := 0) (d := 107) (v := ?_) (by simp only [List.getElem?_toArray, List.getElem?_cons_succ, List.getElem?_cons_zero]; rfl) rfl (by kernel_rfl) (by kernel_rfl) (by kernel_rfl) (fun _ _ _ h => h) rfl ?_ (by assumption) ?_
        rotate_left
        focus (intro w hSw; go_simp; (try with_reducible rfl); done)
        try simp only [List.setIfInBounds_toArray, List.set_cons_zero, List.set_cons_succ]
        refine take_at (i := 1) (d := 108) (v := ?_) (by simp only [List.getElem?_toArray, List.getElem?_cons_succ, List.getElem?_cons_zero]; rfl) rfl (by kernel_rfl) (by kernel_rfl) (by kernel_rfl) (fun _ _ _ h => h) rfl ?_ (by assumption) ?_
        rotate_left
        focus (intro w hSw; go_simp; (try with_reducible rfl); done)
        try simp only [List.setIfInBounds_toArray, List.set_cons_zero, List.set_cons_succ]
        refine take_at (i := 2) (d := 109) (v := ?_) (by simp only [List.getElem?_toArray, List.getElem?_cons_succ, List.getElem?_cons_zero]; rfl) rfl (by kernel_rfl) (by kernel_rfl) (by kernel_rfl) (fun _ _ _ h => h) rfl ?_ (by assumption) ?_
        rotate_left
        focus (intro w hSw; go_simp; (try with_reducible rfl); done)
        try simp only [List.setIfInBounds_toArray, List.set_cons_zero, List.set_cons_succ]
        refine take_at (i := 3) (d := 110) (v := ?_) (by simp only [List.getElem?_toArray, List.getElem?_cons_succ, List.getElem?_cons_zero]; rfl) rfl (by kernel_rfl) (by kernel_rfl) (by kernel_rfl) (fun _ _ _ h => h) rfl ?_ (by assumption) ?_
        rotate_left
        focus (intro w hSw; go_simp; (try with_reducible rfl); done)
        try simp only [List.setIfInBounds_toArray, List.set_cons_zero, List.set_cons_succ]
        refine take_at (i := 4) (d := 111) (v := ?_) (by simp only [List.getElem?_toArray, List.getElem?_cons_succ, List.getElem?_cons_zero]; rfl) rfl (by kernel_rfl) (by kernel_rfl) (by kernel_rfl) (fun _ _ _ h => h) rfl ?_ (by assumption) ?_
        rotate_left
        focus (intro w hSw; go_simp; (try with_reducible rfl); done)
        try simp only [List.setIfInBounds_toArray, List.set_cons_zero, List.set_cons_succ]
        refine take_at (i := 5) (d := 112) (v := ?_) (by simp only [List.getElem?_toArray, List.getElem?_cons_succ, List.getElem?_cons_zero]; rfl) rfl (by kernel_rfl) (by kernel_rfl) (by kernel_rfl) (fun _ _ _ h => h) rfl ?_ (by assumption) ?_
        rotate_left
        focus (intro w hSw; go_simp; (try rw [k1]); (try with_reducible rfl); done)
        try simp only [List.setIfInBounds_toArray, List.set_cons_zero, List.set_cons_succ]
        refine take_at (i := 6) (d := 113) (v := ?_) (by simp only [List.getElem?_toArray, List.getElem?_cons_succ, List.getElem?_cons_zero]; rfl) rfl (by kernel_rfl) (by kernel_rfl) (by kernel_rfl) (fun _ _ _ h => h) rfl ?_ (by assumption) ?_
        rotate_left
        focus (intro w hSw; go_simp; (try with_reducible rfl); done)
        try simp only [List.setIfInBounds_toArray, List.set_cons_zero, List.set_cons_succ]
        refine take_at (i := 7) (d := 114) (v := ?_) (by simp only [List.getElem?_toArray, List.getElem?_cons_succ, List.getElem?_cons_zero]; rfl) rfl (by kernel_rfl) (by kernel_rfl) (by kernel_rfl) (fun _ _ _ h => h) rfl ?_ (by assumption) ?_
        rotate_left
        focus (intro w hSw; go_simp; (try with_reducible rfl); done)
        try simp only [List.setIfInBounds_toArray, List.set_cons_zero, List.set_cons_succ]
        refine take_at (i := 8) (d := 115) (v := ?_) (by simp only [List.getElem?_toArray, List.getElem?_cons_succ, List.getElem?_cons_zero]; rfl) rfl (by kernel_rfl) (by kernel_rfl) (by kernel_rfl) (fun _ _ _ h => h) rfl ?_ (by assumption) ?_
        rotate_left
        focus (intro w hSw; go_simp; (try with_reducible rfl); done)
        try simp only [List.setIfInBounds_toArray, List.set_cons_zero, List.set_cons_succ]
        refine take_at (i := 9) (d := 116) (v := ?_) (by simp only [List.getElem?_toArray, List.getElem?_cons_succ, List.getElem?_cons_zero]; rfl) rfl (by kernel_rfl) (by kernel_rfl) (by kernel_rfl) (fun _ _ _ h => h) rfl ?_ (by assumption) ?_
        rotate_left
        focus (intro w hSw; go_simp; (try with_reducible rfl); done)
        try simp only [List.setIfInBounds_toArray, List.set_cons_zero, List.set_cons_succ]
        refine take_at (i := 10) (d := 117) (v := ?_) (by simp only [List.getElem?_toArray, List.getElem?_cons_succ, List.getElem?_cons_zero]; rfl) rfl (by kernel_rfl) (by kernel_rfl) (by kernel_rfl) (fun _ _ _ h => h) rfl ?_ (by assumption) ?_
        rotate_left
        focus (intro w hSw; go_simp; (try with_reducible rfl); done)
        try simp only [List.setIfInBounds_toArray, List.set_cons_zero, List.set_cons_succ]
        refine take_at (i := 11) (d := 118) (v := ?_) (by simp only [List.getElem?_toArray, List.getElem?_cons_succ, List.getElem?_cons_zero]; rfl) rfl (by kernel_rfl) (by kernel_rfl) (by kernel_rfl) (fun _ _ _ h => h) rfl ?_ (by assumption) ?_
        rotate_left
        focus (intro w hSw; go_simp; (try with_reducible rfl); done)
        try simp only [List.setIfInBounds_toArray, List.set_cons_zero, List.set_cons_succ]
        refine take_at (i := 12) (d := 119) (v := ?_) (by simp only [List.getElem?_toArray, List.getElem?_cons_succ, List.getElem?_cons_zero]; rfl) rfl (by kernel_rfl) (by kernel_rfl) (by kernel_rfl) (fun _ _ _ h => h) rfl ?_ (by assumption) ?_
        rotate_left
        focus (intro w hSw; go_simp; (try with_reducible rfl); done)
        try simp only [List.setIfInBounds_toArray, List.set_cons_zero, List.set_cons_succ]
        refine take_at (i := 13) (d := 120) (v := ?_) (by simp only [List.getElem?_toArray, List.getElem?_cons_succ, List.getElem?_cons_zero]; rfl) rfl (by kernel_rfl) (by kernel_rfl) (by kernel_rfl) (fun _ _ _ h => h) rfl ?_ (by assumption) ?_
        rotate_left
        focus (intro w hSw; go_simp; (try with_reducible rfl); done)
        try simp only [List.setIfInBounds_toArray, List.set_cons_zero, List.set_cons_succ]
        refine take_at (i := 14) (d := 121) (v := ?_) (by simp only [List.getElem?_toArray, List.getElem?_cons_succ, List.getElem?_cons_zero]; rfl) rfl (by kernel_rfl) (by kernel_rfl) (by kernel_rfl) (fun _ _ _ h => h) rfl ?_ (by assumption) ?_
        rotate_left
        focus (intro w hSw; go_simp; (try with_reducible rfl); done)
        try simp only [List.setIfInBounds_toArray, List.set_cons_zero, List.set_cons_succ]
        refine take_at (i := 15) (d := 122) (v := ?_) (by simp only [List.getElem?_toArray, List.getElem?_cons_succ, List.getElem?_cons_zero]; rfl) rfl (by kernel_rfl) (by kernel_rfl) (by kernel_rfl) (fun _ _ _ h => h) rfl ?_ (by assumption) ?_
        rotate_left
        focus (intro w hSw; go_simp; (try with_reducible rfl); done)
        try simp only [List.setIfInBounds_toArray, List.set_cons_zero, List.set_cons_succ]
        refine take_at (i := 16) (d := 123) (v := ?_) (by simp only [List.getElem?_toArray, List.getElem?_cons_succ, List.getElem?_cons_zero]; rfl) rfl (by kernel_rfl) (by kernel_rfl) (by kernel_rfl) (fun _ _ _ h => h) rfl ?_ (by assumption) ?_
        rotate_left
        focus (intro w hSw; go_simp; (try with_reducible rfl); done)
        try simp only [List.setIfInBounds_toArray, List.set_cons_zero, List.set_cons_succ]
        refine take_at (i := 17) (d := 124) (v := ?_) (by simp only [List.getElem?_toArray, List.getElem?_cons_succ, List.getElem?_cons_zero]; rfl) rfl (by kernel_rfl) (by kernel_rfl) (by kernel_rfl) (fun _ _ _ h => h) rfl ?_ (by assumption) ?_
        rotate_left
        focus (intro w hSw; go_simp; (try with_reducible rfl); done)
        try simp only [List.setIfInBounds_toArray, List.set_cons_zero, List.set_cons_succ]
        refine take_at (i := 18) (d := 125) (v := ?_) (by simp only [List.getElem?_toArray, List.getElem?_cons_succ, List.getElem?_cons_zero]; rfl) rfl (by kernel_rfl) (by kernel_rfl) (by kernel_rfl) (fun _ _ _ h => h) rfl ?_ (by assumption) ?_
        rotate_left
        focus (intro w hSw; go_simp; (try with_reducible rfl); done)
        try simp only [List.setIfInBounds_toArray, List.set_cons_zero, List.set_cons_succ]
        refine take_at (i := 19) (d := 126) (v := ?_) (by simp only [List.getElem?_toArray, List.getElem?_cons_succ, List.getElem?_cons_zero]; rfl) rfl (by kernel_rfl) (by kernel_rfl) (by kernel_rfl) (fun _ _ _ h => h) rfl ?_ (by assumption) ?_
        rotate_left
        focus (intro w hSw; go_simp; (try with_reducible rfl); done)
        try simp only [List.setIfInBounds_toArray, List.set_cons_zero, List.set_cons_succ]
        refine take_at (i := 20) (d := 127) (v := ?_) (by simp only [List.getElem?_toArray, List.getElem?_cons_succ, List.getElem?_cons_zero]; rfl) rfl (by kernel_rfl) (by kernel_rfl) (by kernel_rfl) (fun _ _ _ h => h) rfl ?_ (by assumption) ?_
        rotate_left
        focus (intro w hSw; go_simp; (try with_reducible rfl); done)
        try simp only [List.setIfInBounds_toArray, List.set_cons_zero, List.set_cons_succ]
        refine wpAnyH_done (by kernel_rfl) ?_ _
        clear hS0
        obtain ⟨wd, hwd⟩ : ∃ u, wr.drew = u := ⟨_, rfl⟩
        rw [hwd]
        have HBd : Hid (Below wr.heap.size wr wd) := hide (by rw [← hwd]; exact (Below.refl _ _).drew)
        have HOd : Hid (wd.ownsRow w.heap.size 9 1 (.slice A8 j c8) j (strs bs)) := hide (by have h9 := HT4.out; obtain ⟨A9, c9, e9, h9⟩ := h9; injection e9 with q1 q2 q3; subst q1 q2 q3; rw [← hwd]; exact h9)
        have c1d : wd.cell? ⟨g, off + 1, none⟩ = some (.string ⟨b0.toArray⟩) := (HBd.out.cell (p := ⟨g, off + 1, none⟩) hgl).trans c1
        have r6d : wd.cell? ⟨Q, 6, none⟩ = some (.slice (some ⟨g, off, none⟩) q d7) := (HBd.out.cell (p := ⟨Q, 6, none⟩) hQr).trans r6
        clear c1
        go_upto_region 20 with (at_builtin; refine wpList_app rfl (.tmp 128) (.tmp 136) 48 rfl w.heap.size 9 i3 (.string ⟨#[]⟩) 1 16 Try.underlying48 a3i a3z a3s a3b rfl (by decide) (.slice A8 j c8) j (strs bs) rfl (HOd.out.alloc _) (wd.heap.size + 1) (some ⟨wd.heap.size, 0, none⟩) 1 1 [.string ⟨b0.toArray⟩] rfl rfl (Rd.new _ _ _ _) (by simp [Value.oneCell']) (by unfold maxLen; omega) (by omega) (by have := HBd.out.size; simp; omega) ?_; intro A9 c9 x2 own9 hg9 hat9)
        have HBx : Hid (Below wr.heap.size wr (wd.alloc (.cells #[.string ⟨b0.toArray⟩] 9))) := hide (HBd.out.alloc HBd.out.size _)
        have hQx2 : ∀ (i : Nat), x2.cell? ⟨Q, i, none⟩ = wr.cell? ⟨Q, i, none⟩ ∧ x2.frozen? ⟨Q, i, none⟩ = wr.frozen? ⟨Q, i, none⟩ := fun i => by have hb9 : x2.heap[Q]? = wr.heap[Q]? := (hg9.block Q (Nat.lt_of_lt_of_le hQr HBx.out.size) (fun e => by have := (HOd.out.lt Q e.symm).1; omega)).trans (HBx.out.block Q hQr); exact ⟨World.cell?_of_block hb9, World.frozen?_of_block hb9⟩
        have x6 := (hQx2 6).1.trans r6
        have x6f := (hQx2 6).2.trans z6
        have x2c := (hQx2 2).1.trans r2
        have x2f := (hQx2 2).2.trans z2
        have hstep := RTell.step (w := w) (x := wr) (x2 := x2) (B' := if d7 = 1 then some ⟨g, off, none⟩ else some ⟨g, off + 2, none⟩) hQ hGl HTs.out.1 HTs.out.2.1 HTs.out.2.2.1 (by have h9 := HT4.out; obtain ⟨A7, c7, e7, h9⟩ := h9; injection e7 with q1 q2 q3; subst q1 q3; rw [← q2] at h9; exact h9) hj64 HTs.out.2.2.2.1 HTs.out.2.2.2.2.1 HTs.out.2.2.2.2.2 r6 (by have h9 := H6.out; rw [HQq.out] at h9; exact h9) H7.out (b := b0) (by rw [HY0.out, HH1.out, HH1s.out]) (by rw [HH1.out]; omega) HBx.out hg9 own9 (fun h g9 off9 e => by injection e with e; injection e with e1 e2; subst e1 e2; rw [if_neg (by omega)])
        obtain ⟨hj63, HSt9⟩ := hstep
        rw [HH1.out, HH1s.out] at HSt9
        have HFin := hide HSt9
        have HX6 := hide x6
        have HR6 := hide r6
        have kq1 : (1 : Int) ≤ (q : Int) := by omega
        have hd7 : 1 ≤ d7 := by obtain ⟨A7, c7, e7, h9, _⟩ := H6.out; injection e7 with q1 q2 q3; have := HQq.out; omega
        have kq2 : (1 : Int) ≤ (d7 : Int) := by omega
        clear HSt9 own9 hg9 hat9 hQx2 r2 r6 z2 z6
        go_wp2
        all_goals go_roundw
        case rel => exact ⟨j + 1, A9, c9, _, rfl, HFin⟩
        case measure => rw [lenAt_is HR6.out, lenAt_set2 (by decide) HX6.out]; omega
end Go.Proofs.Ytigmmikijjcdiaa
