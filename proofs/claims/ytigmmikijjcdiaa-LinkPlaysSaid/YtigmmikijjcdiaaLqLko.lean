/- The frames that go out. (printed by gen/lko.py) -/
import Derived.Test.YtigmmikijjcdiaaProg
import Derived.Test.YtigmmikijjcdiaaLqLks
import Derived.Test.YtigmmikijjcdiaaLqRg2
import Derived.Deep.DeepCutAuto
import Derived.Lib.Hide
import Derived.WalkSpells
import Derived.WalkMore
import Derived.IntWalk








namespace Go.Proofs.Ytigmmikijjcdiaa
open Go.RowKit
set_option linter.unusedVariables false
set_option linter.unusedSimpArgs false
/-- rows of bytes that are told, each in a block of its own -/
def BRows (B : Nat) (w : World) (own : Nat → Option (Bool × Nat)) (tg : Nat → Bool × Nat) (v : Value) (fs : List BL) : Prop :=
  ∃ A c vs, v = .slice A fs.length c ∧ w.ownsRow B 23 1 v fs.length vs ∧ (∀ i u b, vs[i]? = some u → fs[i]? = some b → ByV w own (tg i) u b) ∧ ∀ u ∈ vs, u.oneCell' = true
theorem BRows.nil (B : Nat) (w : World) (own : Nat → Option (Bool × Nat)) (tg : Nat → Bool × Nat) : BRows B w own tg (.slice none 0 0) [] := ⟨none, 0, [], rfl, World.ownsRow_nil _ _ _ _, fun i u b h => by simp at h, fun u h => by simp at h⟩
/-- a frame as a row of bytes -/
theorem FrPost.byV {w' : World} {tag : Nat} {bs : BL} {ns : List Nat} {g : Nat} {own : Nat → Option (Bool × Nat)} {tg : Bool × Nat} (h : w'.heap[g]? = some (.cells (u8s (fr tag bs ns)).toArray 5)) (hl : (fr tag bs ns).length ≤ maxLen) (ho : own g = some tg) :
    ByV w' own tg (.slice (some ⟨g, 0, none⟩) (fr tag bs ns).length (fr tag bs ns).length) (fr tag bs ns) := by
  refine ⟨⟨_, _, rfl⟩, fun _ => ⟨⟨by rw [u8s_len, Nat.mul_one], .inr ⟨g, _, _, rfl, Nat.zero_le _, h, Nat.le_refl _, hl, by simp [u8s_len], (by rw [Nat.mul_one]; exact List.take_of_length_le (by rw [u8s_len]; exact Nat.le_refl _))⟩⟩, fun g' hg' => ?_⟩⟩
  have e : g = g' := by
    injection hg' with e
  subst e
  exact ho
/-- one more -/
theorem BRows.more {B : Nat} {w w' : World} {own own' : Nat → Option (Bool × Nat)} {tg : Nat → Bool × Nat} {v' : Value} {fs : List BL} {u : Value} {b : BL} {vs : List Value} {A' : Option Addr} {c' : Nat}
    (h3 : ∀ i u b, vs[i]? = some u → fs[i]? = some b → ByV w own (tg i) u b) (h4 : ∀ u ∈ vs, u.oneCell' = true) (hvl : vs.length = fs.length)
    (hv : v' = .slice A' (fs.length + 1) c') (ho : w'.ownsRow B 23 1 v' (fs.length + 1) (vs ++ [u])) (hk : ∀ i u b, ByV w own (tg i) u b → ByV w' own' (tg i) u b) (hu : ByV w' own' (tg fs.length) u b) : BRows B w' own' tg v' (fs ++ [b]) := by
  refine ⟨A', c', vs ++ [u], by rw [hv]; simp, by simpa using ho, fun i x y hx hy => ?_, fun x hx => ?_⟩
  · rcases Nat.lt_or_ge i vs.length with hi | hi
    · rw [List.getElem?_append_left hi] at hx
      rw [List.getElem?_append_left (by omega)] at hy
      exact hk _ _ _ (h3 i x y hx hy)
    · have hl := (List.getElem?_eq_some_iff.1 hx).1
      obtain rfl : i = fs.length := by simp at hl; omega
      rw [List.getElem?_append_right (by omega), hvl] at hx
      rw [List.getElem?_append_right (Nat.le_refl _)] at hy
      simp at hx hy
      subst hx hy
      exact hu
  · rcases List.mem_append.1 hx with hx | hx
    · exact h4 x hx
    · simp at hx
      subst hx
      obtain ⟨⟨A, c, rfl⟩, _⟩ := hu
      rfl
set_option maxRecDepth 100000 in
set_option maxHeartbeats 16000000 in
theorem lfirst_any (w : World) {P M : Nat} {G : Option Nat} {own : Nat → Option (Bool × Nat)} {k : Nat} {s : LE} (h : EndM w P M G own k s) :
    Calls Try.prog 32 #[.pointer (some ⟨P, 0, none⟩)] w fun e w' => e = .returned (.int .i64 (s.first : Int)) ∧ Below w.heap.size w w' := by
  obtain ⟨A, c, -, e1, e2, -, -, -, hP⟩ := h.cells
  have hf := h.1.first
  have hn := h.1.next
  have hl := h.1.sent
  obtain ⟨ns, hns⟩ : ∃ x, s.sent.length = x := ⟨_, rfl⟩
  obtain ⟨nx0, hnx⟩ : ∃ x, s.next = x := ⟨_, rfl⟩
  rw [hns] at e1 hf hl
  rw [hnx] at e2 hf hn
  have HF : Hid ((s.first : Int) = (nx0 : Int) - (ns : Int)) := hide (by unfold LE.first; rw [hns, hnx]; omega)
  have k2 : IntKind.i64.wrap ((nx0 : Int) - (ns : Int)) = (nx0 : Int) - (ns : Int) := IntWalk.i64_in _ (by omega)
  clear h hns hnx
  go_enter Try.func32, Try.ntmps32
  go_upto_region 1 with fail
  refine wp_region_held_drew (S := Kept w) (by kernel_rfl) (Kept.drew w) (fun hS0 => ?_)
  refine take_at (i := 0) (d := 3) (v := ?_) (by simp only [List.getElem?_toArray, List.getElem?_cons_succ, List.getElem?_cons_zero]; rfl) rfl (by kernel_rfl) (by kernel_rfl) (by kernel_rfl) (fun _ _ _ h => h) rfl ?_ (by assumption) ?_
  rotate_left
  focus (intro w hSw; go_simp; (try with_reducible rfl); done)
  try simp only [List.setIfInBounds_toArray, List.set_cons_zero, List.set_cons_succ]
  refine take_at (i := 1) (d := 4) (v := ?_) (by simp only [List.getElem?_toArray, List.getElem?_cons_succ, List.getElem?_cons_zero]; rfl) rfl (by kernel_rfl) (by kernel_rfl) (by kernel_rfl) (fun _ _ _ h => h) rfl ?_ (by assumption) ?_
  rotate_left
  focus (intro w hSw; go_simp; (try with_reducible rfl); done)
  try simp only [List.setIfInBounds_toArray, List.set_cons_zero, List.set_cons_succ]
  refine take_at (i := 2) (d := 5) (v := ?_) (by simp only [List.getElem?_toArray, List.getElem?_cons_succ, List.getElem?_cons_zero]; rfl) rfl (by kernel_rfl) (by kernel_rfl) (by kernel_rfl) (fun _ _ _ h => h) rfl ?_ (by assumption) ?_
  rotate_left
  focus (intro w hSw; go_simp; (try with_reducible rfl); done)
  try simp only [List.setIfInBounds_toArray, List.set_cons_zero, List.set_cons_succ]
  refine take_at (i := 3) (d := 6) (v := ?_) (by simp only [List.getElem?_toArray, List.getElem?_cons_succ, List.getElem?_cons_zero]; rfl) rfl (by kernel_rfl) (by kernel_rfl) (by kernel_rfl) (fun _ _ _ h => h) rfl ?_ (by assumption) ?_
  rotate_left
  focus (intro w hSw; go_simp; (try with_reducible rfl); done)
  try simp only [List.setIfInBounds_toArray, List.set_cons_zero, List.set_cons_succ]
  refine take_at (i := 4) (d := 7) (v := ?_) (by simp only [List.getElem?_toArray, List.getElem?_cons_succ, List.getElem?_cons_zero]; rfl) rfl (by kernel_rfl) (by kernel_rfl) (by kernel_rfl) (fun _ _ _ h => h) rfl ?_ (by assumption) ?_
  rotate_left
  focus (intro w hSw; go_simp; (try with_reducible rfl); done)
  try simp only [List.setIfInBounds_toArray, List.set_cons_zero, List.set_cons_succ]
  refine take_at (i := 5) (d := 8) (v := ?_) (by simp only [List.getElem?_toArray, List.getElem?_cons_succ, List.getElem?_cons_zero]; rfl) rfl (by kernel_rfl) (by kernel_rfl) (by kernel_rfl) (fun _ _ _ h => h) rfl ?_ (by assumption) ?_
  rotate_left
  focus (intro w hSw; go_simp; (try with_reducible rfl); done)
  try simp only [List.setIfInBounds_toArray, List.set_cons_zero, List.set_cons_succ]
  refine take_at (i := 6) (d := 9) (v := ?_) (by simp only [List.getElem?_toArray, List.getElem?_cons_succ, List.getElem?_cons_zero]; rfl) rfl (by kernel_rfl) (by kernel_rfl) (by kernel_rfl) (fun _ _ _ h => h) rfl ?_ (by assumption) ?_
  rotate_left
  focus (intro w hSw; go_simp; (try with_reducible rfl); done)
  try simp only [List.setIfInBounds_toArray, List.set_cons_zero, List.set_cons_succ]
  refine take_at (i := 7) (d := 10) (v := ?_) (by simp only [List.getElem?_toArray, List.getElem?_cons_succ, List.getElem?_cons_zero]; rfl) rfl (by kernel_rfl) (by kernel_rfl) (by kernel_rfl) (fun _ _ _ h => h) rfl ?_ (by assumption) ?_
  rotate_left
  focus (intro w hSw; go_simp; (try with_reducible rfl); done)
  try simp only [List.setIfInBounds_toArray, List.set_cons_zero, List.set_cons_succ]
  refine take_at (i := 8) (d := 11) (v := ?_) (by simp only [List.getElem?_toArray, List.getElem?_cons_succ, List.getElem?_cons_zero]; rfl) rfl (by kernel_rfl) (by kernel_rfl) (by kernel_rfl) (fun _ _ _ h => h) rfl ?_ (by assumption) ?_
  rotate_left
  focus (intro w hSw; go_simp; (try with_reducible rfl); done)
  try simp only [List.setIfInBounds_toArray, List.set_cons_zero, List.set_cons_succ]
  refine take_at (i := 9) (d := 12) (v := ?_) (by simp only [List.getElem?_toArray, List.getElem?_cons_succ, List.getElem?_cons_zero]; rfl) rfl (by kernel_rfl) (by kernel_rfl) (by kernel_rfl) (fun _ _ _ h => h) rfl ?_ (by assumption) ?_
  rotate_left
  focus (intro w hSw; go_simp; (try with_reducible rfl); done)
  try simp only [List.setIfInBounds_toArray, List.set_cons_zero, List.set_cons_succ]
  refine take_at (i := 10) (d := 2) (v := ?_) (by simp only [List.getElem?_toArray, List.getElem?_cons_succ, List.getElem?_cons_zero]; rfl) rfl (by kernel_rfl) (by kernel_rfl) (by kernel_rfl) (fun _ _ _ h => h) rfl ?_ (by assumption) ?_
  rotate_left
  focus (intro w hSw; go_simp; (try with_reducible rfl); done)
  try simp only [List.setIfInBounds_toArray, List.set_cons_zero, List.set_cons_succ]
  refine wpAnyH_done (by kernel_rfl) ?_ _
  go_wp2
  go_ret
  exact ⟨by rw [HF.out]; try simp [k2], (Below.refl _ _).drew⟩
theorem fr_len (tag : Nat) (b : BL) (ns : List Nat) : (fr tag b ns).length = 5 + 8 * ns.length + b.length := by
  unfold fr frB
  rw [List.length_append, List.length_append, List.length_append, be_len, be_len, flat8_len]
  omega
theorem own_type {w : World} {B size n : Nat} {e : TypeId} {v : Value} {xs : List Value} (h : w.ownsRow B e size v n xs) : ∀ g, v.ownBlock = some g → ∃ cur, w.heap[g]? = some (.cells cur e (0, 0)) := fun g hg => by
  rcases h.2 with ⟨rfl, _⟩ | ⟨g', cap, cur, rfl, _, hc, _⟩
  · cases hg
  · injection hg with e
    have e : g' = g := e
    subst e
    exact ⟨cur, hc⟩
theorem app_below1 {w wr y4 y5 : World} {e : TypeId} {size n : Nat} {v : Value} {xs : List Value} (hb : Below w.heap.size w y4) (ho : wr.ownsRow w.heap.size e size v n xs) (hg : y4.grownBy y5 v.ownBlock) : Below w.heap.size w y5 :=
  ⟨hg.os.trans hb.os, hg.tape.trans hb.tape, hg.output.trans hb.output, Nat.le_trans hb.size hg.size, fun q hq => (hg.block q (Nat.lt_of_lt_of_le hq hb.size) (fun e => by have := (ho.lt q e.symm).1; omega)).trans (hb.block q hq)⟩
/-- the frame of a number -/
def frOf (s : LE) (i : Nat) : BL := fr 1 (s.sent.getD (i - s.first) []) [s.ep, s.heard, i]
def FRows (w wr : World) (n : Nat) (s : LE) (j : Nat) (v : Value) : Prop :=
  ∃ own2, BRows w.heap.size wr own2 (fun q => (true, q)) v ((List.range' n j).map (frOf s)) ∧ ∀ g, own2 g ≠ none → w.heap.size ≤ g ∧ g < wr.heap.size
def FromPost (w : World) (P M : Nat) (G : Option Nat) (own : Nat → Option (Bool × Nat)) (k : Nat) (s : LE) (n : Nat) (ack : Bool) (e : Ending) (w' : World) : Prop :=
  ∃ v own2, e = .returned v ∧ BRows w.heap.size w' own2 (fun q => (true, q)) v (fromL s n ack).1 ∧ (∀ g, own2 g ≠ none → w.heap.size ≤ g ∧ g < w'.heap.size) ∧ EndM w' P M G own k (fromL s n ack).2 ∧ KB [P] w w'
theorem rows_fr {w wr y2 y4 y5 : World} {j g3 fl tag : Nat} {b : BL} {ns : List Nat} {fs : List BL} {A7 A8 : Option Addr} {c7 c8 : Nat} {vs2 : List Value} {own2 : Nat → Option (Bool × Nat)}
    (hw : Below w.heap.size w wr) (h2 : Below wr.heap.size wr y2) (h4 : Below wr.heap.size wr y4) (hg3 : y2.heap.size ≤ g3) (hc4 : y4.heap[g3]? = some (.cells (u8s (fr tag b ns)).toArray 5))
    (h7 : wr.ownsRow w.heap.size 23 1 (.slice A7 j c7) j vs2) (hg : y4.grownBy y5 (Value.slice A7 j c7).ownBlock) (h5 : y5.ownsRow w.heap.size 23 1 (.slice A8 (j + 1) c8) (j + 1) (vs2 ++ [.slice (some ⟨g3, 0, none⟩) fl fl]))
    (h39 : ∀ i u b, vs2[i]? = some u → fs[i]? = some b → ByV wr own2 (true, i) u b) (h49 : ∀ u ∈ vs2, u.oneCell' = true) (hob : ∀ g, own2 g ≠ none → w.heap.size ≤ g ∧ g < wr.heap.size)
    (hlen : fs.length = j) (hfl : (fr tag b ns).length = fl) (hl : (fr tag b ns).length ≤ maxLen) : ∃ own3, BRows w.heap.size y5 own3 (fun q => (true, q)) (.slice A8 (j + 1) c8) (fs ++ [fr tag b ns]) ∧ ∀ g, own3 g ≠ none → w.heap.size ≤ g ∧ g < y5.heap.size := by
  have s2 := h2.size
  have s4 := h4.size
  have s5 := hg.size
  have sw := hw.size
  have hl4 := lt_of_block hc4
  have hc5 : y5.heap[g3]? = some (.cells (u8s (fr tag b ns)).toArray 5) := (hg.block g3 hl4 (fun e => by have := (h7.lt g3 e.symm).2; omega)).trans hc4
  refine ⟨fun q => if q = g3 then some (true, j) else own2 q, ?_, fun q hq => ?_⟩
  · refine BRows.more (A' := A8) (c' := c8) h39 h49 (by rw [hlen]; have := h7.1; omega) (by rw [hlen]) (by rw [hlen]; exact h5) (fun q u b h => h.keep fun g' cur hg' hc => ⟨?_, ?_⟩) ?_
    · have hlt := lt_of_block hc
      refine (hg.block g' (by omega) (fun e => ?_)).trans (h4.block g' hlt)
      obtain ⟨cur', hc'⟩ := own_type h7 g' e.symm
      exact row_ne hc hc' (by decide) rfl
    · have hlt := lt_of_block hc
      rw [if_neg (by omega)]
      exact hg'
    · rw [hlen]
      have h9 := FrPost.byV (own := fun q => if q = g3 then some (true, j) else own2 q) (tg := (true, j)) hc5 hl (if_pos rfl)
      rw [hfl] at h9
      exact h9
  · dsimp only at hq
    by_cases e : q = g3
    · have := lt_of_block hc5
      omega
    · rw [if_neg e] at hq
      have := hob q hq
      omega
theorem from_more {w wr y2 y4 y5 : World} {n j i g3 fl : Nat} {s : LE} {b : BL} {ns : List Nat} {A7 A8 : Option Addr} {c7 c8 : Nat} {vs2 : List Value} {own2 : Nat → Option (Bool × Nat)}
    (hw : Below w.heap.size w wr) (h2 : Below wr.heap.size wr y2) (h4 : Below wr.heap.size wr y4) (hg3 : y2.heap.size ≤ g3) (hc4 : y4.heap[g3]? = some (.cells (u8s (fr 1 b ns)).toArray 5))
    (h7 : wr.ownsRow w.heap.size 23 1 (.slice A7 j c7) j vs2) (hg : y4.grownBy y5 (Value.slice A7 j c7).ownBlock) (h5 : y5.ownsRow w.heap.size 23 1 (.slice A8 (j + 1) c8) (j + 1) (vs2 ++ [.slice (some ⟨g3, 0, none⟩) fl fl]))
    (h39 : ∀ i u b, vs2[i]? = some u → ((List.range' n j).map (frOf s))[i]? = some b → ByV wr own2 (true, i) u b) (h49 : ∀ u ∈ vs2, u.oneCell' = true) (hob : ∀ g, own2 g ≠ none → w.heap.size ≤ g ∧ g < wr.heap.size)
    (hi : i = n + j) (hf : frOf s i = fr 1 b ns) (hfl : (fr 1 b ns).length = fl) (hl : (fr 1 b ns).length ≤ maxLen) : FRows w y5 n s (j + 1) (.slice A8 (j + 1) c8) := by
  have hr : (List.range' n (j + 1)).map (frOf s) = (List.range' n j).map (frOf s) ++ [frOf s i] := by rw [List.range'_1_concat, List.map_append, ← hi]; rfl
  unfold FRows
  rw [hr, hf]
  exact rows_fr hw h2 h4 hg3 hc4 h7 hg h5 h39 h49 hob (by rw [List.length_map, List.length_range']) hfl hl
/-- what to send first, and what is owed, are stored -/
theorem EndM.upd {y : World} {P M : Nat} {G : Option Nat} {own : Nat → Option (Bool × Nat)} {k : Nat} {s : LE} (h : EndM y P M G own k s) (o : Bool) : EndM ((y.setCell ⟨P, 5, none⟩ (.bool o)).setCell ⟨P, 4, none⟩ (.int .i64 (s.next : Int))) P M G own k { s with owes := o, fresh := s.next } := by
  obtain ⟨h0, h1, sv, vs, f, D, h2, h3, ⟨h4, h5⟩, ⟨h6, h7⟩, h8, h9⟩ := h
  have hk : ∀ g, g ≠ P → ((y.setCell ⟨P, 5, none⟩ (.bool o)).setCell ⟨P, 4, none⟩ (.int .i64 (s.next : Int))).heap[g]? = y.heap[g]? := fun g hg => (Below.heap_setCell _ _ _ _ hg).trans (Below.heap_setCell _ _ _ _ hg)
  have hB : ∀ tg v b, ByV y own tg v b → ByV ((y.setCell ⟨P, 5, none⟩ (.bool o)).setCell ⟨P, 4, none⟩ (.int .i64 (s.next : Int))) own tg v b := fun tg v b hb => hb.keep fun g cur hg hc => ⟨hk g (row_ne hc h2 (by decide)), hg⟩
  have hm : M ≠ P := by
    rintro rfl
    obtain ⟨es, clock, hm, _⟩ := h6
    rw [h2] at hm
    cases hm
  have hff : s.first ≤ s.next := by unfold LE.first; omega
  refine ⟨⟨h0.ep, h0.sent, h0.first, hff, Nat.le_refl _, h0.next, h0.heard, h0.bytes, h0.ahead⟩, fun g hg => by rw [World.size_setCell, World.size_setCell]; exact h1 g hg, sv, vs, f, D, heap_setCell_same _ P 4 _ _ _ (heap_setCell_same _ P 5 _ _ _ h2), h3.keep fun g hg hl => hk g ?_, ⟨h4, fun i v b hv hb => hB _ _ _ (h5 i v b hv hb)⟩, ⟨map_keep h6 (hk M hm), h7⟩, h8, fun n v b hv hb => hB _ _ _ (h9 n v b hv hb)⟩
  obtain ⟨cur, hc⟩ := h3.blk g hg
  exact row_ne hc h2 (by decide)
theorem from_fin {w y : World} {P M n : Nat} {G : Option Nat} {own own2 : Nat → Option (Bool × Nat)} {k : Nat} {s : LE} {ack : Bool} {l : List BL} {v : Value} (hE : EndM y P M G own k s) (hb : Below w.heap.size w y) (hl : l = (fromL s n ack).1) (hB : BRows w.heap.size y own2 (fun q => (true, q)) v l) (hob : ∀ g, own2 g ≠ none → w.heap.size ≤ g ∧ g < y.heap.size) (o : Bool) (ho : o = (s.owes && l.isEmpty)) (hP : P < w.heap.size) :
    FromPost w P M G own k s n ack (.returned v) ((y.setCell ⟨P, 5, none⟩ (.bool o)).setCell ⟨P, 4, none⟩ (.int .i64 (s.next : Int))) := by
  have hk : ∀ g, g ≠ P → ((y.setCell ⟨P, 5, none⟩ (.bool o)).setCell ⟨P, 4, none⟩ (.int .i64 (s.next : Int))).heap[g]? = y.heap[g]? := fun g hg => (Below.heap_setCell _ _ _ _ hg).trans (Below.heap_setCell _ _ _ _ hg)
  have he : (fromL s n ack).2 = { s with owes := o, fresh := s.next } := by rw [ho, hl]; rfl
  refine ⟨v, own2, rfl, ?_, fun g hg => by rw [World.size_setCell, World.size_setCell]; exact hob g hg, by rw [he]; exact hE.upd o, ⟨by rw [World.size_setCell, World.size_setCell]; exact hb.size, fun g hg hx => (hk g (by simpa using hx)).trans (hb.block g hg), ((Env.of_below hb).setCell _ _).setCell _ _⟩⟩
  rw [← hl]
  obtain ⟨A, c, vs, h1, h2, h3, h4⟩ := hB
  refine ⟨A, c, vs, h1, own_same h2 fun g hg => hk g (by have := (h2.lt g hg).1; omega), fun i u b hu hb' => (h3 i u b hu hb').keep fun g cur hg hc => ⟨hk g (by have := hob g (by rw [hg]; simp); omega), hg⟩, h4⟩
set_option maxRecDepth 100000 in
set_option maxHeartbeats 16000000 in
theorem from_any (w : World) {P M : Nat} {G : Option Nat} {own : Nat → Option (Bool × Nat)} {k : Nat} {s : LE} (h : EndM w P M G own k s) (n : Nat) (hn1 : s.first ≤ n) (hn2 : n ≤ s.next) (ack : Bool) :
    Calls Try.prog 30 #[.pointer (some ⟨P, 0, none⟩), .int .i64 (n : Int), .bool ack] w (FromPost w P M G own k s n ack) := by
  have hok := h.1
  obtain ⟨A, c, e0, e1, e2, e3, e4, e5, hP⟩ := h.cells
  have HE := hide h
  obtain ⟨-, -, sv, vs, f, D, h2, h3, h4, -, -, -⟩ := h
  have hsv : sv = .slice A s.sent.length c := by have h9 := (cell_of_row _ _ 1 _ _ _ h2).symm.trans e1; injection h9
  subst hsv
  obtain ⟨ns, hns⟩ : ∃ x, s.sent.length = x := ⟨_, rfl⟩
  obtain ⟨nx0, hnx⟩ : ∃ x, s.next = x := ⟨_, rfl⟩
  obtain ⟨ep, hep⟩ : ∃ x, s.ep = x := ⟨_, rfl⟩
  obtain ⟨hd, hhd⟩ : ∃ x, s.heard = x := ⟨_, rfl⟩
  obtain ⟨fs, hfs⟩ : ∃ x, s.first = x := ⟨_, rfl⟩
  have b1 : ns ≤ 64 := by rw [← hns]; exact hok.sent
  have b2 : nx0 ≤ 1000000 := by rw [← hnx]; exact hok.next
  have b3' : ep ≤ 4611686018427387904 := by rw [← hep]; exact hok.ep
  have b4 : hd ≤ 1000000 := by rw [← hhd]; exact hok.heard
  have HS : Hid (s.sent.length = ns ∧ s.next = nx0 ∧ s.ep = ep ∧ s.heard = hd ∧ s.first = fs ∧ fs + ns = nx0) := hide ⟨hns, hnx, hep, hhd, hfs, by have := hok.first; rw [← hfs, ← hns, ← hnx]; unfold LE.first; omega⟩
  have HBy := hide hok.bytes
  rw [hns] at e1 h3 h4
  rw [hnx] at e2 hn2
  rw [hep] at e0
  rw [hhd] at e3
  rw [hfs] at hn1
  have HFs := hide hfs
  have H3 := hide h3
  have H4 := hide h4
  clear hok h2 h3 h4 hns hnx hep hhd hfs
  obtain ⟨a3, a3i, a3z, a3s, a3b⟩ := info_parts (show (Try.prog.info? 23).map (fun i => (i.zero, i.size, i.bytes)) = some (some (.slice none 0 0), 1, 24) by kernel_rfl)
  go_enter Try.func30, Try.ntmps30
  go_wp2_with fail
  go_loopw [1, 7] (fun v1 v7 wr => ∃ (i j : Nat) (A7 : Option Addr) (c7 : Nat), i ≤ nx0 ∧ v1 = .int .i64 (i : Int) ∧ v7 = .slice A7 j c7 ∧ Hid (i = n + j) ∧ Hid (FRows w wr n s j (.slice A7 j c7)) ∧ Hid (Below w.heap.size w wr)) (fun v1 _ _ => nx0 - (intOf v1).toNat)
  case atStart => exact ⟨n, 0, none, 0, hn2, rfl, rfl, hide rfl, hide ⟨fun _ => none, BRows.nil _ _ _ _, fun g hg => absurd rfl hg⟩, hide (Below.refl _ _)⟩
  case round =>
    obtain ⟨i, j, A7, c7, hi, rfl, rfl, HI, HF7, HBr⟩ := hrel
    obtain ⟨wr, rfl⟩ : ∃ z : World, z = wr := ⟨_, rfl⟩
    have swr : w.heap.size ≤ wr.heap.size := HBr.out.size
    have hPr : P < wr.heap.size := by omega
    have r0 := (HBr.out.cell (p := ⟨P, 0, none⟩) hP).trans e0
    have r1 := (HBr.out.cell (p := ⟨P, 1, none⟩) hP).trans e1
    have r2 := (HBr.out.cell (p := ⟨P, 2, none⟩) hP).trans e2
    have r3 := (HBr.out.cell (p := ⟨P, 3, none⟩) hP).trans e3
    have r4 := (HBr.out.cell (p := ⟨P, 4, none⟩) hP).trans e4
    have r5 := (HBr.out.cell (p := ⟨P, 5, none⟩) hP).trans e5
    have HEr := hide (HE.out.next HBr.out)
    by_cases hlt : i < nx0
    · have hI1 : (i : Int) < (nx0 : Int) := by omega
      obtain ⟨kk, hkk⟩ : ∃ x, i - fs = x := ⟨_, rfl⟩
      have hfi : fs ≤ i := by have := HI.out; omega
      have hkn : kk < ns := by have := HS.out; omega
      have HKK : Hid (IntKind.i64.wrap ((i : Int) - (fs : Int)) = (kk : Int)) := hide (by rw [IntWalk.i64_in _ (by omega)]; omega)
      have HK2 := hide hkk
      clear hkk
      obtain ⟨u, hu⟩ : ∃ u, vs[kk]? = some u := ⟨_, List.getElem?_eq_getElem (by rw [H4.out.1]; exact hkn)⟩
      obtain ⟨b, hb⟩ : ∃ b, s.sent[kk]? = some b := ⟨_, List.getElem?_eq_getElem (by rw [HS.out.1]; exact hkn)⟩
      have hbv := H4.out.2 kk u b hu hb
      obtain ⟨⟨Au, cu, hue⟩, -⟩ := id hbv
      subst hue
      have HRb : Hid (Rd w w.heap.size Au (u8s b)) := hide hbv.row
      clear hbv
      obtain ⟨g, off, rfl, -, hgl, -, hc0⟩ := H3.out.at_ hu
      have hgr : g < wr.heap.size := by omega
      obtain ⟨bl, hbl⟩ : ∃ x, b.length = x := ⟨_, rfl⟩
      rw [hbl] at hc0
      have hbl2 : bl ≤ 1048576 := by rw [← hbl]; exact HBy.out b (List.mem_of_getElem? hb)
      have HBl := hide hbl
      have rk := (HBr.out.cell (p := ⟨g, off + kk, none⟩) hgl).trans hc0
      have HFr : Hid (frOf s i = fr 1 b [ep, hd, i]) := hide (by obtain ⟨_, _, k3, k4, k5, _⟩ := HS.out; unfold frOf; rw [k3, k4, k5, HK2.out, List.getD_eq_getElem?_getD, hb]; rfl)
      obtain ⟨own2, ⟨A9, c9, vs2, hv9, hO9, h39, h49⟩, hob⟩ := HF7.out
      injection hv9 with q1 q2 q3
      rw [List.length_map, List.length_range'] at hO9
      have HO7 := hide hO9
      have H39 := hide h39
      have H49 := hide h49
      have HOb := hide hob
      have HVl := hide hO9.1
      have hj : j ≤ 1000000 := by have := HI.out; omega
      clear q1 q2 q3 hO9 h39 h49 hob hu hb hbl hc0 HF7
      have HY0 : Hid (Below wr.heap.size wr wr) := hide (Below.refl _ _)
      go_upto_region 4 with fail
      refine wpL_region (S := Kept wr) [23] (by kernel_rfl) (Kept.drew wr) (fun hS0 => ?_)
      refine takeL_at (i := 0) (d := 16) (v := ?_) (by simp only [List.getElem?_toArray, List.getElem?_cons_succ, List.getElem?_cons_zero]; rfl) rfl (by kernel_rfl) (by kernel_rfl) (by kernel_rfl) (by kernel_rfl) (fun _ _ _ h => h) rfl ?_ (by assumption) ?_
      rotate_left
      focus (intro w hSw; go_simp; (try with_reducible rfl); done)
      try simp only [List.setIfInBounds_toArray, List.set_cons_zero, List.set_cons_succ]
      refine takeW_at (i := 1) (d := 17) (v := ?_) (by simp only [List.getElem?_toArray, List.getElem?_cons_succ, List.getElem?_cons_zero]; rfl) rfl (by kernel_rfl) (by kernel_rfl) (by kernel_rfl) (fun _ _ _ h => h) rfl ?_ ?_
      rotate_left
      focus (intro w; go_simp; (try with_reducible rfl); done)
      try simp only [List.setIfInBounds_toArray, List.set_cons_zero, List.set_cons_succ]
      refine takeW_at (i := 2) (d := 18) (v := ?_) (by simp only [List.getElem?_toArray, List.getElem?_cons_succ, List.getElem?_cons_zero]; rfl) rfl (by kernel_rfl) (by kernel_rfl) (by kernel_rfl) (fun _ _ _ h => h) rfl ?_ ?_
      rotate_left
      focus (intro w; go_simp; (try with_reducible rfl); done)
      try simp only [List.setIfInBounds_toArray, List.set_cons_zero, List.set_cons_succ]
      refine takeW_at (i := 3) (d := 19) (v := ?_) (by simp only [List.getElem?_toArray, List.getElem?_cons_succ, List.getElem?_cons_zero]; rfl) rfl (by kernel_rfl) (by kernel_rfl) (by kernel_rfl) (fun _ _ _ h => h) rfl ?_ ?_
      rotate_left
      focus (intro w; go_simp; (try with_reducible rfl); done)
      try simp only [List.setIfInBounds_toArray, List.set_cons_zero, List.set_cons_succ]
      refine takeU_at [4, 9, 10, 21, 22, 23, 24] (i := 4) (d := 20) (v := ?_) (by simp only [List.getElem?_toArray, List.getElem?_cons_succ, List.getElem?_cons_zero]; rfl) rfl (by kernel_rfl) (by kernel_rfl) (by kernel_rfl) (by kernel_rfl) (by kernel_rfl) (by kernel_rfl) (fun _ _ _ h => h) rfl ?_ (by assumption) ?_
      rotate_left
      focus (intro w hSw; go_simp; (try with_reducible rfl); done)
      try simp only [List.setIfInBounds_toArray, List.set_cons_zero, List.set_cons_succ]
      refine takeW_at (i := 5) (d := 21) (v := ?_) (by simp only [List.getElem?_toArray, List.getElem?_cons_succ, List.getElem?_cons_zero]; rfl) rfl (by kernel_rfl) (by kernel_rfl) (by kernel_rfl) (fun _ _ _ h => h) rfl ?_ ?_
      rotate_left
      focus (intro w; go_simp; (try with_reducible rfl); done)
      try simp only [List.setIfInBounds_toArray, List.set_cons_zero, List.set_cons_succ]
      refine takeW_at (i := 6) (d := 22) (v := ?_) (by simp only [List.getElem?_toArray, List.getElem?_cons_succ, List.getElem?_cons_zero]; rfl) rfl (by kernel_rfl) (by kernel_rfl) (by kernel_rfl) (fun _ _ _ h => h) rfl ?_ ?_
      rotate_left
      focus (intro w; go_simp; (try with_reducible rfl); done)
      try simp only [List.setIfInBounds_toArray, List.set_cons_zero, List.set_cons_succ]
      refine takeW_at (i := 11) (d := 27) (v := ?_) (by simp only [List.getElem?_toArray, List.getElem?_cons_succ, List.getElem?_cons_zero]; rfl) rfl (by kernel_rfl) (by kernel_rfl) (by kernel_rfl) (fun _ _ _ h => h) rfl ?_ ?_
      rotate_left
      focus (intro w; go_simp; (try with_reducible rfl); done)
      try simp only [List.setIfInBounds_toArray, List.set_cons_zero, List.set_cons_succ]
      refine takeW_at (i := 12) (d := 28) (v := ?_) (by simp only [List.getElem?_toArray, List.getElem?_cons_succ, List.getElem?_cons_zero]; rfl) rfl (by kernel_rfl) (by kernel_rfl) (by kernel_rfl) (fun _ _ _ h => h) rfl ?_ ?_
      rotate_left
      focus (intro w; go_simp; (try with_reducible rfl); done)
      try simp only [List.setIfInBounds_toArray, List.set_cons_zero, List.set_cons_succ]
      refine takeW_at (i := 13) (d := 29) (v := ?_) (by simp only [List.getElem?_toArray, List.getElem?_cons_succ, List.getElem?_cons_zero]; rfl) rfl (by kernel_rfl) (by kernel_rfl) (by kernel_rfl) (fun _ _ _ h => h) rfl ?_ ?_
      rotate_left
      focus (intro w; go_simp; (try with_reducible rfl); done)
      try simp only [List.setIfInBounds_toArray, List.set_cons_zero, List.set_cons_succ]
      refine takeU_at [14, 20, 21, 22, 23, 24] (i := 14) (d := 30) (v := ?_) (by simp only [List.getElem?_toArray, List.getElem?_cons_succ, List.getElem?_cons_zero]; rfl) rfl (by kernel_rfl) (by kernel_rfl) (by kernel_rfl) (by kernel_rfl) (by kernel_rfl) (by kernel_rfl) (fun _ _ _ h => h) rfl ?_ (by assumption) ?_
      rotate_left
      focus (intro w hSw; go_simp; (try with_reducible rfl); done)
      try simp only [List.setIfInBounds_toArray, List.set_cons_zero, List.set_cons_succ]
      refine takeW_at (i := 15) (d := 31) (v := ?_) (by simp only [List.getElem?_toArray, List.getElem?_cons_succ, List.getElem?_cons_zero]; rfl) rfl (by kernel_rfl) (by kernel_rfl) (by kernel_rfl) (fun _ _ _ h => h) rfl ?_ ?_
      rotate_left
      focus (intro w; go_simp; (try with_reducible rfl); done)
      try simp only [List.setIfInBounds_toArray, List.set_cons_zero, List.set_cons_succ]
      refine takeW_at (i := 16) (d := 32) (v := ?_) (by simp only [List.getElem?_toArray, List.getElem?_cons_succ, List.getElem?_cons_zero]; rfl) rfl (by kernel_rfl) (by kernel_rfl) (by kernel_rfl) (fun _ _ _ h => h) rfl ?_ ?_
      rotate_left
      focus (intro w; go_simp; (try with_reducible rfl); done)
      try simp only [List.setIfInBounds_toArray, List.set_cons_zero, List.set_cons_succ]
      refine takeW_at (i := 17) (d := 33) (v := ?_) (by simp only [List.getElem?_toArray, List.getElem?_cons_succ, List.getElem?_cons_zero]; rfl) rfl (by kernel_rfl) (by kernel_rfl) (by kernel_rfl) (fun _ _ _ h => h) rfl ?_ ?_
      rotate_left
      focus (intro w; go_simp; (try with_reducible rfl); done)
      try simp only [List.setIfInBounds_toArray, List.set_cons_zero, List.set_cons_succ]
      refine takeU_at [18, 20, 21, 22, 23, 24] (i := 18) (d := 34) (v := ?_) (by simp only [List.getElem?_toArray, List.getElem?_cons_succ, List.getElem?_cons_zero]; rfl) rfl (by kernel_rfl) (by kernel_rfl) (by kernel_rfl) (by kernel_rfl) (by kernel_rfl) (by kernel_rfl) (fun _ _ _ h => h) rfl ?_ (by assumption) ?_
      rotate_left
      focus (intro w hSw; go_simp; (try with_reducible rfl); done)
      try simp only [List.setIfInBounds_toArray, List.set_cons_zero, List.set_cons_succ]
      refine takeW_at (i := 19) (d := 35) (v := ?_) (by simp only [List.getElem?_toArray, List.getElem?_cons_succ, List.getElem?_cons_zero]; rfl) rfl (by kernel_rfl) (by kernel_rfl) (by kernel_rfl) (fun _ _ _ h => h) rfl ?_ ?_
      rotate_left
      focus (intro w; go_simp; (try with_reducible rfl); done)
      try simp only [List.setIfInBounds_toArray, List.set_cons_zero, List.set_cons_succ]
      refine call2L_at (i := 7) (j := 20) (by simp only [List.getElem?_toArray, List.getElem?_cons_succ, List.getElem?_cons_zero]; rfl) (by simp only [List.getElem?_toArray, List.getElem?_cons_succ, List.getElem?_cons_zero]; rfl) (by kernel_rfl) rfl rfl (fun K hK => ?_) (fun K hK => ?_)
      · go_simp
        refine (lfirst_any wr.drew (HEr.out.next (HY0.out.drew))).mono ?_
        rintro e y1 ⟨rfl, hz⟩
        have HY1 : Hid (Below wr.heap.size wr y1) := hide (below_dr hz)
        try rw [HFs.out]
        have hS1 : Kept wr y1 := Kept.of_below HY1.out
        clear hz
        go_wp2_with fail
        refine hK.out _ _ hS1 (fun hSn => ?_)
        clear hK K
        try simp only [List.setIfInBounds_toArray, List.set_cons_zero, List.set_cons_succ]
        refine takeW_at (i := 8) (d := 24) (v := ?_) (by simp only [List.getElem?_toArray, List.getElem?_cons_succ, List.getElem?_cons_zero]; rfl) rfl (by kernel_rfl) (by kernel_rfl) (by kernel_rfl) (fun _ _ _ h => h) rfl ?_ ?_
        rotate_left
        focus (intro w; go_simp; (try rw [HKK.out]); (try with_reducible rfl); done)
        try simp only [List.setIfInBounds_toArray, List.set_cons_zero, List.set_cons_succ]
        refine takeW_at (i := 9) (d := 25) (v := ?_) (by simp only [List.getElem?_toArray, List.getElem?_cons_succ, List.getElem?_cons_zero]; rfl) rfl (by kernel_rfl) (by kernel_rfl) (by kernel_rfl) (fun _ _ _ h => h) rfl ?_ ?_
        rotate_left
        focus (intro w; go_simp; (try with_reducible rfl); done)
        try simp only [List.setIfInBounds_toArray, List.set_cons_zero, List.set_cons_succ]
        refine takeU_at [10, 21, 22, 23, 24] (i := 10) (d := 26) (v := ?_) (by simp only [List.getElem?_toArray, List.getElem?_cons_succ, List.getElem?_cons_zero]; rfl) rfl (by kernel_rfl) (by kernel_rfl) (by kernel_rfl) (by kernel_rfl) (by kernel_rfl) (by kernel_rfl) (fun _ _ _ h => h) rfl ?_ (by assumption) ?_
        rotate_left
        focus (intro w hSw; go_simp; (try with_reducible rfl); done)
        try simp only [List.setIfInBounds_toArray, List.set_cons_zero, List.set_cons_succ]
        refine callL_at (i := 20) (d := 36) (by simp only [List.getElem?_toArray, List.getElem?_cons_succ, List.getElem?_cons_zero]; rfl) rfl (by kernel_rfl) rfl (fun K hK => ?_)
        go_simp
        obtain ⟨y2, hy⟩ : ∃ z, (y1.alloc (.cells #[.int .i64 (ep : Int), .int .i64 (hd : Int), .int .i64 (i : Int)] 2)) = z := ⟨_, rfl⟩
        have HY2 : Hid (Below wr.heap.size wr y2) := hide (by rw [← hy]; exact (HY1.out.alloc HY1.out.size _))
        have HO3 : Hid (y2.heap[y1.heap.size]? = some (.cells #[.int .i64 (ep : Int), .int .i64 (hd : Int), .int .i64 (i : Int)] 2)) := hide (by rw [← hy]; exact heap_alloc_last y1 _)
        obtain ⟨b3, hb3⟩ : ∃ x, y1.heap.size = x := ⟨_, rfl⟩
        rw [hb3] at HO3
        rw [hy, hb3]
        clear hy hb3
        have hS2 : Kept wr y2 := Kept.of_below HY2.out
        refine hK.out _ _ hS2 (fun hSn => ?_)
        clear hK K
        try simp only [List.setIfInBounds_toArray, List.set_cons_zero, List.set_cons_succ]
        refine callL_at (i := 21) (d := 37) (by simp only [List.getElem?_toArray, List.getElem?_cons_succ, List.getElem?_cons_zero]; rfl) rfl (by kernel_rfl) rfl (fun K hK => ?_)
        go_simp
        have hfr := frame_any y2 1 (by decide) Au b cu ((HRb.out.below (HBr.out.trans (HY2.out.mono swr))).more (Nat.le_trans swr HY2.out.size)) (by rw [HBl.out]; omega) (some ⟨b3, 0, none⟩) [ep, hd, i] 3 3 rfl (by decide) (rd_cells HO3.out) (by intro x hx; simp at hx; omega)
        rw [HBl.out] at hfr
        refine hfr.mono ?_
        clear hfr
        rintro e y3 ⟨g3, rfl, hg3, hc3, hz⟩
        obtain ⟨fl, hfl⟩ : ∃ x, (fr 1 b [ep, hd, i]).length = x := ⟨_, rfl⟩
        rw [hfl]
        have HFl := hide hfl
        have HC3 := hide hc3
        have HG3 := hide hg3
        have HY3 : Hid (Below wr.heap.size wr y3) := hide (HY2.out.trans (hz.mono HY2.out.size))
        have hS3 : Kept wr y3 := Kept.of_below HY3.out
        clear hz hfl hc3 hg3
        go_wp2_with fail
        refine hK.out _ _ hS3 (fun hSn => ?_)
        clear hK K
        try simp only [List.setIfInBounds_toArray, List.set_cons_zero, List.set_cons_succ]
        refine callL_at (i := 22) (d := 38) (by simp only [List.getElem?_toArray, List.getElem?_cons_succ, List.getElem?_cons_zero]; rfl) rfl (by kernel_rfl) rfl (fun K hK => ?_)
        go_simp
        obtain ⟨y4, hy⟩ : ∃ z, y3.alloc (.cells #[.slice (some ⟨g3, 0, none⟩) fl fl] 23) = z := ⟨_, rfl⟩
        have HY4 : Hid (Below wr.heap.size wr y4) := hide (by rw [← hy]; exact HY3.out.alloc HY3.out.size _)
        have HO1 : Hid (y4.heap[y3.heap.size]? = some (.cells #[.slice (some ⟨g3, 0, none⟩) fl fl] 23)) := hide (by rw [← hy]; exact heap_alloc_last y3 _)
        have HC4 : Hid (y4.heap[g3]? = some (.cells (u8s (fr 1 b [ep, hd, i])).toArray 5)) := hide (by rw [← hy]; exact (heap_alloc_old _ _ (lt_of_block HC3.out)).trans HC3.out)
        have hS4 : Kept wr y4 := Kept.of_below HY4.out
        rw [hy]
        clear hy
        refine hK.out _ _ hS4 (fun hSn => ?_)
        clear hK K
        try simp only [List.setIfInBounds_toArray, List.set_cons_zero, List.set_cons_succ]
        refine exL_at (i := 23) (by simp only [List.getElem?_toArray, List.getElem?_cons_succ, List.getElem?_cons_zero]; rfl) (by kernel_rfl) rfl (by kernel_rfl) (fun K hK => ?_)
        refine op_app (.tmp 16) (.tmp 38) 22 rfl w.heap.size 23 a3 (.slice none 0 0) 1 24 Try.underlying22 a3i a3z a3s a3b rfl (by decide) (.slice A7 j c7) j vs2 rfl (own_below HO7.out HY4.out (fun g hg => (HO7.out.lt g hg).2)) y4.heap.size (some ⟨y3.heap.size, 0, none⟩) 1 1 [.slice (some ⟨g3, 0, none⟩) fl fl] rfl rfl (rd_cells HO1.out) (by simp [Value.oneCell']) (by unfold maxLen; omega) (by omega) (Nat.le_trans swr HY4.out.size) ?_
        intro A8 c8 y5 own5 hg5 hat5
        have HO5 := hide own5
        have HG5 := hide hg5
        clear own5 hg5 hat5
        refine hK.out _ _ ?_
        clear hK K
        simp only [Act.put]
        try simp only [List.setIfInBounds_toArray, List.set_cons_zero, List.set_cons_succ]
        refine takeW_at (i := 24) (d := 7) (v := ?_) (by simp only [List.getElem?_toArray, List.getElem?_cons_succ, List.getElem?_cons_zero]; rfl) rfl (by kernel_rfl) (by kernel_rfl) (by kernel_rfl) (fun _ _ _ h => h) rfl ?_ ?_
        rotate_left
        focus (intro w; go_simp; (try with_reducible rfl); done)
        try simp only [List.setIfInBounds_toArray, List.set_cons_zero, List.set_cons_succ]
        refine wpAnyL_done (by kernel_rfl) ?_ _
        have HFin : Hid (FRows w y5 n s (j + 1) (.slice A8 (j + 1) c8)) := hide (from_more HBr.out HY2.out HY4.out HG3.out HC4.out HO7.out HG5.out HO5.out H39.out H49.out HOb.out HI.out HFr.out HFl.out (by rw [fr_len, HBl.out]; unfold maxLen; simp; omega))
        have HBf : Hid (Below w.heap.size w y5) := hide (app_below1 (HBr.out.trans (HY4.out.mono swr)) HO7.out HG5.out)
        clear HRb
        go_wp2
        go_roundw
        case rel => exact ⟨i + 1, j + 1, A8, c8, by omega, by go_num, rfl, hide (by have := HI.out; omega), HFin, HBf⟩
        case measure => simp [intOf]; omega
      · go_simp
        obtain ⟨y1, hy⟩ : ∃ z, (wr.alloc (.cells #[.int .i64 (ep : Int), .int .i64 (hd : Int), .int .i64 (i : Int)] 2)).drew = z := ⟨_, rfl⟩
        have HY1 : Hid (Below wr.heap.size wr y1) := hide (by rw [← hy]; exact (HY0.out.alloc HY0.out.size _).drew)
        have HO3 : Hid (y1.heap[wr.heap.size]? = some (.cells #[.int .i64 (ep : Int), .int .i64 (hd : Int), .int .i64 (i : Int)] 2)) := hide (by rw [← hy]; exact heap_alloc_last wr _)
        obtain ⟨b3, hb3⟩ : ∃ x, wr.heap.size = x := ⟨_, rfl⟩
        rw [hb3] at HO3
        rw [hy, hb3]
        clear hy hb3
        have hS1 : Kept wr y1 := Kept.of_below HY1.out
        refine hK.out _ _ hS1 (fun hSn => ?_)
        clear hK K
        try simp only [List.setIfInBounds_toArray, List.set_cons_zero, List.set_cons_succ]
        refine callL_at (i := 7) (d := 23) (by simp only [List.getElem?_toArray, List.getElem?_cons_succ, List.getElem?_cons_zero]; rfl) rfl (by kernel_rfl) rfl (fun K hK => ?_)
        go_simp
        refine (lfirst_any y1 (HEr.out.next (HY1.out))).mono ?_
        rintro e y2 ⟨rfl, hz⟩
        have HY2 : Hid (Below wr.heap.size wr y2) := hide (HY1.out.trans (hz.mono HY1.out.size))
        have HO3 : Hid (y2.heap[b3]? = some (.cells #[.int .i64 (ep : Int), .int .i64 (hd : Int), .int .i64 (i : Int)] 2)) := hide ((hz.block b3 (lt_of_block HO3.out)).trans HO3.out)
        try rw [HFs.out]
        have hS2 : Kept wr y2 := Kept.of_below HY2.out
        clear hz
        go_wp2_with fail
        refine hK.out _ _ hS2 (fun hSn => ?_)
        clear hK K
        try simp only [List.setIfInBounds_toArray, List.set_cons_zero, List.set_cons_succ]
        refine takeW_at (i := 8) (d := 24) (v := ?_) (by simp only [List.getElem?_toArray, List.getElem?_cons_succ, List.getElem?_cons_zero]; rfl) rfl (by kernel_rfl) (by kernel_rfl) (by kernel_rfl) (fun _ _ _ h => h) rfl ?_ ?_
        rotate_left
        focus (intro w; go_simp; (try rw [HKK.out]); (try with_reducible rfl); done)
        try simp only [List.setIfInBounds_toArray, List.set_cons_zero, List.set_cons_succ]
        refine takeW_at (i := 9) (d := 25) (v := ?_) (by simp only [List.getElem?_toArray, List.getElem?_cons_succ, List.getElem?_cons_zero]; rfl) rfl (by kernel_rfl) (by kernel_rfl) (by kernel_rfl) (fun _ _ _ h => h) rfl ?_ ?_
        rotate_left
        focus (intro w; go_simp; (try with_reducible rfl); done)
        try simp only [List.setIfInBounds_toArray, List.set_cons_zero, List.set_cons_succ]
        refine takeU_at [10, 21, 22, 23, 24] (i := 10) (d := 26) (v := ?_) (by simp only [List.getElem?_toArray, List.getElem?_cons_succ, List.getElem?_cons_zero]; rfl) rfl (by kernel_rfl) (by kernel_rfl) (by kernel_rfl) (by kernel_rfl) (by kernel_rfl) (by kernel_rfl) (fun _ _ _ h => h) rfl ?_ (by assumption) ?_
        rotate_left
        focus (intro w hSw; go_simp; (try with_reducible rfl); done)
        try simp only [List.setIfInBounds_toArray, List.set_cons_zero, List.set_cons_succ]
        refine callL_at (i := 21) (d := 37) (by simp only [List.getElem?_toArray, List.getElem?_cons_succ, List.getElem?_cons_zero]; rfl) rfl (by kernel_rfl) rfl (fun K hK => ?_)
        go_simp
        have hfr := frame_any y2 1 (by decide) Au b cu ((HRb.out.below (HBr.out.trans (HY2.out.mono swr))).more (Nat.le_trans swr HY2.out.size)) (by rw [HBl.out]; omega) (some ⟨b3, 0, none⟩) [ep, hd, i] 3 3 rfl (by decide) (rd_cells HO3.out) (by intro x hx; simp at hx; omega)
        rw [HBl.out] at hfr
        refine hfr.mono ?_
        clear hfr
        rintro e y3 ⟨g3, rfl, hg3, hc3, hz⟩
        obtain ⟨fl, hfl⟩ : ∃ x, (fr 1 b [ep, hd, i]).length = x := ⟨_, rfl⟩
        rw [hfl]
        have HFl := hide hfl
        have HC3 := hide hc3
        have HG3 := hide hg3
        have HY3 : Hid (Below wr.heap.size wr y3) := hide (HY2.out.trans (hz.mono HY2.out.size))
        have hS3 : Kept wr y3 := Kept.of_below HY3.out
        clear hz hfl hc3 hg3
        go_wp2_with fail
        refine hK.out _ _ hS3 (fun hSn => ?_)
        clear hK K
        try simp only [List.setIfInBounds_toArray, List.set_cons_zero, List.set_cons_succ]
        refine callL_at (i := 22) (d := 38) (by simp only [List.getElem?_toArray, List.getElem?_cons_succ, List.getElem?_cons_zero]; rfl) rfl (by kernel_rfl) rfl (fun K hK => ?_)
        go_simp
        obtain ⟨y4, hy⟩ : ∃ z, y3.alloc (.cells #[.slice (some ⟨g3, 0, none⟩) fl fl] 23) = z := ⟨_, rfl⟩
        have HY4 : Hid (Below wr.heap.size wr y4) := hide (by rw [← hy]; exact HY3.out.alloc HY3.out.size _)
        have HO1 : Hid (y4.heap[y3.heap.size]? = some (.cells #[.slice (some ⟨g3, 0, none⟩) fl fl] 23)) := hide (by rw [← hy]; exact heap_alloc_last y3 _)
        have HC4 : Hid (y4.heap[g3]? = some (.cells (u8s (fr 1 b [ep, hd, i])).toArray 5)) := hide (by rw [← hy]; exact (heap_alloc_old _ _ (lt_of_block HC3.out)).trans HC3.out)
        have hS4 : Kept wr y4 := Kept.of_below HY4.out
        rw [hy]
        clear hy
        refine hK.out _ _ hS4 (fun hSn => ?_)
        clear hK K
        try simp only [List.setIfInBounds_toArray, List.set_cons_zero, List.set_cons_succ]
        refine exL_at (i := 23) (by simp only [List.getElem?_toArray, List.getElem?_cons_succ, List.getElem?_cons_zero]; rfl) (by kernel_rfl) rfl (by kernel_rfl) (fun K hK => ?_)
        refine op_app (.tmp 16) (.tmp 38) 22 rfl w.heap.size 23 a3 (.slice none 0 0) 1 24 Try.underlying22 a3i a3z a3s a3b rfl (by decide) (.slice A7 j c7) j vs2 rfl (own_below HO7.out HY4.out (fun g hg => (HO7.out.lt g hg).2)) y4.heap.size (some ⟨y3.heap.size, 0, none⟩) 1 1 [.slice (some ⟨g3, 0, none⟩) fl fl] rfl rfl (rd_cells HO1.out) (by simp [Value.oneCell']) (by unfold maxLen; omega) (by omega) (Nat.le_trans swr HY4.out.size) ?_
        intro A8 c8 y5 own5 hg5 hat5
        have HO5 := hide own5
        have HG5 := hide hg5
        clear own5 hg5 hat5
        refine hK.out _ _ ?_
        clear hK K
        simp only [Act.put]
        try simp only [List.setIfInBounds_toArray, List.set_cons_zero, List.set_cons_succ]
        refine takeW_at (i := 24) (d := 7) (v := ?_) (by simp only [List.getElem?_toArray, List.getElem?_cons_succ, List.getElem?_cons_zero]; rfl) rfl (by kernel_rfl) (by kernel_rfl) (by kernel_rfl) (fun _ _ _ h => h) rfl ?_ ?_
        rotate_left
        focus (intro w; go_simp; (try with_reducible rfl); done)
        try simp only [List.setIfInBounds_toArray, List.set_cons_zero, List.set_cons_succ]
        refine wpAnyL_done (by kernel_rfl) ?_ _
        have HFin : Hid (FRows w y5 n s (j + 1) (.slice A8 (j + 1) c8)) := hide (from_more HBr.out HY2.out HY4.out HG3.out HC4.out HO7.out HG5.out HO5.out H39.out H49.out HOb.out HI.out HFr.out HFl.out (by rw [fr_len, HBl.out]; unfold maxLen; simp; omega))
        have HBf : Hid (Below w.heap.size w y5) := hide (app_below1 (HBr.out.trans (HY4.out.mono swr)) HO7.out HG5.out)
        clear HRb
        go_wp2
        go_roundw
        case rel => exact ⟨i + 1, j + 1, A8, c8, by omega, by go_num, rfl, hide (by have := HI.out; omega), HFin, HBf⟩
        case measure => simp [intOf]; omega
    · have hI1 : ¬ (i : Int) < (nx0 : Int) := by omega
      have hin : i = nx0 := by omega
      have hj : j ≤ 1000000 := by have := HI.out; omega
      have HBR : Hid (∃ own2, BRows w.heap.size wr own2 (fun q => (true, q)) (.slice A7 j c7) (framesL s n) ∧ ∀ g, own2 g ≠ none → w.heap.size ≤ g ∧ g < wr.heap.size) := hide (by have h9 := HF7.out; rw [show j = s.next - n by have := HI.out; rw [HS.out.2.1]; omega] at h9 ⊢; exact h9)
      have HLn : Hid ((framesL s n).length = j) := hide (by unfold framesL; rw [List.length_map, List.length_range', HS.out.2.1]; have := HI.out; omega)
      clear hin
      have HEy := HEr
      have HBy := HBr
      obtain ⟨ow, how⟩ : ∃ x, s.owes = x := ⟨_, rfl⟩
      have HOw := hide how
      clear how HF7
      by_cases hj0 : j = 0
      rotate_left
      · have k1 : ((j : Int) == 0) = false := by simp; omega
        have HLe : Hid ((framesL s n).isEmpty = false) := hide (by have := HLn.out; cases hq : framesL s n with | nil => (rw [hq] at this; simp at this; omega) | cons x l => rfl)
        have HL : Hid (framesL s n = (fromL s n ack).1) := hide (by unfold fromL; dsimp only; rw [HLe.out]; rfl)
        clear hj0
        rcases ow with _ | _
        · obtain ⟨own2, hB9, hob9⟩ := HBR.out
          have HFin := hide (from_fin (n := n) (ack := ack) HEy.out HBy.out HL.out hB9 hob9 false (by rw [HOw.out]; rfl) hP)
          rw [HS.out.2.1] at HFin
          clear hB9 hob9
          obtain ⟨A0, c0, q0, q1, q2, q3, q4, q5, hPy⟩ := HEy.out.cells
          rw [HS.out.2.1] at q2
          have z5 : wr.frozen? ⟨P, 5, none⟩ = false := by obtain ⟨_, _, _, _, _, _, h2, _⟩ := HEy.out; exact frozen_of_row _ _ 5 _ _ h2
          have z4 : wr.frozen? ⟨P, 4, none⟩ = false := by obtain ⟨_, _, _, _, _, _, h2, _⟩ := HEy.out; exact frozen_of_row _ _ 4 _ _ h2
          rw [HOw.out] at q5
          clear r0 r1 r2 r3 r4 r5
          go_wp2
          go_ret
          exact HFin.out
        obtain ⟨own2, hB9, hob9⟩ := HBR.out
        have HFin := hide (from_fin (n := n) (ack := ack) HEy.out HBy.out HL.out hB9 hob9 false (by rw [HOw.out, HLe.out]; rfl) hP)
        rw [HS.out.2.1] at HFin
        clear hB9 hob9
        obtain ⟨A0, c0, q0, q1, q2, q3, q4, q5, hPy⟩ := HEy.out.cells
        rw [HS.out.2.1] at q2
        have z5 : wr.frozen? ⟨P, 5, none⟩ = false := by obtain ⟨_, _, _, _, _, _, h2, _⟩ := HEy.out; exact frozen_of_row _ _ 5 _ _ h2
        have z4 : wr.frozen? ⟨P, 4, none⟩ = false := by obtain ⟨_, _, _, _, _, _, h2, _⟩ := HEy.out; exact frozen_of_row _ _ 4 _ _ h2
        rw [HOw.out] at q5
        clear r0 r1 r2 r3 r4 r5
        go_wp2
        go_ret
        exact HFin.out
      subst hj0
      have HLe : Hid ((framesL s n).isEmpty = true) := hide (by have := HLn.out; rw [List.length_eq_zero_iff] at this; rw [this]; rfl)
      rcases ack with _ | _
      · have HL : Hid (framesL s n = (fromL s n false).1) := hide (by unfold fromL; dsimp only; rw [HLe.out]; rfl)
        rcases ow with _ | _
        · obtain ⟨own2, hB9, hob9⟩ := HBR.out
          have HFin := hide (from_fin (n := n) (ack := false) HEy.out HBy.out HL.out hB9 hob9 false (by rw [HOw.out]; rfl) hP)
          rw [HS.out.2.1] at HFin
          clear hB9 hob9
          obtain ⟨A0, c0, q0, q1, q2, q3, q4, q5, hPy⟩ := HEy.out.cells
          rw [HS.out.2.1] at q2
          have z5 : wr.frozen? ⟨P, 5, none⟩ = false := by obtain ⟨_, _, _, _, _, _, h2, _⟩ := HEy.out; exact frozen_of_row _ _ 5 _ _ h2
          have z4 : wr.frozen? ⟨P, 4, none⟩ = false := by obtain ⟨_, _, _, _, _, _, h2, _⟩ := HEy.out; exact frozen_of_row _ _ 4 _ _ h2
          rw [HOw.out] at q5
          clear r0 r1 r2 r3 r4 r5
          go_wp2
          go_ret
          exact HFin.out
        obtain ⟨own2, hB9, hob9⟩ := HBR.out
        have HFin := hide (from_fin (n := n) (ack := false) HEy.out HBy.out HL.out hB9 hob9 true (by rw [HOw.out, HLe.out]; rfl) hP)
        rw [HS.out.2.1] at HFin
        clear hB9 hob9
        obtain ⟨A0, c0, q0, q1, q2, q3, q4, q5, hPy⟩ := HEy.out.cells
        rw [HS.out.2.1] at q2
        have z5 : wr.frozen? ⟨P, 5, none⟩ = false := by obtain ⟨_, _, _, _, _, _, h2, _⟩ := HEy.out; exact frozen_of_row _ _ 5 _ _ h2
        have z4 : wr.frozen? ⟨P, 4, none⟩ = false := by obtain ⟨_, _, _, _, _, _, h2, _⟩ := HEy.out; exact frozen_of_row _ _ 4 _ _ h2
        rw [HOw.out] at q5
        clear r0 r1 r2 r3 r4 r5
        go_wp2
        go_ret
        exact HFin.out
      have HL : Hid ([fr 2 [] [s.ep, s.heard]] = (fromL s n true).1) := hide (by unfold fromL; dsimp only; rw [HLe.out]; rfl)
      clear HLe
      obtain ⟨own2, ⟨A9, c9, vs2, hv9, hO9, h39, h49⟩, hob⟩ := HBR.out
      injection hv9 with q1 q2 q3
      rw [HLn.out] at hO9
      have HO7 := hide hO9
      have H49 := hide h49
      have HOb := hide hob
      clear q1 q2 q3 hO9 h39 h49 hob HBR HBy HEy
      rcases ow with _ | _
      · go_upto_region 6 with fail
        refine wpL_region (S := Kept wr) [12] (by kernel_rfl) (Kept.drew wr) (fun hS0 => ?_)
        refine takeL_at (i := 0) (d := 46) (v := ?_) (by simp only [List.getElem?_toArray, List.getElem?_cons_succ, List.getElem?_cons_zero]; rfl) rfl (by kernel_rfl) (by kernel_rfl) (by kernel_rfl) (by kernel_rfl) (fun _ _ _ h => h) rfl ?_ (by assumption) ?_
        rotate_left
        focus (intro w hSw; go_simp; (try with_reducible rfl); done)
        try simp only [List.setIfInBounds_toArray, List.set_cons_zero, List.set_cons_succ]
        refine takeW_at (i := 1) (d := 47) (v := ?_) (by simp only [List.getElem?_toArray, List.getElem?_cons_succ, List.getElem?_cons_zero]; rfl) rfl (by kernel_rfl) (by kernel_rfl) (by kernel_rfl) (fun _ _ _ h => h) rfl ?_ ?_
        rotate_left
        focus (intro w; go_simp; (try with_reducible rfl); done)
        try simp only [List.setIfInBounds_toArray, List.set_cons_zero, List.set_cons_succ]
        refine takeW_at (i := 2) (d := 48) (v := ?_) (by simp only [List.getElem?_toArray, List.getElem?_cons_succ, List.getElem?_cons_zero]; rfl) rfl (by kernel_rfl) (by kernel_rfl) (by kernel_rfl) (fun _ _ _ h => h) rfl ?_ ?_
        rotate_left
        focus (intro w; go_simp; (try with_reducible rfl); done)
        try simp only [List.setIfInBounds_toArray, List.set_cons_zero, List.set_cons_succ]
        refine takeW_at (i := 3) (d := 49) (v := ?_) (by simp only [List.getElem?_toArray, List.getElem?_cons_succ, List.getElem?_cons_zero]; rfl) rfl (by kernel_rfl) (by kernel_rfl) (by kernel_rfl) (fun _ _ _ h => h) rfl ?_ ?_
        rotate_left
        focus (intro w; go_simp; (try with_reducible rfl); done)
        try simp only [List.setIfInBounds_toArray, List.set_cons_zero, List.set_cons_succ]
        refine takeU_at [4, 9, 10, 11, 12, 13] (i := 4) (d := 50) (v := ?_) (by simp only [List.getElem?_toArray, List.getElem?_cons_succ, List.getElem?_cons_zero]; rfl) rfl (by kernel_rfl) (by kernel_rfl) (by kernel_rfl) (by kernel_rfl) (by kernel_rfl) (by kernel_rfl) (fun _ _ _ h => h) rfl ?_ (by assumption) ?_
        rotate_left
        focus (intro w hSw; go_simp; (try with_reducible rfl); done)
        try simp only [List.setIfInBounds_toArray, List.set_cons_zero, List.set_cons_succ]
        refine takeW_at (i := 5) (d := 51) (v := ?_) (by simp only [List.getElem?_toArray, List.getElem?_cons_succ, List.getElem?_cons_zero]; rfl) rfl (by kernel_rfl) (by kernel_rfl) (by kernel_rfl) (fun _ _ _ h => h) rfl ?_ ?_
        rotate_left
        focus (intro w; go_simp; (try with_reducible rfl); done)
        try simp only [List.setIfInBounds_toArray, List.set_cons_zero, List.set_cons_succ]
        refine takeW_at (i := 6) (d := 52) (v := ?_) (by simp only [List.getElem?_toArray, List.getElem?_cons_succ, List.getElem?_cons_zero]; rfl) rfl (by kernel_rfl) (by kernel_rfl) (by kernel_rfl) (fun _ _ _ h => h) rfl ?_ ?_
        rotate_left
        focus (intro w; go_simp; (try with_reducible rfl); done)
        try simp only [List.setIfInBounds_toArray, List.set_cons_zero, List.set_cons_succ]
        refine takeW_at (i := 7) (d := 53) (v := ?_) (by simp only [List.getElem?_toArray, List.getElem?_cons_succ, List.getElem?_cons_zero]; rfl) rfl (by kernel_rfl) (by kernel_rfl) (by kernel_rfl) (fun _ _ _ h => h) rfl ?_ ?_
        rotate_left
        focus (intro w; go_simp; (try with_reducible rfl); done)
        try simp only [List.setIfInBounds_toArray, List.set_cons_zero, List.set_cons_succ]
        refine takeU_at [8, 9, 10, 11, 12, 13] (i := 8) (d := 54) (v := ?_) (by simp only [List.getElem?_toArray, List.getElem?_cons_succ, List.getElem?_cons_zero]; rfl) rfl (by kernel_rfl) (by kernel_rfl) (by kernel_rfl) (by kernel_rfl) (by kernel_rfl) (by kernel_rfl) (fun _ _ _ h => h) rfl ?_ (by assumption) ?_
        rotate_left
        focus (intro w hSw; go_simp; (try with_reducible rfl); done)
        try simp only [List.setIfInBounds_toArray, List.set_cons_zero, List.set_cons_succ]
        refine callL_at (i := 9) (d := 55) (by simp only [List.getElem?_toArray, List.getElem?_cons_succ, List.getElem?_cons_zero]; rfl) rfl (by kernel_rfl) rfl (fun K hK => ?_)
        go_simp
        obtain ⟨y1, hy⟩ : ∃ z, (wr.alloc (.cells #[.int .i64 (ep : Int), .int .i64 (hd : Int)] 2)).drew = z := ⟨_, rfl⟩
        have HY1 : Hid (Below wr.heap.size wr y1) := hide (by rw [← hy]; exact ((Below.refl _ _).alloc (Nat.le_refl _) _).drew)
        have HO3 : Hid (y1.heap[wr.heap.size]? = some (.cells #[.int .i64 (ep : Int), .int .i64 (hd : Int)] 2)) := hide (by rw [← hy]; exact heap_alloc_last wr _)
        rw [hy]
        clear hy
        have hS1 : Kept wr y1 := Kept.of_below HY1.out
        refine hK.out _ _ hS1 (fun hSn => ?_)
        clear hK K
        try simp only [List.setIfInBounds_toArray, List.set_cons_zero, List.set_cons_succ]
        refine callL_at (i := 10) (d := 56) (by simp only [List.getElem?_toArray, List.getElem?_cons_succ, List.getElem?_cons_zero]; rfl) rfl (by kernel_rfl) rfl (fun K hK => ?_)
        go_simp
        have hfr := frame_any y1 2 (by decide) none [] 0 Rd.nil_ (by decide) (some ⟨wr.heap.size, 0, none⟩) [ep, hd] 2 2 rfl (by decide) (rd_cells HO3.out) (by intro x hx; simp at hx; omega)
        refine hfr.mono ?_
        clear hfr
        rintro e y2 ⟨g3, rfl, hg3, hc3, hz⟩
        obtain ⟨fl, hfl⟩ : ∃ x, (fr 2 [] [ep, hd]).length = x := ⟨_, rfl⟩
        rw [hfl]
        have HFl := hide hfl
        have HC3 := hide hc3
        have HG3 := hide hg3
        have HY2 : Hid (Below wr.heap.size wr y2) := hide (HY1.out.trans (hz.mono HY1.out.size))
        have hS2 : Kept wr y2 := Kept.of_below HY2.out
        clear hz hfl hc3 hg3
        go_wp2_with fail
        refine hK.out _ _ hS2 (fun hSn => ?_)
        clear hK K
        try simp only [List.setIfInBounds_toArray, List.set_cons_zero, List.set_cons_succ]
        refine callL_at (i := 11) (d := 57) (by simp only [List.getElem?_toArray, List.getElem?_cons_succ, List.getElem?_cons_zero]; rfl) rfl (by kernel_rfl) rfl (fun K hK => ?_)
        go_simp
        obtain ⟨y3, hy⟩ : ∃ z, y2.alloc (.cells #[.slice (some ⟨g3, 0, none⟩) fl fl] 23) = z := ⟨_, rfl⟩
        have HY3 : Hid (Below wr.heap.size wr y3) := hide (by rw [← hy]; exact HY2.out.alloc HY2.out.size _)
        have HO1 : Hid (y3.heap[y2.heap.size]? = some (.cells #[.slice (some ⟨g3, 0, none⟩) fl fl] 23)) := hide (by rw [← hy]; exact heap_alloc_last y2 _)
        have HC4 : Hid (y3.heap[g3]? = some (.cells (u8s (fr 2 [] [ep, hd])).toArray 5)) := hide (by rw [← hy]; exact (heap_alloc_old _ _ (lt_of_block HC3.out)).trans HC3.out)
        have hS3 : Kept wr y3 := Kept.of_below HY3.out
        rw [hy]
        clear hy
        refine hK.out _ _ hS3 (fun hSn => ?_)
        clear hK K
        try simp only [List.setIfInBounds_toArray, List.set_cons_zero, List.set_cons_succ]
        refine exL_at (i := 12) (by simp only [List.getElem?_toArray, List.getElem?_cons_succ, List.getElem?_cons_zero]; rfl) (by kernel_rfl) rfl (by kernel_rfl) (fun K hK => ?_)
        refine op_app (.tmp 46) (.tmp 57) 22 rfl w.heap.size 23 a3 (.slice none 0 0) 1 24 Try.underlying22 a3i a3z a3s a3b rfl (by decide) (.slice A7 0 c7) 0 vs2 rfl (own_below HO7.out HY3.out (fun g hg => (HO7.out.lt g hg).2)) y3.heap.size (some ⟨y2.heap.size, 0, none⟩) 1 1 [.slice (some ⟨g3, 0, none⟩) fl fl] rfl rfl (rd_cells HO1.out) (by simp [Value.oneCell']) (by unfold maxLen; omega) (by omega) (Nat.le_trans swr HY3.out.size) ?_
        intro A8 c8 y5 own5 hg5 hat5
        have HO5 := hide own5
        have HG5 := hide hg5
        clear own5 hg5 hat5
        refine hK.out _ _ ?_
        clear hK K
        simp only [Act.put]
        try simp only [List.setIfInBounds_toArray, List.set_cons_zero, List.set_cons_succ]
        refine takeW_at (i := 13) (d := 7) (v := ?_) (by simp only [List.getElem?_toArray, List.getElem?_cons_succ, List.getElem?_cons_zero]; rfl) rfl (by kernel_rfl) (by kernel_rfl) (by kernel_rfl) (fun _ _ _ h => h) rfl ?_ ?_
        rotate_left
        focus (intro w; go_simp; (try with_reducible rfl); done)
        try simp only [List.setIfInBounds_toArray, List.set_cons_zero, List.set_cons_succ]
        refine wpAnyL_done (by kernel_rfl) ?_ _
        have HBy := hide (app_below1 (HBr.out.trans (HY3.out.mono swr)) HO7.out HG5.out)
        have HEy := hide (HE.out.next HBy.out)
        have HBR : Hid (∃ own3, BRows w.heap.size y5 own3 (fun q => (true, q)) (.slice A8 (0 + 1) c8) [fr 2 [] [s.ep, s.heard]] ∧ ∀ g, own3 g ≠ none → w.heap.size ≤ g ∧ g < y5.heap.size) := hide (by obtain ⟨_, _, k3, k4, _, _⟩ := HS.out; rw [k3, k4]; exact rows_fr (fs := []) HBr.out HY1.out HY3.out HG3.out HC4.out HO7.out HG5.out HO5.out (fun i u b h h' => by simp at h') H49.out HOb.out rfl HFl.out (by rw [fr_len]; unfold maxLen; simp))
        clear hS0
        have HLe : Hid (([fr 2 [] [s.ep, s.heard]] : List BL).isEmpty = false) := hide rfl
        skip
        obtain ⟨own2, hB9, hob9⟩ := HBR.out
        have HFin := hide (from_fin (n := n) (ack := true) HEy.out HBy.out HL.out hB9 hob9 false (by rw [HOw.out]; rfl) hP)
        rw [HS.out.2.1] at HFin
        clear hB9 hob9
        obtain ⟨A0, c0, q0, q1, q2, q3, q4, q5, hPy⟩ := HEy.out.cells
        rw [HS.out.2.1] at q2
        have z5 : y5.frozen? ⟨P, 5, none⟩ = false := by obtain ⟨_, _, _, _, _, _, h2, _⟩ := HEy.out; exact frozen_of_row _ _ 5 _ _ h2
        have z4 : y5.frozen? ⟨P, 4, none⟩ = false := by obtain ⟨_, _, _, _, _, _, h2, _⟩ := HEy.out; exact frozen_of_row _ _ 4 _ _ h2
        rw [HOw.out] at q5
        clear r0 r1 r2 r3 r4 r5
        go_wp2
        go_ret
        exact HFin.out
      go_upto_region 6 with fail
      refine wpL_region (S := Kept wr) [12] (by kernel_rfl) (Kept.drew wr) (fun hS0 => ?_)
      refine takeL_at (i := 0) (d := 46) (v := ?_) (by simp only [List.getElem?_toArray, List.getElem?_cons_succ, List.getElem?_cons_zero]; rfl) rfl (by kernel_rfl) (by kernel_rfl) (by kernel_rfl) (by kernel_rfl) (fun _ _ _ h => h) rfl ?_ (by assumption) ?_
      rotate_left
      focus (intro w hSw; go_simp; (try with_reducible rfl); done)
      try simp only [List.setIfInBounds_toArray, List.set_cons_zero, List.set_cons_succ]
      refine takeW_at (i := 1) (d := 47) (v := ?_) (by simp only [List.getElem?_toArray, List.getElem?_cons_succ, List.getElem?_cons_zero]; rfl) rfl (by kernel_rfl) (by kernel_rfl) (by kernel_rfl) (fun _ _ _ h => h) rfl ?_ ?_
      rotate_left
      focus (intro w; go_simp; (try with_reducible rfl); done)
      try simp only [List.setIfInBounds_toArray, List.set_cons_zero, List.set_cons_succ]
      refine takeW_at (i := 2) (d := 48) (v := ?_) (by simp only [List.getElem?_toArray, List.getElem?_cons_succ, List.getElem?_cons_zero]; rfl) rfl (by kernel_rfl) (by kernel_rfl) (by kernel_rfl) (fun _ _ _ h => h) rfl ?_ ?_
      rotate_left
      focus (intro w; go_simp; (try with_reducible rfl); done)
      try simp only [List.setIfInBounds_toArray, List.set_cons_zero, List.set_cons_succ]
      refine takeW_at (i := 3) (d := 49) (v := ?_) (by simp only [List.getElem?_toArray, List.getElem?_cons_succ, List.getElem?_cons_zero]; rfl) rfl (by kernel_rfl) (by kernel_rfl) (by kernel_rfl) (fun _ _ _ h => h) rfl ?_ ?_
      rotate_left
      focus (intro w; go_simp; (try with_reducible rfl); done)
      try simp only [List.setIfInBounds_toArray, List.set_cons_zero, List.set_cons_succ]
      refine takeU_at [4, 9, 10, 11, 12, 13] (i := 4) (d := 50) (v := ?_) (by simp only [List.getElem?_toArray, List.getElem?_cons_succ, List.getElem?_cons_zero]; rfl) rfl (by kernel_rfl) (by kernel_rfl) (by kernel_rfl) (by kernel_rfl) (by kernel_rfl) (by kernel_rfl) (fun _ _ _ h => h) rfl ?_ (by assumption) ?_
      rotate_left
      focus (intro w hSw; go_simp; (try with_reducible rfl); done)
      try simp only [List.setIfInBounds_toArray, List.set_cons_zero, List.set_cons_succ]
      refine takeW_at (i := 5) (d := 51) (v := ?_) (by simp only [List.getElem?_toArray, List.getElem?_cons_succ, List.getElem?_cons_zero]; rfl) rfl (by kernel_rfl) (by kernel_rfl) (by kernel_rfl) (fun _ _ _ h => h) rfl ?_ ?_
      rotate_left
      focus (intro w; go_simp; (try with_reducible rfl); done)
      try simp only [List.setIfInBounds_toArray, List.set_cons_zero, List.set_cons_succ]
      refine takeW_at (i := 6) (d := 52) (v := ?_) (by simp only [List.getElem?_toArray, List.getElem?_cons_succ, List.getElem?_cons_zero]; rfl) rfl (by kernel_rfl) (by kernel_rfl) (by kernel_rfl) (fun _ _ _ h => h) rfl ?_ ?_
      rotate_left
      focus (intro w; go_simp; (try with_reducible rfl); done)
      try simp only [List.setIfInBounds_toArray, List.set_cons_zero, List.set_cons_succ]
      refine takeW_at (i := 7) (d := 53) (v := ?_) (by simp only [List.getElem?_toArray, List.getElem?_cons_succ, List.getElem?_cons_zero]; rfl) rfl (by kernel_rfl) (by kernel_rfl) (by kernel_rfl) (fun _ _ _ h => h) rfl ?_ ?_
      rotate_left
      focus (intro w; go_simp; (try with_reducible rfl); done)
      try simp only [List.setIfInBounds_toArray, List.set_cons_zero, List.set_cons_succ]
      refine takeU_at [8, 9, 10, 11, 12, 13] (i := 8) (d := 54) (v := ?_) (by simp only [List.getElem?_toArray, List.getElem?_cons_succ, List.getElem?_cons_zero]; rfl) rfl (by kernel_rfl) (by kernel_rfl) (by kernel_rfl) (by kernel_rfl) (by kernel_rfl) (by kernel_rfl) (fun _ _ _ h => h) rfl ?_ (by assumption) ?_
      rotate_left
      focus (intro w hSw; go_simp; (try with_reducible rfl); done)
      try simp only [List.setIfInBounds_toArray, List.set_cons_zero, List.set_cons_succ]
      refine callL_at (i := 9) (d := 55) (by simp only [List.getElem?_toArray, List.getElem?_cons_succ, List.getElem?_cons_zero]; rfl) rfl (by kernel_rfl) rfl (fun K hK => ?_)
      go_simp
      obtain ⟨y1, hy⟩ : ∃ z, (wr.alloc (.cells #[.int .i64 (ep : Int), .int .i64 (hd : Int)] 2)).drew = z := ⟨_, rfl⟩
      have HY1 : Hid (Below wr.heap.size wr y1) := hide (by rw [← hy]; exact ((Below.refl _ _).alloc (Nat.le_refl _) _).drew)
      have HO3 : Hid (y1.heap[wr.heap.size]? = some (.cells #[.int .i64 (ep : Int), .int .i64 (hd : Int)] 2)) := hide (by rw [← hy]; exact heap_alloc_last wr _)
      rw [hy]
      clear hy
      have hS1 : Kept wr y1 := Kept.of_below HY1.out
      refine hK.out _ _ hS1 (fun hSn => ?_)
      clear hK K
      try simp only [List.setIfInBounds_toArray, List.set_cons_zero, List.set_cons_succ]
      refine callL_at (i := 10) (d := 56) (by simp only [List.getElem?_toArray, List.getElem?_cons_succ, List.getElem?_cons_zero]; rfl) rfl (by kernel_rfl) rfl (fun K hK => ?_)
      go_simp
      have hfr := frame_any y1 2 (by decide) none [] 0 Rd.nil_ (by decide) (some ⟨wr.heap.size, 0, none⟩) [ep, hd] 2 2 rfl (by decide) (rd_cells HO3.out) (by intro x hx; simp at hx; omega)
      refine hfr.mono ?_
      clear hfr
      rintro e y2 ⟨g3, rfl, hg3, hc3, hz⟩
      obtain ⟨fl, hfl⟩ : ∃ x, (fr 2 [] [ep, hd]).length = x := ⟨_, rfl⟩
      rw [hfl]
      have HFl := hide hfl
      have HC3 := hide hc3
      have HG3 := hide hg3
      have HY2 : Hid (Below wr.heap.size wr y2) := hide (HY1.out.trans (hz.mono HY1.out.size))
      have hS2 : Kept wr y2 := Kept.of_below HY2.out
      clear hz hfl hc3 hg3
      go_wp2_with fail
      refine hK.out _ _ hS2 (fun hSn => ?_)
      clear hK K
      try simp only [List.setIfInBounds_toArray, List.set_cons_zero, List.set_cons_succ]
      refine callL_at (i := 11) (d := 57) (by simp only [List.getElem?_toArray, List.getElem?_cons_succ, List.getElem?_cons_zero]; rfl) rfl (by kernel_rfl) rfl (fun K hK => ?_)
      go_simp
      obtain ⟨y3, hy⟩ : ∃ z, y2.alloc (.cells #[.slice (some ⟨g3, 0, none⟩) fl fl] 23) = z := ⟨_, rfl⟩
      have HY3 : Hid (Below wr.heap.size wr y3) := hide (by rw [← hy]; exact HY2.out.alloc HY2.out.size _)
      have HO1 : Hid (y3.heap[y2.heap.size]? = some (.cells #[.slice (some ⟨g3, 0, none⟩) fl fl] 23)) := hide (by rw [← hy]; exact heap_alloc_last y2 _)
      have HC4 : Hid (y3.heap[g3]? = some (.cells (u8s (fr 2 [] [ep, hd])).toArray 5)) := hide (by rw [← hy]; exact (heap_alloc_old _ _ (lt_of_block HC3.out)).trans HC3.out)
      have hS3 : Kept wr y3 := Kept.of_below HY3.out
      rw [hy]
      clear hy
      refine hK.out _ _ hS3 (fun hSn => ?_)
      clear hK K
      try simp only [List.setIfInBounds_toArray, List.set_cons_zero, List.set_cons_succ]
      refine exL_at (i := 12) (by simp only [List.getElem?_toArray, List.getElem?_cons_succ, List.getElem?_cons_zero]; rfl) (by kernel_rfl) rfl (by kernel_rfl) (fun K hK => ?_)
      refine op_app (.tmp 46) (.tmp 57) 22 rfl w.heap.size 23 a3 (.slice none 0 0) 1 24 Try.underlying22 a3i a3z a3s a3b rfl (by decide) (.slice A7 0 c7) 0 vs2 rfl (own_below HO7.out HY3.out (fun g hg => (HO7.out.lt g hg).2)) y3.heap.size (some ⟨y2.heap.size, 0, none⟩) 1 1 [.slice (some ⟨g3, 0, none⟩) fl fl] rfl rfl (rd_cells HO1.out) (by simp [Value.oneCell']) (by unfold maxLen; omega) (by omega) (Nat.le_trans swr HY3.out.size) ?_
      intro A8 c8 y5 own5 hg5 hat5
      have HO5 := hide own5
      have HG5 := hide hg5
      clear own5 hg5 hat5
      refine hK.out _ _ ?_
      clear hK K
      simp only [Act.put]
      try simp only [List.setIfInBounds_toArray, List.set_cons_zero, List.set_cons_succ]
      refine takeW_at (i := 13) (d := 7) (v := ?_) (by simp only [List.getElem?_toArray, List.getElem?_cons_succ, List.getElem?_cons_zero]; rfl) rfl (by kernel_rfl) (by kernel_rfl) (by kernel_rfl) (fun _ _ _ h => h) rfl ?_ ?_
      rotate_left
      focus (intro w; go_simp; (try with_reducible rfl); done)
      try simp only [List.setIfInBounds_toArray, List.set_cons_zero, List.set_cons_succ]
      refine wpAnyL_done (by kernel_rfl) ?_ _
      have HBy := hide (app_below1 (HBr.out.trans (HY3.out.mono swr)) HO7.out HG5.out)
      have HEy := hide (HE.out.next HBy.out)
      have HBR : Hid (∃ own3, BRows w.heap.size y5 own3 (fun q => (true, q)) (.slice A8 (0 + 1) c8) [fr 2 [] [s.ep, s.heard]] ∧ ∀ g, own3 g ≠ none → w.heap.size ≤ g ∧ g < y5.heap.size) := hide (by obtain ⟨_, _, k3, k4, _, _⟩ := HS.out; rw [k3, k4]; exact rows_fr (fs := []) HBr.out HY1.out HY3.out HG3.out HC4.out HO7.out HG5.out HO5.out (fun i u b h h' => by simp at h') H49.out HOb.out rfl HFl.out (by rw [fr_len]; unfold maxLen; simp))
      clear hS0
      have HLe : Hid (([fr 2 [] [s.ep, s.heard]] : List BL).isEmpty = false) := hide rfl
      skip
      obtain ⟨own2, hB9, hob9⟩ := HBR.out
      have HFin := hide (from_fin (n := n) (ack := true) HEy.out HBy.out HL.out hB9 hob9 false (by rw [HOw.out, HLe.out]; rfl) hP)
      rw [HS.out.2.1] at HFin
      clear hB9 hob9
      obtain ⟨A0, c0, q0, q1, q2, q3, q4, q5, hPy⟩ := HEy.out.cells
      rw [HS.out.2.1] at q2
      have z5 : y5.frozen? ⟨P, 5, none⟩ = false := by obtain ⟨_, _, _, _, _, _, h2, _⟩ := HEy.out; exact frozen_of_row _ _ 5 _ _ h2
      have z4 : y5.frozen? ⟨P, 4, none⟩ = false := by obtain ⟨_, _, _, _, _, _, h2, _⟩ := HEy.out; exact frozen_of_row _ _ 4 _ _ h2
      rw [HOw.out] at q5
      clear r0 r1 r2 r3 r4 r5
      go_wp2
      go_ret
      exact HFin.out
theorem FromPost.drew {w : World} {P M n k : Nat} {G : Option Nat} {own : Nat → Option (Bool × Nat)} {s : LE} {ack : Bool} {e : Ending} {w' : World} (h : FromPost w.drew P M G own k s n ack e w') : FromPost w P M G own k s n ack e w' := by
  obtain ⟨v, own2, h1, h2, h6, h7, h8⟩ := h
  exact ⟨v, own2, h1, h2, h6, h7, ⟨h8.1, h8.2, h8.3⟩⟩
theorem FromPost.below {w y : World} {P M n k : Nat} {G : Option Nat} {own : Nat → Option (Bool × Nat)} {s : LE} {ack : Bool} {e : Ending} {w' : World} (hb : Below w.heap.size w y) (h : FromPost y P M G own k s n ack e w') : FromPost w P M G own k s n ack e w' := by
  obtain ⟨v, own2, h1, ⟨A, c, vs, h2, h3, h4, h5⟩, h6, h7, h8⟩ := h
  exact ⟨v, own2, h1, ⟨A, c, vs, h2, own_base h3 hb.size, h4, h5⟩, fun g hg => ⟨Nat.le_trans hb.size (h6 g hg).1, (h6 g hg).2⟩, h7, ⟨Nat.le_trans hb.size h8.1, fun g hg hx => (h8.2 g (Nat.lt_of_lt_of_le hg hb.size) hx).trans (hb.block g hg), (Env.of_below hb).trans h8.3⟩⟩
set_option maxRecDepth 100000 in
set_option maxHeartbeats 16000000 in
theorem lout_any (w : World) {P M : Nat} {G : Option Nat} {own : Nat → Option (Bool × Nat)} {k : Nat} {s : LE} (h : EndM w P M G own k s) : Calls Try.prog 11 #[.pointer (some ⟨P, 0, none⟩)] w (FromPost w P M G own k s s.fresh s.owes) := by
  have HE := hide h
  have hok := h.1
  obtain ⟨A, c, e0, e1, e2, e3, e4, e5, hP⟩ := h.cells
  have hfr := from_any w.drew (h.next (Below.refl _ _).drew) s.fresh hok.fresh1 hok.fresh2 s.owes
  have HFr := hide hfr
  clear h hok hfr
  go_enter Try.func11, Try.ntmps11
  go_upto_region 3 with fail
  refine wpL_region (S := Kept w) [9] (by kernel_rfl) (Kept.drew w) (fun hS0 => ?_)
  refine takeL_at (i := 0) (d := 5) (v := ?_) (by simp only [List.getElem?_toArray, List.getElem?_cons_succ, List.getElem?_cons_zero]; rfl) rfl (by kernel_rfl) (by kernel_rfl) (by kernel_rfl) (by kernel_rfl) (fun _ _ _ h => h) rfl ?_ (by assumption) ?_
  rotate_left
  focus (intro w hSw; go_simp; (try with_reducible rfl); done)
  try simp only [List.setIfInBounds_toArray, List.set_cons_zero, List.set_cons_succ]
  refine takeW_at (i := 1) (d := 6) (v := ?_) (by simp only [List.getElem?_toArray, List.getElem?_cons_succ, List.getElem?_cons_zero]; rfl) rfl (by kernel_rfl) (by kernel_rfl) (by kernel_rfl) (fun _ _ _ h => h) rfl ?_ ?_
  rotate_left
  focus (intro w; go_simp; (try with_reducible rfl); done)
  try simp only [List.setIfInBounds_toArray, List.set_cons_zero, List.set_cons_succ]
  refine takeW_at (i := 2) (d := 7) (v := ?_) (by simp only [List.getElem?_toArray, List.getElem?_cons_succ, List.getElem?_cons_zero]; rfl) rfl (by kernel_rfl) (by kernel_rfl) (by kernel_rfl) (fun _ _ _ h => h) rfl ?_ ?_
  rotate_left
  focus (intro w; go_simp; (try with_reducible rfl); done)
  try simp only [List.setIfInBounds_toArray, List.set_cons_zero, List.set_cons_succ]
  refine takeW_at (i := 3) (d := 8) (v := ?_) (by simp only [List.getElem?_toArray, List.getElem?_cons_succ, List.getElem?_cons_zero]; rfl) rfl (by kernel_rfl) (by kernel_rfl) (by kernel_rfl) (fun _ _ _ h => h) rfl ?_ ?_
  rotate_left
  focus (intro w; go_simp; (try with_reducible rfl); done)
  try simp only [List.setIfInBounds_toArray, List.set_cons_zero, List.set_cons_succ]
  refine takeL_at (i := 4) (d := 9) (v := ?_) (by simp only [List.getElem?_toArray, List.getElem?_cons_succ, List.getElem?_cons_zero]; rfl) rfl (by kernel_rfl) (by kernel_rfl) (by kernel_rfl) (by kernel_rfl) (fun _ _ _ h => h) rfl ?_ (by assumption) ?_
  rotate_left
  focus (intro w hSw; go_simp; (try with_reducible rfl); done)
  try simp only [List.setIfInBounds_toArray, List.set_cons_zero, List.set_cons_succ]
  refine takeW_at (i := 5) (d := 10) (v := ?_) (by simp only [List.getElem?_toArray, List.getElem?_cons_succ, List.getElem?_cons_zero]; rfl) rfl (by kernel_rfl) (by kernel_rfl) (by kernel_rfl) (fun _ _ _ h => h) rfl ?_ ?_
  rotate_left
  focus (intro w; go_simp; (try with_reducible rfl); done)
  try simp only [List.setIfInBounds_toArray, List.set_cons_zero, List.set_cons_succ]
  refine takeW_at (i := 6) (d := 11) (v := ?_) (by simp only [List.getElem?_toArray, List.getElem?_cons_succ, List.getElem?_cons_zero]; rfl) rfl (by kernel_rfl) (by kernel_rfl) (by kernel_rfl) (fun _ _ _ h => h) rfl ?_ ?_
  rotate_left
  focus (intro w; go_simp; (try with_reducible rfl); done)
  try simp only [List.setIfInBounds_toArray, List.set_cons_zero, List.set_cons_succ]
  refine takeW_at (i := 7) (d := 12) (v := ?_) (by simp only [List.getElem?_toArray, List.getElem?_cons_succ, List.getElem?_cons_zero]; rfl) rfl (by kernel_rfl) (by kernel_rfl) (by kernel_rfl) (fun _ _ _ h => h) rfl ?_ ?_
  rotate_left
  focus (intro w; go_simp; (try with_reducible rfl); done)
  try simp only [List.setIfInBounds_toArray, List.set_cons_zero, List.set_cons_succ]
  refine takeL_at (i := 8) (d := 13) (v := ?_) (by simp only [List.getElem?_toArray, List.getElem?_cons_succ, List.getElem?_cons_zero]; rfl) rfl (by kernel_rfl) (by kernel_rfl) (by kernel_rfl) (by kernel_rfl) (fun _ _ _ h => h) rfl ?_ (by assumption) ?_
  rotate_left
  focus (intro w hSw; go_simp; (try with_reducible rfl); done)
  try simp only [List.setIfInBounds_toArray, List.set_cons_zero, List.set_cons_succ]
  refine exL_at (i := 9) (by simp only [List.getElem?_toArray, List.getElem?_cons_succ, List.getElem?_cons_zero]; rfl) (by kernel_rfl) rfl (by kernel_rfl) (fun K hK => ?_)
  go_wp2_with fail
  refine HFr.out.mono ?_
  rintro _ z1 ⟨v, own2, rfl, hrest⟩
  have HFin : Hid (FromPost w P M G own k s s.fresh s.owes (.returned v) z1) := hide (FromPost.drew ⟨v, own2, rfl, hrest⟩)
  clear hrest
  go_wp2_with fail
  refine hK.out _ _ ?_
  clear hK K
  try simp only [List.setIfInBounds_toArray, List.set_cons_zero, List.set_cons_succ]
  refine takeW_at (i := 10) (d := 2) (v := ?_) (by simp only [List.getElem?_toArray, List.getElem?_cons_succ, List.getElem?_cons_zero]; rfl) rfl (by kernel_rfl) (by kernel_rfl) (by kernel_rfl) (fun _ _ _ h => h) rfl ?_ ?_
  rotate_left
  focus (intro w; go_simp; (try with_reducible rfl); done)
  try simp only [List.setIfInBounds_toArray, List.set_cons_zero, List.set_cons_succ]
  refine wpAnyL_done (by kernel_rfl) ?_ _
  go_wp2
  go_ret
  exact HFin.out
set_option maxRecDepth 100000 in
set_option maxHeartbeats 16000000 in
theorem lagain_any (w : World) {P M : Nat} {G : Option Nat} {own : Nat → Option (Bool × Nat)} {k : Nat} {s : LE} (h : EndM w P M G own k s) : Calls Try.prog 16 #[.pointer (some ⟨P, 0, none⟩)] w (FromPost w P M G own k s s.first true) := by
  have HE := hide h
  have hok := h.1
  obtain ⟨A, c, e0, e1, e2, e3, e4, e5, hP⟩ := h.cells
  have hff : s.first ≤ s.next := by unfold LE.first; omega
  clear hok h
  go_enter Try.func16, Try.ntmps16
  go_wp2_with fail
  refine (lfirst_any w HE.out).mono ?_
  rintro _ y ⟨rfl, hb⟩
  have HB := hide hb
  have HFr := hide (from_any y (HE.out.next hb) s.first (Nat.le_refl _) hff true)
  clear hb
  go_wp2_with fail
  refine HFr.out.mono ?_
  rintro _ z1 ⟨v, own2, rfl, hrest⟩
  have HFin : Hid (FromPost w P M G own k s s.first true (.returned v) z1) := hide (FromPost.below HB.out ⟨v, own2, rfl, hrest⟩)
  clear hrest
  go_wp2
  go_ret
  exact HFin.out
end Go.Proofs.Ytigmmikijjcdiaa
