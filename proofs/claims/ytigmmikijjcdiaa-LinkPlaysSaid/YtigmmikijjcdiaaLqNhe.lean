/- A frame is heard by both ends: law18.heard. (printed by gen/nhe.py) -/
import Derived.Test.YtigmmikijjcdiaaProg
import Derived.Test.YtigmmikijjcdiaaLqRhe
import Derived.Test.YtigmmikijjcdiaaLqNrw
import Derived.Test.YtigmmikijjcdiaaLqLkd
import Derived.Test.YtigmmikijjcdiaaLqLke
import Derived.Test.YtigmmikijjcdiaaLqRso
import Derived.Deep.DeepCutAuto
import Derived.Lib.Hide
import Derived.WalkSpells
import Derived.WalkMore
import Derived.IntWalk





namespace Go.Proofs.Ytigmmikijjcdiaa
open Go.RowKit
set_option linter.unusedVariables false
theorem KB.more {X Y : List Nat} {v w : World} (h : KB X v w) (hx : ∀ g ∈ X, g ∈ Y) : KB Y v w := ⟨h.1, fun b hb hn => h.2 b hb (fun hm => hn (hx b hm)), h.3⟩
theorem KB.toBelow {X : List Nat} {L : Nat} {w w' : World} (h : KB X w w') (hX : ∀ x ∈ X, L ≤ x) (hL : L ≤ w.heap.size) : Below L w w' := ⟨h.3.1, h.3.2.1, h.3.2.2, h.1, fun g hg => h.2 g (by omega) (fun hm => by have := hX g hm; omega)⟩
theorem Spoilt.toBelow {X : Nat → Prop} {L : Nat} {w w' : World} (h : Spoilt X w w') (hX : ∀ x, X x → L ≤ x) (hL : L ≤ w.heap.size) : Below L w w' := ⟨h.env.1, h.env.2.1, h.env.2.2, h.size, fun g hg => h.blk g (by omega) (fun hm => by have := hX g hm; omega)⟩
section
variable {w y : World} {P M L Q k : Nat} {G G' : Option Nat} {own : Nat → Option (Bool × Nat)} {s t : LE} {X : List Nat}
/-- of which types the blocks of an end of the document's are -/
theorem REnd.notR (h : REnd w L Q G' s) (hX : ∀ x ∈ X, x = Q ∨ G' = some x) : ∀ x ∈ X, ∃ cur T, w.heap[x]? = some (.cells cur T (0, 0)) ∧ (T = 78 ∨ T = 9) := fun x hx => by
  obtain ⟨h1, h2, h3, sv, av, xs, h4, h5, h6, h7⟩ := h
  rcases hX x hx with rfl | e
  · exact ⟨_, _, h4, .inl rfl⟩
  · obtain ⟨cur, hc⟩ := h5.blk x e
    exact ⟨_, _, hc, .inr rfl⟩
/-- a call on the program's end leaves the document's -/
theorem EndM.keepR (h : EndM w P M G own k s) (hk : KB X w y) (hX : ∀ x ∈ X, x = P ∨ x = M ∨ G = some x) (hr : REnd w L Q G' t) : REnd y L Q G' t := hr.keep fun g cur T hc hT => hk.2 g (lt_of_block hc) fun hm => by
  have e := h.not8 hX g hm cur T hc
  rcases hT with rfl | rfl | rfl <;> revert e <;> decide
/-- a call on the document's end leaves a block of another type -/
theorem REnd.keepB (hr : REnd w L Q G' t) (hk : KB X w y) (hX : ∀ x ∈ X, x = Q ∨ G' = some x) {g : Nat} {cur : Array Value} {T : TypeId} (hc : w.heap[g]? = some (.cells cur T (0, 0))) (h1 : T ≠ 78) (h2 : T ≠ 9) : y.heap[g]? = w.heap[g]? := hk.2 g (lt_of_block hc) fun hm => by
  obtain ⟨cur', T', hc', e⟩ := hr.notR hX g hm
  rcases e with rfl | rfl
  · exact row_ne hc hc' h1 rfl
  · exact row_ne hc hc' h2 rfl
/-- and the program's end -/
theorem REnd.keepE (hr : REnd w L Q G' t) (hk : KB X w y) (hX : ∀ x ∈ X, x = Q ∨ G' = some x) (h : EndM w P M G own k s) : EndM y P M G own k s := by
  obtain ⟨_, _, _, _, _, _, p1, r1, _, ⟨⟨es1, cl1, m1, _⟩, _⟩, _⟩ := id h
  refine h.keepT hk.1 fun g hl hc => ?_
  rcases hc with rfl | rfl | hc | ⟨cur, hc⟩
  · exact hr.keepB hk hX p1 (by decide) (by decide)
  · exact hk.2 g hl fun hm => by
      obtain ⟨cur', T', hc', e⟩ := hr.notR hX g hm
      rw [hc'] at m1
      cases m1
  · obtain ⟨cur, h⟩ := r1.blk g hc
    exact hr.keepB hk hX h (by decide) (by decide)
  · exact hr.keepB hk hX hc (by decide) (by decide)
end
theorem BRows.keepT {B : Nat} {w w' : World} {own : Nat → Option (Bool × Nat)} {tg : Nat → Bool × Nat} {v : Value} {fs : List BL} (h : BRows B w own tg v fs) (hk : ∀ (g : Nat) (cur : Array Value) (T : TypeId), w.heap[g]? = some (.cells cur T (0, 0)) → (T = 23 ∨ T = 5) → w'.heap[g]? = w.heap[g]?) : BRows B w' own tg v fs := by
  obtain ⟨A, c, vs, h1, h2, h3, h4⟩ := h
  exact ⟨A, c, vs, h1, own_same h2 fun g hg => by obtain ⟨cur, hc⟩ := own_type h2 g hg; exact hk g cur _ hc (.inl rfl), fun i u b hu hb => (h3 i u b hu hb).keep fun g cur hg hc => ⟨hk g cur _ hc (.inr rfl), hg⟩, h4⟩
theorem BRows.next {B : Nat} {w w' : World} {own : Nat → Option (Bool × Nat)} {tg : Nat → Bool × Nat} {v : Value} {fs : List BL} (h : BRows B w own tg v fs) (hb : Below w.heap.size w w') : BRows B w' own tg v fs := h.keepT fun g cur T hc _ => hb.block g (lt_of_block hc)
theorem StrO.next {B : Nat} {w w' : World} {v : Value} {l : List BL} (h : StrO B w v l) (hb : Below w.heap.size w w') : StrO B w' v l := by
  obtain ⟨A, c, h1, h2⟩ := h
  exact ⟨A, c, h1, own_below h2 hb (fun g hg => (h2.lt g hg).2)⟩
/-- rows are spoilt that are none of an end's -/
theorem EndM.spoil {w w' : World} {P M n : Nat} {G : Option Nat} {own own2 : Nat → Option (Bool × Nat)} {tg : Nat → Bool × Nat} {k : Nat} {s : LE} (h : EndM w P M G own k s) (hs : Spoilt (RowX w own2 tg n) w w')
    (hno : ∀ g, RowX w own2 tg n g → ∀ t, own g = some t → (∀ i, i < s.sent.length → t ≠ (true, s.first + i)) ∧ ∀ m, s.ahead m ≠ none → t ≠ (false, m)) : EndM w' P M G own k s := by
  obtain ⟨h0, h1, sv, vs, f, D, h2, h3, ⟨h4, h5⟩, ⟨h6, h7⟩, h8, h9⟩ := h
  have hB : ∀ tg' v b, (∀ g, RowX w own2 tg n g → own g ≠ some tg') → ByV w own tg' v b → ByV w' own tg' v b := fun tg' v b hn hb => hb.keep fun g cur hg hc => ⟨hs.blk g (lt_of_block hc) (fun hx => hn g hx hg), hg⟩
  refine ⟨h0, fun g hg => Nat.lt_of_lt_of_le (h1 g hg) hs.size, sv, vs, f, D, (hs.other h2 (by decide)).trans h2, h3.keep fun g hg hl => ?_, ⟨h4, fun i v b hv hb => hB _ _ _ (fun g hx e => ?_) (h5 i v b hv hb)⟩, ⟨map_keep h6 ?_, h7⟩, h8, fun m v b hv hb => hB _ _ _ (fun g hx e => ?_) (h9 m v b hv hb)⟩
  · obtain ⟨cur, hc⟩ := h3.blk g hg
    exact hs.other hc (by decide)
  · exact (hno g hx _ e).1 i (List.getElem?_eq_some_iff.1 hb).1 rfl
  · obtain ⟨es, cl, hm, _⟩ := h6
    exact hs.blk M (lt_of_block hm) fun ⟨⟨c, hc⟩, _⟩ => by rw [hm] at hc; cases hc
  · exact (hno g hx _ e).2 m (by rw [hb]; simp) rfl
theorem REnd.spoil {w w' : World} {L Q n : Nat} {G : Option Nat} {own2 : Nat → Option (Bool × Nat)} {tg : Nat → Bool × Nat} {s : LE} (h : REnd w L Q G s) (hs : Spoilt (RowX w own2 tg n) w w') : REnd w' L Q G s := h.keep fun g cur T hc hT => hs.other hc (by rcases hT with rfl | rfl | rfl <;> decide)
/-- the numbers behind what is told -/
theorem tell_nums : ∀ (k : Nat) (s : LE), (tellL k s).2.heard = s.heard + (tellL k s).1.length ∧ (tellL k s).1.length ≤ k ∧ (tellL k s).2.next = s.next ∧ ∀ b ∈ (tellL k s).1, ∃ n, s.ahead n = some b
  | 0, s => ⟨rfl, by simp [tellL], rfl, by simp [tellL]⟩
  | k + 1, s => by
    rcases hb : s.ahead (s.heard + 1) with _ | b
    · have e : tellL (k + 1) s = ([], s) := by rw [tellL, hb]
      rw [e]
      exact ⟨rfl, by simp, rfl, by simp⟩
    · have e : tellL (k + 1) s = (b :: (tellL k { s with heard := s.heard + 1, ahead := fun n => if n = s.heard + 1 then none else s.ahead n }).1, (tellL k { s with heard := s.heard + 1, ahead := fun n => if n = s.heard + 1 then none else s.ahead n }).2) := by rw [tellL, hb]
      obtain ⟨h1, h2, h3, h4⟩ := tell_nums k { s with heard := s.heard + 1, ahead := fun n => if n = s.heard + 1 then none else s.ahead n }
      rw [e]
      refine ⟨by rw [h1]; simp; omega, by simp; omega, h3, fun c hc => ?_⟩
      rcases List.mem_cons.1 hc with rfl | hc
      · exact ⟨_, hb⟩
      · obtain ⟨n, hn⟩ := h4 c hc
        dsimp only at hn
        split at hn
        · cases hn
        · exact ⟨n, hn⟩
theorem putL_eqn (s : LE) (n : Nat) (b : BL) : (putL s n b).next = s.next ∧ (putL s n b).heard = s.heard ∧ ∀ m c, (putL s n b).ahead m = some c → c = b ∨ s.ahead m = some c := by
  unfold putL
  split
  · refine ⟨rfl, rfl, fun m c hc => ?_⟩
    dsimp only at hc
    split at hc
    · injection hc with hc; exact .inl hc.symm
    · exact .inr hc
  · exact ⟨rfl, rfl, fun m c hc => .inr hc⟩
/-- behind Hear -/
theorem hear_nums {s : LE} {f : BL} (hok : LEok s) (h0 : s.ahead (s.heard + 1) = none) : (hearL s f).2.2.heard = s.heard + (hearL s f).2.1.length ∧ (hearL s f).2.1.length ≤ 65 ∧ (hearL s f).2.2.next = s.next ∧ (∀ b ∈ (hearL s f).2.1, b.length ≤ 1048576) ∧ (hearL s f).2.2.ahead ((hearL s f).2.2.heard + 1) = none := by
  unfold hearL
  rcases hq : readL f with _ | ⟨ep, h, n, b⟩
  · exact ⟨rfl, by simp, rfl, by simp, h0⟩
  dsimp only
  obtain ⟨e1, e2, e3, e4, e5⟩ := ackL_eqs s h
  split
  · exact ⟨rfl, by simp, rfl, by simp, h0⟩
  split
  · exact ⟨rfl, by simp, rfl, by simp, h0⟩
  split
  · exact ⟨by simp [e3], by simp, e2, by simp, by dsimp only; rw [e5, e3]; exact h0⟩
  · obtain ⟨p1, p2, p3⟩ := putL_eqn (ackL s h) n b
    obtain ⟨t1, t2, t3, t4⟩ := tell_nums 65 (putL (ackL s h) n b)
    have hb4 := (readL_bd hq).2.2.2
    refine ⟨by dsimp only; rw [t1, p2, e3], t2, by dsimp only; rw [t3, p1, e2], fun c hc => ?_, tell_none 65 _ fun m c hc => ?_⟩
    · obtain ⟨m, hm⟩ := t4 c hc
      rcases p3 m c hm with rfl | hm
      · exact hb4
      · rw [e5] at hm
        exact (hok.ahead m c hm).1
    · rw [p2, e3]
      have hc' := hc
      unfold putL at hc'
      split at hc'
      · rename_i hp
        rw [e3] at hp
        dsimp only at hc'
        split at hc'
        · rename_i hm; subst hm; omega
        · rw [e5] at hc'
          have := (hok.ahead m c hc').2
          omega
      · dsimp only at hc'
        rw [e5] at hc'
        have := (hok.ahead m c hc').2
        omega
/-- both ends, of the same state, in blocks from L on; i calls are done -/
def PairSt (L P Q i : Nat) (w : World) (s : LE) : Prop := ∃ M G own k G', k ≤ i ∧ EndM w P M G own k s ∧ REnd w L Q G' s ∧ L ≤ P ∧ L ≤ M ∧ (∀ g, G = some g → L ≤ g) ∧ (∀ g, own g ≠ none → L ≤ g) ∧ L ≤ w.heap.size
/-- its numbers behind i calls -/
def PairN (i : Nat) (s : LE) : Prop := s.ahead (s.heard + 1) = none ∧ s.next ≤ i + 1 ∧ s.heard ≤ 65 * i
theorem PairSt.next {L P Q i : Nat} {w w' : World} {s : LE} (h : PairSt L P Q i w s) (hb : Below w.heap.size w w') : PairSt L P Q i w' s := by
  obtain ⟨M, G, own, k, G', h1, h2, h3, h4, h5, h6, h7, h8⟩ := h
  exact ⟨M, G, own, k, G', h1, h2.next hb, h3.next hb, h4, h5, h6, h7, Nat.le_trans h8 hb.size⟩
theorem PairN.hear {i : Nat} {s : LE} {f : BL} (h : PairN i s) (hok : LEok s) : PairN (i + 1) (hearL s f).2.2 := by
  obtain ⟨h1, h2, h3⟩ := h
  obtain ⟨e1, e2, e3, e4, e5⟩ := hear_nums (f := f) hok h1
  exact ⟨e5, by rw [e3]; omega, by rw [e1]; omega⟩
theorem PairN.from {i n : Nat} {s : LE} {ack : Bool} (h : PairN i s) : PairN (i + 1) (fromL s n ack).2 := by
  obtain ⟨h1, h2, h3⟩ := h
  exact ⟨h1, by show s.next ≤ _; omega, by show s.heard ≤ _; omega⟩
theorem PairN.send {i : Nat} {s : LE} {b : BL} (h : PairN i s) : PairN (i + 1) (sendL s b).2 := by
  obtain ⟨h1, h2, h3⟩ := h
  unfold sendL
  split
  · exact ⟨h1, by dsimp only; omega, by dsimp only; omega⟩
  split
  · exact ⟨h1, by dsimp only; omega, by dsimp only; omega⟩
  · exact ⟨h1, by dsimp only; omega, by dsimp only; omega⟩
theorem from_len {s : LE} {n : Nat} {ack : Bool} (hok : LEok s) (hn : s.first ≤ n) : (fromL s n ack).1.length ≤ 1000000 ∧ ∀ f ∈ (fromL s n ack).1, f.length ≤ 100000000 := by
  have hx := hok.next
  have hs : ∀ j, (s.sent.getD j []).length ≤ 1048576 := fun j => by
    rw [List.getD_eq_getElem?_getD]
    cases hj : s.sent[j]? with
    | none => simp
    | some b => exact hok.bytes b (List.mem_of_getElem? hj)
  unfold fromL framesL
  dsimp only
  split
  · refine ⟨by simp, fun f hf => ?_⟩
    simp at hf
    subst hf
    rw [fr_len]
    simp
  · refine ⟨by rw [List.length_map, List.length_range']; omega, fun f hf => ?_⟩
    obtain ⟨j, _, rfl⟩ := List.mem_map.1 hf
    rw [fr_len]
    have := hs (j - s.first)
    simp only [List.length_cons, List.length_nil]
    omega
end Go.Proofs.Ytigmmikijjcdiaa








namespace Go.Proofs.Ytigmmikijjcdiaa
open Go.RowKit
set_option linter.unusedVariables false
set_option linter.unusedSimpArgs false
/-- bytes in a block that a conversion made: no row's of an end -/
def RdC (w : World) (A : Option Addr) (f : BL) : Prop := f ≠ [] → ∃ (b : Nat) (cur : Array Value) (fr : Nat × Nat), A = some ⟨b, 0, none⟩ ∧ w.heap[b]? = some (Obj.cells cur 5 fr) ∧ fr ≠ (0, 0) ∧ ∀ (j : Nat) (u : Value), (u8s f)[j]? = some u → cur[j]? = some u
theorem RdC.rd {w : World} {A : Option Addr} {f : BL} (h : RdC w A f) : Rd w w.heap.size A (u8s f) := fun hn => by
  obtain ⟨b, cur, fr, h1, h2, h3, h4⟩ := h (by rintro rfl; exact hn rfl)
  exact ⟨b, 0, h1, lt_of_block h2, fun j u hu => (cell_of_row _ _ _ _ _ _ h2).trans (by rw [Nat.zero_add]; exact h4 j u hu)⟩
theorem RdC.keep {w w' : World} {A : Option Addr} {f : BL} (h : RdC w A f) (hk : ∀ (g : Nat) (cur : Array Value) (fr : Nat × Nat), w.heap[g]? = some (Obj.cells cur 5 fr) → fr ≠ (0, 0) → w'.heap[g]? = w.heap[g]?) : RdC w' A f := fun hn => by
  obtain ⟨b, cur, fr, h1, h2, h3, h4⟩ := h hn
  exact ⟨b, cur, fr, h1, (hk b cur fr h2 h3).trans h2, h3, h4⟩
theorem RdC.next {w w' : World} {A : Option Addr} {f : BL} (h : RdC w A f) (hb : Below w.heap.size w w') : RdC w' A f := h.keep fun g cur fr hc _ => hb.block g (lt_of_block hc)
theorem RdC.conv {w : World} {A : Option Addr} {f : BL} {n c : Nat} (h : RdC w A f) (hn : f.length = n) : (convert 23 9 (.slice A n c)).run Try.prog w = .ok (.string ⟨f.toArray⟩) w := by
  subst hn
  exact run_string_of w 23 9 5 A c _ f Try.underlying23 Try.underlying5 Try.underlying9 h.rd
theorem RdC.new (w : World) (f : BL) : RdC (bytesWorld w 5 f) (some ⟨w.heap.size, 0, none⟩) f := fun hn => by
  refine ⟨w.heap.size, _, _, rfl, (by unfold bytesWorld; exact heap_alloc_last w _), by simp, fun j u hu => ?_⟩
  obtain ⟨b, off, e1, e2, e3⟩ := bytesWorld_rd w 5 f (by unfold u8s; simpa using hn)
  injection e1 with e1
  injection e1 with e1 e4
  subst e1 e4
  have h9 := e3 j u hu
  rw [Nat.zero_add] at h9
  have h8 := (cell_of_row (bytesWorld w 5 f) w.heap.size j _ _ _ (by unfold bytesWorld; exact heap_alloc_last w _)).symm.trans h9
  exact h8
theorem EndM.keepF {w y : World} {P M k : Nat} {G : Option Nat} {own : Nat → Option (Bool × Nat)} {s : LE} {X : List Nat} {A : Option Addr} {f : BL} (h : EndM w P M G own k s) (hk : KB X w y) (hX : ∀ x ∈ X, x = P ∨ x = M ∨ G = some x) (hf : RdC w A f) : RdC y A f := hf.keep fun g cur fr hc hne => hk.2 g (lt_of_block hc) fun hm => by
  obtain ⟨_, _, _, _, _, _, p1, r1, _, ⟨⟨es1, cl1, m1, _⟩, _⟩, _⟩ := h
  rcases hX g hm with rfl | rfl | e
  · exact row_ne hc p1 (by decide) rfl
  · rw [hc] at m1; cases m1
  · obtain ⟨cur', h⟩ := r1.blk g e
    exact row_ne hc h (by decide) rfl
theorem REnd.keepF {w y : World} {L Q : Nat} {G' : Option Nat} {t : LE} {X : List Nat} {A : Option Addr} {f : BL} (hr : REnd w L Q G' t) (hk : KB X w y) (hX : ∀ x ∈ X, x = Q ∨ G' = some x) (hf : RdC w A f) : RdC y A f := hf.keep fun g cur fr hc hne => hk.2 g (lt_of_block hc) fun hm => by
  obtain ⟨cur', T', hc', e⟩ := hr.notR hX g hm
  rcases e with rfl | rfl
  · exact row_ne hc hc' (by decide) rfl
  · exact row_ne hc hc' (by decide) rfl
theorem RdC.spoil {w y : World} {n : Nat} {own : Nat → Option (Bool × Nat)} {tg : Nat → Bool × Nat} {A : Option Addr} {f : BL} (hf : RdC w A f) (hs : Spoilt (RowX w own tg n) w y) : RdC y A f := hf.keep fun g cur fr hc hne => hs.blk g (lt_of_block hc) fun ⟨⟨c, hc'⟩, _⟩ => by
  rw [hc] at hc'
  injection hc' with hc'
  injection hc' with _ _ hc'
  exact hne hc'
/-- what Of answers -/
def ofV (f : BL) : Int × Bool := match readL f with | none => (0, false) | some (ep, _, _, _) => ((ep : Int), true)
theorem of_is {w w' : World} {f : BL} {e : Ending} (h : OfPost w f e w') : e = .returned (.tuple #[.int .i64 (ofV f).1, .bool (ofV f).2]) ∧ Below w.heap.size w w' := by
  obtain ⟨h1, h2⟩ := h
  refine ⟨?_, h1⟩
  rw [h2]
  unfold ofV
  rcases readL f with _ | ⟨ep, h, n, b⟩ <;> rfl
theorem rof_is {w w' : World} {f : BL} {e : Ending} (h : ROfPost w f e w') : e = .returned (.tuple #[.int .i64 (ofV f).1, .bool (ofV f).2]) ∧ Below w.heap.size w w' := by
  obtain ⟨h1, h2⟩ := h
  refine ⟨?_, h1⟩
  unfold ofV
  revert h2
  rcases readL f with _ | ⟨ep, h, n, b⟩ <;> exact id
set_option maxRecDepth 100000 in
set_option maxHeartbeats 16000000 in
theorem heard_any (w : World) {L P Q i : Nat} {s : LE} (h : PairSt L P Q i w s) (hN : PairN i s) (hi : i ≤ 1000) (A : Option Addr) (f : BL) (c : Nat) (hF : RdC w A f) (hf : f.length ≤ 100000) (hlc : f.length ≤ c) (hc : c ≤ 9223372036854775807) :
    Calls Try.prog 35 #[.pointer (some ⟨P, 0, none⟩), .pointer (some ⟨Q, 0, none⟩), .slice A f.length c] w fun e w' => e = .returned (.bool true) ∧ PairSt L P Q (i + 1) w' (hearL s f).2.2 ∧ Below L w w' := by
  obtain ⟨M, G, own, k, G', h1, h2, h3, h4, h5, h6, h7, h8⟩ := h
  have hok := h2.1
  obtain ⟨u1, u2, u3, u4, u5⟩ := hear_nums (f := f) hok hN.1
  have HU := hide (And.intro u1 (And.intro u3 u4))
  have hmsl : (hearL s f).2.1.length ≤ 65 := u2
  clear u1 u2 u3 u4 u5
  have hhb : s.heard ≤ 65000 := by have := hN.2.2; omega
  have HHr := hide (hear_any w h2 A f c hF.rd (by omega) hlc hc (by omega) (by omega))
  have HF := hide hF
  have HE := hide h2
  have HR := hide h3
  have HG := hide h6
  have HOw := hide h7
  have HN := hide hN
  obtain ⟨fl, hfl⟩ : ∃ z, f.length = z := ⟨_, rfl⟩
  rw [hfl] at HHr hlc hf ⊢
  have HFl := hide hfl
  have kc0 := hF.conv (c := c) hfl
  have hn0 := hN.1
  have HN0 := hide hn0
  clear h2 h3 h6 h7 hF hN hfl hok hn0
  go_enter Try.func35, Try.ntmps35
  go_wp2_with fail
  refine HHr.out.mono ?_
  rintro e y ⟨v, own', rfl, ha, hb, hk, ho⟩
  obtain ⟨cd, hcd⟩ : ∃ z, (hearL s f).1 = z := ⟨_, rfl⟩
  rw [hcd]
  have HCd := hide hcd
  clear hcd kc0
  have HE1 := hide ha
  have HV1 := hide hb
  have HK1 := hide hk
  have HO1 := hide ho
  have HR1 := hide (HE.out.keepR hk (by intro x hx; simp at hx; rcases hx with h | h | h; exact .inl h; exact .inr (.inl h); exact .inr (.inr h)) HR.out)
  have HF1 := hide (HE.out.keepF hk (by intro x hx; simp at hx; rcases hx with h | h | h; exact .inl h; exact .inr (.inl h); exact .inr (.inr h)) HF.out)
  have HB1 : Hid (Below L w y) := hide (hk.toBelow (by intro x hx; simp at hx; rcases hx with h | h | h; rw [h]; exact h4; rw [h]; exact h5; exact HG.out x h) h8)
  clear ha hb hk ho HHr
  have kq := run_bytes_of (P := Try.prog) y 9 23 5 f Try.underlying9 Try.underlying23 Try.underlying5
  rw [HFl.out] at kq
  obtain ⟨cp1, hcp1⟩ : ∃ z, grownCap y fl 0 5 = z := ⟨_, rfl⟩
  have hcpa1 : fl ≤ cp1 := by rw [← hcp1]; exact grownCap_ge _ _ _ _
  have hcpb1 : cp1 ≤ 9223372036854775807 := by rw [← hcp1]; exact grownCap_le_maxLen _ _ _ _ (by unfold maxLen; omega)
  rw [hcp1] at kq
  have HC1 : Hid (Below y.heap.size y (bytesWorld y 5 f)) := hide (bytesWorld_below _ _ _)
  have HD1 := hide (RdC.new y f)
  obtain ⟨x1, hx1⟩ : ∃ z, bytesWorld y 5 f = z := ⟨_, rfl⟩
  rw [hx1] at kq HC1 HD1
  clear hcp1 hx1
  have HH2 := hide (rhear_any x1 (HR1.out.next HC1.out) (by have := HC1.out.size; have := HB1.out.size; omega) (some ⟨y.heap.size, 0, none⟩) f cp1 HD1.out.rd (by rw [HFl.out]; omega) (by rw [HFl.out]; exact hcpa1) hcpb1 (by omega) HN0.out)
  rw [HFl.out] at HH2
  go_wp2_with fail
  refine HH2.out.mono ?_
  rintro e y2 ⟨u, rfl, ha, hb, hk⟩
  rw [HCd.out]
  have HV2 : Hid (BRows w.heap.size y2 own' (fun q => (false, s.heard + 1 + q)) v (hearL s f).2.1) := hide ((HV1.out.next HC1.out).keepT fun g cur T hc hT => (HR1.out.next HC1.out).keepB hk (by intro x hx; simp at hx; exact .inl hx) hc (by rcases hT with rfl | rfl <;> decide) (by rcases hT with rfl | rfl <;> decide))
  have HE2 := hide ((HR1.out.next HC1.out).keepE hk (by intro x hx; simp at hx; exact .inl hx) (HE1.out.next HC1.out))
  have HF2 := hide ((HR1.out.next HC1.out).keepF hk (by intro x hx; simp at hx; exact .inl hx) (HF1.out.next HC1.out))
  have HR2 := hide hb
  have HU2 := hide ha
  have HB2 : Hid (Below L w y2) := hide ((HB1.out.trans (HC1.out.mono (by have := HB1.out.size; omega))).trans (hk.toBelow (by intro x hx; simp at hx; rw [hx]; exact HR.out.2.1) (by have := HC1.out.size; have := HB1.out.size; omega)))
  clear ha hb hk HH2 kq HV1 HE1 HF1 HR1 HB1
  have HO2 := hide (lof_any y2 A f c HF2.out.rd (by rw [HFl.out]; omega) (by rw [HFl.out]; exact hlc) hc)
  rw [HFl.out] at HO2
  go_wp2_with fail
  refine HO2.out.mono ?_
  rintro e y3 hof
  obtain ⟨rfl, hb3⟩ := of_is hof
  clear hof HO2
  obtain ⟨d1, hd1⟩ : ∃ z, (ofV f).1 = z := ⟨_, rfl⟩
  obtain ⟨d2, hd2⟩ : ∃ z, (ofV f).2 = z := ⟨_, rfl⟩
  rw [hd1, hd2]
  have HDd := hide (And.intro hd1 hd2)
  have HC2 := hide hb3
  clear hb3 hd1 hd2
  have kq := run_bytes_of (P := Try.prog) y3 9 23 5 f Try.underlying9 Try.underlying23 Try.underlying5
  rw [HFl.out] at kq
  obtain ⟨cp3, hcp3⟩ : ∃ z, grownCap y3 fl 0 5 = z := ⟨_, rfl⟩
  have hcpa3 : fl ≤ cp3 := by rw [← hcp3]; exact grownCap_ge _ _ _ _
  have hcpb3 : cp3 ≤ 9223372036854775807 := by rw [← hcp3]; exact grownCap_le_maxLen _ _ _ _ (by unfold maxLen; omega)
  rw [hcp3] at kq
  have HC3 : Hid (Below y3.heap.size y3 (bytesWorld y3 5 f)) := hide (bytesWorld_below _ _ _)
  have HD3 := hide (RdC.new y3 f)
  obtain ⟨x3, hx3⟩ : ∃ z, bytesWorld y3 5 f = z := ⟨_, rfl⟩
  rw [hx3] at kq HC3 HD3
  clear hcp3 hx3
  have HO3 := hide (rof_any x3 (some ⟨y3.heap.size, 0, none⟩) f cp3 HD3.out.rd (by rw [HFl.out]; omega) (by rw [HFl.out]; exact hcpa3) hcpb3)
  rw [HFl.out] at HO3
  have HC4 := hide (HC2.out.trans (HC3.out.mono HC2.out.size))
  go_wp2_with fail
  refine HO3.out.mono ?_
  rintro e y4 hof
  obtain ⟨rfl, hb4⟩ := rof_is hof
  rw [HDd.out.1, HDd.out.2]
  have HC5 : Hid (Below y2.heap.size y2 y4) := hide (HC4.out.trans (hb4.mono HC4.out.size))
  clear hof HO3 hb4 kq HC2 HC3 HC4
  have HV4 := hide (HV2.out.next HC5.out)
  have HU4 := hide (HU2.out.next HC5.out)
  have HE4 := hide (HE2.out.next HC5.out)
  have HR4 := hide (HR2.out.next HC5.out)
  have HF4 := hide (HF2.out.next HC5.out)
  have HB4 : Hid (Below L w y4) := hide (HB2.out.trans (HC5.out.mono (by have := HB2.out.size; omega)))
  have kc1 := HF4.out.conv (c := c) HFl.out
  clear HV2 HU2 HE2 HR2 HF2 HB2 HC5
  have HRw := hide (rows_any y4 HV4.out HU4.out (by intro i j e; injection e with _ e; omega) (by omega) (fun b hb => by have := HU.out.2.2 b hb; omega))
  have kd : (cd == cd) = true := by simp
  have kd1 : (d1 == d1) = true := by simp
  go_wp2_with fail
  refine HRw.out.mono ?_
  rintro e z ⟨rfl, hsp⟩
  have HSp := hide hsp
  have kc2 := (HF4.out.spoil hsp).conv (c := c) HFl.out
  have HE5 : Hid (EndM z P M G own' (k + 1) (hearL s f).2.2) := hide (HE4.out.spoil hsp fun g ⟨_, q, hq, ho⟩ t ht => by
    rw [ho] at ht
    injection ht with ht
    subst ht
    refine ⟨fun i _ e => by (injection e with e; cases e), fun m hm e => ?_⟩
    injection e with _ e
    rcases hb : (hearL s f).2.2.ahead m with _ | b
    · exact hm hb
    · have h9 := (HE4.out.1.ahead m b hb).2.1
      rw [HU.out.1] at h9
      omega)
  have HR5 := hide (HR4.out.spoil hsp)
  have HB5 : Hid (Below L w z) := hide (HB4.out.trans (hsp.toBelow (fun g ⟨_, q, hq, ho⟩ => by
    rcases HO1.out g with h | h
    · exact HOw.out g (by rw [← h, ho]; simp)
    · omega) (by have := HB4.out.size; omega)))
  have HFin : Hid (PairSt L P Q (i + 1) z (hearL s f).2.2 ∧ Below L w z) := hide ⟨⟨M, G, own', k + 1, G', by omega, HE5.out, HR5.out, h4, h5, HG.out, fun g hg => by
    rcases HO1.out g with h | h
    · exact HOw.out g (by rw [← h]; exact hg)
    · omega, by have := HB5.out.size; omega⟩, HB5.out⟩
  clear hsp kc1
  go_wp2
  go_ret
  exact ⟨rfl, HFin.out⟩
end Go.Proofs.Ytigmmikijjcdiaa
