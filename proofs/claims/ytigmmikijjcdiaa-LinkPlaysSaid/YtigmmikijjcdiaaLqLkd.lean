/- Two ends in memory, apart. -/
import Derived.Test.YtigmmikijjcdiaaProg
import Derived.Test.YtigmmikijjcdiaaLqLkv


namespace Go.Proofs.Ytigmmikijjcdiaa
open Go.RowKit
set_option linter.unusedVariables false
/-- two ends in memory, apart, in blocks from L up to B -/
def Two (w : World) (L B n P1 P2 : Nat) (s t : LE) : Prop :=
  ∃ M1 G1 own1 k1 M2 G2 own2 k2, EndM w P1 M1 G1 own1 k1 s ∧ EndM w P2 M2 G2 own2 k2 t ∧ P1 ≠ P2 ∧ M1 ≠ M2 ∧ (∀ g, G1 = some g → G2 ≠ some g) ∧ k1 ≤ n ∧ k2 ≤ n ∧ (∀ g, (g = P1 ∨ g = M1 ∨ G1 = some g ∨ g = P2 ∨ g = M2 ∨ G2 = some g) → L ≤ g ∧ g < B)
/-- blocks below L and from B on stay -/
structure Mid (L B : Nat) (w w' : World) : Prop where
  size : w.heap.size ≤ w'.heap.size
  blk : ∀ g, g < w.heap.size → (g < L ∨ B ≤ g) → w'.heap[g]? = w.heap[g]?
  env : Env w w'
  oth : ∀ (g : Nat) (cur : Array Value) (T : TypeId), w.heap[g]? = some (.cells cur T (0, 0)) → T ≠ 67 → T ≠ 23 → w'.heap[g]? = w.heap[g]?
theorem Mid.refl (L B : Nat) (w : World) : Mid L B w w := ⟨Nat.le_refl _, fun _ _ _ => rfl, Env.refl w, fun _ _ _ _ _ _ => rfl⟩
theorem Mid.drew {L B : Nat} {w w' : World} (h : Mid L B w w') : Mid L B w w'.drew := ⟨h.1, h.2, h.3, h.4⟩
theorem Mid.trans {L B : Nat} {a b c : World} (h : Mid L B a b) (h' : Mid L B b c) : Mid L B a c := ⟨Nat.le_trans h.1 h'.1, fun g hl hg => (h'.2 g (Nat.lt_of_lt_of_le hl h.1) hg).trans (h.2 g hl hg), h.3.trans h'.3, fun g cur T hc h1 h2 => (h'.4 g cur T ((h.4 g cur T hc h1 h2).trans hc) h1 h2).trans (h.4 g cur T hc h1 h2)⟩
theorem Mid.wide {L B B' : Nat} {a b : World} (h : Mid L B a b) (hB : B ≤ B') : Mid L B' a b := ⟨h.1, fun g hl hg => h.2 g hl (hg.imp id fun hg => Nat.le_trans hB hg), h.3, h.4⟩
theorem Mid.of_kb {L B : Nat} {X : List Nat} {w w' : World} (h : KB X w w') (hX : ∀ x ∈ X, L ≤ x ∧ x < B) (h8 : ∀ x ∈ X, ∀ cur T, w.heap[x]? = some (.cells cur T (0, 0)) → T = 67 ∨ T = 23) : Mid L B w w' := ⟨h.1, fun g hl hg => h.2 g hl (fun hm => by have := hX g hm; omega), h.3, fun g cur T hc h1 h2 => h.2 g (lt_of_block hc) (fun hm => (h8 g hm cur T hc).elim h1 h2)⟩
theorem Mid.of_below {L B : Nat} {w w' : World} (h : Below w.heap.size w w') : Mid L B w w' := ⟨h.size, fun g hl _ => h.block g hl, Env.of_below h, fun g cur T hc _ _ => h.block g (lt_of_block hc)⟩
theorem Mid.below {L B : Nat} {w w' : World} (h : Mid L B w w') : Below L w w' ∨ w.heap.size < L := by
  rcases Nat.lt_or_ge w.heap.size L with hl | hl
  · exact .inr hl
  · exact .inl ⟨h.3.1, h.3.2.1, h.3.2.2, h.1, fun g hg => h.2 g (by omega) (.inl hg)⟩
theorem Mid.toBelow {L B : Nat} {w w' : World} (h : Mid L B w w') (hl : L ≤ w.heap.size) : Below L w w' := ⟨h.3.1, h.3.2.1, h.3.2.2, h.1, fun g hg => h.2 g (by omega) (.inl hg)⟩
/-- of which types an end's own blocks are -/
theorem EndM.not8 {w : World} {P M : Nat} {G : Option Nat} {own : Nat → Option (Bool × Nat)} {k : Nat} {s : LE} (h : EndM w P M G own k s) {X : List Nat} (hX : ∀ x ∈ X, x = P ∨ x = M ∨ G = some x) : ∀ x ∈ X, ∀ cur T, w.heap[x]? = some (.cells cur T (0, 0)) → T = 67 ∨ T = 23 := fun x hx cur T hc => by
  obtain ⟨_, _, _, _, _, _, p1, r1, _, ⟨⟨es1, cl1, m1, _⟩, _⟩, _⟩ := h
  rcases hX x hx with rfl | rfl | hg
  · rw [hc] at p1
    injection p1 with p1
    injection p1 with _ p1
    exact .inl p1
  · rw [hc] at m1; cases m1
  · obtain ⟨cur', h⟩ := r1.blk x hg
    rw [hc] at h
    injection h with h
    injection h with _ h
    exact .inr h
/-- an end stays when only another one's blocks turn -/
theorem EndM.other {w w' : World} {P1 M1 P2 M2 : Nat} {G1 G2 : Option Nat} {own1 own2 : Nat → Option (Bool × Nat)} {k1 k2 : Nat} {s t : LE} {X : List Nat} (h1 : EndM w P1 M1 G1 own1 k1 s) (h2 : EndM w P2 M2 G2 own2 k2 t) (hP : P1 ≠ P2) (hM : M1 ≠ M2) (hG : ∀ g, G1 = some g → G2 ≠ some g)
    (hk : KB X w w') (hX : ∀ x ∈ X, x = P2 ∨ x = M2 ∨ G2 = some x) : EndM w' P1 M1 G1 own1 k1 s := by
  obtain ⟨_, _, _, _, _, _, p1, r1, _, ⟨⟨es1, cl1, m1, _⟩, _⟩, _⟩ := id h1
  obtain ⟨_, _, _, _, _, _, p2, r2, _, ⟨⟨es2, cl2, m2, _⟩, _⟩, _⟩ := id h2
  refine h1.keepT hk.1 fun g hl hc => hk.2 g hl fun hm => ?_
  rcases hX g hm with rfl | rfl | hx
  · rcases hc with rfl | rfl | hc | ⟨cur, hc⟩
    · exact hP rfl
    · rw [p2] at m1; cases m1
    · obtain ⟨cur, h⟩ := r1.blk g hc
      exact row_ne h p2 (by decide) rfl
    · exact row_ne hc p2 (by decide) rfl
  · rcases hc with rfl | rfl | hc | ⟨cur, hc⟩
    · rw [p1] at m2; cases m2
    · exact hM rfl
    · obtain ⟨cur, h⟩ := r1.blk g hc
      rw [h] at m2; cases m2
    · rw [hc] at m2; cases m2
  · obtain ⟨cur2, h2c⟩ := r2.blk g hx
    rcases hc with rfl | rfl | hc | ⟨cur, hc⟩
    · exact row_ne h2c p1 (by decide) rfl
    · rw [h2c] at m1; cases m1
    · exact hG g hc hx
    · exact row_ne hc h2c (by decide) rfl
theorem Two.symm {w : World} {L B n P1 P2 : Nat} {s t : LE} (h : Two w L B n P1 P2 s t) : Two w L B n P2 P1 t s := by
  obtain ⟨M1, G1, own1, k1, M2, G2, own2, k2, h1, h2, h3, h4, h5, h6, h7, h8⟩ := h
  exact ⟨M2, G2, own2, k2, M1, G1, own1, k1, h2, h1, Ne.symm h3, Ne.symm h4, fun g e1 e2 => h5 g e2 e1, h7, h6, fun g hg => h8 g (by rcases hg with h | h | h | h | h | h <;> simp [h])⟩
theorem Two.mono {w : World} {L B B' n n' P1 P2 : Nat} {s t : LE} (h : Two w L B n P1 P2 s t) (hB : B ≤ B') (hn : n ≤ n') : Two w L B' n' P1 P2 s t := by
  obtain ⟨M1, G1, own1, k1, M2, G2, own2, k2, h1, h2, h3, h4, h5, h6, h7, h8⟩ := h
  exact ⟨M1, G1, own1, k1, M2, G2, own2, k2, h1, h2, h3, h4, h5, Nat.le_trans h6 hn, Nat.le_trans h7 hn, fun g hg => ⟨(h8 g hg).1, Nat.lt_of_lt_of_le (h8 g hg).2 hB⟩⟩
/-- what makes new blocks alone leaves them -/
theorem Two.next {w w' : World} {L B n P1 P2 : Nat} {s t : LE} (h : Two w L B n P1 P2 s t) (hb : Below w.heap.size w w') : Two w' L B n P1 P2 s t := by
  obtain ⟨M1, G1, own1, k1, M2, G2, own2, k2, h1, h2, h3⟩ := h
  exact ⟨M1, G1, own1, k1, M2, G2, own2, k2, h1.next hb, h2.next hb, h3⟩
theorem Two.ok1 {w : World} {L B n P1 P2 : Nat} {s t : LE} (h : Two w L B n P1 P2 s t) : LEok s := by
  obtain ⟨M1, G1, own1, k1, M2, G2, own2, k2, h1, h2, h3⟩ := h
  exact h1.1
theorem Two.ok2 {w : World} {L B n P1 P2 : Nat} {s t : LE} (h : Two w L B n P1 P2 s t) : LEok t := h.symm.ok1
theorem Two.low {w : World} {L B n P1 P2 : Nat} {s t : LE} (h : Two w L B n P1 P2 s t) : L < w.heap.size := by
  obtain ⟨M1, G1, own1, k1, M2, G2, own2, k2, h1, h2, h3, h4, h5, h6, h7, h8⟩ := h
  obtain ⟨A, c, q, -⟩ := h1.row
  have := lt_of_block q
  have := (h8 P1 (.inl rfl)).1
  omega
/-- two ends are opened -/
theorem Two.opened {w0 w1 w2 : World} {a b P1 M1 P2 M2 : Nat} (h1 : EndM w1 P1 M1 none (fun _ => none) 0 (openL a)) (hp : w0.heap.size ≤ P1) (hm : w0.heap.size ≤ M1) (h2 : EndM w2 P2 M2 none (fun _ => none) 0 (openL b)) (hp2 : w1.heap.size ≤ P2) (hm2 : w1.heap.size ≤ M2) (hb : Below w1.heap.size w1 w2) : Two w2 w0.heap.size w2.heap.size 0 P1 P2 (openL a) (openL b) := by
  have e1 := h1.next hb
  obtain ⟨A, c, q1, -⟩ := h1.row
  obtain ⟨_, _, _, _, _, _, _, _, _, ⟨⟨es1, cl1, m1, _⟩, _⟩, _⟩ := id h1
  have lp1 := lt_of_block q1
  have lm1 := lt_of_block m1
  obtain ⟨A2, c2, q2, -⟩ := h2.row
  obtain ⟨_, _, _, _, _, _, _, _, _, ⟨⟨es2, cl2, m2, _⟩, _⟩, _⟩ := id h2
  have lp2 := lt_of_block q2
  have lm2 := lt_of_block m2
  have hs := hb.size
  refine ⟨M1, none, _, 0, M2, none, _, 0, e1, h2, by omega, by omega, fun g e => (by cases e), Nat.le_refl _, Nat.le_refl _, fun g hg => ?_⟩
  rcases hg with rfl | rfl | hg | rfl | rfl | hg
  · omega
  · omega
  · cases hg
  · omega
  · omega
  · cases hg
/-- rows of bytes that can be read -/
def RdRows (w : World) (v : Value) (fs : List BL) : Prop :=
  ∃ A c, v = .slice A fs.length c ∧ ∀ i f, fs[i]? = some f → ∃ g off Af cf, A = some ⟨g, off, none⟩ ∧ g < w.heap.size ∧ w.cell? ⟨g, off + i, none⟩ = some (.slice Af f.length cf) ∧ Rd w w.heap.size Af (u8s f) ∧ (f ≠ [] → f.length ≤ cf ∧ cf ≤ 9223372036854775807)
theorem RdRows.next {w w' : World} {v : Value} {fs : List BL} (h : RdRows w v fs) (hb : Below w.heap.size w w') : RdRows w' v fs := by
  obtain ⟨A, c, h1, h2⟩ := h
  refine ⟨A, c, h1, fun i f hf => ?_⟩
  obtain ⟨g, off, Af, cf, e1, e2, e3, e4, e5⟩ := h2 i f hf
  exact ⟨g, off, Af, cf, e1, Nat.lt_of_lt_of_le e2 hb.size, (hb.cell e2).trans e3, (e4.below hb).more hb.size, e5⟩
/-- rows of bytes from block B on -/
def FRw (w : World) (B : Nat) (v : Value) (fs : List BL) : Prop := ∃ own tg, BRows B w own tg v fs
theorem ByV.rd {w : World} {own : Nat → Option (Bool × Nat)} {tg : Bool × Nat} {v : Value} {b : BL} (h : ByV w own tg v b) : ∃ A c, v = .slice A b.length c ∧ Rd w w.heap.size A (u8s b) ∧ (b ≠ [] → b.length ≤ c ∧ c ≤ 9223372036854775807) := by
  have hr := h.row
  obtain ⟨⟨A, c, rfl⟩, h2⟩ := h
  refine ⟨A, c, rfl, hr, fun hb => ?_⟩
  obtain ⟨⟨h3, h4⟩, _⟩ := h2 hb
  have hl : 0 < b.length := List.length_pos_iff.2 hb
  rcases h4 with ⟨h0, _⟩ | ⟨g, cap, cur, hv, hg, hc, hn, hm, hs, _⟩
  · injection h0 with _ h0 _
    omega
  · injection hv with _ _ hv
    subst hv
    unfold maxLen at hm
    exact ⟨hn, hm⟩
theorem BRows.rd {B : Nat} {w : World} {own : Nat → Option (Bool × Nat)} {tg : Nat → Bool × Nat} {v : Value} {fs : List BL} (h : BRows B w own tg v fs) : RdRows w v fs := by
  obtain ⟨A, c, vs, rfl, h2, h3, h4⟩ := h
  refine ⟨A, c, rfl, fun i f hf => ?_⟩
  have hlf := (List.getElem?_eq_some_iff.1 hf).1
  obtain ⟨hlen, hh⟩ := h2
  obtain ⟨u, hu⟩ : ∃ u, vs[i]? = some u := ⟨_, List.getElem?_eq_getElem (by omega)⟩
  obtain ⟨Af, cf, rfl, hr, hc⟩ := (h3 i u f hu hf).rd
  rcases hh with ⟨_, h0⟩ | ⟨g, cap, cur, hv, hg, hcg, hn, hm, hs, ht⟩
  · omega
  · injection hv with hA _ hv
    refine ⟨g, 0, Af, cf, hA, lt_of_block hcg, ?_, hr, hc⟩
    rw [cell_of_row w g _ cur _ _ hcg, Nat.zero_add]
    rw [← ht, List.getElem?_take, if_pos (by omega)] at hu
    simpa using hu
theorem FRw.rd {w : World} {B : Nat} {v : Value} {fs : List BL} (h : FRw w B v fs) : RdRows w v fs := by
  obtain ⟨own, tg, h1⟩ := h
  exact h1.rd
theorem FRw.mid {w w' : World} {L B B' : Nat} {v : Value} {fs : List BL} (h : FRw w B v fs) (hm : Mid L B' w w') (hB : B' ≤ B) : FRw w' B v fs := by
  obtain ⟨own, tg, ⟨A, c, vs, h1, h2, h3, h4⟩⟩ := h
  refine ⟨own, tg, ⟨A, c, vs, h1, own_same h2 fun g hg => ?_, fun i u b hu hb => (h3 i u b hu hb).keep fun g cur hg hc => ⟨hm.oth g cur _ hc (by decide) (by decide), hg⟩, h4⟩⟩
  have := h2.lt g hg
  exact hm.2 g this.2 (.inr (by omega))
theorem FRw.next {w w' : World} {B : Nat} {v : Value} {fs : List BL} (h : FRw w B v fs) (hb : Below w.heap.size w w') : FRw w' B v fs := h.mid (L := 0) (B' := B) (Mid.of_below hb) (Nat.le_refl _)
/-- a frame is heard by the second one -/
def HearT (w : World) (L B n P1 P2 : Nat) (s t : LE) (f : BL) (e : Ending) (w' : World) : Prop :=
  ∃ v, e = .returned (.tuple #[v, .int .i64 (hearL t f).1]) ∧ Two w' L B (n + 1) P1 P2 s (hearL t f).2.2 ∧ FRw w' w.heap.size v (hearL t f).2.1 ∧ Mid L B w w'
theorem two_hear {w : World} {L B n P1 P2 : Nat} {s t : LE} (h : Two w L B n P1 P2 s t) (A : Option Addr) (f : BL) (c : Nat) (hR : Rd w w.heap.size A (u8s f)) (hf : f.length ≤ 3000000) (hlc : f.length ≤ c) (hc : c ≤ 9223372036854775807) (hn : n < 1000000) (hh : t.heard + 65 ≤ 1000000) :
    Calls Try.prog 12 #[.pointer (some ⟨P2, 0, none⟩), .slice A f.length c] w (HearT w L B n P1 P2 s t f) := by
  obtain ⟨M1, G1, own1, k1, M2, G2, own2, k2, h1, h2, h3, h4, h5, h6, h7, h8⟩ := h
  refine (hear_any w h2 A f c hR hf hlc hc (by omega) hh).mono ?_
  rintro e w' ⟨v, own', rfl, hE, hB, hk, ho⟩
  have hX : ∀ x ∈ P2 :: M2 :: G2.toList, x = P2 ∨ x = M2 ∨ G2 = some x := fun x hx => by
    rcases List.mem_cons.1 hx with rfl | hx
    · exact .inl rfl
    · rcases List.mem_cons.1 hx with rfl | hx
      · exact .inr (.inl rfl)
      · exact .inr (.inr (in_O hx))
  exact ⟨v, rfl, ⟨M1, G1, own1, k1, M2, G2, own', k2 + 1, h1.other h2 h3 h4 h5 hk hX, hE, h3, h4, h5, by omega, by omega, h8⟩, ⟨own', _, hB⟩, Mid.of_kb hk (fun x hx => h8 x (by rcases hX x hx with h | h | h <;> simp [h])) (h2.not8 hX)⟩
/-- the first one sends -/
def SendT (w : World) (L P1 P2 n : Nat) (s t : LE) (b : BL) (B : Nat) (e : Ending) (w' : World) : Prop :=
  e = .returned (.int .i64 (sendL s b).1) ∧ Two w' L w'.heap.size n P1 P2 (sendL s b).2 t ∧ Mid L B w w'
theorem two_send {w : World} {L B n P1 P2 : Nat} {s t : LE} (h : Two w L B n P1 P2 s t) (hBw : B ≤ w.heap.size) (A : Option Addr) (b : BL) (c : Nat) (hR : Rd w w.heap.size A (u8s b)) (hb : b.length ≤ 100000000) (hn : s.next < 1000000) :
    Calls Try.prog 10 #[.pointer (some ⟨P1, 0, none⟩), .slice A b.length c] w (SendT w L P1 P2 n s t b B) := by
  obtain ⟨M1, G1, own1, k1, M2, G2, own2, k2, h1, h2, h3, h4, h5, h6, h7, h8⟩ := h
  refine (send_any w h1 A b c hR hb hn).mono ?_
  rintro e w' ⟨rfl, G', own', hE, hk, hG, ho⟩
  have hX : ∀ x ∈ P1 :: G1.toList, x = P1 ∨ x = M1 ∨ G1 = some x := fun x hx => by
    rcases List.mem_cons.1 hx with rfl | hx
    · exact .inl rfl
    · exact .inr (.inr (in_O hx))
  have hGn : ∀ g, G' = some g → G1 = some g ∨ w.heap.size ≤ g := fun g hg => by
    rcases hG with rfl | ⟨g', rfl, hl⟩
    · exact .inl hg
    · injection hg with hg
      subst hg
      exact .inr hl
  have hlL : L < w.heap.size := by
    have := (h8 P1 (.inl rfl))
    omega
  have hs := hk.1
  have hGlt : ∀ g, G' = some g → g < w'.heap.size := fun g hg => by
    obtain ⟨_, _, _, _, _, _, _, r, _⟩ := hE
    obtain ⟨cur, hc⟩ := r.blk g hg
    exact lt_of_block hc
  refine ⟨rfl, ⟨M1, G', own', k1, M2, G2, own2, k2, hE, h2.other h1 (Ne.symm h3) (Ne.symm h4) (fun g e1 e2 => h5 g e2 e1) hk hX, h3, h4, fun g hg hg2 => ?_, h6, h7, fun g hg => ?_⟩, Mid.of_kb hk (fun x hx => h8 x (by rcases hX x hx with h | h | h <;> simp [h])) (h1.not8 hX)⟩
  · rcases hGn g hg with h | h
    · exact h5 g h hg2
    · have := h8 g (by simp [hg2])
      omega
  · rcases hg with hg | hg | hg | hg
    · have := h8 g (by simp [hg]); omega
    · have := h8 g (by simp [hg]); omega
    · rcases hGn g hg with h | h
      · have := h8 g (by simp [h]); omega
      · have := hGlt g hg; omega
    · have := h8 g (by simp [hg]); omega
/-- what the first one's frames are -/
def FromT (w : World) (L B n P1 P2 : Nat) (s t : LE) (m : Nat) (ack : Bool) (e : Ending) (w' : World) : Prop :=
  ∃ v, e = .returned v ∧ FRw w' w.heap.size v (fromL s m ack).1 ∧ Two w' L B n P1 P2 (fromL s m ack).2 t ∧ Mid L B w w'
theorem two_from {w : World} {L B n P1 P2 : Nat} {s t : LE} (h : Two w L B n P1 P2 s t) (m : Nat) (ack : Bool) {F : Nat} {args : Array Value} (hc : ∀ M G own k, EndM w P1 M G own k s → Calls Try.prog F args w (FromPost w P1 M G own k s m ack)) : Calls Try.prog F args w (FromT w L B n P1 P2 s t m ack) := by
  obtain ⟨M1, G1, own1, k1, M2, G2, own2, k2, h1, h2, h3, h4, h5, h6, h7, h8⟩ := h
  refine (hc M1 G1 own1 k1 h1).mono ?_
  rintro e w' ⟨v, own3, rfl, hB, ho, hE, hk⟩
  exact ⟨v, rfl, ⟨own3, _, hB⟩, ⟨M1, G1, own1, k1, M2, G2, own2, k2, hE, h2.other h1 (Ne.symm h3) (Ne.symm h4) (fun g e1 e2 => h5 g e2 e1) hk (by simp), h3, h4, h5, h6, h7, h8⟩, Mid.of_kb hk (fun x hx => h8 x (by simp at hx; simp [hx])) (h1.not8 (by simp))⟩
theorem two_out {w : World} {L B n P1 P2 : Nat} {s t : LE} (h : Two w L B n P1 P2 s t) : Calls Try.prog 11 #[.pointer (some ⟨P1, 0, none⟩)] w (FromT w L B n P1 P2 s t s.fresh s.owes) := two_from h _ _ fun M G own k hE => lout_any w hE
theorem two_again {w : World} {L B n P1 P2 : Nat} {s t : LE} (h : Two w L B n P1 P2 s t) : Calls Try.prog 16 #[.pointer (some ⟨P1, 0, none⟩)] w (FromT w L B n P1 P2 s t s.first true) := two_from h _ _ fun M G own k hE => lagain_any w hE
theorem two_waits {w : World} {L B n P1 P2 : Nat} {s t : LE} (h : Two w L B n P1 P2 s t) : Calls Try.prog 13 #[.pointer (some ⟨P1, 0, none⟩)] w fun e w' => e = .returned (.int .i64 s.sent.length) ∧ w' = w := by
  obtain ⟨M1, G1, own1, k1, M2, G2, own2, k2, h1, _⟩ := h
  exact lwaits_any h1
theorem two_heard {w : World} {L B n P1 P2 : Nat} {s t : LE} (h : Two w L B n P1 P2 s t) : Calls Try.prog 14 #[.pointer (some ⟨P1, 0, none⟩)] w fun e w' => e = .returned (.int .i64 s.heard) ∧ w' = w := by
  obtain ⟨M1, G1, own1, k1, M2, G2, own2, k2, h1, _⟩ := h
  exact lheard_any h1
theorem two_next {w : World} {L B n P1 P2 : Nat} {s t : LE} (h : Two w L B n P1 P2 s t) : Calls Try.prog 15 #[.pointer (some ⟨P1, 0, none⟩)] w fun e w' => e = .returned (.int .i64 s.next) ∧ w' = w := by
  obtain ⟨M1, G1, own1, k1, M2, G2, own2, k2, h1, _⟩ := h
  exact lnext_any h1
theorem two_epoch {w : World} {L B n P1 P2 : Nat} {s t : LE} (h : Two w L B n P1 P2 s t) : Calls Try.prog 26 #[.pointer (some ⟨P1, 0, none⟩)] w fun e w' => e = .returned (.int .i64 s.ep) ∧ w' = w := by
  obtain ⟨M1, G1, own1, k1, M2, G2, own2, k2, h1, _⟩ := h
  exact lepoch_any h1
end Go.Proofs.Ytigmmikijjcdiaa
