/- The net of LinkOrder in memory: two ends, what is on its way, what was sent and told. -/
import Derived.Test.YtigmmikijjcdiaaProg
import Derived.Test.YtigmmikijjcdiaaLqLkd


namespace Go.Proofs.Ytigmmikijjcdiaa
open Go.RowKit
set_option linter.unusedVariables false
set_option linter.unusedSimpArgs false
def strs (xs : List BL) : List Value := xs.map fun b => .string ⟨b.toArray⟩
theorem strs_app (xs ys : List BL) : strs (xs ++ ys) = strs xs ++ strs ys := List.map_append
theorem strs_len (xs : List BL) : (strs xs).length = xs.length := List.length_map _
/-- a row of strings -/
def StrRow (w : World) (L : Nat) (tag : Nat → Option (Nat × Nat)) (t : Nat × Nat) (v : Value) (xs : List BL) : Prop :=
  (∃ A c, v = .slice A xs.length c) ∧ w.ownsRow L 9 1 v xs.length (strs xs) ∧ ∀ g, v.ownBlock = some g → tag g = some t
theorem StrRow.keep {w w' : World} {L : Nat} {tag tag' : Nat → Option (Nat × Nat)} {t : Nat × Nat} {v : Value} {xs : List BL} (h : StrRow w L tag t v xs) (hk : ∀ g cur, tag g = some t → w.heap[g]? = some (.cells cur 9 (0, 0)) → w'.heap[g]? = w.heap[g]? ∧ tag' g = some t) : StrRow w' L tag' t v xs := by
  obtain ⟨h1, h2, h3⟩ := h
  have hq : ∀ g, v.ownBlock = some g → w'.heap[g]? = w.heap[g]? ∧ tag' g = some t := fun g hg => by
    obtain ⟨cur, hc⟩ := own_type h2 g hg
    exact hk g cur (h3 g hg) hc
  exact ⟨h1, own_same h2 fun g hg => (hq g hg).1, fun g hg => (hq g hg).2⟩
/-- rows of strings, each in a cell of block B -/
def SRows (w : World) (L : Nat) (tag : Nat → Option (Nat × Nat)) (k B : Nat) (ls : List (List BL)) : Prop :=
  ∃ vs : List Value, w.heap[B]? = some (.cells vs.toArray 48 (0, 0)) ∧ vs.length = ls.length ∧ ∀ i v xs, vs[i]? = some v → ls[i]? = some xs → StrRow w L tag (k, i) v xs
theorem SRows.lt {w : World} {L : Nat} {tag : Nat → Option (Nat × Nat)} {k B : Nat} {ls : List (List BL)} (h : SRows w L tag k B ls) : B < w.heap.size := by
  obtain ⟨vs, h1, _⟩ := h
  exact lt_of_block h1
theorem SRows.keep {w w' : World} {L : Nat} {tag tag' : Nat → Option (Nat × Nat)} {k B : Nat} {ls : List (List BL)} (h : SRows w L tag k B ls) (hB : w'.heap[B]? = w.heap[B]?) (hk : ∀ g cur i, tag g = some (k, i) → w.heap[g]? = some (.cells cur 9 (0, 0)) → w'.heap[g]? = w.heap[g]? ∧ tag' g = some (k, i)) : SRows w' L tag' k B ls := by
  obtain ⟨vs, h1, h2, h3⟩ := h
  exact ⟨vs, hB.trans h1, h2, fun i v xs hv hx => (h3 i v xs hv hx).keep fun g cur hg hc => hk g cur i hg hc⟩
/-- the row at a place -/
theorem SRows.at_ {w : World} {L : Nat} {tag : Nat → Option (Nat × Nat)} {k B : Nat} {ls : List (List BL)} (h : SRows w L tag k B ls) {a : Nat} {xs : List BL} (ha : ls[a]? = some xs) : ∃ v, w.cell? ⟨B, a, none⟩ = some v ∧ StrRow w L tag (k, a) v xs := by
  obtain ⟨vs, h1, h2, h3⟩ := h
  have hl := (List.getElem?_eq_some_iff.1 ha).1
  obtain ⟨v, hv⟩ : ∃ v, vs[a]? = some v := ⟨_, List.getElem?_eq_getElem (by omega)⟩
  exact ⟨v, (cell_of_row _ _ a _ _ _ h1).trans (by rw [List.getElem?_toArray]; exact hv), h3 a v xs hv ha⟩
theorem SRows.frozen {w : World} {L : Nat} {tag : Nat → Option (Nat × Nat)} {k B : Nat} {ls : List (List BL)} (h : SRows w L tag k B ls) (a : Nat) : w.frozen? ⟨B, a, none⟩ = false := by
  obtain ⟨vs, h1, h2, h3⟩ := h
  exact frozen_of_row _ _ a _ _ h1
/-- the tags behind a new row at (k, a) -/
def tagN (tag : Nat → Option (Nat × Nat)) (v' : Value) (t : Nat × Nat) : Nat → Option (Nat × Nat) := fun g => if v'.ownBlock = some g then some t else tag g
section
variable {x y : World} {L k a B : Nat} {tag : Nat → Option (Nat × Nat)} {v v' : Value} {xs xs' : List BL}
/-- rows of another kind stay -/
theorem SRows.others {k' B' : Nat} {ls : List (List BL)} (h : SRows x L tag k' B' ls) (hk : k' ≠ k) (hB : B' ≠ B) (hold : StrRow x L tag (k, a) v xs) (hTB : ∃ cur, x.heap[B]? = some (.cells cur 48 (0, 0)))
    (hs : ∀ g, g < x.heap.size → v.ownBlock ≠ some g → y.heap[g]? = x.heap[g]?) (hn : ∀ g, v'.ownBlock = some g → v.ownBlock = some g ∨ x.heap.size ≤ g) : SRows (y.setCell ⟨B, a, none⟩ v') L (tagN tag v' (k, a)) k' B' ls := by
  obtain ⟨vs, q1, q2, q3⟩ := id h
  have hb : ∀ g, v.ownBlock = some g → ∃ cur, x.heap[g]? = some (.cells cur 9 (0, 0)) := fun g hg => own_type hold.2.1 g hg
  obtain ⟨curB, hcB⟩ := hTB
  refine h.keep ?_ fun g cur i hg hc => ⟨?_, ?_⟩
  · rw [Below.heap_setCell _ _ _ _ hB]
    refine hs B' (lt_of_block q1) fun e => ?_
    obtain ⟨cur, hc⟩ := hb B' e
    exact row_ne hc q1 (by decide) rfl
  · rw [Below.heap_setCell _ _ _ _ (row_ne hc hcB (by decide))]
    refine hs g (lt_of_block hc) fun e => ?_
    have := hold.2.2 g e
    rw [hg] at this
    injection this with this
    injection this with this _
    exact hk this
  · unfold tagN
    rw [if_neg fun e => ?_]
    · exact hg
    · rcases hn g e with h1 | h1
      · have := hold.2.2 g h1
        rw [hg] at this
        injection this with this
        injection this with this _
        exact hk this
      · have := lt_of_block hc
        omega
/-- the row at a is another one -/
theorem SRows.upd {ls : List (List BL)} (h : SRows x L tag k B ls) (ha : ls[a]? = some xs) (hold : StrRow x L tag (k, a) v xs)
    (hs : ∀ g, g < x.heap.size → v.ownBlock ≠ some g → y.heap[g]? = x.heap[g]?) (hn : ∀ g, v'.ownBlock = some g → v.ownBlock = some g ∨ x.heap.size ≤ g) (hf : ∃ A c, v' = .slice A xs'.length c) (ho : y.ownsRow L 9 1 v' xs'.length (strs xs')) : SRows (y.setCell ⟨B, a, none⟩ v') L (tagN tag v' (k, a)) k B (ls.set a xs') := by
  obtain ⟨vs, q1, q2, q3⟩ := h
  have hb : ∀ g, v.ownBlock = some g → ∃ cur, x.heap[g]? = some (.cells cur 9 (0, 0)) := fun g hg => own_type hold.2.1 g hg
  have hyB : y.heap[B]? = some (.cells vs.toArray 48 (0, 0)) := (hs B (lt_of_block q1) fun e => by
    obtain ⟨cur, hc⟩ := hb B e
    exact row_ne hc q1 (by decide) rfl).trans q1
  refine ⟨vs.set a v', ?_, by simp [q2], fun i u ys hu hy => ?_⟩
  · have h := heap_setCell_same _ B a _ _ v' hyB
    rw [h]
    simp
  · by_cases hi : i = a
    · subst hi
      have hl := (List.getElem?_eq_some_iff.1 ha).1
      rw [List.getElem?_set_self (by omega)] at hu hy
      injection hu with hu
      injection hy with hy
      subst hu hy
      refine ⟨hf, own_same ho fun g hg => ?_, fun g hg => by unfold tagN; rw [if_pos hg]⟩
      obtain ⟨cur, hc⟩ := own_type ho g hg
      exact Below.heap_setCell _ _ _ _ (row_ne hc hyB (by decide))
    · rw [List.getElem?_set_ne (Ne.symm hi)] at hu hy
      refine (q3 i u ys hu hy).keep fun g cur hg hc => ⟨?_, ?_⟩
      · rw [Below.heap_setCell _ _ _ _ (row_ne hc q1 (by decide))]
        refine hs g (lt_of_block hc) fun e => ?_
        have := hold.2.2 g e
        rw [hg] at this
        injection this with this
        injection this with _ this
        exact hi this
      · unfold tagN
        rw [if_neg fun e => ?_]
        · exact hg
        · rcases hn g e with h1 | h1
          · have := hold.2.2 g h1
            rw [hg] at this
            injection this with this
            injection this with _ this
            exact hi this
          · have := lt_of_block hc
            omega
end
/-- the net -/
structure NetM (w : World) (L W E Y U T P1 P2 : Nat) (tag : Nat → Option (Nat × Nat)) (ways puts gots : List (List BL)) (bad : Bool) : Prop where
  wd : w.heap[W]? = some (.cells #[.slice (some ⟨E, 0, none⟩) 2 2, .slice (some ⟨Y, 0, none⟩) 2 2, .slice (some ⟨U, 0, none⟩) 2 2, .slice (some ⟨T, 0, none⟩) 2 2, .bool bad] 45 (0, 0))
  en : w.heap[E]? = some (.cells #[.pointer (some ⟨P1, 0, none⟩), .pointer (some ⟨P2, 0, none⟩)] 25 (0, 0))
  way : SRows w L tag 0 Y ways
  put : SRows w L tag 1 U puts
  got : SRows w L tag 2 T gots
  ne : Y ≠ U ∧ Y ≠ T ∧ U ≠ T
  lo : L ≤ W ∧ L ≤ Y ∧ L ≤ U ∧ L ≤ T
  len : ways.length = 2 ∧ puts.length = 2 ∧ gots.length = 2
/-- what the net's own doing leaves -/
structure ModN (L : Nat) (w w' : World) : Prop where
  size : w.heap.size ≤ w'.heap.size
  env : Env w w'
  low : ∀ g, g < w.heap.size → g < L → w'.heap[g]? = w.heap[g]?
  oth : ∀ g, g < w.heap.size → (∀ cur T, w.heap[g]? = some (.cells cur T (0, 0)) → T ≠ 45 ∧ T ≠ 48 ∧ T ≠ 9) → w'.heap[g]? = w.heap[g]?
theorem ModN.of_below {L : Nat} {w w' : World} (h : Below w.heap.size w w') : ModN L w w' := ⟨h.size, Env.of_below h, fun g hg _ => h.block g hg, fun g hg _ => h.block g hg⟩
theorem ModN.toBelow {L : Nat} {w w' : World} (h : ModN L w w') (hl : L ≤ w.heap.size) : Below L w w' := ⟨h.2.1, h.2.2.1, h.2.2.2, h.1, fun g hg => h.low g (by omega) hg⟩
theorem ModN.cells {L : Nat} {w w' : World} (h : ModN L w w') {g : Nat} {cs : Array Value} {T : TypeId} (hc : w.heap[g]? = some (.cells cs T (0, 0))) (h1 : T ≠ 45) (h2 : T ≠ 48) (h3 : T ≠ 9) : w'.heap[g]? = some (.cells cs T (0, 0)) := (h.oth g (lt_of_block hc) fun cur T' hc' => by
  rw [hc] at hc'
  injection hc' with hc'
  injection hc' with _ hc'
  subst hc'
  exact ⟨h1, h2, h3⟩).trans hc
theorem ModN.trans {L : Nat} {a b c : World} (h : ModN L a b) (h' : ModN L b c) : ModN L a c := ⟨Nat.le_trans h.1 h'.1, h.2.trans h'.2, fun g hl hg => (h'.low g (Nat.lt_of_lt_of_le hl h.1) hg).trans (h.low g hl hg), fun g hl hg => by
  have e := h.oth g hl hg
  exact (h'.oth g (Nat.lt_of_lt_of_le hl h.1) (by rw [e]; exact hg)).trans e⟩
/-- the ends stay -/
theorem EndM.modn {w w' : World} {L P M : Nat} {G : Option Nat} {own : Nat → Option (Bool × Nat)} {k : Nat} {s : LE} (h : EndM w P M G own k s) (hm : ModN L w w') : EndM w' P M G own k s := by
  obtain ⟨_, _, _, _, _, _, p1, r1, _, ⟨⟨es1, cl1, m1, _⟩, _⟩, _⟩ := id h
  refine h.keepT hm.1 fun g hl hc => hm.oth g hl fun cur T hT => ?_
  have hq : ∀ {cs : Array Value} {T' : TypeId}, w.heap[g]? = some (.cells cs T' (0, 0)) → T = T' := fun h' => by
    rw [hT] at h'
    injection h' with h'
    injection h'
  rcases hc with rfl | rfl | hc | ⟨cur', hc⟩
  · rw [hq p1]; decide
  · rw [hT] at m1; cases m1
  · obtain ⟨cur', h'⟩ := r1.blk g hc
    rw [hq h']; decide
  · rw [hq hc]; decide
theorem Two.modn {w w' : World} {L L' B n P1 P2 : Nat} {s t : LE} (h : Two w L B n P1 P2 s t) (hm : ModN L' w w') : Two w' L B n P1 P2 s t := by
  obtain ⟨M1, G1, own1, k1, M2, G2, own2, k2, h1, h2, h3⟩ := h
  exact ⟨M1, G1, own1, k1, M2, G2, own2, k2, h1.modn hm, h2.modn hm, h3⟩
theorem FRw.modn {w w' : World} {L B : Nat} {v : Value} {fs : List BL} (h : FRw w B v fs) (hm : ModN L w w') : FRw w' B v fs := by
  obtain ⟨own, tg, ⟨A, c, vs, h1, h2, h3, h4⟩⟩ := h
  refine ⟨own, tg, ⟨A, c, vs, h1, own_same h2 fun g hg => ?_, fun i u b hu hb => (h3 i u b hu hb).keep fun g cur hg hc => ⟨?_, hg⟩, h4⟩⟩
  · obtain ⟨cur, hc⟩ := own_type h2 g hg
    exact (hm.cells hc (by decide) (by decide) (by decide)).trans hc.symm
  · exact (hm.cells hc (by decide) (by decide) (by decide)).trans hc.symm
/-- what an end's call leaves: the net -/
theorem NetM.mid {w w' : World} {L L' B W E Y U T P1 P2 : Nat} {tag : Nat → Option (Nat × Nat)} {ways puts gots : List (List BL)} {bad : Bool} (h : NetM w L W E Y U T P1 P2 tag ways puts gots bad) (hm : Mid L' B w w') : NetM w' L W E Y U T P1 P2 tag ways puts gots bad := by
  have hq : ∀ {k B : Nat} {ls : List (List BL)}, SRows w L tag k B ls → SRows w' L tag k B ls := fun h => by
    obtain ⟨vs, h1, _⟩ := id h
    exact h.keep (hm.oth _ _ _ h1 (by decide) (by decide)) fun g cur i hg hc => ⟨hm.oth _ _ _ hc (by decide) (by decide), hg⟩
  exact ⟨(hm.oth _ _ _ h.wd (by decide) (by decide)).trans h.wd, (hm.oth _ _ _ h.en (by decide) (by decide)).trans h.en, hq h.way, hq h.put, hq h.got, h.ne, h.lo, h.len⟩
theorem NetM.next {w w' : World} {L W E Y U T P1 P2 : Nat} {tag : Nat → Option (Nat × Nat)} {ways puts gots : List (List BL)} {bad : Bool} (h : NetM w L W E Y U T P1 P2 tag ways puts gots bad) (hb : Below w.heap.size w w') : NetM w' L W E Y U T P1 P2 tag ways puts gots bad := h.mid (L' := 0) (B := 0) (Mid.of_below hb)
/-- a row is stored -/
theorem modn_upd {x y : World} {L k a B : Nat} {tag : Nat → Option (Nat × Nat)} {v v' : Value} {xs : List BL} (hold : StrRow x L tag (k, a) v xs) (hTB : ∃ cur, x.heap[B]? = some (.cells cur 48 (0, 0))) (hB : L ≤ B) (hsz : x.heap.size ≤ y.heap.size) (he : Env x y)
    (hs : ∀ g, g < x.heap.size → v.ownBlock ≠ some g → y.heap[g]? = x.heap[g]?) : ModN L x (y.setCell ⟨B, a, none⟩ v') := by
  obtain ⟨curB, hcB⟩ := hTB
  refine ⟨by rw [World.size_setCell]; exact hsz, he.setCell _ _, fun g hg hl => ?_, fun g hg ht => ?_⟩
  · rw [Below.heap_setCell _ _ _ _ (by show g ≠ B; omega)]
    exact hs g hg fun e => by have := (hold.2.1.lt g e).1; omega
  · rw [Below.heap_setCell _ _ _ _ (by rintro rfl; exact (ht _ _ hcB).2.1 rfl)]
    refine hs g hg fun e => ?_
    obtain ⟨cur, hc⟩ := own_type hold.2.1 g e
    exact (ht _ _ hc).2.2 rfl
section
variable {x y : World} {L W E Y U T P1 P2 a : Nat} {tag : Nat → Option (Nat × Nat)} {ways puts gots : List (List BL)} {bad : Bool} {v v' : Value} {xs xs' : List BL}
theorem NetM.cellsW (h : NetM x L W E Y U T P1 P2 tag ways puts gots bad) {g : Nat} (hg : v.ownBlock = some g) (k : Nat) (hold : StrRow x L tag (k, a) v xs) : g ≠ W ∧ g ≠ E := by
  obtain ⟨cur, hc⟩ := own_type hold.2.1 g hg
  exact ⟨row_ne hc h.wd (by decide), row_ne hc h.en (by decide)⟩
/-- what is on its way to an end -/
theorem NetM.updWay (h : NetM x L W E Y U T P1 P2 tag ways puts gots bad) (ha : ways[a]? = some xs) (hold : StrRow x L tag (0, a) v xs) (hsz : x.heap.size ≤ y.heap.size)
    (hs : ∀ g, g < x.heap.size → v.ownBlock ≠ some g → y.heap[g]? = x.heap[g]?) (hn : ∀ g, v'.ownBlock = some g → v.ownBlock = some g ∨ x.heap.size ≤ g) (hf : ∃ A c, v' = .slice A xs'.length c) (ho : y.ownsRow L 9 1 v' xs'.length (strs xs')) : NetM (y.setCell ⟨Y, a, none⟩ v') L W E Y U T P1 P2 (tagN tag v' (0, a)) (ways.set a xs') puts gots bad := by
  obtain ⟨vs, q1, _⟩ := id h.way
  have hTB : ∃ cur, x.heap[Y]? = some (.cells cur 48 (0, 0)) := ⟨_, q1⟩
  refine ⟨?_, ?_, h.way.upd ha hold hs hn hf ho, h.put.others (by decide) (Ne.symm h.ne.1) hold hTB hs hn, h.got.others (by decide) (Ne.symm h.ne.2.1) hold hTB hs hn, h.ne, h.lo, ⟨by simp [h.len.1], h.len.2⟩⟩
  · rw [Below.heap_setCell _ _ _ _ (row_ne h.wd q1 (by decide))]
    exact (hs W (lt_of_block h.wd) fun e => (h.cellsW e 0 hold).1 rfl).trans h.wd
  · rw [Below.heap_setCell _ _ _ _ (row_ne h.en q1 (by decide))]
    exact (hs E (lt_of_block h.en) fun e => (h.cellsW e 0 hold).2 rfl).trans h.en
/-- what an end was given to send -/
theorem NetM.updPut (h : NetM x L W E Y U T P1 P2 tag ways puts gots bad) (ha : puts[a]? = some xs) (hold : StrRow x L tag (1, a) v xs) (hsz : x.heap.size ≤ y.heap.size)
    (hs : ∀ g, g < x.heap.size → v.ownBlock ≠ some g → y.heap[g]? = x.heap[g]?) (hn : ∀ g, v'.ownBlock = some g → v.ownBlock = some g ∨ x.heap.size ≤ g) (hf : ∃ A c, v' = .slice A xs'.length c) (ho : y.ownsRow L 9 1 v' xs'.length (strs xs')) : NetM (y.setCell ⟨U, a, none⟩ v') L W E Y U T P1 P2 (tagN tag v' (1, a)) ways (puts.set a xs') gots bad := by
  obtain ⟨vs, q1, _⟩ := id h.put
  have hTB : ∃ cur, x.heap[U]? = some (.cells cur 48 (0, 0)) := ⟨_, q1⟩
  refine ⟨?_, ?_, h.way.others (by decide) h.ne.1 hold hTB hs hn, h.put.upd ha hold hs hn hf ho, h.got.others (by decide) (Ne.symm h.ne.2.2) hold hTB hs hn, h.ne, h.lo, ⟨h.len.1, by simp [h.len.2.1], h.len.2.2⟩⟩
  · rw [Below.heap_setCell _ _ _ _ (row_ne h.wd q1 (by decide))]
    exact (hs W (lt_of_block h.wd) fun e => (h.cellsW e 1 hold).1 rfl).trans h.wd
  · rw [Below.heap_setCell _ _ _ _ (row_ne h.en q1 (by decide))]
    exact (hs E (lt_of_block h.en) fun e => (h.cellsW e 1 hold).2 rfl).trans h.en
/-- what an end was told -/
theorem NetM.updGot (h : NetM x L W E Y U T P1 P2 tag ways puts gots bad) (ha : gots[a]? = some xs) (hold : StrRow x L tag (2, a) v xs) (hsz : x.heap.size ≤ y.heap.size)
    (hs : ∀ g, g < x.heap.size → v.ownBlock ≠ some g → y.heap[g]? = x.heap[g]?) (hn : ∀ g, v'.ownBlock = some g → v.ownBlock = some g ∨ x.heap.size ≤ g) (hf : ∃ A c, v' = .slice A xs'.length c) (ho : y.ownsRow L 9 1 v' xs'.length (strs xs')) : NetM (y.setCell ⟨T, a, none⟩ v') L W E Y U T P1 P2 (tagN tag v' (2, a)) ways puts (gots.set a xs') bad := by
  obtain ⟨vs, q1, _⟩ := id h.got
  have hTB : ∃ cur, x.heap[T]? = some (.cells cur 48 (0, 0)) := ⟨_, q1⟩
  refine ⟨?_, ?_, h.way.others (by decide) h.ne.2.1 hold hTB hs hn, h.put.others (by decide) h.ne.2.2 hold hTB hs hn, h.got.upd ha hold hs hn hf ho, h.ne, h.lo, ⟨h.len.1, h.len.2.1, by simp [h.len.2.2]⟩⟩
  · rw [Below.heap_setCell _ _ _ _ (row_ne h.wd q1 (by decide))]
    exact (hs W (lt_of_block h.wd) fun e => (h.cellsW e 2 hold).1 rfl).trans h.wd
  · rw [Below.heap_setCell _ _ _ _ (row_ne h.en q1 (by decide))]
    exact (hs E (lt_of_block h.en) fun e => (h.cellsW e 2 hold).2 rfl).trans h.en
/-- the cell that a row stands in -/
theorem NetM.blkT (h : NetM x L W E Y U T P1 P2 tag ways puts gots bad) : (∃ cur, x.heap[Y]? = some (.cells cur 48 (0, 0))) ∧ (∃ cur, x.heap[U]? = some (.cells cur 48 (0, 0))) ∧ ∃ cur, x.heap[T]? = some (.cells cur 48 (0, 0)) := by
  obtain ⟨v1, q1, _⟩ := h.way
  obtain ⟨v2, q2, _⟩ := h.put
  obtain ⟨v3, q3, _⟩ := h.got
  exact ⟨⟨_, q1⟩, ⟨_, q2⟩, ⟨_, q3⟩⟩
end
/-- the strings of a row, as they are read -/
theorem StrRow.rd {w : World} {L : Nat} {tag : Nat → Option (Nat × Nat)} {t : Nat × Nat} {v : Value} {xs : List BL} (h : StrRow w L tag t v xs) : ∃ A c, v = .slice A xs.length c ∧ Rd w w.heap.size A (strs xs) ∧ xs.length ≤ c ∧ c ≤ 9223372036854775807 := by
  obtain ⟨⟨A, c, rfl⟩, h2, h3⟩ := h
  refine ⟨A, c, rfl, Rd.of_own h2, ?_⟩
  obtain ⟨h4, h5⟩ := h2
  rcases h5 with ⟨h0, h00⟩ | ⟨g, cap, cur, hv, hg, hc, hn, hm, hs, _⟩
  · injection h0 with _ h0 h01
    subst h01
    omega
  · injection hv with _ _ hv
    subst hv
    unfold maxLen at hm
    exact ⟨hn, hm⟩
end Go.Proofs.Ytigmmikijjcdiaa
