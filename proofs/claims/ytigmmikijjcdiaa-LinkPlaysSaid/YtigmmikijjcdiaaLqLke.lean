/- An end of a link in memory. -/
import Derived.Maps.Own
import Derived.Maps.OwnSet
import Derived.Maps.OwnOps
import Derived.Maps.Views
import Derived.Maps.Keyed
import Derived.ArgAppend
import Derived.Test.YtigmmikijjcdiaaLqKbe
import Derived.Test.YtigmmikijjcdiaaLqLkr








namespace Go.Proofs.Ytigmmikijjcdiaa
open Go.RowKit
set_option linter.unusedVariables false
def lk (x : Int) : Lit := .int .i64 x
theorem lk_key (x : Int) : WideAt.IsKeyLit (lk x) := by trivial
theorem lk_ne {x y : Nat} (h : x ≠ y) : lk x ≠ lk y := fun e => by unfold lk at e; injection e with _ e; omega
/-- any value as data: itself -/
def heldElem (v : Value) : Option (DataW Value × List MemPlace) := some (.held v, [])
theorem heldElem_inv {v u : Value} {ps : List MemPlace} (e : heldElem v = some (.held u, ps)) : v = u := by
  unfold heldElem at e
  injection e with e
  injection e with e1 e2
  injection e1
/-- the map of what came ahead, as a function -/
structure AhIs (D : DataW Value) (f : Nat → Option Value) : Prop where
  map : Maps.IsMap D
  has : ∀ k : Nat, Maps.has D (lk k) = (f k).isSome
  at_ : ∀ (k : Nat) z, D.atKey (lk k) z = match f k with | some x => .held x | none => z
theorem AhIs.empty : AhIs (.map []) (fun _ => none) := ⟨Maps.isMap_empty, fun _ => rfl, fun _ _ => rfl⟩
theorem AhIs.put {D : DataW Value} {f : Nat → Option Value} (h : AhIs D f) (k : Nat) (x : Value) : AhIs (D.put (lk k) (.held x)) (fun u => if u = k then some x else f u) := by
  refine ⟨h.map.put _ _, fun u => ?_, fun u z => ?_⟩
  · by_cases hu : u = k
    · subst hu
      rw [if_pos rfl, Maps.has_put_same h.map (lk_key _)]
      rfl
    · rw [if_neg hu, Maps.has_put_other (lk_ne hu)]
      exact h.has u
  · by_cases hu : u = k
    · subst hu
      rw [if_pos rfl, Maps.atKey_put_same h.map (lk_key _)]
    · rw [if_neg hu, Maps.atKey_put_other (lk_ne hu)]
      exact h.at_ u z
theorem AhIs.del {D : DataW Value} {f : Nat → Option Value} (h : AhIs D f) (k : Nat) : AhIs (D.del (lk k)) (fun u => if u = k then none else f u) := by
  refine ⟨h.map.del _, fun u => ?_, fun u z => ?_⟩
  · by_cases hu : u = k
    · subst hu
      rw [if_pos rfl, Maps.has_del_same]
      rfl
    · rw [if_neg hu, Maps.has_del_other (lk_ne hu)]
      exact h.has u
  · by_cases hu : u = k
    · subst hu
      rw [if_pos rfl, Maps.atKey_del_same]
    · rw [if_neg hu, Maps.atKey_del_other (lk_ne hu)]
      exact h.at_ u z
/-- a row of rows of bytes, that may begin inside its block -/
def SRow (w : World) (G : Option Nat) (v : Value) (vs : List Value) : Prop :=
  ∃ A c, v = .slice A vs.length c ∧ vs.length ≤ c ∧ c ≤ maxLen ∧ (∀ u ∈ vs, u.oneCell' = true) ∧ (∀ g, G = some g → ∃ cur, w.heap[g]? = some (.cells cur 23 (0, 0))) ∧
    (0 < c → ∃ g off cur, G = some g ∧ A = some ⟨g, off, none⟩ ∧ w.heap[g]? = some (.cells cur 23 (0, 0)) ∧ off + c ≤ cur.size ∧ ∀ j u, vs[j]? = some u → cur[off + j]? = some u)
theorem SRow.nil (w : World) : SRow w none (.slice none 0 0) [] := ⟨none, 0, rfl, Nat.le_refl _, by decide, (fun _ h => by simp at h), (fun _ h => by cases h), fun h => by omega⟩
theorem SRow.blk {w : World} {G : Option Nat} {v : Value} {vs : List Value} (h : SRow w G v vs) : ∀ g, G = some g → ∃ cur, w.heap[g]? = some (.cells cur 23 (0, 0)) := by
  obtain ⟨A, c, h1, h2, h3, h4, hg, h5⟩ := h
  exact hg
theorem SRow.keep {w w' : World} {G : Option Nat} {v : Value} {vs : List Value} (h : SRow w G v vs) (hk : ∀ g, G = some g → g < w.heap.size → w'.heap[g]? = w.heap[g]?) : SRow w' G v vs := by
  obtain ⟨A, c, h1, h2, h3, h4, hg, h5⟩ := h
  refine ⟨A, c, h1, h2, h3, h4, fun g e => by obtain ⟨cur, h⟩ := hg g e; exact ⟨cur, (hk g e (lt_of_block h)).trans h⟩, fun hc => ?_⟩
  obtain ⟨g, off, cur, e1, e2, e3, e4, e5⟩ := h5 hc
  exact ⟨g, off, cur, e1, e2, (hk g e1 (lt_of_block e3)).trans e3, e4, e5⟩
/-- the cells, as they are read -/
theorem SRow.at_ {w : World} {G : Option Nat} {A : Option Addr} {n c : Nat} {vs : List Value} (h : SRow w G (.slice A n c) vs) {i : Nat} {u : Value} (hi : vs[i]? = some u) : ∃ g off, A = some ⟨g, off, none⟩ ∧ n = vs.length ∧ g < w.heap.size ∧ G = some g ∧ w.cell? ⟨g, off + i, none⟩ = some u := by
  obtain ⟨A', c', h1, h2, h3, h4, hg, h5⟩ := h
  injection h1 with e1 e2 e3
  have hl := (List.getElem?_eq_some_iff.1 hi).1
  obtain ⟨g, off, cur, f1, f2, f3, f4, f5⟩ := h5 (by omega)
  exact ⟨g, off, e1.trans f2, e2, lt_of_block f3, f1, (cell_of_row w g _ cur _ _ f3).trans (f5 i u hi)⟩
/-- the first ones are dropped -/
theorem SRow.drop {w : World} {G : Option Nat} {A : Option Addr} {n c : Nat} {vs : List Value} (h : SRow w G (.slice A n c) vs) {k : Nat} (hk : k ≤ vs.length) (A' : Option Addr) (hA : k < c → ∀ g off, A = some ⟨g, off, none⟩ → A' = some ⟨g, off + k, none⟩) : SRow w G (.slice A' (n - k) (c - k)) (vs.drop k) := by
  obtain ⟨B, c', h1, h2, h3, h4, hg, h5⟩ := h
  injection h1 with e1 e2 e3
  subst e3
  refine ⟨A', c - k, by rw [List.length_drop, e2], by rw [List.length_drop]; omega, by omega, fun u hu => h4 u (List.mem_of_mem_drop hu), hg, fun hc => ?_⟩
  obtain ⟨g, off, cur, f1, f2, f3, f4, f5⟩ := h5 (by omega)
  refine ⟨g, off + k, cur, f1, hA (by omega) g off (e1.trans f2), f3, by omega, fun j u hu => ?_⟩
  rw [List.getElem?_drop] at hu
  have := f5 _ _ hu
  rwa [show off + k + j = off + (k + j) by omega]
section
variable {P : Program} {w : World}
/-- one is put behind, as an operation -/
theorem op_srow {o : Oper} {a : Act} {K : Act → World → Prop} {Q : Exit → Act → World → Prop} (s x : Operand) (t : TypeId)
    (ho : o.op = .call { callee := .builtin .append, args := #[s, x], argTypes := #[t, t] })
    (i : TypeInfo) (z : Value) (ht : P.underlying t = some (.slice 23)) (hi : P.info? 23 = some i) (hz : i.zero = some z)
    (hsize : i.size = 1) (hby : i.bytes = 24) (hzs : z.cells.size = 1)
    (v : Value) (G : Option Nat) (vs : List Value) (hs : a.eval s = v) (h : SRow w G v vs)
    (ad : Addr) (c : Nat) (u : Value) (hx : a.eval x = .slice (some ad) 1 c) (hu : w.cell? ad = some u) (h1 : u.oneCell' = true) (hn : vs.length < 1000000)
    (hK : ∀ v' w' G', SRow w' G' v' (vs ++ [u]) → KB G.toList w w' → (G' = G ∨ ∃ g, G' = some g ∧ w.heap.size ≤ g) → K (a.put o.dst v') w') : Oper.wp P o a w K Q := by
  obtain ⟨A, cap, rfl, h2, h3, h4, hgb, h5⟩ := h
  have hads : ∀ j u', [u][j]? = some u' → w.cell? (ad.add j) = some u' := fun j u' hj => by
    rcases j with _ | j
    · simp at hj; subst hj; rw [Addr.add_zero']; exact hu
    · simp at hj
  have h1c : ∀ y ∈ [u], y.oneCell' = true := fun y hy => by simp at hy; subst hy; exact h1
  have hall : ∀ y ∈ vs ++ [u], y.oneCell' = true := fun y hy => by
    rcases List.mem_append.1 hy with hy | hy
    · exact h4 y hy
    · exact h1c y hy
  have own2 : ∀ v' w', w'.ownsRow w.heap.size 23 1 v' (vs.length + 1) (vs ++ [u]) → w.grownBy w' none → K (a.put o.dst v') w' := fun v' w' r1 r2 => by
    obtain ⟨r3, r4⟩ := r1
    rcases r4 with ⟨_, h0⟩ | ⟨g, cap', cur, e1, e2, e3, e4, e5, e6, e7⟩
    · omega
    · refine hK v' w' (some g) ⟨some ⟨g, 0, none⟩, cap', by rw [e1]; simp, by simpa using e4, e5, hall, fun g' hg' => by injection hg' with hg'; subst hg'; exact ⟨cur, e3⟩, fun _ => ⟨g, 0, cur, rfl, rfl, e3, by omega, fun j y hj => ?_⟩⟩ ⟨r2.size, fun b hb _ => r2.block b hb (by simp), Env.of_grown r2⟩ (.inr ⟨g, rfl, e2⟩)
      rw [← e7, List.getElem?_take] at hj
      split at hj
      · rw [Nat.zero_add]
        simpa using hj
      · cases hj
  have hmx : vs.length + 1 ≤ maxLen := by unfold maxLen; omega
  have hby2 : (vs.length + 1) * 24 ≤ 140737488355328 := by omega
  have hrun : ∀ v' w', (Builtin.append_ #[t, t] o.type #[.slice A vs.length cap, .slice (some ad) 1 c]).run P w = .ok v' w' → K (a.put o.dst v') w' → Oper.wp P o a w K Q := fun v' w' hr hk => by
    unfold Oper.wp execOp
    simp only [ho, resolve, invoke, builtin, Sem.run_bind, Sem.run_pure, Result.andThen_ok, List.map_toArray, List.map_cons, List.map_nil, hs, hx, hr]
    exact hk
  rcases A with _ | b
  · have hc0 : cap = 0 := by
      rcases Nat.eq_zero_or_pos cap with h0 | h0
      · exact h0
      · obtain ⟨g, off, cur, _, e2, _⟩ := h5 h0
        cases e2
    subst hc0
    obtain rfl : vs = [] := List.eq_nil_of_length_eq_zero (by omega)
    obtain ⟨v', w', hr, r1, r2, _⟩ := run_append_own (P := P) w w.heap.size t o.type 23 i z 1 24 ht hi hz hsize hby hzs (by omega) (.slice none 0 0) 0 [] (World.ownsRow_nil w _ _ 1) ad 1 c [u] rfl hads h1c hmx hby2 (Nat.le_refl _)
    exact hrun v' w' hr (own2 v' w' r1 r2)
  · rcases Nat.lt_or_ge vs.length cap with hr | hr
    · obtain ⟨g, off, cur, e1, e2, e3, e4, e5⟩ := h5 (by omega)
      injection e2 with e2
      subst e2
      have hcell : ∀ j, j < 1 → (w.cell? ⟨g, off + vs.length * i.size + j, none⟩).isSome = true := fun j hj => by
        rw [cell_of_row w g _ cur _ _ e3, hsize, Array.getElem?_eq_getElem (by omega)]
        rfl
      have hsame : (w.setCells g (off + vs.length * i.size) [u]).heap[g]? = some (.cells (cur.setIfInBounds (off + vs.length) u) 23 (0, 0)) := by
          rw [hsize, Nat.mul_one]
          show (w.setCell ⟨g, off + vs.length, none⟩ u).heap[g]? = _
          simp only [World.setCell, Array.getElem?_modify]
          rw [if_pos trivial, e3]
          rfl
      have hrn := run_append_room_cells (P := P) w t o.type 23 i ht hi g off vs.length cap ad 1 c [u] (by rw [hsize]; rfl) hads h1c (by omega) (fun j hj => hcell j hj) (fun j hj => frozen_of_row w g _ cur _ e3)
      refine hrun _ _ hrn (hK _ _ (some g) ⟨some ⟨g, off, none⟩, cap, by rw [List.length_append]; rfl, by rw [List.length_append]; exact hr, h3, hall, fun g' hg' => by injection hg' with hg'; subst hg'; exact ⟨_, hsame⟩, fun _ => ⟨g, off, cur.setIfInBounds (off + vs.length) u, rfl, rfl, hsame, by rw [Array.size_setIfInBounds]; exact e4, fun j y hj => ?_⟩⟩ ?_ (.inl e1.symm))
      · rw [Array.getElem?_setIfInBounds]
        by_cases hj2 : j = vs.length
        · subst hj2
          rw [if_pos rfl, if_pos (by omega)]
          simpa using hj
        · rw [if_neg (by omega)]
          refine e5 j y ?_
          rcases Nat.lt_or_ge j vs.length with hl | hl
          · rwa [List.getElem?_append_left hl] at hj
          · rw [List.getElem?_eq_none (by rw [List.length_append]; simp; omega)] at hj
            cases hj
      · rw [hsize, Nat.mul_one]
        show KB G.toList w (w.setCell ⟨g, off + vs.length, none⟩ u)
        exact (KB.refl _ _).setCell (.inr (by rw [e1]; simp)) u
    · have holds : ∀ j y, vs[j]? = some y → w.cell? (b.add j) = some y := fun j y hj => by
        have hl := (List.getElem?_eq_some_iff.1 hj).1
        obtain ⟨g, off, cur, e1, e2, e3, e4, e5⟩ := h5 (by omega)
        injection e2 with e2
        subst e2
        rw [Addr.add_lit, cell_of_row w g _ cur _ _ e3]
        exact e5 j y hj
      obtain ⟨v', w', hr2, r1, r2⟩ := run_append_arg_grows (P := P) w t o.type 23 i z 1 24 ht hi hz hsize hby hzs (by omega) b vs.length cap vs (by omega) holds ad 1 c [u] rfl hads (by omega) hmx hby2
      exact hrun v' w' hr2 (own2 v' w' r1 r2)
end
/-- a row of bytes of an end: no other row of it lies in its block -/
def ByV (w : World) (own : Nat → Option (Bool × Nat)) (tg : Bool × Nat) (v : Value) (b : BL) : Prop :=
  (∃ A c, v = .slice A b.length c) ∧ (b ≠ [] → w.ownsRow 0 5 1 v b.length (u8s b) ∧ ∀ g, v.ownBlock = some g → own g = some tg)
theorem ByV.keep {w w' : World} {own own' : Nat → Option (Bool × Nat)} {tg : Bool × Nat} {v : Value} {b : BL} (h : ByV w own tg v b) (hk : ∀ g cur, own g = some tg → w.heap[g]? = some (.cells cur 5 (0, 0)) → w'.heap[g]? = w.heap[g]? ∧ own' g = some tg) : ByV w' own' tg v b := by
  refine ⟨h.1, fun hb => ?_⟩
  obtain ⟨h1, h2⟩ := h.2 hb
  refine ⟨⟨h1.1, ?_⟩, fun g hg => ?_⟩
  · rcases h1.2 with h0 | ⟨g, cap, cur, hv, hg, hc, hr⟩
    · exact .inl h0
    · exact .inr ⟨g, cap, cur, hv, hg, (hk g cur (h2 g (by rw [hv]; rfl)) hc).1.trans hc, hr⟩
  · rcases h1.2 with ⟨h0, _⟩ | ⟨g', cap, cur, hv, hg', hc, hr⟩
    · rw [h0] at hg; cases hg
    · rw [hv] at hg
      injection hg with hg
      have e : g' = g := hg
      subst e
      exact (hk g' cur (h2 g' (by rw [hv]; rfl)) hc).2
/-- an end in memory: its block P, its map's M, the block G of the row of what was sent -/
def EndM (w : World) (P M : Nat) (G : Option Nat) (own : Nat → Option (Bool × Nat)) (k : Nat) (s : LE) : Prop :=
  LEok s ∧ (∀ g, own g ≠ none → g < w.heap.size) ∧
  ∃ sv vs f D, w.heap[P]? = some (.cells #[.int .i64 s.ep, sv, .int .i64 s.next, .int .i64 s.heard, .int .i64 s.fresh, .bool s.owes, .map (some M)] 67 (0, 0)) ∧
    SRow w G sv vs ∧ (vs.length = s.sent.length ∧ ∀ i v b, vs[i]? = some v → s.sent[i]? = some b → ByV w own (true, s.first + i) v b) ∧
    (w.ownsMap Try.prog 2 heldElem M k D ∧ AhIs D f) ∧ (∀ n, (f n).isSome = (s.ahead n).isSome) ∧ (∀ n v b, f n = some v → s.ahead n = some b → ByV w own (false, n) v b)
theorem map_keep {w w' : World} {kt : TypeId} {R : Value → Option (DataW Value × List MemPlace)} {b n : Nat} {D : DataW Value} (h : w.ownsMap Try.prog kt R b n D) (hk : w'.heap[b]? = w.heap[b]?) : w'.ownsMap Try.prog kt R b n D := by
  obtain ⟨es, clock, h1, h2⟩ := h
  exact ⟨es, clock, hk.trans h1, h2⟩
theorem map_lt {w : World} {kt : TypeId} {R : Value → Option (DataW Value × List MemPlace)} {b n : Nat} {D : DataW Value} (h : w.ownsMap Try.prog kt R b n D) : b < w.heap.size := by
  obtain ⟨es, clock, h1, h2⟩ := h
  exact lt_of_block h1
/-- what happens elsewhere leaves it -/
theorem EndM.keep {w w' : World} {P M : Nat} {G : Option Nat} {own : Nat → Option (Bool × Nat)} {k : Nat} {s : LE} (h : EndM w P M G own k s) (hs : w.heap.size ≤ w'.heap.size) (hk : ∀ g, g < w.heap.size → (g = P ∨ g = M ∨ G = some g ∨ own g ≠ none) → w'.heap[g]? = w.heap[g]?) : EndM w' P M G own k s := by
  obtain ⟨h0, h1, sv, vs, f, D, h2, h3, ⟨h4, h5⟩, ⟨h6, h7⟩, h8, h9⟩ := h
  have hB : ∀ tg v b, ByV w own tg v b → ByV w' own tg v b := fun tg v b hb => hb.keep fun g cur hg hc => ⟨hk g (lt_of_block hc) (.inr (.inr (.inr (by rw [hg]; simp)))), hg⟩
  exact ⟨h0, fun g hg => Nat.lt_of_lt_of_le (h1 g hg) hs, sv, vs, f, D, (hk P (lt_of_block h2) (.inl rfl)).trans h2, h3.keep fun g hg hl => hk g hl (.inr (.inr (.inl hg))),
    ⟨h4, fun i v b hv hb => hB _ _ _ (h5 i v b hv hb)⟩, ⟨map_keep h6 (hk M (map_lt h6) (.inr (.inl rfl))), h7⟩, h8, fun n v b hv hb => hB _ _ _ (h9 n v b hv hb)⟩
theorem EndM.next {w w' : World} {P M : Nat} {G : Option Nat} {own : Nat → Option (Bool × Nat)} {k : Nat} {s : LE} (h : EndM w P M G own k s) (hb : Below w.heap.size w w') : EndM w' P M G own k s := h.keep hb.size fun g hg _ => hb.block g hg
end Go.Proofs.Ytigmmikijjcdiaa
