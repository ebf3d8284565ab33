/- An end of the document's in memory. (printed by gen/ren.py) -/
import Derived.Test.YtigmmikijjcdiaaLqKbe
import Derived.Test.YtigmmikijjcdiaaLqLke
import Derived.Test.YtigmmikijjcdiaaLqLnt
import Derived.Test.YtigmmikijjcdiaaLqRrx




namespace Go.Proofs.Ytigmmikijjcdiaa
open Go.RowKit
set_option linter.unusedVariables false
set_option linter.unusedSimpArgs false
/-- a row of strings, that may begin inside its block -/
def TRow (w : World) (G : Option Nat) (v : Value) (vs : List Value) : Prop :=
  ∃ A c, v = .slice A vs.length c ∧ vs.length ≤ c ∧ c ≤ maxLen ∧ (∀ u ∈ vs, u.oneCell' = true) ∧ (∀ g, G = some g → ∃ cur, w.heap[g]? = some (.cells cur 9 (0, 0))) ∧
    (0 < c → ∃ g off cur, G = some g ∧ A = some ⟨g, off, none⟩ ∧ w.heap[g]? = some (.cells cur 9 (0, 0)) ∧ off + c ≤ cur.size ∧ ∀ j u, vs[j]? = some u → cur[off + j]? = some u)
theorem TRow.nil (w : World) : TRow w none (.slice none 0 0) [] := ⟨none, 0, rfl, Nat.le_refl _, by decide, (fun _ h => by simp at h), (fun _ h => by cases h), fun h => by omega⟩
theorem TRow.blk {w : World} {G : Option Nat} {v : Value} {vs : List Value} (h : TRow w G v vs) : ∀ g, G = some g → ∃ cur, w.heap[g]? = some (.cells cur 9 (0, 0)) := by
  obtain ⟨A, c, h1, h2, h3, h4, hg, h5⟩ := h
  exact hg
theorem TRow.keep {w w' : World} {G : Option Nat} {v : Value} {vs : List Value} (h : TRow w G v vs) (hk : ∀ g, G = some g → g < w.heap.size → w'.heap[g]? = w.heap[g]?) : TRow w' G v vs := by
  obtain ⟨A, c, h1, h2, h3, h4, hg, h5⟩ := h
  refine ⟨A, c, h1, h2, h3, h4, fun g e => by obtain ⟨cur, h⟩ := hg g e; exact ⟨cur, (hk g e (lt_of_block h)).trans h⟩, fun hc => ?_⟩
  obtain ⟨g, off, cur, e1, e2, e3, e4, e5⟩ := h5 hc
  exact ⟨g, off, cur, e1, e2, (hk g e1 (lt_of_block e3)).trans e3, e4, e5⟩
/-- the cells, as they are read -/
theorem TRow.at_ {w : World} {G : Option Nat} {A : Option Addr} {n c : Nat} {vs : List Value} (h : TRow w G (.slice A n c) vs) {i : Nat} {u : Value} (hi : vs[i]? = some u) : ∃ g off, A = some ⟨g, off, none⟩ ∧ n = vs.length ∧ g < w.heap.size ∧ G = some g ∧ w.cell? ⟨g, off + i, none⟩ = some u := by
  obtain ⟨A', c', h1, h2, h3, h4, hg, h5⟩ := h
  injection h1 with e1 e2 e3
  have hl := (List.getElem?_eq_some_iff.1 hi).1
  obtain ⟨g, off, cur, f1, f2, f3, f4, f5⟩ := h5 (by omega)
  exact ⟨g, off, e1.trans f2, e2, lt_of_block f3, f1, (cell_of_row w g _ cur _ _ f3).trans (f5 i u hi)⟩
/-- the first ones are dropped -/
theorem TRow.drop {w : World} {G : Option Nat} {A : Option Addr} {n c : Nat} {vs : List Value} (h : TRow w G (.slice A n c) vs) {k : Nat} (hk : k ≤ vs.length) (A' : Option Addr) (hA : k < c → ∀ g off, A = some ⟨g, off, none⟩ → A' = some ⟨g, off + k, none⟩) : TRow w G (.slice A' (n - k) (c - k)) (vs.drop k) := by
  obtain ⟨B, c', h1, h2, h3, h4, hg, h5⟩ := h
  injection h1 with e1 e2 e3
  subst e3
  refine ⟨A', c - k, by rw [List.length_drop, e2], by rw [List.length_drop]; omega, by omega, fun u hu => h4 u (List.mem_of_mem_drop hu), hg, fun hc => ?_⟩
  obtain ⟨g, off, cur, f1, f2, f3, f4, f5⟩ := h5 (by omega)
  refine ⟨g, off + k, cur, f1, hA (by omega) g off (e1.trans f2), f3, by omega, fun j u hu => ?_⟩
  rw [List.getElem?_drop] at hu
  have := f5 _ _ hu
  rwa [show off + k + j = off + (k + j) by omega]
section
variable {P : Program} {w : World}
/-- one is put behind, as an operation -/
theorem op_trow {o : Oper} {a : Act} {K : Act → World → Prop} {Q : Exit → Act → World → Prop} (s x : Operand) (t : TypeId)
    (ho : o.op = .call { callee := .builtin .append, args := #[s, x], argTypes := #[t, t] })
    (i : TypeInfo) (z : Value) (ht : P.underlying t = some (.slice 9)) (hi : P.info? 9 = some i) (hz : i.zero = some z)
    (hsize : i.size = 1) (hby : i.bytes = 16) (hzs : z.cells.size = 1)
    (v : Value) (G : Option Nat) (vs : List Value) (hs : a.eval s = v) (h : TRow w G v vs)
    (ad : Addr) (c : Nat) (u : Value) (hx : a.eval x = .slice (some ad) 1 c) (hu : w.cell? ad = some u) (h1 : u.oneCell' = true) (hn : vs.length < 1000000)
    (hK : ∀ v' w' G', TRow w' G' v' (vs ++ [u]) → KB G.toList w w' → (G' = G ∨ ∃ g, G' = some g ∧ w.heap.size ≤ g) → K (a.put o.dst v') w') : Oper.wp P o a w K Q := by
  obtain ⟨A, cap, rfl, h2, h3, h4, hgb, h5⟩ := h
  have hads : ∀ j u', [u][j]? = some u' → w.cell? (ad.add j) = some u' := fun j u' hj => by
    rcases j with _ | j
    · simp at hj; subst hj; rw [Addr.add_zero']; exact hu
    · simp at hj
  have h1c : ∀ y ∈ [u], y.oneCell' = true := fun y hy => by simp at hy; subst hy; exact h1
  have hall : ∀ y ∈ vs ++ [u], y.oneCell' = true := fun y hy => by
    rcases List.mem_append.1 hy with hy | hy
    · exact h4 y hy
    · exact h1c y hy
  have own2 : ∀ v' w', w'.ownsRow w.heap.size 9 1 v' (vs.length + 1) (vs ++ [u]) → w.grownBy w' none → K (a.put o.dst v') w' := fun v' w' r1 r2 => by
    obtain ⟨r3, r4⟩ := r1
    rcases r4 with ⟨_, h0⟩ | ⟨g, cap', cur, e1, e2, e3, e4, e5, e6, e7⟩
    · omega
    · refine hK v' w' (some g) ⟨some ⟨g, 0, none⟩, cap', by rw [e1]; simp, by simpa using e4, e5, hall, fun g' hg' => by injection hg' with hg'; subst hg'; exact ⟨cur, e3⟩, fun _ => ⟨g, 0, cur, rfl, rfl, e3, by omega, fun j y hj => ?_⟩⟩ ⟨r2.size, fun b hb _ => r2.block b hb (by simp), Env.of_grown r2⟩ (.inr ⟨g, rfl, e2⟩)
      rw [← e7, List.getElem?_take] at hj
      split at hj
      · rw [Nat.zero_add]
        simpa using hj
      · cases hj
  have hmx : vs.length + 1 ≤ maxLen := by unfold maxLen; omega
  have hby2 : (vs.length + 1) * 16 ≤ 140737488355328 := by omega
  have hrun : ∀ v' w', (Builtin.append_ #[t, t] o.type #[.slice A vs.length cap, .slice (some ad) 1 c]).run P w = .ok v' w' → K (a.put o.dst v') w' → Oper.wp P o a w K Q := fun v' w' hr hk => by
    unfold Oper.wp execOp
    simp only [ho, resolve, invoke, builtin, Sem.run_bind, Sem.run_pure, Result.andThen_ok, List.map_toArray, List.map_cons, List.map_nil, hs, hx, hr]
    exact hk
  rcases A with _ | b
  · have hc0 : cap = 0 := by
      rcases Nat.eq_zero_or_pos cap with h0 | h0
      · exact h0
      · obtain ⟨g, off, cur, _, e2, _⟩ := h5 h0
        cases e2
    subst hc0
    obtain rfl : vs = [] := List.eq_nil_of_length_eq_zero (by omega)
    obtain ⟨v', w', hr, r1, r2, _⟩ := run_append_own (P := P) w w.heap.size t o.type 9 i z 1 16 ht hi hz hsize hby hzs (by omega) (.slice none 0 0) 0 [] (World.ownsRow_nil w _ _ 1) ad 1 c [u] rfl hads h1c hmx hby2 (Nat.le_refl _)
    exact hrun v' w' hr (own2 v' w' r1 r2)
  · rcases Nat.lt_or_ge vs.length cap with hr | hr
    · obtain ⟨g, off, cur, e1, e2, e3, e4, e5⟩ := h5 (by omega)
      injection e2 with e2
      subst e2
      have hcell : ∀ j, j < 1 → (w.cell? ⟨g, off + vs.length * i.size + j, none⟩).isSome = true := fun j hj => by
        rw [cell_of_row w g _ cur _ _ e3, hsize, Array.getElem?_eq_getElem (by omega)]
        rfl
      have hsame : (w.setCells g (off + vs.length * i.size) [u]).heap[g]? = some (.cells (cur.setIfInBounds (off + vs.length) u) 9 (0, 0)) := by
          rw [hsize, Nat.mul_one]
          show (w.setCell ⟨g, off + vs.length, none⟩ u).heap[g]? = _
          simp only [World.setCell, Array.getElem?_modify]
          rw [if_pos trivial, e3]
          rfl
      have hrn := run_append_room_cells (P := P) w t o.type 9 i ht hi g off vs.length cap ad 1 c [u] (by rw [hsize]; rfl) hads h1c (by omega) (fun j hj => hcell j hj) (fun j hj => frozen_of_row w g _ cur _ e3)
      refine hrun _ _ hrn (hK _ _ (some g) ⟨some ⟨g, off, none⟩, cap, by rw [List.length_append]; rfl, by rw [List.length_append]; exact hr, h3, hall, fun g' hg' => by injection hg' with hg'; subst hg'; exact ⟨_, hsame⟩, fun _ => ⟨g, off, cur.setIfInBounds (off + vs.length) u, rfl, rfl, hsame, by rw [Array.size_setIfInBounds]; exact e4, fun j y hj => ?_⟩⟩ ?_ (.inl e1.symm))
      · rw [Array.getElem?_setIfInBounds]
        by_cases hj2 : j = vs.length
        · subst hj2
          rw [if_pos rfl, if_pos (by omega)]
          simpa using hj
        · rw [if_neg (by omega)]
          refine e5 j y ?_
          rcases Nat.lt_or_ge j vs.length with hl | hl
          · rwa [List.getElem?_append_left hl] at hj
          · rw [List.getElem?_eq_none (by rw [List.length_append]; simp; omega)] at hj
            cases hj
      · rw [hsize, Nat.mul_one]
        show KB G.toList w (w.setCell ⟨g, off + vs.length, none⟩ u)
        exact (KB.refl _ _).setCell (.inr (by rw [e1]; simp)) u
    · have holds : ∀ j y, vs[j]? = some y → w.cell? (b.add j) = some y := fun j y hj => by
        have hl := (List.getElem?_eq_some_iff.1 hj).1
        obtain ⟨g, off, cur, e1, e2, e3, e4, e5⟩ := h5 (by omega)
        injection e2 with e2
        subst e2
        rw [Addr.add_lit, cell_of_row w g _ cur _ _ e3]
        exact e5 j y hj
      obtain ⟨v', w', hr2, r1, r2⟩ := run_append_arg_grows (P := P) w t o.type 9 i z 1 16 ht hi hz hsize hby hzs (by omega) b vs.length cap vs (by omega) holds ad 1 c [u] rfl hads (by omega) hmx hby2
      exact hrun v' w' hr2 (own2 v' w' r1 r2)
end
/-- what was heard ahead, as cells: number, bytes -/
def ahC (xs : List (Nat × BL)) : List Value := xs.flatMap fun x => [.int .i64 (x.1 : Int), .string ⟨x.2.toArray⟩]
theorem ahC_len (xs : List (Nat × BL)) : (ahC xs).length = xs.length * 2 := by
  unfold ahC
  induction xs with
  | nil => rfl
  | cons x xs ih => rw [List.flatMap_cons, List.length_append, ih, List.length_cons]; simp; omega
theorem ahC_snoc (xs : List (Nat × BL)) (n : Nat) (b : BL) : ahC (xs ++ [(n, b)]) = ahC xs ++ [.int .i64 (n : Int), .string ⟨b.toArray⟩] := by unfold ahC; simp
theorem ahC_num : ∀ (xs : List (Nat × BL)) (i : Nat) (x : Nat × BL), xs[i]? = some x → (ahC xs)[i * 2]? = some (.int .i64 (x.1 : Int)) ∧ (ahC xs)[i * 2 + 1]? = some (.string ⟨x.2.toArray⟩)
  | [], i, x, h => by simp at h
  | y :: xs, 0, x, h => by
    simp at h
    subst h
    exact ⟨rfl, rfl⟩
  | y :: xs, i + 1, x, h => by
    have h1 := ahC_num xs i x (by simpa using h)
    have e : ahC (y :: xs) = .int .i64 (y.1 : Int) :: .string ⟨y.2.toArray⟩ :: ahC xs := rfl
    rw [e, show (i + 1) * 2 = i * 2 + 1 + 1 by omega, show i * 2 + 1 + 1 + 1 = (i * 2 + 1) + 1 + 1 by omega]
    exact ⟨h1.1, h1.2⟩
/-- a row of those, that may begin inside its block -/
def AhR (w : World) (lo : Nat) (v : Value) (xs : List (Nat × BL)) : Prop :=
  ∃ A c, v = .slice A xs.length c ∧ xs.length ≤ c ∧ c ≤ maxLen ∧ (0 < c → ∃ g off cur, A = some ⟨g, off, none⟩ ∧ lo ≤ g ∧ w.heap[g]? = some (.cells cur 118 (0, 0)) ∧ ∀ j u, (ahC xs)[j]? = some u → cur[off + j]? = some u)
theorem AhR.nil (w : World) (lo : Nat) : AhR w lo (.slice none 0 0) [] := ⟨none, 0, rfl, Nat.le_refl _, by decide, fun h => by omega⟩
theorem AhR.keep {w w' : World} {lo : Nat} {v : Value} {xs : List (Nat × BL)} (h : AhR w lo v xs) (hk : ∀ (g : Nat) (cur : Array Value), w.heap[g]? = some (Obj.cells cur 118 (0, 0)) → w'.heap[g]? = w.heap[g]?) : AhR w' lo v xs := by
  obtain ⟨A, c, h1, h2, h3, h4⟩ := h
  refine ⟨A, c, h1, h2, h3, fun hc => ?_⟩
  obtain ⟨g, off, cur, e1, e2, e3, e4⟩ := h4 hc
  exact ⟨g, off, cur, e1, e2, (hk g cur e3).trans e3, e4⟩
/-- sorted by their numbers; as a function -/
def AhF (xs : List (Nat × BL)) (f : Nat → Option BL) : Prop := xs.Pairwise (fun a b => a.1 < b.1) ∧ ∀ n b, f n = some b ↔ (n, b) ∈ xs
theorem AhF.nil : AhF [] (fun _ => none) := ⟨List.Pairwise.nil, fun n b => ⟨fun h => by (cases h), fun h => by (cases h)⟩⟩
/-- an end of the document's: its block Q, the block G of the row of what was sent -/
def REnd (w : World) (L Q : Nat) (G : Option Nat) (s : LE) : Prop :=
  LEok s ∧ L ≤ Q ∧ (∀ g, G = some g → L ≤ g) ∧
  ∃ sv av xs, w.heap[Q]? = some (.cells #[.int .i64 s.ep, .int .i64 s.next, .int .i64 s.heard, .int .i64 s.fresh, .bool s.owes, sv, av] 78 (0, 0)) ∧
    TRow w G sv (strs s.sent) ∧ AhR w L av xs ∧ AhF xs s.ahead
/-- what happens elsewhere leaves it -/
theorem REnd.keep {w w' : World} {L Q : Nat} {G : Option Nat} {s : LE} (h : REnd w L Q G s) (hk : ∀ (g : Nat) (cur : Array Value) (T : TypeId), w.heap[g]? = some (Obj.cells cur T (0, 0)) → (T = 78 ∨ T = 9 ∨ T = 118) → w'.heap[g]? = w.heap[g]?) : REnd w' L Q G s := by
  obtain ⟨h1, h2, h3, sv, av, xs, h4, h5, h6, h7⟩ := h
  refine ⟨h1, h2, h3, sv, av, xs, (hk Q _ _ h4 (.inl rfl)).trans h4, h5.keep (fun g e hl => ?_), h6.keep (fun g cur hc => hk g cur _ hc (.inr (.inr rfl))), h7⟩
  obtain ⟨cur, hc⟩ := h5.blk g e
  exact hk g cur _ hc (.inr (.inl rfl))
theorem REnd.next {w w' : World} {L Q : Nat} {G : Option Nat} {s : LE} (h : REnd w L Q G s) (hb : Below w.heap.size w w') : REnd w' L Q G s := h.keep fun g cur T hc _ => hb.block g (lt_of_block hc)
end Go.Proofs.Ytigmmikijjcdiaa
