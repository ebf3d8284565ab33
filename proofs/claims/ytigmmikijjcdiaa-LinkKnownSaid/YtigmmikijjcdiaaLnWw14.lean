/- Lemmas: Lke, Lka, Lks, Lko, Lkg. -/
import Derived.Maps.Own
import Derived.Maps.OwnSet
import Derived.Maps.OwnOps
import Derived.Maps.Views
import Derived.Maps.Keyed
import Derived.ArgAppend
import Derived.Carry
import Derived.Lib.Hide
import Derived.WalkSpells
import Derived.WalkMore
import Derived.IntWalk
import Derived.Test.YtigmmikijjcdiaaProg
import Derived.Deep.DeepCutAuto
import Derived.Test.YtigmmikijjcdiaaLnWw13
set_option linter.unusedVariables false
set_option linter.unusedSimpArgs false
set_option maxRecDepth 100000
set_option maxHeartbeats 16000000
namespace Go.Proofs.Ytigmmikijjcdiaa
open Go.RowKit
def lk (x : Int) : Lit := .int .i64 x
theorem lk_key (x : Int) : WideAt.IsKeyLit (lk x) := by trivial
theorem lk_ne {x y : Nat} (h : x ≠ y) : lk x ≠ lk y := fun e => by unfold lk at e; injection e with _ e; omega
def heldElem (v : Value) : Option (DataW Value × List MemPlace) := some (.held v, [])
structure AhIs (D : DataW Value) (f : Nat → Option Value) : Prop where
 map : Maps.IsMap D
 has : ∀ k : Nat, Maps.has D (lk k) = (f k).isSome
 at_ : ∀ (k : Nat) z, D.atKey (lk k) z = match f k with | some x => .held x | none => z
theorem AhIs.empty : AhIs (.map []) (fun _ => none) := ⟨Maps.isMap_empty, fun _ => rfl, fun _ _ => rfl⟩
theorem AhIs.put {D : DataW Value} {f : Nat → Option Value} (h : AhIs D f) (k : Nat) (x : Value) : AhIs (D.put (lk k) (.held x)) (fun u => if u = k then some x else f u) := by
 refine ⟨h.map.put _ _, fun u => ?_, fun u z => ?_⟩
 ·by_cases hu : u = k
  ·subst hu
   rw [if_pos rfl, Maps.has_put_same h.map (lk_key _)]
   rfl
  ·rw [if_neg hu, Maps.has_put_other (lk_ne hu)]
   exact h.has u
 ·by_cases hu : u = k
  ·subst hu
   rw [if_pos rfl, Maps.atKey_put_same h.map (lk_key _)]
  ·rw [if_neg hu, Maps.atKey_put_other (lk_ne hu)]
   exact h.at_ u z
theorem AhIs.del {D : DataW Value} {f : Nat → Option Value} (h : AhIs D f) (k : Nat) : AhIs (D.del (lk k)) (fun u => if u = k then none else f u) := by
 refine ⟨h.map.del _, fun u => ?_, fun u z => ?_⟩
 ·by_cases hu : u = k
  ·subst hu
   rw [if_pos rfl, Maps.has_del_same]
   rfl
  ·rw [if_neg hu, Maps.has_del_other (lk_ne hu)]
   exact h.has u
 ·by_cases hu : u = k
  ·subst hu
   rw [if_pos rfl, Maps.atKey_del_same]
  ·rw [if_neg hu, Maps.atKey_del_other (lk_ne hu)]
   exact h.at_ u z
def SRow (w : World) (G : Option Nat) (v : Value) (vs : List Value) : Prop :=
 ∃ A c, v = .slice A vs.length c ∧ vs.length ≤ c ∧ c ≤ maxLen ∧ (∀ u ∈ vs, u.oneCell' = true) ∧ (∀ g, G = some g → ∃ cur, w.heap[g]? = some (.cells cur 23 (0, 0))) ∧
  (0 < c → ∃ g off cur, G = some g ∧ A = some ⟨g, off, none⟩ ∧ w.heap[g]? = some (.cells cur 23 (0, 0)) ∧ off + c ≤ cur.size ∧ ∀ j u, vs[j]? = some u → cur[off + j]? = some u)
theorem SRow.nil (w : World) : SRow w none (.slice none 0 0) [] := ⟨none, 0, rfl, Nat.le_refl _, by decide, (fun _ h => by simp at h), (fun _ h => by cases h), fun h => by omega⟩
theorem SRow.blk {w : World} {G : Option Nat} {v : Value} {vs : List Value} (h : SRow w G v vs) : ∀ g, G = some g → ∃ cur, w.heap[g]? = some (.cells cur 23 (0, 0)) := by
 obtain ⟨A, c, h1, h2, h3, h4, hg, h5⟩ := h
 exact hg
theorem SRow.keep {w w' : World} {G : Option Nat} {v : Value} {vs : List Value} (h : SRow w G v vs) (hk : ∀ g, G = some g → g < w.heap.size → w'.heap[g]? = w.heap[g]?) : SRow w' G v vs := by
 obtain ⟨A, c, h1, h2, h3, h4, hg, h5⟩ := h
 refine ⟨A, c, h1, h2, h3, h4, fun g e => by obtain ⟨cur, h⟩ := hg g e; exact ⟨cur, (hk g e (lt_of_block h)).trans h⟩, fun hc => ?_⟩
 obtain ⟨g, off, cur, e1, e2, e3, e4, e5⟩ := h5 hc
 exact ⟨g, off, cur, e1, e2, (hk g e1 (lt_of_block e3)).trans e3, e4, e5⟩
theorem SRow.at_ {w : World} {G : Option Nat} {A : Option Addr} {n c : Nat} {vs : List Value} (h : SRow w G (.slice A n c) vs) {i : Nat} {u : Value} (hi : vs[i]? = some u) : ∃ g off, A = some ⟨g, off, none⟩ ∧ n = vs.length ∧ g < w.heap.size ∧ G = some g ∧ w.cell? ⟨g, off + i, none⟩ = some u := by
 obtain ⟨A', c', h1, h2, h3, h4, hg, h5⟩ := h
 injection h1 with e1 e2 e3
 have hl := (List.getElem?_eq_some_iff.1 hi).1
 obtain ⟨g, off, cur, f1, f2, f3, f4, f5⟩ := h5 (by omega)
 exact ⟨g, off, e1.trans f2, e2, lt_of_block f3, f1, (cell_of_row w g _ cur _ _ f3).trans (f5 i u hi)⟩
theorem SRow.drop {w : World} {G : Option Nat} {A : Option Addr} {n c : Nat} {vs : List Value} (h : SRow w G (.slice A n c) vs) {k : Nat} (hk : k ≤ vs.length) (A' : Option Addr) (hA : k < c → ∀ g off, A = some ⟨g, off, none⟩ → A' = some ⟨g, off + k, none⟩) : SRow w G (.slice A' (n - k) (c - k)) (vs.drop k) := by
 obtain ⟨B, c', h1, h2, h3, h4, hg, h5⟩ := h
 injection h1 with e1 e2 e3
 subst e3
 refine ⟨A', c - k, by rw [List.length_drop, e2], by rw [List.length_drop]; omega, by omega, fun u hu => h4 u (List.mem_of_mem_drop hu), hg, fun hc => ?_⟩
 obtain ⟨g, off, cur, f1, f2, f3, f4, f5⟩ := h5 (by omega)
 refine ⟨g, off + k, cur, f1, hA (by omega) g off (e1.trans f2), f3, by omega, fun j u hu => ?_⟩
 rw [List.getElem?_drop] at hu
 have := f5 _ _ hu
 rwa [show off + k + j = off + (k + j) by omega]
section
variable {P : Program} {w : World}
theorem op_srow {o : Oper} {a : Act} {K : Act → World → Prop} {Q : Exit → Act → World → Prop} (s x : Operand) (t : TypeId)
  (ho : o.op = .call { callee := .builtin .append, args := #[s, x], argTypes := #[t, t] })
  (i : TypeInfo) (z : Value) (ht : P.underlying t = some (.slice 23)) (hi : P.info? 23 = some i) (hz : i.zero = some z)
  (hsize : i.size = 1) (hby : i.bytes = 24) (hzs : z.cells.size = 1)
  (v : Value) (G : Option Nat) (vs : List Value) (hs : a.eval s = v) (h : SRow w G v vs)
  (ad : Addr) (c : Nat) (u : Value) (hx : a.eval x = .slice (some ad) 1 c) (hu : w.cell? ad = some u) (h1 : u.oneCell' = true) (hn : vs.length < 1000000)
  (hK : ∀ v' w' G', SRow w' G' v' (vs ++ [u]) → KB G.toList w w' → (G' = G ∨ ∃ g, G' = some g ∧ w.heap.size ≤ g) → K (a.put o.dst v') w') : Oper.wp P o a w K Q := by
 obtain ⟨A, cap, rfl, h2, h3, h4, hgb, h5⟩ := h
 have hads : ∀ j u', [u][j]? = some u' → w.cell? (ad.add j) = some u' := fun j u' hj => by
  rcases j with _ | j
  ·simp at hj; subst hj; rw [Addr.add_zero']; exact hu
  ·simp at hj
 have h1c : ∀ y ∈ [u], y.oneCell' = true := fun y hy => by simp at hy; subst hy; exact h1
 have hall : ∀ y ∈ vs ++ [u], y.oneCell' = true := fun y hy => by
  rcases List.mem_append.1 hy with hy | hy
  ·exact h4 y hy
  ·exact h1c y hy
 have own2 : ∀ v' w', w'.ownsRow w.heap.size 23 1 v' (vs.length + 1) (vs ++ [u]) → w.grownBy w' none → K (a.put o.dst v') w' := fun v' w' r1 r2 => by
  obtain ⟨r3, r4⟩ := r1
  rcases r4 with ⟨_, h0⟩ | ⟨g, cap', cur, e1, e2, e3, e4, e5, e6, e7⟩
  ·omega
  ·refine hK v' w' (some g) ⟨some ⟨g, 0, none⟩, cap', by rw [e1]; simp, by simpa using e4, e5, hall, fun g' hg' => by injection hg' with hg'; subst hg'; exact ⟨cur, e3⟩, fun _ => ⟨g, 0, cur, rfl, rfl, e3, by omega, fun j y hj => ?_⟩⟩ ⟨r2.size, fun b hb _ => r2.block b hb (by simp), Env.of_grown r2⟩ (.inr ⟨g, rfl, e2⟩)
   rw [← e7, List.getElem?_take] at hj
   split at hj
   ·rw [Nat.zero_add]
    simpa using hj
   ·cases hj
 have hmx : vs.length + 1 ≤ maxLen := by unfold maxLen; omega
 have hby2 : (vs.length + 1) * 24 ≤ 140737488355328 := by omega
 have hrun : ∀ v' w', (Builtin.append_ #[t, t] o.type #[.slice A vs.length cap, .slice (some ad) 1 c]).run P w = .ok v' w' → K (a.put o.dst v') w' → Oper.wp P o a w K Q := fun v' w' hr hk => by
  unfold Oper.wp execOp
  simp only [ho, resolve, invoke, builtin, Sem.run_bind, Sem.run_pure, Result.andThen_ok, List.map_toArray, List.map_cons, List.map_nil, hs, hx, hr]
  exact hk
 rcases A with _ | b
 ·have hc0 : cap = 0 := by
   rcases Nat.eq_zero_or_pos cap with h0 | h0
   ·exact h0
   ·obtain ⟨g, off, cur, _, e2, _⟩ := h5 h0
    cases e2
  subst hc0
  obtain rfl : vs = [] := List.eq_nil_of_length_eq_zero (by omega)
  obtain ⟨v', w', hr, r1, r2, _⟩ := run_append_own (P := P) w w.heap.size t o.type 23 i z 1 24 ht hi hz hsize hby hzs (by omega) (.slice none 0 0) 0 [] (World.ownsRow_nil w _ _ 1) ad 1 c [u] rfl hads h1c hmx hby2 (Nat.le_refl _)
  exact hrun v' w' hr (own2 v' w' r1 r2)
 ·rcases Nat.lt_or_ge vs.length cap with hr | hr
  ·obtain ⟨g, off, cur, e1, e2, e3, e4, e5⟩ := h5 (by omega)
   injection e2 with e2
   subst e2
   have hcell : ∀ j, j < 1 → (w.cell? ⟨g, off + vs.length * i.size + j, none⟩).isSome = true := fun j hj => by
    rw [cell_of_row w g _ cur _ _ e3, hsize, Array.getElem?_eq_getElem (by omega)]
    rfl
   have hsame : (w.setCells g (off + vs.length * i.size) [u]).heap[g]? = some (.cells (cur.setIfInBounds (off + vs.length) u) 23 (0, 0)) := by
     rw [hsize, Nat.mul_one]
     show (w.setCell ⟨g, off + vs.length, none⟩ u).heap[g]? = _
     simp only [World.setCell, Array.getElem?_modify]
     rw [if_pos trivial, e3]
     rfl
   have hrn := run_append_room_cells (P := P) w t o.type 23 i ht hi g off vs.length cap ad 1 c [u] (by rw [hsize]; rfl) hads h1c (by omega) (fun j hj => hcell j hj) (fun j hj => frozen_of_row w g _ cur _ e3)
   refine hrun _ _ hrn (hK _ _ (some g) ⟨some ⟨g, off, none⟩, cap, by rw [List.length_append]; rfl, by rw [List.length_append]; exact hr, h3, hall, fun g' hg' => by injection hg' with hg'; subst hg'; exact ⟨_, hsame⟩, fun _ => ⟨g, off, cur.setIfInBounds (off + vs.length) u, rfl, rfl, hsame, by rw [Array.size_setIfInBounds]; exact e4, fun j y hj => ?_⟩⟩ ?_ (.inl e1.symm))
   ·rw [Array.getElem?_setIfInBounds]
    by_cases hj2 : j = vs.length
    ·subst hj2
     rw [if_pos rfl, if_pos (by omega)]
     simpa using hj
    ·rw [if_neg (by omega)]
     refine e5 j y ?_
     rcases Nat.lt_or_ge j vs.length with hl | hl
     ·rwa [List.getElem?_append_left hl] at hj
     ·rw [List.getElem?_eq_none (by rw [List.length_append]; simp; omega)] at hj
      cases hj
   ·rw [hsize, Nat.mul_one]
    show KB G.toList w (w.setCell ⟨g, off + vs.length, none⟩ u)
    exact (KB.refl _ _).setCell (.inr (by rw [e1]; simp)) u
  ·have holds : ∀ j y, vs[j]? = some y → w.cell? (b.add j) = some y := fun j y hj => by
    have hl := (List.getElem?_eq_some_iff.1 hj).1
    obtain ⟨g, off, cur, e1, e2, e3, e4, e5⟩ := h5 (by omega)
    injection e2 with e2
    subst e2
    rw [Addr.add_lit, cell_of_row w g _ cur _ _ e3]
    exact e5 j y hj
   obtain ⟨v', w', hr2, r1, r2⟩ := run_append_arg_grows (P := P) w t o.type 23 i z 1 24 ht hi hz hsize hby hzs (by omega) b vs.length cap vs (by omega) holds ad 1 c [u] rfl hads (by omega) hmx hby2
   exact hrun v' w' hr2 (own2 v' w' r1 r2)
end
def ByV (w : World) (own : Nat → Option (Bool × Nat)) (tg : Bool × Nat) (v : Value) (b : BL) : Prop :=
 (∃ A c, v = .slice A b.length c) ∧ (b ≠ [] → w.ownsRow 0 5 1 v b.length (u8s b) ∧ ∀ g, v.ownBlock = some g → own g = some tg)
theorem ByV.keep {w w' : World} {own own' : Nat → Option (Bool × Nat)} {tg : Bool × Nat} {v : Value} {b : BL} (h : ByV w own tg v b) (hk : ∀ g cur, own g = some tg → w.heap[g]? = some (.cells cur 5 (0, 0)) → w'.heap[g]? = w.heap[g]? ∧ own' g = some tg) : ByV w' own' tg v b := by
 refine ⟨h.1, fun hb => ?_⟩
 obtain ⟨h1, h2⟩ := h.2 hb
 refine ⟨⟨h1.1, ?_⟩, fun g hg => ?_⟩
 ·rcases h1.2 with h0 | ⟨g, cap, cur, hv, hg, hc, hr⟩
  ·exact .inl h0
  ·exact .inr ⟨g, cap, cur, hv, hg, (hk g cur (h2 g (by rw [hv]; rfl)) hc).1.trans hc, hr⟩
 ·rcases h1.2 with ⟨h0, _⟩ | ⟨g', cap, cur, hv, hg', hc, hr⟩
  ·rw [h0] at hg; cases hg
  ·rw [hv] at hg
   injection hg with hg
   have e : g' = g := hg
   subst e
   exact (hk g' cur (h2 g' (by rw [hv]; rfl)) hc).2
def EndM (w : World) (P M : Nat) (G : Option Nat) (own : Nat → Option (Bool × Nat)) (k : Nat) (s : LE) : Prop :=
 LEok s ∧ (∀ g, own g ≠ none → g < w.heap.size) ∧
 ∃ sv vs f D, w.heap[P]? = some (.cells #[.int .i64 s.ep, sv, .int .i64 s.next, .int .i64 s.heard, .int .i64 s.fresh, .bool s.owes, .map (some M)] 67 (0, 0)) ∧
  SRow w G sv vs ∧ (vs.length = s.sent.length ∧ ∀ i v b, vs[i]? = some v → s.sent[i]? = some b → ByV w own (true, s.first + i) v b) ∧
  (w.ownsMap Try.prog 2 heldElem M k D ∧ AhIs D f) ∧ (∀ n, (f n).isSome = (s.ahead n).isSome) ∧ (∀ n v b, f n = some v → s.ahead n = some b → ByV w own (false, n) v b)
theorem map_keep {w w' : World} {kt : TypeId} {R : Value → Option (DataW Value × List MemPlace)} {b n : Nat} {D : DataW Value} (h : w.ownsMap Try.prog kt R b n D) (hk : w'.heap[b]? = w.heap[b]?) : w'.ownsMap Try.prog kt R b n D := by
 obtain ⟨es, clock, h1, h2⟩ := h
 exact ⟨es, clock, hk.trans h1, h2⟩
theorem map_lt {w : World} {kt : TypeId} {R : Value → Option (DataW Value × List MemPlace)} {b n : Nat} {D : DataW Value} (h : w.ownsMap Try.prog kt R b n D) : b < w.heap.size := by
 obtain ⟨es, clock, h1, h2⟩ := h
 exact lt_of_block h1
theorem EndM.keep {w w' : World} {P M : Nat} {G : Option Nat} {own : Nat → Option (Bool × Nat)} {k : Nat} {s : LE} (h : EndM w P M G own k s) (hs : w.heap.size ≤ w'.heap.size) (hk : ∀ g, g < w.heap.size → (g = P ∨ g = M ∨ G = some g ∨ own g ≠ none) → w'.heap[g]? = w.heap[g]?) : EndM w' P M G own k s := by
 obtain ⟨h0, h1, sv, vs, f, D, h2, h3, ⟨h4, h5⟩, ⟨h6, h7⟩, h8, h9⟩ := h
 have hB : ∀ tg v b, ByV w own tg v b → ByV w' own tg v b := fun tg v b hb => hb.keep fun g cur hg hc => ⟨hk g (lt_of_block hc) (.inr (.inr (.inr (by rw [hg]; simp)))), hg⟩
 exact ⟨h0, fun g hg => Nat.lt_of_lt_of_le (h1 g hg) hs, sv, vs, f, D, (hk P (lt_of_block h2) (.inl rfl)).trans h2, h3.keep fun g hg hl => hk g hl (.inr (.inr (.inl hg))),
  ⟨h4, fun i v b hv hb => hB _ _ _ (h5 i v b hv hb)⟩, ⟨map_keep h6 (hk M (map_lt h6) (.inr (.inl rfl))), h7⟩, h8, fun n v b hv hb => hB _ _ _ (h9 n v b hv hb)⟩
theorem EndM.next {w w' : World} {P M : Nat} {G : Option Nat} {own : Nat → Option (Bool × Nat)} {k : Nat} {s : LE} (h : EndM w P M G own k s) (hb : Below w.heap.size w w') : EndM w' P M G own k s := h.keep hb.size fun g hg _ => hb.block g hg
end Go.Proofs.Ytigmmikijjcdiaa
namespace Go.Proofs.Ytigmmikijjcdiaa
open Go.RowKit
def epN (e : Int) : Nat := if e < 0 ∨ 4611686018427387904 < e then 0 else e.toNat
def OpenPost (w : World) (ep : Nat) (e : Ending) (w' : World) : Prop :=
 ∃ P M, e = .returned (.pointer (some ⟨P, 0, none⟩)) ∧ EndM w' P M none (fun _ => none) 0 (openL ep) ∧ w.heap.size ≤ P ∧ w.heap.size ≤ M ∧ Below w.heap.size w w'
theorem open_fin (w : World) (ep : Nat) (h : ep ≤ mostL) : OpenPost w ep (.returned (.pointer (some ⟨w.heap.size + 1, 0, none⟩))) ((w.alloc (.map #[] 0)).alloc (.cells #[.int .i64 ep, .slice none 0 0, .int .i64 1, .int .i64 0, .int .i64 1, .bool false, .map (some w.heap.size)] 67)) := by
 refine ⟨w.heap.size + 1, w.heap.size, rfl, ⟨openL_ok h, fun g hg => absurd rfl hg, .slice none 0 0, [], fun _ => none, .map [], ?_, SRow.nil _, ⟨rfl, fun i v b hv => by simp at hv⟩, ⟨?_, AhIs.empty⟩, fun n => rfl, fun n v b hv => by cases hv⟩, by omega, by omega, ?_⟩
 ·have h := heap_alloc_last (w.alloc (.map #[] 0)) (.cells #[.int .i64 ep, .slice none 0 0, .int .i64 1, .int .i64 0, .int .i64 1, .bool false, .map (some w.heap.size)] 67)
  rw [World.size_alloc] at h
  exact h
 ·exact (World.ownsMap_made w Try.prog 2 heldElem).alloc _
 ·exact ((Below.refl _ _).alloc (Nat.le_refl _) _).alloc (by simp) _
theorem lopen_any (w : World) (e : Int) : Calls Try.prog 9 #[.int .i64 e] w (OpenPost w (epN e)) := by
 have hmm := @run_makeMap Try.prog
 by_cases hc : e < 0 ∨ 4611686018427387904 < e
 ·have hF : epN e = 0 := by unfold epN; rw [if_pos hc]
  have HF := hide hF
  have HW := hide (open_fin w 0 (by decide))
  rw [hF]
  clear hF HF
  by_cases h1 : e < 0
  ·clear hc
   go_enter Try.func9, Try.ntmps9
   go_wp2
   go_ret
   exact HW.out
  ·have h2 : 4611686018427387904 < e := by omega
   clear hc
   go_enter Try.func9, Try.ntmps9
   go_wp2
   go_ret
   exact HW.out
 ·obtain ⟨n, rfl⟩ : ∃ n : Nat, (n : Int) = e := ⟨e.toNat, by omega⟩
  have hF : epN n = n := by unfold epN; rw [if_neg hc]; omega
  have h1 : ¬ (n : Int) < 0 := by omega
  have h2 : ¬ (4611686018427387904 : Int) < n := by omega
  have HW := hide (open_fin w n (by unfold mostL; omega))
  rw [hF]
  clear hF hc
  go_enter Try.func9, Try.ntmps9
  go_wp2
  go_ret
  exact HW.out
section
variable {w : World} {P M : Nat} {G : Option Nat} {own : Nat → Option (Bool × Nat)} {k : Nat} {s : LE}
theorem EndM.cells (h : EndM w P M G own k s) : ∃ A c, w.cell? ⟨P, 0, none⟩ = some (.int .i64 s.ep) ∧ w.cell? ⟨P, 1, none⟩ = some (.slice A s.sent.length c) ∧ w.cell? ⟨P, 2, none⟩ = some (.int .i64 s.next) ∧ w.cell? ⟨P, 3, none⟩ = some (.int .i64 s.heard) ∧ w.cell? ⟨P, 4, none⟩ = some (.int .i64 s.fresh) ∧ w.cell? ⟨P, 5, none⟩ = some (.bool s.owes) ∧ P < w.heap.size := by
 obtain ⟨h0, h1, sv, vs, f, D, h2, h3, ⟨h4, h5⟩, ⟨h6, h7⟩, h8, h9⟩ := h
 obtain ⟨A, c, rfl, _⟩ := h3
 rw [h4] at h2
 exact ⟨A, c, cell_of_row _ _ 0 _ _ _ h2, cell_of_row _ _ 1 _ _ _ h2, cell_of_row _ _ 2 _ _ _ h2, cell_of_row _ _ 3 _ _ _ h2, cell_of_row _ _ 4 _ _ _ h2, cell_of_row _ _ 5 _ _ _ h2, lt_of_block h2⟩
theorem lepoch_any (h : EndM w P M G own k s) : Calls Try.prog 26 #[.pointer (some ⟨P, 0, none⟩)] w fun e w' => e = .returned (.int .i64 s.ep) ∧ w' = w := by
 obtain ⟨A, c, e0, _⟩ := h.cells
 clear h
 go_enter Try.func26, Try.ntmps26
 go_wp2
 go_ret
 exact ⟨rfl, rfl⟩
theorem lwaits_any (h : EndM w P M G own k s) : Calls Try.prog 13 #[.pointer (some ⟨P, 0, none⟩)] w fun e w' => e = .returned (.int .i64 s.sent.length) ∧ w' = w := by
 obtain ⟨A, c, _, e0, _⟩ := h.cells
 clear h
 go_enter Try.func13, Try.ntmps13
 go_wp2
 go_ret
 exact ⟨rfl, rfl⟩
theorem lnext_any (h : EndM w P M G own k s) : Calls Try.prog 15 #[.pointer (some ⟨P, 0, none⟩)] w fun e w' => e = .returned (.int .i64 s.next) ∧ w' = w := by
 obtain ⟨A, c, _, _, e0, _⟩ := h.cells
 clear h
 go_enter Try.func15, Try.ntmps15
 go_wp2
 go_ret
 exact ⟨rfl, rfl⟩
theorem lheard_any (h : EndM w P M G own k s) : Calls Try.prog 14 #[.pointer (some ⟨P, 0, none⟩)] w fun e w' => e = .returned (.int .i64 s.heard) ∧ w' = w := by
 obtain ⟨A, c, _, _, _, e0, _⟩ := h.cells
 clear h
 go_enter Try.func14, Try.ntmps14
 go_wp2
 go_ret
 exact ⟨rfl, rfl⟩
end
end Go.Proofs.Ytigmmikijjcdiaa
namespace Go.Proofs.Ytigmmikijjcdiaa
open Go.RowKit
theorem row_ne {w : World} {g h : Nat} {c d : Array Value} {T U : TypeId} {x y : Nat × Nat} (h1 : w.heap[g]? = some (.cells c T x)) (h2 : w.heap[h]? = some (.cells d U y)) (hT : T ≠ U) : g ≠ h := by
 rintro rfl
 rw [h1] at h2
 injection h2 with h2
 injection h2 with _ h2
 exact hT h2
theorem below_dr {B : Nat} {a w : World} (h : Below B a.drew w) : Below B a w := ⟨h.os, h.tape, h.output, h.size, h.block⟩
theorem not_inO {G : Option Nat} {g : Nat} (h : G ≠ some g) : g ∉ G.toList := by
 cases G with
 | none => simp
 | some x =>
  intro hm
  simp at hm
  exact h (by rw [hm])
theorem in_O {G : Option Nat} {g : Nat} (h : g ∈ G.toList) : G = some g := by
 cases G with
 | none => simp at h
 | some x =>
  simp at h
  rw [h]
theorem ByV.row {w : World} {own : Nat → Option (Bool × Nat)} {tg : Bool × Nat} {v : Value} {b : BL} (h : ByV w own tg v b) : Rd w w.heap.size (match v with | .slice A _ _ => A | _ => none) (u8s b) := by
 obtain ⟨⟨A, c, rfl⟩, h⟩ := h
 by_cases hb : b = []
 ·subst hb
  exact Rd.nil_
 ·exact Rd.of_own (h hb).1
def SendPost (w : World) (P M : Nat) (G : Option Nat) (own : Nat → Option (Bool × Nat)) (k : Nat) (s : LE) (b : BL) (e : Ending) (w' : World) : Prop :=
 e = .returned (.int .i64 (sendL s b).1) ∧ ∃ G' own', EndM w' P M G' own' k (sendL s b).2 ∧ KB (P :: G.toList) w w' ∧ (G' = G ∨ ∃ g, G' = some g ∧ w.heap.size ≤ g) ∧ ∀ g, own' g = own g ∨ w.heap.size ≤ g
theorem send_fin {w z y wf : World} {P M : Nat} {G G' : Option Nat} {own : Nat → Option (Bool × Nat)} {k : Nat} {s : LE} {b : BL} {sv v' : Value} {vs : List Value} {f : Nat → Option Value} {D : DataW Value} {A : Option Addr} {c : Nat}
  (h0 : LEok s) (h1 : ∀ g, own g ≠ none → g < w.heap.size) (h2 : w.heap[P]? = some (.cells #[.int .i64 (s.ep : Int), sv, .int .i64 (s.next : Int), .int .i64 (s.heard : Int), .int .i64 (s.fresh : Int), .bool s.owes, .map (some M)] 67 (0, 0))) (h3 : SRow w G sv vs) (h4 : vs.length = s.sent.length ∧ ∀ i v b, vs[i]? = some v → s.sent[i]? = some b → ByV w own (true, s.first + i) v b)
  (h6 : w.ownsMap Try.prog 2 heldElem M k D ∧ AhIs D f) (h8 : ∀ n, (f n).isSome = (s.ahead n).isSome) (h9 : ∀ n v b, f n = some v → s.ahead n = some b → ByV w own (false, n) v b)
  (hb : b.length ≤ 1048576) (hn : s.next < 1000000) (hl : s.sent.length < 64) (hz : Below w.heap.size w z) (hv : z.ownsRow w.heap.size 5 1 (.slice A b.length c) b.length (u8s b))
  (hy : SRow y G' v' (vs ++ [.slice A b.length c])) (hk : KB G.toList z y) (hG : G' = G ∨ ∃ g, G' = some g ∧ z.heap.size ≤ g)
  (hf : wf.heap[P]? = some (.cells #[.int .i64 (s.ep : Int), v', .int .i64 ((s.next : Int) + 1), .int .i64 (s.heard : Int), .int .i64 (s.fresh : Int), .bool s.owes, .map (some M)] 67 (0, 0))) (hfo : ∀ g, g ≠ P → wf.heap[g]? = y.heap[g]?) (hfs : wf.heap.size = y.heap.size) (hfe : Env y wf) :
  SendPost w P M G own k s b (.returned (.int .i64 0)) wf := by
 have hs : sendL s b = (0, { s with sent := s.sent ++ [b], next := s.next + 1 }) := by unfold sendL; rw [if_neg (by unfold mostL; omega), if_neg (by omega)]
 have hP := lt_of_block h2
 have hsz := hz.size
 have hsy := hk.1
 have hkp : ∀ g, g < w.heap.size → g ≠ P → G ≠ some g → wf.heap[g]? = w.heap[g]? := fun g hg hp hx => (hfo g hp).trans ((hk.2 g (by omega) (not_inO hx)).trans (hz.block g hg))
 have hvb : ∀ g, (Value.slice A b.length c).ownBlock = some g → w.heap.size ≤ g ∧ g < z.heap.size := fun g hg => hv.lt g hg
 have hpg : ∀ g, G = some g → g ≠ P ∧ g ≠ M := fun g hg => by
  obtain ⟨cur, hc⟩ := h3.blk g hg
  refine ⟨row_ne hc h2 (by decide), ?_⟩
  rintro rfl
  obtain ⟨es, clock, hm, _⟩ := h6.1
  rw [hc] at hm
  cases hm
 have hpm : M ≠ P := by
  rintro rfl
  obtain ⟨es, clock, hm, _⟩ := h6.1
  rw [h2] at hm
  cases hm
 have hby : ∀ tg v b', ByV w own tg v b' → ByV wf (fun g => if (Value.slice A b.length c).ownBlock = some g then some (true, s.next) else own g) tg v b' := fun tg v b' h => h.keep fun g cur hg hc => by
  have hgw := lt_of_block hc
  refine ⟨hkp g hgw (row_ne hc h2 (by decide)) (fun e => ?_), ?_⟩
  ·obtain ⟨cur', hc'⟩ := h3.blk g e
   exact row_ne hc hc' (by decide) rfl
  ·rw [if_neg (fun e => by have := hvb g e; omega)]
   exact hg
 unfold SendPost
 rw [hs]
 have hfirst : ({ s with sent := s.sent ++ [b], next := s.next + 1 } : LE).first = s.first := by unfold LE.first; simp
 have hft := h0.first
 refine ⟨rfl, G', fun g => if (Value.slice A b.length c).ownBlock = some g then some (true, s.next) else own g, ⟨⟨h0.ep, by simp; omega, by simp; omega, by rw [hfirst]; exact h0.fresh1, Nat.le_trans h0.fresh2 (Nat.le_succ _), by show s.next + 1 ≤ _; omega, h0.heard, fun x hx => ?_, h0.ahead⟩, fun g hg => ?_, v', vs ++ [.slice A b.length c], f, D, hf, ?_, ⟨by simp [h4.1], fun i v x hi hx => ?_⟩, ⟨map_keep h6.1 (hkp M (map_lt h6.1) hpm (fun e => (hpg M e).2 rfl)), h6.2⟩, h8, fun n v x hx hy => hby _ _ _ (h9 n v x hx hy)⟩, ⟨by omega, fun g hg hx => hkp g hg (fun e => hx (by rw [e]; exact List.mem_cons_self)) (fun e => hx (List.mem_cons_of_mem _ (by rw [e]; simp))), (Env.of_below hz).trans (hk.3.trans hfe)⟩, ?_, fun g => ?_⟩
 ·rcases List.mem_append.1 hx with hx | hx
  ·exact h0.bytes x hx
  ·simp at hx; subst hx; exact hb
 ·dsimp only at hg
  by_cases e : (Value.slice A b.length c).ownBlock = some g
  ·have := (hvb g e).2; omega
  ·rw [if_neg e] at hg
   have := h1 g hg
   omega
 ·refine hy.keep fun g hg hl => hfo g ?_
  rintro rfl
  rcases hG with hG | ⟨g', hG, hl'⟩
  ·exact (hpg g (by rw [← hG]; exact hg)).1 rfl
  ·rw [hG] at hg
   injection hg with hg
   omega
 ·rw [hfirst]
  rcases Nat.lt_or_ge i vs.length with hi' | hi'
  ·rw [List.getElem?_append_left hi'] at hi
   rw [List.getElem?_append_left (by rw [← h4.1]; exact hi')] at hx
   exact hby _ _ _ (h4.2 i v x hi hx)
  ·have hil := (List.getElem?_eq_some_iff.1 hi).1
   rw [List.length_append] at hil
   obtain rfl : i = vs.length := by simp at hil; omega
   rw [List.getElem?_append_right (Nat.le_refl _)] at hi
   rw [h4.1, List.getElem?_append_right (Nat.le_refl _)] at hx
   simp at hi hx
   subst hi hx
   refine ⟨⟨A, c, rfl⟩, fun _ => ⟨?_, fun g hg => ?_⟩⟩
   ·refine own_same (own_base hv (Nat.zero_le _)) fun g hg => ?_
    have hg' := hvb g hg
    refine (hfo g (by omega)).trans (hk.2 g hg'.2 fun e => ?_)
    have hGg : G = some g := in_O e
    obtain ⟨cur, hc⟩ := h3.blk g hGg
    have := lt_of_block hc
    omega
   ·dsimp only
    rw [if_pos hg, h4.1]
    have : s.first + s.sent.length = s.next := by unfold LE.first; omega
    rw [this]
 ·rcases hG with hG | ⟨g', hG, hl'⟩
  ·exact .inl hG
  ·exact .inr ⟨g', hG, by omega⟩
 ·dsimp only
  by_cases e : (Value.slice A b.length c).ownBlock = some g
  ·exact .inr (hvb g e).1
  ·rw [if_neg e]
   exact .inl rfl
theorem send_any (w : World) {P M : Nat} {G : Option Nat} {own : Nat → Option (Bool × Nat)} {k : Nat} {s : LE} (h : EndM w P M G own k s) (A : Option Addr) (b : BL) (c : Nat) (hR : Rd w w.heap.size A (u8s b)) (hb : b.length ≤ 100000000) (hn : s.next < 1000000) :
  Calls Try.prog 10 #[.pointer (some ⟨P, 0, none⟩), .slice A b.length c] w (SendPost w P M G own k s b) := by
 have HB := hide h
 obtain ⟨h0, h1, sv, vs, f, D, h2, h3, h4, h6, h8, h9⟩ := h
 obtain ⟨Av, cv, rfl, -⟩ := id h3
 obtain ⟨ns, hns⟩ : ∃ x, vs.length = x := ⟨_, rfl⟩
 rw [hns] at h2 h3
 have HNS := hide hns
 have e1 : w.cell? ⟨P, 1, none⟩ = some (.slice Av ns cv) := cell_of_row _ _ 1 _ _ _ h2
 have e2 : w.cell? ⟨P, 2, none⟩ = some (.int .i64 (s.next : Int)) := cell_of_row _ _ 2 _ _ _ h2
 have hsn : ns = s.sent.length := hns.symm.trans h4.1
 obtain ⟨m, hm⟩ : ∃ x, b.length = x := ⟨_, rfl⟩
 rw [hm] at hb ⊢
 have HM := hide hm
 have HR := hide hR
 have H0 := hide h0
 have H1 := hide h1
 have H2 := hide h2
 have H3 := hide h3
 have H4 := hide h4
 have H6 := hide h6
 have H8 := hide h8
 have H9 := hide h9
 have hP : P < w.heap.size := lt_of_block h2
 have hns64 : ns ≤ 64 := by rw [hsn]; exact h0.sent
 obtain ⟨nx0, hnx⟩ : ∃ x, s.next = x := ⟨_, rfl⟩
 rw [hnx] at e2 hn
 have HNX := hide hnx
 have HSN := hide hsn
 clear h0 h1 h2 h3 h4 h6 h8 h9 hR hm hns hsn hnx
 by_cases c1 : 1048576 < m
 ·have HS : Hid (sendL s b = (3, s)) := hide (by unfold sendL; rw [if_pos (.inl (by rw [HM.out]; exact c1))])
  have d1 : (1048576 : Int) < (m : Int) := by omega
  go_enter Try.func10, Try.ntmps10
  go_wp2
  go_ret
  exact (show sendL s b = (3, s) → SendPost w P M G own k s b (.returned (.int .i64 3)) w from fun e9 => ⟨by rw [e9], by rw [e9]; exact ⟨G, own, HB.out, KB.refl _ _, .inl rfl, fun _ => .inl rfl⟩⟩) HS.out
 have d1 : ¬ (1048576 : Int) < (m : Int) := by omega
 have d2 : ¬ (4611686018427387904 : Int) ≤ (nx0 : Int) := by omega
 by_cases c2 : 64 ≤ ns
 ·have HS : Hid (sendL s b = (161, s)) := hide (by unfold sendL; rw [if_neg (by rw [HM.out, HNX.out]; unfold mostL; omega), if_pos (by rw [← HSN.out]; exact c2)])
  have d3 : (64 : Int) ≤ (ns : Int) := by omega
  go_enter Try.func10, Try.ntmps10
  go_wp2
  go_ret
  exact (show sendL s b = (161, s) → SendPost w P M G own k s b (.returned (.int .i64 161)) w from fun e9 => ⟨by rw [e9], by rw [e9]; exact ⟨G, own, HB.out, KB.refl _ _, .inl rfl, fun _ => .inl rfl⟩⟩) HS.out
 have d3 : ¬ (64 : Int) ≤ (ns : Int) := by omega
 have hcl := clone_any w.drew A b c HR.out (by rw [HM.out]; omega)
 rw [HM.out] at hcl
 have HCl := hide hcl
 clear hcl
 obtain ⟨a3, a3i, a3z, a3s, a3b⟩ := info_parts (show (Try.prog.info? 23).map (fun i => (i.zero, i.size, i.bytes)) = some (some (.slice none 0 0), 1, 24) by kernel_rfl)
 go_enter Try.func10, Try.ntmps10
 go_upto_region 7 with fail
 refine wpL_region (S := Kept w) [8, 11] (by kernel_rfl) (Kept.drew w) (fun hS0 => ?_)
 refine tw 0 26 ?_ ?_ ?_; rotate_left; (focus (intro w; go_simp; (try with_reducible rfl); done)); (try simp only [zqd, zqe, zqf])
 refine tw 1 27 ?_ ?_ ?_; rotate_left; (focus (intro w; go_simp; (try with_reducible rfl); done)); (try simp only [zqd, zqe, zqf])
 refine tw 2 28 ?_ ?_ ?_; rotate_left; (focus (intro w; go_simp; (try with_reducible rfl); done)); (try simp only [zqd, zqe, zqf])
 refine tw 3 29 ?_ ?_ ?_; rotate_left; (focus (intro w; go_simp; (try with_reducible rfl); done)); (try simp only [zqd, zqe, zqf])
 refine tl 4 30 ?_ ?_ ?_; rotate_left; (focus (intro w h; go_simp; (try with_reducible rfl))); (try simp only [zqd, zqe, zqf])
 refine tw 5 31 ?_ ?_ ?_; rotate_left; (focus (intro w; go_simp; (try with_reducible rfl); done)); (try simp only [zqd, zqe, zqf])
 refine callL_at (i := 6) (d := 32) (by simp only [zqa, zqb, zqc]; rfl) rfl (by kernel_rfl) rfl (fun K hK => ?_)
 go_simp
 refine HCl.out.mono ?_
 rintro e w1 ⟨⟨A1, c1, rfl, ho⟩, hb1⟩
 have HB1 := hide (show Below w.heap.size w w1 from (below_dr hb1))
 have HO1 := hide ho
 have hS1 : Kept w w1 := Kept.of_below HB1.out
 clear ho hb1
 go_wp2_with fail
 refine hK.out _ _ hS1 (fun hSn => ?_)
 clear hK K
 try simp only [zqd, zqe, zqf]
 refine callL_at (i := 7) (d := 33) (by simp only [zqa, zqb, zqc]; rfl) rfl (by kernel_rfl) rfl (fun K hK => ?_)
 go_simp
 try rw [HM.out]
 obtain ⟨z, hz⟩ : ∃ z, w1.alloc (.cells #[.slice A1 m c1] 23) = z := ⟨_, rfl⟩
 have HZ : Hid (z.heap[w1.heap.size]? = some (.cells #[.slice A1 m c1] 23)) := hide (by rw [← hz]; exact heap_alloc_last _ _)
 have HBz := hide (show Below w.heap.size w z by rw [← hz]; exact HB1.out.alloc HB1.out.size _)
 have HOz : Hid (z.ownsRow w.heap.size 5 1 (.slice A1 m c1) m (u8s b)) := hide (by rw [← hz]; exact HO1.out.alloc _)
 have hS2 : Kept w z := Kept.of_below HBz.out
 rw [hz]
 clear hz
 refine hK.out _ _ hS2 (fun hSn => ?_)
 clear hK K
 try simp only [zqd, zqe, zqf]
 refine exL_at (i := 8) (by simp only [zqa, zqb, zqc]; rfl) (by kernel_rfl) rfl (by kernel_rfl) (fun K hK => ?_)
 refine op_srow (.tmp 30) (.tmp 33) 22 rfl a3 (.slice none 0 0) Try.underlying22 a3i a3z a3s a3b rfl (.slice Av ns cv) G vs rfl (H3.out.keep fun g hg hl => HBz.out.block g hl) ⟨w1.heap.size, 0, none⟩ 1 (.slice A1 m c1) rfl (cell_of_row _ _ 0 _ _ _ HZ.out) (by simp [Value.oneCell']) (by rw [HNS.out]; omega) ?_
 intro v' y G' hy hk hg
 obtain ⟨Ax, cx, hv', -⟩ := id hy
 obtain ⟨nl, hnl⟩ : ∃ x, (vs ++ [Value.slice A1 m c1]).length = x := ⟨_, rfl⟩
 rw [hnl] at hv'
 subst hv'
 clear hnl
 have HY := hide hy
 have HK := hide hk
 have HG := hide hg
 have hPy : y.heap[P]? = z.heap[P]? := hk.2 P (Nat.lt_of_lt_of_le hP HBz.out.size) (not_inO (fun e => by obtain ⟨cur, hc⟩ := H3.out.blk P e; exact row_ne hc H2.out (by decide) rfl))
 have HPy := hide (hPy.trans ((HBz.out.block P hP).trans H2.out))
 have f1 : y.frozen? ⟨P, 1, none⟩ = false := frozen_of_row _ _ 1 _ _ HPy.out
 have g1 : y.cell? ⟨P, 1, none⟩ = some (.slice Av ns cv) := cell_of_row _ _ 1 _ _ _ HPy.out
 clear hy hk hg hPy
 refine hK.out _ _ ?_
 clear hK K
 simp only [Act.put]
 try simp only [zqd, zqe, zqf]
 refine tw 9 35 ?_ ?_ ?_; rotate_left; (focus (intro w; go_simp; (try with_reducible rfl); done)); (try simp only [zqd, zqe, zqf])
 refine tw 10 36 ?_ ?_ ?_; rotate_left; (focus (intro w; go_simp; (try with_reducible rfl); done)); (try simp only [zqd, zqe, zqf])
 refine exL_at (i := 11) (by simp only [zqa, zqb, zqc]; rfl) (by kernel_rfl) rfl (by kernel_rfl) (fun K hK => ?_)
 go_wp2_with fail
 refine hK.out _ _ ?_
 clear hK K
 try simp only [zqd, zqe, zqf]
 refine wpAnyL_done (by kernel_rfl) ?_ _
 obtain ⟨u, hu⟩ : ∃ u, y.setCell ⟨P, 1, none⟩ (.slice Ax nl cx) = u := ⟨_, rfl⟩
 have HPu : Hid (u.heap[P]? = some (.cells #[.int .i64 (s.ep : Int), .slice Ax nl cx, .int .i64 (s.next : Int), .int .i64 (s.heard : Int), .int .i64 (s.fresh : Int), .bool s.owes, .map (some M)] 67)) := hide (by rw [← hu]; exact heap_setCell_same _ P 1 _ _ (.slice Ax nl cx) HPy.out)
 have HUo : Hid (∀ g, g ≠ P → u.heap[g]? = y.heap[g]?) := hide (fun g hg => by rw [← hu]; exact Below.heap_setCell _ _ _ _ hg)
 have HUs : Hid (u.heap.size = y.heap.size) := hide (by rw [← hu]; exact World.size_setCell _ _ _)
 have HUe : Hid (Env y u) := hide (by rw [← hu]; exact (Env.refl _).setCell _ _)
 rw [hu]
 clear hu f1 g1
 have f2 : u.frozen? ⟨P, 2, none⟩ = false := frozen_of_row _ _ 2 _ _ HPu.out
 have g2 : u.cell? ⟨P, 2, none⟩ = some (.int .i64 (nx0 : Int)) := by rw [← HNX.out]; exact cell_of_row _ _ 2 _ _ _ HPu.out
 have HFin : Hid (SendPost w P M G own k s b (.returned (.int .i64 0)) (u.setCell ⟨P, 2, none⟩ (.int .i64 ((nx0 : Int) + 1)))) := hide (send_fin H0.out H1.out H2.out H3.out H4.out H6.out H8.out H9.out (by rw [HM.out]; omega) (by rw [HNX.out]; exact hn) (by rw [← HSN.out]; omega) HBz.out (by rw [HM.out]; exact HOz.out) (by rw [HM.out]; exact HY.out) HK.out HG.out (by rw [← HNX.out]; exact heap_setCell_same _ P 2 _ _ _ HPu.out) (fun g hg => (Below.heap_setCell _ _ _ _ hg).trans (HUo.out g hg)) ((World.size_setCell _ _ _).trans HUs.out) (HUe.out.setCell _ _))
 go_wp2
 go_ret
 exact HFin.out
end Go.Proofs.Ytigmmikijjcdiaa
namespace Go.Proofs.Ytigmmikijjcdiaa
open Go.RowKit
def BRows (B : Nat) (w : World) (own : Nat → Option (Bool × Nat)) (tg : Nat → Bool × Nat) (v : Value) (fs : List BL) : Prop :=
 ∃ A c vs, v = .slice A fs.length c ∧ w.ownsRow B 23 1 v fs.length vs ∧ (∀ i u b, vs[i]? = some u → fs[i]? = some b → ByV w own (tg i) u b) ∧ ∀ u ∈ vs, u.oneCell' = true
theorem BRows.nil (B : Nat) (w : World) (own : Nat → Option (Bool × Nat)) (tg : Nat → Bool × Nat) : BRows B w own tg (.slice none 0 0) [] := ⟨none, 0, [], rfl, World.ownsRow_nil _ _ _ _, fun i u b h => by simp at h, fun u h => by simp at h⟩
theorem FrPost.byV {w' : World} {tag : Nat} {bs : BL} {ns : List Nat} {g : Nat} {own : Nat → Option (Bool × Nat)} {tg : Bool × Nat} (h : w'.heap[g]? = some (.cells (u8s (fr tag bs ns)).toArray 5)) (hl : (fr tag bs ns).length ≤ maxLen) (ho : own g = some tg) :
  ByV w' own tg (.slice (some ⟨g, 0, none⟩) (fr tag bs ns).length (fr tag bs ns).length) (fr tag bs ns) := by
 refine ⟨⟨_, _, rfl⟩, fun _ => ⟨⟨by rw [u8s_len, Nat.mul_one], .inr ⟨g, _, _, rfl, Nat.zero_le _, h, Nat.le_refl _, hl, by simp [u8s_len], (by rw [Nat.mul_one]; exact List.take_of_length_le (by rw [u8s_len]; exact Nat.le_refl _))⟩⟩, fun g' hg' => ?_⟩⟩
 have e : g = g' := by
  injection hg' with e
 subst e
 exact ho
theorem BRows.more {B : Nat} {w w' : World} {own own' : Nat → Option (Bool × Nat)} {tg : Nat → Bool × Nat} {v' : Value} {fs : List BL} {u : Value} {b : BL} {vs : List Value} {A' : Option Addr} {c' : Nat}
  (h3 : ∀ i u b, vs[i]? = some u → fs[i]? = some b → ByV w own (tg i) u b) (h4 : ∀ u ∈ vs, u.oneCell' = true) (hvl : vs.length = fs.length)
  (hv : v' = .slice A' (fs.length + 1) c') (ho : w'.ownsRow B 23 1 v' (fs.length + 1) (vs ++ [u])) (hk : ∀ i u b, ByV w own (tg i) u b → ByV w' own' (tg i) u b) (hu : ByV w' own' (tg fs.length) u b) : BRows B w' own' tg v' (fs ++ [b]) := by
 refine ⟨A', c', vs ++ [u], by rw [hv]; simp, by simpa using ho, fun i x y hx hy => ?_, fun x hx => ?_⟩
 ·rcases Nat.lt_or_ge i vs.length with hi | hi
  ·rw [List.getElem?_append_left hi] at hx
   rw [List.getElem?_append_left (by omega)] at hy
   exact hk _ _ _ (h3 i x y hx hy)
  ·have hl := (List.getElem?_eq_some_iff.1 hx).1
   obtain rfl : i = fs.length := by simp at hl; omega
   rw [List.getElem?_append_right (by omega), hvl] at hx
   rw [List.getElem?_append_right (Nat.le_refl _)] at hy
   simp at hx hy
   subst hx hy
   exact hu
 ·rcases List.mem_append.1 hx with hx | hx
  ·exact h4 x hx
  ·simp at hx
   subst hx
   obtain ⟨⟨A, c, rfl⟩, _⟩ := hu
   rfl
theorem lfirst_any (w : World) {P M : Nat} {G : Option Nat} {own : Nat → Option (Bool × Nat)} {k : Nat} {s : LE} (h : EndM w P M G own k s) :
  Calls Try.prog 32 #[.pointer (some ⟨P, 0, none⟩)] w fun e w' => e = .returned (.int .i64 (s.first : Int)) ∧ Below w.heap.size w w' := by
 obtain ⟨A, c, -, e1, e2, -, -, -, hP⟩ := h.cells
 have hf := h.1.first
 have hn := h.1.next
 have hl := h.1.sent
 obtain ⟨ns, hns⟩ : ∃ x, s.sent.length = x := ⟨_, rfl⟩
 obtain ⟨nx0, hnx⟩ : ∃ x, s.next = x := ⟨_, rfl⟩
 rw [hns] at e1 hf hl
 rw [hnx] at e2 hf hn
 have HF : Hid ((s.first : Int) = (nx0 : Int) - (ns : Int)) := hide (by unfold LE.first; rw [hns, hnx]; omega)
 have k2 : IntKind.i64.wrap ((nx0 : Int) - (ns : Int)) = (nx0 : Int) - (ns : Int) := IntWalk.i64_in _ (by omega)
 clear h hns hnx
 go_enter Try.func32, Try.ntmps32
 go_upto_region 1 with fail
 refine wp_region_held_drew (S := Kept w) (by kernel_rfl) (Kept.drew w) (fun hS0 => ?_)
 refine tk 0 3 ?_ ?_ ?_; rotate_left; (focus (intro w h; go_simp; (try with_reducible rfl))); (try simp only [zqd, zqe, zqf])
 refine tk 1 4 ?_ ?_ ?_; rotate_left; (focus (intro w h; go_simp; (try with_reducible rfl))); (try simp only [zqd, zqe, zqf])
 refine tk 2 5 ?_ ?_ ?_; rotate_left; (focus (intro w h; go_simp; (try with_reducible rfl))); (try simp only [zqd, zqe, zqf])
 refine tk 3 6 ?_ ?_ ?_; rotate_left; (focus (intro w h; go_simp; (try with_reducible rfl))); (try simp only [zqd, zqe, zqf])
 refine tk 4 7 ?_ ?_ ?_; rotate_left; (focus (intro w h; go_simp; (try with_reducible rfl))); (try simp only [zqd, zqe, zqf])
 refine tk 5 8 ?_ ?_ ?_; rotate_left; (focus (intro w h; go_simp; (try with_reducible rfl))); (try simp only [zqd, zqe, zqf])
 refine tk 6 9 ?_ ?_ ?_; rotate_left; (focus (intro w h; go_simp; (try with_reducible rfl))); (try simp only [zqd, zqe, zqf])
 refine tk 7 10 ?_ ?_ ?_; rotate_left; (focus (intro w h; go_simp; (try with_reducible rfl))); (try simp only [zqd, zqe, zqf])
 refine tk 8 11 ?_ ?_ ?_; rotate_left; (focus (intro w h; go_simp; (try with_reducible rfl))); (try simp only [zqd, zqe, zqf])
 refine tk 9 12 ?_ ?_ ?_; rotate_left; (focus (intro w h; go_simp; (try with_reducible rfl))); (try simp only [zqd, zqe, zqf])
 refine tk 10 2 ?_ ?_ ?_; rotate_left; (focus (intro w h; go_simp; (try with_reducible rfl))); (try simp only [zqd, zqe, zqf])
 refine wpAnyH_done (by kernel_rfl) ?_ _
 go_wp2
 go_ret
 exact ⟨by rw [HF.out]; try simp [k2], (Below.refl _ _).drew⟩
theorem fr_len (tag : Nat) (b : BL) (ns : List Nat) : (fr tag b ns).length = 5 + 8 * ns.length + b.length := by
 unfold fr frB
 rw [List.length_append, List.length_append, List.length_append, be_len, be_len, flat8_len]
 omega
theorem own_type {w : World} {B size n : Nat} {e : TypeId} {v : Value} {xs : List Value} (h : w.ownsRow B e size v n xs) : ∀ g, v.ownBlock = some g → ∃ cur, w.heap[g]? = some (.cells cur e (0, 0)) := fun g hg => by
 rcases h.2 with ⟨rfl, _⟩ | ⟨g', cap, cur, rfl, _, hc, _⟩
 ·cases hg
 ·injection hg with e
  have e : g' = g := e
  subst e
  exact ⟨cur, hc⟩
theorem app_below1 {w wr y4 y5 : World} {e : TypeId} {size n : Nat} {v : Value} {xs : List Value} (hb : Below w.heap.size w y4) (ho : wr.ownsRow w.heap.size e size v n xs) (hg : y4.grownBy y5 v.ownBlock) : Below w.heap.size w y5 :=
 ⟨hg.os.trans hb.os, hg.tape.trans hb.tape, hg.output.trans hb.output, Nat.le_trans hb.size hg.size, fun q hq => (hg.block q (Nat.lt_of_lt_of_le hq hb.size) (fun e => by have := (ho.lt q e.symm).1; omega)).trans (hb.block q hq)⟩
def frOf (s : LE) (i : Nat) : BL := fr 1 (s.sent.getD (i - s.first) []) [s.ep, s.heard, i]
def FRows (w wr : World) (n : Nat) (s : LE) (j : Nat) (v : Value) : Prop :=
 ∃ own2, BRows w.heap.size wr own2 (fun q => (true, q)) v ((List.range' n j).map (frOf s)) ∧ ∀ g, own2 g ≠ none → w.heap.size ≤ g ∧ g < wr.heap.size
def FromPost (w : World) (P M : Nat) (G : Option Nat) (own : Nat → Option (Bool × Nat)) (k : Nat) (s : LE) (n : Nat) (ack : Bool) (e : Ending) (w' : World) : Prop :=
 ∃ v own2, e = .returned v ∧ BRows w.heap.size w' own2 (fun q => (true, q)) v (fromL s n ack).1 ∧ (∀ g, own2 g ≠ none → w.heap.size ≤ g ∧ g < w'.heap.size) ∧ EndM w' P M G own k (fromL s n ack).2 ∧ KB [P] w w'
theorem rows_fr {w wr y2 y4 y5 : World} {j g3 fl tag : Nat} {b : BL} {ns : List Nat} {fs : List BL} {A7 A8 : Option Addr} {c7 c8 : Nat} {vs2 : List Value} {own2 : Nat → Option (Bool × Nat)}
  (hw : Below w.heap.size w wr) (h2 : Below wr.heap.size wr y2) (h4 : Below wr.heap.size wr y4) (hg3 : y2.heap.size ≤ g3) (hc4 : y4.heap[g3]? = some (.cells (u8s (fr tag b ns)).toArray 5))
  (h7 : wr.ownsRow w.heap.size 23 1 (.slice A7 j c7) j vs2) (hg : y4.grownBy y5 (Value.slice A7 j c7).ownBlock) (h5 : y5.ownsRow w.heap.size 23 1 (.slice A8 (j + 1) c8) (j + 1) (vs2 ++ [.slice (some ⟨g3, 0, none⟩) fl fl]))
  (h39 : ∀ i u b, vs2[i]? = some u → fs[i]? = some b → ByV wr own2 (true, i) u b) (h49 : ∀ u ∈ vs2, u.oneCell' = true) (hob : ∀ g, own2 g ≠ none → w.heap.size ≤ g ∧ g < wr.heap.size)
  (hlen : fs.length = j) (hfl : (fr tag b ns).length = fl) (hl : (fr tag b ns).length ≤ maxLen) : ∃ own3, BRows w.heap.size y5 own3 (fun q => (true, q)) (.slice A8 (j + 1) c8) (fs ++ [fr tag b ns]) ∧ ∀ g, own3 g ≠ none → w.heap.size ≤ g ∧ g < y5.heap.size := by
 have s2 := h2.size
 have s4 := h4.size
 have s5 := hg.size
 have sw := hw.size
 have hl4 := lt_of_block hc4
 have hc5 : y5.heap[g3]? = some (.cells (u8s (fr tag b ns)).toArray 5) := (hg.block g3 hl4 (fun e => by have := (h7.lt g3 e.symm).2; omega)).trans hc4
 refine ⟨fun q => if q = g3 then some (true, j) else own2 q, ?_, fun q hq => ?_⟩
 ·refine BRows.more (A' := A8) (c' := c8) h39 h49 (by rw [hlen]; have := h7.1; omega) (by rw [hlen]) (by rw [hlen]; exact h5) (fun q u b h => h.keep fun g' cur hg' hc => ⟨?_, ?_⟩) ?_
  ·have hlt := lt_of_block hc
   refine (hg.block g' (by omega) (fun e => ?_)).trans (h4.block g' hlt)
   obtain ⟨cur', hc'⟩ := own_type h7 g' e.symm
   exact row_ne hc hc' (by decide) rfl
  ·have hlt := lt_of_block hc
   rw [if_neg (by omega)]
   exact hg'
  ·rw [hlen]
   have h9 := FrPost.byV (own := fun q => if q = g3 then some (true, j) else own2 q) (tg := (true, j)) hc5 hl (if_pos rfl)
   rw [hfl] at h9
   exact h9
 ·dsimp only at hq
  by_cases e : q = g3
  ·have := lt_of_block hc5
   omega
  ·rw [if_neg e] at hq
   have := hob q hq
   omega
theorem from_more {w wr y2 y4 y5 : World} {n j i g3 fl : Nat} {s : LE} {b : BL} {ns : List Nat} {A7 A8 : Option Addr} {c7 c8 : Nat} {vs2 : List Value} {own2 : Nat → Option (Bool × Nat)}
  (hw : Below w.heap.size w wr) (h2 : Below wr.heap.size wr y2) (h4 : Below wr.heap.size wr y4) (hg3 : y2.heap.size ≤ g3) (hc4 : y4.heap[g3]? = some (.cells (u8s (fr 1 b ns)).toArray 5))
  (h7 : wr.ownsRow w.heap.size 23 1 (.slice A7 j c7) j vs2) (hg : y4.grownBy y5 (Value.slice A7 j c7).ownBlock) (h5 : y5.ownsRow w.heap.size 23 1 (.slice A8 (j + 1) c8) (j + 1) (vs2 ++ [.slice (some ⟨g3, 0, none⟩) fl fl]))
  (h39 : ∀ i u b, vs2[i]? = some u → ((List.range' n j).map (frOf s))[i]? = some b → ByV wr own2 (true, i) u b) (h49 : ∀ u ∈ vs2, u.oneCell' = true) (hob : ∀ g, own2 g ≠ none → w.heap.size ≤ g ∧ g < wr.heap.size)
  (hi : i = n + j) (hf : frOf s i = fr 1 b ns) (hfl : (fr 1 b ns).length = fl) (hl : (fr 1 b ns).length ≤ maxLen) : FRows w y5 n s (j + 1) (.slice A8 (j + 1) c8) := by
 have hr : (List.range' n (j + 1)).map (frOf s) = (List.range' n j).map (frOf s) ++ [frOf s i] := by rw [List.range'_1_concat, List.map_append, ← hi]; rfl
 unfold FRows
 rw [hr, hf]
 exact rows_fr hw h2 h4 hg3 hc4 h7 hg h5 h39 h49 hob (by rw [List.length_map, List.length_range']) hfl hl
theorem EndM.upd {y : World} {P M : Nat} {G : Option Nat} {own : Nat → Option (Bool × Nat)} {k : Nat} {s : LE} (h : EndM y P M G own k s) (o : Bool) : EndM ((y.setCell ⟨P, 5, none⟩ (.bool o)).setCell ⟨P, 4, none⟩ (.int .i64 (s.next : Int))) P M G own k { s with owes := o, fresh := s.next } := by
 obtain ⟨h0, h1, sv, vs, f, D, h2, h3, ⟨h4, h5⟩, ⟨h6, h7⟩, h8, h9⟩ := h
 have hk : ∀ g, g ≠ P → ((y.setCell ⟨P, 5, none⟩ (.bool o)).setCell ⟨P, 4, none⟩ (.int .i64 (s.next : Int))).heap[g]? = y.heap[g]? := fun g hg => (Below.heap_setCell _ _ _ _ hg).trans (Below.heap_setCell _ _ _ _ hg)
 have hB : ∀ tg v b, ByV y own tg v b → ByV ((y.setCell ⟨P, 5, none⟩ (.bool o)).setCell ⟨P, 4, none⟩ (.int .i64 (s.next : Int))) own tg v b := fun tg v b hb => hb.keep fun g cur hg hc => ⟨hk g (row_ne hc h2 (by decide)), hg⟩
 have hm : M ≠ P := by
  rintro rfl
  obtain ⟨es, clock, hm, _⟩ := h6
  rw [h2] at hm
  cases hm
 have hff : s.first ≤ s.next := by unfold LE.first; omega
 refine ⟨⟨h0.ep, h0.sent, h0.first, hff, Nat.le_refl _, h0.next, h0.heard, h0.bytes, h0.ahead⟩, fun g hg => by rw [World.size_setCell, World.size_setCell]; exact h1 g hg, sv, vs, f, D, heap_setCell_same _ P 4 _ _ _ (heap_setCell_same _ P 5 _ _ _ h2), h3.keep fun g hg hl => hk g ?_, ⟨h4, fun i v b hv hb => hB _ _ _ (h5 i v b hv hb)⟩, ⟨map_keep h6 (hk M hm), h7⟩, h8, fun n v b hv hb => hB _ _ _ (h9 n v b hv hb)⟩
 obtain ⟨cur, hc⟩ := h3.blk g hg
 exact row_ne hc h2 (by decide)
theorem from_fin {w y : World} {P M n : Nat} {G : Option Nat} {own own2 : Nat → Option (Bool × Nat)} {k : Nat} {s : LE} {ack : Bool} {l : List BL} {v : Value} (hE : EndM y P M G own k s) (hb : Below w.heap.size w y) (hl : l = (fromL s n ack).1) (hB : BRows w.heap.size y own2 (fun q => (true, q)) v l) (hob : ∀ g, own2 g ≠ none → w.heap.size ≤ g ∧ g < y.heap.size) (o : Bool) (ho : o = (s.owes && l.isEmpty)) (hP : P < w.heap.size) :
  FromPost w P M G own k s n ack (.returned v) ((y.setCell ⟨P, 5, none⟩ (.bool o)).setCell ⟨P, 4, none⟩ (.int .i64 (s.next : Int))) := by
 have hk : ∀ g, g ≠ P → ((y.setCell ⟨P, 5, none⟩ (.bool o)).setCell ⟨P, 4, none⟩ (.int .i64 (s.next : Int))).heap[g]? = y.heap[g]? := fun g hg => (Below.heap_setCell _ _ _ _ hg).trans (Below.heap_setCell _ _ _ _ hg)
 have he : (fromL s n ack).2 = { s with owes := o, fresh := s.next } := by rw [ho, hl]; rfl
 refine ⟨v, own2, rfl, ?_, fun g hg => by rw [World.size_setCell, World.size_setCell]; exact hob g hg, by rw [he]; exact hE.upd o, ⟨by rw [World.size_setCell, World.size_setCell]; exact hb.size, fun g hg hx => (hk g (by simpa using hx)).trans (hb.block g hg), ((Env.of_below hb).setCell _ _).setCell _ _⟩⟩
 rw [← hl]
 obtain ⟨A, c, vs, h1, h2, h3, h4⟩ := hB
 refine ⟨A, c, vs, h1, own_same h2 fun g hg => hk g (by have := (h2.lt g hg).1; omega), fun i u b hu hb' => (h3 i u b hu hb').keep fun g cur hg hc => ⟨hk g (by have := hob g (by rw [hg]; simp); omega), hg⟩, h4⟩
theorem from_any (w : World) {P M : Nat} {G : Option Nat} {own : Nat → Option (Bool × Nat)} {k : Nat} {s : LE} (h : EndM w P M G own k s) (n : Nat) (hn1 : s.first ≤ n) (hn2 : n ≤ s.next) (ack : Bool) :
  Calls Try.prog 30 #[.pointer (some ⟨P, 0, none⟩), .int .i64 (n : Int), .bool ack] w (FromPost w P M G own k s n ack) := by
 have hok := h.1
 obtain ⟨A, c, e0, e1, e2, e3, e4, e5, hP⟩ := h.cells
 have HE := hide h
 obtain ⟨-, -, sv, vs, f, D, h2, h3, h4, -, -, -⟩ := h
 have hsv : sv = .slice A s.sent.length c := by have h9 := (cell_of_row _ _ 1 _ _ _ h2).symm.trans e1; injection h9
 subst hsv
 obtain ⟨ns, hns⟩ : ∃ x, s.sent.length = x := ⟨_, rfl⟩
 obtain ⟨nx0, hnx⟩ : ∃ x, s.next = x := ⟨_, rfl⟩
 obtain ⟨ep, hep⟩ : ∃ x, s.ep = x := ⟨_, rfl⟩
 obtain ⟨hd, hhd⟩ : ∃ x, s.heard = x := ⟨_, rfl⟩
 obtain ⟨fs, hfs⟩ : ∃ x, s.first = x := ⟨_, rfl⟩
 have b1 : ns ≤ 64 := by rw [← hns]; exact hok.sent
 have b2 : nx0 ≤ 1000000 := by rw [← hnx]; exact hok.next
 have b3' : ep ≤ 4611686018427387904 := by rw [← hep]; exact hok.ep
 have b4 : hd ≤ 1000000 := by rw [← hhd]; exact hok.heard
 have HS : Hid (s.sent.length = ns ∧ s.next = nx0 ∧ s.ep = ep ∧ s.heard = hd ∧ s.first = fs ∧ fs + ns = nx0) := hide ⟨hns, hnx, hep, hhd, hfs, by have := hok.first; rw [← hfs, ← hns, ← hnx]; unfold LE.first; omega⟩
 have HBy := hide hok.bytes
 rw [hns] at e1 h3 h4
 rw [hnx] at e2 hn2
 rw [hep] at e0
 rw [hhd] at e3
 rw [hfs] at hn1
 have HFs := hide hfs
 have H3 := hide h3
 have H4 := hide h4
 clear hok h2 h3 h4 hns hnx hep hhd hfs
 obtain ⟨a3, a3i, a3z, a3s, a3b⟩ := info_parts (show (Try.prog.info? 23).map (fun i => (i.zero, i.size, i.bytes)) = some (some (.slice none 0 0), 1, 24) by kernel_rfl)
 go_enter Try.func30, Try.ntmps30
 go_wp2_with fail
 go_loopw [1, 7] (fun v1 v7 wr => ∃ (i j : Nat) (A7 : Option Addr) (c7 : Nat), i ≤ nx0 ∧ v1 = .int .i64 (i : Int) ∧ v7 = .slice A7 j c7 ∧ Hid (i = n + j) ∧ Hid (FRows w wr n s j (.slice A7 j c7)) ∧ Hid (Below w.heap.size w wr)) (fun v1 _ _ => nx0 - (intOf v1).toNat)
 case atStart => exact ⟨n, 0, none, 0, hn2, rfl, rfl, hide rfl, hide ⟨fun _ => none, BRows.nil _ _ _ _, fun g hg => absurd rfl hg⟩, hide (Below.refl _ _)⟩
 case round =>
  obtain ⟨i, j, A7, c7, hi, rfl, rfl, HI, HF7, HBr⟩ := hrel
  obtain ⟨wr, rfl⟩ : ∃ z : World, z = wr := ⟨_, rfl⟩
  have swr : w.heap.size ≤ wr.heap.size := HBr.out.size
  have hPr : P < wr.heap.size := by omega
  have r0 := (HBr.out.cell (p := ⟨P, 0, none⟩) hP).trans e0
  have r1 := (HBr.out.cell (p := ⟨P, 1, none⟩) hP).trans e1
  have r2 := (HBr.out.cell (p := ⟨P, 2, none⟩) hP).trans e2
  have r3 := (HBr.out.cell (p := ⟨P, 3, none⟩) hP).trans e3
  have r4 := (HBr.out.cell (p := ⟨P, 4, none⟩) hP).trans e4
  have r5 := (HBr.out.cell (p := ⟨P, 5, none⟩) hP).trans e5
  have HEr := hide (HE.out.next HBr.out)
  by_cases hlt : i < nx0
  ·have hI1 : (i : Int) < (nx0 : Int) := by omega
   obtain ⟨kk, hkk⟩ : ∃ x, i - fs = x := ⟨_, rfl⟩
   have hfi : fs ≤ i := by have := HI.out; omega
   have hkn : kk < ns := by have := HS.out; omega
   have HKK : Hid (IntKind.i64.wrap ((i : Int) - (fs : Int)) = (kk : Int)) := hide (by rw [IntWalk.i64_in _ (by omega)]; omega)
   have HK2 := hide hkk
   clear hkk
   obtain ⟨u, hu⟩ : ∃ u, vs[kk]? = some u := ⟨_, List.getElem?_eq_getElem (by rw [H4.out.1]; exact hkn)⟩
   obtain ⟨b, hb⟩ : ∃ b, s.sent[kk]? = some b := ⟨_, List.getElem?_eq_getElem (by rw [HS.out.1]; exact hkn)⟩
   have hbv := H4.out.2 kk u b hu hb
   obtain ⟨⟨Au, cu, hue⟩, -⟩ := id hbv
   subst hue
   have HRb : Hid (Rd w w.heap.size Au (u8s b)) := hide hbv.row
   clear hbv
   obtain ⟨g, off, rfl, -, hgl, -, hc0⟩ := H3.out.at_ hu
   have hgr : g < wr.heap.size := by omega
   obtain ⟨bl, hbl⟩ : ∃ x, b.length = x := ⟨_, rfl⟩
   rw [hbl] at hc0
   have hbl2 : bl ≤ 1048576 := by rw [← hbl]; exact HBy.out b (List.mem_of_getElem? hb)
   have HBl := hide hbl
   have rk := (HBr.out.cell (p := ⟨g, off + kk, none⟩) hgl).trans hc0
   have HFr : Hid (frOf s i = fr 1 b [ep, hd, i]) := hide (by obtain ⟨_, _, k3, k4, k5, _⟩ := HS.out; unfold frOf; rw [k3, k4, k5, HK2.out, List.getD_eq_getElem?_getD, hb]; rfl)
   obtain ⟨own2, ⟨A9, c9, vs2, hv9, hO9, h39, h49⟩, hob⟩ := HF7.out
   injection hv9 with q1 q2 q3
   rw [List.length_map, List.length_range'] at hO9
   have HO7 := hide hO9
   have H39 := hide h39
   have H49 := hide h49
   have HOb := hide hob
   have HVl := hide hO9.1
   have hj : j ≤ 1000000 := by have := HI.out; omega
   clear q1 q2 q3 hO9 h39 h49 hob hu hb hbl hc0 HF7
   have HY0 : Hid (Below wr.heap.size wr wr) := hide (Below.refl _ _)
   go_upto_region 4 with fail
   refine wpL_region (S := Kept wr) [23] (by kernel_rfl) (Kept.drew wr) (fun hS0 => ?_)
   refine tl 0 16 ?_ ?_ ?_; rotate_left; (focus (intro w h; go_simp; (try with_reducible rfl))); (try simp only [zqd, zqe, zqf])
   refine tw 1 17 ?_ ?_ ?_; rotate_left; (focus (intro w; go_simp; (try with_reducible rfl); done)); (try simp only [zqd, zqe, zqf])
   refine tw 2 18 ?_ ?_ ?_; rotate_left; (focus (intro w; go_simp; (try with_reducible rfl); done)); (try simp only [zqd, zqe, zqf])
   refine tw 3 19 ?_ ?_ ?_; rotate_left; (focus (intro w; go_simp; (try with_reducible rfl); done)); (try simp only [zqd, zqe, zqf])
   refine takeU_at [4, 9, 10, 21, 22, 23, 24] (i := 4) (d := 20) (v := ?_) (by simp only [zqa, zqb, zqc]; rfl) rfl (by kernel_rfl) (by kernel_rfl) (by kernel_rfl) (by kernel_rfl) (by kernel_rfl) (by kernel_rfl) (fun _ _ _ h => h) rfl ?_ (by assumption) ?_
   rotate_left
   focus (intro w hSw; go_simp; (try with_reducible rfl); done)
   try simp only [zqd, zqe, zqf]
   refine tw 5 21 ?_ ?_ ?_; rotate_left; (focus (intro w; go_simp; (try with_reducible rfl); done)); (try simp only [zqd, zqe, zqf])
   refine tw 6 22 ?_ ?_ ?_; rotate_left; (focus (intro w; go_simp; (try with_reducible rfl); done)); (try simp only [zqd, zqe, zqf])
   refine tw 11 27 ?_ ?_ ?_; rotate_left; (focus (intro w; go_simp; (try with_reducible rfl); done)); (try simp only [zqd, zqe, zqf])
   refine tw 12 28 ?_ ?_ ?_; rotate_left; (focus (intro w; go_simp; (try with_reducible rfl); done)); (try simp only [zqd, zqe, zqf])
   refine tw 13 29 ?_ ?_ ?_; rotate_left; (focus (intro w; go_simp; (try with_reducible rfl); done)); (try simp only [zqd, zqe, zqf])
   refine takeU_at [14, 20, 21, 22, 23, 24] (i := 14) (d := 30) (v := ?_) (by simp only [zqa, zqb, zqc]; rfl) rfl (by kernel_rfl) (by kernel_rfl) (by kernel_rfl) (by kernel_rfl) (by kernel_rfl) (by kernel_rfl) (fun _ _ _ h => h) rfl ?_ (by assumption) ?_
   rotate_left
   focus (intro w hSw; go_simp; (try with_reducible rfl); done)
   try simp only [zqd, zqe, zqf]
   refine tw 15 31 ?_ ?_ ?_; rotate_left; (focus (intro w; go_simp; (try with_reducible rfl); done)); (try simp only [zqd, zqe, zqf])
   refine tw 16 32 ?_ ?_ ?_; rotate_left; (focus (intro w; go_simp; (try with_reducible rfl); done)); (try simp only [zqd, zqe, zqf])
   refine tw 17 33 ?_ ?_ ?_; rotate_left; (focus (intro w; go_simp; (try with_reducible rfl); done)); (try simp only [zqd, zqe, zqf])
   refine takeU_at [18, 20, 21, 22, 23, 24] (i := 18) (d := 34) (v := ?_) (by simp only [zqa, zqb, zqc]; rfl) rfl (by kernel_rfl) (by kernel_rfl) (by kernel_rfl) (by kernel_rfl) (by kernel_rfl) (by kernel_rfl) (fun _ _ _ h => h) rfl ?_ (by assumption) ?_
   rotate_left
   focus (intro w hSw; go_simp; (try with_reducible rfl); done)
   try simp only [zqd, zqe, zqf]
   refine tw 19 35 ?_ ?_ ?_; rotate_left; (focus (intro w; go_simp; (try with_reducible rfl); done)); (try simp only [zqd, zqe, zqf])
   refine call2L_at (i := 7) (j := 20) (by simp only [zqa, zqb, zqc]; rfl) (by simp only [zqa, zqb, zqc]; rfl) (by kernel_rfl) rfl rfl (fun K hK => ?_) (fun K hK => ?_)
   ·go_simp
    refine (lfirst_any wr.drew (HEr.out.next (HY0.out.drew))).mono ?_
    rintro e y1 ⟨rfl, hz⟩
    have HY1 : Hid (Below wr.heap.size wr y1) := hide (below_dr hz)
    try rw [HFs.out]
    have hS1 : Kept wr y1 := Kept.of_below HY1.out
    clear hz
    go_wp2_with fail
    refine hK.out _ _ hS1 (fun hSn => ?_)
    clear hK K
    try simp only [zqd, zqe, zqf]
    refine tw 8 24 ?_ ?_ ?_; rotate_left; (focus (intro w; go_simp; (try rw [HKK.out]); (try with_reducible rfl); done)); (try simp only [zqd, zqe, zqf])
    refine tw 9 25 ?_ ?_ ?_; rotate_left; (focus (intro w; go_simp; (try with_reducible rfl); done)); (try simp only [zqd, zqe, zqf])
    refine takeU_at [10, 21, 22, 23, 24] (i := 10) (d := 26) (v := ?_) (by simp only [zqa, zqb, zqc]; rfl) rfl (by kernel_rfl) (by kernel_rfl) (by kernel_rfl) (by kernel_rfl) (by kernel_rfl) (by kernel_rfl) (fun _ _ _ h => h) rfl ?_ (by assumption) ?_
    rotate_left
    focus (intro w hSw; go_simp; (try with_reducible rfl); done)
    try simp only [zqd, zqe, zqf]
    refine callL_at (i := 20) (d := 36) (by simp only [zqa, zqb, zqc]; rfl) rfl (by kernel_rfl) rfl (fun K hK => ?_)
    go_simp
    obtain ⟨y2, hy⟩ : ∃ z, (y1.alloc (.cells #[.int .i64 (ep : Int), .int .i64 (hd : Int), .int .i64 (i : Int)] 2)) = z := ⟨_, rfl⟩
    have HY2 : Hid (Below wr.heap.size wr y2) := hide (by rw [← hy]; exact (HY1.out.alloc HY1.out.size _))
    have HO3 : Hid (y2.heap[y1.heap.size]? = some (.cells #[.int .i64 (ep : Int), .int .i64 (hd : Int), .int .i64 (i : Int)] 2)) := hide (by rw [← hy]; exact heap_alloc_last y1 _)
    obtain ⟨b3, hb3⟩ : ∃ x, y1.heap.size = x := ⟨_, rfl⟩
    rw [hb3] at HO3
    rw [hy, hb3]
    clear hy hb3
    have hS2 : Kept wr y2 := Kept.of_below HY2.out
    refine hK.out _ _ hS2 (fun hSn => ?_)
    clear hK K
    try simp only [zqd, zqe, zqf]
    refine callL_at (i := 21) (d := 37) (by simp only [zqa, zqb, zqc]; rfl) rfl (by kernel_rfl) rfl (fun K hK => ?_)
    go_simp
    have hfr := frame_any y2 1 (by decide) Au b cu ((HRb.out.below (HBr.out.trans (HY2.out.mono swr))).more (Nat.le_trans swr HY2.out.size)) (by rw [HBl.out]; omega) (some ⟨b3, 0, none⟩) [ep, hd, i] 3 3 rfl (by decide) (rd_cells HO3.out) (by intro x hx; simp at hx; omega)
    rw [HBl.out] at hfr
    refine hfr.mono ?_
    clear hfr
    rintro e y3 ⟨g3, rfl, hg3, hc3, hz⟩
    obtain ⟨fl, hfl⟩ : ∃ x, (fr 1 b [ep, hd, i]).length = x := ⟨_, rfl⟩
    rw [hfl]
    have HFl := hide hfl
    have HC3 := hide hc3
    have HG3 := hide hg3
    have HY3 : Hid (Below wr.heap.size wr y3) := hide (HY2.out.trans (hz.mono HY2.out.size))
    have hS3 : Kept wr y3 := Kept.of_below HY3.out
    clear hz hfl hc3 hg3
    go_wp2_with fail
    refine hK.out _ _ hS3 (fun hSn => ?_)
    clear hK K
    try simp only [zqd, zqe, zqf]
    refine callL_at (i := 22) (d := 38) (by simp only [zqa, zqb, zqc]; rfl) rfl (by kernel_rfl) rfl (fun K hK => ?_)
    go_simp
    obtain ⟨y4, hy⟩ : ∃ z, y3.alloc (.cells #[.slice (some ⟨g3, 0, none⟩) fl fl] 23) = z := ⟨_, rfl⟩
    have HY4 : Hid (Below wr.heap.size wr y4) := hide (by rw [← hy]; exact HY3.out.alloc HY3.out.size _)
    have HO1 : Hid (y4.heap[y3.heap.size]? = some (.cells #[.slice (some ⟨g3, 0, none⟩) fl fl] 23)) := hide (by rw [← hy]; exact heap_alloc_last y3 _)
    have HC4 : Hid (y4.heap[g3]? = some (.cells (u8s (fr 1 b [ep, hd, i])).toArray 5)) := hide (by rw [← hy]; exact (heap_alloc_old _ _ (lt_of_block HC3.out)).trans HC3.out)
    have hS4 : Kept wr y4 := Kept.of_below HY4.out
    rw [hy]
    clear hy
    refine hK.out _ _ hS4 (fun hSn => ?_)
    clear hK K
    try simp only [zqd, zqe, zqf]
    refine exL_at (i := 23) (by simp only [zqa, zqb, zqc]; rfl) (by kernel_rfl) rfl (by kernel_rfl) (fun K hK => ?_)
    refine op_app (.tmp 16) (.tmp 38) 22 rfl w.heap.size 23 a3 (.slice none 0 0) 1 24 Try.underlying22 a3i a3z a3s a3b rfl (by decide) (.slice A7 j c7) j vs2 rfl (own_below HO7.out HY4.out (fun g hg => (HO7.out.lt g hg).2)) y4.heap.size (some ⟨y3.heap.size, 0, none⟩) 1 1 [.slice (some ⟨g3, 0, none⟩) fl fl] rfl rfl (rd_cells HO1.out) (by simp [Value.oneCell']) (by unfold maxLen; omega) (by omega) (Nat.le_trans swr HY4.out.size) ?_
    intro A8 c8 y5 own5 hg5 hat5
    have HO5 := hide own5
    have HG5 := hide hg5
    clear own5 hg5 hat5
    refine hK.out _ _ ?_
    clear hK K
    simp only [Act.put]
    try simp only [zqd, zqe, zqf]
    refine tw 24 7 ?_ ?_ ?_; rotate_left; (focus (intro w; go_simp; (try with_reducible rfl); done)); (try simp only [zqd, zqe, zqf])
    refine wpAnyL_done (by kernel_rfl) ?_ _
    have HFin : Hid (FRows w y5 n s (j + 1) (.slice A8 (j + 1) c8)) := hide (from_more HBr.out HY2.out HY4.out HG3.out HC4.out HO7.out HG5.out HO5.out H39.out H49.out HOb.out HI.out HFr.out HFl.out (by rw [fr_len, HBl.out]; unfold maxLen; simp; omega))
    have HBf : Hid (Below w.heap.size w y5) := hide (app_below1 (HBr.out.trans (HY4.out.mono swr)) HO7.out HG5.out)
    clear HRb
    go_wp2
    go_roundw
    case rel => exact ⟨i + 1, j + 1, A8, c8, by omega, by go_num, rfl, hide (by have := HI.out; omega), HFin, HBf⟩
    case measure => simp [intOf]; omega
   ·go_simp
    obtain ⟨y1, hy⟩ : ∃ z, (wr.alloc (.cells #[.int .i64 (ep : Int), .int .i64 (hd : Int), .int .i64 (i : Int)] 2)).drew = z := ⟨_, rfl⟩
    have HY1 : Hid (Below wr.heap.size wr y1) := hide (by rw [← hy]; exact (HY0.out.alloc HY0.out.size _).drew)
    have HO3 : Hid (y1.heap[wr.heap.size]? = some (.cells #[.int .i64 (ep : Int), .int .i64 (hd : Int), .int .i64 (i : Int)] 2)) := hide (by rw [← hy]; exact heap_alloc_last wr _)
    obtain ⟨b3, hb3⟩ : ∃ x, wr.heap.size = x := ⟨_, rfl⟩
    rw [hb3] at HO3
    rw [hy, hb3]
    clear hy hb3
    have hS1 : Kept wr y1 := Kept.of_below HY1.out
    refine hK.out _ _ hS1 (fun hSn => ?_)
    clear hK K
    try simp only [zqd, zqe, zqf]
    refine callL_at (i := 7) (d := 23) (by simp only [zqa, zqb, zqc]; rfl) rfl (by kernel_rfl) rfl (fun K hK => ?_)
    go_simp
    refine (lfirst_any y1 (HEr.out.next (HY1.out))).mono ?_
    rintro e y2 ⟨rfl, hz⟩
    have HY2 : Hid (Below wr.heap.size wr y2) := hide (HY1.out.trans (hz.mono HY1.out.size))
    have HO3 : Hid (y2.heap[b3]? = some (.cells #[.int .i64 (ep : Int), .int .i64 (hd : Int), .int .i64 (i : Int)] 2)) := hide ((hz.block b3 (lt_of_block HO3.out)).trans HO3.out)
    try rw [HFs.out]
    have hS2 : Kept wr y2 := Kept.of_below HY2.out
    clear hz
    go_wp2_with fail
    refine hK.out _ _ hS2 (fun hSn => ?_)
    clear hK K
    try simp only [zqd, zqe, zqf]
    refine tw 8 24 ?_ ?_ ?_; rotate_left; (focus (intro w; go_simp; (try rw [HKK.out]); (try with_reducible rfl); done)); (try simp only [zqd, zqe, zqf])
    refine tw 9 25 ?_ ?_ ?_; rotate_left; (focus (intro w; go_simp; (try with_reducible rfl); done)); (try simp only [zqd, zqe, zqf])
    refine takeU_at [10, 21, 22, 23, 24] (i := 10) (d := 26) (v := ?_) (by simp only [zqa, zqb, zqc]; rfl) rfl (by kernel_rfl) (by kernel_rfl) (by kernel_rfl) (by kernel_rfl) (by kernel_rfl) (by kernel_rfl) (fun _ _ _ h => h) rfl ?_ (by assumption) ?_
    rotate_left
    focus (intro w hSw; go_simp; (try with_reducible rfl); done)
    try simp only [zqd, zqe, zqf]
    refine callL_at (i := 21) (d := 37) (by simp only [zqa, zqb, zqc]; rfl) rfl (by kernel_rfl) rfl (fun K hK => ?_)
    go_simp
    have hfr := frame_any y2 1 (by decide) Au b cu ((HRb.out.below (HBr.out.trans (HY2.out.mono swr))).more (Nat.le_trans swr HY2.out.size)) (by rw [HBl.out]; omega) (some ⟨b3, 0, none⟩) [ep, hd, i] 3 3 rfl (by decide) (rd_cells HO3.out) (by intro x hx; simp at hx; omega)
    rw [HBl.out] at hfr
    refine hfr.mono ?_
    clear hfr
    rintro e y3 ⟨g3, rfl, hg3, hc3, hz⟩
    obtain ⟨fl, hfl⟩ : ∃ x, (fr 1 b [ep, hd, i]).length = x := ⟨_, rfl⟩
    rw [hfl]
    have HFl := hide hfl
    have HC3 := hide hc3
    have HG3 := hide hg3
    have HY3 : Hid (Below wr.heap.size wr y3) := hide (HY2.out.trans (hz.mono HY2.out.size))
    have hS3 : Kept wr y3 := Kept.of_below HY3.out
    clear hz hfl hc3 hg3
    go_wp2_with fail
    refine hK.out _ _ hS3 (fun hSn => ?_)
    clear hK K
    try simp only [zqd, zqe, zqf]
    refine callL_at (i := 22) (d := 38) (by simp only [zqa, zqb, zqc]; rfl) rfl (by kernel_rfl) rfl (fun K hK => ?_)
    go_simp
    obtain ⟨y4, hy⟩ : ∃ z, y3.alloc (.cells #[.slice (some ⟨g3, 0, none⟩) fl fl] 23) = z := ⟨_, rfl⟩
    have HY4 : Hid (Below wr.heap.size wr y4) := hide (by rw [← hy]; exact HY3.out.alloc HY3.out.size _)
    have HO1 : Hid (y4.heap[y3.heap.size]? = some (.cells #[.slice (some ⟨g3, 0, none⟩) fl fl] 23)) := hide (by rw [← hy]; exact heap_alloc_last y3 _)
    have HC4 : Hid (y4.heap[g3]? = some (.cells (u8s (fr 1 b [ep, hd, i])).toArray 5)) := hide (by rw [← hy]; exact (heap_alloc_old _ _ (lt_of_block HC3.out)).trans HC3.out)
    have hS4 : Kept wr y4 := Kept.of_below HY4.out
    rw [hy]
    clear hy
    refine hK.out _ _ hS4 (fun hSn => ?_)
    clear hK K
    try simp only [zqd, zqe, zqf]
    refine exL_at (i := 23) (by simp only [zqa, zqb, zqc]; rfl) (by kernel_rfl) rfl (by kernel_rfl) (fun K hK => ?_)
    refine op_app (.tmp 16) (.tmp 38) 22 rfl w.heap.size 23 a3 (.slice none 0 0) 1 24 Try.underlying22 a3i a3z a3s a3b rfl (by decide) (.slice A7 j c7) j vs2 rfl (own_below HO7.out HY4.out (fun g hg => (HO7.out.lt g hg).2)) y4.heap.size (some ⟨y3.heap.size, 0, none⟩) 1 1 [.slice (some ⟨g3, 0, none⟩) fl fl] rfl rfl (rd_cells HO1.out) (by simp [Value.oneCell']) (by unfold maxLen; omega) (by omega) (Nat.le_trans swr HY4.out.size) ?_
    intro A8 c8 y5 own5 hg5 hat5
    have HO5 := hide own5
    have HG5 := hide hg5
    clear own5 hg5 hat5
    refine hK.out _ _ ?_
    clear hK K
    simp only [Act.put]
    try simp only [zqd, zqe, zqf]
    refine tw 24 7 ?_ ?_ ?_; rotate_left; (focus (intro w; go_simp; (try with_reducible rfl); done)); (try simp only [zqd, zqe, zqf])
    refine wpAnyL_done (by kernel_rfl) ?_ _
    have HFin : Hid (FRows w y5 n s (j + 1) (.slice A8 (j + 1) c8)) := hide (from_more HBr.out HY2.out HY4.out HG3.out HC4.out HO7.out HG5.out HO5.out H39.out H49.out HOb.out HI.out HFr.out HFl.out (by rw [fr_len, HBl.out]; unfold maxLen; simp; omega))
    have HBf : Hid (Below w.heap.size w y5) := hide (app_below1 (HBr.out.trans (HY4.out.mono swr)) HO7.out HG5.out)
    clear HRb
    go_wp2
    go_roundw
    case rel => exact ⟨i + 1, j + 1, A8, c8, by omega, by go_num, rfl, hide (by have := HI.out; omega), HFin, HBf⟩
    case measure => simp [intOf]; omega
  ·have hI1 : ¬ (i : Int) < (nx0 : Int) := by omega
   have hin : i = nx0 := by omega
   have hj : j ≤ 1000000 := by have := HI.out; omega
   have HBR : Hid (∃ own2, BRows w.heap.size wr own2 (fun q => (true, q)) (.slice A7 j c7) (framesL s n) ∧ ∀ g, own2 g ≠ none → w.heap.size ≤ g ∧ g < wr.heap.size) := hide (by have h9 := HF7.out; rw [show j = s.next - n by have := HI.out; rw [HS.out.2.1]; omega] at h9 ⊢; exact h9)
   have HLn : Hid ((framesL s n).length = j) := hide (by unfold framesL; rw [List.length_map, List.length_range', HS.out.2.1]; have := HI.out; omega)
   clear hin
   have HEy := HEr
   have HBy := HBr
   obtain ⟨ow, how⟩ : ∃ x, s.owes = x := ⟨_, rfl⟩
   have HOw := hide how
   clear how HF7
   by_cases hj0 : j = 0
   rotate_left
   ·have k1 : ((j : Int) == 0) = false := by simp; omega
    have HLe : Hid ((framesL s n).isEmpty = false) := hide (by have := HLn.out; cases hq : framesL s n with | nil => (rw [hq] at this; simp at this; omega) | cons x l => rfl)
    have HL : Hid (framesL s n = (fromL s n ack).1) := hide (by unfold fromL; dsimp only; rw [HLe.out]; rfl)
    clear hj0
    rcases ow with _ | _
    ·obtain ⟨own2, hB9, hob9⟩ := HBR.out
     have HFin := hide (from_fin (n := n) (ack := ack) HEy.out HBy.out HL.out hB9 hob9 false (by rw [HOw.out]; rfl) hP)
     rw [HS.out.2.1] at HFin
     clear hB9 hob9
     obtain ⟨A0, c0, q0, q1, q2, q3, q4, q5, hPy⟩ := HEy.out.cells
     rw [HS.out.2.1] at q2
     have z5 : wr.frozen? ⟨P, 5, none⟩ = false := by obtain ⟨_, _, _, _, _, _, h2, _⟩ := HEy.out; exact frozen_of_row _ _ 5 _ _ h2
     have z4 : wr.frozen? ⟨P, 4, none⟩ = false := by obtain ⟨_, _, _, _, _, _, h2, _⟩ := HEy.out; exact frozen_of_row _ _ 4 _ _ h2
     rw [HOw.out] at q5
     clear r0 r1 r2 r3 r4 r5
     go_wp2
     go_ret
     exact HFin.out
    obtain ⟨own2, hB9, hob9⟩ := HBR.out
    have HFin := hide (from_fin (n := n) (ack := ack) HEy.out HBy.out HL.out hB9 hob9 false (by rw [HOw.out, HLe.out]; rfl) hP)
    rw [HS.out.2.1] at HFin
    clear hB9 hob9
    obtain ⟨A0, c0, q0, q1, q2, q3, q4, q5, hPy⟩ := HEy.out.cells
    rw [HS.out.2.1] at q2
    have z5 : wr.frozen? ⟨P, 5, none⟩ = false := by obtain ⟨_, _, _, _, _, _, h2, _⟩ := HEy.out; exact frozen_of_row _ _ 5 _ _ h2
    have z4 : wr.frozen? ⟨P, 4, none⟩ = false := by obtain ⟨_, _, _, _, _, _, h2, _⟩ := HEy.out; exact frozen_of_row _ _ 4 _ _ h2
    rw [HOw.out] at q5
    clear r0 r1 r2 r3 r4 r5
    go_wp2
    go_ret
    exact HFin.out
   subst hj0
   have HLe : Hid ((framesL s n).isEmpty = true) := hide (by have := HLn.out; rw [List.length_eq_zero_iff] at this; rw [this]; rfl)
   rcases ack with _ | _
   ·have HL : Hid (framesL s n = (fromL s n false).1) := hide (by unfold fromL; dsimp only; rw [HLe.out]; rfl)
    rcases ow with _ | _
    ·obtain ⟨own2, hB9, hob9⟩ := HBR.out
     have HFin := hide (from_fin (n := n) (ack := false) HEy.out HBy.out HL.out hB9 hob9 false (by rw [HOw.out]; rfl) hP)
     rw [HS.out.2.1] at HFin
     clear hB9 hob9
     obtain ⟨A0, c0, q0, q1, q2, q3, q4, q5, hPy⟩ := HEy.out.cells
     rw [HS.out.2.1] at q2
     have z5 : wr.frozen? ⟨P, 5, none⟩ = false := by obtain ⟨_, _, _, _, _, _, h2, _⟩ := HEy.out; exact frozen_of_row _ _ 5 _ _ h2
     have z4 : wr.frozen? ⟨P, 4, none⟩ = false := by obtain ⟨_, _, _, _, _, _, h2, _⟩ := HEy.out; exact frozen_of_row _ _ 4 _ _ h2
     rw [HOw.out] at q5
     clear r0 r1 r2 r3 r4 r5
     go_wp2
     go_ret
     exact HFin.out
    obtain ⟨own2, hB9, hob9⟩ := HBR.out
    have HFin := hide (from_fin (n := n) (ack := false) HEy.out HBy.out HL.out hB9 hob9 true (by rw [HOw.out, HLe.out]; rfl) hP)
    rw [HS.out.2.1] at HFin
    clear hB9 hob9
    obtain ⟨A0, c0, q0, q1, q2, q3, q4, q5, hPy⟩ := HEy.out.cells
    rw [HS.out.2.1] at q2
    have z5 : wr.frozen? ⟨P, 5, none⟩ = false := by obtain ⟨_, _, _, _, _, _, h2, _⟩ := HEy.out; exact frozen_of_row _ _ 5 _ _ h2
    have z4 : wr.frozen? ⟨P, 4, none⟩ = false := by obtain ⟨_, _, _, _, _, _, h2, _⟩ := HEy.out; exact frozen_of_row _ _ 4 _ _ h2
    rw [HOw.out] at q5
    clear r0 r1 r2 r3 r4 r5
    go_wp2
    go_ret
    exact HFin.out
   have HL : Hid ([fr 2 [] [s.ep, s.heard]] = (fromL s n true).1) := hide (by unfold fromL; dsimp only; rw [HLe.out]; rfl)
   clear HLe
   obtain ⟨own2, ⟨A9, c9, vs2, hv9, hO9, h39, h49⟩, hob⟩ := HBR.out
   injection hv9 with q1 q2 q3
   rw [HLn.out] at hO9
   have HO7 := hide hO9
   have H49 := hide h49
   have HOb := hide hob
   clear q1 q2 q3 hO9 h39 h49 hob HBR HBy HEy
   rcases ow with _ | _
   ·go_upto_region 6 with fail
    refine wpL_region (S := Kept wr) [12] (by kernel_rfl) (Kept.drew wr) (fun hS0 => ?_)
    refine tl 0 46 ?_ ?_ ?_; rotate_left; (focus (intro w h; go_simp; (try with_reducible rfl))); (try simp only [zqd, zqe, zqf])
    refine tw 1 47 ?_ ?_ ?_; rotate_left; (focus (intro w; go_simp; (try with_reducible rfl); done)); (try simp only [zqd, zqe, zqf])
    refine tw 2 48 ?_ ?_ ?_; rotate_left; (focus (intro w; go_simp; (try with_reducible rfl); done)); (try simp only [zqd, zqe, zqf])
    refine tw 3 49 ?_ ?_ ?_; rotate_left; (focus (intro w; go_simp; (try with_reducible rfl); done)); (try simp only [zqd, zqe, zqf])
    refine takeU_at [4, 9, 10, 11, 12, 13] (i := 4) (d := 50) (v := ?_) (by simp only [zqa, zqb, zqc]; rfl) rfl (by kernel_rfl) (by kernel_rfl) (by kernel_rfl) (by kernel_rfl) (by kernel_rfl) (by kernel_rfl) (fun _ _ _ h => h) rfl ?_ (by assumption) ?_
    rotate_left
    focus (intro w hSw; go_simp; (try with_reducible rfl); done)
    try simp only [zqd, zqe, zqf]
    refine tw 5 51 ?_ ?_ ?_; rotate_left; (focus (intro w; go_simp; (try with_reducible rfl); done)); (try simp only [zqd, zqe, zqf])
    refine tw 6 52 ?_ ?_ ?_; rotate_left; (focus (intro w; go_simp; (try with_reducible rfl); done)); (try simp only [zqd, zqe, zqf])
    refine tw 7 53 ?_ ?_ ?_; rotate_left; (focus (intro w; go_simp; (try with_reducible rfl); done)); (try simp only [zqd, zqe, zqf])
    refine takeU_at [8, 9, 10, 11, 12, 13] (i := 8) (d := 54) (v := ?_) (by simp only [zqa, zqb, zqc]; rfl) rfl (by kernel_rfl) (by kernel_rfl) (by kernel_rfl) (by kernel_rfl) (by kernel_rfl) (by kernel_rfl) (fun _ _ _ h => h) rfl ?_ (by assumption) ?_
    rotate_left
    focus (intro w hSw; go_simp; (try with_reducible rfl); done)
    try simp only [zqd, zqe, zqf]
    refine callL_at (i := 9) (d := 55) (by simp only [zqa, zqb, zqc]; rfl) rfl (by kernel_rfl) rfl (fun K hK => ?_)
    go_simp
    obtain ⟨y1, hy⟩ : ∃ z, (wr.alloc (.cells #[.int .i64 (ep : Int), .int .i64 (hd : Int)] 2)).drew = z := ⟨_, rfl⟩
    have HY1 : Hid (Below wr.heap.size wr y1) := hide (by rw [← hy]; exact ((Below.refl _ _).alloc (Nat.le_refl _) _).drew)
    have HO3 : Hid (y1.heap[wr.heap.size]? = some (.cells #[.int .i64 (ep : Int), .int .i64 (hd : Int)] 2)) := hide (by rw [← hy]; exact heap_alloc_last wr _)
    rw [hy]
    clear hy
    have hS1 : Kept wr y1 := Kept.of_below HY1.out
    refine hK.out _ _ hS1 (fun hSn => ?_)
    clear hK K
    try simp only [zqd, zqe, zqf]
    refine callL_at (i := 10) (d := 56) (by simp only [zqa, zqb, zqc]; rfl) rfl (by kernel_rfl) rfl (fun K hK => ?_)
    go_simp
    have hfr := frame_any y1 2 (by decide) none [] 0 Rd.nil_ (by decide) (some ⟨wr.heap.size, 0, none⟩) [ep, hd] 2 2 rfl (by decide) (rd_cells HO3.out) (by intro x hx; simp at hx; omega)
    refine hfr.mono ?_
    clear hfr
    rintro e y2 ⟨g3, rfl, hg3, hc3, hz⟩
    obtain ⟨fl, hfl⟩ : ∃ x, (fr 2 [] [ep, hd]).length = x := ⟨_, rfl⟩
    rw [hfl]
    have HFl := hide hfl
    have HC3 := hide hc3
    have HG3 := hide hg3
    have HY2 : Hid (Below wr.heap.size wr y2) := hide (HY1.out.trans (hz.mono HY1.out.size))
    have hS2 : Kept wr y2 := Kept.of_below HY2.out
    clear hz hfl hc3 hg3
    go_wp2_with fail
    refine hK.out _ _ hS2 (fun hSn => ?_)
    clear hK K
    try simp only [zqd, zqe, zqf]
    refine callL_at (i := 11) (d := 57) (by simp only [zqa, zqb, zqc]; rfl) rfl (by kernel_rfl) rfl (fun K hK => ?_)
    go_simp
    obtain ⟨y3, hy⟩ : ∃ z, y2.alloc (.cells #[.slice (some ⟨g3, 0, none⟩) fl fl] 23) = z := ⟨_, rfl⟩
    have HY3 : Hid (Below wr.heap.size wr y3) := hide (by rw [← hy]; exact HY2.out.alloc HY2.out.size _)
    have HO1 : Hid (y3.heap[y2.heap.size]? = some (.cells #[.slice (some ⟨g3, 0, none⟩) fl fl] 23)) := hide (by rw [← hy]; exact heap_alloc_last y2 _)
    have HC4 : Hid (y3.heap[g3]? = some (.cells (u8s (fr 2 [] [ep, hd])).toArray 5)) := hide (by rw [← hy]; exact (heap_alloc_old _ _ (lt_of_block HC3.out)).trans HC3.out)
    have hS3 : Kept wr y3 := Kept.of_below HY3.out
    rw [hy]
    clear hy
    refine hK.out _ _ hS3 (fun hSn => ?_)
    clear hK K
    try simp only [zqd, zqe, zqf]
    refine exL_at (i := 12) (by simp only [zqa, zqb, zqc]; rfl) (by kernel_rfl) rfl (by kernel_rfl) (fun K hK => ?_)
    refine op_app (.tmp 46) (.tmp 57) 22 rfl w.heap.size 23 a3 (.slice none 0 0) 1 24 Try.underlying22 a3i a3z a3s a3b rfl (by decide) (.slice A7 0 c7) 0 vs2 rfl (own_below HO7.out HY3.out (fun g hg => (HO7.out.lt g hg).2)) y3.heap.size (some ⟨y2.heap.size, 0, none⟩) 1 1 [.slice (some ⟨g3, 0, none⟩) fl fl] rfl rfl (rd_cells HO1.out) (by simp [Value.oneCell']) (by unfold maxLen; omega) (by omega) (Nat.le_trans swr HY3.out.size) ?_
    intro A8 c8 y5 own5 hg5 hat5
    have HO5 := hide own5
    have HG5 := hide hg5
    clear own5 hg5 hat5
    refine hK.out _ _ ?_
    clear hK K
    simp only [Act.put]
    try simp only [zqd, zqe, zqf]
    refine tw 13 7 ?_ ?_ ?_; rotate_left; (focus (intro w; go_simp; (try with_reducible rfl); done)); (try simp only [zqd, zqe, zqf])
    refine wpAnyL_done (by kernel_rfl) ?_ _
    have HBy := hide (app_below1 (HBr.out.trans (HY3.out.mono swr)) HO7.out HG5.out)
    have HEy := hide (HE.out.next HBy.out)
    have HBR : Hid (∃ own3, BRows w.heap.size y5 own3 (fun q => (true, q)) (.slice A8 (0 + 1) c8) [fr 2 [] [s.ep, s.heard]] ∧ ∀ g, own3 g ≠ none → w.heap.size ≤ g ∧ g < y5.heap.size) := hide (by obtain ⟨_, _, k3, k4, _, _⟩ := HS.out; rw [k3, k4]; exact rows_fr (fs := []) HBr.out HY1.out HY3.out HG3.out HC4.out HO7.out HG5.out HO5.out (fun i u b h h' => by simp at h') H49.out HOb.out rfl HFl.out (by rw [fr_len]; unfold maxLen; simp))
    clear hS0
    have HLe : Hid (([fr 2 [] [s.ep, s.heard]] : List BL).isEmpty = false) := hide rfl
    skip
    obtain ⟨own2, hB9, hob9⟩ := HBR.out
    have HFin := hide (from_fin (n := n) (ack := true) HEy.out HBy.out HL.out hB9 hob9 false (by rw [HOw.out]; rfl) hP)
    rw [HS.out.2.1] at HFin
    clear hB9 hob9
    obtain ⟨A0, c0, q0, q1, q2, q3, q4, q5, hPy⟩ := HEy.out.cells
    rw [HS.out.2.1] at q2
    have z5 : y5.frozen? ⟨P, 5, none⟩ = false := by obtain ⟨_, _, _, _, _, _, h2, _⟩ := HEy.out; exact frozen_of_row _ _ 5 _ _ h2
    have z4 : y5.frozen? ⟨P, 4, none⟩ = false := by obtain ⟨_, _, _, _, _, _, h2, _⟩ := HEy.out; exact frozen_of_row _ _ 4 _ _ h2
    rw [HOw.out] at q5
    clear r0 r1 r2 r3 r4 r5
    go_wp2
    go_ret
    exact HFin.out
   go_upto_region 6 with fail
   refine wpL_region (S := Kept wr) [12] (by kernel_rfl) (Kept.drew wr) (fun hS0 => ?_)
   refine tl 0 46 ?_ ?_ ?_; rotate_left; (focus (intro w h; go_simp; (try with_reducible rfl))); (try simp only [zqd, zqe, zqf])
   refine tw 1 47 ?_ ?_ ?_; rotate_left; (focus (intro w; go_simp; (try with_reducible rfl); done)); (try simp only [zqd, zqe, zqf])
   refine tw 2 48 ?_ ?_ ?_; rotate_left; (focus (intro w; go_simp; (try with_reducible rfl); done)); (try simp only [zqd, zqe, zqf])
   refine tw 3 49 ?_ ?_ ?_; rotate_left; (focus (intro w; go_simp; (try with_reducible rfl); done)); (try simp only [zqd, zqe, zqf])
   refine takeU_at [4, 9, 10, 11, 12, 13] (i := 4) (d := 50) (v := ?_) (by simp only [zqa, zqb, zqc]; rfl) rfl (by kernel_rfl) (by kernel_rfl) (by kernel_rfl) (by kernel_rfl) (by kernel_rfl) (by kernel_rfl) (fun _ _ _ h => h) rfl ?_ (by assumption) ?_
   rotate_left
   focus (intro w hSw; go_simp; (try with_reducible rfl); done)
   try simp only [zqd, zqe, zqf]
   refine tw 5 51 ?_ ?_ ?_; rotate_left; (focus (intro w; go_simp; (try with_reducible rfl); done)); (try simp only [zqd, zqe, zqf])
   refine tw 6 52 ?_ ?_ ?_; rotate_left; (focus (intro w; go_simp; (try with_reducible rfl); done)); (try simp only [zqd, zqe, zqf])
   refine tw 7 53 ?_ ?_ ?_; rotate_left; (focus (intro w; go_simp; (try with_reducible rfl); done)); (try simp only [zqd, zqe, zqf])
   refine takeU_at [8, 9, 10, 11, 12, 13] (i := 8) (d := 54) (v := ?_) (by simp only [zqa, zqb, zqc]; rfl) rfl (by kernel_rfl) (by kernel_rfl) (by kernel_rfl) (by kernel_rfl) (by kernel_rfl) (by kernel_rfl) (fun _ _ _ h => h) rfl ?_ (by assumption) ?_
   rotate_left
   focus (intro w hSw; go_simp; (try with_reducible rfl); done)
   try simp only [zqd, zqe, zqf]
   refine callL_at (i := 9) (d := 55) (by simp only [zqa, zqb, zqc]; rfl) rfl (by kernel_rfl) rfl (fun K hK => ?_)
   go_simp
   obtain ⟨y1, hy⟩ : ∃ z, (wr.alloc (.cells #[.int .i64 (ep : Int), .int .i64 (hd : Int)] 2)).drew = z := ⟨_, rfl⟩
   have HY1 : Hid (Below wr.heap.size wr y1) := hide (by rw [← hy]; exact ((Below.refl _ _).alloc (Nat.le_refl _) _).drew)
   have HO3 : Hid (y1.heap[wr.heap.size]? = some (.cells #[.int .i64 (ep : Int), .int .i64 (hd : Int)] 2)) := hide (by rw [← hy]; exact heap_alloc_last wr _)
   rw [hy]
   clear hy
   have hS1 : Kept wr y1 := Kept.of_below HY1.out
   refine hK.out _ _ hS1 (fun hSn => ?_)
   clear hK K
   try simp only [zqd, zqe, zqf]
   refine callL_at (i := 10) (d := 56) (by simp only [zqa, zqb, zqc]; rfl) rfl (by kernel_rfl) rfl (fun K hK => ?_)
   go_simp
   have hfr := frame_any y1 2 (by decide) none [] 0 Rd.nil_ (by decide) (some ⟨wr.heap.size, 0, none⟩) [ep, hd] 2 2 rfl (by decide) (rd_cells HO3.out) (by intro x hx; simp at hx; omega)
   refine hfr.mono ?_
   clear hfr
   rintro e y2 ⟨g3, rfl, hg3, hc3, hz⟩
   obtain ⟨fl, hfl⟩ : ∃ x, (fr 2 [] [ep, hd]).length = x := ⟨_, rfl⟩
   rw [hfl]
   have HFl := hide hfl
   have HC3 := hide hc3
   have HG3 := hide hg3
   have HY2 : Hid (Below wr.heap.size wr y2) := hide (HY1.out.trans (hz.mono HY1.out.size))
   have hS2 : Kept wr y2 := Kept.of_below HY2.out
   clear hz hfl hc3 hg3
   go_wp2_with fail
   refine hK.out _ _ hS2 (fun hSn => ?_)
   clear hK K
   try simp only [zqd, zqe, zqf]
   refine callL_at (i := 11) (d := 57) (by simp only [zqa, zqb, zqc]; rfl) rfl (by kernel_rfl) rfl (fun K hK => ?_)
   go_simp
   obtain ⟨y3, hy⟩ : ∃ z, y2.alloc (.cells #[.slice (some ⟨g3, 0, none⟩) fl fl] 23) = z := ⟨_, rfl⟩
   have HY3 : Hid (Below wr.heap.size wr y3) := hide (by rw [← hy]; exact HY2.out.alloc HY2.out.size _)
   have HO1 : Hid (y3.heap[y2.heap.size]? = some (.cells #[.slice (some ⟨g3, 0, none⟩) fl fl] 23)) := hide (by rw [← hy]; exact heap_alloc_last y2 _)
   have HC4 : Hid (y3.heap[g3]? = some (.cells (u8s (fr 2 [] [ep, hd])).toArray 5)) := hide (by rw [← hy]; exact (heap_alloc_old _ _ (lt_of_block HC3.out)).trans HC3.out)
   have hS3 : Kept wr y3 := Kept.of_below HY3.out
   rw [hy]
   clear hy
   refine hK.out _ _ hS3 (fun hSn => ?_)
   clear hK K
   try simp only [zqd, zqe, zqf]
   refine exL_at (i := 12) (by simp only [zqa, zqb, zqc]; rfl) (by kernel_rfl) rfl (by kernel_rfl) (fun K hK => ?_)
   refine op_app (.tmp 46) (.tmp 57) 22 rfl w.heap.size 23 a3 (.slice none 0 0) 1 24 Try.underlying22 a3i a3z a3s a3b rfl (by decide) (.slice A7 0 c7) 0 vs2 rfl (own_below HO7.out HY3.out (fun g hg => (HO7.out.lt g hg).2)) y3.heap.size (some ⟨y2.heap.size, 0, none⟩) 1 1 [.slice (some ⟨g3, 0, none⟩) fl fl] rfl rfl (rd_cells HO1.out) (by simp [Value.oneCell']) (by unfold maxLen; omega) (by omega) (Nat.le_trans swr HY3.out.size) ?_
   intro A8 c8 y5 own5 hg5 hat5
   have HO5 := hide own5
   have HG5 := hide hg5
   clear own5 hg5 hat5
   refine hK.out _ _ ?_
   clear hK K
   simp only [Act.put]
   try simp only [zqd, zqe, zqf]
   refine tw 13 7 ?_ ?_ ?_; rotate_left; (focus (intro w; go_simp; (try with_reducible rfl); done)); (try simp only [zqd, zqe, zqf])
   refine wpAnyL_done (by kernel_rfl) ?_ _
   have HBy := hide (app_below1 (HBr.out.trans (HY3.out.mono swr)) HO7.out HG5.out)
   have HEy := hide (HE.out.next HBy.out)
   have HBR : Hid (∃ own3, BRows w.heap.size y5 own3 (fun q => (true, q)) (.slice A8 (0 + 1) c8) [fr 2 [] [s.ep, s.heard]] ∧ ∀ g, own3 g ≠ none → w.heap.size ≤ g ∧ g < y5.heap.size) := hide (by obtain ⟨_, _, k3, k4, _, _⟩ := HS.out; rw [k3, k4]; exact rows_fr (fs := []) HBr.out HY1.out HY3.out HG3.out HC4.out HO7.out HG5.out HO5.out (fun i u b h h' => by simp at h') H49.out HOb.out rfl HFl.out (by rw [fr_len]; unfold maxLen; simp))
   clear hS0
   have HLe : Hid (([fr 2 [] [s.ep, s.heard]] : List BL).isEmpty = false) := hide rfl
   skip
   obtain ⟨own2, hB9, hob9⟩ := HBR.out
   have HFin := hide (from_fin (n := n) (ack := true) HEy.out HBy.out HL.out hB9 hob9 false (by rw [HOw.out, HLe.out]; rfl) hP)
   rw [HS.out.2.1] at HFin
   clear hB9 hob9
   obtain ⟨A0, c0, q0, q1, q2, q3, q4, q5, hPy⟩ := HEy.out.cells
   rw [HS.out.2.1] at q2
   have z5 : y5.frozen? ⟨P, 5, none⟩ = false := by obtain ⟨_, _, _, _, _, _, h2, _⟩ := HEy.out; exact frozen_of_row _ _ 5 _ _ h2
   have z4 : y5.frozen? ⟨P, 4, none⟩ = false := by obtain ⟨_, _, _, _, _, _, h2, _⟩ := HEy.out; exact frozen_of_row _ _ 4 _ _ h2
   rw [HOw.out] at q5
   clear r0 r1 r2 r3 r4 r5
   go_wp2
   go_ret
   exact HFin.out
theorem FromPost.drew {w : World} {P M n k : Nat} {G : Option Nat} {own : Nat → Option (Bool × Nat)} {s : LE} {ack : Bool} {e : Ending} {w' : World} (h : FromPost w.drew P M G own k s n ack e w') : FromPost w P M G own k s n ack e w' := by
 obtain ⟨v, own2, h1, h2, h6, h7, h8⟩ := h
 exact ⟨v, own2, h1, h2, h6, h7, ⟨h8.1, h8.2, h8.3⟩⟩
theorem FromPost.below {w y : World} {P M n k : Nat} {G : Option Nat} {own : Nat → Option (Bool × Nat)} {s : LE} {ack : Bool} {e : Ending} {w' : World} (hb : Below w.heap.size w y) (h : FromPost y P M G own k s n ack e w') : FromPost w P M G own k s n ack e w' := by
 obtain ⟨v, own2, h1, ⟨A, c, vs, h2, h3, h4, h5⟩, h6, h7, h8⟩ := h
 exact ⟨v, own2, h1, ⟨A, c, vs, h2, own_base h3 hb.size, h4, h5⟩, fun g hg => ⟨Nat.le_trans hb.size (h6 g hg).1, (h6 g hg).2⟩, h7, ⟨Nat.le_trans hb.size h8.1, fun g hg hx => (h8.2 g (Nat.lt_of_lt_of_le hg hb.size) hx).trans (hb.block g hg), (Env.of_below hb).trans h8.3⟩⟩
theorem lout_any (w : World) {P M : Nat} {G : Option Nat} {own : Nat → Option (Bool × Nat)} {k : Nat} {s : LE} (h : EndM w P M G own k s) : Calls Try.prog 11 #[.pointer (some ⟨P, 0, none⟩)] w (FromPost w P M G own k s s.fresh s.owes) := by
 have HE := hide h
 have hok := h.1
 obtain ⟨A, c, e0, e1, e2, e3, e4, e5, hP⟩ := h.cells
 have hfr := from_any w.drew (h.next (Below.refl _ _).drew) s.fresh hok.fresh1 hok.fresh2 s.owes
 have HFr := hide hfr
 clear h hok hfr
 go_enter Try.func11, Try.ntmps11
 go_upto_region 3 with fail
 refine wpL_region (S := Kept w) [9] (by kernel_rfl) (Kept.drew w) (fun hS0 => ?_)
 refine tl 0 5 ?_ ?_ ?_; rotate_left; (focus (intro w h; go_simp; (try with_reducible rfl))); (try simp only [zqd, zqe, zqf])
 refine tw 1 6 ?_ ?_ ?_; rotate_left; (focus (intro w; go_simp; (try with_reducible rfl); done)); (try simp only [zqd, zqe, zqf])
 refine tw 2 7 ?_ ?_ ?_; rotate_left; (focus (intro w; go_simp; (try with_reducible rfl); done)); (try simp only [zqd, zqe, zqf])
 refine tw 3 8 ?_ ?_ ?_; rotate_left; (focus (intro w; go_simp; (try with_reducible rfl); done)); (try simp only [zqd, zqe, zqf])
 refine tl 4 9 ?_ ?_ ?_; rotate_left; (focus (intro w h; go_simp; (try with_reducible rfl))); (try simp only [zqd, zqe, zqf])
 refine tw 5 10 ?_ ?_ ?_; rotate_left; (focus (intro w; go_simp; (try with_reducible rfl); done)); (try simp only [zqd, zqe, zqf])
 refine tw 6 11 ?_ ?_ ?_; rotate_left; (focus (intro w; go_simp; (try with_reducible rfl); done)); (try simp only [zqd, zqe, zqf])
 refine tw 7 12 ?_ ?_ ?_; rotate_left; (focus (intro w; go_simp; (try with_reducible rfl); done)); (try simp only [zqd, zqe, zqf])
 refine tl 8 13 ?_ ?_ ?_; rotate_left; (focus (intro w h; go_simp; (try with_reducible rfl))); (try simp only [zqd, zqe, zqf])
 refine exL_at (i := 9) (by simp only [zqa, zqb, zqc]; rfl) (by kernel_rfl) rfl (by kernel_rfl) (fun K hK => ?_)
 go_wp2_with fail
 refine HFr.out.mono ?_
 rintro _ z1 ⟨v, own2, rfl, hrest⟩
 have HFin : Hid (FromPost w P M G own k s s.fresh s.owes (.returned v) z1) := hide (FromPost.drew ⟨v, own2, rfl, hrest⟩)
 clear hrest
 go_wp2_with fail
 refine hK.out _ _ ?_
 clear hK K
 try simp only [zqd, zqe, zqf]
 refine tw 10 2 ?_ ?_ ?_; rotate_left; (focus (intro w; go_simp; (try with_reducible rfl); done)); (try simp only [zqd, zqe, zqf])
 refine wpAnyL_done (by kernel_rfl) ?_ _
 go_wp2
 go_ret
 exact HFin.out
theorem lagain_any (w : World) {P M : Nat} {G : Option Nat} {own : Nat → Option (Bool × Nat)} {k : Nat} {s : LE} (h : EndM w P M G own k s) : Calls Try.prog 16 #[.pointer (some ⟨P, 0, none⟩)] w (FromPost w P M G own k s s.first true) := by
 have HE := hide h
 have hok := h.1
 obtain ⟨A, c, e0, e1, e2, e3, e4, e5, hP⟩ := h.cells
 have hff : s.first ≤ s.next := by unfold LE.first; omega
 clear hok h
 go_enter Try.func16, Try.ntmps16
 go_wp2_with fail
 refine (lfirst_any w HE.out).mono ?_
 rintro _ y ⟨rfl, hb⟩
 have HB := hide hb
 have HFr := hide (from_any y (HE.out.next hb) s.first (Nat.le_refl _) hff true)
 clear hb
 go_wp2_with fail
 refine HFr.out.mono ?_
 rintro _ z1 ⟨v, own2, rfl, hrest⟩
 have HFin : Hid (FromPost w P M G own k s s.first true (.returned v) z1) := hide (FromPost.below HB.out ⟨v, own2, rfl, hrest⟩)
 clear hrest
 go_wp2
 go_ret
 exact HFin.out
end Go.Proofs.Ytigmmikijjcdiaa
namespace Go.Proofs.Ytigmmikijjcdiaa
open Go.RowKit
def OfPost (w : World) (f : BL) (e : Ending) (w' : World) : Prop := Below w.heap.size w w' ∧ e = .returned (match readL f with | none => .tuple #[.int .i64 0, .bool false] | some (ep, _, _, _) => .tuple #[.int .i64 (ep : Int), .bool true])
theorem lof_any (w : World) (A : Option Addr) (f : BL) (c : Nat) (hR : Rd w w.heap.size A (u8s f)) (hf : f.length ≤ 3000000) (hlc : f.length ≤ c) (hc : c ≤ 9223372036854775807) :
  Calls Try.prog 17 #[.slice A f.length c] w (OfPost w f) := by
 have hrd := read_any w A f c hR hf hlc hc
 obtain ⟨m, hm⟩ : ∃ m, f.length = m := ⟨_, rfl⟩
 rw [hm] at hrd ⊢
 have HRd := hide hrd
 clear hrd hm hR hf hlc hc
 rcases hq : readL f with _ | ⟨ep, h, n, b⟩
 ·have HQ := hide hq
  clear hq
  go_enter Try.func17, Try.ntmps17
  go_wp2_with fail
  refine HRd.out.mono ?_
  rintro e y ⟨hb, he⟩
  rw [HQ.out] at he
  obtain rfl := he
  have HFin : ∀ o, Hid (OfPost w f (.returned (.tuple #[.int .i64 0, .bool false])) (y.alloc o)) := fun o => hide ⟨hb.alloc hb.size o, by rw [HQ.out]⟩
  clear hb
  go_wp2
  exact bodyPost_ret (v := .tuple #[.int .i64 0, .bool false]) (by simp [results, Try.results17, go_sem]) rfl (HFin _).out
 ·have HQ := hide hq
  clear hq
  go_enter Try.func17, Try.ntmps17
  go_wp2_with fail
  refine HRd.out.mono ?_
  rintro e y ⟨hb, he⟩
  rw [HQ.out] at he
  obtain ⟨A1, c1, rfl, -⟩ := he
  obtain ⟨bl, hbl⟩ : ∃ x, b.length = x := ⟨_, rfl⟩
  rw [hbl]
  have HFin : ∀ o, Hid (OfPost w f (.returned (.tuple #[.int .i64 (ep : Int), .bool true])) (y.alloc o)) := fun o => hide ⟨hb.alloc hb.size o, by rw [HQ.out]⟩
  clear hb hbl
  go_wp2
  exact bodyPost_ret (v := .tuple #[.int .i64 (ep : Int), .bool true]) (by simp [results, Try.results17, go_sem]) rfl (HFin _).out
end Go.Proofs.Ytigmmikijjcdiaa
