/- Putting parts of a state together: what lies in memory on the way. -/
import Derived.Test.YtgfdlllmcbgbcaaJpv
namespace Go.Proofs.Ytgfdlllmcbgbcaa
open Go.RowKit
set_option linter.unusedVariables false
theorem six_fin {w wf : World} {H : Nat} {T : TypeId} (z0 z1 z2 z3 z4 z5 : Value) (v0 v1 v2 v3 v4 v5 : Value) (hw : w.heap.size ≤ H) (hz : wf.heap[H]? = some (.cells #[z0, z1, z2, z3, z4, z5] T)) (hb : Below w.heap.size w wf) :
    ∃ f, ((((((wf.setCell ⟨H, 0, none⟩ v0).setCell ⟨H, 1, none⟩ v1).setCell ⟨H, 2, none⟩ v2).setCell ⟨H, 3, none⟩ v3).setCell ⟨H, 4, none⟩ v4).setCell ⟨H, 5, none⟩ v5) = f ∧ Below w.heap.size w f ∧ f.heap[H]? = some (.cells #[v0, v1, v2, v3, v4, v5] T) ∧ f.heap.size = wf.heap.size ∧ ∀ b, b ≠ H → f.heap[b]? = wf.heap[b]? := by
  have hF0 := hz
  have hF1 := heap_setCell_same _ H 0 _ _ v0 hF0
  have hF2 := heap_setCell_same _ H 1 _ _ v1 hF1
  have hF3 := heap_setCell_same _ H 2 _ _ v2 hF2
  have hF4 := heap_setCell_same _ H 3 _ _ v3 hF3
  have hF5 := heap_setCell_same _ H 4 _ _ v4 hF4
  have hF6 := heap_setCell_same _ H 5 _ _ v5 hF5
  refine ⟨_, rfl, ((((((hb.setCell (p := ⟨H, 0, none⟩) hw v0).setCell (p := ⟨H, 1, none⟩) hw v1).setCell (p := ⟨H, 2, none⟩) hw v2).setCell (p := ⟨H, 3, none⟩) hw v3).setCell (p := ⟨H, 4, none⟩) hw v4).setCell (p := ⟨H, 5, none⟩) hw v5), hF6, by simp only [World.size_setCell], fun b hb' => ?_⟩
  iterate 6 rw [Below.heap_setCell _ _ _ _ hb']
/-- the state under way: its block, the three rows -/
structure JS (v0 : World) (st : Int) (n P B1 B2 B3 : Nat) (V : List Int) (C : List Bool) (M : List Ml) (w : World) : Prop where
  lo : v0.heap.size ≤ P ∧ v0.heap.size ≤ B1 ∧ v0.heap.size ≤ B2 ∧ v0.heap.size ≤ B3
  ne : P ≠ B1 ∧ P ≠ B2 ∧ P ≠ B3 ∧ B1 ≠ B2 ∧ B1 ≠ B3 ∧ B2 ≠ B3
  hP : w.heap[P]? = some (.cells #[.int .i64 st, .slice (some ⟨B1, 0, none⟩) n n, .slice (some ⟨B2, 0, none⟩) n n, .slice (some ⟨B3, 0, none⟩) n n, .int .i64 0, .int .i64 0] 48)
  h1 : w.heap[B1]? = some (.cells (i64s V).toArray 2)
  h2 : w.heap[B2]? = some (.cells (bools C).toArray 4)
  h3 : w.heap[B3]? = some (.cells (mlFlat M).toArray 61)
  lv : V.length = n ∧ C.length = n ∧ M.length = n
  hb : Below v0.heap.size v0 w
section
variable {v0 w w' : World} {st : Int} {n P B1 B2 B3 : Nat} {V : List Int} {C : List Bool} {M : List Ml}
theorem JS.lts (h : JS v0 st n P B1 B2 B3 V C M w) : P < w.heap.size ∧ B1 < w.heap.size ∧ B2 < w.heap.size ∧ B3 < w.heap.size := ⟨lt_of_block h.hP, lt_of_block h.h1, lt_of_block h.h2, lt_of_block h.h3⟩
theorem JS.below (h : JS v0 st n P B1 B2 B3 V C M w) (hb : Below w.heap.size w w') : JS v0 st n P B1 B2 B3 V C M w' :=
  ⟨h.lo, h.ne, (hb.block _ h.lts.1).trans h.hP, (hb.block _ h.lts.2.1).trans h.h1, (hb.block _ h.lts.2.2.1).trans h.h2, (hb.block _ h.lts.2.2.2).trans h.h3, h.lv, h.hb.trans (hb.mono h.hb.size)⟩
theorem JS.drew (h : JS v0 st n P B1 B2 B3 V C M w) : JS v0 st n P B1 B2 B3 V C M w.drew := ⟨h.lo, h.ne, h.hP, h.h1, h.h2, h.h3, h.lv, h.hb.drew⟩
theorem JS.alloc (h : JS v0 st n P B1 B2 B3 V C M w) (o : Obj) : JS v0 st n P B1 B2 B3 V C M (w.alloc o) := h.below ((Below.refl _ _).alloc (Nat.le_refl _) _)
theorem JS.keep (h : JS v0 st n P B1 B2 B3 V C M w) : Kept v0 w := Kept.of_below h.hb
/-- three stores at one place -/
theorem JS.store (h : JS v0 st n P B1 B2 B3 V C M w) (v : Nat) (x : Int) (b : Bool) (m : Ml) :
    JS v0 st n P B1 B2 B3 (V.set v x) (C.set v b) (M.set v m) ((((w.setCell ⟨B1, v, none⟩ (.int .i64 x)).setCell ⟨B2, v, none⟩ (.bool b)).setCell ⟨B3, v * 2, none⟩ (.bool m.1)).setCell ⟨B3, v * 2 + 1, none⟩ (.int .i64 m.2)) := by
  obtain ⟨n1, n2, n3, n4, n5, n6⟩ := h.ne
  obtain ⟨l0, l1, l2, l3⟩ := h.lo
  refine ⟨h.lo, h.ne, ?_, ?_, ?_, ?_, by simpa using h.lv, (((h.hb.setCell (p := ⟨B1, v, none⟩) l1 _).setCell (p := ⟨B2, v, none⟩) l2 _).setCell (p := ⟨B3, v * 2, none⟩) l3 _).setCell (p := ⟨B3, v * 2 + 1, none⟩) l3 _⟩
  · rw [Below.heap_setCell _ _ _ _ n3, Below.heap_setCell _ _ _ _ n3, Below.heap_setCell _ _ _ _ n2, Below.heap_setCell _ _ _ _ n1]
    exact h.hP
  · rw [Below.heap_setCell _ _ _ _ n5, Below.heap_setCell _ _ _ _ n5, Below.heap_setCell _ _ _ _ n4, heap_setCell_same _ B1 v _ _ _ h.h1, ← i64s_set]
    simp
  · rw [Below.heap_setCell _ _ _ _ n6, Below.heap_setCell _ _ _ _ n6]
    have h2 : (w.setCell ⟨B1, v, none⟩ (.int .i64 x)).heap[B2]? = some (.cells (bools C).toArray 4) := by rw [Below.heap_setCell _ _ _ _ (Ne.symm n4)]; exact h.h2
    rw [heap_setCell_same _ B2 v _ _ _ h2, ← bools_set]
    simp
  · have h3 : ((w.setCell ⟨B1, v, none⟩ (.int .i64 x)).setCell ⟨B2, v, none⟩ (.bool b)).heap[B3]? = some (.cells (mlFlat M).toArray 61) := by
      rw [Below.heap_setCell _ _ _ _ (Ne.symm n6), Below.heap_setCell _ _ _ _ (Ne.symm n5)]; exact h.h3
    have h4 := heap_setCell_same _ B3 (v * 2) _ _ (.bool m.1) h3
    rw [heap_setCell_same _ B3 (v * 2 + 1) _ _ (.int .i64 m.2) h4, ← mlFlat_set]
    simp
theorem js_six {u4 : World} (lo : v0.heap.size ≤ P ∧ v0.heap.size ≤ B1 ∧ v0.heap.size ≤ B2 ∧ v0.heap.size ≤ B3) (hne : P ≠ B1 ∧ P ≠ B2 ∧ P ≠ B3 ∧ B1 ≠ B2 ∧ B1 ≠ B3 ∧ B2 ≠ B3) (s1 s2 s3 : Value) (e1 : s1 = .slice (some ⟨B1, 0, none⟩) n n) (e2 : s2 = .slice (some ⟨B2, 0, none⟩) n n) (e3 : s3 = .slice (some ⟨B3, 0, none⟩) n n)
    (hP : u4.heap[P]? = some (.cells #[.int .i64 0, .slice none 0 0, .slice none 0 0, .slice none 0 0, .int .i64 0, .int .i64 0] 48))
    (h1 : u4.heap[B1]? = some (.cells (madeCells #[.int .i64 0] n) 2)) (h2 : u4.heap[B2]? = some (.cells (madeCells #[.bool false] n) 4)) (h3 : u4.heap[B3]? = some (.cells (madeCells #[.bool false, .int .i64 0] (n * 2)) 61)) (hb : Below v0.heap.size v0 u4) :
    JS v0 st n P B1 B2 B3 (List.replicate n 0) (List.replicate n false) (List.replicate n (false, 0)) ((((((u4.setCell ⟨P, 0, none⟩ (.int .i64 st)).setCell ⟨P, 1, none⟩ s1).setCell ⟨P, 2, none⟩ s2).setCell ⟨P, 3, none⟩ s3).setCell ⟨P, 4, none⟩ (.int .i64 0)).setCell ⟨P, 5, none⟩ (.int .i64 0)) := by
  obtain ⟨n1, n2, n3, n4, n5, n6⟩ := hne
  subst e1 e2 e3
  obtain ⟨f, hf, hfb, hfP, _, ho⟩ := six_fin _ _ _ _ _ _ (.int .i64 st) (.slice (some ⟨B1, 0, none⟩) n n) (.slice (some ⟨B2, 0, none⟩) n n) (.slice (some ⟨B3, 0, none⟩) n n) (.int .i64 0) (.int .i64 0) lo.1 hP hb
  rw [hf]
  refine ⟨lo, ⟨n1, n2, n3, n4, n5, n6⟩, hfP, ?_, ?_, ?_, by simp, hfb⟩
  · rw [ho B1 (Ne.symm n1), h1, made_i]
  · rw [ho B2 (Ne.symm n2), h2, made_b]
  · rw [ho B3 (Ne.symm n3), h3, made_m]
end
/-- behind the making of the rows -/
def JMid (w v0 : World) (st : Int) (n : Nat) (v7 : Value) (wc : World) : Prop := ∃ P B1 B2 B3, v7 = .pointer (some ⟨P, 0, none⟩) ∧ JS v0 st n P B1 B2 B3 (List.replicate n 0) (List.replicate n false) (List.replicate n (false, 0)) wc

/-! ### which places are filled -/
def dnW (k i u : Nat) : Bool := decide (0 ≤ ofF (u : Int) (k : Int)) && decide (ofF (u : Int) (k : Int) < (i : Int))
def dnI (k i : Nat) (l : List Int) (u : Nat) : Bool := dnW k i u || l.contains (u : Int)
theorem dnW_zero (k u : Nat) : dnW k 0 u = false := by
  unfold dnW
  rw [Bool.and_eq_false_iff]
  by_cases h : 0 ≤ ofF (u : Int) (k : Int)
  · exact .inr (decide_eq_false (by omega))
  · exact .inl (decide_eq_false h)
theorem dnI_nil (k i u : Nat) : dnI k i [] u = dnW k i u := by simp [dnI]
theorem dnI_step {k i u j : Nat} {own : List Int} {v : Nat} (h : own[j]? = some (v : Int)) : dnI k i (own.take (j + 1)) u = (dnI k i (own.take j) u || u == v) := by
  unfold dnI
  rw [List.take_add_one, h, Bool.or_assoc]
  congr 1
  rw [Bool.eq_iff_iff]
  simp only [Option.toList_some, List.contains_iff_mem, List.mem_append, List.mem_singleton, Bool.or_eq_true, beq_iff_eq]
  constructor
  · rintro (h1 | h1)
    · exact .inl h1
    · exact .inr (by omega)
  · rintro (h1 | h1)
    · exact .inl h1
    · exact .inr (by omega)
theorem own_mem {k i n u : Nat} (hu : u < n) : ((ownUpto (k : Int) (i : Int) n).contains (u : Int)) = decide (ofF (u : Int) (k : Int) = (i : Int)) := by
  rw [Bool.eq_iff_iff]
  simp only [List.contains_iff_mem, decide_eq_true_eq, ownUpto, List.mem_filter, List.mem_map, List.mem_range, sel, Bool.and_eq_true]
  constructor
  · rintro ⟨_, _, h⟩; exact h
  · intro h; exact ⟨⟨u, hu, rfl⟩, by omega, h⟩
theorem dnI_full {k i n u : Nat} (hu : u < n) : dnI k i (ownUpto (k : Int) (i : Int) n) u = dnW k (i + 1) u := by
  unfold dnI
  rw [own_mem hu]
  unfold dnW
  rw [Bool.eq_iff_iff]
  simp only [Bool.or_eq_true, Bool.and_eq_true, decide_eq_true_eq]
  omega
theorem dnW_all {k n u : Nat} (hu : u < n) (hn : n ≤ 512) (h1 : 1 ≤ k) (h2 : k ≤ 64) : dnW k k u = true := by
  have := ofF_ok (u : Int) (k : Int) (by omega) (by omega) (by omega) (by omega)
  unfold dnW
  simp only [Bool.and_eq_true, decide_eq_true_eq]
  exact this
theorem fill_congr {α : Type} (f : Nat → α) (z : α) (d d' : Nat → Bool) (n : Nat) (h : ∀ u, u < n → d u = d' u) : fillL f z d n = fillL f z d' n := by
  unfold fillL
  apply List.map_congr_left
  intro v hv
  rw [h v (List.mem_range.1 hv)]
/-- in a worker's own row a vertex stands once -/
theorem plc_own (k i n j v : Nat) (h : (ownUpto (k : Int) (i : Int) n)[j]? = some (v : Int)) : plc (v : Int) (ownUpto (k : Int) (i : Int) n) 0 = (j : Int) := by
  have hnd : (ownUpto (k : Int) (i : Int) n).Nodup := by
    unfold ownUpto
    refine List.Pairwise.filter _ ?_
    rw [List.pairwise_map]
    exact List.nodup_range.imp fun h e => h (by omega)
  rcases plc_spec (v : Int) (ownUpto (k : Int) (i : Int) n) 0 with ⟨_, h2⟩ | ⟨j', h1, h2, h3⟩
  · exact absurd (List.mem_of_getElem? h) h2
  · rw [h2]
    obtain ⟨a1, a2⟩ := List.getElem?_eq_some_iff.1 h
    obtain ⟨b1, b2⟩ := List.getElem?_eq_some_iff.1 h3
    have : j' = j := (List.getElem_inj hnd).1 (b2.trans a2.symm)
    omega
theorem own_of {k i n j v : Nat} (h : (ownUpto (k : Int) (i : Int) n)[j]? = some (v : Int)) : ofF (v : Int) (k : Int) = (i : Int) ∧ v < n := by
  have := List.mem_of_getElem? h
  unfold ownUpto at this
  rw [List.mem_filter, List.mem_map] at this
  obtain ⟨⟨u, hu, he⟩, hs⟩ := this
  unfold sel at hs
  simp only [Bool.and_eq_true, decide_eq_true_eq] at hs
  have : u = v := by omega
  subst this
  exact ⟨hs.2, List.mem_range.1 hu⟩
theorem own_nat_ {k i n j : Nat} {x : Int} (h : (ownUpto (k : Int) (i : Int) n)[j]? = some x) : ∃ v : Nat, x = (v : Int) := by
  have := List.mem_of_getElem? h
  unfold ownUpto at this
  rw [List.mem_filter, List.mem_map] at this
  obtain ⟨⟨u, hu, he⟩, _⟩ := this
  exact ⟨u, he.symm⟩
/-- what the worker of a vertex has for it -/
theorem j_at {ps : List SPart} {i n j v : Nat} {p : SPart} (hp : ps[i]? = some p) (ho : p.own = ownUpto (ps.length : Int) (i : Int) n) (h : p.own[j]? = some (v : Int)) : wk ps v = p ∧ ix ps v = j := by
  rw [ho] at h
  obtain ⟨h1, h2⟩ := own_of h
  have hw : wk ps v = p := by
    unfold wk
    rw [h1, Int.toNat_natCast, List.getD_eq_getElem?_getD, hp]
    rfl
  refine ⟨hw, ?_⟩
  unfold ix
  rw [hw, ho, plc_own _ _ _ _ _ h, Int.toNat_natCast]
theorem fit_iff {ps : List SPart} {w : Nat} {p : SPart} : fitJ ps w p = true ↔ rightB p = true ∧ p.step = stepJ ps ∧ nAll ps ≤ 512 ∧ p.own = ownUpto (ps.length : Int) (w : Int) (nAll ps) := by
  unfold fitJ
  simp only [Bool.and_eq_true, decide_eq_true_eq, and_assoc]
end Go.Proofs.Ytgfdlllmcbgbcaa
