/- Rows of rows of edges that are the call's own. -/
import Derived.Test.YtihdpfjonkagaaaOap
import Derived.Test.YtihdpfjonkagaaaRow2
import Derived.Test.YtihdpfjonkagaaaErw
namespace Go.Proofs.Ytihdpfjonkagaaa
open Go.RowKit
set_option linter.unusedVariables false
/-- all blocks that lay in v are as they were, but for those of X -/
def KB (X : List Nat) (v w : World) : Prop := v.heap.size ≤ w.heap.size ∧ ∀ b, b < v.heap.size → b ∉ X → w.heap[b]? = v.heap[b]?
section
variable {X : List Nat} {v w w' : World} {B : Nat}
theorem KB.refl (X : List Nat) (v : World) : KB X v v := ⟨Nat.le_refl _, fun _ _ _ => rfl⟩
theorem KB.drew (h : KB X v w) : KB X v w.drew := h
theorem KB.trans (h : KB X v w) (h' : KB X w w') : KB X v w' := ⟨Nat.le_trans h.1 h'.1, fun b hb hx => (h'.2 b (Nat.lt_of_lt_of_le hb h.1) hx).trans (h.2 b hb hx)⟩
theorem KB.below (h : KB X v w) (hb : Below B w w') (hB : v.heap.size ≤ B) : KB X v w' := ⟨Nat.le_trans h.1 hb.size, fun b hl hx => (hb.block b (Nat.lt_of_lt_of_le hl hB)).trans (h.2 b hl hx)⟩
theorem KB.alloc (h : KB X v w) (o : Obj) : KB X v (w.alloc o) := h.below ((Below.refl w.heap.size w).alloc (Nat.le_refl _) o) h.1
theorem KB.grown (h : KB X v w) {row : Option Nat} (hg : w.grownBy w' row) (hr : ∀ g, row = some g → v.heap.size ≤ g ∨ g ∈ X) : KB X v w' := by
  refine ⟨Nat.le_trans h.1 hg.size, fun b hl hx => (hg.block b (Nat.lt_of_lt_of_le hl h.1) (fun e => ?_)).trans (h.2 b hl hx)⟩
  rcases hr b e.symm with h1 | h1
  · omega
  · exact hx h1
theorem KB.setCell (h : KB X v w) {p : Addr} (hp : v.heap.size ≤ p.block ∨ p.block ∈ X) (u : Value) : KB X v (w.setCell p u) := by
  refine ⟨by rw [World.size_setCell]; exact h.1, fun b hl hx => (Below.heap_setCell _ _ _ _ (fun e => ?_)).trans (h.2 b hl hx)⟩
  rcases hp with h1 | h1
  · omega
  · rw [← e] at h1; exact hx h1
theorem KB.cell (h : KB X v w) {p : Addr} (hl : p.block < v.heap.size) (hx : p.block ∉ X) : w.cell? p = v.cell? p := World.cell?_of_block (h.2 _ hl hx)
theorem KB.frozen (h : KB X v w) {p : Addr} (hl : p.block < v.heap.size) (hx : p.block ∉ X) : w.frozen? p = v.frozen? p := World.frozen?_of_block (h.2 _ hl hx)
theorem KB.own (h : KB X v w) {base size n : Nat} {e : TypeId} {u : Value} {xs : List Value} (ho : v.ownsRow base e size u n xs) (hx : ∀ g, u.ownBlock = some g → g ∉ X) : w.ownsRow base e size u n xs := by
  refine ⟨ho.1, ?_⟩
  rcases ho.2 with h0 | ⟨g, cap, cur, hv, hg, hc, hr⟩
  · exact .inl h0
  · exact .inr ⟨g, cap, cur, hv, hg, (h.2 g (lt_of_block hc) (hx g (by rw [hv]; rfl))).trans hc, hr⟩
theorem KB.rd (h : KB X v w) {A : Option Addr} {xs : List Value} (hr : Rd v B A xs) (hB : B ≤ v.heap.size) (hx : ∀ b ∈ X, B ≤ b) : Rd w B A xs := hr.keep fun p hp => h.cell (by omega) (fun hm => by have := hx _ hm; omega)
theorem KB.eds (h : KB X v w) {A : Option Addr} {es : List Ed} (hr : Eds v B A es) (hB : B ≤ v.heap.size) (hx : ∀ b ∈ X, B ≤ b) : Eds w B A es := Els.keep hr (fun p hp => h.cell (by omega) (fun hm => by have := hx _ hm; omega)) fun _ _ h => h
end
def EdOwn (w : World) (b : Nat) (v : Value) (r : List Ed) : Prop := (∃ A c, v = .slice A r.length c) ∧ w.ownsRow b 44 3 v r.length (edFlat r) ∧ wt r
structure ORows (w : World) (b : Nat) (A : Option Addr) (c : Nat) (hs : List Value) (rs : List (List Ed)) : Prop where
  own : w.ownsRow b 28 1 (.slice A rs.length c) rs.length hs
  row : ∀ (i : Nat) (h : Value) (r : List Ed), hs[i]? = some h → rs[i]? = some r → EdOwn w b h r
  apart : ∀ (i j : Nat) (h h' : Value), i ≠ j → hs[i]? = some h → hs[j]? = some h' → h.ownBlock = none ∨ h.ownBlock ≠ h'.ownBlock
theorem ORows.len {w : World} {b : Nat} {A : Option Addr} {c : Nat} {hs : List Value} {rs : List (List Ed)} (h : ORows w b A c hs rs) : hs.length = rs.length := by have := h.own.1; simpa using this
theorem ORows.nil (w : World) (b : Nat) : ORows w b none 0 [] [] := ⟨World.ownsRow_nil _ _ _ _, fun i h r hh => by simp at hh, fun i j h h' _ hh => by simp at hh⟩
theorem ORows.lift {w w' : World} {b : Nat} {A : Option Addr} {c : Nat} {hs : List Value} {rs : List (List Ed)} (h : ORows w b A c hs rs)
    (ho : w'.ownsRow b 28 1 (.slice A rs.length c) rs.length hs) (hr : ∀ v n xs, w.ownsRow b 44 3 v n xs → w'.ownsRow b 44 3 v n xs) : ORows w' b A c hs rs :=
  ⟨ho, fun i x r h1 h2 => let ⟨k1, k2, k3⟩ := h.row i x r h1 h2; ⟨k1, hr _ _ _ k2, k3⟩, h.apart⟩
theorem own_all {w w' : World} {b B : Nat} {e : TypeId} {size n : Nat} {v : Value} {xs : List Value} (h : w.ownsRow b e size v n xs) (hb : Below B w w') (hB : w.heap.size ≤ B) : w'.ownsRow b e size v n xs :=
  own_below h hb fun g hg => Nat.lt_of_lt_of_le (h.lt g hg).2 hB
theorem ORows.below {w w' : World} {b B : Nat} {A : Option Addr} {c : Nat} {hs : List Value} {rs : List (List Ed)} (h : ORows w b A c hs rs) (hb : Below B w w') (hB : w.heap.size ≤ B) : ORows w' b A c hs rs :=
  h.lift (own_all h.own hb hB) fun v n xs hv => own_all hv hb hB
theorem ORows.setCell {w : World} {b : Nat} {A : Option Addr} {c : Nat} {hs : List Value} {rs : List (List Ed)} (h : ORows w b A c hs rs) {p : Addr} (hp : p.block < b) (u : Value) : ORows (w.setCell p u) b A c hs rs :=
  h.lift (ownsRow_setCell_below h.own hp u) fun v n xs hv => ownsRow_setCell_below hv hp u
theorem edge_ne_row : 44 ≠ 28 := by decide
/-- another row of rows, when this one is appended to -/
theorem ORows.other {w w' : World} {b b2 : Nat} {A : Option Addr} {c n : Nat} {hs : List Value} {rs : List (List Ed)} {v : Value} {xs : List Value} (h : ORows w b A c hs rs) (hv : w.ownsRow b2 28 1 v n xs)
    (hg : w.grownBy w' v.ownBlock) (ha : (Value.slice A rs.length c).ownBlock = none ∨ (Value.slice A rs.length c).ownBlock ≠ v.ownBlock) : ORows w' b A c hs rs :=
  h.lift (h.own.kept hg ha) fun u n xs hu => hu.kept hg (own_apart hu hv edge_ne_row)
/-- one more row, whose block is new -/
theorem ORows.push {w w' : World} {b m : Nat} {A A' : Option Addr} {c c' : Nat} {hs : List Value} {rs : List (List Ed)} {v : Value} {r : List Ed} (h : ORows w b A c hs rs) (hn : w.ownsRow m 44 3 v r.length (edFlat r)) (hv : ∃ A c, v = .slice A r.length c) (hw : wt r) (hm : b ≤ m)
    (hall : ∀ (i : Nat) (x : Value) g, hs[i]? = some x → x.ownBlock = some g → g < m)
    (hg : w.grownBy w' (Value.slice A rs.length c).ownBlock) (ho : w'.ownsRow b 28 1 (.slice A' (rs.length + 1) c') (rs.length + 1) (hs ++ [v])) : ORows w' b A' c' (hs ++ [v]) (rs ++ [r]) := by
  have hlen := h.len
  refine ⟨by rw [List.length_append]; exact ho, fun i x q h1 h2 => ?_, fun i j x y hij h1 h2 => ?_⟩
  · rcases Nat.lt_or_ge i hs.length with hi | hi
    · rw [List.getElem?_append_left hi] at h1
      rw [List.getElem?_append_left (by omega)] at h2
      obtain ⟨k1, k2, k3⟩ := h.row i x q h1 h2
      exact ⟨k1, k2.kept hg (own_apart k2 h.own edge_ne_row), k3⟩
    · have hi2 := (List.getElem?_eq_some_iff.1 h1).1
      rw [List.length_append] at hi2
      simp only [List.length_cons, List.length_nil] at hi2
      obtain rfl : i = hs.length := by omega
      rw [List.getElem?_append_right (Nat.le_refl _), Nat.sub_self] at h1
      rw [List.getElem?_append_right (by omega), hlen, Nat.sub_self] at h2
      simp only [List.getElem?_cons_zero, Option.some.injEq] at h1 h2
      subst h1 h2
      exact ⟨hv, own_base (hn.kept hg (own_apart hn h.own edge_ne_row)) hm, hw⟩
  · rcases Nat.lt_or_ge i hs.length with hi | hi
    · rw [List.getElem?_append_left hi] at h1
      rcases Nat.lt_or_ge j hs.length with hj | hj
      · rw [List.getElem?_append_left hj] at h2
        exact h.apart i j x y hij h1 h2
      · have hj2 := (List.getElem?_eq_some_iff.1 h2).1
        rw [List.length_append] at hj2
        simp only [List.length_cons, List.length_nil] at hj2
        obtain rfl : j = hs.length := by omega
        rw [List.getElem?_append_right (Nat.le_refl _), Nat.sub_self] at h2
        simp only [List.getElem?_cons_zero, Option.some.injEq] at h2
        subst h2
        rcases hx : x.ownBlock with _ | g
        · exact .inl rfl
        · refine .inr fun e => ?_
          have h3 := hall i x g h1 hx
          have := (hn.lt g e.symm).1
          omega
    · have hi2 := (List.getElem?_eq_some_iff.1 h1).1
      rw [List.length_append] at hi2
      simp only [List.length_cons, List.length_nil] at hi2
      obtain rfl : i = hs.length := by omega
      have hj2 := (List.getElem?_eq_some_iff.1 h2).1
      rw [List.length_append] at hj2
      simp only [List.length_cons, List.length_nil] at hj2
      rw [List.getElem?_append_left (by omega)] at h2
      rw [List.getElem?_append_right (Nat.le_refl _), Nat.sub_self] at h1
      simp only [List.getElem?_cons_zero, Option.some.injEq] at h1
      subst h1
      rcases hx : v.ownBlock with _ | g
      · exact .inl rfl
      · refine .inr fun e => ?_
        have h3 := hall j y g h2 e.symm
        have := (hn.lt g hx).1
        omega
theorem ORows.lt {w : World} {b : Nat} {A : Option Addr} {c : Nat} {hs : List Value} {rs : List (List Ed)} (h : ORows w b A c hs rs) (i : Nat) (x : Value) (g : Nat) (hx : hs[i]? = some x) (hg : x.ownBlock = some g) : b ≤ g ∧ g < w.heap.size := by
  have hi := (List.getElem?_eq_some_iff.1 hx).1
  rw [h.len] at hi
  exact (h.row i x _ hx (List.getElem?_eq_getElem hi)).2.1.lt g hg
/-- as rows that are read -/
theorem ORows.erows {w : World} {b : Nat} {A : Option Addr} {c : Nat} {hs : List Value} {rs : List (List Ed)} (h : ORows w b A c hs rs) : ERows w w.heap.size A rs := fun hn => by
  have hpos : 0 < rs.length := List.length_pos_iff.2 hn
  obtain ⟨g, rfl, hb, hg, _⟩ := own_addr h.own hpos
  refine ⟨g, 0, rfl, hg, fun i r hr => ?_⟩
  have hi := (List.getElem?_eq_some_iff.1 hr).1
  have hi2 : i < hs.length := by rw [h.len]; exact hi
  obtain ⟨⟨A2, c2, k1⟩, k2, k3⟩ := h.row i _ r (List.getElem?_eq_getElem hi2) hr
  refine ⟨[hs[i]], rfl, ⟨A2, c2, by rw [k1], ?_, ?_, ?_⟩, fun j u hu => ?_⟩
  · rw [k1] at k2; exact own_cap k2
  · rw [k1] at k2; exact own_max k2
  · rw [k1] at k2; exact Eds.of_rd (Rd.of_own k2) k3
  · rcases j with _ | j
    · simp only [List.getElem?_cons_zero, Option.some.injEq] at hu
      subst hu
      have := h.own.cellAt i (by omega)
      simp only [Nat.mul_one, Nat.add_zero, Nat.zero_add]
      rw [this]
      exact List.getElem?_eq_getElem hi2
    · simp at hu
def Apart (a b : Value) : Prop := ∀ g, a.ownBlock = some g → b.ownBlock = some g → False
theorem Apart.symm {a b : Value} (h : Apart a b) : Apart b a := fun g h1 h2 => h g h2 h1
theorem Apart.or {a b : Value} (h : Apart a b) : a.ownBlock = none ∨ a.ownBlock ≠ b.ownBlock := by
  rcases e : a.ownBlock with _ | g
  · exact .inl rfl
  · exact .inr fun e2 => h g e e2.symm
theorem Apart.nil (n c : Nat) (b : Value) : Apart (.slice none n c) b := fun g h => by cases h
theorem below_start {B : Nat} {a w : World} (h : Below B a.drew w) : Below B a w := ⟨h.os, h.tape, h.output, h.size, h.block⟩
/-- one more row for one of two rows of rows: behind the call that made it, its laying down, and the append -/
theorem push_two {ws y1 y3 : World} {B q : Nat} {Am Ao A1 A' : Option Addr} {cm co c1 c' : Nat} {hm ho : List Value} {rm ro : List (List Ed)} {r : List Ed} {T : TypeId} {im : Nat} (hlen : rm.length = im) (hM : ORows ws B Am cm hm rm) (hO : ORows ws B Ao co ho ro)
    (ha : Apart (.slice Am im cm) (.slice Ao ro.length co)) (hB : B ≤ ws.heap.size) (b1 : Below ws.heap.size ws.drew y1) (hq : r.length = q) (hw : wt r) (o1 : y1.ownsRow ws.heap.size 44 3 (.slice A1 q c1) q (edFlat r))
    (own3 : y3.ownsRow B 28 1 (.slice A' (im + 1) c') (im + 1) (hm ++ [.slice A1 q c1])) (hg : (y1.alloc (.cells #[.slice A1 q c1] T)).grownBy y3 (Value.slice Am im cm).ownBlock)
    (hat : (Value.slice A' (im + 1) c').ownBlock = (Value.slice Am im cm).ownBlock ∨ (Value.slice A' (im + 1) c').ownBlock = some (y1.alloc (.cells #[.slice A1 q c1] T)).heap.size) :
    ORows y3 B A' c' (hm ++ [.slice A1 q c1]) (rm ++ [r]) ∧ ORows y3 B Ao co ho ro ∧ Apart (.slice A' (im + 1) c') (.slice Ao ro.length co) ∧ Below B ws y3 := by
  subst hlen hq
  have b2 : Below ws.heap.size ws (y1.alloc (.cells #[.slice A1 r.length c1] T)) := (below_start b1).alloc (below_start b1).size _
  have hM2 := hM.below b2 (Nat.le_refl _)
  have hO2 := hO.below b2 (Nat.le_refl _)
  refine ⟨?_, ?_, ?_, ?_⟩
  · exact hM2.push (o1.alloc _) ⟨_, _, rfl⟩ hw hB (fun i x g hx hg => (hM.lt i x g hx hg).2) hg own3
  · exact hO2.other hM2.own hg ha.symm.or
  · intro g h1 h2
    rcases hat with h | h
    · exact ha g (h.symm.trans h1) h2
    · have h3 := (hO.own.lt g h2).2
      rw [h] at h1
      injection h1 with h1
      have := b2.size
      omega
  · exact app_below (b2.mono hB) hM2.own hg (by have := b2.size; omega) (Nat.le_refl _)
theorem ORows.lower {w : World} {b b' : Nat} {A : Option Addr} {c : Nat} {hs : List Value} {rs : List (List Ed)} (h : ORows w b A c hs rs) (hb : b' ≤ b) : ORows w b' A c hs rs :=
  ⟨own_base h.own hb, fun i x r h1 h2 => let ⟨k1, k2, k3⟩ := h.row i x r h1 h2; ⟨k1, own_base k2 hb, k3⟩, h.apart⟩
theorem wt_filter {es : List Ed} (f : Ed → Bool) (h : wt es) : wt (es.filter f) := fun e he => h e (List.mem_filter.1 he).1
end Go.Proofs.Ytihdpfjonkagaaa
