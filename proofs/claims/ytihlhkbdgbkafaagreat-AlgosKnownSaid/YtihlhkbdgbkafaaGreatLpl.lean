/- The plain law of neighbours: sorted, compacted, without v, is what is put in its place one by one. -/
import Derived.Test.YtihlhkbdgbkafaaGreatLnr
namespace Go.Proofs.YtihlhkbdgbkafaaGreat
open Go.Lib
set_option linter.unusedVariables false
set_option linter.unusedSimpArgs false
/-- a rising row, with a number in its place, unless it is there -/
def lowAt (l : List Int) (n : Int) : Nat := (l.takeWhile fun x => decide (x < n)).length
def putF (l : List Int) (n : Int) : List Int := if (l[lowAt l n]?) = some n then l else l.take (lowAt l n) ++ n :: l.drop (lowAt l n)
def putAll (v : Int) (l : List Int) (xs : List Int) : List Int := xs.foldl (fun a x => if x = v then a else putF a x) l
def rnearF (v : Int) (outs backs : List Ed) : List Int := putAll v (putAll v [] (tos outs)) (froms backs)
abbrev Up (l : List Int) : Prop := l.Pairwise (· < ·)
theorem low_take (l : List Int) (n : Int) : l.take (lowAt l n) = l.takeWhile fun x => decide (x < n) := by
  unfold lowAt
  induction l with
  | nil => rfl
  | cons x l ih =>
    rw [List.takeWhile_cons]
    split
    · rw [List.length_cons, List.take_succ_cons, ih]
    · rfl
theorem low_drop (l : List Int) (n : Int) : l.drop (lowAt l n) = l.dropWhile fun x => decide (x < n) := by
  unfold lowAt
  induction l with
  | nil => rfl
  | cons x l ih =>
    rw [List.takeWhile_cons, List.dropWhile_cons]
    split
    · rw [List.length_cons, List.drop_succ_cons, ih]
    · rfl
theorem low_split (l : List Int) (n : Int) : l = l.take (lowAt l n) ++ l.drop (lowAt l n) := (List.take_append_drop _ _).symm
theorem low_lt {l : List Int} {n x : Int} (h : x ∈ l.take (lowAt l n)) : x < n := by
  rw [low_take] at h
  have := List.all_eq_true.1 (List.all_takeWhile (l := l) (p := fun x => decide (x < n))) x h
  simpa using this
theorem low_ge {l : List Int} {n x : Int} (hu : Up l) (h : x ∈ l.drop (lowAt l n)) : n ≤ x := by
  rw [low_drop] at h
  have hs : (l.dropWhile fun x => decide (x < n)).Pairwise (· < ·) := hu.sublist (List.dropWhile_sublist _)
  cases hd : l.dropWhile fun x => decide (x < n) with
  | nil => rw [hd] at h; cases h
  | cons y r =>
    have hy : ¬ y < n := by
      have := List.head?_dropWhile_not (fun x => decide (x < n)) l
      rw [hd] at this
      simpa using this
    rw [hd] at h hs
    rcases List.mem_cons.1 h with rfl | h
    · omega
    · have := (List.pairwise_cons.1 hs).1 x h
      omega
theorem put_spec {l : List Int} (n : Int) (hu : Up l) : Up (putF l n) ∧ ∀ x, x ∈ putF l n ↔ (x = n ∨ x ∈ l) := by
  unfold putF
  by_cases h : l[lowAt l n]? = some n
  · rw [if_pos h]
    exact ⟨hu, fun x => ⟨.inr, fun g => g.elim (fun e => e ▸ List.mem_of_getElem? h) id⟩⟩
  · rw [if_neg h]
    have hsp := low_split l n
    have hu2 := hu
    rw [hsp, Up, List.pairwise_append] at hu2
    have hne : ∀ x ∈ l.drop (lowAt l n), n < x := fun x hx => by
      have h1 := low_ge hu hx
      rcases Int.lt_or_eq_of_le h1 with h2 | h2
      · exact h2
      · exfalso
        subst h2
        cases hd : l.drop (lowAt l n) with
        | nil => rw [hd] at hx; cases hx
        | cons y r =>
          have hy : l[lowAt l n]? = some y := by
            have := congrArg (·[0]?) hd
            simpa using this
          have hyn : n ≤ y := low_ge hu (by rw [hd]; simp)
          rw [hd] at hx hu2
          rcases List.mem_cons.1 hx with rfl | hx
          · exact h hy
          · have := (List.pairwise_cons.1 hu2.2.1).1 n hx
            omega
    refine ⟨?_, fun x => ?_⟩
    · rw [Up, List.pairwise_append, List.pairwise_cons]
      exact ⟨hu2.1, ⟨hne, hu2.2.1⟩, fun a ha b hb => by
        rcases List.mem_cons.1 hb with rfl | hb
        · exact low_lt ha
        · exact hu2.2.2 a ha b hb⟩
    · rw [List.mem_append, List.mem_cons]
      conv => rhs; rw [hsp, List.mem_append]
      constructor
      · rintro (a | a | a)
        · exact .inr (.inl a)
        · exact .inl a
        · exact .inr (.inr a)
      · rintro (a | a | a)
        · exact .inr (.inl a)
        · exact .inl a
        · exact .inr (.inr a)
theorem putAll_spec (v : Int) : ∀ (xs l : List Int), Up l → Up (putAll v l xs) ∧ ∀ x, x ∈ putAll v l xs ↔ (x ∈ l ∨ (x ∈ xs ∧ x ≠ v)) := by
  intro xs
  induction xs with
  | nil => intro l hu; exact ⟨hu, fun x => by simp [putAll]⟩
  | cons y xs ih =>
    intro l hu
    have e : putAll v l (y :: xs) = putAll v (if y = v then l else putF l y) xs := rfl
    rw [e]
    by_cases h : y = v
    · rw [if_pos h]
      obtain ⟨a, b⟩ := ih l hu
      refine ⟨a, fun x => ?_⟩
      rw [b x, List.mem_cons]
      constructor
      · rintro (c | ⟨c, d⟩)
        · exact .inl c
        · exact .inr ⟨.inr c, d⟩
      · rintro (c | ⟨c | c, d⟩)
        · exact .inl c
        · exact absurd (c.trans h) d
        · exact .inr ⟨c, d⟩
    · rw [if_neg h]
      obtain ⟨p, q⟩ := put_spec y hu
      obtain ⟨a, b⟩ := ih _ p
      refine ⟨a, fun x => ?_⟩
      rw [b x, q x, List.mem_cons]
      constructor
      · rintro ((c | c) | ⟨c, d⟩)
        · exact .inr ⟨.inl c, by rw [c]; exact h⟩
        · exact .inl c
        · exact .inr ⟨.inr c, d⟩
      · rintro (c | ⟨c | c, d⟩)
        · exact .inl (.inr c)
        · exact .inl (.inl c)
        · exact .inr ⟨c, d⟩
theorem up_eq : ∀ {a b : List Int}, Up a → Up b → (∀ x, x ∈ a ↔ x ∈ b) → a = b := by
  intro a
  induction a with
  | nil =>
    intro b _ _ h
    cases b with
    | nil => rfl
    | cons y b => exact absurd ((h y).2 (by simp)) (by simp)
  | cons x a ih =>
    intro b ha hb h
    cases b with
    | nil => exact absurd ((h x).1 (by simp)) (by simp)
    | cons y b =>
      obtain ⟨ha1, ha2⟩ := List.pairwise_cons.1 ha
      obtain ⟨hb1, hb2⟩ := List.pairwise_cons.1 hb
      have hxy : x = y := by
        rcases List.mem_cons.1 ((h x).1 (by simp)) with e | hx
        · exact e
        · rcases List.mem_cons.1 ((h y).2 (by simp)) with e | hy
          · exact e.symm
          · have := hb1 x hx
            have := ha1 y hy
            omega
      subst hxy
      rw [ih ha2 hb2 (fun z => ?_)]
      constructor
      · intro hz
        rcases List.mem_cons.1 ((h z).1 (List.mem_cons_of_mem _ hz)) with e | g
        · have := ha1 z hz; omega
        · exact g
      · intro hz
        rcases List.mem_cons.1 ((h z).2 (List.mem_cons_of_mem _ hz)) with e | g
        · have := hb1 z hz; omega
        · exact g
theorem sort_up (l : List Int) : (sortI l).Pairwise (· ≤ ·) := by
  unfold sortI
  have h := List.pairwise_mergeSort (le := fun (x y : Int) => decide (x ≤ y)) (fun a b c h1 h2 => by simp at h1 h2 ⊢; omega) (fun a b => by simp; omega) l
  exact h.imp (fun h => by simpa using h)
theorem get_bang {l : List Int} {j : Nat} (h : j < l.length) : l.toArray[j]! = l[j] := by simp [h]
theorem compact_spec {l : List Int} (hs : l.Pairwise (· ≤ ·)) : Up (Lib.compact l) ∧ ∀ x, x ∈ Lib.compact l ↔ x ∈ l := by
  have hle : ∀ i j, (hij : i ≤ j) → (hj : j < l.length) → l[i]'(by omega) ≤ l[j] := fun i j hij hj => by
    rcases Nat.lt_or_eq_of_le hij with h | h
    · exact List.pairwise_iff_getElem.1 hs i j (by omega) hj h
    · subst h; exact Int.le_refl _
  constructor
  · unfold Lib.compact Lib.compactUpTo Up
    rw [List.pairwise_map]
    have hr : ((List.range l.length).filter (Lib.keeps l.toArray)).Pairwise (· < ·) := List.pairwise_lt_range.sublist List.filter_sublist
    refine hr.imp_of_mem (fun {i j} hi hj hij => ?_)
    have hij2 : i < j := hij
    have hj1 := List.mem_filter.1 hj
    have hjl : j < l.length := by simpa using hj1.1
    have hk := hj1.2
    unfold Lib.keeps at hk
    rw [get_bang hjl, get_bang (show i < l.length by omega)]
    rw [get_bang hjl, get_bang (show j - 1 < l.length by omega)] at hk
    have hk2 := of_decide_eq_true hk
    have h1 := hle i (j - 1) (by omega) (by omega)
    have h2 := hle (j - 1) j (by omega) hjl
    rcases hk2 with h | h
    · omega
    · omega
  · intro x
    unfold Lib.compact Lib.compactUpTo
    rw [List.mem_map]
    constructor
    · rintro ⟨j, hj, rfl⟩
      have hjl : j < l.length := by simpa using (List.mem_filter.1 hj).1
      rw [get_bang hjl]
      exact List.getElem_mem _
    · intro hx
      obtain ⟨i, hi, he⟩ := List.getElem_of_mem hx
      -- the first place at which it stands
      have : ∀ n, ∀ i (hi : i < l.length), i ≤ n → l[i] = x → ∃ j, j ∈ (List.range l.length).filter (Lib.keeps l.toArray) ∧ l.toArray[j]! = x := by
        intro n
        induction n with
        | zero =>
          intro i hi h0 he
          obtain rfl : i = 0 := by omega
          exact ⟨0, List.mem_filter.2 ⟨by simpa using hi, by simp [Lib.keeps]⟩, by rw [get_bang hi, he]⟩
        | succ n ih =>
          intro i hi hn he
          by_cases hk : Lib.keeps l.toArray i = true
          · exact ⟨i, List.mem_filter.2 ⟨by simpa using hi, hk⟩, by rw [get_bang hi, he]⟩
          · unfold Lib.keeps at hk
            rw [decide_eq_true_eq] at hk
            have h0 : i ≠ 0 := fun h => hk (.inl h)
            have h1 : l.toArray[i]! = l.toArray[i - 1]! := Classical.byContradiction fun h => hk (.inr h)
            rw [get_bang hi, get_bang (show i - 1 < l.length by omega)] at h1
            exact ih (i - 1) (by omega) (by omega) (by rw [← h1, he])
      exact this i i hi (Nat.le_refl _) he
theorem near_eq (v : Int) (outs backs : List Ed) : nearF v outs backs = rnearF v outs backs := by
  obtain ⟨c1, c2⟩ := compact_spec (sort_up (tos outs ++ froms backs))
  obtain ⟨p1, p2⟩ := putAll_spec v (tos outs) [] List.Pairwise.nil
  obtain ⟨q1, q2⟩ := putAll_spec v (froms backs) _ p1
  unfold nearF rnearF
  refine up_eq (c1.sublist List.filter_sublist) q1 (fun x => ?_)
  rw [List.mem_filter, c2 x, q2 x, p2 x]
  have hm : x ∈ sortI (tos outs ++ froms backs) ↔ x ∈ tos outs ∨ x ∈ froms backs := by
    unfold sortI
    rw [List.mem_mergeSort, List.mem_append]
  rw [hm]
  simp only [List.not_mem_nil, false_or, Bool.not_eq_true', decide_eq_false_iff_not]
  constructor
  · rintro ⟨h | h, g⟩
    · exact .inl ⟨h, g⟩
    · exact .inr ⟨h, g⟩
  · rintro (⟨h, g⟩ | ⟨h, g⟩)
    · exact ⟨.inl h, g⟩
    · exact ⟨.inr h, g⟩
end Go.Proofs.YtihlhkbdgbkafaaGreat
