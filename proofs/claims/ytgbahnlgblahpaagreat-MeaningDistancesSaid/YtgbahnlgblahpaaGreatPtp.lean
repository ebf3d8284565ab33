/- The plain law of Tight: marking edge by edge, begun anew at each mark, ends with what so many rounds over all edges mark. -/
import Derived.Test.YtgbahnlgblahpaaGreatPtg
namespace Go.Proofs.YtgbahnlgblahpaaGreat
set_option linter.unusedVariables false
set_option linter.unusedSimpArgs false

def viol (vals : List Int) (es : List Ed) : Bool := es.any fun e => decide (dadd (at_ vals e.1) e.2.2 < at_ vals e.2.1)
def mark (vals : List Int) (r : List Bool) (e : Ed) : List Bool := if bat r e.1 = true ∧ dadd (at_ vals e.1) e.2.2 = at_ vals e.2.1 then r.set e.2.1.toNat true else r
def pass (vals : List Int) (es : List Ed) (r : List Bool) : List Bool := es.foldl (mark vals) r
def rounds (vals : List Int) (es : List Ed) : Nat → List Bool → List Bool
  | 0, r => r
  | n + 1, r => rounds vals es n (pass vals es r)
def first (V s : Int) : List Bool := (List.replicate V.toNat false).set s.toNat true
def rtightF (V : Int) (es : List Ed) (s : Int) (vals : List Int) : Bool :=
  if checkF V es = 0 ∧ 0 ≤ s ∧ s < V ∧ (vals.length : Int) = V ∧ at_ vals s = 0 then !viol vals es && lastOk vals (rounds vals es V.toNat (first V s)) 0 else false

def Shut_ (vals : List Int) (es : List Ed) (r : List Bool) : Prop := ∀ e ∈ es, bat r e.1 = true → dadd (at_ vals e.1) e.2.2 = at_ vals e.2.1 → bat r e.2.1 = true
def Le (r q : List Bool) : Prop := ∀ i : Int, bat r i = true → bat q i = true
theorem Le.refl (r : List Bool) : Le r r := fun _ h => h
theorem Le.trans {a b c : List Bool} (h : Le a b) (g : Le b c) : Le a c := fun i hi => g i (h i hi)
theorem bat_set (r : List Bool) (t : Nat) (i : Int) : bat (r.set t true) i = true ↔ ((i.toNat = t ∧ t < r.length) ∨ bat r i = true) := by
  unfold bat
  rw [List.getElem?_set]
  by_cases h : t = i.toNat
  · subst h
    by_cases h2 : i.toNat < r.length
    · simp [h2]
    · rw [if_pos rfl, if_neg h2, List.getElem?_eq_none (by omega)]
      simp; omega
  · rw [if_neg h]
    constructor
    · exact .inr
    · rintro (⟨h1, _⟩ | h1)
      · exact absurd h1.symm h
      · exact h1
theorem Le.count : ∀ {r q : List Bool}, r.length = q.length → Le r q → cnt q ≤ cnt r ∧ (cnt q = cnt r → q = r) := by
  intro r
  induction r with
  | nil => intro q hl _; cases q with
    | nil => exact ⟨Nat.le_refl _, fun _ => rfl⟩
    | cons _ _ => cases hl
  | cons a r ih =>
    intro q hl h
    cases q with
    | nil => cases hl
    | cons b q =>
      have hl' : r.length = q.length := by simpa using hl
      have hab : a = true → b = true := fun e => by
        have := h 0
        simp [bat] at this
        exact this e
      have hle : Le r q := fun i hi => by
        have := h ((i.toNat : Int) + 1)
        unfold bat at this hi ⊢
        rw [show ((i.toNat : Int) + 1).toNat = i.toNat + 1 by omega] at this
        simpa using this (by simpa using hi)
      obtain ⟨h1, h2⟩ := ih hl' hle
      unfold cnt at h1 h2 ⊢
      rw [List.countP_cons, List.countP_cons]
      cases a <;> cases b
      · simp only [Bool.not_false, if_true]
        refine ⟨by omega, fun e => ?_⟩
        rw [h2 (by omega)]
      · simp only [Bool.not_false, Bool.not_true, if_true, Bool.false_eq_true, if_false]
        exact ⟨by omega, fun e => by omega⟩
      · exact absurd (hab rfl) (by simp)
      · simp only [Bool.not_true, Bool.false_eq_true, if_false]
        refine ⟨by omega, fun e => ?_⟩
        rw [h2 (by omega)]
theorem Le.anti {r q : List Bool} (hl : r.length = q.length) (h : Le r q) (g : Le q r) : r = q := by
  have h1 := Le.count hl h
  have h2 := Le.count hl.symm g
  exact (h1.2 (by omega)).symm

theorem scan_spec (vals : List Int) (r : List Bool) : ∀ es : List Ed, match scan vals es r with
    | none => viol vals es = true
    | some none => viol vals es = false ∧ Shut_ vals es r
    | some (some t) => ∃ e ∈ es, bat r e.1 = true ∧ bat r e.2.1 = false ∧ dadd (at_ vals e.1) e.2.2 = at_ vals e.2.1 ∧ t = e.2.1.toNat := by
  intro es
  induction es with
  | nil => exact ⟨rfl, fun e he => by cases he⟩
  | cons e es ih =>
    rw [scan]
    have hv : viol vals (e :: es) = (decide (dadd (at_ vals e.1) e.2.2 < at_ vals e.2.1) || viol vals es) := rfl
    by_cases h1 : dadd (at_ vals e.1) e.2.2 < at_ vals e.2.1
    · rw [if_pos h1]
      show viol vals (e :: es) = true
      rw [hv, decide_eq_true h1]; rfl
    · rw [if_neg h1]
      by_cases h2 : bat r e.1 = true ∧ bat r e.2.1 = false ∧ at_ vals e.2.1 = dadd (at_ vals e.1) e.2.2
      · rw [if_pos h2]
        exact ⟨e, by simp, h2.1, h2.2.1, h2.2.2.symm, rfl⟩
      · rw [if_neg h2]
        cases hs : scan vals es r with
        | none =>
          rw [hs] at ih
          show viol vals (e :: es) = true
          rw [hv, show viol vals es = true from ih, Bool.or_true]
        | some o =>
          rw [hs] at ih
          cases o with
          | none =>
            obtain ⟨i1, i2⟩ := ih
            refine ⟨by rw [hv, decide_eq_false h1, i1]; rfl, fun x hx => ?_⟩
            rcases List.mem_cons.1 hx with rfl | hx
            · intro a b
              cases hb : bat r x.2.1 with
              | true => rfl
              | false => exact absurd ⟨a, hb, b.symm⟩ h2
            · exact i2 x hx
          | some t =>
            obtain ⟨x, hx, h⟩ := ih
            exact ⟨x, List.mem_cons_of_mem _ hx, h⟩
theorem bat_int {r : List Bool} {i : Int} (h0 : 0 ≤ i) (h : i < r.length) : r[i.toNat]? = some (bat r i) := by
  unfold bat
  rw [List.getElem?_eq_getElem (by omega)]; rfl
def Within (es : List Ed) (M : Nat) : Prop := ∀ e ∈ es, 0 ≤ e.1 ∧ e.1 < M ∧ 0 ≤ e.2.1 ∧ e.2.1 < M
theorem close_spec (vals : List Int) (es : List Ed) (M : Nat) (hw : Within es M) : ∀ (n : Nat) (r : List Bool), r.length = M → cnt r < n → match close vals es n r with
    | none => viol vals es = true
    | some q => viol vals es = false ∧ Shut_ vals es q ∧ q.length = M ∧ Le r q ∧ ∀ x, Shut_ vals es x → Le r x → Le q x := by
  intro n
  induction n with
  | zero => intro r _ h; omega
  | succ n ih =>
    intro r hl hc
    have hs := scan_spec vals r es
    rw [close]
    cases h : scan vals es r with
    | none => rw [h] at hs; exact hs
    | some o =>
      rw [h] at hs
      cases o with
      | none => exact ⟨hs.1, hs.2, hl, Le.refl _, fun x _ h => h⟩
      | some t =>
        obtain ⟨e, he, h1, h2, h3, rfl⟩ := hs
        obtain ⟨w1, w2, w3, w4⟩ := hw e he
        have hget := bat_int (r := r) w3 (by omega)
        rw [h2] at hget
        have hcs := cnt_set hget
        have hle : Le r (r.set e.2.1.toNat true) := fun i hi => (bat_set _ _ _).2 (.inr hi)
        have := ih (r.set e.2.1.toNat true) (by rw [List.length_set]; exact hl) (by omega)
        show match close vals es n (r.set e.2.1.toNat true) with
          | none => viol vals es = true
          | some q => viol vals es = false ∧ Shut_ vals es q ∧ q.length = M ∧ Le r q ∧ ∀ x, Shut_ vals es x → Le r x → Le q x
        cases hq : close vals es n (r.set e.2.1.toNat true) with
        | none => rw [hq] at this; exact this
        | some q =>
          rw [hq] at this
          obtain ⟨a, b, c, d, f⟩ := this
          refine ⟨a, b, c, hle.trans d, fun x hx hrx => f x hx fun i hi => ?_⟩
          rcases (bat_set _ _ _).1 hi with ⟨h4, h5⟩ | h4
          · have h6 := hx e he (hrx _ h1) h3
            unfold bat at h6 ⊢
            rw [h4]; exact h6
          · exact hrx i h4

theorem mark_len (vals : List Int) (r : List Bool) (e : Ed) : (mark vals r e).length = r.length := by
  unfold mark; split <;> simp
theorem mark_le (vals : List Int) (r : List Bool) (e : Ed) : Le r (mark vals r e) := by
  unfold mark
  split
  · exact fun i hi => (bat_set _ _ _).2 (.inr hi)
  · exact Le.refl _
theorem mark_least (vals : List Int) (es : List Ed) (r x : List Bool) (e : Ed) (he : e ∈ es) (hx : Shut_ vals es x) (h : Le r x) : Le (mark vals r e) x := by
  unfold mark
  split
  · rename_i hc
    intro i hi
    rcases (bat_set _ _ _).1 hi with ⟨h4, h5⟩ | h4
    · have h6 := hx e he (h _ hc.1) hc.2
      unfold bat at h6 ⊢
      rw [h4]; exact h6
    · exact h i h4
  · exact h
theorem fold_spec (vals : List Int) (es : List Ed) : ∀ (l : List Ed) (r : List Bool), (∀ e ∈ l, e ∈ es) →
    (l.foldl (mark vals) r).length = r.length ∧ Le r (l.foldl (mark vals) r) ∧ (∀ x, Shut_ vals es x → Le r x → Le (l.foldl (mark vals) r) x) ∧ (l.foldl (mark vals) r = r → ∀ e ∈ l, mark vals r e = r) := by
  intro l
  induction l with
  | nil => intro r _; exact ⟨rfl, Le.refl _, fun x _ h => h, fun _ e he => by cases he⟩
  | cons e l ih =>
    intro r hm
    obtain ⟨h1, h2, h3, h4⟩ := ih (mark vals r e) (fun x hx => hm x (List.mem_cons_of_mem _ hx))
    rw [List.foldl_cons]
    refine ⟨by rw [h1, mark_len], (mark_le vals r e).trans h2, fun x hx h => h3 x hx (mark_least vals es r x e (hm e (by simp)) hx h), fun heq => ?_⟩
    have hme : mark vals r e = r := (Le.anti (by rw [mark_len]) (mark_le vals r e) (by rw [heq] at h2; exact h2)).symm
    intro x hx
    rcases List.mem_cons.1 hx with rfl | hx
    · exact hme
    · rw [hme] at heq h4
      exact h4 heq x hx
theorem mark_fix {vals : List Int} {r : List Bool} {e : Ed} (h : mark vals r e = r) (h0 : 0 ≤ e.2.1) (h1 : e.2.1 < r.length) (a : bat r e.1 = true) (b : dadd (at_ vals e.1) e.2.2 = at_ vals e.2.1) : bat r e.2.1 = true := by
  unfold mark at h
  rw [if_pos ⟨a, b⟩] at h
  rw [← h]
  exact (bat_set _ _ _).2 (.inl ⟨rfl, by omega⟩)
theorem rounds_fix (vals : List Int) (es : List Ed) (r : List Bool) (h : pass vals es r = r) : ∀ n, rounds vals es n r = r := by
  intro n
  induction n with
  | zero => rfl
  | succ n ih => rw [rounds, h, ih]
theorem rounds_spec (vals : List Int) (es : List Ed) (M : Nat) (hw : Within es M) : ∀ (n : Nat) (r : List Bool), r.length = M → cnt r < n →
    Shut_ vals es (rounds vals es n r) ∧ (rounds vals es n r).length = M ∧ Le r (rounds vals es n r) ∧ ∀ x, Shut_ vals es x → Le r x → Le (rounds vals es n r) x := by
  intro n
  induction n with
  | zero => intro r _ h; omega
  | succ n ih =>
    intro r hl hc
    obtain ⟨h1, h2, h3, h4⟩ := fold_spec vals es es r (fun _ h => h)
    change (pass vals es r).length = r.length at h1
    change Le r (pass vals es r) at h2
    change pass vals es r = r → _ at h4
    by_cases h : pass vals es r = r
    · rw [rounds_fix vals es r h]
      exact ⟨fun e he => mark_fix (h4 h e he) (hw e he).2.2.1 (by have := (hw e he).2.2.2; omega), hl, Le.refl _, fun x _ h => h⟩
    · have hlt : cnt (pass vals es r) < n := by
        have := Le.count h1.symm h2
        have h5 : cnt (pass vals es r) ≠ cnt r := fun e => h (this.2 e)
        omega
      obtain ⟨a, b, c, d⟩ := ih (pass vals es r) (by rw [h1, hl]) hlt
      rw [rounds]
      exact ⟨a, b, h2.trans c, fun x hx hr => d x hx (h3 x hx hr)⟩
theorem first_len (V s : Int) : (first V s).length = V.toNat := by simp [first]
theorem first_cnt (V s : Int) (h0 : 0 ≤ s) (h1 : s < V) : cnt (first V s) < V.toNat := by
  have h := cnt_set (r := List.replicate V.toNat false) (t := s.toNat) (by rw [List.getElem?_replicate, if_pos (by omega)])
  have h2 : cnt (List.replicate V.toNat false) = V.toNat := by unfold cnt; rw [List.countP_replicate]; simp
  unfold first
  omega
theorem within_of {V : Int} {es : List Ed} (h : checkF V es = 0) : Within es V.toNat := fun e he => by
  obtain ⟨i, hi⟩ := List.getElem?_of_mem he
  have := fits_bounds (ok_all (checkF_zero h).2.2 hi)
  omega
theorem tight_eq (V : Int) (es : List Ed) (s : Int) (vals : List Int) : tightF V es s vals = rtightF V es s vals := by
  unfold tightF rtightF
  by_cases h : checkF V es = 0 ∧ 0 ≤ s ∧ s < V ∧ (vals.length : Int) = V ∧ at_ vals s = 0
  · rw [if_pos h, if_pos h]
    change (match close vals es V.toNat (first V s) with | none => false | some r => lastOk vals r 0) = _
    have hc := first_cnt V s h.2.1 h.2.2.1
    have hw := within_of h.1
    have h1 := close_spec vals es _ hw V.toNat (first V s) (first_len V s) hc
    obtain ⟨a, b, c, d⟩ := rounds_spec vals es _ hw V.toNat (first V s) (first_len V s) hc
    cases hq : close vals es V.toNat (first V s) with
    | none =>
      rw [hq] at h1
      rw [show viol vals es = true from h1]; rfl
    | some q =>
      rw [hq] at h1
      obtain ⟨e1, e2, e3, e4, e5⟩ := h1
      rw [e1, Le.anti (by rw [e3, b]) (e5 _ a c) (d _ e2 e4)]
      rfl
  · rw [if_neg h, if_neg h]
end Go.Proofs.YtgbahnlgblahpaaGreat
