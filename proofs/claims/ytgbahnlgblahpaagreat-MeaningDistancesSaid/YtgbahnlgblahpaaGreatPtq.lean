/- The plain law of PathsOne: going along all edges as often as there are vertices ends in the one row that is tight. -/
import Derived.Test.YtgbahnlgblahpaaGreatPtp
namespace Go.Proofs.YtgbahnlgblahpaaGreat
set_option linter.unusedVariables false
set_option linter.unusedSimpArgs false

def inf : Int := 4611686018427387904
theorem dadd_eq (a b : Int) : dadd a b = min (dist a + dist b) inf := by unfold dadd inf; split <;> omega
theorem dist_mono {a b : Int} (h : a ≤ b) : dist a ≤ dist b := by unfold dist; (repeat' split) <;> omega
theorem dadd_mono {a b : Int} (c : Int) (h : a ≤ b) : dadd a c ≤ dadd b c := by
  have := dist_mono h
  rw [dadd_eq, dadd_eq]; omega
theorem dadd_rng (a b : Int) : 0 ≤ dadd a b ∧ dadd a b ≤ inf := by
  have h1 := dist_bounds a
  have h2 := dist_bounds b
  rw [dadd_eq]; unfold inf; omega
def step (l : List Int) (e : Ed) : List Int := l.set e.2.1.toNat (takeOf (at_ l e.2.1) true (dadd (at_ l e.1) e.2.2)).1
def round (es : List Ed) (l : List Int) : List Int := es.foldl step l
def roundsN (es : List Ed) : Nat → List Int → List Int
  | 0, l => l
  | n + 1, l => roundsN es n (round es l)
def start0 (M : Nat) (s : Int) : List Int := (List.range M).map fun (v : Nat) => startOf (v : Int) s
theorem take_min (a x : Int) (h : 0 ≤ x) : (takeOf a true x).1 = min a x := by
  unfold takeOf
  by_cases h : max x 0 < a
  · rw [if_pos ⟨rfl, h⟩]; dsimp only; omega
  · rw [if_neg (fun g => h g.2)]; dsimp only; omega
theorem step_len (l : List Int) (e : Ed) : (step l e).length = l.length := by unfold step; simp
theorem at_nat (l : List Int) (i : Nat) : at_ l (i : Int) = (l[i]?).getD 0 := by unfold at_; rw [Int.toNat_natCast]
theorem step_at (l : List Int) (e : Ed) (i : Nat) (hi : i < l.length) (he : 0 ≤ e.2.1) : at_ (step l e) (i : Int) = if (i : Int) = e.2.1 then min (at_ l e.2.1) (dadd (at_ l e.1) e.2.2) else at_ l (i : Int) := by
  unfold step
  rw [at_nat, List.getElem?_set]
  by_cases h : e.2.1.toNat = i
  · rw [if_pos h, if_pos (by omega), if_pos (by omega), take_min _ _ (dadd_rng _ _).1]; rfl
  · rw [if_neg h, if_neg (by omega), at_nat]
theorem round_len (es : List Ed) : ∀ l : List Int, (round es l).length = l.length := by
  unfold round
  induction es with
  | nil => intro l; rfl
  | cons e es ih => intro l; rw [List.foldl_cons, ih, step_len]
theorem at_lt {l : List Int} {i : Int} (h : 0 ≤ i) : at_ l i = at_ l (i.toNat : Int) := by rw [show ((i.toNat : Nat) : Int) = i by omega]
theorem ext_at {a b : List Int} (hl : a.length = b.length) (h : ∀ i : Nat, i < a.length → at_ a i = at_ b i) : a = b := by
  apply List.ext_getElem hl
  intro i h1 h2
  have := h i h1
  rw [at_nat, at_nat, List.getElem?_eq_getElem h1, List.getElem?_eq_getElem h2] at this
  exact this

def LeV (M : Nat) (a b : List Int) : Prop := ∀ i : Nat, i < M → at_ a i ≤ at_ b i
structure Feas (es : List Ed) (M : Nat) (s : Int) (F : List Int) : Prop where
  len : F.length = M
  src : at_ F s ≤ 0
  top : ∀ i : Nat, i < M → at_ F i ≤ inf
  edge : ∀ e ∈ es, at_ F e.2.1 ≤ dadd (at_ F e.1) e.2.2
structure Good (M : Nat) (s : Int) (l : List Int) : Prop where
  len : l.length = M
  src : at_ l s = 0
  rng : ∀ i : Nat, i < M → 0 ≤ at_ l i ∧ at_ l i ≤ inf

theorem good_start {es : List Ed} {M : Nat} {s : Int} (hw : Within es M) (hs0 : 0 ≤ s) (hs1 : s < M) : Good M s (start0 M s) := by
  have hat : ∀ i : Nat, i < M → at_ (start0 M s) i = startOf (i : Int) s := fun i hi => by
    rw [at_nat, start0, List.getElem?_map, List.getElem?_range hi]; rfl
  refine ⟨by simp [start0], ?_, fun i hi => ?_⟩
  · rw [at_lt hs0, hat _ (by omega), startOf, if_pos (by omega)]
  · rw [hat i hi, startOf]; unfold inf; split <;> omega
theorem feas_start {es : List Ed} {M : Nat} {s : Int} (hw : Within es M) (hs0 : 0 ≤ s) (hs1 : s < M) {F : List Int} (hF : Feas es M s F) : LeV M F (start0 M s) := fun i hi => by
  rw [at_nat (start0 M s), start0, List.getElem?_map, List.getElem?_range hi]
  show at_ F i ≤ startOf (i : Int) s
  unfold startOf
  split
  · rename_i h; rw [h]; exact hF.src
  · have := hF.top i hi; unfold inf at this; exact this
theorem good_step {es : List Ed} {M : Nat} {s : Int} (hw : Within es M) (hs0 : 0 ≤ s) (hs1 : s < M) {l : List Int} (h : Good M s l) {e : Ed} (he : e ∈ es) : Good M s (step l e) := by
  obtain ⟨w1, w2, w3, w4⟩ := hw e he
  have r1 := dadd_rng (at_ l e.1) e.2.2
  have r2 := h.rng e.2.1.toNat (by omega)
  rw [← at_lt w3] at r2
  refine ⟨by rw [step_len, h.len], ?_, fun i hi => ?_⟩
  · rw [at_lt hs0, step_at l e _ (by rw [h.len]; omega) w3]
    split
    · rename_i hq
      have : at_ l e.2.1 = 0 := by rw [← hq, ← at_lt hs0]; exact h.src
      omega
    · rw [← at_lt hs0]; exact h.src
  · rw [step_at l e i (by rw [h.len]; exact hi) w3]
    split
    · omega
    · exact h.rng i hi
theorem le_step {es : List Ed} {M : Nat} {s : Int} (hw : Within es M) (hs0 : 0 ≤ s) (hs1 : s < M) {l F : List Int} (hl : l.length = M) (hF : Feas es M s F) (h : LeV M F l) {e : Ed} (he : e ∈ es) : LeV M F (step l e) := fun i hi => by
  obtain ⟨w1, w2, w3, w4⟩ := hw e he
  rw [step_at l e i (by omega) w3]
  split
  · rename_i hq
    have h1 := h e.2.1.toNat (by omega)
    have h2 := h e.1.toNat (by omega)
    rw [← at_lt w3, ← at_lt w3] at h1
    rw [← at_lt w1, ← at_lt w1] at h2
    have h3 := hF.edge e he
    have h4 := dadd_mono e.2.2 h2
    rw [hq]; omega
  · exact h i hi
theorem step_le {es : List Ed} {M : Nat} {s : Int} (hw : Within es M) (hs0 : 0 ≤ s) (hs1 : s < M) {l : List Int} (hl : l.length = M) {e : Ed} (he : e ∈ es) : LeV M (step l e) l := fun i hi => by
  obtain ⟨w1, w2, w3, w4⟩ := hw e he
  rw [step_at l e i (by omega) w3]
  split
  · rename_i hq; rw [hq]; omega
  · exact Int.le_refl _
theorem fold_all {es : List Ed} {M : Nat} {s : Int} (hw : Within es M) (hs0 : 0 ≤ s) (hs1 : s < M) {D : List Int} (hD : Feas es M s D) : ∀ (p : List Ed) (l : List Int), (∀ e ∈ p, e ∈ es) → Good M s l → LeV M D l →
    Good M s (p.foldl step l) ∧ LeV M D (p.foldl step l) ∧ LeV M (p.foldl step l) l ∧ (∀ e ∈ p, at_ l e.1 = at_ D e.1 → dadd (at_ D e.1) e.2.2 = at_ D e.2.1 → at_ (p.foldl step l) e.2.1 = at_ D e.2.1) := by
  intro p
  induction p with
  | nil => intro l _ hg hl; exact ⟨hg, hl, fun i _ => Int.le_refl _, fun e he => by cases he⟩
  | cons x p ih =>
    intro l hm hg hl
    have hx := hm x (by simp)
    obtain ⟨i1, i2, i3, i4⟩ := ih (step l x) (fun e he => hm e (List.mem_cons_of_mem _ he)) (good_step hw hs0 hs1 hg hx) (le_step hw hs0 hs1 hg.len hD hl hx)
    have h3 := step_le hw hs0 hs1 hg.len hx
    rw [List.foldl_cons]
    refine ⟨i1, i2, fun i hi => Int.le_trans (i3 i hi) (h3 i hi), fun e he h1 h2 => ?_⟩
    obtain ⟨w1, w2, w3, w4⟩ := hw e (hm e he)
    rcases List.mem_cons.1 he with rfl | he
    · have ha := i2 e.2.1.toNat (by omega)
      have hb := i3 e.2.1.toNat (by omega)
      rw [step_at l e _ (by rw [hg.len]; omega) w3, if_pos (by omega), h1, h2] at hb
      rw [← at_lt w3, ← at_lt w3] at ha
      rw [← at_lt w3] at hb
      omega
    · refine i4 e he ?_ h2
      have ha := le_step hw hs0 hs1 hg.len hD hl hx e.1.toNat (by omega)
      have hb := h3 e.1.toNat (by omega)
      rw [← at_lt w1, ← at_lt w1] at ha hb
      omega
theorem fold_fix {es : List Ed} {M : Nat} {s : Int} (hw : Within es M) (hs0 : 0 ≤ s) (hs1 : s < M) : ∀ (p : List Ed) (l : List Int), (∀ e ∈ p, e ∈ es) → l.length = M → LeV M (p.foldl step l) l ∧ (LeV M l (p.foldl step l) → ∀ e ∈ p, at_ l e.2.1 ≤ dadd (at_ l e.1) e.2.2) := by
  intro p
  induction p with
  | nil => intro l _ _; exact ⟨fun i _ => Int.le_refl _, fun _ e he => by cases he⟩
  | cons x p ih =>
    intro l hm hl
    have hx := hm x (by simp)
    have hl' : (step l x).length = M := by rw [step_len, hl]
    obtain ⟨i1, i2⟩ := ih (step l x) (fun e he => hm e (List.mem_cons_of_mem _ he)) hl'
    have h3 := step_le hw hs0 hs1 hl hx
    rw [List.foldl_cons]
    refine ⟨fun i hi => Int.le_trans (i1 i hi) (h3 i hi), fun heq e he => ?_⟩
    have hsx : step l x = l := ext_at (by rw [hl', hl]) (fun i hi => by
      have a := h3 i (by omega)
      have b := heq i (by omega)
      have c := i1 i (by omega)
      omega)
    rcases List.mem_cons.1 he with rfl | he
    · obtain ⟨w1, w2, w3, w4⟩ := hw e hx
      have := step_at l e e.2.1.toNat (by omega) w3
      rw [hsx, if_pos (by omega), ← at_lt w3] at this
      omega
    · rw [hsx] at i2 heq
      exact i2 heq e he

def sumV (l : List Int) : Nat := (l.map Int.toNat).sum
theorem sum_le : ∀ {a b : List Int}, a.length = b.length → (∀ i : Nat, i < b.length → 0 ≤ at_ a i ∧ at_ a i ≤ at_ b i) → sumV a ≤ sumV b ∧ (sumV a = sumV b → a = b) := by
  intro a
  induction a with
  | nil => intro b hl _; cases b with
    | nil => exact ⟨Nat.le_refl _, fun _ => rfl⟩
    | cons _ _ => cases hl
  | cons x a ih =>
    intro b hl h
    cases b with
    | nil => cases hl
    | cons y b =>
      have h0 := h 0 (by simp)
      rw [at_nat, at_nat] at h0
      simp only [List.getElem?_cons_zero, Option.getD_some] at h0
      obtain ⟨i1, i2⟩ := ih (b := b) (by simpa using hl) (fun i hi => by
        have := h (i + 1) (by simpa using hi)
        rw [at_nat, at_nat] at this ⊢
        simpa using this)
      unfold sumV at i1 i2 ⊢
      rw [List.map_cons, List.map_cons, List.sum_cons, List.sum_cons]
      refine ⟨by omega, fun e => ?_⟩
      rw [i2 (by omega), show x = y by omega]

/-- the greatest row that no edge can lower -/
theorem greatest {es : List Ed} {M : Nat} {s : Int} (hw : Within es M) (hs0 : 0 ≤ s) (hs1 : s < M) : ∀ (k : Nat) (l : List Int), sumV l ≤ k → Good M s l → (∀ F, Feas es M s F → LeV M F l) → ∃ D, Good M s D ∧ Feas es M s D ∧ ∀ F, Feas es M s F → LeV M F D := by
  intro k
  induction k with
  | zero =>
    intro l hk hg hF
    have hgood : ∀ p : List Ed, (∀ e ∈ p, e ∈ es) → ∀ l, Good M s l → Good M s (p.foldl step l) := fun p => by
      induction p with
      | nil => intro _ l h; exact h
      | cons x p ih => intro hm l h; exact ih (fun e he => hm e (List.mem_cons_of_mem _ he)) _ (good_step hw hs0 hs1 h (hm x (by simp)))
    obtain ⟨h1, h2⟩ := fold_fix hw hs0 hs1 es l (fun _ h => h) hg.len
    have hgr := hgood es (fun _ h => h) l hg
    have hsum := sum_le (a := es.foldl step l) (b := l) (by rw [hgr.len, hg.len]) (fun i hi => ⟨(hgr.rng i (by rw [← hg.len]; exact hi)).1, h1 i (by rw [← hg.len]; exact hi)⟩)
    have heq := hsum.2 (by omega)
    refine ⟨l, hg, ⟨hg.len, by rw [hg.src]; exact Int.le_refl _, fun i hi => (hg.rng i hi).2, h2 (by rw [heq]; exact fun i _ => Int.le_refl _)⟩, hF⟩
  | succ k ih =>
    intro l hk hg hF
    have hgood : ∀ p : List Ed, (∀ e ∈ p, e ∈ es) → ∀ l, Good M s l → Good M s (p.foldl step l) := fun p => by
      induction p with
      | nil => intro _ l h; exact h
      | cons x p ih => intro hm l h; exact ih (fun e he => hm e (List.mem_cons_of_mem _ he)) _ (good_step hw hs0 hs1 h (hm x (by simp)))
    have hkeep : ∀ p : List Ed, (∀ e ∈ p, e ∈ es) → ∀ l, Good M s l → (∀ F, Feas es M s F → LeV M F l) → ∀ F, Feas es M s F → LeV M F (p.foldl step l) := fun p => by
      induction p with
      | nil => intro _ l _ h; exact h
      | cons x p ih => intro hm l hg h; exact ih (fun e he => hm e (List.mem_cons_of_mem _ he)) _ (good_step hw hs0 hs1 hg (hm x (by simp))) (fun F hF => le_step hw hs0 hs1 hg.len hF (h F hF) (hm x (by simp)))
    obtain ⟨h1, h2⟩ := fold_fix hw hs0 hs1 es l (fun _ h => h) hg.len
    have hgr := hgood es (fun _ h => h) l hg
    have hsum := sum_le (a := es.foldl step l) (b := l) (by rw [hgr.len, hg.len]) (fun i hi => ⟨(hgr.rng i (by rw [← hg.len]; exact hi)).1, h1 i (by rw [← hg.len]; exact hi)⟩)
    by_cases hlt : sumV (es.foldl step l) = sumV l
    · have heq := hsum.2 hlt
      refine ⟨l, hg, ⟨hg.len, by rw [hg.src]; exact Int.le_refl _, fun i hi => (hg.rng i hi).2, h2 (by rw [heq]; exact fun i _ => Int.le_refl _)⟩, hF⟩
    · exact ih (es.foldl step l) (by omega) hgr (hkeep es (fun _ h => h) l hg hF)
theorem exists_D {es : List Ed} {M : Nat} {s : Int} (hw : Within es M) (hs0 : 0 ≤ s) (hs1 : s < M) : ∃ D, Good M s D ∧ Feas es M s D ∧ ∀ F, Feas es M s F → LeV M F D :=
  greatest hw hs0 hs1 _ _ (Nat.le_refl _) (good_start hw hs0 hs1) (fun F hF => feas_start hw hs0 hs1 hF)
def rowOf (M : Nat) (f : Nat → Int) : List Int := (List.range M).map f
theorem rowOf_at {M : Nat} (f : Nat → Int) {i : Nat} (h : i < M) : at_ (rowOf M f) i = f i := by
  rw [at_nat, rowOf, List.getElem?_map, List.getElem?_range h]; rfl
def rowB (M : Nat) (f : Nat → Bool) : List Bool := (List.range M).map f
theorem rowB_at {M : Nat} (f : Nat → Bool) {i : Int} (h0 : 0 ≤ i) (h : i < M) : bat (rowB M f) i = f i.toNat := by
  unfold bat
  rw [rowB, List.getElem?_map, List.getElem?_range (by omega)]; rfl
theorem rowB_true {M : Nat} (f : Nat → Bool) {i : Int} (h : bat (rowB M f) i = true) : i.toNat < M ∧ f i.toNat = true := by
  unfold bat rowB at h
  by_cases hi : i.toNat < M
  · rw [List.getElem?_map, List.getElem?_range hi] at h
    exact ⟨hi, h⟩
  · rw [List.getElem?_eq_none (by simp; omega)] at h
    cases h
theorem first_bat {es : List Ed} {M : Nat} {s : Int} (hw : Within es M) (hs0 : 0 ≤ s) (hs1 : s < M) (q : List Bool) (hq : q[s.toNat]? = some true) : Le (first (M : Int) s) q := fun i hi => by
  unfold first at hi
  rcases (bat_set _ _ _).1 hi with ⟨h, _⟩ | h
  · unfold bat; rw [h, hq]; rfl
  · unfold bat at h
    rw [List.getElem?_replicate] at h
    split at h <;> cases h
/-- every finite value of the greatest row is reached along tight edges -/
theorem attained {es : List Ed} {M : Nat} {s : Int} (hw : Within es M) (hs0 : 0 ≤ s) (hs1 : s < M) {D : List Int} (hg : Good M s D) (hD : Feas es M s D) (hmax : ∀ F, Feas es M s F → LeV M F D) {r : List Bool} (hr : Shut_ D es r) (hl : r.length = M) (hfirst : Le (first (M : Int) s) r) {i : Nat} (hi : i < M) (hfin : at_ D i < inf) : bat r i = true := by
  cases hb : bat r i with
  | true => rfl
  | false =>
    have hsr : bat r s = true := hfirst s (by unfold first; exact (bat_set _ _ _).2 (.inl ⟨rfl, by simp; omega⟩))
    have hF : Feas es M s (rowOf M fun j => if bat r j = true then at_ D j else min (at_ D j + 1) inf) := by
      refine ⟨by simp [rowOf], ?_, fun j hj => ?_, fun e he => ?_⟩
      · rw [at_lt hs0, rowOf_at _ (by omega), ← at_lt hs0, show ((s.toNat : Nat) : Int) = s by omega, if_pos hsr, hg.src]; exact Int.le_refl _
      · rw [rowOf_at _ hj]
        have := (hg.rng j hj).2
        split <;> omega
      · obtain ⟨w1, w2, w3, w4⟩ := hw e he
        rw [at_lt w3, rowOf_at _ (by omega), at_lt w1, rowOf_at _ (by omega), ← at_lt w3, ← at_lt w1, show ((e.1.toNat : Nat) : Int) = e.1 by omega, show ((e.2.1.toNat : Nat) : Int) = e.2.1 by omega]
        have hE := hD.edge e he
        have r1 := hg.rng e.1.toNat (by omega)
        rw [← at_lt w1] at r1
        have d1 := dist_bounds e.2.2
        have r2 := dadd_rng (at_ D e.1) e.2.2
        have hm : dadd (at_ D e.1) e.2.2 ≤ dadd (min (at_ D e.1 + 1) inf) e.2.2 := dadd_mono _ (by omega)
        cases h1 : bat r e.1 with
        | true =>
          cases h2 : bat r e.2.1 with
          | true =>
            simp only [eq_self_iff_true, if_true]
            exact hE
          | false =>
            simp only [eq_self_iff_true, if_true, Bool.false_eq_true, if_false]
            have hne : ¬ dadd (at_ D e.1) e.2.2 = at_ D e.2.1 := fun h => by
              have := hr e he h1 h
              rw [h2] at this; cases this
            omega
        | false =>
          cases h2 : bat r e.2.1 with
          | true =>
            simp only [eq_self_iff_true, if_true, Bool.false_eq_true, if_false]
            omega
          | false =>
            simp only [Bool.false_eq_true, if_false]
            rw [dadd_eq] at hE hm r2 ⊢
            have e1 : dist (at_ D e.1) = at_ D e.1 := by unfold dist; unfold inf at r1; split <;> (try split) <;> omega
            have e2 : dist (min (at_ D e.1 + 1) inf) = min (at_ D e.1 + 1) inf := by unfold dist inf; unfold inf at r1; split <;> (try split) <;> omega
            rw [e2]
            rw [e1] at hE
            omega
    have := hmax _ hF i hi
    rw [rowOf_at _ hi, hb, if_neg (by simp)] at this
    omega

theorem count_lt {es : List Ed} {M : Nat} {s : Int} (hw : Within es M) (hs0 : 0 ≤ s) (hs1 : s < M) (a b : Nat → Bool) : ∀ n : Nat, (∀ i, i < n → a i = true → b i = true) → ((List.range n).countP a ≤ (List.range n).countP b) ∧ ((∃ i, i < n ∧ b i = true ∧ a i = false) → (List.range n).countP a < (List.range n).countP b) := by
  intro n
  induction n with
  | zero => intro _; exact ⟨Nat.le_refl _, fun ⟨i, h, _⟩ => by omega⟩
  | succ n ih =>
    intro h
    obtain ⟨i1, i2⟩ := ih (fun i hi => h i (by omega))
    rw [List.range_succ, List.countP_append, List.countP_append, List.countP_singleton, List.countP_singleton]
    have hn := h n (by omega)
    constructor
    · cases ha : a n <;> cases hb : b n <;> simp_all <;> omega
    · rintro ⟨i, hi, h1, h2⟩
      by_cases e : i = n
      · subst e
        rw [h1, h2]
        simp only [if_true, Bool.false_eq_true, if_false]
        omega
      · have := i2 ⟨i, by omega, h1, h2⟩
        cases ha : a n <;> cases hb : b n <;> simp_all <;> omega
def unlike (D l : List Int) (i : Nat) : Bool := decide (at_ l i ≠ at_ D i)
theorem round_less {es : List Ed} {M : Nat} {s : Int} (hw : Within es M) (hs0 : 0 ≤ s) (hs1 : s < M) {D l : List Int} (hgD : Good M s D) (hD : Feas es M s D) (hmax : ∀ F, Feas es M s F → LeV M F D) (hg : Good M s l) (hl : LeV M D l) :
    Good M s (round es l) ∧ LeV M D (round es l) ∧ ((List.range M).countP (unlike D (round es l)) < (List.range M).countP (unlike D l) ∨ l = D) := by
  obtain ⟨h1, h2, h3, h4⟩ := fold_all hw hs0 hs1 hD es l (fun _ h => h) hg hl
  refine ⟨h1, h2, ?_⟩
  by_cases hc : ∃ e ∈ es, at_ l e.1 = at_ D e.1 ∧ dadd (at_ D e.1) e.2.2 = at_ D e.2.1 ∧ at_ l e.2.1 ≠ at_ D e.2.1
  · left
    obtain ⟨e, he, g1, g2, g3⟩ := hc
    obtain ⟨w1, w2, w3, w4⟩ := hw e he
    refine (count_lt hw hs0 hs1 _ _ M (fun i hi hu => ?_)).2 ⟨e.2.1.toNat, by omega, ?_, ?_⟩
    · unfold unlike at hu ⊢
      simp only [decide_eq_true_eq] at hu ⊢
      intro e
      have a := h2 i hi
      have b := h3 i hi
      exact hu (Int.le_antisymm (by rw [← e]; exact b) a)
    · unfold unlike
      rw [← at_lt w3, ← at_lt w3]
      exact decide_eq_true g3
    · unfold unlike
      rw [← at_lt w3, ← at_lt w3]
      exact decide_eq_false (fun h => h (h4 e he g1 g2))
  · right
    have hshut : Shut_ D es (rowB M fun i => decide (at_ l i = at_ D i)) := fun e he a b => by
      obtain ⟨w1, w2, w3, w4⟩ := hw e he
      rw [rowB_at _ w1 w2, ← at_lt w1, ← at_lt w1] at a
      rw [rowB_at _ w3 w4, ← at_lt w3, ← at_lt w3]
      refine decide_eq_true ?_
      apply Classical.byContradiction
      intro hn
      exact hc ⟨e, he, by simpa using a, b, hn⟩
    refine ext_at (by rw [hg.len, hgD.len]) (fun i hi => ?_)
    have hi' : i < M := by rw [← hg.len]; exact hi
    by_cases hfin : at_ D i < inf
    · have := attained hw hs0 hs1 hgD hD hmax hshut (by simp [rowB]) (first_bat hw hs0 hs1 _ (by
        rw [rowB, List.getElem?_map, List.getElem?_range (by omega)]
        simp only [Option.map_some]
        rw [← at_lt hs0, ← at_lt hs0, hg.src, hgD.src, decide_eq_true rfl])) hi' hfin
      obtain ⟨_, h⟩ := rowB_true _ this
      simpa using h
    · have a := hl i hi'
      have b := (hg.rng i hi').2
      have c := (hgD.rng i hi').2
      omega
theorem rounds_D {es : List Ed} {M : Nat} {s : Int} (hw : Within es M) (hs0 : 0 ≤ s) (hs1 : s < M) {D : List Int} (hgD : Good M s D) (hD : Feas es M s D) (hmax : ∀ F, Feas es M s F → LeV M F D) : ∀ (n : Nat) (l : List Int), Good M s l → LeV M D l → (List.range M).countP (unlike D l) < n → roundsN es n l = D := by
  have hfix : round es D = D := by
    obtain ⟨h1, h2, _⟩ := round_less hw hs0 hs1 hgD hD hmax hgD (fun i _ => Int.le_refl _)
    have h3 := (fold_fix hw hs0 hs1 es D (fun _ h => h) hgD.len).1
    exact ext_at (by rw [h1.len, hgD.len]) (fun i hi => Int.le_antisymm (h3 i (by rw [← h1.len]; exact hi)) (h2 i (by rw [← h1.len]; exact hi)))
  have hfixn : ∀ n, roundsN es n D = D := fun n => by
    induction n with
    | zero => rfl
    | succ n ih => rw [roundsN, hfix, ih]
  intro n
  induction n with
  | zero => intro l _ _ h; omega
  | succ n ih =>
    intro l hg hl hc
    obtain ⟨h1, h2, h3⟩ := round_less hw hs0 hs1 hgD hD hmax hg hl
    rcases h3 with h3 | rfl
    · rw [roundsN]
      exact ih _ h1 h2 (by omega)
    · exact hfixn _
def relaxedF (V : Int) (es : List Ed) (s : Int) : List Int := roundsN es V.toNat (start0 V.toNat s)
theorem viol_false {vals : List Int} {es : List Ed} : viol vals es = false ↔ ∀ e ∈ es, at_ vals e.2.1 ≤ dadd (at_ vals e.1) e.2.2 := by
  unfold viol
  rw [List.any_eq_false]
  constructor
  · intro h e he
    have := h e he
    simpa using this
  · intro h e he
    have := h e he
    simpa using this
theorem last_all (vals : List Int) (r : List Bool) : lastOk vals r 0 = true ↔ ∀ i : Nat, i < vals.length → lastAt vals r i = true := by
  unfold lastOk
  rw [List.all_eq_true]
  constructor
  · intro h i hi
    have := h i (by simpa using hi)
    rw [Nat.zero_add] at this
    exact this
  · intro h i hi
    rw [Nat.zero_add]
    exact h i (by simpa using hi)
theorem lastAt_iff {vals : List Int} {r : List Bool} {i : Nat} : lastAt vals r i = true ↔ 0 ≤ at_ vals i ∧ at_ vals i ≤ inf ∧ (at_ vals i < inf → bat r i = true) := by
  unfold lastAt inf
  rw [Bool.and_eq_true, Bool.and_eq_true, Bool.or_eq_true, decide_eq_true_eq, decide_eq_true_eq]
  simp only [Bool.not_eq_true', decide_eq_false_iff_not]
  constructor
  · rintro ⟨⟨a, b⟩, c⟩
    exact ⟨a, b, fun h => c.resolve_left (fun g => g h)⟩
  · rintro ⟨a, b, c⟩
    refine ⟨⟨a, b⟩, ?_⟩
    by_cases h : at_ vals i < 4611686018427387904
    · exact .inr (c h)
    · exact .inl h
/-- the relaxed row is tight, and no other row is -/
theorem tight_one (V : Int) (es : List Ed) (s : Int) (hc : checkF V es = 0) (h0 : 0 ≤ s) (h1 : s < V) (X : List Int) : tightF V es s X = true ↔ X = relaxedF V es s := by
  obtain ⟨hV1, hV2, _⟩ := checkF_zero hc
  obtain ⟨M, rfl⟩ := Int.eq_ofNat_of_zero_le (show 0 ≤ V by omega)
  have hw := within_of hc
  rw [Int.toNat_natCast] at hw
  obtain ⟨D, hgD, hD, hmax⟩ := exists_D hw h0 h1
  have hrel : relaxedF (M : Int) es s = D := by
    unfold relaxedF
    rw [Int.toNat_natCast]
    have hs := good_start hw h0 h1
    refine rounds_D hw h0 h1 hgD hD hmax M _ hs (feas_start hw h0 h1 hD) ?_
    have hle : (List.range M).countP (unlike D (start0 M s)) < (List.range M).countP (fun _ => true) := (count_lt hw h0 h1 _ _ M (fun _ _ _ => rfl)).2 ⟨s.toNat, by omega, rfl, by
      unfold unlike
      rw [← at_lt h0, ← at_lt h0, hs.src, hgD.src]; rfl⟩
    rw [List.countP_true, List.length_range] at hle
    exact hle
  rw [hrel, tight_eq]
  unfold rtightF
  have hcnt := first_cnt (M : Int) s h0 h1
  rw [Int.toNat_natCast] at hcnt ⊢
  constructor
  · intro h
    split at h
    · rename_i hcond
      obtain ⟨_, _, _, hlen, hsrc⟩ := hcond
      have hXl : X.length = M := by omega
      rw [Bool.and_eq_true] at h
      obtain ⟨hv, hlast⟩ := h
      have hv' := viol_false.1 (by simpa using hv)
      obtain ⟨a, b, c, d⟩ := rounds_spec X es M hw M (first (M : Int) s) (by rw [first_len, Int.toNat_natCast]) hcnt
      have hla := (last_all X _).1 hlast
      have hFX : Feas es M s X := ⟨hXl, by rw [hsrc]; exact Int.le_refl _, fun i hi => (lastAt_iff.1 (hla i (by omega))).2.1, hv'⟩
      have hXD := hmax X hFX
      refine ext_at (by rw [hXl, hgD.len]) (fun i hi => Int.le_antisymm (hXD i (by omega)) ?_)
      have hq : Shut_ X es (rowB M fun i => decide (at_ D i ≤ at_ X i)) := fun e he ha hb => by
        obtain ⟨w1, w2, w3, w4⟩ := hw e he
        rw [rowB_at _ w1 w2, ← at_lt w1, ← at_lt w1] at ha
        rw [rowB_at _ w3 w4, ← at_lt w3, ← at_lt w3]
        refine decide_eq_true ?_
        have h1 := hD.edge e he
        have h2 := dadd_mono e.2.2 (of_decide_eq_true ha)
        omega
      have hrq := d _ hq (first_bat hw h0 h1 _ (by
        rw [rowB, List.getElem?_map, List.getElem?_range (by omega)]
        simp only [Option.map_some]
        rw [← at_lt h0, ← at_lt h0, hsrc, hgD.src, decide_eq_true (Int.le_refl _)]))
      obtain ⟨l1, l2, l3⟩ := lastAt_iff.1 (hla i hi)
      by_cases hfin : at_ X i < inf
      · have := hrq _ (l3 hfin)
        obtain ⟨_, h⟩ := rowB_true _ this
        simpa using h
      · have := (hgD.rng i (by omega)).2
        omega
    · cases h
  · rintro rfl
    rw [if_pos ⟨hc, h0, h1, by rw [hgD.len], hgD.src⟩, Bool.and_eq_true]
    obtain ⟨a, b, c, d⟩ := rounds_spec X es M hw M (first (M : Int) s) (by rw [first_len, Int.toNat_natCast]) hcnt
    refine ⟨by rw [viol_false.2 hD.edge]; rfl, (last_all _ _).2 fun i hi => lastAt_iff.2 ?_⟩
    have hi' : i < M := by rw [← hgD.len]; exact hi
    exact ⟨(hgD.rng i hi').1, (hgD.rng i hi').2, fun hfin => attained hw h0 h1 hgD hD hmax a b c hi' hfin⟩
end Go.Proofs.YtgbahnlgblahpaaGreat
