/- Distances of the document, plain law: the nearest vertex that is not settled is settled, over and over. -/
import Derived.Test.YtgbahnlgblahpaaGreatMdp
namespace Go.Proofs.YtgbahnlgblahpaaGreat
set_option linter.unusedVariables false
set_option linter.unusedSimpArgs false
theorem bat_put (r : List Bool) (j x : Nat) (hj : j < r.length) : bat (r.set j true) (x : Int) = if x = j then true else bat r (x : Int) := by
  unfold bat
  rw [Int.toNat_natCast, List.getElem?_set]
  by_cases h : j = x
  · subst h; simp [hj]
  · rw [if_neg h, if_neg (fun g => h g.symm)]
structure DR (es : List Ed) (M : Nat) (s : Int) (l : List Int) (r : List Bool) (rest : List Ed) (m : Int) : Prop where
  good : Good M s l
  low : ∀ F, Feas es M s F → LeV M F l
  len : r.length = M
  dn : ∀ u : Nat, u < M → bat r (u : Int) = true → at_ l (u : Int) ≤ m
  nd : ∀ u : Nat, u < M → bat r (u : Int) = false → m ≤ at_ l (u : Int)
  rel : ∀ e ∈ es, bat r e.1 = true → e ∈ rest ∨ at_ l e.2.1 ≤ dadd (at_ l e.1) e.2.2
def Nr (l : List Int) (r : List Bool) (k : Nat) (near : Int) : Prop := (near = -1 ∧ ∀ u : Nat, u < k → bat r (u : Int) = true) ∨ ∃ j : Nat, near = (j : Int) ∧ j < k ∧ bat r (j : Int) = false ∧ ∀ u : Nat, u < k → bat r (u : Int) = false → at_ l (j : Int) ≤ at_ l (u : Int)
def nf (r : List Bool) : Nat := r.countP (fun b => !b)
section
variable {es : List Ed} {M : Nat} {s : Int} {l : List Int} {r : List Bool} {rest : List Ed} {m : Int}
theorem Nr.zero : Nr l r 0 (-1) := .inl ⟨rfl, fun u hu => absurd hu (Nat.not_lt_zero _)⟩
theorem Nr.skip {k : Nat} {near : Int} (h : Nr l r k near) (hk : bat r (k : Int) = true) : Nr l r (k + 1) near := by
  rcases h with ⟨h1, h2⟩ | ⟨j, h1, h2, h3, h4⟩
  · refine .inl ⟨h1, fun u hu => ?_⟩
    by_cases e : u = k
    · subst e; exact hk
    · exact h2 u (by omega)
  · refine .inr ⟨j, h1, by omega, h3, fun u hu hb => ?_⟩
    by_cases e : u = k
    · subst e; rw [hk] at hb; cases hb
    · exact h4 u (by omega) hb
theorem Nr.stay {k j : Nat} (h : Nr l r k (j : Int)) (hk : ¬ at_ l (k : Int) < at_ l (j : Int)) : Nr l r (k + 1) (j : Int) := by
  rcases h with ⟨h1, h2⟩ | ⟨j', h1, h2, h3, h4⟩
  · omega
  · obtain rfl : j = j' := by omega
    refine .inr ⟨j, rfl, by omega, h3, fun u hu hb => ?_⟩
    by_cases e : u = k
    · subst e; omega
    · exact h4 u (by omega) hb
theorem Nr.take {k : Nat} {near : Int} (h : Nr l r k near) (hk : bat r (k : Int) = false) (hn : near < 0 ∨ ∃ j : Nat, near = (j : Int) ∧ at_ l (k : Int) < at_ l (j : Int)) : Nr l r (k + 1) (k : Int) := by
  refine .inr ⟨k, rfl, by omega, hk, fun u hu hb => ?_⟩
  by_cases e : u = k
  · subst e; exact Int.le_refl _
  · rcases h with ⟨h1, h2⟩ | ⟨j', h1, h2, h3, h4⟩
    · rw [h2 u (by omega)] at hb; cases hb
    · rcases hn with h5 | ⟨j, h5, h6⟩
      · omega
      · obtain rfl : j = j' := by omega
        have := h4 u (by omega) hb
        omega
theorem nf_set {j : Nat} (hj : j < r.length) (hb : bat r (j : Int) = false) : nf (r.set j true) + 1 = nf r := by
  have hget : r[j] = false := by unfold bat at hb; rw [Int.toNat_natCast, List.getElem?_eq_getElem hj] at hb; exact hb
  have hpos : 0 < nf r := List.countP_pos_iff.2 ⟨r[j], List.getElem_mem hj, by rw [hget]; rfl⟩
  unfold nf at *
  rw [List.countP_set hj, hget]
  simp only [Bool.not_false, Bool.not_true, if_true]
  rw [if_neg (by decide)]
  omega
theorem nf_all (h : nf r = 0) {u : Nat} (hu : u < r.length) : bat r (u : Int) = true := by
  unfold nf at h
  have := List.countP_eq_zero.1 h r[u] (List.getElem_mem hu)
  unfold bat
  rw [Int.toNat_natCast, List.getElem?_eq_getElem hu]
  simpa using this
theorem nf_some (h : 0 < nf r) : ∃ u : Nat, u < r.length ∧ bat r (u : Int) = false := by
  obtain ⟨b, hb, hf⟩ := List.countP_pos_iff.1 h
  obtain ⟨u, hu, rfl⟩ := List.getElem_of_mem hb
  refine ⟨u, hu, ?_⟩
  unfold bat
  rw [Int.toNat_natCast, List.getElem?_eq_getElem hu]
  simpa using hf
theorem nf_start (M : Nat) : nf (List.replicate M false) = M := by unfold nf; rw [List.countP_replicate]; rfl
theorem bat_rep (M u : Nat) : bat (List.replicate M false) (u : Int) = false := by
  unfold bat
  rw [Int.toNat_natCast, List.getElem?_replicate]
  split <;> rfl
theorem DR.start (hw : Within es M) (h0 : 0 ≤ s) (h1 : s < M) : DR es M s (start0 M s) (List.replicate M false) [] 0 := by
  have hs := good_start hw h0 h1
  refine ⟨hs, fun F hF => feas_start hw h0 h1 hF, by simp, fun u _ h => ?_, fun u hu _ => (hs.rng u hu).1, fun e he h => ?_⟩
  · rw [bat_rep] at h; cases h
  · obtain ⟨w1, _⟩ := hw e he
    rw [show e.1 = ((e.1.toNat : Nat) : Int) by omega, bat_rep] at h; cases h
theorem DR.settle {j : Nat} (hw : Within es M) (h : DR es M s l r [] m) (hn : Nr l r M (j : Int)) : j < M ∧ bat r (j : Int) = false ∧ DR es M s l (r.set j true) (es.filter (fun e => e.1 == (j : Int))) (at_ l (j : Int)) := by
  rcases hn with ⟨h1, _⟩ | ⟨j', h1, h2, h3, h4⟩
  · omega
  · obtain rfl : j = j' := by omega
    have hb : ∀ x : Nat, bat (r.set j true) (x : Int) = if x = j then true else bat r (x : Int) := fun x => bat_put r j x (by rw [h.len]; exact h2)
    refine ⟨h2, h3, h.good, h.low, by rw [List.length_set]; exact h.len, fun u hu hd => ?_, fun u hu hd => ?_, fun e he hd => ?_⟩
    · rw [hb] at hd
      by_cases e : u = j
      · subst e; exact Int.le_refl _
      · rw [if_neg e] at hd
        exact Int.le_trans (h.dn u hu hd) (h.nd j h2 h3)
    · rw [hb] at hd
      by_cases e : u = j
      · rw [if_pos e] at hd; cases hd
      · rw [if_neg e] at hd; exact h4 u hu hd
    · obtain ⟨w1, w2, w3, w4⟩ := hw e he
      by_cases ej : e.1 = (j : Int)
      · exact .inl (List.mem_filter.2 ⟨he, by simp [ej]⟩)
      · rw [show e.1 = ((e.1.toNat : Nat) : Int) by omega, hb, if_neg (by omega), ← show e.1 = ((e.1.toNat : Nat) : Int) by omega] at hd
        exact .inr ((h.rel e he hd).resolve_left (by simp))
theorem DR.relax {e : Ed} (hw : Within es M) (h0 : 0 ≤ s) (h1 : s < M) (h : DR es M s l r (e :: rest) m) (hee : e ∈ es) (hm : at_ l e.1 = m) : DR es M s (step l e) r rest m ∧ (∀ u : Nat, u < M → bat r (u : Int) = true → at_ (step l e) (u : Int) = at_ l (u : Int)) := by
  obtain ⟨w1, w2, w3, w4⟩ := hw e hee
  have hmr : 0 ≤ m ∧ m ≤ inf := by have := h.good.rng e.1.toNat (by omega); rw [← at_lt w1, hm] at this; exact this
  have hdm : m ≤ dadd m e.2.2 := dadd_ge _ hmr.1 hmr.2
  have hst : ∀ i : Nat, i < M → at_ (step l e) (i : Int) = if (i : Int) = e.2.1 then min (at_ l e.2.1) (dadd m e.2.2) else at_ l (i : Int) := fun i hi => by
    rw [step_at l e i (by rw [h.good.len]; exact hi) w3, hm]
  have hkeep : ∀ u : Nat, u < M → bat r (u : Int) = true → at_ (step l e) (u : Int) = at_ l (u : Int) := fun u hu hd => by
    rw [hst u hu]
    split
    · rename_i q
      have := h.dn u hu hd
      rw [← q]; omega
    · rfl
  refine ⟨⟨good_step hw h0 h1 h.good hee, fun F hF => le_step hw h0 h1 h.good.len hF (h.low F hF) hee, h.len, fun u hu hd => by rw [hkeep u hu hd]; exact h.dn u hu hd, fun u hu hd => ?_, fun f hf hd => ?_⟩, hkeep⟩
  · have := h.nd u hu hd
    rw [hst u hu]
    split
    · rename_i q; rw [← q]; omega
    · exact this
  · obtain ⟨q1, q2, q3, q4⟩ := hw f hf
    have e1 : at_ (step l e) f.1 = at_ l f.1 := by rw [at_lt q1, at_lt (l := l) q1]; exact hkeep _ (by omega) (by rw [← show f.1 = ((f.1.toNat : Nat) : Int) by omega]; exact hd)
    have e2 : at_ (step l e) f.2.1 ≤ at_ l f.2.1 := by
      rw [at_lt q3, at_lt (l := l) q3]
      exact step_le hw h0 h1 h.good.len hee _ (by omega)
    rw [e1]
    rcases h.rel f hf hd with h2 | h2
    · rcases List.mem_cons.1 h2 with rfl | h2
      · refine .inr ?_
        rw [hm, at_lt w3, hst _ (by omega), if_pos (by omega)]
        omega
      · exact .inl h2
    · exact .inr (by omega)
theorem DR.finish {V : Int} (hc : checkF V es = 0) (h0 : 0 ≤ s) (h1 : s < V) (hM : V = (M : Int)) (h : DR es M s l r [] m) (hall : nf r = 0) : l = relaxedF V es s := by
  subst hM
  have hw := within_of hc
  rw [Int.toNat_natCast] at hw
  refine fin_relaxed hc h0 h1 (by rw [Int.toNat_natCast]; exact h.good) ?_ (by rw [Int.toNat_natCast]; exact h.low)
  rw [Int.toNat_natCast]
  refine ⟨h.good.len, by rw [h.good.src]; exact Int.le_refl _, fun i hi => (h.good.rng i hi).2, fun e he => ?_⟩
  obtain ⟨w1, w2, w3, w4⟩ := hw e he
  have hd := nf_all hall (u := e.1.toNat) (by rw [h.len]; omega)
  rw [← show e.1 = ((e.1.toNat : Nat) : Int) by omega] at hd
  exact (h.rel e he hd).resolve_left (by simp)
end
end Go.Proofs.YtgbahnlgblahpaaGreat
