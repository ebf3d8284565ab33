/- Distances, plain law: the nearest spot first; each vertex is settled once; what is left is the one row of least sums. -/
import Derived.Test.YtgbahnlgblahpaaGreatMhp
namespace Go.Proofs.YtgbahnlgblahpaaGreat
set_option linter.unusedVariables false
set_option linter.unusedSimpArgs false
theorem dadd_ge {a : Int} (b : Int) (h0 : 0 ≤ a) (h1 : a ≤ inf) : a ≤ dadd a b := by
  have hb := (dist_bounds b).1
  have ha : dist a = a := by unfold dist; unfold inf at h1; rw [if_neg (by omega), if_neg (by omega)]
  rw [dadd_eq, ha]; omega
theorem dadd_inf (b : Int) : dadd inf b = inf := by
  have h := dadd_ge b (show 0 ≤ inf by unfold inf; omega) (Int.le_refl _)
  have h2 := (dadd_rng inf b).2
  omega
/-- the row of least sums is the only one -/
theorem fin_relaxed {es : List Ed} {V s : Int} {l : List Int} (hc : checkF V es = 0) (h0 : 0 ≤ s) (h1 : s < V) (hg : Good V.toNat s l) (hF : Feas es V.toNat s l) (hlow : ∀ F, Feas es V.toNat s F → LeV V.toNat F l) : l = relaxedF V es s := by
  obtain ⟨hV1, hV2, _⟩ := checkF_zero hc
  obtain ⟨M, rfl⟩ := Int.eq_ofNat_of_zero_le (show 0 ≤ V by omega)
  have hw := within_of hc
  rw [Int.toNat_natCast] at hw hg hF hlow
  obtain ⟨D, hgD, hD, hmax⟩ := exists_D hw h0 h1
  have hrel : relaxedF (M : Int) es s = D := by
    unfold relaxedF
    rw [Int.toNat_natCast]
    have hs := good_start hw h0 h1
    refine rounds_D hw h0 h1 hgD hD hmax M _ hs (feas_start hw h0 h1 hD) ?_
    have hle : (List.range M).countP (unlike D (start0 M s)) < (List.range M).countP (fun _ => true) := (count_lt hw h0 h1 _ _ M (fun _ _ _ => rfl)).2 ⟨s.toNat, by omega, rfl, by
      unfold unlike
      rw [← at_lt h0, ← at_lt h0, hs.src, hgD.src]; rfl⟩
    rw [List.countP_true, List.length_range] at hle
    exact hle
  rw [hrel]
  refine ext_at (by rw [hg.len, hgD.len]) (fun i hi => ?_)
  have hi' : i < M := by rw [← hg.len]; exact hi
  exact Int.le_antisymm (hmax l hF i hi') (hlow D hD i hi')
theorem step_lt {l : List Int} {e : Ed} (h : dadd (at_ l e.1) e.2.2 < at_ l e.2.1) : step l e = l.set e.2.1.toNat (dadd (at_ l e.1) e.2.2) := by
  unfold step
  rw [take_min _ _ (dadd_rng _ _).1, show min (at_ l e.2.1) (dadd (at_ l e.1) e.2.2) = dadd (at_ l e.1) e.2.2 by omega]
structure DI (es : List Ed) (M : Nat) (s : Int) (l : List Int) (h : List Sp) (S : Nat → Bool) (rest : List Ed) (m : Int) : Prop where
  good : Good M s l
  low : ∀ F, Feas es M s F → LeV M F l
  heap : HeapO h
  nod : h.Nodup
  spot : ∀ x ∈ h, ∃ v : Nat, x.1 = (v : Int) ∧ v < M ∧ at_ l (v : Int) ≤ x.2 ∧ x.2 ≤ inf ∧ (S v = true → at_ l (v : Int) < x.2)
  ord : ∀ x ∈ h, m ≤ x.2
  set_ : ∀ v, v < M → S v = true → at_ l (v : Int) ≤ m
  reach : ∀ v, v < M → S v = false → at_ l (v : Int) < inf → ((v : Int), at_ l (v : Int)) ∈ h
  done : ∀ e ∈ es, S e.1.toNat = true → e ∈ rest ∨ at_ l e.2.1 ≤ dadd (at_ l e.1) e.2.2
  cnt : h.length + es.countP (fun e => !S e.1.toNat) + rest.length ≤ 1 + es.length
section
variable {es : List Ed} {M : Nat} {s : Int} {l : List Int} {h h' : List Sp} {S : Nat → Bool} {rest : List Ed} {m : Int}
theorem DI.start (hw : Within es M) (h0 : 0 ≤ s) (h1 : s < M) : DI es M s (start0 M s) [(s, 0)] (fun _ => false) [] 0 := by
  have hs := good_start hw h0 h1
  refine ⟨hs, fun F hF => feas_start hw h0 h1 hF, fun k hk hkl => ?_, by simp, fun x hx => ?_, fun x hx => ?_, fun v _ h => (by cases h), fun v hv _ hlt => ?_, fun e _ h => (by cases h), ?_⟩
  · simp at hkl; omega
  · obtain rfl : x = (s, 0) := by simpa using hx
    refine ⟨s.toNat, by simp; omega, by omega, ?_, by show (0 : Int) ≤ inf; unfold inf; omega, fun h => (by cases h)⟩
    rw [← at_lt h0, hs.src]; exact Int.le_refl _
  · obtain rfl : x = (s, 0) := by simpa using hx
    exact Int.le_refl _
  · rw [at_nat, start0, List.getElem?_map, List.getElem?_range hv] at hlt ⊢
    have hlt' : startOf (v : Int) s < inf := hlt
    show ((v : Int), startOf (v : Int) s) ∈ [(s, (0 : Int))]
    unfold startOf at hlt' ⊢
    by_cases hvs : (v : Int) = s
    · rw [if_pos hvs, hvs]; simp
    · rw [if_neg hvs] at hlt'; unfold inf at hlt'; omega
  · simp only [Bool.not_false, List.countP_true, List.length_singleton, List.length_nil]; omega
/-- the spot at the root is taken, but its vertex has come nearer since -/
theorem DI.skip {x : Sp} (hd : DI es M s l h S [] m) (hp : (h' ++ [x]).Perm h) (hH : HeapO h') (hv : at_ l x.1 < x.2) : DI es M s l h' S [] m := by
  have hsub : ∀ y, y ∈ h' → y ∈ h := fun y hy => hp.mem_iff.1 (List.mem_append_left _ hy)
  have hnd : (h' ++ [x]).Nodup := hp.nodup_iff.2 hd.nod
  refine ⟨hd.good, hd.low, hH, (List.nodup_append.1 hnd).1, fun y hy => hd.spot y (hsub y hy), fun y hy => hd.ord y (hsub y hy), hd.set_, fun v hvM hS hlt => ?_, hd.done, ?_⟩
  · rcases List.mem_append.1 (hp.mem_iff.2 (hd.reach v hvM hS hlt)) with h1 | h1
    · exact h1
    · have e : ((v : Int), at_ l (v : Int)) = x := by simpa using h1
      rw [← e] at hv
      exact absurd hv (Int.lt_irrefl _)
  · have := hd.cnt
    have hl := hp.length_eq
    simp at hl
    omega
theorem count_settle (es : List Ed) (S : Nat → Bool) (v : Nat) (hw : Within es M) (hS : S v = false) :
    es.countP (fun e => !(if e.1.toNat = v then true else S e.1.toNat)) + (es.filter (fun e => e.1 == (v : Int))).length = es.countP (fun e => !S e.1.toNat) := by
  rw [← List.countP_eq_length_filter]
  induction es with
  | nil => rfl
  | cons e es ih =>
    have ih := ih (fun e he => hw e (List.mem_cons_of_mem _ he))
    obtain ⟨w1, _⟩ := hw e (by simp)
    rw [List.countP_cons, List.countP_cons, List.countP_cons]
    by_cases h : e.1.toNat = v
    · have h2 : e.1 = (v : Int) := by omega
      have h3 : (e.1 == (v : Int)) = true := by simp [h2]
      rw [if_pos h, h3, h, hS]
      simp only [Bool.not_true, Bool.not_false, if_true]
      rw [if_neg (by decide)]
      omega
    · have h3 : (e.1 == (v : Int)) = false := by simp; omega
      rw [if_neg h, h3]
      simp only [if_neg (show ¬ (false = true) by decide)]
      omega
/-- the spot at the root is taken: its vertex is settled -/
theorem DI.settle {x : Sp} {v : Nat} (hw : Within es M) (hd : DI es M s l h S [] m) (hx0 : h[0]? = some x) (hp : (h' ++ [x]).Perm h) (hH : HeapO h') (hxv : x.1 = (v : Int)) (hv : ¬ at_ l x.1 < x.2) :
    v < M ∧ at_ l (v : Int) = x.2 ∧ S v = false ∧ DI es M s l h' (fun u => if u = v then true else S u) (es.filter (fun e => e.1 == (v : Int))) x.2 := by
  have hxh : x ∈ h := List.mem_of_getElem? hx0
  obtain ⟨v', e1, hvM, hle, hinf, hSx⟩ := hd.spot x hxh
  obtain rfl : v' = v := by omega
  rw [hxv] at hv
  have heq : at_ l (v' : Int) = x.2 := by omega
  have hSv : S v' = false := by
    cases h9 : S v' with
    | false => rfl
    | true => have := hSx h9; omega
  have hsub : ∀ y, y ∈ h' → y ∈ h := fun y hy => hp.mem_iff.1 (List.mem_append_left _ hy)
  have hnd : (h' ++ [x]).Nodup := hp.nodup_iff.2 hd.nod
  have hxn : x ∉ h' := fun hx => (List.nodup_append.1 hnd).2.2 x hx x (by simp) rfl
  have hmin : ∀ y ∈ h, x.2 ≤ y.2 := fun y hy => by
    obtain ⟨k, hk, rfl⟩ := List.getElem_of_mem hy
    have := heap_min hd.heap k hk
    rw [key_get hx0, key_get (List.getElem?_eq_getElem hk)] at this
    exact this
  refine ⟨hvM, heq, hSv, hd.good, hd.low, hH, (List.nodup_append.1 hnd).1, fun y hy => ?_, fun y hy => hmin y (hsub y hy), fun u hu hS => ?_, fun u hu hS hlt => ?_, fun e he hS => ?_, ?_⟩
  · obtain ⟨u, f1, f2, f3, f4, f5⟩ := hd.spot y (hsub y hy)
    refine ⟨u, f1, f2, f3, f4, fun hS => ?_⟩
    by_cases hu : u = v'
    · subst hu
      rcases Int.lt_or_eq_of_le f3 with h1 | h1
      · exact h1
      · exact absurd (show y = x from Prod.ext (f1.trans hxv.symm) (by omega)) (fun e => hxn (e ▸ hy))
    · rw [if_neg hu] at hS; exact f5 hS
  · by_cases huv : u = v'
    · subst huv; omega
    · rw [if_neg huv] at hS
      exact Int.le_trans (hd.set_ u hu hS) (hd.ord x hxh)
  · by_cases huv : u = v'
    · subst huv; simp at hS
    · rw [if_neg huv] at hS
      rcases List.mem_append.1 (hp.mem_iff.2 (hd.reach u hu hS hlt)) with h1 | h1
      · exact h1
      · have e : ((u : Int), at_ l (u : Int)) = x := by simpa using h1
        rw [← e] at hxv
        have : (u : Int) = (v' : Int) := hxv
        omega
  · obtain ⟨w1, _⟩ := hw e he
    by_cases huv : e.1.toNat = v'
    · exact .inl (List.mem_filter.2 ⟨he, by simp; omega⟩)
    · rw [if_neg huv] at hS
      exact .inr ((hd.done e he hS).resolve_left (by simp))
  · have h1 := hd.cnt
    have h2 := count_settle es S v' hw hSv
    have hl := hp.length_eq
    simp only [List.length_append, List.length_singleton] at hl
    simp only [List.length_nil] at h1
    omega
/-- an edge of the settled vertex that brings nothing -/
theorem DI.pass {e : Ed} (hd : DI es M s l h S (e :: rest) m) (hge : ¬ dadd (at_ l e.1) e.2.2 < at_ l e.2.1) : DI es M s l h S rest m := by
  refine ⟨hd.good, hd.low, hd.heap, hd.nod, hd.spot, hd.ord, hd.set_, hd.reach, fun f hf hS => ?_, ?_⟩
  · rcases hd.done f hf hS with h1 | h1
    · rcases List.mem_cons.1 h1 with rfl | h1
      · exact .inr (by omega)
      · exact .inl h1
    · exact .inr h1
  · have := hd.cnt
    simp only [List.length_cons] at this
    omega
/-- an edge of the settled vertex that brings its end nearer -/
theorem DI.near {e : Ed} {t : Nat} {d : Int} (hw : Within es M) (h0 : 0 ≤ s) (h1 : s < M) (hd : DI es M s l h S (e :: rest) m) (hee : e ∈ es) (hm : at_ l e.1 = m) (ht : e.2.1 = (t : Int)) (hdd : dadd m e.2.2 = d) (hlt : d < at_ l (t : Int))
    (hp : h'.Perm (h ++ [((t : Int), d)])) (hH : HeapO h') : DI es M s (l.set t d) h' S rest m ∧ (∀ v : Nat, v < M → S v = true → at_ (l.set t d) (v : Int) = at_ l (v : Int)) := by
  obtain ⟨w1, w2, w3, w4⟩ := hw e hee
  have htM : t < M := by omega
  have hst : step l e = l.set t d := by rw [step_lt (by rw [hm, hdd, ht]; exact hlt), hm, hdd, ht, Int.toNat_natCast]
  have hat : ∀ u : Nat, at_ (l.set t d) (u : Int) = if u = t then d else at_ l (u : Int) := fun u => at_set l t u d (by rw [hd.good.len]; exact htM)
  have hle : ∀ u : Nat, at_ (l.set t d) (u : Int) ≤ at_ l (u : Int) := fun u => by rw [hat]; split <;> (try subst_vars) <;> omega
  have hmr : 0 ≤ m ∧ m ≤ inf := by have := hd.good.rng e.1.toNat (by omega); rw [← at_lt w1, hm] at this; exact this
  have hdm : m ≤ d := by rw [← hdd]; exact dadd_ge _ hmr.1 hmr.2
  have hdi : d ≤ inf := by rw [← hdd]; exact (dadd_rng _ _).2
  have hSt : S t = false := by
    cases h9 : S t with
    | false => rfl
    | true => have := hd.set_ t htM h9; omega
  have hkeep : ∀ v : Nat, v < M → S v = true → at_ (l.set t d) (v : Int) = at_ l (v : Int) := fun v hv hS => by
    rw [hat, if_neg (fun e => by subst e; rw [hSt] at hS; cases hS)]
  refine ⟨⟨hst ▸ good_step hw h0 h1 hd.good hee, fun F hF => hst ▸ le_step hw h0 h1 hd.good.len hF (hd.low F hF) hee, hH, ?_, fun y hy => ?_, fun y hy => ?_, fun v hv hS => ?_, fun v hv hS hl => ?_, fun f hf hS => ?_, ?_⟩, hkeep⟩
  · refine hp.nodup_iff.2 (List.nodup_append.2 ⟨hd.nod, by simp, fun a ha b hb => ?_⟩)
    obtain rfl : b = ((t : Int), d) := by simpa using hb
    rintro rfl
    obtain ⟨u, f1, f2, f3, _⟩ := hd.spot _ ha
    have f1 : (t : Int) = (u : Int) := f1
    have f3 : at_ l (u : Int) ≤ d := f3
    rw [← f1] at f3
    omega
  · rcases List.mem_append.1 (hp.mem_iff.1 hy) with hy | hy
    · obtain ⟨u, f1, f2, f3, f4, f5⟩ := hd.spot y hy
      have := hle u
      exact ⟨u, f1, f2, by omega, f4, fun hS => by have := f5 hS; omega⟩
    · obtain rfl : y = ((t : Int), d) := by simpa using hy
      refine ⟨t, rfl, htM, by rw [hat, if_pos rfl]; exact Int.le_refl _, hdi, fun hS => by rw [hSt] at hS; cases hS⟩
  · rcases List.mem_append.1 (hp.mem_iff.1 hy) with hy | hy
    · exact hd.ord y hy
    · obtain rfl : y = ((t : Int), d) := by simpa using hy
      exact hdm
  · rw [hkeep v hv hS]; exact hd.set_ v hv hS
  · refine hp.mem_iff.2 (List.mem_append.2 ?_)
    rw [hat] at hl ⊢
    by_cases hvt : v = t
    · subst hvt; rw [if_pos rfl]; exact .inr (by simp)
    · rw [if_neg hvt] at hl ⊢; exact .inl (hd.reach v hv hS hl)
  · obtain ⟨q1, q2, q3, q4⟩ := hw f hf
    have e1 : at_ (l.set t d) f.1 = at_ l f.1 := by rw [at_lt q1, at_lt (l := l) q1]; exact hkeep _ (by omega) hS
    have e2 : at_ (l.set t d) f.2.1 ≤ at_ l f.2.1 := by rw [at_lt q3, at_lt (l := l) q3]; exact hle _
    rw [e1]
    rcases hd.done f hf hS with h2 | h2
    · rcases List.mem_cons.1 h2 with rfl | h2
      · refine .inr ?_
        rw [hm, hdd, ht, hat, if_pos rfl]; exact Int.le_refl _
      · exact .inl h2
    · exact .inr (by omega)
  · have h2 := hd.cnt
    have h3 := hp.length_eq
    simp only [List.length_append, List.length_cons, List.length_nil] at h2 h3
    omega
theorem DI.finish {V : Int} (hc : checkF V es = 0) (h0 : 0 ≤ s) (h1 : s < V) (hM : V = (M : Int)) (hd : DI es M s l [] S [] m) : l = relaxedF V es s := by
  subst hM
  have hw := within_of hc
  rw [Int.toNat_natCast] at hw
  refine fin_relaxed hc h0 h1 (by rw [Int.toNat_natCast]; exact hd.good) ?_ (by rw [Int.toNat_natCast]; exact hd.low)
  rw [Int.toNat_natCast]
  refine ⟨hd.good.len, by rw [hd.good.src]; exact Int.le_refl _, fun i hi => (hd.good.rng i hi).2, fun e he => ?_⟩
  obtain ⟨w1, w2, w3, w4⟩ := hw e he
  cases hS : S e.1.toNat with
  | true => exact (hd.done e he hS).resolve_left (by simp)
  | false =>
    have hr := hd.good.rng e.1.toNat (by omega)
    have hr2 := hd.good.rng e.2.1.toNat (by omega)
    have : ¬ at_ l (e.1.toNat : Int) < inf := fun hl => by have := hd.reach e.1.toNat (by omega) hS hl; simp at this
    rw [at_lt w1, at_lt w3, show at_ l (e.1.toNat : Int) = inf by omega, dadd_inf]
    exact hr2.2
end
end Go.Proofs.YtgbahnlgblahpaaGreat
