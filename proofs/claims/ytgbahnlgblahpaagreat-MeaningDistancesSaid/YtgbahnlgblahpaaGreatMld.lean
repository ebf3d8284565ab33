/- Labels, plain law of the document: all that can be gone to from a vertex, vertex by vertex. -/
import Derived.Test.YtgbahnlgblahpaaGreatMlp
import Derived.Test.YtgbahnlgblahpaaGreatPtq
namespace Go.Proofs.YtgbahnlgblahpaaGreat
set_option linter.unusedVariables false
set_option linter.unusedSimpArgs false

theorem at_set (l : List Int) (k x : Nat) (v : Int) (hk : k < l.length) : at_ (l.set k v) (x : Int) = if x = k then v else at_ l (x : Int) := by
  rw [at_nat, at_nat, List.getElem?_set]
  by_cases h : k = x
  · subst h; simp [hk]
  · rw [if_neg h, if_neg (fun g => h g.symm)]
def negs (l : List Int) : Nat := l.countP (fun x => decide (x < 0))
theorem negs_le (l : List Int) : negs l ≤ l.length := List.countP_le_length
theorem negs_set {l : List Int} {x : Nat} {v : Int} (hx : x < l.length) (hn : at_ l (x : Int) < 0) (hv : 0 ≤ v) : negs (l.set x v) + 1 = negs l := by
  have hget : l[x] < 0 := by rw [at_nat, List.getElem?_eq_getElem hx] at hn; exact hn
  have hpos : 0 < negs l := List.countP_pos_iff.2 ⟨l[x], List.getElem_mem hx, by simpa using hget⟩
  unfold negs at *
  rw [List.countP_set hx]
  simp only [hget, decide_true, if_true]
  rw [if_neg (by simpa using hv)]
  omega
structure DocO (es : List Ed) (n v : Nat) (l : List Int) : Prop where
  len : l.length = n
  val : ∀ x : Nat, x < n → at_ l (x : Int) = -1 ∨ ∃ k : Nat, at_ l (x : Int) = (k : Int) ∧ k < v ∧ k ≤ x ∧ Conn es x k
  old : ∀ x : Nat, x < n → x < v → at_ l (x : Int) ≠ -1
  edge : ∀ e ∈ es, at_ l e.1 = at_ l e.2.1
structure DocI (es : List Ed) (n v : Nat) (l0 l : List Int) (todo : List Nat) : Prop where
  len : l.length = n
  mem : ∀ x ∈ todo, x < n ∧ at_ l0 (x : Int) = -1 ∧ Conn es x v ∧ v ≤ x ∧ at_ l (x : Int) = (v : Int)
  oth : ∀ x : Nat, x < n → x ∉ todo → at_ l (x : Int) = at_ l0 (x : Int)
def Done (todo : List Nat) (y : Nat) (e : Ed) : Prop := (e.1.toNat = y → e.2.1.toNat ∈ todo) ∧ (e.2.1.toNat = y → e.1.toNat ∈ todo)
def Prog (es : List Ed) (todo : List Nat) (i k : Nat) : Prop := (∀ j y, j < i → todo[j]? = some y → ∀ e ∈ es, Done todo y e) ∧ ∀ y, todo[i]? = some y → ∀ e ∈ es.take k, Done todo y e
theorem Done.more {todo : List Nat} {y : Nat} {e : Ed} (h : Done todo y e) (x : Nat) : Done (todo ++ [x]) y e := ⟨fun q => List.mem_append_left _ (h.1 q), fun q => List.mem_append_left _ (h.2 q)⟩
theorem Prog.more {es : List Ed} {todo : List Nat} {i k : Nat} (h : Prog es todo i k) (hi : i < todo.length) (x : Nat) : Prog es (todo ++ [x]) i k := by
  refine ⟨fun j y hj hy e he => (h.1 j y hj ?_ e he).more x, fun y hy e he => (h.2 y ?_ e he).more x⟩
  · rwa [List.getElem?_append_left (by omega)] at hy
  · rwa [List.getElem?_append_left hi] at hy
theorem Prog.first (es : List Ed) (v : Nat) : Prog es [v] 0 0 := ⟨fun j y hj => absurd hj (Nat.not_lt_zero _), fun y _ e he => by simp at he⟩
theorem Prog.step {es : List Ed} {todo : List Nat} {i k y : Nat} {e : Ed} (h : Prog es todo i k) (he : es[k]? = some e) (hy : todo[i]? = some y) (hd : Done todo y e) : Prog es todo i (k + 1) := by
  refine ⟨h.1, fun z hz x hx => ?_⟩
  obtain rfl : y = z := by rw [hy] at hz; injection hz
  rw [List.take_add_one, he] at hx
  rcases List.mem_append.1 hx with hx | hx
  · exact h.2 y hy x hx
  · rw [show x = e by simpa using hx]; exact hd
theorem Prog.next {es : List Ed} {todo : List Nat} {i : Nat} (h : Prog es todo i es.length) : Prog es todo (i + 1) 0 := by
  refine ⟨fun j y hj hy e he => ?_, fun y hy e he => by simp at he⟩
  by_cases hji : j = i
  · subst hji; exact h.2 y hy e (by rw [List.take_length]; exact he)
  · exact h.1 j y (by omega) hy e he
section
variable {es : List Ed} {n v : Nat} {l0 l : List Int} {todo : List Nat}
theorem DocO.zero (hw : Within es n) : DocO es n 0 (List.replicate n (-1)) := by
  have h : ∀ x : Nat, x < n → at_ (List.replicate n (-1)) (x : Int) = -1 := fun x hx => by
    rw [at_nat, List.getElem?_replicate, if_pos hx]; rfl
  refine ⟨by simp, fun x hx => .inl (h x hx), fun x _ hx => absurd hx (Nat.not_lt_zero _), fun e he => ?_⟩
  obtain ⟨h1, h2, h3, h4⟩ := hw e he
  rw [at_lt h1, at_lt h3, h _ (by omega), h _ (by omega)]
theorem DocO.skip (h : DocO es n v l) (hv : ¬ at_ l (v : Int) < 0) : DocO es n (v + 1) l := by
  refine ⟨h.len, fun x hx => (h.val x hx).imp_right (fun ⟨k, h1, h2, h3⟩ => ⟨k, h1, by omega, h3⟩), fun x hx hxv => ?_, h.edge⟩
  by_cases e : x = v
  · subst e; omega
  · exact h.old x hx (by omega)
theorem DocO.neg (h : DocO es n v l0) {x : Nat} (hx : x < n) (hn : at_ l0 (x : Int) < 0) : at_ l0 (x : Int) = -1 ∧ v ≤ x := by
  rcases h.val x hx with h1 | ⟨k, h1, _⟩
  · refine ⟨h1, ?_⟩
    rcases Nat.lt_or_ge x v with h2 | h2
    · exact absurd h1 (h.old x hx h2)
    · exact h2
  · omega
theorem DocI.first (h : DocO es n v l0) (hv : v < n) (hn : at_ l0 (v : Int) < 0) : DocI es n v l0 (l0.set v (v : Int)) [v] := by
  refine ⟨by rw [List.length_set]; exact h.len, fun x hx => ?_, fun x hx hm => ?_⟩
  · obtain rfl : x = v := by simpa using hx
    exact ⟨hv, (h.neg hv hn).1, .refl, Nat.le_refl _, by rw [at_set _ _ _ _ (by rw [h.len]; exact hv), if_pos rfl]⟩
  · rw [at_set _ _ _ _ (by rw [h.len]; exact hv), if_neg (by simpa using hm)]
theorem DocI.push (h0 : DocO es n v l0) (h : DocI es n v l0 l todo) {x : Nat} (hx : x < n) (hn : at_ l (x : Int) < 0) (hc : Conn es x v) : DocI es n v l0 (l.set x (v : Int)) (todo ++ [x]) := by
  have hnm : x ∉ todo := fun hm => by have := (h.mem x hm).2.2.2.2; omega
  have hl := h.oth x hx hnm
  rw [hl] at hn
  have hk := h0.neg hx hn
  have hlx : x < l.length := by rw [h.len]; exact hx
  refine ⟨by rw [List.length_set]; exact h.len, fun y hy => ?_, fun y hy hm => ?_⟩
  · rcases List.mem_append.1 hy with hy | hy
    · obtain ⟨q1, q2, q3, q4, q5⟩ := h.mem y hy
      refine ⟨q1, q2, q3, q4, ?_⟩
      rw [at_set _ _ _ _ hlx]
      split
      · rfl
      · exact q5
    · obtain rfl : y = x := by simpa using hy
      exact ⟨hx, hk.1, hc, hk.2, by rw [at_set _ _ _ _ hlx, if_pos rfl]⟩
  · rw [at_set _ _ _ _ hlx, if_neg (fun e => hm (List.mem_append_right _ (by simp [e])))]
    exact h.oth y hy (fun g => hm (List.mem_append_left _ g))
theorem DocI.have1 (h0 : DocO es n v l0) (h : DocI es n v l0 l todo) (hw : Within es n) {e : Ed} (he : e ∈ es) (ha : e.1.toNat ∈ todo) (hb : ¬ at_ l e.2.1 < 0) : e.2.1.toNat ∈ todo := by
  obtain ⟨w1, w2, w3, w4⟩ := hw e he
  apply Classical.byContradiction
  intro hm
  have h1 := h.oth _ (show e.2.1.toNat < n by omega) hm
  have h2 := (h.mem _ ha).2.1
  have h3 := h0.edge e he
  rw [at_lt w1, at_lt w3, h2] at h3
  rw [← h3, ← at_lt w3] at h1
  omega
theorem DocI.have2 (h0 : DocO es n v l0) (h : DocI es n v l0 l todo) (hw : Within es n) {e : Ed} (he : e ∈ es) (ha : e.2.1.toNat ∈ todo) (hb : ¬ at_ l e.1 < 0) : e.1.toNat ∈ todo := by
  obtain ⟨w1, w2, w3, w4⟩ := hw e he
  apply Classical.byContradiction
  intro hm
  have h1 := h.oth _ (show e.1.toNat < n by omega) hm
  have h2 := (h.mem _ ha).2.1
  have h3 := h0.edge e he
  rw [at_lt w1, at_lt w3, h2] at h3
  rw [h3, ← at_lt w1] at h1
  omega
theorem DocI.finish (h0 : DocO es n v l0) (h : DocI es n v l0 l todo) (hw : Within es n) (hv : v ∈ todo) (hp : Prog es todo todo.length 0) : DocO es n (v + 1) l := by
  have hall : ∀ y ∈ todo, ∀ e ∈ es, Done todo y e := fun y hy e he => by
    obtain ⟨j, hj, rfl⟩ := List.getElem_of_mem hy
    exact hp.1 j _ hj (List.getElem?_eq_getElem hj) e he
  refine ⟨h.len, fun x hx => ?_, fun x hx hxv => ?_, fun e he => ?_⟩
  · by_cases hm : x ∈ todo
    · obtain ⟨_, _, q3, q4, q5⟩ := h.mem x hm
      exact .inr ⟨v, q5, by omega, q4, q3⟩
    · rw [h.oth x hx hm]
      exact (h0.val x hx).imp_right (fun ⟨k, h1, h2, h3⟩ => ⟨k, h1, by omega, h3⟩)
  · by_cases hm : x ∈ todo
    · rw [(h.mem x hm).2.2.2.2]; omega
    · rw [h.oth x hx hm]
      have : x ≠ v := fun e => hm (e ▸ hv)
      exact h0.old x hx (by omega)
  · obtain ⟨w1, w2, w3, w4⟩ := hw e he
    have d := h0.edge e he
    rw [at_lt w1, at_lt w3] at d ⊢
    by_cases hm : e.1.toNat ∈ todo
    · have hm2 := (hall _ hm e he).1 rfl
      rw [(h.mem _ hm).2.2.2.2, (h.mem _ hm2).2.2.2.2]
    · have hm2 : e.2.1.toNat ∉ todo := fun g => hm ((hall _ g e he).2 rfl)
      rw [h.oth _ (by omega) hm, h.oth _ (by omega) hm2, d]
theorem DocO.lab (h : DocO es n n l) (hw : Within es n) : l = (List.range n).map (fun x => ((labF es x : Nat) : Int)) := by
  have hk : ∀ x : Nat, x < n → ∃ k : Nat, at_ l (x : Int) = (k : Int) ∧ k ≤ x ∧ Conn es x k := fun x hx => by
    rcases h.val x hx with h1 | ⟨k, h1, _, h3, h4⟩
    · exact absurd h1 (h.old x hx hx)
    · exact ⟨k, h1, h3, h4⟩
  have hok : LabOk es n (fun x => (at_ l (x : Int)).toNat) := by
    refine ⟨fun e he => ?_, fun x hx => ?_, fun x hx => ?_⟩
    · obtain ⟨w1, w2, w3, w4⟩ := hw e he
      have d := h.edge e he
      rw [at_lt w1, at_lt w3] at d
      simp only [d]
    · obtain ⟨k, h1, h2, _⟩ := hk x hx
      simp only [h1, Int.toNat_natCast]; exact h2
    · obtain ⟨k, h1, _, h3⟩ := hk x hx
      simp only [h1, Int.toNat_natCast]; exact h3
  apply ext_at (by simp [h.len])
  intro x hx
  rw [h.len] at hx
  obtain ⟨k, h1, _⟩ := hk x hx
  rw [at_nat ((List.range n).map _), List.getElem?_map, List.getElem?_range hx]
  have := hok.unique (lab_ok hw) hx
  simp only [h1, Int.toNat_natCast] at this
  rw [h1, this]; rfl
end
end Go.Proofs.YtgbahnlgblahpaaGreat
