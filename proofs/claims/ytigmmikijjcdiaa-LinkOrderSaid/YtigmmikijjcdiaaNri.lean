/- A region that draws its order: what holds of each operation that is done, in whatever order they come. -/
import Derived.Test.YtigmmikijjcdiaaRgl
namespace Go.Proofs.Ytigmmikijjcdiaa
open Go.RowKit
set_option linter.unusedVariables false
def upl (l : Nat → Bool) (i : Nat) : Nat → Bool := fun j => if j = i then true else l j
def upv (u : Nat → Value) (d : Nat) (v : Value) : Nat → Value := fun s => if s = d then v else u s
def actD (a0 : Act) (D : List Nat) (u : Nat → Value) : Act := { a0 with tmps := D.foldl (fun t d => t.setIfInBounds d (u d)) a0.tmps }
theorem foldl_size (u : Nat → Value) : ∀ (D : List Nat) (t : Array Value), (D.foldl (fun t d => t.setIfInBounds d (u d)) t).size = t.size
  | [], t => rfl
  | d :: D, t => by rw [List.foldl_cons, foldl_size u D]; simp
theorem foldl_get (u : Nat → Value) (s : Nat) : ∀ (D : List Nat) (t : Array Value), (D.foldl (fun t d => t.setIfInBounds d (u d)) t)[s]? = if s ∈ D ∧ s < t.size then some (u s) else t[s]?
  | [], t => by simp
  | d :: D, t => by
    rw [List.foldl_cons, foldl_get u s D]
    rw [Array.size_setIfInBounds, Array.getElem?_setIfInBounds]
    by_cases hs : s < t.size
    · by_cases hD : s ∈ D
      · rw [if_pos ⟨hD, hs⟩, if_pos ⟨List.mem_cons_of_mem _ hD, hs⟩]
      · rw [if_neg (fun h => hD h.1)]
        by_cases hd : d = s
        · subst hd
          rw [if_pos rfl, if_pos hs, if_pos ⟨List.mem_cons_self, hs⟩]
        · rw [if_neg hd, if_neg]
          rintro ⟨h, _⟩
          rcases List.mem_cons.1 h with h | h
          · exact hd h.symm
          · exact hD h
    · have h1 : t[s]? = none := Array.getElem?_eq_none (by omega)
      rw [h1]
      by_cases hd : d = s
      · subst hd
        simp [hs]
      · simp [hs, hd]
theorem actD_put {a0 : Act} {D : List Nat} {u : Nat → Value} {d : Nat} {v : Value} (hd : d ∈ D) : (actD a0 D u).put (some d) v = actD a0 D (upv u d v) := by
  have h : (D.foldl (fun t d => t.setIfInBounds d (u d)) a0.tmps).setIfInBounds d v = D.foldl (fun t d' => t.setIfInBounds d' (upv u d v d')) a0.tmps := by
    apply Array.ext_getElem?
    intro s
    rw [Array.getElem?_setIfInBounds, foldl_get, foldl_get, foldl_size]
    by_cases hs : s < a0.tmps.size
    · by_cases hsd : d = s
      · subst hsd
        rw [if_pos rfl, if_pos hs, if_pos ⟨hd, hs⟩]
        unfold upv
        rw [if_pos rfl]
      · rw [if_neg hsd]
        unfold upv
        rw [if_neg (Ne.symm hsd)]
    · have h1 : a0.tmps[s]? = none := Array.getElem?_eq_none (by omega)
      rw [h1]
      by_cases hd' : d = s
      · subst hd'
        simp [hs]
      · simp [hs, hd']
  unfold actD Act.put
  dsimp only
  rw [h]
theorem actD_self (a0 : Act) (D : List Nat) : actD a0 D (fun d => a0.tmps.getD d undef) = a0 := by
  have h : D.foldl (fun t d => t.setIfInBounds d (a0.tmps.getD d undef)) a0.tmps = a0.tmps := by
    apply Array.ext_getElem?
    intro s
    rw [foldl_get (fun d => a0.tmps.getD d undef)]
    split
    · rename_i h
      simp [Array.getD, h.2]
    · rfl
  unfold actD
  rw [h]
theorem count_set : ∀ (l : List Bool) (i : Nat), l[i]? = some false → (l.set i true).count false + 1 = l.count false
  | [], i, h => by simp at h
  | b :: l, 0, h => by
    simp at h
    subst h
    simp
  | b :: l, i + 1, h => by
    have := count_set l i (by simpa using h)
    rw [List.set_cons_succ, List.count_cons, List.count_cons]
    omega
section
variable {P : Program} {ops : Array Oper} {Q : Exit → Act → World → Prop} {md : Region.Mode}
theorem all_listed (hE : ∀ (i : Nat) (o : Oper), ops[i]? = some o → ∀ e ∈ o.after, Region.binds md e = true → e.on < i) {listed : Array Bool} (hs : listed.size = ops.size) (hr : Region.ready md ops listed = []) : ∀ n i, i < n → i < ops.size → listed.getD i false = true
  | 0, i, h, _ => absurd h (by omega)
  | n + 1, i, h, hi => by
    cases hl : listed.getD i false with
    | true => rfl
    | false =>
      exfalso
      have hlt : i < listed.size := by omega
      have hmem : i ∈ Region.ready md ops listed := mem_ready.2 ⟨by simp [Array.getD, hlt] at hl ⊢; exact hl, ops[i], Array.getElem?_eq_getElem hi, fun e he hb => by
        have h1 := hE i _ (Array.getElem?_eq_getElem hi) e he hb
        exact all_listed hE hs hr n e.on (by omega) (by omega)⟩
      rw [hr] at hmem
      cases hmem
theorem wpAny_inv (I : Array Bool → Act → World → Prop) (hE : ∀ (i : Nat) (o : Oper), ops[i]? = some o → ∀ e ∈ o.after, Region.binds md e = true → e.on < i)
    (hstep : ∀ (i : Nat) (o : Oper) (listed : Array Bool) (a : Act) (w : World), ops[i]? = some o → listed.size = ops.size → listed.getD i false = false → (∀ e ∈ o.after, Region.binds md e = true → listed.getD e.on false = true) → I listed a w → wpOp P ops Q i (I (listed.setIfInBounds i true)) a w)
    (hfin : ∀ (listed : Array Bool) (a : Act) (w : World), listed.size = ops.size → (∀ i, i < ops.size → listed.getD i false = true) → I listed a w → Q .normal a w) :
    ∀ (fuel : Nat) (listed : Array Bool) (a : Act) (w : World), listed.size = ops.size → listed.toList.count false ≤ fuel → I listed a w → wpAny P md ops Q fuel listed a w := by
  intro fuel
  induction fuel with
  | zero =>
    intro listed a w hs hc hI
    have hall : ∀ i, i < ops.size → listed.getD i false = true := fun i hi => by
      have hlt : i < listed.size := by omega
      cases hl : listed[i] with
      | true => simp [Array.getD, hlt, hl]
      | false =>
        have h1 : false ∈ listed.toList := by rw [← hl]; exact Array.getElem_mem_toList hlt
        have := List.count_pos_iff.2 h1
        omega
    refine ⟨?_, hfin listed a w hs hall hI⟩
    cases hr : Region.ready md ops listed with
    | nil => rfl
    | cons j r =>
      have hj : j ∈ Region.ready md ops listed := by rw [hr]; exact List.mem_cons_self
      obtain ⟨h1, o, ho, _⟩ := mem_ready.1 hj
      have hjl := (Array.getElem?_eq_some_iff.1 ho).1
      have h2 := hall j hjl
      have hlt : j < listed.size := by omega
      simp [Array.getD, hlt] at h1 h2
      rw [h1] at h2
      cases h2
  | succ fuel ih =>
    intro listed a w hs hc hI
    refine ⟨fun hr => hfin listed a w hs (fun i hi => all_listed hE hs hr (i + 1) i (by omega) hi) hI, fun j hj => ?_⟩
    obtain ⟨h1, o, ho, ha⟩ := mem_ready.1 hj
    have hjl := (Array.getElem?_eq_some_iff.1 ho).1
    have hlt : j < listed.size := by omega
    have h3 : listed[j] = false := by simpa [Array.getD, hlt] using h1
    refine wpOp_mono (fun a' w' h => ih _ a' w' (by rw [Array.size_setIfInBounds]; exact hs) ?_ h) (hstep j o listed a w ho hs (by simp [Array.getD, hlt, h3]) ha hI)
    have := count_set listed.toList j (by rw [List.getElem?_eq_getElem (by simpa using hlt)]; simp [h3])
    rw [Array.toList_setIfInBounds]
    omega
theorem region_inv {id : Nat} {a0 : Act} {w0 : World} (D : List Nat) (C : (Nat → Bool) → (Nat → Value) → World → Prop) (hm : P.follows .mixedOrders = true)
    (hops : (ops.toList.all fun o => o.guard.isNone && (match o.dst with | some d => D.contains d | none => false)) = true) (hE : (ops.toList.zipIdx.all fun p => p.1.after.all fun e => !Region.binds .any e || decide (e.on < p.2)) = true)
    (h0 : C (fun _ => false) (fun d => a0.tmps.getD d undef) w0.drew)
    (hstep : ∀ (i : Nat) (o : Oper) (d : Nat) (l : Nat → Bool) (u : Nat → Value) (w : World), ops[i]? = some o → o.dst = some d → l i = false → (∀ e ∈ o.after, Region.binds .any e = true → l e.on = true) → C l u w → ∀ K : Act → World → Prop, (∀ v w', C (upl l i) (upv u d v) w' → K ((actD a0 D u).put (some d) v) w') → Oper.wp P o (actD a0 D u) w K Q)
    (hfin : ∀ (l : Nat → Bool) (u : Nat → Value) (w : World), (∀ i, i < ops.size → l i = true) → C l u w → Q .normal (actD a0 D u) w) : (Code.region id ops true).wp P Q a0 w0 := by
  have hE' : ∀ (i : Nat) (o : Oper), ops[i]? = some o → ∀ e ∈ o.after, Region.binds .any e = true → e.on < i := fun i o ho e he hb => by
    have hm : (o, i) ∈ ops.toList.zipIdx := List.mem_zipIdx_iff_getElem?.2 (by simpa using ho)
    have h1 := Array.all_eq_true_iff_forall_mem.1 (List.all_eq_true.1 hE _ hm) e he
    rw [hb] at h1
    simpa using h1
  refine wp_region_any hm (wpAny_inv (I := fun listed a w => ∃ u, a = actD a0 D u ∧ C (fun j => listed.getD j false) u w) hE' ?_ ?_ ops.size _ a0 _ (by simp) (by simp) ⟨_, (actD_self a0 D).symm, ?_⟩)
  · rintro i o listed a w ho hs hl hp ⟨u, rfl, hC⟩
    have hO := List.all_eq_true.1 hops o (by rw [Array.mem_toList_iff]; exact Array.mem_of_getElem? ho)
    rw [Bool.and_eq_true] at hO
    have hg : o.guard = none := Option.isNone_iff_eq_none.1 hO.1
    obtain ⟨d, hd⟩ : ∃ d, o.dst = some d := by
      cases hq : o.dst with
      | none => rw [hq] at hO; cases hO.2
      | some d => exact ⟨d, rfl⟩
    have hdD : d ∈ D := by
      have h2 := hO.2
      rw [hd] at h2
      simpa using h2
    have hilt : i < listed.size := by have := (Array.getElem?_eq_some_iff.1 ho).1; omega
    have hw : Region.wanted o (yielded ops (actD a0 D u).tmps) = true := by unfold Region.wanted; rw [hg]
    unfold wpOp
    simp only [ho, hw, if_true]
    refine .inl (hstep i o d _ u w ho hd hl hp hC _ fun v w' hC' => ⟨upv u d v, actD_put hdD, ?_⟩)
    have he : (fun j => (listed.setIfInBounds i true).getD j false) = upl (fun j => listed.getD j false) i := by
      funext j
      unfold upl
      by_cases hj : j = i
      · subst hj
        simp [Array.getD, hilt]
      · rw [if_neg hj]
        simp only [Array.getD_eq_getD_getElem?, Array.getElem?_setIfInBounds, if_neg (Ne.symm hj)]
    rw [he]
    exact hC'
  · rintro listed a w hs hall ⟨u, rfl, hC⟩
    exact hfin _ u w hall hC
  · have he : (fun j => (Array.replicate ops.size false).getD j false) = fun _ => false := by
      funext j
      simp only [Array.getD_eq_getD_getElem?, Array.getElem?_replicate]
      split <;> rfl
    rw [he]
    exact h0
end
end Go.Proofs.Ytigmmikijjcdiaa
