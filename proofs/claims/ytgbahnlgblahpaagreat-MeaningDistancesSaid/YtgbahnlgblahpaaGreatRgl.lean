/- A region that draws its order and writes: S need not hold behind the operations that are told (stores), if what reads waits for none of them and they wait for it. -/
import Derived.Test.YtgbahnlgblahpaaGreatReg
namespace Go.Proofs.YtgbahnlgblahpaaGreat
open Go.RowKit
set_option linter.unusedVariables false

/-- does number j wait for number i? -/
def waitsFor (md : Region.Mode) (ops : Array Oper) (j i : Nat) : Bool := match ops[j]? with
  | none => false
  | some o => o.after.toList.any fun e => Region.binds md e && e.on == i
/-- does each that is exempt, but for i itself, wait for i? -/
def exWait (md : Region.Mode) (ops : Array Oper) (ex : List Nat) (i : Nat) : Bool := ex.all fun j => j == i || waitsFor md ops j i
section
variable {P : Program} {ops : Array Oper} {Q : Exit → Act → World → Prop} {md : Region.Mode} {S : World → Prop} {ex : List Nat}
def wpAnyL (P : Program) (md : Region.Mode) (ops : Array Oper) (Q : Exit → Act → World → Prop) (S : World → Prop) (ex : List Nat) : Nat → Array Bool → Act → World → Prop
  | 0, listed, a, w => Region.ready md ops listed = [] ∧ Q .normal a w
  | fuel + 1, listed, a, w => (Region.ready md ops listed = [] → Q .normal a w) ∧
      ∀ i ∈ Region.ready md ops listed, wpOp P ops Q i (fun a' w' => (ex.contains i = false → S w → S w') ∧ wpAnyL P md ops Q S ex fuel (listed.setIfInBounds i true) a' w') a w
theorem wpAny_of_L : ∀ (fuel : Nat) (listed : Array Bool) (a : Act) (w : World), wpAnyL P md ops Q S ex fuel listed a w → wpAny P md ops Q fuel listed a w
  | 0, _, _, _, h => h
  | fuel + 1, _, _, _, h => ⟨h.1, fun i hi => wpOp_mono (fun a' w' h' => wpAny_of_L fuel _ a' w' h'.2) (h.2 i hi)⟩
/-- what yields in every world that meets T may be taken first, if what may come ahead of it keeps T -/
theorem wpAnyL_first {T : World → Prop} {i : Nat} {oi : Oper} {v : Value} (hi : ops[i]? = some oi) (hsel : ∀ (j : Nat) (o : Oper) cs b, ops[j]? = some o → o.op ≠ .select cs b)
    (hQ : ∀ c a w, Q (.panic c) (a.put oi.dst v) w → Q (.panic c) a w)
    (hT : ∀ j oj, ops[j]? = some oj → j ≠ i → (∀ e ∈ oj.after, Region.binds md e = true → e.on ≠ i) → ∀ w w', (ex.contains j = false → S w → S w') → T w → T w') (fuel : Nat) : ∀ (listed : Array Bool) (a : Act) (w : World),
      (∀ j oj, ops[j]? = some oj → j ≠ i → listed.getD j true = false → (∀ e ∈ oj.after, Region.binds md e = true → e.on ≠ i) → oi.apart ops oj = true) →
      i ∈ Region.ready md ops listed → YieldsIf P ops T oi v a → T w →
      wpAnyL P md ops Q S ex fuel (listed.setIfInBounds i true) (a.put oi.dst v) w → wpAnyL P md ops Q S ex (fuel + 1) listed a w := by
  induction fuel with
  | zero =>
    intro listed a w _ hr hy hS hrest
    refine ⟨fun h => absurd hr (by rw [h]; simp), fun j hj => ?_⟩
    rcases Classical.em (j = i) with rfl | hne
    · exact hy.wpOp hi hS ⟨fun _ h => h, hrest⟩
    · have hstill := ready_mono hj hne
      rw [hrest.1] at hstill
      exact absurd hstill (by simp)
  | succ fuel ih =>
    intro listed a w hfree hr hy hS hrest
    refine ⟨fun h => absurd hr (by rw [h]; simp), fun j hj => ?_⟩
    rcases Classical.em (j = i) with rfl | hne
    · exact hy.wpOp hi hS ⟨fun _ h => h, hrest⟩
    obtain ⟨hun, oj, hoj, hafter⟩ := mem_ready.1 hj
    have hiu := (mem_ready.1 hr).1
    have hno : ∀ e ∈ oj.after, Region.binds md e = true → e.on ≠ i := by
      intro e he hb heq
      have hl := hafter e he hb
      rw [heq] at hl
      rcases Nat.lt_or_ge i listed.size with hs | hs
      · simp [hs] at hl hiu
        rw [hiu] at hl
        cases hl
      · simp [Array.getElem?_eq_none hs] at hl
    have hput := wpOp_putIf hoj (hfree j oj hoj hne hun hno) (fun cs b => hsel i oi cs b hi) (fun cs b => hsel j oj cs b hoj) hQ hy (hrest.2 j (ready_mono hj hne))
    refine wpOp_mono (fun a' w' hk => ?_) hput
    have hS' : T w' := hT j oj hoj hne hno w w' hk.2.1 hS
    refine ⟨hk.2.1, ih _ a' w' ?_ (ready_mono hr (Ne.symm hne)) hk.1 hS' ?_⟩
    · intro k ok hok hki hku hkn
      refine hfree k ok hok hki ?_ hkn
      rcases Classical.em (j = k) with rfl | hjk
      · exact hun
      · rwa [getD_set_ne true hjk] at hku
    · rw [Array.setIfInBounds_comm _ _ hne]
      exact hk.2.2
theorem keeps_S {i : Nat} (h : exWait md ops ex i = true) : ∀ j oj, ops[j]? = some oj → j ≠ i → (∀ e ∈ oj.after, Region.binds md e = true → e.on ≠ i) → ∀ w w', (ex.contains j = false → S w → S w') → S w → S w' := by
  intro j oj hoj hne hno w w' hk hS
  refine hk ?_ hS
  cases hc : ex.contains j with
  | false => rfl
  | true =>
    have := List.all_eq_true.1 h j (by simpa using hc)
    rw [Bool.or_eq_true] at this
    rcases this with h1 | h1
    · exact absurd (by simpa using h1) hne
    · unfold waitsFor at h1
      rw [hoj] at h1
      obtain ⟨e, he, h2⟩ := List.any_eq_true.1 h1
      rw [Bool.and_eq_true] at h2
      exact absurd (by simpa using h2.2) (hno e (by simpa using he) h2.1)
theorem wpAnyL_done {listed : Array Bool} {a : Act} {w : World} (hr : Region.ready md ops listed = []) (h : Q .normal a w) : ∀ fuel, wpAnyL P md ops Q S ex fuel listed a w
  | 0 => ⟨hr, h⟩
  | _ + 1 => ⟨fun _ => h, by rw [hr]; intro i hi; cases hi⟩
/-- U: i, and numbers each of which waits for one of U: none of them can come ahead of i -/
theorem wpAnyL_firstU {U : List Nat} {i : Nat} {oi : Oper} {v : Value} (hi : ops[i]? = some oi) (hsel : ∀ (j : Nat) (o : Oper) cs b, ops[j]? = some o → o.op ≠ .select cs b)
    (hQ : ∀ c a w, Q (.panic c) (a.put oi.dst v) w → Q (.panic c) a w) (hU : (U.all fun u => u == i || U.any fun p => waitsFor md ops u p) = true) (hx : (ex.all fun j => j == i || U.contains j) = true) (fuel : Nat) : ∀ (listed : Array Bool) (a : Act) (w : World),
      (∀ j oj, ops[j]? = some oj → j ≠ i → listed.getD j true = false → (∀ e ∈ oj.after, Region.binds md e = true → e.on ≠ i) → oi.apart ops oj = true) →
      i ∈ Region.ready md ops listed → (∀ u ∈ U, listed.getD u false = false) → YieldsIf P ops S oi v a → S w →
      wpAnyL P md ops Q S ex fuel (listed.setIfInBounds i true) (a.put oi.dst v) w → wpAnyL P md ops Q S ex (fuel + 1) listed a w := by
  induction fuel with
  | zero =>
    intro listed a w _ hr _ hy hS hrest
    refine ⟨fun h => absurd hr (by rw [h]; simp), fun j hj => ?_⟩
    rcases Classical.em (j = i) with rfl | hne
    · exact hy.wpOp hi hS ⟨fun _ h => h, hrest⟩
    · have hstill := ready_mono hj hne
      rw [hrest.1] at hstill
      exact absurd hstill (by simp)
  | succ fuel ih =>
    intro listed a w hfree hr hul hy hS hrest
    refine ⟨fun h => absurd hr (by rw [h]; simp), fun j hj => ?_⟩
    rcases Classical.em (j = i) with rfl | hne
    · exact hy.wpOp hi hS ⟨fun _ h => h, hrest⟩
    obtain ⟨hun, oj, hoj, hafter⟩ := mem_ready.1 hj
    have hiu := (mem_ready.1 hr).1
    have hno : ∀ e ∈ oj.after, Region.binds md e = true → e.on ≠ i := by
      intro e he hb heq
      have hl := hafter e he hb
      rw [heq] at hl
      rcases Nat.lt_or_ge i listed.size with hs | hs
      · simp [hs] at hl hiu
        rw [hiu] at hl
        cases hl
      · simp [Array.getElem?_eq_none hs] at hl
    have hjU : j ∉ U := fun hm => by
      have h1 := List.all_eq_true.1 hU j hm
      rw [Bool.or_eq_true] at h1
      rcases h1 with h1 | h1
      · exact hne (by simpa using h1)
      · obtain ⟨p, hp, hw⟩ := List.any_eq_true.1 h1
        unfold waitsFor at hw
        rw [hoj] at hw
        obtain ⟨e, he, h2⟩ := List.any_eq_true.1 hw
        rw [Bool.and_eq_true] at h2
        have h3 := hafter e (by simpa using he) h2.1
        have h4 : e.on = p := by simpa using h2.2
        rw [h4, hul p hp] at h3
        cases h3
    have hjx : ex.contains j = false := by
      cases hc : ex.contains j with
      | false => rfl
      | true =>
        have h1 := List.all_eq_true.1 hx j (by simpa using hc)
        rw [Bool.or_eq_true] at h1
        rcases h1 with h1 | h1
        · exact absurd (by simpa using h1) hne
        · exact absurd (by simpa using h1) hjU
    have hput := wpOp_putIf hoj (hfree j oj hoj hne hun hno) (fun cs b => hsel i oi cs b hi) (fun cs b => hsel j oj cs b hoj) hQ hy (hrest.2 j (ready_mono hj hne))
    refine wpOp_mono (fun a' w' hk => ?_) hput
    refine ⟨hk.2.1, ih _ a' w' ?_ (ready_mono hr (Ne.symm hne)) (fun u hu => ?_) hk.1 (hk.2.1 hjx hS) ?_⟩
    · intro k ok hok hki hku hkn
      refine hfree k ok hok hki ?_ hkn
      rcases Classical.em (j = k) with rfl | hjk
      · exact hun
      · rwa [getD_set_ne true hjk] at hku
    · rw [getD_set_ne false (fun e => hjU (by rw [e]; exact hu))]
      exact hul u hu
    · rw [Array.setIfInBounds_comm _ _ hne]
      exact hk.2.2
theorem takeU_at (U : List Nat) {i d : Nat} {oi : Oper} {v : Value} {fuel : Nat} {listed : Array Bool} {a : Act} {w : World} (hi : ops[i]? = some oi) (hd : oi.dst = some d)
    (hU : (U.all fun u => u == i || U.any fun p => waitsFor md ops u p) = true) (hx : (ex.all fun j => j == i || U.contains j) = true) (hul : (U.all fun u => !listed.getD u false) = true)
    (hs : Region.noSelect ops = true) (hf : Region.free md ops listed i = true) (hr : (Region.ready md ops listed).contains i = true)
    (hQ : ∀ c a w, Q (.panic c) { a with tmps := a.tmps.setIfInBounds d v } w → Q (.panic c) a w) (hw : Region.wanted oi (yielded ops a.tmps) = true) (hy : ∀ w, S w → (execOp a.eval oi).run P w = .ok (.value v) w) (hS : S w)
    (h : wpAnyL P md ops Q S ex fuel (listed.setIfInBounds i true) { a with tmps := a.tmps.setIfInBounds d v } w) : wpAnyL P md ops Q S ex (fuel + 1) listed a w := by
  refine wpAnyL_firstU hi (Region.noSelect_spec hs) (by rw [hd]; exact hQ) hU hx fuel listed a w (Region.free_spec hi hf) (by simpa using hr) (fun u hu => by simpa using List.all_eq_true.1 hul u hu) (Or.inl ⟨hw, hy⟩) hS ?_
  rw [hd]
  exact h
theorem wpL_region (ex : List Nat) {id : Nat} {a : Act} {w : World} (hm : P.follows .mixedOrders = true) (hS : S w.drew)
    (h : S w.drew → wpAnyL P .any ops Q S ex ops.size (Array.replicate ops.size false) a w.drew) : (Code.region id ops true).wp P Q a w :=
  wp_region_any hm (wpAny_of_L _ _ _ _ (h hS))
theorem takeL_at {i d : Nat} {oi : Oper} {v : Value} {fuel : Nat} {listed : Array Bool} {a : Act} {w : World} (hi : ops[i]? = some oi) (hd : oi.dst = some d) (hx : exWait md ops ex i = true)
    (hs : Region.noSelect ops = true) (hf : Region.free md ops listed i = true) (hr : (Region.ready md ops listed).contains i = true)
    (hQ : ∀ c a w, Q (.panic c) { a with tmps := a.tmps.setIfInBounds d v } w → Q (.panic c) a w) (hw : Region.wanted oi (yielded ops a.tmps) = true) (hy : ∀ w, S w → (execOp a.eval oi).run P w = .ok (.value v) w) (hS : S w)
    (h : wpAnyL P md ops Q S ex fuel (listed.setIfInBounds i true) { a with tmps := a.tmps.setIfInBounds d v } w) : wpAnyL P md ops Q S ex (fuel + 1) listed a w := by
  refine wpAnyL_first hi (Region.noSelect_spec hs) (by rw [hd]; exact hQ) (keeps_S hx) fuel listed a w (Region.free_spec hi hf) (by simpa using hr) (Or.inl ⟨hw, hy⟩) hS ?_
  rw [hd]
  exact h
/-- what yields in whatever world -/
theorem takeW_at {i d : Nat} {oi : Oper} {v : Value} {fuel : Nat} {listed : Array Bool} {a : Act} {w : World} (hi : ops[i]? = some oi) (hd : oi.dst = some d)
    (hs : Region.noSelect ops = true) (hf : Region.free md ops listed i = true) (hr : (Region.ready md ops listed).contains i = true)
    (hQ : ∀ c a w, Q (.panic c) { a with tmps := a.tmps.setIfInBounds d v } w → Q (.panic c) a w) (hw : Region.wanted oi (yielded ops a.tmps) = true) (hy : ∀ w, (execOp a.eval oi).run P w = .ok (.value v) w)
    (h : wpAnyL P md ops Q S ex fuel (listed.setIfInBounds i true) { a with tmps := a.tmps.setIfInBounds d v } w) : wpAnyL P md ops Q S ex (fuel + 1) listed a w := by
  refine wpAnyL_first (T := fun _ => True) hi (Region.noSelect_spec hs) (by rw [hd]; exact hQ) (fun _ _ _ _ _ _ _ _ h => h) fuel listed a w (Region.free_spec hi hf) (by simpa using hr) (Or.inl ⟨hw, fun w _ => hy w⟩) trivial ?_
  rw [hd]
  exact h
theorem skipL_at {i d : Nat} {oi : Oper} {fuel : Nat} {listed : Array Bool} {a : Act} {w : World} (hi : ops[i]? = some oi) (hd : oi.dst = some d)
    (hs : Region.noSelect ops = true) (hf : Region.free md ops listed i = true) (hr : (Region.ready md ops listed).contains i = true)
    (hQ : ∀ c a w, Q (.panic c) { a with tmps := a.tmps.setIfInBounds d undef } w → Q (.panic c) a w) (hw : Region.wanted oi (yielded ops a.tmps) = false)
    (h : wpAnyL P md ops Q S ex fuel (listed.setIfInBounds i true) { a with tmps := a.tmps.setIfInBounds d undef } w) : wpAnyL P md ops Q S ex (fuel + 1) listed a w := by
  refine wpAnyL_first (T := fun _ => True) hi (Region.noSelect_spec hs) (by rw [hd]; exact hQ) (fun _ _ _ _ _ _ _ _ h => h) fuel listed a w (Region.free_spec hi hf) (by simpa using hr) (Or.inr ⟨hw, rfl⟩) trivial ?_
  rw [hd]
  exact h
theorem wpAnyL_one {i : Nat} {o : Oper} {fuel : Nat} {listed : Array Bool} {a : Act} {w : World} (hi : ops[i]? = some o) (hr : Region.ready md ops listed = [i]) (hw : Region.wanted o (yielded ops a.tmps) = true)
    (h : ∀ K' : Act → World → Prop, (∀ a w', (ex.contains i = false → S w → S w') → wpAnyL P md ops Q S ex fuel (listed.setIfInBounds i true) a w' → K' a w') → Oper.wp P o a w K' Q) : wpAnyL P md ops Q S ex (fuel + 1) listed a w := by
  refine ⟨fun h0 => (by rw [hr] at h0; cases h0), fun j hj => ?_⟩
  rw [hr] at hj
  obtain rfl : j = i := by simpa using hj
  have := h _ (fun a w' h1 h2 => (⟨h1, h2⟩ : (fun a' w' => (ex.contains j = false → S w → S w') ∧ wpAnyL P md ops Q S ex fuel (listed.setIfInBounds j true) a' w') a w'))
  unfold wpOp
  simp only [hi, hw, if_true]
  exact .inl this
theorem callL_at {i d : Nat} {o : Oper} {fuel : Nat} {listed : Array Bool} {a : Act} {w : World} (hi : ops[i]? = some o) (hd : o.dst = some d)
    (hr : Region.ready md ops listed = [i]) (hw : Region.wanted o (yielded ops a.tmps) = true)
    (h : ∀ K' : Act → World → Prop, Shut (∀ a w, S w → (S w → wpAnyL P md ops Q S ex fuel (listed.setIfInBounds i true) a w) → K' a w) → Oper.wp P o a w K' Q) : wpAnyL P md ops Q S ex (fuel + 1) listed a w :=
  wpAnyL_one hi hr hw fun K hK => h K fun a w hS hr => hK a w (fun _ _ => hS) (hr hS)
/-- one that is exempt -/
theorem exL_at {i : Nat} {o : Oper} {fuel : Nat} {listed : Array Bool} {a : Act} {w : World} (hi : ops[i]? = some o)
    (hr : Region.ready md ops listed = [i]) (hw : Region.wanted o (yielded ops a.tmps) = true) (hl : ex.contains i = true)
    (h : ∀ K' : Act → World → Prop, Shut (∀ a w, wpAnyL P md ops Q S ex fuel (listed.setIfInBounds i true) a w → K' a w) → Oper.wp P o a w K' Q) : wpAnyL P md ops Q S ex (fuel + 1) listed a w :=
  wpAnyL_one hi hr hw fun K hK => h K fun a w hr => hK a w (fun h => by rw [hl] at h; cases h) hr
end
end Go.Proofs.YtgbahnlgblahpaaGreat
