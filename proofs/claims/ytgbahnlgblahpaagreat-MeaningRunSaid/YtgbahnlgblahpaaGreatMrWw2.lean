/- Lemmas: Row, O6c. -/
import Derived.Test.YtgbahnlgblahpaaGreatProg
import Derived.ProofKit
import Derived.OpenShut
import Derived.ChangeSame
import Derived.SizedLaws
import Derived.Deep.Slices
import Derived.Test.YtgbahnlgblahpaaGreatMrWw1
set_option linter.unusedVariables false
set_option linter.unusedSimpArgs false
set_option maxRecDepth 100000
set_option maxHeartbeats 16000000
namespace Go.Proofs.YtgbahnlgblahpaaGreat
open Go.RowKit Go.ChangeShapes Go.WideShapes Go.ChangeAt
theorem row_laid : laidOutB Tryz.prog = true := by kernel_rfl
theorem row_own : ownKnob Tryz.prog.godebug = none := by kernel_rfl
section
variable {H : Type} {enc : TypeId × Value → H} {P : Program}
theorem trodAll_below (hl : laidOutB P = true) {W W' : World} (hb : Below W.heap.size W W') {sp : Nat → Bool} : ∀ {ts : List TypeId} {vs : List Value} {ds : List (DataW H)} {ps : List MemPlace},
  (∀ t ∈ ts, P.readableRec t = true ∧ t < P.types.size) → DataW.TrodAll enc P W 0 (fun _ => true) true ts vs ds ps → (∀ x ∈ ps, x.block < W.heap.size) → (∀ x ∈ ps, sp x.block = true) →
  DataW.TrodAll enc P W' 0 sp true ts vs ds ps := by
 intro ts
 induction ts with
 | nil =>
  intro vs ds ps _ h _ _
  obtain ⟨rfl, rfl, rfl⟩ := trodAll_nil h
  exact trodAll_mk0
 | cons t ts ih =>
  intro vs ds ps ht h hlt hsp
  obtain ⟨v0, vs0, d0, ds0, p0, q0, rfl, rfl, rfl, h0, r0⟩ := trodAll_cons h
  refine trodAll_cons_mk ?_ ?_
  ·exact WideElems.Trod_stays hl (ht t (by simp)).1 (ht t (by simp)).2 h0 (fun x hx => hb.same (hlt x (by simp [hx]))) (fun x hx => hsp x (by simp [hx]))
  ·exact ih (fun t' h' => ht t' (by simp [h'])) r0 (fun x hx => hlt x (by simp [hx])) (fun x hx => hsp x (by simp [hx]))
theorem post_true {f : Func} {s : ChangeSpec} {W W' : World} {args : Array Value} {ds gs : List (DataW H)} {before : List MemPlace} {tb : TypeId}
  (hW : DataW.Whole enc P f.params.toList s.vars false W args.toList ds gs before) (hv : s.vars = [])
  (hr : f.resultTypes = #[tb]) (ht : P.underlying tb = some .bool) (hl : laidOutB P = true)
  (hp : (f.params.toList.all fun t => P.readableRec t && decide (t < P.types.size)) = true)
  (hs : (s.fn H (ds ++ gs)).results = [.lit (.bool true)]) (hs2 : (s.fn H (ds ++ gs)).args = ds) (hs3 : (s.fn H (ds ++ gs)).vars = [])
  (hb : Below W.heap.size W W') :
  s.post enc P f false true false false W args (.bool true) W' := by
 have hW0 := hW
 obtain ⟨p, q, hA, hV, rfl, hfz, hnd⟩ := hW
 rw [hv] at hV
 obtain ⟨rfl, rfl⟩ := trodVars_none hV
 have hlt : ∀ x ∈ p ++ [], x.block < W.heap.size := fun x hx => hW0.lt x hx
 have hp' : ∀ t ∈ f.params.toList, P.readableRec t = true ∧ t < P.types.size := fun t h => by
  have := List.all_eq_true.1 hp t h
  simpa using this
 have hargs : ∀ sp : Nat → Bool, (∀ x ∈ p ++ [], sp x.block = true) → DataW.TrodAll enc P W' 0 sp true f.params.toList args.toList (s.fn H (ds ++ [])).args p := fun sp hsp => by
  rw [hs2]
  exact trodAll_below hl hb hp' hA (fun x hx => hlt x (by simp [hx])) (fun x hx => hsp x (by simp [hx]))
 have hvars : ∀ sp : Nat → Bool, (∀ x ∈ p ++ [], sp x.block = true) → DataW.TrodVars enc P W' sp s.vars (s.fn H (ds ++ [])).vars [] := fun sp _ => by
  rw [hs3, hv]; rfl
 have hold : ∀ x ∈ p ++ [], (fun b => decide (b < W.heap.size)) x.block = true := fun x hx => by simpa using hlt x hx
 refine ⟨ds, [], p ++ [], [], p, [], hW0, ?_, hargs _ hold, hvars _ hold, World.keptBut_mono (fun x hx => ⟨hx, Or.inr (by simpa using hx)⟩) (hb.frame (· ∈ p ++ [])), fun h => by cases h⟩
 rw [hs, hr]
 exact trodAll_cons_mk (shut_bool ht _) trodAll_mk0
theorem sized_of {ts : List TypeId} {ds : List (DataW H)} (h : (DataW.weightsEach P ts ds).all (· ≤ reachBytes) = true) {j : Nat} {t : TypeId} {d : DataW H} (ht : ts[j]? = some t) (hd : ds[j]? = some d) : ∀ n ∈ d.weights P t, n ≤ reachBytes := fun n hn => by
 have := List.all_eq_true.1 h _ (DataW.weights_mem_each ht hd n hn)
 simpa using this
theorem weightsAll_mem {e : TypeId} : ∀ {l : List (DataW H)} {d : DataW H} {n : Nat}, d ∈ l → n ∈ d.weights P e → n ∈ DataW.weightsAll P e l := by
 intro l
 induction l with
 | nil => intro d n h _; cases h
 | cons x l ih =>
  intro d n h hn
  simp only [DataW.weightsAll, List.mem_append]
  rcases List.mem_cons.1 h with rfl | h
  ·exact .inl hn
  ·exact .inr (ih h hn)
theorem elems_of {X : Type} {t e : TypeId} {size fuel : Nat} {W : World} {cs : List Value} {x : DataW H × List MemPlace} (ht : P.underlying t = some (.slice e)) (hc : P.cellsOf e = size) (hpos : 0 < size)
  (h : DataW.trod enc P W 0 (fun _ => true) true fuel t cs = some x) (hz : ∀ n ∈ x.1.weights P t, n ≤ reachBytes) (E : List Value → X → Prop)
  (hE : ∀ n cs y, DataW.trod enc P W 0 (fun _ => true) true n e cs = some y → (∀ k ∈ y.1.weights P e, k ≤ reachBytes) → cs.length = size → ∃ x, E cs x) :
  ∃ (A : Option Addr) (xs : List X) (c : Nat), cs = [.slice A xs.length c] ∧ Els W W.heap.size size A xs E ∧ xs.length ≤ c ∧ c * P.bytesOf e ≤ reachBytes ∧ c ≤ 9223372036854775807 := by
 rcases Go.Deep.open_slice ht h with ⟨rfl, rfl⟩ | ⟨a, len, cap, m, n, D, Pl, rfl, _, hl, hm, hmm, rfl, hi⟩
 ·exact ⟨none, [], 0, rfl, Els.nil_, by simp, by simp, by omega⟩
 ·rw [if_pos rfl] at hmm
  subst hmm
  unfold maxLen at hm
  rw [hc] at hi
  have hz' : ∀ n ∈ DataW.weights P t (.slice ((List.range len).map D) ((List.range (m - len)).map fun j => D (len + j))), n ≤ reachBytes := hz
  simp only [DataW.weights, ht, List.length_map, List.length_range] at hz'
  have hw := hz' _ (List.mem_cons_self ..)
  have hel : ∀ i, i < len → ∃ x, ∃ cs', W.cells? 0 (a.add (i * size)) size = some cs' ∧ E cs' x := fun i hil => by
   obtain ⟨cs', h1, h2⟩ := hi i (by omega)
   obtain ⟨_, hlen, _⟩ := World.cells?_some h1
   obtain ⟨x, hx⟩ := hE _ _ _ h2 (fun k hk => hz' k (by
    refine List.mem_cons_of_mem _ (List.mem_append_left _ (weightsAll_mem (d := D i) ?_ hk))
    exact List.mem_map.2 ⟨i, by simpa using hil, rfl⟩)) hlen
   exact ⟨x, cs', h1, hx⟩
  have hxs : ∃ xs : List X, xs.length = len ∧ ∀ i x, xs[i]? = some x → ∃ cs', W.cells? 0 (a.add (i * size)) size = some cs' ∧ E cs' x := by
   clear hw hz hz' h hl hi
   induction len with
   | zero => exact ⟨[], rfl, fun i x h => by simp at h⟩
   | succ len ih =>
    obtain ⟨xs, h1, h2⟩ := ih (fun i hi => hel i (by omega))
    obtain ⟨x, hx⟩ := hel len (by omega)
    refine ⟨xs ++ [x], by simp [h1], fun i y hy => ?_⟩
    rw [List.getElem?_append] at hy
    split at hy
    ·exact h2 i y hy
    ·rename_i hge
     have : i = xs.length := by
      rcases Nat.lt_or_ge (i - xs.length) 1 with hlt | hge2
      ·omega
      ·rw [List.getElem?_eq_none (by simpa using hge2)] at hy; cases hy
     subst this
     simp at hy
     subst hy
     rw [h1]
     exact hx
  obtain ⟨xs, hlen, hx⟩ := hxs
  refine ⟨some a, xs, m, by rw [hlen], fun hn => ?_, by omega, ?_, by omega⟩
  ·have h0 : 0 < xs.length := List.length_pos_iff.2 hn
   obtain ⟨cs0, hc0, _⟩ := hx 0 _ (List.getElem?_eq_getElem h0)
   obtain ⟨_, hl0, hat0⟩ := World.cells?_some hc0
   obtain ⟨b, off, spot⟩ := a
   have hsome : ∃ u, W.cell? ⟨b, off, spot⟩ = some u := by
    have := hat0 0 (by omega)
    have h2 : (((⟨b, off, spot⟩ : Addr).add (0 * size)).add 0) = ⟨b, off, spot⟩ := by simp [Addr.add]
    rw [h2] at this
    exact ⟨_, this.trans (List.getElem?_eq_getElem (by omega))⟩
   obtain ⟨u0, hu0⟩ := hsome
   have hspot : spot = none := by simpa using World.cell?_spot hu0
   subst hspot
   refine ⟨b, off, rfl, block_lt_of_cell hu0, fun i y hy => ?_⟩
   obtain ⟨cs', h1, h2⟩ := hx i y hy
   obtain ⟨_, hl1, hat⟩ := World.cells?_some h1
   refine ⟨cs', hl1, h2, fun j u hu => ?_⟩
   have := hat j (by have := (List.getElem?_eq_some_iff.1 hu).1; omega)
   rw [add_plain, add_plain, Nat.add_assoc] at this
   exact this.trans hu
  ·have : len + (m - len) = m := by omega
   rwa [this] at hw
end
end Go.Proofs.YtgbahnlgblahpaaGreat
namespace Go.Proofs.YtgbahnlgblahpaaGreat
theorem int64_cells : Tryz.prog.cellsOf 2 = 1 := by kernel_rfl
end Go.Proofs.YtgbahnlgblahpaaGreat
