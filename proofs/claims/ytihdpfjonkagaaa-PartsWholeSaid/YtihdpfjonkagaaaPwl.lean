/- The parts of a graph, put together: the graph (plain law of PartsWhole). -/
import Derived.Test.YtihdpfjonkagaaaProg
import Derived.Test.YtihdpfjonkagaaaPjh
import Derived.Test.YtihdpfjonkagaaaMpl
namespace Go.Proofs.Ytihdpfjonkagaaa
open Go.RowKit
set_option linter.unusedVariables false
set_option linter.unusedSimpArgs false
theorem cnt_nd {β : Type} (f : β → Int) (es : List β) : ∀ (l : List Int), l.Nodup → (l.flatMap fun v => es.filter fun e => f e == v).length = (es.filter fun e => decide (f e ∈ l)).length
  | [], _ => by
    rw [show (es.filter fun e => decide (f e ∈ ([] : List Int))) = [] from List.filter_eq_nil_iff.2 (by simp)]
    rfl
  | a :: l, h => by
    have ih := cnt_nd f es l (List.nodup_cons.1 h).2
    have hn := (List.nodup_cons.1 h).1
    rw [List.flatMap_cons, List.length_append, ih]
    clear ih
    induction es with
    | nil => rfl
    | cons e es ih =>
      by_cases h1 : f e = a
      · have h2 : f e ∉ l := by rw [h1]; exact hn
        simp [h1, hn] at ih ⊢
        omega
      · by_cases h2 : f e ∈ l
        · simp [h1, h2] at ih ⊢
          omega
        · simp [h1, h2] at ih ⊢
          omega
def cuts (V : Int) (es : List Ed) (k : Nat) : List PartV := (List.range k).map fun (w : Nat) => partF V es k w
theorem cuts_len (V : Int) (es : List Ed) (k : Nat) : (cuts V es k).length = k := by simp [cuts]
theorem cuts_get {V : Int} {es : List Ed} {k w : Nat} (h : w < k) : (cuts V es k)[w]? = some (partF V es k w) := by
  unfold cuts
  rw [List.getElem?_map, List.getElem?_range h]
  rfl
section
variable {V : Int} {es : List Ed} {k : Nat}
theorem cut_ok (h : checkF V es = 0) (hk : k ≤ 64) {w : Nat} (hw : w < k) : cutErr V es k w = 0 := by
  unfold cutErr
  rw [if_neg (by simp [h]), if_neg (by omega)]
theorem cut_is (h : checkF V es = 0) (hk : k ≤ 64) {w : Nat} (hw : w < k) : partF V es k w = ⟨w, k, V, ownedF V k w, (ownedF V k w).map (fromF es), (ownedF V k w).map (toF es)⟩ := by
  unfold partF
  rw [if_pos (cut_ok h hk hw)]
theorem whole_ok (h : checkF V es = 0) (hk : k ≤ 64) : okG V es (cuts V es k) := fun w p hp => by
  have hw := (List.getElem?_eq_some_iff.1 hp).1
  rw [cuts_len] at hw ⊢
  rw [cuts_get hw] at hp
  injection hp with hp
  exact ⟨cut_ok h hk hw, hp.symm⟩
theorem ok_rise (h : okFrom V es 0 = true) : ∀ (j i : Nat) {x y : Ed}, i < j → es[i]? = some x → es[j]? = some y → x.1 ≤ y.1
  | 0, i, x, y, hi, _, _ => by omega
  | j + 1, i, x, y, hi, hx, hy => by
    have hl := (List.getElem?_eq_some_iff.1 hy).1
    obtain ⟨z, hz⟩ : ∃ z, es[j]? = some z := ⟨_, List.getElem?_eq_getElem (by omega)⟩
    unfold okFrom at h
    have h1 := List.all_eq_true.1 h (j + 1) (by rw [List.mem_range]; omega)
    rw [Nat.zero_add] at h1
    unfold okAt at h1
    rw [hy] at h1
    dsimp only at h1
    rw [if_neg (by omega), Nat.add_sub_cancel, hz] at h1
    simp only [Bool.and_eq_true, decide_eq_true_eq] at h1
    have h2 := h1.2
    have h3 : z.1 ≤ y.1 := by
      unfold orderOf orOf cmpOf at h2
      by_cases c1 : z.1 < y.1
      · omega
      · by_cases c2 : y.1 < z.1
        · rw [if_neg c1, if_pos c2] at h2
          simp at h2
        · omega
    by_cases hij : i = j
    · subst hij
      rw [hx] at hz
      injection hz with hz
      rw [hz]
      exact h3
    · exact Int.le_trans (ok_rise h j i (by omega) hx hz) h3
theorem es_sorted (h : checkF V es = 0) : es.Pairwise (fun x y => x.1 ≤ y.1) := by
  rw [List.pairwise_iff_getElem]
  intro i j hi hj hij
  exact ok_rise (checkF_ok h).2.2.2 j i hij (List.getElem?_eq_getElem hi) (List.getElem?_eq_getElem hj)
theorem whole_flat (h : checkF V es = 0) (hk1 : 1 ≤ k) (hk : k ≤ 64) : (List.range V.toNat).flatMap (fun (v : Nat) => fromF es (v : Int)) = es := by
  refine uniq_sorted (fun e : Ed => e.1) _ _ (flat_sorted es _) (es_sorted h) fun c => ?_
  rw [flat_filt (ps := cuts V es k) (whole_ok h hk) (by rw [cuts_len]; exact hk1)]
  rfl
theorem whole_d (h : checkF V es = 0) (hk1 : 1 ≤ k) (hk : k ≤ 64) {d : List Ed} (hs : StS ltE (fun e : Ed => e.1) (allOut (cuts V es k)).length (allOut (cuts V es k)) d) : d = es := by
  rw [sort_flat (by rw [cuts_len]; exact ⟨hk1, hk⟩) hs (whole_ok h hk), whole_flat h hk1 hk]
theorem whole_vs (h : checkF V es = 0) (hk1 : 1 ≤ k) (hk : k ≤ 64) : vsOf (cuts V es k) = V := by
  unfold vsOf
  rw [List.getD_eq_getElem?_getD, cuts_get hk1, cut_is h hk hk1]
  rfl
/-- all vertices of the first w workers -/
def ownUp (V : Int) (k w : Nat) : List Int := (List.range w).flatMap fun (j : Nat) => ownedF V k j
theorem ownUp_succ (V : Int) (k w : Nat) : ownUp V k (w + 1) = ownUp V k w ++ ownedF V k w := by
  unfold ownUp
  rw [List.range_succ, List.flatMap_append]
  simp
theorem ownUp_nodup (hV : 1 ≤ V ∧ V ≤ 512) (w : Nat) : (ownUp V k w).Nodup := by
  unfold ownUp
  show List.Pairwise (· ≠ ·) _
  rw [List.pairwise_flatMap]
  refine ⟨fun j _ => owned_nodup _ _ _, List.pairwise_lt_range.imp fun {a b} hab x hx y hy e => ?_⟩
  have h1 := ((mem_own hV (by omega)).1 hx).2.2
  have h2 := ((mem_own hV (by omega)).1 hy).2.2
  rw [e] at h1
  omega
theorem ownUp_take (hV : 1 ≤ V ∧ V ≤ 512) (w i : Nat) : (ownUp V k w ++ (ownedF V k w).take i).Nodup := by
  have h := ownUp_nodup (k := k) hV (w + 1)
  rw [ownUp_succ] at h
  exact ((List.Sublist.refl _).append (List.take_sublist _ _)).nodup h
theorem ownUp_len (V : Int) (k : Nat) : ∀ w : Nat, (ownUp V k w).length ≤ w * 512
  | 0 => by simp [ownUp]
  | w + 1 => by
    have h := ownUp_len V k w
    have h2 := owned_le V k w
    rw [ownUp_succ, List.length_append]
    omega
theorem ownUp_mem (hV : 1 ≤ V ∧ V ≤ 512) (hk1 : 1 ≤ k) (hk : k ≤ 64) (c : Int) : c ∈ ownUp V k k ↔ 0 ≤ c ∧ c < V := by
  unfold ownUp
  rw [List.mem_flatMap]
  constructor
  · rintro ⟨j, _, hc⟩
    have := (mem_own hV (by omega)).1 hc
    omega
  · intro hc
    obtain ⟨a, b⟩ := ofF_ok c k hc.1 (by omega) (by omega) (by omega)
    exact ⟨(ofF c k).toNat, by rw [List.mem_range]; omega, (mem_own hV (by omega)).2 ⟨hc.1, hc.2, by omega⟩⟩
theorem whole_own (hV : 1 ≤ V ∧ V ≤ 512) (hk1 : 1 ≤ k) (hk : k ≤ 64) : ((ownUp V k k).length : Int) = V := by
  have hp : (ownUp V k k).Perm ((List.range V.toNat).map fun (j : Nat) => (j : Int)) := by
    rw [List.perm_ext_iff_of_nodup (ownUp_nodup hV k) ((List.pairwise_map).2 (List.nodup_range.imp (fun h e => h (by omega))))]
    intro c
    rw [ownUp_mem hV hk1 hk, List.mem_map]
    constructor
    · intro hc
      exact ⟨c.toNat, by rw [List.mem_range]; omega, by omega⟩
    · rintro ⟨j, hj, rfl⟩
      rw [List.mem_range] at hj
      omega
  rw [hp.length_eq, List.length_map, List.length_range]
  omega
/-- how many edges of one end these vertices have -/
def cntE (f : Ed → Int) (es : List Ed) (l : List Int) : Nat := (l.flatMap fun v => es.filter fun e => f e == v).length
theorem cntE_le (f : Ed → Int) (es : List Ed) {l : List Int} (h : l.Nodup) : cntE f es l ≤ es.length := by
  unfold cntE
  rw [cnt_nd f es l h]
  exact List.length_filter_le _ _
theorem cntE_all (f : Ed → Int) (es : List Ed) {l : List Int} (h : l.Nodup) (hm : ∀ e ∈ es, f e ∈ l) : cntE f es l = es.length := by
  unfold cntE
  rw [cnt_nd f es l h, List.filter_eq_self.2 (fun e he => by simpa using hm e he)]
theorem cntE_snoc (f : Ed → Int) (es : List Ed) (l : List Int) (v : Int) : cntE f es (l ++ [v]) = cntE f es l + (es.filter fun e => f e == v).length := by
  unfold cntE
  rw [List.flatMap_append, List.length_append]
  simp
theorem whole_from (h : checkF V es = 0) (hk1 : 1 ≤ k) (hk : k ≤ 64) : cntE (fun e : Ed => e.1) es (ownUp V k k) = es.length := by
  obtain ⟨h1, h2, _, h4⟩ := checkF_ok h
  exact cntE_all _ _ (ownUp_nodup ⟨h1, h2⟩ k) fun e he => (ownUp_mem ⟨h1, h2⟩ hk1 hk _).2 (by have := okFrom_all h4 he; omega)
theorem whole_to (h : checkF V es = 0) (hk1 : 1 ≤ k) (hk : k ≤ 64) : cntE (fun e : Ed => e.2.1) es (ownUp V k k) = es.length := by
  obtain ⟨h1, h2, _, h4⟩ := checkF_ok h
  exact cntE_all _ _ (ownUp_nodup ⟨h1, h2⟩ k) fun e he => (ownUp_mem ⟨h1, h2⟩ hk1 hk _).2 (by have := okFrom_all h4 he; omega)
/-- how many edges all parts have -/
theorem cuts_all (h : checkF V es = 0) (hk1 : 1 ≤ k) (hk : k ≤ 64) : (allOut (cuts V es k)).length = es.length := by
  obtain ⟨h1, h2, _, h4⟩ := checkF_ok h
  have e1 : allOut (cuts V es k) = (ownUp V k k).flatMap (fromF es) := by
    unfold allOut cuts ownUp
    rw [List.flatMap_map, List.flatMap_assoc]
    apply fm_congr
    intro w hw
    rw [List.mem_range] at hw
    rw [cut_is h hk hw]
    dsimp only
    rw [← List.flatMap_def]
  rw [e1]
  exact whole_from h hk1 hk
end
theorem idx_go {xs : List Int} (hn : xs.Nodup) {j : Nat} {x : Int} (hj : xs[j]? = some x) : ∀ (d i : Nat), i + d = j → idxAt xs x i = (j : Int)
  | 0, i, h => by
    obtain rfl : i = j := by omega
    obtain ⟨h1, h2⟩ := List.getElem?_eq_some_iff.1 hj
    exact idx_hit h1 h2.symm
  | d + 1, i, h => by
    obtain ⟨h1, h2⟩ := List.getElem?_eq_some_iff.1 hj
    rw [idx_miss (show i < xs.length by omega) (fun e => by
      have hp := (List.pairwise_iff_getElem.1 hn) i j (by omega) h1 (by omega)
      exact hp (by rw [h2]; exact e.symm))]
    exact idx_go hn hj d (i + 1) (by omega)
/-- the place of one of a row without doubles -/
theorem idx_at {xs : List Int} (hn : xs.Nodup) {j : Nat} {x : Int} (hj : xs[j]? = some x) : idxF xs x = (j : Int) := idx_go hn hj j 0 (by omega)
end Go.Proofs.Ytihdpfjonkagaaa
