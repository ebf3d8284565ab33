/- The parts of a state, put together, are it (plain law). -/
import Derived.Test.YtgfdlllmcbgbcaaJpw
import Derived.Test.YtgfdlllmcbgbcaaSgl
namespace Go.Proofs.Ytgfdlllmcbgbcaa
open Go.RowKit
set_option linter.unusedVariables false
/-- what is got of a worker's part that was put -/
def gotP (st : Int) (vals : List Int) (chg : List Bool) (inb : List Ml) (K q : Nat) : SPart := nmS (pickP st vals chg inb (ownUpto (K : Int) (q : Int) vals.length))
def gots (st : Int) (vals : List Int) (chg : List Bool) (inb : List Ml) (K n : Nat) : List SPart := (List.range n).map (gotP st vals chg inb K)
section
variable {st : Int} {vals : List Int} {chg : List Bool} {inb : List Ml} {K : Nat}
theorem gots_len (n : Nat) : (gots st vals chg inb K n).length = n := by simp [gots]
theorem gots_get {n q : Nat} (h : q < n) : (gots st vals chg inb K n)[q]? = some (gotP st vals chg inb K q) := by
  unfold gots
  rw [List.getElem?_map, List.getElem?_range h]
  rfl
theorem gots_of {n q : Nat} {p : SPart} (h : (gots st vals chg inb K n)[q]? = some p) : q < n ∧ p = gotP st vals chg inb K q := by
  have hq : q < n := by
    have := (List.getElem?_eq_some_iff.1 h).1
    rwa [gots_len] at this
  rw [gots_get hq] at h
  exact ⟨hq, (Option.some.inj h).symm⟩
/-- the refusal does not depend on which worker it is -/
theorem takeE_all {q : Nat} (hK : 1 ≤ K) (hK2 : K ≤ 64) (hq : q < K) : takeE st vals chg inb (K : Int) (q : Int) = takeE st vals chg inb (K : Int) 0 := by
  unfold takeE
  rw [if_neg (show ¬((K : Int) < 1 ∨ 64 < (K : Int) ∨ (q : Int) < 0 ∨ (K : Int) ≤ (q : Int)) by omega), if_neg (show ¬((K : Int) < 1 ∨ 64 < (K : Int) ∨ (0 : Int) < 0 ∨ (K : Int) ≤ 0) by omega)]
theorem takeE_zero {q : Int} (h : takeE st vals chg inb (K : Int) q = 0) : 1 ≤ vals.length ∧ rightB (wholeP st vals chg inb) = true := by
  unfold takeE at h
  split at h
  · cases h
  · split at h
    · cases h
    · rename_i h1
      refine ⟨by omega, ?_⟩
      cases hr : rightB (wholeP st vals chg inb) with
      | false => exact absurd (.inr hr) h1
      | true => rfl
theorem takeE_cases (q : Int) : takeE st vals chg inb (K : Int) q = 0 ∨ takeE st vals chg inb (K : Int) q = 2 ∨ takeE st vals chg inb (K : Int) q = 4 := by
  unfold takeE
  split
  · exact .inr (.inl rfl)
  · split
    · exact .inr (.inr rfl)
    · exact .inl rfl
theorem rightL_pick (vals : List Int) (inb : List Ml) : ∀ (l : List Int) (last : Int), (∀ v ∈ l, last < v ∧ v < 512 ∧ inB (vals.getD v.toNat 0) = true ∧ (!(inb.getD v.toNat (false, 0)).1 || inB (inb.getD v.toNat (false, 0)).2) = true) → l.Pairwise (· < ·) → rightL last l (pv vals l) (pm inb l) = true
  | [], last, _, _ => rightL_nil _ _ _
  | v :: l, last, h, hp => by
    obtain ⟨a1, a2, a3, a4⟩ := h v (List.mem_cons_self ..)
    rw [List.pairwise_cons] at hp
    unfold pv pm
    rw [List.map_cons, List.map_cons]
    unfold rightL
    simp only [Bool.and_eq_true, decide_eq_true_eq]
    exact ⟨⟨⟨⟨a1, a2⟩, a3⟩, a4⟩, rightL_pick vals inb l v (fun u hu => ⟨hp.1 u hu, (h u (List.mem_cons_of_mem _ hu)).2⟩) hp.2⟩
theorem own_rise (n k : Int) (V : Nat) : (ownUpto n k V).Pairwise (· < ·) := by
  unfold ownUpto
  refine List.Pairwise.filter _ ?_
  rw [List.pairwise_map]
  exact List.pairwise_lt_range.imp fun h => by omega
theorem own_bound {n k : Int} {V : Nat} {v : Int} (h : v ∈ ownUpto n k V) : ∃ u : Nat, u < V ∧ v = (u : Int) := by
  unfold ownUpto at h
  rw [List.mem_filter, List.mem_map] at h
  obtain ⟨⟨u, hu, rfl⟩, _⟩ := h
  exact ⟨u, List.mem_range.1 hu, rfl⟩
theorem right_pick (hr : rightB (wholeP st vals chg inb) = true) (h60 : vals.length ≤ 60) (n k : Int) : rightB (pickP st vals chg inb (ownUpto n k vals.length)) = true := by
  obtain ⟨l1, l2⟩ := right_whole_lens hr
  have hs := right_step hr
  have hl := rightL_pick vals inb (ownUpto n k vals.length) (-1) (fun v hv => by
    obtain ⟨u, hu, rfl⟩ := own_bound hv
    have h5 := right_at hr (j := u) (by unfold wholeP; rw [upto_len]; exact hu)
    rw [Int.toNat_natCast]
    exact ⟨by omega, by omega, h5⟩) (own_rise _ _ _)
  unfold rightB pickP
  simp only [Bool.and_eq_true, decide_eq_true_eq]
  refine ⟨⟨⟨⟨⟨hs.1, hs.2⟩, by simp [pv]⟩, by simp [pc]⟩, by simp [pm]⟩, hl⟩
theorem sum_add_ (f g : Nat → Nat) : ∀ n, ((List.range n).map fun q => f q + g q).sum = ((List.range n).map f).sum + ((List.range n).map g).sum
  | 0 => rfl
  | n + 1 => by
    have ih := sum_add_ f g n
    simp only [List.range_succ, List.map_append, List.sum_append, List.map_cons, List.map_nil, List.sum_cons, List.sum_nil] at ih ⊢
    omega
theorem sum_one (a : Nat) : ∀ n, ((List.range n).map fun q => if a = q then 1 else 0).sum = if a < n then 1 else 0
  | 0 => by simp
  | n + 1 => by
    have ih := sum_one a n
    simp only [List.range_succ, List.map_append, List.sum_append, List.map_cons, List.map_nil, List.sum_cons, List.sum_nil] at ih ⊢
    rw [ih]
    by_cases h1 : a < n
    · rw [if_pos h1, if_neg (by omega), if_pos (by omega)]
      rfl
    · rw [if_neg h1]
      by_cases h2 : a = n
      · rw [if_pos h2, if_pos (by omega)]
        rfl
      · rw [if_neg h2, if_neg (by omega)]
        rfl
theorem sum_own (hK : 1 ≤ K) (hK2 : K ≤ 64) : ∀ V, V ≤ 512 → ((List.range K).map fun q => (ownUpto (K : Int) ((q : Nat) : Int) V).length).sum = V
  | 0, _ => by
    have : ∀ n, ((List.range n).map fun q => (ownUpto (K : Int) ((q : Nat) : Int) 0).length).sum = 0 := fun n => by
      induction n with
      | zero => rfl
      | succ n ih => rw [List.range_succ, List.map_append, List.sum_append, ih]; rfl
    exact this K
  | V + 1, h => by
    have ih := sum_own hK hK2 V (by omega)
    obtain ⟨a, b⟩ := ofF_ok (V : Int) (K : Int) (by omega) (by omega) (by omega) (by omega)
    obtain ⟨w, hw⟩ := Int.eq_ofNat_of_zero_le a
    have e : ∀ q : Nat, (ownUpto (K : Int) (q : Int) (V + 1)).length = (ownUpto (K : Int) (q : Int) V).length + if w = q then 1 else 0 := fun q => by
      by_cases h1 : w = q
      · rw [own_snoc_in (by omega) (by rw [hw, h1]), if_pos h1]
        simp
      · rw [own_snoc_out (by rw [hw]; omega), if_neg h1]
        rfl
    simp only [e]
    rw [sum_add_, ih, sum_one, if_pos (by omega)]
theorem nAll_gots (hK : 1 ≤ K) (hK2 : K ≤ 64) (h60 : vals.length ≤ 60) : nAll (gots st vals chg inb K K) = vals.length := by
  unfold nAll sumOwn
  rw [List.take_of_length_le (Nat.le_refl _)]
  unfold gots
  rw [List.map_map]
  exact sum_own hK hK2 vals.length (by omega)
theorem ok_gots (hK : 1 ≤ K) (hK2 : K ≤ 64) (h60 : vals.length ≤ 60) (h1 : 1 ≤ vals.length) (hr : rightB (wholeP st vals chg inb) = true) : okJ (gots st vals chg inb K K) := by
  have hn : nAll (gots st vals chg inb K K) = vals.length := nAll_gots hK hK2 h60
  refine (ok_iff (by rw [gots_len]; omega) (by rw [gots_len]; omega) (by omega) (by omega) fun w p hp => ?_).2 fun w p hp => ?_
  · obtain ⟨_, rfl⟩ := gots_of hp
    unfold gotP
    rw [rightB_nm]
    exact right_pick hr h60 _ _
  · obtain ⟨hw, rfl⟩ := gots_of hp
    rw [hn, gots_len]
    refine ⟨?_, rfl⟩
    unfold stepJ
    rw [List.getD_eq_getElem?_getD, gots_get (show 0 < K by omega)]
    rfl
theorem step_gots (hK : 1 ≤ K) : stepJ (gots st vals chg inb K K) = st := by
  unfold stepJ
  rw [List.getD_eq_getElem?_getD, gots_get (show 0 < K by omega)]
  rfl
theorem at_gots (hK : 1 ≤ K) (hK2 : K ≤ 64) (h60 : vals.length ≤ 60) (h1 : 1 ≤ vals.length) (hr : rightB (wholeP st vals chg inb) = true) {v : Nat} (hv : v < vals.length) :
    jV (gots st vals chg inb K K) v = vals.getD v 0 ∧ jC (gots st vals chg inb K K) v = chg.getD v false ∧ jM (gots st vals chg inb K K) v = nm (inb.getD v (false, 0)) := by
  have hn : nAll (gots st vals chg inb K K) = vals.length := nAll_gots hK hK2 h60
  obtain ⟨p1, p2⟩ := ok_place (ok_gots (st := st) (chg := chg) (inb := inb) hK hK2 h60 h1 hr) (v := v) (by omega)
  obtain ⟨a, b⟩ := ofF_ok (v : Int) (K : Int) (by omega) (by omega) (by omega) (by omega)
  obtain ⟨w, hw⟩ := Int.eq_ofNat_of_zero_le a
  have hk : wk (gots st vals chg inb K K) v = gotP st vals chg inb K w := by
    unfold wk
    rw [gots_len, hw, Int.toNat_natCast, List.getD_eq_getElem?_getD, gots_get (by omega)]
    rfl
  have hx : (gotP st vals chg inb K w).own[ix (gots st vals chg inb K K) v]? = some (v : Int) := by
    unfold ix at p2 ⊢
    rw [hk] at p1 p2 ⊢
    rcases plc_spec (v : Int) (gotP st vals chg inb K w).own 0 with ⟨h2, _⟩ | ⟨j, g1, g2, g3⟩
    · omega
    · rw [g2, Nat.zero_add, Int.toNat_natCast]
      exact g3
  have ho : (ownUpto (K : Int) (w : Int) vals.length)[ix (gots st vals chg inb K K) v]? = some (v : Int) := hx
  unfold jV jC jM
  rw [hk]
  refine ⟨?_, ?_, ?_⟩
  · show (pv vals (ownUpto (K : Int) (w : Int) vals.length)).getD _ 0 = _
    unfold pv
    rw [List.getD_eq_getElem?_getD, List.getElem?_map, ho]
    rfl
  · show (pc chg (ownUpto (K : Int) (w : Int) vals.length)).getD _ false = _
    unfold pc
    rw [List.getD_eq_getElem?_getD, List.getElem?_map, ho]
    rfl
  · show ((pm inb (ownUpto (K : Int) (w : Int) vals.length)).map nm).getD _ (false, 0) = _
    unfold pm
    rw [List.getD_eq_getElem?_getD, List.getElem?_map, List.getElem?_map, ho]
    rfl
theorem rows_gots (hK : 1 ≤ K) (hK2 : K ≤ 64) (h60 : vals.length ≤ 60) (h1 : 1 ≤ vals.length) (hr : rightB (wholeP st vals chg inb) = true) :
    (List.range vals.length).map (jV (gots st vals chg inb K K)) = vals ∧ (List.range vals.length).map (jC (gots st vals chg inb K K)) = chg ∧ (List.range vals.length).map (jM (gots st vals chg inb K K)) = inb.map nm := by
  obtain ⟨l1, l2⟩ := right_whole_lens hr
  refine ⟨?_, ?_, ?_⟩
  · rw [List.map_congr_left (g := fun v => vals.getD v 0) fun v hv => (at_gots hK hK2 h60 h1 hr (List.mem_range.1 hv)).1]
    exact rangeL_getD vals 0 _ rfl
  · rw [List.map_congr_left (g := fun v => chg.getD v false) fun v hv => (at_gots hK hK2 h60 h1 hr (List.mem_range.1 hv)).2.1]
    exact rangeL_getD chg false _ l1
  · rw [List.map_congr_left (g := fun v => nm (inb.getD v (false, 0))) fun v hv => (at_gots hK hK2 h60 h1 hr (List.mem_range.1 hv)).2.2]
    rw [← l2]
    exact range_getD2 inb (false, 0) nm _ rfl
end
end Go.Proofs.Ytgfdlllmcbgbcaa
