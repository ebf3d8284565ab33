/- Lemmas: Pjw. -/
import Derived.Test.YtihdpfjonkagaaaProg
import Derived.Test.YtihdpfjonkagaaaPkWw13
import Derived.Test.YtihdpfjonkagaaaPkWw15
set_option linter.unusedVariables false
set_option linter.unusedSimpArgs false
set_option maxRecDepth 100000
set_option maxHeartbeats 16000000
namespace Go.Proofs.Ytihdpfjonkagaaa
open Go.RowKit
theorem uniq_sorted {α : Type} (κ : α → Int) : ∀ (d e : List α), d.Pairwise (fun x y => κ x ≤ κ y) → e.Pairwise (fun x y => κ x ≤ κ y) → (∀ c : Int, d.filter (fun x => κ x == c) = e.filter (fun x => κ x == c)) → d = e
 | [], [], _, _, _ => rfl
 | [], y :: e, _, _, h => by have := h (κ y); simp at this
 | x :: d, [], _, _, h => by have := h (κ x); simp at this
 | x :: d, y :: e, hd, he, h => by
  have hx : x ∈ y :: e := by
   have h1 : x ∈ (x :: d).filter (fun z => κ z == κ x) := by simp
   rw [h] at h1
   exact (List.mem_filter.1 h1).1
  have hy : y ∈ x :: d := by
   have h1 : y ∈ (y :: e).filter (fun z => κ z == κ y) := by simp
   rw [← h] at h1
   exact (List.mem_filter.1 h1).1
  have hk : κ x = κ y := by
   have a : κ x ≤ κ y := by
    rcases List.mem_cons.1 hy with rfl | hm
    ·omega
    ·exact (List.pairwise_cons.1 hd).1 y hm
   have b : κ y ≤ κ x := by
    rcases List.mem_cons.1 hx with rfl | hm
    ·omega
    ·exact (List.pairwise_cons.1 he).1 x hm
   omega
  have hxy : x = y := by
   have h1 := h (κ x)
   rw [List.filter_cons_of_pos (by simp), List.filter_cons_of_pos (by simp [hk])] at h1
   injection h1
  subst hxy
  congr 1
  refine uniq_sorted κ d e (List.pairwise_cons.1 hd).2 (List.pairwise_cons.1 he).2 fun c => ?_
  have h1 := h c
  by_cases hc : κ x = c
  ·rw [List.filter_cons_of_pos (by simpa using hc), List.filter_cons_of_pos (by simpa using hc)] at h1
   injection h1
  ·rw [List.filter_cons_of_neg (by simpa using hc), List.filter_cons_of_neg (by simpa using hc)] at h1
   exact h1
theorem flat_one {α β : Type} [DecidableEq α] (f : α → List β) (c : α) : ∀ (l : List α), l.Nodup → (l.flatMap fun v => if v = c then f v else []) = if c ∈ l then f c else []
 | [], _ => by simp
 | a :: l, h => by
  have ih := flat_one f c l (List.nodup_cons.1 h).2
  rw [List.flatMap_cons, ih]
  by_cases ha : a = c
  ·subst ha
   rw [if_pos rfl, if_neg (List.nodup_cons.1 h).1, if_pos (by simp)]
   simp
  ·rw [if_neg ha]
   by_cases hl : c ∈ l
   ·rw [if_pos hl, if_pos (by simp [hl])]; rfl
   ·rw [if_neg hl, if_neg (by simp [hl]; exact fun e => ha e.symm)]; rfl
def limF {β : Type} (acc : List β) (rs : List (List β)) : List β := rs.foldl (fun acc r => if acc.length ≤ 8192 then acc ++ r else acc) acc
theorem lim_mono {β : Type} : ∀ (rs : List (List β)) (acc : List β), acc.length ≤ (limF acc rs).length
 | [], acc => Nat.le_refl _
 | r :: rs, acc => by
  have := lim_mono rs (if acc.length ≤ 8192 then acc ++ r else acc)
  unfold limF at this ⊢
  rw [List.foldl_cons]
  refine Nat.le_trans ?_ this
  split
  ·simp
  ·exact Nat.le_refl _
theorem lim_flat {β : Type} : ∀ (rs : List (List β)) (acc : List β), (limF acc rs).length ≤ 8192 ∨ (acc ++ rs.flatten).length ≤ 8192 → limF acc rs = acc ++ rs.flatten
 | [], acc, _ => by simp [limF]
 | r :: rs, acc, h => by
  have ha : acc.length ≤ 8192 := by
   rcases h with h | h
   ·exact Nat.le_trans (lim_mono _ _) h
   ·simp at h; omega
  have e : limF acc (r :: rs) = limF (acc ++ r) rs := by unfold limF; rw [List.foldl_cons, if_pos ha]
  rw [e] at h ⊢
  rw [lim_flat rs (acc ++ r) (by simpa [List.append_assoc] using h)]
  simp
theorem lim_snoc {β : Type} (acc : List β) (rs : List (List β)) (r : List β) : limF acc (rs ++ [r]) = if (limF acc rs).length ≤ 8192 then limF acc rs ++ r else limF acc rs := by
 unfold limF
 rw [List.foldl_append]
 rfl
theorem lim_app {β : Type} (acc : List β) (rs ss : List (List β)) : limF acc (rs ++ ss) = limF (limF acc rs) ss := by
 unfold limF
 rw [List.foldl_append]
def allOut (ps : List PartV) : List Ed := ps.flatMap fun p => p.out.flatten
def okG (V : Int) (g : List Ed) (ps : List PartV) : Prop := ∀ (w : Nat) (p : PartV), ps[w]? = some p → cutErr V g (ps.length : Int) (w : Int) = 0 ∧ p = partF V g (ps.length : Int) (w : Int)
def rowsV (p : PartV) (v : Int) (i : Nat) : List (List Ed) := ((p.own.zip p.out).take i).filterMap fun x => if x.1 = v then some x.2 else none
def pw (ps : List PartV) (v : Int) : PartV := ps.getD (ofF v (ps.length : Int)).toNat noPart
def refG (V : Nat) (ps : List PartV) : List Ed := limF [] ((List.range V).flatMap fun (v : Nat) => rowsV (pw ps (v : Int)) (v : Int) (pw ps (v : Int)).own.length)
theorem mem_own {V n k c : Int} (hV : 1 ≤ V ∧ V ≤ 512) (hk : 0 ≤ k) : c ∈ ownedF V n k ↔ 0 ≤ c ∧ c < V ∧ ofF c n = k := by
 unfold ownedF ownUpto
 rw [List.mem_filter, List.mem_map]
 constructor
 ·rintro ⟨⟨j, hj, rfl⟩, hs⟩
  unfold sel at hs
  simp only [Bool.and_eq_true, decide_eq_true_eq] at hs
  rw [List.mem_range] at hj
  exact ⟨by omega, by omega, hs.2⟩
 ·rintro ⟨h1, h2, h3⟩
  refine ⟨⟨c.toNat, by rw [List.mem_range]; omega, by omega⟩, ?_⟩
  unfold sel
  simp [hk, h3]
theorem filt_filt (es : List Ed) (v c : Int) : (fromF es v).filter (fun e => e.1 == c) = if v = c then fromF es v else [] := by
 unfold fromF
 rw [List.filter_filter]
 by_cases h : v = c
 ·subst h
  rw [if_pos rfl]
  congr 1
  funext e
  simp
 ·rw [if_neg h, List.filter_eq_nil_iff]
  intro e _ he
  simp only [Bool.and_eq_true, beq_iff_eq] at he
  exact h (he.2.symm.trans he.1)
section
variable {V : Int} {h : List Ed} {ps : List PartV}
theorem okG_chk (ho : okG V h ps) (hn : 1 ≤ ps.length) : checkF V h = 0 := by
 obtain ⟨p, hp⟩ : ∃ p, ps[0]? = some p := ⟨_, List.getElem?_eq_getElem (by omega)⟩
 exact (cutErr_zero (ho 0 p hp).1).1
theorem okG_is (ho : okG V h ps) {w : Nat} {p : PartV} (hp : ps[w]? = some p) : p = ⟨w, ps.length, V, ownedF V ps.length w, (ownedF V ps.length w).map (fromF h), (ownedF V ps.length w).map (toF h)⟩ := by
 obtain ⟨h1, h2⟩ := ho w p hp
 unfold partF at h2
 rw [if_pos h1] at h2
 exact h2
theorem okG_in (ho : okG V h ps) (hn : 1 ≤ ps.length) {e : Ed} (he : e ∈ h) : 0 ≤ e.1 ∧ e.1 < V := by
 have := okFrom_all (checkF_ok (okG_chk ho hn)).2.2.2 he
 exact ⟨this.1, this.2.1⟩
theorem okG_pw (ho : okG V h ps) (hn : 1 ≤ ps.length ∧ ps.length ≤ 64) {v : Int} (h0 : 0 ≤ v) (h1 : v < 512) : ∃ w : Nat, ofF v ps.length = (w : Int) ∧ ps[w]? = some (pw ps v) := by
 obtain ⟨a, b⟩ := ofF_ok v ps.length h0 h1 (by omega) (by omega)
 obtain ⟨w, hw⟩ : ∃ w : Nat, ofF v ps.length = (w : Int) := ⟨_, (Int.toNat_of_nonneg a).symm⟩
 refine ⟨w, hw, ?_⟩
 unfold pw
 rw [hw, Int.toNat_natCast, List.getD_eq_getElem?_getD, List.getElem?_eq_getElem (show w < ps.length by omega)]
 rfl
theorem zip_map_rows (f : Int → List Ed) (c : Int) (l : List Int) : ((l.zip (l.map f)).filterMap fun x => if x.1 = c then some x.2 else none).flatten = l.flatMap fun v => if v = c then f v else [] := by
 induction l with
 | nil => rfl
 | cons a l ih =>
  rw [List.map_cons, List.zip_cons_cons, List.filterMap_cons, List.flatMap_cons]
  by_cases ha : a = c
  ·rw [if_pos ha, if_pos ha]
   dsimp only
   rw [List.flatten_cons, ih]
  ·rw [if_neg ha, if_neg ha]
   dsimp only
   rw [ih, List.nil_append]
theorem flatten_fm {α β : Type} (f : α → List (List β)) : ∀ l : List α, (l.flatMap f).flatten = l.flatMap fun v => (f v).flatten
 | [] => rfl
 | a :: l => by rw [List.flatMap_cons, List.flatMap_cons, List.flatten_append, flatten_fm f l]
theorem fm_congr {α β : Type} {f g : α → List β} : ∀ {l : List α}, (∀ x ∈ l, f x = g x) → l.flatMap f = l.flatMap g
 | [], _ => rfl
 | a :: l, h => by rw [List.flatMap_cons, List.flatMap_cons, h a (by simp), fm_congr fun x hx => h x (by simp [hx])]
theorem ref_flat (ho : okG V h ps) (hn : 1 ≤ ps.length ∧ ps.length ≤ 64) : ((List.range V.toNat).flatMap fun (v : Nat) => rowsV (pw ps (v : Int)) (v : Int) (pw ps (v : Int)).own.length).flatten = (List.range V.toNat).flatMap fun (v : Nat) => fromF h (v : Int) := by
 obtain ⟨hV1, hV2, _, _⟩ := checkF_ok (okG_chk ho hn.1)
 rw [flatten_fm]
 apply fm_congr
 intro v hv
 rw [List.mem_range] at hv
 obtain ⟨w, hw, hp⟩ := okG_pw ho hn (v := (v : Int)) (by omega) (by omega)
 have e := okG_is ho hp
 rw [e]
 unfold rowsV
 rw [List.take_of_length_le (by simp), zip_map_rows, flat_one _ _ _ (owned_nodup _ _ _), if_pos ((mem_own ⟨hV1, hV2⟩ (by omega)).2 ⟨by omega, by omega, hw⟩)]
theorem all_filt (ho : okG V h ps) (hn : 1 ≤ ps.length ∧ ps.length ≤ 64) (c : Int) : (allOut ps).filter (fun e => e.1 == c) = fromF h c := by
 obtain ⟨hV1, hV2, _, _⟩ := checkF_ok (okG_chk ho hn.1)
 have e1 : ps = (List.range ps.length).map fun (w : Nat) => (⟨w, ps.length, V, ownedF V ps.length w, (ownedF V ps.length w).map (fromF h), (ownedF V ps.length w).map (toF h)⟩ : PartV) := by
  apply List.ext_getElem?
  intro w
  rw [List.getElem?_map]
  by_cases hw : w < ps.length
  ·rw [List.getElem?_range hw, Option.map_some, List.getElem?_eq_getElem hw]
   congr 1
   exact okG_is ho (List.getElem?_eq_getElem hw)
  ·rw [List.getElem?_eq_none (by omega), List.getElem?_eq_none (by simp; omega)]
   rfl
 have e2 : (allOut ps).filter (fun e => e.1 == c) = (List.range ps.length).flatMap fun (w : Nat) => if c ∈ ownedF V ps.length w then fromF h c else [] := by
  unfold allOut
  conv => lhs; rw [e1]
  rw [List.flatMap_map, List.filter_flatMap]
  apply fm_congr
  intro w hw
  dsimp only
  rw [← List.flatMap_def, List.filter_flatMap]
  rw [show (fun v => (fromF h v).filter fun e => e.1 == c) = fun v => if v = c then fromF h v else [] from funext fun v => filt_filt h v c]
  exact flat_one _ _ _ (owned_nodup _ _ _)
 rw [e2]
 by_cases hc : 0 ≤ c ∧ c < V
 ·obtain ⟨w, hw, hp⟩ := okG_pw ho hn (v := c) hc.1 (by omega)
  have hwl := (List.getElem?_eq_some_iff.1 hp).1
  rw [show (fun (x : Nat) => if c ∈ ownedF V ps.length x then fromF h c else []) = fun x => if x = w then (fun _ => fromF h c) x else [] from funext fun x => by
   by_cases hx : x = w
   ·rw [if_pos hx, if_pos ((mem_own ⟨hV1, hV2⟩ (by omega)).2 ⟨hc.1, hc.2, by rw [hw, hx]⟩)]
   ·rw [if_neg hx, if_neg fun hm => hx (by have := ((mem_own ⟨hV1, hV2⟩ (by omega)).1 hm).2.2; omega)]]
  rw [flat_one _ _ _ List.nodup_range, if_pos (List.mem_range.2 hwl)]
 ·have e3 : fromF h c = [] := by
   unfold fromF
   rw [List.filter_eq_nil_iff]
   intro e he hh
   have := okG_in ho hn.1 he
   simp only [beq_iff_eq] at hh
   omega
  rw [e3]
  simp
theorem flat_sorted (h : List Ed) (n : Nat) : ((List.range n).flatMap fun (v : Nat) => fromF h (v : Int)).Pairwise (fun x y => x.1 ≤ y.1) := by
 rw [List.pairwise_flatMap]
 refine ⟨fun v _ => ?_, ?_⟩
 ·rw [List.pairwise_iff_forall_sublist]
  intro a b hs
  have ha := hs.subset (show a ∈ [a, b] by simp)
  have hb := hs.subset (show b ∈ [a, b] by simp)
  unfold fromF at ha hb
  have := (List.mem_filter.1 ha).2
  have := (List.mem_filter.1 hb).2
  simp only [beq_iff_eq] at *
  omega
 ·refine List.pairwise_lt_range.imp fun {a b} hab x hx y hy => ?_
  unfold fromF at hx hy
  have := (List.mem_filter.1 hx).2
  have := (List.mem_filter.1 hy).2
  simp only [beq_iff_eq] at *
  omega
theorem flat_filt (ho : okG V h ps) (hn : 1 ≤ ps.length) (c : Int) : ((List.range V.toNat).flatMap fun (v : Nat) => fromF h (v : Int)).filter (fun e => e.1 == c) = fromF h c := by
 obtain ⟨hV1, hV2, _, _⟩ := checkF_ok (okG_chk ho hn)
 rw [List.filter_flatMap]
 by_cases hc : 0 ≤ c ∧ c < V
 ·obtain ⟨k, rfl⟩ : ∃ k : Nat, c = (k : Int) := ⟨_, (Int.toNat_of_nonneg hc.1).symm⟩
  rw [show (fun (v : Nat) => (fromF h (v : Int)).filter fun e => e.1 == (k : Int)) = fun v => if v = k then (fun v => fromF h (v : Int)) v else [] from funext fun v => by
   rw [filt_filt]
   by_cases hv : v = k
   ·rw [if_pos hv, if_pos (by omega)]
   ·rw [if_neg hv, if_neg (by omega)]]
  rw [flat_one _ _ _ List.nodup_range, if_pos (List.mem_range.2 (by omega))]
 ·have e3 : fromF h c = [] := by
   unfold fromF
   rw [List.filter_eq_nil_iff]
   intro e he hh
   have := okG_in ho hn he
   simp only [beq_iff_eq] at hh
   omega
  rw [e3, List.flatMap_eq_nil_iff]
  intro v hv
  rw [filt_filt]
  split
  ·next hh => rw [hh]; exact e3
  ·rfl
end
theorem wrap_sub (a b : Int) (ha : 0 ≤ a ∧ a < 512) (hb : 0 ≤ b ∧ b < 512) : wrap64 (a - b) = a - b := IntWalk.wrap64_in _ (by omega)
def ltE (x y : Ed) : Bool := decide (wrap64 (x.1 - y.1) < 0)
theorem key_from {d : List Ed} (h : ∀ e ∈ d, 0 ≤ e.1 ∧ e.1 < 512) : KeyOn ltE (fun e : Ed => e.1) d := fun x y hx hy => by
 unfold ltE
 rw [wrap_sub _ _ (h x hx) (h y hy)]
 congr 1
 exact propext ⟨fun h => by dsimp only; omega, fun h => by dsimp only at h; omega⟩
theorem srt_pair {d : List Ed} {n : Nat} (h : Srt (fun e : Ed => e.1) 0 n d) (hl : d.length ≤ n) : d.Pairwise (fun x y => x.1 ≤ y.1) := by
 rw [List.pairwise_iff_getElem]
 intro i j hi hj hij
 exact h i j _ _ (by omega) hij (by omega) (List.getElem?_eq_getElem hi) (List.getElem?_eq_getElem hj)
theorem sort_flat {V : Int} {h d : List Ed} {ps : List PartV} (hn : 1 ≤ ps.length ∧ ps.length ≤ 64) (hs : StS ltE (fun e : Ed => e.1) (allOut ps).length (allOut ps) d) (ho : okG V h ps) :
  d = (List.range V.toNat).flatMap fun (v : Nat) => fromF h (v : Int) := by
 obtain ⟨hV1, hV2, _, _⟩ := checkF_ok (okG_chk ho hn.1)
 have hin : ∀ e ∈ allOut ps, 0 ≤ e.1 ∧ e.1 < 512 := fun e he => by
  have h1 : e ∈ (allOut ps).filter (fun x => x.1 == e.1) := List.mem_filter.2 ⟨he, by simp⟩
  rw [all_filt ho hn] at h1
  have := okG_in ho hn.1 (List.mem_filter.1 h1).1
  omega
 obtain ⟨hm, hk⟩ := hs
 obtain ⟨h1, h2⟩ := hk (key_from hin)
 refine uniq_sorted (fun e : Ed => e.1) _ _ (srt_pair h1 (by rw [hm.perm.length_eq]; exact Nat.le_refl _)) (flat_sorted h _) fun c => ?_
 rw [h2 c, all_filt ho hn, flat_filt ho hn.1]
theorem join_law {V : Int} {d : List Ed} {ps : List PartV} (hn : 1 ≤ ps.length ∧ ps.length ≤ 64) (hs : StS ltE (fun e : Ed => e.1) (allOut ps).length (allOut ps) d) :
  (okG V d ps → refG V.toNat ps = d) ∧ (okG V (refG V.toNat ps) ps → refG V.toNat ps = d) := by
 constructor
 ·intro ho
  have h1 := sort_flat hn hs ho
  have h2 := ref_flat ho hn
  have hl := (checkF_ok (okG_chk ho hn.1)).2.2.1
  unfold refG
  rw [lim_flat _ _ (.inr (by rw [List.nil_append, h2, ← h1]; exact hl)), List.nil_append, h2, ← h1]
 ·intro ho
  have h1 := sort_flat hn hs ho
  have h2 := ref_flat ho hn
  have hl := (checkF_ok (okG_chk ho hn.1)).2.2.1
  have h3 : refG V.toNat ps = (List.range V.toNat).flatMap fun (v : Nat) => fromF (refG V.toNat ps) (v : Int) := by
   rw [← h2]
   conv => lhs; unfold refG
   rw [lim_flat _ _ (.inl hl), List.nil_append]
  rw [h1]
  exact h3
end Go.Proofs.Ytihdpfjonkagaaa
