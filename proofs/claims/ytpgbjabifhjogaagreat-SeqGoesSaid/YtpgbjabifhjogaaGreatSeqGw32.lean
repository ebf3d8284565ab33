/- Lemmas: Qlh, Qgl, Qgb, Qgr, Qgt, Qst, Qgw. -/
import Derived.Test.YtpgbjabifhjogaaGreatProg
import Derived.Lib.Hide
import Derived.WalkSpells
import Derived.WalkMore
import Derived.Shelf.SlicesE.Kit
import Derived.Test.YtpgbjabifhjogaaGreatSeqGw30
import Derived.Test.YtpgbjabifhjogaaGreatSeqGw31
set_option linter.unusedVariables false
set_option linter.unusedSimpArgs false
set_option maxRecDepth 100000
set_option maxHeartbeats 16000000
namespace Go.Proofs.YtpgbjabifhjogaaGreat
open Go.RowKit Go.Shelf
attribute [local go_sem] Oper.semAt_some
theorem sameV_rfl (p : SV) : sameV p p = true := by simp [sameV, eqL]
def lit12 (V : Int) (es : List Ed) : Bool := decide ((es.length : Int) ≤ 80) && (decide (V ≤ 12) || decide (checkF V es ≠ 0))
theorem lit12_le {V : Int} {es : List Ed} (h : lit12 V es = true) : es.length ≤ 80 := by
 unfold lit12 at h
 simp only [Bool.and_eq_true, decide_eq_true_eq] at h
 omega
def zeroV : SV := ⟨0, [], [], [], 0, 0⟩
def resV (E : Int) (s : SV) : SV := if E = 0 then s else zeroV
theorem TillPost.val {w : World} {E : Int} {V : Nat} {s : SV} {e : Ending} {w' : World} (h : TillPost w E V s e w') (hs : E = 0 → OkS V s ∧ V ≤ 512) :
  ∃ Av Ac Ai nv nc ni cv cc ci, e = .returned (.tuple #[.agg #[.int .i64 (resV E s).st, .slice Av nv cv, .slice Ac nc cc, .slice Ai ni ci, .int .i64 (resV E s).sm, .int .i64 (resV E s).mo], .int .i64 E]) ∧ VLen (resV E s) nv nc ni ∧ VIn w' (resV E s) Av Ac Ai ∧ Below w.heap.size w w' ∧ nv ≤ 512 ∧ nc ≤ 512 ∧ ni ≤ 512 := by
 rcases h with ⟨h, he, hb⟩ | ⟨h, Av, Ac, Ai, cv, cc, ci, he, hin, hb, _⟩
 ·rw [show resV E s = zeroV from if_neg h]
  exact ⟨none, none, none, 0, 0, 0, 0, 0, 0, he, ⟨rfl, rfl, rfl⟩, ⟨fun hn => absurd rfl hn, fun hn => absurd rfl hn, fun hn => absurd rfl hn⟩, hb, by omega, by omega, by omega⟩
 ·subst h
  rw [show resV 0 s = s from if_pos rfl]
  have hk := hs rfl
  exact ⟨Av, Ac, Ai, V, V, V, cv, cc, ci, he, ⟨hk.1.lv, hk.1.lc, hk.1.li⟩, hin, hb, hk.2, hk.2, hk.2⟩
theorem lightq_any (w : World) (V : Int) (A : Option Addr) (es : List Ed) (L c : Nat) (hL : es.length = L) (hL9 : L ≤ 9223372036854775807) (hE : Eds w w.heap.size A es) : Calls Tryz.prog 10 #[.agg #[.int .i64 V, .slice A L c]] w fun e w' => e = .returned (.bool (lit12 V es)) ∧ Below w.heap.size w w' := by
 have HL := hide hL
 have HE := hide hE
 clear hL hE
 obtain ⟨u, hu⟩ : ∃ u, w.alloc (.cells #[.int .i64 V, .slice A L c] 24) = u := ⟨_, rfl⟩
 have HB := hide (show Below w.heap.size w u by rw [← hu]; exact (Below.refl _ _).alloc (Nat.le_refl _) _)
 have hz : w.heap.size < u.heap.size := by rw [← hu]; simp
 have hG : u.heap[w.heap.size]? = some (.cells #[.int .i64 V, .slice A L c] 24) := by rw [← hu]; exact heap_alloc_last _ _
 have HG := hide hG
 have HU := hide hu
 have c0 : u.cell? ⟨w.heap.size, 0, none⟩ = some (.int .i64 V) := cell_of_row _ _ 0 _ _ _ hG
 have c1 : u.cell? ⟨w.heap.size, 1, none⟩ = some (.slice A L c) := cell_of_row _ _ 1 _ _ _ hG
 clear hu hG
 rcases hv : lit12 V es with _ | _
 ·by_cases h8 : L ≤ 80
  rotate_left
  ·clear hv
   have hlc := light_any u V A L c 80
   rw [show decide ((L : Int) ≤ 80) = false by simp; omega] at hlc
   have HLC := hide hlc
   clear hlc
   go_enter Tryz.func10, Tryz.ntmps10
   go_upto_region 1 with fail
   rw [HU.out]
   go_wp2_with fail
   refine HLC.out.mono ?_
   rintro e y ⟨rfl, hy⟩
   have HY := hide hy
   have szy : u.heap.size ≤ y.heap.size := hy.size
   clear hy c0 c1
   have HF := hide (HB.out.trans (HY.out.mono HB.out.size))
   go_wp2
   go_ret
   first | exact ⟨rfl, HF.out⟩ | exact ⟨ret_b (by simp [h12]), HF.out⟩
  have h12 : ¬ V ≤ 12 := by intro h; simp [lit12, HL.out, h] at hv; omega
  have hc0 : checkF V es = 0 := by simp [lit12, HL.out] at hv; omega
  clear hv
  have hlc := light_any u V A L c 80
  rw [show decide ((L : Int) ≤ 80) = true by simp; omega] at hlc
  have HLC := hide hlc
  clear hlc
  go_enter Tryz.func10, Tryz.ntmps10
  go_upto_region 1 with fail
  rw [HU.out]
  go_wp2_with fail
  refine HLC.out.mono ?_
  rintro e y ⟨rfl, hy⟩
  have HY := hide hy
  have szy : u.heap.size ≤ y.heap.size := hy.size
  clear hy c0 c1
  have zy : w.heap.size < y.heap.size := by omega
  have c0 : y.cell? ⟨w.heap.size, 0, none⟩ = some (.int .i64 V) := cell_of_row _ _ 0 _ _ _ ((HY.out.block _ hz).trans HG.out)
  have c1 : y.cell? ⟨w.heap.size, 1, none⟩ = some (.slice A L c) := cell_of_row _ _ 1 _ _ _ ((HY.out.block _ hz).trans HG.out)
  have hck := rcheck_any y V A es L c HL.out ((HE.out.below (HB.out.trans (HY.out.mono HB.out.size)) (Nat.le_refl _)).more (HB.out.trans (HY.out.mono HB.out.size)).size) hL9
  rw [hc0] at hck
  have HCK := hide hck
  clear hck hc0
  go_wp2_with fail
  refine HCK.out.mono ?_
  rintro e z ⟨rfl, hzz⟩
  have HF := hide ((HB.out.trans (HY.out.mono HB.out.size)).trans (hzz.mono (by have := HB.out.size; omega)))
  clear hzz
  go_wp2
  go_ret
  first | exact ⟨rfl, HF.out⟩ | exact ⟨ret_b (by simp [h12]), HF.out⟩
 ·have h8 : L ≤ 80 := by have := lit12_le hv; have := HL.out; omega
  by_cases h12 : V ≤ 12
  ·clear hv
   have hlc := light_any u V A L c 80
   rw [show decide ((L : Int) ≤ 80) = true by simp; omega] at hlc
   have HLC := hide hlc
   clear hlc
   go_enter Tryz.func10, Tryz.ntmps10
   go_upto_region 1 with fail
   rw [HU.out]
   go_wp2_with fail
   refine HLC.out.mono ?_
   rintro e y ⟨rfl, hy⟩
   have HY := hide hy
   have szy : u.heap.size ≤ y.heap.size := hy.size
   clear hy c0 c1
   have zy : w.heap.size < y.heap.size := by omega
   have c0 : y.cell? ⟨w.heap.size, 0, none⟩ = some (.int .i64 V) := cell_of_row _ _ 0 _ _ _ ((HY.out.block _ hz).trans HG.out)
   have c1 : y.cell? ⟨w.heap.size, 1, none⟩ = some (.slice A L c) := cell_of_row _ _ 1 _ _ _ ((HY.out.block _ hz).trans HG.out)
   have HF := hide (HB.out.trans (HY.out.mono HB.out.size))
   go_wp2
   go_ret
   first | exact ⟨rfl, HF.out⟩ | exact ⟨ret_b (by simp [h12]), HF.out⟩
  ·have hc0 : checkF V es ≠ 0 := by simp [lit12, HL.out] at hv; omega
   clear hv
   have hlc := light_any u V A L c 80
   rw [show decide ((L : Int) ≤ 80) = true by simp; omega] at hlc
   have HLC := hide hlc
   clear hlc
   go_enter Tryz.func10, Tryz.ntmps10
   go_upto_region 1 with fail
   rw [HU.out]
   go_wp2_with fail
   refine HLC.out.mono ?_
   rintro e y ⟨rfl, hy⟩
   have HY := hide hy
   have szy : u.heap.size ≤ y.heap.size := hy.size
   clear hy c0 c1
   have zy : w.heap.size < y.heap.size := by omega
   have c0 : y.cell? ⟨w.heap.size, 0, none⟩ = some (.int .i64 V) := cell_of_row _ _ 0 _ _ _ ((HY.out.block _ hz).trans HG.out)
   have c1 : y.cell? ⟨w.heap.size, 1, none⟩ = some (.slice A L c) := cell_of_row _ _ 1 _ _ _ ((HY.out.block _ hz).trans HG.out)
   have hck := rcheck_any y V A es L c HL.out ((HE.out.below (HB.out.trans (HY.out.mono HB.out.size)) (Nat.le_refl _)).more (HB.out.trans (HY.out.mono HB.out.size)).size) hL9
   obtain ⟨E, hEe⟩ : ∃ E, checkF V es = E := ⟨_, rfl⟩
   rw [hEe] at hck hc0
   have hE1 : (E == 0) = false := by simpa using hc0
   have hE2 : (E != 0) = true := by simpa using hc0
   have HCK := hide hck
   clear hck hc0
   clear hEe
   go_wp2_with fail
   refine HCK.out.mono ?_
   rintro e z ⟨rfl, hzz⟩
   have HF := hide ((HB.out.trans (HY.out.mono HB.out.size)).trans (hzz.mono (by have := HB.out.size; omega)))
   clear hzz
   go_wp2
   go_ret
   first | exact ⟨rfl, HF.out⟩ | exact ⟨ret_b (by simp [h12]), HF.out⟩
end Go.Proofs.YtpgbjabifhjogaaGreat
namespace Go.Proofs.YtpgbjabifhjogaaGreat
open Go.RowKit
theorem nextVals_get (k j3 : Int) (V : Nat) (s : SV) {n v : Nat} (h : v < n) : (nextVals k j3 V s n).getD v 0 = (compV k j3 V s v).1 := by
 rw [List.getD_eq_getElem?_getD]
 simp [nextVals, h]
theorem nextChs_get (k j3 : Int) (V : Nat) (s : SV) {n v : Nat} (h : v < n) : (nextChs k j3 V s n).getD v false = (compV k j3 V s v).2 := by
 rw [List.getD_eq_getElem?_getD]
 simp [nextChs, h]
theorem comp_falls {k j3 : Int} {V : Nat} {s : SV} {v : Nat} (hk : k = 2 ∨ k = 3) : (compV k j3 V s v).1 ≤ s.vals.getD v 0 := by
 unfold compV compK
 rcases hk with rfl | rfl
 ·rw [if_neg (by decide), if_pos rfl]
  unfold ltakeOf
  split
  ·rename_i h
   exact Int.le_of_lt h.2
  ·exact Int.le_refl _
 ·rw [if_neg (by decide), if_neg (by decide), if_pos rfl]
  unfold takeOf
  split
  ·rename_i h
   exact Int.le_of_lt h.2
  ·exact Int.le_refl _
theorem next_falls {k j3 : Int} {es : List Ed} {V : Nat} {s : SV} {v : Nat} (hk : k = 2 ∨ k = 3) (hv : v < V) : (nextV k j3 es V s).vals.getD v 0 ≤ s.vals.getD v 0 := by
 show (nextVals k j3 V s V).getD v 0 ≤ _
 rw [nextVals_get _ _ _ _ hv]
 exact comp_falls hk
theorem dadd_zero {a b : Int} (ha : 0 ≤ a) (hb : 0 ≤ b) (h : dadd a b = 0) : a = 0 ∧ b = 0 := by
 have h1 := dist_bounds a
 have h2 := dist_bounds b
 have h3 : dist a = 0 ∧ dist b = 0 := by
  unfold dadd at h
  split at h <;> omega
 unfold dist at h3
 obtain ⟨h4, h5⟩ := h3
 constructor
 ·split at h4 <;> (try split at h4) <;> omega
 ·split at h5 <;> (try split at h5) <;> omega
theorem tot_none {k : Int} {es : List Ed} {was vals : List Int} {chs : List Bool} (hk : k = 2 ∨ k = 3) : ∀ {n : Nat}, (totV k es was vals chs n).2 = 0 → ∀ v, v < n → chs.getD v false = false
 | 0, _, v, hv => absurd hv (Nat.not_lt_zero v)
 | n + 1, h, v, hv => by
  have hj : ∀ s m q r : Int, joinF k s m q r = (dadd s q, dadd m r) := fun s m q r => by
   unfold joinF
   rcases hk with rfl | rfl <;> simp
  rw [totV, hj] at h
  have h0 : 0 ≤ (totV k es was vals chs n).2 := by
   cases n with
   | zero => exact Int.le_refl _
   | succ n => rw [totV, hj]; exact (dadd_rg _ _).1
  have hp : ∀ c : Bool, (partT k (was.getD n 0) (vals.getD n 0) c (fromF es n).length).2 = if c = true then 1 else 0 := fun c => by
   unfold partT
   rcases hk with rfl | rfl <;> cases c <;> simp
  have hd := dadd_zero h0 (by rw [hp]; split <;> omega) h
  by_cases hv2 : v < n
  ·exact tot_none hk hd.1 v hv2
  ·have e : v = n := by omega
   subst e
   have h2 := hd.2
   rw [hp] at h2
   cases hc : chs.getD v false with
   | false => rfl
   | true => rw [hc] at h2; simp at h2
theorem tot_zero {k : Int} {es : List Ed} {was vals : List Int} {chs : List Bool} (hk : k = 2 ∨ k = 3) : ∀ {n : Nat}, (∀ v, v < n → chs.getD v false = false) → totV k es was vals chs n = (0, 0)
 | 0, _ => rfl
 | n + 1, h => by
  rw [totV, tot_zero hk (fun v hv => h v (by omega)), h n (by omega)]
  rcases hk with rfl | rfl <;> simp [partT, joinF, dadd, dist]
theorem row_none {k : Int} {es : List Ed} {vals : List Int} {chs : List Bool} {v : Nat} (hk : k = 2 ∨ k = 3) (h : chs.getD v false = false) : rowV k es vals chs v = [] := by
 unfold rowV sndD sndL
 rw [h]
 rcases hk with rfl | rfl <;> simp [lbMs, wyMs, docM]
theorem rows_none {k : Int} {es : List Ed} {vals : List Int} {chs : List Bool} (hk : k = 2 ∨ k = 3) : ∀ {n : Nat}, (∀ v, v < n → chs.getD v false = false) → (rowsV k es vals chs n).flatten = []
 | 0, _ => rfl
 | n + 1, h => by
  rw [rowsV_succ, List.flatten_append, rows_none hk (fun v hv => h v (by omega)), row_none hk (h n (by omega))]
  rfl
theorem told_none {k : Int} {es : List Ed} {vals : List Int} {chs : List Bool} {n v : Nat} (hk : k = 2 ∨ k = 3) (h : ∀ v, v < n → chs.getD v false = false) (hv : v < n) : (toldM k es vals chs n).getD v (false, 0) = (false, 0) := by
 unfold toldM mails
 rw [rows_none hk h, List.getD_eq_getElem?_getD]
 simp [ownL, hv, boxF, mlOf]
theorem done_stays {k j3 : Int} {es : List Ed} {V : Nat} {was vals : List Int} {chs : List Bool} {st : Int} (hk : k = 2 ∨ k = 3) (hl : vals.length = V) (h : (tellV k es was vals chs V st).mo = 0) :
  (nextV k j3 es V (tellV k es was vals chs V st)).vals = vals ∧ (nextV k j3 es V (tellV k es was vals chs V st)).mo = 0 := by
 have hc := tot_none hk h
 have hcv : ∀ v, v < V → compV k j3 V (tellV k es was vals chs V st) v = (vals.getD v 0, false) := fun v hv => by
  unfold compV
  rw [show (tellV k es was vals chs V st).inb.getD v (false, 0) = (false, 0) from told_none hk hc hv]
  rcases hk with rfl | rfl <;> simp [compK, ltakeOf, takeOf, tellV]
 have hn : nextVals k j3 V (tellV k es was vals chs V st) V = vals := by
  refine List.ext_getElem? fun v => ?_
  by_cases hv : v < V
  ·simp only [nextVals, List.getElem?_map, List.getElem?_range hv, Option.map_some]
   rw [hcv v hv, List.getD_eq_getElem?_getD, List.getElem?_eq_getElem (by omega)]
   rfl
  ·rw [List.getElem?_eq_none (by simp [nextVals]; omega), List.getElem?_eq_none (by omega)]
 refine ⟨hn, ?_⟩
 show (totV k es _ _ (nextChs k j3 V (tellV k es was vals chs V st) V) V).2 = 0
 rw [tot_zero hk (fun v hv => by rw [nextChs_get _ _ _ _ hv, hcv v hv])]
end Go.Proofs.YtpgbjabifhjogaaGreat
namespace Go.Proofs.YtpgbjabifhjogaaGreat
open Go.RowKit
def IN (x : Int) : Prop := 0 ≤ x ∧ x ≤ 4611686018427387904
theorem IN.wi {x : Int} (h : IN x) : wiB x = true := by
 unfold wiB
 simp [h.1, h.2]
theorem dadd_in (a b : Int) : IN (dadd a b) := dadd_rg a b
theorem comb_in {k a b : Int} (ha : IN a) (hb : IN b) : IN (combF k a b) := by
 unfold combF
 split
 ·exact dadd_in a b
 ·unfold IN at *
  split <;> omega
def inM (l : List Ms) : Prop := ∀ m ∈ l, IN m.2
theorem addM_in {k : Int} {m : Ms} (hm : IN m.2) : ∀ {l : List Ms}, inM l → inM (addM k l m)
 | [], _ => fun x hx => by rw [List.mem_singleton.1 hx]; exact hm
 | y :: l, h => by
  have hy := h y (List.mem_cons_self ..)
  have hl : inM l := fun x hx => h x (List.mem_cons_of_mem _ hx)
  have ih := addM_in (k := k) hm hl
  unfold addM
  split
  ·intro x hx
   rcases List.mem_cons.1 hx with rfl | hx
   ·exact hy
   ·exact ih x hx
  ·split
   ·intro x hx
    rcases List.mem_cons.1 hx with rfl | hx
    ·exact comb_in hy hm
    ·exact hl x hx
   ·intro x hx
    rcases List.mem_cons.1 hx with rfl | hx
    ·exact hm
    ·exact h x hx
theorem docM_in {k : Int} {l : List Ms} (h : inM l) : inM (docM k l) := by
 have g : ∀ (l acc : List Ms), inM l → inM acc → inM (l.foldl (addM k) acc) := by
  intro l
  induction l with
  | nil => intro acc _ ha; exact ha
  | cons x l ih => intro acc hl ha; exact ih _ (fun y hy => hl y (List.mem_cons_of_mem _ hy)) (addM_in (hl x (List.mem_cons_self ..)) ha)
 exact g l [] h (fun x hx => by cases hx)
theorem evenF_le {a n : Int} (ha : 0 ≤ a) : 0 ≤ evenF a n ∧ evenF a n ≤ a ∧ (1 ≤ n → evenF a n = a / n) := by
 unfold evenF shareF
 by_cases h : a < 0 ∨ n < 1
 ·rw [if_pos h]
  simp only
  refine ⟨by decide, ha, fun h1 => by omega⟩
 ·rw [if_neg h]
  simp only [if_true]
  rw [Int.tdiv_eq_ediv_of_nonneg ha]
  exact ⟨Int.ediv_nonneg ha (by omega), Int.ediv_le_self _ ha, fun _ => rfl⟩
theorem sndD_in {k : Int} {ch : Bool} {v y : Int} {outs backs : List Ed} (hy : IN y) : inM (sndD k ch v y outs backs) := by
 refine docM_in ?_
 unfold sndL
 split
 ·intro m hm
  obtain ⟨e, he, rfl⟩ := List.mem_map.1 hm
  have := evenF_le (n := (outs.length : Int)) hy.1
  exact ⟨this.1, Int.le_trans this.2.1 hy.2⟩
 ·split
  ·intro m hm
   unfold lbMs at hm
   split at hm
   ·obtain ⟨u, hu, rfl⟩ := List.mem_map.1 hm
    exact hy
   ·cases hm
  ·split
   ·intro m hm
    unfold wyMs at hm
    split at hm
    ·obtain ⟨e, he, rfl⟩ := List.mem_map.1 hm
     exact dadd_in _ _
    ·cases hm
   ·intro m hm; cases hm
theorem IN_zero : IN 0 := by unfold IN; omega
theorem getD_in {l : List Int} (h : ∀ x ∈ l, IN x) (v : Nat) : IN (l.getD v 0) := by
 by_cases hv : v < l.length
 ·rw [List.getD_eq_getElem?_getD, List.getElem?_eq_getElem hv]; exact h _ (List.getElem_mem hv)
 ·rw [List.getD_eq_getElem?_getD, List.getElem?_eq_none (by omega)]; exact IN_zero
theorem rowsV_in {k : Int} {es : List Ed} {vals : List Int} {chs : List Bool} {n : Nat} (hv : ∀ x ∈ vals, IN x) : inM (rowsV k es vals chs n).flatten := fun m hm => by
 obtain ⟨r, hr, hmr⟩ := List.mem_flatten.1 hm
 obtain ⟨v, _, rfl⟩ := List.mem_map.1 hr
 exact sndD_in (getD_in hv v) m hmr
theorem boxF_in {k : Int} : ∀ {l : List Ms}, inM l → ∀ v x, boxF k l v = some x → IN x := by
 suffices h : ∀ (l : List Ms) (f : Int → Option Int), inM l → (∀ v x, f v = some x → IN x) → ∀ v x, l.foldl (addB k) f v = some x → IN x from fun {l} hl => h l _ hl (fun v x hv => by cases hv)
 intro l
 induction l with
 | nil => intro f _ hf v x hv; exact hf v x hv
 | cons m l ih =>
  intro f hl hf
  refine ih _ (fun y hy => hl y (List.mem_cons_of_mem _ hy)) (fun v x hv => ?_)
  have hm := hl m (List.mem_cons_self ..)
  unfold addB bxPut at hv
  split at hv
  ·injection hv with hv
   subst hv
   cases hq : f m.1 with
   | some y => exact comb_in (hf _ _ hq) hm
   | none => exact hm
  ·exact hf v x hv
theorem mails_in {k : Int} {l : List Ms} {own : List Int} (h : inM l) : ∀ m ∈ mails k l own, IN m.2 := fun m hm => by
 obtain ⟨v, _, rfl⟩ := List.mem_map.1 hm
 cases hq : boxF k l v with
 | none => exact IN_zero
 | some x => exact boxF_in h v x hq
theorem totV_in {k : Int} {es : List Ed} {was vals : List Int} {chs : List Bool} (hv : ∀ x ∈ vals, IN x) : ∀ n, IN (totV k es was vals chs n).1 ∧ IN (totV k es was vals chs n).2
 | 0 => ⟨IN_zero, IN_zero⟩
 | n + 1 => by
  have ih := totV_in (k := k) (es := es) (was := was) (chs := chs) hv n
  rw [totV]
  generalize totV k es was vals chs n = T at ih
  have hp : IN (partT k (was.getD n 0) (vals.getD n 0) (chs.getD n false) (fromF es n).length).2 := by
   have h1 := dist_bounds (was.getD n 0)
   have h2 := dist_bounds (vals.getD n 0)
   unfold partT apartF IN
   split
   ·dsimp only; split <;> omega
   ·split <;> (dsimp only; omega)
  unfold joinF
  split
  ·exact ⟨dadd_in _ _, by unfold IN at *; dsimp only; omega⟩
  ·split
   ·exact ⟨dadd_in _ _, dadd_in _ _⟩
   ·exact ⟨IN_zero, IN_zero⟩
structure InS (V : Nat) (s : SV) : Prop where
 ok : OkS V s
 vals : ∀ x ∈ s.vals, IN x
 inb : ∀ m ∈ s.inb, IN m.2
 sm : IN s.sm
 mo : IN s.mo
theorem InS.may {V : Nat} {s : SV} (h : InS V s) (h0 : 0 ≤ s.st) (h1 : s.st ≤ 2000) : mayV (V : Int) s = true := by
 unfold mayV
 have a1 := h.ok.lv
 have a2 := h.ok.lc
 have a3 := h.ok.li
 have a4 : s.vals.all wiB = true := List.all_eq_true.2 fun x hx => (h.vals x hx).wi
 have a5 : s.inb.all okM = true := List.all_eq_true.2 fun m hm => by simp [okM, (h.inb m hm).wi]
 simp [h0, h1, a1, a2, a3, a4, a5, h.sm.wi, h.mo.wi]
theorem tellV_in {k : Int} {es : List Ed} {was vals : List Int} {chs : List Bool} {V : Nat} {st : Int} (he : edsB es) (h1 : vals.length = V) (h2 : chs.length = V) (hv : ∀ x ∈ vals, IN x) : InS V (tellV k es was vals chs V st) :=
 ⟨tellV_ok he h1 h2 (fun x hx => by have := hv x hx; unfold IN at this; unfold i64V; omega), hv, mails_in (rowsV_in hv), (totV_in hv V).1, (totV_in hv V).2⟩
end Go.Proofs.YtpgbjabifhjogaaGreat
namespace Go.Proofs.YtpgbjabifhjogaaGreat
open Go.RowKit
def sumN (f : Nat → Int) : Nat → Int
 | 0 => 0
 | n + 1 => sumN f n + f n
theorem sumN_le {f g : Nat → Int} : ∀ {n : Nat}, (∀ v, v < n → f v ≤ g v) → sumN f n ≤ sumN g n
 | 0, _ => Int.le_refl _
 | n + 1, h => by
  have h1 := sumN_le (n := n) (fun v hv => h v (by omega))
  have h2 := h n (by omega)
  unfold sumN
  omega
theorem sumN_nonneg {f : Nat → Int} : ∀ {n : Nat}, (∀ v, v < n → 0 ≤ f v) → 0 ≤ sumN f n
 | 0, _ => Int.le_refl _
 | n + 1, h => by
  have h1 := sumN_nonneg (n := n) (fun v hv => h v (by omega))
  have h2 := h n (by omega)
  unfold sumN
  omega
theorem sumN_one {f : Nat → Int} : ∀ {n : Nat}, (∀ v, v < n → 0 ≤ f v) → ∀ v, v < n → f v ≤ sumN f n
 | 0, _, v, hv => absurd hv (Nat.not_lt_zero v)
 | n + 1, h, v, hv => by
  have h0 := sumN_nonneg (n := n) (fun v hv => h v (by omega))
  have h2 := h n (by omega)
  unfold sumN
  by_cases h3 : v < n
  ·have := sumN_one (n := n) (fun v hv => h v (by omega)) v h3
   omega
  ·have e : v = n := by omega
   subst e
   omega
theorem sumN_add (f g : Nat → Int) : ∀ n, sumN (fun v => f v + g v) n = sumN f n + sumN g n
 | 0 => rfl
 | n + 1 => by unfold sumN; rw [sumN_add f g n]; omega
theorem sumN_const (c : Int) : ∀ n : Nat, sumN (fun _ => c) n = (n : Int) * c
 | 0 => by simp [sumN]
 | n + 1 => by
  unfold sumN
  rw [sumN_const c n, show ((n + 1 : Nat) : Int) = (n : Int) + 1 by omega, Int.add_mul, Int.one_mul]
theorem sumN_mul (d : Int) (f : Nat → Int) : ∀ n, sumN (fun v => d * f v) n = d * sumN f n
 | 0 => by simp [sumN]
 | n + 1 => by unfold sumN; rw [sumN_mul d f n, Int.mul_add]
theorem sumN_upd {f g : Nat → Int} {a c : Int} (hc : 0 ≤ c) (h1 : ∀ v : Nat, (v : Int) = a → g v ≤ f v + c) (h2 : ∀ v : Nat, (v : Int) ≠ a → g v ≤ f v) : ∀ n : Nat, sumN g n ≤ sumN f n + c ∧ ((n : Int) ≤ a → sumN g n ≤ sumN f n)
 | 0 => ⟨by simp [sumN]; exact hc, fun _ => Int.le_refl _⟩
 | n + 1 => by
  have ih := sumN_upd hc h1 h2 n
  unfold sumN
  by_cases e : (n : Int) = a
  ·have := ih.2 (by omega)
   have := h1 n e
   exact ⟨by omega, fun h => by omega⟩
  ·have h3 := h2 n e
   exact ⟨by have := ih.1; omega, fun h => by have := ih.2 (by omega); omega⟩
theorem dadd_le {a b : Int} (ha : 0 ≤ a) (hb : 0 ≤ b) : dadd a b ≤ a + b := by
 unfold dadd dist
 split
 ·rename_i h
  (repeat split at h) <;> omega
 ·(repeat split) <;> omega
def msSum : List Ms → Int
 | [] => 0
 | m :: l => m.2 + msSum l
theorem msSum_app : ∀ a b : List Ms, msSum (a ++ b) = msSum a + msSum b
 | [], b => by simp [msSum]
 | m :: a, b => by
  show m.2 + msSum (a ++ b) = m.2 + msSum a + msSum b
  rw [msSum_app a b]
  omega
theorem addM_sum {m : Ms} (hm : 0 ≤ m.2) : ∀ {l : List Ms}, inM l → msSum (addM 1 l m) ≤ msSum l + m.2
 | [], _ => by simp [addM, msSum]
 | y :: l, h => by
  have hy := h y (List.mem_cons_self ..)
  have hl : inM l := fun x hx => h x (List.mem_cons_of_mem _ hx)
  have ih := addM_sum hm hl
  unfold addM
  split
  ·show y.2 + msSum (addM 1 l m) ≤ y.2 + msSum l + m.2
   omega
  ·split
   ·have := dadd_le hy.1 hm
    show combF 1 y.2 m.2 + msSum l ≤ y.2 + msSum l + m.2
    rw [show combF 1 y.2 m.2 = dadd y.2 m.2 from rfl]
    omega
   ·show m.2 + (y.2 + msSum l) ≤ y.2 + msSum l + m.2
    omega
theorem docM_sum {l : List Ms} (h : inM l) : msSum (docM 1 l) ≤ msSum l := by
 have g : ∀ (l acc : List Ms), inM l → inM acc → msSum (l.foldl (addM 1) acc) ≤ msSum acc + msSum l := by
  intro l
  induction l with
  | nil => intro acc _ _; simp [msSum]
  | cons x l ih =>
   intro acc hl ha
   have hx := hl x (List.mem_cons_self ..)
   have h1 := ih (addM 1 acc x) (fun y hy => hl y (List.mem_cons_of_mem _ hy)) (addM_in hx ha)
   have h2 := addM_sum hx.1 ha
   show msSum (l.foldl (addM 1) (addM 1 acc x)) ≤ msSum acc + (x.2 + msSum l)
   omega
 have := g l [] h (fun x hx => by cases hx)
 simp only [msSum] at this
 unfold docM
 omega
theorem box_sum : ∀ {l : List Ms}, inM l → ∀ n : Nat, sumN (fun v => (boxF 1 l (v : Int)).getD 0) n ≤ msSum l := by
 suffices h : ∀ (l : List Ms) (f : Int → Option Int), inM l → (∀ v x, f v = some x → IN x) → ∀ n : Nat, sumN (fun v => (l.foldl (addB 1) f (v : Int)).getD 0) n ≤ sumN (fun v => (f (v : Int)).getD 0) n + msSum l from fun {l} hl n => by
  have h1 := h l (fun _ => none) hl (fun v x hv => by cases hv) n
  have h2 : sumN (fun _ => (none : Option Int).getD 0) n = 0 := by
   rw [show (fun _ : Nat => (none : Option Int).getD 0) = fun _ => (0 : Int) from rfl, sumN_const]
   simp
  unfold boxF
  omega
 intro l
 induction l with
 | nil => intro f _ _ n; simp [msSum]
 | cons m l ih =>
  intro f hl hf n
  have hm := hl m (List.mem_cons_self ..)
  have hl2 : inM l := fun y hy => hl y (List.mem_cons_of_mem _ hy)
  have hf2 : ∀ v x, addB 1 f m v = some x → IN x := fun v x hv => by
   unfold addB bxPut at hv
   split at hv
   ·injection hv with hv
    subst hv
    cases hq : f m.1 with
    | some y => exact comb_in (hf _ _ hq) hm
    | none => exact hm
   ·exact hf v x hv
  have h1 := ih (addB 1 f m) hl2 hf2 n
  have h2 := (sumN_upd (f := fun v => (f (v : Int)).getD 0) (g := fun v => (addB 1 f m (v : Int)).getD 0) (a := m.1) hm.1 (fun v e => by
   unfold addB bxPut
   rw [if_pos e, e]
   cases hq : f m.1 with
   | some y =>
    have := dadd_le (hf _ _ hq).1 hm.1
    show combF 1 y m.2 ≤ y + m.2
    exact this
   | none => simp) (fun v e => by
   unfold addB bxPut
   rw [if_neg e]
   exact Int.le_refl _) n).1
  show sumN (fun v => (l.foldl (addB 1) (addB 1 f m) (v : Int)).getD 0) n ≤ sumN (fun v => (f (v : Int)).getD 0) n + (m.2 + msSum l)
  omega
theorem rk_sum {x : Int} (hx : 0 ≤ x) (es : List Ed) : msSum (rkMs x es) ≤ if es.length = 0 then 0 else x := by
 have h1 : ∀ (c : Int) (l : List Ed), msSum (l.map fun e => ((e.2.1, c) : Ms)) = (l.length : Int) * c := fun c l => by
  induction l with
  | nil => simp [msSum]
  | cons e l ih =>
   show c + msSum (l.map fun e => ((e.2.1, c) : Ms)) = ((l.length + 1 : Nat) : Int) * c
   rw [ih, show ((l.length + 1 : Nat) : Int) = (l.length : Int) + 1 by omega, Int.add_mul, Int.one_mul]
   omega
 unfold rkMs
 rw [h1]
 by_cases h0 : es.length = 0
 ·rw [if_pos h0, h0]
  simp
 ·rw [if_neg h0, (evenF_le hx).2.2 (by omega)]
  exact Int.mul_ediv_self_le (by omega)
theorem rows_tot_sum {es : List Ed} {was vals : List Int} {chs : List Bool} (hv : ∀ x ∈ vals, IN x) : ∀ n : Nat, msSum (rowsV 1 es vals chs n).flatten + (totV 1 es was vals chs n).1 ≤ sumN (fun v => vals.getD v 0) n
 | 0 => by simp [rowsV, msSum, totV, sumN]
 | n + 1 => by
  have ih := rows_tot_sum (es := es) (was := was) (chs := chs) hv n
  have hx := getD_in hv n
  have h1 : msSum (rowV 1 es vals chs n) ≤ if (fromF es n).length = 0 then 0 else vals.getD n 0 := by
   refine Int.le_trans (docM_sum ?_) (rk_sum hx.1 (fromF es n))
   intro m hm
   obtain ⟨e, he, rfl⟩ := List.mem_map.1 hm
   have := evenF_le (n := ((fromF es n).length : Int)) hx.1
   exact ⟨this.1, Int.le_trans this.2.1 hx.2⟩
  rw [rowsV_succ, List.flatten_append, msSum_app, show ([rowV 1 es vals chs n] : List (List Ms)).flatten = rowV 1 es vals chs n by simp, totV]
  have ht := (totV_in (k := 1) (es := es) (was := was) (chs := chs) hv n).1
  generalize totV 1 es was vals chs n = T at ih ht
  have h2 : (joinF 1 T.1 T.2 (partT 1 (was.getD n 0) (vals.getD n 0) (chs.getD n false) (fromF es n).length).1 (partT 1 (was.getD n 0) (vals.getD n 0) (chs.getD n false) (fromF es n).length).2).1 ≤ T.1 + if (fromF es n).length = 0 then vals.getD n 0 else 0 := by
   show dadd T.1 (if (fromF es n).length = 0 then max (vals.getD n 0) 0 else 0) ≤ _
   refine Int.le_trans (dadd_le ht.1 (by split <;> omega)) ?_
   have := hx.1
   split <;> omega
  unfold sumN
  split at h1
  ·rename_i h0
   rw [if_pos h0] at h2
   omega
  ·rename_i h0
   rw [if_neg h0] at h2
   omega
end Go.Proofs.YtpgbjabifhjogaaGreat
namespace Go.Proofs.YtpgbjabifhjogaaGreat
open Go.RowKit
theorem takeK_le {V d g s : Int} (hV : 1 ≤ V) (h0 : 0 ≤ d) (h1 : d ≤ 4294967296) (hg : 0 ≤ g) (hs : 0 ≤ s) : 0 ≤ takeK V d g s ∧ takeK V d g s ≤ (4294967296 - d) / V + d * (g + s / V) / 4294967296 := by
 have hq : 0 ≤ s / V := Int.ediv_nonneg hs (by omega)
 have hr : 0 ≤ (4294967296 - d) / V := Int.ediv_nonneg (by omega) (by omega)
 have hp : 0 ≤ d * (g + s / V) / 4294967296 := Int.ediv_nonneg (Int.mul_nonneg h0 (by omega)) (by decide)
 unfold takeK
 rw [if_neg (by omega)]
 rw [Int.tdiv_eq_ediv_of_nonneg hs, Int.tdiv_eq_ediv_of_nonneg (show 0 ≤ 4294967296 - d by omega)]
 split
 ·rename_i h
  have hx := dadd_rg g (s / V)
  have hle := dadd_le hg hq
  generalize dadd g (s / V) = x at *
  have hm : ((mulF d.toNat x.toNat).1 : Int) = d * x / 4294967296 := by
   unfold mulF at h ⊢
   split
   ·rename_i h2
    rw [if_pos h2] at h
    cases h
   ·show ((d.toNat * x.toNat / 4294967296 : Nat) : Int) = _
    rw [Int.natCast_ediv, Int.natCast_mul, Int.toNat_of_nonneg h0, Int.toNat_of_nonneg hx.1]
    rfl
  rw [hm]
  have h3 : d * x ≤ d * (g + s / V) := Int.mul_le_mul_of_nonneg_left hle h0
  have h4 : d * x / 4294967296 ≤ d * (g + s / V) / 4294967296 := Int.ediv_le_ediv (by decide) h3
  have h5 : 0 ≤ d * x / 4294967296 := Int.ediv_nonneg (Int.mul_nonneg h0 hx.1) (by decide)
  omega
 ·omega
theorem takeK_sum {V : Nat} {d s : Int} {g : Nat → Int} (hV : 1 ≤ V) (h0 : 0 ≤ d) (h1 : d ≤ 4294967296) (hs : 0 ≤ s) (hg : ∀ v, v < V → 0 ≤ g v) (h : sumN g V + s ≤ 4294967296) : sumN (fun v => takeK (V : Int) d (g v) s) V ≤ 4294967296 := by
 have a1 := sumN_le (f := fun v => takeK (V : Int) d (g v) s) (g := fun v => (4294967296 - d) / (V : Int) + d * (g v + s / (V : Int)) / 4294967296) (n := V) (fun v hv => (takeK_le (by omega) h0 h1 (hg v hv) hs).2)
 rw [sumN_add (fun _ => (4294967296 - d) / (V : Int)) (fun v => d * (g v + s / (V : Int)) / 4294967296), sumN_const] at a1
 have a2 : (V : Int) * ((4294967296 - d) / (V : Int)) ≤ 4294967296 - d := Int.mul_ediv_self_le (by omega)
 have a3 := sumN_le (f := fun v => 4294967296 * (d * (g v + s / (V : Int)) / 4294967296)) (g := fun v => d * (g v + s / (V : Int))) (n := V) (fun v hv => Int.mul_ediv_self_le (by decide))
 rw [sumN_mul 4294967296 (fun v => d * (g v + s / (V : Int)) / 4294967296), sumN_mul d (fun v => g v + s / (V : Int)), sumN_add g (fun _ => s / (V : Int)), sumN_const] at a3
 have a4 : (V : Int) * (s / (V : Int)) ≤ s := Int.mul_ediv_self_le (by omega)
 have a5 : d * (sumN g V + (V : Int) * (s / (V : Int))) ≤ d * 4294967296 := Int.mul_le_mul_of_nonneg_left (by omega) h0
 generalize sumN (fun v => d * (g v + s / (V : Int)) / 4294967296) V = F at a1 a3
 omega
structure Told1 (es : List Ed) (V : Nat) (s : SV) : Prop where
 inb : s.inb = toldM 1 es s.vals s.chg V
 sm : ∃ was, s.sm = (totV 1 es was s.vals s.chg V).1
 sum : sumN (fun v => s.vals.getD v 0) V ≤ 4294967296
theorem told_get {k : Int} {es : List Ed} {vals : List Int} {chs : List Bool} {n v : Nat} (hv : v < n) : (toldM k es vals chs n).getD v (false, 0) = mlOf (boxF k (rowsV k es vals chs n).flatten (v : Int)) := by
 unfold toldM mails
 rw [List.getD_eq_getElem?_getD]
 simp [ownL, hv]
theorem rank_sum {es : List Ed} {V : Nat} {s : SV} {d : Int} (hV : 1 ≤ V) (h0 : 0 ≤ d) (h1 : d ≤ 4294967296) (hi : InS V s) (ht : Told1 es V s) : (∀ v, v < V → 0 ≤ (compV 1 d V s v).1) ∧ sumN (fun v => (compV 1 d V s v).1) V ≤ 4294967296 := by
 have hin : inM (rowsV 1 es s.vals s.chg V).flatten := rowsV_in hi.vals
 have hg : ∀ v, v < V → (compV 1 d V s v).1 = takeK (V : Int) d ((boxF 1 (rowsV 1 es s.vals s.chg V).flatten (v : Int)).getD 0) s.sm := fun v hv => by
  unfold compV compK
  rw [if_pos rfl, ht.inb, told_get hv]
  cases hq : boxF 1 (rowsV 1 es s.vals s.chg V).flatten (v : Int) with
  | none => rfl
  | some x =>
   have := (boxF_in hin _ _ hq).1
   show takeK (V : Int) d (gotF true x) s.sm = takeK (V : Int) d x s.sm
   rw [show gotF true x = x by unfold gotF; rw [if_pos rfl]; omega]
 have hg0 : ∀ v : Nat, 0 ≤ (boxF 1 (rowsV 1 es s.vals s.chg V).flatten (v : Int)).getD 0 := fun v => by
  cases hq : boxF 1 (rowsV 1 es s.vals s.chg V).flatten (v : Int) with
  | none => exact Int.le_refl _
  | some x => exact (boxF_in hin _ _ hq).1
 obtain ⟨was, hsm⟩ := ht.sm
 have hb := box_sum hin V
 have hr := rows_tot_sum (es := es) (was := was) (chs := s.chg) hi.vals V
 rw [← hsm] at hr
 have hsum := ht.sum
 refine ⟨fun v hv => by rw [hg v hv]; exact (takeK_le (by omega) h0 h1 (hg0 v) hi.sm.1).1, ?_⟩
 refine Int.le_trans (sumN_le (fun v hv => Int.le_of_eq (hg v hv))) ?_
 exact takeK_sum hV h0 h1 hi.sm.1 (fun v _ => hg0 v) (by omega)
theorem sumN_congr {f g : Nat → Int} {n : Nat} (h : ∀ v, v < n → f v = g v) : sumN f n = sumN g n := Int.le_antisymm (sumN_le fun v hv => Int.le_of_eq (h v hv)) (sumN_le fun v hv => Int.le_of_eq (h v hv).symm)
theorem next_in {k d : Int} {es : List Ed} {V : Nat} {s : SV} (he : edsB es) (hV : 1 ≤ V) (h0 : 0 ≤ d) (h1 : d ≤ 4294967296) (hk : k = 1 ∨ k = 2 ∨ k = 3) (hi : InS V s) (ht : k = 1 → Told1 es V s) : InS V (nextV k d es V s) ∧ (k = 1 → Told1 es V (nextV k d es V s)) := by
 have hv : ∀ x ∈ nextVals k d V s V, IN x := fun x hx => by
  obtain ⟨v, hv, rfl⟩ := List.mem_map.1 hx
  have hv := List.mem_range.1 hv
  rcases hk with rfl | hk
  ·have hr := rank_sum hV h0 h1 hi (ht rfl)
   have h2 := sumN_one hr.1 v hv
   have h3 := hr.1 v hv
   have h4 := hr.2
   unfold IN
   omega
  ·have h2 := comp_falls (k := k) (j3 := d) (V := V) (s := s) (v := v) hk
   have h3 := getD_in hi.vals v
   have hm : IN (s.inb.getD v (false, 0)).2 := by
    by_cases hl : v < s.inb.length
    ·rw [List.getD_eq_getElem?_getD, List.getElem?_eq_getElem hl]; exact hi.inb _ (List.getElem_mem hl)
    ·rw [List.getD_eq_getElem?_getD, List.getElem?_eq_none (by omega)]; exact IN_zero
   refine ⟨?_, Int.le_trans h2 h3.2⟩
   unfold compV compK
   rcases hk with rfl | rfl
   ·rw [if_neg (by decide), if_pos rfl]
    unfold ltakeOf
    split
    ·exact hm.1
    ·exact h3.1
   ·rw [if_neg (by decide), if_neg (by decide), if_pos rfl]
    unfold takeOf
    split
    ·dsimp only; omega
    ·exact h3.1
 refine ⟨tellV_in he (by simp [nextVals]) (by simp [nextChs]) hv, fun hk1 => ?_⟩
 subst hk1
 refine ⟨rfl, ⟨s.vals, rfl⟩, ?_⟩
 show sumN (fun v => (nextVals 1 d V s V).getD v 0) V ≤ _
 rw [sumN_congr (fun v hv => nextVals_get 1 d V s hv)]
 exact (rank_sum hV h0 h1 hi (ht rfl)).2
theorem start_in {k j2 : Int} {es : List Ed} {V : Nat} (he : edsB es) (hV : 1 ≤ V) (hV5 : V ≤ 512) (hk : k = 1 ∨ k = 2 ∨ k = 3) : InS V (startV k j2 es V) ∧ (k = 1 → Told1 es V (startV k j2 es V)) := by
 have ev := (evenF_le (a := 4294967296) (n := (V : Int)) (by decide))
 have hv : ∀ x ∈ startVals k j2 V V, IN x := fun x hx => by
  obtain ⟨v, hv, rfl⟩ := List.mem_map.1 hx
  have hv := List.mem_range.1 hv
  unfold startA
  rcases hk with rfl | rfl | rfl
  ·rw [if_pos rfl]
   exact ⟨ev.1, by have := ev.2.1; dsimp only; omega⟩
  ·rw [if_neg (by decide), if_pos rfl]
   unfold IN
   dsimp only
   omega
  ·rw [if_neg (by decide), if_neg (by decide), if_pos rfl]
   unfold startOf IN
   dsimp only
   split <;> omega
 have h := tellV_in (k := k) (was := startVals k j2 V V) (st := 0) he (by simp [startVals] : (startVals k j2 V V).length = V) (by simp [startChs] : (startChs k j2 V V).length = V) hv
 refine ⟨⟨startV_ok (by omega) he, h.vals, h.inb, h.sm, IN_zero⟩, fun hk1 => ?_⟩
 subst hk1
 refine ⟨rfl, ⟨startVals 1 j2 V V, rfl⟩, ?_⟩
 show sumN (fun v => (startVals 1 j2 V V).getD v 0) V ≤ _
 rw [sumN_congr (g := fun _ => (4294967296 : Int) / (V : Int)) (fun v hv => by
  rw [List.getD_eq_getElem?_getD]
  simp only [startVals, List.getElem?_map, List.getElem?_range hv, Option.map_some, Option.getD_some]
  show evenF 4294967296 (V : Int) = _
  exact ev.2.2 (by omega)), sumN_const]
 exact Int.mul_ediv_self_le (by omega)
theorem at_in {k j2 d : Int} {es : List Ed} {V : Nat} (he : edsB es) (hV : 1 ≤ V) (hV5 : V ≤ 512) (h0 : 0 ≤ d) (h1 : d ≤ 4294967296) (hk : k = 1 ∨ k = 2 ∨ k = 3) : ∀ n, InS V (atV k j2 d es V n) ∧ (k = 1 → Told1 es V (atV k j2 d es V n))
 | 0 => start_in he hV hV5 hk
 | n + 1 => next_in he hV h0 h1 hk (at_in he hV hV5 h0 h1 hk n).1 (at_in he hV hV5 h0 h1 hk n).2
end Go.Proofs.YtpgbjabifhjogaaGreat
namespace Go.Proofs.YtpgbjabifhjogaaGreat
open Go.RowKit Go.Shelf
attribute [local go_sem] Oper.semAt_some
def stepE (E V : Int) (p : SV) : Int := if E ≠ 0 then E else if mayV V p = false ∨ p.st = 2000 then 4 else 0
theorem mayV_ok {V : Int} {p : SV} (h : mayV V p = true) (hb : ∀ m ∈ p.inb, i64V m.2) : (p.vals.length : Int) = V ∧ (p.chg.length : Int) = V ∧ (p.inb.length : Int) = V ∧ 0 ≤ p.st ∧ p.st ≤ 2000 ∧ OkS V.toNat p := by
 unfold mayV at h
 simp only [Bool.and_eq_true, decide_eq_true_eq] at h
 obtain ⟨⟨⟨⟨⟨⟨⟨⟨h1, h2⟩, h3⟩, h4⟩, h5⟩, h6⟩, h7⟩, h8⟩, h9⟩ := h
 refine ⟨h3, h4, h5, h1, h2, ⟨by omega, by omega, by omega, fun x hx => ?_, hb, ?_⟩⟩
 ·have := List.all_eq_true.1 h8 x hx
  simp only [wiB, Bool.and_eq_true, decide_eq_true_eq] at this
  unfold i64V
  omega
 ·simp only [wiB, Bool.and_eq_true, decide_eq_true_eq] at h6
  unfold i64V
  omega
theorem qstep_any (w : World) (V : Int) (A : Option Addr) (es : List Ed) (L c : Nat) (hL : es.length = L) (hL9 : L ≤ 9223372036854775807) (hE : Eds w w.heap.size A es) (k j1 j2 j3 j4 : Int) (hG : acheckF k j1 j2 j3 j4 V es = 0 → L ≤ 80) (p : SV) (Av Ac Ai : Option Addr) (nv nc ni cv cc ci : Nat) (hl : VLen p nv nc ni) (hi : VIn w p Av Ac Ai) (hbi : ∀ m ∈ p.inb, i64V m.2) (bv : nv ≤ 9223372036854775807) (bi : ni ≤ 9223372036854775807) :
  Calls Tryz.prog 19 #[.agg #[.int .i64 V, .slice A L c], .agg #[.int .u8 k, .int .i64 j1, .int .i64 j2, .int .i64 j3, .int .i64 j4], .agg #[.int .i64 p.st, .slice Av nv cv, .slice Ac nc cc, .slice Ai ni ci, .int .i64 p.sm, .int .i64 p.mo]] w (TillPost w (stepE (acheckF k j1 j2 j3 j4 V es) V p) V.toNat (nextV k j3 es V.toNat p)) := by
 have HL := hide hL
 have HE := hide hE
 have HG := hide hG
 have HVL := hide hl
 have HVI := hide hi
 clear hL hE hG hl hi
 obtain ⟨E, hEe⟩ : ∃ E, acheckF k j1 j2 j3 j4 V es = E := ⟨_, rfl⟩
 have HEe := hide hEe
 clear hEe
 by_cases hE0 : E = 0
 rotate_left
 ·have hE1 : (E == 0) = false := by simpa using hE0
  have hE2 : (E != 0) = true := by simpa using hE0
  have HN0 := hide hE0
  have HNE : Hid (acheckF k j1 j2 j3 j4 V es ≠ 0) := hide (by rw [HEe.out]; exact hE0)
  clear hE0
  rw [show stepE (acheckF k j1 j2 j3 j4 V es) V p = E by rw [HEe.out, stepE, if_pos HN0.out]]
  go_enter Tryz.func19, Tryz.ntmps19
  go_upto_region 1 with fail
  obtain ⟨u, hu⟩ : ∃ u, (((w.alloc (.cells #[.int .i64 V, .slice A L c] 24)).alloc (.cells #[.int .u8 k, .int .i64 j1, .int .i64 j2, .int .i64 j3, .int .i64 j4] 26)).alloc (.cells #[.int .i64 p.st, .slice Av nv cv, .slice Ac nc cc, .slice Ai ni ci, .int .i64 p.sm, .int .i64 p.mo] 33)).alloc (.cells #[.int .i64 0, .slice none 0 0, .slice none 0 0, .slice none 0 0, .int .i64 0, .int .i64 0] 33) = u := ⟨_, rfl⟩
  rw [hu]
  have HU := hide (allocs4 hu)
  clear hu
  have hzu : u.heap.size = w.heap.size + 4 := HU.out.2.1
  have c0 : u.cell? ⟨w.heap.size, 0, none⟩ = some (.int .i64 V) := cell_of_row _ _ 0 _ _ _ HU.out.2.2.1
  have c1 : u.cell? ⟨w.heap.size, 1, none⟩ = some (.slice A L c) := cell_of_row _ _ 1 _ _ _ HU.out.2.2.1
  have d0 : u.cell? ⟨w.heap.size + 1, 0, none⟩ = some (.int .u8 k) := cell_of_row _ _ 0 _ _ _ HU.out.2.2.2.1
  have d1 : u.cell? ⟨w.heap.size + 1, 1, none⟩ = some (.int .i64 j1) := cell_of_row _ _ 1 _ _ _ HU.out.2.2.2.1
  have d2 : u.cell? ⟨w.heap.size + 1, 2, none⟩ = some (.int .i64 j2) := cell_of_row _ _ 2 _ _ _ HU.out.2.2.2.1
  have d3 : u.cell? ⟨w.heap.size + 1, 3, none⟩ = some (.int .i64 j3) := cell_of_row _ _ 3 _ _ _ HU.out.2.2.2.1
  have d4 : u.cell? ⟨w.heap.size + 1, 4, none⟩ = some (.int .i64 j4) := cell_of_row _ _ 4 _ _ _ HU.out.2.2.2.1
  have hz0 : w.heap.size < u.heap.size := by omega
  have hz1 : w.heap.size + 1 < u.heap.size := by omega
  have hb0 := build_err u V A es L c HL.out hL9 ((HE.out.below HU.out.1 (Nat.le_refl _)).more HU.out.1.size) k j1 j2 j3 j4 HNE.out
  rw [HEe.out] at hb0
  have HB0 := hide hb0
  clear hb0
  go_wp2_with fail
  refine HB0.out.mono ?_
  rintro e y ⟨rfl, hy⟩
  clear c0 c1 d0 d1 d2 d3 d4 hz0 hz1
  have HY := hide hy
  have syu : u.heap.size ≤ y.heap.size := hy.size
  clear hy
  have HRow := hide (((HY.out.block _ (by omega)).trans HU.out.2.2.2.2.2))
  have hRz : w.heap.size + 1 + 1 + 1 < y.heap.size := by omega
  have q0 : y.cell? ⟨w.heap.size + 1 + 1 + 1, 0, none⟩ = some (.int .i64 0) := cell_of_row _ _ 0 _ _ _ HRow.out
  have q1 : y.cell? ⟨w.heap.size + 1 + 1 + 1, 1, none⟩ = some (.slice none 0 0) := cell_of_row _ _ 1 _ _ _ HRow.out
  have q2 : y.cell? ⟨w.heap.size + 1 + 1 + 1, 2, none⟩ = some (.slice none 0 0) := cell_of_row _ _ 2 _ _ _ HRow.out
  have q3 : y.cell? ⟨w.heap.size + 1 + 1 + 1, 3, none⟩ = some (.slice none 0 0) := cell_of_row _ _ 3 _ _ _ HRow.out
  have q4 : y.cell? ⟨w.heap.size + 1 + 1 + 1, 4, none⟩ = some (.int .i64 0) := cell_of_row _ _ 4 _ _ _ HRow.out
  have q5 : y.cell? ⟨w.heap.size + 1 + 1 + 1, 5, none⟩ = some (.int .i64 0) := cell_of_row _ _ 5 _ _ _ HRow.out
  have f0 : y.frozen? ⟨w.heap.size + 1 + 1 + 1, 0, none⟩ = false := frozen_of_row _ _ 0 _ _ HRow.out
  have f1 : y.frozen? ⟨w.heap.size + 1 + 1 + 1, 1, none⟩ = false := frozen_of_row _ _ 1 _ _ HRow.out
  have f2 : y.frozen? ⟨w.heap.size + 1 + 1 + 1, 2, none⟩ = false := frozen_of_row _ _ 2 _ _ HRow.out
  have f3 : y.frozen? ⟨w.heap.size + 1 + 1 + 1, 3, none⟩ = false := frozen_of_row _ _ 3 _ _ HRow.out
  have f4 : y.frozen? ⟨w.heap.size + 1 + 1 + 1, 4, none⟩ = false := frozen_of_row _ _ 4 _ _ HRow.out
  have f5 : y.frozen? ⟨w.heap.size + 1 + 1 + 1, 5, none⟩ = false := frozen_of_row _ _ 5 _ _ HRow.out
  go_wp2
  obtain ⟨wf, hwf⟩ : ∃ q, (((((y.setCell ⟨w.heap.size + 1 + 1 + 1, 0, none⟩ (.int .i64 0)).setCell ⟨w.heap.size + 1 + 1 + 1, 1, none⟩ (.slice none 0 0)).setCell ⟨w.heap.size + 1 + 1 + 1, 2, none⟩ (.slice none 0 0)).setCell ⟨w.heap.size + 1 + 1 + 1, 3, none⟩ (.slice none 0 0)).setCell ⟨w.heap.size + 1 + 1 + 1, 4, none⟩ (.int .i64 0)).setCell ⟨w.heap.size + 1 + 1 + 1, 5, none⟩ (.int .i64 0) = q := ⟨_, rfl⟩
  have hF := far6 y (w.heap.size + 1 + 1 + 1) (w.heap.size + 1 + 1 + 1) (.int .i64 0) (.slice none 0 0) (.slice none 0 0) (.slice none 0 0) (.int .i64 0) (.int .i64 0) HRow.out
  rw [hwf] at hF ⊢
  obtain ⟨FF, HFY⟩ := hF
  obtain ⟨y0, y1, y2, y3, y4, y5⟩ := cells6 HFY
  clear hwf HFY
  exact bodyPost_ret (v := .tuple #[.agg #[.int .i64 0, .slice none 0 0, .slice none 0 0, .slice none 0 0, .int .i64 0, .int .i64 0], .int .i64 E]) (by simp [results, Tryz.results19, go_sem, y0, y1, y2, y3, y4, y5]) rfl (.inl ⟨HN0.out, rfl, (HU.out.1.trans (HY.out.mono (by omega))).trans (FF.below (by omega) (by omega))⟩)
 subst hE0
 have HEe0 := HEe.out
 obtain ⟨⟨hV1, hV, hEB⟩, _⟩ := acheck_ok HEe0
 have hL5 := HG.out HEe0
 clear HEe0
 rcases hm : mayV V p with _ | _
 ·have HMV := hide hm
  rw [show stepE (acheckF k j1 j2 j3 j4 V es) V p = 4 by rw [HEe.out, stepE, if_neg (fun h => h rfl), if_pos (.inl hm)]]
  obtain ⟨V, rfl⟩ : ∃ q : Nat, V = (q : Int) := ⟨V.toNat, by omega⟩
  rw [show ((V : Int)).toNat = V from rfl]
  have hV : V ≤ 512 := by omega
  clear hm
  go_enter Tryz.func19, Tryz.ntmps19
  go_upto_region 1 with fail
  obtain ⟨u, hu⟩ : ∃ u, (((w.alloc (.cells #[.int .i64 (V : Int), .slice A L c] 24)).alloc (.cells #[.int .u8 k, .int .i64 j1, .int .i64 j2, .int .i64 j3, .int .i64 j4] 26)).alloc (.cells #[.int .i64 p.st, .slice Av nv cv, .slice Ac nc cc, .slice Ai ni ci, .int .i64 p.sm, .int .i64 p.mo] 33)).alloc (.cells #[.int .i64 0, .slice none 0 0, .slice none 0 0, .slice none 0 0, .int .i64 0, .int .i64 0] 33) = u := ⟨_, rfl⟩
  rw [hu]
  have HU := hide (allocs4 hu)
  clear hu
  have hzu : u.heap.size = w.heap.size + 4 := HU.out.2.1
  have c0 : u.cell? ⟨w.heap.size, 0, none⟩ = some (.int .i64 (V : Int)) := cell_of_row _ _ 0 _ _ _ HU.out.2.2.1
  have c1 : u.cell? ⟨w.heap.size, 1, none⟩ = some (.slice A L c) := cell_of_row _ _ 1 _ _ _ HU.out.2.2.1
  have d0 : u.cell? ⟨w.heap.size + 1, 0, none⟩ = some (.int .u8 k) := cell_of_row _ _ 0 _ _ _ HU.out.2.2.2.1
  have d1 : u.cell? ⟨w.heap.size + 1, 1, none⟩ = some (.int .i64 j1) := cell_of_row _ _ 1 _ _ _ HU.out.2.2.2.1
  have d2 : u.cell? ⟨w.heap.size + 1, 2, none⟩ = some (.int .i64 j2) := cell_of_row _ _ 2 _ _ _ HU.out.2.2.2.1
  have d3 : u.cell? ⟨w.heap.size + 1, 3, none⟩ = some (.int .i64 j3) := cell_of_row _ _ 3 _ _ _ HU.out.2.2.2.1
  have d4 : u.cell? ⟨w.heap.size + 1, 4, none⟩ = some (.int .i64 j4) := cell_of_row _ _ 4 _ _ _ HU.out.2.2.2.1
  have hz0 : w.heap.size < u.heap.size := by omega
  have hz1 : w.heap.size + 1 < u.heap.size := by omega
  have hb0 := build_any u V hV A es L c HL.out (by omega) ((HE.out.below HU.out.1 (Nat.le_refl _)).more HU.out.1.size) k j1 j2 j3 j4
  rw [HEe.out] at hb0
  have HB0 := hide hb0
  clear hb0
  go_wp2_with fail
  refine HB0.out.mono ?_
  rintro e y (⟨hE0, _⟩ | ⟨_, m, Bm, xs, rfl, hA, hm1, hm2, hMI⟩)
  ·exact absurd rfl hE0
  obtain ⟨Aof, Aow, cof, cow, hMH⟩ := hMI.has hA HE.out.wt
  have HMY := hide hMH
  have HY := hide hMI.below
  have syu : u.heap.size ≤ y.heap.size := hMI.below.size
  clear hMH hMI hA hm1 hm2
  clear c0 c1 d0 d1 d2 d3 d4 hz0 hz1
  have c0 : y.cell? ⟨w.heap.size, 0, none⟩ = some (.int .i64 (V : Int)) := cell_of_row _ _ 0 _ _ _ ((HY.out.block _ (by omega)).trans HU.out.2.2.1)
  have hz0 : w.heap.size < y.heap.size := by omega
  have s0 : y.cell? ⟨w.heap.size + 1 + 1, 0, none⟩ = some (.int .i64 p.st) := cell_of_row _ _ 0 _ _ _ ((HY.out.block _ (by omega)).trans HU.out.2.2.2.2.1)
  have s1 : y.cell? ⟨w.heap.size + 1 + 1, 1, none⟩ = some (.slice Av nv cv) := cell_of_row _ _ 1 _ _ _ ((HY.out.block _ (by omega)).trans HU.out.2.2.2.2.1)
  have s2 : y.cell? ⟨w.heap.size + 1 + 1, 2, none⟩ = some (.slice Ac nc cc) := cell_of_row _ _ 2 _ _ _ ((HY.out.block _ (by omega)).trans HU.out.2.2.2.2.1)
  have s3 : y.cell? ⟨w.heap.size + 1 + 1, 3, none⟩ = some (.slice Ai ni ci) := cell_of_row _ _ 3 _ _ _ ((HY.out.block _ (by omega)).trans HU.out.2.2.2.2.1)
  have s4 : y.cell? ⟨w.heap.size + 1 + 1, 4, none⟩ = some (.int .i64 p.sm) := cell_of_row _ _ 4 _ _ _ ((HY.out.block _ (by omega)).trans HU.out.2.2.2.2.1)
  have s5 : y.cell? ⟨w.heap.size + 1 + 1, 5, none⟩ = some (.int .i64 p.mo) := cell_of_row _ _ 5 _ _ _ ((HY.out.block _ (by omega)).trans HU.out.2.2.2.2.1)
  have hz2 : w.heap.size + 1 + 1 < y.heap.size := by omega
  have hmy := pmay_any y p Av Ac Ai nv nc ni cv cc ci HVL.out (HVI.out.next (HU.out.1.trans (HY.out.mono (by omega)))) (by omega) (by omega) (V : Int)
  rw [HMV.out] at hmy
  have HMY2 := hide hmy
  clear hmy
  go_wp2_with fail
  refine HMY2.out.mono ?_
  rintro e z ⟨rfl, hzz⟩
  have HZ := hide hzz
  have szy : y.heap.size ≤ z.heap.size := hzz.size
  clear hzz c0 hz0
  clear s0 s1 s2 s3 s4 s5 hz2
  have HRow := hide (((HZ.out.block _ (by omega)).trans ((HY.out.block _ (by omega)).trans HU.out.2.2.2.2.2)))
  have hRz : w.heap.size + 1 + 1 + 1 < z.heap.size := by omega
  have q0 : z.cell? ⟨w.heap.size + 1 + 1 + 1, 0, none⟩ = some (.int .i64 0) := cell_of_row _ _ 0 _ _ _ HRow.out
  have q1 : z.cell? ⟨w.heap.size + 1 + 1 + 1, 1, none⟩ = some (.slice none 0 0) := cell_of_row _ _ 1 _ _ _ HRow.out
  have q2 : z.cell? ⟨w.heap.size + 1 + 1 + 1, 2, none⟩ = some (.slice none 0 0) := cell_of_row _ _ 2 _ _ _ HRow.out
  have q3 : z.cell? ⟨w.heap.size + 1 + 1 + 1, 3, none⟩ = some (.slice none 0 0) := cell_of_row _ _ 3 _ _ _ HRow.out
  have q4 : z.cell? ⟨w.heap.size + 1 + 1 + 1, 4, none⟩ = some (.int .i64 0) := cell_of_row _ _ 4 _ _ _ HRow.out
  have q5 : z.cell? ⟨w.heap.size + 1 + 1 + 1, 5, none⟩ = some (.int .i64 0) := cell_of_row _ _ 5 _ _ _ HRow.out
  have f0 : z.frozen? ⟨w.heap.size + 1 + 1 + 1, 0, none⟩ = false := frozen_of_row _ _ 0 _ _ HRow.out
  have f1 : z.frozen? ⟨w.heap.size + 1 + 1 + 1, 1, none⟩ = false := frozen_of_row _ _ 1 _ _ HRow.out
  have f2 : z.frozen? ⟨w.heap.size + 1 + 1 + 1, 2, none⟩ = false := frozen_of_row _ _ 2 _ _ HRow.out
  have f3 : z.frozen? ⟨w.heap.size + 1 + 1 + 1, 3, none⟩ = false := frozen_of_row _ _ 3 _ _ HRow.out
  have f4 : z.frozen? ⟨w.heap.size + 1 + 1 + 1, 4, none⟩ = false := frozen_of_row _ _ 4 _ _ HRow.out
  have f5 : z.frozen? ⟨w.heap.size + 1 + 1 + 1, 5, none⟩ = false := frozen_of_row _ _ 5 _ _ HRow.out
  go_wp2
  obtain ⟨wf, hwf⟩ : ∃ q, (((((z.setCell ⟨w.heap.size + 1 + 1 + 1, 0, none⟩ (.int .i64 0)).setCell ⟨w.heap.size + 1 + 1 + 1, 1, none⟩ (.slice none 0 0)).setCell ⟨w.heap.size + 1 + 1 + 1, 2, none⟩ (.slice none 0 0)).setCell ⟨w.heap.size + 1 + 1 + 1, 3, none⟩ (.slice none 0 0)).setCell ⟨w.heap.size + 1 + 1 + 1, 4, none⟩ (.int .i64 0)).setCell ⟨w.heap.size + 1 + 1 + 1, 5, none⟩ (.int .i64 0) = q := ⟨_, rfl⟩
  have hF := far6 z (w.heap.size + 1 + 1 + 1) (w.heap.size + 1 + 1 + 1) (.int .i64 0) (.slice none 0 0) (.slice none 0 0) (.slice none 0 0) (.int .i64 0) (.int .i64 0) HRow.out
  rw [hwf] at hF ⊢
  obtain ⟨FF, HFY⟩ := hF
  obtain ⟨y0, y1, y2, y3, y4, y5⟩ := cells6 HFY
  clear hwf HFY
  exact bodyPost_ret (v := .tuple #[.agg #[.int .i64 0, .slice none 0 0, .slice none 0 0, .slice none 0 0, .int .i64 0, .int .i64 0], .int .i64 4]) (by simp [results, Tryz.results19, go_sem, y0, y1, y2, y3, y4, y5]) rfl (.inl ⟨by decide, rfl, ((HU.out.1.trans (HY.out.mono (by omega))).trans (HZ.out.mono (by omega))).trans (FF.below (by omega) (by omega))⟩)
 ·by_cases hq : p.st = 2000
  ·have HMV := hide hm
   rw [show stepE (acheckF k j1 j2 j3 j4 V es) V p = 4 by rw [HEe.out, stepE, if_neg (fun h => h rfl), if_pos (.inr hq)]]
   obtain ⟨V, rfl⟩ : ∃ q : Nat, V = (q : Int) := ⟨V.toNat, by omega⟩
   rw [show ((V : Int)).toNat = V from rfl]
   have hV : V ≤ 512 := by omega
   have HQ := hide hq
   clear hm hq
   go_enter Tryz.func19, Tryz.ntmps19
   go_upto_region 1 with fail
   obtain ⟨u, hu⟩ : ∃ u, (((w.alloc (.cells #[.int .i64 (V : Int), .slice A L c] 24)).alloc (.cells #[.int .u8 k, .int .i64 j1, .int .i64 j2, .int .i64 j3, .int .i64 j4] 26)).alloc (.cells #[.int .i64 p.st, .slice Av nv cv, .slice Ac nc cc, .slice Ai ni ci, .int .i64 p.sm, .int .i64 p.mo] 33)).alloc (.cells #[.int .i64 0, .slice none 0 0, .slice none 0 0, .slice none 0 0, .int .i64 0, .int .i64 0] 33) = u := ⟨_, rfl⟩
   rw [hu]
   have HU := hide (allocs4 hu)
   clear hu
   have hzu : u.heap.size = w.heap.size + 4 := HU.out.2.1
   have c0 : u.cell? ⟨w.heap.size, 0, none⟩ = some (.int .i64 (V : Int)) := cell_of_row _ _ 0 _ _ _ HU.out.2.2.1
   have c1 : u.cell? ⟨w.heap.size, 1, none⟩ = some (.slice A L c) := cell_of_row _ _ 1 _ _ _ HU.out.2.2.1
   have d0 : u.cell? ⟨w.heap.size + 1, 0, none⟩ = some (.int .u8 k) := cell_of_row _ _ 0 _ _ _ HU.out.2.2.2.1
   have d1 : u.cell? ⟨w.heap.size + 1, 1, none⟩ = some (.int .i64 j1) := cell_of_row _ _ 1 _ _ _ HU.out.2.2.2.1
   have d2 : u.cell? ⟨w.heap.size + 1, 2, none⟩ = some (.int .i64 j2) := cell_of_row _ _ 2 _ _ _ HU.out.2.2.2.1
   have d3 : u.cell? ⟨w.heap.size + 1, 3, none⟩ = some (.int .i64 j3) := cell_of_row _ _ 3 _ _ _ HU.out.2.2.2.1
   have d4 : u.cell? ⟨w.heap.size + 1, 4, none⟩ = some (.int .i64 j4) := cell_of_row _ _ 4 _ _ _ HU.out.2.2.2.1
   have hz0 : w.heap.size < u.heap.size := by omega
   have hz1 : w.heap.size + 1 < u.heap.size := by omega
   have hb0 := build_any u V hV A es L c HL.out (by omega) ((HE.out.below HU.out.1 (Nat.le_refl _)).more HU.out.1.size) k j1 j2 j3 j4
   rw [HEe.out] at hb0
   have HB0 := hide hb0
   clear hb0
   go_wp2_with fail
   refine HB0.out.mono ?_
   rintro e y (⟨hE0, _⟩ | ⟨_, m, Bm, xs, rfl, hA, hm1, hm2, hMI⟩)
   ·exact absurd rfl hE0
   obtain ⟨Aof, Aow, cof, cow, hMH⟩ := hMI.has hA HE.out.wt
   have HMY := hide hMH
   have HY := hide hMI.below
   have syu : u.heap.size ≤ y.heap.size := hMI.below.size
   clear hMH hMI hA hm1 hm2
   clear c0 c1 d0 d1 d2 d3 d4 hz0 hz1
   have c0 : y.cell? ⟨w.heap.size, 0, none⟩ = some (.int .i64 (V : Int)) := cell_of_row _ _ 0 _ _ _ ((HY.out.block _ (by omega)).trans HU.out.2.2.1)
   have hz0 : w.heap.size < y.heap.size := by omega
   have s0 : y.cell? ⟨w.heap.size + 1 + 1, 0, none⟩ = some (.int .i64 p.st) := cell_of_row _ _ 0 _ _ _ ((HY.out.block _ (by omega)).trans HU.out.2.2.2.2.1)
   have s1 : y.cell? ⟨w.heap.size + 1 + 1, 1, none⟩ = some (.slice Av nv cv) := cell_of_row _ _ 1 _ _ _ ((HY.out.block _ (by omega)).trans HU.out.2.2.2.2.1)
   have s2 : y.cell? ⟨w.heap.size + 1 + 1, 2, none⟩ = some (.slice Ac nc cc) := cell_of_row _ _ 2 _ _ _ ((HY.out.block _ (by omega)).trans HU.out.2.2.2.2.1)
   have s3 : y.cell? ⟨w.heap.size + 1 + 1, 3, none⟩ = some (.slice Ai ni ci) := cell_of_row _ _ 3 _ _ _ ((HY.out.block _ (by omega)).trans HU.out.2.2.2.2.1)
   have s4 : y.cell? ⟨w.heap.size + 1 + 1, 4, none⟩ = some (.int .i64 p.sm) := cell_of_row _ _ 4 _ _ _ ((HY.out.block _ (by omega)).trans HU.out.2.2.2.2.1)
   have s5 : y.cell? ⟨w.heap.size + 1 + 1, 5, none⟩ = some (.int .i64 p.mo) := cell_of_row _ _ 5 _ _ _ ((HY.out.block _ (by omega)).trans HU.out.2.2.2.2.1)
   have hz2 : w.heap.size + 1 + 1 < y.heap.size := by omega
   have hmy := pmay_any y p Av Ac Ai nv nc ni cv cc ci HVL.out (HVI.out.next (HU.out.1.trans (HY.out.mono (by omega)))) (by omega) (by omega) (V : Int)
   rw [HMV.out] at hmy
   have HMY2 := hide hmy
   clear hmy
   go_wp2_with fail
   refine HMY2.out.mono ?_
   rintro e z ⟨rfl, hzz⟩
   have HZ := hide hzz
   have szy : y.heap.size ≤ z.heap.size := hzz.size
   clear hzz c0 hz0
   clear s0 s1 s2 s3 s4 s5 hz2
   have s0 : z.cell? ⟨w.heap.size + 1 + 1, 0, none⟩ = some (.int .i64 p.st) := cell_of_row _ _ 0 _ _ _ ((HZ.out.block _ (by omega)).trans ((HY.out.block _ (by omega)).trans HU.out.2.2.2.2.1))
   have hz2 : w.heap.size + 1 + 1 < z.heap.size := by omega
   have hq := HQ.out
   have hq1 : (p.st == 2000) = true := by simp [hq]
   have hq2 : 2000 ≤ p.st := by omega
   clear hq
   have HRow := hide (((HZ.out.block _ (by omega)).trans ((HY.out.block _ (by omega)).trans HU.out.2.2.2.2.2)))
   have hRz : w.heap.size + 1 + 1 + 1 < z.heap.size := by omega
   have q0 : z.cell? ⟨w.heap.size + 1 + 1 + 1, 0, none⟩ = some (.int .i64 0) := cell_of_row _ _ 0 _ _ _ HRow.out
   have q1 : z.cell? ⟨w.heap.size + 1 + 1 + 1, 1, none⟩ = some (.slice none 0 0) := cell_of_row _ _ 1 _ _ _ HRow.out
   have q2 : z.cell? ⟨w.heap.size + 1 + 1 + 1, 2, none⟩ = some (.slice none 0 0) := cell_of_row _ _ 2 _ _ _ HRow.out
   have q3 : z.cell? ⟨w.heap.size + 1 + 1 + 1, 3, none⟩ = some (.slice none 0 0) := cell_of_row _ _ 3 _ _ _ HRow.out
   have q4 : z.cell? ⟨w.heap.size + 1 + 1 + 1, 4, none⟩ = some (.int .i64 0) := cell_of_row _ _ 4 _ _ _ HRow.out
   have q5 : z.cell? ⟨w.heap.size + 1 + 1 + 1, 5, none⟩ = some (.int .i64 0) := cell_of_row _ _ 5 _ _ _ HRow.out
   have f0 : z.frozen? ⟨w.heap.size + 1 + 1 + 1, 0, none⟩ = false := frozen_of_row _ _ 0 _ _ HRow.out
   have f1 : z.frozen? ⟨w.heap.size + 1 + 1 + 1, 1, none⟩ = false := frozen_of_row _ _ 1 _ _ HRow.out
   have f2 : z.frozen? ⟨w.heap.size + 1 + 1 + 1, 2, none⟩ = false := frozen_of_row _ _ 2 _ _ HRow.out
   have f3 : z.frozen? ⟨w.heap.size + 1 + 1 + 1, 3, none⟩ = false := frozen_of_row _ _ 3 _ _ HRow.out
   have f4 : z.frozen? ⟨w.heap.size + 1 + 1 + 1, 4, none⟩ = false := frozen_of_row _ _ 4 _ _ HRow.out
   have f5 : z.frozen? ⟨w.heap.size + 1 + 1 + 1, 5, none⟩ = false := frozen_of_row _ _ 5 _ _ HRow.out
   go_wp2
   obtain ⟨wf, hwf⟩ : ∃ q, (((((z.setCell ⟨w.heap.size + 1 + 1 + 1, 0, none⟩ (.int .i64 0)).setCell ⟨w.heap.size + 1 + 1 + 1, 1, none⟩ (.slice none 0 0)).setCell ⟨w.heap.size + 1 + 1 + 1, 2, none⟩ (.slice none 0 0)).setCell ⟨w.heap.size + 1 + 1 + 1, 3, none⟩ (.slice none 0 0)).setCell ⟨w.heap.size + 1 + 1 + 1, 4, none⟩ (.int .i64 0)).setCell ⟨w.heap.size + 1 + 1 + 1, 5, none⟩ (.int .i64 0) = q := ⟨_, rfl⟩
   have hF := far6 z (w.heap.size + 1 + 1 + 1) (w.heap.size + 1 + 1 + 1) (.int .i64 0) (.slice none 0 0) (.slice none 0 0) (.slice none 0 0) (.int .i64 0) (.int .i64 0) HRow.out
   rw [hwf] at hF ⊢
   obtain ⟨FF, HFY⟩ := hF
   obtain ⟨y0, y1, y2, y3, y4, y5⟩ := cells6 HFY
   clear hwf HFY
   exact bodyPost_ret (v := .tuple #[.agg #[.int .i64 0, .slice none 0 0, .slice none 0 0, .slice none 0 0, .int .i64 0, .int .i64 0], .int .i64 4]) (by simp [results, Tryz.results19, go_sem, y0, y1, y2, y3, y4, y5]) rfl (.inl ⟨by decide, rfl, ((HU.out.1.trans (HY.out.mono (by omega))).trans (HZ.out.mono (by omega))).trans (FF.below (by omega) (by omega))⟩)
  ·have HMV := hide hm
   obtain ⟨g1, g2, g3, g4, g5, hok⟩ := mayV_ok hm hbi
   rw [show stepE (acheckF k j1 j2 j3 j4 V es) V p = 0 by rw [HEe.out, stepE, if_neg (fun h => h rfl), if_neg (by rw [hm]; simp [hq])]]
   obtain ⟨V, rfl⟩ : ∃ q : Nat, V = (q : Int) := ⟨V.toNat, by omega⟩
   rw [show ((V : Int)).toNat = V from rfl]
   have hV : V ≤ 512 := by omega
   rw [show ((V : Int)).toNat = V from rfl] at hok
   have HOK := hide hok
   obtain ⟨v1, v2, v3⟩ := HVL.out
   obtain rfl : nv = V := by omega
   obtain rfl : nc = nv := by omega
   obtain rfl : ni = nc := by omega
   clear hm hok g1 g2 g3 v1 v2 v3
   go_enter Tryz.func19, Tryz.ntmps19
   go_upto_region 1 with fail
   obtain ⟨u, hu⟩ : ∃ u, (((w.alloc (.cells #[.int .i64 (ni : Int), .slice A L c] 24)).alloc (.cells #[.int .u8 k, .int .i64 j1, .int .i64 j2, .int .i64 j3, .int .i64 j4] 26)).alloc (.cells #[.int .i64 p.st, .slice Av ni cv, .slice Ac ni cc, .slice Ai ni ci, .int .i64 p.sm, .int .i64 p.mo] 33)).alloc (.cells #[.int .i64 0, .slice none 0 0, .slice none 0 0, .slice none 0 0, .int .i64 0, .int .i64 0] 33) = u := ⟨_, rfl⟩
   rw [hu]
   have HU := hide (allocs4 hu)
   clear hu
   have hzu : u.heap.size = w.heap.size + 4 := HU.out.2.1
   have c0 : u.cell? ⟨w.heap.size, 0, none⟩ = some (.int .i64 (ni : Int)) := cell_of_row _ _ 0 _ _ _ HU.out.2.2.1
   have c1 : u.cell? ⟨w.heap.size, 1, none⟩ = some (.slice A L c) := cell_of_row _ _ 1 _ _ _ HU.out.2.2.1
   have d0 : u.cell? ⟨w.heap.size + 1, 0, none⟩ = some (.int .u8 k) := cell_of_row _ _ 0 _ _ _ HU.out.2.2.2.1
   have d1 : u.cell? ⟨w.heap.size + 1, 1, none⟩ = some (.int .i64 j1) := cell_of_row _ _ 1 _ _ _ HU.out.2.2.2.1
   have d2 : u.cell? ⟨w.heap.size + 1, 2, none⟩ = some (.int .i64 j2) := cell_of_row _ _ 2 _ _ _ HU.out.2.2.2.1
   have d3 : u.cell? ⟨w.heap.size + 1, 3, none⟩ = some (.int .i64 j3) := cell_of_row _ _ 3 _ _ _ HU.out.2.2.2.1
   have d4 : u.cell? ⟨w.heap.size + 1, 4, none⟩ = some (.int .i64 j4) := cell_of_row _ _ 4 _ _ _ HU.out.2.2.2.1
   have hz0 : w.heap.size < u.heap.size := by omega
   have hz1 : w.heap.size + 1 < u.heap.size := by omega
   have hb0 := build_any u ni hV A es L c HL.out (by omega) ((HE.out.below HU.out.1 (Nat.le_refl _)).more HU.out.1.size) k j1 j2 j3 j4
   rw [HEe.out] at hb0
   have HB0 := hide hb0
   clear hb0
   go_wp2_with fail
   refine HB0.out.mono ?_
   rintro e y (⟨hE0, _⟩ | ⟨_, m, Bm, xs, rfl, hA, hm1, hm2, hMI⟩)
   ·exact absurd rfl hE0
   obtain ⟨Aof, Aow, cof, cow, hMH⟩ := hMI.has hA HE.out.wt
   have HMY := hide hMH
   have HY := hide hMI.below
   have syu : u.heap.size ≤ y.heap.size := hMI.below.size
   clear hMH hMI hA hm1 hm2
   clear c0 c1 d0 d1 d2 d3 d4 hz0 hz1
   have c0 : y.cell? ⟨w.heap.size, 0, none⟩ = some (.int .i64 (ni : Int)) := cell_of_row _ _ 0 _ _ _ ((HY.out.block _ (by omega)).trans HU.out.2.2.1)
   have hz0 : w.heap.size < y.heap.size := by omega
   have s0 : y.cell? ⟨w.heap.size + 1 + 1, 0, none⟩ = some (.int .i64 p.st) := cell_of_row _ _ 0 _ _ _ ((HY.out.block _ (by omega)).trans HU.out.2.2.2.2.1)
   have s1 : y.cell? ⟨w.heap.size + 1 + 1, 1, none⟩ = some (.slice Av ni cv) := cell_of_row _ _ 1 _ _ _ ((HY.out.block _ (by omega)).trans HU.out.2.2.2.2.1)
   have s2 : y.cell? ⟨w.heap.size + 1 + 1, 2, none⟩ = some (.slice Ac ni cc) := cell_of_row _ _ 2 _ _ _ ((HY.out.block _ (by omega)).trans HU.out.2.2.2.2.1)
   have s3 : y.cell? ⟨w.heap.size + 1 + 1, 3, none⟩ = some (.slice Ai ni ci) := cell_of_row _ _ 3 _ _ _ ((HY.out.block _ (by omega)).trans HU.out.2.2.2.2.1)
   have s4 : y.cell? ⟨w.heap.size + 1 + 1, 4, none⟩ = some (.int .i64 p.sm) := cell_of_row _ _ 4 _ _ _ ((HY.out.block _ (by omega)).trans HU.out.2.2.2.2.1)
   have s5 : y.cell? ⟨w.heap.size + 1 + 1, 5, none⟩ = some (.int .i64 p.mo) := cell_of_row _ _ 5 _ _ _ ((HY.out.block _ (by omega)).trans HU.out.2.2.2.2.1)
   have hz2 : w.heap.size + 1 + 1 < y.heap.size := by omega
   have hmy := pmay_any y p Av Ac Ai ni ni ni cv cc ci HVL.out (HVI.out.next (HU.out.1.trans (HY.out.mono (by omega)))) (by omega) (by omega) (ni : Int)
   rw [HMV.out] at hmy
   have HMY2 := hide hmy
   clear hmy
   go_wp2_with fail
   refine HMY2.out.mono ?_
   rintro e z ⟨rfl, hzz⟩
   have HZ := hide hzz
   have szy : y.heap.size ≤ z.heap.size := hzz.size
   clear hzz c0 hz0
   clear s0 s1 s2 s3 s4 s5 hz2
   have s0 : z.cell? ⟨w.heap.size + 1 + 1, 0, none⟩ = some (.int .i64 p.st) := cell_of_row _ _ 0 _ _ _ ((HZ.out.block _ (by omega)).trans ((HY.out.block _ (by omega)).trans HU.out.2.2.2.2.1))
   have hz2 : w.heap.size + 1 + 1 < z.heap.size := by omega
   have hq1 : (p.st == 2000) = false := by simpa using hq
   have hq2 : ¬ (2000 ≤ p.st) := by omega
   clear hq s0 hz2
   have s0 : z.cell? ⟨w.heap.size + 1 + 1, 0, none⟩ = some (.int .i64 p.st) := cell_of_row _ _ 0 _ _ _ ((HZ.out.block _ (by omega)).trans ((HY.out.block _ (by omega)).trans HU.out.2.2.2.2.1))
   have s1 : z.cell? ⟨w.heap.size + 1 + 1, 1, none⟩ = some (.slice Av ni cv) := cell_of_row _ _ 1 _ _ _ ((HZ.out.block _ (by omega)).trans ((HY.out.block _ (by omega)).trans HU.out.2.2.2.2.1))
   have s2 : z.cell? ⟨w.heap.size + 1 + 1, 2, none⟩ = some (.slice Ac ni cc) := cell_of_row _ _ 2 _ _ _ ((HZ.out.block _ (by omega)).trans ((HY.out.block _ (by omega)).trans HU.out.2.2.2.2.1))
   have s3 : z.cell? ⟨w.heap.size + 1 + 1, 3, none⟩ = some (.slice Ai ni ci) := cell_of_row _ _ 3 _ _ _ ((HZ.out.block _ (by omega)).trans ((HY.out.block _ (by omega)).trans HU.out.2.2.2.2.1))
   have s4 : z.cell? ⟨w.heap.size + 1 + 1, 4, none⟩ = some (.int .i64 p.sm) := cell_of_row _ _ 4 _ _ _ ((HZ.out.block _ (by omega)).trans ((HY.out.block _ (by omega)).trans HU.out.2.2.2.2.1))
   have s5 : z.cell? ⟨w.heap.size + 1 + 1, 5, none⟩ = some (.int .i64 p.mo) := cell_of_row _ _ 5 _ _ _ ((HZ.out.block _ (by omega)).trans ((HY.out.block _ (by omega)).trans HU.out.2.2.2.2.1))
   have hz2 : w.heap.size + 1 + 1 < z.heap.size := by omega
   go_wp2_with fail
   refine (mnext_any z m ni A L c k j1 j2 j3 j4 es xs Aof Aow cof cow (HMY.out.next HZ.out) hV HL.out hL5 hEB p HOK.out Av Ac Ai cv cc ci ((HVI.out.next (HU.out.1.trans (HY.out.mono (by omega)))).next HZ.out) g4 g5).mono ?_
   rintro e z3 ⟨Av2, Ac2, Ai2, cv2, cc2, ci2, rfl, hi2, hb2, n1, n2, n3⟩
   have HI2 := hide hi2
   have HZ3 := hide hb2
   have HN := hide (And.intro n1 (And.intro n2 n3))
   have sz3 : z.heap.size ≤ z3.heap.size := hb2.size
   clear hi2 hb2 n1 n2 n3
   clear s0 s1 s2 s3 s4 s5 hz2
   have HRow := hide ((HZ3.out.block _ (by omega)).trans ((HZ.out.block _ (by omega)).trans ((HY.out.block _ (by omega)).trans HU.out.2.2.2.2.2)))
   have hRz : w.heap.size + 1 + 1 + 1 < z3.heap.size := by omega
   have q0 : z3.cell? ⟨w.heap.size + 1 + 1 + 1, 0, none⟩ = some (.int .i64 0) := cell_of_row _ _ 0 _ _ _ HRow.out
   have q1 : z3.cell? ⟨w.heap.size + 1 + 1 + 1, 1, none⟩ = some (.slice none 0 0) := cell_of_row _ _ 1 _ _ _ HRow.out
   have q2 : z3.cell? ⟨w.heap.size + 1 + 1 + 1, 2, none⟩ = some (.slice none 0 0) := cell_of_row _ _ 2 _ _ _ HRow.out
   have q3 : z3.cell? ⟨w.heap.size + 1 + 1 + 1, 3, none⟩ = some (.slice none 0 0) := cell_of_row _ _ 3 _ _ _ HRow.out
   have q4 : z3.cell? ⟨w.heap.size + 1 + 1 + 1, 4, none⟩ = some (.int .i64 0) := cell_of_row _ _ 4 _ _ _ HRow.out
   have q5 : z3.cell? ⟨w.heap.size + 1 + 1 + 1, 5, none⟩ = some (.int .i64 0) := cell_of_row _ _ 5 _ _ _ HRow.out
   have f0 : z3.frozen? ⟨w.heap.size + 1 + 1 + 1, 0, none⟩ = false := frozen_of_row _ _ 0 _ _ HRow.out
   have f1 : z3.frozen? ⟨w.heap.size + 1 + 1 + 1, 1, none⟩ = false := frozen_of_row _ _ 1 _ _ HRow.out
   have f2 : z3.frozen? ⟨w.heap.size + 1 + 1 + 1, 2, none⟩ = false := frozen_of_row _ _ 2 _ _ HRow.out
   have f3 : z3.frozen? ⟨w.heap.size + 1 + 1 + 1, 3, none⟩ = false := frozen_of_row _ _ 3 _ _ HRow.out
   have f4 : z3.frozen? ⟨w.heap.size + 1 + 1 + 1, 4, none⟩ = false := frozen_of_row _ _ 4 _ _ HRow.out
   have f5 : z3.frozen? ⟨w.heap.size + 1 + 1 + 1, 5, none⟩ = false := frozen_of_row _ _ 5 _ _ HRow.out
   go_wp2
   obtain ⟨wf, hwf⟩ : ∃ q, (((((z3.setCell ⟨w.heap.size + 1 + 1 + 1, 0, none⟩ (.int .i64 (nextV k j3 es ni p).st)).setCell ⟨w.heap.size + 1 + 1 + 1, 1, none⟩ (.slice Av2 ni cv2)).setCell ⟨w.heap.size + 1 + 1 + 1, 2, none⟩ (.slice Ac2 ni cc2)).setCell ⟨w.heap.size + 1 + 1 + 1, 3, none⟩ (.slice Ai2 ni ci2)).setCell ⟨w.heap.size + 1 + 1 + 1, 4, none⟩ (.int .i64 (nextV k j3 es ni p).sm)).setCell ⟨w.heap.size + 1 + 1 + 1, 5, none⟩ (.int .i64 (nextV k j3 es ni p).mo) = q := ⟨_, rfl⟩
   have hF := far6 z3 (w.heap.size + 1 + 1 + 1) (w.heap.size + 1 + 1 + 1) (.int .i64 (nextV k j3 es ni p).st) (.slice Av2 ni cv2) (.slice Ac2 ni cc2) (.slice Ai2 ni ci2) (.int .i64 (nextV k j3 es ni p).sm) (.int .i64 (nextV k j3 es ni p).mo) HRow.out
   rw [hwf] at hF ⊢
   obtain ⟨FF, HFY⟩ := hF
   obtain ⟨y0, y1, y2, y3, y4, y5⟩ := cells6 HFY
   clear hwf HFY
   exact bodyPost_ret (v := .tuple #[.agg #[.int .i64 (nextV k j3 es ni p).st, .slice Av2 ni cv2, .slice Ac2 ni cc2, .slice Ai2 ni ci2, .int .i64 (nextV k j3 es ni p).sm, .int .i64 (nextV k j3 es ni p).mo], .int .i64 0]) (by simp [results, Tryz.results19, go_sem, y0, y1, y2, y3, y4, y5]) rfl (.inr ⟨rfl, Av2, Ac2, Ai2, cv2, cc2, ci2, rfl, ⟨FF.rd HI2.out.vals HN.out.1 (by omega) (by omega), FF.rd HI2.out.chg HN.out.2.1 (by omega) (by omega), FF.rd HI2.out.inb HN.out.2.2 (by omega) (by omega)⟩, (((HU.out.1.trans (HY.out.mono (by omega))).trans (HZ.out.mono (by omega))).trans (HZ3.out.mono (by omega))).trans (FF.below (by omega) (by omega)), HN.out.1.mono (by omega), HN.out.2.1.mono (by omega), HN.out.2.2.mono (by omega)⟩)
end Go.Proofs.YtpgbjabifhjogaaGreat
namespace Go.Proofs.YtpgbjabifhjogaaGreat
open Go.RowKit
theorem acheck_damp {k j1 j2 j3 j4 V : Int} {es : List Ed} (h : acheckF k j1 j2 j3 j4 V es = 0) : 0 ≤ j3 ∧ j3 ≤ 4294967296 := by
 unfold acheckF at h
 split at h
 ·rename_i h1
  exact absurd h h1
 ·split at h
  ·rename_i h3
   have hm := h3.2.2.2
   unfold mayK at hm
   split at hm
   ·simp only [Bool.and_eq_true, decide_eq_true_eq] at hm
    omega
   ·split at hm
    ·simp only [Bool.and_eq_true, decide_eq_true_eq] at hm
     omega
    ·simp only [Bool.and_eq_true, decide_eq_true_eq] at hm
     omega
  ·cases h
def addN (f : Nat → Int) : Nat → Int
 | 0 => 0
 | n + 1 => dadd (addN f n) (f n)
theorem addN_in (f : Nat → Int) : ∀ n, IN (addN f n)
 | 0 => IN_zero
 | n + 1 => dadd_in _ _
theorem addN_le {f : Nat → Int} : ∀ {n : Nat}, (∀ v, v < n → 0 ≤ f v) → addN f n ≤ sumN f n
 | 0, _ => Int.le_refl _
 | n + 1, h => by
  have h1 := addN_le (n := n) (fun v hv => h v (by omega))
  have h2 := dadd_le (addN_in f n).1 (h n (by omega))
  unfold addN sumN
  omega
structure GoesV (k j1 j2 j3 j4 : Int) (es : List Ed) (V : Nat) : Prop where
 st : ∀ n, InS V (atV k j2 j3 es V n)
 may : ∀ n, n ≤ 2000 → mayV (V : Int) (atV k j2 j3 es V n) = true
 step : ∀ n, n < 2000 → stepE 0 (V : Int) (atV k j2 j3 es V n) = 0
 falls : k ≠ 1 → ∀ n v, v < V → (atV k j2 j3 es V (n + 1)).vals.getD v 0 ≤ (atV k j2 j3 es V n).vals.getD v 0
 sum : k = 1 → ∀ n, addN (fun v => (atV k j2 j3 es V n).vals.getD v 0) V ≤ 4294967296
 done : k ≠ 1 → ∀ n, 0 < n → (atV k j2 j3 es V n).mo = 0 → (atV k j2 j3 es V (n + 1)).mo = 0 ∧ (atV k j2 j3 es V (n + 1)).vals = (atV k j2 j3 es V n).vals
theorem goes_all {k j1 j2 j3 j4 : Int} {es : List Ed} {V : Nat} (h : acheckF k j1 j2 j3 j4 (V : Int) es = 0) : GoesV k j1 j2 j3 j4 es V := by
 obtain ⟨⟨hV1, hV2, he⟩, hk, _⟩ := acheck_ok h
 have hd := acheck_damp h
 have ha := at_in (j2 := j2) he (show 1 ≤ V by omega) (show V ≤ 512 by omega) hd.1 hd.2 hk
 have hm : ∀ n, n ≤ 2000 → mayV (V : Int) (atV k j2 j3 es V n) = true := fun n hn => (ha n).1.may (by rw [atV_st]; omega) (by rw [atV_st]; omega)
 refine ⟨fun n => (ha n).1, hm, fun n hn => ?_, fun hk1 n v hv => next_falls (by omega) hv, fun hk1 n => ?_, fun hk1 n hn h0 => ?_⟩
 ·unfold stepE
  rw [if_neg (fun h => h rfl), hm n (by omega), if_neg (by rw [atV_st]; simp; omega)]
 ·exact Int.le_trans (addN_le fun v hv => (getD_in (ha n).1.vals v).1) ((ha n).2 hk1).sum
 ·obtain ⟨m, rfl⟩ : ∃ m, n = m + 1 := ⟨n - 1, by omega⟩
  have hs := done_stays (j3 := j3) (show k = 2 ∨ k = 3 by omega) (show (nextVals k j3 V (atV k j2 j3 es V m) V).length = V by simp [nextVals]) h0
  exact ⟨hs.2, hs.1⟩
end Go.Proofs.YtpgbjabifhjogaaGreat
