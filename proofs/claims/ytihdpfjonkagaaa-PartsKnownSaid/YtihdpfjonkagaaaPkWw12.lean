/- Lemmas: Rws, Psm, Gsm. -/
import Derived.Test.YtihdpfjonkagaaaProg
import Derived.Lib.Hide
import Derived.WalkSpells
import Derived.WalkMore
import Derived.IntWalk
import Derived.Test.YtihdpfjonkagaaaPkWw4
import Derived.Test.YtihdpfjonkagaaaPkWw5
import Derived.Test.YtihdpfjonkagaaaPkWw6
import Derived.Test.YtihdpfjonkagaaaPkWw11
set_option linter.unusedVariables false
set_option linter.unusedSimpArgs false
set_option maxRecDepth 100000
set_option maxHeartbeats 16000000
namespace Go.Proofs.Ytihdpfjonkagaaa
open Go.RowKit
theorem KB.map {X : List Nat} {v w : World} (h : KB X v w) {P : Program} {k : TypeId} {R : Value → Option (DataW Unit × List MemPlace)} {b n : Nat} {D : DataW Unit} (ho : v.ownsMap P k R b n D) (hx : b ∉ X) : w.ownsMap P k R b n D := by
 have hl := ho.lt
 obtain ⟨es, cl, hb, hr⟩ := ho
 exact ⟨es, cl, (h.2 b hl hx).trans hb, hr⟩
theorem below_map {B : Nat} {v w : World} (h : Below B v w) {P : Program} {k : TypeId} {R : Value → Option (DataW Unit × List MemPlace)} {b n : Nat} {D : DataW Unit} (ho : v.ownsMap P k R b n D) (hx : b < B) : w.ownsMap P k R b n D := by
 obtain ⟨es, cl, hb, hr⟩ := ho
 exact ⟨es, cl, (h.block b hx).trans hb, hr⟩
theorem own_raise {w : World} {b b' : Nat} {e : TypeId} {size n : Nat} {v : Value} {xs : List Value} (h : w.ownsRow b e size v n xs) (hb : ∀ g, v.ownBlock = some g → b' ≤ g) : w.ownsRow b' e size v n xs := by
 refine ⟨h.1, ?_⟩
 rcases h.2 with h0 | ⟨g, cap, cur, hv, hg, hc, hr⟩
 ·exact .inl h0
 ·exact .inr ⟨g, cap, cur, hv, hb g (by rw [hv]; rfl), hc, hr⟩
def AllFrom (b : Nat) (hs : List Value) : Prop := ∀ (i : Nat) (x : Value) (g : Nat), hs[i]? = some x → x.ownBlock = some g → b ≤ g
theorem AllFrom.nils (b n : Nat) : AllFrom b (List.replicate n (.slice none 0 0)) := fun i x g h hg => by
 have := List.eq_of_mem_replicate (List.mem_of_getElem? h)
 subst this
 cases hg
theorem AllFrom.set {b j : Nat} {hs : List Value} {v v0 : Value} (h : AllFrom b hs) {m : Nat} (hj : hs[j]? = some v0) (hv : v.ownBlock = v0.ownBlock ∨ v.ownBlock = some m) (hm : b ≤ m) : AllFrom b (hs.set j v) := fun i x g hx hg => by
 rw [List.getElem?_set] at hx
 by_cases hij : j = i
 ·subst hij
  rw [if_pos rfl, if_pos (List.getElem?_eq_some_iff.1 hj).1] at hx
  simp only [Option.some.injEq] at hx
  subst hx
  rcases hv with h1 | h1
  ·exact h j v0 g hj (h1.symm.trans hg)
  ·rw [h1] at hg
   injection hg with hg
   omega
 ·rw [if_neg hij] at hx
  exact h i x g hx hg
def rowsAt (f : Ed → Int) (own : List Int) (es : List Ed) (k : Nat) : List (List Ed) := own.map fun v => (es.take k).filter fun e => f e == v
theorem rowsAt_len (f : Ed → Int) (own : List Int) (es : List Ed) (k : Nat) : (rowsAt f own es k).length = own.length := by simp [rowsAt]
theorem rowsAt_zero (f : Ed → Int) (own : List Int) (es : List Ed) : rowsAt f own es 0 = List.replicate own.length [] := by
 apply List.ext_getElem?
 intro i
 simp only [rowsAt, List.getElem?_replicate, List.getElem?_map, List.take_zero, List.filter_nil]
 by_cases h : i < own.length
 ·rw [List.getElem?_eq_getElem h, if_pos h]; rfl
 ·rw [List.getElem?_eq_none (by omega), if_neg h]; rfl
theorem rowsAt_get {f : Ed → Int} {own : List Int} {es : List Ed} {k i : Nat} {v : Int} (h : own[i]? = some v) : (rowsAt f own es k)[i]? = some ((es.take k).filter fun e => f e == v) := by
 simp [rowsAt, h]
theorem rowsAt_out {f : Ed → Int} {own : List Int} {es : List Ed} {k : Nat} {e : Ed} (h : es[k]? = some e) (ho : f e ∉ own) : rowsAt f own es (k + 1) = rowsAt f own es k := by
 unfold rowsAt
 refine List.map_congr_left fun v hv => ?_
 rw [filt_step h]
 have : (f e == v) = false := by simp only [beq_eq_false_iff_ne, ne_eq]; exact fun e2 => ho (e2 ▸ hv)
 simp [this]
theorem rowsAt_in {f : Ed → Int} {own : List Int} {es : List Ed} {k i : Nat} {e : Ed} {r : List Ed} (h : es[k]? = some e) (hn : own.Nodup) (hi : own[i]? = some (f e)) (hr : (es.take k).filter (fun x => f x == f e) = r) : rowsAt f own es (k + 1) = (rowsAt f own es k).set i (r ++ [e]) := by
 apply List.ext_getElem?
 intro j
 rw [List.getElem?_set, rowsAt_len]
 have hil := (List.getElem?_eq_some_iff.1 hi).1
 by_cases hij : i = j
 ·subst hij
  rw [if_pos rfl, if_pos hil, rowsAt_get hi, filt_step h, hr]
  simp
 ·rw [if_neg hij]
  rcases hj : own[j]? with _ | v
  ·simp [rowsAt, hj]
  ·rw [rowsAt_get hj, rowsAt_get hj, filt_step h]
   have : (f e == v) = false := by
    simp only [beq_eq_false_iff_ne, ne_eq]
    intro e2
    subst e2
    obtain ⟨h1, h2⟩ := List.getElem?_eq_some_iff.1 hi
    obtain ⟨h3, h4⟩ := List.getElem?_eq_some_iff.1 hj
    exact hij ((List.getElem_inj hn).1 (h2.trans h4.symm))
   simp [this]
theorem ORows.made {w : World} {g n : Nat} (h : w.ownsRow g 28 1 (.slice (some ⟨g, 0, none⟩) n n) n (List.replicate n (.slice none 0 0))) : ORows w g (some ⟨g, 0, none⟩) n (List.replicate n (.slice none 0 0)) (List.replicate n []) := by
 refine ⟨by rw [List.length_replicate]; exact h, fun i x r h1 h2 => ?_, fun i j x y _ h1 _ => ?_⟩
 ·have e1 := List.eq_of_mem_replicate (List.mem_of_getElem? h1)
  have e2 := List.eq_of_mem_replicate (List.mem_of_getElem? h2)
  subst e1 e2
  exact ⟨⟨none, 0, rfl⟩, World.ownsRow_nil _ _ _ _, fun e he => by cases he⟩
 ·have e1 := List.eq_of_mem_replicate (List.mem_of_getElem? h1)
  subst e1
  exact .inl rfl
theorem ORows.put {y y3 : World} {B g j n q : Nat} {c cap c' : Nat} {Aj A' : Option Addr} {hs : List Value} {rs : List (List Ed)} {r : List Ed} {e : Ed} (hlen : rs.length = n) (h : ORows y B (some ⟨g, 0, none⟩) c hs rs) (hj : hs[j]? = some (.slice Aj q cap)) (hr : rs[j]? = some r) (hq : r.length = q)
  (hw : -9223372036854775808 ≤ e.2.2 ∧ e.2.2 ≤ 9223372036854775807)
  (own3 : y3.ownsRow B 44 3 (.slice A' (q + 1) c') (q + 1) (edFlat r ++ [.int .i64 e.1, .int .i64 e.2.1, .int .i64 e.2.2])) (hg : y.grownBy y3 (Value.slice Aj q cap).ownBlock)
  (hat : (Value.slice A' (q + 1) c').ownBlock = (Value.slice Aj q cap).ownBlock ∨ (Value.slice A' (q + 1) c').ownBlock = some y.heap.size) :
  ORows (y3.setCell ⟨g, j, none⟩ (.slice A' (q + 1) c')) B (some ⟨g, 0, none⟩) c (hs.set j (.slice A' (q + 1) c')) (rs.set j (r ++ [e])) := by
 subst hlen hq
 have hE : EdOwn y B (.slice Aj r.length cap) r := h.row j _ r hj hr
 have hout : y3.ownsRow B 28 1 (.slice (some ⟨g, 0, none⟩) rs.length c) rs.length hs := by
  refine h.own.kept hg ?_
  rcases own_apart hE.2.1 h.own edge_ne_row with h1 | h1
  ·exact .inr (by rw [h1]; simp [Value.ownBlock])
  ·exact .inr fun e => h1 e.symm
 obtain ⟨hst, hgs⟩ := hout.stored j (.slice A' (r.length + 1) c')
 have hjl := (List.getElem?_eq_some_iff.1 hj).1
 have hwt : wt (r ++ [e]) := fun x hx => by
  rcases List.mem_append.1 hx with hx | hx
  ·exact hE.2.2 x hx
  ·simp at hx; subst hx; exact hw
 have hnew : EdOwn (y3.setCell ⟨g, j, none⟩ (.slice A' (r.length + 1) c')) B (.slice A' (r.length + 1) c') (r ++ [e]) := by
  refine ⟨⟨A', c', by simp⟩, ?_, hwt⟩
  have h3 : y3.ownsRow B 44 3 (.slice A' (r.length + 1) c') (r ++ [e]).length (edFlat (r ++ [e])) := by
   rw [← edFlat_app]; simpa [edFlat] using own3
  exact h3.kept hgs (own_apart h3 hout edge_ne_row)
 refine ⟨by rw [List.length_set]; exact hst, fun i x p h1 h2 => ?_, fun i k x z hik h1 h2 => ?_⟩
 ·rw [List.getElem?_set] at h1 h2
  by_cases hij : j = i
  ·subst hij
   rw [if_pos rfl, if_pos hjl] at h1
   rw [if_pos rfl, if_pos (by rw [← h.len]; exact hjl)] at h2
   simp only [Option.some.injEq] at h1 h2
   subst h1 h2
   exact hnew
  ·rw [if_neg hij] at h1 h2
   obtain ⟨k1, k2, k3⟩ := h.row i x p h1 h2
   have k4 := k2.kept hg (h.apart i j x _ (fun e => hij e.symm) h1 hj)
   exact ⟨k1, k4.kept hgs (own_apart k4 hout edge_ne_row), k3⟩
 ·have key : ∀ (i : Nat) (x : Value), j ≠ i → hs[i]? = some x → ∀ b, x.ownBlock = some b → (Value.slice A' (r.length + 1) c').ownBlock ≠ some b := fun i x hij h1 b hb he => by
   rcases hat with h3 | h3
   ·rcases h.apart i j x _ (fun e => hij e.symm) h1 hj with h4 | h4
    ·rw [h4] at hb; cases hb
    ·exact h4 (hb.trans (he.symm.trans h3))
   ·rw [h3] at he
    injection he with he
    have := (h.lt i x b h1 hb).2
    omega
  rw [List.getElem?_set] at h1 h2
  by_cases hij : j = i
  ·subst hij
   rw [if_pos rfl, if_pos hjl] at h1
   rw [if_neg hik] at h2
   simp only [Option.some.injEq] at h1
   subst h1
   rcases hb : (Value.slice A' (r.length + 1) c').ownBlock with _ | b
   ·exact .inl rfl
   ·exact .inr fun e => key k z hik h2 b e.symm hb
  ·rw [if_neg hij] at h1
   by_cases hjk : j = k
   ·subst hjk
    rw [if_pos rfl, if_pos hjl] at h2
    simp only [Option.some.injEq] at h2
    subst h2
    rcases hb : x.ownBlock with _ | b
    ·exact .inl rfl
    ·exact .inr fun e => key i x hij h1 b hb e.symm
   ·rw [if_neg hjk] at h2
    exact h.apart i k x z hik h1 h2
theorem row_at {w : World} {B g c : Nat} {hs : List Value} {rs : List (List Ed)} (h : ORows w B (some ⟨g, 0, none⟩) c hs rs) {j : Nat} {r : List Ed} (hr : rs[j]? = some r) : ∃ Aj cap, hs[j]? = some (.slice Aj r.length cap) ∧ w.cell? ⟨g, j, none⟩ = some (.slice Aj r.length cap) ∧ w.ownsRow B 44 3 (.slice Aj r.length cap) r.length (edFlat r) := by
 have hi := (List.getElem?_eq_some_iff.1 hr).1
 have hi2 : j < hs.length := by rw [h.len]; exact hi
 obtain ⟨⟨A2, c2, k1⟩, k2, k3⟩ := h.row j _ r (List.getElem?_eq_getElem hi2) hr
 have h1 : hs[j]? = some (.slice A2 r.length c2) := by rw [List.getElem?_eq_getElem hi2, k1]
 exact ⟨A2, c2, h1, (h.own.cellAt j (by omega)).trans h1, by rw [← k1]; exact k2⟩
def RowsPost (w : World) (f : Ed → Int) (own : List Int) (es : List Ed) (m : Nat) (e : Ending) (w' : World) : Prop := ∃ (Al : Option Addr) (cl : Nat) (hs : List Value), e = .returned (.slice Al m cl) ∧ ORows w' w.heap.size Al cl hs (rowsAt f own es es.length) ∧ Below w.heap.size w w'
theorem int_wf {x : Int} (h1 : -9223372036854775808 ≤ x) (h2 : x ≤ 9223372036854775807) : (Lit.int .i64 x).wf = true := by
 have e1 : IntKind.i64.min = -9223372036854775808 := by decide
 have e2 : IntKind.i64.max = 9223372036854775807 := by decide
 simp [Lit.wf, e1, e2, h1, h2]
theorem rowsFrom_any (w : World) (V : Int) (A Ao : Option Addr) (es : List Ed) (own : List Int) (L c m co : Nat) (hL : es.length = L) (hE : Eds w w.heap.size A es) (hc : L ≤ 8192) (hM : own.length = m) (hO : Rd w w.heap.size Ao (own.map (Value.int .i64))) (hm : m ≤ 512) (hnd : own.Nodup)
  (hob : ∀ v ∈ own, -9223372036854775808 ≤ v ∧ v ≤ 9223372036854775807) (hkb : ∀ e ∈ es, -9223372036854775808 ≤ e.1 ∧ e.1 ≤ 9223372036854775807) :
  Calls Try.prog 32 #[.agg #[.int .i64 V, .slice A L c], .slice Ao m co, .func (.func 33) #[] #[]] w (RowsPost w (fun e : Ed => e.1) own es m) := by
 obtain ⟨i0, hi0, hz0, hz1, hz2⟩ := info_parts (show (Try.prog.info? 28).map (fun i => (i.zero, i.size, i.bytes)) = some (some (.slice none 0 0), 1, 24) by kernel_rfl)
 obtain ⟨i1, hi1, hy0, hy1, hy2⟩ := info_parts (show (Try.prog.info? 44).map (fun i => (i.zero, i.size, i.bytes)) = some (some (.agg #[.int .i64 0, .int .i64 0, .int .i64 0]), 3, 24) by kernel_rfl)
 have K : Maps.Keyed Try.prog 3 := Maps.int_keyed Try.underlying3
 have hmm := @run_makeMap Try.prog
 obtain ⟨u, hu⟩ : ∃ u, (w.alloc (.cells #[.int .i64 V, .slice A L c] 30)).alloc (.map #[] 0) = u := ⟨_, rfl⟩
 have hzu : u.heap.size = w.heap.size + 2 := by rw [← hu]; simp
 have hbu : Below w.heap.size w u := by rw [← hu]; exact ((Below.refl _ _).alloc (Nat.le_refl _) _).alloc (by simp) _
 have GU : Hid (u.heap[w.heap.size]? = some (.cells #[.int .i64 V, .slice A L c] 30)) := hide (by rw [← hu]; exact (Below.heap_alloc _ _ _ (by simp)).trans (heap_alloc_last w _))
 have MU : Hid (u.ownsMap Try.prog 3 (plainElem (H := Unit) Try.prog 3) (w.heap.size + 1) 0 (mapD (own.take 0))) := hide (by
  rw [← hu]
  have := World.ownsMap_made (w.alloc (.cells #[.int .i64 V, .slice A L c] 30)) Try.prog 3 (plainElem (H := Unit) Try.prog 3)
  rw [World.size_alloc] at this
  exact this)
 have HL := hide hL
 have HE0 := hide hE
 have HM := hide hM
 have HO := hide hO
 have HND := hide hnd
 have HOB := hide hob
 have HKB := hide hkb
 have HB := hide hbu
 have HU := hide hu
 clear hu hbu hE hL hM hO hnd hob hkb
 go_enter Try.func32, Try.ntmps32
 go_wp2
 rw [HU.out]
 go_loopw [18] (fun v18 wr => ∃ i : Nat, i ≤ m ∧ v18 = .int .i64 i ∧ Hid (wr.ownsMap Try.prog 3 (plainElem (H := Unit) Try.prog 3) (w.heap.size + 1) i (mapD (own.take i))) ∧ Hid (KB [w.heap.size + 1] u wr) ∧ Hid (Below w.heap.size w wr)) (fun v18 _ => m - (intOf v18).toNat)
 case atStart => exact ⟨0, by omega, rfl, MU, hide (KB.refl _ _), HB⟩
 case round =>
  obtain ⟨i, hi, rfl, HMp, HK, HBr⟩ := hrel
  have hus : u.heap.size ≤ wr.heap.size := HK.out.1
  by_cases hlt : i < m
  ·obtain ⟨x, hx⟩ : ∃ x, own[i]? = some x := ⟨_, List.getElem?_eq_getElem (by rw [HM.out]; exact hlt)⟩
   obtain ⟨ob, oo, rfl, hob, hcell⟩ := HO.out.at_ (k := i) (by rw [List.length_map, HM.out]; exact hlt)
   have d0 : wr.cell? ⟨ob, oo + i, none⟩ = some (.int .i64 x) := ((HK.out.cell (p := ⟨ob, oo + i, none⟩) (by show ob < _; omega) (by simp; omega)).trans (HB.out.cell (p := ⟨ob, oo + i, none⟩) hob)).trans (hcell i _ (by rw [List.getElem?_map, hx]; rfl))
   have HX := hide hx
   have hxb := HOB.out x (List.mem_of_getElem? hx)
   have HXB := hide hxb
   have hsn : Hid ((mapD (own.take i)).put (li x) (.lit (.int .i64 (i : Int))) = mapD (own.take (i + 1))) := hide (by
    rw [List.take_add_one, hx]
    have := mapD_snoc (own.take i) x
    rw [List.length_take, HM.out, Nat.min_eq_left (by omega)] at this
    exact this.symm)
   clear hcell hx
   go_wp2_with (at_mapUpdate; refine wpList_mapUpdate_own _ rfl _ _ _ 79 rfl 3 3 K Try.underlying79 _ (w.heap.size + 1) i _ rfl HMp.out (by unfold maxLen; omega) _ _ (li x) rfl rfl (Maps.keyOf_int_mk Try.underlying3 (int_wf hxb.1 hxb.2)) (.lit (.int .i64 (i : Int))) [] (plainElem_int Try.underlying3 (int_wf (by omega) (by omega))) ?_; intro w1 hown1 hg1)
   rw [hsn.out] at hown1
   have HM1 := hide hown1
   have HK1 := hide (HK.out.grown hg1 (fun g e => by injection e with e; subst e; exact .inr (by simp)))
   have HB1 := hide (HBr.out.grown hg1 HBr.out.size (fun g e => by injection e with e; omega))
   clear hown1 hg1 d0 HMp hxb
   go_wp2
   go_roundw
   case rel => exact ⟨i + 1, by omega, by go_num, HM1, HK1, HB1⟩
   case measure => simp [intOf]; omega
  ·obtain rfl : i = m := by omega
   have hfull : own.take i = own := List.take_of_length_le (by rw [HM.out]; exact Nat.le_refl _)
   rw [hfull] at HMp
   have hb8 : i0.bytes * i ≤ 281474976710656 := by rw [hz2]; omega
   have g1 : wr.cell? ⟨w.heap.size, 1, none⟩ = some (.slice A L c) := (HK.out.cell (p := ⟨w.heap.size, 1, none⟩) (by show w.heap.size < _; omega) (by simp)).trans (cell_of_row _ _ 1 _ _ _ GU.out)
   have hlw : w.heap.size < wr.heap.size := by omega
   clear hfull
   go_wp2_with (at_make; refine wpList_make_full _ rfl (.tmp 28) (.tmp 28) 32 rfl wr.heap.size 28 i0 (.slice none 0 0) 1 Try.underlying32 hi0 hz0 hz1 .i64 .i64 _ _ i rfl rfl ?_ ?_ hb8 (by unfold maxLen; omega) (Nat.le_refl _) ?_; rfl; rfl; intro v hown2 hg2; rw [show (madeCells (Value.slice none 0 0).cells (i * 1)).toList = List.replicate i (.slice none 0 0) by rw [Nat.mul_one, show (Value.slice none 0 0).cells = #[Value.slice none 0 0] from rfl, toList_madeCells_one]] at hown2; have hv2 : Below wr.heap.size wr v := (Below.refl _ wr).grown hg2 (Nat.le_refl _) (fun k e => by cases e); have HOM := hide (ORows.made hown2); have hlv := (hown2.lt _ rfl).2; have HV2 := hide hv2; have g1 := (hv2.cell (p := ⟨w.heap.size, 1, none⟩) hlw).trans g1; clear hown2 hg2 hv2)
   have hlt2 := HOM.out
   have MV : Hid (v.ownsMap Try.prog 3 (plainElem (H := Unit) Try.prog 3) (w.heap.size + 1) i (mapD own)) := hide (below_map HV2.out HMp.out (by omega))
   have BV : Hid (Below w.heap.size w v) := hide (HBr.out.trans (HV2.out.mono (by omega)))
   obtain ⟨g, hgz⟩ : ∃ g, wr.heap.size = g := ⟨_, rfl⟩
   rw [hgz] at HOM hlv hlw
   rw [hgz]
   have hwg : w.heap.size + 2 ≤ g := by omega
   have OV : Hid (ORows v g (some ⟨g, 0, none⟩) i (List.replicate i (.slice none 0 0)) (rowsAt (fun e : Ed => e.1) own es 0)) := hide (by rw [rowsAt_zero, HM.out]; exact HOM.out)
   clear HOM HMp HBr HK HV2 hgz hlt2 hb8
   go_wp2
   go_loopw [33] (fun v33 wr2 => ∃ (k : Nat) (hs : List Value), k ≤ L ∧ v33 = .int .i64 k ∧ Hid (ORows wr2 g (some ⟨g, 0, none⟩) i hs (rowsAt (fun e : Ed => e.1) own es k)) ∧ Hid (AllFrom v.heap.size hs) ∧ Hid (KB [g] v wr2) ∧ Hid (Below w.heap.size w wr2)) (fun v33 _ => L - (intOf v33).toNat)
   case atStart => exact ⟨0, _, by omega, rfl, OV, hide (AllFrom.nils _ _), hide (KB.refl _ _), BV⟩
   case round =>
    obtain ⟨k, hs, hk, rfl, HOr, HIn, HKr, HBr⟩ := hrel
    obtain ⟨wr2, rfl⟩ : ∃ x : World, x = wr := ⟨_, rfl⟩
    have hv2 : v.heap.size ≤ wr2.heap.size := HKr.out.1
    by_cases hlt : k < L
    ·obtain ⟨⟨x, y, z⟩, he⟩ : ∃ e, es[k]? = some e := ⟨_, List.getElem?_eq_getElem (by rw [HL.out]; exact hlt)⟩
     obtain ⟨b, off, rfl, hbl, d0, d1, d2, d3, d4⟩ := HE0.out.get he
     have hlc (j : Nat) : wr2.cell? ⟨b, off + k * 3 + j, none⟩ = w.cell? ⟨b, off + k * 3 + j, none⟩ := HBr.out.cell (p := ⟨b, off + k * 3 + j, none⟩) hbl
     have d0 := (hlc 0).trans d0
     have d1 := (hlc 1).trans d1
     have d2 := (hlc 2).trans d2
     dsimp only at d0 d1 d2 d3 d4
     rw [Nat.add_zero] at d0
     have d34 := hide (And.intro d3 d4)
     have HE := hide he
     have hkx := HKB.out _ (List.mem_of_getElem? he)
     dsimp only at hkx
     have hI1 : (k : Int) < (L : Int) := by omega
     have HKX := hide (Maps.keyOf_int_mk Try.underlying3 (int_wf hkx.1 hkx.2))
     clear he hlc hkx
     by_cases hin : x ∈ own
     ·obtain ⟨j, hj⟩ := List.getElem?_of_mem hin
      have hjm : j < i := by have := (List.getElem?_eq_some_iff.1 hj).1; rw [HM.out] at this; exact this
      obtain ⟨hhas, hatk⟩ := mapD_in own j HND.out hj
      have HATK := hide hatk
      have HJO := hide hj
      clear hin hatk hj
      go_wp2_with fail
      refine (efrom_any _ x y z).mono ?_
      rintro e ws ⟨rfl, hb1⟩
      have hbw : Below wr2.heap.size wr2 ws := ((Below.refl _ _).alloc (Nat.le_refl _) _).trans (hb1.mono (by simp))
      have HBW := hide hbw
      have hws : wr2.heap.size + 1 ≤ ws.heap.size := by have := hb1.size; simpa using this
      have hc := heap_alloc_last wr2 (.cells #[.int .i64 x, .int .i64 y, .int .i64 z] 44)
      have hc2 := (hb1.block wr2.heap.size (by simp)).trans hc
      have t0 : ws.cell? ⟨wr2.heap.size, 0, none⟩ = some (.int .i64 x) := cell_of_row _ _ 0 _ _ _ hc2
      have t1 : ws.cell? ⟨wr2.heap.size, 1, none⟩ = some (.int .i64 y) := cell_of_row _ _ 1 _ _ _ hc2
      have t2 : ws.cell? ⟨wr2.heap.size, 2, none⟩ = some (.int .i64 z) := cell_of_row _ _ 2 _ _ _ hc2
      have MW : Hid (ws.ownsMap Try.prog 3 (plainElem (H := Unit) Try.prog 3) (w.heap.size + 1) i (mapD own)) := hide (below_map hbw (HKr.out.map MV.out (by simp; omega)) (by omega))
      have hlt3 : wr2.heap.size < ws.heap.size := by omega
      obtain ⟨bt, hbt⟩ : ∃ bt, wr2.heap.size = bt := ⟨_, rfl⟩
      rw [hbt] at t0 t1 t2 hlt3 hws hv2
      rw [hbt]
      have HOW : Hid (ORows ws g (some ⟨g, 0, none⟩) i hs (rowsAt (fun e : Ed => e.1) own es k)) := hide (HOr.out.below HBW.out (Nat.le_refl _))
      have HKW : Hid (KB [g] v ws) := hide (HKr.out.below HBW.out (by omega))
      have HBr2 : Hid (Below w.heap.size w ws) := hide (HBr.out.trans (HBW.out.mono (by omega)))
      obtain ⟨r, hr⟩ : ∃ r, (es.take k).filter (fun e => e.1 == x) = r := ⟨_, rfl⟩
      obtain ⟨q, hq⟩ : ∃ q, r.length = q := ⟨_, rfl⟩
      have hrr : (rowsAt (fun e : Ed => e.1) own es k)[j]? = some r := by rw [rowsAt_get HJO.out]; exact congrArg some hr
      obtain ⟨Aj, cap, hj1, hj2, hj3⟩ := row_at HOW.out hrr
      rw [hq] at hj1 hj2 hj3
      have hqk : q ≤ k := by rw [← hq, ← hr]; exact filt_len es k
      have HRS := hide (rowsAt_in HE.out HND.out HJO.out hr)
      have HR := hide hrr; have HQ := hide hq; have HJ := hide hj1; have HQO := hide hj3
      have hcq := own_cap hj3
      have hcm := own_max hj3
      have hgl : g < ws.heap.size := by omega
      have hJ0 : (0 : Int) ≤ (j : Int) := by omega
      have hJ1 : (j : Int) < (i : Int) := by omega
      clear hb1 hbw hc hc2 hbt HOr HKr HBr HBW hr hq hrr hj1 hj3 d0 d1 d2
      go_wp2_with (at_lookup; refine wpList_lookup_own_ok_int _ rfl _ _ 79 rfl 3 3 .i64 K Try.underlying79 Try.underlying3 (by kernel_rfl) (w.heap.size + 1) i _ rfl MW.out _ (li x) rfl HKX.out ?_; intro ci hat hwc)
      obtain rfl : ci = (j : Int) := by
       have h := hat.symm.trans (HATK.out _)
       injection h with h
       injection h with _ h
      clear hat hwc
      go_wp2
      refine wpL_region (S := Kept ws) [8, 10] (by kernel_rfl) (Kept.drew ws) (fun hS0 => ?_)
      refine tw 0 46 ?_ ?_ ?_; rotate_left; (focus (intro w; go_simp; (try with_reducible rfl); done)); (try simp only [xd, xe, xf])
      refine tw 1 47 ?_ ?_ ?_; rotate_left; (focus (intro w; go_simp; (try with_reducible rfl); done)); (try simp only [xd, xe, xf])
      refine tw 2 48 ?_ ?_ ?_; rotate_left; (focus (intro w; go_simp; (try with_reducible rfl); done)); (try simp only [xd, xe, xf])
      refine tw 3 49 ?_ ?_ ?_; rotate_left; (focus (intro w; go_simp; (try with_reducible rfl); done)); (try simp only [xd, xe, xf])
      refine tw 4 50 ?_ ?_ ?_; rotate_left; (focus (intro w; go_simp; (try with_reducible rfl); done)); (try simp only [xd, xe, xf])
      refine tl 5 51 ?_ ?_ ?_; rotate_left; (focus (intro w h; go_simp; (try with_reducible rfl))); (try simp only [xd, xe, xf])
      refine takeU_at [6, 7, 8, 9, 10] (i := 6) (d := 52) (v := ?_) (by simp only [xa, xb, xc]; rfl) rfl (by kernel_rfl) (by kernel_rfl) (by kernel_rfl) (by kernel_rfl) (by kernel_rfl) (by kernel_rfl) (fun _ _ _ h => h) rfl ?_ (by assumption) ?_
      rotate_left
      focus (intro w hSw; go_simp; (try with_reducible rfl); done)
      try simp only [xd, xe, xf]
      refine callL_at (i := 7) (d := 53) (by simp only [xa, xb, xc]; rfl) rfl (by kernel_rfl) rfl (fun K hK => ?_)
      go_simp
      have hS1 : Kept ws (ws.drew.alloc (.cells #[.int .i64 x, .int .i64 y, .int .i64 z] 44)) := fun p hp => World.cell?_alloc_lt _ _ _ hp
      refine hK.out _ _ hS1 (fun hSn => ?_)
      clear hK K
      try simp only [xd, xe, xf]
      refine exL_at (i := 8) (by simp only [xa, xb, xc]; rfl) (by kernel_rfl) rfl (by kernel_rfl) (fun K hK => ?_)
      refine op_app (.tmp 51) (.tmp 53) 28 rfl g 44 i1 (.agg #[.int .i64 0, .int .i64 0, .int .i64 0]) 3 24 Try.underlying28 hi1 hy0 hy1 hy2 rfl (by decide) (.slice Aj q cap) q _ rfl (HQO.out.drew.alloc _) (ws.heap.size + 1) (some ⟨ws.heap.size, 0, none⟩) 1 1 [.int .i64 x, .int .i64 y, .int .i64 z] rfl rfl (Rd.new _ _ _ _) (by simp [Value.oneCell']) (by unfold maxLen; omega) (by omega) (by simp; omega) ?_
      intro A' c' y3 own3 hg3 hat3
      have HOW2 : ORows (ws.drew.alloc (.cells #[.int .i64 x, .int .i64 y, .int .i64 z] 44)) g (some ⟨g, 0, none⟩) i hs (rowsAt (fun e : Ed => e.1) own es k) := HOW.out.below (((Below.refl _ _).drew).alloc (Nat.le_refl _) _) (Nat.le_refl _)
      have FIN := hide (ORows.put (n := i) (e := (x, y, z)) (by rw [rowsAt_len]; exact HM.out) HOW2 HJ.out HR.out HQ.out d34.out own3 hg3 hat3)
      have HIn2 : Hid (AllFrom v.heap.size (hs.set j (.slice A' (q + 1) c'))) := hide (HIn.out.set HJ.out hat3 (by simp; omega))
      have hb3 : Hid (Below v.heap.size ws y3) := hide (app_below ((Below.refl _ _).drew.alloc (by show _ ≤ ws.heap.size; omega) _) ((own_raise HQO.out (HIn.out j _ · HJ.out ·)).drew.alloc _) hg3 (by simp; omega) (Nat.le_refl _))
      have og := (HOW2.own.kept hg3 (by exact (own_apart ((HQO.out.drew).alloc _) HOW2.own edge_ne_row).elim (fun h1 => .inr (by rw [h1]; simp [Value.ownBlock])) (fun h1 => .inr fun e => h1 e.symm)))
      have q1 : y3.cell? ⟨g, j, none⟩ = some (.slice Aj q cap) := by rw [rowsAt_len, HM.out] at og; exact (og.cellAt j (by omega)).trans HJ.out
      have qf : y3.frozen? ⟨g, j, none⟩ = false := og.frozenAt j
      have hsz3 : ws.heap.size ≤ y3.heap.size := by have := hg3.size; simp at this; omega
      clear og own3 hg3 hat3 HOW2
      refine hK.out _ _ ?_
      clear hK K
      simp only [Act.put]
      try simp only [xd, xe, xf]
      refine tw 9 55 ?_ ?_ ?_; rotate_left; (focus (intro w; go_simp; (try with_reducible rfl); done)); (try simp only [xd, xe, xf])
      refine exL_at (i := 10) (by simp only [xa, xb, xc]; rfl) (by kernel_rfl) rfl (by kernel_rfl) (fun K hK => ?_)
      go_wp2_with fail
      refine hK.out _ _ ?_
      clear hK K
      try simp only [xd, xe, xf]
      refine wpAnyL_done (by kernel_rfl) ?_ _
      clear hS0 hSn hS1 t0 t1 t2 hj2 q1 qf hcq hcm
      have HOr2 : Hid (ORows (y3.setCell ⟨g, j, none⟩ (.slice A' (q + 1) c')) g (some ⟨g, 0, none⟩) i (hs.set j (.slice A' (q + 1) c')) (rowsAt (fun e : Ed => e.1) own es (k + 1))) := hide (by rw [HRS.out]; exact FIN.out)
      have HKr2 : Hid (KB [g] v (y3.setCell ⟨g, j, none⟩ (.slice A' (q + 1) c'))) := hide ((HKW.out.below hb3.out (Nat.le_refl _)).setCell (.inr (by simp)) _)
      have HBr3 : Hid (Below w.heap.size w (y3.setCell ⟨g, j, none⟩ (.slice A' (q + 1) c'))) := hide ((HBr2.out.trans (hb3.out.mono (by omega))).setCell (by show w.heap.size ≤ g; omega) _)
      clear FIN hb3 HIn HOW HKW HBr2 hsz3
      go_wp2
      go_roundw
      case rel => exact ⟨k + 1, _, by omega, by go_num, HOr2, HIn2, HKr2, HBr3⟩
      case measure => simp [intOf]; omega
     ·have hhas := mapD_out own hin
      have HRS := hide (rowsAt_out (f := (fun e : Ed => e.1)) HE.out hin)
      clear hin
      go_wp2_with fail
      refine (efrom_any _ x y z).mono ?_
      rintro e ws ⟨rfl, hb1⟩
      have hbw : Below wr2.heap.size wr2 ws := ((Below.refl _ _).alloc (Nat.le_refl _) _).trans (hb1.mono (by simp))
      have HBW := hide hbw
      have MW : Hid (ws.ownsMap Try.prog 3 (plainElem (H := Unit) Try.prog 3) (w.heap.size + 1) i (mapD own)) := hide (below_map hbw (HKr.out.map MV.out (by simp; omega)) (by omega))
      have HOr2 : Hid (ORows ws g (some ⟨g, 0, none⟩) i hs (rowsAt (fun e : Ed => e.1) own es (k + 1))) := hide (by rw [HRS.out]; exact HOr.out.below HBW.out (Nat.le_refl _))
      have HKr2 : Hid (KB [g] v ws) := hide (HKr.out.below HBW.out (by omega))
      have HBr3 : Hid (Below w.heap.size w ws) := hide (HBr.out.trans (HBW.out.mono (by omega)))
      clear hb1 hbw HOr HKr HBr HBW d0 d1 d2
      go_wp2_with (at_lookup; refine wpList_lookup_own_ok_int _ rfl _ _ 79 rfl 3 3 .i64 K Try.underlying79 Try.underlying3 (by kernel_rfl) (w.heap.size + 1) i _ rfl MW.out _ (li x) rfl HKX.out ?_; intro ci hat hwc)
      clear hat hwc
      go_wp2
      go_roundw
      case rel => exact ⟨k + 1, hs, by omega, by go_num, HOr2, HIn, HKr2, HBr3⟩
      case measure => simp [intOf]; omega
    ·obtain rfl : k = L := by omega
     have HFin : Hid (RowsPost w (fun e : Ed => e.1) own es i (.returned (.slice (some ⟨g, 0, none⟩) i i)) wr2) := hide ⟨_, _, hs, rfl, by rw [HL.out]; exact HOr.out.lower (by omega), HBr.out⟩
     go_wp2
     go_ret
     exact HFin.out
theorem rowsTo_any (w : World) (V : Int) (A Ao : Option Addr) (es : List Ed) (own : List Int) (L c m co : Nat) (hL : es.length = L) (hE : Eds w w.heap.size A es) (hc : L ≤ 8192) (hM : own.length = m) (hO : Rd w w.heap.size Ao (own.map (Value.int .i64))) (hm : m ≤ 512) (hnd : own.Nodup)
  (hob : ∀ v ∈ own, -9223372036854775808 ≤ v ∧ v ≤ 9223372036854775807) (hkb : ∀ e ∈ es, -9223372036854775808 ≤ e.2.1 ∧ e.2.1 ≤ 9223372036854775807) :
  Calls Try.prog 32 #[.agg #[.int .i64 V, .slice A L c], .slice Ao m co, .func (.func 34) #[] #[]] w (RowsPost w (fun e : Ed => e.2.1) own es m) := by
 obtain ⟨i0, hi0, hz0, hz1, hz2⟩ := info_parts (show (Try.prog.info? 28).map (fun i => (i.zero, i.size, i.bytes)) = some (some (.slice none 0 0), 1, 24) by kernel_rfl)
 obtain ⟨i1, hi1, hy0, hy1, hy2⟩ := info_parts (show (Try.prog.info? 44).map (fun i => (i.zero, i.size, i.bytes)) = some (some (.agg #[.int .i64 0, .int .i64 0, .int .i64 0]), 3, 24) by kernel_rfl)
 have K : Maps.Keyed Try.prog 3 := Maps.int_keyed Try.underlying3
 have hmm := @run_makeMap Try.prog
 obtain ⟨u, hu⟩ : ∃ u, (w.alloc (.cells #[.int .i64 V, .slice A L c] 30)).alloc (.map #[] 0) = u := ⟨_, rfl⟩
 have hzu : u.heap.size = w.heap.size + 2 := by rw [← hu]; simp
 have hbu : Below w.heap.size w u := by rw [← hu]; exact ((Below.refl _ _).alloc (Nat.le_refl _) _).alloc (by simp) _
 have GU : Hid (u.heap[w.heap.size]? = some (.cells #[.int .i64 V, .slice A L c] 30)) := hide (by rw [← hu]; exact (Below.heap_alloc _ _ _ (by simp)).trans (heap_alloc_last w _))
 have MU : Hid (u.ownsMap Try.prog 3 (plainElem (H := Unit) Try.prog 3) (w.heap.size + 1) 0 (mapD (own.take 0))) := hide (by
  rw [← hu]
  have := World.ownsMap_made (w.alloc (.cells #[.int .i64 V, .slice A L c] 30)) Try.prog 3 (plainElem (H := Unit) Try.prog 3)
  rw [World.size_alloc] at this
  exact this)
 have HL := hide hL
 have HE0 := hide hE
 have HM := hide hM
 have HO := hide hO
 have HND := hide hnd
 have HOB := hide hob
 have HKB := hide hkb
 have HB := hide hbu
 have HU := hide hu
 clear hu hbu hE hL hM hO hnd hob hkb
 go_enter Try.func32, Try.ntmps32
 go_wp2
 rw [HU.out]
 go_loopw [18] (fun v18 wr => ∃ i : Nat, i ≤ m ∧ v18 = .int .i64 i ∧ Hid (wr.ownsMap Try.prog 3 (plainElem (H := Unit) Try.prog 3) (w.heap.size + 1) i (mapD (own.take i))) ∧ Hid (KB [w.heap.size + 1] u wr) ∧ Hid (Below w.heap.size w wr)) (fun v18 _ => m - (intOf v18).toNat)
 case atStart => exact ⟨0, by omega, rfl, MU, hide (KB.refl _ _), HB⟩
 case round =>
  obtain ⟨i, hi, rfl, HMp, HK, HBr⟩ := hrel
  have hus : u.heap.size ≤ wr.heap.size := HK.out.1
  by_cases hlt : i < m
  ·obtain ⟨x, hx⟩ : ∃ x, own[i]? = some x := ⟨_, List.getElem?_eq_getElem (by rw [HM.out]; exact hlt)⟩
   obtain ⟨ob, oo, rfl, hob, hcell⟩ := HO.out.at_ (k := i) (by rw [List.length_map, HM.out]; exact hlt)
   have d0 : wr.cell? ⟨ob, oo + i, none⟩ = some (.int .i64 x) := ((HK.out.cell (p := ⟨ob, oo + i, none⟩) (by show ob < _; omega) (by simp; omega)).trans (HB.out.cell (p := ⟨ob, oo + i, none⟩) hob)).trans (hcell i _ (by rw [List.getElem?_map, hx]; rfl))
   have HX := hide hx
   have hxb := HOB.out x (List.mem_of_getElem? hx)
   have HXB := hide hxb
   have hsn : Hid ((mapD (own.take i)).put (li x) (.lit (.int .i64 (i : Int))) = mapD (own.take (i + 1))) := hide (by
    rw [List.take_add_one, hx]
    have := mapD_snoc (own.take i) x
    rw [List.length_take, HM.out, Nat.min_eq_left (by omega)] at this
    exact this.symm)
   clear hcell hx
   go_wp2_with (at_mapUpdate; refine wpList_mapUpdate_own _ rfl _ _ _ 79 rfl 3 3 K Try.underlying79 _ (w.heap.size + 1) i _ rfl HMp.out (by unfold maxLen; omega) _ _ (li x) rfl rfl (Maps.keyOf_int_mk Try.underlying3 (int_wf hxb.1 hxb.2)) (.lit (.int .i64 (i : Int))) [] (plainElem_int Try.underlying3 (int_wf (by omega) (by omega))) ?_; intro w1 hown1 hg1)
   rw [hsn.out] at hown1
   have HM1 := hide hown1
   have HK1 := hide (HK.out.grown hg1 (fun g e => by injection e with e; subst e; exact .inr (by simp)))
   have HB1 := hide (HBr.out.grown hg1 HBr.out.size (fun g e => by injection e with e; omega))
   clear hown1 hg1 d0 HMp hxb
   go_wp2
   go_roundw
   case rel => exact ⟨i + 1, by omega, by go_num, HM1, HK1, HB1⟩
   case measure => simp [intOf]; omega
  ·obtain rfl : i = m := by omega
   have hfull : own.take i = own := List.take_of_length_le (by rw [HM.out]; exact Nat.le_refl _)
   rw [hfull] at HMp
   have hb8 : i0.bytes * i ≤ 281474976710656 := by rw [hz2]; omega
   have g1 : wr.cell? ⟨w.heap.size, 1, none⟩ = some (.slice A L c) := (HK.out.cell (p := ⟨w.heap.size, 1, none⟩) (by show w.heap.size < _; omega) (by simp)).trans (cell_of_row _ _ 1 _ _ _ GU.out)
   have hlw : w.heap.size < wr.heap.size := by omega
   clear hfull
   go_wp2_with (at_make; refine wpList_make_full _ rfl (.tmp 28) (.tmp 28) 32 rfl wr.heap.size 28 i0 (.slice none 0 0) 1 Try.underlying32 hi0 hz0 hz1 .i64 .i64 _ _ i rfl rfl ?_ ?_ hb8 (by unfold maxLen; omega) (Nat.le_refl _) ?_; rfl; rfl; intro v hown2 hg2; rw [show (madeCells (Value.slice none 0 0).cells (i * 1)).toList = List.replicate i (.slice none 0 0) by rw [Nat.mul_one, show (Value.slice none 0 0).cells = #[Value.slice none 0 0] from rfl, toList_madeCells_one]] at hown2; have hv2 : Below wr.heap.size wr v := (Below.refl _ wr).grown hg2 (Nat.le_refl _) (fun k e => by cases e); have HOM := hide (ORows.made hown2); have hlv := (hown2.lt _ rfl).2; have HV2 := hide hv2; have g1 := (hv2.cell (p := ⟨w.heap.size, 1, none⟩) hlw).trans g1; clear hown2 hg2 hv2)
   have hlt2 := HOM.out
   have MV : Hid (v.ownsMap Try.prog 3 (plainElem (H := Unit) Try.prog 3) (w.heap.size + 1) i (mapD own)) := hide (below_map HV2.out HMp.out (by omega))
   have BV : Hid (Below w.heap.size w v) := hide (HBr.out.trans (HV2.out.mono (by omega)))
   obtain ⟨g, hgz⟩ : ∃ g, wr.heap.size = g := ⟨_, rfl⟩
   rw [hgz] at HOM hlv hlw
   rw [hgz]
   have hwg : w.heap.size + 2 ≤ g := by omega
   have OV : Hid (ORows v g (some ⟨g, 0, none⟩) i (List.replicate i (.slice none 0 0)) (rowsAt (fun e : Ed => e.2.1) own es 0)) := hide (by rw [rowsAt_zero, HM.out]; exact HOM.out)
   clear HOM HMp HBr HK HV2 hgz hlt2 hb8
   go_wp2
   go_loopw [33] (fun v33 wr2 => ∃ (k : Nat) (hs : List Value), k ≤ L ∧ v33 = .int .i64 k ∧ Hid (ORows wr2 g (some ⟨g, 0, none⟩) i hs (rowsAt (fun e : Ed => e.2.1) own es k)) ∧ Hid (AllFrom v.heap.size hs) ∧ Hid (KB [g] v wr2) ∧ Hid (Below w.heap.size w wr2)) (fun v33 _ => L - (intOf v33).toNat)
   case atStart => exact ⟨0, _, by omega, rfl, OV, hide (AllFrom.nils _ _), hide (KB.refl _ _), BV⟩
   case round =>
    obtain ⟨k, hs, hk, rfl, HOr, HIn, HKr, HBr⟩ := hrel
    obtain ⟨wr2, rfl⟩ : ∃ x : World, x = wr := ⟨_, rfl⟩
    have hv2 : v.heap.size ≤ wr2.heap.size := HKr.out.1
    by_cases hlt : k < L
    ·obtain ⟨⟨x, y, z⟩, he⟩ : ∃ e, es[k]? = some e := ⟨_, List.getElem?_eq_getElem (by rw [HL.out]; exact hlt)⟩
     obtain ⟨b, off, rfl, hbl, d0, d1, d2, d3, d4⟩ := HE0.out.get he
     have hlc (j : Nat) : wr2.cell? ⟨b, off + k * 3 + j, none⟩ = w.cell? ⟨b, off + k * 3 + j, none⟩ := HBr.out.cell (p := ⟨b, off + k * 3 + j, none⟩) hbl
     have d0 := (hlc 0).trans d0
     have d1 := (hlc 1).trans d1
     have d2 := (hlc 2).trans d2
     dsimp only at d0 d1 d2 d3 d4
     rw [Nat.add_zero] at d0
     have d34 := hide (And.intro d3 d4)
     have HE := hide he
     have hkx := HKB.out _ (List.mem_of_getElem? he)
     dsimp only at hkx
     have hI1 : (k : Int) < (L : Int) := by omega
     have HKX := hide (Maps.keyOf_int_mk Try.underlying3 (int_wf hkx.1 hkx.2))
     clear he hlc hkx
     by_cases hin : y ∈ own
     ·obtain ⟨j, hj⟩ := List.getElem?_of_mem hin
      have hjm : j < i := by have := (List.getElem?_eq_some_iff.1 hj).1; rw [HM.out] at this; exact this
      obtain ⟨hhas, hatk⟩ := mapD_in own j HND.out hj
      have HATK := hide hatk
      have HJO := hide hj
      clear hin hatk hj
      go_wp2_with fail
      refine (eto_any _ x y z).mono ?_
      rintro e ws ⟨rfl, hb1⟩
      have hbw : Below wr2.heap.size wr2 ws := ((Below.refl _ _).alloc (Nat.le_refl _) _).trans (hb1.mono (by simp))
      have HBW := hide hbw
      have hws : wr2.heap.size + 1 ≤ ws.heap.size := by have := hb1.size; simpa using this
      have hc := heap_alloc_last wr2 (.cells #[.int .i64 x, .int .i64 y, .int .i64 z] 44)
      have hc2 := (hb1.block wr2.heap.size (by simp)).trans hc
      have t0 : ws.cell? ⟨wr2.heap.size, 0, none⟩ = some (.int .i64 x) := cell_of_row _ _ 0 _ _ _ hc2
      have t1 : ws.cell? ⟨wr2.heap.size, 1, none⟩ = some (.int .i64 y) := cell_of_row _ _ 1 _ _ _ hc2
      have t2 : ws.cell? ⟨wr2.heap.size, 2, none⟩ = some (.int .i64 z) := cell_of_row _ _ 2 _ _ _ hc2
      have MW : Hid (ws.ownsMap Try.prog 3 (plainElem (H := Unit) Try.prog 3) (w.heap.size + 1) i (mapD own)) := hide (below_map hbw (HKr.out.map MV.out (by simp; omega)) (by omega))
      have hlt3 : wr2.heap.size < ws.heap.size := by omega
      obtain ⟨bt, hbt⟩ : ∃ bt, wr2.heap.size = bt := ⟨_, rfl⟩
      rw [hbt] at t0 t1 t2 hlt3 hws hv2
      rw [hbt]
      have HOW : Hid (ORows ws g (some ⟨g, 0, none⟩) i hs (rowsAt (fun e : Ed => e.2.1) own es k)) := hide (HOr.out.below HBW.out (Nat.le_refl _))
      have HKW : Hid (KB [g] v ws) := hide (HKr.out.below HBW.out (by omega))
      have HBr2 : Hid (Below w.heap.size w ws) := hide (HBr.out.trans (HBW.out.mono (by omega)))
      obtain ⟨r, hr⟩ : ∃ r, (es.take k).filter (fun e => e.2.1 == y) = r := ⟨_, rfl⟩
      obtain ⟨q, hq⟩ : ∃ q, r.length = q := ⟨_, rfl⟩
      have hrr : (rowsAt (fun e : Ed => e.2.1) own es k)[j]? = some r := by rw [rowsAt_get HJO.out]; exact congrArg some hr
      obtain ⟨Aj, cap, hj1, hj2, hj3⟩ := row_at HOW.out hrr
      rw [hq] at hj1 hj2 hj3
      have hqk : q ≤ k := by rw [← hq, ← hr]; exact filt_len es k
      have HRS := hide (rowsAt_in HE.out HND.out HJO.out hr)
      have HR := hide hrr; have HQ := hide hq; have HJ := hide hj1; have HQO := hide hj3
      have hcq := own_cap hj3
      have hcm := own_max hj3
      have hgl : g < ws.heap.size := by omega
      have hJ0 : (0 : Int) ≤ (j : Int) := by omega
      have hJ1 : (j : Int) < (i : Int) := by omega
      clear hb1 hbw hc hc2 hbt HOr HKr HBr HBW hr hq hrr hj1 hj3 d0 d1 d2
      go_wp2_with (at_lookup; refine wpList_lookup_own_ok_int _ rfl _ _ 79 rfl 3 3 .i64 K Try.underlying79 Try.underlying3 (by kernel_rfl) (w.heap.size + 1) i _ rfl MW.out _ (li y) rfl HKX.out ?_; intro ci hat hwc)
      obtain rfl : ci = (j : Int) := by
       have h := hat.symm.trans (HATK.out _)
       injection h with h
       injection h with _ h
      clear hat hwc
      go_wp2
      refine wpL_region (S := Kept ws) [8, 10] (by kernel_rfl) (Kept.drew ws) (fun hS0 => ?_)
      refine tw 0 46 ?_ ?_ ?_; rotate_left; (focus (intro w; go_simp; (try with_reducible rfl); done)); (try simp only [xd, xe, xf])
      refine tw 1 47 ?_ ?_ ?_; rotate_left; (focus (intro w; go_simp; (try with_reducible rfl); done)); (try simp only [xd, xe, xf])
      refine tw 2 48 ?_ ?_ ?_; rotate_left; (focus (intro w; go_simp; (try with_reducible rfl); done)); (try simp only [xd, xe, xf])
      refine tw 3 49 ?_ ?_ ?_; rotate_left; (focus (intro w; go_simp; (try with_reducible rfl); done)); (try simp only [xd, xe, xf])
      refine tw 4 50 ?_ ?_ ?_; rotate_left; (focus (intro w; go_simp; (try with_reducible rfl); done)); (try simp only [xd, xe, xf])
      refine tl 5 51 ?_ ?_ ?_; rotate_left; (focus (intro w h; go_simp; (try with_reducible rfl))); (try simp only [xd, xe, xf])
      refine takeU_at [6, 7, 8, 9, 10] (i := 6) (d := 52) (v := ?_) (by simp only [xa, xb, xc]; rfl) rfl (by kernel_rfl) (by kernel_rfl) (by kernel_rfl) (by kernel_rfl) (by kernel_rfl) (by kernel_rfl) (fun _ _ _ h => h) rfl ?_ (by assumption) ?_
      rotate_left
      focus (intro w hSw; go_simp; (try with_reducible rfl); done)
      try simp only [xd, xe, xf]
      refine callL_at (i := 7) (d := 53) (by simp only [xa, xb, xc]; rfl) rfl (by kernel_rfl) rfl (fun K hK => ?_)
      go_simp
      have hS1 : Kept ws (ws.drew.alloc (.cells #[.int .i64 x, .int .i64 y, .int .i64 z] 44)) := fun p hp => World.cell?_alloc_lt _ _ _ hp
      refine hK.out _ _ hS1 (fun hSn => ?_)
      clear hK K
      try simp only [xd, xe, xf]
      refine exL_at (i := 8) (by simp only [xa, xb, xc]; rfl) (by kernel_rfl) rfl (by kernel_rfl) (fun K hK => ?_)
      refine op_app (.tmp 51) (.tmp 53) 28 rfl g 44 i1 (.agg #[.int .i64 0, .int .i64 0, .int .i64 0]) 3 24 Try.underlying28 hi1 hy0 hy1 hy2 rfl (by decide) (.slice Aj q cap) q _ rfl (HQO.out.drew.alloc _) (ws.heap.size + 1) (some ⟨ws.heap.size, 0, none⟩) 1 1 [.int .i64 x, .int .i64 y, .int .i64 z] rfl rfl (Rd.new _ _ _ _) (by simp [Value.oneCell']) (by unfold maxLen; omega) (by omega) (by simp; omega) ?_
      intro A' c' y3 own3 hg3 hat3
      have HOW2 : ORows (ws.drew.alloc (.cells #[.int .i64 x, .int .i64 y, .int .i64 z] 44)) g (some ⟨g, 0, none⟩) i hs (rowsAt (fun e : Ed => e.2.1) own es k) := HOW.out.below (((Below.refl _ _).drew).alloc (Nat.le_refl _) _) (Nat.le_refl _)
      have FIN := hide (ORows.put (n := i) (e := (x, y, z)) (by rw [rowsAt_len]; exact HM.out) HOW2 HJ.out HR.out HQ.out d34.out own3 hg3 hat3)
      have HIn2 : Hid (AllFrom v.heap.size (hs.set j (.slice A' (q + 1) c'))) := hide (HIn.out.set HJ.out hat3 (by simp; omega))
      have hb3 : Hid (Below v.heap.size ws y3) := hide (app_below ((Below.refl _ _).drew.alloc (by show _ ≤ ws.heap.size; omega) _) ((own_raise HQO.out (HIn.out j _ · HJ.out ·)).drew.alloc _) hg3 (by simp; omega) (Nat.le_refl _))
      have og := (HOW2.own.kept hg3 (by exact (own_apart ((HQO.out.drew).alloc _) HOW2.own edge_ne_row).elim (fun h1 => .inr (by rw [h1]; simp [Value.ownBlock])) (fun h1 => .inr fun e => h1 e.symm)))
      have q1 : y3.cell? ⟨g, j, none⟩ = some (.slice Aj q cap) := by rw [rowsAt_len, HM.out] at og; exact (og.cellAt j (by omega)).trans HJ.out
      have qf : y3.frozen? ⟨g, j, none⟩ = false := og.frozenAt j
      have hsz3 : ws.heap.size ≤ y3.heap.size := by have := hg3.size; simp at this; omega
      clear og own3 hg3 hat3 HOW2
      refine hK.out _ _ ?_
      clear hK K
      simp only [Act.put]
      try simp only [xd, xe, xf]
      refine tw 9 55 ?_ ?_ ?_; rotate_left; (focus (intro w; go_simp; (try with_reducible rfl); done)); (try simp only [xd, xe, xf])
      refine exL_at (i := 10) (by simp only [xa, xb, xc]; rfl) (by kernel_rfl) rfl (by kernel_rfl) (fun K hK => ?_)
      go_wp2_with fail
      refine hK.out _ _ ?_
      clear hK K
      try simp only [xd, xe, xf]
      refine wpAnyL_done (by kernel_rfl) ?_ _
      clear hS0 hSn hS1 t0 t1 t2 hj2 q1 qf hcq hcm
      have HOr2 : Hid (ORows (y3.setCell ⟨g, j, none⟩ (.slice A' (q + 1) c')) g (some ⟨g, 0, none⟩) i (hs.set j (.slice A' (q + 1) c')) (rowsAt (fun e : Ed => e.2.1) own es (k + 1))) := hide (by rw [HRS.out]; exact FIN.out)
      have HKr2 : Hid (KB [g] v (y3.setCell ⟨g, j, none⟩ (.slice A' (q + 1) c'))) := hide ((HKW.out.below hb3.out (Nat.le_refl _)).setCell (.inr (by simp)) _)
      have HBr3 : Hid (Below w.heap.size w (y3.setCell ⟨g, j, none⟩ (.slice A' (q + 1) c'))) := hide ((HBr2.out.trans (hb3.out.mono (by omega))).setCell (by show w.heap.size ≤ g; omega) _)
      clear FIN hb3 HIn HOW HKW HBr2 hsz3
      go_wp2
      go_roundw
      case rel => exact ⟨k + 1, _, by omega, by go_num, HOr2, HIn2, HKr2, HBr3⟩
      case measure => simp [intOf]; omega
     ·have hhas := mapD_out own hin
      have HRS := hide (rowsAt_out (f := (fun e : Ed => e.2.1)) HE.out hin)
      clear hin
      go_wp2_with fail
      refine (eto_any _ x y z).mono ?_
      rintro e ws ⟨rfl, hb1⟩
      have hbw : Below wr2.heap.size wr2 ws := ((Below.refl _ _).alloc (Nat.le_refl _) _).trans (hb1.mono (by simp))
      have HBW := hide hbw
      have MW : Hid (ws.ownsMap Try.prog 3 (plainElem (H := Unit) Try.prog 3) (w.heap.size + 1) i (mapD own)) := hide (below_map hbw (HKr.out.map MV.out (by simp; omega)) (by omega))
      have HOr2 : Hid (ORows ws g (some ⟨g, 0, none⟩) i hs (rowsAt (fun e : Ed => e.2.1) own es (k + 1))) := hide (by rw [HRS.out]; exact HOr.out.below HBW.out (Nat.le_refl _))
      have HKr2 : Hid (KB [g] v ws) := hide (HKr.out.below HBW.out (by omega))
      have HBr3 : Hid (Below w.heap.size w ws) := hide (HBr.out.trans (HBW.out.mono (by omega)))
      clear hb1 hbw HOr HKr HBr HBW d0 d1 d2
      go_wp2_with (at_lookup; refine wpList_lookup_own_ok_int _ rfl _ _ 79 rfl 3 3 .i64 K Try.underlying79 Try.underlying3 (by kernel_rfl) (w.heap.size + 1) i _ rfl MW.out _ (li y) rfl HKX.out ?_; intro ci hat hwc)
      clear hat hwc
      go_wp2
      go_roundw
      case rel => exact ⟨k + 1, hs, by omega, by go_num, HOr2, HIn, HKr2, HBr3⟩
      case measure => simp [intOf]; omega
    ·obtain rfl : k = L := by omega
     have HFin : Hid (RowsPost w (fun e : Ed => e.2.1) own es i (.returned (.slice (some ⟨g, 0, none⟩) i i)) wr2) := hide ⟨_, _, hs, rfl, by rw [HL.out]; exact HOr.out.lower (by omega), HBr.out⟩
     go_wp2
     go_ret
     exact HFin.out
end Go.Proofs.Ytihdpfjonkagaaa
namespace Go.Proofs.Ytihdpfjonkagaaa
open Go.RowKit
theorem psame_any (w : World) (W1 K1 V1 : Int) (O1 U1 B1 : Option Addr) (own1 : List Int) (out1 back1 : List (List Ed)) (n1 c1 m1 d1 k1 f1 : Nat) (hn1 : own1.length = n1) (hm1 : out1.length = m1) (hk1 : back1.length = k1) (bn1 : n1 ≤ 9223372036854775807) (bm1 : m1 ≤ 9223372036854775807) (bk1 : k1 ≤ 9223372036854775807) (ro1 : Rd w w.heap.size O1 (own1.map (Value.int .i64))) (ru1 : ERows w w.heap.size U1 out1) (rb1 : ERows w w.heap.size B1 back1) (W2 K2 V2 : Int) (O2 U2 B2 : Option Addr) (own2 : List Int) (out2 back2 : List (List Ed)) (n2 c2 m2 d2 k2 f2 : Nat) (hn2 : own2.length = n2) (hm2 : out2.length = m2) (hk2 : back2.length = k2) (bn2 : n2 ≤ 9223372036854775807) (bm2 : m2 ≤ 9223372036854775807) (bk2 : k2 ≤ 9223372036854775807) (ro2 : Rd w w.heap.size O2 (own2.map (Value.int .i64))) (ru2 : ERows w w.heap.size U2 out2) (rb2 : ERows w w.heap.size B2 back2) :
  Calls Try.prog 17 #[.agg #[.int .i64 W1, .int .i64 K1, .int .i64 V1, .slice O1 n1 c1, .slice U1 m1 d1, .slice B1 k1 f1], .agg #[.int .i64 W2, .int .i64 K2, .int .i64 V2, .slice O2 n2 c2, .slice U2 m2 d2, .slice B2 k2 f2]] w fun e w' => e = .returned (.bool (decide (W1 = W2) && decide (K1 = K2) && decide (V1 = V2) && eqL own1 own2 && eqL out1 out2 && eqL back1 back2)) ∧ Below w.heap.size w w' := by
 obtain ⟨v, hv⟩ : ∃ v, (w.alloc (.cells #[.int .i64 W1, .int .i64 K1, .int .i64 V1, .slice O1 n1 c1, .slice U1 m1 d1, .slice B1 k1 f1] 38)).alloc (.cells #[.int .i64 W2, .int .i64 K2, .int .i64 V2, .slice O2 n2 c2, .slice U2 m2 d2, .slice B2 k2 f2] 38) = v := ⟨_, rfl⟩
 have hz : v.heap.size = w.heap.size + 2 := by rw [← hv]; simp
 have hb : Below w.heap.size w v := by rw [← hv]; exact ((Below.refl _ _).alloc (Nat.le_refl _) _).alloc (by simp) _
 have q1 : v.heap[w.heap.size]? = some (.cells #[.int .i64 W1, .int .i64 K1, .int .i64 V1, .slice O1 n1 c1, .slice U1 m1 d1, .slice B1 k1 f1] 38) := by rw [← hv]; exact (Below.heap_alloc _ _ _ (by simp)).trans (heap_alloc_last w _)
 have q2 : v.heap[w.heap.size + 1]? = some (.cells #[.int .i64 W2, .int .i64 K2, .int .i64 V2, .slice O2 n2 c2, .slice U2 m2 d2, .slice B2 k2 f2] 38) := by
  rw [← hv]
  have := heap_alloc_last (w.alloc (.cells #[.int .i64 W1, .int .i64 K1, .int .i64 V1, .slice O1 n1 c1, .slice U1 m1 d1, .slice B1 k1 f1] 38)) (.cells #[.int .i64 W2, .int .i64 K2, .int .i64 V2, .slice O2 n2 c2, .slice U2 m2 d2, .slice B2 k2 f2] 38)
  rw [World.size_alloc] at this
  exact this
 have Q1 := hide q1
 have Q2 := hide q2
 have HB := hide hb
 have HV := hide hv
 have HVB := hide (show Below w.heap.size w ((w.alloc (.cells #[.int .i64 W1, .int .i64 K1, .int .i64 V1, .slice O1 n1 c1, .slice U1 m1 d1, .slice B1 k1 f1] 38)).alloc (.cells #[.int .i64 W2, .int .i64 K2, .int .i64 V2, .slice O2 n2 c2, .slice U2 m2 d2, .slice B2 k2 f2] 38)) by rw [hv]; exact hb)
 have H := hide (And.intro (And.intro hn1 (And.intro hm1 hk1)) (And.intro hn2 (And.intro hm2 hk2)))
 have RO1 := hide (ro1.below hb); have RU1 := hide (ru1.keep fun p hp => hb.cell hp); have RB1 := hide (rb1.keep fun p hp => hb.cell hp)
 have RO2 := hide (ro2.below hb); have RU2 := hide (ru2.keep fun p hp => hb.cell hp); have RB2 := hide (rb2.keep fun p hp => hb.cell hp)
 have hlv : w.heap.size ≤ v.heap.size := by omega
 have h1l : w.heap.size < v.heap.size := by omega
 have h2l : w.heap.size + 1 < v.heap.size := by omega
 have cl (wr : World) (hk : Below v.heap.size v wr) (j : Nat) : wr.cell? ⟨w.heap.size, j, none⟩ = v.cell? ⟨w.heap.size, j, none⟩ ∧ wr.cell? ⟨w.heap.size + 1, j, none⟩ = v.cell? ⟨w.heap.size + 1, j, none⟩ := ⟨hk.cell (p := ⟨w.heap.size, j, none⟩) h1l, hk.cell (p := ⟨w.heap.size + 1, j, none⟩) h2l⟩
 have x0 : v.cell? ⟨w.heap.size, 0, none⟩ = some (.int .i64 W1) := cell_of_row _ _ 0 _ _ _ q1
 have y0 : v.cell? ⟨w.heap.size + 1, 0, none⟩ = some (.int .i64 W2) := cell_of_row _ _ 0 _ _ _ q2
 have X0 := hide x0; have Y0 := hide y0
 have x1 : v.cell? ⟨w.heap.size, 1, none⟩ = some (.int .i64 K1) := cell_of_row _ _ 1 _ _ _ q1
 have y1 : v.cell? ⟨w.heap.size + 1, 1, none⟩ = some (.int .i64 K2) := cell_of_row _ _ 1 _ _ _ q2
 have X1 := hide x1; have Y1 := hide y1
 have x2 : v.cell? ⟨w.heap.size, 2, none⟩ = some (.int .i64 V1) := cell_of_row _ _ 2 _ _ _ q1
 have y2 : v.cell? ⟨w.heap.size + 1, 2, none⟩ = some (.int .i64 V2) := cell_of_row _ _ 2 _ _ _ q2
 have X2 := hide x2; have Y2 := hide y2
 have x3 : v.cell? ⟨w.heap.size, 3, none⟩ = some (.slice O1 n1 c1) := cell_of_row _ _ 3 _ _ _ q1
 have y3 : v.cell? ⟨w.heap.size + 1, 3, none⟩ = some (.slice O2 n2 c2) := cell_of_row _ _ 3 _ _ _ q2
 have X3 := hide x3; have Y3 := hide y3
 have x4 : v.cell? ⟨w.heap.size, 4, none⟩ = some (.slice U1 m1 d1) := cell_of_row _ _ 4 _ _ _ q1
 have y4 : v.cell? ⟨w.heap.size + 1, 4, none⟩ = some (.slice U2 m2 d2) := cell_of_row _ _ 4 _ _ _ q2
 have X4 := hide x4; have Y4 := hide y4
 have x5 : v.cell? ⟨w.heap.size, 5, none⟩ = some (.slice B1 k1 f1) := cell_of_row _ _ 5 _ _ _ q1
 have y5 : v.cell? ⟨w.heap.size + 1, 5, none⟩ = some (.slice B2 k2 f2) := cell_of_row _ _ 5 _ _ _ q2
 have X5 := hide x5; have Y5 := hide y5
 have CL := hide cl
 clear cl ro1 ru1 rb1 ro2 ru2 rb2 hn1 hm1 hk1 hn2 hm2 hk2 q1 q2 hb hv hz x3 x4 x5 y3 y4 y5
 by_cases e1 : W1 = W2
 ·subst e1
  by_cases e2 : K1 = K2
  ·subst e2
   by_cases e3 : V1 = V2
   ·subst e3
    obtain ⟨r1, hr1⟩ : ∃ r, eqL own1 own2 = r := ⟨_, rfl⟩
    obtain ⟨r2, hr2⟩ : ∃ r, eqL out1 out2 = r := ⟨_, rfl⟩
    obtain ⟨r3, hr3⟩ : ∃ r, eqL back1 back2 = r := ⟨_, rfl⟩
    have x3 := X3.out; have y3 := Y3.out
    go_enter Try.func17, Try.ntmps17
    go_wp2_with fail
    rw [HV.out]
    refine (rsameInts_any _ O1 O2 own1 own2 n1 n2 c1 c2 H.out.1.1 H.out.2.1 bn1 (RO1.out.more hlv) (RO2.out.more hlv)).mono ?_
    rintro e z1 ⟨rfl, b1⟩
    rw [hr1]
    have G1 := hide (HB.out.trans (b1.mono hlv))
    have K1_ := hide b1
    have x4 := ((CL.out z1 b1 4).1).trans X4.out; have y4 := ((CL.out z1 b1 4).2).trans Y4.out
    have hz1 : v.heap.size ≤ z1.heap.size := b1.size
    clear b1 x0 x1 x2 x3 y0 y1 y2 y3
    rcases r1 with _ | _
    ·have HF := hide hr1
     clear hr1
     go_wp2
     go_ret
     exact ⟨ret_b (by rw [HF.out]; simp), G1.out⟩
    have HR1 := hide hr1
    clear hr1
    go_wp2_with fail
    refine (sameRows_any _ U1 U2 out1 out2 m1 m2 d1 d2 H.out.1.2.1 H.out.2.2.1 bm1 ((RU1.out.more hlv).next K1_.out) ((RU2.out.more hlv).next K1_.out)).mono ?_
    rintro e z2 ⟨rfl, b2⟩
    rw [hr2]
    have G2 := hide (G1.out.trans (b2.mono (by omega)))
    have K2_ := hide (K1_.out.trans (b2.mono hz1))
    have x5 := ((CL.out z2 K2_.out 5).1).trans X5.out; have y5 := ((CL.out z2 K2_.out 5).2).trans Y5.out
    clear b2 x4 y4
    rcases r2 with _ | _
    ·have HF := hide hr2
     clear hr2
     go_wp2
     go_ret
     exact ⟨ret_b (by rw [HF.out]; simp), G2.out⟩
    have HR2 := hide hr2
    clear hr2
    go_wp2_with fail
    refine (sameRows_any _ B1 B2 back1 back2 k1 k2 f1 f2 H.out.1.2.2 H.out.2.2.2 bk1 ((RB1.out.more hlv).next K2_.out) ((RB2.out.more hlv).next K2_.out)).mono ?_
    rintro e z3 ⟨rfl, b3⟩
    rw [hr3]
    have G3 := hide (G2.out.trans (b3.mono (by have := K2_.out.size; omega)))
    have HR3 := hide hr3
    clear b3 x5 y5 hr3
    go_wp2
    go_ret
    exact ⟨ret_b (by rw [HR1.out, HR2.out, HR3.out]; simp), G3.out⟩
   ·have e3' : (V1 == V2) = false := by simp only [beq_eq_false_iff_ne, ne_eq]; exact e3
    have HF := hide (show decide (V1 = V2) = false from decide_eq_false e3)
    clear e3
    go_enter Try.func17, Try.ntmps17
    go_wp2
    go_ret
    exact ⟨ret_b (by rw [HF.out]; simp), HVB.out⟩
  ·have e2' : (K1 == K2) = false := by simp only [beq_eq_false_iff_ne, ne_eq]; exact e2
   have HF := hide (show decide (K1 = K2) = false from decide_eq_false e2)
   clear e2
   go_enter Try.func17, Try.ntmps17
   go_wp2
   go_ret
   exact ⟨ret_b (by rw [HF.out]; simp), HVB.out⟩
 ·have e1' : (W1 == W2) = false := by simp only [beq_eq_false_iff_ne, ne_eq]; exact e1
  have HF := hide (show decide (W1 = W2) = false from decide_eq_false e1)
  clear e1
  go_enter Try.func17, Try.ntmps17
  go_wp2
  go_ret
  exact ⟨ret_b (by rw [HF.out]; simp), HVB.out⟩
end Go.Proofs.Ytihdpfjonkagaaa
namespace Go.Proofs.Ytihdpfjonkagaaa
open Go.RowKit
theorem gsame_any (w : World) (V1 V2 : Int) (A1 A2 : Option Addr) (es1 es2 : List Ed) (n1 c1 n2 c2 : Nat) (hn1 : es1.length = n1) (hn2 : es2.length = n2) (b1 : n1 ≤ 9223372036854775807) (r1 : Eds w w.heap.size A1 es1) (r2 : Eds w w.heap.size A2 es2) :
  Calls Try.prog 23 #[.agg #[.int .i64 V1, .slice A1 n1 c1], .agg #[.int .i64 V2, .slice A2 n2 c2]] w fun e w' => e = .returned (.bool (decide (V1 = V2) && eqL es1 es2)) ∧ Below w.heap.size w w' := by
 obtain ⟨v, hv⟩ : ∃ v, (w.alloc (.cells #[.int .i64 V1, .slice A1 n1 c1] 30)).alloc (.cells #[.int .i64 V2, .slice A2 n2 c2] 30) = v := ⟨_, rfl⟩
 have hb : Below w.heap.size w v := by rw [← hv]; exact ((Below.refl _ _).alloc (Nat.le_refl _) _).alloc (by simp) _
 have HVB := hide (show Below w.heap.size w ((w.alloc (.cells #[.int .i64 V1, .slice A1 n1 c1] 30)).alloc (.cells #[.int .i64 V2, .slice A2 n2 c2] 30)) by rw [hv]; exact hb)
 have HV := hide hv
 have HB := hide hb
 have R1 := hide (Eds.next r1 hb)
 have R2 := hide (Eds.next r2 hb)
 clear hv hb r1 r2
 by_cases e1 : V1 = V2
 ·subst e1
  go_enter Try.func23, Try.ntmps23
  go_wp2_with fail
  rw [HV.out]
  refine (sameEdges_any _ A1 A2 es1 es2 n1 n2 c1 c2 hn1 hn2 b1 R1.out R2.out).mono ?_
  rintro e z1 ⟨rfl, k1⟩
  have G1 := hide (HB.out.trans (k1.mono HB.out.size))
  clear k1
  go_wp2
  go_ret
  exact ⟨ret_b (by simp), G1.out⟩
 ·have e1' : (V1 == V2) = false := by simp only [beq_eq_false_iff_ne, ne_eq]; exact e1
  have HF := hide (show decide (V1 = V2) = false from decide_eq_false e1)
  clear e1
  go_enter Try.func23, Try.ntmps23
  go_wp2
  go_ret
  exact ⟨ret_b (by rw [HF.out]; simp), HVB.out⟩
end Go.Proofs.Ytihdpfjonkagaaa
