/- Mail out of rows of messages: inbox.Merge. Mail out of rows of messages: the document's. -/
import Derived.Test.YtpgbjabifhjogaaGreatSeqWw7
import Derived.Test.YtpgbjabifhjogaaGreatSeqAtw9
namespace Go.Proofs.YtpgbjabifhjogaaGreat
open Go.RowKit
set_option linter.unusedVariables false
set_option linter.unusedSimpArgs false
/-- rows of messages in memory -/
def MRs (w : World) (B : Nat) (A : Option Addr) (rs : List (List Ms)) : Prop := Els w B 1 A rs (fun cs r => ∃ A' c', cs = [.slice A' r.length c'] ∧ Mss w B A' r)
theorem MRs.get {w : World} {B : Nat} {A : Option Addr} {rs : List (List Ms)} (h : MRs w B A rs) {i : Nat} {r : List Ms} (hr : rs[i]? = some r) : ∃ b off, A = some ⟨b, off, none⟩ ∧ b < B ∧ ∃ A' c', w.cell? ⟨b, off + i, none⟩ = some (.slice A' r.length c') ∧ Mss w B A' r := by
 obtain ⟨b, off, rfl, hb⟩ := Els.at_ h (List.getElem?_eq_some_iff.1 hr).1
 obtain ⟨cs, hl, ⟨A', c', rfl, hm⟩, hc⟩ := Els.get h hr
 exact ⟨b, off, rfl, hb, A', c', by simpa using hc 0 _ rfl, hm⟩
def i64V (x : Int) : Prop := -9223372036854775808 ≤ x ∧ x ≤ 9223372036854775807
def msB (l : List Ms) : Prop := ∀ m ∈ l, i64V m.1 ∧ i64V m.2
theorem comb_bd {k a b : Int} (ha : i64V a) (hb : i64V b) : i64V (combF k a b) := by
 unfold combF i64V
 unfold i64V at ha hb
 have := dadd_rg a b
 split
 ·omega
 ·split <;> omega
theorem box_bd {k : Int} {l : List Ms} (h : msB l) : ∀ t x, boxF k l t = some x → i64V x := by
 suffices hs : ∀ (l : List Ms) (f : Int → Option Int), msB l → (∀ t x, f t = some x → i64V x) → ∀ t x, l.foldl (addB k) f t = some x → i64V x from hs l _ h (fun t x e => by cases e)
 intro l
 induction l with
 | nil => intro f _ hf; exact hf
 | cons m l ih =>
  intro f hl hf
  refine ih _ (fun m' hm' => hl m' (List.mem_cons_of_mem _ hm')) fun t x hx => ?_
  unfold addB bxPut at hx
  split at hx
  ·have hm := (hl m (List.mem_cons_self ..)).2
   cases he : f m.1 with
   | some y => rw [he] at hx; obtain rfl := Option.some.inj hx; exact comb_bd (hf _ _ he) hm
   | none => rw [he] at hx; obtain rfl := Option.some.inj hx; exact hm
  ·exact hf t x hx
def mails (k : Int) (l : List Ms) (own : List Int) : List Ml := own.map fun v => mlOf (boxF k l v)
def mlFill (l : List Ml) (i : Nat) : List Ml := l.take i ++ List.replicate (l.length - i) (false, 0)
theorem mlFill_len (l : List Ml) {i : Nat} (h : i ≤ l.length) : (mlFill l i).length = l.length := by simp [mlFill]; omega
theorem mlFill_set (l : List Ml) {i : Nat} (h : i < l.length) : (mlFill l i).set i (l[i]) = mlFill l (i + 1) := by
 unfold mlFill
 have hl : (l.take i).length = i := by rw [List.length_take]; omega
 rw [List.set_append, if_neg (by omega), hl, Nat.sub_self, show l.length - i = (l.length - (i + 1)) + 1 by omega, List.replicate_succ, List.set_cons_zero, List.take_succ_eq_append_getElem h, List.append_assoc]
 rfl
theorem mlFill_full (l : List Ml) : mlFill l l.length = l := by simp [mlFill]
theorem mlFill_zero (l : List Ml) : mlFill l 0 = List.replicate l.length (false, 0) := by simp [mlFill]
def MgPost (w : World) (l : List Ml) (e : Ending) (w' : World) : Prop := ∃ A c, e = .returned (.slice A l.length c) ∧ Rd w' w'.heap.size A (mlFlat l) ∧ Below w.heap.size w w' ∧ NewA w.heap.size A
theorem box_at {D : DataW Unit} {f : Int → Option Int} (h : BoxIs D f) (v : Int) : D.atKey (lk v) (mailD false 0) = mailD (mlOf (f v)).1 (mlOf (f v)).2 := by
 rw [h.at_ v]
 cases f v <;> rfl
theorem flat_next {rs : List (List Ms)} {i : Nat} {r : List Ms} (h : rs[i]? = some r) : (rs.take (i + 1)).flatten = (rs.take i).flatten ++ r := by
 rw [List.take_add_one, h, List.flatten_append]
 simp
theorem flat_take {rs : List (List Ms)} {i : Nat} {r : List Ms} (h : rs[i]? = some r) : ((rs.take i).flatten).length + r.length ≤ rs.flatten.length := by
 rw [← List.length_append, ← flat_next h]
 have e : rs.flatten = (rs.take (i + 1)).flatten ++ (rs.drop (i + 1)).flatten := by rw [← List.flatten_append, List.take_append_drop]
 rw [e, List.length_append]
 omega
set_option maxRecDepth 100000 in
set_option maxHeartbeats 8000000 in
theorem merge_any (w : World) (k j1 j2 j3 j4 : Int) (A Ar : Option Addr) (own : List Int) (rs : List (List Ms)) (V R c cr : Nat) (hV : own.length = V) (hV5 : V ≤ 1000) (hO : Rd w w.heap.size A (i64s own)) (hOB : ∀ v ∈ own, i64V v) (hL : rs.length = R) (hR5 : R ≤ 1000) (hR : MRs w w.heap.size Ar rs) (hB : msB rs.flatten) (hN : rs.flatten.length ≤ 100000) :
  Calls Tryz.prog 98 #[.agg #[.int .u8 k, .int .i64 j1, .int .i64 j2, .int .i64 j3, .int .i64 j4], .slice A V c, .slice Ar R cr] w (MgPost w (mails k rs.flatten own)) := by
 have HN := hide hN
 clear hN
 have K : Maps.Keyed Tryz.prog 3 := Maps.int_keyed Tryz.underlying3
 have hmm := @run_makeMap Tryz.prog
 obtain ⟨a3, a3i, a3z, a3s, a3b⟩ := info_parts (show (Tryz.prog.info? 76).map (fun i => (i.zero, i.size, i.bytes)) = some (some (.agg #[.bool false, .int .i64 0]), 2, 16) by kernel_rfl)
 obtain ⟨u, hu⟩ : ∃ u, (w.alloc (.cells #[.int .u8 k, .int .i64 j1, .int .i64 j2, .int .i64 j3, .int .i64 j4] 26)).alloc (.map #[] 0) = u := ⟨_, rfl⟩
 have hzu : u.heap.size = w.heap.size + 2 := by rw [← hu]; simp
 have HBu := hide (show Below w.heap.size w u by rw [← hu]; exact ((Below.refl _ _).alloc (Nat.le_refl _) _).alloc (by simp) _)
 have G0 := hide (show u.heap[w.heap.size]? = some (.cells #[.int .u8 k, .int .i64 j1, .int .i64 j2, .int .i64 j3, .int .i64 j4] 26) by rw [← hu]; exact (Below.heap_alloc _ _ _ (by simp)).trans (heap_alloc_last w _))
 obtain ⟨b, hb⟩ : ∃ b, w.heap.size + 1 = b := ⟨_, rfl⟩
 have HM0 := hide (show u.ownsMap Tryz.prog 3 mailElem b 0 (.map []) by rw [← hu, ← hb]; have h := World.ownsMap_made (w.alloc (.cells #[.int .u8 k, .int .i64 j1, .int .i64 j2, .int .i64 j3, .int .i64 j4] 26)) Tryz.prog 3 mailElem; rw [World.size_alloc] at h; exact h)
 have HU := hide hu
 have HL := hide hL
 have HRw := hide hR
 have HMB := hide hB
 have HV := hide hV
 have HO := hide hO
 have HOB := hide hOB
 have hbw : w.heap.size < b := by omega
 have hbu : b < u.heap.size := by omega
 have hlu : w.heap.size < u.heap.size := by omega
 have HBe := hide hb
 clear hu hzu hL hR hB hV hO hOB hb
 go_enter Tryz.func98, Tryz.ntmps98
 go_wp2
 rw [HU.out, HBe.out]
 go_loopw [18] (fun v18 wr => ∃ i : Nat, i ≤ R ∧ v18 = .int .i64 (i : Int) ∧ Hid (∃ D, BoxIs D (boxF k ((rs.take i).flatten)) ∧ wr.ownsMap Tryz.prog 3 mailElem b ((rs.take i).flatten).length D) ∧ Hid (KB [b] u wr) ∧ Hid (Below w.heap.size w wr)) (fun v18 _ => R - (intOf v18).toNat)
 case atStart => exact ⟨0, by omega, rfl, hide ⟨_, BoxIs.empty, HM0.out⟩, hide (KB.refl _ _), HBu⟩
 case round =>
  obtain ⟨i, hi, rfl, HX, HK, HBr⟩ := hrel
  obtain ⟨wr, rfl⟩ : ∃ z : World, z = wr := ⟨_, rfl⟩
  have srw : w.heap.size ≤ wr.heap.size := HBr.out.size
  by_cases hlt : i < R
  ·have hI1 : (i : Int) < (R : Int) := by omega
   have hI0 : (0 : Int) ≤ (i : Int) := by omega
   obtain ⟨r, hr⟩ : ∃ r, rs[i]? = some r := ⟨_, List.getElem?_eq_getElem (by rw [HL.out]; exact hlt)⟩
   obtain ⟨g, off, rfl, hg, A1, c1, d0, hm⟩ := HRw.out.get hr
   have e0 : wr.cell? ⟨g, off + i, none⟩ = some (.slice A1 r.length c1) := (HBr.out.cell (p := ⟨g, off + i, none⟩) hg).trans d0
   have HMs := hide hm
   have HR := hide hr
   have hgw : g < wr.heap.size := by omega
   obtain ⟨q, hq⟩ : ∃ q, r.length = q := ⟨_, rfl⟩
   rw [hq] at e0
   have HQ := hide hq
   have HMr : Hid (msB r) := hide (fun m hm' => HMB.out m (List.mem_flatten.2 ⟨r, List.mem_of_getElem? hr, hm'⟩))
   have HLl : Hid (((rs.take i).flatten).length + q ≤ 100000) := hide (by have h := flat_take hr; rw [hq] at h; have := HN.out; omega)
   have HL0 : Hid (msB (rs.take i).flatten) := hide (fun m hm' => by obtain ⟨r', hr', hm2⟩ := List.mem_flatten.1 hm'; exact HMB.out m (List.mem_flatten.2 ⟨r', List.mem_of_mem_take hr', hm2⟩))
   have hq5 : q ≤ 100000 := by have := HLl.out; omega
   clear d0 hm hr hq
   obtain ⟨l0, hl0⟩ : ∃ l, (rs.take i).flatten = l := ⟨_, rfl⟩
   rw [hl0] at HX HLl HL0
   have HLe := hide hl0
   clear hl0
   go_wp2
   clear e0
   go_loopw [24] (fun v24 x => ∃ j : Nat, j ≤ q ∧ v24 = .int .i64 (j : Int) ∧ Hid (∃ D, BoxIs D (boxF k (l0 ++ r.take j)) ∧ x.ownsMap Tryz.prog 3 mailElem b (l0.length + j) D) ∧ Hid (KB [b] u x) ∧ Hid (Below w.heap.size w x)) (fun v24 _ => q - (intOf v24).toNat)
   case atStart => exact ⟨0, by omega, rfl, by rw [List.take_zero, List.append_nil]; exact HX, HK, HBr⟩
   case round =>
    clear HX HK HBr
    obtain ⟨j, hj, rfl, HX, HK, HBr⟩ := hrel
    obtain ⟨x, rfl⟩ : ∃ z : World, z = wr := ⟨_, rfl⟩
    have szx : w.heap.size ≤ x.heap.size := HBr.out.size
    by_cases hltj : j < q
    ·have hJ1 : (j : Int) < (q : Int) := by omega
     have hJ0 : (0 : Int) ≤ (j : Int) := by omega
     obtain ⟨m, hm⟩ : ∃ m, r[j]? = some m := ⟨_, List.getElem?_eq_getElem (by rw [HQ.out]; exact hltj)⟩
     obtain ⟨g2, o2, rfl, hg2, d0, d1⟩ := HMs.out.get hm
     have e0 : x.cell? ⟨g2, o2 + j * 2, none⟩ = some (.int .i64 m.1) := (HBr.out.cell (p := ⟨g2, o2 + j * 2, none⟩) hg2).trans d0
     have e1 : x.cell? ⟨g2, o2 + j * 2 + 1, none⟩ = some (.int .i64 m.2) := (HBr.out.cell (p := ⟨g2, o2 + j * 2 + 1, none⟩) hg2).trans d1
     have hgx : g2 < x.heap.size := by omega
     have hmb := HMr.out m (List.mem_of_getElem? hm)
     have HSn := hide (show r.take (j + 1) = r.take j ++ [m] by rw [List.take_add_one, hm]; rfl)
     clear hm d0 d1
     obtain ⟨s, hs⟩ : ∃ s, x.alloc (.cells #[.int .i64 m.1, .int .i64 m.2] 125) = s := ⟨_, rfl⟩
     have hT : s.heap[x.heap.size]? = some (.cells #[.int .i64 m.1, .int .i64 m.2] 125) := by rw [← hs]; exact heap_alloc_last _ _
     have HBs := hide (show Below x.heap.size x s by rw [← hs]; exact (Below.refl _ _).alloc (Nat.le_refl _) _)
     have HS := hide hs
     have hsz : x.heap.size < s.heap.size := by rw [← hs]; simp
     clear hs
     go_upto_region 8 with fail
     rw [HS.out]
     clear e0 e1
     obtain ⟨T, hTe⟩ : ∃ T, x.heap.size = T := ⟨_, rfl⟩
     rw [hTe] at hT hsz ⊢
     have HTe := hide hTe
     clear hTe HS
     have t0 : s.cell? ⟨T, 0, none⟩ = some (.int .i64 m.1) := cell_of_row _ _ 0 _ _ _ hT
     have t1 : s.cell? ⟨T, 1, none⟩ = some (.int .i64 m.2) := cell_of_row _ _ 1 _ _ _ hT
     clear hT
     have HKs := hide (HK.out.below HBs.out HK.out.1)
     have HBw := hide (HBr.out.trans (HBs.out.mono szx))
     have szs := HBw.out.size
     have G0s := (HKs.out.2 w.heap.size hlu (by simp; omega)).trans G0.out
     have c0 : s.cell? ⟨w.heap.size, 0, none⟩ = some (.int .u8 k) := cell_of_row _ _ 0 _ _ _ G0s
     have c1 : s.cell? ⟨w.heap.size, 1, none⟩ = some (.int .i64 j1) := cell_of_row _ _ 1 _ _ _ G0s
     have c2 : s.cell? ⟨w.heap.size, 2, none⟩ = some (.int .i64 j2) := cell_of_row _ _ 2 _ _ _ G0s
     have c3 : s.cell? ⟨w.heap.size, 3, none⟩ = some (.int .i64 j3) := cell_of_row _ _ 3 _ _ _ G0s
     have c4 : s.cell? ⟨w.heap.size, 4, none⟩ = some (.int .i64 j4) := cell_of_row _ _ 4 _ _ _ G0s
     have hws : w.heap.size < s.heap.size := by have := HKs.out.1; omega
     clear G0s
     have HP := hide (show Calls Tryz.prog 111 #[.map (some b), .agg #[.int .u8 k, .int .i64 j1, .int .i64 j2, .int .i64 j3, .int .i64 j4], .agg #[.int .i64 m.1, .int .i64 m.2]] s (BPost b (l0.length + j) (addB k (boxF k (l0 ++ r.take j)) m) s) by
       obtain ⟨D, hD, hM⟩ := HX.out
       refine bput_any s b _ D _ hD (map_below HBs.out hM hM.lt) (by have := HLl.out; omega) k j1 j2 j3 j4 m.1 m.2 hmb.1 hmb.2 (fun y hy => box_bd (k := k) (l := l0 ++ r.take j) (fun m' hm' => ?_) m.1 y hy)
       rcases List.mem_append.1 hm' with h | h
       ·exact HL0.out m' h
       ·exact HMr.out m' (List.mem_of_mem_take h))
     go_wp2_with fail
     refine HP.out.mono ?_
     rintro e z ⟨rfl, D, hD, hM, hg9⟩
     have HX2 : Hid (∃ D, BoxIs D (boxF k (l0 ++ r.take (j + 1))) ∧ z.ownsMap Tryz.prog 3 mailElem b (l0.length + (j + 1)) D) := hide ⟨D, by rw [HSn.out, ← List.append_assoc, boxF_snoc]; exact hD, hM⟩
     have HK2 : Hid (KB [b] u z) := hide (HKs.out.grown hg9 (fun g e => by injection e with e; subst e; exact .inr (by simp)))
     have HB2 : Hid (Below w.heap.size w z) := hide (HBw.out.grown hg9 szs (fun g e => by injection e with e; omega))
     clear hD hM hg9 HP t0 t1 c0 c1 c2 c3 c4
     go_wp2
     go_roundw
     case rel => exact ⟨j + 1, by omega, by go_num, HX2, HK2, HB2⟩
     case measure => simp [intOf]; omega
    ·obtain rfl : j = q := by omega
     have HX2 : Hid (∃ D, BoxIs D (boxF k (rs.take (i + 1)).flatten) ∧ x.ownsMap Tryz.prog 3 mailElem b ((rs.take (i + 1)).flatten).length D) := hide (by
       have h := HX.out
       rw [List.take_of_length_le (by rw [HQ.out]; exact Nat.le_refl _)] at h
       rw [flat_next HR.out, HLe.out, List.length_append, HQ.out]
       exact h)
     clear HX
     go_wp2
     go_roundw
     case rel => exact ⟨i + 1, by omega, by go_num, HX2, HK, HBr⟩
     case measure => simp [intOf]; omega
  ·obtain rfl : i = R := by omega
   have hfl : (rs.take i).flatten = rs.flatten := by rw [List.take_of_length_le (by rw [HL.out]; exact Nat.le_refl _)]
   rw [hfl] at HX
   clear hfl
   obtain ⟨l, hl⟩ : ∃ l, rs.flatten = l := ⟨_, rfl⟩
   rw [hl] at HX
   have HLf := hide hl
   clear hl
   obtain ⟨ms, hms⟩ : ∃ ms, mails k l own = ms := ⟨_, rfl⟩
   have HMl : Hid (ms.length = V) := hide (by rw [← hms]; unfold mails; rw [List.length_map]; exact HV.out)
   have HMe := hide hms
   clear hms
   obtain ⟨v, hv⟩ : ∃ v, wr.alloc (.cells (madeCells #[.bool false, .int .i64 0] (V * 2)) 76) = v := ⟨_, rfl⟩
   have hmk : (Instr.makeSlice 31 (.int .i64 (V : Int)) (.int .i64 (V : Int))).run Tryz.prog wr = .ok (.slice (some ⟨wr.heap.size, 0, none⟩) V V) v := by
     have hr := run_make (P := Tryz.prog) wr 31 76 a3 _ Tryz.underlying31 a3i a3z .i64 .i64 V V (by omega) (Int.le_refl _) (by rw [a3b]; omega) (by omega)
     simp only [Int.toNat_natCast, a3s] at hr
     rw [← hv]
     exact hr
   have HG0 := hide (show v.heap[wr.heap.size]? = some (.cells (mlFlat (mlFill ms 0)).toArray 76) by rw [← hv, mlFill_zero, HMl.out, ← made_m]; exact heap_alloc_last _ _)
   have HBv := hide (show Below wr.heap.size wr v by rw [← hv]; exact (Below.refl _ _).alloc (Nat.le_refl _) _)
   have hvz : wr.heap.size < v.heap.size := by rw [← hv]; simp
   clear hv
   go_upto_region 12 with fail
   obtain ⟨G, hGe⟩ : ∃ G, wr.heap.size = G := ⟨_, rfl⟩
   rw [hGe] at HG0 hvz ⊢
   have HGe := hide hGe
   have hwG : w.heap.size < G := by have := HK.out.1; omega
   have hbG : b < G := by have := HK.out.1; omega
   clear hGe hmk
   have HX2 : Hid (∃ D, BoxIs D (boxF k l) ∧ v.ownsMap Tryz.prog 3 mailElem b l.length D) := hide (by obtain ⟨D, h1, h2⟩ := HX.out; exact ⟨D, h1, map_below HBv.out h2 h2.lt⟩)
   have HBv2 := hide (HBr.out.trans (HBv.out.mono srw))
   clear HX HK HBr HBv
   go_wp2
   go_loopw [39] (fun v39 x => ∃ i : Nat, i ≤ V ∧ v39 = .int .i64 (i : Int) ∧ Hid (x.heap[G]? = some (.cells (mlFlat (mlFill ms i)).toArray 76)) ∧ Hid (∃ D, BoxIs D (boxF k l) ∧ x.ownsMap Tryz.prog 3 mailElem b l.length D) ∧ Hid (Below w.heap.size w x)) (fun v39 _ => V - (intOf v39).toNat)
   case atStart => exact ⟨0, by omega, rfl, HG0, HX2, HBv2⟩
   case round =>
    clear HG0 HX2 HBv2
    obtain ⟨i9, hi9, rfl, HG, HX, HBr⟩ := hrel
    obtain ⟨x, rfl⟩ : ∃ z : World, z = wr := ⟨_, rfl⟩
    have szx : w.heap.size ≤ x.heap.size := HBr.out.size
    by_cases hltv : i9 < V
    ·have hI1 : (i9 : Int) < (V : Int) := by omega
     have hI0 : (0 : Int) ≤ (i9 : Int) := by omega
     obtain ⟨vx, hvx⟩ : ∃ m, own[i9]? = some m := ⟨_, List.getElem?_eq_getElem (by rw [HV.out]; exact hltv)⟩
     have hvb := HOB.out vx (List.mem_of_getElem? hvx)
     obtain ⟨g3, o3, rfl, hg3, d0⟩ := HO.out.at1 (i64s_get hvx)
     have e0 : x.cell? ⟨g3, o3 + i9, none⟩ = some (.int .i64 vx) := (HBr.out.cell (p := ⟨g3, o3 + i9, none⟩) hg3).trans d0
     have hgx : g3 < x.heap.size := by omega
     obtain ⟨D, hD, hM⟩ := HX.out
     obtain ⟨mv, hmv⟩ : ∃ m, mlOf (boxF k l vx) = m := ⟨_, rfl⟩
     have hms9 : i9 < ms.length := by rw [HMl.out]; exact hltv
     have HMv := hide (show ms[i9] = mv by have h : (mails k l own)[i9]? = some mv := (by unfold mails; rw [List.getElem?_map, hvx, ← hmv]; rfl); rw [HMe.out, List.getElem?_eq_getElem hms9] at h; exact Option.some.inj h)
     have hlook : (Instr.lookup 152 (.map (some b)) (.int .i64 vx) false).run Tryz.prog x = .ok (.agg #[.bool mv.1, .int .i64 mv.2]) x := by
       obtain ⟨v9, ps9, hrun, hv9⟩ := hM.lookup K Tryz.underlying152 (z := .agg #[.bool false, .int .i64 0]) (by kernel_rfl) (mailElem_mk _ _) (Maps.keyOf_int_mk Tryz.underlying3 (lk_wf hvb.1 hvb.2))
       rw [show (Lit.int .i64 vx) = lk vx from rfl, box_at hD, hmv] at hv9
       obtain rfl := mailElem_inv hv9
       exact hrun
     have hmb : b ≠ G := by omega
     have HXM := hide (show ∃ D, BoxIs D (boxF k l) ∧ ((x.setCell ⟨G, i9 * 2, none⟩ (.bool mv.1)).setCell ⟨G, i9 * 2 + 1, none⟩ (.int .i64 mv.2)).ownsMap Tryz.prog 3 mailElem b l.length D from ⟨D, hD, (hM.setCell (by exact hmb) _).setCell (by exact hmb) _⟩)
     have HGn := hide (show ((x.setCell ⟨G, i9 * 2, none⟩ (.bool mv.1)).setCell ⟨G, i9 * 2 + 1, none⟩ (.int .i64 mv.2)).heap[G]? = some (.cells (mlFlat (mlFill ms (i9 + 1))).toArray 76) by
       have h := heap_setCell_same _ G (i9 * 2 + 1) _ _ (.int .i64 mv.2) (heap_setCell_same x G (i9 * 2) _ _ (.bool mv.1) HG.out)
       rw [List.setIfInBounds_toArray, List.setIfInBounds_toArray, mlFlat_set] at h
       have e := mlFill_set ms hms9
       rw [HMv.out] at e
       rw [e] at h
       exact h)
     have HBn := hide ((HBr.out.setCell (p := ⟨G, i9 * 2, none⟩) (by show w.heap.size ≤ G; omega) (.bool mv.1)).setCell (p := ⟨G, i9 * 2 + 1, none⟩) (by show w.heap.size ≤ G; omega) (.int .i64 mv.2))
     obtain ⟨o1, ho1⟩ : ∃ z, (mlFlat (mlFill ms i9))[i9 * 2]? = some z := ⟨_, List.getElem?_eq_getElem (by rw [mlFlat_len, mlFill_len ms (by omega)]; omega)⟩
     obtain ⟨o4, ho4⟩ : ∃ z, (mlFlat (mlFill ms i9))[i9 * 2 + 1]? = some z := ⟨_, List.getElem?_eq_getElem (by rw [mlFlat_len, mlFill_len ms (by omega)]; omega)⟩
     have f1 : x.cell? ⟨G, i9 * 2, none⟩ = some o1 := (cell_of_row _ _ _ _ _ _ HG.out).trans (by simpa using ho1)
     have f2 : x.cell? ⟨G, i9 * 2 + 1, none⟩ = some o4 := (cell_of_row _ _ _ _ _ _ HG.out).trans (by simpa using ho4)
     have z1 : x.frozen? ⟨G, i9 * 2, none⟩ = false := frozen_of_row _ _ _ _ _ HG.out
     have z2 : x.frozen? ⟨G, i9 * 2 + 1, none⟩ = false := frozen_of_row _ _ _ _ _ HG.out
     clear hD hM hmv hvx d0 HG HX HBr ho1 ho4
     go_wp2
     go_roundw
     case rel => exact ⟨i9 + 1, by omega, by go_num, HGn, HXM, HBn⟩
     case measure => simp [intOf]; omega
    ·obtain rfl : i9 = V := by omega
     have HF : Hid (MgPost w (mails k rs.flatten own) (.returned (.slice (some ⟨G, 0, none⟩) i9 i9)) x) := hide (by
       rw [HLf.out, HMe.out]
       have h := HG.out
       rw [← HMl.out, mlFill_full] at h
       exact ⟨some ⟨G, 0, none⟩, i9, by rw [HMl.out], by have h2 := Rd.of_block h; simpa using h2, HBr.out, fun g off e => by injection e with e; injection e with e1 e2; omega⟩)
     clear HG HX HBr
     go_wp2
     go_ret
     exact HF.out
end Go.Proofs.YtpgbjabifhjogaaGreat
namespace Go.Proofs.YtpgbjabifhjogaaGreat
open Go.RowKit
set_option linter.unusedVariables false
set_option linter.unusedSimpArgs false
def fldV (k v : Int) (l : List Ms) : Ml := l.foldl (addV k v) (false, 0)
theorem fldV_snoc (k v : Int) (l : List Ms) (m : Ms) : fldV k v (l ++ [m]) = addV k v (fldV k v l) m := by
 unfold fldV
 rw [List.foldl_append]
 rfl
theorem two_fin {w wf : World} {H : Nat} {T : TypeId} (z0 z1 v0 v1 : Value) (hw : w.heap.size ≤ H) (hz : wf.heap[H]? = some (.cells #[z0, z1] T)) (hb : Below w.heap.size w wf) :
  ∃ f, (wf.setCell ⟨H, 0, none⟩ v0).setCell ⟨H, 1, none⟩ v1 = f ∧ Below w.heap.size w f ∧ f.heap[H]? = some (.cells #[v0, v1] T) := by
 have hF1 := heap_setCell_same _ H 0 _ _ v0 hz
 have hF2 := heap_setCell_same _ H 1 _ _ v1 hF1
 exact ⟨_, rfl, ((hb.setCell (p := ⟨H, 0, none⟩) hw v0).setCell (p := ⟨H, 1, none⟩) hw v1), hF2⟩
set_option maxRecDepth 100000 in
set_option maxHeartbeats 8000000 in
theorem rmail_any (w : World) (k j1 j2 j3 j4 v : Int) (Ar : Option Addr) (rs : List (List Ms)) (R cr : Nat) (hL : rs.length = R) (hR5 : R ≤ 1000) (hR : MRs w w.heap.size Ar rs) (hN : rs.flatten.length ≤ 100000) :
  Calls Tryz.prog 89 #[.agg #[.int .u8 k, .int .i64 j1, .int .i64 j2, .int .i64 j3, .int .i64 j4], .int .i64 v, .slice Ar R cr] w fun e w' => e = .returned (.agg #[.bool (fldV k v rs.flatten).1, .int .i64 (fldV k v rs.flatten).2]) ∧ Below w.heap.size w w' := by
 have HN := hide hN
 clear hN
 obtain ⟨u, hu⟩ : ∃ u, ((w.alloc (.cells #[.int .u8 k, .int .i64 j1, .int .i64 j2, .int .i64 j3, .int .i64 j4] 26)).alloc (.cells #[.bool false, .int .i64 0] 76)).alloc (.cells #[.bool false, .int .i64 0] 76) = u := ⟨_, rfl⟩
 have hzu : u.heap.size = w.heap.size + 3 := by rw [← hu]; simp
 have HBu := hide (show Below w.heap.size w u by rw [← hu]; exact (((Below.refl _ _).alloc (Nat.le_refl _) _).alloc (by simp) _).alloc (by simp; omega) _)
 have G0 := hide (show u.heap[w.heap.size]? = some (.cells #[.int .u8 k, .int .i64 j1, .int .i64 j2, .int .i64 j3, .int .i64 j4] 26) by rw [← hu]; exact (Below.heap_alloc _ _ _ (by simp; omega)).trans ((Below.heap_alloc _ _ _ (by simp)).trans (heap_alloc_last w _)))
 have G1 := hide (show u.heap[w.heap.size + 1]? = some (.cells #[.bool false, .int .i64 0] 76) by rw [← hu]; have h := heap_alloc_last (w.alloc (.cells #[.int .u8 k, .int .i64 j1, .int .i64 j2, .int .i64 j3, .int .i64 j4] 26)) (.cells #[.bool false, .int .i64 0] 76); rw [World.size_alloc] at h; exact (Below.heap_alloc _ _ _ (by simp)).trans h)
 have G2 := hide (show u.heap[w.heap.size + 2]? = some (.cells #[.bool false, .int .i64 0] 76) by rw [← hu]; have h := heap_alloc_last ((w.alloc (.cells #[.int .u8 k, .int .i64 j1, .int .i64 j2, .int .i64 j3, .int .i64 j4] 26)).alloc (.cells #[.bool false, .int .i64 0] 76)) (.cells #[.bool false, .int .i64 0] 76); rw [World.size_alloc, World.size_alloc] at h; exact h)
 have hlu : w.heap.size + 3 ≤ u.heap.size := by omega
 have HU := hide hu
 have HL := hide hL
 have HRw := hide hR
 clear hu hzu hL hR
 obtain ⟨M, hMe⟩ : ∃ M, w.heap.size + 2 = M := ⟨_, rfl⟩
 rw [hMe] at G2
 have HME := hide hMe
 have hMu : M < u.heap.size := by omega
 have hMw : w.heap.size + 1 < M := by omega
 clear hMe
 go_enter Tryz.func89, Tryz.ntmps89
 go_wp2
 rw [HU.out, HME.out]
 go_loopw [8] (fun v8 wr => ∃ i : Nat, i ≤ R ∧ v8 = .int .i64 (i : Int) ∧ Hid (wr.heap[M]? = some (.cells #[.bool (fldV k v ((rs.take i).flatten)).1, .int .i64 (fldV k v ((rs.take i).flatten)).2] 76)) ∧ Hid (KB [M] u wr) ∧ Hid (Below w.heap.size w wr)) (fun v8 _ => R - (intOf v8).toNat)
 case atStart => exact ⟨0, by omega, rfl, G2, hide (KB.refl _ _), HBu⟩
 case round =>
  obtain ⟨i, hi, rfl, HG, HK, HBr⟩ := hrel
  obtain ⟨wr, rfl⟩ : ∃ z : World, z = wr := ⟨_, rfl⟩
  have srw : w.heap.size ≤ wr.heap.size := HBr.out.size
  by_cases hlt : i < R
  ·have hI1 : (i : Int) < (R : Int) := by omega
   have hI0 : (0 : Int) ≤ (i : Int) := by omega
   obtain ⟨r, hr⟩ : ∃ r, rs[i]? = some r := ⟨_, List.getElem?_eq_getElem (by rw [HL.out]; exact hlt)⟩
   obtain ⟨g, off, rfl, hg, A1, c1, d0, hm⟩ := HRw.out.get hr
   have D0 := hide d0
   have HMs := hide hm
   have HR := hide hr
   obtain ⟨q, hq⟩ : ∃ q, r.length = q := ⟨_, rfl⟩
   rw [hq] at D0
   have HQ := hide hq
   have hq5 : q ≤ 100000 := by have h := flat_take hr; rw [hq] at h; have := HN.out; omega
   clear d0 hm hr hq
   obtain ⟨l0, hl0⟩ : ∃ l, (rs.take i).flatten = l := ⟨_, rfl⟩
   rw [hl0] at HG
   have HLe := hide hl0
   clear hl0
   go_wp2
   go_loopw [9] (fun v9 x => ∃ j : Nat, j ≤ q ∧ v9 = .int .i64 (j : Int) ∧ Hid (x.heap[M]? = some (.cells #[.bool (fldV k v (l0 ++ r.take j)).1, .int .i64 (fldV k v (l0 ++ r.take j)).2] 76)) ∧ Hid (KB [M] u x) ∧ Hid (Below w.heap.size w x)) (fun v9 _ => q - (intOf v9).toNat)
   case atStart => exact ⟨0, by omega, rfl, by rw [List.take_zero, List.append_nil]; exact HG, HK, HBr⟩
   case round =>
    clear HG HK HBr
    obtain ⟨j, hj, rfl, HG, HK, HBr⟩ := hrel
    obtain ⟨x, rfl⟩ : ∃ z : World, z = wr := ⟨_, rfl⟩
    have szx : w.heap.size ≤ x.heap.size := HBr.out.size
    have e0 : x.cell? ⟨g, off + i, none⟩ = some (.slice A1 q c1) := (HBr.out.cell (p := ⟨g, off + i, none⟩) hg).trans D0.out
    have hgw : g < x.heap.size := by omega
    by_cases hltj : j < q
    ·have hJ1 : (j : Int) < (q : Int) := by omega
     have hJ0 : (0 : Int) ≤ (j : Int) := by omega
     obtain ⟨m, hm⟩ : ∃ m, r[j]? = some m := ⟨_, List.getElem?_eq_getElem (by rw [HQ.out]; exact hltj)⟩
     obtain ⟨g2, o2, rfl, hg2, d0, d1⟩ := HMs.out.get hm
     have e1 : x.cell? ⟨g2, o2 + j * 2, none⟩ = some (.int .i64 m.1) := (HBr.out.cell (p := ⟨g2, o2 + j * 2, none⟩) hg2).trans d0
     have e2 : x.cell? ⟨g2, o2 + j * 2 + 1, none⟩ = some (.int .i64 m.2) := (HBr.out.cell (p := ⟨g2, o2 + j * 2 + 1, none⟩) hg2).trans d1
     have hgx : g2 < x.heap.size := by omega
     have HSn := hide (show r.take (j + 1) = r.take j ++ [m] by rw [List.take_add_one, hm]; rfl)
     have HFs := hide (show fldV k v (l0 ++ r.take (j + 1)) = addV k v (fldV k v (l0 ++ r.take j)) m by rw [HSn.out, ← List.append_assoc, fldV_snoc])
     clear hm d0 d1
     obtain ⟨s, hs⟩ : ∃ s, x.alloc (.cells #[.int .i64 m.1, .int .i64 m.2] 125) = s := ⟨_, rfl⟩
     have hT : s.heap[x.heap.size]? = some (.cells #[.int .i64 m.1, .int .i64 m.2] 125) := by rw [← hs]; exact heap_alloc_last _ _
     have HBs := hide (show Below x.heap.size x s by rw [← hs]; exact (Below.refl _ _).alloc (Nat.le_refl _) _)
     have HS := hide hs
     have hsz : x.heap.size < s.heap.size := by rw [← hs]; simp
     clear hs
     go_upto_region 9 with fail
     rw [HS.out]
     clear e0 e1 e2
     obtain ⟨T, hTe⟩ : ∃ T, x.heap.size = T := ⟨_, rfl⟩
     rw [hTe] at hT hsz ⊢
     have HTe := hide hTe
     clear HS
     have t0 : s.cell? ⟨T, 0, none⟩ = some (.int .i64 m.1) := cell_of_row _ _ 0 _ _ _ hT
     have t1 : s.cell? ⟨T, 1, none⟩ = some (.int .i64 m.2) := cell_of_row _ _ 1 _ _ _ hT
     have hux : u.heap.size ≤ x.heap.size := HK.out.1
     have hMs : M < s.heap.size := by omega
     have hMT : M ≠ T := by omega
     clear hTe
     have HKs := hide (HK.out.below HBs.out HK.out.1)
     have HBw := hide (HBr.out.trans (HBs.out.mono szx))
     have HGs := hide ((HBs.out.block M (by omega)).trans HG.out)
     clear HG HK HBr hT
     obtain ⟨f, hf⟩ : ∃ f, fldV k v (l0 ++ r.take j) = f := ⟨_, rfl⟩
     rw [hf] at HGs HFs
     clear hf
     obtain ⟨fh, fx⟩ := f
     by_cases hto : m.1 = v
     rotate_left
     ·have hto2 : (m.1 == v) = false := by simpa using hto
      have hto3 : (m.1 != v) = true := by simpa using hto
      have hFe : Hid (fldV k v (l0 ++ r.take (j + 1)) = (fh, fx)) := hide (by rw [HFs.out]; unfold addV; rw [if_neg hto])
      clear hto
      go_wp2
      go_roundw
      case rel => exact ⟨j + 1, by omega, by go_num, by rw [hFe.out]; exact HGs, HKs, HBw⟩
      case measure => simp [intOf]; omega
     have hto2 : (m.1 == v) = true := by simpa using hto
     have hto3 : (m.1 != v) = false := by simpa using hto
     have HTo := hide hto
     clear hto
     have g0 : s.cell? ⟨M, 0, none⟩ = some (.bool fh) := cell_of_row _ _ 0 _ _ _ HGs.out
     have g1 : s.cell? ⟨M, 1, none⟩ = some (.int .i64 fx) := cell_of_row _ _ 1 _ _ _ HGs.out
     have z0 : s.frozen? ⟨M, 0, none⟩ = false := frozen_of_row _ _ 0 _ _ HGs.out
     have z1 : s.frozen? ⟨M, 1, none⟩ = false := frozen_of_row _ _ 1 _ _ HGs.out
     cases fh
     ·have hFe : Hid (fldV k v (l0 ++ r.take (j + 1)) = (true, m.2)) := hide (by rw [HFs.out]; unfold addV; rw [if_pos HTo.out]; rfl)
      have HGn := hide (show ((s.setCell ⟨M, 0, none⟩ (.bool true)).setCell ⟨M, 1, none⟩ (.int .i64 m.2)).heap[M]? = some (.cells #[.bool true, .int .i64 m.2] 76) from heap_setCell_same _ M 1 _ _ (.int .i64 m.2) (heap_setCell_same s M 0 _ _ (.bool true) HGs.out))
      have HKn := hide ((HKs.out.setCell (p := ⟨M, 0, none⟩) (.inr (by simp)) (.bool true)).setCell (p := ⟨M, 1, none⟩) (.inr (by simp)) (.int .i64 m.2))
      have HBn := hide ((HBw.out.setCell (p := ⟨M, 0, none⟩) (by show w.heap.size ≤ M; omega) (.bool true)).setCell (p := ⟨M, 1, none⟩) (by show w.heap.size ≤ M; omega) (.int .i64 m.2))
      clear HGs HKs HBw
      go_wp2
      go_roundw
      case rel => exact ⟨j + 1, by omega, by go_num, by rw [hFe.out]; exact HGn, HKn, HBn⟩
      case measure => simp [intOf]; omega
     ·have hFe : Hid (fldV k v (l0 ++ r.take (j + 1)) = (true, combF k fx m.2)) := hide (by rw [HFs.out]; unfold addV; rw [if_pos HTo.out]; rfl)
      have G0s := (HKs.out.2 w.heap.size (by omega) (by simp; omega)).trans G0.out
      have c0 : s.cell? ⟨w.heap.size, 0, none⟩ = some (.int .u8 k) := cell_of_row _ _ 0 _ _ _ G0s
      have c1 : s.cell? ⟨w.heap.size, 1, none⟩ = some (.int .i64 j1) := cell_of_row _ _ 1 _ _ _ G0s
      have c2 : s.cell? ⟨w.heap.size, 2, none⟩ = some (.int .i64 j2) := cell_of_row _ _ 2 _ _ _ G0s
      have c3 : s.cell? ⟨w.heap.size, 3, none⟩ = some (.int .i64 j3) := cell_of_row _ _ 3 _ _ _ G0s
      have c4 : s.cell? ⟨w.heap.size, 4, none⟩ = some (.int .i64 j4) := cell_of_row _ _ 4 _ _ _ G0s
      have hws : w.heap.size < s.heap.size := by have := HKs.out.1; omega
      clear G0s
      go_wp2_with fail
      refine (rcomb_any s k j1 j2 j3 j4 fx m.2).mono ?_
      rintro e z ⟨rfl, hz⟩
      have HGz := hide ((hz.block M hMs).trans HGs.out)
      have HKz := hide (HKs.out.below hz HKs.out.1)
      have HBz := hide (HBw.out.trans (hz.mono HBw.out.size))
      have hMz : M < z.heap.size := Nat.lt_of_lt_of_le hMs hz.size
      clear hz g0 g1 z0 z1 t0 t1 c0 c1 c2 c3 c4 HGs HKs HBw
      obtain ⟨cv, hcv⟩ : ∃ c, combF k fx m.2 = c := ⟨_, rfl⟩
      rw [hcv] at hFe ⊢
      clear hcv
      have g1 : z.cell? ⟨M, 1, none⟩ = some (.int .i64 fx) := cell_of_row _ _ 1 _ _ _ HGz.out
      have z1 : z.frozen? ⟨M, 1, none⟩ = false := frozen_of_row _ _ 1 _ _ HGz.out
      have HGn := hide (show (z.setCell ⟨M, 1, none⟩ (.int .i64 cv)).heap[M]? = some (.cells #[.bool true, .int .i64 cv] 76) from heap_setCell_same z M 1 _ _ (.int .i64 cv) HGz.out)
      have HKn := hide (HKz.out.setCell (p := ⟨M, 1, none⟩) (.inr (by simp)) (.int .i64 cv))
      have HBn := hide (HBz.out.setCell (p := ⟨M, 1, none⟩) (by show w.heap.size ≤ M; omega) (.int .i64 cv))
      clear HGz HKz HBz
      go_wp2
      go_roundw
      case rel => exact ⟨j + 1, by omega, by go_num, by rw [hFe.out]; exact HGn, HKn, HBn⟩
      case measure => simp [intOf]; omega
    ·obtain rfl : j = q := by omega
     have hfe : l0 ++ r.take j = (rs.take (i + 1)).flatten := by rw [List.take_of_length_le (by rw [HQ.out]; exact Nat.le_refl _), flat_next HR.out, HLe.out]
     rw [hfe] at HG
     clear hfe
     go_wp2
     go_roundw
     case rel => exact ⟨i + 1, by omega, by go_num, HG, HK, HBr⟩
     case measure => simp [intOf]; omega
  ·obtain rfl : i = R := by omega
   have hfl : (rs.take i).flatten = rs.flatten := by rw [List.take_of_length_le (by rw [HL.out]; exact Nat.le_refl _)]
   rw [hfl] at HG
   clear hfl
   obtain ⟨f, hf⟩ : ∃ f, fldV k v rs.flatten = f := ⟨_, rfl⟩
   rw [hf] at HG
   have HFv := hide hf
   clear hf
   obtain ⟨fh, fx⟩ := f
   have g0 : wr.cell? ⟨M, 0, none⟩ = some (.bool fh) := cell_of_row _ _ 0 _ _ _ HG.out
   have g1 : wr.cell? ⟨M, 1, none⟩ = some (.int .i64 fx) := cell_of_row _ _ 1 _ _ _ HG.out
   have hMr : M < wr.heap.size := by have := HK.out.1; omega
   have G1r := (HK.out.2 (w.heap.size + 1) (by omega) (by simp; omega)).trans G1.out
   have y0 : wr.cell? ⟨w.heap.size + 1, 0, none⟩ = some (.bool false) := cell_of_row _ _ 0 _ _ _ G1r
   have y1 : wr.cell? ⟨w.heap.size + 1, 1, none⟩ = some (.int .i64 0) := cell_of_row _ _ 1 _ _ _ G1r
   have z0 : wr.frozen? ⟨w.heap.size + 1, 0, none⟩ = false := frozen_of_row _ _ 0 _ _ G1r
   have z1 : wr.frozen? ⟨w.heap.size + 1, 1, none⟩ = false := frozen_of_row _ _ 1 _ _ G1r
   have HFin := hide (two_fin (.bool false) (.int .i64 0) (.bool fh) (.int .i64 fx) (show w.heap.size ≤ w.heap.size + 1 by omega) G1r HBr.out)
   clear G1r HG HK HBr
   go_wp2
   obtain ⟨f, hf, hfB, h6⟩ := HFin.out
   rw [hf]
   have q0 : f.cell? ⟨w.heap.size + 1, 0, none⟩ = some (.bool fh) := cell_of_row _ _ 0 _ _ _ h6
   have q1 : f.cell? ⟨w.heap.size + 1, 1, none⟩ = some (.int .i64 fx) := cell_of_row _ _ 1 _ _ _ h6
   exact bodyPost_ret (v := .agg #[.bool fh, .int .i64 fx]) (by simp [results, Tryz.results89, go_sem, q0, q1]) rfl ⟨by rw [HFv.out], hfB⟩
theorem MRs.next {w w' : World} {A : Option Addr} {rs : List (List Ms)} (h : MRs w w.heap.size A rs) (hb : Below w.heap.size w w') : MRs w' w'.heap.size A rs :=
 Els.more (Els.keep h (fun p hp => hb.cell hp) fun cs r hE => by obtain ⟨A', c', h1, h2⟩ := hE; exact ⟨A', c', h1, h2.next hb⟩) hb.size
theorem MRs.drew {w : World} {A : Option Addr} {rs : List (List Ms)} (h : MRs w w.heap.size A rs) : MRs w.drew w.drew.heap.size A rs := h
theorem own2_of {y : World} {B n c : Nat} {A : Option Addr} {T : TypeId} {l : List Value} {m : Ml} {fh : Bool} {fx : Int} (h1 : m.1 = fh) (h2 : m.2 = fx) (h : y.ownsRow B T 2 (.slice A n c) n (l ++ [.bool fh, .int .i64 fx])) : y.ownsRow B T 2 (.slice A n c) n (l ++ mlFlat [m]) := by
 subst h1 h2
 exact h
set_option maxRecDepth 100000 in
set_option maxHeartbeats 8000000 in
theorem rmerge_any (w : World) (k j1 j2 j3 j4 : Int) (A Ar : Option Addr) (own : List Int) (rs : List (List Ms)) (V R c cr : Nat) (hV : own.length = V) (hV5 : V ≤ 1000) (hO : Rd w w.heap.size A (i64s own)) (hL : rs.length = R) (hR5 : R ≤ 1000) (hR : MRs w w.heap.size Ar rs) (hN : rs.flatten.length ≤ 100000) :
  Calls Tryz.prog 66 #[.agg #[.int .u8 k, .int .i64 j1, .int .i64 j2, .int .i64 j3, .int .i64 j4], .slice A V c, .slice Ar R cr] w (MgPost w (mails k rs.flatten own)) := by
 have HN := hide hN
 clear hN
 obtain ⟨a3, a3i, a3z, a3s, a3b⟩ := info_parts (show (Tryz.prog.info? 76).map (fun i => (i.zero, i.size, i.bytes)) = some (some (.agg #[.bool false, .int .i64 0]), 2, 16) by kernel_rfl)
 obtain ⟨u, hu⟩ : ∃ u, w.alloc (.cells #[.int .u8 k, .int .i64 j1, .int .i64 j2, .int .i64 j3, .int .i64 j4] 26) = u := ⟨_, rfl⟩
 have hlu : w.heap.size < u.heap.size := by rw [← hu]; simp
 have HBu := hide (show Below w.heap.size w u by rw [← hu]; exact (Below.refl _ _).alloc (Nat.le_refl _) _)
 have G0 := hide (show u.heap[w.heap.size]? = some (.cells #[.int .u8 k, .int .i64 j1, .int .i64 j2, .int .i64 j3, .int .i64 j4] 26) by rw [← hu]; exact heap_alloc_last _ _)
 have HU := hide hu
 have HL := hide hL
 have HRw := hide hR
 have HV := hide hV
 have HO := hide hO
 have hMS := hide (fun v => box_mail k v rs.flatten)
 clear hu hL hR hV hO
 go_enter Tryz.func66, Tryz.ntmps66
 go_wp2
 rw [HU.out]
 go_loopw [8, 7] (fun v8 v7 wr => ∃ (i : Nat) (A' : Option Addr) (c' : Nat), i ≤ V ∧ v8 = .int .i64 (i : Int) ∧ v7 = .slice A' i c' ∧ Hid (wr.ownsRow u.heap.size 76 2 (.slice A' i c') i (mlFlat ((own.take i).map fun v => fldV k v rs.flatten))) ∧ Hid (Below u.heap.size u wr)) (fun v8 _ _ => V - (intOf v8).toNat)
 case atStart => exact ⟨0, none, 0, by omega, rfl, rfl, hide (World.ownsRow_nil _ _ _ _), hide (Below.refl _ _)⟩
 case round =>
  obtain ⟨i, A', c', hi, rfl, rfl, HOw, HBr⟩ := hrel
  obtain ⟨wr, rfl⟩ : ∃ z : World, z = wr := ⟨_, rfl⟩
  have srw : u.heap.size ≤ wr.heap.size := HBr.out.size
  by_cases hlt : i < V
  ·have hI1 : (i : Int) < (V : Int) := by omega
   have hI0 : (0 : Int) ≤ (i : Int) := by omega
   obtain ⟨vx, hvx⟩ : ∃ m, own[i]? = some m := ⟨_, List.getElem?_eq_getElem (by rw [HV.out]; exact hlt)⟩
   obtain ⟨g3, o3, rfl, hg3, d0⟩ := HO.out.at1 (i64s_get hvx)
   have e0 : wr.cell? ⟨g3, o3 + i, none⟩ = some (.int .i64 vx) := (HBr.out.cell (p := ⟨g3, o3 + i, none⟩) (by show g3 < _; omega)).trans ((HBu.out.cell (p := ⟨g3, o3 + i, none⟩) hg3).trans d0)
   have hgx : g3 < wr.heap.size := by omega
   have HSn := hide (show own.take (i + 1) = own.take i ++ [vx] by rw [List.take_add_one, hvx]; rfl)
   have G0r := (HBr.out.block w.heap.size hlu).trans G0.out
   have c0 : wr.cell? ⟨w.heap.size, 0, none⟩ = some (.int .u8 k) := cell_of_row _ _ 0 _ _ _ G0r
   have c1 : wr.cell? ⟨w.heap.size, 1, none⟩ = some (.int .i64 j1) := cell_of_row _ _ 1 _ _ _ G0r
   have c2 : wr.cell? ⟨w.heap.size, 2, none⟩ = some (.int .i64 j2) := cell_of_row _ _ 2 _ _ _ G0r
   have c3 : wr.cell? ⟨w.heap.size, 3, none⟩ = some (.int .i64 j3) := cell_of_row _ _ 3 _ _ _ G0r
   have c4 : wr.cell? ⟨w.heap.size, 4, none⟩ = some (.int .i64 j4) := cell_of_row _ _ 4 _ _ _ G0r
   have hwr : w.heap.size < wr.heap.size := by omega
   clear G0r hvx d0
   go_upto_region 5 with fail
   refine wpL_region (S := Kept wr) [9] (by kernel_rfl) (Kept.drew wr) (fun hS0 => ?_)
   refine tl 0 15 (v := ?_) ?_ ?_; rotate_left; (focus (intro w hSw; go_simp; (try with_reducible rfl); done)); (try simp only [xd, xe, xf])
   refine takeU_at [1, 7, 8, 9, 10] (i := 1) (d := 16) (v := ?_) (by simp only [xa, xb, xc]; rfl) rfl (by kernel_rfl) (by kernel_rfl) (by kernel_rfl) (by kernel_rfl) (by kernel_rfl) (by kernel_rfl) (fun _ _ _ h => h) rfl ?_ (by assumption) ?_
   rotate_left
   focus (intro w hSw; go_simp; (try with_reducible rfl); done)
   try simp only [xd, xe, xf]
   refine tw 2 17 (v := ?_) ?_ ?_; rotate_left; (focus (intro w; go_simp; (try with_reducible rfl); done)); (try simp only [xd, xe, xf])
   refine tw 3 18 (v := ?_) ?_ ?_; rotate_left; (focus (intro w; go_simp; (try with_reducible rfl); done)); (try simp only [xd, xe, xf])
   refine tw 4 19 (v := ?_) ?_ ?_; rotate_left; (focus (intro w; go_simp; (try with_reducible rfl); done)); (try simp only [xd, xe, xf])
   refine takeU_at [5, 7, 8, 9, 10] (i := 5) (d := 20) (v := ?_) (by simp only [xa, xb, xc]; rfl) rfl (by kernel_rfl) (by kernel_rfl) (by kernel_rfl) (by kernel_rfl) (by kernel_rfl) (by kernel_rfl) (fun _ _ _ h => h) rfl ?_ (by assumption) ?_
   rotate_left
   focus (intro w hSw; go_simp; (try with_reducible rfl); done)
   try simp only [xd, xe, xf]
   refine tw 6 21 (v := ?_) ?_ ?_; rotate_left; (focus (intro w; go_simp; (try with_reducible rfl); done)); (try simp only [xd, xe, xf])
   refine callL_at (i := 7) (d := 22) (by simp only [xa, xb, xc]; rfl) rfl (by kernel_rfl) rfl (fun K hK => ?_)
   go_simp
   refine (rmail_any wr.drew k j1 j2 j3 j4 vx Ar rs R cr HL.out hR5 (MRs.next HRw.out (HBu.out.trans (HBr.out.mono (by omega)))).drew HN.out).mono ?_
   rintro e z ⟨rfl, hz⟩
   have hS1 : Kept wr z := hS0.below (Nat.le_refl _) hz
   have q1 : wr.heap.size ≤ z.heap.size := hz.size
   have Z1 := hide ((Below.refl wr.heap.size wr).drew.trans (hz.mono (Nat.le_refl _)))
   clear hz
   go_wp2_with fail
   refine hK.out _ _ hS1 (fun hSn => ?_)
   clear hK K
   try simp only [xd, xe, xf]
   refine callL_at (i := 8) (d := 23) (by simp only [xa, xb, xc]; rfl) rfl (by kernel_rfl) rfl (fun K hK => ?_)
   go_simp
   obtain ⟨fh, hfh⟩ : ∃ x, (fldV k vx rs.flatten).1 = x := ⟨_, rfl⟩
   obtain ⟨fx, hfx⟩ : ∃ x, (fldV k vx rs.flatten).2 = x := ⟨_, rfl⟩
   rw [hfh, hfx]
   have HFH := hide hfh
   have HFX := hide hfx
   clear hfh hfx
   have hS2 : Kept wr (z.alloc (.cells #[.bool fh, .int .i64 fx] 76)) := fun p hp => (World.cell?_alloc_lt _ _ _ (Nat.lt_of_lt_of_le hp q1)).trans (hS1 p hp)
   refine hK.out _ _ hS2 (fun hSn => ?_)
   clear hK K
   try simp only [xd, xe, xf]
   refine exL_at (i := 9) (by simp only [xa, xb, xc]; rfl) (by kernel_rfl) rfl (by kernel_rfl) (fun K hK => ?_)
   refine op_app (.tmp 15) (.tmp 23) 31 rfl u.heap.size 76 a3 (.agg #[.bool false, .int .i64 0]) 2 16 Tryz.underlying31 a3i a3z a3s a3b rfl (by decide) (.slice A' i c') i _ rfl ((own_below HOw.out Z1.out (fun g hg => (HOw.out.lt g hg).2)).alloc _) (z.heap.size + 1) (some ⟨z.heap.size, 0, none⟩) 1 1 [.bool fh, .int .i64 fx] rfl rfl (Rd.new _ _ _ _) (by simp [Value.oneCell']) (by unfold maxLen; omega) (by omega) (by simp; omega) ?_
   intro A2 c2 y own2 hg2 hat2
   have HB2 := hide (app_below ((HBr.out.trans (Z1.out.mono srw)).alloc (Nat.le_trans srw q1) (.cells #[.bool fh, .int .i64 fx] 76)) ((own_below HOw.out Z1.out (fun g hg => (HOw.out.lt g hg).2)).alloc _) hg2 (by simp; omega) (Nat.le_refl _))
   have HO2 : Hid (y.ownsRow u.heap.size 76 2 (.slice A2 (i + 1) c2) (i + 1) (mlFlat ((own.take (i + 1)).map fun v => fldV k v rs.flatten))) := hide (by rw [HSn.out, List.map_append, ← mlFlat_app]; exact own2_of HFH.out HFX.out own2)
   clear own2 hg2 hat2
   refine hK.out _ _ ?_
   clear hK K
   simp only [Act.put]
   try simp only [xd, xe, xf]
   refine tw 10 7 (v := ?_) ?_ ?_; rotate_left; (focus (intro w; go_simp; (try with_reducible rfl); done)); (try simp only [xd, xe, xf])
   refine wpAnyL_done (by kernel_rfl) ?_ _
   clear hS0 hSn hS1 hS2 c0 c1 c3 c4 e0
   go_wp2
   go_roundw
   case rel => exact ⟨i + 1, _, _, by omega, by go_num, rfl, HO2, HB2⟩
   case measure => simp [intOf]; omega
  ·obtain rfl : i = V := by omega
   have HF : Hid (MgPost w (mails k rs.flatten own) (.returned (.slice A' i c')) wr) := hide (by
     have h := HOw.out
     rw [List.take_of_length_le (by rw [HV.out]; exact Nat.le_refl _)] at h
     have e : own.map (fun v => fldV k v rs.flatten) = mails k rs.flatten own := List.map_congr_left fun v _ => (hMS.out v).symm
     rw [e] at h
     refine ⟨A', c', ?_, Rd.of_own h, HBu.out.trans (HBr.out.mono (by omega)), own_new h (by omega)⟩
     rw [show (mails k rs.flatten own).length = i by unfold mails; rw [List.length_map]; exact HV.out])
   clear HOw HBr
   go_wp2
   go_ret
   exact HF.out
end Go.Proofs.YtpgbjabifhjogaaGreat
