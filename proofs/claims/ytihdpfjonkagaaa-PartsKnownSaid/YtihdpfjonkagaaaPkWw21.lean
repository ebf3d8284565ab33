/- Lemmas: Pks, Pkk. -/
import Derived.Test.YtihdpfjonkagaaaProg
import Derived.Deep.DeepCutAuto
import Derived.Lib.Hide
import Derived.WalkSpells
import Derived.WalkMore
import Derived.IntWalk
import Derived.Deep.CutBlock
import Derived.Deep.Strs
import Derived.Test.YtihdpfjonkagaaaPkWw20
set_option linter.unusedVariables false
set_option linter.unusedSimpArgs false
set_option maxRecDepth 100000
set_option maxHeartbeats 16000000
namespace Go.Proofs.Ytihdpfjonkagaaa
open Go.RowKit
theorem rd_one {w : World} {b : Nat} {T : TypeId} {v : Value} (h : w.heap[b]? = some (.cells #[v] T)) : Rd w w.heap.size (some ⟨b, 0, none⟩) [v] := fun _ =>
 ⟨b, 0, rfl, (Array.getElem?_eq_some_iff.1 h).1, fun j u hu => by
  rcases j with _ | j
  ·simp only [List.getElem?_cons_zero, Option.some.injEq] at hu
   subst hu
   exact cell_of_row _ _ 0 _ _ _ h
  ·simp at hu⟩
theorem mw_one {b : Nat} {w : World} {xs : List Value} {ps : List PartV} (hm : MWr b w xs ps ps.length) (hx : xs.length = ps.length * 6) : ∀ u ∈ xs, u.oneCell' = true := by
 intro u hu
 obtain ⟨i, hi⟩ := List.getElem?_of_mem hu
 have hl := (List.getElem?_eq_some_iff.1 hi).1
 have hq : i / 6 < ps.length := by omega
 obtain ⟨cs, h1, ⟨Ao, Au, Ab, no, nu, nb, co, cu, cb, hu2, hb2, rfl, _⟩, h3⟩ := hm (i / 6) _ hq (List.getElem?_eq_getElem hq)
 have h6 : i % 6 < 6 := by omega
 have hii : i / 6 * 6 + i % 6 = i := by omega
 rcases (show i % 6 = 0 ∨ i % 6 = 1 ∨ i % 6 = 2 ∨ i % 6 = 3 ∨ i % 6 = 4 ∨ i % 6 = 5 by omega) with e | e | e | e | e | e
 all_goals
  have h4 := h3 (i % 6) _ (by rw [e]; rfl)
  rw [hii, hi] at h4
  injection h4 with h4
  rw [h4]
  rfl
theorem row_six {wc : World} {b g k c a : Nat} {xs : List Value} (ho : wc.ownsRow b 34 6 (.slice (some ⟨g, 0, none⟩) k c) k xs) (u0 u1 u2 u3 u4 u5 : Value) (ha : a < k) :
  ∃ w6, ((((((wc.setCell ⟨g, a * 6, none⟩ u0).setCell ⟨g, a * 6 + 1, none⟩ u1).setCell ⟨g, a * 6 + 2, none⟩ u2).setCell ⟨g, a * 6 + 3, none⟩ u3).setCell ⟨g, a * 6 + 4, none⟩ u4).setCell ⟨g, a * 6 + 5, none⟩ u5) = w6 ∧ Same1 g wc w6 ∧ w6.heap.size = wc.heap.size ∧ (∀ (v : World) (B : Nat), Below B v wc → B ≤ g → Below B v w6) ∧
   ∀ (ps : List PartV) (p' : PartV), ps.length = k → (∀ (q : Nat) (p : PartV), q ≠ a → ps[q]? = some p → ∃ cs : List Value, cs.length = 6 ∧ PtVal w6 cs p ∧ ∀ j u, cs[j]? = some u → xs[q * 6 + j]? = some u) → PtVal w6 [u0, u1, u2, u3, u4, u5] p' → PtRow w6 (some ⟨g, 0, none⟩) (ps.set a p') := by
 have o1 := (ho.stored (a * 6) u0).1
 have o2 := (o1.stored (a * 6 + 1) u1).1
 have o3 := (o2.stored (a * 6 + 2) u2).1
 have o4 := (o3.stored (a * 6 + 3) u3).1
 have o5 := (o4.stored (a * 6 + 4) u4).1
 have o6 := (o5.stored (a * 6 + 5) u5).1
 have hx := ho.1
 refine ⟨_, rfl, ⟨by simp only [World.size_setCell]; exact Nat.le_refl _, fun b' hb _ => by iterate 6 rw [Below.heap_setCell _ _ _ _ hb]⟩, by simp only [World.size_setCell], fun v B hv hB => (((((hv.setCell (p := ⟨g, a * 6, none⟩) hB _).setCell (p := ⟨g, a * 6 + 1, none⟩) hB _).setCell (p := ⟨g, a * 6 + 2, none⟩) hB _).setCell (p := ⟨g, a * 6 + 3, none⟩) hB _).setCell (p := ⟨g, a * 6 + 4, none⟩) hB _).setCell (p := ⟨g, a * 6 + 5, none⟩) hB _, fun ps p' hl hq hp hn => ?_⟩
 refine ⟨g, 0, rfl, (o6.lt g rfl).2, fun i x hxx => ?_⟩
 rw [List.getElem?_set] at hxx
 by_cases hia : a = i
 ·subst hia
  rw [if_pos rfl, if_pos (by omega)] at hxx
  injection hxx with hxx
  subst hxx
  refine ⟨[u0, u1, u2, u3, u4, u5], rfl, hp, fun j u hu => ?_⟩
  have hj : j < 6 := (List.getElem?_eq_some_iff.1 hu).1
  rw [Nat.zero_add, o6.cellAt (a * 6 + j) (by omega), ← hu]
  rcases (show j = 0 ∨ j = 1 ∨ j = 2 ∨ j = 3 ∨ j = 4 ∨ j = 5 by omega) with rfl | rfl | rfl | rfl | rfl | rfl
  all_goals
   simp (disch := omega) [List.getElem?_set, hx]
   try omega
 ·rw [if_neg hia] at hxx
  obtain ⟨cs, h1, h2, h3⟩ := hq i x (fun e => hia e.symm) hxx
  refine ⟨cs, h1, h2, fun j u hu => ?_⟩
  have hj := (List.getElem?_eq_some_iff.1 hu).1
  have hi := (List.getElem?_eq_some_iff.1 hxx).1
  rw [Nat.zero_add, o6.cellAt (i * 6 + j) (by omega)]
  iterate 6 rw [List.getElem?_set_ne (by omega)]
  exact h3 j u hu
theorem PtRow.tail {w : World} {b off : Nat} {ps : List PartV} (h : PtRow w (some ⟨b, off, none⟩) ps) : PtRow w (some ⟨b, off + 6, none⟩) (ps.drop 1) := fun hn => by
 have hp : ps ≠ [] := fun e => by subst e; exact hn rfl
 obtain ⟨b', off', e, hb, hc⟩ := h hp
 injection e with e
 injection e with e1 e2
 subst e1 e2
 refine ⟨b, off + 6, rfl, hb, fun i x hx => ?_⟩
 rw [List.getElem?_drop] at hx
 obtain ⟨cs, h1, h2, h3⟩ := hc (1 + i) x hx
 exact ⟨cs, h1, h2, fun j u hu => by rw [← h3 j u hu]; congr 2; omega⟩
theorem rows_more {v w : World} {b b2 : Nat} {A A2 : Option Addr} {c c2 n : Nat} {hs : List Value} {rs : List (List Ed)} (h : ORows v b A c hs rs) (hn : rs.length = n) (r : List Ed) (x : Value) (hx : ∃ A c, x = .slice A r.length c ∧ r.length ≤ c ∧ c ≤ 9223372036854775807 ∧ Eds w w.heap.size A r) (hk : Kept v w) (hs2 : v.heap.size ≤ w.heap.size)
  (ho : w.ownsRow b2 28 1 (.slice A2 (n + 1) c2) (n + 1) (hs ++ [x])) : ERows w w.heap.size A2 (rs ++ [r]) := by
 have hl := h.len
 refine erows_own (by simp [hn]) ho fun i y q h1 h2 => ?_
 by_cases hi : i < n
 ·rw [List.getElem?_append_left (by omega)] at h1 h2
  obtain ⟨⟨A9, c9, rfl⟩, k2, k3⟩ := h.row i y q h1 h2
  exact ⟨A9, c9, rfl, own_cap k2, own_max k2, Els.more (Els.keep (Eds.of_rd (Rd.of_own k2) k3) hk fun _ _ h => h) hs2⟩
 ·have h3 := (List.getElem?_eq_some_iff.1 h1).1
  obtain rfl : i = n := by simp at h3; omega
  rw [List.getElem?_append_right (by omega), hl, hn, Nat.sub_self] at h1
  rw [List.getElem?_append_right (by omega), hn, Nat.sub_self] at h2
  simp only [List.getElem?_cons_zero, Option.some.injEq] at h1 h2
  subst h1 h2
  exact hx
theorem spoilt_any (w : World) (V : Int) (A : Option Addr) (es : List Ed) (L c k : Nat) (hL : es.length = L) (hE : Eds w w.heap.size A es) (hc : L ≤ c) (hc2 : c ≤ 9223372036854775807) (hck : checkF V es = 0) (hk1 : 1 ≤ k) (hk : k ≤ 64) :
  Calls Try.prog 28 #[.agg #[.int .i64 V, .slice A L c], .int .i64 (k : Int)] w fun e w' => e = .returned (.bool true) ∧ Below w.heap.size w w' := by
 obtain ⟨u, hu⟩ : ∃ u, w.alloc (.cells #[.int .i64 V, .slice A L c] 30) = u := ⟨_, rfl⟩
 have hzl : w.heap.size < u.heap.size := by rw [← hu]; simp
 have HB := hide (show Below w.heap.size w u by rw [← hu]; exact (Below.refl _ _).alloc (Nat.le_refl _) _)
 have M0 := hide (show u.heap[w.heap.size]? = some (.cells #[.int .i64 V, .slice A L c] 30) by rw [← hu]; exact heap_alloc_last _ _)
 have HE := hide (Eds.next hE HB.out)
 have HU := hide hu
 have HL := hide hL
 have HCk := hide hck
 obtain ⟨hV1, hV5, hl8, -⟩ := checkF_ok hck
 rw [hL] at hl8
 have HVV := hide (show 1 ≤ V ∧ V ≤ 512 from ⟨hV1, hV5⟩)
 clear hu hE hL hck
 obtain ⟨a1, a1i, a1z, a1s, a1b⟩ := info_parts (show (Try.prog.info? 34).map (fun i => (i.zero, i.size, i.bytes)) = some (some (.agg #[.int .i64 0, .int .i64 0, .int .i64 0, .slice none 0 0, .slice none 0 0, .slice none 0 0]), 6, 96) by kernel_rfl)
 obtain ⟨a2, a2i, a2z, a2s, a2b⟩ := info_parts (show (Try.prog.info? 3).map (fun i => (i.zero, i.size, i.bytes)) = some (some (.int .i64 0), 1, 8) by kernel_rfl)
 obtain ⟨a3, a3i, a3z, a3s, a3b⟩ := info_parts (show (Try.prog.info? 28).map (fun i => (i.zero, i.size, i.bytes)) = some (some (.slice none 0 0), 1, 24) by kernel_rfl)
 go_enter Try.func28, Try.ntmps28
 go_upto_region 1 with fail
 rw [HU.out]
 go_wp2
 go_loopw [6, 5] (fun v6 v5 wr => ∃ (q : Nat) (Am : Option Addr) (cm : Nat), q ≤ k ∧ v6 = .int .i64 (q : Int) ∧ v5 = .slice Am q cm ∧ Hid (MW u.heap.size wr (cuts V es k) Am q cm) ∧ Hid (Below u.heap.size u wr)) (fun v6 _ _ => k - (intOf v6).toNat)
 case atStart => exact ⟨0, none, 0, by omega, rfl, rfl, hide (MW.zero _ _ _), hide (Below.refl _ _)⟩
 case round =>
  obtain ⟨q, Am, cm, hq, rfl, rfl, hM, hbr⟩ := hrel
  have svr : u.heap.size ≤ wr.heap.size := hbr.out.size
  have MG : Hid (wr.heap[w.heap.size]? = some (.cells #[.int .i64 V, .slice A L c] 30)) := hide ((hbr.out.block _ hzl).trans M0.out)
  by_cases hlt : q < k
  ·have g0 : wr.cell? ⟨w.heap.size, 0, none⟩ = some (.int .i64 V) := cell_of_row _ _ 0 _ _ _ MG.out
   have g1 : wr.cell? ⟨w.heap.size, 1, none⟩ = some (.slice A L c) := cell_of_row _ _ 1 _ _ _ MG.out
   have hgl : w.heap.size < wr.heap.size := by omega
   have HEr := hide (Eds.next HE.out hbr.out)
   have hI1 : (q : Int) < (k : Int) := by omega
   go_upto_region 5 with fail
   go_wp2_with fail
   refine (pcut_any _ V A es L c (k : Int) (q : Int) HL.out HEr.out (by omega)).mono ?_
   rintro e z hz
   obtain ⟨Ao, Au, Ab, no, nu, nb, co, cu, cb, rfl, ⟨hno, hnu, hnb⟩, hlen, hpo, hpi, hz⟩ := part_own svr hz
   obtain ⟨p, hp⟩ : ∃ p, partF V es (k : Int) (q : Int) = p := ⟨_, rfl⟩
   have HCu : Hid ((cuts V es k)[q]? = some p) := hide (by rw [cuts_get hlt, hp])
   rw [hp] at hlen hpo hpi ⊢
   have HLen := hide hlen
   have HPO := hide hpo
   have HBz := hide (hbr.out.trans (hz.mono svr))
   have szz : wr.heap.size ≤ z.heap.size := hz.size
   have HMz := hide (hM.out.below hz)
   clear hp hlen hpo hpi hz g0 g1 hM hbr
   obtain ⟨t, ht⟩ : ∃ x, z.alloc (.cells #[.int .i64 p.wk, .int .i64 p.ws, .int .i64 p.vs, .slice Ao no co, .slice Au nu cu, .slice Ab nb cb] 34) = x := ⟨_, rfl⟩
   have HT : Hid (t.heap[z.heap.size]? = some (.cells #[.int .i64 p.wk, .int .i64 p.ws, .int .i64 p.vs, .slice Ao no co, .slice Au nu cu, .slice Ab nb cb] 34)) := hide (by rw [← ht]; exact heap_alloc_last _ _)
   have HZt : Hid (Below z.heap.size z t) := hide (by rw [← ht]; exact (Below.refl _ _).alloc (Nat.le_refl _) _)
   have HTe := hide ht
   clear ht
   obtain ⟨T, hT⟩ : ∃ T, z.heap.size = T := ⟨_, rfl⟩
   have HTz := hide hT
   rw [hT] at HT
   clear hT
   go_upto_region 6 with fail
   rw [HTe.out, HTz.out]
   clear HTe
   have hTt : T < t.heap.size := (Array.getElem?_eq_some_iff.1 HT.out).1
   have c0 : t.cell? ⟨T, 0, none⟩ = some (.int .i64 p.wk) := cell_of_row _ _ 0 _ _ _ HT.out
   have c1 : t.cell? ⟨T, 1, none⟩ = some (.int .i64 p.ws) := cell_of_row _ _ 1 _ _ _ HT.out
   have c2 : t.cell? ⟨T, 2, none⟩ = some (.int .i64 p.vs) := cell_of_row _ _ 2 _ _ _ HT.out
   have c3 : t.cell? ⟨T, 3, none⟩ = some (.slice Ao no co) := cell_of_row _ _ 3 _ _ _ HT.out
   have c4 : t.cell? ⟨T, 4, none⟩ = some (.slice Au nu cu) := cell_of_row _ _ 4 _ _ _ HT.out
   have c5 : t.cell? ⟨T, 5, none⟩ = some (.slice Ab nb cb) := cell_of_row _ _ 5 _ _ _ HT.out
   have HPt := hide (HPO.out.below HZt.out)
   have HBt := hide (HBz.out.trans (HZt.out.mono (Nat.le_trans svr szz)))
   have svt : u.heap.size ≤ t.heap.size := HBt.out.size
   obtain ⟨xs, ho, hm⟩ := HMz.out
   have HOw := hide (own_all ho HZt.out (Nat.le_refl _))
   have HMr : Hid (MWr u.heap.size t xs (cuts V es k) q) := hide (fun q p hq hp => by obtain ⟨cs, a1, a2, a3⟩ := hm q p hq hp; exact ⟨cs, a1, a2.below HZt.out, a3⟩)
   clear ho hm HMz
   go_wp2_with (at_builtin; refine wpList_app rfl (.tmp 25) (.tmp 27) 47 rfl u.heap.size 34 a1 (.agg #[.int .i64 0, .int .i64 0, .int .i64 0, .slice none 0 0, .slice none 0 0, .slice none 0 0]) 6 96 Try.underlying47 a1i a1z a1s a1b rfl (by decide) (.slice Am q cm) q _ rfl (own_all HOw.out ((Below.refl _ _).alloc (Nat.le_refl _) _) (Nat.le_refl _)) (t.heap.size + 1) (some ⟨t.heap.size, 0, none⟩) 1 1 [.int .i64 p.wk, .int .i64 p.ws, .int .i64 p.vs, .slice Ao no co, .slice Au nu cu, .slice Ab nb cb] rfl rfl (Rd.new _ _ _ _) (by simp [Value.oneCell']) (by unfold maxLen; omega) (by omega) (by simp; omega) ?_)
   intro A' c' y own hg hat
   have hbt1 : Below t.heap.size t (t.alloc (.cells #[.int .i64 p.wk, .int .i64 p.ws, .int .i64 p.vs, .slice Ao no co, .slice Au nu cu, .slice Ab nb cb] 34)) := (Below.refl _ _).alloc (Nat.le_refl _) _
   have HMy : Hid (MW u.heap.size y (cuts V es k) A' (q + 1) c') := hide (MWr.app (fun q p hq hp => by obtain ⟨cs, a1, a2, a3⟩ := HMr.out q p hq hp; exact ⟨cs, a1, a2.below hbt1, a3⟩) (own_all HOw.out hbt1 (Nat.le_refl _)) HCu.out rfl (HPt.out.below hbt1) own hg)
   have HY := hide (app_below (HBt.out.alloc svt _) (own_all HOw.out hbt1 (Nat.le_refl _)) hg (by simp; omega) (Nat.le_refl _))
   clear own hg hat hbt1 HOw HMr HPt HBt HT HBz HPO HZt c0 c1 c2 c3 c4 c5
   go_wp2
   go_roundw
   case rel => exact ⟨q + 1, A', c', by omega, by go_num, rfl, HMy, HY⟩
   case measure => simp [intOf]; omega
  ·obtain rfl : k = q := by omega
   obtain ⟨v2, rfl⟩ : ∃ z : World, z = wr := ⟨_, rfl⟩
   have HUb := hbr
   obtain ⟨xs, ho, hm⟩ := hM.out
   have HRl : Hid (PtRow v2 Am (cuts V es k)) := hide (MW.row (c := cm) (by rw [cuts_len]; exact hM.out))
   obtain ⟨gl, rfl, hgl1, hgl2, hkc⟩ := own_addr ho (by omega)
   have hcm : cm ≤ 9223372036854775807 := own_max ho
   have HXl := hide ho.1
   have HOl := hide ho
   have HMl := hide hm
   have HX1 : Hid (∀ u ∈ xs, u.oneCell' = true) := hide (mw_one (ps := cuts V es k) (by rw [cuts_len]; exact hm) (by rw [cuts_len]; exact ho.1))
   have HRx := hide (Rd.of_own ho)
   have HEv := hide (Eds.next HE.out hbr.out)
   have hg2l : w.heap.size < v2.heap.size := by omega
   have MG2 := MG
   clear ho hm hM hbr hlt hq MG
   go_wp2
   go_loopw [9] (fun v9 wr => ∃ a : Nat, a ≤ k ∧ v9 = .int .i64 (a : Int) ∧ Hid (Below v2.heap.size v2 wr)) (fun v9 _ => k - (intOf v9).toNat)
   case atStart => exact ⟨0, by omega, rfl, hide (Below.refl _ _)⟩
   case round =>
    obtain ⟨a, ha, rfl, hba⟩ := hrel
    have sva : v2.heap.size ≤ wr.heap.size := hba.out.size
    by_cases hlta : a < k
    ·have hA1 : (a : Int) < (k : Int) := by omega
     have hA0 : (0 : Int) ≤ (a : Int) := by omega
     obtain ⟨wa, rfl⟩ : ∃ z : World, z = wr := ⟨_, rfl⟩
     go_wp2
     go_loopw [10] (fun v10 wr => ∃ n : Nat, n ≤ 7 ∧ v10 = .int .i64 (n : Int) ∧ Hid (Below v2.heap.size v2 wr)) (fun v10 _ => 7 - (intOf v10).toNat)
     case atStart => exact ⟨0, by omega, rfl, hba⟩
     case round =>
      clear hba
      obtain ⟨n, hn, rfl, hbr⟩ := hrel
      have svr : v2.heap.size ≤ wr.heap.size := hbr.out.size
      by_cases hltn : n < 7
      ·have hN1 : (n : Int) < 7 := by omega
       have hbe : Below wr.heap.size wr (wr.alloc (.cells #[] 34)) := (Below.refl _ _).alloc (Nat.le_refl _) _
       have HBe := hide (hbr.out.trans (hbe.mono svr))
       have HXl2 := HXl.out
       go_wp2_with (at_builtin; refine wpList_app rfl (.tmp 38) (.tmp 39) 47 rfl wr.heap.size 34 a1 (.agg #[.int .i64 0, .int .i64 0, .int .i64 0, .slice none 0 0, .slice none 0 0, .slice none 0 0]) 6 96 Try.underlying47 a1i a1z a1s a1b rfl (by decide) (.slice (some ⟨wr.heap.size, 0, none⟩) 0 0) 0 [] rfl (own_empty wr 34 6) v2.heap.size (some ⟨gl, 0, none⟩) k cm xs rfl HXl2 (HRx.out.keep fun p hp => HBe.out.cell hp) HX1.out (by unfold maxLen; omega) (by omega) (by simp) ?_)
       intro A' c' y own hg hat
       try rw [Nat.zero_add] at own
       try rw [List.nil_append] at own
       have hby := app_below (B := v2.heap.size) HBe.out (own_empty wr 34 6) hg (by simp; omega) svr
       have HBy := hide hby
       have syv : v2.heap.size ≤ y.heap.size := hby.size
       obtain ⟨g, rfl, hgb, hgl, hkc2⟩ := own_addr own (by omega)
       have hcm2 : c' ≤ 9223372036854775807 := own_max own
       have HOm := hide own
       obtain ⟨p, hp⟩ : ∃ p, (cuts V es k)[a]? = some p := ⟨_, List.getElem?_eq_getElem (by rw [cuts_len]; exact hlta)⟩
       have HPa := hide hp
       obtain ⟨cs, hcs, hpo, hcx⟩ := HMl.out a p hlta hp
       obtain ⟨Ao, Au, Ab, no, nu, nb, co, cu, cb, hu, hb, rfl, hlen, hro, hru, hrb, hbd⟩ := hpo
       have HLen := hide hlen
       have HRo := hide hro
       have HRu := hide hru
       have HRb := hide hrb
       have HBd := hide hbd
       have hcell : ∀ j v, ([.int .i64 p.wk, .int .i64 p.ws, .int .i64 p.vs, .slice Ao no co, .slice Au nu cu, .slice Ab nb cb] : List Value)[j]? = some v → y.cell? ⟨g, a * 6 + j, none⟩ = some v := fun j v hv => by
         have h1 := hcx j v hv
         have h2 := (List.getElem?_eq_some_iff.1 h1).1
         rw [own.cellAt (a * 6 + j) (by have := own.1; omega)]; exact h1
       have d0 : y.cell? ⟨g, a * 6, none⟩ = some (.int .i64 p.wk) := hcell 0 _ rfl
       have d1 : y.cell? ⟨g, a * 6 + 1, none⟩ = some (.int .i64 p.ws) := hcell 1 _ rfl
       have d2 : y.cell? ⟨g, a * 6 + 2, none⟩ = some (.int .i64 p.vs) := hcell 2 _ rfl
       have d3 : y.cell? ⟨g, a * 6 + 3, none⟩ = some (.slice Ao no co) := hcell 3 _ rfl
       have d4 : y.cell? ⟨g, a * 6 + 4, none⟩ = some (.slice Au nu cu) := hcell 4 _ rfl
       have d5 : y.cell? ⟨g, a * 6 + 5, none⟩ = some (.slice Ab nb cb) := hcell 5 _ rfl
       have HPIN : Hid (PIn v2 p Ao Au Ab) := hide ⟨Rd.of_own HRo.out, HRu.out.erows, HRb.out.erows⟩
       obtain ⟨ws, hws⟩ : ∃ x, y.alloc (.cells #[.int .i64 p.wk, .int .i64 p.ws, .int .i64 p.vs, .slice Ao no co, .slice Au nu cu, .slice Ab nb cb] 34) = x := ⟨_, rfl⟩
       have HT : Hid (ws.heap[y.heap.size]? = some (.cells #[.int .i64 p.wk, .int .i64 p.ws, .int .i64 p.vs, .slice Ao no co, .slice Au nu cu, .slice Ab nb cb] 34)) := hide (by rw [← hws]; exact heap_alloc_last _ _)
       have HYs : Hid (Below y.heap.size y ws) := hide (by rw [← hws]; exact (Below.refl _ _).alloc (Nat.le_refl _) _)
       have HBs : Hid (Below v2.heap.size v2 ws) := hide (HBy.out.trans (HYs.out.mono syv))
       have hzs : ws.heap.size = y.heap.size + 1 := by rw [← hws]; simp
       have HWS := hide hws
       obtain ⟨T, hT⟩ : ∃ T, y.heap.size = T := ⟨_, rfl⟩
       have HTe := hide hT
       clear hws own hg hat hby hbe hp hcs hcx hlen hro hru hrb hbd hcell
       have hgT : g < T := by omega
       have hTs : T < ws.heap.size := by omega
       have hvg : v2.heap.size ≤ g := by omega
       have hzs2 := hide hzs
       rw [hT] at HT
       have hyT : y.heap.size ≤ T := by omega
       clear hzs hT
       go_upto_region 15 with fail
       rw [HWS.out]
       rw [HTe.out]
       clear HWS d0 d1 d2 d3 d4 d5
       have c0 : ws.cell? ⟨T, 0, none⟩ = some (.int .i64 p.wk) := cell_of_row _ _ 0 _ _ _ HT.out
       have c1 : ws.cell? ⟨T, 1, none⟩ = some (.int .i64 p.ws) := cell_of_row _ _ 1 _ _ _ HT.out
       have c2 : ws.cell? ⟨T, 2, none⟩ = some (.int .i64 p.vs) := cell_of_row _ _ 2 _ _ _ HT.out
       have c3 : ws.cell? ⟨T, 3, none⟩ = some (.slice Ao no co) := cell_of_row _ _ 3 _ _ _ HT.out
       have c4 : ws.cell? ⟨T, 4, none⟩ = some (.slice Au nu cu) := cell_of_row _ _ 4 _ _ _ HT.out
       have c5 : ws.cell? ⟨T, 5, none⟩ = some (.slice Ab nb cb) := cell_of_row _ _ 5 _ _ _ HT.out
       have f0 : ws.frozen? ⟨T, 0, none⟩ = false := frozen_of_row _ _ 0 _ _ HT.out
       have f1 : ws.frozen? ⟨T, 1, none⟩ = false := frozen_of_row _ _ 1 _ _ HT.out
       have f2 : ws.frozen? ⟨T, 2, none⟩ = false := frozen_of_row _ _ 2 _ _ HT.out
       have f3 : ws.frozen? ⟨T, 3, none⟩ = false := frozen_of_row _ _ 3 _ _ HT.out
       have f4 : ws.frozen? ⟨T, 4, none⟩ = false := frozen_of_row _ _ 4 _ _ HT.out
       have f5 : ws.frozen? ⟨T, 5, none⟩ = false := frozen_of_row _ _ 5 _ _ HT.out
       have HVs : Hid (p.vs = V ∧ p.wk = (a : Int)) := hide (by have h9 := HPa.out; rw [cuts_get hlta, cut_is HCk.out hk hlta] at h9; injection h9 with h9; rw [← h9]; exact ⟨rfl, rfl⟩)
       go_upto_block 6 with fail
       go_cut [] (fun wc => Hid (PkMid y T g wc))
       case first =>
        rcases (show n = 0 ∨ n = 1 ∨ n = 2 ∨ n = 3 ∨ n = 4 ∨ n = 5 ∨ n = 6 by omega) with rfl | rfl | rfl | rfl | rfl | rfl | rfl
        ·have e0 : IntKind.i64.wrap (p.vs + 1) = p.vs + 1 := IntWalk.i64_in _ (by have := HVs.out.1; have := HVV.out; omega)
         have HFin : Hid (PkMid y T g (ws.setCell ⟨T, 2, none⟩ (.int .i64 (p.vs + 1)))) := hide (⟨#[.int .i64 p.wk, .int .i64 p.ws, .int .i64 (p.vs + 1), .slice Ao no co, .slice Au nu cu, .slice Ab nb cb], { p with vs := p.vs + 1 }, rfl, heap_setCell_same _ T 2 _ _ _ HT.out, fun w' hs => ⟨_, _, _, _, _, _, _, _, _, rfl, HLen.out, ⟨(HPIN.out.kept (Same1.kept hs (HBs.out.setCell (p := ⟨T, 2, none⟩) (by show v2.heap.size ≤ T; omega) (.int .i64 (p.vs + 1))) hvg) (Nat.le_trans ((HBs.out.setCell (p := ⟨T, 2, none⟩) (by show v2.heap.size ≤ T; omega) (.int .i64 (p.vs + 1)))).size hs.1)).own, (HPIN.out.kept (Same1.kept hs (HBs.out.setCell (p := ⟨T, 2, none⟩) (by show v2.heap.size ≤ T; omega) (.int .i64 (p.vs + 1))) hvg) (Nat.le_trans ((HBs.out.setCell (p := ⟨T, 2, none⟩) (by show v2.heap.size ≤ T; omega) (.int .i64 (p.vs + 1)))).size hs.1)).out, (HPIN.out.kept (Same1.kept hs (HBs.out.setCell (p := ⟨T, 2, none⟩) (by show v2.heap.size ≤ T; omega) (.int .i64 (p.vs + 1))) hvg) (Nat.le_trans ((HBs.out.setCell (p := ⟨T, 2, none⟩) (by show v2.heap.size ≤ T; omega) (.int .i64 (p.vs + 1)))).size hs.1)).back⟩, HBd.out⟩, (HYs.out.setCell (p := ⟨T, 2, none⟩) hyT (.int .i64 (p.vs + 1)))⟩)
         go_wp2
         go_meet
         case rel => exact HFin
        ·have hbe1 : Below ws.heap.size ws (ws.alloc (.cells #[] 3)) := (Below.refl _ _).alloc (Nat.le_refl _) _
         have HBe1 := hide hbe1
         have hbo := HBd.out.1
         have hno5 : no ≤ 512 := by have h9 := HPa.out; rw [cuts_get hlta, cut_is HCk.out hk hlta] at h9; injection h9 with h9; rw [← HLen.out.1, ← h9]; exact owned_le _ _ _
         have hle1 : (p.own.map (Value.int .i64)).length = no * 1 := by rw [List.length_map, HLen.out.1]; omega
         have HRow := hide ((Rd.of_own HRo.out).keep (fun q hq => ((HBs.out.trans (HBe1.out.mono (by omega))).cell hq : (ws.alloc (.cells #[] 3)).cell? q = v2.cell? q)))
         go_wp2_with (at_builtin; refine wpList_app rfl (.tmp 54) (.tmp 56) 24 rfl ws.heap.size 3 a2 (.int .i64 0) 1 8 Try.underlying24 a2i a2z a2s a2b rfl (by decide) (.slice (some ⟨ws.heap.size, 0, none⟩) 0 0) 0 [] rfl (own_empty ws 3 1) v2.heap.size Ao no co (p.own.map (Value.int .i64)) rfl hle1 HRow.out (by intro u hu; obtain ⟨z, _, rfl⟩ := List.mem_map.1 hu; rfl) (by unfold maxLen; omega) (by omega) (by simp) ?_)
         intro A1 e1 y1 own1 hg1 hat1
         try rw [Nat.zero_add] at own1
         try rw [List.nil_append] at own1
         have hb1 := app_below (B := ws.heap.size) HBe1.out (own_empty ws 3 1) hg1 (by simp) (Nat.le_refl _)
         have HB1 := hide hb1
         have HT1 : Hid (y1.heap[T]? = some (.cells #[.int .i64 p.wk, .int .i64 p.ws, .int .i64 p.vs, .slice Ao no co, .slice Au nu cu, .slice Ab nb cb] 34)) := hide ((hb1.block _ hTs).trans HT.out)
         have s1 : ws.heap.size ≤ y1.heap.size := hb1.size
         obtain ⟨y2, hy2⟩ : ∃ z, y1.setCell ⟨T, 3, none⟩ (.slice A1 no e1) = z := ⟨_, rfl⟩
         have HY2 := hide hy2
         have HT2 : Hid (y2.heap[T]? = some (.cells #[.int .i64 p.wk, .int .i64 p.ws, .int .i64 p.vs, .slice A1 no e1, .slice Au nu cu, .slice Ab nb cb] 34)) := hide (by rw [← hy2]; exact heap_setCell_same _ T 3 _ _ _ HT1.out)
         have HO2 : Hid (y2.ownsRow ws.heap.size 3 1 (.slice A1 no e1) no (p.own.map (Value.int .i64))) := hide (by rw [← hy2]; exact ownsRow_setCell_below own1 (a := ⟨T, 3, none⟩) hTs _)
         have HB2y : Hid (Below y.heap.size y y2) := hide (by rw [← hy2]; exact (HYs.out.trans (HB1.out.mono (by have := HYs.out.size; omega))).setCell (p := ⟨T, 3, none⟩) hyT _)
         have HB2v : Hid (Below v2.heap.size v2 y2) := hide (HBy.out.trans (HB2y.out.mono syv))
         have s2 : ws.heap.size ≤ y2.heap.size := by rw [← hy2]; simpa using s1
         have t3 : y1.cell? ⟨T, 3, none⟩ = some (.slice Ao no co) := cell_of_row _ _ 3 _ _ _ HT1.out
         have tf3 : y1.frozen? ⟨T, 3, none⟩ = false := frozen_of_row _ _ 3 _ _ HT1.out
         have hT1 : T < y1.heap.size := by omega
         clear hb1 hbe1 own1 hg1 hat1 hy2 HRow
         clear c0 f0 c1 f1 c2 f2 c3 f3 c4 f4 c5 f5
         go_upto_region 20 with fail
         rw [HY2.out]
         clear HY2 t3 tf3 hT1
         have hT2 : T < y2.heap.size := by omega
         have t3 : y2.cell? ⟨T, 3, none⟩ = some (.slice A1 no e1) := cell_of_row _ _ 3 _ _ _ HT2.out
         have hbe2 : Below y2.heap.size y2 (y2.alloc (.cells #[.int .i64 1] 3)) := (Below.refl _ _).alloc (Nat.le_refl _) _
         have HBe2 := hide hbe2
         go_wp2_with (at_builtin; refine wpList_app rfl (.tmp 60) (.tmp 61) 24 rfl ws.heap.size 3 a2 (.int .i64 0) 1 8 Try.underlying24 a2i a2z a2s a2b rfl (by decide) (.slice A1 no e1) no _ rfl (own_all HO2.out HBe2.out (Nat.le_refl _)) (y2.heap.size + 1) (some ⟨y2.heap.size, 0, none⟩) 1 1 [.int .i64 1] rfl rfl (Rd.new _ _ _ _) (by simp [Value.oneCell']) (by unfold maxLen; omega) (by omega) (by simp; omega) ?_)
         intro A2 e2 y3 own3 hg3 hat3
         have hb3 := app_below (B := ws.heap.size) ((Below.refl ws.heap.size y2).trans (HBe2.out.mono s2)) (own_all HO2.out HBe2.out (Nat.le_refl _)) hg3 (by simp; omega) (Nat.le_refl _)
         have HT3 : Hid (y3.heap[T]? = some (.cells #[.int .i64 p.wk, .int .i64 p.ws, .int .i64 p.vs, .slice A1 no e1, .slice Au nu cu, .slice Ab nb cb] 34)) := hide ((hb3.block _ hTs).trans HT2.out)
         have s3 : y2.heap.size ≤ y3.heap.size := hb3.size
         have t3 : y3.cell? ⟨T, 3, none⟩ = some (.slice A1 no e1) := cell_of_row _ _ 3 _ _ _ HT3.out
         have tf3 : y3.frozen? ⟨T, 3, none⟩ = false := frozen_of_row _ _ 3 _ _ HT3.out
         have hT3 : T < y3.heap.size := by omega
         have HO4 := hide (ownsRow_setCell_below own3 (a := ⟨T, 3, none⟩) hTs (.slice A2 (no + 1) e2))
         have HB4y := hide ((HB2y.out.trans (hb3.mono (by have := HYs.out.size; omega))).setCell (p := ⟨T, 3, none⟩) hyT (.slice A2 (no + 1) e2))
         have HB4v := hide (HBy.out.trans (HB4y.out.mono syv))
         clear hb3 hbe2 own3 hg3 hat3
         have HFin : Hid (PkMid y T g (y3.setCell ⟨T, 3, none⟩ (.slice A2 (no + 1) e2))) := hide (⟨#[.int .i64 p.wk, .int .i64 p.ws, .int .i64 p.vs, .slice A2 (no + 1) e2, .slice Au nu cu, .slice Ab nb cb], { p with own := p.own ++ [1] }, rfl, heap_setCell_same _ T 3 _ _ _ HT3.out, fun w' hs => ⟨_, _, _, _, _, _, _, _, _, rfl, ⟨by have := HLen.out.1; simp; omega, HLen.out.2.1, HLen.out.2.2⟩, ⟨by have h9 := Rd.of_own (hs.own HO4.out (by omega)); simpa using h9, (HPIN.out.kept (Same1.kept hs HB4v.out hvg) (Nat.le_trans (HB4v.out).size hs.1)).out, (HPIN.out.kept (Same1.kept hs HB4v.out hvg) (Nat.le_trans (HB4v.out).size hs.1)).back⟩, ⟨by omega, HBd.out.2.1, HBd.out.2.2⟩⟩, HB4y.out⟩)
         go_wp2
         go_meet
         case rel => exact HFin
        ·have HFin : Hid (PkMid y T g (ws.setCell ⟨T, 4, none⟩ (.slice none 0 0))) := hide (⟨#[.int .i64 p.wk, .int .i64 p.ws, .int .i64 p.vs, .slice Ao no co, .slice none 0 0, .slice Ab nb cb], { p with out := [] }, rfl, heap_setCell_same _ T 4 _ _ _ HT.out, fun w' hs => ⟨_, _, _, _, _, _, _, _, _, rfl, ⟨HLen.out.1, rfl, HLen.out.2.2⟩, ⟨(HPIN.out.kept (Same1.kept hs (HBs.out.setCell (p := ⟨T, 4, none⟩) (by show v2.heap.size ≤ T; omega) (.slice none 0 0)) hvg) (Nat.le_trans ((HBs.out.setCell (p := ⟨T, 4, none⟩) (by show v2.heap.size ≤ T; omega) (.slice none 0 0))).size hs.1)).own, Els.nil_, (HPIN.out.kept (Same1.kept hs (HBs.out.setCell (p := ⟨T, 4, none⟩) (by show v2.heap.size ≤ T; omega) (.slice none 0 0)) hvg) (Nat.le_trans ((HBs.out.setCell (p := ⟨T, 4, none⟩) (by show v2.heap.size ≤ T; omega) (.slice none 0 0))).size hs.1)).back⟩, ⟨HBd.out.1, by omega, HBd.out.2.2⟩⟩, (HYs.out.setCell (p := ⟨T, 4, none⟩) hyT (.slice none 0 0))⟩)
         go_wp2
         go_meet
         case rel => exact HFin
        ·have hbe1 : Below ws.heap.size ws (ws.alloc (.cells #[] 28)) := (Below.refl _ _).alloc (Nat.le_refl _) _
         have HBe1 := hide hbe1
         have hnb5 : nb ≤ 512 := by have h9 := HPa.out; rw [cuts_get hlta, cut_is HCk.out hk hlta] at h9; injection h9 with h9; rw [← HLen.out.2.2, ← h9]; dsimp only; rw [List.length_map]; exact owned_le _ _ _
         have hrl : p.back.length = nb := HLen.out.2.2
         have hho : v2.ownsRow u.heap.size 28 1 (.slice Ab nb cb) nb hb := by have h9 := HRb.out.own; rw [hrl] at h9; exact h9
         have hhl : hb.length = nb * 1 := hho.1
         have hho1 : ∀ u ∈ hb, u.oneCell' = true := by
           intro u hu
           obtain ⟨i, hi⟩ := List.getElem?_of_mem hu
           have hl := (List.getElem?_eq_some_iff.1 hi).1
           obtain ⟨⟨A9, c9, rfl⟩, _⟩ := HRb.out.row i u _ hi (List.getElem?_eq_getElem (by omega))
           rfl
         have HRow := hide ((Rd.of_own hho).keep (fun q hq => ((HBs.out.trans (HBe1.out.mono (by omega))).cell hq : (ws.alloc (.cells #[] 28)).cell? q = v2.cell? q)))
         have HH1 := hide hho1
         clear hho1 hho hrl
         go_wp2_with (at_builtin; first | (refine wpList_app rfl (.tmp 69) (.tmp 71) 32 rfl ws.heap.size 28 a3 (.slice none 0 0) 1 24 Try.underlying32 a3i a3z a3s a3b rfl (by decide) (.slice (some ⟨ws.heap.size, 0, none⟩) 0 0) 0 [] rfl (own_empty ws 28 1) v2.heap.size Ab nb cb hb rfl hhl HRow.out HH1.out (by unfold maxLen; omega) (by omega) (by simp) ?_) | fail)
         intro A1 e1 y1 own1 hg1 hat1
         try rw [Nat.zero_add] at own1
         try rw [List.nil_append] at own1
         have hb1 := app_below (B := ws.heap.size) HBe1.out (own_empty ws 28 1) hg1 (by simp) (Nat.le_refl _)
         have HB1 := hide hb1
         have s1 : ws.heap.size ≤ y1.heap.size := hb1.size
         have HO1 := hide own1
         have hbe2 : Below y1.heap.size y1 (y1.alloc (.cells #[.slice none 0 0] 28)) := (Below.refl _ _).alloc (Nat.le_refl _) _
         have HBe2 := hide hbe2
         clear own1 hg1 hat1 hb1 hbe1 hbe2 HRow
         go_wp2_with (at_builtin; refine wpList_app rfl (.tmp 72) (.tmp 73) 32 rfl ws.heap.size 28 a3 (.slice none 0 0) 1 24 Try.underlying32 a3i a3z a3s a3b rfl (by decide) (.slice A1 nb e1) nb _ rfl (own_all HO1.out HBe2.out (Nat.le_refl _)) (y1.heap.size + 1) (some ⟨y1.heap.size, 0, none⟩) 1 1 [.slice none 0 0] rfl rfl (Rd.new _ _ _ _) (by simp [Value.oneCell']) (by unfold maxLen; omega) (by omega) (by simp; omega) ?_)
         intro A2 e2 y3 own3 hg3 hat3
         have hb3 := app_below (B := ws.heap.size) (HB1.out.trans (HBe2.out.mono s1)) (own_all HO1.out HBe2.out (Nat.le_refl _)) hg3 (by simp; omega) (Nat.le_refl _)
         have HT3 : Hid (y3.heap[T]? = some (.cells #[.int .i64 p.wk, .int .i64 p.ws, .int .i64 p.vs, .slice Ao no co, .slice Au nu cu, .slice Ab nb cb] 34)) := hide ((hb3.block _ hTs).trans HT.out)
         have s3 : ws.heap.size ≤ y3.heap.size := hb3.size
         have t5 : y3.cell? ⟨T, 5, none⟩ = some (.slice Ab nb cb) := cell_of_row _ _ 5 _ _ _ HT3.out
         have tf5 : y3.frozen? ⟨T, 5, none⟩ = false := frozen_of_row _ _ 5 _ _ HT3.out
         have hT3 : T < y3.heap.size := by omega
         have HO4 := hide (ownsRow_setCell_below own3 (a := ⟨T, 5, none⟩) hTs (.slice A2 (nb + 1) e2))
         have HB4y := hide ((HYs.out.trans (hb3.mono (by have := HYs.out.size; omega))).setCell (p := ⟨T, 5, none⟩) hyT (.slice A2 (nb + 1) e2))
         have HB4v := hide (HBy.out.trans (HB4y.out.mono syv))
         clear hb3 own3 hg3 hat3
         clear c0 f0 c1 f1 c2 f2 c3 f3 c4 f4 c5 f5
         have HFin : Hid (PkMid y T g (y3.setCell ⟨T, 5, none⟩ (.slice A2 (nb + 1) e2))) := hide (⟨#[.int .i64 p.wk, .int .i64 p.ws, .int .i64 p.vs, .slice Ao no co, .slice Au nu cu, .slice A2 (nb + 1) e2], { p with back := p.back ++ [[]] }, rfl, heap_setCell_same _ T 5 _ _ _ HT3.out, fun w' hs => ⟨_, _, _, _, _, _, _, _, _, rfl, ⟨HLen.out.1, HLen.out.2.1, by have := HLen.out.2.2; simp; omega⟩, ⟨(HPIN.out.kept (Same1.kept hs HB4v.out hvg) (Nat.le_trans (HB4v.out).size hs.1)).own, (HPIN.out.kept (Same1.kept hs HB4v.out hvg) (Nat.le_trans (HB4v.out).size hs.1)).out, rows_more HRb.out HLen.out.2.2 [] (.slice none 0 0) ⟨none, 0, rfl, by simp, by omega, Els.nil_⟩ (Same1.kept hs HB4v.out hvg) (Nat.le_trans HB4v.out.size hs.1) (hs.own HO4.out (by omega))⟩, ⟨HBd.out.1, HBd.out.2.1, by omega⟩⟩, HB4y.out⟩)
         go_wp2
         go_meet
         case rel => exact HFin
        ·have e0 : IntKind.i64.wrap (p.wk + 1) = p.wk + 1 := IntWalk.i64_in _ (by have := HVs.out.2; omega)
         have hk0 : ((k : Int) == 0) = false := by simp; omega
         have hkne : (k : Int) ≠ 0 := by omega
         obtain ⟨zz, hzz⟩ : ∃ z, Int.tmod (p.wk + 1) (k : Int) = z := ⟨_, rfl⟩
         have e1 : IntKind.i64.wrap zz = zz := by rw [← hzz, Int.tmod_eq_emod_of_nonneg (by have := HVs.out.2; omega)]; exact IntWalk.i64_in _ (by have := Int.emod_nonneg (p.wk + 1) hkne; have := Int.emod_lt_of_pos (p.wk + 1) (show (0 : Int) < (k : Int) by omega); omega)
         have HFin : Hid (PkMid y T g (ws.setCell ⟨T, 0, none⟩ (.int .i64 zz))) := hide (⟨#[.int .i64 zz, .int .i64 p.ws, .int .i64 p.vs, .slice Ao no co, .slice Au nu cu, .slice Ab nb cb], { p with wk := zz }, rfl, heap_setCell_same _ T 0 _ _ _ HT.out, fun w' hs => ⟨_, _, _, _, _, _, _, _, _, rfl, HLen.out, ⟨(HPIN.out.kept (Same1.kept hs (HBs.out.setCell (p := ⟨T, 0, none⟩) (by show v2.heap.size ≤ T; omega) (.int .i64 zz)) hvg) (Nat.le_trans ((HBs.out.setCell (p := ⟨T, 0, none⟩) (by show v2.heap.size ≤ T; omega) (.int .i64 zz))).size hs.1)).own, (HPIN.out.kept (Same1.kept hs (HBs.out.setCell (p := ⟨T, 0, none⟩) (by show v2.heap.size ≤ T; omega) (.int .i64 zz)) hvg) (Nat.le_trans ((HBs.out.setCell (p := ⟨T, 0, none⟩) (by show v2.heap.size ≤ T; omega) (.int .i64 zz))).size hs.1)).out, (HPIN.out.kept (Same1.kept hs (HBs.out.setCell (p := ⟨T, 0, none⟩) (by show v2.heap.size ≤ T; omega) (.int .i64 zz)) hvg) (Nat.le_trans ((HBs.out.setCell (p := ⟨T, 0, none⟩) (by show v2.heap.size ≤ T; omega) (.int .i64 zz))).size hs.1)).back⟩, HBd.out⟩, (HYs.out.setCell (p := ⟨T, 0, none⟩) hyT (.int .i64 zz))⟩)
         go_wp2
         go_meet
         case rel => exact HFin
        ·have hnu5 : nu ≤ 512 := by have h9 := HPa.out; rw [cuts_get hlta, cut_is HCk.out hk hlta] at h9; injection h9 with h9; rw [← HLen.out.2.1, ← h9]; dsimp only; rw [List.length_map]; exact owned_le _ _ _
         have hrl : p.out.length = nu := HLen.out.2.1
         have hho : v2.ownsRow u.heap.size 28 1 (.slice Au nu cu) nu hu := by have h9 := HRu.out.own; rw [hrl] at h9; exact h9
         have HHl := hide hho.1
         have hho1 : ∀ u ∈ hu, u.oneCell' = true := by
           intro u hu9
           obtain ⟨i, hi⟩ := List.getElem?_of_mem hu9
           have hl := (List.getElem?_eq_some_iff.1 hi).1
           have hl2 := hho.1
           obtain ⟨⟨A9, c9, rfl⟩, _⟩ := HRu.out.row i u _ hi (List.getElem?_eq_getElem (by omega))
           rfl
         have HRow := hide ((Rd.of_own hho).keep (fun q hq => (HBs.out.cell hq : ws.cell? q = v2.cell? q)))
         have HH1 := hide hho1
         clear hho1 hho hrl
         have hsw : v2.heap.size ≤ ws.heap.size := HBs.out.size
         have hgG : w.heap.size < ws.heap.size := by omega
         have gg1 : ws.cell? ⟨w.heap.size, 1, none⟩ = some (.slice A L c) := (HBs.out.cell (p := ⟨w.heap.size, 1, none⟩) hg2l).trans (cell_of_row _ _ 1 _ _ _ MG2.out)
         have HBm0 : Hid (Below ws.heap.size ws ws.drew) := hide (Below.refl ws.heap.size ws).drew
         go_upto_region 28 with fail
         refine wpL_region (S := Kept ws) [7, 9] (by kernel_rfl) (Kept.drew ws) (fun hS0 => ?_)
         refine tw 1 87 ?_ ?_ ?_; rotate_left; (focus (intro w; go_simp; (try with_reducible rfl); done)); (try simp only [xd, xe, xf])
         refine takeU_at [2, 3, 7, 8, 9] (i := 2) (d := 88) (v := ?_) (by simp only [xa, xb, xc]; rfl) rfl (by kernel_rfl) (by kernel_rfl) (by kernel_rfl) (by kernel_rfl) (by kernel_rfl) (by kernel_rfl) (fun _ _ _ h => h) rfl ?_ (by assumption) ?_
         rotate_left
         focus (intro w hSw; go_simp; (try with_reducible rfl); done)
         try simp only [xd, xe, xf]
         refine tw 4 90 ?_ ?_ ?_; rotate_left; (focus (intro w; go_simp; (try with_reducible rfl); done)); (try simp only [xd, xe, xf])
         refine takeU_at [5, 6, 7, 8, 9] (i := 5) (d := 91) (v := ?_) (by simp only [xa, xb, xc]; rfl) rfl (by kernel_rfl) (by kernel_rfl) (by kernel_rfl) (by kernel_rfl) (by kernel_rfl) (by kernel_rfl) (fun _ _ _ h => h) rfl ?_ (by assumption) ?_
         rotate_left
         focus (intro w hSw; go_simp; (try with_reducible rfl); done)
         try simp only [xd, xe, xf]
         refine call2L_at (i := 0) (j := 6) (by simp only [xa, xb, xc]; rfl) (by simp only [xa, xb, xc]; rfl) (by kernel_rfl) rfl rfl (fun K hK => ?_) (fun K hK => ?_)
         ·go_simp
          obtain ⟨m1, hm1⟩ : ∃ z, (ws.alloc (.cells #[] 28)).drew = z := ⟨_, rfl⟩
          have HBm1 : Hid (Below ws.heap.size ws m1) := hide (by rw [← hm1]; exact ((Below.refl ws.heap.size ws).alloc (Nat.le_refl _) _).drew)
          obtain ⟨E86, hE86⟩ : ∃ n, ws.heap.size = n := ⟨_, rfl⟩
          have HE86 := hide hE86
          have HO86 : Hid (m1.ownsRow ws.heap.size 28 1 (.slice (some ⟨E86, 0, none⟩) 0 0) 0 []) := hide (by rw [← HE86.out]; exact own_base (by rw [← hm1]; exact (own_empty ws 28 1).drew) (by first | exact Nat.le_refl _ | exact HBm0.out.size))
          rw [hE86]
          clear hE86
          have hS1 : Kept ws m1 := Kept.of_below HBm1.out
          have HM1 := hide hm1
          rw [hm1]
          clear hm1
          refine hK.out _ _ hS1 (fun hSn => ?_)
          clear hK K
          try simp only [xd, xe, xf]
          refine call2L_at (i := 3) (j := 6) (by simp only [xa, xb, xc]; rfl) (by simp only [xa, xb, xc]; rfl) (by kernel_rfl) rfl rfl (fun K hK => ?_) (fun K hK => ?_)
          ·refine op_app (.tmp 86) (.tmp 88) 32 rfl ws.heap.size 28 a3 (.slice none 0 0) 1 24 Try.underlying32 a3i a3z a3s a3b rfl (by decide) (.slice (some ⟨E86, 0, none⟩) 0 0) 0 [] rfl HO86.out v2.heap.size Au nu cu hu rfl HHl.out (HRow.out.keep fun q hq => hS1 q (by omega)) HH1.out (by unfold maxLen; omega) (by omega) HBm1.out.size ?_
           intro A1 e1 m2 own1 hg1 hat1
           try rw [Nat.zero_add] at own1
           try rw [List.nil_append] at own1
           have HO89 := hide own1
           have HBm2 : Hid (Below ws.heap.size ws m2) := hide (app_below HBm1.out HO86.out hg1 HBm1.out.size (Nat.le_refl _))
           have hS2 : Kept ws m2 := Kept.of_below HBm2.out
           clear own1 hg1 hat1
           try simp only [Nat.zero_add]
           refine hK.out _ _ hS2 (fun hSn => ?_)
           clear hK K
           simp only [Act.put]
           try simp only [xd, xe, xf]
           refine callL_at (i := 6) (d := 92) (by simp only [xa, xb, xc]; rfl) rfl (by kernel_rfl) rfl (fun K hK => ?_)
           go_simp
           obtain ⟨m3, hm3⟩ : ∃ z, m2.alloc (.cells #[.slice A L c] 28) = z := ⟨_, rfl⟩
           have HBm3 : Hid (Below ws.heap.size ws m3) := hide (by rw [← hm3]; exact HBm2.out.alloc HBm2.out.size _)
           have H92 : Hid (m3.heap[m2.heap.size]? = some (.cells #[.slice A L c] 28)) := hide (by rw [← hm3]; exact heap_alloc_last m2 _)
           obtain ⟨E92, hE92x⟩ : ∃ n, m2.heap.size = n := ⟨_, rfl⟩
           have HE92 := hide hE92x
           rw [hE92x] at H92
           rw [hE92x]
           clear hE92x
           have hE92 : E92 < m3.heap.size := (Array.getElem?_eq_some_iff.1 H92.out).1
           have HO89 : Hid (m3.ownsRow ws.heap.size 28 1 (.slice A1 nu e1) nu hu) := hide (by rw [← hm3]; exact own_all HO89.out ((Below.refl _ _).alloc (Nat.le_refl _) _) (Nat.le_refl _))
           have hS3 : Kept ws m3 := Kept.of_below HBm3.out
           have HM3 := hide hm3
           rw [hm3]
           clear hm3
           refine hK.out _ _ hS3 (fun hSn => ?_)
           clear hK K
           try simp only [xd, xe, xf]
           refine exL_at (i := 7) (by simp only [xa, xb, xc]; rfl) (by kernel_rfl) rfl (by kernel_rfl) (fun K hK => ?_)
           refine op_app (.tmp 89) (.tmp 92) 32 rfl ws.heap.size 28 a3 (.slice none 0 0) 1 24 Try.underlying32 a3i a3z a3s a3b rfl (by decide) (.slice A1 nu e1) nu _ (by first | rfl | simp) HO89.out m3.heap.size (some ⟨E92, 0, none⟩) 1 1 [.slice A L c] (by first | rfl | simp) rfl (rd_one H92.out) (by simp [Value.oneCell']) (by unfold maxLen; omega) (by omega) HBm3.out.size ?_
           intro A2 e2 y3 own3 hg3 hat3
           have hb3 := app_below HBm3.out HO89.out hg3 HBm3.out.size (Nat.le_refl _)
           have HT3 : Hid (y3.heap[T]? = some (.cells #[.int .i64 p.wk, .int .i64 p.ws, .int .i64 p.vs, .slice Ao no co, .slice Au nu cu, .slice Ab nb cb] 34)) := hide ((hb3.block _ hTs).trans HT.out)
           have s3 : ws.heap.size ≤ y3.heap.size := hb3.size
           have t4 : y3.cell? ⟨T, 4, none⟩ = some (.slice Au nu cu) := cell_of_row _ _ 4 _ _ _ HT3.out
           have tf4 : y3.frozen? ⟨T, 4, none⟩ = false := frozen_of_row _ _ 4 _ _ HT3.out
           have hT3 : T < y3.heap.size := by omega
           have HO4 := hide (ownsRow_setCell_below own3 (a := ⟨T, 4, none⟩) hTs (.slice A2 (nu + 1) e2))
           have HB4y := hide ((HYs.out.trans (hb3.mono (by have := HYs.out.size; omega))).setCell (p := ⟨T, 4, none⟩) hyT (.slice A2 (nu + 1) e2))
           have HB4v := hide (HBy.out.trans (HB4y.out.mono syv))
           clear hb3 own3 hg3 hat3
           refine hK.out _ _ ?_
           clear hK K
           simp only [Act.put]
           try simp only [xd, xe, xf]
           refine tw 8 94 ?_ ?_ ?_; rotate_left; (focus (intro w; go_simp; (try with_reducible rfl); done)); (try simp only [xd, xe, xf])
           refine exL_at (i := 9) (by simp only [xa, xb, xc]; rfl) (by kernel_rfl) rfl (by kernel_rfl) (fun K hK => ?_)
           go_wp2_with fail
           refine hK.out _ _ ?_
           clear hK K
           try simp only [xd, xe, xf]
           refine wpAnyL_done (by kernel_rfl) ?_ _
           clear t4 tf4 hT3
           skip
           have HFin : Hid (PkMid y T g (y3.setCell ⟨T, 4, none⟩ (.slice A2 (nu + 1) e2))) := hide (⟨#[.int .i64 p.wk, .int .i64 p.ws, .int .i64 p.vs, .slice Ao no co, .slice A2 (nu + 1) e2, .slice Ab nb cb], { p with out := p.out ++ [es] }, rfl, heap_setCell_same _ T 4 _ _ _ HT3.out, fun w' hs => ⟨_, _, _, _, _, _, _, _, _, rfl, ⟨HLen.out.1, by have := HLen.out.2.1; simp; omega, HLen.out.2.2⟩, ⟨(HPIN.out.kept (Same1.kept hs HB4v.out hvg) (Nat.le_trans (HB4v.out).size hs.1)).own, rows_more HRu.out HLen.out.2.1 es (.slice A L c) ⟨A, c, by rw [HL.out], by rw [HL.out]; exact hc, hc2, Eds.kept' HEv.out (Nat.le_refl _) (Same1.kept hs HB4v.out hvg) |> fun h => Els.more h (Nat.le_trans HB4v.out.size hs.1)⟩ (Same1.kept hs HB4v.out hvg) (Nat.le_trans HB4v.out.size hs.1) (hs.own HO4.out (by omega)), (HPIN.out.kept (Same1.kept hs HB4v.out hvg) (Nat.le_trans (HB4v.out).size hs.1)).back⟩, ⟨HBd.out.1, by omega, HBd.out.2.2⟩⟩, HB4y.out⟩)
           go_wp2
           go_meet
           case rel => exact HFin
          ·go_simp
           obtain ⟨m2, hm2⟩ : ∃ z, m1.alloc (.cells #[.slice A L c] 28) = z := ⟨_, rfl⟩
           have HBm2 : Hid (Below ws.heap.size ws m2) := hide (by rw [← hm2]; exact HBm1.out.alloc HBm1.out.size _)
           have H92 : Hid (m2.heap[m1.heap.size]? = some (.cells #[.slice A L c] 28)) := hide (by rw [← hm2]; exact heap_alloc_last m1 _)
           obtain ⟨E92, hE92x⟩ : ∃ n, m1.heap.size = n := ⟨_, rfl⟩
           have HE92 := hide hE92x
           rw [hE92x] at H92
           rw [hE92x]
           clear hE92x
           have hE92 : E92 < m2.heap.size := (Array.getElem?_eq_some_iff.1 H92.out).1
           have hE86l := (HO86.out.lt E86 rfl).2
           have hne : E86 ≠ E92 := by have := HE92.out; omega
           have HO86 : Hid (m2.ownsRow ws.heap.size 28 1 (.slice (some ⟨E86, 0, none⟩) 0 0) 0 []) := hide (by rw [← hm2]; exact own_all HO86.out ((Below.refl _ _).alloc (Nat.le_refl _) _) (Nat.le_refl _))
           have hS2 : Kept ws m2 := Kept.of_below HBm2.out
           have HM2 := hide hm2
           rw [hm2]
           clear hm2
           refine hK.out _ _ hS2 (fun hSn => ?_)
           clear hK K
           try simp only [xd, xe, xf]
           refine callL_at (i := 3) (d := 89) (by simp only [xa, xb, xc]; rfl) rfl (by kernel_rfl) rfl (fun K hK => ?_)
           refine op_app (.tmp 86) (.tmp 88) 32 rfl ws.heap.size 28 a3 (.slice none 0 0) 1 24 Try.underlying32 a3i a3z a3s a3b rfl (by decide) (.slice (some ⟨E86, 0, none⟩) 0 0) 0 [] rfl HO86.out v2.heap.size Au nu cu hu rfl HHl.out (HRow.out.keep fun q hq => hS2 q (by omega)) HH1.out (by unfold maxLen; omega) (by omega) HBm2.out.size ?_
           intro A1 e1 m3 own1 hg1 hat1
           try rw [Nat.zero_add] at own1
           try rw [List.nil_append] at own1
           have HO89 := hide own1
           have HBm3 : Hid (Below ws.heap.size ws m3) := hide (app_below HBm2.out HO86.out hg1 HBm2.out.size (Nat.le_refl _))
           have H92 : Hid (m3.heap[E92]? = some (.cells #[.slice A L c] 28)) := hide (by rw [hg1.block E92 hE92 (fun e => hne (by injection e with e; exact e.symm))]; exact H92.out)
           have hE92 : E92 < m3.heap.size := (Array.getElem?_eq_some_iff.1 H92.out).1
           have hS3 : Kept ws m3 := Kept.of_below HBm3.out
           clear own1 hg1 hat1
           try simp only [Nat.zero_add]
           refine hK.out _ _ hS3 (fun hSn => ?_)
           clear hK K
           simp only [Act.put]
           try simp only [xd, xe, xf]
           refine exL_at (i := 7) (by simp only [xa, xb, xc]; rfl) (by kernel_rfl) rfl (by kernel_rfl) (fun K hK => ?_)
           refine op_app (.tmp 89) (.tmp 92) 32 rfl ws.heap.size 28 a3 (.slice none 0 0) 1 24 Try.underlying32 a3i a3z a3s a3b rfl (by decide) (.slice A1 nu e1) nu _ (by first | rfl | simp) HO89.out m3.heap.size (some ⟨E92, 0, none⟩) 1 1 [.slice A L c] (by first | rfl | simp) rfl (rd_one H92.out) (by simp [Value.oneCell']) (by unfold maxLen; omega) (by omega) HBm3.out.size ?_
           intro A2 e2 y3 own3 hg3 hat3
           have hb3 := app_below HBm3.out HO89.out hg3 HBm3.out.size (Nat.le_refl _)
           have HT3 : Hid (y3.heap[T]? = some (.cells #[.int .i64 p.wk, .int .i64 p.ws, .int .i64 p.vs, .slice Ao no co, .slice Au nu cu, .slice Ab nb cb] 34)) := hide ((hb3.block _ hTs).trans HT.out)
           have s3 : ws.heap.size ≤ y3.heap.size := hb3.size
           have t4 : y3.cell? ⟨T, 4, none⟩ = some (.slice Au nu cu) := cell_of_row _ _ 4 _ _ _ HT3.out
           have tf4 : y3.frozen? ⟨T, 4, none⟩ = false := frozen_of_row _ _ 4 _ _ HT3.out
           have hT3 : T < y3.heap.size := by omega
           have HO4 := hide (ownsRow_setCell_below own3 (a := ⟨T, 4, none⟩) hTs (.slice A2 (nu + 1) e2))
           have HB4y := hide ((HYs.out.trans (hb3.mono (by have := HYs.out.size; omega))).setCell (p := ⟨T, 4, none⟩) hyT (.slice A2 (nu + 1) e2))
           have HB4v := hide (HBy.out.trans (HB4y.out.mono syv))
           clear hb3 own3 hg3 hat3
           refine hK.out _ _ ?_
           clear hK K
           simp only [Act.put]
           try simp only [xd, xe, xf]
           refine tw 8 94 ?_ ?_ ?_; rotate_left; (focus (intro w; go_simp; (try with_reducible rfl); done)); (try simp only [xd, xe, xf])
           refine exL_at (i := 9) (by simp only [xa, xb, xc]; rfl) (by kernel_rfl) rfl (by kernel_rfl) (fun K hK => ?_)
           go_wp2_with fail
           refine hK.out _ _ ?_
           clear hK K
           try simp only [xd, xe, xf]
           refine wpAnyL_done (by kernel_rfl) ?_ _
           clear t4 tf4 hT3
           skip
           have HFin : Hid (PkMid y T g (y3.setCell ⟨T, 4, none⟩ (.slice A2 (nu + 1) e2))) := hide (⟨#[.int .i64 p.wk, .int .i64 p.ws, .int .i64 p.vs, .slice Ao no co, .slice A2 (nu + 1) e2, .slice Ab nb cb], { p with out := p.out ++ [es] }, rfl, heap_setCell_same _ T 4 _ _ _ HT3.out, fun w' hs => ⟨_, _, _, _, _, _, _, _, _, rfl, ⟨HLen.out.1, by have := HLen.out.2.1; simp; omega, HLen.out.2.2⟩, ⟨(HPIN.out.kept (Same1.kept hs HB4v.out hvg) (Nat.le_trans (HB4v.out).size hs.1)).own, rows_more HRu.out HLen.out.2.1 es (.slice A L c) ⟨A, c, by rw [HL.out], by rw [HL.out]; exact hc, hc2, Eds.kept' HEv.out (Nat.le_refl _) (Same1.kept hs HB4v.out hvg) |> fun h => Els.more h (Nat.le_trans HB4v.out.size hs.1)⟩ (Same1.kept hs HB4v.out hvg) (Nat.le_trans HB4v.out.size hs.1) (hs.own HO4.out (by omega)), (HPIN.out.kept (Same1.kept hs HB4v.out hvg) (Nat.le_trans (HB4v.out).size hs.1)).back⟩, ⟨HBd.out.1, by omega, HBd.out.2.2⟩⟩, HB4y.out⟩)
           go_wp2
           go_meet
           case rel => exact HFin
         ·go_simp
          obtain ⟨m1, hm1⟩ : ∃ z, (ws.alloc (.cells #[.slice A L c] 28)).drew = z := ⟨_, rfl⟩
          have HBm1 : Hid (Below ws.heap.size ws m1) := hide (by rw [← hm1]; exact ((Below.refl ws.heap.size ws).alloc (Nat.le_refl _) _).drew)
          have H92 : Hid (m1.heap[ws.heap.size]? = some (.cells #[.slice A L c] 28)) := hide (by rw [← hm1]; exact heap_alloc_last ws _)
          obtain ⟨E92, hE92x⟩ : ∃ n, ws.heap.size = n := ⟨_, rfl⟩
          have HE92 := hide hE92x
          rw [hE92x] at H92
          rw [hE92x]
          clear hE92x
          have hE92 : E92 < m1.heap.size := (Array.getElem?_eq_some_iff.1 H92.out).1
          have hS1 : Kept ws m1 := Kept.of_below HBm1.out
          have HM1 := hide hm1
          rw [hm1]
          clear hm1
          refine hK.out _ _ hS1 (fun hSn => ?_)
          clear hK K
          try simp only [xd, xe, xf]
          refine callL_at (i := 0) (d := 86) (by simp only [xa, xb, xc]; rfl) rfl (by kernel_rfl) rfl (fun K hK => ?_)
          go_simp
          obtain ⟨m2, hm2⟩ : ∃ z, m1.alloc (.cells #[] 28) = z := ⟨_, rfl⟩
          have HBm2 : Hid (Below ws.heap.size ws m2) := hide (by rw [← hm2]; exact HBm1.out.alloc HBm1.out.size _)
          obtain ⟨E86, hE86⟩ : ∃ n, m1.heap.size = n := ⟨_, rfl⟩
          have HE86 := hide hE86
          have HO86 : Hid (m2.ownsRow ws.heap.size 28 1 (.slice (some ⟨E86, 0, none⟩) 0 0) 0 []) := hide (by rw [← HE86.out]; exact own_base (by rw [← hm2]; exact (own_empty m1 28 1)) (by first | exact Nat.le_refl _ | exact HBm1.out.size))
          rw [hE86]
          clear hE86
          have H92 : Hid (m2.heap[E92]? = some (.cells #[.slice A L c] 28)) := hide (by rw [← hm2]; exact (Below.heap_alloc _ _ _ hE92).trans H92.out)
          have hne : E86 ≠ E92 := by have := HE86.out; omega
          have hE92 : E92 < m2.heap.size := (Array.getElem?_eq_some_iff.1 H92.out).1
          have hS2 : Kept ws m2 := Kept.of_below HBm2.out
          have HM2 := hide hm2
          rw [hm2]
          clear hm2
          refine hK.out _ _ hS2 (fun hSn => ?_)
          clear hK K
          try simp only [xd, xe, xf]
          refine callL_at (i := 3) (d := 89) (by simp only [xa, xb, xc]; rfl) rfl (by kernel_rfl) rfl (fun K hK => ?_)
          refine op_app (.tmp 86) (.tmp 88) 32 rfl ws.heap.size 28 a3 (.slice none 0 0) 1 24 Try.underlying32 a3i a3z a3s a3b rfl (by decide) (.slice (some ⟨E86, 0, none⟩) 0 0) 0 [] rfl HO86.out v2.heap.size Au nu cu hu rfl HHl.out (HRow.out.keep fun q hq => hS2 q (by omega)) HH1.out (by unfold maxLen; omega) (by omega) HBm2.out.size ?_
          intro A1 e1 m3 own1 hg1 hat1
          try rw [Nat.zero_add] at own1
          try rw [List.nil_append] at own1
          have HO89 := hide own1
          have HBm3 : Hid (Below ws.heap.size ws m3) := hide (app_below HBm2.out HO86.out hg1 HBm2.out.size (Nat.le_refl _))
          have H92 : Hid (m3.heap[E92]? = some (.cells #[.slice A L c] 28)) := hide (by rw [hg1.block E92 hE92 (fun e => hne (by injection e with e; exact e.symm))]; exact H92.out)
          have hE92 : E92 < m3.heap.size := (Array.getElem?_eq_some_iff.1 H92.out).1
          have hS3 : Kept ws m3 := Kept.of_below HBm3.out
          clear own1 hg1 hat1
          try simp only [Nat.zero_add]
          refine hK.out _ _ hS3 (fun hSn => ?_)
          clear hK K
          simp only [Act.put]
          try simp only [xd, xe, xf]
          refine exL_at (i := 7) (by simp only [xa, xb, xc]; rfl) (by kernel_rfl) rfl (by kernel_rfl) (fun K hK => ?_)
          refine op_app (.tmp 89) (.tmp 92) 32 rfl ws.heap.size 28 a3 (.slice none 0 0) 1 24 Try.underlying32 a3i a3z a3s a3b rfl (by decide) (.slice A1 nu e1) nu _ (by first | rfl | simp) HO89.out m3.heap.size (some ⟨E92, 0, none⟩) 1 1 [.slice A L c] (by first | rfl | simp) rfl (rd_one H92.out) (by simp [Value.oneCell']) (by unfold maxLen; omega) (by omega) HBm3.out.size ?_
          intro A2 e2 y3 own3 hg3 hat3
          have hb3 := app_below HBm3.out HO89.out hg3 HBm3.out.size (Nat.le_refl _)
          have HT3 : Hid (y3.heap[T]? = some (.cells #[.int .i64 p.wk, .int .i64 p.ws, .int .i64 p.vs, .slice Ao no co, .slice Au nu cu, .slice Ab nb cb] 34)) := hide ((hb3.block _ hTs).trans HT.out)
          have s3 : ws.heap.size ≤ y3.heap.size := hb3.size
          have t4 : y3.cell? ⟨T, 4, none⟩ = some (.slice Au nu cu) := cell_of_row _ _ 4 _ _ _ HT3.out
          have tf4 : y3.frozen? ⟨T, 4, none⟩ = false := frozen_of_row _ _ 4 _ _ HT3.out
          have hT3 : T < y3.heap.size := by omega
          have HO4 := hide (ownsRow_setCell_below own3 (a := ⟨T, 4, none⟩) hTs (.slice A2 (nu + 1) e2))
          have HB4y := hide ((HYs.out.trans (hb3.mono (by have := HYs.out.size; omega))).setCell (p := ⟨T, 4, none⟩) hyT (.slice A2 (nu + 1) e2))
          have HB4v := hide (HBy.out.trans (HB4y.out.mono syv))
          clear hb3 own3 hg3 hat3
          refine hK.out _ _ ?_
          clear hK K
          simp only [Act.put]
          try simp only [xd, xe, xf]
          refine tw 8 94 ?_ ?_ ?_; rotate_left; (focus (intro w; go_simp; (try with_reducible rfl); done)); (try simp only [xd, xe, xf])
          refine exL_at (i := 9) (by simp only [xa, xb, xc]; rfl) (by kernel_rfl) rfl (by kernel_rfl) (fun K hK => ?_)
          go_wp2_with fail
          refine hK.out _ _ ?_
          clear hK K
          try simp only [xd, xe, xf]
          refine wpAnyL_done (by kernel_rfl) ?_ _
          clear t4 tf4 hT3
          skip
          have HFin : Hid (PkMid y T g (y3.setCell ⟨T, 4, none⟩ (.slice A2 (nu + 1) e2))) := hide (⟨#[.int .i64 p.wk, .int .i64 p.ws, .int .i64 p.vs, .slice Ao no co, .slice A2 (nu + 1) e2, .slice Ab nb cb], { p with out := p.out ++ [es] }, rfl, heap_setCell_same _ T 4 _ _ _ HT3.out, fun w' hs => ⟨_, _, _, _, _, _, _, _, _, rfl, ⟨HLen.out.1, by have := HLen.out.2.1; simp; omega, HLen.out.2.2⟩, ⟨(HPIN.out.kept (Same1.kept hs HB4v.out hvg) (Nat.le_trans (HB4v.out).size hs.1)).own, rows_more HRu.out HLen.out.2.1 es (.slice A L c) ⟨A, c, by rw [HL.out], by rw [HL.out]; exact hc, hc2, Eds.kept' HEv.out (Nat.le_refl _) (Same1.kept hs HB4v.out hvg) |> fun h => Els.more h (Nat.le_trans HB4v.out.size hs.1)⟩ (Same1.kept hs HB4v.out hvg) (Nat.le_trans HB4v.out.size hs.1) (hs.own HO4.out (by omega)), (HPIN.out.kept (Same1.kept hs HB4v.out hvg) (Nat.le_trans (HB4v.out).size hs.1)).back⟩, ⟨HBd.out.1, by omega, HBd.out.2.2⟩⟩, HB4y.out⟩)
          go_wp2
          go_meet
          case rel => exact HFin
        ·obtain ⟨q0, hq0⟩ : ∃ p, (cuts V es k)[0]? = some p := ⟨_, List.getElem?_eq_getElem (by rw [cuts_len]; omega)⟩
         obtain ⟨cs, hcs, hpo, hcx⟩ := HMl.out 0 q0 (by omega) hq0
         obtain ⟨Ao0, Au0, Ab0, no0, nu0, nb0, co0, cu0, cb0, hu0, hb0, rfl, hlen0, hro0, hru0, hrb0, hbd0⟩ := hpo
         have hcell : ∀ j v, ([.int .i64 q0.wk, .int .i64 q0.ws, .int .i64 q0.vs, .slice Ao0 no0 co0, .slice Au0 nu0 cu0, .slice Ab0 nb0 cb0] : List Value)[j]? = some v → ws.cell? ⟨g, j, none⟩ = some v := fun j v hv => by
           have h1 := hcx j v hv
           have h2 := (List.getElem?_eq_some_iff.1 h1).1
           have h3 : y.cell? ⟨g, j, none⟩ = some v := by rw [HOm.out.cellAt j (by have := HOm.out.1; omega)]; simpa using h1
           exact (HYs.out.cell (p := ⟨g, j, none⟩) hgl).trans h3
         have d0 : ws.cell? ⟨g, 0, none⟩ = some (.int .i64 q0.wk) := hcell 0 _ rfl
         have d1 : ws.cell? ⟨g, 1, none⟩ = some (.int .i64 q0.ws) := hcell 1 _ rfl
         have d2 : ws.cell? ⟨g, 2, none⟩ = some (.int .i64 q0.vs) := hcell 2 _ rfl
         have d3 : ws.cell? ⟨g, 3, none⟩ = some (.slice Ao0 no0 co0) := hcell 3 _ rfl
         have d4 : ws.cell? ⟨g, 4, none⟩ = some (.slice Au0 nu0 cu0) := hcell 4 _ rfl
         have d5 : ws.cell? ⟨g, 5, none⟩ = some (.slice Ab0 nb0 cb0) := hcell 5 _ rfl
         have hgs : g < ws.heap.size := by omega
         have hk0 : (0 : Int) < (k : Int) := by omega
         have hk0N : 0 < k := by omega
         have HQin : Hid (PIn v2 q0 Ao0 Au0 Ab0) := hide ⟨Rd.of_own hro0, hru0.erows, hrb0.erows⟩
         clear hcell hcs hcx hro0 hru0 hrb0
         have HFin : Hid (PkMid y T g ((((((ws.setCell ⟨T, 0, none⟩ (.int .i64 q0.wk)).setCell ⟨T, 1, none⟩ (.int .i64 q0.ws)).setCell ⟨T, 2, none⟩ (.int .i64 q0.vs)).setCell ⟨T, 3, none⟩ (.slice Ao0 no0 co0)).setCell ⟨T, 4, none⟩ (.slice Au0 nu0 cu0)).setCell ⟨T, 5, none⟩ (.slice Ab0 nb0 cb0))) := hide (⟨#[.int .i64 q0.wk, .int .i64 q0.ws, .int .i64 q0.vs, .slice Ao0 no0 co0, .slice Au0 nu0 cu0, .slice Ab0 nb0 cb0], q0, rfl, (heap_setCell_same _ T 5 _ _ (.slice Ab0 nb0 cb0) (heap_setCell_same _ T 4 _ _ (.slice Au0 nu0 cu0) (heap_setCell_same _ T 3 _ _ (.slice Ao0 no0 co0) (heap_setCell_same _ T 2 _ _ (.int .i64 q0.vs) (heap_setCell_same _ T 1 _ _ (.int .i64 q0.ws) (heap_setCell_same _ T 0 _ _ (.int .i64 q0.wk) HT.out)))))), fun w' hs => ⟨_, _, _, _, _, _, _, _, _, rfl, hlen0, (HQin.out.kept (Same1.kept hs ((((((HBs.out.setCell (p := ⟨T, 0, none⟩) (by show v2.heap.size ≤ T; omega) (.int .i64 q0.wk)).setCell (p := ⟨T, 1, none⟩) (by show v2.heap.size ≤ T; omega) (.int .i64 q0.ws)).setCell (p := ⟨T, 2, none⟩) (by show v2.heap.size ≤ T; omega) (.int .i64 q0.vs)).setCell (p := ⟨T, 3, none⟩) (by show v2.heap.size ≤ T; omega) (.slice Ao0 no0 co0)).setCell (p := ⟨T, 4, none⟩) (by show v2.heap.size ≤ T; omega) (.slice Au0 nu0 cu0)).setCell (p := ⟨T, 5, none⟩) (by show v2.heap.size ≤ T; omega) (.slice Ab0 nb0 cb0)) hvg) (Nat.le_trans (((((((HBs.out.setCell (p := ⟨T, 0, none⟩) (by show v2.heap.size ≤ T; omega) (.int .i64 q0.wk)).setCell (p := ⟨T, 1, none⟩) (by show v2.heap.size ≤ T; omega) (.int .i64 q0.ws)).setCell (p := ⟨T, 2, none⟩) (by show v2.heap.size ≤ T; omega) (.int .i64 q0.vs)).setCell (p := ⟨T, 3, none⟩) (by show v2.heap.size ≤ T; omega) (.slice Ao0 no0 co0)).setCell (p := ⟨T, 4, none⟩) (by show v2.heap.size ≤ T; omega) (.slice Au0 nu0 cu0)).setCell (p := ⟨T, 5, none⟩) (by show v2.heap.size ≤ T; omega) (.slice Ab0 nb0 cb0))).size hs.1)), hbd0⟩, ((((((HYs.out.setCell (p := ⟨T, 0, none⟩) hyT (.int .i64 q0.wk)).setCell (p := ⟨T, 1, none⟩) hyT (.int .i64 q0.ws)).setCell (p := ⟨T, 2, none⟩) hyT (.int .i64 q0.vs)).setCell (p := ⟨T, 3, none⟩) hyT (.slice Ao0 no0 co0)).setCell (p := ⟨T, 4, none⟩) hyT (.slice Au0 nu0 cu0)).setCell (p := ⟨T, 5, none⟩) hyT (.slice Ab0 nb0 cb0))⟩)
         go_wp2
         go_meet
         case rel => exact HFin
       case rest =>
        obtain ⟨C, p2, -, hTC, hval, hbyc⟩ := hcut.out
        clear hcut c0 f0 c1 f1 c2 f2 c3 f3 c4 f4 c5 f5
        obtain ⟨Ao2, Au2, Ab2, no2, nu2, nb2, co2, cu2, cb2, hcs, hlen2, hin2, hbd2⟩ := hval wc (Same1.refl g wc)
        obtain rfl : C = #[.int .i64 p2.wk, .int .i64 p2.ws, .int .i64 p2.vs, .slice Ao2 no2 co2, .slice Au2 nu2 cu2, .slice Ab2 nb2 cb2] := by rw [← Array.toArray_toList (xs := C), hcs]
        have HTC := hide hTC
        have HVal := hide hval
        have HBc := hide hbyc
        have HBcv := hide (HBy.out.trans (hbyc.mono syv))
        have hLen2 := hide hlen2
        have hBd2 := hide hbd2
        have hTc : T < wc.heap.size := (Array.getElem?_eq_some_iff.1 hTC).1
        have hgc : g < wc.heap.size := by omega
        have HOc := hide (own_below HOm.out hbyc (fun q hq => (HOm.out.lt q hq).2))
        clear hTC hval hbyc hcs hlen2 hin2 hbd2
        have c0 : wc.cell? ⟨T, 0, none⟩ = some (.int .i64 p2.wk) := cell_of_row _ _ 0 _ _ _ HTC.out
        have c1 : wc.cell? ⟨T, 1, none⟩ = some (.int .i64 p2.ws) := cell_of_row _ _ 1 _ _ _ HTC.out
        have c2 : wc.cell? ⟨T, 2, none⟩ = some (.int .i64 p2.vs) := cell_of_row _ _ 2 _ _ _ HTC.out
        have c3 : wc.cell? ⟨T, 3, none⟩ = some (.slice Ao2 no2 co2) := cell_of_row _ _ 3 _ _ _ HTC.out
        have c4 : wc.cell? ⟨T, 4, none⟩ = some (.slice Au2 nu2 cu2) := cell_of_row _ _ 4 _ _ _ HTC.out
        have c5 : wc.cell? ⟨T, 5, none⟩ = some (.slice Ab2 nb2 cb2) := cell_of_row _ _ 5 _ _ _ HTC.out
        have hcl : ∀ j, j < 6 → ∃ v, wc.cell? ⟨g, a * 6 + j, none⟩ = some v := fun j hj => by
          rw [HOc.out.cellAt (a * 6 + j) (by omega)]; exact ⟨_, List.getElem?_eq_getElem (by have := HXl.out; omega)⟩
        obtain ⟨o0, d0⟩ := hcl 0 (by omega)
        have df0 : wc.frozen? ⟨g, a * 6, none⟩ = false := HOc.out.frozenAt (a * 6)
        obtain ⟨o1, d1⟩ := hcl 1 (by omega)
        have df1 : wc.frozen? ⟨g, a * 6 + 1, none⟩ = false := HOc.out.frozenAt (a * 6 + 1)
        obtain ⟨o2, d2⟩ := hcl 2 (by omega)
        have df2 : wc.frozen? ⟨g, a * 6 + 2, none⟩ = false := HOc.out.frozenAt (a * 6 + 2)
        obtain ⟨o3, d3⟩ := hcl 3 (by omega)
        have df3 : wc.frozen? ⟨g, a * 6 + 3, none⟩ = false := HOc.out.frozenAt (a * 6 + 3)
        obtain ⟨o4, d4⟩ := hcl 4 (by omega)
        have df4 : wc.frozen? ⟨g, a * 6 + 4, none⟩ = false := HOc.out.frozenAt (a * 6 + 4)
        obtain ⟨o5, d5⟩ := hcl 5 (by omega)
        have df5 : wc.frozen? ⟨g, a * 6 + 5, none⟩ = false := HOc.out.frozenAt (a * 6 + 5)
        rw [Nat.add_zero] at d0
        clear hcl
        obtain ⟨w6, h6e, h6s, h6z, h6b, h6r⟩ := row_six HOc.out (.int .i64 p2.wk) (.int .i64 p2.ws) (.int .i64 p2.vs) (.slice Ao2 no2 co2) (.slice Au2 nu2 cu2) (.slice Ab2 nb2 cb2) hlta
        have HB6 := hide (h6b v2 v2.heap.size HBcv.out hvg)
        have HVal6 := hide (HVal.out w6 h6s)
        have HT6 : Hid (w6.heap[T]? = some (.cells #[.int .i64 p2.wk, .int .i64 p2.ws, .int .i64 p2.vs, .slice Ao2 no2 co2, .slice Au2 nu2 cu2, .slice Ab2 nb2 cb2] 34)) := hide (by rw [h6s.2 T (by omega) hTc]; exact HTC.out)
        have HR6 : Hid (PtRow w6 (some ⟨g, 0, none⟩) ((cuts V es k).set a p2)) := hide (h6r (cuts V es k) p2 (cuts_len _ _ _) (fun q p hq hp => by
          have hql : q < k := by have := (List.getElem?_eq_some_iff.1 hp).1; rw [cuts_len] at this; exact this
          obtain ⟨cs, e1, e2, e3⟩ := HMl.out q p hql hp
          exact ⟨cs, e1, e2.val.kept (Same1.kept h6s HBcv.out hvg) HB6.out.size, e3⟩) HVal6.out)
        have H6e := hide h6e
        have hsl : ((cuts V es k).set a p2).length = k := by rw [List.length_set, cuts_len]
        have HSl := hide hsl
        clear h6e h6s h6z h6b h6r hsl
        go_upto_region 32 with fail
        rw [H6e.out]
        clear H6e c0 d0 df0 c1 d1 df1 c2 d2 df2 c3 d3 df3 c4 d4 df4 c5 d5 df5
        go_wp2_with fail
        refine (partsJoin_main w6 (some ⟨g, 0, none⟩) _ k c' HSl.out HR6.out hkc2 hcm2).mono ?_
        rintro e z ⟨rfl, hz⟩
        have HBz := hide (HB6.out.trans (hz.mono HB6.out.size))
        have hT6 : T < w6.heap.size := (Array.getElem?_eq_some_iff.1 HT6.out).1
        have HTz := hide ((hz.block _ hT6).trans HT6.out)
        have HVz := hide (HVal6.out.kept (Kept.of_below hz) hz.size)
        have hTz : T < z.heap.size := by have := hz.size; omega
        clear hz
        have c0 : z.cell? ⟨T, 0, none⟩ = some (.int .i64 p2.wk) := cell_of_row _ _ 0 _ _ _ HTz.out
        have c1 : z.cell? ⟨T, 1, none⟩ = some (.int .i64 p2.ws) := cell_of_row _ _ 1 _ _ _ HTz.out
        have c2 : z.cell? ⟨T, 2, none⟩ = some (.int .i64 p2.vs) := cell_of_row _ _ 2 _ _ _ HTz.out
        have c3 : z.cell? ⟨T, 3, none⟩ = some (.slice Ao2 no2 co2) := cell_of_row _ _ 3 _ _ _ HTz.out
        have c4 : z.cell? ⟨T, 4, none⟩ = some (.slice Au2 nu2 cu2) := cell_of_row _ _ 4 _ _ _ HTz.out
        have c5 : z.cell? ⟨T, 5, none⟩ = some (.slice Ab2 nb2 cb2) := cell_of_row _ _ 5 _ _ _ HTz.out
        obtain ⟨Ao3, Au3, Ab3, no3, nu3, nb3, co3, cu3, cb3, hcs, hlen3, hin3, hbd3⟩ := HVz.out
        simp only [List.cons.injEq, Value.slice.injEq, true_and, and_true] at hcs
        obtain ⟨⟨rfl, rfl, rfl⟩, ⟨rfl, rfl, rfl⟩, ⟨rfl, rfl, rfl⟩⟩ := hcs
        have HIn3 := hide hin3
        have HLn3 := hide hlen3
        have HBd3 := hide hbd3
        clear hin3 hlen3 hbd3
        go_wp2_with fail
        refine (pplace_any z p2 Ao2 Au2 Ab2 no2 nu2 nb2 co2 cu2 cb2 (n : Int) HLn3.out HIn3.out HBd3.out).mono ?_
        rintro e z2 ⟨rfl, hz⟩
        have HBz2 := hide (HBz.out.trans (hz.mono HBz.out.size))
        clear hz c0 c1 c2 c3 c4 c5
        go_wp2
        go_roundw
        case rel => exact ⟨n + 1, by omega, by go_num, HBz2⟩
        case measure => simp [intOf]; omega
      ·obtain rfl : n = 7 := by omega
       go_wp2
       go_roundw
       case rel => exact ⟨a + 1, by omega, by go_num, hbr⟩
       case measure => simp [intOf]; omega
    ·obtain rfl : k = a := by omega
     have hAA : ¬ (k : Int) < (k : Int) := by omega
     have HRa := hide (HRl.out.next hba.out)
     obtain ⟨wa, rfl⟩ : ∃ z : World, z = wr := ⟨_, rfl⟩
     go_wp2_with fail
     refine (partsJoin_main wa (some ⟨gl, 0, none⟩) _ k cm (cuts_len _ _ _) HRa.out hkc hcm).mono ?_
     rintro e z ⟨rfl, hz⟩
     have HBz := hide (hba.out.trans (hz.mono sva))
     have HRz := hide (HRa.out.next hz)
     have hz9 : v2.heap.size ≤ z.heap.size := HBz.out.size
     clear hz
     have hk1I : (1 : Int) ≤ (k : Int) := by omega
     have hkcI : (k : Int) ≤ (cm : Int) := by omega
     have hk1c : (1 : Int) ≤ (cm : Int) := by omega
     have HK1 := hide hk1
     have HKC := hide hkc
     have hdl : ((cuts V es k).drop 1).length = k - 1 := by rw [List.length_drop, cuts_len]
     have HDl := hide hdl
     clear hdl
     go_wp2_with fail
     ·have hkz : k - 1 = 0 := by have h1 := HK1.out; have h2 := HKC.out; omega
      refine (partsJoin_main z (some ⟨gl, 0, none⟩) [] (k - 1) 0 (by rw [hkz]; rfl) (PtRow.nil _ _) (by omega) (by omega)).mono ?_
      rintro e z2 ⟨rfl, hz⟩
      have HF := hide (HB.out.trans ((HUb.out.trans ((HBz.out.trans (hz.mono hz9)).mono (by omega))).mono (by omega)))
      clear hz
      go_wp2
      go_ret
      exact ⟨rfl, HF.out⟩
     ·refine (partsJoin_main z (some ⟨gl, 6, none⟩) _ (k - 1) (cm - 1) HDl.out (by have := HRz.out.tail; rw [Nat.zero_add] at this; exact this) (by have h2 := HKC.out; omega) (by omega)).mono ?_
      rintro e z2 ⟨rfl, hz⟩
      have HF := hide (HB.out.trans ((HUb.out.trans ((HBz.out.trans (hz.mono hz9)).mono (by omega))).mono (by omega)))
      clear hz
      go_wp2
      go_ret
      exact ⟨rfl, HF.out⟩
end Go.Proofs.Ytihdpfjonkagaaa
namespace Go.Proofs.Ytihdpfjonkagaaa
open Go.RowKit
def i64B (x : Int) : Prop := -9223372036854775808 ≤ x ∧ x ≤ 9223372036854775807
def GOk (u : World) (V : Int) (A : Option Addr) (es : List Ed) (c : Nat) : Prop := Eds u u.heap.size A es ∧ es.length ≤ c ∧ c ≤ 9223372036854775807 ∧ (∀ e ∈ es, edB e) ∧ checkF V es = 0 ∧ 1 ≤ V ∧ V ≤ 9
def edb (e : Ed) : Bool := decide (-9223372036854775808 ≤ e.1) && decide (e.1 ≤ 9223372036854775807) && decide (-9223372036854775808 ≤ e.2.1) && decide (e.2.1 ≤ 9223372036854775807)
theorem edB_of {es : List Ed} (h : es.all edb = true) : ∀ e ∈ es, edB e := fun e he => by
 have := List.all_eq_true.1 h e he
 simp only [edb, Bool.and_eq_true, decide_eq_true_eq] at this
 unfold edB
 omega
theorem Eds.to {w u : World} {A : Option Addr} {es : List Ed} (h : Eds w w.heap.size A es) (hb : Below w.heap.size w u) : Eds u u.heap.size A es := Eds.next h hb
theorem GOk.next {w w' : World} {V : Int} {A : Option Addr} {es : List Ed} {c : Nat} (h : GOk w V A es c) (hb : Below w.heap.size w w') : GOk w' V A es c := ⟨Eds.next h.1 hb, h.2⟩
theorem four_g (u : World) (G : Nat) (A1 A2 A3 : Option Addr) (c1 c2 c3 : Nat) (hR : Rd u u.heap.size (some ⟨G, 0, none⟩) [.int .i64 6, .slice A1 5 c1, .int .i64 9, .slice A2 9 c2, .int .i64 1, .slice A3 1 c3, .int .i64 3, .slice none 0 0])
  (h1 : GOk u 6 A1 millE c1) (h2 : GOk u 9 A2 (ringE 9) c2) (h3 : GOk u 1 A3 (ringE 1) c3) (h4 : GOk u 3 none [] 0) (k : Nat) (hk : k < 4) :
  ∃ (V : Int) (A : Option Addr) (es : List Ed) (L c : Nat), es.length = L ∧ u.cell? ⟨G, k * 2, none⟩ = some (.int .i64 V) ∧ u.cell? ⟨G, k * 2 + 1, none⟩ = some (.slice A L c) ∧ GOk u V A es c := by
 have e (j : Nat) (v : Value) (hj : [Value.int .i64 6, .slice A1 5 c1, .int .i64 9, .slice A2 9 c2, .int .i64 1, .slice A3 1 c3, .int .i64 3, .slice none 0 0][j]? = some v) : u.cell? ⟨G, j, none⟩ = some v := by have := hR.cell hj; rw [Nat.zero_add] at this; exact this
 rcases k with _ | _ | _ | _ | k
 ·exact ⟨6, A1, millE, 5, c1, rfl, e 0 _ rfl, e 1 _ rfl, h1⟩
 ·exact ⟨9, A2, ringE 9, 9, c2, rfl, e 2 _ rfl, e 3 _ rfl, h2⟩
 ·exact ⟨1, A3, ringE 1, 1, c3, rfl, e 4 _ rfl, e 5 _ rfl, h3⟩
 ·exact ⟨3, none, [], 0, 0, rfl, e 6 _ rfl, e 7 _ rfl, h4⟩
 ·omega
theorem kWhole (w : World) (V : Int) (A : Option Addr) (es : List Ed) (L c : Nat) (hL : es.length = L) (h : GOk w V A es c) (n : Int) (hn : 0 ≤ n ∧ n ≤ 255) :
  Calls Try.prog 6 #[.agg #[.int .i64 V, .slice A L c], .int .u8 n] w fun e w' => e = .returned (.bool true) ∧ Below w.heap.size w w' := by
 subst hL
 obtain ⟨h1, h2, h3, h4, h5, h6, h7⟩ := h
 exact partsWhole_walk w V A es c (by omega) (by omega) h1 h2 h3 h4 n hn.1 hn.2
theorem kSpoilt (w : World) (V : Int) (A : Option Addr) (es : List Ed) (L c : Nat) (hL : es.length = L) (h : GOk w V A es c) (k : Nat) (hk : 1 ≤ k ∧ k ≤ 64) :
  Calls Try.prog 28 #[.agg #[.int .i64 V, .slice A L c], .int .i64 (k : Int)] w fun e w' => e = .returned (.bool true) ∧ Below w.heap.size w w' := by
 obtain ⟨h1, h2, h3, h4, h5, h6, h7⟩ := h
 exact spoilt_any w V A es L c k hL h1 (by omega) h3 h5 hk.1 hk.2
theorem kCut (w : World) (V : Int) (A : Option Addr) (es : List Ed) (L c : Nat) (hL : es.length = L) (h : GOk w V A es c) (n k : Int) (hn : i64B n) (hk : i64B k) :
  Calls Try.prog 4 #[.agg #[.int .i64 V, .slice A L c], .int .i64 n, .int .i64 k] w fun e w' => e = .returned (.bool true) ∧ Below w.heap.size w w' := by
 subst hL
 obtain ⟨h1, h2, h3, h4, h5, h6, h7⟩ := h
 exact partsCut_walk w V A es c (by omega) (by omega) h1 h2 h3 h4 n hn.1 hn.2 k hk.1 hk.2
theorem kOf (w : World) (v n k : Int) (hv : i64B v) (hn : i64B n) (hk : i64B k) : Calls Try.prog 3 #[.int .i64 v, .int .i64 n, .int .i64 k] w fun e w' => e = .returned (.bool true) ∧ Below w.heap.size w w' :=
 partsOf_walk w v hv.1 hv.2 n hn.1 hn.2 k hk.1 hk.2
theorem pt_one (w : World) (a b c : Int) : PtRow (w.alloc (.cells #[.int .i64 a, .int .i64 b, .int .i64 c, .slice none 0 0, .slice none 0 0, .slice none 0 0] 34)) (some ⟨w.heap.size, 0, none⟩) [⟨a, b, c, [], [], []⟩] := fun _ => by
 refine ⟨w.heap.size, 0, rfl, by simp, fun i x hx => ?_⟩
 rcases i with _ | i
 ·simp only [List.getElem?_cons_zero, Option.some.injEq] at hx
  subst hx
  refine ⟨[.int .i64 a, .int .i64 b, .int .i64 c, .slice none 0 0, .slice none 0 0, .slice none 0 0], rfl, ⟨none, none, none, 0, 0, 0, 0, 0, 0, rfl, ⟨rfl, rfl, rfl⟩, ⟨Rd.nil_, Els.nil_, Els.nil_⟩, by omega, by omega, by omega⟩, fun j u hu => ?_⟩
  have hj : j < 6 := (List.getElem?_eq_some_iff.1 hu).1
  rw [Nat.zero_mul, Nat.zero_add, Nat.zero_add]
  refine cell_of_row _ _ j _ _ _ (heap_alloc_last _ _) |>.trans ?_ <;> first | rfl | skip
  all_goals simpa using hu
 ·simp at hx
theorem partsKnown_walk (w : World) : Calls Try.prog 7 #[] w fun e w' => e = .returned (.bool true) ∧ Below w.heap.size w w' := by
 go_enter Try.func7, Try.ntmps7
 go_wp2
 go_loopw [1] (fun v1 wr => ∃ k : Nat, 1 ≤ k ∧ k ≤ 6 ∧ v1 = .int .i64 (k : Int) ∧ Hid (Below w.heap.size w wr)) (fun v1 _ => 6 - (intOf v1).toNat)
 case atStart => exact ⟨1, by omega, by omega, rfl, hide (Below.refl _ _)⟩
 case round =>
  obtain ⟨k, hk1, hk6, rfl, hbk⟩ := hrel
  have swk : w.heap.size ≤ wr.heap.size := hbk.out.size
  by_cases hlt : k < 6
  ·have hK1 : (k : Int) < 6 := by omega
   obtain ⟨y0, rfl⟩ : ∃ z : World, z = wr := ⟨_, rfl⟩
   go_wp2_with fail
   refine (mill_any _).mono ?_
   rintro e y1 ⟨A1, c1, rfl, E1, l1, m1, b1⟩
   have B1 := hide (hbk.out.trans (b1.mono swk))
   go_wp2_with fail
   refine (ring_any _ 9 (by omega) (by omega)).mono ?_
   rintro e y2 ⟨A2, c2, rfl, E2, l2, m2, b2⟩
   have B2 := hide (B1.out.trans (b2.mono B1.out.size))
   have E1 := E1.to b2
   go_wp2_with fail
   refine (ring_any _ 1 (by omega) (by omega)).mono ?_
   rintro e y3 ⟨A3, c3, rfl, E3, l3, m3, b3⟩
   have B3 := hide (B2.out.trans (b3.mono B2.out.size))
   have E1 := E1.to b3
   have E2 := E2.to b3
   rw [show millE.length = 5 from rfl] at l1 ⊢
   rw [show (ringE 9).length = 9 from rfl] at l2 ⊢
   rw [show (ringE 1).length = 1 from rfl] at l3 ⊢
   have G1 := hide (And.intro E1 (And.intro l1 m1))
   have G2 := hide (And.intro E2 (And.intro l2 m2))
   have G3 := hide (And.intro E3 (And.intro l3 m3))
   clear E1 E2 E3 l1 l2 l3 m1 m2 m3 b1 b2 b3
   obtain ⟨u, hu⟩ : ∃ u, y3.alloc (.cells #[.int .i64 6, .slice A1 5 c1, .int .i64 9, .slice A2 9 c2, .int .i64 1, .slice A3 1 c3, .int .i64 3, .slice none 0 0] 30) = u := ⟨_, rfl⟩
   have hbu : Below y3.heap.size y3 u := by rw [← hu]; exact (Below.refl _ _).alloc (Nat.le_refl _) _
   have hGu : y3.heap.size < u.heap.size := by rw [← hu]; simp
   have r6 : Rd u u.heap.size (some ⟨y3.heap.size, 0, none⟩) [.int .i64 6, .slice A1 5 c1, .int .i64 9, .slice A2 9 c2, .int .i64 1, .slice A3 1 c3, .int .i64 3, .slice none 0 0] := by rw [← hu]; exact (Rd.new y3 #[.int .i64 6, .slice A1 5 c1, .int .i64 9, .slice A2 9 c2, .int .i64 1, .slice A3 1 c3, .int .i64 3, .slice none 0 0] 30 (0, 0)).more (by simp)
   obtain ⟨G, hG⟩ : ∃ G, y3.heap.size = G := ⟨_, rfl⟩
   have HG : Hid (∀ k : Nat, k < 4 → ∃ (V : Int) (A : Option Addr) (es : List Ed) (L c : Nat), es.length = L ∧ u.cell? ⟨G, k * 2, none⟩ = some (.int .i64 V) ∧ u.cell? ⟨G, k * 2 + 1, none⟩ = some (.slice A L c) ∧ GOk u V A es c) := hide (four_g u G A1 A2 A3 _ _ _ (by rw [← hG]; exact r6)
     ⟨G1.out.1.to hbu, G1.out.2.1, G1.out.2.2, edB_of (by decide), by decide, by decide, by decide⟩
     ⟨G2.out.1.to hbu, G2.out.2.1, G2.out.2.2, edB_of (by decide), by decide, by decide, by decide⟩
     ⟨G3.out.1.to hbu, G3.out.2.1, G3.out.2.2, edB_of (by decide), by decide, by decide, by decide⟩
     ⟨Els.nil_, by decide, by decide, edB_of (by decide), by decide, by decide, by decide⟩)
   have HB := hide (B3.out.trans (hbu.mono B3.out.size))
   have HU := hide hu
   have HGe := hide hG
   rw [hG] at hGu
   have swu : w.heap.size ≤ u.heap.size := HB.out.size
   clear hu hbu r6 hG G1 G2 G3 B1 B2 B3
   go_wp2
   rw [HU.out, HGe.out]
   clear HU HGe
   go_loopw [15] (fun v15 wr => ∃ i : Nat, i ≤ 4 ∧ v15 = .int .i64 (i : Int) ∧ Hid (Below u.heap.size u wr)) (fun v15 _ => 4 - (intOf v15).toNat)
   case atStart => exact ⟨0, by omega, rfl, hide (Below.refl _ _)⟩
   case round =>
    obtain ⟨i, hi, rfl, hbi⟩ := hrel
    have sui : u.heap.size ≤ wr.heap.size := hbi.out.size
    by_cases hlti : i < 4
    ·have hI1 : (i : Int) < 4 := by omega
     obtain ⟨V, A, es, L, c, hL, c0, c1, hgok⟩ := HG.out i hlti
     have c0 := (hbi.out.cell (p := ⟨G, i * 2, none⟩) hGu).trans c0
     have c1 := (hbi.out.cell (p := ⟨G, i * 2 + 1, none⟩) hGu).trans c1
     have hGr : G < wr.heap.size := by omega
     have HL := hide hL
     have HGo := hide (hgok.next hbi.out)
     obtain ⟨ws, hws⟩ : ∃ z, wr.alloc (.cells #[.int .i64 V, .slice A L c] 30) = z := ⟨_, rfl⟩
     have HT : Hid (ws.heap[wr.heap.size]? = some (.cells #[.int .i64 V, .slice A L c] 30)) := hide (by rw [← hws]; exact heap_alloc_last _ _)
     have HBs : Hid (Below u.heap.size u ws) := hide (by rw [← hws]; exact hbi.out.alloc sui _)
     have HGs := hide (HGo.out.next (show Below wr.heap.size wr ws by rw [← hws]; exact (Below.refl _ _).alloc (Nat.le_refl _) _))
     have HWS := hide hws
     obtain ⟨T, hT⟩ : ∃ T, wr.heap.size = T := ⟨_, rfl⟩
     have HTe := hide hT
     rw [hT] at HT
     have hus : u.heap.size ≤ ws.heap.size := HBs.out.size
     clear hws hT hL hgok HGo hbi
     go_upto_region 7 with fail
     rw [HWS.out, HTe.out]
     clear HWS HTe c0 c1 hGr
     have hTs : T < ws.heap.size := (Array.getElem?_eq_some_iff.1 HT.out).1
     have x0 : ws.cell? ⟨T, 0, none⟩ = some (.int .i64 V) := cell_of_row _ _ 0 _ _ _ HT.out
     have x1 : ws.cell? ⟨T, 1, none⟩ = some (.slice A L c) := cell_of_row _ _ 1 _ _ _ HT.out
     obtain ⟨k0, hk0⟩ : ∃ x : Nat, (k : Int) - 1 = (x : Int) ∧ x ≤ 5 := ⟨k - 1, by omega, by omega⟩
     have e1 := hk0.1
     have e2 : IntKind.i64.wrap (k0 : Int) = (k0 : Int) := IntWalk.i64_in _ (by have := hk0.2; omega)
     have e3 : IntKind.u8.wrap (k0 : Int) = (k0 : Int) := IntWalk.u8_in _ (by have := hk0.2; omega)
     have HK0 := hide hk0.2
     clear hk0
     go_wp2_with fail
     refine (kWhole ws V A es L c HL.out HGs.out (k0 : Int) (by have := HK0.out; omega)).mono ?_
     rintro e z ⟨rfl, hz⟩
     have HBz := hide (HBs.out.trans (hz.mono hus))
     have HTz := hide ((hz.block _ hTs).trans HT.out)
     have HGz := hide (HGs.out.next hz)
     have hTz : T < z.heap.size := by have := hz.size; omega
     have huz : u.heap.size ≤ z.heap.size := HBz.out.size
     clear hz x0 x1 e1 e2 e3
     have x0 : z.cell? ⟨T, 0, none⟩ = some (.int .i64 V) := cell_of_row _ _ 0 _ _ _ HTz.out
     have x1 : z.cell? ⟨T, 1, none⟩ = some (.slice A L c) := cell_of_row _ _ 1 _ _ _ HTz.out
     go_wp2_with fail
     refine (kSpoilt z V A es L c HL.out HGz.out k (by omega)).mono ?_
     rintro e v ⟨rfl, hz⟩
     have HBv := hide (HBz.out.trans (hz.mono huz))
     have HTv := hide ((hz.block _ hTz).trans HTz.out)
     have HGv := hide (HGz.out.next hz)
     have hTv : T < v.heap.size := by have := hz.size; omega
     have huv : u.heap.size ≤ v.heap.size := HBv.out.size
     clear hz x0 x1 HBz HTz HGz HBs HT HGs
     go_wp2
     go_loopw [4] (fun v4 wr => ∃ q : Int, -1 ≤ q ∧ q ≤ 6 ∧ v4 = .int .i64 q ∧ Hid (Below v.heap.size v wr)) (fun v4 _ => (6 - intOf v4).toNat)
     case atStart => exact ⟨-1, by omega, by omega, rfl, hide (Below.refl _ _)⟩
     case round =>
      obtain ⟨q, hq1, hq6, rfl, hbq⟩ := hrel
      have svq : v.heap.size ≤ wr.heap.size := hbq.out.size
      by_cases hltq : q < 6
      ·have hQB : i64B q := ⟨by omega, by omega⟩
       have hKB : i64B (k : Int) := ⟨by omega, by omega⟩
       have HQB := hide hQB
       have HKB := hide hKB
       clear hQB hKB
       have HTw := hide ((hbq.out.block _ hTv).trans HTv.out)
       have x0 : wr.cell? ⟨T, 0, none⟩ = some (.int .i64 V) := cell_of_row _ _ 0 _ _ _ HTw.out
       have x1 : wr.cell? ⟨T, 1, none⟩ = some (.slice A L c) := cell_of_row _ _ 1 _ _ _ HTw.out
       have hTw : T < wr.heap.size := by omega
       have HGw := hide (HGv.out.next hbq.out)
       have e4 : IntKind.i64.wrap (q * 170) = q * 170 := IntWalk.i64_in _ (by omega)
       have e5 : IntKind.i64.wrap ((k : Int) + 59) = (k : Int) + 59 := IntWalk.i64_in _ (by omega)
       have e6 : IntKind.i64.wrap (q + 1) = q + 1 := IntWalk.i64_in _ (by omega)
       have HQM := hide (show i64B (q * 170) from ⟨by omega, by omega⟩)
       have HKM := hide (show i64B ((k : Int) + 59) from ⟨by omega, by omega⟩)
       go_wp2_with fail
       refine (kCut wr V A es L c HL.out HGw.out (k : Int) q HKB.out HQB.out).mono ?_
       rintro e z ⟨rfl, hz⟩
       have HBz := hide (hbq.out.trans (hz.mono svq))
       have svz : v.heap.size ≤ z.heap.size := HBz.out.size
       clear hz x0 x1 HTw hTw
       have HTw := hide ((HBz.out.block _ hTv).trans HTv.out)
       have x0 : z.cell? ⟨T, 0, none⟩ = some (.int .i64 V) := cell_of_row _ _ 0 _ _ _ HTw.out
       have x1 : z.cell? ⟨T, 1, none⟩ = some (.slice A L c) := cell_of_row _ _ 1 _ _ _ HTw.out
       have hTw : T < z.heap.size := by omega
       have HVB := hide (show i64B V from ⟨by have := HGv.out.2.2.2.2.2.1; omega, by have := HGv.out.2.2.2.2.2.2; omega⟩)
       go_wp2_with fail
       refine (kOf z V (k : Int) q HVB.out HKB.out HQB.out).mono ?_
       rintro e z2 ⟨rfl, hz⟩
       have HBz2 := hide (HBz.out.trans (hz.mono svz))
       have svz2 : v.heap.size ≤ z2.heap.size := HBz2.out.size
       clear hz x0 x1 HTw hTw
       go_wp2_with fail
       refine (kOf z2 (q * 170) ((k : Int) + 59) q HQM.out HKM.out HQB.out).mono ?_
       rintro e z3 ⟨rfl, hz⟩
       have HBz3 := hide (HBz2.out.trans (hz.mono svz2))
       clear hz
       go_wp2
       go_roundw
       case rel => exact ⟨q + 1, by omega, by omega, by first | rfl | go_num, HBz3⟩
       case measure => simp [intOf]; omega
      ·obtain rfl : q = 6 := by omega
       have HBe := hide (HBv.out.trans (hbq.out.mono huv))
       go_wp2
       go_roundw
       case rel => exact ⟨i + 1, by omega, by go_num, HBe⟩
       case measure => simp [intOf]; omega
    ·obtain rfl : i = 4 := by omega
     have HBe := hide (HB.out.trans (hbi.out.mono swu))
     go_wp2
     go_roundw
     case rel => exact ⟨k + 1, by omega, by omega, by go_num, HBe⟩
     case measure => simp [intOf]; omega
  ·obtain rfl : k = 6 := by omega
   have C0 := hbk
   go_wp2_with fail
   refine (partsJoin_main _ none [] 0 0 rfl (PtRow.nil _ _) (by omega) (by omega)).mono ?_
   rintro e z1 ⟨rfl, hz⟩
   have C1 := hide (C0.out.trans (hz.mono C0.out.size))
   clear hz
   go_wp2_with fail
   refine (partsJoin_main _ (some ⟨z1.heap.size, 0, none⟩) _ 1 1 rfl (pt_one z1 0 1 513) (by omega) (by omega)).mono ?_
   rintro e z2 ⟨rfl, hz⟩
   have C2 := hide ((C1.out.alloc C1.out.size (.cells #[.int .i64 0, .int .i64 1, .int .i64 513, .slice none 0 0, .slice none 0 0, .slice none 0 0] 34)).trans (hz.mono (by have := C1.out.size; simp; omega)))
   clear hz
   go_wp2_with fail
   refine (partsJoin_main _ (some ⟨z2.heap.size, 0, none⟩) _ 1 1 rfl (pt_one z2 0 0 0) (by omega) (by omega)).mono ?_
   rintro e z3 ⟨rfl, hz⟩
   have C3 := hide ((C2.out.alloc C2.out.size (.cells #[.int .i64 0, .int .i64 0, .int .i64 0, .slice none 0 0, .slice none 0 0, .slice none 0 0] 34)).trans (hz.mono (by have := C2.out.size; simp; omega)))
   clear hz
   go_wp2_with fail
   refine (partsCut_walk _ 0 none [] 0 (by omega) (by omega) Els.nil_ (by simp) (by omega) (by intro e he; cases he) 2 (by omega) (by omega) 0 (by omega) (by omega)).mono ?_
   rintro e z4 ⟨rfl, hz⟩
   have C4 := hide (C3.out.trans (hz.mono C3.out.size))
   clear hz
   go_wp2_with fail
   refine (mill_any _).mono ?_
   rintro e y5 ⟨A5, c5, rfl, E5, l5, m5, hz⟩
   have D5 := hide (C4.out.trans (hz.mono C4.out.size))
   have HE5 := hide (And.intro E5 (And.intro l5 m5))
   clear hz E5 l5 m5
   go_wp2_with fail
   refine (partsCut_walk y5 6 A5 millE c5 (by omega) (by omega) HE5.out.1 HE5.out.2.1 HE5.out.2.2 (edB_of (by decide)) 65 (by omega) (by omega) 0 (by omega) (by omega)).mono ?_
   rintro e z5 ⟨rfl, hz⟩
   have C5 := hide (D5.out.trans (hz.mono D5.out.size))
   clear hz
   go_wp2_with fail
   refine (mill_any _).mono ?_
   rintro e y6 ⟨A6, c6, rfl, E6, l6, m6, hz⟩
   have D6 := hide (C5.out.trans (hz.mono C5.out.size))
   have HE6 := hide (And.intro E6 (And.intro l6 m6))
   clear hz E6 l6 m6
   go_wp2_with fail
   refine (partsCut_walk y6 6 A6 millE c6 (by omega) (by omega) HE6.out.1 HE6.out.2.1 HE6.out.2.2 (edB_of (by decide)) 0 (by omega) (by omega) 0 (by omega) (by omega)).mono ?_
   rintro e z6 ⟨rfl, hz⟩
   have C6 := hide (D6.out.trans (hz.mono D6.out.size))
   clear hz
   go_wp2_with fail
   refine (partsOf_walk z6 511 (by omega) (by omega) 64 (by omega) (by omega) 63 (by omega) (by omega)).mono ?_
   rintro e z7 ⟨rfl, hz⟩
   have C7 := hide (C6.out.trans (hz.mono C6.out.size))
   clear hz
   go_wp2_with fail
   refine (partsOf_walk z7 (-1) (by omega) (by omega) 3 (by omega) (by omega) (-1) (by omega) (by omega)).mono ?_
   rintro e z8 ⟨rfl, hz⟩
   have C8 := hide (C7.out.trans (hz.mono C7.out.size))
   clear hz
   go_wp2_with fail
   refine (partsOf_walk z8 1099511627776 (by omega) (by omega) 64 (by omega) (by omega) 0 (by omega) (by omega)).mono ?_
   rintro e z9 ⟨rfl, hz⟩
   have C9 := hide (C8.out.trans (hz.mono C8.out.size))
   clear hz
   go_wp2_with fail
   refine (works_any _).mono ?_
   rintro e za ⟨rfl, hz⟩
   have CA := hide (C9.out.trans (hz.mono C9.out.size))
   clear hz
   go_wp2
   go_ret
   exact ⟨rfl, CA.out⟩
end Go.Proofs.Ytihdpfjonkagaaa
