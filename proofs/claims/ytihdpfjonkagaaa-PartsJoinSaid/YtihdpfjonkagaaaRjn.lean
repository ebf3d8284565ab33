/- Parts put together into a graph: the document's Join. (printed by gen/rjn.py) -/
import Derived.Test.YtihdpfjonkagaaaProg
import Derived.Test.YtihdpfjonkagaaaPjh
import Derived.Test.YtihdpfjonkagaaaEqe
import Derived.Test.YtihdpfjonkagaaaPsm
import Derived.Deep.DeepCutAuto
import Derived.Lib.Hide
import Derived.WalkSpells
import Derived.WalkMore
import Derived.IntWalk
namespace Go.Proofs.Ytihdpfjonkagaaa
open Go.RowKit
set_option linter.unusedVariables false
set_option linter.unusedSimpArgs false
/-- what the document's Join answers -/
def RJPost (w : World) (ps : List PartV) (e : Ending) (w' : World) : Prop := Below w.heap.size w w' ∧
  ((¬ (1 ≤ ps.length ∧ ps.length ≤ 64 ∧ 1 ≤ vsOf ps ∧ vsOf ps ≤ 512) ∧ badG e) ∨ ((1 ≤ ps.length ∧ ps.length ≤ 64 ∧ 1 ≤ vsOf ps ∧ vsOf ps ≤ 512) ∧ ((okG (vsOf ps) (refG (vsOf ps).toNat ps) ps ∧ goodG (vsOf ps) (refG (vsOf ps).toNat ps) e w') ∨ (¬ okG (vsOf ps) (refG (vsOf ps).toNat ps) ps ∧ badG e))))
theorem refG_succ (v : Nat) (ps : List PartV) : refG (v + 1) ps = limF (refG v ps) (rowsV (pw ps (v : Int)) (v : Int) (pw ps (v : Int)).own.length) := by
  unfold refG
  rw [List.range_succ, List.flatMap_append, lim_app]
  simp
theorem rowsV_succ {p : PartV} {v : Int} {i : Nat} {o : Int} {r : List Ed} (ho : p.own[i]? = some o) (hr : p.out[i]? = some r) : rowsV p v (i + 1) = rowsV p v i ++ (if o = v then [r] else []) := by
  unfold rowsV
  have hz : (p.own.zip p.out)[i]? = some (o, r) := by
    rw [List.getElem?_zip_eq_some]
    exact ⟨ho, hr⟩
  rw [List.take_add_one, hz, List.filterMap_append]
  congr 1
  by_cases h : o = v
  · simp [h]
  · simp [h]
theorem rowsV_all (p : PartV) (v : Int) {i : Nat} (h : p.own.length ≤ i ∨ p.out.length ≤ i) : rowsV p v i = rowsV p v p.own.length := by
  unfold rowsV
  rw [List.take_of_length_le (by rw [List.length_zip]; omega), List.take_of_length_le (by rw [List.length_zip]; omega)]
theorem row_le {rs : List (List Ed)} {i : Nat} {r : List Ed} (h : rs[i]? = some r) : r.length ≤ rs.flatten.length := by
  have h1 := flat_succ h
  have h2 := flat_len (rs := rs) (i + 1)
  rw [h1, List.length_append] at h2
  omega
theorem lim_sub {β : Type} : ∀ (rs : List (List β)) (acc : List β) {x : β}, x ∈ limF acc rs → x ∈ acc ∨ ∃ r ∈ rs, x ∈ r
  | [], acc, x, h => .inl h
  | r :: rs, acc, x, h => by
    have e : limF acc (r :: rs) = limF (if acc.length ≤ 8192 then acc ++ r else acc) rs := rfl
    rw [e] at h
    rcases lim_sub rs _ h with h1 | ⟨q, hq, hx⟩
    · split at h1
      · rcases List.mem_append.1 h1 with h2 | h2
        · exact .inl h2
        · exact .inr ⟨r, by simp, h2⟩
      · exact .inl h1
    · exact .inr ⟨q, by simp [hq], hx⟩
theorem refG_sub {v : Nat} {ps : List PartV} {e : Ed} (h : e ∈ refG v ps) : e ∈ allOut ps := by
  unfold refG at h
  rcases lim_sub _ _ h with h1 | ⟨r, hr, hx⟩
  · cases h1
  · obtain ⟨u, _, hr⟩ := List.mem_flatMap.1 hr
    unfold rowsV at hr
    obtain ⟨⟨o, r2⟩, hz, he⟩ := List.mem_filterMap.1 hr
    have hz := List.mem_of_mem_take hz
    have hro := (List.of_mem_zip hz).2
    dsimp only at he
    split at he
    · injection he with he
      subst he
      have hp : pw ps (u : Int) ∈ ps ∨ pw ps (u : Int) = noPart := by
        unfold pw
        rw [List.getD_eq_getElem?_getD]
        cases hq : ps[(ofF (u : Int) (ps.length : Int)).toNat]? with
        | none => exact .inr rfl
        | some p => exact .inl (List.mem_of_getElem? hq)
      rcases hp with hp | hp
      · unfold allOut
        exact List.mem_flatMap.2 ⟨_, hp, List.mem_flatten.2 ⟨_, hro, hx⟩⟩
      · rw [hp] at hro
        cases hro
    · cases he
set_option maxRecDepth 100000 in
set_option maxHeartbeats 16000000 in
theorem rjoin_any (w : World) (A : Option Addr) (ps : List PartV) (L c : Nat) (hL : ps.length = L) (hP : PtRow w A ps) (hLm : L ≤ 9223372036854775807) (ht : ∀ p ∈ ps, p.out.flatten.length ≤ 60) :
    Calls Try.prog 22 #[.slice A L c] w (RJPost w ps) := by
  obtain ⟨a0, a0i, a0z, a0s, a0b⟩ := info_parts (show (Try.prog.info? 44).map (fun i => (i.zero, i.size, i.bytes)) = some (some (.agg #[.int .i64 0, .int .i64 0, .int .i64 0]), 3, 24) by kernel_rfl)
  obtain ⟨v0, hu⟩ : ∃ u, w.alloc (.cells #[.int .i64 0, .slice none 0 0] 30) = u := ⟨_, rfl⟩
  have HZU := hide (show v0.heap.size = w.heap.size + 1 by rw [← hu]; simp)
  have hzl : w.heap.size < v0.heap.size := by have := HZU.out; omega
  have HB0 := hide (show Below w.heap.size w v0 by rw [← hu]; exact (Below.refl _ _).alloc (Nat.le_refl _) _)
  have M0 := hide (show v0.heap[w.heap.size]? = some (.cells #[.int .i64 0, .slice none 0 0] 30) by rw [← hu]; exact heap_alloc_last _ _)
  have HP := hide (hP.next HB0.out)
  have HU := hide hu
  have HL := hide hL
  have HT := hide ht
  clear hu hP hL ht
  by_cases hL1 : 1 ≤ L ∧ L ≤ 64
  rotate_left
  · have HN : Hid (∀ e w', badG e → Below w.heap.size w w' → RJPost w ps e w') := hide (fun e w' h1 h2 => ⟨h2, .inl ⟨fun h => hL1 ⟨by rw [← HL.out]; exact h.1, by rw [← HL.out]; exact h.2.1⟩, h1⟩⟩)
    have ZW := M0
    have HBf := HB0
    by_cases hL0 : L < 1
    · obtain rfl : L = 0 := by omega
      go_enter Try.func22, Try.ntmps22
      go_upto_region 1 with fail
      rw [HU.out]
      have zc0 : v0.cell? ⟨w.heap.size, 0, none⟩ = some (.int .i64 0) := cell_of_row _ _ 0 _ _ _ ZW.out
      have zcf0 : v0.frozen? ⟨w.heap.size, 0, none⟩ = false := frozen_of_row _ _ 0 _ _ ZW.out
      have zc1 : v0.cell? ⟨w.heap.size, 1, none⟩ = some (.slice none 0 0) := cell_of_row _ _ 1 _ _ _ ZW.out
      have zcf1 : v0.frozen? ⟨w.heap.size, 1, none⟩ = false := frozen_of_row _ _ 1 _ _ ZW.out
      have HFin := hide (two_fin (.int .i64 0) (.slice none 0 0) (.int .i64 0) (.slice none 0 0) (Nat.le_refl w.heap.size) ZW.out HBf.out)
      go_wp2
      obtain ⟨f, hf, hfB, h6, hfs, hfo⟩ := HFin.out
      rw [hf]
      have y0 : f.cell? ⟨w.heap.size, 0, none⟩ = some (.int .i64 0) := cell_of_row _ _ 0 _ _ _ h6
      have y1 : f.cell? ⟨w.heap.size, 1, none⟩ = some (.slice none 0 0) := cell_of_row _ _ 1 _ _ _ h6
      exact bodyPost_ret (v := .tuple #[.agg #[.int .i64 0, .slice none 0 0], .int .i64 2]) (by simp [results, Try.results22, go_sem, y0, y1]) rfl (HN.out _ _ rfl hfB)
    · have h1 : ¬ (L : Int) < 1 := by omega
      have h2 : (64 : Int) < (L : Int) := by omega
      clear hL1
      go_enter Try.func22, Try.ntmps22
      go_upto_region 1 with fail
      rw [HU.out]
      have zc0 : v0.cell? ⟨w.heap.size, 0, none⟩ = some (.int .i64 0) := cell_of_row _ _ 0 _ _ _ ZW.out
      have zcf0 : v0.frozen? ⟨w.heap.size, 0, none⟩ = false := frozen_of_row _ _ 0 _ _ ZW.out
      have zc1 : v0.cell? ⟨w.heap.size, 1, none⟩ = some (.slice none 0 0) := cell_of_row _ _ 1 _ _ _ ZW.out
      have zcf1 : v0.frozen? ⟨w.heap.size, 1, none⟩ = false := frozen_of_row _ _ 1 _ _ ZW.out
      have HFin := hide (two_fin (.int .i64 0) (.slice none 0 0) (.int .i64 0) (.slice none 0 0) (Nat.le_refl w.heap.size) ZW.out HBf.out)
      go_wp2
      obtain ⟨f, hf, hfB, h6, hfs, hfo⟩ := HFin.out
      rw [hf]
      have y0 : f.cell? ⟨w.heap.size, 0, none⟩ = some (.int .i64 0) := cell_of_row _ _ 0 _ _ _ h6
      have y1 : f.cell? ⟨w.heap.size, 1, none⟩ = some (.slice none 0 0) := cell_of_row _ _ 1 _ _ _ h6
      exact bodyPost_ret (v := .tuple #[.agg #[.int .i64 0, .slice none 0 0], .int .i64 2]) (by simp [results, Try.results22, go_sem, y0, y1]) rfl (HN.out _ _ rfl hfB)
  obtain ⟨hL0, hL6⟩ := hL1
  have h1 : ¬ (L : Int) < 1 := by omega
  have h2 : ¬ (64 : Int) < (L : Int) := by omega
  have hLI0 : (0 : Int) < (L : Int) := by omega
  obtain ⟨p0, hp0⟩ : ∃ p, ps[0]? = some p := ⟨_, List.getElem?_eq_getElem (by rw [HL.out]; omega)⟩
  obtain ⟨b, off, rfl, hbl, Ao, Au, Ab, no, nu, nb, co, cu, cb, -, -, d2, -, -, -, -, -, -⟩ := HP.out.get hp0
  obtain ⟨V, hV⟩ : ∃ V, vsOf ps = V := ⟨_, rfl⟩
  have hv0 : p0.vs = V := by rw [← hV]; unfold vsOf; rw [List.getD_eq_getElem?_getD, hp0]; rfl
  rw [hv0] at d2
  have HV := hide hV
  have c0 : v0.cell? ⟨b, off + 2, none⟩ = some (.int .i64 V) := by simpa using d2
  clear d2 hV hv0 hp0 Ao Au Ab no nu nb co cu cb p0
  by_cases hV1 : V < 1
  · have HN : Hid (∀ e w', badG e → Below w.heap.size w w' → RJPost w ps e w') := hide (fun e w' h1 h2 => ⟨h2, .inl ⟨fun h => by have h3 := h.2.2.1; rw [HV.out] at h3; omega, h1⟩⟩)
    have ZW := M0
    have HBf := HB0
    go_enter Try.func22, Try.ntmps22
    go_upto_region 1 with fail
    rw [HU.out]
    have zc0 : v0.cell? ⟨w.heap.size, 0, none⟩ = some (.int .i64 0) := cell_of_row _ _ 0 _ _ _ ZW.out
    have zcf0 : v0.frozen? ⟨w.heap.size, 0, none⟩ = false := frozen_of_row _ _ 0 _ _ ZW.out
    have zc1 : v0.cell? ⟨w.heap.size, 1, none⟩ = some (.slice none 0 0) := cell_of_row _ _ 1 _ _ _ ZW.out
    have zcf1 : v0.frozen? ⟨w.heap.size, 1, none⟩ = false := frozen_of_row _ _ 1 _ _ ZW.out
    have HFin := hide (two_fin (.int .i64 0) (.slice none 0 0) (.int .i64 0) (.slice none 0 0) (Nat.le_refl w.heap.size) ZW.out HBf.out)
    go_wp2
    obtain ⟨f, hf, hfB, h6, hfs, hfo⟩ := HFin.out
    rw [hf]
    have y0 : f.cell? ⟨w.heap.size, 0, none⟩ = some (.int .i64 0) := cell_of_row _ _ 0 _ _ _ h6
    have y1 : f.cell? ⟨w.heap.size, 1, none⟩ = some (.slice none 0 0) := cell_of_row _ _ 1 _ _ _ h6
    exact bodyPost_ret (v := .tuple #[.agg #[.int .i64 0, .slice none 0 0], .int .i64 2]) (by simp [results, Try.results22, go_sem, y0, y1]) rfl (HN.out _ _ rfl hfB)
  by_cases hV5 : 512 < V
  · have HN : Hid (∀ e w', badG e → Below w.heap.size w w' → RJPost w ps e w') := hide (fun e w' h1 h2 => ⟨h2, .inl ⟨fun h => by have h3 := h.2.2.2; rw [HV.out] at h3; omega, h1⟩⟩)
    have ZW := M0
    have HBf := HB0
    go_enter Try.func22, Try.ntmps22
    go_upto_region 1 with fail
    rw [HU.out]
    have zc0 : v0.cell? ⟨w.heap.size, 0, none⟩ = some (.int .i64 0) := cell_of_row _ _ 0 _ _ _ ZW.out
    have zcf0 : v0.frozen? ⟨w.heap.size, 0, none⟩ = false := frozen_of_row _ _ 0 _ _ ZW.out
    have zc1 : v0.cell? ⟨w.heap.size, 1, none⟩ = some (.slice none 0 0) := cell_of_row _ _ 1 _ _ _ ZW.out
    have zcf1 : v0.frozen? ⟨w.heap.size, 1, none⟩ = false := frozen_of_row _ _ 1 _ _ ZW.out
    have HFin := hide (two_fin (.int .i64 0) (.slice none 0 0) (.int .i64 0) (.slice none 0 0) (Nat.le_refl w.heap.size) ZW.out HBf.out)
    go_wp2
    obtain ⟨f, hf, hfB, h6, hfs, hfo⟩ := HFin.out
    rw [hf]
    have y0 : f.cell? ⟨w.heap.size, 0, none⟩ = some (.int .i64 0) := cell_of_row _ _ 0 _ _ _ h6
    have y1 : f.cell? ⟨w.heap.size, 1, none⟩ = some (.slice none 0 0) := cell_of_row _ _ 1 _ _ _ h6
    exact bodyPost_ret (v := .tuple #[.agg #[.int .i64 0, .slice none 0 0], .int .i64 2]) (by simp [results, Try.results22, go_sem, y0, y1]) rfl (HN.out _ _ rfl hfB)
  obtain ⟨n, rfl⟩ : ∃ n : Nat, V = (n : Int) := ⟨V.toNat, by omega⟩
  have hn1 : 1 ≤ n := by omega
  have hn5 : n ≤ 512 := by omega
  obtain ⟨v1, hv1⟩ : ∃ u, v0.alloc (.cells #[.int .i64 (n : Int), .slice none 0 0] 30) = u := ⟨_, rfl⟩
  have HV1 := hide hv1
  have HJ0 : Hid (JG v0 v0.heap.size (n : Int) [] 0 none 0 v1) := hide (by rw [← hv1]; exact ⟨rfl, heap_alloc_last _ _, World.ownsRow_nil _ _ _ _, (Below.refl _ _).alloc (Nat.le_refl _) _, Nat.le_refl _⟩)
  clear hv1
  go_enter Try.func22, Try.ntmps22
  go_upto_region 1 with fail
  rw [HU.out]
  go_upto_region 4 with fail
  rw [HV1.out]
  clear HV1 HU c0
  obtain ⟨G, hG⟩ : ∃ G, v0.heap.size = G := ⟨_, rfl⟩
  have HG := hide hG
  have HJ0 : Hid (JG v0 G (n : Int) [] 0 none 0 v1) := hide (by rw [← hG]; exact HJ0.out)
  rw [HG.out]
  clear hG hV1 hV5
  go_wp2
  go_loopw [5] (fun v5 wr => ∃ (v m : Nat) (Am : Option Addr) (cm : Nat), v ≤ n ∧ v5 = .int .i64 (v : Int) ∧ Hid (JG v0 G (n : Int) (refG v ps) m Am cm wr) ∧ m ≤ 8252) (fun v5 _ => n - (intOf v5).toNat)
  case atStart => exact ⟨0, 0, none, 0, by omega, rfl, HJ0, by omega⟩
  case round =>
    obtain ⟨v, m, Am, cm, hv, rfl, hJ, hm8⟩ := hrel
    have srw : v0.heap.size ≤ wr.heap.size := hJ.out.2.2.2.1.size
    have g0 : wr.cell? ⟨G, 0, none⟩ = some (.int .i64 (n : Int)) := cell_of_row _ _ 0 _ _ _ hJ.out.2.1
    have hGl := hJ.out.glt
    by_cases hlt : v < n
    · have hI1 : (v : Int) < (n : Int) := by omega
      obtain ⟨hk0, hk1⟩ := ofF_ok (v : Int) (L : Int) (by omega) (by omega) (by omega) (by omega)
      obtain ⟨k, hk⟩ : ∃ k : Nat, ofF (v : Int) (L : Int) = (k : Int) := ⟨_, (Int.toNat_of_nonneg hk0).symm⟩
      rw [hk] at hk0 hk1
      have HOf := hide hk
      obtain ⟨p, hp⟩ : ∃ p, ps[k]? = some p := ⟨_, List.getElem?_eq_getElem (by rw [HL.out]; omega)⟩
      obtain ⟨b9, off9, hbe, -, Ao, Au, Ab, no, nu, nb, co, cu, cb, d0, d1, d2, d3, d4, d5, hlen, hin, hbd⟩ := HP.out.get hp
      injection hbe with hbe
      injection hbe with hb1 hb2
      subst hb1 hb2
      have HLen := hide hlen
      have HIn := hide hin
      have hno : no ≤ 9223372036854775807 := hbd.1
      have hnu : nu ≤ 9223372036854775807 := hbd.2.1
      have HR6 := hide (HT.out p (List.mem_of_getElem? hp))
      have HPW : Hid (pw ps (v : Int) = p) := hide (by unfold pw; rw [HL.out, HOf.out, Int.toNat_natCast, List.getD_eq_getElem?_getD, hp]; rfl)
      have D3 := hide d3
      have D4 := hide d4
      clear d0 d1 d2 d3 d4 d5 hlen hin hbd hp hk
      go_upto_region 7 with fail
      go_wp2_with fail
      refine (rof_any _ (v : Int) (L : Int)).mono ?_
      rintro e w2 ⟨rfl, rfl⟩
      rw [HOf.out]
      have HJr := hJ
      clear hJ g0 hGl
      obtain ⟨wo, rfl⟩ : ∃ z : World, z = w2 := ⟨_, rfl⟩
      go_wp2
      go_loopw [7] (fun v7 wr => ∃ (i m : Nat) (Am : Option Addr) (cm : Nat), i ≤ no ∧ v7 = .int .i64 (i : Int) ∧ Hid (JG v0 G (n : Int) (limF (refG v ps) (rowsV p (v : Int) i)) m Am cm wr) ∧ m ≤ 8252) (fun v7 _ => no - (intOf v7).toNat)
      case atStart => exact ⟨0, m, Am, cm, by omega, rfl, by have := HJr.out; exact hide (by simpa [rowsV, limF] using this), hm8⟩
      case round =>
        clear HJr srw hm8
        obtain ⟨i, m, Am, cm, hi, rfl, hJ, hm8⟩ := hrel
        have hJB := hJ.out.2.2.2.1
        have srw : v0.heap.size ≤ wr.heap.size := hJB.size
        have e3 : wr.cell? ⟨b, off + k * 6 + 3, none⟩ = some (.slice Ao no co) := (hJB.cell (p := ⟨b, off + k * 6 + 3, none⟩) hbl).trans D3.out
        have e4 : wr.cell? ⟨b, off + k * 6 + 4, none⟩ = some (.slice Au nu cu) := (hJB.cell (p := ⟨b, off + k * 6 + 4, none⟩) hbl).trans D4.out
        have hlb : b < wr.heap.size := by omega
        have HJB := hide hJB
        clear hJB
        by_cases hin : i < no
        rotate_left
        · have hni : ¬ (i : Int) < (no : Int) := by omega
          have HJ3 : Hid (JG v0 G (n : Int) (refG (v + 1) ps) m Am cm wr) := hide (by rw [refG_succ, HPW.out, ← rowsV_all p (v : Int) (i := i) (.inl (by have := HLen.out.1; omega))]; exact hJ.out)
          clear hJ
          go_wp2
          go_roundw
          case rel => exact ⟨v + 1, m, Am, cm, by omega, by go_num, HJ3, hm8⟩
          case measure => simp [intOf]; omega
        by_cases hinu : i < nu
        rotate_left
        · have hii : (i : Int) < (no : Int) := by omega
          have hni : ¬ (i : Int) < (nu : Int) := by omega
          have HJ3 : Hid (JG v0 G (n : Int) (refG (v + 1) ps) m Am cm wr) := hide (by rw [refG_succ, HPW.out, ← rowsV_all p (v : Int) (i := i) (.inr (by have := HLen.out.2.1; omega))]; exact hJ.out)
          clear hJ
          go_wp2
          go_roundw
          case rel => exact ⟨v + 1, m, Am, cm, by omega, by go_num, HJ3, hm8⟩
          case measure => simp [intOf]; omega
        have hii : (i : Int) < (no : Int) := by omega
        have hiu : (i : Int) < (nu : Int) := by omega
        obtain ⟨o, ho⟩ : ∃ o, p.own[i]? = some o := ⟨_, List.getElem?_eq_getElem (by rw [HLen.out.1]; exact hin)⟩
        obtain ⟨r, hr⟩ : ∃ r, p.out[i]? = some r := ⟨_, List.getElem?_eq_getElem (by rw [HLen.out.2.1]; exact hinu)⟩
        obtain ⟨bo, oo, rfl, hbo, f0⟩ := HIn.out.own.at1 (ints_get ho)
        obtain ⟨bu, ou, A2, c2, rfl, hbu, d0, hc2, hcm, hE⟩ := HIn.out.out.get hr
        obtain ⟨q, hq⟩ : ∃ q, r.length = q := ⟨_, rfl⟩
        rw [hq] at d0 hc2
        have HQ := hide hq
        have f1 : wr.cell? ⟨bo, oo + i, none⟩ = some (.int .i64 o) := (HJB.out.cell (p := ⟨bo, oo + i, none⟩) hbo).trans f0
        have hlbo : bo < wr.heap.size := by omega
        have HRS := hide (rowsV_succ (v := (v : Int)) ho hr)
        have hq6 : q ≤ 60 := by have h9 := HR6.out; have h8 := row_le hr; omega
        have g1 : wr.cell? ⟨G, 1, none⟩ = some (.slice Am m cm) := cell_of_row _ _ 1 _ _ _ hJ.out.2.1
        have hGl := hJ.out.glt
        clear f0 ho hr
        by_cases hov : o = (v : Int)
        rotate_left
        · have hov1 : (o == (v : Int)) = false := by simpa using hov
          have HJ3 : Hid (JG v0 G (n : Int) (limF (refG v ps) (rowsV p (v : Int) (i + 1))) m Am cm wr) := hide (by rw [HRS.out, if_neg hov, List.append_nil]; exact hJ.out)
          clear hJ hov d0 hE hq
          go_wp2
          go_roundw
          case rel => exact ⟨i + 1, m, Am, cm, by omega, by go_num, HJ3, hm8⟩
          case measure => simp [intOf]; omega
        subst hov
        have HRS2 : Hid (rowsV p (v : Int) (i + 1) = rowsV p (v : Int) i ++ [r]) := hide (by rw [HRS.out, if_pos rfl])
        by_cases hm1 : m ≤ 8192
        rotate_left
        · have hmI : ¬ (m : Int) ≤ 8192 := by omega
          have HJ3 : Hid (JG v0 G (n : Int) (limF (refG v ps) (rowsV p (v : Int) (i + 1))) m Am cm wr) := hide (by rw [HRS2.out, lim_snoc, if_neg (by rw [hJ.out.1]; exact hm1)]; exact hJ.out)
          clear hJ d0 hE hq
          go_wp2
          go_roundw
          case rel => exact ⟨i + 1, m, Am, cm, by omega, by go_num, HJ3, hm8⟩
          case measure => simp [intOf]; omega
        have hmI : (m : Int) ≤ 8192 := by omega
        have e0 : wr.cell? ⟨bu, ou + i, none⟩ = some (.slice A2 q c2) := (HJB.out.cell (p := ⟨bu, ou + i, none⟩) hbu).trans d0
        have hlbu : bu < wr.heap.size := by omega
        have HE := hide (hE.below HJB.out (Nat.le_refl _))
        have hefl : (edFlat r).length = q * 3 := by rw [edFlat_len, hq]
        clear d0 hE hq
        go_upto_region 12 with fail
        clear f1 hlbo
        refine wpL_region (S := Kept wr) [10, 12] (by kernel_rfl) (Kept.drew wr) (fun hS0 => ?_)
        refine takeW_at (i := 0) (d := 85) (v := ?_) (by simp only [List.getElem?_toArray, List.getElem?_cons_succ, List.getElem?_cons_zero]; rfl) rfl (by kernel_rfl) (by kernel_rfl) (by kernel_rfl) (fun _ _ _ h => h) rfl ?_ ?_
        rotate_left
        focus (intro w; go_simp; (try with_reducible rfl); done)
        try simp only [List.setIfInBounds_toArray, List.set_cons_zero, List.set_cons_succ]
        refine takeL_at (i := 1) (d := 86) (v := ?_) (by simp only [List.getElem?_toArray, List.getElem?_cons_succ, List.getElem?_cons_zero]; rfl) rfl (by kernel_rfl) (by kernel_rfl) (by kernel_rfl) (by kernel_rfl) (fun _ _ _ h => h) rfl ?_ (by assumption) ?_
        rotate_left
        focus (intro w hSw; go_simp; (try with_reducible rfl); done)
        try simp only [List.setIfInBounds_toArray, List.set_cons_zero, List.set_cons_succ]
        refine takeW_at (i := 2) (d := 87) (v := ?_) (by simp only [List.getElem?_toArray, List.getElem?_cons_succ, List.getElem?_cons_zero]; rfl) rfl (by kernel_rfl) (by kernel_rfl) (by kernel_rfl) (fun _ _ _ h => h) rfl ?_ ?_
        rotate_left
        focus (intro w; go_simp; (try with_reducible rfl); done)
        try simp only [List.setIfInBounds_toArray, List.set_cons_zero, List.set_cons_succ]
        refine takeW_at (i := 3) (d := 88) (v := ?_) (by simp only [List.getElem?_toArray, List.getElem?_cons_succ, List.getElem?_cons_zero]; rfl) rfl (by kernel_rfl) (by kernel_rfl) (by kernel_rfl) (fun _ _ _ h => h) rfl ?_ ?_
        rotate_left
        focus (intro w; go_simp; (try with_reducible rfl); done)
        try simp only [List.setIfInBounds_toArray, List.set_cons_zero, List.set_cons_succ]
        refine takeW_at (i := 4) (d := 89) (v := ?_) (by simp only [List.getElem?_toArray, List.getElem?_cons_succ, List.getElem?_cons_zero]; rfl) rfl (by kernel_rfl) (by kernel_rfl) (by kernel_rfl) (fun _ _ _ h => h) rfl ?_ ?_
        rotate_left
        focus (intro w; go_simp; (try with_reducible rfl); done)
        try simp only [List.setIfInBounds_toArray, List.set_cons_zero, List.set_cons_succ]
        refine takeW_at (i := 5) (d := 90) (v := ?_) (by simp only [List.getElem?_toArray, List.getElem?_cons_succ, List.getElem?_cons_zero]; rfl) rfl (by kernel_rfl) (by kernel_rfl) (by kernel_rfl) (fun _ _ _ h => h) rfl ?_ ?_
        rotate_left
        focus (intro w; go_simp; (try with_reducible rfl); done)
        try simp only [List.setIfInBounds_toArray, List.set_cons_zero, List.set_cons_succ]
        refine takeU_at [6, 8, 9, 10, 11, 12] (i := 6) (d := 91) (v := ?_) (by simp only [List.getElem?_toArray, List.getElem?_cons_succ, List.getElem?_cons_zero]; rfl) rfl (by kernel_rfl) (by kernel_rfl) (by kernel_rfl) (by kernel_rfl) (by kernel_rfl) (by kernel_rfl) (fun _ _ _ h => h) rfl ?_ (by assumption) ?_
        rotate_left
        focus (intro w hSw; go_simp; (try with_reducible rfl); done)
        try simp only [List.setIfInBounds_toArray, List.set_cons_zero, List.set_cons_succ]
        refine takeW_at (i := 7) (d := 92) (v := ?_) (by simp only [List.getElem?_toArray, List.getElem?_cons_succ, List.getElem?_cons_zero]; rfl) rfl (by kernel_rfl) (by kernel_rfl) (by kernel_rfl) (fun _ _ _ h => h) rfl ?_ ?_
        rotate_left
        focus (intro w; go_simp; (try with_reducible rfl); done)
        try simp only [List.setIfInBounds_toArray, List.set_cons_zero, List.set_cons_succ]
        refine takeW_at (i := 8) (d := 93) (v := ?_) (by simp only [List.getElem?_toArray, List.getElem?_cons_succ, List.getElem?_cons_zero]; rfl) rfl (by kernel_rfl) (by kernel_rfl) (by kernel_rfl) (fun _ _ _ h => h) rfl ?_ ?_
        rotate_left
        focus (intro w; go_simp; (try with_reducible rfl); done)
        try simp only [List.setIfInBounds_toArray, List.set_cons_zero, List.set_cons_succ]
        refine takeL_at (i := 9) (d := 94) (v := ?_) (by simp only [List.getElem?_toArray, List.getElem?_cons_succ, List.getElem?_cons_zero]; rfl) rfl (by kernel_rfl) (by kernel_rfl) (by kernel_rfl) (by kernel_rfl) (fun _ _ _ h => h) rfl ?_ (by assumption) ?_
        rotate_left
        focus (intro w hSw; go_simp; (try with_reducible rfl); done)
        try simp only [List.setIfInBounds_toArray, List.set_cons_zero, List.set_cons_succ]
        refine exL_at (i := 10) (by simp only [List.getElem?_toArray, List.getElem?_cons_succ, List.getElem?_cons_zero]; rfl) (by kernel_rfl) rfl (by kernel_rfl) (fun K hK => ?_)
        have own2 := hJ.out.2.2.1.drew
        refine op_app (.tmp 86) (.tmp 94) 28 rfl v0.heap.size 44 a0 (.agg #[.int .i64 0, .int .i64 0, .int .i64 0]) 3 24 Try.underlying28 a0i a0z a0s a0b rfl (by decide) (.slice Am m cm) m _ rfl own2 v0.heap.size A2 q c2 (edFlat r) rfl hefl (HE.out.rd.keep fun _ _ => rfl) (edFlat_one r) (by unfold maxLen; omega) (by omega) srw ?_
        intro A3 c3 y own3 hg3 hat3
        have HX := (hJ.out.drew).app HQ.out own3 hg3 hat3
        have z0 : y.cell? ⟨G, 1, none⟩ = some (.slice Am m cm) := cell_of_row _ _ 1 _ _ _ HX.1
        have zf : y.frozen? ⟨G, 1, none⟩ = false := frozen_of_row _ _ 1 _ _ HX.1
        have HJ2 := hide HX.2
        have gl2 : G < y.heap.size := (Array.getElem?_eq_some_iff.1 HX.1).1
        clear HX own3 hg3 hat3 own2
        refine hK.out _ _ ?_
        clear hK K
        simp only [Act.put]
        try simp only [List.setIfInBounds_toArray, List.set_cons_zero, List.set_cons_succ]
        refine takeW_at (i := 11) (d := 96) (v := ?_) (by simp only [List.getElem?_toArray, List.getElem?_cons_succ, List.getElem?_cons_zero]; rfl) rfl (by kernel_rfl) (by kernel_rfl) (by kernel_rfl) (fun _ _ _ h => h) rfl ?_ ?_
        rotate_left
        focus (intro w; go_simp; (try with_reducible rfl); done)
        try simp only [List.setIfInBounds_toArray, List.set_cons_zero, List.set_cons_succ]
        refine exL_at (i := 12) (by simp only [List.getElem?_toArray, List.getElem?_cons_succ, List.getElem?_cons_zero]; rfl) (by kernel_rfl) rfl (by kernel_rfl) (fun K hK => ?_)
        go_wp2_with fail
        refine hK.out _ _ ?_
        clear hK K
        try simp only [List.setIfInBounds_toArray, List.set_cons_zero, List.set_cons_succ]
        refine wpAnyL_done (by kernel_rfl) ?_ _
        skip
        have HJ3 : Hid (JG v0 G (n : Int) (limF (refG v ps) (rowsV p (v : Int) (i + 1))) (m + q) A3 c3 (y.setCell ⟨G, 1, none⟩ (.slice A3 (m + q) c3))) := hide (by rw [HRS2.out, lim_snoc, if_pos (by rw [hJ.out.1]; exact hm1)]; exact HJ2.out)
        clear HJ2 hJ g1 z0 zf e0 e3 e4
        go_wp2
        go_roundw
        case rel => exact ⟨i + 1, m + q, A3, c3, by omega, by go_num, HJ3, by omega⟩
        case measure => simp [intOf]; omega
    · obtain rfl : n = v := by omega
      have hnI : ¬ (n : Int) < (n : Int) := by omega
      obtain ⟨v2, rfl⟩ : ∃ z : World, z = wr := ⟨_, rfl⟩
      obtain ⟨d, hd⟩ : ∃ d, refG n ps = d := ⟨_, rfl⟩
      rw [hd] at hJ
      have HD := hide hd
      have HWT : Hid (wt d) := hide (fun e he => by rw [← HD.out] at he; exact HP.out.wt e (refG_sub he))
      have HED : Hid (Eds v2 v2.heap.size Am d) := hide (Eds.of_rd (Rd.of_own hJ.out.2.2.1) HWT.out)
      have hmc : m ≤ cm := own_cap hJ.out.2.2.1
      have hcmx : cm ≤ 9223372036854775807 := own_max hJ.out.2.2.1
      have HJ4 := hJ
      have HDL := hide hJ.out.1
      have HG4 := hide hJ.out.2.1
      have HPv : Hid (PtRow v2 (some ⟨b, off, none⟩) ps) := hide (HP.out.next hJ.out.2.2.2.1)
      have hbl2 : b < v2.heap.size := by omega
      clear hd hJ hlt hv
      go_wp2
      go_loopw [8] (fun v8 wr => ∃ i : Nat, i ≤ L ∧ v8 = .int .i64 (i : Int) ∧ Hid (∀ (q : Nat) (p : PartV), q < i → ps[q]? = some p → cutErr (n : Int) d (L : Int) (q : Int) = 0 ∧ p = partF (n : Int) d (L : Int) (q : Int)) ∧ Hid (Below v2.heap.size v2 wr)) (fun v8 _ => L - (intOf v8).toNat)
      case atStart => exact ⟨0, by omega, rfl, hide (fun q p h => absurd h (by omega)), hide (Below.refl _ _)⟩
      case round =>
        clear g0
        obtain ⟨i, hi, rfl, hok, hbr⟩ := hrel
        have srw2 : v2.heap.size ≤ wr.heap.size := hbr.out.size
        by_cases hlt : i < L
        · have hI1 : (i : Int) < (L : Int) := by omega
          obtain ⟨p, hp⟩ : ∃ p, ps[i]? = some p := ⟨_, List.getElem?_eq_getElem (by rw [HL.out]; exact hlt)⟩
          obtain ⟨b9, off9, hbe, -, Ao, Au, Ab, no, nu, nb, co, cu, cb, d0, d1, d2, d3, d4, d5, hlen, hin, hbd⟩ := HPv.out.get hp
          injection hbe with hbe
          injection hbe with hb1 hb2
          subst hb1 hb2
          have HLen := hide hlen
          have HIn := hide hin
          have HBd := hide hbd
          have HPp := hide hp
          have D0 := hide d0
          have D1 := hide d1
          have D2 := hide d2
          have D3 := hide d3
          have D4 := hide d4
          have D5 := hide d5
          have hGs : G < wr.heap.size := by omega
          have g0 : wr.cell? ⟨G, 0, none⟩ = some (.int .i64 (n : Int)) := (hbr.out.cell (p := ⟨G, 0, none⟩) hGl).trans (cell_of_row _ _ 0 _ _ _ HG4.out)
          have g1 : wr.cell? ⟨G, 1, none⟩ = some (.slice Am m cm) := (hbr.out.cell (p := ⟨G, 1, none⟩) hGl).trans (cell_of_row _ _ 1 _ _ _ HG4.out)
          have HEs := hide ((HED.out.below hbr.out (Nat.le_refl _) |> fun h => Els.more h hbr.out.size))
          clear d0 d1 d2 d3 d4 d5 hlen hin hbd hp
          go_upto_region 16 with fail
          go_wp2_with fail
          refine (rcut_any _ (n : Int) Am d m cm (L : Int) (i : Int) HDL.out HEs.out (by omega)).mono ?_
          rintro e z ⟨no2, nu2, nb2, Ao2, co2, Au2, cu2, hu2, Ab2, cb2, hb2, k1, k2, k3, k4, k5, k6, rfl, ro2, ru2, rb2, hz⟩
          obtain ⟨q, hq⟩ : ∃ q, partF (n : Int) d (L : Int) (i : Int) = q := ⟨_, rfl⟩
          obtain ⟨ce, hce⟩ : ∃ q, cutErr (n : Int) d (L : Int) (i : Int) = q := ⟨_, rfl⟩
          rw [hq] at k1 k2 k3 ro2 ru2 rb2 ⊢
          rw [hce]
          have HQ := hide hq
          have HCE := hide hce
          have HK := hide (And.intro k1 (And.intro k2 k3))
          have RO := hide (Rd.of_own ro2)
          have RU := hide ru2.erows
          have RB := hide rb2.erows
          have HBz := hide (hbr.out.trans (hz.mono hbr.out.size))
          clear hq hce k1 k2 k3 ro2 ru2 rb2 hz g0 g1 hbr
          obtain ⟨ws, hz2⟩ : ∃ x, z.alloc (.cells #[.int .i64 q.wk, .int .i64 q.ws, .int .i64 q.vs, .slice Ao2 no2 co2, .slice Au2 nu2 cu2, .slice Ab2 nb2 cb2] 38) = x := ⟨_, rfl⟩
          have HZ2 := hide hz2
          have HBy : Hid (Below v2.heap.size v2 ws) := hide (by rw [← hz2]; exact HBz.out.alloc HBz.out.size _)
          have HZb : Hid (Below z.heap.size z ws) := hide (by rw [← hz2]; exact (Below.refl _ _).alloc (Nat.le_refl _) _)
          have HTq : Hid (ws.heap[z.heap.size]? = some (.cells #[.int .i64 q.wk, .int .i64 q.ws, .int .i64 q.vs, .slice Ao2 no2 co2, .slice Au2 nu2 cu2, .slice Ab2 nb2 cb2] 38)) := hide (by rw [← hz2]; exact heap_alloc_last _ _)
          clear hz2
          go_upto_region 17 with fail
          rw [HZ2.out]
          clear HZ2
          obtain ⟨U, hU⟩ : ∃ T, z.heap.size = T := ⟨_, rfl⟩
          rw [hU] at HTq ⊢
          have HUe := hide hU
          have hUl : U < ws.heap.size := (Array.getElem?_eq_some_iff.1 HTq.out).1
          have hsz2 : v2.heap.size ≤ ws.heap.size := HBy.out.size
          have hlb : b < ws.heap.size := by omega
          clear hU
          by_cases hce0 : ce = 0
          rotate_left
          · have hcb : (ce == 0) = false := by simpa using hce0
            have hcn : (ce != 0) = true := by simpa using hce0
            have HN : Hid (∀ e w', badG e → Below w.heap.size w w' → RJPost w ps e w') := hide (fun e w' h1 h2 => ⟨h2, .inr ⟨by rw [HL.out, HV.out]; exact ⟨hL0, hL6, by omega, by omega⟩, .inr ⟨fun ho => hce0 (by rw [HV.out, Int.toNat_natCast, HD.out] at ho; have h9 := (ho i p HPp.out).1; rw [HL.out, HCE.out] at h9; exact h9), h1⟩⟩⟩)
            clear hce0
            refine wp_region_held_drew (S := Kept ws) (by kernel_rfl) (Kept.drew ws) (fun hS0 => ?_)
            refine take_at (i := 0) (d := 111) (v := ?_) (by simp only [List.getElem?_toArray, List.getElem?_cons_succ, List.getElem?_cons_zero]; rfl) rfl (by kernel_rfl) (by kernel_rfl) (by kernel_rfl) (fun _ _ _ h => h) rfl ?_ (by assumption) ?_
            rotate_left
            focus (intro w hSw; go_simp; (try with_reducible rfl); done)
            try simp only [List.setIfInBounds_toArray, List.set_cons_zero, List.set_cons_succ]
            refine take_at (i := 1) (d := 112) (v := ?_) (by simp only [List.getElem?_toArray, List.getElem?_cons_succ, List.getElem?_cons_zero]; rfl) rfl (by kernel_rfl) (by kernel_rfl) (by kernel_rfl) (fun _ _ _ h => h) rfl ?_ (by assumption) ?_
            rotate_left
            focus (intro w hSw; go_simp; (try with_reducible rfl); done)
            try simp only [List.setIfInBounds_toArray, List.set_cons_zero, List.set_cons_succ]
            refine take_at (i := 2) (d := 113) (v := ?_) (by simp only [List.getElem?_toArray, List.getElem?_cons_succ, List.getElem?_cons_zero]; rfl) rfl (by kernel_rfl) (by kernel_rfl) (by kernel_rfl) (fun _ _ _ h => h) rfl ?_ (by assumption) ?_
            rotate_left
            focus (intro w hSw; go_simp; (try with_reducible rfl); done)
            try simp only [List.setIfInBounds_toArray, List.set_cons_zero, List.set_cons_succ]
            refine skip_at (i := 3) (d := 114) (by simp only [List.getElem?_toArray, List.getElem?_cons_succ, List.getElem?_cons_zero]; rfl) rfl (by kernel_rfl) (by kernel_rfl) (by kernel_rfl) (fun _ _ _ h => h) rfl (by assumption) ?_
            try simp only [List.setIfInBounds_toArray, List.set_cons_zero, List.set_cons_succ]
            refine skip_at (i := 4) (d := 115) (by simp only [List.getElem?_toArray, List.getElem?_cons_succ, List.getElem?_cons_zero]; rfl) rfl (by kernel_rfl) (by kernel_rfl) (by kernel_rfl) (fun _ _ _ h => h) rfl (by assumption) ?_
            try simp only [List.setIfInBounds_toArray, List.set_cons_zero, List.set_cons_succ]
            refine skip_at (i := 5) (d := 116) (by simp only [List.getElem?_toArray, List.getElem?_cons_succ, List.getElem?_cons_zero]; rfl) rfl (by kernel_rfl) (by kernel_rfl) (by kernel_rfl) (fun _ _ _ h => h) rfl (by assumption) ?_
            try simp only [List.setIfInBounds_toArray, List.set_cons_zero, List.set_cons_succ]
            refine skip_at (i := 6) (d := 117) (by simp only [List.getElem?_toArray, List.getElem?_cons_succ, List.getElem?_cons_zero]; rfl) rfl (by kernel_rfl) (by kernel_rfl) (by kernel_rfl) (fun _ _ _ h => h) rfl (by assumption) ?_
            try simp only [List.setIfInBounds_toArray, List.set_cons_zero, List.set_cons_succ]
            refine skip_at (i := 7) (d := 118) (by simp only [List.getElem?_toArray, List.getElem?_cons_succ, List.getElem?_cons_zero]; rfl) rfl (by kernel_rfl) (by kernel_rfl) (by kernel_rfl) (fun _ _ _ h => h) rfl (by assumption) ?_
            try simp only [List.setIfInBounds_toArray, List.set_cons_zero, List.set_cons_succ]
            refine skip_at (i := 8) (d := 119) (by simp only [List.getElem?_toArray, List.getElem?_cons_succ, List.getElem?_cons_zero]; rfl) rfl (by kernel_rfl) (by kernel_rfl) (by kernel_rfl) (fun _ _ _ h => h) rfl (by assumption) ?_
            try simp only [List.setIfInBounds_toArray, List.set_cons_zero, List.set_cons_succ]
            refine skip_at (i := 9) (d := 120) (by simp only [List.getElem?_toArray, List.getElem?_cons_succ, List.getElem?_cons_zero]; rfl) rfl (by kernel_rfl) (by kernel_rfl) (by kernel_rfl) (fun _ _ _ h => h) rfl (by assumption) ?_
            try simp only [List.setIfInBounds_toArray, List.set_cons_zero, List.set_cons_succ]
            refine take_at (i := 10) (d := 121) (v := ?_) (by simp only [List.getElem?_toArray, List.getElem?_cons_succ, List.getElem?_cons_zero]; rfl) rfl (by kernel_rfl) (by kernel_rfl) (by kernel_rfl) (fun _ _ _ h => h) rfl ?_ (by assumption) ?_
            rotate_left
            focus (intro w hSw; go_simp; (try with_reducible rfl); done)
            try simp only [List.setIfInBounds_toArray, List.set_cons_zero, List.set_cons_succ]
            refine wpAnyH_done (by kernel_rfl) ?_ _
            obtain ⟨wd, hwd⟩ : ∃ z, ws.drew = z := ⟨_, rfl⟩
            have HBd2 : Hid (Below v2.heap.size v2 wd) := hide (by rw [← hwd]; exact HBy.out.drew)
            rw [hwd]
            clear hwd hS0
            have ZW : Hid (wd.heap[w.heap.size]? = some (.cells #[.int .i64 0, .slice none 0 0] 30)) := hide ((HBd2.out.block _ (by omega)).trans ((HJ4.out.2.2.2.1.block _ (by omega)).trans M0.out))
            have HBf : Hid (Below w.heap.size w wd) := hide (HB0.out.trans ((HJ4.out.2.2.2.1.trans (HBd2.out.mono srw)).mono (by omega)))
            have zc0 : wd.cell? ⟨w.heap.size, 0, none⟩ = some (.int .i64 0) := cell_of_row _ _ 0 _ _ _ ZW.out
            have zcf0 : wd.frozen? ⟨w.heap.size, 0, none⟩ = false := frozen_of_row _ _ 0 _ _ ZW.out
            have zc1 : wd.cell? ⟨w.heap.size, 1, none⟩ = some (.slice none 0 0) := cell_of_row _ _ 1 _ _ _ ZW.out
            have zcf1 : wd.frozen? ⟨w.heap.size, 1, none⟩ = false := frozen_of_row _ _ 1 _ _ ZW.out
            have HFin := hide (two_fin (.int .i64 0) (.slice none 0 0) (.int .i64 0) (.slice none 0 0) (Nat.le_refl w.heap.size) ZW.out HBf.out)
            go_wp2
            obtain ⟨f, hf, hfB, h6, hfs, hfo⟩ := HFin.out
            rw [hf]
            have y0 : f.cell? ⟨w.heap.size, 0, none⟩ = some (.int .i64 0) := cell_of_row _ _ 0 _ _ _ h6
            have y1 : f.cell? ⟨w.heap.size, 1, none⟩ = some (.slice none 0 0) := cell_of_row _ _ 1 _ _ _ h6
            exact bodyPost_ret (v := .tuple #[.agg #[.int .i64 0, .slice none 0 0], .int .i64 2]) (by simp [results, Try.results22, go_sem, y0, y1]) rfl (HN.out _ _ rfl hfB)
          subst hce0
          have x0 : ws.cell? ⟨b, off + i * 6, none⟩ = some (.int .i64 p.wk) := (HBy.out.cell (p := ⟨b, off + i * 6, none⟩) hbl2).trans D0.out
          have x1 : ws.cell? ⟨b, off + i * 6 + 1, none⟩ = some (.int .i64 p.ws) := (HBy.out.cell (p := ⟨b, off + i * 6 + 1, none⟩) hbl2).trans D1.out
          have x2 : ws.cell? ⟨b, off + i * 6 + 2, none⟩ = some (.int .i64 p.vs) := (HBy.out.cell (p := ⟨b, off + i * 6 + 2, none⟩) hbl2).trans D2.out
          have x3 : ws.cell? ⟨b, off + i * 6 + 3, none⟩ = some (.slice Ao no co) := (HBy.out.cell (p := ⟨b, off + i * 6 + 3, none⟩) hbl2).trans D3.out
          have x4 : ws.cell? ⟨b, off + i * 6 + 4, none⟩ = some (.slice Au nu cu) := (HBy.out.cell (p := ⟨b, off + i * 6 + 4, none⟩) hbl2).trans D4.out
          have x5 : ws.cell? ⟨b, off + i * 6 + 5, none⟩ = some (.slice Ab nb cb) := (HBy.out.cell (p := ⟨b, off + i * 6 + 5, none⟩) hbl2).trans D5.out
          have y0 : ws.cell? ⟨U, 0, none⟩ = some (.int .i64 q.wk) := cell_of_row _ _ 0 _ _ _ HTq.out
          have y1 : ws.cell? ⟨U, 1, none⟩ = some (.int .i64 q.ws) := cell_of_row _ _ 1 _ _ _ HTq.out
          have y2 : ws.cell? ⟨U, 2, none⟩ = some (.int .i64 q.vs) := cell_of_row _ _ 2 _ _ _ HTq.out
          have y3 : ws.cell? ⟨U, 3, none⟩ = some (.slice Ao2 no2 co2) := cell_of_row _ _ 3 _ _ _ HTq.out
          have y4 : ws.cell? ⟨U, 4, none⟩ = some (.slice Au2 nu2 cu2) := cell_of_row _ _ 4 _ _ _ HTq.out
          have y5 : ws.cell? ⟨U, 5, none⟩ = some (.slice Ab2 nb2 cb2) := cell_of_row _ _ 5 _ _ _ HTq.out
          have HKp : Hid (Kept v2 ws) := hide (Kept.of_below HBy.out)
          obtain ⟨sb, hsb⟩ : ∃ s, (decide (q.wk = p.wk) && decide (q.ws = p.ws) && decide (q.vs = p.vs) && eqL q.own p.own && eqL q.out p.out && eqL q.back p.back) = s := ⟨_, rfl⟩
          have hsame := part_same q p
          rw [hsb] at hsame
          have HSM := hide hsame
          have HSB := hide hsb
          clear hsb hsame
          rcases sb with _ | _
          · refine wp_region_held_drew (S := Kept ws) (by kernel_rfl) (Kept.drew ws) (fun hS0 => ?_)
            refine take_at (i := 0) (d := 111) (v := ?_) (by simp only [List.getElem?_toArray, List.getElem?_cons_succ, List.getElem?_cons_zero]; rfl) rfl (by kernel_rfl) (by kernel_rfl) (by kernel_rfl) (fun _ _ _ h => h) rfl ?_ (by assumption) ?_
            rotate_left
            focus (intro w hSw; go_simp; (try with_reducible rfl); done)
            try simp only [List.setIfInBounds_toArray, List.set_cons_zero, List.set_cons_succ]
            refine take_at (i := 1) (d := 112) (v := ?_) (by simp only [List.getElem?_toArray, List.getElem?_cons_succ, List.getElem?_cons_zero]; rfl) rfl (by kernel_rfl) (by kernel_rfl) (by kernel_rfl) (fun _ _ _ h => h) rfl ?_ (by assumption) ?_
            rotate_left
            focus (intro w hSw; go_simp; (try with_reducible rfl); done)
            try simp only [List.setIfInBounds_toArray, List.set_cons_zero, List.set_cons_succ]
            refine take_at (i := 2) (d := 113) (v := ?_) (by simp only [List.getElem?_toArray, List.getElem?_cons_succ, List.getElem?_cons_zero]; rfl) rfl (by kernel_rfl) (by kernel_rfl) (by kernel_rfl) (fun _ _ _ h => h) rfl ?_ (by assumption) ?_
            rotate_left
            focus (intro w hSw; go_simp; (try with_reducible rfl); done)
            try simp only [List.setIfInBounds_toArray, List.set_cons_zero, List.set_cons_succ]
            refine take_at (i := 3) (d := 114) (v := ?_) (by simp only [List.getElem?_toArray, List.getElem?_cons_succ, List.getElem?_cons_zero]; rfl) rfl (by kernel_rfl) (by kernel_rfl) (by kernel_rfl) (fun _ _ _ h => h) rfl ?_ (by assumption) ?_
            rotate_left
            focus (intro w hSw; go_simp; (try with_reducible rfl); done)
            try simp only [List.setIfInBounds_toArray, List.set_cons_zero, List.set_cons_succ]
            refine take_at (i := 4) (d := 115) (v := ?_) (by simp only [List.getElem?_toArray, List.getElem?_cons_succ, List.getElem?_cons_zero]; rfl) rfl (by kernel_rfl) (by kernel_rfl) (by kernel_rfl) (fun _ _ _ h => h) rfl ?_ (by assumption) ?_
            rotate_left
            focus (intro w hSw; go_simp; (try with_reducible rfl); done)
            try simp only [List.setIfInBounds_toArray, List.set_cons_zero, List.set_cons_succ]
            refine take_at (i := 5) (d := 116) (v := ?_) (by simp only [List.getElem?_toArray, List.getElem?_cons_succ, List.getElem?_cons_zero]; rfl) rfl (by kernel_rfl) (by kernel_rfl) (by kernel_rfl) (fun _ _ _ h => h) rfl ?_ (by assumption) ?_
            rotate_left
            focus (intro w hSw; go_simp; (try with_reducible rfl); done)
            try simp only [List.setIfInBounds_toArray, List.set_cons_zero, List.set_cons_succ]
            refine take_at (i := 6) (d := 117) (v := ?_) (by simp only [List.getElem?_toArray, List.getElem?_cons_succ, List.getElem?_cons_zero]; rfl) rfl (by kernel_rfl) (by kernel_rfl) (by kernel_rfl) (fun _ _ _ h => h) rfl ?_ (by assumption) ?_
            rotate_left
            focus (intro w hSw; go_simp; (try with_reducible rfl); done)
            try simp only [List.setIfInBounds_toArray, List.set_cons_zero, List.set_cons_succ]
            refine take_at (i := 7) (d := 118) (v := ?_) (by simp only [List.getElem?_toArray, List.getElem?_cons_succ, List.getElem?_cons_zero]; rfl) rfl (by kernel_rfl) (by kernel_rfl) (by kernel_rfl) (fun _ _ _ h => h) rfl ?_ (by assumption) ?_
            rotate_left
            focus (intro w hSw; go_simp; (try with_reducible rfl); done)
            try simp only [List.setIfInBounds_toArray, List.set_cons_zero, List.set_cons_succ]
            refine call_at (i := 8) (d := 119) (by simp only [List.getElem?_toArray, List.getElem?_cons_succ, List.getElem?_cons_zero]; rfl) rfl (by kernel_rfl) rfl (fun K hK => ?_)
            go_simp
            refine (psame_any ws.drew q.wk q.ws q.vs Ao2 Au2 Ab2 q.own q.out q.back no2 co2 nu2 cu2 nb2 cb2 HK.out.1 HK.out.2.1 HK.out.2.2 (by omega) (by omega) (by omega) ((RO.out.next HZb.out).keep fun _ _ => rfl) ((RU.out.next HZb.out).keep fun _ _ => rfl) ((RB.out.next HZb.out).keep fun _ _ => rfl) p.wk p.ws p.vs Ao Au Ab p.own p.out p.back no co nu cu nb cb HLen.out.1 HLen.out.2.1 HLen.out.2.2 HBd.out.1 HBd.out.2.1 HBd.out.2.2 (HIn.out.kept (w := ws.drew) HKp.out hsz2).own (HIn.out.kept (w := ws.drew) HKp.out hsz2).out (HIn.out.kept (w := ws.drew) HKp.out hsz2).back).mono ?_
            rintro e z3 ⟨rfl, h3⟩
            have hS1 : Kept ws z3 := hS0.below (Nat.le_refl _) h3
            have HB3 := hide (HBy.out.drew.trans (h3.mono hsz2))
            clear h3
            rw [HSB.out]
            go_wp2_with fail
            refine hK.out _ _ hS1 (fun hSn => ?_)
            clear hK K
            try simp only [List.setIfInBounds_toArray, List.set_cons_zero, List.set_cons_succ]
            refine take_at (i := 9) (d := 120) (v := ?_) (by simp only [List.getElem?_toArray, List.getElem?_cons_succ, List.getElem?_cons_zero]; rfl) rfl (by kernel_rfl) (by kernel_rfl) (by kernel_rfl) (fun _ _ _ h => h) rfl ?_ (by assumption) ?_
            rotate_left
            focus (intro w hSw; go_simp; (try with_reducible rfl); done)
            try simp only [List.setIfInBounds_toArray, List.set_cons_zero, List.set_cons_succ]
            refine take_at (i := 10) (d := 121) (v := ?_) (by simp only [List.getElem?_toArray, List.getElem?_cons_succ, List.getElem?_cons_zero]; rfl) rfl (by kernel_rfl) (by kernel_rfl) (by kernel_rfl) (fun _ _ _ h => h) rfl ?_ (by assumption) ?_
            rotate_left
            focus (intro w hSw; go_simp; (try with_reducible rfl); done)
            try simp only [List.setIfInBounds_toArray, List.set_cons_zero, List.set_cons_succ]
            refine wpAnyH_done (by kernel_rfl) ?_ _
            clear x0 y0 x1 y1 x2 y2 x3 y3 x4 y4 x5 y5
            have HN : Hid (∀ e w', badG e → Below w.heap.size w w' → RJPost w ps e w') := hide (fun e w' h1 h2 => ⟨h2, .inr ⟨by rw [HL.out, HV.out]; exact ⟨hL0, hL6, by omega, by omega⟩, .inr ⟨fun ho => by rw [HV.out, Int.toNat_natCast, HD.out] at ho; have h9 := (ho i p HPp.out).2; rw [HL.out, HQ.out] at h9; exact absurd (HSM.out.2 h9.symm) (by decide), h1⟩⟩⟩)
            have ZW : Hid (z3.heap[w.heap.size]? = some (.cells #[.int .i64 0, .slice none 0 0] 30)) := hide ((HB3.out.block _ (by omega)).trans ((HJ4.out.2.2.2.1.block _ (by omega)).trans M0.out))
            have HBf : Hid (Below w.heap.size w z3) := hide (HB0.out.trans ((HJ4.out.2.2.2.1.trans (HB3.out.mono srw)).mono (by omega)))
            have zc0 : z3.cell? ⟨w.heap.size, 0, none⟩ = some (.int .i64 0) := cell_of_row _ _ 0 _ _ _ ZW.out
            have zcf0 : z3.frozen? ⟨w.heap.size, 0, none⟩ = false := frozen_of_row _ _ 0 _ _ ZW.out
            have zc1 : z3.cell? ⟨w.heap.size, 1, none⟩ = some (.slice none 0 0) := cell_of_row _ _ 1 _ _ _ ZW.out
            have zcf1 : z3.frozen? ⟨w.heap.size, 1, none⟩ = false := frozen_of_row _ _ 1 _ _ ZW.out
            have HFin := hide (two_fin (.int .i64 0) (.slice none 0 0) (.int .i64 0) (.slice none 0 0) (Nat.le_refl w.heap.size) ZW.out HBf.out)
            go_wp2
            obtain ⟨f, hf, hfB, h6, hfs, hfo⟩ := HFin.out
            rw [hf]
            have y0 : f.cell? ⟨w.heap.size, 0, none⟩ = some (.int .i64 0) := cell_of_row _ _ 0 _ _ _ h6
            have y1 : f.cell? ⟨w.heap.size, 1, none⟩ = some (.slice none 0 0) := cell_of_row _ _ 1 _ _ _ h6
            exact bodyPost_ret (v := .tuple #[.agg #[.int .i64 0, .slice none 0 0], .int .i64 2]) (by simp [results, Try.results22, go_sem, y0, y1]) rfl (HN.out _ _ rfl hfB)
          · refine wp_region_held_drew (S := Kept ws) (by kernel_rfl) (Kept.drew ws) (fun hS0 => ?_)
            refine take_at (i := 0) (d := 111) (v := ?_) (by simp only [List.getElem?_toArray, List.getElem?_cons_succ, List.getElem?_cons_zero]; rfl) rfl (by kernel_rfl) (by kernel_rfl) (by kernel_rfl) (fun _ _ _ h => h) rfl ?_ (by assumption) ?_
            rotate_left
            focus (intro w hSw; go_simp; (try with_reducible rfl); done)
            try simp only [List.setIfInBounds_toArray, List.set_cons_zero, List.set_cons_succ]
            refine take_at (i := 1) (d := 112) (v := ?_) (by simp only [List.getElem?_toArray, List.getElem?_cons_succ, List.getElem?_cons_zero]; rfl) rfl (by kernel_rfl) (by kernel_rfl) (by kernel_rfl) (fun _ _ _ h => h) rfl ?_ (by assumption) ?_
            rotate_left
            focus (intro w hSw; go_simp; (try with_reducible rfl); done)
            try simp only [List.setIfInBounds_toArray, List.set_cons_zero, List.set_cons_succ]
            refine take_at (i := 2) (d := 113) (v := ?_) (by simp only [List.getElem?_toArray, List.getElem?_cons_succ, List.getElem?_cons_zero]; rfl) rfl (by kernel_rfl) (by kernel_rfl) (by kernel_rfl) (fun _ _ _ h => h) rfl ?_ (by assumption) ?_
            rotate_left
            focus (intro w hSw; go_simp; (try with_reducible rfl); done)
            try simp only [List.setIfInBounds_toArray, List.set_cons_zero, List.set_cons_succ]
            refine take_at (i := 3) (d := 114) (v := ?_) (by simp only [List.getElem?_toArray, List.getElem?_cons_succ, List.getElem?_cons_zero]; rfl) rfl (by kernel_rfl) (by kernel_rfl) (by kernel_rfl) (fun _ _ _ h => h) rfl ?_ (by assumption) ?_
            rotate_left
            focus (intro w hSw; go_simp; (try with_reducible rfl); done)
            try simp only [List.setIfInBounds_toArray, List.set_cons_zero, List.set_cons_succ]
            refine take_at (i := 4) (d := 115) (v := ?_) (by simp only [List.getElem?_toArray, List.getElem?_cons_succ, List.getElem?_cons_zero]; rfl) rfl (by kernel_rfl) (by kernel_rfl) (by kernel_rfl) (fun _ _ _ h => h) rfl ?_ (by assumption) ?_
            rotate_left
            focus (intro w hSw; go_simp; (try with_reducible rfl); done)
            try simp only [List.setIfInBounds_toArray, List.set_cons_zero, List.set_cons_succ]
            refine take_at (i := 5) (d := 116) (v := ?_) (by simp only [List.getElem?_toArray, List.getElem?_cons_succ, List.getElem?_cons_zero]; rfl) rfl (by kernel_rfl) (by kernel_rfl) (by kernel_rfl) (fun _ _ _ h => h) rfl ?_ (by assumption) ?_
            rotate_left
            focus (intro w hSw; go_simp; (try with_reducible rfl); done)
            try simp only [List.setIfInBounds_toArray, List.set_cons_zero, List.set_cons_succ]
            refine take_at (i := 6) (d := 117) (v := ?_) (by simp only [List.getElem?_toArray, List.getElem?_cons_succ, List.getElem?_cons_zero]; rfl) rfl (by kernel_rfl) (by kernel_rfl) (by kernel_rfl) (fun _ _ _ h => h) rfl ?_ (by assumption) ?_
            rotate_left
            focus (intro w hSw; go_simp; (try with_reducible rfl); done)
            try simp only [List.setIfInBounds_toArray, List.set_cons_zero, List.set_cons_succ]
            refine take_at (i := 7) (d := 118) (v := ?_) (by simp only [List.getElem?_toArray, List.getElem?_cons_succ, List.getElem?_cons_zero]; rfl) rfl (by kernel_rfl) (by kernel_rfl) (by kernel_rfl) (fun _ _ _ h => h) rfl ?_ (by assumption) ?_
            rotate_left
            focus (intro w hSw; go_simp; (try with_reducible rfl); done)
            try simp only [List.setIfInBounds_toArray, List.set_cons_zero, List.set_cons_succ]
            refine call_at (i := 8) (d := 119) (by simp only [List.getElem?_toArray, List.getElem?_cons_succ, List.getElem?_cons_zero]; rfl) rfl (by kernel_rfl) rfl (fun K hK => ?_)
            go_simp
            refine (psame_any ws.drew q.wk q.ws q.vs Ao2 Au2 Ab2 q.own q.out q.back no2 co2 nu2 cu2 nb2 cb2 HK.out.1 HK.out.2.1 HK.out.2.2 (by omega) (by omega) (by omega) ((RO.out.next HZb.out).keep fun _ _ => rfl) ((RU.out.next HZb.out).keep fun _ _ => rfl) ((RB.out.next HZb.out).keep fun _ _ => rfl) p.wk p.ws p.vs Ao Au Ab p.own p.out p.back no co nu cu nb cb HLen.out.1 HLen.out.2.1 HLen.out.2.2 HBd.out.1 HBd.out.2.1 HBd.out.2.2 (HIn.out.kept (w := ws.drew) HKp.out hsz2).own (HIn.out.kept (w := ws.drew) HKp.out hsz2).out (HIn.out.kept (w := ws.drew) HKp.out hsz2).back).mono ?_
            rintro e z3 ⟨rfl, h3⟩
            have hS1 : Kept ws z3 := hS0.below (Nat.le_refl _) h3
            have HB3 := hide (HBy.out.drew.trans (h3.mono hsz2))
            clear h3
            rw [HSB.out]
            go_wp2_with fail
            refine hK.out _ _ hS1 (fun hSn => ?_)
            clear hK K
            try simp only [List.setIfInBounds_toArray, List.set_cons_zero, List.set_cons_succ]
            refine take_at (i := 9) (d := 120) (v := ?_) (by simp only [List.getElem?_toArray, List.getElem?_cons_succ, List.getElem?_cons_zero]; rfl) rfl (by kernel_rfl) (by kernel_rfl) (by kernel_rfl) (fun _ _ _ h => h) rfl ?_ (by assumption) ?_
            rotate_left
            focus (intro w hSw; go_simp; (try with_reducible rfl); done)
            try simp only [List.setIfInBounds_toArray, List.set_cons_zero, List.set_cons_succ]
            refine take_at (i := 10) (d := 121) (v := ?_) (by simp only [List.getElem?_toArray, List.getElem?_cons_succ, List.getElem?_cons_zero]; rfl) rfl (by kernel_rfl) (by kernel_rfl) (by kernel_rfl) (fun _ _ _ h => h) rfl ?_ (by assumption) ?_
            rotate_left
            focus (intro w hSw; go_simp; (try with_reducible rfl); done)
            try simp only [List.setIfInBounds_toArray, List.set_cons_zero, List.set_cons_succ]
            refine wpAnyH_done (by kernel_rfl) ?_ _
            clear x0 y0 x1 y1 x2 y2 x3 y3 x4 y4 x5 y5
            have HOK : Hid (∀ (j : Nat) (p : PartV), j < i + 1 → ps[j]? = some p → cutErr (n : Int) d (L : Int) (j : Int) = 0 ∧ p = partF (n : Int) d (L : Int) (j : Int)) := hide (fun j p' hj hp' => by
                by_cases h8 : j < i
                · exact hok.out j p' h8 hp'
                · obtain rfl : j = i := by omega
                  have e9 := HPp.out
                  rw [hp'] at e9
                  injection e9 with e9
                  subst e9
                  exact ⟨HCE.out, by rw [HQ.out]; exact (HSM.out.1 (by first | rfl | trivial)).symm⟩)
            clear hok
            go_wp2
            go_roundw
            case rel => exact ⟨i + 1, by omega, by go_num, HOK, HB3⟩
            case measure => simp [intOf]; omega
        · obtain rfl : L = i := by omega
          have hLI9 : ¬ (L : Int) < (L : Int) := by omega
          have ZW : Hid (wr.heap[w.heap.size]? = some (.cells #[.int .i64 0, .slice none 0 0] 30)) := hide ((hbr.out.block _ (by omega)).trans ((HJ4.out.2.2.2.1.block _ (by omega)).trans M0.out))
          have HBf : Hid (Below w.heap.size w wr) := hide (HB0.out.trans ((HJ4.out.2.2.2.1.trans (hbr.out.mono srw)).mono (by omega)))
          have hGr : G < wr.heap.size := by omega
          have g0 : wr.cell? ⟨G, 0, none⟩ = some (.int .i64 (n : Int)) := (hbr.out.cell (p := ⟨G, 0, none⟩) hGl).trans (cell_of_row _ _ 0 _ _ _ HG4.out)
          have g1 : wr.cell? ⟨G, 1, none⟩ = some (.slice Am m cm) := (hbr.out.cell (p := ⟨G, 1, none⟩) hGl).trans (cell_of_row _ _ 1 _ _ _ HG4.out)
          have HOKG : Hid (okG (n : Int) d ps) := hide (fun q p hp => by rw [HL.out]; exact hok.out q p (by have := (List.getElem?_eq_some_iff.1 hp).1; have := HL.out; omega) hp)
          clear hok
          have zc0 : wr.cell? ⟨w.heap.size, 0, none⟩ = some (.int .i64 0) := cell_of_row _ _ 0 _ _ _ ZW.out
          have zcf0 : wr.frozen? ⟨w.heap.size, 0, none⟩ = false := frozen_of_row _ _ 0 _ _ ZW.out
          have zc1 : wr.cell? ⟨w.heap.size, 1, none⟩ = some (.slice none 0 0) := cell_of_row _ _ 1 _ _ _ ZW.out
          have zcf1 : wr.frozen? ⟨w.heap.size, 1, none⟩ = false := frozen_of_row _ _ 1 _ _ ZW.out
          have HFin := hide (two_fin (.int .i64 0) (.slice none 0 0) (.int .i64 (n : Int)) (.slice Am m cm) (Nat.le_refl w.heap.size) ZW.out HBf.out)
          go_wp2
          obtain ⟨f, hf, hfB, h6, hfs, hfo⟩ := HFin.out
          rw [hf]
          have y0 : f.cell? ⟨w.heap.size, 0, none⟩ = some (.int .i64 (n : Int)) := cell_of_row _ _ 0 _ _ _ h6
          have y1 : f.cell? ⟨w.heap.size, 1, none⟩ = some (.slice Am m cm) := cell_of_row _ _ 1 _ _ _ h6
          have o1 := own_below HJ4.out.2.2.1 hbr.out (fun g hg => (HJ4.out.2.2.1.lt g hg).2)
          have hkb : KB [w.heap.size] wr f := ⟨by omega, fun b hb hx => hfo b (by simpa using hx)⟩
          have hEf : Eds f f.heap.size Am d := Eds.of_rd (Rd.of_own (hkb.own o1 (fun g hg => by have := (o1.lt g hg).1; simp; omega))) HWT.out
          exact bodyPost_ret (v := .tuple #[.agg #[.int .i64 (n : Int), .slice Am m cm], .int .i64 0]) (by simp [results, Try.results22, go_sem, y0, y1]) rfl ⟨hfB, .inr ⟨by rw [HL.out, HV.out]; exact ⟨hL0, hL6, by omega, by omega⟩, .inl ⟨by rw [HV.out, Int.toNat_natCast, HD.out]; exact HOKG.out, by rw [HV.out, Int.toNat_natCast, HD.out]; exact ⟨Am, cm, by rw [HDL.out], hEf, by rw [HDL.out]; exact hmc, hcmx⟩⟩⟩⟩
end Go.Proofs.Ytihdpfjonkagaaa
