/- Parts put together into a graph: the program's Join. (printed by gen/pjn.py) -/
import Derived.Test.YtihdpfjonkagaaaProg
import Derived.Test.YtihdpfjonkagaaaPjh
import Derived.Test.YtihdpfjonkagaaaEqe
import Derived.Deep.DeepCutAuto
import Derived.Lib.Hide
import Derived.WalkSpells
import Derived.WalkMore
import Derived.IntWalk
namespace Go.Proofs.Ytihdpfjonkagaaa
open Go.RowKit
set_option linter.unusedVariables false
set_option linter.unusedSimpArgs false
set_option maxRecDepth 100000 in
set_option maxHeartbeats 16000000 in
theorem pjoin_any (w : World) (A : Option Addr) (ps : List PartV) (L c : Nat) (hL : ps.length = L) (hP : PtRow w A ps) (hLm : L ≤ 9223372036854775807) (ht : (allOut ps).length ≤ 8192) :
    Calls Try.prog 21 #[.slice A L c] w (PJPost w ps) := by
  obtain ⟨a0, a0i, a0z, a0s, a0b⟩ := info_parts (show (Try.prog.info? 44).map (fun i => (i.zero, i.size, i.bytes)) = some (some (.agg #[.int .i64 0, .int .i64 0, .int .i64 0]), 3, 24) by kernel_rfl)
  obtain ⟨v0, hu⟩ : ∃ u, w.alloc (.cells #[.int .i64 0, .slice none 0 0] 30) = u := ⟨_, rfl⟩
  have hzu : v0.heap.size = w.heap.size + 1 := by rw [← hu]; simp
  have HB0 := hide (show Below w.heap.size w v0 by rw [← hu]; exact (Below.refl _ _).alloc (Nat.le_refl _) _)
  have M0 := hide (show v0.heap[w.heap.size]? = some (.cells #[.int .i64 0, .slice none 0 0] 30) by rw [← hu]; exact heap_alloc_last _ _)
  have HP := hide (hP.next HB0.out)
  have HU := hide hu
  have HL := hide hL
  have HT := hide ht
  clear hu hP hL ht
  have hmi : (1 ≤ (L : Int) ∧ (L : Int) ≤ 64) ↔ (1 ≤ L ∧ L ≤ 64) := by omega
  have HZU := hide hzu
  have hzl : w.heap.size < v0.heap.size := by omega
  clear hzu
  by_cases hL1 : 1 ≤ L ∧ L ≤ 64
  rotate_left
  · have hm : mayB (L : Int) = false := by rw [Bool.eq_false_iff]; intro h; exact hL1 (hmi.1 (mayB_iff.1 h))
    have HN : Hid (∀ e w', badG e → Below w.heap.size w w' → PJPost w ps e w') := hide (fun e w' h1 h2 => ⟨h2, .inl ⟨by rw [HL.out]; exact hL1, h1⟩⟩)
    have HMB := hide hm
    clear hmi hL1 hm
    have ZW := M0
    have HBf := HB0
    go_enter Try.func21, Try.ntmps21
    go_upto_region 1 with fail
    rw [HU.out]
    go_wp2_with fail
    refine (may_any _ (L : Int)).mono ?_
    rintro e w1 ⟨rfl, rfl⟩
    rw [HMB.out]
    have zc0 : w1.cell? ⟨w.heap.size, 0, none⟩ = some (.int .i64 0) := cell_of_row _ _ 0 _ _ _ ZW.out
    have zcf0 : w1.frozen? ⟨w.heap.size, 0, none⟩ = false := frozen_of_row _ _ 0 _ _ ZW.out
    have zc1 : w1.cell? ⟨w.heap.size, 1, none⟩ = some (.slice none 0 0) := cell_of_row _ _ 1 _ _ _ ZW.out
    have zcf1 : w1.frozen? ⟨w.heap.size, 1, none⟩ = false := frozen_of_row _ _ 1 _ _ ZW.out
    have HFin := hide (two_fin (.int .i64 0) (.slice none 0 0) (.int .i64 0) (.slice none 0 0) (Nat.le_refl w.heap.size) ZW.out HBf.out)
    go_wp2
    obtain ⟨f, hf, hfB, h6, hfs, hfo⟩ := HFin.out
    rw [hf]
    have y0 : f.cell? ⟨w.heap.size, 0, none⟩ = some (.int .i64 0) := cell_of_row _ _ 0 _ _ _ h6
    have y1 : f.cell? ⟨w.heap.size, 1, none⟩ = some (.slice none 0 0) := cell_of_row _ _ 1 _ _ _ h6
    exact bodyPost_ret (v := .tuple #[.agg #[.int .i64 0, .slice none 0 0], .int .i64 2]) (by simp [results, Try.results21, go_sem, y0, y1]) rfl (HN.out _ _ rfl hfB)
  have hm : mayB (L : Int) = true := mayB_iff.2 (hmi.2 hL1)
  obtain ⟨hL0, hL6⟩ := hL1
  have HMB := hide hm
  clear hmi hm
  have hLI0 : (0 : Int) < (L : Int) := by omega
  obtain ⟨p0, hp0⟩ : ∃ p, ps[0]? = some p := ⟨_, List.getElem?_eq_getElem (by rw [HL.out]; omega)⟩
  obtain ⟨b, off, rfl, hbl, Ao, Au, Ab, no, nu, nb, co, cu, cb, -, -, d2, -, -, -, -, -, -⟩ := HP.out.get hp0
  obtain ⟨V, hV⟩ : ∃ V, vsOf ps = V := ⟨_, rfl⟩
  have hv0 : p0.vs = V := by rw [← hV]; unfold vsOf; rw [List.getD_eq_getElem?_getD, hp0]; rfl
  rw [hv0] at d2
  have HV := hide hV
  have c0 : v0.cell? ⟨b, off + 2, none⟩ = some (.int .i64 V) := by simpa using d2
  clear d2 hV hv0 hp0 Ao Au Ab no nu nb co cu cb p0
  obtain ⟨v1, hv1⟩ : ∃ u, v0.alloc (.cells #[.int .i64 V, .slice none 0 0] 30) = u := ⟨_, rfl⟩
  have HV1 := hide hv1
  have HJ0 : Hid (JG v0 v0.heap.size V [] 0 none 0 v1) := hide (by rw [← hv1]; exact ⟨rfl, heap_alloc_last _ _, World.ownsRow_nil _ _ _ _, (Below.refl _ _).alloc (Nat.le_refl _) _, Nat.le_refl _⟩)
  clear hv1
  go_enter Try.func21, Try.ntmps21
  go_upto_region 1 with fail
  rw [HU.out]
  go_wp2_with fail
  refine (may_any _ (L : Int)).mono ?_
  rintro e w1 ⟨rfl, rfl⟩
  rw [HMB.out]
  go_upto_region 4 with fail
  rw [HV1.out]
  clear HMB HV1 HU c0
  obtain ⟨G, hG⟩ : ∃ G, w1.heap.size = G := ⟨_, rfl⟩
  have HG := hide hG
  have HJ0 : Hid (JG w1 G V [] 0 none 0 v1) := hide (by rw [← hG]; exact HJ0.out)
  rw [HG.out]
  clear hG
  go_wp2
  go_loopw [25] (fun v25 wr => ∃ (i m : Nat) (Am : Option Addr) (cm : Nat), i ≤ L ∧ v25 = .int .i64 (i : Int) ∧ Hid (JG w1 G V (allOut (ps.take i)) m Am cm wr)) (fun v25 _ => L - (intOf v25).toNat)
  case atStart => exact ⟨0, 0, none, 0, by omega, rfl, by simpa [allOut] using HJ0⟩
  case round =>
    obtain ⟨i, m, Am, cm, hi, rfl, hJ⟩ := hrel
    have srw : w1.heap.size ≤ wr.heap.size := hJ.out.2.2.2.1.size
    by_cases hlt : i < L
    · have hI1 : (i : Int) < (L : Int) := by omega
      obtain ⟨p, hp⟩ : ∃ p, ps[i]? = some p := ⟨_, List.getElem?_eq_getElem (by rw [HL.out]; exact hlt)⟩
      obtain ⟨b9, off9, hbe, -, Ao, Au, Ab, no, nu, nb, co, cu, cb, d0, d1, d2, d3, d4, d5, hlen, hin, hbd⟩ := HP.out.get hp
      injection hbe with hbe
      injection hbe with hb1 hb2
      subst hb1 hb2
      have HLen := hide hlen
      have HIn := hide hin
      have HAS := hide (allOut_succ hp)
      have HAL := hide (Nat.le_trans (allOut_len hp) HT.out)
      have e0 : wr.cell? ⟨b, off + i * 6, none⟩ = some (.int .i64 p.wk) := (hJ.out.2.2.2.1.cell (p := ⟨b, off + i * 6, none⟩) hbl).trans d0
      have e1 : wr.cell? ⟨b, off + i * 6 + 1, none⟩ = some (.int .i64 p.ws) := (hJ.out.2.2.2.1.cell (p := ⟨b, off + i * 6 + 1, none⟩) hbl).trans d1
      have e2 : wr.cell? ⟨b, off + i * 6 + 2, none⟩ = some (.int .i64 p.vs) := (hJ.out.2.2.2.1.cell (p := ⟨b, off + i * 6 + 2, none⟩) hbl).trans d2
      have e3 : wr.cell? ⟨b, off + i * 6 + 3, none⟩ = some (.slice Ao no co) := (hJ.out.2.2.2.1.cell (p := ⟨b, off + i * 6 + 3, none⟩) hbl).trans d3
      have e4 : wr.cell? ⟨b, off + i * 6 + 4, none⟩ = some (.slice Au nu cu) := (hJ.out.2.2.2.1.cell (p := ⟨b, off + i * 6 + 4, none⟩) hbl).trans d4
      have e5 : wr.cell? ⟨b, off + i * 6 + 5, none⟩ = some (.slice Ab nb cb) := (hJ.out.2.2.2.1.cell (p := ⟨b, off + i * 6 + 5, none⟩) hbl).trans d5
      have hlb : b < wr.heap.size := by omega
      obtain ⟨ws, hws⟩ : ∃ z, wr.alloc (.cells #[.int .i64 p.wk, .int .i64 p.ws, .int .i64 p.vs, .slice Ao no co, .slice Au nu cu, .slice Ab nb cb] 34) = z := ⟨_, rfl⟩
      have HJs : Hid (JG w1 G V (allOut (ps.take i)) m Am cm ws) := hide (by rw [← hws]; exact hJ.out.alloc _)
      have HWS := hide hws
      have x4 : ws.cell? ⟨wr.heap.size, 4, none⟩ = some (.slice Au nu cu) := by rw [← hws]; exact cell_of_row _ _ 4 _ _ _ (heap_alloc_last _ _)
      have hnu : nu ≤ 9223372036854775807 := hbd.2.1
      clear d0 d1 d2 d3 d4 d5 hlen hin hbd hp hws hJ
      go_upto_region 7 with fail
      rw [HWS.out]
      clear e0 e1 e2 e3 e4 e5 hlb HWS
      go_wp2
      obtain ⟨wo, rfl⟩ : ∃ z : World, z = wr := ⟨_, rfl⟩
      go_loopw [32] (fun v32 wr => ∃ (k m : Nat) (Am : Option Addr) (cm : Nat), k ≤ nu ∧ v32 = .int .i64 (k : Int) ∧ Hid (JG w1 G V (allOut (ps.take i) ++ (p.out.take k).flatten) m Am cm wr)) (fun v32 _ => nu - (intOf v32).toNat)
      case atStart => exact ⟨0, m, Am, cm, by omega, rfl, by simpa using HJs⟩
      case round =>
        clear HJs x4 srw
        obtain ⟨k, m, Am, cm, hk, rfl, hJ⟩ := hrel
        by_cases hltk : k < nu
        · have hK1 : (k : Int) < (nu : Int) := by omega
          obtain ⟨r, hr⟩ : ∃ r, p.out[k]? = some r := ⟨_, List.getElem?_eq_getElem (by rw [HLen.out.2.1]; exact hltk)⟩
          obtain ⟨bu, ou, A2, c2, rfl, hbu, d0, hc2, hcm, hE⟩ := HIn.out.out.get hr
          obtain ⟨q, hq⟩ : ∃ q, r.length = q := ⟨_, rfl⟩
          rw [hq] at d0 hc2
          have HQ := hide hq
          have hJB := hJ.out.2.2.2.1
          have sr : w1.heap.size ≤ wr.heap.size := hJB.size
          have e0 : wr.cell? ⟨bu, ou + k, none⟩ = some (.slice A2 q c2) := (hJB.cell (p := ⟨bu, ou + k, none⟩) hbu).trans d0
          have hlbu : bu < wr.heap.size := by omega
          have HE := hide (hE.below hJB (Nat.le_refl _))
          have hml := hJ.out.1
          have hfs := flat_succ hr
          have hfl := flat_len (rs := p.out) (k + 1)
          have hall := HAL.out
          rw [hfs, List.length_append, hq] at hfl
          rw [List.length_append] at hml
          have hmq : m + q ≤ 8192 := by omega
          have HFS := hide hfs
          have g1 : wr.cell? ⟨G, 1, none⟩ = some (.slice Am m cm) := cell_of_row _ _ 1 _ _ _ hJ.out.2.1
          have hGl := hJ.out.glt
          have hefl : (edFlat r).length = q * 3 := by rw [edFlat_len, hq]
          clear d0 hE hJB hml hfs hfl hall hq hr
          go_upto_region 10 with fail
          go_wp2_with (at_builtin; refine wpList_app rfl (.tmp 37) (.tmp 38) 28 rfl w1.heap.size 44 a0 (.agg #[.int .i64 0, .int .i64 0, .int .i64 0]) 3 24 Try.underlying28 a0i a0z a0s a0b rfl (by decide) (.slice Am m cm) m _ rfl hJ.out.2.2.1 w1.heap.size A2 q c2 (edFlat r) rfl hefl HE.out.rd (edFlat_one r) (by unfold maxLen; omega) (by omega) sr ?_)
          intro A3 c3 y own3 hg3 hat3
          have HX := hJ.out.app HQ.out own3 hg3 hat3
          have z0 : y.cell? ⟨G, 1, none⟩ = some (.slice Am m cm) := cell_of_row _ _ 1 _ _ _ HX.1
          have zf : y.frozen? ⟨G, 1, none⟩ = false := frozen_of_row _ _ 1 _ _ HX.1
          have HJ2 := hide HX.2
          obtain ⟨y2, hy2⟩ : ∃ z, y.setCell ⟨G, 1, none⟩ (.slice A3 (m + q) c3) = z := ⟨_, rfl⟩
          rw [hy2] at HJ2
          have HY2 := hide hy2
          have gl2 : G < y.heap.size := (Array.getElem?_eq_some_iff.1 HX.1).1
          have z1 : y2.cell? ⟨G, 1, none⟩ = some (.slice A3 (m + q) c3) := cell_of_row _ _ 1 _ _ _ HJ2.out.2.1
          have gl3 := HJ2.out.glt
          have hno : ¬ ((m + q : Nat) : Int) > 8192 := by omega
          have hno2 : ¬ (8192 : Int) < ((m + q : Nat) : Int) := by omega
          clear HX hy2 own3 hg3 hat3
          go_upto_region 11 with fail
          rw [HY2.out]
          clear HY2 g1 z0 zf gl2 e0
          go_wp2
          go_roundw
          case rel => exact ⟨k + 1, m + q, A3, c3, by omega, by go_num, by have := HJ2.out; rw [List.append_assoc, ← HFS.out] at this; exact hide this⟩
          case measure => simp [intOf]; omega
        · obtain rfl : nu = k := by omega
          have HJ3 : Hid (JG w1 G V (allOut (ps.take (i + 1))) m Am cm wr) := hide (by rw [HAS.out]; have := hJ.out; rw [List.take_of_length_le (l := p.out) (by rw [HLen.out.2.1]; exact Nat.le_refl _)] at this; exact this)
          clear hJ
          go_wp2
          go_roundw
          case rel => exact ⟨i + 1, m, Am, cm, by omega, by go_num, HJ3⟩
          case measure => simp [intOf]; omega
    · obtain rfl : L = i := by omega
      have HJ3 : Hid (JG w1 G V (allOut ps) m Am cm wr) := hide (by have := hJ.out; rw [List.take_of_length_le (by rw [HL.out]; exact Nat.le_refl _)] at this; exact this)
      clear hJ hi hlt
      have g1 : wr.cell? ⟨G, 1, none⟩ = some (.slice Am m cm) := cell_of_row _ _ 1 _ _ _ HJ3.out.2.1
      have hGl := HJ3.out.glt
      have hm8 : m ≤ 8192 := by have h1 := HJ3.out.1; have h2 := HT.out; omega
      go_upto_region 15 with fail
      go_cut [] (fun wc => Hid (∃ d, StS ltE (fun e : Ed => e.1) m (allOut ps) d ∧ JG w1 G V d m Am cm wc))
      case first =>
        by_cases hm0 : m = 0
        · subst hm0
          go_wp2_with fail
          refine (sort0_any _ Am cm).mono ?_
          rintro e z ⟨rfl, rfl⟩
          have HFin : Hid (∃ d, StS ltE (fun e : Ed => e.1) 0 (allOut ps) d ∧ JG w1 G V d 0 Am cm wr) := hide ⟨allOut ps, ⟨Mv.refl _ _ _, fun _ => ⟨fun i j x y h1 h2 h3 => by omega, Stb.refl _ _⟩⟩, HJ3.out⟩
          go_wp2
          go_meet
          case rel => exact HFin
        · obtain ⟨g, hAm⟩ : ∃ g, Am = some ⟨g, 0, none⟩ := by
            rcases HJ3.out.2.2.1.2 with ⟨_, h0⟩ | ⟨g, cap, cur, hv, _⟩
            · exact absurd h0 hm0
            · injection hv with hv; exact ⟨g, hv⟩
          subst hAm
          have HSR : Hid (SR wr w1.heap.size g m cm (allOut ps) wr) := hide ⟨HJ3.out.1, HJ3.out.2.2.1, KB.refl _ _, Below.refl _ _⟩
          have hgG : g ≠ G := HJ3.out.ne rfl
          have hgl : w1.heap.size ≤ g := (HJ3.out.2.2.1.lt g rfl).1
          go_wp2_with fail
          refine (sort_any (fun e : Ed => e.1) wr _ w1.heap.size g m cm (allOut ps) HSR.out (by omega)).mono ?_
          rintro e z ⟨rfl, d, hS, hT⟩
          have HFin : Hid (∃ d, StS ltE (fun e : Ed => e.1) m (allOut ps) d ∧ JG w1 G V d m (some ⟨g, 0, none⟩) cm z) := hide ⟨d, hT, hS.1, (hS.2.2.1.2 G HJ3.out.glt (by simpa using hgG.symm)).trans HJ3.out.2.1, hS.2.1, HJ3.out.2.2.2.1.trans (hS.2.2.2.mono hgl), HJ3.out.2.2.2.2⟩
          clear hS hT
          go_wp2
          go_meet
          case rel => exact HFin
      case rest =>
        obtain ⟨d, hst, hJ⟩ := hcut.out
        obtain ⟨v2, rfl⟩ : ∃ z : World, z = wc := ⟨_, rfl⟩
        have HST := hide hst
        have HWT : Hid (wt d) := hide (fun e he => HP.out.wt e (hst.1.perm.mem_iff.1 he))
        have hsr2 : w1.heap.size ≤ v2.heap.size := hJ.2.2.2.1.size
        have HED : Hid (Eds v2 v2.heap.size Am d) := hide (Eds.of_rd (Rd.of_own hJ.2.2.1) HWT.out)
        have hmc : m ≤ cm := own_cap hJ.2.2.1
        have hcmx : cm ≤ 9223372036854775807 := own_max hJ.2.2.1
        have HJ4 := hide hJ
        have HDL := hide hJ.1
        have HG4 := hide hJ.2.1
        have hGl2 := hJ.glt
        have HPv : Hid (PtRow v2 (some ⟨b, off, none⟩) ps) := hide (HP.out.next hJ.2.2.2.1)
        have hbl2 : b < v2.heap.size := by omega
        clear hJ hst hcut HJ3 g1 hGl srw
        go_wp2
        go_loopw [53] (fun v53 wr => ∃ i : Nat, i ≤ L ∧ v53 = .int .i64 (i : Int) ∧ Hid (∀ (q : Nat) (p : PartV), q < i → ps[q]? = some p → cutErr V d (L : Int) (q : Int) = 0 ∧ p = partF V d (L : Int) (q : Int)) ∧ Hid (Below v2.heap.size v2 wr)) (fun v53 _ => L - (intOf v53).toNat)
        case atStart => exact ⟨0, by omega, rfl, hide (fun q p h => absurd h (by omega)), hide (Below.refl _ _)⟩
        case round =>
          obtain ⟨i, hi, rfl, hok, hbr⟩ := hrel
          have srw : v2.heap.size ≤ wr.heap.size := hbr.out.size
          by_cases hlt : i < L
          · have hI1 : (i : Int) < (L : Int) := by omega
            obtain ⟨p, hp⟩ : ∃ p, ps[i]? = some p := ⟨_, List.getElem?_eq_getElem (by rw [HL.out]; exact hlt)⟩
            obtain ⟨b9, off9, hbe, -, Ao, Au, Ab, no, nu, nb, co, cu, cb, d0, d1, d2, d3, d4, d5, hlen, hin, hbd⟩ := HPv.out.get hp
            injection hbe with hbe
            injection hbe with hb1 hb2
            subst hb1 hb2
            have HLen := hide hlen
            have HIn := hide hin
            have HBd := hide hbd
            have HPp := hide hp
            have e0 : wr.cell? ⟨b, off + i * 6, none⟩ = some (.int .i64 p.wk) := (hbr.out.cell (p := ⟨b, off + i * 6, none⟩) hbl2).trans d0
            have e1 : wr.cell? ⟨b, off + i * 6 + 1, none⟩ = some (.int .i64 p.ws) := (hbr.out.cell (p := ⟨b, off + i * 6 + 1, none⟩) hbl2).trans d1
            have e2 : wr.cell? ⟨b, off + i * 6 + 2, none⟩ = some (.int .i64 p.vs) := (hbr.out.cell (p := ⟨b, off + i * 6 + 2, none⟩) hbl2).trans d2
            have e3 : wr.cell? ⟨b, off + i * 6 + 3, none⟩ = some (.slice Ao no co) := (hbr.out.cell (p := ⟨b, off + i * 6 + 3, none⟩) hbl2).trans d3
            have e4 : wr.cell? ⟨b, off + i * 6 + 4, none⟩ = some (.slice Au nu cu) := (hbr.out.cell (p := ⟨b, off + i * 6 + 4, none⟩) hbl2).trans d4
            have e5 : wr.cell? ⟨b, off + i * 6 + 5, none⟩ = some (.slice Ab nb cb) := (hbr.out.cell (p := ⟨b, off + i * 6 + 5, none⟩) hbl2).trans d5
            have hlb : b < wr.heap.size := by omega
            obtain ⟨ws, hws⟩ : ∃ z, wr.alloc (.cells #[.int .i64 p.wk, .int .i64 p.ws, .int .i64 p.vs, .slice Ao no co, .slice Au nu cu, .slice Ab nb cb] 34) = z := ⟨_, rfl⟩
            have hzs : ws.heap.size = wr.heap.size + 1 := by rw [← hws]; simp
            have HBs : Hid (Below v2.heap.size v2 ws) := hide (by rw [← hws]; exact hbr.out.alloc srw _)
            have HTp : Hid (ws.heap[wr.heap.size]? = some (.cells #[.int .i64 p.wk, .int .i64 p.ws, .int .i64 p.vs, .slice Ao no co, .slice Au nu cu, .slice Ab nb cb] 34)) := hide (by rw [← hws]; exact heap_alloc_last _ _)
            have HWS := hide hws
            clear d0 d1 d2 d3 d4 d5 hlen hin hbd hp hws hbr
            go_upto_region 19 with fail
            rw [HWS.out]
            clear e0 e1 e2 e3 e4 e5 hlb HWS
            obtain ⟨T, hT⟩ : ∃ T, wr.heap.size = T := ⟨_, rfl⟩
            rw [hT] at HTp srw hzs ⊢
            clear hT
            have hGs : G < ws.heap.size := by omega
            have g0 : ws.cell? ⟨G, 0, none⟩ = some (.int .i64 V) := (HBs.out.cell (p := ⟨G, 0, none⟩) hGl2).trans (cell_of_row _ _ 0 _ _ _ HG4.out)
            have g1 : ws.cell? ⟨G, 1, none⟩ = some (.slice Am m cm) := (HBs.out.cell (p := ⟨G, 1, none⟩) hGl2).trans (cell_of_row _ _ 1 _ _ _ HG4.out)
            have HEs := hide ((HED.out.below HBs.out (Nat.le_refl _) |> fun h => Els.more h HBs.out.size))
            go_wp2_with fail
            refine (pcut_any _ V Am d m cm (L : Int) (i : Int) HDL.out HEs.out (by omega)).mono ?_
            rintro e z ⟨no2, nu2, nb2, Ao2, co2, Au2, cu2, hu2, Ab2, cb2, hb2, k1, k2, k3, k4, k5, k6, rfl, ro2, ru2, rb2, hz⟩
            obtain ⟨q, hq⟩ : ∃ q, partF V d (L : Int) (i : Int) = q := ⟨_, rfl⟩
            obtain ⟨ce, hce⟩ : ∃ q, cutErr V d (L : Int) (i : Int) = q := ⟨_, rfl⟩
            rw [hq] at k1 k2 k3 ro2 ru2 rb2 ⊢
            rw [hce]
            have HQ := hide hq
            have HCE := hide hce
            have HK := hide (And.intro k1 (And.intro k2 k3))
            have RO := hide (Rd.of_own ro2)
            have RU := hide ru2.erows
            have RB := hide rb2.erows
            have HBz := hide (HBs.out.trans (hz.mono HBs.out.size))
            have HTz : Hid (z.heap[T]? = some (.cells #[.int .i64 p.wk, .int .i64 p.ws, .int .i64 p.vs, .slice Ao no co, .slice Au nu cu, .slice Ab nb cb] 34)) := hide ((hz.block _ (by omega)).trans HTp.out)
            have hzz : ws.heap.size ≤ z.heap.size := hz.size
            clear hq hce k1 k2 k3 ro2 ru2 rb2 hz g0 g1
            obtain ⟨z2, hz2⟩ : ∃ x, z.alloc (.cells #[.int .i64 q.wk, .int .i64 q.ws, .int .i64 q.vs, .slice Ao2 no2 co2, .slice Au2 nu2 cu2, .slice Ab2 nb2 cb2] 34) = x := ⟨_, rfl⟩
            have HZ2 := hide hz2
            have hz2s : z2.heap.size = z.heap.size + 1 := by rw [← hz2]; simp
            have HBy : Hid (Below v2.heap.size v2 z2) := hide (by rw [← hz2]; exact HBz.out.alloc HBz.out.size _)
            have HTy : Hid (z2.heap[T]? = some (.cells #[.int .i64 p.wk, .int .i64 p.ws, .int .i64 p.vs, .slice Ao no co, .slice Au nu cu, .slice Ab nb cb] 34)) := hide (by rw [← hz2]; exact (Below.heap_alloc _ _ _ (by omega)).trans HTz.out)
            have HZb : Hid (Below z.heap.size z z2) := hide (by rw [← hz2]; exact (Below.refl _ _).alloc (Nat.le_refl _) _)
            have HTq : Hid (z2.heap[z.heap.size]? = some (.cells #[.int .i64 q.wk, .int .i64 q.ws, .int .i64 q.vs, .slice Ao2 no2 co2, .slice Au2 nu2 cu2, .slice Ab2 nb2 cb2] 34)) := hide (by rw [← hz2]; exact heap_alloc_last _ _)
            clear hz2
            go_upto_region 20 with fail
            rw [HZ2.out]
            clear HZ2
            obtain ⟨U, hU⟩ : ∃ T, z.heap.size = T := ⟨_, rfl⟩
            rw [hU] at HTq ⊢
            have HUe := hide hU
            have hTl : T < z2.heap.size := by omega
            have hUl : U < z2.heap.size := by omega
            clear hU
            by_cases hce0 : ce = 0
            rotate_left
            · have hcb : (ce == 0) = false := by simpa using hce0
              have hcn : (ce != 0) = true := by simpa using hce0
              have HN : Hid (∀ e w', badG e → Below w.heap.size w w' → PJPost w ps e w') := hide (fun e w' h1 h2 => ⟨h2, .inr ⟨by rw [HL.out]; exact ⟨hL0, hL6⟩, d, by rw [← HJ4.out.1] at HST; rw [show (allOut ps).length = d.length from HST.out.1.len.symm]; exact HST.out, .inr ⟨fun ho => hce0 (by have h9 := (ho i p HPp.out).1; rw [HL.out, HV.out, HCE.out] at h9; exact h9), h1⟩⟩⟩)
              clear hce0
              have ZW : Hid (z2.heap[w.heap.size]? = some (.cells #[.int .i64 0, .slice none 0 0] 30)) := hide ((HBy.out.block _ (by omega)).trans ((HJ4.out.2.2.2.1.block _ (by omega)).trans M0.out))
              have HBf : Hid (Below w.heap.size w z2) := hide (HB0.out.trans ((HJ4.out.2.2.2.1.trans (HBy.out.mono hsr2)).mono (by omega)))
              have zc0 : z2.cell? ⟨w.heap.size, 0, none⟩ = some (.int .i64 0) := cell_of_row _ _ 0 _ _ _ ZW.out
              have zcf0 : z2.frozen? ⟨w.heap.size, 0, none⟩ = false := frozen_of_row _ _ 0 _ _ ZW.out
              have zc1 : z2.cell? ⟨w.heap.size, 1, none⟩ = some (.slice none 0 0) := cell_of_row _ _ 1 _ _ _ ZW.out
              have zcf1 : z2.frozen? ⟨w.heap.size, 1, none⟩ = false := frozen_of_row _ _ 1 _ _ ZW.out
              have HFin := hide (two_fin (.int .i64 0) (.slice none 0 0) (.int .i64 0) (.slice none 0 0) (Nat.le_refl w.heap.size) ZW.out HBf.out)
              go_wp2
              obtain ⟨f, hf, hfB, h6, hfs, hfo⟩ := HFin.out
              rw [hf]
              have y0 : f.cell? ⟨w.heap.size, 0, none⟩ = some (.int .i64 0) := cell_of_row _ _ 0 _ _ _ h6
              have y1 : f.cell? ⟨w.heap.size, 1, none⟩ = some (.slice none 0 0) := cell_of_row _ _ 1 _ _ _ h6
              exact bodyPost_ret (v := .tuple #[.agg #[.int .i64 0, .slice none 0 0], .int .i64 2]) (by simp [results, Try.results21, go_sem, y0, y1]) rfl (HN.out _ _ rfl hfB)
            subst hce0
            have x0 : z2.cell? ⟨T, 0, none⟩ = some (.int .i64 p.wk) := cell_of_row _ _ 0 _ _ _ HTy.out
            have x1 : z2.cell? ⟨T, 1, none⟩ = some (.int .i64 p.ws) := cell_of_row _ _ 1 _ _ _ HTy.out
            have x2 : z2.cell? ⟨T, 2, none⟩ = some (.int .i64 p.vs) := cell_of_row _ _ 2 _ _ _ HTy.out
            have x3 : z2.cell? ⟨T, 3, none⟩ = some (.slice Ao no co) := cell_of_row _ _ 3 _ _ _ HTy.out
            have x4 : z2.cell? ⟨T, 4, none⟩ = some (.slice Au nu cu) := cell_of_row _ _ 4 _ _ _ HTy.out
            have x5 : z2.cell? ⟨T, 5, none⟩ = some (.slice Ab nb cb) := cell_of_row _ _ 5 _ _ _ HTy.out
            have y0 : z2.cell? ⟨U, 0, none⟩ = some (.int .i64 q.wk) := cell_of_row _ _ 0 _ _ _ HTq.out
            have y1 : z2.cell? ⟨U, 1, none⟩ = some (.int .i64 q.ws) := cell_of_row _ _ 1 _ _ _ HTq.out
            have y2 : z2.cell? ⟨U, 2, none⟩ = some (.int .i64 q.vs) := cell_of_row _ _ 2 _ _ _ HTq.out
            have y3 : z2.cell? ⟨U, 3, none⟩ = some (.slice Ao2 no2 co2) := cell_of_row _ _ 3 _ _ _ HTq.out
            have y4 : z2.cell? ⟨U, 4, none⟩ = some (.slice Au2 nu2 cu2) := cell_of_row _ _ 4 _ _ _ HTq.out
            have y5 : z2.cell? ⟨U, 5, none⟩ = some (.slice Ab2 nb2 cb2) := cell_of_row _ _ 5 _ _ _ HTq.out
            have HKp : Hid (Kept v2 z2) := hide (Kept.of_below HBy.out)
            have hsz2 : v2.heap.size ≤ z2.heap.size := HBy.out.size
            go_wp2_with fail
            refine (qsame_any _ p.wk p.ws p.vs Ao Au Ab p.own p.out p.back no co nu cu nb cb HLen.out.1 HLen.out.2.1 HLen.out.2.2 HBd.out.1 HBd.out.2.1 HBd.out.2.2 (HIn.out.kept HKp.out hsz2).own (HIn.out.kept HKp.out hsz2).out (HIn.out.kept HKp.out hsz2).back q.wk q.ws q.vs Ao2 Au2 Ab2 q.own q.out q.back no2 co2 nu2 cu2 nb2 cb2 HK.out.1 HK.out.2.1 HK.out.2.2 (by omega) (by omega) (by omega) (RO.out.next HZb.out) (RU.out.next HZb.out) (RB.out.next HZb.out)).mono ?_
            rintro e z3 ⟨rfl, h3⟩
            have HB3 := hide (HBy.out.trans (h3.mono hsz2))
            obtain ⟨sb, hsb⟩ : ∃ s, (decide (p.wk = q.wk) && decide (p.ws = q.ws) && decide (p.vs = q.vs) && eqL p.own q.own && eqL p.out q.out && eqL p.back q.back) = s := ⟨_, rfl⟩
            rw [hsb]
            have hsame := part_same p q
            rw [hsb] at hsame
            have HSM := hide hsame
            clear hsb hsame h3 x0 y0 x1 y1 x2 y2 x3 y3 x4 y4 x5 y5
            rcases sb with _ | _
            · have HN : Hid (∀ e w', badG e → Below w.heap.size w w' → PJPost w ps e w') := hide (fun e w' h1 h2 => ⟨h2, .inr ⟨by rw [HL.out]; exact ⟨hL0, hL6⟩, d, by rw [← HJ4.out.1] at HST; rw [show (allOut ps).length = d.length from HST.out.1.len.symm]; exact HST.out, .inr ⟨fun ho => by have h9 := (ho i p HPp.out).2; rw [HL.out, HV.out, HQ.out] at h9; exact absurd (HSM.out.2 h9) (by decide), h1⟩⟩⟩)
              have ZW : Hid (z3.heap[w.heap.size]? = some (.cells #[.int .i64 0, .slice none 0 0] 30)) := hide ((HB3.out.block _ (by omega)).trans ((HJ4.out.2.2.2.1.block _ (by omega)).trans M0.out))
              have HBf : Hid (Below w.heap.size w z3) := hide (HB0.out.trans ((HJ4.out.2.2.2.1.trans (HB3.out.mono hsr2)).mono (by omega)))
              have zc0 : z3.cell? ⟨w.heap.size, 0, none⟩ = some (.int .i64 0) := cell_of_row _ _ 0 _ _ _ ZW.out
              have zcf0 : z3.frozen? ⟨w.heap.size, 0, none⟩ = false := frozen_of_row _ _ 0 _ _ ZW.out
              have zc1 : z3.cell? ⟨w.heap.size, 1, none⟩ = some (.slice none 0 0) := cell_of_row _ _ 1 _ _ _ ZW.out
              have zcf1 : z3.frozen? ⟨w.heap.size, 1, none⟩ = false := frozen_of_row _ _ 1 _ _ ZW.out
              have HFin := hide (two_fin (.int .i64 0) (.slice none 0 0) (.int .i64 0) (.slice none 0 0) (Nat.le_refl w.heap.size) ZW.out HBf.out)
              go_wp2
              obtain ⟨f, hf, hfB, h6, hfs, hfo⟩ := HFin.out
              rw [hf]
              have y0 : f.cell? ⟨w.heap.size, 0, none⟩ = some (.int .i64 0) := cell_of_row _ _ 0 _ _ _ h6
              have y1 : f.cell? ⟨w.heap.size, 1, none⟩ = some (.slice none 0 0) := cell_of_row _ _ 1 _ _ _ h6
              exact bodyPost_ret (v := .tuple #[.agg #[.int .i64 0, .slice none 0 0], .int .i64 2]) (by simp [results, Try.results21, go_sem, y0, y1]) rfl (HN.out _ _ rfl hfB)
            · have HOK : Hid (∀ (q : Nat) (p : PartV), q < i + 1 → ps[q]? = some p → cutErr V d (L : Int) (q : Int) = 0 ∧ p = partF V d (L : Int) (q : Int)) := hide (fun j p' hj hp' => by
                  by_cases h8 : j < i
                  · exact hok.out j p' h8 hp'
                  · obtain rfl : j = i := by omega
                    have e9 := HPp.out
                    rw [hp'] at e9
                    injection e9 with e9
                    subst e9
                    exact ⟨HCE.out, by rw [HQ.out]; exact HSM.out.1 rfl⟩)
              clear hok
              go_wp2
              go_roundw
              case rel => exact ⟨i + 1, by omega, by go_num, HOK, HB3⟩
              case measure => simp [intOf]; omega
          · obtain rfl : L = i := by omega
            have ZW : Hid (wr.heap[w.heap.size]? = some (.cells #[.int .i64 0, .slice none 0 0] 30)) := hide ((hbr.out.block _ (by omega)).trans ((HJ4.out.2.2.2.1.block _ (by omega)).trans M0.out))
            have HBf : Hid (Below w.heap.size w wr) := hide (HB0.out.trans ((HJ4.out.2.2.2.1.trans (hbr.out.mono hsr2)).mono (by omega)))
            have hGr : G < wr.heap.size := by omega
            have g0 : wr.cell? ⟨G, 0, none⟩ = some (.int .i64 V) := (hbr.out.cell (p := ⟨G, 0, none⟩) hGl2).trans (cell_of_row _ _ 0 _ _ _ HG4.out)
            have g1 : wr.cell? ⟨G, 1, none⟩ = some (.slice Am m cm) := (hbr.out.cell (p := ⟨G, 1, none⟩) hGl2).trans (cell_of_row _ _ 1 _ _ _ HG4.out)
            have HHG := hide (show w.heap.size ≠ G by have := HJ4.out.2.2.2.2; omega)
            have HOKG : Hid (okG V d ps) := hide (fun q p hp => by rw [HL.out]; exact hok.out q p (by have := (List.getElem?_eq_some_iff.1 hp).1; have := HL.out; omega) hp)
            clear hok
            have zc0 : wr.cell? ⟨w.heap.size, 0, none⟩ = some (.int .i64 0) := cell_of_row _ _ 0 _ _ _ ZW.out
            have zcf0 : wr.frozen? ⟨w.heap.size, 0, none⟩ = false := frozen_of_row _ _ 0 _ _ ZW.out
            have zc1 : wr.cell? ⟨w.heap.size, 1, none⟩ = some (.slice none 0 0) := cell_of_row _ _ 1 _ _ _ ZW.out
            have zcf1 : wr.frozen? ⟨w.heap.size, 1, none⟩ = false := frozen_of_row _ _ 1 _ _ ZW.out
            have HFin := hide (two_fin (.int .i64 0) (.slice none 0 0) (.int .i64 V) (.slice Am m cm) (Nat.le_refl w.heap.size) ZW.out HBf.out)
            go_wp2
            obtain ⟨f, hf, hfB, h6, hfs, hfo⟩ := HFin.out
            rw [hf]
            have y0 : f.cell? ⟨w.heap.size, 0, none⟩ = some (.int .i64 V) := cell_of_row _ _ 0 _ _ _ h6
            have y1 : f.cell? ⟨w.heap.size, 1, none⟩ = some (.slice Am m cm) := cell_of_row _ _ 1 _ _ _ h6
            have o1 := own_below HJ4.out.2.2.1 hbr.out (fun g hg => (HJ4.out.2.2.1.lt g hg).2)
            have hkb : KB [w.heap.size] wr f := ⟨by omega, fun b hb hx => hfo b (by simpa using hx)⟩
            have hEf : Eds f f.heap.size Am d := Eds.of_rd (Rd.of_own (hkb.own o1 (fun g hg => by have := (o1.lt g hg).1; simp; omega))) HWT.out
            exact bodyPost_ret (v := .tuple #[.agg #[.int .i64 V, .slice Am m cm], .int .i64 0]) (by simp [results, Try.results21, go_sem, y0, y1]) rfl ⟨hfB, .inr ⟨by rw [HL.out]; exact ⟨hL0, hL6⟩, d, by rw [show (allOut ps).length = m by rw [← HDL.out]; exact HST.out.1.len.symm]; exact HST.out, .inl ⟨by rw [HV.out]; exact HOKG.out, by rw [HV.out]; exact ⟨Am, cm, by rw [HDL.out], hEf, by rw [HDL.out]; exact hmc, hcmx⟩⟩⟩⟩
end Go.Proofs.Ytihdpfjonkagaaa
