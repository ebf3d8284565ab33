/- The walk of the statement PartsJoin. (printed by gen/pjw.py) -/
import Derived.Test.YtihdpfjonkagaaaProg
import Derived.Test.YtihdpfjonkagaaaPjq
import Derived.Test.YtihdpfjonkagaaaPjn
import Derived.Test.YtihdpfjonkagaaaRjn
import Derived.Test.YtihdpfjonkagaaaPla
import Derived.Test.YtihdpfjonkagaaaGsm
import Derived.Test.YtihdpfjonkagaaaMwk
import Derived.Deep.DeepCutAuto
import Derived.Lib.Hide
import Derived.WalkSpells
import Derived.WalkMore
import Derived.IntWalk
namespace Go.Proofs.Ytihdpfjonkagaaa
open Go.RowKit
set_option linter.unusedVariables false
set_option linter.unusedSimpArgs false
def okP (ps : List PartV) : Prop := (1 ≤ ps.length ∧ ps.length ≤ 64) ∧ okG (vsOf ps) (refG (vsOf ps).toNat ps) ps
def JOut (w : World) (ps : List PartV) (e : Ending) (w' : World) : Prop := Below w.heap.size w w' ∧ ((okP ps ∧ goodG (vsOf ps) (refG (vsOf ps).toNat ps) e w') ∨ (¬ okP ps ∧ badG e))
theorem pj_out {w w' : World} {ps : List PartV} {e : Ending} (h : PJPost w ps e w') : JOut w ps e w' := by
  obtain ⟨hb, h⟩ := h
  refine ⟨hb, ?_⟩
  rcases h with ⟨h1, h2⟩ | ⟨h1, d, hs, h2⟩
  · exact .inr ⟨fun h => h1 h.1, h2⟩
  · obtain ⟨l1, l2⟩ := join_law (V := vsOf ps) h1 hs
    rcases h2 with ⟨ho, hg⟩ | ⟨ho, hg⟩
    · have e1 := l1 ho
      exact .inl ⟨⟨h1, by rw [e1]; exact ho⟩, by rw [e1]; exact hg⟩
    · exact .inr ⟨fun h => ho (by have e1 := l2 h.2; rw [← e1]; exact h.2), hg⟩
theorem rj_out {w w' : World} {ps : List PartV} {e : Ending} (h : RJPost w ps e w') : JOut w ps e w' := by
  obtain ⟨hb, h⟩ := h
  refine ⟨hb, ?_⟩
  rcases h with ⟨h1, h2⟩ | ⟨h1, h2⟩
  · refine .inr ⟨fun h => h1 ?_, h2⟩
    obtain ⟨a, b, _, _⟩ := checkF_ok (okG_chk h.2 h.1.1)
    exact ⟨h.1.1, h.1.2, a, b⟩
  · rcases h2 with ⟨ho, hg⟩ | ⟨ho, hg⟩
    · exact .inl ⟨⟨⟨h1.1, h1.2.1⟩, ho⟩, hg⟩
    · exact .inr ⟨fun h => ho h.2, hg⟩
def GOut (w : World) (V : Int) (d : List Ed) (code : Int) (e : Ending) (w' : World) : Prop := ∃ A c, e = .returned (.tuple #[.agg #[.int .i64 V, .slice A d.length c], .int .i64 code]) ∧ Eds w' w'.heap.size A d ∧ d.length ≤ 9223372036854775807 ∧ Below w.heap.size w w'
theorem out_same (ps : List PartV) : ∃ V code d, ∀ w e w', JOut w ps e w' → GOut w V d code e w' := by
  by_cases h : okP ps
  · refine ⟨vsOf ps, 0, refG (vsOf ps).toNat ps, fun w e w' ⟨hb, ho⟩ => ?_⟩
    rcases ho with ⟨_, A, c, h1, h2, h3, h4⟩ | ⟨h1, _⟩
    · exact ⟨A, c, h1, h2, by omega, hb⟩
    · exact absurd h h1
  · refine ⟨0, 2, [], fun w e w' ⟨hb, ho⟩ => ?_⟩
    rcases ho with ⟨h1, _⟩ | ⟨_, h1⟩
    · exact absurd h1 h
    · exact ⟨none, 0, h1, Els.nil_, by simp, hb⟩
theorem all_len60 : ∀ {ps : List PartV}, (∀ p ∈ ps, p.out.flatten.length ≤ 60) → (allOut ps).length ≤ ps.length * 60
  | [], _ => by simp [allOut]
  | p :: ps, h => by
    have h1 := all_len60 (ps := ps) (fun q hq => h q (by simp [hq]))
    have h2 := h p (by simp)
    unfold allOut at h1 ⊢
    rw [List.flatMap_cons, List.length_append, List.length_cons]
    omega
set_option maxRecDepth 100000 in
set_option maxHeartbeats 16000000 in
theorem partsJoin_main (w : World) (A : Option Addr) (ps : List PartV) (L c : Nat) (hL : ps.length = L) (hP : PtRow w A ps) (hlc : L ≤ c) (hc : c ≤ 9223372036854775807) :
    Calls Try.prog 5 #[.slice A L c] w fun e w' => e = .returned (.bool true) ∧ Below w.heap.size w w' := by
  have HL := hide hL
  have HP := hide hP
  have hcm : c ≤ 9223372036854775807 := hc
  clear hL hP hc
  obtain ⟨V, code, d, hout⟩ := out_same ps
  have HO := hide hout
  clear hout
  by_cases h8 : 8 < L
  · have h8' : (8 : Int) < (L : Int) := by omega
    go_enter Try.func5, Try.ntmps5
    go_wp2_with fail
    refine (works_any _).mono ?_
    rintro e wk ⟨rfl, hb⟩
    have HF := hide (hb)
    clear hb
    go_wp2
    go_ret
    exact ⟨rfl, HF.out⟩
  have h8' : ¬ (8 : Int) < (L : Int) := by omega
  obtain ⟨a1, a1i, a1z, a1s, a1b⟩ := info_parts (show (Try.prog.info? 38).map (fun i => (i.zero, i.size, i.bytes)) = some (some (.agg #[.int .i64 0, .int .i64 0, .int .i64 0, .slice none 0 0, .slice none 0 0, .slice none 0 0]), 6, 96) by kernel_rfl)
  go_enter Try.func5, Try.ntmps5
  go_wp2
  go_loopw [4, 3] (fun v4 v3 wr => ∃ (i : Nat) (Am : Option Addr) (cm : Nat), i ≤ L ∧ v4 = .int .i64 (i : Int) ∧ v3 = .slice Am i cm ∧ Hid (MRow 38 w wr ps Am i cm) ∧ Hid (∀ (q : Nat) (p : PartV), q < i → ps[q]? = some p → p.out.flatten.length ≤ 60) ∧ Hid (Below w.heap.size w wr)) (fun v4 _ _ => L - (intOf v4).toNat)
  case atStart => exact ⟨0, none, 0, by omega, rfl, rfl, hide (MRow.zero _ _ _ _), hide (fun q p h => absurd h (by omega)), hide (Below.refl _ _)⟩
  case round =>
    obtain ⟨i, Am, cm, hi, rfl, rfl, hM, h60, hbr⟩ := hrel
    have srw : w.heap.size ≤ wr.heap.size := hbr.out.size
    by_cases hlt : i < L
    · have hI0 : (0 : Int) ≤ (i : Int) := by omega
      have hI1 : (i : Int) < (L : Int) := by omega
      obtain ⟨p, hp⟩ : ∃ p, ps[i]? = some p := ⟨_, List.getElem?_eq_getElem (by rw [HL.out]; exact hlt)⟩
      obtain ⟨b, off, rfl, hbl, Ao, Au, Ab, no, nu, nb, co, cu, cb, d0, d1, d2, d3, d4, d5, hlen, hin, hbd⟩ := HP.out.get hp
      have D0 := hide d0
      have D1 := hide d1
      have D2 := hide d2
      have D3 := hide d3
      have D4 := hide d4
      have D5 := hide d5
      have HLen := hide hlen
      have HIn := hide hin
      have HBd := hide hbd
      have HPl := hide hp
      clear hp d0 d1 d2 d3 d4 d5 hlen hin hbd
      have e0 : wr.cell? ⟨b, off + i * 6, none⟩ = some (.int .i64 p.wk) := (hbr.out.cell (p := ⟨b, off + i * 6, none⟩) hbl).trans D0.out
      have e1 : wr.cell? ⟨b, off + i * 6 + 1, none⟩ = some (.int .i64 p.ws) := (hbr.out.cell (p := ⟨b, off + i * 6 + 1, none⟩) hbl).trans D1.out
      have e2 : wr.cell? ⟨b, off + i * 6 + 2, none⟩ = some (.int .i64 p.vs) := (hbr.out.cell (p := ⟨b, off + i * 6 + 2, none⟩) hbl).trans D2.out
      have e3 : wr.cell? ⟨b, off + i * 6 + 3, none⟩ = some (.slice Ao no co) := (hbr.out.cell (p := ⟨b, off + i * 6 + 3, none⟩) hbl).trans D3.out
      have e4 : wr.cell? ⟨b, off + i * 6 + 4, none⟩ = some (.slice Au nu cu) := (hbr.out.cell (p := ⟨b, off + i * 6 + 4, none⟩) hbl).trans D4.out
      have e5 : wr.cell? ⟨b, off + i * 6 + 5, none⟩ = some (.slice Ab nb cb) := (hbr.out.cell (p := ⟨b, off + i * 6 + 5, none⟩) hbl).trans D5.out
      have hlb : b < wr.heap.size := by omega
      have HKr := hide (Kept.of_below hbr.out)
      go_wp2_with fail
      refine (few_any wr p Ao Au Ab no nu nb co cu cb HLen.out (HIn.out.kept HKr.out srw) HBd.out).mono ?_
      rintro e z ⟨fb, rfl, hfb, hz⟩
      have HFB := hide hfb
      have HZ := hide (hbr.out.trans (hz.mono srw))
      have HMz := hide (hM.out.below hz)
      have szz := HZ.out.size
      clear hz hfb hM hbr
      clear e0 e1 e2 e3 e4 e5
      rcases fb with _ | _
      · go_wp2_with fail
        refine (works_any _).mono ?_
        rintro e wk ⟨rfl, hb⟩
        have HF := hide (HZ.out.trans (hb.mono szz))
        clear hb
        go_wp2
        go_ret
        exact ⟨rfl, HF.out⟩
      · have e0 : z.cell? ⟨b, off + i * 6, none⟩ = some (.int .i64 p.wk) := (HZ.out.cell (p := ⟨b, off + i * 6, none⟩) hbl).trans D0.out
        have e1 : z.cell? ⟨b, off + i * 6 + 1, none⟩ = some (.int .i64 p.ws) := (HZ.out.cell (p := ⟨b, off + i * 6 + 1, none⟩) hbl).trans D1.out
        have e2 : z.cell? ⟨b, off + i * 6 + 2, none⟩ = some (.int .i64 p.vs) := (HZ.out.cell (p := ⟨b, off + i * 6 + 2, none⟩) hbl).trans D2.out
        have e3 : z.cell? ⟨b, off + i * 6 + 3, none⟩ = some (.slice Ao no co) := (HZ.out.cell (p := ⟨b, off + i * 6 + 3, none⟩) hbl).trans D3.out
        have e4 : z.cell? ⟨b, off + i * 6 + 4, none⟩ = some (.slice Au nu cu) := (HZ.out.cell (p := ⟨b, off + i * 6 + 4, none⟩) hbl).trans D4.out
        have e5 : z.cell? ⟨b, off + i * 6 + 5, none⟩ = some (.slice Ab nb cb) := (HZ.out.cell (p := ⟨b, off + i * 6 + 5, none⟩) hbl).trans D5.out
        have hlbz : b < z.heap.size := by omega
        have H6p : Hid (p.out.flatten.length ≤ 60) := hide (HFB.out rfl)
        clear HFB
        go_wp2_with fail
        refine (plain_any z p.wk p.ws p.vs (.slice Ao no co) (.slice Au nu cu) (.slice Ab nb cb) ⟨_, _, _, rfl⟩ ⟨_, _, _, rfl⟩ ⟨_, _, _, rfl⟩).mono ?_
        rintro e y ⟨rfl, hy⟩
        have HY := hide (HZ.out.trans (hy.mono szz))
        have HMy := hide (HMz.out.below hy)
        have syy := HY.out.size
        clear hy HMz HZ
        clear e0 e1 e2 e3 e4 e5
        obtain ⟨xs, ho, hm⟩ := HMy.out
        have HOw := hide ho
        have HM := hide hm
        clear ho hm HMy
        go_wp2_with (at_builtin; refine wpList_app rfl (.tmp 26) (.tmp 32) 48 rfl w.heap.size 38 a1 (.agg #[.int .i64 0, .int .i64 0, .int .i64 0, .slice none 0 0, .slice none 0 0, .slice none 0 0]) 6 96 Try.underlying48 a1i a1z a1s a1b rfl (by decide) (.slice Am i cm) i _ rfl (HOw.out.alloc _) (y.heap.size + 1) (some ⟨y.heap.size, 0, none⟩) 1 1 [.int .i64 p.wk, .int .i64 p.ws, .int .i64 p.vs, .slice Ao no co, .slice Au nu cu, .slice Ab nb cb] rfl rfl (Rd.new _ _ _ _) (by simp [Value.oneCell']) (by unfold maxLen; omega) (by omega) (by simp; omega) ?_)
        intro A' c' v own hg hat
        have HV := hide (app_below (HY.out.alloc syy (.cells #[.int .i64 p.wk, .int .i64 p.ws, .int .i64 p.vs, .slice Ao no co, .slice Au nu cu, .slice Ab nb cb] 38)) (HOw.out.alloc _) hg (by simp; omega) (Nat.le_refl _))
        have HMv : Hid (MRow 38 w v ps A' (i + 1) c') := hide ⟨_, own, HM.out.snoc HOw.out.1 HPl.out rfl ⟨Ao, Au, Ab, no, nu, nb, co, cu, cb, rfl, HLen.out, HIn.out, HBd.out⟩⟩
        have H60' : Hid (∀ (q : Nat) (p : PartV), q < i + 1 → ps[q]? = some p → p.out.flatten.length ≤ 60) := hide (fun q p hq hp => by
    rcases Nat.lt_or_ge q i with h | h
    · exact h60.out q p h hp
    · obtain rfl : q = i := by omega
      rw [HPl.out] at hp
      obtain rfl := Option.some.inj hp
      exact H6p.out)
        clear own hg hat HOw HM h60 HY
        go_wp2
        go_roundw
        case rel => exact ⟨i + 1, _, _, by omega, by go_num, rfl, HMv, H60', HV⟩
        case measure => simp [intOf]; omega
    · obtain rfl : L = i := by omega
      obtain ⟨u0, rfl⟩ : ∃ z : World, z = wr := ⟨_, rfl⟩
      have HK0 := hide (Kept.of_below hbr.out)
      have HRow : Hid (PtRow u0 Am ps) := hide (by have h := hM.out; rw [← HL.out] at h; exact h.row HK0.out srw)
      have HP0 : Hid (PtRow u0 A ps) := hide (HP.out.next hbr.out)
      have H6 : Hid (∀ p ∈ ps, p.out.flatten.length ≤ 60) := hide (fun p hp => by obtain ⟨q, hq, rfl⟩ := List.getElem_of_mem hp; exact h60.out q _ (by rw [← HL.out]; exact hq) (List.getElem?_eq_getElem hq))
      have HT : Hid ((allOut ps).length ≤ 8192) := hide (by have := all_len60 H6.out; have := HL.out; omega)
      have HB0 := hbr
      clear hbr hM h60 hlt
      go_upto_region 10 with fail
      go_wp2_with fail
      refine (pjoin_any u0 A ps L c HL.out HP0.out (by omega) HT.out).mono ?_
      rintro e z hz
      obtain ⟨A1, c1, rfl, hE1, hd1, hz⟩ := HO.out _ _ _ (pj_out hz)
      obtain ⟨n, hn⟩ : ∃ n, d.length = n := ⟨_, rfl⟩
      rw [hn] at hd1 ⊢
      have HN := hide hn
      have HE1 := hide hE1
      have HZ := hide hz
      have szz : u0.heap.size ≤ z.heap.size := hz.size
      clear hz hE1 hn
      obtain ⟨u1, hu1⟩ : ∃ q, z.alloc (.cells #[.int .i64 V, .slice A1 n c1] 30) = q := ⟨_, rfl⟩
      have HG1 : Hid (u1.heap[z.heap.size]? = some (.cells #[.int .i64 V, .slice A1 n c1] 30)) := hide (by rw [← hu1]; exact heap_alloc_last _ _)
      have HZ1 : Hid (Below z.heap.size z u1) := hide (by rw [← hu1]; exact (Below.refl _ _).alloc (Nat.le_refl _) _)
      have HU1 := hide hu1
      clear hu1
      obtain ⟨G1, hG1⟩ : ∃ g, z.heap.size = g := ⟨_, rfl⟩
      have HGe := hide hG1
      rw [hG1] at HG1
      clear hG1
      go_upto_region 11 with fail
      rw [HU1.out]
      rw [HGe.out]
      clear HU1
      have hg1l : G1 < u1.heap.size := (Array.getElem?_eq_some_iff.1 HG1.out).1
      have szu : z.heap.size ≤ u1.heap.size := HZ1.out.size
      go_wp2_with fail
      refine (rjoin_any u1 Am ps L cm HL.out ((HRow.out.next HZ.out).next HZ1.out) (by omega) H6.out).mono ?_
      rintro e y hy
      obtain ⟨A2, c2, rfl, hE2, -, hy⟩ := HO.out _ _ _ (rj_out hy)
      rw [HN.out]
      have HE2 := hide hE2
      have HY := hide hy
      have syy : u1.heap.size ≤ y.heap.size := hy.size
      clear hy hE2
      obtain ⟨u2, hu2⟩ : ∃ q, y.alloc (.cells #[.int .i64 V, .slice A2 n c2] 30) = q := ⟨_, rfl⟩
      have HG2 : Hid (u2.heap[y.heap.size]? = some (.cells #[.int .i64 V, .slice A2 n c2] 30)) := hide (by rw [← hu2]; exact heap_alloc_last _ _)
      have HY1 : Hid (Below y.heap.size y u2) := hide (by rw [← hu2]; exact (Below.refl _ _).alloc (Nat.le_refl _) _)
      have HU2 := hide hu2
      clear hu2
      obtain ⟨G2, hG2⟩ : ∃ g, y.heap.size = g := ⟨_, rfl⟩
      have HGe2 := hide hG2
      rw [hG2] at HG2
      clear hG2
      go_upto_region 12 with fail
      rw [HU2.out]
      rw [HGe2.out]
      clear HU2
      have hg2l : G2 < u2.heap.size := (Array.getElem?_eq_some_iff.1 HG2.out).1
      have sy2 : y.heap.size ≤ u2.heap.size := HY1.out.size
      have hg1u : G1 < u2.heap.size := by omega
      have HG1' : Hid (u2.heap[G1]? = some (.cells #[.int .i64 V, .slice A1 n c1] 30)) := hide ((HY1.out.block _ (by omega)).trans ((HY.out.block _ hg1l).trans HG1.out))
      have x0 : u2.cell? ⟨G1, 0, none⟩ = some (.int .i64 V) := cell_of_row _ _ 0 _ _ _ HG1'.out
      have x1 : u2.cell? ⟨G1, 1, none⟩ = some (.slice A1 n c1) := cell_of_row _ _ 1 _ _ _ HG1'.out
      have y0 : u2.cell? ⟨G2, 0, none⟩ = some (.int .i64 V) := cell_of_row _ _ 0 _ _ _ HG2.out
      have y1 : u2.cell? ⟨G2, 1, none⟩ = some (.slice A2 n c2) := cell_of_row _ _ 1 _ _ _ HG2.out
      have hcc : (code == code) = true := by simp
      go_wp2_with fail
      refine (gsame_any u2 V V A1 A2 d d n c1 n c2 HN.out HN.out hd1 ((Eds.next (Eds.next (Eds.next HE1.out HZ1.out) HY.out) HY1.out)) (Eds.next HE2.out HY1.out)).mono ?_
      rintro e v ⟨rfl, hv⟩
      rw [show (decide (V = V) && eqL d d) = true by simp [eqL_self]]
      have HV := hide (HB0.out.trans ((HZ.out.trans ((HZ1.out.trans ((HY.out.trans ((HY1.out.trans (hv.mono sy2)).mono syy)).mono szu)).mono szz)).mono srw))
      have svv : w.heap.size ≤ v.heap.size := HV.out.size
      clear hv x0 x1 y0 y1
      go_wp2_with fail
      refine (works_any _).mono ?_
      rintro e wk ⟨rfl, hb⟩
      have HF := hide (HV.out.trans (hb.mono svv))
      clear hb
      go_wp2
      go_ret
      exact ⟨rfl, HF.out⟩
theorem partsJoin_walk (w : World) (A : Option Addr) (ps : List PartV) (c : Nat) (hP : PtRow w A ps) (hlc : ps.length ≤ c) (hc : c ≤ 9223372036854775807) :
    Calls Try.prog 5 #[.slice A ps.length c] w fun e w' => e = .returned (.bool true) ∧ Below w.heap.size w w' := partsJoin_main w A ps ps.length c rfl hP hlc hc
end Go.Proofs.Ytihdpfjonkagaaa
