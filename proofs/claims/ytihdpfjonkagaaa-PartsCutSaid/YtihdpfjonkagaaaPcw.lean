/- The walk of the statement PartsCut. (printed by gen/pcw.py) -/
import Derived.Test.YtihdpfjonkagaaaPpv
import Derived.Test.YtihdpfjonkagaaaPla
import Derived.Test.YtihdpfjonkagaaaPsm
import Derived.Test.YtihdpfjonkagaaaMwk
import Derived.Test.YtihdpfjonkagaaaLgt
import Derived.Test.YtihdpfjonkagaaaOed
namespace Go.Proofs.Ytihdpfjonkagaaa
open Go.ChangeShapes Go.WideShapes Go.ChangeAt Go.RowKit
set_option linter.unusedVariables false
set_option linter.unusedSimpArgs false
theorem rd_next {w w' : World} {A : Option Addr} {xs : List Value} (h : Rd w w.heap.size A xs) (hb : Below w.heap.size w w') : Rd w' w'.heap.size A xs := h.next hb
theorem er_next {w w' : World} {A : Option Addr} {rs : List (List Ed)} (h : ERows w w.heap.size A rs) (hb : Below w.heap.size w w') : ERows w' w'.heap.size A rs := h.next hb
set_option maxRecDepth 100000 in
set_option maxHeartbeats 16000000 in
theorem partsCut_walk (w : World) (V : Int) (A : Option Addr) (es : List Ed) (c : Nat) (_ : -9223372036854775808 ≤ V) (_ : V ≤ 9223372036854775807) (hE : Eds w w.heap.size A es) (hc1 : es.length ≤ c) (hc2 : c ≤ 9223372036854775807) (_ : ∀ e ∈ es, edB e) (n : Int) (_ : -9223372036854775808 ≤ n) (_ : n ≤ 9223372036854775807) (k : Int) (_ : -9223372036854775808 ≤ k) (_ : k ≤ 9223372036854775807) :
    Calls Try.prog 4 #[.agg #[.int .i64 V, .slice A es.length c], .int .i64 n, .int .i64 k] w fun e W' => e = .returned (.bool true) ∧ Below w.heap.size w W' := by
  obtain ⟨L, hL⟩ : ∃ L, es.length = L := ⟨_, rfl⟩
  rw [hL] at hc1 ⊢
  have HL := hide hL
  obtain ⟨i1, hi1, hy0, hy1, hy2⟩ := info_parts (show (Try.prog.info? 44).map (fun i => (i.zero, i.size, i.bytes)) = some (some (.agg #[.int .i64 0, .int .i64 0, .int .i64 0]), 3, 24) by kernel_rfl)
  obtain ⟨u, hu⟩ : ∃ u, w.alloc (.cells #[.int .i64 V, .slice A L c] 30) = u := ⟨_, rfl⟩
  have hzu : u.heap.size = w.heap.size + 1 := by rw [← hu]; simp
  have hbu : Below w.heap.size w u := by rw [← hu]; exact (Below.refl _ _).alloc (Nat.le_refl _) _
  have GU : Hid (u.heap[w.heap.size]? = some (.cells #[.int .i64 V, .slice A L c] 30)) := hide (by rw [← hu]; exact heap_alloc_last w _)
  have EU := hide (Eds.next hE hbu)
  have HB := hide hbu
  have HU := hide hu
  clear hu hbu hE hL
  by_cases hlight : (L : Int) ≤ 200
  · have hl2 : decide ((L : Int) ≤ 200) = true := decide_eq_true hlight
    go_enter Try.func4, Try.ntmps4
    go_wp2_with fail
    rw [HU.out]
    refine (light_any _ V A L c 200).mono ?_
    rintro e y1 ⟨rfl, k1⟩
    rw [hl2]
    have hy1s := k1.size
    have g0 : y1.cell? ⟨w.heap.size, 0, none⟩ = some (.int .i64 V) := (k1.cell (p := ⟨w.heap.size, 0, none⟩) (by show w.heap.size < _; omega)).trans (cell_of_row _ _ 0 _ _ _ GU.out)
    have g1 : y1.cell? ⟨w.heap.size, 1, none⟩ = some (.slice A L c) := (k1.cell (p := ⟨w.heap.size, 1, none⟩) (by show w.heap.size < _; omega)).trans (cell_of_row _ _ 1 _ _ _ GU.out)
    have E1 := hide (EU.out.next k1)
    have RE := hide (EU.out.next k1).rd
    have HB1 := hide (HB.out.trans (k1.mono (by omega)))
    have hefl := edFlat_len es
    rw [HL.out] at hefl
    have GU1 := hide ((k1.block w.heap.size (by omega)).trans GU.out)
    have hL3 : L ≤ 200 := by omega
    clear k1
    go_wp2_with (at_builtin; refine wpList_app rfl (.tmp 18) (.tmp 20) 28 rfl y1.heap.size 44 i1 (.agg #[.int .i64 0, .int .i64 0, .int .i64 0]) 3 24 Try.underlying28 hi1 hy0 hy1 hy2 rfl (by decide) (.slice none 0 0) 0 [] rfl (World.ownsRow_nil _ _ _ _) y1.heap.size A L c (edFlat es) rfl hefl RE.out (edFlat_one es) (by unfold maxLen; omega) (by omega) (Nat.le_refl _) ?_)
    intro Ac cc y2 own2 hg2 hat2
    have hk2 : Below y1.heap.size y1 y2 := (Below.refl _ y1).grown hg2 (Nat.le_refl _) (fun g e => by cases e)
    have hy2s := hk2.size
    have OW2 := hide (Eds.of_rd (Rd.of_own own2) E1.out.wt)
    have g0 : y2.cell? ⟨w.heap.size, 0, none⟩ = some (.int .i64 V) := (hk2.cell (p := ⟨w.heap.size, 0, none⟩) (by show w.heap.size < _; omega)).trans g0
    have g1 : y2.cell? ⟨w.heap.size, 1, none⟩ = some (.slice A L c) := (hk2.cell (p := ⟨w.heap.size, 1, none⟩) (by show w.heap.size < _; omega)).trans g1
    have E2 := hide (E1.out.next hk2)
    have HB2 := hide (HB1.out.trans (hk2.mono (by omega)))
    have GU2 := hide ((hk2.block w.heap.size (by omega)).trans GU1.out)
    have hcc := own_cap own2
    clear own2 hg2 hat2 hk2 RE E1 HB1 GU1
    obtain ⟨P, hP⟩ : ∃ P, partF V es n k = P := ⟨_, rfl⟩
    obtain ⟨q, hq⟩ : ∃ q, cutErr V es n k = q := ⟨_, rfl⟩
    go_wp2_with fail
    refine (pcut_any y2 V A es L c n k HL.out E2.out (by omega)).mono ?_
    rw [hP, hq]
    rintro e y3 ⟨m, mu, mb, Ao, co, Au, cu, hu, Ab, cb, hb, hm1, hm2, hm3, lm1, lm2, lm3, rfl, ho, hru, hrb, hk3⟩
    have hy3s := hk3.size
    have HM := hide (And.intro hm1 (And.intro hm2 hm3))
    have OWN := hide ho; have ORU := hide hru; have ORB := hide hrb; have K3 := hide hk3
    have g0 : y3.cell? ⟨w.heap.size, 0, none⟩ = some (.int .i64 V) := (hk3.cell (p := ⟨w.heap.size, 0, none⟩) (by show w.heap.size < _; omega)).trans g0
    have g1 : y3.cell? ⟨w.heap.size, 1, none⟩ = some (.slice A L c) := (hk3.cell (p := ⟨w.heap.size, 1, none⟩) (by show w.heap.size < _; omega)).trans g1
    have hl3 : w.heap.size < y3.heap.size := by omega
    have HP := hide hP; have HQ := hide hq
    clear hm1 hm2 hm3 ho hru hrb hk3 hP hq
    go_wp2_with fail
    obtain ⟨y, hy⟩ : ∃ y, y3.alloc (.cells #[.int .i64 P.wk, .int .i64 P.ws, .int .i64 P.vs, .slice Ao m co, .slice Au mu cu, .slice Ab mb cb] 34) = y := ⟨_, rfl⟩
    have hys : y.heap.size = y3.heap.size + 1 := by rw [← hy]; simp
    have hky : Below y3.heap.size y3 y := by rw [← hy]; exact (Below.refl _ _).alloc (Nat.le_refl _) _
    have cP : y.heap[y3.heap.size]? = some (.cells #[.int .i64 P.wk, .int .i64 P.ws, .int .i64 P.vs, .slice Ao m co, .slice Au mu cu, .slice Ab mb cb] 34) := by rw [← hy]; exact heap_alloc_last _ _
    rw [hy]
    have HY := hide hy
    have CP := hide cP
    have KY := hide hky
    have E3 := hide ((E2.out.next K3.out).next hky)
    clear hy cP hky
    have hmm1 := hc2
    refine (rcut_any y V A es L c n k HL.out E3.out (by omega)).mono ?_
    rw [HP.out, HQ.out]
    rintro e y4 ⟨m', mu', mb', Ap, cp, Av, cv, hv, Aw, cw, hw, hm1, hm2, hm3, _, _, _, rfl, ho, hrv, hrw, hk4⟩
    obtain rfl : m' = m := by have := HM.out.1; omega
    obtain rfl : mu' = mu := by have := HM.out.2.1; omega
    obtain rfl : mb' = mb := by have := HM.out.2.2; omega
    have hy4s := hk4.size
    have OWN' := hide ho; have ORV := hide hrv; have ORW := hide hrw; have K4 := hide hk4
    have CP4 := hide ((hk4.block y3.heap.size (by omega)).trans CP.out)
    clear hm1 hm2 hm3 ho hrv hrw hk4 CP g0 g1
    go_upto_region 7 with fail
    obtain ⟨ws, hws⟩ : ∃ ws, y4.alloc (.cells #[.int .i64 P.wk, .int .i64 P.ws, .int .i64 P.vs, .slice Ap m' cp, .slice Av mu' cv, .slice Aw mb' cw] 38) = ws := ⟨_, rfl⟩
    rw [hws]
    have hwss : ws.heap.size = y4.heap.size + 1 := by rw [← hws]; simp
    have hkw : Below y4.heap.size y4 ws := by rw [← hws]; exact (Below.refl _ _).alloc (Nat.le_refl _) _
    have cQ : ws.heap[y4.heap.size]? = some (.cells #[.int .i64 P.wk, .int .i64 P.ws, .int .i64 P.vs, .slice Ap m' cp, .slice Av mu' cv, .slice Aw mb' cw] 38) := by rw [← hws]; exact heap_alloc_last _ _
    have cPw : ws.heap[y3.heap.size]? = some (.cells #[.int .i64 P.wk, .int .i64 P.ws, .int .i64 P.vs, .slice Ao m' co, .slice Au mu' cu, .slice Ab mb' cb] 34) := (hkw.block _ (by omega)).trans CP4.out
    obtain ⟨bp, hbp⟩ : ∃ bp, y3.heap.size = bp := ⟨_, rfl⟩
    obtain ⟨bq, hbq⟩ : ∃ bq, y4.heap.size = bq := ⟨_, rfl⟩
    rw [hbp] at cPw
    rw [hbq] at cQ
    rw [hbp, hbq]
    have p0 : ws.cell? ⟨bp, 0, none⟩ = some (.int .i64 P.wk) := cell_of_row _ _ 0 _ _ _ cPw
    have p1 : ws.cell? ⟨bp, 1, none⟩ = some (.int .i64 P.ws) := cell_of_row _ _ 1 _ _ _ cPw
    have p2 : ws.cell? ⟨bp, 2, none⟩ = some (.int .i64 P.vs) := cell_of_row _ _ 2 _ _ _ cPw
    have p3 : ws.cell? ⟨bp, 3, none⟩ = some (.slice Ao m' co) := cell_of_row _ _ 3 _ _ _ cPw
    have p4 : ws.cell? ⟨bp, 4, none⟩ = some (.slice Au mu' cu) := cell_of_row _ _ 4 _ _ _ cPw
    have p5 : ws.cell? ⟨bp, 5, none⟩ = some (.slice Ab mb' cb) := cell_of_row _ _ 5 _ _ _ cPw
    have q0 : ws.cell? ⟨bq, 0, none⟩ = some (.int .i64 P.wk) := cell_of_row _ _ 0 _ _ _ cQ
    have q1 : ws.cell? ⟨bq, 1, none⟩ = some (.int .i64 P.ws) := cell_of_row _ _ 1 _ _ _ cQ
    have q2 : ws.cell? ⟨bq, 2, none⟩ = some (.int .i64 P.vs) := cell_of_row _ _ 2 _ _ _ cQ
    have q3 : ws.cell? ⟨bq, 3, none⟩ = some (.slice Ap m' cp) := cell_of_row _ _ 3 _ _ _ cQ
    have q4 : ws.cell? ⟨bq, 4, none⟩ = some (.slice Av mu' cv) := cell_of_row _ _ 4 _ _ _ cQ
    have q5 : ws.cell? ⟨bq, 5, none⟩ = some (.slice Aw mb' cw) := cell_of_row _ _ 5 _ _ _ cQ
    have hlp : bp < ws.heap.size := by omega
    have hlq : bq < ws.heap.size := by omega
    have hk34 : Below y3.heap.size y3 ws := (KY.out.trans (K4.out.mono (by omega))).trans (hkw.mono (by omega))
    have RO := hide ((Rd.of_own OWN.out).next hk34)
    have RU := hide (ORU.out.erows.next hk34)
    have RB := hide (ORB.out.erows.next hk34)
    have SO := hide ((Rd.of_own OWN'.out).next hkw)
    have SU := hide (ORV.out.erows.next hkw)
    have SB := hide (ORW.out.erows.next hkw)
    have K34 := hide hk34
    have CPW := hide cPw
    have HBP := hide hbp
    have hwss2 : y4.heap.size + 1 ≤ ws.heap.size := by omega
    have hys2 : y3.heap.size + 1 ≤ y.heap.size := by omega
    have hzu2 : w.heap.size + 1 ≤ u.heap.size := by omega
    clear hws hwss hys hzu hkw cQ cPw hbp hbq hk34 OWN OWN' ORV ORW HY KY K4 CP4
    refine wp_region_held_drew (S := Kept ws) (by kernel_rfl) (Kept.drew ws) (fun hS0 => ?_)
    refine take_at (i := 0) (d := 36) (v := ?_) (by simp only [List.getElem?_toArray, List.getElem?_cons_succ, List.getElem?_cons_zero]; rfl) rfl (by kernel_rfl) (by kernel_rfl) (by kernel_rfl) (fun _ _ _ h => h) rfl ?_ (by assumption) ?_
    rotate_left
    focus (intro w hSw; go_simp; (try with_reducible rfl); done)
    try simp only [List.setIfInBounds_toArray, List.set_cons_zero, List.set_cons_succ]
    refine take_at (i := 1) (d := 37) (v := ?_) (by simp only [List.getElem?_toArray, List.getElem?_cons_succ, List.getElem?_cons_zero]; rfl) rfl (by kernel_rfl) (by kernel_rfl) (by kernel_rfl) (fun _ _ _ h => h) rfl ?_ (by assumption) ?_
    rotate_left
    focus (intro w hSw; go_simp; (try with_reducible rfl); done)
    try simp only [List.setIfInBounds_toArray, List.set_cons_zero, List.set_cons_succ]
    refine take_at (i := 2) (d := 38) (v := ?_) (by simp only [List.getElem?_toArray, List.getElem?_cons_succ, List.getElem?_cons_zero]; rfl) rfl (by kernel_rfl) (by kernel_rfl) (by kernel_rfl) (fun _ _ _ h => h) rfl ?_ (by assumption) ?_
    rotate_left
    focus (intro w hSw; go_simp; (try with_reducible rfl); done)
    try simp only [List.setIfInBounds_toArray, List.set_cons_zero, List.set_cons_succ]
    refine take_at (i := 3) (d := 39) (v := ?_) (by simp only [List.getElem?_toArray, List.getElem?_cons_succ, List.getElem?_cons_zero]; rfl) rfl (by kernel_rfl) (by kernel_rfl) (by kernel_rfl) (fun _ _ _ h => h) rfl ?_ (by assumption) ?_
    rotate_left
    focus (intro w hSw; go_simp; (try with_reducible rfl); done)
    try simp only [List.setIfInBounds_toArray, List.set_cons_zero, List.set_cons_succ]
    refine take_at (i := 4) (d := 40) (v := ?_) (by simp only [List.getElem?_toArray, List.getElem?_cons_succ, List.getElem?_cons_zero]; rfl) rfl (by kernel_rfl) (by kernel_rfl) (by kernel_rfl) (fun _ _ _ h => h) rfl ?_ (by assumption) ?_
    rotate_left
    focus (intro w hSw; go_simp; (try with_reducible rfl); done)
    try simp only [List.setIfInBounds_toArray, List.set_cons_zero, List.set_cons_succ]
    refine take_at (i := 6) (d := 42) (v := ?_) (by simp only [List.getElem?_toArray, List.getElem?_cons_succ, List.getElem?_cons_zero]; rfl) rfl (by kernel_rfl) (by kernel_rfl) (by kernel_rfl) (fun _ _ _ h => h) rfl ?_ (by assumption) ?_
    rotate_left
    focus (intro w hSw; go_simp; (try with_reducible rfl); done)
    try simp only [List.setIfInBounds_toArray, List.set_cons_zero, List.set_cons_succ]
    refine call_at (i := 5) (d := 41) (by simp only [List.getElem?_toArray, List.getElem?_cons_succ, List.getElem?_cons_zero]; rfl) rfl (by kernel_rfl) rfl (fun K hK => ?_)
    go_simp
    refine (plain_any _ P.wk P.ws P.vs (.slice Ao m' co) (.slice Au mu' cu) (.slice Ab mb' cb) ⟨_, _, _, rfl⟩ ⟨_, _, _, rfl⟩ ⟨_, _, _, rfl⟩).mono ?_
    rintro e y5 ⟨rfl, k5⟩
    have hS1 : Kept ws y5 := hS0.below (by simp) k5
    have K5 := hide (below_start k5)
    clear k5
    go_wp2_with fail
    refine hK.out _ _ hS1 (fun hSn => ?_)
    clear hK K
    try simp only [List.setIfInBounds_toArray, List.set_cons_zero, List.set_cons_succ]
    refine call_at (i := 7) (d := 43) (by simp only [List.getElem?_toArray, List.getElem?_cons_succ, List.getElem?_cons_zero]; rfl) rfl (by kernel_rfl) rfl (fun K hK => ?_)
    go_simp
    refine (psame_any _ P.wk P.ws P.vs Ao Au Ab P.own P.out P.back m' co mu' cu mb' cb HM.out.1 HM.out.2.1 HM.out.2.2 (by omega) (by omega) (by omega) (rd_next RO.out K5.out) (er_next RU.out K5.out) (er_next RB.out K5.out) P.wk P.ws P.vs Ap Av Aw P.own P.out P.back m' cp mu' cv mb' cw HM.out.1 HM.out.2.1 HM.out.2.2 (by omega) (by omega) (by omega) (rd_next SO.out K5.out) (er_next SU.out K5.out) (er_next SB.out K5.out)).mono ?_
    rintro e y6 ⟨rfl, k6⟩
    rw [show (decide (P.wk = P.wk) && decide (P.ws = P.ws) && decide (P.vs = P.vs) && eqL P.own P.own && eqL P.out P.out && eqL P.back P.back) = true by simp [eqL_self]]
    have hS2 : Kept ws y6 := hS1.below K5.out.size k6
    have K6 := hide (K5.out.trans (k6.mono K5.out.size))
    clear k6
    go_wp2_with fail
    refine hK.out _ _ hS2 (fun hSn => ?_)
    clear hK K
    try simp only [List.setIfInBounds_toArray, List.set_cons_zero, List.set_cons_succ]
    refine take_at (i := 8) (d := 44) (v := ?_) (by simp only [List.getElem?_toArray, List.getElem?_cons_succ, List.getElem?_cons_zero]; rfl) rfl (by kernel_rfl) (by kernel_rfl) (by kernel_rfl) (fun _ _ _ h => h) rfl ?_ (by assumption) ?_
    rotate_left
    focus (intro w hSw; go_simp; (try with_reducible rfl); done)
    try simp only [List.setIfInBounds_toArray, List.set_cons_zero, List.set_cons_succ]
    refine take_at (i := 9) (d := 45) (v := ?_) (by simp only [List.getElem?_toArray, List.getElem?_cons_succ, List.getElem?_cons_zero]; rfl) rfl (by kernel_rfl) (by kernel_rfl) (by kernel_rfl) (fun _ _ _ h => h) rfl ?_ (by assumption) ?_
    rotate_left
    focus (intro w hSw; go_simp; (try with_reducible rfl); done)
    try simp only [List.setIfInBounds_toArray, List.set_cons_zero, List.set_cons_succ]
    refine wpAnyH_done (by kernel_rfl) ?_ _
    clear hS0 hS1 hS2 hSn p0 q0 p1 q1 p2 q2 p3 q3 p4 q4 p5 q5 RO RU RB SO SU SB
    have hk36 : Below y3.heap.size y3 y6 := K34.out.trans (K6.out.mono K34.out.size)
    have hk26 : Hid (Below y2.heap.size y2 y6) := hide (K3.out.trans (hk36.mono (by omega)))
    have HR6 : Hid (HRows y6 y2.heap.size Au cu hu (P.out.map List.length)) := hide ((ORU.out.below hk36 (Nat.le_refl _)).hrows)
    have CP6 : Hid (y6.heap[bp]? = some (.cells #[.int .i64 P.wk, .int .i64 P.ws, .int .i64 P.vs, .slice Ao m' co, .slice Au mu' cu, .slice Ab mb' cb] 34)) := hide ((K6.out.block bp hlp).trans CPW.out)
    have hbp2 : y2.heap.size ≤ bp := by have h1 := HBP.out; rw [← h1]; exact hy3s
    clear hk36 K34 K6 CPW ORU ORB K3 HBP hlp hlq
    obtain ⟨ls, hls⟩ : ∃ ls, P.out.map List.length = ls := ⟨_, rfl⟩
    rw [hls] at HR6
    have HLS : Hid (ls.length = mu') := hide (by rw [← hls, List.length_map]; exact HM.out.2.1)
    have hsum : Hid (∀ i n, ls[i]? = some n → n ≤ 200) := hide (fun i n hn => by
      rw [← hls, ← HP.out] at hn
      exact Nat.le_trans (part_out_le hn) (by rw [HL.out]; exact hL3))
    clear hls
    go_wp2
    go_loopw [12] (fun v12 wr => ∃ i : Nat, i ≤ mu' ∧ v12 = .int .i64 i ∧ Hid (Below y2.heap.size y2 wr) ∧ Hid (HRows wr y2.heap.size Au cu hu ls) ∧ Hid (wr.heap[bp]? = some (.cells #[.int .i64 P.wk, .int .i64 P.ws, .int .i64 P.vs, .slice Ao m' co, .slice Au mu' cu, .slice Ab mb' cb] 34))) (fun v12 _ => mu' - (intOf v12).toNat)
    case atStart => exact ⟨0, by omega, rfl, hk26, HR6, CP6⟩
    case round =>
      clear hk26 HR6 CP6
      obtain ⟨i, hi, rfl, HBr, HRr, HCr⟩ := hrel
      obtain ⟨wo, rfl⟩ : ∃ x : World, x = wr := ⟨_, rfl⟩
      have g4 : wo.cell? ⟨bp, 4, none⟩ = some (.slice Au mu' cu) := cell_of_row _ _ 4 _ _ _ HCr.out
      by_cases hlt : i < mu'
      · obtain ⟨nn, hnn⟩ : ∃ nn, ls[i]? = some nn := ⟨_, List.getElem?_eq_getElem (by rw [HLS.out]; exact hlt)⟩
        have HN := hide hnn
        have hn2 := hsum.out i nn hnn
        clear hnn
        go_wp2_with fail
        clear g4
        go_loopw [13] (fun v13 wr => ∃ j : Nat, j ≤ nn ∧ v13 = .int .i64 j ∧ Hid (Below y2.heap.size y2 wr) ∧ Hid (HRows wr y2.heap.size Au cu hu ls) ∧ Hid (wr.heap[bp]? = some (.cells #[.int .i64 P.wk, .int .i64 P.ws, .int .i64 P.vs, .slice Ao m' co, .slice Au mu' cu, .slice Ab mb' cb] 34))) (fun v13 _ => nn - (intOf v13).toNat)
        case atStart => exact ⟨0, by omega, rfl, HBr, HRr, HCr⟩
        case round =>
          clear HBr HRr HCr
          obtain ⟨j, hj, rfl, HBr, HRr, HCr⟩ := hrel
          have g4 : wr.cell? ⟨bp, 4, none⟩ = some (.slice Au mu' cu) := cell_of_row _ _ 4 _ _ _ HCr.out
          have hown := HRr.out.own
          rw [HLS.out] at hown
          obtain ⟨gu, hgu, _, hgl, hmc⟩ := own_addr hown (by omega)
          subst hgu
          have hil : i < hu.length := by have := hown.1; omega
          obtain ⟨A2, c2, he, hc3, hc4, hrow⟩ := HRr.out.row i _ nn (List.getElem?_eq_getElem hil) HN.out
          have gi : wr.cell? ⟨gu, i, none⟩ = some (.slice A2 nn c2) := (hown.cellAt i (by omega)).trans (by rw [List.getElem?_eq_getElem hil, he])
          have hI0 : (0 : Int) ≤ (i : Int) := by omega
          have hI1 : (i : Int) < (mu' : Int) := by omega
          have hlbp := lt_of_block HCr.out
          clear hown he
          by_cases hlt2 : j < nn
          · rcases hrow with h0 | ⟨g2, cur, rfl, hg2, hcur, hcs⟩
            · exact absurd h0 (by omega)
            obtain ⟨cv, q1⟩ : ∃ cv, wr.cell? ⟨g2, j * 3 + 1, none⟩ = some cv := ⟨_, by rw [cell_of_row _ _ _ _ _ _ hcur]; exact Array.getElem?_eq_getElem (by omega)⟩
            have qf : wr.frozen? ⟨g2, j * 3 + 1, none⟩ = false := frozen_of_row _ _ _ _ _ hcur
            have hJ0 : (0 : Int) ≤ (j : Int) := by omega
            have hJ1 : (j : Int) < (nn : Int) := by omega
            have HR2 := hide (HRr.out.store hcur (j * 3 + 1) (.int .i64 (-9)))
            have HB2' := hide (HBr.out.setCell (p := ⟨g2, j * 3 + 1, none⟩) hg2 (.int .i64 (-9)))
            have hne : bp ≠ g2 := fun e => by
              subst e
              have := hcur.symm.trans HCr.out
              injection this with this
              injection this with _ e2
              exact absurd e2 (by decide)
            have HC2 := hide ((Below.heap_setCell wr ⟨g2, j * 3 + 1, none⟩ (.int .i64 (-9)) bp hne).trans HCr.out)
            have hlg2 := lt_of_block hcur
            clear hcur hcs HRr HBr HCr hne
            go_wp2
            go_roundw
            case rel => exact ⟨j + 1, by omega, by go_num, HB2', HR2, HC2⟩
            case measure => simp [intOf]; omega
          · obtain rfl : j = nn := by omega
            clear hrow
            go_wp2
            go_roundw
            case rel => exact ⟨i + 1, by omega, by go_num, HBr, HRr, HCr⟩
            case measure => simp [intOf]; omega
      · obtain rfl : i = mu' := by omega
        have g1 : wo.cell? ⟨w.heap.size, 1, none⟩ = some (.slice A L c) := (HBr.out.cell (p := ⟨w.heap.size, 1, none⟩) (by show w.heap.size < _; omega)).trans (cell_of_row _ _ 1 _ _ _ GU2.out)
        have EA := hide (OW2.out.next HBr.out)
        have EB := hide (E2.out.next HBr.out)
        have hB := hide (HB2.out.trans (HBr.out.mono (by omega)))
        have hlw : w.heap.size < wo.heap.size := by have := HBr.out.size; omega
        go_wp2_with fail
        refine (sameEdges_any wo Ac A es es L L cc c HL.out HL.out (by omega) EA.out EB.out).mono ?_
        rintro e y7 ⟨rfl, k7⟩
        rw [eqL_self]
        have hB7 := hide (hB.out.trans (k7.mono (by omega)))
        clear k7 g1 g4
        go_wp2_with fail
        refine (works_any _).mono ?_
        rintro e y8 ⟨rfl, k8⟩
        have hB8 := hide (hB7.out.trans (k8.mono hB7.out.size))
        clear k8
        go_wp2
        go_ret
        exact ⟨rfl, hB8.out⟩
  · have hl2 : decide ((L : Int) ≤ 200) = false := decide_eq_false hlight
    go_enter Try.func4, Try.ntmps4
    go_wp2_with fail
    rw [HU.out]
    refine (light_any _ V A L c 200).mono ?_
    rintro e y1 ⟨rfl, k1⟩
    rw [hl2]
    have HB1 := hide (HB.out.trans (k1.mono (by omega)))
    clear k1
    go_wp2_with fail
    refine (works_any _).mono ?_
    rintro e y2 ⟨rfl, k2⟩
    have HB2 := hide (HB1.out.trans (k2.mono HB1.out.size))
    clear k2
    go_wp2
    go_ret
    exact ⟨rfl, HB2.out⟩
end Go.Proofs.Ytihdpfjonkagaaa
