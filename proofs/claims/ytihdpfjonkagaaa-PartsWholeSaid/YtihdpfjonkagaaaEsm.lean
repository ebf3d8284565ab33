/- Two stretches in order that lie side by side are merged in place. (printed by gen/sst.py) -/
import Derived.Test.YtihdpfjonkagaaaEsn
import Derived.Deep.DeepCutAuto
import Derived.Lib.Hide
import Derived.WalkSpells
import Derived.WalkMore
import Derived.IntWalk
namespace Go.Proofs.Ytihdpfjonkagaaa
open Go.RowKit
set_option linter.unusedVariables false
set_option linter.unusedSimpArgs false
set_option maxRecDepth 100000 in
set_option maxHeartbeats 64000000 in
theorem sym_any (κ : Ed → Int) (v0 : World) (B g n cap : Nat) (hn : n ≤ 1000000) : ∀ (N : Nat) (w : World) (d : List Ed) (a m b : Nat), b - a ≤ N → SR v0 B g n cap d w → a < m → m < b → b ≤ n →
    Calls Try.prog 58 #[.slice (some ⟨g, 0, none⟩) n cap, .int .i64 (a : Int), .int .i64 (m : Int), .int .i64 (b : Int), .func (.func 40) #[] #[]] w (fun e w' => e = .returned (.tuple #[]) ∧ ∃ d', SR v0 B g n cap d' w' ∧ SymR ltF κ a m b d d') := by
  intro N
  induction N with
  | zero => intro w d a m b h1 _ h2 h3; omega
  | succ N ih =>
    intro w d a m b hN hS ham hmb hbn
    by_cases hA : m = a + 1
    · exact symA_any κ v0 B g n cap hn w d a m b hS ham hmb hbn hA
    by_cases hB : b = m + 1
    · exact symB_any κ v0 B g n cap hn w d a m b hS ham hmb hbn hA hB
    have IH := hide ih
    have HS := hide hS
    have HL := hide hS.1
    clear hS ih
    obtain ⟨ma, hma⟩ : ∃ z, m - a = z := ⟨_, rfl⟩
    obtain ⟨bm, hbm⟩ : ∃ z, b - m = z := ⟨_, rfl⟩
    obtain ⟨ab, hab⟩ : ∃ z, a + b = z := ⟨_, rfl⟩
    obtain ⟨mid, hmid⟩ : ∃ z, ab / 2 = z := ⟨_, rfl⟩
    obtain ⟨nn, hnn⟩ : ∃ z, mid + m = z := ⟨_, rfl⟩
    obtain ⟨pp, hpp⟩ : ∃ z, nn - 1 = z := ⟨_, rfl⟩
    have q1 : (m : Int) - (a : Int) = (ma : Int) := by omega
    have q2 : (b : Int) - (m : Int) = (bm : Int) := by omega
    have q5 : ((ma : Int) == 1) = false := by simp; omega
    have q6 : ((bm : Int) == 1) = false := by simp; omega
    have q7 : (a : Int) + (b : Int) = (ab : Int) := by omega
    have q8 : (ab : Int) / 2 = (mid : Int) := by omega
    have q9 : (mid : Int) + (m : Int) = (nn : Int) := by omega
    have qa : (nn : Int) - 1 = (pp : Int) := by omega
    have bab : ab ≤ 9223372036854775807 := by omega
    have bmid : mid ≤ 9223372036854775807 := by omega
    have bnn : nn ≤ 9223372036854775807 := by omega
    have bpp : pp ≤ 9223372036854775807 := by omega
    have bma : ma ≤ 9223372036854775807 := by omega
    have bbm : bm ≤ 9223372036854775807 := by omega
    obtain ⟨s9, hs9⟩ : ∃ z, nn - b = z := ⟨_, rfl⟩
    have HT1 : Hid (mid < m → ((nn : Int) - (b : Int) = (s9 : Int) ∧ s9 + b = mid + m)) := hide (fun h => by omega)
    have bs9 : s9 ≤ 9223372036854775807 := by omega
    clear hs9
    have HM := hide (show mid = (a + b) / 2 ∧ mid + m = nn ∧ pp = mid + m - 1 ∧ a < mid ∧ mid < b by omega)
    clear hma hbm hab hmid hnn hpp
    have r1 : IntKind.i64.wrap (ma : Int) = (ma : Int) := i64_nat _ bma
    have r2 : IntKind.i64.wrap (bm : Int) = (bm : Int) := i64_nat _ bbm
    have r3 : IntKind.i64.wrap (ab : Int) = (ab : Int) := i64_nat _ bab
    have r4 : IntKind.u64.wrap (ab : Int) = (ab : Int) := u64_nat _ (Nat.le_trans bab (by decide))
    have r5 : wrap64 (mid : Int) = (mid : Int) := w64_nat _ bmid
    have r6 : IntKind.i64.wrap (mid : Int) = (mid : Int) := i64_nat _ bmid
    have r7 : IntKind.i64.wrap (nn : Int) = (nn : Int) := i64_nat _ bnn
    go_enter Try.func58, Try.ntmps58
    go_upto_if 140 with fail
    go_cut [20, 21] (fun v20 v21 wc => ∃ (s0 r0 : Nat), Hid ((m ≤ mid ∧ s0 = a ∧ r0 = m) ∨ (mid < m ∧ s0 + b = mid + m ∧ r0 = mid)) ∧ v20 = .int .i64 (s0 : Int) ∧ v21 = .int .i64 (r0 : Int) ∧ wc = w)
    case first =>
      clear q1 q2 q5 q6 q7 q8 q9 r1 r2 r3 r4 r5 r6 r7 qa
      by_cases hmm : mid < m
      · have hmm' : (mid : Int) < (m : Int) := Int.ofNat_lt.2 hmm
        have HD : Hid ((m ≤ mid ∧ s9 = a ∧ mid = m) ∨ (mid < m ∧ s9 + b = mid + m ∧ mid = mid)) := hide (.inr ⟨hmm, (HT1.out hmm).2, rfl⟩)
        have t1 : (nn : Int) - (b : Int) = (s9 : Int) := (HT1.out hmm).1
        have t2 : IntKind.i64.wrap (s9 : Int) = (s9 : Int) := i64_nat _ bs9
        go_wp2
        go_meet
        case rel => exact ⟨s9, mid, hide (.inr ⟨by omega, (HT1.out (by omega)).2, rfl⟩), rfl, rfl, rfl⟩
      · have hmm' : ¬ (mid : Int) < (m : Int) := fun h => hmm (Int.ofNat_lt.1 h)
        have HD : Hid ((m ≤ mid ∧ a = a ∧ m = m) ∨ (mid < m ∧ a + b = mid + m ∧ m = mid)) := hide (.inl ⟨Nat.le_of_not_lt hmm, rfl, rfl⟩)
        go_wp2
        go_meet
        case rel => exact ⟨a, m, hide (.inl ⟨by omega, rfl, rfl⟩), rfl, rfl, rfl⟩
    case rest =>
      obtain ⟨s0, r0, HD, rfl, rfl, e⟩ := hcut
      subst e
      clear q1 q2 q5 q6 q7 q8 q9 r1 r2 r3 r4 r5 r6 r7
      have HB0 := hide (show a ≤ s0 ∧ r0 ≤ m ∧ m + r0 ≤ pp + 1 ∧ pp < b + s0 ∧ s0 ≤ r0 by have := HD.out; have := HM.out; omega)
      have r8 : IntKind.i64.wrap (pp : Int) = (pp : Int) := i64_nat _ bpp
      go_wp2
      go_loopw [20, 21] (fun v20 v21 wr => ∃ (s r : Nat), (s0 ≤ s ∧ s ≤ r ∧ r ≤ r0) ∧ v20 = .int .i64 (s : Int) ∧ v21 = .int .i64 (r : Int) ∧ Hid (SR v0 B g n cap d wr) ∧ Hid (Cut2 ltF κ a m b s0 r0 pp s r d)) (fun v20 v21 _ => (intOf v21).toNat - (intOf v20).toNat)
      case atStart => exact ⟨s0, r0, ⟨Nat.le_refl _, HB0.out.2.2.2.2, Nat.le_refl _⟩, rfl, rfl, HS, hide (Cut2.start _ _ _ _ _ _ _)⟩
      case round =>
        clear qa r8
        obtain ⟨s, r, hij, rfl, rfl, HS1, HO⟩ := hrel
        by_cases hlt : s < r
        · have hI : (s : Int) < (r : Int) := by omega
          obtain ⟨u, hu⟩ : ∃ z, s + r = z := ⟨_, rfl⟩
          obtain ⟨c, hc⟩ : ∃ z, u / 2 = z := ⟨_, rfl⟩
          obtain ⟨pc, hpc⟩ : ∃ z, pp - c = z := ⟨_, rfl⟩
          have HBB := HB0.out
          have bu : u ≤ 9223372036854775807 := by omega
          have bc : c ≤ 9223372036854775807 := by omega
          have hb1 : s ≤ c ∧ c < r := by omega
          have hcn : c < n := by omega
          have hpn : pc < n := by omega
          have lh : (c : Int) < (n : Int) := by omega
          have lm : (pc : Int) < (n : Int) := by omega
          have f7 : (pp : Int) - (c : Int) = (pc : Int) := by omega
          obtain ⟨x, hx⟩ := get_some (d := d) (i := c) (by have := HL.out; omega)
          obtain ⟨y, hy⟩ := get_some (d := d) (i := pc) (by have := HL.out; omega)
          obtain ⟨cx0, cx1, cx2⟩ := HS1.out.get hx
          have cxf0 := HS1.out.frozen (c * 3)
          have cxf1 := HS1.out.frozen (c * 3 + 1)
          have cxf2 := HS1.out.frozen (c * 3 + 2)
          obtain ⟨cy0, cy1, cy2⟩ := HS1.out.get hy
          have cyf0 := HS1.out.frozen (pc * 3)
          have cyf1 := HS1.out.frozen (pc * 3 + 1)
          have cyf2 := HS1.out.frozen (pc * 3 + 2)
          have lg := HS1.out.glt
          obtain ⟨z, hz⟩ : ∃ z, cmpI y x = z := ⟨_, rfl⟩
          have HZ := hide hz
          clear hz
          have HX := hide hx
          have HY : Hid (d[pp - c]? = some y) := hide (by rw [hpc]; exact hy)
          have k1 : s0 ≤ c := by omega
          have k2 : c < r0 := by omega
          have k3 : s0 ≤ c + 1 ∧ c + 1 ≤ r ∧ r ≤ r0 := by omega
          have k4 : s0 ≤ s ∧ s ≤ c ∧ c ≤ r0 := by omega
          have w1 : IntKind.i64.wrap ((c : Int) + 1) = (c : Int) + 1 := i64_nat (c + 1) (by omega)
          have KK := hide (And.intro k1 (And.intro k2 (And.intro k3 k4)))
          have HB1 := hide (And.intro hij hb1)
          have f1 : (s : Int) + (r : Int) = (u : Int) := by omega
          have f2 : (u : Int) / 2 = (c : Int) := by omega
          have f3 : IntKind.i64.wrap (u : Int) = (u : Int) := i64_nat _ bu
          have f4 : IntKind.u64.wrap (u : Int) = (u : Int) := u64_nat _ (Nat.le_trans bu (by decide))
          have f5 : wrap64 (c : Int) = (c : Int) := w64_nat _ bc
          have f6 : IntKind.i64.wrap (c : Int) = (c : Int) := i64_nat _ bc
          have f8 : IntKind.i64.wrap (pc : Int) = (pc : Int) := i64_nat _ (Nat.le_trans (Nat.le_of_lt hpn) (Nat.le_trans hn (by decide)))
          clear hx hy hu hc hb1 hij hpc HBB k1 k2 k3 k4
          go_upto_region 35 with fail
          refine wp_region_held_drew (S := Kept wr) (by kernel_rfl) (Kept.drew wr) (fun hS0 => ?_)
          refine take_at (i := 0) (d := 158) (v := ?_) (by simp only [List.getElem?_toArray, List.getElem?_cons_succ, List.getElem?_cons_zero]; rfl) rfl (by kernel_rfl) (by kernel_rfl) (by kernel_rfl) (fun _ _ _ h => h) rfl ?_ (by assumption) ?_
          rotate_left
          focus (intro w hSw; go_simp; (try with_reducible rfl); done)
          try simp only [List.setIfInBounds_toArray, List.set_cons_zero, List.set_cons_succ]
          refine take_at (i := 1) (d := 159) (v := ?_) (by simp only [List.getElem?_toArray, List.getElem?_cons_succ, List.getElem?_cons_zero]; rfl) rfl (by kernel_rfl) (by kernel_rfl) (by kernel_rfl) (fun _ _ _ h => h) rfl ?_ (by assumption) ?_
          rotate_left
          focus (intro w hSw; go_simp; (try with_reducible rfl); done)
          try simp only [List.setIfInBounds_toArray, List.set_cons_zero, List.set_cons_succ]
          refine take_at (i := 2) (d := 160) (v := ?_) (by simp only [List.getElem?_toArray, List.getElem?_cons_succ, List.getElem?_cons_zero]; rfl) rfl (by kernel_rfl) (by kernel_rfl) (by kernel_rfl) (fun _ _ _ h => h) rfl ?_ (by assumption) ?_
          rotate_left
          focus (intro w hSw; go_simp; (try with_reducible rfl); done)
          try simp only [List.setIfInBounds_toArray, List.set_cons_zero, List.set_cons_succ]
          refine take_at (i := 3) (d := 161) (v := ?_) (by simp only [List.getElem?_toArray, List.getElem?_cons_succ, List.getElem?_cons_zero]; rfl) rfl (by kernel_rfl) (by kernel_rfl) (by kernel_rfl) (fun _ _ _ h => h) rfl ?_ (by assumption) ?_
          rotate_left
          focus (intro w hSw; go_simp; (try with_reducible rfl); done)
          try simp only [List.setIfInBounds_toArray, List.set_cons_zero, List.set_cons_succ]
          refine take_at (i := 4) (d := 162) (v := ?_) (by simp only [List.getElem?_toArray, List.getElem?_cons_succ, List.getElem?_cons_zero]; rfl) rfl (by kernel_rfl) (by kernel_rfl) (by kernel_rfl) (fun _ _ _ h => h) rfl ?_ (by assumption) ?_
          rotate_left
          focus (intro w hSw; go_simp; (try with_reducible rfl); done)
          try simp only [List.setIfInBounds_toArray, List.set_cons_zero, List.set_cons_succ]
          refine take_at (i := 5) (d := 163) (v := ?_) (by simp only [List.getElem?_toArray, List.getElem?_cons_succ, List.getElem?_cons_zero]; rfl) rfl (by kernel_rfl) (by kernel_rfl) (by kernel_rfl) (fun _ _ _ h => h) rfl ?_ (by assumption) ?_
          rotate_left
          focus (intro w hSw; go_simp; (try with_reducible rfl); done)
          try simp only [List.setIfInBounds_toArray, List.set_cons_zero, List.set_cons_succ]
          refine take_at (i := 6) (d := 164) (v := ?_) (by simp only [List.getElem?_toArray, List.getElem?_cons_succ, List.getElem?_cons_zero]; rfl) rfl (by kernel_rfl) (by kernel_rfl) (by kernel_rfl) (fun _ _ _ h => h) rfl ?_ (by assumption) ?_
          rotate_left
          focus (intro w hSw; go_simp; (try with_reducible rfl); done)
          try simp only [List.setIfInBounds_toArray, List.set_cons_zero, List.set_cons_succ]
          refine take_at (i := 7) (d := 165) (v := ?_) (by simp only [List.getElem?_toArray, List.getElem?_cons_succ, List.getElem?_cons_zero]; rfl) rfl (by kernel_rfl) (by kernel_rfl) (by kernel_rfl) (fun _ _ _ h => h) rfl ?_ (by assumption) ?_
          rotate_left
          focus (intro w hSw; go_simp; (try with_reducible rfl); done)
          try simp only [List.setIfInBounds_toArray, List.set_cons_zero, List.set_cons_succ]
          refine take_at (i := 8) (d := 166) (v := ?_) (by simp only [List.getElem?_toArray, List.getElem?_cons_succ, List.getElem?_cons_zero]; rfl) rfl (by kernel_rfl) (by kernel_rfl) (by kernel_rfl) (fun _ _ _ h => h) rfl ?_ (by assumption) ?_
          rotate_left
          focus (intro w hSw; go_simp; (try with_reducible rfl); done)
          try simp only [List.setIfInBounds_toArray, List.set_cons_zero, List.set_cons_succ]
          refine take_at (i := 9) (d := 167) (v := ?_) (by simp only [List.getElem?_toArray, List.getElem?_cons_succ, List.getElem?_cons_zero]; rfl) rfl (by kernel_rfl) (by kernel_rfl) (by kernel_rfl) (fun _ _ _ h => h) rfl ?_ (by assumption) ?_
          rotate_left
          focus (intro w hSw; go_simp; (try with_reducible rfl); done)
          try simp only [List.setIfInBounds_toArray, List.set_cons_zero, List.set_cons_succ]
          refine take_at (i := 10) (d := 168) (v := ?_) (by simp only [List.getElem?_toArray, List.getElem?_cons_succ, List.getElem?_cons_zero]; rfl) rfl (by kernel_rfl) (by kernel_rfl) (by kernel_rfl) (fun _ _ _ h => h) rfl ?_ (by assumption) ?_
          rotate_left
          focus (intro w hSw; go_simp; (try with_reducible rfl); done)
          try simp only [List.setIfInBounds_toArray, List.set_cons_zero, List.set_cons_succ]
          refine call_at (i := 11) (d := 169) (by simp only [List.getElem?_toArray, List.getElem?_cons_succ, List.getElem?_cons_zero]; rfl) rfl (by kernel_rfl) rfl (fun K hK => ?_)
          go_simp
          refine (clo_any _ y x).mono ?_
          rintro e z1 ⟨rfl, hz⟩
          rw [HZ.out]
          have hS1 : Kept wr z1 := hS0.below (by simp) hz
          have HSz := hide (HS1.out.drew.below hz)
          clear hz
          go_wp2_with fail
          refine hK.out _ _ hS1 (fun hSn => ?_)
          clear hK K
          try simp only [List.setIfInBounds_toArray, List.set_cons_zero, List.set_cons_succ]
          refine take_at (i := 12) (d := 170) (v := ?_) (by simp only [List.getElem?_toArray, List.getElem?_cons_succ, List.getElem?_cons_zero]; rfl) rfl (by kernel_rfl) (by kernel_rfl) (by kernel_rfl) (fun _ _ _ h => h) rfl ?_ (by assumption) ?_
          rotate_left
          focus (intro w hSw; go_simp; (try with_reducible rfl); done)
          try simp only [List.setIfInBounds_toArray, List.set_cons_zero, List.set_cons_succ]
          refine take_at (i := 13) (d := 171) (v := ?_) (by simp only [List.getElem?_toArray, List.getElem?_cons_succ, List.getElem?_cons_zero]; rfl) rfl (by kernel_rfl) (by kernel_rfl) (by kernel_rfl) (fun _ _ _ h => h) rfl ?_ (by assumption) ?_
          rotate_left
          focus (intro w hSw; go_simp; (try with_reducible rfl); done)
          try simp only [List.setIfInBounds_toArray, List.set_cons_zero, List.set_cons_succ]
          refine wpAnyH_done (by kernel_rfl) ?_ _
          clear hS0 hSn hS1 cx0 cxf0 cx1 cxf1 cx2 cxf2 cy0 cyf0 cy1 cyf1 cy2 cyf2
          by_cases hz0 : z < 0
          · have hz2 : ¬ 0 ≤ z := Int.not_le.2 hz0
            have hd : (!decide (z < 0)) = false := by simp [hz0]
            rw [hd]
            clear hd
            have HLT : Hid (ltF y x = true) := hide (by unfold ltF; rw [HZ.out]; simpa using hz0)
            have HO2 : Hid (Cut2 ltF κ a m b s0 r0 pp s c d) := hide (by have hb := HB0.out; exact HO.out.down hb.1 hb.2.1 hb.2.2.1 hb.2.2.2.1 KK.out.1 KK.out.2.1 HX.out HY.out HLT.out)
            go_wp2
            clear f1 f2 f3 f4 f5 f6 f7 f8 w1
            go_roundw
            case rel => first | exact ⟨s, c, KK.out.2.2.2, rfl, by first | rfl | go_num, HSz, HO2⟩ | ((repeat apply Exists.intro); exact ⟨⟨s, c, KK.out.2.2.2, rfl, by first | rfl | go_num, HSz, HO2⟩, rfl⟩)
            case measure => have := HB1.out; simp [intOf]; omega
          · have hd : (!decide (z < 0)) = true := by rw [decide_eq_false hz0]; rfl
            rw [hd]
            clear hd
            have HLT : Hid (ltF y x = false) := hide (by unfold ltF; rw [HZ.out]; simpa using hz0)
            have HO2 : Hid (Cut2 ltF κ a m b s0 r0 pp (c + 1) r d) := hide (by have hb := HB0.out; exact HO.out.up hb.1 hb.2.1 hb.2.2.1 hb.2.2.2.1 KK.out.1 KK.out.2.1 HX.out HY.out HLT.out)
            have hz1 : 0 ≤ z := Int.not_lt.1 hz0
            go_wp2
            clear f1 f2 f3 f4 f5 f6 f7 f8 w1
            go_roundw
            case rel => first | exact ⟨c + 1, r, KK.out.2.2.1, by first | rfl | go_num, rfl, HSz, HO2⟩ | ((repeat apply Exists.intro); exact ⟨⟨c + 1, r, KK.out.2.2.1, by first | rfl | go_num, rfl, HSz, HO2⟩, rfl⟩)
            case measure => have := HB1.out; simp [intOf]; omega
        · obtain rfl : s = r := by omega
          obtain ⟨e, he⟩ : ∃ z, nn - s = z := ⟨_, rfl⟩
          have HE := hide (show e + s = mid + m ∧ s ≤ m ∧ m ≤ e ∧ e ≤ b ∧ a ≤ s ∧ s ≤ mid ∧ mid ≤ e by have := HM.out; have := HB0.out; have := HD.out; omega)
          have t1 : (nn : Int) - (s : Int) = (e : Int) := by have := HE.out; have := HM.out; omega
          have HIJ := hide hij
          have t2 : IntKind.i64.wrap (e : Int) = (e : Int) := i64_nat _ (by have := HE.out; omega)
          clear he hij
          by_cases hc1 : s < m
          · have hc1' : (s : Int) < (m : Int) := Int.ofNat_lt.2 hc1
            by_cases hc2 : m < e
            · have hc2' : (m : Int) < (e : Int) := Int.ofNat_lt.2 hc2
              have heb := HE.out.2.2.2.1
              go_wp2_with fail
              refine (rot_any v0 _ B g n cap d s m e HS1.out hc1 hc2 (Nat.le_trans heb hbn) hn).mono ?_
              rintro _ w2 ⟨rfl, hs2⟩
              have HSe := hide hs2
              clear hs2 HS1 t1 t2 heb
              by_cases hl1 : a < s
              · have hl1' : (a : Int) < (s : Int) := Int.ofNat_lt.2 hl1
                by_cases hl2 : s < mid
                · have hl2' : (s : Int) < (mid : Int) := Int.ofNat_lt.2 hl2
                  go_wp2_with fail
                  refine (IH.out w2 (rotL s m e d) a s mid (by have := HM.out; omega) HSe.out hl1 hl2 (by have := HM.out; omega)).mono ?_
                  rintro _ w3 ⟨rfl, f, hs3, hf3⟩
                  have HSf := hide hs3
                  have HF := hide hf3
                  clear hs3 hf3
                  by_cases he1 : mid < e
                  · have he1' : (mid : Int) < (e : Int) := Int.ofNat_lt.2 he1
                    by_cases he2 : e < b
                    · have he2' : (e : Int) < (b : Int) := Int.ofNat_lt.2 he2
                      go_wp2_with fail
                      refine (IH.out w3 f mid e b (by have := HM.out; omega) HSf.out he1 he2 hbn).mono ?_
                      rintro _ w4 ⟨rfl, f2, hs4, hg4⟩
                      have HSg := hide hs4
                      have HG := hide hg4
                      clear hs4 hg4
                      have HFin := hide (show ∃ d', SR v0 B g n cap d' w4 ∧ SymR ltF κ a m b d d' from ⟨f2, HSg.out, sym_join (mid := mid) (s0 := s0) (r0 := r0) (s := s) (e := e) (f := f) ham hmb (by rw [HL.out]; exact hbn) HM.out.1 HD.out HIJ.out.1 HIJ.out.2.2 HE.out.1 (by rw [← HM.out.2.2.1]; exact HO.out) HF.out HG.out⟩)
                      go_wp2
                      go_end0
                      exact ⟨rfl, HFin.out⟩
                    · have he2' : ¬ (e : Int) < (b : Int) := fun h => he2 (Int.ofNat_lt.1 h)
                      have HG : Hid (SymR ltF κ mid e b f f) := hide (SymR.none_ HE.out.2.2.2.2.2.2 HE.out.2.2.2.1 (fun h => he2 h.2))
                      have HFin := hide (show ∃ d', SR v0 B g n cap d' w3 ∧ SymR ltF κ a m b d d' from ⟨f, HSf.out, sym_join (mid := mid) (s0 := s0) (r0 := r0) (s := s) (e := e) (f := f) ham hmb (by rw [HL.out]; exact hbn) HM.out.1 HD.out HIJ.out.1 HIJ.out.2.2 HE.out.1 (by rw [← HM.out.2.2.1]; exact HO.out) HF.out HG.out⟩)
                      go_wp2
                      go_end0
                      exact ⟨rfl, HFin.out⟩
                  · have he1' : ¬ (mid : Int) < (e : Int) := fun h => he1 (Int.ofNat_lt.1 h)
                    have HG : Hid (SymR ltF κ mid e b f f) := hide (SymR.none_ HE.out.2.2.2.2.2.2 HE.out.2.2.2.1 (fun h => he1 h.1))
                    have HFin := hide (show ∃ d', SR v0 B g n cap d' w3 ∧ SymR ltF κ a m b d d' from ⟨f, HSf.out, sym_join (mid := mid) (s0 := s0) (r0 := r0) (s := s) (e := e) (f := f) ham hmb (by rw [HL.out]; exact hbn) HM.out.1 HD.out HIJ.out.1 HIJ.out.2.2 HE.out.1 (by rw [← HM.out.2.2.1]; exact HO.out) HF.out HG.out⟩)
                    go_wp2
                    go_end0
                    exact ⟨rfl, HFin.out⟩
                · have hl2' : ¬ (s : Int) < (mid : Int) := fun h => hl2 (Int.ofNat_lt.1 h)
                  obtain ⟨f, hf⟩ : ∃ f, rotL s m e d = f := ⟨_, rfl⟩
                  have HF : Hid (SymR ltF κ a s mid (rotL s m e d) f) := hide (by rw [← hf]; exact SymR.none_ HE.out.2.2.2.2.1 HE.out.2.2.2.2.2.1 (fun h => hl2 h.2))
                  have HSf : Hid (SR v0 B g n cap f w2) := hide (by rw [← hf]; exact HSe.out)
                  clear hf
                  by_cases he1 : mid < e
                  · have he1' : (mid : Int) < (e : Int) := Int.ofNat_lt.2 he1
                    by_cases he2 : e < b
                    · have he2' : (e : Int) < (b : Int) := Int.ofNat_lt.2 he2
                      go_wp2_with fail
                      refine (IH.out w2 f mid e b (by have := HM.out; omega) HSf.out he1 he2 hbn).mono ?_
                      rintro _ w4 ⟨rfl, f2, hs4, hg4⟩
                      have HSg := hide hs4
                      have HG := hide hg4
                      clear hs4 hg4
                      have HFin := hide (show ∃ d', SR v0 B g n cap d' w4 ∧ SymR ltF κ a m b d d' from ⟨f2, HSg.out, sym_join (mid := mid) (s0 := s0) (r0 := r0) (s := s) (e := e) (f := f) ham hmb (by rw [HL.out]; exact hbn) HM.out.1 HD.out HIJ.out.1 HIJ.out.2.2 HE.out.1 (by rw [← HM.out.2.2.1]; exact HO.out) HF.out HG.out⟩)
                      go_wp2
                      go_end0
                      exact ⟨rfl, HFin.out⟩
                    · have he2' : ¬ (e : Int) < (b : Int) := fun h => he2 (Int.ofNat_lt.1 h)
                      have HG : Hid (SymR ltF κ mid e b f f) := hide (SymR.none_ HE.out.2.2.2.2.2.2 HE.out.2.2.2.1 (fun h => he2 h.2))
                      have HFin := hide (show ∃ d', SR v0 B g n cap d' w2 ∧ SymR ltF κ a m b d d' from ⟨f, HSf.out, sym_join (mid := mid) (s0 := s0) (r0 := r0) (s := s) (e := e) (f := f) ham hmb (by rw [HL.out]; exact hbn) HM.out.1 HD.out HIJ.out.1 HIJ.out.2.2 HE.out.1 (by rw [← HM.out.2.2.1]; exact HO.out) HF.out HG.out⟩)
                      go_wp2
                      go_end0
                      exact ⟨rfl, HFin.out⟩
                  · have he1' : ¬ (mid : Int) < (e : Int) := fun h => he1 (Int.ofNat_lt.1 h)
                    have HG : Hid (SymR ltF κ mid e b f f) := hide (SymR.none_ HE.out.2.2.2.2.2.2 HE.out.2.2.2.1 (fun h => he1 h.1))
                    have HFin := hide (show ∃ d', SR v0 B g n cap d' w2 ∧ SymR ltF κ a m b d d' from ⟨f, HSf.out, sym_join (mid := mid) (s0 := s0) (r0 := r0) (s := s) (e := e) (f := f) ham hmb (by rw [HL.out]; exact hbn) HM.out.1 HD.out HIJ.out.1 HIJ.out.2.2 HE.out.1 (by rw [← HM.out.2.2.1]; exact HO.out) HF.out HG.out⟩)
                    go_wp2
                    go_end0
                    exact ⟨rfl, HFin.out⟩
              · have hl1' : ¬ (a : Int) < (s : Int) := fun h => hl1 (Int.ofNat_lt.1 h)
                obtain ⟨f, hf⟩ : ∃ f, rotL s m e d = f := ⟨_, rfl⟩
                have HF : Hid (SymR ltF κ a s mid (rotL s m e d) f) := hide (by rw [← hf]; exact SymR.none_ HE.out.2.2.2.2.1 HE.out.2.2.2.2.2.1 (fun h => hl1 h.1))
                have HSf : Hid (SR v0 B g n cap f w2) := hide (by rw [← hf]; exact HSe.out)
                clear hf
                by_cases he1 : mid < e
                · have he1' : (mid : Int) < (e : Int) := Int.ofNat_lt.2 he1
                  by_cases he2 : e < b
                  · have he2' : (e : Int) < (b : Int) := Int.ofNat_lt.2 he2
                    go_wp2_with fail
                    refine (IH.out w2 f mid e b (by have := HM.out; omega) HSf.out he1 he2 hbn).mono ?_
                    rintro _ w4 ⟨rfl, f2, hs4, hg4⟩
                    have HSg := hide hs4
                    have HG := hide hg4
                    clear hs4 hg4
                    have HFin := hide (show ∃ d', SR v0 B g n cap d' w4 ∧ SymR ltF κ a m b d d' from ⟨f2, HSg.out, sym_join (mid := mid) (s0 := s0) (r0 := r0) (s := s) (e := e) (f := f) ham hmb (by rw [HL.out]; exact hbn) HM.out.1 HD.out HIJ.out.1 HIJ.out.2.2 HE.out.1 (by rw [← HM.out.2.2.1]; exact HO.out) HF.out HG.out⟩)
                    go_wp2
                    go_end0
                    exact ⟨rfl, HFin.out⟩
                  · have he2' : ¬ (e : Int) < (b : Int) := fun h => he2 (Int.ofNat_lt.1 h)
                    have HG : Hid (SymR ltF κ mid e b f f) := hide (SymR.none_ HE.out.2.2.2.2.2.2 HE.out.2.2.2.1 (fun h => he2 h.2))
                    have HFin := hide (show ∃ d', SR v0 B g n cap d' w2 ∧ SymR ltF κ a m b d d' from ⟨f, HSf.out, sym_join (mid := mid) (s0 := s0) (r0 := r0) (s := s) (e := e) (f := f) ham hmb (by rw [HL.out]; exact hbn) HM.out.1 HD.out HIJ.out.1 HIJ.out.2.2 HE.out.1 (by rw [← HM.out.2.2.1]; exact HO.out) HF.out HG.out⟩)
                    go_wp2
                    go_end0
                    exact ⟨rfl, HFin.out⟩
                · have he1' : ¬ (mid : Int) < (e : Int) := fun h => he1 (Int.ofNat_lt.1 h)
                  have HG : Hid (SymR ltF κ mid e b f f) := hide (SymR.none_ HE.out.2.2.2.2.2.2 HE.out.2.2.2.1 (fun h => he1 h.1))
                  have HFin := hide (show ∃ d', SR v0 B g n cap d' w2 ∧ SymR ltF κ a m b d d' from ⟨f, HSf.out, sym_join (mid := mid) (s0 := s0) (r0 := r0) (s := s) (e := e) (f := f) ham hmb (by rw [HL.out]; exact hbn) HM.out.1 HD.out HIJ.out.1 HIJ.out.2.2 HE.out.1 (by rw [← HM.out.2.2.1]; exact HO.out) HF.out HG.out⟩)
                  go_wp2
                  go_end0
                  exact ⟨rfl, HFin.out⟩
            · have hc2' : ¬ (m : Int) < (e : Int) := fun h => hc2 (Int.ofNat_lt.1 h)
              have HSe : Hid (SR v0 B g n cap (rotL s m e d) wr) := hide (by rw [rotL_nil (.inr (by have := HE.out; omega)) (by have := HE.out; omega) (by have := HE.out; have := HL.out; omega)]; exact HS1.out)
              by_cases hl1 : a < s
              · have hl1' : (a : Int) < (s : Int) := Int.ofNat_lt.2 hl1
                by_cases hl2 : s < mid
                · have hl2' : (s : Int) < (mid : Int) := Int.ofNat_lt.2 hl2
                  go_wp2_with fail
                  refine (IH.out wr (rotL s m e d) a s mid (by have := HM.out; omega) HSe.out hl1 hl2 (by have := HM.out; omega)).mono ?_
                  rintro _ w3 ⟨rfl, f, hs3, hf3⟩
                  have HSf := hide hs3
                  have HF := hide hf3
                  clear hs3 hf3
                  by_cases he1 : mid < e
                  · have he1' : (mid : Int) < (e : Int) := Int.ofNat_lt.2 he1
                    by_cases he2 : e < b
                    · have he2' : (e : Int) < (b : Int) := Int.ofNat_lt.2 he2
                      go_wp2_with fail
                      refine (IH.out w3 f mid e b (by have := HM.out; omega) HSf.out he1 he2 hbn).mono ?_
                      rintro _ w4 ⟨rfl, f2, hs4, hg4⟩
                      have HSg := hide hs4
                      have HG := hide hg4
                      clear hs4 hg4
                      have HFin := hide (show ∃ d', SR v0 B g n cap d' w4 ∧ SymR ltF κ a m b d d' from ⟨f2, HSg.out, sym_join (mid := mid) (s0 := s0) (r0 := r0) (s := s) (e := e) (f := f) ham hmb (by rw [HL.out]; exact hbn) HM.out.1 HD.out HIJ.out.1 HIJ.out.2.2 HE.out.1 (by rw [← HM.out.2.2.1]; exact HO.out) HF.out HG.out⟩)
                      go_wp2
                      go_end0
                      exact ⟨rfl, HFin.out⟩
                    · have he2' : ¬ (e : Int) < (b : Int) := fun h => he2 (Int.ofNat_lt.1 h)
                      have HG : Hid (SymR ltF κ mid e b f f) := hide (SymR.none_ HE.out.2.2.2.2.2.2 HE.out.2.2.2.1 (fun h => he2 h.2))
                      have HFin := hide (show ∃ d', SR v0 B g n cap d' w3 ∧ SymR ltF κ a m b d d' from ⟨f, HSf.out, sym_join (mid := mid) (s0 := s0) (r0 := r0) (s := s) (e := e) (f := f) ham hmb (by rw [HL.out]; exact hbn) HM.out.1 HD.out HIJ.out.1 HIJ.out.2.2 HE.out.1 (by rw [← HM.out.2.2.1]; exact HO.out) HF.out HG.out⟩)
                      go_wp2
                      go_end0
                      exact ⟨rfl, HFin.out⟩
                  · have he1' : ¬ (mid : Int) < (e : Int) := fun h => he1 (Int.ofNat_lt.1 h)
                    have HG : Hid (SymR ltF κ mid e b f f) := hide (SymR.none_ HE.out.2.2.2.2.2.2 HE.out.2.2.2.1 (fun h => he1 h.1))
                    have HFin := hide (show ∃ d', SR v0 B g n cap d' w3 ∧ SymR ltF κ a m b d d' from ⟨f, HSf.out, sym_join (mid := mid) (s0 := s0) (r0 := r0) (s := s) (e := e) (f := f) ham hmb (by rw [HL.out]; exact hbn) HM.out.1 HD.out HIJ.out.1 HIJ.out.2.2 HE.out.1 (by rw [← HM.out.2.2.1]; exact HO.out) HF.out HG.out⟩)
                    go_wp2
                    go_end0
                    exact ⟨rfl, HFin.out⟩
                · have hl2' : ¬ (s : Int) < (mid : Int) := fun h => hl2 (Int.ofNat_lt.1 h)
                  obtain ⟨f, hf⟩ : ∃ f, rotL s m e d = f := ⟨_, rfl⟩
                  have HF : Hid (SymR ltF κ a s mid (rotL s m e d) f) := hide (by rw [← hf]; exact SymR.none_ HE.out.2.2.2.2.1 HE.out.2.2.2.2.2.1 (fun h => hl2 h.2))
                  have HSf : Hid (SR v0 B g n cap f wr) := hide (by rw [← hf]; exact HSe.out)
                  clear hf
                  by_cases he1 : mid < e
                  · have he1' : (mid : Int) < (e : Int) := Int.ofNat_lt.2 he1
                    by_cases he2 : e < b
                    · have he2' : (e : Int) < (b : Int) := Int.ofNat_lt.2 he2
                      go_wp2_with fail
                      refine (IH.out wr f mid e b (by have := HM.out; omega) HSf.out he1 he2 hbn).mono ?_
                      rintro _ w4 ⟨rfl, f2, hs4, hg4⟩
                      have HSg := hide hs4
                      have HG := hide hg4
                      clear hs4 hg4
                      have HFin := hide (show ∃ d', SR v0 B g n cap d' w4 ∧ SymR ltF κ a m b d d' from ⟨f2, HSg.out, sym_join (mid := mid) (s0 := s0) (r0 := r0) (s := s) (e := e) (f := f) ham hmb (by rw [HL.out]; exact hbn) HM.out.1 HD.out HIJ.out.1 HIJ.out.2.2 HE.out.1 (by rw [← HM.out.2.2.1]; exact HO.out) HF.out HG.out⟩)
                      go_wp2
                      go_end0
                      exact ⟨rfl, HFin.out⟩
                    · have he2' : ¬ (e : Int) < (b : Int) := fun h => he2 (Int.ofNat_lt.1 h)
                      have HG : Hid (SymR ltF κ mid e b f f) := hide (SymR.none_ HE.out.2.2.2.2.2.2 HE.out.2.2.2.1 (fun h => he2 h.2))
                      have HFin := hide (show ∃ d', SR v0 B g n cap d' wr ∧ SymR ltF κ a m b d d' from ⟨f, HSf.out, sym_join (mid := mid) (s0 := s0) (r0 := r0) (s := s) (e := e) (f := f) ham hmb (by rw [HL.out]; exact hbn) HM.out.1 HD.out HIJ.out.1 HIJ.out.2.2 HE.out.1 (by rw [← HM.out.2.2.1]; exact HO.out) HF.out HG.out⟩)
                      go_wp2
                      go_end0
                      exact ⟨rfl, HFin.out⟩
                  · have he1' : ¬ (mid : Int) < (e : Int) := fun h => he1 (Int.ofNat_lt.1 h)
                    have HG : Hid (SymR ltF κ mid e b f f) := hide (SymR.none_ HE.out.2.2.2.2.2.2 HE.out.2.2.2.1 (fun h => he1 h.1))
                    have HFin := hide (show ∃ d', SR v0 B g n cap d' wr ∧ SymR ltF κ a m b d d' from ⟨f, HSf.out, sym_join (mid := mid) (s0 := s0) (r0 := r0) (s := s) (e := e) (f := f) ham hmb (by rw [HL.out]; exact hbn) HM.out.1 HD.out HIJ.out.1 HIJ.out.2.2 HE.out.1 (by rw [← HM.out.2.2.1]; exact HO.out) HF.out HG.out⟩)
                    go_wp2
                    go_end0
                    exact ⟨rfl, HFin.out⟩
              · have hl1' : ¬ (a : Int) < (s : Int) := fun h => hl1 (Int.ofNat_lt.1 h)
                obtain ⟨f, hf⟩ : ∃ f, rotL s m e d = f := ⟨_, rfl⟩
                have HF : Hid (SymR ltF κ a s mid (rotL s m e d) f) := hide (by rw [← hf]; exact SymR.none_ HE.out.2.2.2.2.1 HE.out.2.2.2.2.2.1 (fun h => hl1 h.1))
                have HSf : Hid (SR v0 B g n cap f wr) := hide (by rw [← hf]; exact HSe.out)
                clear hf
                by_cases he1 : mid < e
                · have he1' : (mid : Int) < (e : Int) := Int.ofNat_lt.2 he1
                  by_cases he2 : e < b
                  · have he2' : (e : Int) < (b : Int) := Int.ofNat_lt.2 he2
                    go_wp2_with fail
                    refine (IH.out wr f mid e b (by have := HM.out; omega) HSf.out he1 he2 hbn).mono ?_
                    rintro _ w4 ⟨rfl, f2, hs4, hg4⟩
                    have HSg := hide hs4
                    have HG := hide hg4
                    clear hs4 hg4
                    have HFin := hide (show ∃ d', SR v0 B g n cap d' w4 ∧ SymR ltF κ a m b d d' from ⟨f2, HSg.out, sym_join (mid := mid) (s0 := s0) (r0 := r0) (s := s) (e := e) (f := f) ham hmb (by rw [HL.out]; exact hbn) HM.out.1 HD.out HIJ.out.1 HIJ.out.2.2 HE.out.1 (by rw [← HM.out.2.2.1]; exact HO.out) HF.out HG.out⟩)
                    go_wp2
                    go_end0
                    exact ⟨rfl, HFin.out⟩
                  · have he2' : ¬ (e : Int) < (b : Int) := fun h => he2 (Int.ofNat_lt.1 h)
                    have HG : Hid (SymR ltF κ mid e b f f) := hide (SymR.none_ HE.out.2.2.2.2.2.2 HE.out.2.2.2.1 (fun h => he2 h.2))
                    have HFin := hide (show ∃ d', SR v0 B g n cap d' wr ∧ SymR ltF κ a m b d d' from ⟨f, HSf.out, sym_join (mid := mid) (s0 := s0) (r0 := r0) (s := s) (e := e) (f := f) ham hmb (by rw [HL.out]; exact hbn) HM.out.1 HD.out HIJ.out.1 HIJ.out.2.2 HE.out.1 (by rw [← HM.out.2.2.1]; exact HO.out) HF.out HG.out⟩)
                    go_wp2
                    go_end0
                    exact ⟨rfl, HFin.out⟩
                · have he1' : ¬ (mid : Int) < (e : Int) := fun h => he1 (Int.ofNat_lt.1 h)
                  have HG : Hid (SymR ltF κ mid e b f f) := hide (SymR.none_ HE.out.2.2.2.2.2.2 HE.out.2.2.2.1 (fun h => he1 h.1))
                  have HFin := hide (show ∃ d', SR v0 B g n cap d' wr ∧ SymR ltF κ a m b d d' from ⟨f, HSf.out, sym_join (mid := mid) (s0 := s0) (r0 := r0) (s := s) (e := e) (f := f) ham hmb (by rw [HL.out]; exact hbn) HM.out.1 HD.out HIJ.out.1 HIJ.out.2.2 HE.out.1 (by rw [← HM.out.2.2.1]; exact HO.out) HF.out HG.out⟩)
                  go_wp2
                  go_end0
                  exact ⟨rfl, HFin.out⟩
          · have hc1' : ¬ (s : Int) < (m : Int) := fun h => hc1 (Int.ofNat_lt.1 h)
            have HSe : Hid (SR v0 B g n cap (rotL s m e d) wr) := hide (by rw [rotL_nil (.inl (by have := HE.out; omega)) (by have := HE.out; omega) (by have := HE.out; have := HL.out; omega)]; exact HS1.out)
            by_cases hl1 : a < s
            · have hl1' : (a : Int) < (s : Int) := Int.ofNat_lt.2 hl1
              by_cases hl2 : s < mid
              · have hl2' : (s : Int) < (mid : Int) := Int.ofNat_lt.2 hl2
                go_wp2_with fail
                refine (IH.out wr (rotL s m e d) a s mid (by have := HM.out; omega) HSe.out hl1 hl2 (by have := HM.out; omega)).mono ?_
                rintro _ w3 ⟨rfl, f, hs3, hf3⟩
                have HSf := hide hs3
                have HF := hide hf3
                clear hs3 hf3
                by_cases he1 : mid < e
                · have he1' : (mid : Int) < (e : Int) := Int.ofNat_lt.2 he1
                  by_cases he2 : e < b
                  · have he2' : (e : Int) < (b : Int) := Int.ofNat_lt.2 he2
                    go_wp2_with fail
                    refine (IH.out w3 f mid e b (by have := HM.out; omega) HSf.out he1 he2 hbn).mono ?_
                    rintro _ w4 ⟨rfl, f2, hs4, hg4⟩
                    have HSg := hide hs4
                    have HG := hide hg4
                    clear hs4 hg4
                    have HFin := hide (show ∃ d', SR v0 B g n cap d' w4 ∧ SymR ltF κ a m b d d' from ⟨f2, HSg.out, sym_join (mid := mid) (s0 := s0) (r0 := r0) (s := s) (e := e) (f := f) ham hmb (by rw [HL.out]; exact hbn) HM.out.1 HD.out HIJ.out.1 HIJ.out.2.2 HE.out.1 (by rw [← HM.out.2.2.1]; exact HO.out) HF.out HG.out⟩)
                    go_wp2
                    go_end0
                    exact ⟨rfl, HFin.out⟩
                  · have he2' : ¬ (e : Int) < (b : Int) := fun h => he2 (Int.ofNat_lt.1 h)
                    have HG : Hid (SymR ltF κ mid e b f f) := hide (SymR.none_ HE.out.2.2.2.2.2.2 HE.out.2.2.2.1 (fun h => he2 h.2))
                    have HFin := hide (show ∃ d', SR v0 B g n cap d' w3 ∧ SymR ltF κ a m b d d' from ⟨f, HSf.out, sym_join (mid := mid) (s0 := s0) (r0 := r0) (s := s) (e := e) (f := f) ham hmb (by rw [HL.out]; exact hbn) HM.out.1 HD.out HIJ.out.1 HIJ.out.2.2 HE.out.1 (by rw [← HM.out.2.2.1]; exact HO.out) HF.out HG.out⟩)
                    go_wp2
                    go_end0
                    exact ⟨rfl, HFin.out⟩
                · have he1' : ¬ (mid : Int) < (e : Int) := fun h => he1 (Int.ofNat_lt.1 h)
                  have HG : Hid (SymR ltF κ mid e b f f) := hide (SymR.none_ HE.out.2.2.2.2.2.2 HE.out.2.2.2.1 (fun h => he1 h.1))
                  have HFin := hide (show ∃ d', SR v0 B g n cap d' w3 ∧ SymR ltF κ a m b d d' from ⟨f, HSf.out, sym_join (mid := mid) (s0 := s0) (r0 := r0) (s := s) (e := e) (f := f) ham hmb (by rw [HL.out]; exact hbn) HM.out.1 HD.out HIJ.out.1 HIJ.out.2.2 HE.out.1 (by rw [← HM.out.2.2.1]; exact HO.out) HF.out HG.out⟩)
                  go_wp2
                  go_end0
                  exact ⟨rfl, HFin.out⟩
              · have hl2' : ¬ (s : Int) < (mid : Int) := fun h => hl2 (Int.ofNat_lt.1 h)
                obtain ⟨f, hf⟩ : ∃ f, rotL s m e d = f := ⟨_, rfl⟩
                have HF : Hid (SymR ltF κ a s mid (rotL s m e d) f) := hide (by rw [← hf]; exact SymR.none_ HE.out.2.2.2.2.1 HE.out.2.2.2.2.2.1 (fun h => hl2 h.2))
                have HSf : Hid (SR v0 B g n cap f wr) := hide (by rw [← hf]; exact HSe.out)
                clear hf
                by_cases he1 : mid < e
                · have he1' : (mid : Int) < (e : Int) := Int.ofNat_lt.2 he1
                  by_cases he2 : e < b
                  · have he2' : (e : Int) < (b : Int) := Int.ofNat_lt.2 he2
                    go_wp2_with fail
                    refine (IH.out wr f mid e b (by have := HM.out; omega) HSf.out he1 he2 hbn).mono ?_
                    rintro _ w4 ⟨rfl, f2, hs4, hg4⟩
                    have HSg := hide hs4
                    have HG := hide hg4
                    clear hs4 hg4
                    have HFin := hide (show ∃ d', SR v0 B g n cap d' w4 ∧ SymR ltF κ a m b d d' from ⟨f2, HSg.out, sym_join (mid := mid) (s0 := s0) (r0 := r0) (s := s) (e := e) (f := f) ham hmb (by rw [HL.out]; exact hbn) HM.out.1 HD.out HIJ.out.1 HIJ.out.2.2 HE.out.1 (by rw [← HM.out.2.2.1]; exact HO.out) HF.out HG.out⟩)
                    go_wp2
                    go_end0
                    exact ⟨rfl, HFin.out⟩
                  · have he2' : ¬ (e : Int) < (b : Int) := fun h => he2 (Int.ofNat_lt.1 h)
                    have HG : Hid (SymR ltF κ mid e b f f) := hide (SymR.none_ HE.out.2.2.2.2.2.2 HE.out.2.2.2.1 (fun h => he2 h.2))
                    have HFin := hide (show ∃ d', SR v0 B g n cap d' wr ∧ SymR ltF κ a m b d d' from ⟨f, HSf.out, sym_join (mid := mid) (s0 := s0) (r0 := r0) (s := s) (e := e) (f := f) ham hmb (by rw [HL.out]; exact hbn) HM.out.1 HD.out HIJ.out.1 HIJ.out.2.2 HE.out.1 (by rw [← HM.out.2.2.1]; exact HO.out) HF.out HG.out⟩)
                    go_wp2
                    go_end0
                    exact ⟨rfl, HFin.out⟩
                · have he1' : ¬ (mid : Int) < (e : Int) := fun h => he1 (Int.ofNat_lt.1 h)
                  have HG : Hid (SymR ltF κ mid e b f f) := hide (SymR.none_ HE.out.2.2.2.2.2.2 HE.out.2.2.2.1 (fun h => he1 h.1))
                  have HFin := hide (show ∃ d', SR v0 B g n cap d' wr ∧ SymR ltF κ a m b d d' from ⟨f, HSf.out, sym_join (mid := mid) (s0 := s0) (r0 := r0) (s := s) (e := e) (f := f) ham hmb (by rw [HL.out]; exact hbn) HM.out.1 HD.out HIJ.out.1 HIJ.out.2.2 HE.out.1 (by rw [← HM.out.2.2.1]; exact HO.out) HF.out HG.out⟩)
                  go_wp2
                  go_end0
                  exact ⟨rfl, HFin.out⟩
            · have hl1' : ¬ (a : Int) < (s : Int) := fun h => hl1 (Int.ofNat_lt.1 h)
              obtain ⟨f, hf⟩ : ∃ f, rotL s m e d = f := ⟨_, rfl⟩
              have HF : Hid (SymR ltF κ a s mid (rotL s m e d) f) := hide (by rw [← hf]; exact SymR.none_ HE.out.2.2.2.2.1 HE.out.2.2.2.2.2.1 (fun h => hl1 h.1))
              have HSf : Hid (SR v0 B g n cap f wr) := hide (by rw [← hf]; exact HSe.out)
              clear hf
              by_cases he1 : mid < e
              · have he1' : (mid : Int) < (e : Int) := Int.ofNat_lt.2 he1
                by_cases he2 : e < b
                · have he2' : (e : Int) < (b : Int) := Int.ofNat_lt.2 he2
                  go_wp2_with fail
                  refine (IH.out wr f mid e b (by have := HM.out; omega) HSf.out he1 he2 hbn).mono ?_
                  rintro _ w4 ⟨rfl, f2, hs4, hg4⟩
                  have HSg := hide hs4
                  have HG := hide hg4
                  clear hs4 hg4
                  have HFin := hide (show ∃ d', SR v0 B g n cap d' w4 ∧ SymR ltF κ a m b d d' from ⟨f2, HSg.out, sym_join (mid := mid) (s0 := s0) (r0 := r0) (s := s) (e := e) (f := f) ham hmb (by rw [HL.out]; exact hbn) HM.out.1 HD.out HIJ.out.1 HIJ.out.2.2 HE.out.1 (by rw [← HM.out.2.2.1]; exact HO.out) HF.out HG.out⟩)
                  go_wp2
                  go_end0
                  exact ⟨rfl, HFin.out⟩
                · have he2' : ¬ (e : Int) < (b : Int) := fun h => he2 (Int.ofNat_lt.1 h)
                  have HG : Hid (SymR ltF κ mid e b f f) := hide (SymR.none_ HE.out.2.2.2.2.2.2 HE.out.2.2.2.1 (fun h => he2 h.2))
                  have HFin := hide (show ∃ d', SR v0 B g n cap d' wr ∧ SymR ltF κ a m b d d' from ⟨f, HSf.out, sym_join (mid := mid) (s0 := s0) (r0 := r0) (s := s) (e := e) (f := f) ham hmb (by rw [HL.out]; exact hbn) HM.out.1 HD.out HIJ.out.1 HIJ.out.2.2 HE.out.1 (by rw [← HM.out.2.2.1]; exact HO.out) HF.out HG.out⟩)
                  go_wp2
                  go_end0
                  exact ⟨rfl, HFin.out⟩
              · have he1' : ¬ (mid : Int) < (e : Int) := fun h => he1 (Int.ofNat_lt.1 h)
                have HG : Hid (SymR ltF κ mid e b f f) := hide (SymR.none_ HE.out.2.2.2.2.2.2 HE.out.2.2.2.1 (fun h => he1 h.1))
                have HFin := hide (show ∃ d', SR v0 B g n cap d' wr ∧ SymR ltF κ a m b d d' from ⟨f, HSf.out, sym_join (mid := mid) (s0 := s0) (r0 := r0) (s := s) (e := e) (f := f) ham hmb (by rw [HL.out]; exact hbn) HM.out.1 HD.out HIJ.out.1 HIJ.out.2.2 HE.out.1 (by rw [← HM.out.2.2.1]; exact HO.out) HF.out HG.out⟩)
                go_wp2
                go_end0
                exact ⟨rfl, HFin.out⟩
end Go.Proofs.Ytihdpfjonkagaaa
