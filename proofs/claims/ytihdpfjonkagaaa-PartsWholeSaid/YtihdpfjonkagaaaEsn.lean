/- One that lies ahead of a stretch in order, or behind one, is put in its place. (printed by gen/sst.py) -/
import Derived.Test.YtihdpfjonkagaaaEsw
import Derived.Deep.DeepCutAuto
import Derived.Lib.Hide
import Derived.WalkSpells
import Derived.WalkMore
import Derived.IntWalk
namespace Go.Proofs.Ytihdpfjonkagaaa
open Go.RowKit
set_option linter.unusedVariables false
set_option linter.unusedSimpArgs false
theorem u64_nat (x : Nat) (h : x ≤ 18446744073709551615) : IntKind.u64.wrap (x : Int) = (x : Int) := IntWalk.u64_in _ (by omega)
theorem w64_nat (x : Nat) (h : x ≤ 9223372036854775807) : wrap64 (x : Int) = (x : Int) := IntWalk.wrap64_in _ (by omega)
theorem rotL_nil {α : Type} {s m e : Nat} {d : List α} (h : s = m ∨ e = m) (h2 : s ≤ m ∧ m ≤ e) (h3 : e ≤ d.length) : rotL s m e d = d := by
  refine ext_get fun t => ?_
  rw [rotL_get h2.1 h2.2 h3]
  by_cases c1 : t < s
  · rw [if_pos c1]
  rw [if_neg c1]
  by_cases c2 : t < s + (e - m)
  · rw [if_pos c2]; congr 1; omega
  rw [if_neg c2]
  by_cases c3 : t < e
  · rw [if_pos c3]; congr 1; omega
  · rw [if_neg c3]
set_option maxRecDepth 100000 in
set_option maxHeartbeats 64000000 in
theorem symA_any (κ : Ed → Int) (v0 : World) (B g n cap : Nat) (hn : n ≤ 1000000) (w : World) (d : List Ed) (a m b : Nat) (hS : SR v0 B g n cap d w) (ham : a < m) (hmb : m < b) (hbn : b ≤ n) (hA : m = a + 1) :
    Calls Try.prog 58 #[.slice (some ⟨g, 0, none⟩) n cap, .int .i64 (a : Int), .int .i64 (m : Int), .int .i64 (b : Int), .func (.func 40) #[] #[]] w (fun e w' => e = .returned (.tuple #[]) ∧ ∃ d', SR v0 B g n cap d' w' ∧ SymR ltF κ a m b d d') := by
  have HS := hide hS
  have HL := hide hS.1
  clear hS
  have q1 : (m : Int) - (a : Int) = 1 := by omega
  have HA := hide hA
  clear hA
  go_enter Try.func58, Try.ntmps58
  go_wp2
  go_loopw [10, 11] (fun v10 v11 wr => ∃ (i j : Nat), (m ≤ i ∧ i ≤ j ∧ j ≤ b) ∧ v10 = .int .i64 (i : Int) ∧ v11 = .int .i64 (j : Int) ∧ Hid (SR v0 B g n cap d wr) ∧ Hid (One1 ltF κ a b i j d)) (fun v10 v11 _ => (intOf v11).toNat - (intOf v10).toNat)
  case atStart => exact ⟨m, b, by omega, rfl, rfl, HS, hide (by rw [HA.out]; exact One1.start a b d)⟩
  case round =>
    have hA := HA.out
    obtain ⟨i, j, hij, rfl, rfl, HS1, HO⟩ := hrel
    by_cases hlt : i < j
    · have hI : (i : Int) < (j : Int) := by omega
      obtain ⟨s, hs⟩ : ∃ z, i + j = z := ⟨_, rfl⟩
      obtain ⟨h, hh⟩ : ∃ z, s / 2 = z := ⟨_, rfl⟩
      have bs : s ≤ 9223372036854775807 := by omega
      have bh : h ≤ 9223372036854775807 := by omega
      have hb1 : i ≤ h ∧ h < j := by omega
      have hhn : h < n := by omega
      have han : a < n := by omega
      have lh : (h : Int) < (n : Int) := by omega
      have la : (a : Int) < (n : Int) := by omega
      have wa : IntKind.i64.wrap (a : Int) = (a : Int) := i64_nat _ (by omega)
      obtain ⟨y, hy⟩ := get_some (d := d) (i := h) (by have := HL.out; omega)
      obtain ⟨x, hx⟩ := get_some (d := d) (i := a) (by have := HL.out; omega)
      obtain ⟨cy0, cy1, cy2⟩ := HS1.out.get hy
      have cyf0 := HS1.out.frozen (h * 3)
      have cyf1 := HS1.out.frozen (h * 3 + 1)
      have cyf2 := HS1.out.frozen (h * 3 + 2)
      obtain ⟨cx0, cx1, cx2⟩ := HS1.out.get hx
      have cxf0 := HS1.out.frozen (a * 3)
      have cxf1 := HS1.out.frozen (a * 3 + 1)
      have cxf2 := HS1.out.frozen (a * 3 + 2)
      have lg := HS1.out.glt
      obtain ⟨z, hz⟩ : ∃ z, cmpI y x = z := ⟨_, rfl⟩
      have HZ := hide hz
      clear hz
      have HX := hide hx
      have HY := hide hy
      have k1 : a + 1 ≤ h := by omega
      have k2 : h < b := by omega
      have k3 : m ≤ h + 1 ∧ h + 1 ≤ j ∧ j ≤ b := by omega
      have k4 : m ≤ i ∧ i ≤ h ∧ h ≤ b := by omega
      have w1 : IntKind.i64.wrap ((h : Int) + 1) = (h : Int) + 1 := i64_nat (h + 1) (by omega)
      have KK := hide (And.intro k1 (And.intro k2 (And.intro k3 k4)))
      have HB1 := hide (And.intro hij hb1)
      have f1 : (i : Int) + (j : Int) = (s : Int) := by omega
      have f2 : (s : Int) / 2 = (h : Int) := by omega
      have f3 : IntKind.i64.wrap (s : Int) = (s : Int) := i64_nat _ bs
      have f4 : IntKind.u64.wrap (s : Int) = (s : Int) := u64_nat _ (Nat.le_trans bs (by decide))
      have f5 : wrap64 (h : Int) = (h : Int) := w64_nat _ bh
      have f6 : IntKind.i64.wrap (h : Int) = (h : Int) := i64_nat _ bh
      clear hx hy hs hh hb1 hij k1 k2 k3 k4 hA
      go_upto_region 5 with fail
      refine wp_region_held_drew (S := Kept wr) (by kernel_rfl) (Kept.drew wr) (fun hS0 => ?_)
      refine take_at (i := 0) (d := 40) (v := ?_) (by simp only [List.getElem?_toArray, List.getElem?_cons_succ, List.getElem?_cons_zero]; rfl) rfl (by kernel_rfl) (by kernel_rfl) (by kernel_rfl) (fun _ _ _ h => h) rfl ?_ (by assumption) ?_
      rotate_left
      focus (intro w hSw; go_simp; (try with_reducible rfl); done)
      try simp only [List.setIfInBounds_toArray, List.set_cons_zero, List.set_cons_succ]
      refine take_at (i := 1) (d := 41) (v := ?_) (by simp only [List.getElem?_toArray, List.getElem?_cons_succ, List.getElem?_cons_zero]; rfl) rfl (by kernel_rfl) (by kernel_rfl) (by kernel_rfl) (fun _ _ _ h => h) rfl ?_ (by assumption) ?_
      rotate_left
      focus (intro w hSw; go_simp; (try with_reducible rfl); done)
      try simp only [List.setIfInBounds_toArray, List.set_cons_zero, List.set_cons_succ]
      refine take_at (i := 2) (d := 42) (v := ?_) (by simp only [List.getElem?_toArray, List.getElem?_cons_succ, List.getElem?_cons_zero]; rfl) rfl (by kernel_rfl) (by kernel_rfl) (by kernel_rfl) (fun _ _ _ h => h) rfl ?_ (by assumption) ?_
      rotate_left
      focus (intro w hSw; go_simp; (try with_reducible rfl); done)
      try simp only [List.setIfInBounds_toArray, List.set_cons_zero, List.set_cons_succ]
      refine take_at (i := 3) (d := 43) (v := ?_) (by simp only [List.getElem?_toArray, List.getElem?_cons_succ, List.getElem?_cons_zero]; rfl) rfl (by kernel_rfl) (by kernel_rfl) (by kernel_rfl) (fun _ _ _ h => h) rfl ?_ (by assumption) ?_
      rotate_left
      focus (intro w hSw; go_simp; (try with_reducible rfl); done)
      try simp only [List.setIfInBounds_toArray, List.set_cons_zero, List.set_cons_succ]
      refine take_at (i := 4) (d := 44) (v := ?_) (by simp only [List.getElem?_toArray, List.getElem?_cons_succ, List.getElem?_cons_zero]; rfl) rfl (by kernel_rfl) (by kernel_rfl) (by kernel_rfl) (fun _ _ _ h => h) rfl ?_ (by assumption) ?_
      rotate_left
      focus (intro w hSw; go_simp; (try with_reducible rfl); done)
      try simp only [List.setIfInBounds_toArray, List.set_cons_zero, List.set_cons_succ]
      refine take_at (i := 5) (d := 45) (v := ?_) (by simp only [List.getElem?_toArray, List.getElem?_cons_succ, List.getElem?_cons_zero]; rfl) rfl (by kernel_rfl) (by kernel_rfl) (by kernel_rfl) (fun _ _ _ h => h) rfl ?_ (by assumption) ?_
      rotate_left
      focus (intro w hSw; go_simp; (try with_reducible rfl); done)
      try simp only [List.setIfInBounds_toArray, List.set_cons_zero, List.set_cons_succ]
      refine take_at (i := 6) (d := 46) (v := ?_) (by simp only [List.getElem?_toArray, List.getElem?_cons_succ, List.getElem?_cons_zero]; rfl) rfl (by kernel_rfl) (by kernel_rfl) (by kernel_rfl) (fun _ _ _ h => h) rfl ?_ (by assumption) ?_
      rotate_left
      focus (intro w hSw; go_simp; (try with_reducible rfl); done)
      try simp only [List.setIfInBounds_toArray, List.set_cons_zero, List.set_cons_succ]
      refine take_at (i := 7) (d := 47) (v := ?_) (by simp only [List.getElem?_toArray, List.getElem?_cons_succ, List.getElem?_cons_zero]; rfl) rfl (by kernel_rfl) (by kernel_rfl) (by kernel_rfl) (fun _ _ _ h => h) rfl ?_ (by assumption) ?_
      rotate_left
      focus (intro w hSw; go_simp; (try with_reducible rfl); done)
      try simp only [List.setIfInBounds_toArray, List.set_cons_zero, List.set_cons_succ]
      refine take_at (i := 8) (d := 48) (v := ?_) (by simp only [List.getElem?_toArray, List.getElem?_cons_succ, List.getElem?_cons_zero]; rfl) rfl (by kernel_rfl) (by kernel_rfl) (by kernel_rfl) (fun _ _ _ h => h) rfl ?_ (by assumption) ?_
      rotate_left
      focus (intro w hSw; go_simp; (try with_reducible rfl); done)
      try simp only [List.setIfInBounds_toArray, List.set_cons_zero, List.set_cons_succ]
      refine call_at (i := 9) (d := 49) (by simp only [List.getElem?_toArray, List.getElem?_cons_succ, List.getElem?_cons_zero]; rfl) rfl (by kernel_rfl) rfl (fun K hK => ?_)
      go_simp
      refine (clo_any _ y x).mono ?_
      rintro e z1 ⟨rfl, hz⟩
      rw [HZ.out]
      have hS1 : Kept wr z1 := hS0.below (by simp) hz
      have HSz := hide (HS1.out.drew.below hz)
      clear hz
      go_wp2_with fail
      refine hK.out _ _ hS1 (fun hSn => ?_)
      clear hK K
      try simp only [List.setIfInBounds_toArray, List.set_cons_zero, List.set_cons_succ]
      refine take_at (i := 10) (d := 50) (v := ?_) (by simp only [List.getElem?_toArray, List.getElem?_cons_succ, List.getElem?_cons_zero]; rfl) rfl (by kernel_rfl) (by kernel_rfl) (by kernel_rfl) (fun _ _ _ h => h) rfl ?_ (by assumption) ?_
      rotate_left
      focus (intro w hSw; go_simp; (try with_reducible rfl); done)
      try simp only [List.setIfInBounds_toArray, List.set_cons_zero, List.set_cons_succ]
      refine wpAnyH_done (by kernel_rfl) ?_ _
      clear hS0 hSn hS1 cx0 cxf0 cx1 cxf1 cx2 cxf2 cy0 cyf0 cy1 cyf1 cy2 cyf2 wa
      by_cases hz0 : z < 0
      · have HLT : Hid (ltF y x = true) := hide (by unfold ltF; rw [HZ.out]; simpa using hz0)
        have HO2 : Hid (One1 ltF κ a b (h + 1) j d) := hide (HO.out.up KK.out.1 KK.out.2.1 HY.out HX.out HLT.out)
        go_wp2
        clear f1 f2 f3 f4 f5 f6 w1
        go_roundw
        case rel => first | exact ⟨h + 1, j, KK.out.2.2.1, by first | rfl | go_num, rfl, HSz, HO2⟩ | ((repeat apply Exists.intro); exact ⟨⟨h + 1, j, KK.out.2.2.1, by first | rfl | go_num, rfl, HSz, HO2⟩, rfl⟩)
        case measure => have := HB1.out; simp [intOf]; omega
      · have HLT : Hid (ltF y x = false) := hide (by unfold ltF; rw [HZ.out]; simpa using hz0)
        have HO2 : Hid (One1 ltF κ a b i h d) := hide (HO.out.down KK.out.1 KK.out.2.1 HY.out HX.out HLT.out)
        have hz1 : 0 ≤ z := Int.not_lt.1 hz0
        go_wp2
        clear f1 f2 f3 f4 f5 f6 w1
        go_roundw
        case rel => first | exact ⟨i, h, KK.out.2.2.2, rfl, by first | rfl | go_num, HSz, HO2⟩ | ((repeat apply Exists.intro); exact ⟨⟨i, h, KK.out.2.2.2, rfl, by first | rfl | go_num, HSz, HO2⟩, rfl⟩)
        case measure => have := HB1.out; simp [intOf]; omega
    · obtain rfl : i = j := by omega
      obtain ⟨i1, hi1⟩ : ∃ z, i = z + 1 := ⟨i - 1, by omega⟩
      have q2 : (i : Int) - 1 = (i1 : Int) := by omega
      have hin : i1 < n := by omega
      have hai : a ≤ i1 := by omega
      have HFin : Hid (SymR ltF κ a m b d (rotL a (a + 1) i d)) := hide (by rw [hA]; exact HO.out.done (by omega) (by omega) (by have := HL.out; omega))
      have HI1 := hide hi1
      have q3 : IntKind.i64.wrap (i1 : Int) = (i1 : Int) := i64_nat _ (by omega)
      clear HO hi1 hA
      go_wp2
      go_loopw [13] (fun v13 wr => ∃ (k : Nat), (a ≤ k ∧ k ≤ i1) ∧ v13 = .int .i64 (k : Int) ∧ Hid (SR v0 B g n cap (rotL a (a + 1) (k + 1) d) wr)) (fun v13 _ => i1 - (intOf v13).toNat)
      case atStart => exact ⟨a, by omega, rfl, hide (by rw [rot_id1 (by have := HL.out; omega)]; exact HS1.out)⟩
      case round =>
        clear HS1
        obtain ⟨k, hk, rfl, HS1⟩ := hrel
        by_cases hlt2 : k < i1
        · have hK : (k : Int) < (i1 : Int) := by omega
          obtain ⟨k1, hk1⟩ : ∃ z, k + 1 = z := ⟨_, rfl⟩
          have hk1n : k1 < n := by omega
          have hkn : k < n := by omega
          have lk : (k : Int) < (n : Int) := by omega
          have lk1 : (k1 : Int) < (n : Int) := by omega
          have hlen := HS1.out.1
          obtain ⟨x, hx⟩ := get_some (d := rotL a (a + 1) (k + 1) d) (i := k) (by omega)
          obtain ⟨y, hy⟩ := get_some (d := rotL a (a + 1) (k + 1) d) (i := k1) (by omega)
          obtain ⟨cx0, cx1, cx2⟩ := HS1.out.get hx
          have cxf0 := HS1.out.frozen (k * 3)
          have cxf1 := HS1.out.frozen (k * 3 + 1)
          have cxf2 := HS1.out.frozen (k * 3 + 2)
          obtain ⟨cy0, cy1, cy2⟩ := HS1.out.get hy
          have cyf0 := HS1.out.frozen (k1 * 3)
          have cyf1 := HS1.out.frozen (k1 * 3 + 1)
          have cyf2 := HS1.out.frozen (k1 * 3 + 2)
          have lg := HS1.out.glt
          have HX := hide hx
          have HY := hide hy
          have HK1 := hide hk1
          have e1 : (k : Int) + 1 = (k1 : Int) := by omega
          have e2 : IntKind.i64.wrap (k1 : Int) = (k1 : Int) := i64_nat _ (by omega)
          have e3 : IntKind.i64.wrap (k : Int) = (k : Int) := i64_nat _ (by omega)
          have hl2 := hlen
          clear hx hy hk1 hlen
          go_upto_region 11 with fail
          refine wpL_region (S := Kept wr) [15, 17] (by kernel_rfl) (Kept.drew wr) (fun hS0 => ?_)
          refine takeL_at (i := 0) (d := 61) (v := ?_) (by simp only [List.getElem?_toArray, List.getElem?_cons_succ, List.getElem?_cons_zero]; rfl) rfl (by kernel_rfl) (by kernel_rfl) (by kernel_rfl) (by kernel_rfl) (fun _ _ _ h => h) rfl ?_ (by assumption) ?_
          rotate_left
          focus (intro w hSw; go_simp; (try with_reducible rfl); done)
          try simp only [List.setIfInBounds_toArray, List.set_cons_zero, List.set_cons_succ]
          refine takeL_at (i := 1) (d := 62) (v := ?_) (by simp only [List.getElem?_toArray, List.getElem?_cons_succ, List.getElem?_cons_zero]; rfl) rfl (by kernel_rfl) (by kernel_rfl) (by kernel_rfl) (by kernel_rfl) (fun _ _ _ h => h) rfl ?_ (by assumption) ?_
          rotate_left
          focus (intro w hSw; go_simp; (try with_reducible rfl); done)
          try simp only [List.setIfInBounds_toArray, List.set_cons_zero, List.set_cons_succ]
          refine takeW_at (i := 2) (d := 63) (v := ?_) (by simp only [List.getElem?_toArray, List.getElem?_cons_succ, List.getElem?_cons_zero]; rfl) rfl (by kernel_rfl) (by kernel_rfl) (by kernel_rfl) (fun _ _ _ h => h) rfl ?_ ?_
          rotate_left
          focus (intro w; go_simp; (try with_reducible rfl); done)
          try simp only [List.setIfInBounds_toArray, List.set_cons_zero, List.set_cons_succ]
          refine takeW_at (i := 3) (d := 64) (v := ?_) (by simp only [List.getElem?_toArray, List.getElem?_cons_succ, List.getElem?_cons_zero]; rfl) rfl (by kernel_rfl) (by kernel_rfl) (by kernel_rfl) (fun _ _ _ h => h) rfl ?_ ?_
          rotate_left
          focus (intro w; go_simp; (try with_reducible rfl); done)
          try simp only [List.setIfInBounds_toArray, List.set_cons_zero, List.set_cons_succ]
          refine takeW_at (i := 4) (d := 65) (v := ?_) (by simp only [List.getElem?_toArray, List.getElem?_cons_succ, List.getElem?_cons_zero]; rfl) rfl (by kernel_rfl) (by kernel_rfl) (by kernel_rfl) (fun _ _ _ h => h) rfl ?_ ?_
          rotate_left
          focus (intro w; go_simp; (try with_reducible rfl); done)
          try simp only [List.setIfInBounds_toArray, List.set_cons_zero, List.set_cons_succ]
          refine takeL_at (i := 5) (d := 66) (v := ?_) (by simp only [List.getElem?_toArray, List.getElem?_cons_succ, List.getElem?_cons_zero]; rfl) rfl (by kernel_rfl) (by kernel_rfl) (by kernel_rfl) (by kernel_rfl) (fun _ _ _ h => h) rfl ?_ (by assumption) ?_
          rotate_left
          focus (intro w hSw; go_simp; (try with_reducible rfl); done)
          try simp only [List.setIfInBounds_toArray, List.set_cons_zero, List.set_cons_succ]
          refine takeL_at (i := 6) (d := 67) (v := ?_) (by simp only [List.getElem?_toArray, List.getElem?_cons_succ, List.getElem?_cons_zero]; rfl) rfl (by kernel_rfl) (by kernel_rfl) (by kernel_rfl) (by kernel_rfl) (fun _ _ _ h => h) rfl ?_ (by assumption) ?_
          rotate_left
          focus (intro w hSw; go_simp; (try with_reducible rfl); done)
          try simp only [List.setIfInBounds_toArray, List.set_cons_zero, List.set_cons_succ]
          refine takeL_at (i := 7) (d := 68) (v := ?_) (by simp only [List.getElem?_toArray, List.getElem?_cons_succ, List.getElem?_cons_zero]; rfl) rfl (by kernel_rfl) (by kernel_rfl) (by kernel_rfl) (by kernel_rfl) (fun _ _ _ h => h) rfl ?_ (by assumption) ?_
          rotate_left
          focus (intro w hSw; go_simp; (try with_reducible rfl); done)
          try simp only [List.setIfInBounds_toArray, List.set_cons_zero, List.set_cons_succ]
          refine takeL_at (i := 8) (d := 69) (v := ?_) (by simp only [List.getElem?_toArray, List.getElem?_cons_succ, List.getElem?_cons_zero]; rfl) rfl (by kernel_rfl) (by kernel_rfl) (by kernel_rfl) (by kernel_rfl) (fun _ _ _ h => h) rfl ?_ (by assumption) ?_
          rotate_left
          focus (intro w hSw; go_simp; (try with_reducible rfl); done)
          try simp only [List.setIfInBounds_toArray, List.set_cons_zero, List.set_cons_succ]
          refine takeL_at (i := 9) (d := 70) (v := ?_) (by simp only [List.getElem?_toArray, List.getElem?_cons_succ, List.getElem?_cons_zero]; rfl) rfl (by kernel_rfl) (by kernel_rfl) (by kernel_rfl) (by kernel_rfl) (fun _ _ _ h => h) rfl ?_ (by assumption) ?_
          rotate_left
          focus (intro w hSw; go_simp; (try with_reducible rfl); done)
          try simp only [List.setIfInBounds_toArray, List.set_cons_zero, List.set_cons_succ]
          refine takeW_at (i := 10) (d := 71) (v := ?_) (by simp only [List.getElem?_toArray, List.getElem?_cons_succ, List.getElem?_cons_zero]; rfl) rfl (by kernel_rfl) (by kernel_rfl) (by kernel_rfl) (fun _ _ _ h => h) rfl ?_ ?_
          rotate_left
          focus (intro w; go_simp; (try with_reducible rfl); done)
          try simp only [List.setIfInBounds_toArray, List.set_cons_zero, List.set_cons_succ]
          refine takeW_at (i := 11) (d := 72) (v := ?_) (by simp only [List.getElem?_toArray, List.getElem?_cons_succ, List.getElem?_cons_zero]; rfl) rfl (by kernel_rfl) (by kernel_rfl) (by kernel_rfl) (fun _ _ _ h => h) rfl ?_ ?_
          rotate_left
          focus (intro w; go_simp; (try with_reducible rfl); done)
          try simp only [List.setIfInBounds_toArray, List.set_cons_zero, List.set_cons_succ]
          refine takeW_at (i := 12) (d := 73) (v := ?_) (by simp only [List.getElem?_toArray, List.getElem?_cons_succ, List.getElem?_cons_zero]; rfl) rfl (by kernel_rfl) (by kernel_rfl) (by kernel_rfl) (fun _ _ _ h => h) rfl ?_ ?_
          rotate_left
          focus (intro w; go_simp; (try with_reducible rfl); done)
          try simp only [List.setIfInBounds_toArray, List.set_cons_zero, List.set_cons_succ]
          refine takeL_at (i := 13) (d := 74) (v := ?_) (by simp only [List.getElem?_toArray, List.getElem?_cons_succ, List.getElem?_cons_zero]; rfl) rfl (by kernel_rfl) (by kernel_rfl) (by kernel_rfl) (by kernel_rfl) (fun _ _ _ h => h) rfl ?_ (by assumption) ?_
          rotate_left
          focus (intro w hSw; go_simp; (try with_reducible rfl); done)
          try simp only [List.setIfInBounds_toArray, List.set_cons_zero, List.set_cons_succ]
          refine takeL_at (i := 14) (d := 75) (v := ?_) (by simp only [List.getElem?_toArray, List.getElem?_cons_succ, List.getElem?_cons_zero]; rfl) rfl (by kernel_rfl) (by kernel_rfl) (by kernel_rfl) (by kernel_rfl) (fun _ _ _ h => h) rfl ?_ (by assumption) ?_
          rotate_left
          focus (intro w hSw; go_simp; (try with_reducible rfl); done)
          try simp only [List.setIfInBounds_toArray, List.set_cons_zero, List.set_cons_succ]
          refine exL_at (i := 15) (by simp only [List.getElem?_toArray, List.getElem?_cons_succ, List.getElem?_cons_zero]; rfl) (by kernel_rfl) rfl (by kernel_rfl) (fun K hK => ?_)
          go_wp2_with fail
          refine hK.out _ _ ?_
          clear hK K
          try simp only [List.setIfInBounds_toArray, List.set_cons_zero, List.set_cons_succ]
          have HSa := hide (SR.set HS1.out (i := k) (by omega) y).drew
          obtain ⟨ya, hya⟩ : ∃ z, World.drew (((wr.setCell ⟨g, k * 3, none⟩ (.int .i64 y.1)).setCell ⟨g, k * 3 + 1, none⟩ (.int .i64 y.2.1)).setCell ⟨g, k * 3 + 2, none⟩ (.int .i64 y.2.2)) = z := ⟨_, rfl⟩
          rw [hya] at HSa
          first | rw [hya] | rw [show _ = ya from hya]
          have HYa := hide hya
          clear hya
          have ga0 := HSa.out.frozen (k1 * 3)
          have ga1 := HSa.out.frozen (k1 * 3 + 1)
          have ga2 := HSa.out.frozen (k1 * 3 + 2)
          obtain ⟨mj, hmj⟩ := get_some (d := (rotL a (a + 1) (k + 1) d).set k y) (i := k1) (by rw [List.length_set]; omega)
          obtain ⟨gb0, gb1, gb2⟩ := HSa.out.get hmj
          clear hmj
          refine takeW_at (i := 16) (d := 76) (v := ?_) (by simp only [List.getElem?_toArray, List.getElem?_cons_succ, List.getElem?_cons_zero]; rfl) rfl (by kernel_rfl) (by kernel_rfl) (by kernel_rfl) (fun _ _ _ h => h) rfl ?_ ?_
          rotate_left
          focus (intro w; go_simp; (try with_reducible rfl); done)
          try simp only [List.setIfInBounds_toArray, List.set_cons_zero, List.set_cons_succ]
          refine exL_at (i := 17) (by simp only [List.getElem?_toArray, List.getElem?_cons_succ, List.getElem?_cons_zero]; rfl) (by kernel_rfl) rfl (by kernel_rfl) (fun K hK => ?_)
          go_wp2_with fail
          refine hK.out _ _ ?_
          clear hK K
          try simp only [List.setIfInBounds_toArray, List.set_cons_zero, List.set_cons_succ]
          refine wpAnyL_done (by kernel_rfl) ?_ _
          clear hS0
          have HSb := hide (SR.set HSa.out (i := k1) (by omega) x)
          obtain ⟨yb, hyb⟩ : ∃ z, (((ya.setCell ⟨g, k1 * 3, none⟩ (.int .i64 x.1)).setCell ⟨g, k1 * 3 + 1, none⟩ (.int .i64 x.2.1)).setCell ⟨g, k1 * 3 + 2, none⟩ (.int .i64 x.2.2)) = z := ⟨_, rfl⟩
          rw [hyb] at HSb
          rw [hyb]
          clear hyb HSa HYa ga0 gb0 ga1 gb1 ga2 gb2
          clear hl2 cx0 cxf0 cx1 cxf1 cx2 cxf2 cy0 cyf0 cy1 cyf1 cy2 cyf2
          have HSc : Hid (SR v0 B g n cap (rotL a (a + 1) (k1 + 1) d) yb) := hide (by have e := rot_one (a := a) (k := k) (d := d) (by omega) (by have := HL.out; have := HK1.out; omega); rw [HK1.out] at e; rw [← e, ← HK1.out, HK1.out, show swapL (rotL a (a + 1) k1 d) k k1 = swapL (rotL a (a + 1) (k + 1) d) k k1 by rw [HK1.out], swapL_eq HX.out HY.out]; exact HSb.out)
          clear HSb HS1 HX HY
          have hkk : (a ≤ k1 ∧ k1 ≤ i1) ∧ k < k1 := by have := HK1.out; omega
          go_wp2
          go_roundw
          case rel => first | exact ⟨k1, hkk.1, by first | rfl | go_num, HSc⟩ | ((repeat apply Exists.intro); exact ⟨⟨k1, hkk.1, by first | rfl | go_num, HSc⟩, rfl⟩)
          case measure => simp [intOf]; omega
        · obtain rfl : k = i1 := by omega
          have HFin2 := hide (show ∃ d', SR v0 B g n cap d' wr ∧ SymR ltF κ a m b d d' from ⟨rotL a (a + 1) i d, by rw [HI1.out]; exact HS1.out, HFin.out⟩)
          go_wp2
          refine bodyPost_ret (results_none rfl _ _ _) rfl ?_
          exact ⟨rfl, HFin2.out⟩
set_option maxRecDepth 100000 in
set_option maxHeartbeats 64000000 in
theorem symB_any (κ : Ed → Int) (v0 : World) (B g n cap : Nat) (hn : n ≤ 1000000) (w : World) (d : List Ed) (a m b : Nat) (hS : SR v0 B g n cap d w) (ham : a < m) (hmb : m < b) (hbn : b ≤ n) (hA : ¬ m = a + 1) (hB : b = m + 1) :
    Calls Try.prog 58 #[.slice (some ⟨g, 0, none⟩) n cap, .int .i64 (a : Int), .int .i64 (m : Int), .int .i64 (b : Int), .func (.func 40) #[] #[]] w (fun e w' => e = .returned (.tuple #[]) ∧ ∃ d', SR v0 B g n cap d' w' ∧ SymR ltF κ a m b d d') := by
  have HS := hide hS
  have HL := hide hS.1
  clear hS
  have q1 : (m : Int) - (a : Int) = ((m - a : Nat) : Int) := by omega
  have q2 : (b : Int) - (m : Int) = 1 := by omega
  obtain ⟨ma, hma⟩ : ∃ z, m - a = z := ⟨_, rfl⟩
  rw [hma] at q1
  have q3 : ¬ (ma : Int) = 1 := by omega
  have q5 : ((ma : Int) == 1) = false := by simp; omega
  have q4 : IntKind.i64.wrap (ma : Int) = (ma : Int) := i64_nat _ (by omega)
  have HB := hide hB
  clear hma hB hA
  go_enter Try.func58, Try.ntmps58
  go_wp2
  go_loopw [14, 15] (fun v14 v15 wr => ∃ (i j : Nat), (a ≤ i ∧ i ≤ j ∧ j ≤ m) ∧ v14 = .int .i64 (i : Int) ∧ v15 = .int .i64 (j : Int) ∧ Hid (SR v0 B g n cap d wr) ∧ Hid (One2 ltF κ a m i j d)) (fun v14 v15 _ => (intOf v15).toNat - (intOf v14).toNat)
  case atStart => exact ⟨a, m, by omega, rfl, rfl, HS, hide (One2.start a m d)⟩
  case round =>
    obtain ⟨i, j, hij, rfl, rfl, HS1, HO⟩ := hrel
    by_cases hlt : i < j
    · have hI : (i : Int) < (j : Int) := by omega
      obtain ⟨s, hs⟩ : ∃ z, i + j = z := ⟨_, rfl⟩
      obtain ⟨h, hh⟩ : ∃ z, s / 2 = z := ⟨_, rfl⟩
      have bs : s ≤ 9223372036854775807 := by omega
      have bh : h ≤ 9223372036854775807 := by omega
      have hb1 : i ≤ h ∧ h < j := by omega
      have hhn : h < n := by omega
      have hmn : m < n := by omega
      have lh : (h : Int) < (n : Int) := by omega
      have lm : (m : Int) < (n : Int) := by omega
      have wm : IntKind.i64.wrap (m : Int) = (m : Int) := i64_nat _ (by omega)
      obtain ⟨y, hy⟩ := get_some (d := d) (i := h) (by have := HL.out; omega)
      obtain ⟨x, hx⟩ := get_some (d := d) (i := m) (by have := HL.out; omega)
      obtain ⟨cy0, cy1, cy2⟩ := HS1.out.get hy
      have cyf0 := HS1.out.frozen (h * 3)
      have cyf1 := HS1.out.frozen (h * 3 + 1)
      have cyf2 := HS1.out.frozen (h * 3 + 2)
      obtain ⟨cx0, cx1, cx2⟩ := HS1.out.get hx
      have cxf0 := HS1.out.frozen (m * 3)
      have cxf1 := HS1.out.frozen (m * 3 + 1)
      have cxf2 := HS1.out.frozen (m * 3 + 2)
      have lg := HS1.out.glt
      obtain ⟨z, hz⟩ : ∃ z, cmpI x y = z := ⟨_, rfl⟩
      have HZ := hide hz
      clear hz
      have HX := hide hx
      have HY := hide hy
      have k1 : a ≤ h := by omega
      have k2 : h < m := by omega
      have k3 : a ≤ h + 1 ∧ h + 1 ≤ j ∧ j ≤ m := by omega
      have k4 : a ≤ i ∧ i ≤ h ∧ h ≤ m := by omega
      have w1 : IntKind.i64.wrap ((h : Int) + 1) = (h : Int) + 1 := i64_nat (h + 1) (by omega)
      have KK := hide (And.intro k1 (And.intro k2 (And.intro k3 k4)))
      have HB1 := hide (And.intro hij hb1)
      have f1 : (i : Int) + (j : Int) = (s : Int) := by omega
      have f2 : (s : Int) / 2 = (h : Int) := by omega
      have f3 : IntKind.i64.wrap (s : Int) = (s : Int) := i64_nat _ bs
      have f4 : IntKind.u64.wrap (s : Int) = (s : Int) := u64_nat _ (Nat.le_trans bs (by decide))
      have f5 : wrap64 (h : Int) = (h : Int) := w64_nat _ bh
      have f6 : IntKind.i64.wrap (h : Int) = (h : Int) := i64_nat _ bh
      clear hx hy hs hh hb1 hij k1 k2 k3 k4
      go_upto_region 17 with fail
      refine wp_region_held_drew (S := Kept wr) (by kernel_rfl) (Kept.drew wr) (fun hS0 => ?_)
      refine take_at (i := 0) (d := 92) (v := ?_) (by simp only [List.getElem?_toArray, List.getElem?_cons_succ, List.getElem?_cons_zero]; rfl) rfl (by kernel_rfl) (by kernel_rfl) (by kernel_rfl) (fun _ _ _ h => h) rfl ?_ (by assumption) ?_
      rotate_left
      focus (intro w hSw; go_simp; (try with_reducible rfl); done)
      try simp only [List.setIfInBounds_toArray, List.set_cons_zero, List.set_cons_succ]
      refine take_at (i := 1) (d := 93) (v := ?_) (by simp only [List.getElem?_toArray, List.getElem?_cons_succ, List.getElem?_cons_zero]; rfl) rfl (by kernel_rfl) (by kernel_rfl) (by kernel_rfl) (fun _ _ _ h => h) rfl ?_ (by assumption) ?_
      rotate_left
      focus (intro w hSw; go_simp; (try with_reducible rfl); done)
      try simp only [List.setIfInBounds_toArray, List.set_cons_zero, List.set_cons_succ]
      refine take_at (i := 2) (d := 94) (v := ?_) (by simp only [List.getElem?_toArray, List.getElem?_cons_succ, List.getElem?_cons_zero]; rfl) rfl (by kernel_rfl) (by kernel_rfl) (by kernel_rfl) (fun _ _ _ h => h) rfl ?_ (by assumption) ?_
      rotate_left
      focus (intro w hSw; go_simp; (try with_reducible rfl); done)
      try simp only [List.setIfInBounds_toArray, List.set_cons_zero, List.set_cons_succ]
      refine take_at (i := 3) (d := 95) (v := ?_) (by simp only [List.getElem?_toArray, List.getElem?_cons_succ, List.getElem?_cons_zero]; rfl) rfl (by kernel_rfl) (by kernel_rfl) (by kernel_rfl) (fun _ _ _ h => h) rfl ?_ (by assumption) ?_
      rotate_left
      focus (intro w hSw; go_simp; (try with_reducible rfl); done)
      try simp only [List.setIfInBounds_toArray, List.set_cons_zero, List.set_cons_succ]
      refine take_at (i := 4) (d := 96) (v := ?_) (by simp only [List.getElem?_toArray, List.getElem?_cons_succ, List.getElem?_cons_zero]; rfl) rfl (by kernel_rfl) (by kernel_rfl) (by kernel_rfl) (fun _ _ _ h => h) rfl ?_ (by assumption) ?_
      rotate_left
      focus (intro w hSw; go_simp; (try with_reducible rfl); done)
      try simp only [List.setIfInBounds_toArray, List.set_cons_zero, List.set_cons_succ]
      refine take_at (i := 5) (d := 97) (v := ?_) (by simp only [List.getElem?_toArray, List.getElem?_cons_succ, List.getElem?_cons_zero]; rfl) rfl (by kernel_rfl) (by kernel_rfl) (by kernel_rfl) (fun _ _ _ h => h) rfl ?_ (by assumption) ?_
      rotate_left
      focus (intro w hSw; go_simp; (try with_reducible rfl); done)
      try simp only [List.setIfInBounds_toArray, List.set_cons_zero, List.set_cons_succ]
      refine take_at (i := 6) (d := 98) (v := ?_) (by simp only [List.getElem?_toArray, List.getElem?_cons_succ, List.getElem?_cons_zero]; rfl) rfl (by kernel_rfl) (by kernel_rfl) (by kernel_rfl) (fun _ _ _ h => h) rfl ?_ (by assumption) ?_
      rotate_left
      focus (intro w hSw; go_simp; (try with_reducible rfl); done)
      try simp only [List.setIfInBounds_toArray, List.set_cons_zero, List.set_cons_succ]
      refine take_at (i := 7) (d := 99) (v := ?_) (by simp only [List.getElem?_toArray, List.getElem?_cons_succ, List.getElem?_cons_zero]; rfl) rfl (by kernel_rfl) (by kernel_rfl) (by kernel_rfl) (fun _ _ _ h => h) rfl ?_ (by assumption) ?_
      rotate_left
      focus (intro w hSw; go_simp; (try with_reducible rfl); done)
      try simp only [List.setIfInBounds_toArray, List.set_cons_zero, List.set_cons_succ]
      refine take_at (i := 8) (d := 100) (v := ?_) (by simp only [List.getElem?_toArray, List.getElem?_cons_succ, List.getElem?_cons_zero]; rfl) rfl (by kernel_rfl) (by kernel_rfl) (by kernel_rfl) (fun _ _ _ h => h) rfl ?_ (by assumption) ?_
      rotate_left
      focus (intro w hSw; go_simp; (try with_reducible rfl); done)
      try simp only [List.setIfInBounds_toArray, List.set_cons_zero, List.set_cons_succ]
      refine call_at (i := 9) (d := 101) (by simp only [List.getElem?_toArray, List.getElem?_cons_succ, List.getElem?_cons_zero]; rfl) rfl (by kernel_rfl) rfl (fun K hK => ?_)
      go_simp
      refine (clo_any _ x y).mono ?_
      rintro e z1 ⟨rfl, hz⟩
      rw [HZ.out]
      have hS1 : Kept wr z1 := hS0.below (by simp) hz
      have HSz := hide (HS1.out.drew.below hz)
      clear hz
      go_wp2_with fail
      refine hK.out _ _ hS1 (fun hSn => ?_)
      clear hK K
      try simp only [List.setIfInBounds_toArray, List.set_cons_zero, List.set_cons_succ]
      refine take_at (i := 10) (d := 102) (v := ?_) (by simp only [List.getElem?_toArray, List.getElem?_cons_succ, List.getElem?_cons_zero]; rfl) rfl (by kernel_rfl) (by kernel_rfl) (by kernel_rfl) (fun _ _ _ h => h) rfl ?_ (by assumption) ?_
      rotate_left
      focus (intro w hSw; go_simp; (try with_reducible rfl); done)
      try simp only [List.setIfInBounds_toArray, List.set_cons_zero, List.set_cons_succ]
      refine take_at (i := 11) (d := 103) (v := ?_) (by simp only [List.getElem?_toArray, List.getElem?_cons_succ, List.getElem?_cons_zero]; rfl) rfl (by kernel_rfl) (by kernel_rfl) (by kernel_rfl) (fun _ _ _ h => h) rfl ?_ (by assumption) ?_
      rotate_left
      focus (intro w hSw; go_simp; (try with_reducible rfl); done)
      try simp only [List.setIfInBounds_toArray, List.set_cons_zero, List.set_cons_succ]
      refine wpAnyH_done (by kernel_rfl) ?_ _
      clear hS0 hSn hS1 cx0 cxf0 cx1 cxf1 cx2 cxf2 cy0 cyf0 cy1 cyf1 cy2 cyf2 wm
      by_cases hz0 : z < 0
      · have hz2 : ¬ 0 ≤ z := Int.not_le.2 hz0
        have hd : (!decide (z < 0)) = false := by simp [hz0]
        rw [hd]
        clear hd
        have HLT : Hid (ltF x y = true) := hide (by unfold ltF; rw [HZ.out]; simpa using hz0)
        have HO2 : Hid (One2 ltF κ a m i h d) := hide (HO.out.down KK.out.1 KK.out.2.1 HY.out HX.out HLT.out)
        go_wp2
        clear f1 f2 f3 f4 f5 f6 w1
        go_roundw
        case rel => first | exact ⟨i, h, KK.out.2.2.2, rfl, by first | rfl | go_num, HSz, HO2⟩ | ((repeat apply Exists.intro); exact ⟨⟨i, h, KK.out.2.2.2, rfl, by first | rfl | go_num, HSz, HO2⟩, rfl⟩)
        case measure => have := HB1.out; simp [intOf]; omega
      · have hd : (!decide (z < 0)) = true := by rw [decide_eq_false hz0]; rfl
        rw [hd]
        clear hd
        have HLT : Hid (ltF x y = false) := hide (by unfold ltF; rw [HZ.out]; simpa using hz0)
        have HO2 : Hid (One2 ltF κ a m (h + 1) j d) := hide (HO.out.up KK.out.1 KK.out.2.1 HY.out HX.out HLT.out)
        have hz1 : 0 ≤ z := Int.not_lt.1 hz0
        go_wp2
        clear f1 f2 f3 f4 f5 f6 w1
        go_roundw
        case rel => first | exact ⟨h + 1, j, KK.out.2.2.1, by first | rfl | go_num, rfl, HSz, HO2⟩ | ((repeat apply Exists.intro); exact ⟨⟨h + 1, j, KK.out.2.2.1, by first | rfl | go_num, rfl, HSz, HO2⟩, rfl⟩)
        case measure => have := HB1.out; simp [intOf]; omega
    · obtain rfl : i = j := by omega
      have HFin : Hid (SymR ltF κ a m b d (rotL i m (m + 1) d)) := hide (by rw [HB.out]; exact HO.out.done (by omega) (by omega) (by have := HL.out; omega))
      clear HO
      go_wp2
      go_loopw [17] (fun v17 wr => ∃ (k : Nat), (i ≤ k ∧ k ≤ m) ∧ v17 = .int .i64 (k : Int) ∧ Hid (SR v0 B g n cap (rotL k m (m + 1) d) wr)) (fun v17 _ => (intOf v17).toNat - i)
      case atStart => exact ⟨m, by omega, rfl, hide (by rw [rot_id2 (by have := HL.out; omega)]; exact HS1.out)⟩
      case round =>
        clear HS1
        obtain ⟨k1, hk, rfl, HS1⟩ := hrel
        by_cases hlt2 : i < k1
        · have hK : (i : Int) < (k1 : Int) := by omega
          obtain ⟨k, hk1⟩ : ∃ z, k1 = z + 1 := ⟨k1 - 1, by omega⟩
          have hk1n : k1 < n := by omega
          have hkn : k < n := by omega
          have lk : (k : Int) < (n : Int) := by omega
          have lk1 : (k1 : Int) < (n : Int) := by omega
          have hlen := HS1.out.1
          obtain ⟨x, hx⟩ := get_some (d := rotL k1 m (m + 1) d) (i := k1) (by omega)
          obtain ⟨y, hy⟩ := get_some (d := rotL k1 m (m + 1) d) (i := k) (by omega)
          obtain ⟨cx0, cx1, cx2⟩ := HS1.out.get hx
          have cxf0 := HS1.out.frozen (k1 * 3)
          have cxf1 := HS1.out.frozen (k1 * 3 + 1)
          have cxf2 := HS1.out.frozen (k1 * 3 + 2)
          obtain ⟨cy0, cy1, cy2⟩ := HS1.out.get hy
          have cyf0 := HS1.out.frozen (k * 3)
          have cyf1 := HS1.out.frozen (k * 3 + 1)
          have cyf2 := HS1.out.frozen (k * 3 + 2)
          have lg := HS1.out.glt
          have HX := hide hx
          have HY := hide hy
          have HK1 := hide hk1
          have e1 : (k1 : Int) - 1 = (k : Int) := by omega
          have e2 : IntKind.i64.wrap (k : Int) = (k : Int) := i64_nat _ (by omega)
          have e3 : IntKind.i64.wrap (k1 : Int) = (k1 : Int) := i64_nat _ (by omega)
          have hl2 := hlen
          clear hx hy hk1 hlen
          go_upto_region 23 with fail
          refine wpL_region (S := Kept wr) [15, 17] (by kernel_rfl) (Kept.drew wr) (fun hS0 => ?_)
          refine takeL_at (i := 0) (d := 113) (v := ?_) (by simp only [List.getElem?_toArray, List.getElem?_cons_succ, List.getElem?_cons_zero]; rfl) rfl (by kernel_rfl) (by kernel_rfl) (by kernel_rfl) (by kernel_rfl) (fun _ _ _ h => h) rfl ?_ (by assumption) ?_
          rotate_left
          focus (intro w hSw; go_simp; (try with_reducible rfl); done)
          try simp only [List.setIfInBounds_toArray, List.set_cons_zero, List.set_cons_succ]
          refine takeL_at (i := 1) (d := 114) (v := ?_) (by simp only [List.getElem?_toArray, List.getElem?_cons_succ, List.getElem?_cons_zero]; rfl) rfl (by kernel_rfl) (by kernel_rfl) (by kernel_rfl) (by kernel_rfl) (fun _ _ _ h => h) rfl ?_ (by assumption) ?_
          rotate_left
          focus (intro w hSw; go_simp; (try with_reducible rfl); done)
          try simp only [List.setIfInBounds_toArray, List.set_cons_zero, List.set_cons_succ]
          refine takeW_at (i := 2) (d := 115) (v := ?_) (by simp only [List.getElem?_toArray, List.getElem?_cons_succ, List.getElem?_cons_zero]; rfl) rfl (by kernel_rfl) (by kernel_rfl) (by kernel_rfl) (fun _ _ _ h => h) rfl ?_ ?_
          rotate_left
          focus (intro w; go_simp; (try with_reducible rfl); done)
          try simp only [List.setIfInBounds_toArray, List.set_cons_zero, List.set_cons_succ]
          refine takeW_at (i := 3) (d := 116) (v := ?_) (by simp only [List.getElem?_toArray, List.getElem?_cons_succ, List.getElem?_cons_zero]; rfl) rfl (by kernel_rfl) (by kernel_rfl) (by kernel_rfl) (fun _ _ _ h => h) rfl ?_ ?_
          rotate_left
          focus (intro w; go_simp; (try with_reducible rfl); done)
          try simp only [List.setIfInBounds_toArray, List.set_cons_zero, List.set_cons_succ]
          refine takeW_at (i := 4) (d := 117) (v := ?_) (by simp only [List.getElem?_toArray, List.getElem?_cons_succ, List.getElem?_cons_zero]; rfl) rfl (by kernel_rfl) (by kernel_rfl) (by kernel_rfl) (fun _ _ _ h => h) rfl ?_ ?_
          rotate_left
          focus (intro w; go_simp; (try with_reducible rfl); done)
          try simp only [List.setIfInBounds_toArray, List.set_cons_zero, List.set_cons_succ]
          refine takeL_at (i := 5) (d := 118) (v := ?_) (by simp only [List.getElem?_toArray, List.getElem?_cons_succ, List.getElem?_cons_zero]; rfl) rfl (by kernel_rfl) (by kernel_rfl) (by kernel_rfl) (by kernel_rfl) (fun _ _ _ h => h) rfl ?_ (by assumption) ?_
          rotate_left
          focus (intro w hSw; go_simp; (try with_reducible rfl); done)
          try simp only [List.setIfInBounds_toArray, List.set_cons_zero, List.set_cons_succ]
          refine takeL_at (i := 6) (d := 119) (v := ?_) (by simp only [List.getElem?_toArray, List.getElem?_cons_succ, List.getElem?_cons_zero]; rfl) rfl (by kernel_rfl) (by kernel_rfl) (by kernel_rfl) (by kernel_rfl) (fun _ _ _ h => h) rfl ?_ (by assumption) ?_
          rotate_left
          focus (intro w hSw; go_simp; (try with_reducible rfl); done)
          try simp only [List.setIfInBounds_toArray, List.set_cons_zero, List.set_cons_succ]
          refine takeL_at (i := 7) (d := 120) (v := ?_) (by simp only [List.getElem?_toArray, List.getElem?_cons_succ, List.getElem?_cons_zero]; rfl) rfl (by kernel_rfl) (by kernel_rfl) (by kernel_rfl) (by kernel_rfl) (fun _ _ _ h => h) rfl ?_ (by assumption) ?_
          rotate_left
          focus (intro w hSw; go_simp; (try with_reducible rfl); done)
          try simp only [List.setIfInBounds_toArray, List.set_cons_zero, List.set_cons_succ]
          refine takeL_at (i := 8) (d := 121) (v := ?_) (by simp only [List.getElem?_toArray, List.getElem?_cons_succ, List.getElem?_cons_zero]; rfl) rfl (by kernel_rfl) (by kernel_rfl) (by kernel_rfl) (by kernel_rfl) (fun _ _ _ h => h) rfl ?_ (by assumption) ?_
          rotate_left
          focus (intro w hSw; go_simp; (try with_reducible rfl); done)
          try simp only [List.setIfInBounds_toArray, List.set_cons_zero, List.set_cons_succ]
          refine takeL_at (i := 9) (d := 122) (v := ?_) (by simp only [List.getElem?_toArray, List.getElem?_cons_succ, List.getElem?_cons_zero]; rfl) rfl (by kernel_rfl) (by kernel_rfl) (by kernel_rfl) (by kernel_rfl) (fun _ _ _ h => h) rfl ?_ (by assumption) ?_
          rotate_left
          focus (intro w hSw; go_simp; (try with_reducible rfl); done)
          try simp only [List.setIfInBounds_toArray, List.set_cons_zero, List.set_cons_succ]
          refine takeW_at (i := 10) (d := 123) (v := ?_) (by simp only [List.getElem?_toArray, List.getElem?_cons_succ, List.getElem?_cons_zero]; rfl) rfl (by kernel_rfl) (by kernel_rfl) (by kernel_rfl) (fun _ _ _ h => h) rfl ?_ ?_
          rotate_left
          focus (intro w; go_simp; (try with_reducible rfl); done)
          try simp only [List.setIfInBounds_toArray, List.set_cons_zero, List.set_cons_succ]
          refine takeW_at (i := 11) (d := 124) (v := ?_) (by simp only [List.getElem?_toArray, List.getElem?_cons_succ, List.getElem?_cons_zero]; rfl) rfl (by kernel_rfl) (by kernel_rfl) (by kernel_rfl) (fun _ _ _ h => h) rfl ?_ ?_
          rotate_left
          focus (intro w; go_simp; (try with_reducible rfl); done)
          try simp only [List.setIfInBounds_toArray, List.set_cons_zero, List.set_cons_succ]
          refine takeW_at (i := 12) (d := 125) (v := ?_) (by simp only [List.getElem?_toArray, List.getElem?_cons_succ, List.getElem?_cons_zero]; rfl) rfl (by kernel_rfl) (by kernel_rfl) (by kernel_rfl) (fun _ _ _ h => h) rfl ?_ ?_
          rotate_left
          focus (intro w; go_simp; (try with_reducible rfl); done)
          try simp only [List.setIfInBounds_toArray, List.set_cons_zero, List.set_cons_succ]
          refine takeL_at (i := 13) (d := 126) (v := ?_) (by simp only [List.getElem?_toArray, List.getElem?_cons_succ, List.getElem?_cons_zero]; rfl) rfl (by kernel_rfl) (by kernel_rfl) (by kernel_rfl) (by kernel_rfl) (fun _ _ _ h => h) rfl ?_ (by assumption) ?_
          rotate_left
          focus (intro w hSw; go_simp; (try with_reducible rfl); done)
          try simp only [List.setIfInBounds_toArray, List.set_cons_zero, List.set_cons_succ]
          refine takeL_at (i := 14) (d := 127) (v := ?_) (by simp only [List.getElem?_toArray, List.getElem?_cons_succ, List.getElem?_cons_zero]; rfl) rfl (by kernel_rfl) (by kernel_rfl) (by kernel_rfl) (by kernel_rfl) (fun _ _ _ h => h) rfl ?_ (by assumption) ?_
          rotate_left
          focus (intro w hSw; go_simp; (try with_reducible rfl); done)
          try simp only [List.setIfInBounds_toArray, List.set_cons_zero, List.set_cons_succ]
          refine exL_at (i := 15) (by simp only [List.getElem?_toArray, List.getElem?_cons_succ, List.getElem?_cons_zero]; rfl) (by kernel_rfl) rfl (by kernel_rfl) (fun K hK => ?_)
          go_wp2_with fail
          refine hK.out _ _ ?_
          clear hK K
          try simp only [List.setIfInBounds_toArray, List.set_cons_zero, List.set_cons_succ]
          have HSa := hide (SR.set HS1.out (i := k1) (by omega) y).drew
          obtain ⟨ya, hya⟩ : ∃ z, World.drew (((wr.setCell ⟨g, k1 * 3, none⟩ (.int .i64 y.1)).setCell ⟨g, k1 * 3 + 1, none⟩ (.int .i64 y.2.1)).setCell ⟨g, k1 * 3 + 2, none⟩ (.int .i64 y.2.2)) = z := ⟨_, rfl⟩
          rw [hya] at HSa
          first | rw [hya] | rw [show _ = ya from hya]
          have HYa := hide hya
          clear hya
          have ga0 := HSa.out.frozen (k * 3)
          have ga1 := HSa.out.frozen (k * 3 + 1)
          have ga2 := HSa.out.frozen (k * 3 + 2)
          obtain ⟨mj, hmj⟩ := get_some (d := (rotL k1 m (m + 1) d).set k1 y) (i := k) (by rw [List.length_set]; omega)
          obtain ⟨gb0, gb1, gb2⟩ := HSa.out.get hmj
          clear hmj
          refine takeW_at (i := 16) (d := 128) (v := ?_) (by simp only [List.getElem?_toArray, List.getElem?_cons_succ, List.getElem?_cons_zero]; rfl) rfl (by kernel_rfl) (by kernel_rfl) (by kernel_rfl) (fun _ _ _ h => h) rfl ?_ ?_
          rotate_left
          focus (intro w; go_simp; (try with_reducible rfl); done)
          try simp only [List.setIfInBounds_toArray, List.set_cons_zero, List.set_cons_succ]
          refine exL_at (i := 17) (by simp only [List.getElem?_toArray, List.getElem?_cons_succ, List.getElem?_cons_zero]; rfl) (by kernel_rfl) rfl (by kernel_rfl) (fun K hK => ?_)
          go_wp2_with fail
          refine hK.out _ _ ?_
          clear hK K
          try simp only [List.setIfInBounds_toArray, List.set_cons_zero, List.set_cons_succ]
          refine wpAnyL_done (by kernel_rfl) ?_ _
          clear hS0
          have HSb := hide (SR.set HSa.out (i := k) (by omega) x)
          obtain ⟨yb, hyb⟩ : ∃ z, (((ya.setCell ⟨g, k * 3, none⟩ (.int .i64 x.1)).setCell ⟨g, k * 3 + 1, none⟩ (.int .i64 x.2.1)).setCell ⟨g, k * 3 + 2, none⟩ (.int .i64 x.2.2)) = z := ⟨_, rfl⟩
          rw [hyb] at HSb
          rw [hyb]
          clear hyb HSa HYa ga0 gb0 ga1 gb1 ga2 gb2
          clear hl2 cx0 cxf0 cx1 cxf1 cx2 cxf2 cy0 cyf0 cy1 cyf1 cy2 cyf2
          have HSc : Hid (SR v0 B g n cap (rotL k m (m + 1) d) yb) := hide (by have e := rot_last (k := k) (m := m) (d := d) (by have := HK1.out; omega) (by have := HL.out; omega); rw [← HK1.out] at e; rw [← e, swapL_eq HX.out HY.out]; exact HSb.out)
          clear HSb HS1 HX HY
          have hkk : (i ≤ k ∧ k ≤ m) ∧ k < k1 := by have := HK1.out; omega
          go_wp2
          go_roundw
          case rel => first | exact ⟨k, hkk.1, by first | rfl | go_num, HSc⟩ | ((repeat apply Exists.intro); exact ⟨⟨k, hkk.1, by first | rfl | go_num, HSc⟩, rfl⟩)
          case measure => simp [intOf]; omega
        · obtain rfl : k1 = i := by omega
          have HFin2 := hide (show ∃ d', SR v0 B g n cap d' wr ∧ SymR ltF κ a m b d d' from ⟨rotL k1 m (m + 1) d, HS1.out, HFin.out⟩)
          go_wp2
          refine bodyPost_ret (results_none rfl _ _ _) rfl ?_
          exact ⟨rfl, HFin2.out⟩
end Go.Proofs.Ytihdpfjonkagaaa
