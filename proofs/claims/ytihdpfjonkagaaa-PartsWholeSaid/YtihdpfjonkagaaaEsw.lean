/- Two stretches of a row change their places. (printed by gen/sst.py) -/
import Derived.Test.YtihdpfjonkagaaaEsr
import Derived.Deep.DeepCutAuto
import Derived.Lib.Hide
import Derived.WalkSpells
import Derived.WalkMore
import Derived.IntWalk
namespace Go.Proofs.Ytihdpfjonkagaaa
open Go.RowKit
set_option linter.unusedVariables false
set_option linter.unusedSimpArgs false
set_option maxRecDepth 100000 in
set_option maxHeartbeats 16000000 in
theorem swr_any (v0 w : World) (B g n cap : Nat) (d : List Ed) (a b q : Nat) (hS : SR v0 B g n cap d w) (hab : a + q ≤ b) (hbn : b + q ≤ n) (hn : n ≤ 1000000) :
    Calls Try.prog 61 #[.slice (some ⟨g, 0, none⟩) n cap, .int .i64 (a : Int), .int .i64 (b : Int), .int .i64 (q : Int), .func (.func 40) #[] #[]] w (fun e w' => e = .returned (.tuple #[]) ∧ ∃ d', SR v0 B g n cap d' w' ∧ Swp a b q d d') := by
  have HS := hide hS
  have HL := hide hS.1
  clear hS
  go_enter Try.func61, Try.ntmps61
  go_wp2
  go_loopw [10] (fun v10 wr => ∃ (i : Nat) (d1 : List Ed), i ≤ q ∧ v10 = .int .i64 (i : Int) ∧ Hid (SR v0 B g n cap d1 wr) ∧ Hid (Swp a b i d d1)) (fun v10 _ => q - (intOf v10).toNat)
  case atStart => exact ⟨0, d, by omega, rfl, HS, hide (Swp.zero a b d)⟩
  case round =>
    obtain ⟨i, d1, hi, rfl, HS1, HW⟩ := hrel
    by_cases hlt : i < q
    · have hI : (i : Int) < (q : Int) := by omega
      obtain ⟨p, hp⟩ : ∃ p, a + i = p := ⟨_, rfl⟩
      obtain ⟨r, hr⟩ : ∃ r, b + i = r := ⟨_, rfl⟩
      have hlen := HS1.out.1
      have hpn : p < n := by omega
      have hrn : r < n := by omega
      have hp1 : (p : Int) < (n : Int) := by omega
      have hr1 : (r : Int) < (n : Int) := by omega
      obtain ⟨x, hx⟩ := get_some (d := d1) (i := p) (by omega)
      obtain ⟨y, hy⟩ := get_some (d := d1) (i := r) (by omega)
      obtain ⟨cx0, cx1, cx2⟩ := HS1.out.get hx
      have cxf0 := HS1.out.frozen (p * 3)
      have cxf1 := HS1.out.frozen (p * 3 + 1)
      have cxf2 := HS1.out.frozen (p * 3 + 2)
      obtain ⟨cy0, cy1, cy2⟩ := HS1.out.get hy
      have cyf0 := HS1.out.frozen (r * 3)
      have cyf1 := HS1.out.frozen (r * 3 + 1)
      have cyf2 := HS1.out.frozen (r * 3 + 2)
      have lg := HS1.out.glt
      have HX := hide hx
      have HY := hide hy
      have HP := hide hp
      have HR := hide hr
      have hl2 := hlen
      have e1 : (a : Int) + (i : Int) = (p : Int) := by omega
      have e2 : (b : Int) + (i : Int) = (r : Int) := by omega
      have e3 : IntKind.i64.wrap (p : Int) = (p : Int) := i64_nat p (by omega)
      have e4 : IntKind.i64.wrap (r : Int) = (r : Int) := i64_nat r (by omega)
      clear hx hy hp hr hlen
      go_upto_region 3 with fail
      refine wpL_region (S := Kept wr) [21, 23] (by kernel_rfl) (Kept.drew wr) (fun hS0 => ?_)
      refine takeL_at (i := 0) (d := 16) (v := ?_) (by simp only [List.getElem?_toArray, List.getElem?_cons_succ, List.getElem?_cons_zero]; rfl) rfl (by kernel_rfl) (by kernel_rfl) (by kernel_rfl) (by kernel_rfl) (fun _ _ _ h => h) rfl ?_ (by assumption) ?_
      rotate_left
      focus (intro w hSw; go_simp; (try with_reducible rfl); done)
      try simp only [List.setIfInBounds_toArray, List.set_cons_zero, List.set_cons_succ]
      refine takeL_at (i := 1) (d := 17) (v := ?_) (by simp only [List.getElem?_toArray, List.getElem?_cons_succ, List.getElem?_cons_zero]; rfl) rfl (by kernel_rfl) (by kernel_rfl) (by kernel_rfl) (by kernel_rfl) (fun _ _ _ h => h) rfl ?_ (by assumption) ?_
      rotate_left
      focus (intro w hSw; go_simp; (try with_reducible rfl); done)
      try simp only [List.setIfInBounds_toArray, List.set_cons_zero, List.set_cons_succ]
      refine takeL_at (i := 2) (d := 18) (v := ?_) (by simp only [List.getElem?_toArray, List.getElem?_cons_succ, List.getElem?_cons_zero]; rfl) rfl (by kernel_rfl) (by kernel_rfl) (by kernel_rfl) (by kernel_rfl) (fun _ _ _ h => h) rfl ?_ (by assumption) ?_
      rotate_left
      focus (intro w hSw; go_simp; (try with_reducible rfl); done)
      try simp only [List.setIfInBounds_toArray, List.set_cons_zero, List.set_cons_succ]
      refine takeL_at (i := 3) (d := 19) (v := ?_) (by simp only [List.getElem?_toArray, List.getElem?_cons_succ, List.getElem?_cons_zero]; rfl) rfl (by kernel_rfl) (by kernel_rfl) (by kernel_rfl) (by kernel_rfl) (fun _ _ _ h => h) rfl ?_ (by assumption) ?_
      rotate_left
      focus (intro w hSw; go_simp; (try with_reducible rfl); done)
      try simp only [List.setIfInBounds_toArray, List.set_cons_zero, List.set_cons_succ]
      refine takeW_at (i := 4) (d := 20) (v := ?_) (by simp only [List.getElem?_toArray, List.getElem?_cons_succ, List.getElem?_cons_zero]; rfl) rfl (by kernel_rfl) (by kernel_rfl) (by kernel_rfl) (fun _ _ _ h => h) rfl ?_ ?_
      rotate_left
      focus (intro w; go_simp; (try with_reducible rfl); done)
      try simp only [List.setIfInBounds_toArray, List.set_cons_zero, List.set_cons_succ]
      refine takeW_at (i := 5) (d := 21) (v := ?_) (by simp only [List.getElem?_toArray, List.getElem?_cons_succ, List.getElem?_cons_zero]; rfl) rfl (by kernel_rfl) (by kernel_rfl) (by kernel_rfl) (fun _ _ _ h => h) rfl ?_ ?_
      rotate_left
      focus (intro w; go_simp; (try with_reducible rfl); done)
      try simp only [List.setIfInBounds_toArray, List.set_cons_zero, List.set_cons_succ]
      refine takeW_at (i := 6) (d := 22) (v := ?_) (by simp only [List.getElem?_toArray, List.getElem?_cons_succ, List.getElem?_cons_zero]; rfl) rfl (by kernel_rfl) (by kernel_rfl) (by kernel_rfl) (fun _ _ _ h => h) rfl ?_ ?_
      rotate_left
      focus (intro w; go_simp; (try with_reducible rfl); done)
      try simp only [List.setIfInBounds_toArray, List.set_cons_zero, List.set_cons_succ]
      refine takeW_at (i := 7) (d := 23) (v := ?_) (by simp only [List.getElem?_toArray, List.getElem?_cons_succ, List.getElem?_cons_zero]; rfl) rfl (by kernel_rfl) (by kernel_rfl) (by kernel_rfl) (fun _ _ _ h => h) rfl ?_ ?_
      rotate_left
      focus (intro w; go_simp; (try with_reducible rfl); done)
      try simp only [List.setIfInBounds_toArray, List.set_cons_zero, List.set_cons_succ]
      refine takeL_at (i := 8) (d := 24) (v := ?_) (by simp only [List.getElem?_toArray, List.getElem?_cons_succ, List.getElem?_cons_zero]; rfl) rfl (by kernel_rfl) (by kernel_rfl) (by kernel_rfl) (by kernel_rfl) (fun _ _ _ h => h) rfl ?_ (by assumption) ?_
      rotate_left
      focus (intro w hSw; go_simp; (try with_reducible rfl); done)
      try simp only [List.setIfInBounds_toArray, List.set_cons_zero, List.set_cons_succ]
      refine takeL_at (i := 9) (d := 25) (v := ?_) (by simp only [List.getElem?_toArray, List.getElem?_cons_succ, List.getElem?_cons_zero]; rfl) rfl (by kernel_rfl) (by kernel_rfl) (by kernel_rfl) (by kernel_rfl) (fun _ _ _ h => h) rfl ?_ (by assumption) ?_
      rotate_left
      focus (intro w hSw; go_simp; (try with_reducible rfl); done)
      try simp only [List.setIfInBounds_toArray, List.set_cons_zero, List.set_cons_succ]
      refine takeL_at (i := 10) (d := 26) (v := ?_) (by simp only [List.getElem?_toArray, List.getElem?_cons_succ, List.getElem?_cons_zero]; rfl) rfl (by kernel_rfl) (by kernel_rfl) (by kernel_rfl) (by kernel_rfl) (fun _ _ _ h => h) rfl ?_ (by assumption) ?_
      rotate_left
      focus (intro w hSw; go_simp; (try with_reducible rfl); done)
      try simp only [List.setIfInBounds_toArray, List.set_cons_zero, List.set_cons_succ]
      refine takeL_at (i := 11) (d := 27) (v := ?_) (by simp only [List.getElem?_toArray, List.getElem?_cons_succ, List.getElem?_cons_zero]; rfl) rfl (by kernel_rfl) (by kernel_rfl) (by kernel_rfl) (by kernel_rfl) (fun _ _ _ h => h) rfl ?_ (by assumption) ?_
      rotate_left
      focus (intro w hSw; go_simp; (try with_reducible rfl); done)
      try simp only [List.setIfInBounds_toArray, List.set_cons_zero, List.set_cons_succ]
      refine takeL_at (i := 12) (d := 28) (v := ?_) (by simp only [List.getElem?_toArray, List.getElem?_cons_succ, List.getElem?_cons_zero]; rfl) rfl (by kernel_rfl) (by kernel_rfl) (by kernel_rfl) (by kernel_rfl) (fun _ _ _ h => h) rfl ?_ (by assumption) ?_
      rotate_left
      focus (intro w hSw; go_simp; (try with_reducible rfl); done)
      try simp only [List.setIfInBounds_toArray, List.set_cons_zero, List.set_cons_succ]
      refine takeL_at (i := 13) (d := 29) (v := ?_) (by simp only [List.getElem?_toArray, List.getElem?_cons_succ, List.getElem?_cons_zero]; rfl) rfl (by kernel_rfl) (by kernel_rfl) (by kernel_rfl) (by kernel_rfl) (fun _ _ _ h => h) rfl ?_ (by assumption) ?_
      rotate_left
      focus (intro w hSw; go_simp; (try with_reducible rfl); done)
      try simp only [List.setIfInBounds_toArray, List.set_cons_zero, List.set_cons_succ]
      refine takeW_at (i := 14) (d := 30) (v := ?_) (by simp only [List.getElem?_toArray, List.getElem?_cons_succ, List.getElem?_cons_zero]; rfl) rfl (by kernel_rfl) (by kernel_rfl) (by kernel_rfl) (fun _ _ _ h => h) rfl ?_ ?_
      rotate_left
      focus (intro w; go_simp; (try with_reducible rfl); done)
      try simp only [List.setIfInBounds_toArray, List.set_cons_zero, List.set_cons_succ]
      refine takeW_at (i := 15) (d := 31) (v := ?_) (by simp only [List.getElem?_toArray, List.getElem?_cons_succ, List.getElem?_cons_zero]; rfl) rfl (by kernel_rfl) (by kernel_rfl) (by kernel_rfl) (fun _ _ _ h => h) rfl ?_ ?_
      rotate_left
      focus (intro w; go_simp; (try with_reducible rfl); done)
      try simp only [List.setIfInBounds_toArray, List.set_cons_zero, List.set_cons_succ]
      refine takeW_at (i := 16) (d := 32) (v := ?_) (by simp only [List.getElem?_toArray, List.getElem?_cons_succ, List.getElem?_cons_zero]; rfl) rfl (by kernel_rfl) (by kernel_rfl) (by kernel_rfl) (fun _ _ _ h => h) rfl ?_ ?_
      rotate_left
      focus (intro w; go_simp; (try with_reducible rfl); done)
      try simp only [List.setIfInBounds_toArray, List.set_cons_zero, List.set_cons_succ]
      refine takeW_at (i := 17) (d := 33) (v := ?_) (by simp only [List.getElem?_toArray, List.getElem?_cons_succ, List.getElem?_cons_zero]; rfl) rfl (by kernel_rfl) (by kernel_rfl) (by kernel_rfl) (fun _ _ _ h => h) rfl ?_ ?_
      rotate_left
      focus (intro w; go_simp; (try with_reducible rfl); done)
      try simp only [List.setIfInBounds_toArray, List.set_cons_zero, List.set_cons_succ]
      refine takeW_at (i := 18) (d := 34) (v := ?_) (by simp only [List.getElem?_toArray, List.getElem?_cons_succ, List.getElem?_cons_zero]; rfl) rfl (by kernel_rfl) (by kernel_rfl) (by kernel_rfl) (fun _ _ _ h => h) rfl ?_ ?_
      rotate_left
      focus (intro w; go_simp; (try with_reducible rfl); done)
      try simp only [List.setIfInBounds_toArray, List.set_cons_zero, List.set_cons_succ]
      refine takeL_at (i := 19) (d := 35) (v := ?_) (by simp only [List.getElem?_toArray, List.getElem?_cons_succ, List.getElem?_cons_zero]; rfl) rfl (by kernel_rfl) (by kernel_rfl) (by kernel_rfl) (by kernel_rfl) (fun _ _ _ h => h) rfl ?_ (by assumption) ?_
      rotate_left
      focus (intro w hSw; go_simp; (try with_reducible rfl); done)
      try simp only [List.setIfInBounds_toArray, List.set_cons_zero, List.set_cons_succ]
      refine takeL_at (i := 20) (d := 36) (v := ?_) (by simp only [List.getElem?_toArray, List.getElem?_cons_succ, List.getElem?_cons_zero]; rfl) rfl (by kernel_rfl) (by kernel_rfl) (by kernel_rfl) (by kernel_rfl) (fun _ _ _ h => h) rfl ?_ (by assumption) ?_
      rotate_left
      focus (intro w hSw; go_simp; (try with_reducible rfl); done)
      try simp only [List.setIfInBounds_toArray, List.set_cons_zero, List.set_cons_succ]
      refine exL_at (i := 21) (by simp only [List.getElem?_toArray, List.getElem?_cons_succ, List.getElem?_cons_zero]; rfl) (by kernel_rfl) rfl (by kernel_rfl) (fun K hK => ?_)
      go_wp2_with fail
      refine hK.out _ _ ?_
      clear hK K
      try simp only [List.setIfInBounds_toArray, List.set_cons_zero, List.set_cons_succ]
      have HSa := hide (SR.set HS1.out (i := p) (by omega) y).drew
      obtain ⟨ya, hya⟩ : ∃ z, World.drew (((wr.setCell ⟨g, p * 3, none⟩ (.int .i64 y.1)).setCell ⟨g, p * 3 + 1, none⟩ (.int .i64 y.2.1)).setCell ⟨g, p * 3 + 2, none⟩ (.int .i64 y.2.2)) = z := ⟨_, rfl⟩
      rw [hya] at HSa
      first | rw [hya] | rw [show _ = ya from hya]
      have HYa := hide hya
      clear hya
      have ga0 := HSa.out.frozen (r * 3)
      have ga1 := HSa.out.frozen (r * 3 + 1)
      have ga2 := HSa.out.frozen (r * 3 + 2)
      obtain ⟨mj, hmj⟩ := get_some (d := d1.set p y) (i := r) (by rw [List.length_set]; omega)
      obtain ⟨gb0, gb1, gb2⟩ := HSa.out.get hmj
      clear hmj
      refine takeW_at (i := 22) (d := 37) (v := ?_) (by simp only [List.getElem?_toArray, List.getElem?_cons_succ, List.getElem?_cons_zero]; rfl) rfl (by kernel_rfl) (by kernel_rfl) (by kernel_rfl) (fun _ _ _ h => h) rfl ?_ ?_
      rotate_left
      focus (intro w; go_simp; (try with_reducible rfl); done)
      try simp only [List.setIfInBounds_toArray, List.set_cons_zero, List.set_cons_succ]
      refine exL_at (i := 23) (by simp only [List.getElem?_toArray, List.getElem?_cons_succ, List.getElem?_cons_zero]; rfl) (by kernel_rfl) rfl (by kernel_rfl) (fun K hK => ?_)
      go_wp2_with fail
      refine hK.out _ _ ?_
      clear hK K
      try simp only [List.setIfInBounds_toArray, List.set_cons_zero, List.set_cons_succ]
      refine wpAnyL_done (by kernel_rfl) ?_ _
      clear hS0
      have HSb := hide (SR.set HSa.out (i := r) (by omega) x)
      obtain ⟨yb, hyb⟩ : ∃ z, (((ya.setCell ⟨g, r * 3, none⟩ (.int .i64 x.1)).setCell ⟨g, r * 3 + 1, none⟩ (.int .i64 x.2.1)).setCell ⟨g, r * 3 + 2, none⟩ (.int .i64 x.2.2)) = z := ⟨_, rfl⟩
      rw [hyb] at HSb
      rw [hyb]
      clear hyb HSa HYa ga0 gb0 ga1 gb1 ga2 gb2
      clear hl2 cx0 cxf0 cx1 cxf1 cx2 cxf2 cy0 cyf0 cy1 cyf1 cy2 cyf2
      have HW2 : Hid (Swp a b (i + 1) d (swapL d1 p r)) := hide (by rw [← HP.out, ← HR.out]; exact HW.out.step (n := q) hlt hab (by rw [HL.out]; exact hbn))
      have HSc : Hid (SR v0 B g n cap (swapL d1 p r) yb) := hide (by rw [swapL_eq HX.out HY.out]; exact HSb.out)
      clear HSb HS1 HW HX HY
      go_wp2
      go_roundw
      case rel => exact ⟨i + 1, _, by omega, by go_num, HSc, HW2⟩
      case measure => simp [intOf]; omega
    · obtain rfl : i = q := by omega
      have HFin := hide (show ∃ d', SR v0 B g n cap d' wr ∧ Swp a b i d d' from ⟨d1, HS1.out, HW.out⟩)
      go_wp2
      go_end0
      exact ⟨rfl, HFin.out⟩
set_option maxRecDepth 100000 in
set_option maxHeartbeats 16000000 in
theorem rot_any (v0 w : World) (B g n cap : Nat) (d : List Ed) (a m b : Nat) (hS : SR v0 B g n cap d w) (ham : a < m) (hmb : m < b) (hbn : b ≤ n) (hn : n ≤ 1000000) :
    Calls Try.prog 60 #[.slice (some ⟨g, 0, none⟩) n cap, .int .i64 (a : Int), .int .i64 (m : Int), .int .i64 (b : Int), .func (.func 40) #[] #[]] w (fun e w' => e = .returned (.tuple #[]) ∧ SR v0 B g n cap (rotL a m b d) w') := by
  have HS := hide hS
  clear hS
  have e1 : (m : Int) - (a : Int) = ((m - a : Nat) : Int) := by omega
  have e2 : (b : Int) - (m : Int) = ((b - m : Nat) : Int) := by omega
  have e3 : IntKind.i64.wrap ((m - a : Nat) : Int) = ((m - a : Nat) : Int) := i64_nat _ (by omega)
  have e4 : IntKind.i64.wrap ((b - m : Nat) : Int) = ((b - m : Nat) : Int) := i64_nat _ (by omega)
  obtain ⟨i0, hi0⟩ : ∃ z, m - a = z := ⟨_, rfl⟩
  obtain ⟨j0, hj0⟩ : ∃ z, b - m = z := ⟨_, rfl⟩
  rw [hi0] at e1 e3
  rw [hj0] at e2 e4
  have HI0 := hide hi0
  have HJ0 := hide hj0
  have hi1 : 0 < i0 ∧ i0 ≤ m := by omega
  have hj1 : 0 < j0 ∧ m + j0 ≤ n := by omega
  have HT : Hid (rotL a m b d = rotL (m - i0) m (m + j0) d) := hide (by rw [show m - i0 = a by omega, show m + j0 = b by omega])
  clear hi0 hj0
  go_enter Try.func60, Try.ntmps60
  go_wp2
  go_loopw [10, 11] (fun v10 v11 wr => ∃ (i j : Nat) (d1 : List Ed), (0 < i ∧ i ≤ m) ∧ (0 < j ∧ m + j ≤ n) ∧ v10 = .int .i64 (i : Int) ∧ v11 = .int .i64 (j : Int) ∧ Hid (SR v0 B g n cap d1 wr) ∧ Hid (rotL a m b d = rotL (m - i) m (m + j) d1)) (fun v10 v11 _ => (intOf v10).toNat + (intOf v11).toNat)
  case atStart => exact ⟨i0, j0, d, hi1, hj1, rfl, rfl, HS, HT⟩
  case round =>
    clear e1 e2 e3 e4 HT hi1 hj1
    obtain ⟨i, j, d1, hi, hj, rfl, rfl, HS1, HT⟩ := hrel
    have hl1 := hide HS1.out.1
    obtain ⟨p, hp⟩ : ∃ p, m - i = p := ⟨_, rfl⟩
    have f1 : (m : Int) - (i : Int) = (p : Int) := by omega
    have f2 : IntKind.i64.wrap (p : Int) = (p : Int) := i64_nat _ (by omega)
    have HP := hide hp
    rcases (show i = j ∨ j < i ∨ i < j by omega) with hij | hij | hij
    · subst hij
      have HPm := HP
      go_wp2_with fail
      refine (swr_any v0 _ B g n cap d1 p m i HS1.out (by omega) (by omega) hn).mono ?_
      rintro e w2 ⟨rfl, d2, hs2, hw2⟩
      have HS2 := hide hs2
      have HW2 := hide hw2
      clear hs2 hw2
      have HFin := hide (show SR v0 B g n cap (rotL a m b d) w2 by rw [HT.out, rot_eq (by omega) (by rw [hl1.out]; omega) (by rw [HP.out]; exact HW2.out)]; exact HS2.out)
      go_wp2
      go_end0
      exact ⟨rfl, HFin.out⟩
    · have hne : ((i : Int) != (j : Int)) = true := by simp; omega
      have hgt : (j : Int) < (i : Int) := by omega
      go_wp2_with fail
      refine (swr_any v0 _ B g n cap d1 p m j HS1.out (by omega) (by omega) hn).mono ?_
      rintro e w2 ⟨rfl, d2, hs2, hw2⟩
      have HS2 := hide hs2
      have HW2 := hide hw2
      clear hs2 hw2
      have g1 : (i : Int) - (j : Int) = ((i - j : Nat) : Int) := by omega
      have g2 : IntKind.i64.wrap ((i - j : Nat) : Int) = ((i - j : Nat) : Int) := i64_nat _ (by omega)
      obtain ⟨i2, hi2⟩ : ∃ z, i - j = z := ⟨_, rfl⟩
      rw [hi2] at g1 g2
      have HT2 : Hid (rotL a m b d = rotL (m - i2) m (m + j) d2) := hide (by rw [HT.out, ← hi2]; exact rot_gt hij (by omega) (by rw [hl1.out]; omega) (by rw [HP.out]; exact HW2.out))
      have hb1 : (0 < i2 ∧ i2 ≤ m) ∧ i2 + j < i + j := by omega
      clear HT hi2 HW2 HS1
      go_wp2
      go_roundw
      case rel => exact ⟨i2, j, d2, hb1.1, hj, by first | rfl | go_num, by first | rfl | go_num, HS2, HT2⟩
      case measure => simp [intOf]; omega
    · have hne : ((i : Int) != (j : Int)) = true := by simp; omega
      have hgt : ¬ (j : Int) < (i : Int) := by omega
      obtain ⟨s, hs⟩ : ∃ s, m + j = s := ⟨_, rfl⟩
      obtain ⟨r, hr⟩ : ∃ r, s - i = r := ⟨_, rfl⟩
      have k1 : (m : Int) + (j : Int) = (s : Int) := by omega
      have k2 : (s : Int) - (i : Int) = (r : Int) := by omega
      have k3 : IntKind.i64.wrap (s : Int) = (s : Int) := i64_nat _ (by omega)
      have k4 : IntKind.i64.wrap (r : Int) = (r : Int) := i64_nat _ (by omega)
      have HRr := hide (show m + j - i = r by omega)
      go_wp2_with fail
      refine (swr_any v0 _ B g n cap d1 p r i HS1.out (by omega) (by omega) hn).mono ?_
      rintro e w2 ⟨rfl, d2, hs2, hw2⟩
      have HS2 := hide hs2
      have HW2 := hide hw2
      clear hs2 hw2
      have g1 : (j : Int) - (i : Int) = ((j - i : Nat) : Int) := by omega
      have g2 : IntKind.i64.wrap ((j - i : Nat) : Int) = ((j - i : Nat) : Int) := i64_nat _ (by omega)
      obtain ⟨j2, hj2⟩ : ∃ z, j - i = z := ⟨_, rfl⟩
      rw [hj2] at g1 g2
      have HT2 : Hid (rotL a m b d = rotL (m - i) m (m + j2) d2) := hide (by rw [HT.out, ← hj2]; exact rot_lt hij (by omega) (by rw [hl1.out]; omega) (by rw [HP.out, HRr.out]; exact HW2.out))
      have hb1 : (0 < j2 ∧ m + j2 ≤ n) ∧ i + j2 < i + j := by omega
      clear HT hj2 HW2 HS1 hs hr k1 k2 k3 k4
      go_wp2
      go_roundw
      case rel => exact ⟨i, j2, d2, hi, hb1.1, by first | rfl | go_num, by first | rfl | go_num, HS2, HT2⟩
      case measure => simp [intOf]; omega
end Go.Proofs.Ytihdpfjonkagaaa
