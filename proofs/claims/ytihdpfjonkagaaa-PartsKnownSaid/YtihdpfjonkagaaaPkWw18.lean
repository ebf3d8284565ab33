/- Lemmas: Esi, Ess, Eqe. -/
import Derived.Deep.DeepCutAuto
import Derived.Lib.Hide
import Derived.WalkSpells
import Derived.WalkMore
import Derived.IntWalk
import Derived.Test.YtihdpfjonkagaaaProg
import Derived.Test.YtihdpfjonkagaaaPkWw5
import Derived.Test.YtihdpfjonkagaaaPkWw17
set_option linter.unusedVariables false
set_option linter.unusedSimpArgs false
set_option maxRecDepth 100000
set_option maxHeartbeats 16000000
namespace Go.Proofs.Ytihdpfjonkagaaa
open Go.RowKit
theorem ins_any (κ : Ed → Int) (v0 w : World) (B g n cap : Nat) (d : List Ed) (a b : Nat) (hS : SR v0 B g n cap d w) (hab : a ≤ b) (hbn : b ≤ n) (hn : n ≤ 1000000) :
  Calls Try.prog 57 #[.slice (some ⟨g, 0, none⟩) n cap, .int .i64 (a : Int), .int .i64 (b : Int), .func (.func 40) #[] #[]] w (fun e w' => e = .returned (.tuple #[]) ∧ ∃ d', SR v0 B g n cap d' w' ∧ Mv a b d d' ∧ (KeyOn ltF κ d → Srt κ a b d' ∧ Stb κ d d')) := by
 have HS := hide hS
 have ea : IntKind.i64.wrap ((a : Int) + 1) = (a : Int) + 1 := IntWalk.i64_in _ (by omega)
 clear hS
 go_enter Try.func57, Try.ntmps57
 go_wp2
 go_loopw [8] (fun v8 wr => ∃ (i : Nat) (d1 : List Ed), a + 1 ≤ i ∧ (i ≤ b ∨ i = a + 1) ∧ v8 = .int .i64 (i : Int) ∧ Hid (SR v0 B g n cap d1 wr) ∧ Hid (InsO ltF κ a b i d d1)) (fun v8 _ => b - (intOf v8).toNat)
 case atStart => exact ⟨a + 1, d, by omega, .inr rfl, by go_num, HS, hide (InsO.start a b d)⟩
 case round =>
  obtain ⟨i, d1, hi1, hi2, rfl, HS1, HI1⟩ := hrel
  obtain ⟨wo, rfl⟩ : ∃ z : World, z = wr := ⟨_, rfl⟩
  by_cases hlt : i < b
  ·have hib : (i : Int) < (b : Int) := by omega
   go_wp2
   go_loopw [9] (fun v9 wr => ∃ (j : Nat) (d2 : List Ed), a ≤ j ∧ j ≤ i ∧ v9 = .int .i64 (j : Int) ∧ Hid (SR v0 B g n cap d2 wr) ∧ Hid (InsI ltF κ a b i j d d2)) (fun v9 _ => (intOf v9).toNat)
   case atStart => exact ⟨i, d1, by omega, by omega, rfl, HS1, hide HI1.out.inner⟩
   case round =>
    clear HS1 HI1
    obtain ⟨j, d2, hja, hji, rfl, HS2, HI2⟩ := hrel
    by_cases hj : j = a
    ·obtain rfl : j = a := by omega
     have hng : ¬ (j : Int) > (j : Int) := by omega
     go_upto_region 4 with fail
     refine wp_region_held_drew (S := Kept wr) (by kernel_rfl) (Kept.drew wr) (fun hS0 => ?_)
     refine tk 0 18 ?_ ?_ ?_; rotate_left; (focus (intro w h; go_simp; (try with_reducible rfl))); (try simp only [xd, xe, xf])
     refine tk 1 19 ?_ ?_ ?_; rotate_left; (focus (intro w h; go_simp; (try with_reducible rfl))); (try simp only [xd, xe, xf])
     refine tk 2 20 ?_ ?_ ?_; rotate_left; (focus (intro w h; go_simp; (try with_reducible rfl))); (try simp only [xd, xe, xf])
     refine tk 3 21 ?_ ?_ ?_; rotate_left; (focus (intro w h; go_simp; (try with_reducible rfl))); (try simp only [xd, xe, xf])
     refine sk 4 22 ?_; (try simp only [xd, xe, xf])
     refine sk 5 23 ?_; (try simp only [xd, xe, xf])
     refine sk 6 24 ?_; (try simp only [xd, xe, xf])
     refine sk 7 25 ?_; (try simp only [xd, xe, xf])
     refine sk 8 26 ?_; (try simp only [xd, xe, xf])
     refine sk 9 27 ?_; (try simp only [xd, xe, xf])
     refine sk 10 28 ?_; (try simp only [xd, xe, xf])
     refine sk 11 29 ?_; (try simp only [xd, xe, xf])
     refine sk 12 30 ?_; (try simp only [xd, xe, xf])
     refine sk 13 31 ?_; (try simp only [xd, xe, xf])
     refine sk 14 32 ?_; (try simp only [xd, xe, xf])
     refine sk 15 33 ?_; (try simp only [xd, xe, xf])
     refine tk 16 34 ?_ ?_ ?_; rotate_left; (focus (intro w h; go_simp; (try with_reducible rfl))); (try simp only [xd, xe, xf])
     refine wpAnyH_done (by kernel_rfl) ?_ _
     clear hS0
     have HIO := hide (HI2.out.stop (.inl rfl))
     have HSx := hide HS2.out.drew
     go_wp2
     go_roundw
     case rel => exact ⟨i + 1, d2, by omega, by omega, by go_num, HSx, HIO⟩
     case measure => simp [intOf]; omega
    ·obtain ⟨k, hk⟩ : ∃ k, j = k + 1 := ⟨j - 1, by omega⟩
     have hjn : j ≤ n := by omega
     have e1 : IntKind.i64.wrap ((j : Int) - 1) = (k : Int) := by rw [show (j : Int) - 1 = (k : Int) by omega]; exact IntWalk.i64_in _ (by omega)
     have e2 : (j : Int) - 1 = (k : Int) := by omega
     have e3 : IntKind.i64.wrap (k : Int) = (k : Int) := IntWalk.i64_in _ (by omega)
     have hgt : (a : Int) < (j : Int) := by omega
     have hlen2 := HS2.out.1
     obtain ⟨x, hx⟩ := get_some (d := d2) (i := j) (by omega)
     obtain ⟨y, hy⟩ := get_some (d := d2) (i := k) (by omega)
     obtain ⟨cx0, cx1, cx2⟩ := HS2.out.get hx
     have cxf0 := HS2.out.frozen (j * 3)
     have cxf1 := HS2.out.frozen (j * 3 + 1)
     have cxf2 := HS2.out.frozen (j * 3 + 2)
     obtain ⟨cy0, cy1, cy2⟩ := HS2.out.get hy
     have cyf0 := HS2.out.frozen (k * 3)
     have cyf1 := HS2.out.frozen (k * 3 + 1)
     have cyf2 := HS2.out.frozen (k * 3 + 2)
     have hx1 : (j : Int) < (n : Int) := by omega
     have hy1 : (k : Int) < (n : Int) := by omega
     have lg := HS2.out.glt
     obtain ⟨z, hz⟩ : ∃ z, cmpI x y = z := ⟨_, rfl⟩
     have HZ := hide hz
     have HX := hide hx
     have HY := hide hy
     have HK := hide hk
     have HL2 := hide hlen2
     clear hz hx hy hk hlen2
     go_upto_region 4 with fail
     refine wp_region_held_drew (S := Kept wr) (by kernel_rfl) (Kept.drew wr) (fun hS0 => ?_)
     refine tk 0 18 ?_ ?_ ?_; rotate_left; (focus (intro w h; go_simp; (try with_reducible rfl))); (try simp only [xd, xe, xf])
     refine tk 1 19 ?_ ?_ ?_; rotate_left; (focus (intro w h; go_simp; (try with_reducible rfl))); (try simp only [xd, xe, xf])
     refine tk 2 20 ?_ ?_ ?_; rotate_left; (focus (intro w h; go_simp; (try with_reducible rfl))); (try simp only [xd, xe, xf])
     refine tk 3 21 ?_ ?_ ?_; rotate_left; (focus (intro w h; go_simp; (try with_reducible rfl))); (try simp only [xd, xe, xf])
     refine tk 4 22 ?_ ?_ ?_; rotate_left; (focus (intro w h; go_simp; (try with_reducible rfl))); (try simp only [xd, xe, xf])
     refine tk 5 23 ?_ ?_ ?_; rotate_left; (focus (intro w h; go_simp; (try with_reducible rfl))); (try simp only [xd, xe, xf])
     refine tk 6 24 ?_ ?_ ?_; rotate_left; (focus (intro w h; go_simp; (try with_reducible rfl))); (try simp only [xd, xe, xf])
     refine tk 7 25 ?_ ?_ ?_; rotate_left; (focus (intro w h; go_simp; (try with_reducible rfl))); (try simp only [xd, xe, xf])
     refine tk 8 26 ?_ ?_ ?_; rotate_left; (focus (intro w h; go_simp; (try with_reducible rfl))); (try simp only [xd, xe, xf])
     refine tk 9 27 ?_ ?_ ?_; rotate_left; (focus (intro w h; go_simp; (try with_reducible rfl))); (try simp only [xd, xe, xf])
     refine tk 10 28 ?_ ?_ ?_; rotate_left; (focus (intro w h; go_simp; (try with_reducible rfl))); (try simp only [xd, xe, xf])
     refine tk 11 29 ?_ ?_ ?_; rotate_left; (focus (intro w h; go_simp; (try with_reducible rfl))); (try simp only [xd, xe, xf])
     refine tk 12 30 ?_ ?_ ?_; rotate_left; (focus (intro w h; go_simp; (try with_reducible rfl))); (try simp only [xd, xe, xf])
     refine tk 13 31 ?_ ?_ ?_; rotate_left; (focus (intro w h; go_simp; (try with_reducible rfl))); (try simp only [xd, xe, xf])
     refine call_at (i := 14) (d := 32) (by simp only [xa, xb, xc]; rfl) rfl (by kernel_rfl) rfl (fun K hK => ?_)
     go_simp
     refine (clo_any _ x y).mono ?_
     rintro e z1 ⟨rfl, hz⟩
     rw [HZ.out]
     have hS1 : Kept wr z1 := hS0.below (by simp) hz
     have HSz := hide (HS2.out.drew.below hz)
     clear hz
     go_wp2_with fail
     refine hK.out _ _ hS1 (fun hSn => ?_)
     clear hK K
     try simp only [xd, xe, xf]
     refine tk 15 33 ?_ ?_ ?_; rotate_left; (focus (intro w h; go_simp; (try with_reducible rfl))); (try simp only [xd, xe, xf])
     refine tk 16 34 ?_ ?_ ?_; rotate_left; (focus (intro w h; go_simp; (try with_reducible rfl))); (try simp only [xd, xe, xf])
     refine wpAnyH_done (by kernel_rfl) ?_ _
     clear hS0 hSn hS1 cx0 cxf0 cx1 cxf1 cx2 cxf2 cy0 cyf0 cy1 cyf1 cy2 cyf2
     by_cases hz0 : z < 0
     ·have hlt : ltF x y = true := by unfold ltF; rw [HZ.out]; simpa using hz0
      have HLT := hide hlt
      clear hlt
      obtain ⟨cx0, cx1, cx2⟩ := HSz.out.get HX.out
      have cxf0 := HSz.out.frozen (j * 3)
      have cxf1 := HSz.out.frozen (j * 3 + 1)
      have cxf2 := HSz.out.frozen (j * 3 + 2)
      obtain ⟨cy0, cy1, cy2⟩ := HSz.out.get HY.out
      have cyf0 := HSz.out.frozen (k * 3)
      have cyf1 := HSz.out.frozen (k * 3 + 1)
      have cyf2 := HSz.out.frozen (k * 3 + 2)
      have lg2 := HSz.out.glt
      have hjn2 : j < n := by omega
      have hkn2 : k < n := by have := HK.out; omega
      have hl2 := HL2.out
      go_upto_region 6 with fail
      obtain ⟨wq, rfl⟩ : ∃ z, z = z1 := ⟨_, rfl⟩
      refine wpL_region (S := Kept wq) [15, 17] (by kernel_rfl) (Kept.drew wq) (fun hS0 => ?_)
      refine tl 0 37 ?_ ?_ ?_; rotate_left; (focus (intro w h; go_simp; (try with_reducible rfl))); (try simp only [xd, xe, xf])
      refine tl 1 38 ?_ ?_ ?_; rotate_left; (focus (intro w h; go_simp; (try with_reducible rfl))); (try simp only [xd, xe, xf])
      refine tw 2 39 ?_ ?_ ?_; rotate_left; (focus (intro w; go_simp; (try with_reducible rfl); done)); (try simp only [xd, xe, xf])
      refine tw 3 40 ?_ ?_ ?_; rotate_left; (focus (intro w; go_simp; (try with_reducible rfl); done)); (try simp only [xd, xe, xf])
      refine tw 4 41 ?_ ?_ ?_; rotate_left; (focus (intro w; go_simp; (try with_reducible rfl); done)); (try simp only [xd, xe, xf])
      refine tl 5 42 ?_ ?_ ?_; rotate_left; (focus (intro w h; go_simp; (try with_reducible rfl))); (try simp only [xd, xe, xf])
      refine tl 6 43 ?_ ?_ ?_; rotate_left; (focus (intro w h; go_simp; (try with_reducible rfl))); (try simp only [xd, xe, xf])
      refine tl 7 44 ?_ ?_ ?_; rotate_left; (focus (intro w h; go_simp; (try with_reducible rfl))); (try simp only [xd, xe, xf])
      refine tl 8 45 ?_ ?_ ?_; rotate_left; (focus (intro w h; go_simp; (try with_reducible rfl))); (try simp only [xd, xe, xf])
      refine tl 9 46 ?_ ?_ ?_; rotate_left; (focus (intro w h; go_simp; (try with_reducible rfl))); (try simp only [xd, xe, xf])
      refine tw 10 47 ?_ ?_ ?_; rotate_left; (focus (intro w; go_simp; (try with_reducible rfl); done)); (try simp only [xd, xe, xf])
      refine tw 11 48 ?_ ?_ ?_; rotate_left; (focus (intro w; go_simp; (try with_reducible rfl); done)); (try simp only [xd, xe, xf])
      refine tw 12 49 ?_ ?_ ?_; rotate_left; (focus (intro w; go_simp; (try with_reducible rfl); done)); (try simp only [xd, xe, xf])
      refine tl 13 50 ?_ ?_ ?_; rotate_left; (focus (intro w h; go_simp; (try with_reducible rfl))); (try simp only [xd, xe, xf])
      refine tl 14 51 ?_ ?_ ?_; rotate_left; (focus (intro w h; go_simp; (try with_reducible rfl))); (try simp only [xd, xe, xf])
      refine exL_at (i := 15) (by simp only [xa, xb, xc]; rfl) (by kernel_rfl) rfl (by kernel_rfl) (fun K hK => ?_)
      go_wp2_with fail
      refine hK.out _ _ ?_
      clear hK K
      try simp only [xd, xe, xf]
      have HSa := hide (SR.set HSz.out (i := j) (by omega) y).drew
      obtain ⟨ya, hya⟩ : ∃ z, World.drew (((wq.setCell ⟨g, j * 3, none⟩ (.int .i64 y.1)).setCell ⟨g, j * 3 + 1, none⟩ (.int .i64 y.2.1)).setCell ⟨g, j * 3 + 2, none⟩ (.int .i64 y.2.2)) = z := ⟨_, rfl⟩
      rw [hya] at HSa
      first | rw [hya] | rw [show _ = ya from hya]
      have HYa := hide hya
      clear hya
      have ga0 := HSa.out.frozen (k * 3)
      have ga1 := HSa.out.frozen (k * 3 + 1)
      have ga2 := HSa.out.frozen (k * 3 + 2)
      obtain ⟨mj, hmj⟩ := get_some (d := d2.set j y) (i := k) (by rw [List.length_set]; omega)
      obtain ⟨gb0, gb1, gb2⟩ := HSa.out.get hmj
      clear hmj
      refine tw 16 52 ?_ ?_ ?_; rotate_left; (focus (intro w; go_simp; (try with_reducible rfl); done)); (try simp only [xd, xe, xf])
      refine exL_at (i := 17) (by simp only [xa, xb, xc]; rfl) (by kernel_rfl) rfl (by kernel_rfl) (fun K hK => ?_)
      go_wp2_with fail
      refine hK.out _ _ ?_
      clear hK K
      try simp only [xd, xe, xf]
      refine wpAnyL_done (by kernel_rfl) ?_ _
      clear hS0
      have HSb := hide (SR.set HSa.out (i := k) (by omega) x)
      obtain ⟨yb, hyb⟩ : ∃ z, (((ya.setCell ⟨g, k * 3, none⟩ (.int .i64 x.1)).setCell ⟨g, k * 3 + 1, none⟩ (.int .i64 x.2.1)).setCell ⟨g, k * 3 + 2, none⟩ (.int .i64 x.2.2)) = z := ⟨_, rfl⟩
      rw [hyb] at HSb
      rw [hyb]
      clear hyb HSa HYa ga0 gb0 ga1 gb1 ga2 gb2
      clear hl2 cx0 cxf0 cx1 cxf1 cx2 cxf2 cy0 cyf0 cy1 cyf1 cy2 cyf2
      have HI3 : Hid (InsI ltF κ a b i k d (swapL d2 j k)) := hide (by have hI := HI2.out; have hx := HX.out; have hk := HK.out; subst hk; exact hI.step (by omega) (by omega) (by omega) (by have := HL2.out; omega) hx HY.out HLT.out)
      have HSc : Hid (SR v0 B g n cap (swapL d2 j k) yb) := hide (by rw [swapL_eq HX.out HY.out]; exact HSb.out)
      clear HSb HSz HI2 HS2 HX HY HLT HZ
      have hkk : k ≤ i ∧ a ≤ k := by have := HK.out; omega
      go_wp2
      go_roundw
      case rel => exact ⟨k, _, hkk.2, hkk.1, by first | rfl | go_num, HSc, HI3⟩
      case measure => simp [intOf]; first | omega | (have := HK.out; omega)
     ·have hlt : ltF x y = false := by unfold ltF; rw [HZ.out]; simpa using hz0
      have HLT := hide hlt
      clear hlt
      have hz1 : 0 ≤ z := by omega
      have HIO := hide (HI2.out.stop (.inr ⟨k, x, y, HK.out, HX.out, HY.out, HLT.out⟩))
      have HSx := hide HSz.out
      go_wp2
      go_roundw
      case rel => exact ⟨i + 1, d2, by omega, by omega, by go_num, HSx, HIO⟩
      case measure => simp [intOf]; omega
  ·have hib : ¬ (i : Int) < (b : Int) := by omega
   have HFin := hide (show ∃ d', SR v0 B g n cap d' wo ∧ Mv a b d d' ∧ (KeyOn ltF κ d → Srt κ a b d' ∧ Stb κ d d') from ⟨d1, HS1.out, HI1.out.1, fun hk => ⟨fun s t x y h1 h2 h3 h4 h5 => (HI1.out.2 hk).1 s t x y h1 h2 (by omega) h4 h5, (HI1.out.2 hk).2⟩⟩)
   go_wp2
   go_end0
   exact ⟨rfl, HFin.out⟩
end Go.Proofs.Ytihdpfjonkagaaa
namespace Go.Proofs.Ytihdpfjonkagaaa
open Go.RowKit
theorem stab_any (κ : Ed → Int) (v0 w : World) (B g n cap : Nat) (d : List Ed) (hS : SR v0 B g n cap d w) (hn : n ≤ 1000000) :
  Calls Try.prog 49 #[.slice (some ⟨g, 0, none⟩) n cap, .int .i64 (n : Int), .func (.func 40) #[] #[]] w (fun e w' => e = .returned (.tuple #[]) ∧ ∃ d', SR v0 B g n cap d' w' ∧ StS ltF κ n d d') := by
 have HS := hide hS
 have HL := hide hS.1
 clear hS
 go_enter Try.func49, Try.ntmps49
 go_wp2
 go_loopw [7, 8] (fun v7 v8 wr => ∃ (k a b : Nat) (d1 : List Ed), (a = k * 20 ∧ b = a + 20 ∧ a ≤ n) ∧ v7 = .int .i64 (a : Int) ∧ v8 = .int .i64 (b : Int) ∧ Hid (SR v0 B g n cap d1 wr) ∧ Hid (StA ltF κ n k d d1)) (fun v7 _ _ => n - (intOf v7).toNat)
 case atStart => exact ⟨0, 0, 20, d, by omega, by rfl, by rfl, HS, hide (StA.start n d)⟩
 case round =>
  obtain ⟨k, a, b, d1, hab, rfl, rfl, HS1, HT⟩ := hrel
  by_cases hlt : b ≤ n
  ·have hI : (b : Int) ≤ (n : Int) := by omega
   obtain ⟨b2, hb2⟩ : ∃ z, b + 20 = z := ⟨_, rfl⟩
   have e1 : (b : Int) + 20 = (b2 : Int) := by omega
   have hb3 : b = (k + 1) * 20 ∧ b2 = b + 20 ∧ b ≤ n := by omega
   have hm3 : n - b < n - a := by omega
   have e2 : IntKind.i64.wrap (b2 : Int) = (b2 : Int) := i64_nat _ (by omega)
   have HAB := hide hab
   have HB3 := hide hb3
   clear hb2 hab hb3
   go_wp2_with fail
   refine (ins_any κ v0 _ B g n cap d1 a b HS1.out (by have := HAB.out; omega) hlt hn).mono ?_
   rintro _ w2 ⟨rfl, d2, hs2, hm2, hk2⟩
   have HS2 := hide hs2
   have HT2 : Hid (StA ltF κ n (k + 1) d d2) := hide (by have h := HAB.out; rw [h.2.1] at hm2 hk2; exact HT.out.step h.1 (by rw [← h.2.1]; exact hlt) hm2 hk2)
   clear hs2 hm2 hk2 HS1 HT
   go_wp2
   go_roundw
   case rel => first | exact ⟨k + 1, b, b2, d2, HB3.out, rfl, by first | rfl | go_num, HS2, HT2⟩ | ((repeat apply Exists.intro); exact ⟨⟨k + 1, b, b2, d2, HB3.out, rfl, by first | rfl | go_num, HS2, HT2⟩, rfl⟩)
   case measure => simp [intOf]; omega
  ·have hI : ¬ (b : Int) ≤ (n : Int) := by omega
   have hna : n < a + 20 := by omega
   have han := hab.2.2
   have HAB := hide hab
   clear hab
   go_wp2_with fail
   refine (ins_any κ v0 _ B g n cap d1 a n HS1.out han (Nat.le_refl _) hn).mono ?_
   rintro _ w2 ⟨rfl, d2, hs2, hm2, hk2⟩
   have HS2 := hide hs2
   have HT2 : Hid (StB ltF κ n 20 d d2) := hide (HT.out.last HAB.out.1 hna HL.out han hm2 hk2)
   clear hs2 hm2 hk2 HS1 HT hI
   go_wp2
   go_loopw [6] (fun v6 wr => ∃ (bs : Nat) (d3 : List Ed), (20 ≤ bs ∧ (bs ≤ 2 * n ∨ bs = 20)) ∧ v6 = .int .i64 (bs : Int) ∧ Hid (SR v0 B g n cap d3 wr) ∧ Hid (StB ltF κ n bs d d3)) (fun v6 _ => 2 * n - (intOf v6).toNat)
   case atStart => exact ⟨20, d2, by omega, by rfl, HS2, HT2⟩
   case round =>
    clear HS2 HT2
    obtain ⟨bs, d3, hbs, rfl, HS3, HT3⟩ := hrel
    have HBS := hide hbs
    obtain ⟨w3, rfl⟩ : ∃ z : World, z = wr := ⟨_, rfl⟩
    by_cases hlt2 : bs < n
    ·have hJ : (bs : Int) < (n : Int) := by omega
     obtain ⟨bb, hbb⟩ : ∃ z, 2 * bs = z := ⟨_, rfl⟩
     have g1 : (2 : Int) * (bs : Int) = (bb : Int) := by omega
     have g2 : (bs : Int) * 2 = (bb : Int) := by omega
     have hbb2 : bs < bb ∧ (20 ≤ bb ∧ (bb ≤ 2 * n ∨ bb = 20)) ∧ bb = bs + bs ∧ 0 < bb ∧ 0 < bs := by omega
     have hms : 2 * n - bb < 2 * n - bs := by omega
     have bbl : bb ≤ 9223372036854775807 := by omega
     have HBB := hide hbb
     have H2 := hide (And.intro hbb2 hms)
     have g3 : IntKind.i64.wrap (bb : Int) = (bb : Int) := i64_nat _ bbl
     have HG := hide (And.intro g1 (And.intro g2 g3))
     clear hbb hbb2 hms hbs
     go_wp2
     go_loopw [7, 8] (fun v7 v8 wr => ∃ (k a b : Nat) (d4 : List Ed), (a = k * (2 * bs) ∧ b = a + 2 * bs ∧ a ≤ n) ∧ v7 = .int .i64 (a : Int) ∧ v8 = .int .i64 (b : Int) ∧ Hid (SR v0 B g n cap d4 wr) ∧ Hid (StC ltF κ n bs k d d4)) (fun v7 _ _ => n - (intOf v7).toNat)
     case atStart => exact ⟨0, 0, bb, d3, ⟨by rw [Nat.zero_mul], by have := HBB.out; omega, Nat.zero_le _⟩, by rfl, rfl, HS3, hide HT3.out.blocks⟩
     case round =>
      clear HS3 HT3 g1 g2 g3
      obtain ⟨k, a, b, d4, hab2, rfl, rfl, HS4, HT4⟩ := hrel
      by_cases hlt3 : b ≤ n
      ·have hI : (b : Int) ≤ (n : Int) := by omega
       obtain ⟨am, ham⟩ : ∃ z, a + bs = z := ⟨_, rfl⟩
       obtain ⟨b2, hb2⟩ : ∃ z, b + bb = z := ⟨_, rfl⟩
       have e1 : (a : Int) + (bs : Int) = (am : Int) := by omega
       have e2 : (b : Int) + (bb : Int) = (b2 : Int) := by omega
       have hq : a < am ∧ am < b ∧ b - a ≤ n ∧ n - b < n - a := by have := HBB.out; have := H2.out; omega
       have hb3 : b = (k + 1) * (2 * bs) ∧ b2 = b + 2 * bs ∧ b ≤ n := ⟨by rw [Nat.add_mul, Nat.one_mul]; omega, by have := HBB.out; omega, hlt3⟩
       have bam : am ≤ 9223372036854775807 := by omega
       have bb2 : b2 ≤ 9223372036854775807 := by omega
       have HQ := hide hq
       have HAM := hide ham
       have HAB2 := hide hab2
       have HB3 := hide hb3
       clear hq ham hb2 hab2 hb3
       obtain ⟨g1, g2, g3⟩ := HG.out
       have e3 : IntKind.i64.wrap (am : Int) = (am : Int) := i64_nat _ bam
       have e4 : IntKind.i64.wrap (b2 : Int) = (b2 : Int) := i64_nat _ bb2
       go_wp2_with fail
       refine (sym_any κ v0 B g n cap hn n _ d4 a am b HQ.out.2.2.1 HS4.out HQ.out.1 HQ.out.2.1 hlt3).mono ?_
       rintro _ w5 ⟨rfl, d5, hs5, hk5⟩
       have HS5 := hide hs5
       have HT5 : Hid (StC ltF κ n bs (k + 1) d d5) := hide (HT4.out.step HAB2.out.1 (by rw [← HAB2.out.2.1]; exact hlt3) (by rw [HAM.out, ← HAB2.out.2.1]; exact hk5))
       clear hs5 hk5 HS4 HT4
       go_wp2
       clear e1 e2 e3 e4 g1 g2 g3
       go_roundw
       case rel => first | exact ⟨k + 1, b, b2, d5, HB3.out, by first | rfl | go_num, by first | rfl | go_num, HS5, HT5⟩ | ((repeat apply Exists.intro); exact ⟨⟨k + 1, b, b2, d5, HB3.out, by first | rfl | go_num, by first | rfl | go_num, HS5, HT5⟩, rfl⟩)
       case measure => have := HQ.out; simp [intOf]; omega
      ·have hI : ¬ (b : Int) ≤ (n : Int) := by omega
       obtain ⟨am, ham⟩ : ∃ z, a + bs = z := ⟨_, rfl⟩
       have e1 : (a : Int) + (bs : Int) = (am : Int) := by omega
       have bam : am ≤ 9223372036854775807 := by omega
       have HAM := hide ham
       have hbn3 : n < a + 2 * bs := by omega
       have HN3 := hide hbn3
       have HAB2 := hide hab2
       by_cases hlt4 : am < n
       ·have hq : a < am ∧ n - a ≤ n := by have := H2.out; omega
        have hK : (am : Int) < (n : Int) := by omega
        clear ham hab2 hbn3
        obtain ⟨g1, g2, g3⟩ := HG.out
        have e3 : IntKind.i64.wrap (am : Int) = (am : Int) := i64_nat _ bam
        go_wp2_with fail
        refine (sym_any κ v0 B g n cap hn n _ d4 a am n hq.2 HS4.out hq.1 hlt4 (Nat.le_refl _)).mono ?_
        rintro _ w5 ⟨rfl, d5, hs5, hk5⟩
        have HS5 := hide hs5
        have HT5 : Hid (StB ltF κ n bb d d5) := hide (by rw [← HBB.out]; exact HT4.out.last1 HAB2.out.1 HN3.out HL.out (by rw [HAM.out]; exact hk5))
        clear hs5 hk5 HS4 HT4
        go_wp2
        clear e1 e3 g1 g2 g3
        go_roundw
        case rel => first | exact ⟨bb, d5, H2.out.1.2.1, by first | rfl | go_num, HS5, HT5⟩ | ((repeat apply Exists.intro); exact ⟨⟨bb, d5, H2.out.1.2.1, by first | rfl | go_num, HS5, HT5⟩, rfl⟩)
        case measure => have := H2.out; simp [intOf]; omega
       ·have hK : ¬ (am : Int) < (n : Int) := by omega
        have HT5 : Hid (StB ltF κ n bb d d4) := hide (by rw [← HBB.out]; exact HT4.out.last2 hab2.1 (by omega) HL.out)
        clear ham hab2 hbn3
        obtain ⟨g1, g2, g3⟩ := HG.out
        have e3 : IntKind.i64.wrap (am : Int) = (am : Int) := i64_nat _ bam
        go_wp2
        clear e1 e3 g1 g2 g3
        go_roundw
        case rel => first | exact ⟨bb, d4, H2.out.1.2.1, by first | rfl | go_num, HS4, HT5⟩ | ((repeat apply Exists.intro); exact ⟨⟨bb, d4, H2.out.1.2.1, by first | rfl | go_num, HS4, HT5⟩, rfl⟩)
        case measure => have := H2.out; simp [intOf]; omega
    ·have hJ : ¬ (bs : Int) < (n : Int) := by omega
     clear hbs
     have HFin := hide (show ∃ d', SR v0 B g n cap d' w3 ∧ StS ltF κ n d d' from ⟨d3, HS3.out, HT3.out.done (by omega)⟩)
     go_wp2
     go_end0
     exact ⟨rfl, HFin.out⟩
theorem sort_any (κ : Ed → Int) (v0 w : World) (B g n cap : Nat) (d : List Ed) (hS : SR v0 B g n cap d w) (hn : n ≤ 1000000) :
  Calls Try.prog 39 #[.slice (some ⟨g, 0, none⟩) n cap, .func (.func 40) #[] #[]] w (fun e w' => e = .returned (.tuple #[]) ∧ ∃ d', SR v0 B g n cap d' w' ∧ StS ltF κ n d d') := by
 go_enter Try.func39, Try.ntmps39
 go_wp2_with fail
 refine (stab_any κ v0 _ B g n cap d hS hn).mono ?_
 rintro _ w1 ⟨rfl, h⟩
 have H := hide h
 clear h
 go_wp2
 go_end0
 exact ⟨rfl, H.out⟩
end Go.Proofs.Ytihdpfjonkagaaa
namespace Go.Proofs.Ytihdpfjonkagaaa
open Go.RowKit
theorem Rd.at1 {w : World} {A : Option Addr} {xs : List Value} {i : Nat} {u : Value} (h : Rd w w.heap.size A xs) (hu : xs[i]? = some u) : ∃ b off, A = some ⟨b, off, none⟩ ∧ b < w.heap.size ∧ w.cell? ⟨b, off + i, none⟩ = some u := by
 obtain ⟨b, off, e, hb, hc⟩ := h.at_ (List.getElem?_eq_some_iff.1 hu).1
 exact ⟨b, off, e, hb, hc i u hu⟩
theorem ints_get {l : List Int} {i : Nat} {x : Int} (h : l[i]? = some x) : (l.map (Value.int .i64))[i]? = some (.int .i64 x) := by simp [h]
theorem equalI_any (w : World) (A B : Option Addr) (xs ys : List Int) (n m c d : Nat) (hx : xs.length = n) (hy : ys.length = m) (hn : n ≤ 9223372036854775807) (rx : Rd w w.heap.size A (List.map (Value.int .i64) xs)) (ry : Rd w w.heap.size B (List.map (Value.int .i64) ys)) :
  Calls Try.prog 52 #[.slice A n c, .slice B m d] w fun e w' => e = .returned (.bool (eqL xs ys)) ∧ Below w.heap.size w w' := by
 have HX := hide hx
 have HY := hide hy
 have RX := hide rx
 have RY := hide ry
 clear hx hy rx ry
 by_cases hnm : n = m
 ·obtain rfl := hnm
  go_enter Try.func52, Try.ntmps52
  go_wp2
  go_loopw [13] (fun vi wr => ∃ i : Nat, i ≤ n ∧ vi = .int .i64 i ∧ Hid (eqL xs ys = eqL (xs.drop i) (ys.drop i)) ∧ Hid (Kept w wr) ∧ Hid (Below w.heap.size w wr)) (fun vi _ => n - (intOf vi).toNat)
  case atStart => exact ⟨0, by omega, rfl, hide rfl, hide (Kept.refl w), hide (Below.refl _ _)⟩
  case round =>
   obtain ⟨i, hi, rfl, heq, hkr, hbr⟩ := hrel
   by_cases hlt : i < n
   ·have hi1 : i < xs.length := by rw [HX.out]; exact hlt
    have hi2 : i < ys.length := by rw [HY.out]; exact hlt
    have HS := hide (eqL_step xs ys i hi1 hi2)
    obtain ⟨b1, o1, rfl, l1, cx⟩ := RX.out.at1 (i := i) (ints_get (List.getElem?_eq_getElem hi1))
    obtain ⟨b2, o2, rfl, l2, cy⟩ := RY.out.at1 (i := i) (ints_get (List.getElem?_eq_getElem hi2))
    obtain ⟨x, hx⟩ : ∃ x, xs[i] = x := ⟨_, rfl⟩
    obtain ⟨y, hy⟩ : ∃ y, ys[i] = y := ⟨_, rfl⟩
    rw [hx] at cx HS
    rw [hy] at cy HS
    have hI0 : (0 : Int) ≤ (i : Int) := by omega
    have hI1 : (i : Int) < (n : Int) := by omega
    clear hx hy hi1 hi2
    by_cases hxy : x = y
    ·have HE : Hid (eqL xs ys = eqL (xs.drop (i + 1)) (ys.drop (i + 1))) := hide (by rw [heq.out, HS.out, hxy, decide_eq_true rfl, Bool.true_and])
     subst hxy
     skip
     all_goals
      go_wp2
      refine wp_region_held_drew (S := Kept w) (by kernel_rfl) (fun p hp => hkr.out p hp) (fun hS0 => ?_)
      refine tk 0 16 ?_ ?_ ?_; rotate_left; (focus (intro w h; go_simp; (try with_reducible rfl))); (try simp only [xd, xe, xf])
      refine tk 1 17 ?_ ?_ ?_; rotate_left; (focus (intro w h; go_simp; (try with_reducible rfl))); (try simp only [xd, xe, xf])
      refine tk 2 18 ?_ ?_ ?_; rotate_left; (focus (intro w h; go_simp; (try with_reducible rfl))); (try simp only [xd, xe, xf])
      refine tk 3 19 ?_ ?_ ?_; rotate_left; (focus (intro w h; go_simp; (try with_reducible rfl))); (try simp only [xd, xe, xf])
      refine tk 4 20 ?_ ?_ ?_; rotate_left; (focus (intro w h; go_simp; (try with_reducible rfl))); (try simp only [xd, xe, xf])
      refine tk 5 21 ?_ ?_ ?_; rotate_left; (focus (intro w h; go_simp; (try with_reducible rfl))); (try simp only [xd, xe, xf])
      refine tk 6 22 ?_ ?_ ?_; rotate_left; (focus (intro w h; go_simp; (try with_reducible rfl))); (try simp only [xd, xe, xf])
      refine tk 7 23 ?_ ?_ ?_; rotate_left; (focus (intro w h; go_simp; (try with_reducible rfl))); (try simp only [xd, xe, xf])
      refine tk 8 24 ?_ ?_ ?_; rotate_left; (focus (intro w h; go_simp; (try with_reducible rfl))); (try simp only [xd, xe, xf])
      refine wpAnyH_done (by kernel_rfl) ?_ _
      clear hS0
      go_wp2
      go_roundw
      case rel => exact ⟨i + 1, by omega, by go_num, HE, hide (fun p hp => hkr.out p hp), hide hbr.out.drew⟩
      case measure => simp [intOf]; omega
    ·have HE : Hid (eqL xs ys = false) := hide (by rw [heq.out, HS.out, decide_eq_false hxy, Bool.false_and])
     skip
     all_goals
      go_wp2
      refine wp_region_held_drew (S := Kept w) (by kernel_rfl) (fun p hp => hkr.out p hp) (fun hS0 => ?_)
      refine tk 0 16 ?_ ?_ ?_; rotate_left; (focus (intro w h; go_simp; (try with_reducible rfl))); (try simp only [xd, xe, xf])
      refine tk 1 17 ?_ ?_ ?_; rotate_left; (focus (intro w h; go_simp; (try with_reducible rfl))); (try simp only [xd, xe, xf])
      refine tk 2 18 ?_ ?_ ?_; rotate_left; (focus (intro w h; go_simp; (try with_reducible rfl))); (try simp only [xd, xe, xf])
      refine tk 3 19 ?_ ?_ ?_; rotate_left; (focus (intro w h; go_simp; (try with_reducible rfl))); (try simp only [xd, xe, xf])
      refine tk 4 20 ?_ ?_ ?_; rotate_left; (focus (intro w h; go_simp; (try with_reducible rfl))); (try simp only [xd, xe, xf])
      refine tk 5 21 ?_ ?_ ?_; rotate_left; (focus (intro w h; go_simp; (try with_reducible rfl))); (try simp only [xd, xe, xf])
      refine tk 6 22 ?_ ?_ ?_; rotate_left; (focus (intro w h; go_simp; (try with_reducible rfl))); (try simp only [xd, xe, xf])
      refine tk 7 23 ?_ ?_ ?_; rotate_left; (focus (intro w h; go_simp; (try with_reducible rfl))); (try simp only [xd, xe, xf])
      refine tk 8 24 ?_ ?_ ?_; rotate_left; (focus (intro w h; go_simp; (try with_reducible rfl))); (try simp only [xd, xe, xf])
      refine wpAnyH_done (by kernel_rfl) ?_ _
      clear hS0
      go_wp2
      go_ret
      exact ⟨ret_b (by rw [HE.out]), hbr.out.drew⟩
   ·obtain rfl : i = n := by omega
    have HE : Hid (eqL xs ys = true) := hide (by rw [heq.out, List.drop_of_length_le (by have := HX.out; omega), List.drop_of_length_le (by have := HY.out; omega)]; exact eqL_nil)
    go_wp2
    go_ret
    exact ⟨ret_b (by rw [HE.out]), hbr.out⟩
 ·have HE : Hid (eqL xs ys = false) := hide (eqL_len (by rw [HX.out, HY.out]; exact hnm))
  have hne : ((n : Int) == (m : Int)) = false := by simp; omega
  have hne2 : ((n : Int) != (m : Int)) = true := by simp; omega
  go_enter Try.func52, Try.ntmps52
  go_wp2
  go_ret
  exact ⟨ret_b (by rw [HE.out]), Below.refl _ _⟩
theorem equalE_any (w : World) (A B : Option Addr) (xs ys : List Ed) (n m c d : Nat) (hx : xs.length = n) (hy : ys.length = m) (hn : n ≤ 9223372036854775807) (rx : Eds w w.heap.size A xs) (ry : Eds w w.heap.size B ys) :
  Calls Try.prog 51 #[.slice A n c, .slice B m d] w fun e w' => e = .returned (.bool (eqL xs ys)) ∧ Below w.heap.size w w' := by
 have HX := hide hx
 have HY := hide hy
 have RX := hide rx
 have RY := hide ry
 clear hx hy rx ry
 by_cases hnm : n = m
 ·obtain rfl := hnm
  go_enter Try.func51, Try.ntmps51
  go_wp2
  go_loopw [13] (fun vi wr => ∃ i : Nat, i ≤ n ∧ vi = .int .i64 i ∧ Hid (eqL xs ys = eqL (xs.drop i) (ys.drop i)) ∧ Hid (Kept w wr) ∧ Hid (Below w.heap.size w wr)) (fun vi _ => n - (intOf vi).toNat)
  case atStart => exact ⟨0, by omega, rfl, hide rfl, hide (Kept.refl w), hide (Below.refl _ _)⟩
  case round =>
   obtain ⟨i, hi, rfl, heq, hkr, hbr⟩ := hrel
   by_cases hlt : i < n
   ·have hi1 : i < xs.length := by rw [HX.out]; exact hlt
    have hi2 : i < ys.length := by rw [HY.out]; exact hlt
    have HS := hide (eqL_step xs ys i hi1 hi2)
    obtain ⟨b1, o1, rfl, l1, cx0, cx1, cx2, _w1, _w2⟩ := Eds.get RX.out (List.getElem?_eq_getElem hi1)
    obtain ⟨b2, o2, rfl, l2, cy0, cy1, cy2, _w3, _w4⟩ := Eds.get RY.out (List.getElem?_eq_getElem hi2)
    obtain ⟨x, hx⟩ : ∃ x, xs[i] = x := ⟨_, rfl⟩
    obtain ⟨y, hy⟩ : ∃ y, ys[i] = y := ⟨_, rfl⟩
    rw [hx] at cx0 cx1 cx2 HS
    rw [hy] at cy0 cy1 cy2 HS
    obtain ⟨x1, x2, x3⟩ := x
    obtain ⟨y1, y2, y3⟩ := y
    dsimp only at cx0 cx1 cx2 cy0 cy1 cy2
    have hI0 : (0 : Int) ≤ (i : Int) := by omega
    have hI1 : (i : Int) < (n : Int) := by omega
    clear hx hy hi1 hi2 _w1 _w2 _w3 _w4
    by_cases hxy : ((x1, x2, x3) : Ed) = (y1, y2, y3)
    ·have HE : Hid (eqL xs ys = eqL (xs.drop (i + 1)) (ys.drop (i + 1))) := hide (by rw [heq.out, HS.out, decide_eq_true hxy, Bool.true_and])
     injection hxy with hxy1 hxy2
     injection hxy2 with hxy2 hxy3
     subst hxy1 hxy2 hxy3
     go_wp2
     refine wp_region_held_drew (S := Kept w) (by kernel_rfl) (fun p hp => hkr.out p hp) (fun hS0 => ?_)
     refine tk 0 16 ?_ ?_ ?_; rotate_left; (focus (intro w h; go_simp; (try with_reducible rfl))); (try simp only [xd, xe, xf])
     refine tk 1 17 ?_ ?_ ?_; rotate_left; (focus (intro w h; go_simp; (try with_reducible rfl))); (try simp only [xd, xe, xf])
     refine tk 2 18 ?_ ?_ ?_; rotate_left; (focus (intro w h; go_simp; (try with_reducible rfl))); (try simp only [xd, xe, xf])
     refine tk 3 19 ?_ ?_ ?_; rotate_left; (focus (intro w h; go_simp; (try with_reducible rfl))); (try simp only [xd, xe, xf])
     refine tk 4 20 ?_ ?_ ?_; rotate_left; (focus (intro w h; go_simp; (try with_reducible rfl))); (try simp only [xd, xe, xf])
     refine tk 5 21 ?_ ?_ ?_; rotate_left; (focus (intro w h; go_simp; (try with_reducible rfl))); (try simp only [xd, xe, xf])
     refine tk 6 22 ?_ ?_ ?_; rotate_left; (focus (intro w h; go_simp; (try with_reducible rfl))); (try simp only [xd, xe, xf])
     refine tk 7 23 ?_ ?_ ?_; rotate_left; (focus (intro w h; go_simp; (try with_reducible rfl))); (try simp only [xd, xe, xf])
     refine tk 8 24 ?_ ?_ ?_; rotate_left; (focus (intro w h; go_simp; (try with_reducible rfl))); (try simp only [xd, xe, xf])
     refine wpAnyH_done (by kernel_rfl) ?_ _
     go_wp2
     go_roundw
     case rel => exact ⟨i + 1, by omega, by go_num, HE, hide (fun p hp => hkr.out p hp), hide hbr.out.drew⟩
     case measure => simp [intOf]; omega
    ·have HE : Hid (eqL xs ys = false) := hide (by rw [heq.out, HS.out, decide_eq_false hxy, Bool.false_and])
     have HXY : Hid (¬ (x1 = y1 ∧ x2 = y2 ∧ x3 = y3)) := hide (fun h => hxy (by rw [h.1, h.2.1, h.2.2]))
     clear hxy
     go_wp2
     refine wp_region_held_drew (S := Kept w) (by kernel_rfl) (fun p hp => hkr.out p hp) (fun hS0 => ?_)
     refine tk 0 16 ?_ ?_ ?_; rotate_left; (focus (intro w h; go_simp; (try with_reducible rfl))); (try simp only [xd, xe, xf])
     refine tk 1 17 ?_ ?_ ?_; rotate_left; (focus (intro w h; go_simp; (try with_reducible rfl))); (try simp only [xd, xe, xf])
     refine tk 2 18 ?_ ?_ ?_; rotate_left; (focus (intro w h; go_simp; (try with_reducible rfl))); (try simp only [xd, xe, xf])
     refine tk 3 19 ?_ ?_ ?_; rotate_left; (focus (intro w h; go_simp; (try with_reducible rfl))); (try simp only [xd, xe, xf])
     refine tk 4 20 ?_ ?_ ?_; rotate_left; (focus (intro w h; go_simp; (try with_reducible rfl))); (try simp only [xd, xe, xf])
     refine tk 5 21 ?_ ?_ ?_; rotate_left; (focus (intro w h; go_simp; (try with_reducible rfl))); (try simp only [xd, xe, xf])
     refine tk 6 22 ?_ ?_ ?_; rotate_left; (focus (intro w h; go_simp; (try with_reducible rfl))); (try simp only [xd, xe, xf])
     refine tk 7 23 ?_ ?_ ?_; rotate_left; (focus (intro w h; go_simp; (try with_reducible rfl))); (try simp only [xd, xe, xf])
     refine tk 8 24 ?_ ?_ ?_; rotate_left; (focus (intro w hSw; go_simp; show _ = Result.ok (Next.value (Value.bool true)) w; (by_cases q1 : x1 = y1 <;> by_cases q2 : x2 = y2 <;> by_cases q3 : x3 = y3 <;> first | (simp [q1, q2, q3]; done) | (exact absurd (And.intro q1 (And.intro q2 q3)) HXY.out)); done)); (try simp only [xd, xe, xf])
     refine wpAnyH_done (by kernel_rfl) ?_ _
     go_wp2
     go_ret
     exact ⟨ret_b (by rw [HE.out]), hbr.out.drew⟩
   ·obtain rfl : i = n := by omega
    have HE : Hid (eqL xs ys = true) := hide (by rw [heq.out, List.drop_of_length_le (by have := HX.out; omega), List.drop_of_length_le (by have := HY.out; omega)]; exact eqL_nil)
    go_wp2
    go_ret
    exact ⟨ret_b (by rw [HE.out]), hbr.out⟩
 ·have hne : ((n : Int) == (m : Int)) = false := by simp; omega
  have hne2 : ((n : Int) != (m : Int)) = true := by simp; omega
  have HE : Hid (eqL xs ys = false) := hide (eqL_len (by rw [HX.out, HY.out]; exact hnm))
  go_enter Try.func51, Try.ntmps51
  go_wp2
  go_ret
  exact ⟨ret_b (by rw [HE.out]), Below.refl _ _⟩
theorem same1_any (w : World) (A B : Option Addr) (xs ys : List Ed) (n m c d : Nat) (hx : xs.length = n) (hy : ys.length = m) (hn : n ≤ 9223372036854775807) (rx : Eds w w.heap.size A xs) (ry : Eds w w.heap.size B ys) :
  Calls Try.prog 50 #[.slice A n c, .slice B m d] w fun e w' => e = .returned (.bool (eqL xs ys)) ∧ Below w.heap.size w w' := by
 go_enter Try.func50, Try.ntmps50
 go_wp2_with fail
 refine (equalE_any w A B xs ys n m c d hx hy hn rx ry).mono ?_
 rintro e z ⟨rfl, hz⟩
 have HZ := hide hz
 clear hz hx hy rx ry
 go_wp2
 go_ret
 exact ⟨rfl, HZ.out⟩
theorem equalR_any (w : World) (A B : Option Addr) (xs ys : List (List Ed)) (n m c d : Nat) (hx : xs.length = n) (hy : ys.length = m) (hn : n ≤ 9223372036854775807) (rx : ERows w w.heap.size A xs) (ry : ERows w w.heap.size B ys) :
  Calls Try.prog 53 #[.slice A n c, .slice B m d, .func (.func 50) #[] #[]] w fun e w' => e = .returned (.bool (eqL xs ys)) ∧ Below w.heap.size w w' := by
 have HX := hide hx
 have HY := hide hy
 have RX := hide rx
 have RY := hide ry
 clear hx hy rx ry
 by_cases hnm : n = m
 ·obtain rfl := hnm
  go_enter Try.func53, Try.ntmps53
  go_wp2
  go_loopw [17] (fun vi wr => ∃ i : Nat, i ≤ n ∧ vi = .int .i64 i ∧ Hid (eqL xs ys = eqL (xs.drop i) (ys.drop i)) ∧ Hid (Below w.heap.size w wr)) (fun vi _ => n - (intOf vi).toNat)
  case atStart => exact ⟨0, by omega, rfl, hide rfl, hide (Below.refl _ _)⟩
  case round =>
   obtain ⟨i, hi, rfl, heq, hbr⟩ := hrel
   by_cases hlt : i < n
   ·have hi1 : i < xs.length := by rw [HX.out]; exact hlt
    have hi2 : i < ys.length := by rw [HY.out]; exact hlt
    have HS := hide (eqL_step xs ys i hi1 hi2)
    obtain ⟨b1, o1, A1, k1, rfl, l1, cx, c1, c2, ex⟩ := RX.out.get (List.getElem?_eq_getElem hi1)
    obtain ⟨b2, o2, A2, k2, rfl, l2, cy, c3, c4, ey⟩ := RY.out.get (List.getElem?_eq_getElem hi2)
    obtain ⟨x, hx⟩ : ∃ x, xs[i] = x := ⟨_, rfl⟩
    obtain ⟨y, hy⟩ : ∃ y, ys[i] = y := ⟨_, rfl⟩
    rw [hx] at cx HS c1 ex
    rw [hy] at cy HS c3 ey
    obtain ⟨n1, hl1⟩ : ∃ q, x.length = q := ⟨_, rfl⟩
    obtain ⟨n2, hl2⟩ : ∃ q, y.length = q := ⟨_, rfl⟩
    rw [hl1] at cx c1
    rw [hl2] at cy c3
    have hn1 : n1 ≤ 9223372036854775807 := by omega
    have HL1 := hide hl1
    have HL2 := hide hl2
    have EX := hide ex
    have EY := hide ey
    have dx : wr.cell? ⟨b1, o1 + i, none⟩ = some (.slice A1 n1 k1) := (hbr.out.cell (p := ⟨b1, o1 + i, none⟩) l1).trans cx
    have dy : wr.cell? ⟨b2, o2 + i, none⟩ = some (.slice A2 n2 k2) := (hbr.out.cell (p := ⟨b2, o2 + i, none⟩) l2).trans cy
    have hI0 : (0 : Int) ≤ (i : Int) := by omega
    have hI1 : (i : Int) < (n : Int) := by omega
    clear hx hy hi1 hi2 cx cy ex ey hl1 hl2 c1 c2 c3 c4
    rcases hq : eqL x y with _ | _
    ·have HQ := hide hq
     have HE : Hid (eqL xs ys = false) := hide (by rw [heq.out, HS.out, show decide (x = y) = false from decide_eq_false fun e => by (rw [e, eqL_self] at hq; cases hq), Bool.false_and])
     clear hq
     go_wp2_with fail
     refine (same1_any _ A1 A2 x y n1 n2 k1 k2 HL1.out HL2.out hn1 (EX.out.below hbr.out (Nat.le_refl _) |> fun h => Els.more h hbr.out.size) (EY.out.below hbr.out (Nat.le_refl _) |> fun h => Els.more h hbr.out.size)).mono ?_
     rintro e z ⟨rfl, hz⟩
     rw [HQ.out]
     have hB := hide (hbr.out.trans (hz.mono hbr.out.size))
     clear hz
     go_wp2
     go_ret
     exact ⟨ret_b (by rw [HE.out]), hB.out⟩
    ·have HQ := hide hq
     have HE : Hid (eqL xs ys = eqL (xs.drop (i + 1)) (ys.drop (i + 1))) := hide (by rw [heq.out, HS.out, show decide (x = y) = true from decide_eq_true (eqL_true.1 hq), Bool.true_and])
     clear hq
     go_wp2_with fail
     refine (same1_any _ A1 A2 x y n1 n2 k1 k2 HL1.out HL2.out hn1 (EX.out.below hbr.out (Nat.le_refl _) |> fun h => Els.more h hbr.out.size) (EY.out.below hbr.out (Nat.le_refl _) |> fun h => Els.more h hbr.out.size)).mono ?_
     rintro e z ⟨rfl, hz⟩
     rw [HQ.out]
     have hB := hide (hbr.out.trans (hz.mono hbr.out.size))
     clear hz
     go_wp2
     go_roundw
     case rel => exact ⟨i + 1, by omega, by go_num, HE, hB⟩
     case measure => simp [intOf]; omega
   ·obtain rfl : i = n := by omega
    have HE : Hid (eqL xs ys = true) := hide (by rw [heq.out, List.drop_of_length_le (by have := HX.out; omega), List.drop_of_length_le (by have := HY.out; omega)]; exact eqL_nil)
    go_wp2
    go_ret
    exact ⟨ret_b (by rw [HE.out]), hbr.out⟩
 ·have HE : Hid (eqL xs ys = false) := hide (eqL_len (by rw [HX.out, HY.out]; exact hnm))
  have hne : ((n : Int) == (m : Int)) = false := by simp; omega
  have hne2 : ((n : Int) != (m : Int)) = true := by simp; omega
  go_enter Try.func53, Try.ntmps53
  go_wp2
  go_ret
  exact ⟨ret_b (by rw [HE.out]), Below.refl _ _⟩
theorem qsame_any (w : World) (W1 K1 V1 : Int) (O1 U1 B1 : Option Addr) (own1 : List Int) (out1 back1 : List (List Ed)) (n1 c1 m1 d1 k1 f1 : Nat) (hn1 : own1.length = n1) (hm1 : out1.length = m1) (hk1 : back1.length = k1) (bn1 : n1 ≤ 9223372036854775807) (bm1 : m1 ≤ 9223372036854775807) (bk1 : k1 ≤ 9223372036854775807) (ro1 : Rd w w.heap.size O1 (own1.map (Value.int .i64))) (ru1 : ERows w w.heap.size U1 out1) (rb1 : ERows w w.heap.size B1 back1) (W2 K2 V2 : Int) (O2 U2 B2 : Option Addr) (own2 : List Int) (out2 back2 : List (List Ed)) (n2 c2 m2 d2 k2 f2 : Nat) (hn2 : own2.length = n2) (hm2 : out2.length = m2) (hk2 : back2.length = k2) (bn2 : n2 ≤ 9223372036854775807) (bm2 : m2 ≤ 9223372036854775807) (bk2 : k2 ≤ 9223372036854775807) (ro2 : Rd w w.heap.size O2 (own2.map (Value.int .i64))) (ru2 : ERows w w.heap.size U2 out2) (rb2 : ERows w w.heap.size B2 back2) :
  Calls Try.prog 41 #[.agg #[.int .i64 W1, .int .i64 K1, .int .i64 V1, .slice O1 n1 c1, .slice U1 m1 d1, .slice B1 k1 f1], .agg #[.int .i64 W2, .int .i64 K2, .int .i64 V2, .slice O2 n2 c2, .slice U2 m2 d2, .slice B2 k2 f2]] w fun e w' => e = .returned (.bool (decide (W1 = W2) && decide (K1 = K2) && decide (V1 = V2) && eqL own1 own2 && eqL out1 out2 && eqL back1 back2)) ∧ Below w.heap.size w w' := by
 obtain ⟨v, hv⟩ : ∃ v, (w.alloc (.cells #[.int .i64 W1, .int .i64 K1, .int .i64 V1, .slice O1 n1 c1, .slice U1 m1 d1, .slice B1 k1 f1] 34)).alloc (.cells #[.int .i64 W2, .int .i64 K2, .int .i64 V2, .slice O2 n2 c2, .slice U2 m2 d2, .slice B2 k2 f2] 34) = v := ⟨_, rfl⟩
 have hz : v.heap.size = w.heap.size + 2 := by rw [← hv]; simp
 have hb : Below w.heap.size w v := by rw [← hv]; exact ((Below.refl _ _).alloc (Nat.le_refl _) _).alloc (by simp) _
 have q1 : v.heap[w.heap.size]? = some (.cells #[.int .i64 W1, .int .i64 K1, .int .i64 V1, .slice O1 n1 c1, .slice U1 m1 d1, .slice B1 k1 f1] 34) := by rw [← hv]; exact (Below.heap_alloc _ _ _ (by simp)).trans (heap_alloc_last w _)
 have q2 : v.heap[w.heap.size + 1]? = some (.cells #[.int .i64 W2, .int .i64 K2, .int .i64 V2, .slice O2 n2 c2, .slice U2 m2 d2, .slice B2 k2 f2] 34) := by
  rw [← hv]
  have := heap_alloc_last (w.alloc (.cells #[.int .i64 W1, .int .i64 K1, .int .i64 V1, .slice O1 n1 c1, .slice U1 m1 d1, .slice B1 k1 f1] 34)) (.cells #[.int .i64 W2, .int .i64 K2, .int .i64 V2, .slice O2 n2 c2, .slice U2 m2 d2, .slice B2 k2 f2] 34)
  rw [World.size_alloc] at this
  exact this
 have Q1 := hide q1
 have Q2 := hide q2
 have HB := hide hb
 have HV := hide hv
 have HVB := hide (show Below w.heap.size w ((w.alloc (.cells #[.int .i64 W1, .int .i64 K1, .int .i64 V1, .slice O1 n1 c1, .slice U1 m1 d1, .slice B1 k1 f1] 34)).alloc (.cells #[.int .i64 W2, .int .i64 K2, .int .i64 V2, .slice O2 n2 c2, .slice U2 m2 d2, .slice B2 k2 f2] 34)) by rw [hv]; exact hb)
 have H := hide (And.intro (And.intro hn1 (And.intro hm1 hk1)) (And.intro hn2 (And.intro hm2 hk2)))
 have RO1 := hide (ro1.below hb); have RU1 := hide (ru1.keep fun p hp => hb.cell hp); have RB1 := hide (rb1.keep fun p hp => hb.cell hp)
 have RO2 := hide (ro2.below hb); have RU2 := hide (ru2.keep fun p hp => hb.cell hp); have RB2 := hide (rb2.keep fun p hp => hb.cell hp)
 have hlv : w.heap.size ≤ v.heap.size := by omega
 have h1l : w.heap.size < v.heap.size := by omega
 have h2l : w.heap.size + 1 < v.heap.size := by omega
 have cl (wr : World) (hk : Below v.heap.size v wr) (j : Nat) : wr.cell? ⟨w.heap.size, j, none⟩ = v.cell? ⟨w.heap.size, j, none⟩ ∧ wr.cell? ⟨w.heap.size + 1, j, none⟩ = v.cell? ⟨w.heap.size + 1, j, none⟩ := ⟨hk.cell (p := ⟨w.heap.size, j, none⟩) h1l, hk.cell (p := ⟨w.heap.size + 1, j, none⟩) h2l⟩
 have x0 : v.cell? ⟨w.heap.size, 0, none⟩ = some (.int .i64 W1) := cell_of_row _ _ 0 _ _ _ q1
 have y0 : v.cell? ⟨w.heap.size + 1, 0, none⟩ = some (.int .i64 W2) := cell_of_row _ _ 0 _ _ _ q2
 have X0 := hide x0; have Y0 := hide y0
 have x1 : v.cell? ⟨w.heap.size, 1, none⟩ = some (.int .i64 K1) := cell_of_row _ _ 1 _ _ _ q1
 have y1 : v.cell? ⟨w.heap.size + 1, 1, none⟩ = some (.int .i64 K2) := cell_of_row _ _ 1 _ _ _ q2
 have X1 := hide x1; have Y1 := hide y1
 have x2 : v.cell? ⟨w.heap.size, 2, none⟩ = some (.int .i64 V1) := cell_of_row _ _ 2 _ _ _ q1
 have y2 : v.cell? ⟨w.heap.size + 1, 2, none⟩ = some (.int .i64 V2) := cell_of_row _ _ 2 _ _ _ q2
 have X2 := hide x2; have Y2 := hide y2
 have x3 : v.cell? ⟨w.heap.size, 3, none⟩ = some (.slice O1 n1 c1) := cell_of_row _ _ 3 _ _ _ q1
 have y3 : v.cell? ⟨w.heap.size + 1, 3, none⟩ = some (.slice O2 n2 c2) := cell_of_row _ _ 3 _ _ _ q2
 have X3 := hide x3; have Y3 := hide y3
 have x4 : v.cell? ⟨w.heap.size, 4, none⟩ = some (.slice U1 m1 d1) := cell_of_row _ _ 4 _ _ _ q1
 have y4 : v.cell? ⟨w.heap.size + 1, 4, none⟩ = some (.slice U2 m2 d2) := cell_of_row _ _ 4 _ _ _ q2
 have X4 := hide x4; have Y4 := hide y4
 have x5 : v.cell? ⟨w.heap.size, 5, none⟩ = some (.slice B1 k1 f1) := cell_of_row _ _ 5 _ _ _ q1
 have y5 : v.cell? ⟨w.heap.size + 1, 5, none⟩ = some (.slice B2 k2 f2) := cell_of_row _ _ 5 _ _ _ q2
 have X5 := hide x5; have Y5 := hide y5
 have CL := hide cl
 clear cl ro1 ru1 rb1 ro2 ru2 rb2 hn1 hm1 hk1 hn2 hm2 hk2 q1 q2 hb hv hz x3 x4 x5 y3 y4 y5
 by_cases e1 : W1 = W2
 ·subst e1
  by_cases e2 : K1 = K2
  ·subst e2
   by_cases e3 : V1 = V2
   ·subst e3
    obtain ⟨r1, hr1⟩ : ∃ r, eqL own1 own2 = r := ⟨_, rfl⟩
    obtain ⟨r2, hr2⟩ : ∃ r, eqL out1 out2 = r := ⟨_, rfl⟩
    obtain ⟨r3, hr3⟩ : ∃ r, eqL back1 back2 = r := ⟨_, rfl⟩
    have x3 := X3.out; have y3 := Y3.out
    go_enter Try.func41, Try.ntmps41
    go_wp2_with fail
    rw [HV.out]
    refine (equalI_any _ O1 O2 own1 own2 n1 n2 c1 c2 H.out.1.1 H.out.2.1 bn1 (RO1.out.more hlv) (RO2.out.more hlv)).mono ?_
    rintro e z1 ⟨rfl, b1⟩
    rw [hr1]
    have G1 := hide (HB.out.trans (b1.mono hlv))
    have K1_ := hide b1
    have x4 := ((CL.out z1 b1 4).1).trans X4.out; have y4 := ((CL.out z1 b1 4).2).trans Y4.out
    have hz1 : v.heap.size ≤ z1.heap.size := b1.size
    clear b1 x0 x1 x2 x3 y0 y1 y2 y3
    rcases r1 with _ | _
    ·have HF := hide hr1
     clear hr1
     go_wp2
     go_ret
     exact ⟨ret_b (by rw [HF.out]; simp), G1.out⟩
    have HR1 := hide hr1
    clear hr1
    go_wp2_with fail
    refine (equalR_any _ U1 U2 out1 out2 m1 m2 d1 d2 H.out.1.2.1 H.out.2.2.1 bm1 ((RU1.out.more hlv).next K1_.out) ((RU2.out.more hlv).next K1_.out)).mono ?_
    rintro e z2 ⟨rfl, b2⟩
    rw [hr2]
    have G2 := hide (G1.out.trans (b2.mono (by omega)))
    have K2_ := hide (K1_.out.trans (b2.mono hz1))
    have x5 := ((CL.out z2 K2_.out 5).1).trans X5.out; have y5 := ((CL.out z2 K2_.out 5).2).trans Y5.out
    clear b2 x4 y4
    rcases r2 with _ | _
    ·have HF := hide hr2
     clear hr2
     go_wp2
     go_ret
     exact ⟨ret_b (by rw [HF.out]; simp), G2.out⟩
    have HR2 := hide hr2
    clear hr2
    go_wp2_with fail
    refine (equalR_any _ B1 B2 back1 back2 k1 k2 f1 f2 H.out.1.2.2 H.out.2.2.2 bk1 ((RB1.out.more hlv).next K2_.out) ((RB2.out.more hlv).next K2_.out)).mono ?_
    rintro e z3 ⟨rfl, b3⟩
    rw [hr3]
    have G3 := hide (G2.out.trans (b3.mono (by have := K2_.out.size; omega)))
    have HR3 := hide hr3
    clear b3 x5 y5 hr3
    go_wp2
    go_ret
    exact ⟨ret_b (by rw [HR1.out, HR2.out, HR3.out]; simp), G3.out⟩
   ·have e3' : (V1 == V2) = false := by simp only [beq_eq_false_iff_ne, ne_eq]; exact e3
    have HF := hide (show decide (V1 = V2) = false from decide_eq_false e3)
    clear e3
    go_enter Try.func41, Try.ntmps41
    go_wp2
    go_ret
    exact ⟨ret_b (by rw [HF.out]; simp), HVB.out⟩
  ·have e2' : (K1 == K2) = false := by simp only [beq_eq_false_iff_ne, ne_eq]; exact e2
   have HF := hide (show decide (K1 = K2) = false from decide_eq_false e2)
   clear e2
   go_enter Try.func41, Try.ntmps41
   go_wp2
   go_ret
   exact ⟨ret_b (by rw [HF.out]; simp), HVB.out⟩
 ·have e1' : (W1 == W2) = false := by simp only [beq_eq_false_iff_ne, ne_eq]; exact e1
  have HF := hide (show decide (W1 = W2) = false from decide_eq_false e1)
  clear e1
  go_enter Try.func41, Try.ntmps41
  go_wp2
  go_ret
  exact ⟨ret_b (by rw [HF.out]; simp), HVB.out⟩
end Go.Proofs.Ytihdpfjonkagaaa
