/- Lemmas: Esr, Esw, Esn, Esm. -/
import Derived.Deep.DeepCutAuto
import Derived.Lib.Hide
import Derived.WalkSpells
import Derived.WalkMore
import Derived.IntWalk
import Derived.Test.YtihdpfjonkagaaaPkWw4
import Derived.Test.YtihdpfjonkagaaaPkWw9
import Derived.Test.YtihdpfjonkagaaaPkWw15
set_option linter.unusedVariables false
set_option linter.unusedSimpArgs false
set_option maxRecDepth 100000
set_option maxHeartbeats 16000000
namespace Go.Proofs.Ytihdpfjonkagaaa
open Go.RowKit
def cmpI (x y : Ed) : Int := wrap64 (x.1 - y.1)
def ltF (x y : Ed) : Bool := decide (cmpI x y < 0)
def SR (v0 : World) (B g n cap : Nat) (d : List Ed) (w : World) : Prop := d.length = n ∧ w.ownsRow B 44 3 (.slice (some ⟨g, 0, none⟩) n cap) n (edFlat d) ∧ KB [g] v0 w ∧ Below g v0 w
section
variable {v0 w w' : World} {B g n cap : Nat} {d : List Ed}
theorem SR.glt (h : SR v0 B g n cap d w) : g < w.heap.size := (h.2.1.lt g rfl).2
theorem SR.below (h : SR v0 B g n cap d w) (hb : Below w.heap.size w w') : SR v0 B g n cap d w' := ⟨h.1, own_below h.2.1 hb (fun q hq => (h.2.1.lt q hq).2), h.2.2.1.below hb h.2.2.1.1, h.2.2.2.trans (hb.mono (Nat.le_of_lt h.glt))⟩
theorem SR.drew (h : SR v0 B g n cap d w) : SR v0 B g n cap d w.drew := ⟨h.1, h.2.1.drew, h.2.2.1.drew, h.2.2.2.drew⟩
theorem SR.frozen (h : SR v0 B g n cap d w) (j : Nat) : w.frozen? ⟨g, j, none⟩ = false := h.2.1.frozenAt j
theorem SR.get (h : SR v0 B g n cap d w) {i : Nat} {m : Ed} (hm : d[i]? = some m) : w.cell? ⟨g, i * 3, none⟩ = some (.int .i64 m.1) ∧ w.cell? ⟨g, i * 3 + 1, none⟩ = some (.int .i64 m.2.1) ∧ w.cell? ⟨g, i * 3 + 2, none⟩ = some (.int .i64 m.2.2) := by
 have hi := lt_of_get hm
 have hl := h.1
 have hn : i * 3 + 3 ≤ n * 3 := by omega
 exact ⟨(h.2.1.cellAt (i * 3) (by omega)).trans (edFlat_get hm 0 _ rfl), (h.2.1.cellAt (i * 3 + 1) (by omega)).trans (edFlat_get hm 1 _ rfl), (h.2.1.cellAt (i * 3 + 2) (by omega)).trans (edFlat_get hm 2 _ rfl)⟩
theorem flat_set : ∀ {d : List Ed} {i : Nat} (m : Ed), i < d.length → edFlat (d.set i m) = (((edFlat d).set (i * 3) (.int .i64 m.1)).set (i * 3 + 1) (.int .i64 m.2.1)).set (i * 3 + 2) (.int .i64 m.2.2) := by
 intro d
 induction d with
 | nil => intro i m h; simp at h
 | cons x d ih =>
  intro i m h
  cases i with
  | zero => simp [edFlat]
  | succ i =>
   have h2 := ih (i := i) m (by simpa using h)
   unfold edFlat at h2 ⊢
   rw [List.set_cons_succ, List.flatMap_cons, h2, List.flatMap_cons]
   simp only [List.cons_append, List.nil_append, show (i + 1) * 3 = i * 3 + 3 by omega, Nat.add_right_comm, List.set_cons_succ]
theorem SR.set (h : SR v0 B g n cap d w) {i : Nat} (hi : i < n) (m : Ed) : SR v0 B g n cap (d.set i m) (((w.setCell ⟨g, i * 3, none⟩ (.int .i64 m.1)).setCell ⟨g, i * 3 + 1, none⟩ (.int .i64 m.2.1)).setCell ⟨g, i * 3 + 2, none⟩ (.int .i64 m.2.2)) := by
 refine ⟨by rw [List.length_set]; exact h.1, ?_, ?_, ?_⟩
 ·rw [flat_set m (by rw [h.1]; exact hi)]
  exact (((h.2.1.stored (i * 3) (.int .i64 m.1)).1.stored (i * 3 + 1) (.int .i64 m.2.1)).1.stored (i * 3 + 2) (.int .i64 m.2.2)).1
 ·exact (((h.2.2.1.setCell (p := ⟨g, i * 3, none⟩) (.inr (by simp)) _).setCell (p := ⟨g, i * 3 + 1, none⟩) (.inr (by simp)) _).setCell (p := ⟨g, i * 3 + 2, none⟩) (.inr (by simp)) _)
 ·exact (((h.2.2.2.setCell (p := ⟨g, i * 3, none⟩) (Nat.le_refl _) _).setCell (p := ⟨g, i * 3 + 1, none⟩) (Nat.le_refl _) _).setCell (p := ⟨g, i * 3 + 2, none⟩) (Nat.le_refl _) _)
end
theorem i64_nat (x : Nat) (h : x ≤ 9223372036854775807) : IntKind.i64.wrap (x : Int) = (x : Int) := IntWalk.i64_in _ (by omega)
theorem clo_any (w : World) (x y : Ed) : Calls Try.prog 40 #[.agg #[.int .i64 x.1, .int .i64 x.2.1, .int .i64 x.2.2], .agg #[.int .i64 y.1, .int .i64 y.2.1, .int .i64 y.2.2]] w fun e w' => e = .returned (.int .i64 (cmpI x y)) ∧ Below w.heap.size w w' := join1_any _ x y
end Go.Proofs.Ytihdpfjonkagaaa
namespace Go.Proofs.Ytihdpfjonkagaaa
open Go.RowKit
theorem swr_any (v0 w : World) (B g n cap : Nat) (d : List Ed) (a b q : Nat) (hS : SR v0 B g n cap d w) (hab : a + q ≤ b) (hbn : b + q ≤ n) (hn : n ≤ 1000000) :
  Calls Try.prog 61 #[.slice (some ⟨g, 0, none⟩) n cap, .int .i64 (a : Int), .int .i64 (b : Int), .int .i64 (q : Int), .func (.func 40) #[] #[]] w (fun e w' => e = .returned (.tuple #[]) ∧ ∃ d', SR v0 B g n cap d' w' ∧ Swp a b q d d') := by
 have HS := hide hS
 have HL := hide hS.1
 clear hS
 go_enter Try.func61, Try.ntmps61
 go_wp2
 go_loopw [10] (fun v10 wr => ∃ (i : Nat) (d1 : List Ed), i ≤ q ∧ v10 = .int .i64 (i : Int) ∧ Hid (SR v0 B g n cap d1 wr) ∧ Hid (Swp a b i d d1)) (fun v10 _ => q - (intOf v10).toNat)
 case atStart => exact ⟨0, d, by omega, rfl, HS, hide (Swp.zero a b d)⟩
 case round =>
  obtain ⟨i, d1, hi, rfl, HS1, HW⟩ := hrel
  by_cases hlt : i < q
  ·have hI : (i : Int) < (q : Int) := by omega
   obtain ⟨p, hp⟩ : ∃ p, a + i = p := ⟨_, rfl⟩
   obtain ⟨r, hr⟩ : ∃ r, b + i = r := ⟨_, rfl⟩
   have hlen := HS1.out.1
   have hpn : p < n := by omega
   have hrn : r < n := by omega
   have hp1 : (p : Int) < (n : Int) := by omega
   have hr1 : (r : Int) < (n : Int) := by omega
   obtain ⟨x, hx⟩ := get_some (d := d1) (i := p) (by omega)
   obtain ⟨y, hy⟩ := get_some (d := d1) (i := r) (by omega)
   obtain ⟨cx0, cx1, cx2⟩ := HS1.out.get hx
   have cxf0 := HS1.out.frozen (p * 3)
   have cxf1 := HS1.out.frozen (p * 3 + 1)
   have cxf2 := HS1.out.frozen (p * 3 + 2)
   obtain ⟨cy0, cy1, cy2⟩ := HS1.out.get hy
   have cyf0 := HS1.out.frozen (r * 3)
   have cyf1 := HS1.out.frozen (r * 3 + 1)
   have cyf2 := HS1.out.frozen (r * 3 + 2)
   have lg := HS1.out.glt
   have HX := hide hx
   have HY := hide hy
   have HP := hide hp
   have HR := hide hr
   have hl2 := hlen
   have e1 : (a : Int) + (i : Int) = (p : Int) := by omega
   have e2 : (b : Int) + (i : Int) = (r : Int) := by omega
   have e3 : IntKind.i64.wrap (p : Int) = (p : Int) := i64_nat p (by omega)
   have e4 : IntKind.i64.wrap (r : Int) = (r : Int) := i64_nat r (by omega)
   clear hx hy hp hr hlen
   go_upto_region 3 with fail
   refine wpL_region (S := Kept wr) [21, 23] (by kernel_rfl) (Kept.drew wr) (fun hS0 => ?_)
   refine tl 0 16 ?_ ?_ ?_; rotate_left; (focus (intro w h; go_simp; (try with_reducible rfl))); (try simp only [xd, xe, xf])
   refine tl 1 17 ?_ ?_ ?_; rotate_left; (focus (intro w h; go_simp; (try with_reducible rfl))); (try simp only [xd, xe, xf])
   refine tl 2 18 ?_ ?_ ?_; rotate_left; (focus (intro w h; go_simp; (try with_reducible rfl))); (try simp only [xd, xe, xf])
   refine tl 3 19 ?_ ?_ ?_; rotate_left; (focus (intro w h; go_simp; (try with_reducible rfl))); (try simp only [xd, xe, xf])
   refine tw 4 20 ?_ ?_ ?_; rotate_left; (focus (intro w; go_simp; (try with_reducible rfl); done)); (try simp only [xd, xe, xf])
   refine tw 5 21 ?_ ?_ ?_; rotate_left; (focus (intro w; go_simp; (try with_reducible rfl); done)); (try simp only [xd, xe, xf])
   refine tw 6 22 ?_ ?_ ?_; rotate_left; (focus (intro w; go_simp; (try with_reducible rfl); done)); (try simp only [xd, xe, xf])
   refine tw 7 23 ?_ ?_ ?_; rotate_left; (focus (intro w; go_simp; (try with_reducible rfl); done)); (try simp only [xd, xe, xf])
   refine tl 8 24 ?_ ?_ ?_; rotate_left; (focus (intro w h; go_simp; (try with_reducible rfl))); (try simp only [xd, xe, xf])
   refine tl 9 25 ?_ ?_ ?_; rotate_left; (focus (intro w h; go_simp; (try with_reducible rfl))); (try simp only [xd, xe, xf])
   refine tl 10 26 ?_ ?_ ?_; rotate_left; (focus (intro w h; go_simp; (try with_reducible rfl))); (try simp only [xd, xe, xf])
   refine tl 11 27 ?_ ?_ ?_; rotate_left; (focus (intro w h; go_simp; (try with_reducible rfl))); (try simp only [xd, xe, xf])
   refine tl 12 28 ?_ ?_ ?_; rotate_left; (focus (intro w h; go_simp; (try with_reducible rfl))); (try simp only [xd, xe, xf])
   refine tl 13 29 ?_ ?_ ?_; rotate_left; (focus (intro w h; go_simp; (try with_reducible rfl))); (try simp only [xd, xe, xf])
   refine tw 14 30 ?_ ?_ ?_; rotate_left; (focus (intro w; go_simp; (try with_reducible rfl); done)); (try simp only [xd, xe, xf])
   refine tw 15 31 ?_ ?_ ?_; rotate_left; (focus (intro w; go_simp; (try with_reducible rfl); done)); (try simp only [xd, xe, xf])
   refine tw 16 32 ?_ ?_ ?_; rotate_left; (focus (intro w; go_simp; (try with_reducible rfl); done)); (try simp only [xd, xe, xf])
   refine tw 17 33 ?_ ?_ ?_; rotate_left; (focus (intro w; go_simp; (try with_reducible rfl); done)); (try simp only [xd, xe, xf])
   refine tw 18 34 ?_ ?_ ?_; rotate_left; (focus (intro w; go_simp; (try with_reducible rfl); done)); (try simp only [xd, xe, xf])
   refine tl 19 35 ?_ ?_ ?_; rotate_left; (focus (intro w h; go_simp; (try with_reducible rfl))); (try simp only [xd, xe, xf])
   refine tl 20 36 ?_ ?_ ?_; rotate_left; (focus (intro w h; go_simp; (try with_reducible rfl))); (try simp only [xd, xe, xf])
   refine exL_at (i := 21) (by simp only [xa, xb, xc]; rfl) (by kernel_rfl) rfl (by kernel_rfl) (fun K hK => ?_)
   go_wp2_with fail
   refine hK.out _ _ ?_
   clear hK K
   try simp only [xd, xe, xf]
   have HSa := hide (SR.set HS1.out (i := p) (by omega) y).drew
   obtain ⟨ya, hya⟩ : ∃ z, World.drew (((wr.setCell ⟨g, p * 3, none⟩ (.int .i64 y.1)).setCell ⟨g, p * 3 + 1, none⟩ (.int .i64 y.2.1)).setCell ⟨g, p * 3 + 2, none⟩ (.int .i64 y.2.2)) = z := ⟨_, rfl⟩
   rw [hya] at HSa
   first | rw [hya] | rw [show _ = ya from hya]
   have HYa := hide hya
   clear hya
   have ga0 := HSa.out.frozen (r * 3)
   have ga1 := HSa.out.frozen (r * 3 + 1)
   have ga2 := HSa.out.frozen (r * 3 + 2)
   obtain ⟨mj, hmj⟩ := get_some (d := d1.set p y) (i := r) (by rw [List.length_set]; omega)
   obtain ⟨gb0, gb1, gb2⟩ := HSa.out.get hmj
   clear hmj
   refine tw 22 37 ?_ ?_ ?_; rotate_left; (focus (intro w; go_simp; (try with_reducible rfl); done)); (try simp only [xd, xe, xf])
   refine exL_at (i := 23) (by simp only [xa, xb, xc]; rfl) (by kernel_rfl) rfl (by kernel_rfl) (fun K hK => ?_)
   go_wp2_with fail
   refine hK.out _ _ ?_
   clear hK K
   try simp only [xd, xe, xf]
   refine wpAnyL_done (by kernel_rfl) ?_ _
   clear hS0
   have HSb := hide (SR.set HSa.out (i := r) (by omega) x)
   obtain ⟨yb, hyb⟩ : ∃ z, (((ya.setCell ⟨g, r * 3, none⟩ (.int .i64 x.1)).setCell ⟨g, r * 3 + 1, none⟩ (.int .i64 x.2.1)).setCell ⟨g, r * 3 + 2, none⟩ (.int .i64 x.2.2)) = z := ⟨_, rfl⟩
   rw [hyb] at HSb
   rw [hyb]
   clear hyb HSa HYa ga0 gb0 ga1 gb1 ga2 gb2
   clear hl2 cx0 cxf0 cx1 cxf1 cx2 cxf2 cy0 cyf0 cy1 cyf1 cy2 cyf2
   have HW2 : Hid (Swp a b (i + 1) d (swapL d1 p r)) := hide (by rw [← HP.out, ← HR.out]; exact HW.out.step (n := q) hlt hab (by rw [HL.out]; exact hbn))
   have HSc : Hid (SR v0 B g n cap (swapL d1 p r) yb) := hide (by rw [swapL_eq HX.out HY.out]; exact HSb.out)
   clear HSb HS1 HW HX HY
   go_wp2
   go_roundw
   case rel => exact ⟨i + 1, _, by omega, by go_num, HSc, HW2⟩
   case measure => simp [intOf]; omega
  ·obtain rfl : i = q := by omega
   have HFin := hide (show ∃ d', SR v0 B g n cap d' wr ∧ Swp a b i d d' from ⟨d1, HS1.out, HW.out⟩)
   go_wp2
   go_end0
   exact ⟨rfl, HFin.out⟩
theorem rot_any (v0 w : World) (B g n cap : Nat) (d : List Ed) (a m b : Nat) (hS : SR v0 B g n cap d w) (ham : a < m) (hmb : m < b) (hbn : b ≤ n) (hn : n ≤ 1000000) :
  Calls Try.prog 60 #[.slice (some ⟨g, 0, none⟩) n cap, .int .i64 (a : Int), .int .i64 (m : Int), .int .i64 (b : Int), .func (.func 40) #[] #[]] w (fun e w' => e = .returned (.tuple #[]) ∧ SR v0 B g n cap (rotL a m b d) w') := by
 have HS := hide hS
 clear hS
 have e1 : (m : Int) - (a : Int) = ((m - a : Nat) : Int) := by omega
 have e2 : (b : Int) - (m : Int) = ((b - m : Nat) : Int) := by omega
 have e3 : IntKind.i64.wrap ((m - a : Nat) : Int) = ((m - a : Nat) : Int) := i64_nat _ (by omega)
 have e4 : IntKind.i64.wrap ((b - m : Nat) : Int) = ((b - m : Nat) : Int) := i64_nat _ (by omega)
 obtain ⟨i0, hi0⟩ : ∃ z, m - a = z := ⟨_, rfl⟩
 obtain ⟨j0, hj0⟩ : ∃ z, b - m = z := ⟨_, rfl⟩
 rw [hi0] at e1 e3
 rw [hj0] at e2 e4
 have HI0 := hide hi0
 have HJ0 := hide hj0
 have hi1 : 0 < i0 ∧ i0 ≤ m := by omega
 have hj1 : 0 < j0 ∧ m + j0 ≤ n := by omega
 have HT : Hid (rotL a m b d = rotL (m - i0) m (m + j0) d) := hide (by rw [show m - i0 = a by omega, show m + j0 = b by omega])
 clear hi0 hj0
 go_enter Try.func60, Try.ntmps60
 go_wp2
 go_loopw [10, 11] (fun v10 v11 wr => ∃ (i j : Nat) (d1 : List Ed), (0 < i ∧ i ≤ m) ∧ (0 < j ∧ m + j ≤ n) ∧ v10 = .int .i64 (i : Int) ∧ v11 = .int .i64 (j : Int) ∧ Hid (SR v0 B g n cap d1 wr) ∧ Hid (rotL a m b d = rotL (m - i) m (m + j) d1)) (fun v10 v11 _ => (intOf v10).toNat + (intOf v11).toNat)
 case atStart => exact ⟨i0, j0, d, hi1, hj1, rfl, rfl, HS, HT⟩
 case round =>
  clear e1 e2 e3 e4 HT hi1 hj1
  obtain ⟨i, j, d1, hi, hj, rfl, rfl, HS1, HT⟩ := hrel
  have hl1 := hide HS1.out.1
  obtain ⟨p, hp⟩ : ∃ p, m - i = p := ⟨_, rfl⟩
  have f1 : (m : Int) - (i : Int) = (p : Int) := by omega
  have f2 : IntKind.i64.wrap (p : Int) = (p : Int) := i64_nat _ (by omega)
  have HP := hide hp
  rcases (show i = j ∨ j < i ∨ i < j by omega) with hij | hij | hij
  ·subst hij
   have HPm := HP
   go_wp2_with fail
   refine (swr_any v0 _ B g n cap d1 p m i HS1.out (by omega) (by omega) hn).mono ?_
   rintro e w2 ⟨rfl, d2, hs2, hw2⟩
   have HS2 := hide hs2
   have HW2 := hide hw2
   clear hs2 hw2
   have HFin := hide (show SR v0 B g n cap (rotL a m b d) w2 by rw [HT.out, rot_eq (by omega) (by rw [hl1.out]; omega) (by rw [HP.out]; exact HW2.out)]; exact HS2.out)
   go_wp2
   go_end0
   exact ⟨rfl, HFin.out⟩
  ·have hne : ((i : Int) != (j : Int)) = true := by simp; omega
   have hgt : (j : Int) < (i : Int) := by omega
   go_wp2_with fail
   refine (swr_any v0 _ B g n cap d1 p m j HS1.out (by omega) (by omega) hn).mono ?_
   rintro e w2 ⟨rfl, d2, hs2, hw2⟩
   have HS2 := hide hs2
   have HW2 := hide hw2
   clear hs2 hw2
   have g1 : (i : Int) - (j : Int) = ((i - j : Nat) : Int) := by omega
   have g2 : IntKind.i64.wrap ((i - j : Nat) : Int) = ((i - j : Nat) : Int) := i64_nat _ (by omega)
   obtain ⟨i2, hi2⟩ : ∃ z, i - j = z := ⟨_, rfl⟩
   rw [hi2] at g1 g2
   have HT2 : Hid (rotL a m b d = rotL (m - i2) m (m + j) d2) := hide (by rw [HT.out, ← hi2]; exact rot_gt hij (by omega) (by rw [hl1.out]; omega) (by rw [HP.out]; exact HW2.out))
   have hb1 : (0 < i2 ∧ i2 ≤ m) ∧ i2 + j < i + j := by omega
   clear HT hi2 HW2 HS1
   go_wp2
   go_roundw
   case rel => exact ⟨i2, j, d2, hb1.1, hj, by first | rfl | go_num, by first | rfl | go_num, HS2, HT2⟩
   case measure => simp [intOf]; omega
  ·have hne : ((i : Int) != (j : Int)) = true := by simp; omega
   have hgt : ¬ (j : Int) < (i : Int) := by omega
   obtain ⟨s, hs⟩ : ∃ s, m + j = s := ⟨_, rfl⟩
   obtain ⟨r, hr⟩ : ∃ r, s - i = r := ⟨_, rfl⟩
   have k1 : (m : Int) + (j : Int) = (s : Int) := by omega
   have k2 : (s : Int) - (i : Int) = (r : Int) := by omega
   have k3 : IntKind.i64.wrap (s : Int) = (s : Int) := i64_nat _ (by omega)
   have k4 : IntKind.i64.wrap (r : Int) = (r : Int) := i64_nat _ (by omega)
   have HRr := hide (show m + j - i = r by omega)
   go_wp2_with fail
   refine (swr_any v0 _ B g n cap d1 p r i HS1.out (by omega) (by omega) hn).mono ?_
   rintro e w2 ⟨rfl, d2, hs2, hw2⟩
   have HS2 := hide hs2
   have HW2 := hide hw2
   clear hs2 hw2
   have g1 : (j : Int) - (i : Int) = ((j - i : Nat) : Int) := by omega
   have g2 : IntKind.i64.wrap ((j - i : Nat) : Int) = ((j - i : Nat) : Int) := i64_nat _ (by omega)
   obtain ⟨j2, hj2⟩ : ∃ z, j - i = z := ⟨_, rfl⟩
   rw [hj2] at g1 g2
   have HT2 : Hid (rotL a m b d = rotL (m - i) m (m + j2) d2) := hide (by rw [HT.out, ← hj2]; exact rot_lt hij (by omega) (by rw [hl1.out]; omega) (by rw [HP.out, HRr.out]; exact HW2.out))
   have hb1 : (0 < j2 ∧ m + j2 ≤ n) ∧ i + j2 < i + j := by omega
   clear HT hj2 HW2 HS1 hs hr k1 k2 k3 k4
   go_wp2
   go_roundw
   case rel => exact ⟨i, j2, d2, hi, hb1.1, by first | rfl | go_num, by first | rfl | go_num, HS2, HT2⟩
   case measure => simp [intOf]; omega
end Go.Proofs.Ytihdpfjonkagaaa
namespace Go.Proofs.Ytihdpfjonkagaaa
open Go.RowKit
theorem u64_nat (x : Nat) (h : x ≤ 18446744073709551615) : IntKind.u64.wrap (x : Int) = (x : Int) := IntWalk.u64_in _ (by omega)
theorem w64_nat (x : Nat) (h : x ≤ 9223372036854775807) : wrap64 (x : Int) = (x : Int) := IntWalk.wrap64_in _ (by omega)
theorem rotL_nil {α : Type} {s m e : Nat} {d : List α} (h : s = m ∨ e = m) (h2 : s ≤ m ∧ m ≤ e) (h3 : e ≤ d.length) : rotL s m e d = d := by
 refine ext_get fun t => ?_
 rw [rotL_get h2.1 h2.2 h3]
 by_cases c1 : t < s
 ·rw [if_pos c1]
 rw [if_neg c1]
 by_cases c2 : t < s + (e - m)
 ·rw [if_pos c2]; congr 1; omega
 rw [if_neg c2]
 by_cases c3 : t < e
 ·rw [if_pos c3]; congr 1; omega
 ·rw [if_neg c3]
theorem symA_any (κ : Ed → Int) (v0 : World) (B g n cap : Nat) (hn : n ≤ 1000000) (w : World) (d : List Ed) (a m b : Nat) (hS : SR v0 B g n cap d w) (ham : a < m) (hmb : m < b) (hbn : b ≤ n) (hA : m = a + 1) :
  Calls Try.prog 58 #[.slice (some ⟨g, 0, none⟩) n cap, .int .i64 (a : Int), .int .i64 (m : Int), .int .i64 (b : Int), .func (.func 40) #[] #[]] w (fun e w' => e = .returned (.tuple #[]) ∧ ∃ d', SR v0 B g n cap d' w' ∧ SymR ltF κ a m b d d') := by
 have HS := hide hS
 have HL := hide hS.1
 clear hS
 have q1 : (m : Int) - (a : Int) = 1 := by omega
 have HA := hide hA
 clear hA
 go_enter Try.func58, Try.ntmps58
 go_wp2
 go_loopw [10, 11] (fun v10 v11 wr => ∃ (i j : Nat), (m ≤ i ∧ i ≤ j ∧ j ≤ b) ∧ v10 = .int .i64 (i : Int) ∧ v11 = .int .i64 (j : Int) ∧ Hid (SR v0 B g n cap d wr) ∧ Hid (One1 ltF κ a b i j d)) (fun v10 v11 _ => (intOf v11).toNat - (intOf v10).toNat)
 case atStart => exact ⟨m, b, by omega, rfl, rfl, HS, hide (by rw [HA.out]; exact One1.start a b d)⟩
 case round =>
  have hA := HA.out
  obtain ⟨i, j, hij, rfl, rfl, HS1, HO⟩ := hrel
  by_cases hlt : i < j
  ·have hI : (i : Int) < (j : Int) := by omega
   obtain ⟨s, hs⟩ : ∃ z, i + j = z := ⟨_, rfl⟩
   obtain ⟨h, hh⟩ : ∃ z, s / 2 = z := ⟨_, rfl⟩
   have bs : s ≤ 9223372036854775807 := by omega
   have bh : h ≤ 9223372036854775807 := by omega
   have hb1 : i ≤ h ∧ h < j := by omega
   have hhn : h < n := by omega
   have han : a < n := by omega
   have lh : (h : Int) < (n : Int) := by omega
   have la : (a : Int) < (n : Int) := by omega
   have wa : IntKind.i64.wrap (a : Int) = (a : Int) := i64_nat _ (by omega)
   obtain ⟨y, hy⟩ := get_some (d := d) (i := h) (by have := HL.out; omega)
   obtain ⟨x, hx⟩ := get_some (d := d) (i := a) (by have := HL.out; omega)
   obtain ⟨cy0, cy1, cy2⟩ := HS1.out.get hy
   have cyf0 := HS1.out.frozen (h * 3)
   have cyf1 := HS1.out.frozen (h * 3 + 1)
   have cyf2 := HS1.out.frozen (h * 3 + 2)
   obtain ⟨cx0, cx1, cx2⟩ := HS1.out.get hx
   have cxf0 := HS1.out.frozen (a * 3)
   have cxf1 := HS1.out.frozen (a * 3 + 1)
   have cxf2 := HS1.out.frozen (a * 3 + 2)
   have lg := HS1.out.glt
   obtain ⟨z, hz⟩ : ∃ z, cmpI y x = z := ⟨_, rfl⟩
   have HZ := hide hz
   clear hz
   have HX := hide hx
   have HY := hide hy
   have k1 : a + 1 ≤ h := by omega
   have k2 : h < b := by omega
   have k3 : m ≤ h + 1 ∧ h + 1 ≤ j ∧ j ≤ b := by omega
   have k4 : m ≤ i ∧ i ≤ h ∧ h ≤ b := by omega
   have w1 : IntKind.i64.wrap ((h : Int) + 1) = (h : Int) + 1 := i64_nat (h + 1) (by omega)
   have KK := hide (And.intro k1 (And.intro k2 (And.intro k3 k4)))
   have HB1 := hide (And.intro hij hb1)
   have f1 : (i : Int) + (j : Int) = (s : Int) := by omega
   have f2 : (s : Int) / 2 = (h : Int) := by omega
   have f3 : IntKind.i64.wrap (s : Int) = (s : Int) := i64_nat _ bs
   have f4 : IntKind.u64.wrap (s : Int) = (s : Int) := u64_nat _ (Nat.le_trans bs (by decide))
   have f5 : wrap64 (h : Int) = (h : Int) := w64_nat _ bh
   have f6 : IntKind.i64.wrap (h : Int) = (h : Int) := i64_nat _ bh
   clear hx hy hs hh hb1 hij k1 k2 k3 k4 hA
   go_upto_region 5 with fail
   refine wp_region_held_drew (S := Kept wr) (by kernel_rfl) (Kept.drew wr) (fun hS0 => ?_)
   refine tk 0 40 ?_ ?_ ?_; rotate_left; (focus (intro w h; go_simp; (try with_reducible rfl))); (try simp only [xd, xe, xf])
   refine tk 1 41 ?_ ?_ ?_; rotate_left; (focus (intro w h; go_simp; (try with_reducible rfl))); (try simp only [xd, xe, xf])
   refine tk 2 42 ?_ ?_ ?_; rotate_left; (focus (intro w h; go_simp; (try with_reducible rfl))); (try simp only [xd, xe, xf])
   refine tk 3 43 ?_ ?_ ?_; rotate_left; (focus (intro w h; go_simp; (try with_reducible rfl))); (try simp only [xd, xe, xf])
   refine tk 4 44 ?_ ?_ ?_; rotate_left; (focus (intro w h; go_simp; (try with_reducible rfl))); (try simp only [xd, xe, xf])
   refine tk 5 45 ?_ ?_ ?_; rotate_left; (focus (intro w h; go_simp; (try with_reducible rfl))); (try simp only [xd, xe, xf])
   refine tk 6 46 ?_ ?_ ?_; rotate_left; (focus (intro w h; go_simp; (try with_reducible rfl))); (try simp only [xd, xe, xf])
   refine tk 7 47 ?_ ?_ ?_; rotate_left; (focus (intro w h; go_simp; (try with_reducible rfl))); (try simp only [xd, xe, xf])
   refine tk 8 48 ?_ ?_ ?_; rotate_left; (focus (intro w h; go_simp; (try with_reducible rfl))); (try simp only [xd, xe, xf])
   refine call_at (i := 9) (d := 49) (by simp only [xa, xb, xc]; rfl) rfl (by kernel_rfl) rfl (fun K hK => ?_)
   go_simp
   refine (clo_any _ y x).mono ?_
   rintro e z1 ⟨rfl, hz⟩
   rw [HZ.out]
   have hS1 : Kept wr z1 := hS0.below (by simp) hz
   have HSz := hide (HS1.out.drew.below hz)
   clear hz
   go_wp2_with fail
   refine hK.out _ _ hS1 (fun hSn => ?_)
   clear hK K
   try simp only [xd, xe, xf]
   refine tk 10 50 ?_ ?_ ?_; rotate_left; (focus (intro w h; go_simp; (try with_reducible rfl))); (try simp only [xd, xe, xf])
   refine wpAnyH_done (by kernel_rfl) ?_ _
   clear hS0 hSn hS1 cx0 cxf0 cx1 cxf1 cx2 cxf2 cy0 cyf0 cy1 cyf1 cy2 cyf2 wa
   by_cases hz0 : z < 0
   ·have HLT : Hid (ltF y x = true) := hide (by unfold ltF; rw [HZ.out]; simpa using hz0)
    have HO2 : Hid (One1 ltF κ a b (h + 1) j d) := hide (HO.out.up KK.out.1 KK.out.2.1 HY.out HX.out HLT.out)
    go_wp2
    clear f1 f2 f3 f4 f5 f6 w1
    go_roundw
    case rel => first | exact ⟨h + 1, j, KK.out.2.2.1, by first | rfl | go_num, rfl, HSz, HO2⟩ | ((repeat apply Exists.intro); exact ⟨⟨h + 1, j, KK.out.2.2.1, by first | rfl | go_num, rfl, HSz, HO2⟩, rfl⟩)
    case measure => have := HB1.out; simp [intOf]; omega
   ·have HLT : Hid (ltF y x = false) := hide (by unfold ltF; rw [HZ.out]; simpa using hz0)
    have HO2 : Hid (One1 ltF κ a b i h d) := hide (HO.out.down KK.out.1 KK.out.2.1 HY.out HX.out HLT.out)
    have hz1 : 0 ≤ z := Int.not_lt.1 hz0
    go_wp2
    clear f1 f2 f3 f4 f5 f6 w1
    go_roundw
    case rel => first | exact ⟨i, h, KK.out.2.2.2, rfl, by first | rfl | go_num, HSz, HO2⟩ | ((repeat apply Exists.intro); exact ⟨⟨i, h, KK.out.2.2.2, rfl, by first | rfl | go_num, HSz, HO2⟩, rfl⟩)
    case measure => have := HB1.out; simp [intOf]; omega
  ·obtain rfl : i = j := by omega
   obtain ⟨i1, hi1⟩ : ∃ z, i = z + 1 := ⟨i - 1, by omega⟩
   have q2 : (i : Int) - 1 = (i1 : Int) := by omega
   have hin : i1 < n := by omega
   have hai : a ≤ i1 := by omega
   have HFin : Hid (SymR ltF κ a m b d (rotL a (a + 1) i d)) := hide (by rw [hA]; exact HO.out.done (by omega) (by omega) (by have := HL.out; omega))
   have HI1 := hide hi1
   have q3 : IntKind.i64.wrap (i1 : Int) = (i1 : Int) := i64_nat _ (by omega)
   clear HO hi1 hA
   go_wp2
   go_loopw [13] (fun v13 wr => ∃ (k : Nat), (a ≤ k ∧ k ≤ i1) ∧ v13 = .int .i64 (k : Int) ∧ Hid (SR v0 B g n cap (rotL a (a + 1) (k + 1) d) wr)) (fun v13 _ => i1 - (intOf v13).toNat)
   case atStart => exact ⟨a, by omega, rfl, hide (by rw [rot_id1 (by have := HL.out; omega)]; exact HS1.out)⟩
   case round =>
    clear HS1
    obtain ⟨k, hk, rfl, HS1⟩ := hrel
    by_cases hlt2 : k < i1
    ·have hK : (k : Int) < (i1 : Int) := by omega
     obtain ⟨k1, hk1⟩ : ∃ z, k + 1 = z := ⟨_, rfl⟩
     have hk1n : k1 < n := by omega
     have hkn : k < n := by omega
     have lk : (k : Int) < (n : Int) := by omega
     have lk1 : (k1 : Int) < (n : Int) := by omega
     have hlen := HS1.out.1
     obtain ⟨x, hx⟩ := get_some (d := rotL a (a + 1) (k + 1) d) (i := k) (by omega)
     obtain ⟨y, hy⟩ := get_some (d := rotL a (a + 1) (k + 1) d) (i := k1) (by omega)
     obtain ⟨cx0, cx1, cx2⟩ := HS1.out.get hx
     have cxf0 := HS1.out.frozen (k * 3)
     have cxf1 := HS1.out.frozen (k * 3 + 1)
     have cxf2 := HS1.out.frozen (k * 3 + 2)
     obtain ⟨cy0, cy1, cy2⟩ := HS1.out.get hy
     have cyf0 := HS1.out.frozen (k1 * 3)
     have cyf1 := HS1.out.frozen (k1 * 3 + 1)
     have cyf2 := HS1.out.frozen (k1 * 3 + 2)
     have lg := HS1.out.glt
     have HX := hide hx
     have HY := hide hy
     have HK1 := hide hk1
     have e1 : (k : Int) + 1 = (k1 : Int) := by omega
     have e2 : IntKind.i64.wrap (k1 : Int) = (k1 : Int) := i64_nat _ (by omega)
     have e3 : IntKind.i64.wrap (k : Int) = (k : Int) := i64_nat _ (by omega)
     have hl2 := hlen
     clear hx hy hk1 hlen
     go_upto_region 11 with fail
     refine wpL_region (S := Kept wr) [15, 17] (by kernel_rfl) (Kept.drew wr) (fun hS0 => ?_)
     refine tl 0 61 ?_ ?_ ?_; rotate_left; (focus (intro w h; go_simp; (try with_reducible rfl))); (try simp only [xd, xe, xf])
     refine tl 1 62 ?_ ?_ ?_; rotate_left; (focus (intro w h; go_simp; (try with_reducible rfl))); (try simp only [xd, xe, xf])
     refine tw 2 63 ?_ ?_ ?_; rotate_left; (focus (intro w; go_simp; (try with_reducible rfl); done)); (try simp only [xd, xe, xf])
     refine tw 3 64 ?_ ?_ ?_; rotate_left; (focus (intro w; go_simp; (try with_reducible rfl); done)); (try simp only [xd, xe, xf])
     refine tw 4 65 ?_ ?_ ?_; rotate_left; (focus (intro w; go_simp; (try with_reducible rfl); done)); (try simp only [xd, xe, xf])
     refine tl 5 66 ?_ ?_ ?_; rotate_left; (focus (intro w h; go_simp; (try with_reducible rfl))); (try simp only [xd, xe, xf])
     refine tl 6 67 ?_ ?_ ?_; rotate_left; (focus (intro w h; go_simp; (try with_reducible rfl))); (try simp only [xd, xe, xf])
     refine tl 7 68 ?_ ?_ ?_; rotate_left; (focus (intro w h; go_simp; (try with_reducible rfl))); (try simp only [xd, xe, xf])
     refine tl 8 69 ?_ ?_ ?_; rotate_left; (focus (intro w h; go_simp; (try with_reducible rfl))); (try simp only [xd, xe, xf])
     refine tl 9 70 ?_ ?_ ?_; rotate_left; (focus (intro w h; go_simp; (try with_reducible rfl))); (try simp only [xd, xe, xf])
     refine tw 10 71 ?_ ?_ ?_; rotate_left; (focus (intro w; go_simp; (try with_reducible rfl); done)); (try simp only [xd, xe, xf])
     refine tw 11 72 ?_ ?_ ?_; rotate_left; (focus (intro w; go_simp; (try with_reducible rfl); done)); (try simp only [xd, xe, xf])
     refine tw 12 73 ?_ ?_ ?_; rotate_left; (focus (intro w; go_simp; (try with_reducible rfl); done)); (try simp only [xd, xe, xf])
     refine tl 13 74 ?_ ?_ ?_; rotate_left; (focus (intro w h; go_simp; (try with_reducible rfl))); (try simp only [xd, xe, xf])
     refine tl 14 75 ?_ ?_ ?_; rotate_left; (focus (intro w h; go_simp; (try with_reducible rfl))); (try simp only [xd, xe, xf])
     refine exL_at (i := 15) (by simp only [xa, xb, xc]; rfl) (by kernel_rfl) rfl (by kernel_rfl) (fun K hK => ?_)
     go_wp2_with fail
     refine hK.out _ _ ?_
     clear hK K
     try simp only [xd, xe, xf]
     have HSa := hide (SR.set HS1.out (i := k) (by omega) y).drew
     obtain ⟨ya, hya⟩ : ∃ z, World.drew (((wr.setCell ⟨g, k * 3, none⟩ (.int .i64 y.1)).setCell ⟨g, k * 3 + 1, none⟩ (.int .i64 y.2.1)).setCell ⟨g, k * 3 + 2, none⟩ (.int .i64 y.2.2)) = z := ⟨_, rfl⟩
     rw [hya] at HSa
     first | rw [hya] | rw [show _ = ya from hya]
     have HYa := hide hya
     clear hya
     have ga0 := HSa.out.frozen (k1 * 3)
     have ga1 := HSa.out.frozen (k1 * 3 + 1)
     have ga2 := HSa.out.frozen (k1 * 3 + 2)
     obtain ⟨mj, hmj⟩ := get_some (d := (rotL a (a + 1) (k + 1) d).set k y) (i := k1) (by rw [List.length_set]; omega)
     obtain ⟨gb0, gb1, gb2⟩ := HSa.out.get hmj
     clear hmj
     refine tw 16 76 ?_ ?_ ?_; rotate_left; (focus (intro w; go_simp; (try with_reducible rfl); done)); (try simp only [xd, xe, xf])
     refine exL_at (i := 17) (by simp only [xa, xb, xc]; rfl) (by kernel_rfl) rfl (by kernel_rfl) (fun K hK => ?_)
     go_wp2_with fail
     refine hK.out _ _ ?_
     clear hK K
     try simp only [xd, xe, xf]
     refine wpAnyL_done (by kernel_rfl) ?_ _
     clear hS0
     have HSb := hide (SR.set HSa.out (i := k1) (by omega) x)
     obtain ⟨yb, hyb⟩ : ∃ z, (((ya.setCell ⟨g, k1 * 3, none⟩ (.int .i64 x.1)).setCell ⟨g, k1 * 3 + 1, none⟩ (.int .i64 x.2.1)).setCell ⟨g, k1 * 3 + 2, none⟩ (.int .i64 x.2.2)) = z := ⟨_, rfl⟩
     rw [hyb] at HSb
     rw [hyb]
     clear hyb HSa HYa ga0 gb0 ga1 gb1 ga2 gb2
     clear hl2 cx0 cxf0 cx1 cxf1 cx2 cxf2 cy0 cyf0 cy1 cyf1 cy2 cyf2
     have HSc : Hid (SR v0 B g n cap (rotL a (a + 1) (k1 + 1) d) yb) := hide (by have e := rot_one (a := a) (k := k) (d := d) (by omega) (by have := HL.out; have := HK1.out; omega); rw [HK1.out] at e; rw [← e, ← HK1.out, HK1.out, show swapL (rotL a (a + 1) k1 d) k k1 = swapL (rotL a (a + 1) (k + 1) d) k k1 by rw [HK1.out], swapL_eq HX.out HY.out]; exact HSb.out)
     clear HSb HS1 HX HY
     have hkk : (a ≤ k1 ∧ k1 ≤ i1) ∧ k < k1 := by have := HK1.out; omega
     go_wp2
     go_roundw
     case rel => first | exact ⟨k1, hkk.1, by first | rfl | go_num, HSc⟩ | ((repeat apply Exists.intro); exact ⟨⟨k1, hkk.1, by first | rfl | go_num, HSc⟩, rfl⟩)
     case measure => simp [intOf]; omega
    ·obtain rfl : k = i1 := by omega
     have HFin2 := hide (show ∃ d', SR v0 B g n cap d' wr ∧ SymR ltF κ a m b d d' from ⟨rotL a (a + 1) i d, by rw [HI1.out]; exact HS1.out, HFin.out⟩)
     go_wp2
     refine bodyPost_ret (results_none rfl _ _ _) rfl ?_
     exact ⟨rfl, HFin2.out⟩
theorem symB_any (κ : Ed → Int) (v0 : World) (B g n cap : Nat) (hn : n ≤ 1000000) (w : World) (d : List Ed) (a m b : Nat) (hS : SR v0 B g n cap d w) (ham : a < m) (hmb : m < b) (hbn : b ≤ n) (hA : ¬ m = a + 1) (hB : b = m + 1) :
  Calls Try.prog 58 #[.slice (some ⟨g, 0, none⟩) n cap, .int .i64 (a : Int), .int .i64 (m : Int), .int .i64 (b : Int), .func (.func 40) #[] #[]] w (fun e w' => e = .returned (.tuple #[]) ∧ ∃ d', SR v0 B g n cap d' w' ∧ SymR ltF κ a m b d d') := by
 have HS := hide hS
 have HL := hide hS.1
 clear hS
 have q1 : (m : Int) - (a : Int) = ((m - a : Nat) : Int) := by omega
 have q2 : (b : Int) - (m : Int) = 1 := by omega
 obtain ⟨ma, hma⟩ : ∃ z, m - a = z := ⟨_, rfl⟩
 rw [hma] at q1
 have q3 : ¬ (ma : Int) = 1 := by omega
 have q5 : ((ma : Int) == 1) = false := by simp; omega
 have q4 : IntKind.i64.wrap (ma : Int) = (ma : Int) := i64_nat _ (by omega)
 have HB := hide hB
 clear hma hB hA
 go_enter Try.func58, Try.ntmps58
 go_wp2
 go_loopw [14, 15] (fun v14 v15 wr => ∃ (i j : Nat), (a ≤ i ∧ i ≤ j ∧ j ≤ m) ∧ v14 = .int .i64 (i : Int) ∧ v15 = .int .i64 (j : Int) ∧ Hid (SR v0 B g n cap d wr) ∧ Hid (One2 ltF κ a m i j d)) (fun v14 v15 _ => (intOf v15).toNat - (intOf v14).toNat)
 case atStart => exact ⟨a, m, by omega, rfl, rfl, HS, hide (One2.start a m d)⟩
 case round =>
  obtain ⟨i, j, hij, rfl, rfl, HS1, HO⟩ := hrel
  by_cases hlt : i < j
  ·have hI : (i : Int) < (j : Int) := by omega
   obtain ⟨s, hs⟩ : ∃ z, i + j = z := ⟨_, rfl⟩
   obtain ⟨h, hh⟩ : ∃ z, s / 2 = z := ⟨_, rfl⟩
   have bs : s ≤ 9223372036854775807 := by omega
   have bh : h ≤ 9223372036854775807 := by omega
   have hb1 : i ≤ h ∧ h < j := by omega
   have hhn : h < n := by omega
   have hmn : m < n := by omega
   have lh : (h : Int) < (n : Int) := by omega
   have lm : (m : Int) < (n : Int) := by omega
   have wm : IntKind.i64.wrap (m : Int) = (m : Int) := i64_nat _ (by omega)
   obtain ⟨y, hy⟩ := get_some (d := d) (i := h) (by have := HL.out; omega)
   obtain ⟨x, hx⟩ := get_some (d := d) (i := m) (by have := HL.out; omega)
   obtain ⟨cy0, cy1, cy2⟩ := HS1.out.get hy
   have cyf0 := HS1.out.frozen (h * 3)
   have cyf1 := HS1.out.frozen (h * 3 + 1)
   have cyf2 := HS1.out.frozen (h * 3 + 2)
   obtain ⟨cx0, cx1, cx2⟩ := HS1.out.get hx
   have cxf0 := HS1.out.frozen (m * 3)
   have cxf1 := HS1.out.frozen (m * 3 + 1)
   have cxf2 := HS1.out.frozen (m * 3 + 2)
   have lg := HS1.out.glt
   obtain ⟨z, hz⟩ : ∃ z, cmpI x y = z := ⟨_, rfl⟩
   have HZ := hide hz
   clear hz
   have HX := hide hx
   have HY := hide hy
   have k1 : a ≤ h := by omega
   have k2 : h < m := by omega
   have k3 : a ≤ h + 1 ∧ h + 1 ≤ j ∧ j ≤ m := by omega
   have k4 : a ≤ i ∧ i ≤ h ∧ h ≤ m := by omega
   have w1 : IntKind.i64.wrap ((h : Int) + 1) = (h : Int) + 1 := i64_nat (h + 1) (by omega)
   have KK := hide (And.intro k1 (And.intro k2 (And.intro k3 k4)))
   have HB1 := hide (And.intro hij hb1)
   have f1 : (i : Int) + (j : Int) = (s : Int) := by omega
   have f2 : (s : Int) / 2 = (h : Int) := by omega
   have f3 : IntKind.i64.wrap (s : Int) = (s : Int) := i64_nat _ bs
   have f4 : IntKind.u64.wrap (s : Int) = (s : Int) := u64_nat _ (Nat.le_trans bs (by decide))
   have f5 : wrap64 (h : Int) = (h : Int) := w64_nat _ bh
   have f6 : IntKind.i64.wrap (h : Int) = (h : Int) := i64_nat _ bh
   clear hx hy hs hh hb1 hij k1 k2 k3 k4
   go_upto_region 17 with fail
   refine wp_region_held_drew (S := Kept wr) (by kernel_rfl) (Kept.drew wr) (fun hS0 => ?_)
   refine tk 0 92 ?_ ?_ ?_; rotate_left; (focus (intro w h; go_simp; (try with_reducible rfl))); (try simp only [xd, xe, xf])
   refine tk 1 93 ?_ ?_ ?_; rotate_left; (focus (intro w h; go_simp; (try with_reducible rfl))); (try simp only [xd, xe, xf])
   refine tk 2 94 ?_ ?_ ?_; rotate_left; (focus (intro w h; go_simp; (try with_reducible rfl))); (try simp only [xd, xe, xf])
   refine tk 3 95 ?_ ?_ ?_; rotate_left; (focus (intro w h; go_simp; (try with_reducible rfl))); (try simp only [xd, xe, xf])
   refine tk 4 96 ?_ ?_ ?_; rotate_left; (focus (intro w h; go_simp; (try with_reducible rfl))); (try simp only [xd, xe, xf])
   refine tk 5 97 ?_ ?_ ?_; rotate_left; (focus (intro w h; go_simp; (try with_reducible rfl))); (try simp only [xd, xe, xf])
   refine tk 6 98 ?_ ?_ ?_; rotate_left; (focus (intro w h; go_simp; (try with_reducible rfl))); (try simp only [xd, xe, xf])
   refine tk 7 99 ?_ ?_ ?_; rotate_left; (focus (intro w h; go_simp; (try with_reducible rfl))); (try simp only [xd, xe, xf])
   refine tk 8 100 ?_ ?_ ?_; rotate_left; (focus (intro w h; go_simp; (try with_reducible rfl))); (try simp only [xd, xe, xf])
   refine call_at (i := 9) (d := 101) (by simp only [xa, xb, xc]; rfl) rfl (by kernel_rfl) rfl (fun K hK => ?_)
   go_simp
   refine (clo_any _ x y).mono ?_
   rintro e z1 ⟨rfl, hz⟩
   rw [HZ.out]
   have hS1 : Kept wr z1 := hS0.below (by simp) hz
   have HSz := hide (HS1.out.drew.below hz)
   clear hz
   go_wp2_with fail
   refine hK.out _ _ hS1 (fun hSn => ?_)
   clear hK K
   try simp only [xd, xe, xf]
   refine tk 10 102 ?_ ?_ ?_; rotate_left; (focus (intro w h; go_simp; (try with_reducible rfl))); (try simp only [xd, xe, xf])
   refine tk 11 103 ?_ ?_ ?_; rotate_left; (focus (intro w h; go_simp; (try with_reducible rfl))); (try simp only [xd, xe, xf])
   refine wpAnyH_done (by kernel_rfl) ?_ _
   clear hS0 hSn hS1 cx0 cxf0 cx1 cxf1 cx2 cxf2 cy0 cyf0 cy1 cyf1 cy2 cyf2 wm
   by_cases hz0 : z < 0
   ·have hz2 : ¬ 0 ≤ z := Int.not_le.2 hz0
    have hd : (!decide (z < 0)) = false := by simp [hz0]
    rw [hd]
    clear hd
    have HLT : Hid (ltF x y = true) := hide (by unfold ltF; rw [HZ.out]; simpa using hz0)
    have HO2 : Hid (One2 ltF κ a m i h d) := hide (HO.out.down KK.out.1 KK.out.2.1 HY.out HX.out HLT.out)
    go_wp2
    clear f1 f2 f3 f4 f5 f6 w1
    go_roundw
    case rel => first | exact ⟨i, h, KK.out.2.2.2, rfl, by first | rfl | go_num, HSz, HO2⟩ | ((repeat apply Exists.intro); exact ⟨⟨i, h, KK.out.2.2.2, rfl, by first | rfl | go_num, HSz, HO2⟩, rfl⟩)
    case measure => have := HB1.out; simp [intOf]; omega
   ·have hd : (!decide (z < 0)) = true := by rw [decide_eq_false hz0]; rfl
    rw [hd]
    clear hd
    have HLT : Hid (ltF x y = false) := hide (by unfold ltF; rw [HZ.out]; simpa using hz0)
    have HO2 : Hid (One2 ltF κ a m (h + 1) j d) := hide (HO.out.up KK.out.1 KK.out.2.1 HY.out HX.out HLT.out)
    have hz1 : 0 ≤ z := Int.not_lt.1 hz0
    go_wp2
    clear f1 f2 f3 f4 f5 f6 w1
    go_roundw
    case rel => first | exact ⟨h + 1, j, KK.out.2.2.1, by first | rfl | go_num, rfl, HSz, HO2⟩ | ((repeat apply Exists.intro); exact ⟨⟨h + 1, j, KK.out.2.2.1, by first | rfl | go_num, rfl, HSz, HO2⟩, rfl⟩)
    case measure => have := HB1.out; simp [intOf]; omega
  ·obtain rfl : i = j := by omega
   have HFin : Hid (SymR ltF κ a m b d (rotL i m (m + 1) d)) := hide (by rw [HB.out]; exact HO.out.done (by omega) (by omega) (by have := HL.out; omega))
   clear HO
   go_wp2
   go_loopw [17] (fun v17 wr => ∃ (k : Nat), (i ≤ k ∧ k ≤ m) ∧ v17 = .int .i64 (k : Int) ∧ Hid (SR v0 B g n cap (rotL k m (m + 1) d) wr)) (fun v17 _ => (intOf v17).toNat - i)
   case atStart => exact ⟨m, by omega, rfl, hide (by rw [rot_id2 (by have := HL.out; omega)]; exact HS1.out)⟩
   case round =>
    clear HS1
    obtain ⟨k1, hk, rfl, HS1⟩ := hrel
    by_cases hlt2 : i < k1
    ·have hK : (i : Int) < (k1 : Int) := by omega
     obtain ⟨k, hk1⟩ : ∃ z, k1 = z + 1 := ⟨k1 - 1, by omega⟩
     have hk1n : k1 < n := by omega
     have hkn : k < n := by omega
     have lk : (k : Int) < (n : Int) := by omega
     have lk1 : (k1 : Int) < (n : Int) := by omega
     have hlen := HS1.out.1
     obtain ⟨x, hx⟩ := get_some (d := rotL k1 m (m + 1) d) (i := k1) (by omega)
     obtain ⟨y, hy⟩ := get_some (d := rotL k1 m (m + 1) d) (i := k) (by omega)
     obtain ⟨cx0, cx1, cx2⟩ := HS1.out.get hx
     have cxf0 := HS1.out.frozen (k1 * 3)
     have cxf1 := HS1.out.frozen (k1 * 3 + 1)
     have cxf2 := HS1.out.frozen (k1 * 3 + 2)
     obtain ⟨cy0, cy1, cy2⟩ := HS1.out.get hy
     have cyf0 := HS1.out.frozen (k * 3)
     have cyf1 := HS1.out.frozen (k * 3 + 1)
     have cyf2 := HS1.out.frozen (k * 3 + 2)
     have lg := HS1.out.glt
     have HX := hide hx
     have HY := hide hy
     have HK1 := hide hk1
     have e1 : (k1 : Int) - 1 = (k : Int) := by omega
     have e2 : IntKind.i64.wrap (k : Int) = (k : Int) := i64_nat _ (by omega)
     have e3 : IntKind.i64.wrap (k1 : Int) = (k1 : Int) := i64_nat _ (by omega)
     have hl2 := hlen
     clear hx hy hk1 hlen
     go_upto_region 23 with fail
     refine wpL_region (S := Kept wr) [15, 17] (by kernel_rfl) (Kept.drew wr) (fun hS0 => ?_)
     refine tl 0 113 ?_ ?_ ?_; rotate_left; (focus (intro w h; go_simp; (try with_reducible rfl))); (try simp only [xd, xe, xf])
     refine tl 1 114 ?_ ?_ ?_; rotate_left; (focus (intro w h; go_simp; (try with_reducible rfl))); (try simp only [xd, xe, xf])
     refine tw 2 115 ?_ ?_ ?_; rotate_left; (focus (intro w; go_simp; (try with_reducible rfl); done)); (try simp only [xd, xe, xf])
     refine tw 3 116 ?_ ?_ ?_; rotate_left; (focus (intro w; go_simp; (try with_reducible rfl); done)); (try simp only [xd, xe, xf])
     refine tw 4 117 ?_ ?_ ?_; rotate_left; (focus (intro w; go_simp; (try with_reducible rfl); done)); (try simp only [xd, xe, xf])
     refine tl 5 118 ?_ ?_ ?_; rotate_left; (focus (intro w h; go_simp; (try with_reducible rfl))); (try simp only [xd, xe, xf])
     refine tl 6 119 ?_ ?_ ?_; rotate_left; (focus (intro w h; go_simp; (try with_reducible rfl))); (try simp only [xd, xe, xf])
     refine tl 7 120 ?_ ?_ ?_; rotate_left; (focus (intro w h; go_simp; (try with_reducible rfl))); (try simp only [xd, xe, xf])
     refine tl 8 121 ?_ ?_ ?_; rotate_left; (focus (intro w h; go_simp; (try with_reducible rfl))); (try simp only [xd, xe, xf])
     refine tl 9 122 ?_ ?_ ?_; rotate_left; (focus (intro w h; go_simp; (try with_reducible rfl))); (try simp only [xd, xe, xf])
     refine tw 10 123 ?_ ?_ ?_; rotate_left; (focus (intro w; go_simp; (try with_reducible rfl); done)); (try simp only [xd, xe, xf])
     refine tw 11 124 ?_ ?_ ?_; rotate_left; (focus (intro w; go_simp; (try with_reducible rfl); done)); (try simp only [xd, xe, xf])
     refine tw 12 125 ?_ ?_ ?_; rotate_left; (focus (intro w; go_simp; (try with_reducible rfl); done)); (try simp only [xd, xe, xf])
     refine tl 13 126 ?_ ?_ ?_; rotate_left; (focus (intro w h; go_simp; (try with_reducible rfl))); (try simp only [xd, xe, xf])
     refine tl 14 127 ?_ ?_ ?_; rotate_left; (focus (intro w h; go_simp; (try with_reducible rfl))); (try simp only [xd, xe, xf])
     refine exL_at (i := 15) (by simp only [xa, xb, xc]; rfl) (by kernel_rfl) rfl (by kernel_rfl) (fun K hK => ?_)
     go_wp2_with fail
     refine hK.out _ _ ?_
     clear hK K
     try simp only [xd, xe, xf]
     have HSa := hide (SR.set HS1.out (i := k1) (by omega) y).drew
     obtain ⟨ya, hya⟩ : ∃ z, World.drew (((wr.setCell ⟨g, k1 * 3, none⟩ (.int .i64 y.1)).setCell ⟨g, k1 * 3 + 1, none⟩ (.int .i64 y.2.1)).setCell ⟨g, k1 * 3 + 2, none⟩ (.int .i64 y.2.2)) = z := ⟨_, rfl⟩
     rw [hya] at HSa
     first | rw [hya] | rw [show _ = ya from hya]
     have HYa := hide hya
     clear hya
     have ga0 := HSa.out.frozen (k * 3)
     have ga1 := HSa.out.frozen (k * 3 + 1)
     have ga2 := HSa.out.frozen (k * 3 + 2)
     obtain ⟨mj, hmj⟩ := get_some (d := (rotL k1 m (m + 1) d).set k1 y) (i := k) (by rw [List.length_set]; omega)
     obtain ⟨gb0, gb1, gb2⟩ := HSa.out.get hmj
     clear hmj
     refine tw 16 128 ?_ ?_ ?_; rotate_left; (focus (intro w; go_simp; (try with_reducible rfl); done)); (try simp only [xd, xe, xf])
     refine exL_at (i := 17) (by simp only [xa, xb, xc]; rfl) (by kernel_rfl) rfl (by kernel_rfl) (fun K hK => ?_)
     go_wp2_with fail
     refine hK.out _ _ ?_
     clear hK K
     try simp only [xd, xe, xf]
     refine wpAnyL_done (by kernel_rfl) ?_ _
     clear hS0
     have HSb := hide (SR.set HSa.out (i := k) (by omega) x)
     obtain ⟨yb, hyb⟩ : ∃ z, (((ya.setCell ⟨g, k * 3, none⟩ (.int .i64 x.1)).setCell ⟨g, k * 3 + 1, none⟩ (.int .i64 x.2.1)).setCell ⟨g, k * 3 + 2, none⟩ (.int .i64 x.2.2)) = z := ⟨_, rfl⟩
     rw [hyb] at HSb
     rw [hyb]
     clear hyb HSa HYa ga0 gb0 ga1 gb1 ga2 gb2
     clear hl2 cx0 cxf0 cx1 cxf1 cx2 cxf2 cy0 cyf0 cy1 cyf1 cy2 cyf2
     have HSc : Hid (SR v0 B g n cap (rotL k m (m + 1) d) yb) := hide (by have e := rot_last (k := k) (m := m) (d := d) (by have := HK1.out; omega) (by have := HL.out; omega); rw [← HK1.out] at e; rw [← e, swapL_eq HX.out HY.out]; exact HSb.out)
     clear HSb HS1 HX HY
     have hkk : (i ≤ k ∧ k ≤ m) ∧ k < k1 := by have := HK1.out; omega
     go_wp2
     go_roundw
     case rel => first | exact ⟨k, hkk.1, by first | rfl | go_num, HSc⟩ | ((repeat apply Exists.intro); exact ⟨⟨k, hkk.1, by first | rfl | go_num, HSc⟩, rfl⟩)
     case measure => simp [intOf]; omega
    ·obtain rfl : k1 = i := by omega
     have HFin2 := hide (show ∃ d', SR v0 B g n cap d' wr ∧ SymR ltF κ a m b d d' from ⟨rotL k1 m (m + 1) d, HS1.out, HFin.out⟩)
     go_wp2
     refine bodyPost_ret (results_none rfl _ _ _) rfl ?_
     exact ⟨rfl, HFin2.out⟩
end Go.Proofs.Ytihdpfjonkagaaa
namespace Go.Proofs.Ytihdpfjonkagaaa
open Go.RowKit
theorem sym_any (κ : Ed → Int) (v0 : World) (B g n cap : Nat) (hn : n ≤ 1000000) : ∀ (N : Nat) (w : World) (d : List Ed) (a m b : Nat), b - a ≤ N → SR v0 B g n cap d w → a < m → m < b → b ≤ n →
  Calls Try.prog 58 #[.slice (some ⟨g, 0, none⟩) n cap, .int .i64 (a : Int), .int .i64 (m : Int), .int .i64 (b : Int), .func (.func 40) #[] #[]] w (fun e w' => e = .returned (.tuple #[]) ∧ ∃ d', SR v0 B g n cap d' w' ∧ SymR ltF κ a m b d d') := by
 intro N
 induction N with
 | zero => intro w d a m b h1 _ h2 h3; omega
 | succ N ih =>
  intro w d a m b hN hS ham hmb hbn
  by_cases hA : m = a + 1
  ·exact symA_any κ v0 B g n cap hn w d a m b hS ham hmb hbn hA
  by_cases hB : b = m + 1
  ·exact symB_any κ v0 B g n cap hn w d a m b hS ham hmb hbn hA hB
  have IH := hide ih
  have HS := hide hS
  have HL := hide hS.1
  clear hS ih
  obtain ⟨ma, hma⟩ : ∃ z, m - a = z := ⟨_, rfl⟩
  obtain ⟨bm, hbm⟩ : ∃ z, b - m = z := ⟨_, rfl⟩
  obtain ⟨ab, hab⟩ : ∃ z, a + b = z := ⟨_, rfl⟩
  obtain ⟨mid, hmid⟩ : ∃ z, ab / 2 = z := ⟨_, rfl⟩
  obtain ⟨nn, hnn⟩ : ∃ z, mid + m = z := ⟨_, rfl⟩
  obtain ⟨pp, hpp⟩ : ∃ z, nn - 1 = z := ⟨_, rfl⟩
  have q1 : (m : Int) - (a : Int) = (ma : Int) := by omega
  have q2 : (b : Int) - (m : Int) = (bm : Int) := by omega
  have q5 : ((ma : Int) == 1) = false := by simp; omega
  have q6 : ((bm : Int) == 1) = false := by simp; omega
  have q7 : (a : Int) + (b : Int) = (ab : Int) := by omega
  have q8 : (ab : Int) / 2 = (mid : Int) := by omega
  have q9 : (mid : Int) + (m : Int) = (nn : Int) := by omega
  have qa : (nn : Int) - 1 = (pp : Int) := by omega
  have bab : ab ≤ 9223372036854775807 := by omega
  have bmid : mid ≤ 9223372036854775807 := by omega
  have bnn : nn ≤ 9223372036854775807 := by omega
  have bpp : pp ≤ 9223372036854775807 := by omega
  have bma : ma ≤ 9223372036854775807 := by omega
  have bbm : bm ≤ 9223372036854775807 := by omega
  obtain ⟨s9, hs9⟩ : ∃ z, nn - b = z := ⟨_, rfl⟩
  have HT1 : Hid (mid < m → ((nn : Int) - (b : Int) = (s9 : Int) ∧ s9 + b = mid + m)) := hide (fun h => by omega)
  have bs9 : s9 ≤ 9223372036854775807 := by omega
  clear hs9
  have HM := hide (show mid = (a + b) / 2 ∧ mid + m = nn ∧ pp = mid + m - 1 ∧ a < mid ∧ mid < b by omega)
  clear hma hbm hab hmid hnn hpp
  have r1 : IntKind.i64.wrap (ma : Int) = (ma : Int) := i64_nat _ bma
  have r2 : IntKind.i64.wrap (bm : Int) = (bm : Int) := i64_nat _ bbm
  have r3 : IntKind.i64.wrap (ab : Int) = (ab : Int) := i64_nat _ bab
  have r4 : IntKind.u64.wrap (ab : Int) = (ab : Int) := u64_nat _ (Nat.le_trans bab (by decide))
  have r5 : wrap64 (mid : Int) = (mid : Int) := w64_nat _ bmid
  have r6 : IntKind.i64.wrap (mid : Int) = (mid : Int) := i64_nat _ bmid
  have r7 : IntKind.i64.wrap (nn : Int) = (nn : Int) := i64_nat _ bnn
  go_enter Try.func58, Try.ntmps58
  go_upto_if 140 with fail
  go_cut [20, 21] (fun v20 v21 wc => ∃ (s0 r0 : Nat), Hid ((m ≤ mid ∧ s0 = a ∧ r0 = m) ∨ (mid < m ∧ s0 + b = mid + m ∧ r0 = mid)) ∧ v20 = .int .i64 (s0 : Int) ∧ v21 = .int .i64 (r0 : Int) ∧ wc = w)
  case first =>
   clear q1 q2 q5 q6 q7 q8 q9 r1 r2 r3 r4 r5 r6 r7 qa
   by_cases hmm : mid < m
   ·have hmm' : (mid : Int) < (m : Int) := Int.ofNat_lt.2 hmm
    have HD : Hid ((m ≤ mid ∧ s9 = a ∧ mid = m) ∨ (mid < m ∧ s9 + b = mid + m ∧ mid = mid)) := hide (.inr ⟨hmm, (HT1.out hmm).2, rfl⟩)
    have t1 : (nn : Int) - (b : Int) = (s9 : Int) := (HT1.out hmm).1
    have t2 : IntKind.i64.wrap (s9 : Int) = (s9 : Int) := i64_nat _ bs9
    go_wp2
    go_meet
    case rel => exact ⟨s9, mid, hide (.inr ⟨by omega, (HT1.out (by omega)).2, rfl⟩), rfl, rfl, rfl⟩
   ·have hmm' : ¬ (mid : Int) < (m : Int) := fun h => hmm (Int.ofNat_lt.1 h)
    have HD : Hid ((m ≤ mid ∧ a = a ∧ m = m) ∨ (mid < m ∧ a + b = mid + m ∧ m = mid)) := hide (.inl ⟨Nat.le_of_not_lt hmm, rfl, rfl⟩)
    go_wp2
    go_meet
    case rel => exact ⟨a, m, hide (.inl ⟨by omega, rfl, rfl⟩), rfl, rfl, rfl⟩
  case rest =>
   obtain ⟨s0, r0, HD, rfl, rfl, e⟩ := hcut
   subst e
   clear q1 q2 q5 q6 q7 q8 q9 r1 r2 r3 r4 r5 r6 r7
   have HB0 := hide (show a ≤ s0 ∧ r0 ≤ m ∧ m + r0 ≤ pp + 1 ∧ pp < b + s0 ∧ s0 ≤ r0 by have := HD.out; have := HM.out; omega)
   have r8 : IntKind.i64.wrap (pp : Int) = (pp : Int) := i64_nat _ bpp
   go_wp2
   go_loopw [20, 21] (fun v20 v21 wr => ∃ (s r : Nat), (s0 ≤ s ∧ s ≤ r ∧ r ≤ r0) ∧ v20 = .int .i64 (s : Int) ∧ v21 = .int .i64 (r : Int) ∧ Hid (SR v0 B g n cap d wr) ∧ Hid (Cut2 ltF κ a m b s0 r0 pp s r d)) (fun v20 v21 _ => (intOf v21).toNat - (intOf v20).toNat)
   case atStart => exact ⟨s0, r0, ⟨Nat.le_refl _, HB0.out.2.2.2.2, Nat.le_refl _⟩, rfl, rfl, HS, hide (Cut2.start _ _ _ _ _ _ _)⟩
   case round =>
    clear qa r8
    obtain ⟨s, r, hij, rfl, rfl, HS1, HO⟩ := hrel
    by_cases hlt : s < r
    ·have hI : (s : Int) < (r : Int) := by omega
     obtain ⟨u, hu⟩ : ∃ z, s + r = z := ⟨_, rfl⟩
     obtain ⟨c, hc⟩ : ∃ z, u / 2 = z := ⟨_, rfl⟩
     obtain ⟨pc, hpc⟩ : ∃ z, pp - c = z := ⟨_, rfl⟩
     have HBB := HB0.out
     have bu : u ≤ 9223372036854775807 := by omega
     have bc : c ≤ 9223372036854775807 := by omega
     have hb1 : s ≤ c ∧ c < r := by omega
     have hcn : c < n := by omega
     have hpn : pc < n := by omega
     have lh : (c : Int) < (n : Int) := by omega
     have lm : (pc : Int) < (n : Int) := by omega
     have f7 : (pp : Int) - (c : Int) = (pc : Int) := by omega
     obtain ⟨x, hx⟩ := get_some (d := d) (i := c) (by have := HL.out; omega)
     obtain ⟨y, hy⟩ := get_some (d := d) (i := pc) (by have := HL.out; omega)
     obtain ⟨cx0, cx1, cx2⟩ := HS1.out.get hx
     have cxf0 := HS1.out.frozen (c * 3)
     have cxf1 := HS1.out.frozen (c * 3 + 1)
     have cxf2 := HS1.out.frozen (c * 3 + 2)
     obtain ⟨cy0, cy1, cy2⟩ := HS1.out.get hy
     have cyf0 := HS1.out.frozen (pc * 3)
     have cyf1 := HS1.out.frozen (pc * 3 + 1)
     have cyf2 := HS1.out.frozen (pc * 3 + 2)
     have lg := HS1.out.glt
     obtain ⟨z, hz⟩ : ∃ z, cmpI y x = z := ⟨_, rfl⟩
     have HZ := hide hz
     clear hz
     have HX := hide hx
     have HY : Hid (d[pp - c]? = some y) := hide (by rw [hpc]; exact hy)
     have k1 : s0 ≤ c := by omega
     have k2 : c < r0 := by omega
     have k3 : s0 ≤ c + 1 ∧ c + 1 ≤ r ∧ r ≤ r0 := by omega
     have k4 : s0 ≤ s ∧ s ≤ c ∧ c ≤ r0 := by omega
     have w1 : IntKind.i64.wrap ((c : Int) + 1) = (c : Int) + 1 := i64_nat (c + 1) (by omega)
     have KK := hide (And.intro k1 (And.intro k2 (And.intro k3 k4)))
     have HB1 := hide (And.intro hij hb1)
     have f1 : (s : Int) + (r : Int) = (u : Int) := by omega
     have f2 : (u : Int) / 2 = (c : Int) := by omega
     have f3 : IntKind.i64.wrap (u : Int) = (u : Int) := i64_nat _ bu
     have f4 : IntKind.u64.wrap (u : Int) = (u : Int) := u64_nat _ (Nat.le_trans bu (by decide))
     have f5 : wrap64 (c : Int) = (c : Int) := w64_nat _ bc
     have f6 : IntKind.i64.wrap (c : Int) = (c : Int) := i64_nat _ bc
     have f8 : IntKind.i64.wrap (pc : Int) = (pc : Int) := i64_nat _ (Nat.le_trans (Nat.le_of_lt hpn) (Nat.le_trans hn (by decide)))
     clear hx hy hu hc hb1 hij hpc HBB k1 k2 k3 k4
     go_upto_region 35 with fail
     refine wp_region_held_drew (S := Kept wr) (by kernel_rfl) (Kept.drew wr) (fun hS0 => ?_)
     refine tk 0 158 ?_ ?_ ?_; rotate_left; (focus (intro w h; go_simp; (try with_reducible rfl))); (try simp only [xd, xe, xf])
     refine tk 1 159 ?_ ?_ ?_; rotate_left; (focus (intro w h; go_simp; (try with_reducible rfl))); (try simp only [xd, xe, xf])
     refine tk 2 160 ?_ ?_ ?_; rotate_left; (focus (intro w h; go_simp; (try with_reducible rfl))); (try simp only [xd, xe, xf])
     refine tk 3 161 ?_ ?_ ?_; rotate_left; (focus (intro w h; go_simp; (try with_reducible rfl))); (try simp only [xd, xe, xf])
     refine tk 4 162 ?_ ?_ ?_; rotate_left; (focus (intro w h; go_simp; (try with_reducible rfl))); (try simp only [xd, xe, xf])
     refine tk 5 163 ?_ ?_ ?_; rotate_left; (focus (intro w h; go_simp; (try with_reducible rfl))); (try simp only [xd, xe, xf])
     refine tk 6 164 ?_ ?_ ?_; rotate_left; (focus (intro w h; go_simp; (try with_reducible rfl))); (try simp only [xd, xe, xf])
     refine tk 7 165 ?_ ?_ ?_; rotate_left; (focus (intro w h; go_simp; (try with_reducible rfl))); (try simp only [xd, xe, xf])
     refine tk 8 166 ?_ ?_ ?_; rotate_left; (focus (intro w h; go_simp; (try with_reducible rfl))); (try simp only [xd, xe, xf])
     refine tk 9 167 ?_ ?_ ?_; rotate_left; (focus (intro w h; go_simp; (try with_reducible rfl))); (try simp only [xd, xe, xf])
     refine tk 10 168 ?_ ?_ ?_; rotate_left; (focus (intro w h; go_simp; (try with_reducible rfl))); (try simp only [xd, xe, xf])
     refine call_at (i := 11) (d := 169) (by simp only [xa, xb, xc]; rfl) rfl (by kernel_rfl) rfl (fun K hK => ?_)
     go_simp
     refine (clo_any _ y x).mono ?_
     rintro e z1 ⟨rfl, hz⟩
     rw [HZ.out]
     have hS1 : Kept wr z1 := hS0.below (by simp) hz
     have HSz := hide (HS1.out.drew.below hz)
     clear hz
     go_wp2_with fail
     refine hK.out _ _ hS1 (fun hSn => ?_)
     clear hK K
     try simp only [xd, xe, xf]
     refine tk 12 170 ?_ ?_ ?_; rotate_left; (focus (intro w h; go_simp; (try with_reducible rfl))); (try simp only [xd, xe, xf])
     refine tk 13 171 ?_ ?_ ?_; rotate_left; (focus (intro w h; go_simp; (try with_reducible rfl))); (try simp only [xd, xe, xf])
     refine wpAnyH_done (by kernel_rfl) ?_ _
     clear hS0 hSn hS1 cx0 cxf0 cx1 cxf1 cx2 cxf2 cy0 cyf0 cy1 cyf1 cy2 cyf2
     by_cases hz0 : z < 0
     ·have hz2 : ¬ 0 ≤ z := Int.not_le.2 hz0
      have hd : (!decide (z < 0)) = false := by simp [hz0]
      rw [hd]
      clear hd
      have HLT : Hid (ltF y x = true) := hide (by unfold ltF; rw [HZ.out]; simpa using hz0)
      have HO2 : Hid (Cut2 ltF κ a m b s0 r0 pp s c d) := hide (by have hb := HB0.out; exact HO.out.down hb.1 hb.2.1 hb.2.2.1 hb.2.2.2.1 KK.out.1 KK.out.2.1 HX.out HY.out HLT.out)
      go_wp2
      clear f1 f2 f3 f4 f5 f6 f7 f8 w1
      go_roundw
      case rel => first | exact ⟨s, c, KK.out.2.2.2, rfl, by first | rfl | go_num, HSz, HO2⟩ | ((repeat apply Exists.intro); exact ⟨⟨s, c, KK.out.2.2.2, rfl, by first | rfl | go_num, HSz, HO2⟩, rfl⟩)
      case measure => have := HB1.out; simp [intOf]; omega
     ·have hd : (!decide (z < 0)) = true := by rw [decide_eq_false hz0]; rfl
      rw [hd]
      clear hd
      have HLT : Hid (ltF y x = false) := hide (by unfold ltF; rw [HZ.out]; simpa using hz0)
      have HO2 : Hid (Cut2 ltF κ a m b s0 r0 pp (c + 1) r d) := hide (by have hb := HB0.out; exact HO.out.up hb.1 hb.2.1 hb.2.2.1 hb.2.2.2.1 KK.out.1 KK.out.2.1 HX.out HY.out HLT.out)
      have hz1 : 0 ≤ z := Int.not_lt.1 hz0
      go_wp2
      clear f1 f2 f3 f4 f5 f6 f7 f8 w1
      go_roundw
      case rel => first | exact ⟨c + 1, r, KK.out.2.2.1, by first | rfl | go_num, rfl, HSz, HO2⟩ | ((repeat apply Exists.intro); exact ⟨⟨c + 1, r, KK.out.2.2.1, by first | rfl | go_num, rfl, HSz, HO2⟩, rfl⟩)
      case measure => have := HB1.out; simp [intOf]; omega
    ·obtain rfl : s = r := by omega
     obtain ⟨e, he⟩ : ∃ z, nn - s = z := ⟨_, rfl⟩
     have HE := hide (show e + s = mid + m ∧ s ≤ m ∧ m ≤ e ∧ e ≤ b ∧ a ≤ s ∧ s ≤ mid ∧ mid ≤ e by have := HM.out; have := HB0.out; have := HD.out; omega)
     have t1 : (nn : Int) - (s : Int) = (e : Int) := by have := HE.out; have := HM.out; omega
     have HIJ := hide hij
     have t2 : IntKind.i64.wrap (e : Int) = (e : Int) := i64_nat _ (by have := HE.out; omega)
     clear he hij
     by_cases hc1 : s < m
     ·have hc1' : (s : Int) < (m : Int) := Int.ofNat_lt.2 hc1
      by_cases hc2 : m < e
      ·have hc2' : (m : Int) < (e : Int) := Int.ofNat_lt.2 hc2
       have heb := HE.out.2.2.2.1
       go_wp2_with fail
       refine (rot_any v0 _ B g n cap d s m e HS1.out hc1 hc2 (Nat.le_trans heb hbn) hn).mono ?_
       rintro _ w2 ⟨rfl, hs2⟩
       have HSe := hide hs2
       clear hs2 HS1 t1 t2 heb
       by_cases hl1 : a < s
       ·have hl1' : (a : Int) < (s : Int) := Int.ofNat_lt.2 hl1
        by_cases hl2 : s < mid
        ·have hl2' : (s : Int) < (mid : Int) := Int.ofNat_lt.2 hl2
         go_wp2_with fail
         refine (IH.out w2 (rotL s m e d) a s mid (by have := HM.out; omega) HSe.out hl1 hl2 (by have := HM.out; omega)).mono ?_
         rintro _ w3 ⟨rfl, f, hs3, hf3⟩
         have HSf := hide hs3
         have HF := hide hf3
         clear hs3 hf3
         by_cases he1 : mid < e
         ·have he1' : (mid : Int) < (e : Int) := Int.ofNat_lt.2 he1
          by_cases he2 : e < b
          ·have he2' : (e : Int) < (b : Int) := Int.ofNat_lt.2 he2
           go_wp2_with fail
           refine (IH.out w3 f mid e b (by have := HM.out; omega) HSf.out he1 he2 hbn).mono ?_
           rintro _ w4 ⟨rfl, f2, hs4, hg4⟩
           have HSg := hide hs4
           have HG := hide hg4
           clear hs4 hg4
           have HFin := hide (show ∃ d', SR v0 B g n cap d' w4 ∧ SymR ltF κ a m b d d' from ⟨f2, HSg.out, sym_join (mid := mid) (s0 := s0) (r0 := r0) (s := s) (e := e) (f := f) ham hmb (by rw [HL.out]; exact hbn) HM.out.1 HD.out HIJ.out.1 HIJ.out.2.2 HE.out.1 (by rw [← HM.out.2.2.1]; exact HO.out) HF.out HG.out⟩)
           go_wp2
           go_end0
           exact ⟨rfl, HFin.out⟩
          ·have he2' : ¬ (e : Int) < (b : Int) := fun h => he2 (Int.ofNat_lt.1 h)
           have HG : Hid (SymR ltF κ mid e b f f) := hide (SymR.none_ HE.out.2.2.2.2.2.2 HE.out.2.2.2.1 (fun h => he2 h.2))
           have HFin := hide (show ∃ d', SR v0 B g n cap d' w3 ∧ SymR ltF κ a m b d d' from ⟨f, HSf.out, sym_join (mid := mid) (s0 := s0) (r0 := r0) (s := s) (e := e) (f := f) ham hmb (by rw [HL.out]; exact hbn) HM.out.1 HD.out HIJ.out.1 HIJ.out.2.2 HE.out.1 (by rw [← HM.out.2.2.1]; exact HO.out) HF.out HG.out⟩)
           go_wp2
           go_end0
           exact ⟨rfl, HFin.out⟩
         ·have he1' : ¬ (mid : Int) < (e : Int) := fun h => he1 (Int.ofNat_lt.1 h)
          have HG : Hid (SymR ltF κ mid e b f f) := hide (SymR.none_ HE.out.2.2.2.2.2.2 HE.out.2.2.2.1 (fun h => he1 h.1))
          have HFin := hide (show ∃ d', SR v0 B g n cap d' w3 ∧ SymR ltF κ a m b d d' from ⟨f, HSf.out, sym_join (mid := mid) (s0 := s0) (r0 := r0) (s := s) (e := e) (f := f) ham hmb (by rw [HL.out]; exact hbn) HM.out.1 HD.out HIJ.out.1 HIJ.out.2.2 HE.out.1 (by rw [← HM.out.2.2.1]; exact HO.out) HF.out HG.out⟩)
          go_wp2
          go_end0
          exact ⟨rfl, HFin.out⟩
        ·have hl2' : ¬ (s : Int) < (mid : Int) := fun h => hl2 (Int.ofNat_lt.1 h)
         obtain ⟨f, hf⟩ : ∃ f, rotL s m e d = f := ⟨_, rfl⟩
         have HF : Hid (SymR ltF κ a s mid (rotL s m e d) f) := hide (by rw [← hf]; exact SymR.none_ HE.out.2.2.2.2.1 HE.out.2.2.2.2.2.1 (fun h => hl2 h.2))
         have HSf : Hid (SR v0 B g n cap f w2) := hide (by rw [← hf]; exact HSe.out)
         clear hf
         by_cases he1 : mid < e
         ·have he1' : (mid : Int) < (e : Int) := Int.ofNat_lt.2 he1
          by_cases he2 : e < b
          ·have he2' : (e : Int) < (b : Int) := Int.ofNat_lt.2 he2
           go_wp2_with fail
           refine (IH.out w2 f mid e b (by have := HM.out; omega) HSf.out he1 he2 hbn).mono ?_
           rintro _ w4 ⟨rfl, f2, hs4, hg4⟩
           have HSg := hide hs4
           have HG := hide hg4
           clear hs4 hg4
           have HFin := hide (show ∃ d', SR v0 B g n cap d' w4 ∧ SymR ltF κ a m b d d' from ⟨f2, HSg.out, sym_join (mid := mid) (s0 := s0) (r0 := r0) (s := s) (e := e) (f := f) ham hmb (by rw [HL.out]; exact hbn) HM.out.1 HD.out HIJ.out.1 HIJ.out.2.2 HE.out.1 (by rw [← HM.out.2.2.1]; exact HO.out) HF.out HG.out⟩)
           go_wp2
           go_end0
           exact ⟨rfl, HFin.out⟩
          ·have he2' : ¬ (e : Int) < (b : Int) := fun h => he2 (Int.ofNat_lt.1 h)
           have HG : Hid (SymR ltF κ mid e b f f) := hide (SymR.none_ HE.out.2.2.2.2.2.2 HE.out.2.2.2.1 (fun h => he2 h.2))
           have HFin := hide (show ∃ d', SR v0 B g n cap d' w2 ∧ SymR ltF κ a m b d d' from ⟨f, HSf.out, sym_join (mid := mid) (s0 := s0) (r0 := r0) (s := s) (e := e) (f := f) ham hmb (by rw [HL.out]; exact hbn) HM.out.1 HD.out HIJ.out.1 HIJ.out.2.2 HE.out.1 (by rw [← HM.out.2.2.1]; exact HO.out) HF.out HG.out⟩)
           go_wp2
           go_end0
           exact ⟨rfl, HFin.out⟩
         ·have he1' : ¬ (mid : Int) < (e : Int) := fun h => he1 (Int.ofNat_lt.1 h)
          have HG : Hid (SymR ltF κ mid e b f f) := hide (SymR.none_ HE.out.2.2.2.2.2.2 HE.out.2.2.2.1 (fun h => he1 h.1))
          have HFin := hide (show ∃ d', SR v0 B g n cap d' w2 ∧ SymR ltF κ a m b d d' from ⟨f, HSf.out, sym_join (mid := mid) (s0 := s0) (r0 := r0) (s := s) (e := e) (f := f) ham hmb (by rw [HL.out]; exact hbn) HM.out.1 HD.out HIJ.out.1 HIJ.out.2.2 HE.out.1 (by rw [← HM.out.2.2.1]; exact HO.out) HF.out HG.out⟩)
          go_wp2
          go_end0
          exact ⟨rfl, HFin.out⟩
       ·have hl1' : ¬ (a : Int) < (s : Int) := fun h => hl1 (Int.ofNat_lt.1 h)
        obtain ⟨f, hf⟩ : ∃ f, rotL s m e d = f := ⟨_, rfl⟩
        have HF : Hid (SymR ltF κ a s mid (rotL s m e d) f) := hide (by rw [← hf]; exact SymR.none_ HE.out.2.2.2.2.1 HE.out.2.2.2.2.2.1 (fun h => hl1 h.1))
        have HSf : Hid (SR v0 B g n cap f w2) := hide (by rw [← hf]; exact HSe.out)
        clear hf
        by_cases he1 : mid < e
        ·have he1' : (mid : Int) < (e : Int) := Int.ofNat_lt.2 he1
         by_cases he2 : e < b
         ·have he2' : (e : Int) < (b : Int) := Int.ofNat_lt.2 he2
          go_wp2_with fail
          refine (IH.out w2 f mid e b (by have := HM.out; omega) HSf.out he1 he2 hbn).mono ?_
          rintro _ w4 ⟨rfl, f2, hs4, hg4⟩
          have HSg := hide hs4
          have HG := hide hg4
          clear hs4 hg4
          have HFin := hide (show ∃ d', SR v0 B g n cap d' w4 ∧ SymR ltF κ a m b d d' from ⟨f2, HSg.out, sym_join (mid := mid) (s0 := s0) (r0 := r0) (s := s) (e := e) (f := f) ham hmb (by rw [HL.out]; exact hbn) HM.out.1 HD.out HIJ.out.1 HIJ.out.2.2 HE.out.1 (by rw [← HM.out.2.2.1]; exact HO.out) HF.out HG.out⟩)
          go_wp2
          go_end0
          exact ⟨rfl, HFin.out⟩
         ·have he2' : ¬ (e : Int) < (b : Int) := fun h => he2 (Int.ofNat_lt.1 h)
          have HG : Hid (SymR ltF κ mid e b f f) := hide (SymR.none_ HE.out.2.2.2.2.2.2 HE.out.2.2.2.1 (fun h => he2 h.2))
          have HFin := hide (show ∃ d', SR v0 B g n cap d' w2 ∧ SymR ltF κ a m b d d' from ⟨f, HSf.out, sym_join (mid := mid) (s0 := s0) (r0 := r0) (s := s) (e := e) (f := f) ham hmb (by rw [HL.out]; exact hbn) HM.out.1 HD.out HIJ.out.1 HIJ.out.2.2 HE.out.1 (by rw [← HM.out.2.2.1]; exact HO.out) HF.out HG.out⟩)
          go_wp2
          go_end0
          exact ⟨rfl, HFin.out⟩
        ·have he1' : ¬ (mid : Int) < (e : Int) := fun h => he1 (Int.ofNat_lt.1 h)
         have HG : Hid (SymR ltF κ mid e b f f) := hide (SymR.none_ HE.out.2.2.2.2.2.2 HE.out.2.2.2.1 (fun h => he1 h.1))
         have HFin := hide (show ∃ d', SR v0 B g n cap d' w2 ∧ SymR ltF κ a m b d d' from ⟨f, HSf.out, sym_join (mid := mid) (s0 := s0) (r0 := r0) (s := s) (e := e) (f := f) ham hmb (by rw [HL.out]; exact hbn) HM.out.1 HD.out HIJ.out.1 HIJ.out.2.2 HE.out.1 (by rw [← HM.out.2.2.1]; exact HO.out) HF.out HG.out⟩)
         go_wp2
         go_end0
         exact ⟨rfl, HFin.out⟩
      ·have hc2' : ¬ (m : Int) < (e : Int) := fun h => hc2 (Int.ofNat_lt.1 h)
       have HSe : Hid (SR v0 B g n cap (rotL s m e d) wr) := hide (by rw [rotL_nil (.inr (by have := HE.out; omega)) (by have := HE.out; omega) (by have := HE.out; have := HL.out; omega)]; exact HS1.out)
       by_cases hl1 : a < s
       ·have hl1' : (a : Int) < (s : Int) := Int.ofNat_lt.2 hl1
        by_cases hl2 : s < mid
        ·have hl2' : (s : Int) < (mid : Int) := Int.ofNat_lt.2 hl2
         go_wp2_with fail
         refine (IH.out wr (rotL s m e d) a s mid (by have := HM.out; omega) HSe.out hl1 hl2 (by have := HM.out; omega)).mono ?_
         rintro _ w3 ⟨rfl, f, hs3, hf3⟩
         have HSf := hide hs3
         have HF := hide hf3
         clear hs3 hf3
         by_cases he1 : mid < e
         ·have he1' : (mid : Int) < (e : Int) := Int.ofNat_lt.2 he1
          by_cases he2 : e < b
          ·have he2' : (e : Int) < (b : Int) := Int.ofNat_lt.2 he2
           go_wp2_with fail
           refine (IH.out w3 f mid e b (by have := HM.out; omega) HSf.out he1 he2 hbn).mono ?_
           rintro _ w4 ⟨rfl, f2, hs4, hg4⟩
           have HSg := hide hs4
           have HG := hide hg4
           clear hs4 hg4
           have HFin := hide (show ∃ d', SR v0 B g n cap d' w4 ∧ SymR ltF κ a m b d d' from ⟨f2, HSg.out, sym_join (mid := mid) (s0 := s0) (r0 := r0) (s := s) (e := e) (f := f) ham hmb (by rw [HL.out]; exact hbn) HM.out.1 HD.out HIJ.out.1 HIJ.out.2.2 HE.out.1 (by rw [← HM.out.2.2.1]; exact HO.out) HF.out HG.out⟩)
           go_wp2
           go_end0
           exact ⟨rfl, HFin.out⟩
          ·have he2' : ¬ (e : Int) < (b : Int) := fun h => he2 (Int.ofNat_lt.1 h)
           have HG : Hid (SymR ltF κ mid e b f f) := hide (SymR.none_ HE.out.2.2.2.2.2.2 HE.out.2.2.2.1 (fun h => he2 h.2))
           have HFin := hide (show ∃ d', SR v0 B g n cap d' w3 ∧ SymR ltF κ a m b d d' from ⟨f, HSf.out, sym_join (mid := mid) (s0 := s0) (r0 := r0) (s := s) (e := e) (f := f) ham hmb (by rw [HL.out]; exact hbn) HM.out.1 HD.out HIJ.out.1 HIJ.out.2.2 HE.out.1 (by rw [← HM.out.2.2.1]; exact HO.out) HF.out HG.out⟩)
           go_wp2
           go_end0
           exact ⟨rfl, HFin.out⟩
         ·have he1' : ¬ (mid : Int) < (e : Int) := fun h => he1 (Int.ofNat_lt.1 h)
          have HG : Hid (SymR ltF κ mid e b f f) := hide (SymR.none_ HE.out.2.2.2.2.2.2 HE.out.2.2.2.1 (fun h => he1 h.1))
          have HFin := hide (show ∃ d', SR v0 B g n cap d' w3 ∧ SymR ltF κ a m b d d' from ⟨f, HSf.out, sym_join (mid := mid) (s0 := s0) (r0 := r0) (s := s) (e := e) (f := f) ham hmb (by rw [HL.out]; exact hbn) HM.out.1 HD.out HIJ.out.1 HIJ.out.2.2 HE.out.1 (by rw [← HM.out.2.2.1]; exact HO.out) HF.out HG.out⟩)
          go_wp2
          go_end0
          exact ⟨rfl, HFin.out⟩
        ·have hl2' : ¬ (s : Int) < (mid : Int) := fun h => hl2 (Int.ofNat_lt.1 h)
         obtain ⟨f, hf⟩ : ∃ f, rotL s m e d = f := ⟨_, rfl⟩
         have HF : Hid (SymR ltF κ a s mid (rotL s m e d) f) := hide (by rw [← hf]; exact SymR.none_ HE.out.2.2.2.2.1 HE.out.2.2.2.2.2.1 (fun h => hl2 h.2))
         have HSf : Hid (SR v0 B g n cap f wr) := hide (by rw [← hf]; exact HSe.out)
         clear hf
         by_cases he1 : mid < e
         ·have he1' : (mid : Int) < (e : Int) := Int.ofNat_lt.2 he1
          by_cases he2 : e < b
          ·have he2' : (e : Int) < (b : Int) := Int.ofNat_lt.2 he2
           go_wp2_with fail
           refine (IH.out wr f mid e b (by have := HM.out; omega) HSf.out he1 he2 hbn).mono ?_
           rintro _ w4 ⟨rfl, f2, hs4, hg4⟩
           have HSg := hide hs4
           have HG := hide hg4
           clear hs4 hg4
           have HFin := hide (show ∃ d', SR v0 B g n cap d' w4 ∧ SymR ltF κ a m b d d' from ⟨f2, HSg.out, sym_join (mid := mid) (s0 := s0) (r0 := r0) (s := s) (e := e) (f := f) ham hmb (by rw [HL.out]; exact hbn) HM.out.1 HD.out HIJ.out.1 HIJ.out.2.2 HE.out.1 (by rw [← HM.out.2.2.1]; exact HO.out) HF.out HG.out⟩)
           go_wp2
           go_end0
           exact ⟨rfl, HFin.out⟩
          ·have he2' : ¬ (e : Int) < (b : Int) := fun h => he2 (Int.ofNat_lt.1 h)
           have HG : Hid (SymR ltF κ mid e b f f) := hide (SymR.none_ HE.out.2.2.2.2.2.2 HE.out.2.2.2.1 (fun h => he2 h.2))
           have HFin := hide (show ∃ d', SR v0 B g n cap d' wr ∧ SymR ltF κ a m b d d' from ⟨f, HSf.out, sym_join (mid := mid) (s0 := s0) (r0 := r0) (s := s) (e := e) (f := f) ham hmb (by rw [HL.out]; exact hbn) HM.out.1 HD.out HIJ.out.1 HIJ.out.2.2 HE.out.1 (by rw [← HM.out.2.2.1]; exact HO.out) HF.out HG.out⟩)
           go_wp2
           go_end0
           exact ⟨rfl, HFin.out⟩
         ·have he1' : ¬ (mid : Int) < (e : Int) := fun h => he1 (Int.ofNat_lt.1 h)
          have HG : Hid (SymR ltF κ mid e b f f) := hide (SymR.none_ HE.out.2.2.2.2.2.2 HE.out.2.2.2.1 (fun h => he1 h.1))
          have HFin := hide (show ∃ d', SR v0 B g n cap d' wr ∧ SymR ltF κ a m b d d' from ⟨f, HSf.out, sym_join (mid := mid) (s0 := s0) (r0 := r0) (s := s) (e := e) (f := f) ham hmb (by rw [HL.out]; exact hbn) HM.out.1 HD.out HIJ.out.1 HIJ.out.2.2 HE.out.1 (by rw [← HM.out.2.2.1]; exact HO.out) HF.out HG.out⟩)
          go_wp2
          go_end0
          exact ⟨rfl, HFin.out⟩
       ·have hl1' : ¬ (a : Int) < (s : Int) := fun h => hl1 (Int.ofNat_lt.1 h)
        obtain ⟨f, hf⟩ : ∃ f, rotL s m e d = f := ⟨_, rfl⟩
        have HF : Hid (SymR ltF κ a s mid (rotL s m e d) f) := hide (by rw [← hf]; exact SymR.none_ HE.out.2.2.2.2.1 HE.out.2.2.2.2.2.1 (fun h => hl1 h.1))
        have HSf : Hid (SR v0 B g n cap f wr) := hide (by rw [← hf]; exact HSe.out)
        clear hf
        by_cases he1 : mid < e
        ·have he1' : (mid : Int) < (e : Int) := Int.ofNat_lt.2 he1
         by_cases he2 : e < b
         ·have he2' : (e : Int) < (b : Int) := Int.ofNat_lt.2 he2
          go_wp2_with fail
          refine (IH.out wr f mid e b (by have := HM.out; omega) HSf.out he1 he2 hbn).mono ?_
          rintro _ w4 ⟨rfl, f2, hs4, hg4⟩
          have HSg := hide hs4
          have HG := hide hg4
          clear hs4 hg4
          have HFin := hide (show ∃ d', SR v0 B g n cap d' w4 ∧ SymR ltF κ a m b d d' from ⟨f2, HSg.out, sym_join (mid := mid) (s0 := s0) (r0 := r0) (s := s) (e := e) (f := f) ham hmb (by rw [HL.out]; exact hbn) HM.out.1 HD.out HIJ.out.1 HIJ.out.2.2 HE.out.1 (by rw [← HM.out.2.2.1]; exact HO.out) HF.out HG.out⟩)
          go_wp2
          go_end0
          exact ⟨rfl, HFin.out⟩
         ·have he2' : ¬ (e : Int) < (b : Int) := fun h => he2 (Int.ofNat_lt.1 h)
          have HG : Hid (SymR ltF κ mid e b f f) := hide (SymR.none_ HE.out.2.2.2.2.2.2 HE.out.2.2.2.1 (fun h => he2 h.2))
          have HFin := hide (show ∃ d', SR v0 B g n cap d' wr ∧ SymR ltF κ a m b d d' from ⟨f, HSf.out, sym_join (mid := mid) (s0 := s0) (r0 := r0) (s := s) (e := e) (f := f) ham hmb (by rw [HL.out]; exact hbn) HM.out.1 HD.out HIJ.out.1 HIJ.out.2.2 HE.out.1 (by rw [← HM.out.2.2.1]; exact HO.out) HF.out HG.out⟩)
          go_wp2
          go_end0
          exact ⟨rfl, HFin.out⟩
        ·have he1' : ¬ (mid : Int) < (e : Int) := fun h => he1 (Int.ofNat_lt.1 h)
         have HG : Hid (SymR ltF κ mid e b f f) := hide (SymR.none_ HE.out.2.2.2.2.2.2 HE.out.2.2.2.1 (fun h => he1 h.1))
         have HFin := hide (show ∃ d', SR v0 B g n cap d' wr ∧ SymR ltF κ a m b d d' from ⟨f, HSf.out, sym_join (mid := mid) (s0 := s0) (r0 := r0) (s := s) (e := e) (f := f) ham hmb (by rw [HL.out]; exact hbn) HM.out.1 HD.out HIJ.out.1 HIJ.out.2.2 HE.out.1 (by rw [← HM.out.2.2.1]; exact HO.out) HF.out HG.out⟩)
         go_wp2
         go_end0
         exact ⟨rfl, HFin.out⟩
     ·have hc1' : ¬ (s : Int) < (m : Int) := fun h => hc1 (Int.ofNat_lt.1 h)
      have HSe : Hid (SR v0 B g n cap (rotL s m e d) wr) := hide (by rw [rotL_nil (.inl (by have := HE.out; omega)) (by have := HE.out; omega) (by have := HE.out; have := HL.out; omega)]; exact HS1.out)
      by_cases hl1 : a < s
      ·have hl1' : (a : Int) < (s : Int) := Int.ofNat_lt.2 hl1
       by_cases hl2 : s < mid
       ·have hl2' : (s : Int) < (mid : Int) := Int.ofNat_lt.2 hl2
        go_wp2_with fail
        refine (IH.out wr (rotL s m e d) a s mid (by have := HM.out; omega) HSe.out hl1 hl2 (by have := HM.out; omega)).mono ?_
        rintro _ w3 ⟨rfl, f, hs3, hf3⟩
        have HSf := hide hs3
        have HF := hide hf3
        clear hs3 hf3
        by_cases he1 : mid < e
        ·have he1' : (mid : Int) < (e : Int) := Int.ofNat_lt.2 he1
         by_cases he2 : e < b
         ·have he2' : (e : Int) < (b : Int) := Int.ofNat_lt.2 he2
          go_wp2_with fail
          refine (IH.out w3 f mid e b (by have := HM.out; omega) HSf.out he1 he2 hbn).mono ?_
          rintro _ w4 ⟨rfl, f2, hs4, hg4⟩
          have HSg := hide hs4
          have HG := hide hg4
          clear hs4 hg4
          have HFin := hide (show ∃ d', SR v0 B g n cap d' w4 ∧ SymR ltF κ a m b d d' from ⟨f2, HSg.out, sym_join (mid := mid) (s0 := s0) (r0 := r0) (s := s) (e := e) (f := f) ham hmb (by rw [HL.out]; exact hbn) HM.out.1 HD.out HIJ.out.1 HIJ.out.2.2 HE.out.1 (by rw [← HM.out.2.2.1]; exact HO.out) HF.out HG.out⟩)
          go_wp2
          go_end0
          exact ⟨rfl, HFin.out⟩
         ·have he2' : ¬ (e : Int) < (b : Int) := fun h => he2 (Int.ofNat_lt.1 h)
          have HG : Hid (SymR ltF κ mid e b f f) := hide (SymR.none_ HE.out.2.2.2.2.2.2 HE.out.2.2.2.1 (fun h => he2 h.2))
          have HFin := hide (show ∃ d', SR v0 B g n cap d' w3 ∧ SymR ltF κ a m b d d' from ⟨f, HSf.out, sym_join (mid := mid) (s0 := s0) (r0 := r0) (s := s) (e := e) (f := f) ham hmb (by rw [HL.out]; exact hbn) HM.out.1 HD.out HIJ.out.1 HIJ.out.2.2 HE.out.1 (by rw [← HM.out.2.2.1]; exact HO.out) HF.out HG.out⟩)
          go_wp2
          go_end0
          exact ⟨rfl, HFin.out⟩
        ·have he1' : ¬ (mid : Int) < (e : Int) := fun h => he1 (Int.ofNat_lt.1 h)
         have HG : Hid (SymR ltF κ mid e b f f) := hide (SymR.none_ HE.out.2.2.2.2.2.2 HE.out.2.2.2.1 (fun h => he1 h.1))
         have HFin := hide (show ∃ d', SR v0 B g n cap d' w3 ∧ SymR ltF κ a m b d d' from ⟨f, HSf.out, sym_join (mid := mid) (s0 := s0) (r0 := r0) (s := s) (e := e) (f := f) ham hmb (by rw [HL.out]; exact hbn) HM.out.1 HD.out HIJ.out.1 HIJ.out.2.2 HE.out.1 (by rw [← HM.out.2.2.1]; exact HO.out) HF.out HG.out⟩)
         go_wp2
         go_end0
         exact ⟨rfl, HFin.out⟩
       ·have hl2' : ¬ (s : Int) < (mid : Int) := fun h => hl2 (Int.ofNat_lt.1 h)
        obtain ⟨f, hf⟩ : ∃ f, rotL s m e d = f := ⟨_, rfl⟩
        have HF : Hid (SymR ltF κ a s mid (rotL s m e d) f) := hide (by rw [← hf]; exact SymR.none_ HE.out.2.2.2.2.1 HE.out.2.2.2.2.2.1 (fun h => hl2 h.2))
        have HSf : Hid (SR v0 B g n cap f wr) := hide (by rw [← hf]; exact HSe.out)
        clear hf
        by_cases he1 : mid < e
        ·have he1' : (mid : Int) < (e : Int) := Int.ofNat_lt.2 he1
         by_cases he2 : e < b
         ·have he2' : (e : Int) < (b : Int) := Int.ofNat_lt.2 he2
          go_wp2_with fail
          refine (IH.out wr f mid e b (by have := HM.out; omega) HSf.out he1 he2 hbn).mono ?_
          rintro _ w4 ⟨rfl, f2, hs4, hg4⟩
          have HSg := hide hs4
          have HG := hide hg4
          clear hs4 hg4
          have HFin := hide (show ∃ d', SR v0 B g n cap d' w4 ∧ SymR ltF κ a m b d d' from ⟨f2, HSg.out, sym_join (mid := mid) (s0 := s0) (r0 := r0) (s := s) (e := e) (f := f) ham hmb (by rw [HL.out]; exact hbn) HM.out.1 HD.out HIJ.out.1 HIJ.out.2.2 HE.out.1 (by rw [← HM.out.2.2.1]; exact HO.out) HF.out HG.out⟩)
          go_wp2
          go_end0
          exact ⟨rfl, HFin.out⟩
         ·have he2' : ¬ (e : Int) < (b : Int) := fun h => he2 (Int.ofNat_lt.1 h)
          have HG : Hid (SymR ltF κ mid e b f f) := hide (SymR.none_ HE.out.2.2.2.2.2.2 HE.out.2.2.2.1 (fun h => he2 h.2))
          have HFin := hide (show ∃ d', SR v0 B g n cap d' wr ∧ SymR ltF κ a m b d d' from ⟨f, HSf.out, sym_join (mid := mid) (s0 := s0) (r0 := r0) (s := s) (e := e) (f := f) ham hmb (by rw [HL.out]; exact hbn) HM.out.1 HD.out HIJ.out.1 HIJ.out.2.2 HE.out.1 (by rw [← HM.out.2.2.1]; exact HO.out) HF.out HG.out⟩)
          go_wp2
          go_end0
          exact ⟨rfl, HFin.out⟩
        ·have he1' : ¬ (mid : Int) < (e : Int) := fun h => he1 (Int.ofNat_lt.1 h)
         have HG : Hid (SymR ltF κ mid e b f f) := hide (SymR.none_ HE.out.2.2.2.2.2.2 HE.out.2.2.2.1 (fun h => he1 h.1))
         have HFin := hide (show ∃ d', SR v0 B g n cap d' wr ∧ SymR ltF κ a m b d d' from ⟨f, HSf.out, sym_join (mid := mid) (s0 := s0) (r0 := r0) (s := s) (e := e) (f := f) ham hmb (by rw [HL.out]; exact hbn) HM.out.1 HD.out HIJ.out.1 HIJ.out.2.2 HE.out.1 (by rw [← HM.out.2.2.1]; exact HO.out) HF.out HG.out⟩)
         go_wp2
         go_end0
         exact ⟨rfl, HFin.out⟩
      ·have hl1' : ¬ (a : Int) < (s : Int) := fun h => hl1 (Int.ofNat_lt.1 h)
       obtain ⟨f, hf⟩ : ∃ f, rotL s m e d = f := ⟨_, rfl⟩
       have HF : Hid (SymR ltF κ a s mid (rotL s m e d) f) := hide (by rw [← hf]; exact SymR.none_ HE.out.2.2.2.2.1 HE.out.2.2.2.2.2.1 (fun h => hl1 h.1))
       have HSf : Hid (SR v0 B g n cap f wr) := hide (by rw [← hf]; exact HSe.out)
       clear hf
       by_cases he1 : mid < e
       ·have he1' : (mid : Int) < (e : Int) := Int.ofNat_lt.2 he1
        by_cases he2 : e < b
        ·have he2' : (e : Int) < (b : Int) := Int.ofNat_lt.2 he2
         go_wp2_with fail
         refine (IH.out wr f mid e b (by have := HM.out; omega) HSf.out he1 he2 hbn).mono ?_
         rintro _ w4 ⟨rfl, f2, hs4, hg4⟩
         have HSg := hide hs4
         have HG := hide hg4
         clear hs4 hg4
         have HFin := hide (show ∃ d', SR v0 B g n cap d' w4 ∧ SymR ltF κ a m b d d' from ⟨f2, HSg.out, sym_join (mid := mid) (s0 := s0) (r0 := r0) (s := s) (e := e) (f := f) ham hmb (by rw [HL.out]; exact hbn) HM.out.1 HD.out HIJ.out.1 HIJ.out.2.2 HE.out.1 (by rw [← HM.out.2.2.1]; exact HO.out) HF.out HG.out⟩)
         go_wp2
         go_end0
         exact ⟨rfl, HFin.out⟩
        ·have he2' : ¬ (e : Int) < (b : Int) := fun h => he2 (Int.ofNat_lt.1 h)
         have HG : Hid (SymR ltF κ mid e b f f) := hide (SymR.none_ HE.out.2.2.2.2.2.2 HE.out.2.2.2.1 (fun h => he2 h.2))
         have HFin := hide (show ∃ d', SR v0 B g n cap d' wr ∧ SymR ltF κ a m b d d' from ⟨f, HSf.out, sym_join (mid := mid) (s0 := s0) (r0 := r0) (s := s) (e := e) (f := f) ham hmb (by rw [HL.out]; exact hbn) HM.out.1 HD.out HIJ.out.1 HIJ.out.2.2 HE.out.1 (by rw [← HM.out.2.2.1]; exact HO.out) HF.out HG.out⟩)
         go_wp2
         go_end0
         exact ⟨rfl, HFin.out⟩
       ·have he1' : ¬ (mid : Int) < (e : Int) := fun h => he1 (Int.ofNat_lt.1 h)
        have HG : Hid (SymR ltF κ mid e b f f) := hide (SymR.none_ HE.out.2.2.2.2.2.2 HE.out.2.2.2.1 (fun h => he1 h.1))
        have HFin := hide (show ∃ d', SR v0 B g n cap d' wr ∧ SymR ltF κ a m b d d' from ⟨f, HSf.out, sym_join (mid := mid) (s0 := s0) (r0 := r0) (s := s) (e := e) (f := f) ham hmb (by rw [HL.out]; exact hbn) HM.out.1 HD.out HIJ.out.1 HIJ.out.2.2 HE.out.1 (by rw [← HM.out.2.2.1]; exact HO.out) HF.out HG.out⟩)
        go_wp2
        go_end0
        exact ⟨rfl, HFin.out⟩
end Go.Proofs.Ytihdpfjonkagaaa
