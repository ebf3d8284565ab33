/- Lemmas: Rob, Sar, Sai, Eml, Egr. -/
import Derived.Test.YtihdpfjonkagaaaProg
import Derived.Lib.Hide
import Derived.WalkSpells
import Derived.WalkMore
import Derived.IntWalk
import Derived.Test.YtihdpfjonkagaaaPkWw3
set_option linter.unusedVariables false
set_option linter.unusedSimpArgs false
set_option maxRecDepth 100000
set_option maxHeartbeats 16000000
namespace Go.Proofs.Ytihdpfjonkagaaa
open Go.RowKit
def RowPost (w : World) (es : List Ed) (e : Ending) (w' : World) : Prop := ∃ A c, e = .returned (.slice A es.length c) ∧ w'.ownsRow w.heap.size 44 3 (.slice A es.length c) es.length (edFlat es) ∧ Below w.heap.size w w'
theorem ownsRow_lower {w : World} {base base' : Nat} {e : TypeId} {size : Nat} {v : Value} {n : Nat} {xs : List Value} (h : w.ownsRow base e size v n xs) (hb : base' ≤ base) : w.ownsRow base' e size v n xs :=
 ⟨h.1, h.2.imp id fun ⟨g, cap, cur, h1, h2, h3⟩ => ⟨g, cap, cur, h1, Nat.le_trans hb h2, h3⟩⟩
def fromF (es : List Ed) (v : Int) : List Ed := es.filter fun e => e.1 == v
def toF (es : List Ed) (v : Int) : List Ed := es.filter fun e => e.2.1 == v
theorem filt_step {f : Ed → Bool} {es : List Ed} {k : Nat} {e : Ed} (h : es[k]? = some e) : (es.take (k + 1)).filter f = (es.take k).filter f ++ (if f e then [e] else []) := by
 rw [List.take_add_one, h, List.filter_append]
 congr 1
 simp only [Option.toList_some, List.filter_cons, List.filter_nil]
theorem filt_len {f : Ed → Bool} (es : List Ed) (k : Nat) : ((es.take k).filter f).length ≤ k := Nat.le_trans (List.length_filter_le _ _) (by rw [List.length_take]; omega)
theorem rout_any (w : World) (V : Int) (A : Option Addr) (es : List Ed) (L c : Nat) (v : Int) (hL : es.length = L) (hE : Eds w w.heap.size A es) (hc : L ≤ 8192) :
  Calls Try.prog 35 #[.agg #[.int .i64 V, .slice A L c], .int .i64 v] w (RowPost w (fromF es v)) := by
 obtain ⟨i0, hi0, hz0, hz1, hz2⟩ := info_parts (show (Try.prog.info? 44).map (fun i => (i.zero, i.size, i.bytes)) = some (some (.agg #[.int .i64 0, .int .i64 0, .int .i64 0]), 3, 24) by kernel_rfl)
 obtain ⟨u, hu⟩ : ∃ u, w.alloc (.cells #[.int .i64 V, .slice A L c] 30) = u := ⟨_, rfl⟩
 have hzu : u.heap.size = w.heap.size + 1 := by rw [← hu]; simp
 have hbu : Below w.heap.size w u := by rw [← hu]; exact (Below.refl _ _).alloc (Nat.le_refl _) _
 have cg : u.heap[w.heap.size]? = some (.cells #[.int .i64 V, .slice A L c] 30) := by rw [← hu]; exact heap_alloc_last w _
 have cg1 : u.cell? ⟨w.heap.size, 1, none⟩ = some (.slice A L c) := cell_of_row _ _ 1 _ _ _ cg
 have hlg : w.heap.size < u.heap.size := by omega
 have HL := hide hL
 have EU := hide (hE.below hbu (Nat.le_refl _))
 have HB := hide hbu
 have HU := hide hu
 clear hu hzu hbu cg hE hL
 go_enter Try.func35, Try.ntmps35
 go_wp2
 rw [HU.out]
 go_loopw [5, 6] (fun v5 v6 wr => ∃ (k n : Nat) (A' : Option Addr) (c' : Nat), k ≤ L ∧ n ≤ k ∧ v6 = .int .i64 k ∧ v5 = .slice A' n c' ∧ Hid (((es.take k).filter (fun e => e.1 == v)).length = n) ∧ Hid (wr.ownsRow u.heap.size 44 3 (.slice A' n c') n (edFlat ((es.take k).filter (fun e => e.1 == v)))) ∧ Hid (Kept u wr) ∧ Hid (Below u.heap.size u wr) ∧ u.heap.size ≤ wr.heap.size) (fun _ v6 _ => L - (intOf v6).toNat)
 case atStart => exact ⟨0, 0, none, 0, by omega, by omega, rfl, rfl, hide rfl, hide (World.ownsRow_nil _ _ _ _), hide (Kept.refl u), hide (Below.refl _ _), Nat.le_refl _⟩
 case round =>
  obtain ⟨k, n, A', c', hk, hn, rfl, rfl, hlen, hown, hk1, hb1, hs1⟩ := hrel
  have a1 := (hk1.out ⟨w.heap.size, 1, none⟩ hlg).trans cg1
  by_cases hlt : k < L
  ·obtain ⟨⟨x, y, z⟩, he⟩ : ∃ e, es[k]? = some e := ⟨_, List.getElem?_eq_getElem (by rw [HL.out]; exact hlt)⟩
   obtain ⟨b, off, rfl, hbl, d0, d1, d2, d3, d4⟩ := EU.out.get he
   have d0 := (hk1.out ⟨b, off + k * 3, none⟩ (by show b < _; omega)).trans d0
   have d1 := (hk1.out ⟨b, off + k * 3 + 1, none⟩ (by show b < _; omega)).trans d1
   have d2 := (hk1.out ⟨b, off + k * 3 + 2, none⟩ (by show b < _; omega)).trans d2
   have hst := hide (filt_step (f := fun e => e.1 == v) he)
   have hI0 : (k : Int) < (L : Int) := by omega
   clear he
   dsimp only at d0 d1 d2 d3 d4
   by_cases hxy : x = v
   ·subst hxy
    have hfe : Hid ((es.take (k + 1)).filter (fun e => e.1 == x) = (es.take k).filter (fun e => e.1 == x) ++ [(x, y, z)]) := hide (by rw [hst.out]; simp)
    go_wp2_with (at_builtin; refine wpList_app rfl (.tmp 22) (.tmp 28) 28 rfl u.heap.size 44 i0 (.agg #[.int .i64 0, .int .i64 0, .int .i64 0]) 3 24 Try.underlying28 hi0 hz0 hz1 hz2 rfl (by decide) (.slice A' n c') n _ rfl (hown.out.alloc _) (wr.heap.size + 1) (some ⟨wr.heap.size, 0, none⟩) 1 1 [.int .i64 x, .int .i64 y, .int .i64 z] rfl rfl (Rd.new _ _ _ _) (by simp [Value.oneCell']) (by unfold maxLen; omega) (by omega) (by simp; omega) ?_)
    intro A2 c2 w2 hown2 hg2 hat2
    have ho2 : Hid (w2.ownsRow u.heap.size 44 3 (.slice A2 (n + 1) c2) (n + 1) (edFlat ((es.take (k + 1)).filter (fun e => e.1 == x)))) := hide (by rw [hfe.out, ← edFlat_app]; exact hown2)
    have hl2 : Hid (((es.take (k + 1)).filter (fun e => e.1 == x)).length = n + 1) := hide (by rw [hfe.out, List.length_append, hlen.out]; rfl)
    have hb2 := hide (app_below (hb1.out.alloc hs1 _) (hown.out.alloc _) hg2 (by simp; omega) (Nat.le_refl _))
    have hk2 : Hid (Kept u w2) := hide (Kept.of_below hb2.out)
    have hs2 : u.heap.size ≤ w2.heap.size := hb2.out.size
    clear hown2 hg2 hat2 a1 d0 d1 d2
    go_wp2
    go_roundw
    case rel => exact ⟨k + 1, n + 1, A2, c2, by omega, by omega, by go_num, rfl, hl2, ho2, hk2, hb2, hs2⟩
    case measure => simp [intOf]; omega
   ·have hne : (x == v) = false := by simp only [beq_eq_false_iff_ne, ne_eq]; exact hxy
    have hfe : Hid ((es.take (k + 1)).filter (fun e => e.1 == v) = (es.take k).filter (fun e => e.1 == v)) := hide (by rw [hst.out]; simp [hne])
    have ho2 : Hid (wr.ownsRow u.heap.size 44 3 (.slice A' n c') n (edFlat ((es.take (k + 1)).filter (fun e => e.1 == v)))) := hide (by rw [hfe.out]; exact hown.out)
    have hl2 : Hid (((es.take (k + 1)).filter (fun e => e.1 == v)).length = n) := hide (by rw [hfe.out]; exact hlen.out)
    go_wp2
    go_roundw
    case rel => exact ⟨k + 1, n, A', c', by omega, by omega, by go_num, rfl, hl2, ho2, hk1, hb1, hs1⟩
    case measure => simp [intOf]; omega
  ·obtain rfl : k = L := by omega
   have hfe : (es.take k).filter (fun e => e.1 == v) = fromF es v := by rw [List.take_of_length_le (by rw [HL.out]; exact Nat.le_refl _)]; rfl
   rw [hfe] at hlen hown
   have HFin : Hid (RowPost w (fromF es v) (.returned (.slice A' n c')) wr) := hide ⟨A', c', by rw [hlen.out], by rw [hlen.out]; exact ownsRow_lower hown.out (by have := HB.out.size; omega), HB.out.trans (hb1.out.mono HB.out.size)⟩
   clear hlen hown hfe
   go_wp2
   go_ret
   exact HFin.out
theorem rback_any (w : World) (V : Int) (A : Option Addr) (es : List Ed) (L c : Nat) (v : Int) (hL : es.length = L) (hE : Eds w w.heap.size A es) (hc : L ≤ 8192) :
  Calls Try.prog 36 #[.agg #[.int .i64 V, .slice A L c], .int .i64 v] w (RowPost w (toF es v)) := by
 obtain ⟨i0, hi0, hz0, hz1, hz2⟩ := info_parts (show (Try.prog.info? 44).map (fun i => (i.zero, i.size, i.bytes)) = some (some (.agg #[.int .i64 0, .int .i64 0, .int .i64 0]), 3, 24) by kernel_rfl)
 obtain ⟨u, hu⟩ : ∃ u, w.alloc (.cells #[.int .i64 V, .slice A L c] 30) = u := ⟨_, rfl⟩
 have hzu : u.heap.size = w.heap.size + 1 := by rw [← hu]; simp
 have hbu : Below w.heap.size w u := by rw [← hu]; exact (Below.refl _ _).alloc (Nat.le_refl _) _
 have cg : u.heap[w.heap.size]? = some (.cells #[.int .i64 V, .slice A L c] 30) := by rw [← hu]; exact heap_alloc_last w _
 have cg1 : u.cell? ⟨w.heap.size, 1, none⟩ = some (.slice A L c) := cell_of_row _ _ 1 _ _ _ cg
 have hlg : w.heap.size < u.heap.size := by omega
 have HL := hide hL
 have EU := hide (hE.below hbu (Nat.le_refl _))
 have HB := hide hbu
 have HU := hide hu
 clear hu hzu hbu cg hE hL
 go_enter Try.func36, Try.ntmps36
 go_wp2
 rw [HU.out]
 go_loopw [5, 6] (fun v5 v6 wr => ∃ (k n : Nat) (A' : Option Addr) (c' : Nat), k ≤ L ∧ n ≤ k ∧ v6 = .int .i64 k ∧ v5 = .slice A' n c' ∧ Hid (((es.take k).filter (fun e => e.2.1 == v)).length = n) ∧ Hid (wr.ownsRow u.heap.size 44 3 (.slice A' n c') n (edFlat ((es.take k).filter (fun e => e.2.1 == v)))) ∧ Hid (Kept u wr) ∧ Hid (Below u.heap.size u wr) ∧ u.heap.size ≤ wr.heap.size) (fun _ v6 _ => L - (intOf v6).toNat)
 case atStart => exact ⟨0, 0, none, 0, by omega, by omega, rfl, rfl, hide rfl, hide (World.ownsRow_nil _ _ _ _), hide (Kept.refl u), hide (Below.refl _ _), Nat.le_refl _⟩
 case round =>
  obtain ⟨k, n, A', c', hk, hn, rfl, rfl, hlen, hown, hk1, hb1, hs1⟩ := hrel
  have a1 := (hk1.out ⟨w.heap.size, 1, none⟩ hlg).trans cg1
  by_cases hlt : k < L
  ·obtain ⟨⟨x, y, z⟩, he⟩ : ∃ e, es[k]? = some e := ⟨_, List.getElem?_eq_getElem (by rw [HL.out]; exact hlt)⟩
   obtain ⟨b, off, rfl, hbl, d0, d1, d2, d3, d4⟩ := EU.out.get he
   have d0 := (hk1.out ⟨b, off + k * 3, none⟩ (by show b < _; omega)).trans d0
   have d1 := (hk1.out ⟨b, off + k * 3 + 1, none⟩ (by show b < _; omega)).trans d1
   have d2 := (hk1.out ⟨b, off + k * 3 + 2, none⟩ (by show b < _; omega)).trans d2
   have hst := hide (filt_step (f := fun e => e.2.1 == v) he)
   have hI0 : (k : Int) < (L : Int) := by omega
   clear he
   dsimp only at d0 d1 d2 d3 d4
   by_cases hxy : y = v
   ·subst hxy
    have hfe : Hid ((es.take (k + 1)).filter (fun e => e.2.1 == y) = (es.take k).filter (fun e => e.2.1 == y) ++ [(x, y, z)]) := hide (by rw [hst.out]; simp)
    go_wp2_with (at_builtin; refine wpList_app rfl (.tmp 22) (.tmp 28) 28 rfl u.heap.size 44 i0 (.agg #[.int .i64 0, .int .i64 0, .int .i64 0]) 3 24 Try.underlying28 hi0 hz0 hz1 hz2 rfl (by decide) (.slice A' n c') n _ rfl (hown.out.alloc _) (wr.heap.size + 1) (some ⟨wr.heap.size, 0, none⟩) 1 1 [.int .i64 x, .int .i64 y, .int .i64 z] rfl rfl (Rd.new _ _ _ _) (by simp [Value.oneCell']) (by unfold maxLen; omega) (by omega) (by simp; omega) ?_)
    intro A2 c2 w2 hown2 hg2 hat2
    have ho2 : Hid (w2.ownsRow u.heap.size 44 3 (.slice A2 (n + 1) c2) (n + 1) (edFlat ((es.take (k + 1)).filter (fun e => e.2.1 == y)))) := hide (by rw [hfe.out, ← edFlat_app]; exact hown2)
    have hl2 : Hid (((es.take (k + 1)).filter (fun e => e.2.1 == y)).length = n + 1) := hide (by rw [hfe.out, List.length_append, hlen.out]; rfl)
    have hb2 := hide (app_below (hb1.out.alloc hs1 _) (hown.out.alloc _) hg2 (by simp; omega) (Nat.le_refl _))
    have hk2 : Hid (Kept u w2) := hide (Kept.of_below hb2.out)
    have hs2 : u.heap.size ≤ w2.heap.size := hb2.out.size
    clear hown2 hg2 hat2 a1 d0 d1 d2
    go_wp2
    go_roundw
    case rel => exact ⟨k + 1, n + 1, A2, c2, by omega, by omega, by go_num, rfl, hl2, ho2, hk2, hb2, hs2⟩
    case measure => simp [intOf]; omega
   ·have hne : (y == v) = false := by simp only [beq_eq_false_iff_ne, ne_eq]; exact hxy
    have hfe : Hid ((es.take (k + 1)).filter (fun e => e.2.1 == v) = (es.take k).filter (fun e => e.2.1 == v)) := hide (by rw [hst.out]; simp [hne])
    have ho2 : Hid (wr.ownsRow u.heap.size 44 3 (.slice A' n c') n (edFlat ((es.take (k + 1)).filter (fun e => e.2.1 == v)))) := hide (by rw [hfe.out]; exact hown.out)
    have hl2 : Hid (((es.take (k + 1)).filter (fun e => e.2.1 == v)).length = n) := hide (by rw [hfe.out]; exact hlen.out)
    go_wp2
    go_roundw
    case rel => exact ⟨k + 1, n, A', c', by omega, by omega, by go_num, rfl, hl2, ho2, hk1, hb1, hs1⟩
    case measure => simp [intOf]; omega
  ·obtain rfl : k = L := by omega
   have hfe : (es.take k).filter (fun e => e.2.1 == v) = toF es v := by rw [List.take_of_length_le (by rw [HL.out]; exact Nat.le_refl _)]; rfl
   rw [hfe] at hlen hown
   have HFin : Hid (RowPost w (toF es v) (.returned (.slice A' n c')) wr) := hide ⟨A', c', by rw [hlen.out], by rw [hlen.out]; exact ownsRow_lower hown.out (by have := HB.out.size; omega), HB.out.trans (hb1.out.mono HB.out.size)⟩
   clear hlen hown hfe
   go_wp2
   go_ret
   exact HFin.out
end Go.Proofs.Ytihdpfjonkagaaa
namespace Go.Proofs.Ytihdpfjonkagaaa
open Go.RowKit
theorem rsameInts_any (w : World) (A B : Option Addr) (xs ys : List Int) (n m c d : Nat) (hx : xs.length = n) (hy : ys.length = m) (hn : n ≤ 9223372036854775807) (rx : Rd w w.heap.size A (xs.map (Value.int .i64))) (ry : Rd w w.heap.size B (ys.map (Value.int .i64))) :
  Calls Try.prog 37 #[.slice A n c, .slice B m d] w fun e w' => e = .returned (.bool (eqL xs ys)) ∧ Below w.heap.size w w' := by
 have HX := hide hx
 have HY := hide hy
 have RX := hide rx
 have RY := hide ry
 clear hx hy rx ry
 by_cases hnm : n = m
 ·obtain rfl := hnm
  go_enter Try.func37, Try.ntmps37
  go_wp2
  go_loopw [5] (fun vi wr => ∃ i : Nat, i ≤ n ∧ vi = .int .i64 i ∧ Hid (eqL xs ys = eqL (xs.drop i) (ys.drop i)) ∧ Hid (Kept w wr) ∧ Hid (Below w.heap.size w wr)) (fun vi _ => n - (intOf vi).toNat)
  case atStart => exact ⟨0, by omega, rfl, hide rfl, hide (Kept.refl w), hide (Below.refl _ _)⟩
  case round =>
   obtain ⟨i, hi, rfl, heq, hkr, hbr⟩ := hrel
   by_cases hlt : i < n
   ·have hi1 : i < xs.length := by rw [HX.out]; exact hlt
    have hi2 : i < ys.length := by rw [HY.out]; exact hlt
    have HS := hide (eqL_step xs ys i hi1 hi2)
    obtain ⟨b1, o1, rfl, l1, _⟩ := RX.out.at_ (k := i) (by rw [List.length_map]; exact hi1)
    obtain ⟨b2, o2, rfl, l2, _⟩ := RY.out.at_ (k := i) (by rw [List.length_map]; exact hi2)
    have cx : w.cell? ⟨b1, o1 + i, none⟩ = some (.int .i64 xs[i]) := RX.out.cell (by rw [List.getElem?_map, List.getElem?_eq_getElem hi1]; rfl)
    have cy : w.cell? ⟨b2, o2 + i, none⟩ = some (.int .i64 ys[i]) := RY.out.cell (by rw [List.getElem?_map, List.getElem?_eq_getElem hi2]; rfl)
    obtain ⟨x, hx⟩ : ∃ x, xs[i] = x := ⟨_, rfl⟩
    obtain ⟨y, hy⟩ : ∃ y, ys[i] = y := ⟨_, rfl⟩
    rw [hx] at cx HS
    rw [hy] at cy HS
    have hI0 : (0 : Int) ≤ (i : Int) := by omega
    have hI1 : (i : Int) < (n : Int) := by omega
    clear hx hy hi1 hi2
    by_cases hxy : x = y
    ·have HE : Hid (eqL xs ys = eqL (xs.drop (i + 1)) (ys.drop (i + 1))) := hide (by rw [heq.out, HS.out, hxy, decide_eq_true rfl, Bool.true_and])
     subst hxy
     go_wp2
     refine wp_region_held_drew (S := Kept w) (by kernel_rfl) (fun p hp => hkr.out p hp) (fun hS0 => ?_)
     refine tk 0 17 ?_ ?_ ?_; rotate_left; (focus (intro w h; go_simp; (try with_reducible rfl))); (try simp only [xd, xe, xf])
     refine tk 1 18 ?_ ?_ ?_; rotate_left; (focus (intro w h; go_simp; (try with_reducible rfl))); (try simp only [xd, xe, xf])
     refine tk 2 19 ?_ ?_ ?_; rotate_left; (focus (intro w h; go_simp; (try with_reducible rfl))); (try simp only [xd, xe, xf])
     refine tk 3 20 ?_ ?_ ?_; rotate_left; (focus (intro w h; go_simp; (try with_reducible rfl))); (try simp only [xd, xe, xf])
     refine tk 4 21 ?_ ?_ ?_; rotate_left; (focus (intro w h; go_simp; (try with_reducible rfl))); (try simp only [xd, xe, xf])
     refine tk 5 22 ?_ ?_ ?_; rotate_left; (focus (intro w h; go_simp; (try with_reducible rfl))); (try simp only [xd, xe, xf])
     refine tk 6 23 ?_ ?_ ?_; rotate_left; (focus (intro w h; go_simp; (try with_reducible rfl))); (try simp only [xd, xe, xf])
     refine tk 7 24 ?_ ?_ ?_; rotate_left; (focus (intro w h; go_simp; (try with_reducible rfl))); (try simp only [xd, xe, xf])
     refine tk 8 25 ?_ ?_ ?_; rotate_left; (focus (intro w h; go_simp; (try with_reducible rfl))); (try simp only [xd, xe, xf])
     refine wpAnyH_done (by kernel_rfl) ?_ _
     clear hS0
     go_wp2
     go_roundw
     case rel => exact ⟨i + 1, by omega, by go_num, HE, hide (fun p hp => hkr.out p hp), hide hbr.out.drew⟩
     case measure => simp [intOf]; omega
    ·have HE : Hid (eqL xs ys = false) := hide (by rw [heq.out, HS.out, decide_eq_false hxy, Bool.false_and])
     go_wp2
     refine wp_region_held_drew (S := Kept w) (by kernel_rfl) (fun p hp => hkr.out p hp) (fun hS0 => ?_)
     refine tk 0 17 ?_ ?_ ?_; rotate_left; (focus (intro w h; go_simp; (try with_reducible rfl))); (try simp only [xd, xe, xf])
     refine tk 1 18 ?_ ?_ ?_; rotate_left; (focus (intro w h; go_simp; (try with_reducible rfl))); (try simp only [xd, xe, xf])
     refine tk 2 19 ?_ ?_ ?_; rotate_left; (focus (intro w h; go_simp; (try with_reducible rfl))); (try simp only [xd, xe, xf])
     refine tk 3 20 ?_ ?_ ?_; rotate_left; (focus (intro w h; go_simp; (try with_reducible rfl))); (try simp only [xd, xe, xf])
     refine tk 4 21 ?_ ?_ ?_; rotate_left; (focus (intro w h; go_simp; (try with_reducible rfl))); (try simp only [xd, xe, xf])
     refine tk 5 22 ?_ ?_ ?_; rotate_left; (focus (intro w h; go_simp; (try with_reducible rfl))); (try simp only [xd, xe, xf])
     refine tk 6 23 ?_ ?_ ?_; rotate_left; (focus (intro w h; go_simp; (try with_reducible rfl))); (try simp only [xd, xe, xf])
     refine tk 7 24 ?_ ?_ ?_; rotate_left; (focus (intro w h; go_simp; (try with_reducible rfl))); (try simp only [xd, xe, xf])
     refine tk 8 25 ?_ ?_ ?_; rotate_left; (focus (intro w h; go_simp; (try with_reducible rfl))); (try simp only [xd, xe, xf])
     refine wpAnyH_done (by kernel_rfl) ?_ _
     clear hS0
     go_wp2
     go_ret
     exact ⟨ret_b (by rw [HE.out]), hbr.out.drew⟩
   ·obtain rfl : i = n := by omega
    have HE : Hid (eqL xs ys = true) := hide (by rw [heq.out, List.drop_of_length_le (by have := HX.out; omega), List.drop_of_length_le (by have := HY.out; omega)]; exact eqL_nil)
    go_wp2
    go_ret
    exact ⟨ret_b (by rw [HE.out]), hbr.out⟩
 ·have hne : ((n : Int) == (m : Int)) = false := by simp; omega
  have hne2 : ((n : Int) != (m : Int)) = true := by simp; omega
  have HE : Hid (eqL xs ys = false) := hide (eqL_len (by rw [HX.out, HY.out]; exact hnm))
  go_enter Try.func37, Try.ntmps37
  go_wp2
  go_ret
  exact ⟨ret_b (by rw [HE.out]), Below.refl _ _⟩
end Go.Proofs.Ytihdpfjonkagaaa
namespace Go.Proofs.Ytihdpfjonkagaaa
open Go.RowKit
theorem sameInts_any (w : World) (A B : Option Addr) (xs ys : List Int) (n m c d : Nat) (hx : xs.length = n) (hy : ys.length = m) (hn : n ≤ 9223372036854775807) (rx : Rd w w.heap.size A (xs.map (Value.int .i64))) (ry : Rd w w.heap.size B (ys.map (Value.int .i64))) :
  Calls Try.prog 10 #[.slice A n c, .slice B m d] w fun e w' => e = .returned (.bool (eqL xs ys)) ∧ Below w.heap.size w w' := by
 have HX := hide hx
 have HY := hide hy
 have RX := hide rx
 have RY := hide ry
 clear hx hy rx ry
 by_cases hnm : n = m
 ·obtain rfl := hnm
  go_enter Try.func10, Try.ntmps10
  go_wp2
  go_loopw [5] (fun vi wr => ∃ i : Nat, i ≤ n ∧ vi = .int .i64 i ∧ Hid (eqL xs ys = eqL (xs.drop i) (ys.drop i)) ∧ Hid (Kept w wr) ∧ Hid (Below w.heap.size w wr)) (fun vi _ => n - (intOf vi).toNat)
  case atStart => exact ⟨0, by omega, rfl, hide rfl, hide (Kept.refl w), hide (Below.refl _ _)⟩
  case round =>
   obtain ⟨i, hi, rfl, heq, hkr, hbr⟩ := hrel
   by_cases hlt : i < n
   ·have hi1 : i < xs.length := by rw [HX.out]; exact hlt
    have hi2 : i < ys.length := by rw [HY.out]; exact hlt
    have HS := hide (eqL_step xs ys i hi1 hi2)
    obtain ⟨b1, o1, rfl, l1, _⟩ := RX.out.at_ (k := i) (by rw [List.length_map]; exact hi1)
    obtain ⟨b2, o2, rfl, l2, _⟩ := RY.out.at_ (k := i) (by rw [List.length_map]; exact hi2)
    have cx : w.cell? ⟨b1, o1 + i, none⟩ = some (.int .i64 xs[i]) := RX.out.cell (by rw [List.getElem?_map, List.getElem?_eq_getElem hi1]; rfl)
    have cy : w.cell? ⟨b2, o2 + i, none⟩ = some (.int .i64 ys[i]) := RY.out.cell (by rw [List.getElem?_map, List.getElem?_eq_getElem hi2]; rfl)
    obtain ⟨x, hx⟩ : ∃ x, xs[i] = x := ⟨_, rfl⟩
    obtain ⟨y, hy⟩ : ∃ y, ys[i] = y := ⟨_, rfl⟩
    rw [hx] at cx HS
    rw [hy] at cy HS
    have hI0 : (0 : Int) ≤ (i : Int) := by omega
    have hI1 : (i : Int) < (n : Int) := by omega
    clear hx hy hi1 hi2
    by_cases hxy : x = y
    ·have HE : Hid (eqL xs ys = eqL (xs.drop (i + 1)) (ys.drop (i + 1))) := hide (by rw [heq.out, HS.out, hxy, decide_eq_true rfl, Bool.true_and])
     subst hxy
     go_wp2
     refine wp_region_held_drew (S := Kept w) (by kernel_rfl) (fun p hp => hkr.out p hp) (fun hS0 => ?_)
     refine tk 0 17 ?_ ?_ ?_; rotate_left; (focus (intro w h; go_simp; (try with_reducible rfl))); (try simp only [xd, xe, xf])
     refine tk 1 18 ?_ ?_ ?_; rotate_left; (focus (intro w h; go_simp; (try with_reducible rfl))); (try simp only [xd, xe, xf])
     refine tk 2 19 ?_ ?_ ?_; rotate_left; (focus (intro w h; go_simp; (try with_reducible rfl))); (try simp only [xd, xe, xf])
     refine tk 3 20 ?_ ?_ ?_; rotate_left; (focus (intro w h; go_simp; (try with_reducible rfl))); (try simp only [xd, xe, xf])
     refine tk 4 21 ?_ ?_ ?_; rotate_left; (focus (intro w h; go_simp; (try with_reducible rfl))); (try simp only [xd, xe, xf])
     refine tk 5 22 ?_ ?_ ?_; rotate_left; (focus (intro w h; go_simp; (try with_reducible rfl))); (try simp only [xd, xe, xf])
     refine tk 6 23 ?_ ?_ ?_; rotate_left; (focus (intro w h; go_simp; (try with_reducible rfl))); (try simp only [xd, xe, xf])
     refine tk 7 24 ?_ ?_ ?_; rotate_left; (focus (intro w h; go_simp; (try with_reducible rfl))); (try simp only [xd, xe, xf])
     refine tk 8 25 ?_ ?_ ?_; rotate_left; (focus (intro w h; go_simp; (try with_reducible rfl))); (try simp only [xd, xe, xf])
     refine wpAnyH_done (by kernel_rfl) ?_ _
     clear hS0
     go_wp2
     go_roundw
     case rel => exact ⟨i + 1, by omega, by go_num, HE, hide (fun p hp => hkr.out p hp), hide hbr.out.drew⟩
     case measure => simp [intOf]; omega
    ·have HE : Hid (eqL xs ys = false) := hide (by rw [heq.out, HS.out, decide_eq_false hxy, Bool.false_and])
     go_wp2
     refine wp_region_held_drew (S := Kept w) (by kernel_rfl) (fun p hp => hkr.out p hp) (fun hS0 => ?_)
     refine tk 0 17 ?_ ?_ ?_; rotate_left; (focus (intro w h; go_simp; (try with_reducible rfl))); (try simp only [xd, xe, xf])
     refine tk 1 18 ?_ ?_ ?_; rotate_left; (focus (intro w h; go_simp; (try with_reducible rfl))); (try simp only [xd, xe, xf])
     refine tk 2 19 ?_ ?_ ?_; rotate_left; (focus (intro w h; go_simp; (try with_reducible rfl))); (try simp only [xd, xe, xf])
     refine tk 3 20 ?_ ?_ ?_; rotate_left; (focus (intro w h; go_simp; (try with_reducible rfl))); (try simp only [xd, xe, xf])
     refine tk 4 21 ?_ ?_ ?_; rotate_left; (focus (intro w h; go_simp; (try with_reducible rfl))); (try simp only [xd, xe, xf])
     refine tk 5 22 ?_ ?_ ?_; rotate_left; (focus (intro w h; go_simp; (try with_reducible rfl))); (try simp only [xd, xe, xf])
     refine tk 6 23 ?_ ?_ ?_; rotate_left; (focus (intro w h; go_simp; (try with_reducible rfl))); (try simp only [xd, xe, xf])
     refine tk 7 24 ?_ ?_ ?_; rotate_left; (focus (intro w h; go_simp; (try with_reducible rfl))); (try simp only [xd, xe, xf])
     refine tk 8 25 ?_ ?_ ?_; rotate_left; (focus (intro w h; go_simp; (try with_reducible rfl))); (try simp only [xd, xe, xf])
     refine wpAnyH_done (by kernel_rfl) ?_ _
     clear hS0
     go_wp2
     go_ret
     exact ⟨ret_b (by rw [HE.out]), hbr.out.drew⟩
   ·obtain rfl : i = n := by omega
    have HE : Hid (eqL xs ys = true) := hide (by rw [heq.out, List.drop_of_length_le (by have := HX.out; omega), List.drop_of_length_le (by have := HY.out; omega)]; exact eqL_nil)
    go_wp2
    go_ret
    exact ⟨ret_b (by rw [HE.out]), hbr.out⟩
 ·have hne : ((n : Int) == (m : Int)) = false := by simp; omega
  have hne2 : ((n : Int) != (m : Int)) = true := by simp; omega
  have HE : Hid (eqL xs ys = false) := hide (eqL_len (by rw [HX.out, HY.out]; exact hnm))
  go_enter Try.func10, Try.ntmps10
  go_wp2
  go_ret
  exact ⟨ret_b (by rw [HE.out]), Below.refl _ _⟩
end Go.Proofs.Ytihdpfjonkagaaa
namespace Go.Proofs.Ytihdpfjonkagaaa
open Go.RowKit
def millE : List Ed := [(0, 1, 4), (0, 2, 1), (1, 3, 5), (2, 1, 2), (4, 4, 7)]
theorem mill_any (w : World) : Calls Try.prog 26 #[] w (GraphPost w 6 millE) := by
 go_enter Try.func26, Try.ntmps26
 go_wp2
 refine bodyPost_ret (v := .agg #[.int .i64 6, .slice (some ⟨w.heap.size + 1, 0, none⟩) 5 5]) (by simp [results, Try.results26, go_sem]) rfl ?_
 refine ⟨some ⟨w.heap.size + 1, 0, none⟩, 5, rfl, ?_, by decide, by decide, ((Below.refl _ _).alloc (Nat.le_refl _) _).alloc (by simp) _⟩
 refine Eds.of_rd ?_ (wt_of (by decide))
 have := Rd.new (w.alloc (.cells #[.int .i64 6, .slice (some ⟨w.heap.size + 1, 0, none⟩) 5 5] 30)) (edFlat millE).toArray 44 (0, 0)
 rw [World.size_alloc] at this
 exact this.more (by simp)
end Go.Proofs.Ytihdpfjonkagaaa
namespace Go.Proofs.Ytihdpfjonkagaaa
open Go.RowKit
def ringE (n : Nat) : List Ed := (List.range n).map fun (i : Nat) => ((i : Int), ((i : Int) + 1) % (n : Int), (i : Int) + 1)
theorem ring_snoc (n k : Nat) (h : k < n) : edFlat ((ringE n).take k) ++ [.int .i64 (k : Int), .int .i64 (((k : Int) + 1) % (n : Int)), .int .i64 ((k : Int) + 1)] = edFlat ((ringE n).take (k + 1)) := by
 have hk : (ringE n)[k]? = some ((k : Int), ((k : Int) + 1) % (n : Int), (k : Int) + 1) := by
  unfold ringE
  rw [List.getElem?_map, List.getElem?_range h]; rfl
 rw [List.take_add_one, hk, ← edFlat_app]
 rfl
theorem ring_len (n : Nat) : (ringE n).length = n := by simp [ringE]
theorem ring_wt (n : Nat) (h : n ≤ 8192) : wt (ringE n) := fun e he => by
 unfold ringE at he
 obtain ⟨i, hi, rfl⟩ := List.mem_map.1 he
 have := List.mem_range.1 hi
 dsimp only
 omega
theorem ring_any (w : World) (n : Nat) (hn1 : 1 ≤ n) (hn2 : n ≤ 8192) : Calls Try.prog 27 #[.int .i64 (n : Int)] w (GraphPost w (n : Int) (ringE n)) := by
 obtain ⟨i0, hi0, hz0, hz1, hz2⟩ := info_parts (show (Try.prog.info? 44).map (fun i => (i.zero, i.size, i.bytes)) = some (some (.agg #[.int .i64 0, .int .i64 0, .int .i64 0]), 3, 24) by kernel_rfl)
 go_enter Try.func27, Try.ntmps27
 go_wp2
 obtain ⟨v, hv⟩ : ∃ v, (w.alloc (.cells #[.int .i64 0, .slice none 0 0] 30)).alloc (.cells #[.int .i64 (n : Int), .slice none 0 0] 30) = v := ⟨_, rfl⟩
 have hz : v.heap.size = w.heap.size + 2 := by rw [← hv]; simp
 have hb : Below w.heap.size w v := by rw [← hv]; exact ((Below.refl _ _).alloc (Nat.le_refl _) _).alloc (by simp) _
 have cR : Hid (v.heap[w.heap.size]? = some (.cells #[.int .i64 0, .slice none 0 0] 30)) := hide (by rw [← hv]; exact (Below.heap_alloc _ _ _ (by simp)).trans (heap_alloc_last w _))
 have cB : Hid (v.heap[w.heap.size + 1]? = some (.cells #[.int .i64 (n : Int), .slice none 0 0] 30)) := hide (by
  rw [← hv]
  have := heap_alloc_last (w.alloc (.cells #[.int .i64 0, .slice none 0 0] 30)) (.cells #[.int .i64 (n : Int), .slice none 0 0] 30)
  rw [World.size_alloc] at this
  exact this)
 rw [hv]
 have HB := hide hb
 have HZ := hide hz
 clear hv hb hz
 go_loopw [4] (fun v4 wr => ∃ (k : Nat) (A : Option Addr) (c : Nat), k ≤ n ∧ v4 = .int .i64 k ∧ Hid (wr.heap[w.heap.size]? = some (.cells #[.int .i64 0, .slice none 0 0] 30)) ∧ Hid (wr.heap[w.heap.size + 1]? = some (.cells #[.int .i64 (n : Int), .slice A k c] 30)) ∧ Hid (wr.ownsRow v.heap.size 44 3 (.slice A k c) k (edFlat ((ringE n).take k))) ∧ Hid (Below w.heap.size w wr) ∧ v.heap.size ≤ wr.heap.size) (fun v4 _ => n - (intOf v4).toNat)
 case atStart => exact ⟨0, none, 0, by omega, rfl, cR, cB, hide (World.ownsRow_nil _ _ _ _), HB, Nat.le_refl _⟩
 case round =>
  clear cR cB
  obtain ⟨k, A, c, hk, rfl, cR, cB, hown, hbw, hsz⟩ := hrel
  have hz9 := HZ.out
  have g1 : wr.cell? ⟨w.heap.size + 1, 1, none⟩ = some (.slice A k c) := cell_of_row _ _ 1 _ _ _ cB.out
  have hl1 : w.heap.size + 1 < wr.heap.size := by omega
  by_cases hlt : k < n
  ·have hsn := hide (ring_snoc n k hlt)
   have e1 : IntKind.i64.wrap ((k : Int) + 1) = (k : Int) + 1 := IntWalk.i64_in _ (by omega)
   have e2 : ((k : Int) + 1).tmod (n : Int) = ((k : Int) + 1) % (n : Int) := Int.tmod_eq_emod_of_nonneg (by omega)
   have e4 : ¬ (n : Int) = 0 := by omega
   have e5 : ¬ n = 0 := by omega
   have hI1 : (k : Int) < (n : Int) := by omega
   have hm0 : 0 ≤ ((k : Int) + 1) % (n : Int) := Int.emod_nonneg _ e4
   have hm1 : ((k : Int) + 1) % (n : Int) < (n : Int) := Int.emod_lt_of_pos _ (by omega)
   obtain ⟨m, hm⟩ : ∃ m, ((k : Int) + 1) % (n : Int) = m := ⟨_, rfl⟩
   rw [hm] at e2 hm0 hm1 hsn
   have e3 : IntKind.i64.wrap m = m := IntWalk.i64_in _ (by omega)
   have HM := hide hm
   clear hm
   go_wp2
   refine wpL_region (S := Kept wr) [11, 13] (by kernel_rfl) (Kept.drew wr) (fun hS0 => ?_)
   refine tw 0 12 ?_ ?_ ?_; rotate_left; (focus (intro w; go_simp; (try with_reducible rfl); done)); (try simp only [xd, xe, xf])
   refine tl 1 13 ?_ ?_ ?_; rotate_left; (focus (intro w h; go_simp; (try with_reducible rfl))); (try simp only [xd, xe, xf])
   refine tw 2 14 ?_ ?_ ?_; rotate_left; (focus (intro w; go_simp; (try with_reducible rfl); done)); (try simp only [xd, xe, xf])
   refine tw 3 15 ?_ ?_ ?_; rotate_left; (focus (intro w; go_simp; (try with_reducible rfl); done)); (try simp only [xd, xe, xf])
   refine tw 4 16 ?_ ?_ ?_; rotate_left; (focus (intro w; go_simp; (try with_reducible rfl); done)); (try simp only [xd, xe, xf])
   refine tw 5 17 ?_ ?_ ?_; rotate_left; (focus (intro w; go_simp; (try with_reducible rfl); done)); (try simp only [xd, xe, xf])
   refine tw 6 18 ?_ ?_ ?_; rotate_left; (focus (intro w; go_simp; (try with_reducible rfl); done)); (try simp only [xd, xe, xf])
   refine tw 7 19 ?_ ?_ ?_; rotate_left; (focus (intro w; go_simp; (try with_reducible rfl); done)); (try simp only [xd, xe, xf])
   refine tw 8 20 ?_ ?_ ?_; rotate_left; (focus (intro w; go_simp; (try with_reducible rfl); done)); (try simp only [xd, xe, xf])
   refine tw 9 21 ?_ ?_ ?_; rotate_left; (focus (intro w; go_simp; (try with_reducible rfl); done)); (try simp only [xd, xe, xf])
   refine callL_at (i := 10) (d := 22) (by simp only [xa, xb, xc]; rfl) rfl (by kernel_rfl) rfl (fun K hK => ?_)
   go_simp
   have hS1 : Kept wr (wr.drew.alloc (.cells #[.int .i64 (k : Int), .int .i64 m, .int .i64 ((k : Int) + 1)] 44)) := fun p hp => (World.cell?_alloc_lt _ _ _ hp)
   refine hK.out _ _ hS1 (fun hSn => ?_)
   clear hK K
   try simp only [xd, xe, xf]
   refine exL_at (i := 11) (by simp only [xa, xb, xc]; rfl) (by kernel_rfl) rfl (by kernel_rfl) (fun K hK => ?_)
   refine op_app (.tmp 13) (.tmp 22) 28 rfl v.heap.size 44 i0 (.agg #[.int .i64 0, .int .i64 0, .int .i64 0]) 3 24 Try.underlying28 hi0 hz0 hz1 hz2 rfl (by decide) (.slice A k c) k _ rfl (hown.out.drew.alloc _) (wr.heap.size + 1) (some ⟨wr.heap.size, 0, none⟩) 1 1 [.int .i64 (k : Int), .int .i64 m, .int .i64 ((k : Int) + 1)] rfl rfl (Rd.new _ _ _ _) (by simp [Value.oneCell']) (by unfold maxLen; omega) (by omega) (by simp; omega) ?_
   intro A' c' w3 hown3 hg3 hat3
   rw [hsn.out] at hown3
   have cB3 : w3.heap[w.heap.size + 1]? = some (.cells #[.int .i64 (n : Int), .slice A k c] 30) := (hg3.block _ (by simp; omega) (fun e => by have := (hown.out.lt _ e.symm).1; omega)).trans ((Below.heap_alloc _ _ _ (by show _ < wr.heap.size; omega)).trans cB.out)
   have cR3 : Hid (w3.heap[w.heap.size]? = some (.cells #[.int .i64 0, .slice none 0 0] 30)) := hide ((hg3.block _ (by simp; omega) (fun e => by have := (hown.out.lt _ e.symm).1; omega)).trans ((Below.heap_alloc _ _ _ (by show _ < wr.heap.size; omega)).trans cR.out))
   have hb3 := hide (app_below ((hbw.out.drew).alloc hbw.out.drew.size _) (hown.out.drew.alloc _) hg3 (by have := hbw.out.size; simp; omega) (by omega))
   have hs3 : v.heap.size ≤ w3.heap.size := by have := hg3.size; simp at this; omega
   have q1 : w3.cell? ⟨w.heap.size + 1, 1, none⟩ = some (.slice A k c) := cell_of_row _ _ 1 _ _ _ cB3
   have qf : w3.frozen? ⟨w.heap.size + 1, 1, none⟩ = false := frozen_of_row _ _ 1 _ _ cB3
   have cS3 := hide (heap_setCell_same w3 (w.heap.size + 1) 1 _ _ (.slice A' (k + 1) c') cB3)
   have HOwn3 := hide hown3
   clear hg3 hat3 hown3 cB3
   refine hK.out _ _ ?_
   clear hK K
   simp only [Act.put]
   try simp only [xd, xe, xf]
   refine tw 12 24 ?_ ?_ ?_; rotate_left; (focus (intro w; go_simp; (try with_reducible rfl); done)); (try simp only [xd, xe, xf])
   refine exL_at (i := 13) (by simp only [xa, xb, xc]; rfl) (by kernel_rfl) rfl (by kernel_rfl) (fun K hK => ?_)
   go_wp2_with fail
   refine hK.out _ _ ?_
   clear hK K
   try simp only [xd, xe, xf]
   refine wpAnyL_done (by kernel_rfl) ?_ _
   clear hS0 hSn
   have hset : (w3.setCell ⟨w.heap.size + 1, 1, none⟩ (.slice A' (k + 1) c')).ownsRow v.heap.size 44 3 (.slice A' (k + 1) c') (k + 1) (edFlat ((ringE n).take (k + 1))) := ownsRow_setCell_below HOwn3.out (by show w.heap.size + 1 < _; omega) _
   have HSet := hide hset
   have cR4 : Hid ((w3.setCell ⟨w.heap.size + 1, 1, none⟩ (.slice A' (k + 1) c')).heap[w.heap.size]? = some (.cells #[.int .i64 0, .slice none 0 0] 30)) := hide ((Below.heap_setCell _ _ _ _ (by show w.heap.size ≠ w.heap.size + 1; omega)).trans cR3.out)
   have hb4 := hide (hb3.out.setCell (p := ⟨w.heap.size + 1, 1, none⟩) (by show _ ≤ w.heap.size + 1; omega) (.slice A' (k + 1) c'))
   have hs4 : v.heap.size ≤ (w3.setCell ⟨w.heap.size + 1, 1, none⟩ (.slice A' (k + 1) c')).heap.size := by rw [World.size_setCell]; exact hs3
   clear hset hs3
   go_wp2
   go_roundw
   case rel => exact ⟨k + 1, A', c', by omega, by go_num, cR4, cS3, HSet, hb4, hs4⟩
   case measure => simp [intOf]; omega
  ·obtain rfl : k = n := by omega
   have g0 : wr.cell? ⟨w.heap.size + 1, 0, none⟩ = some (.int .i64 (k : Int)) := cell_of_row _ _ 0 _ _ _ cB.out
   have r0 : wr.cell? ⟨w.heap.size, 0, none⟩ = some (.int .i64 0) := cell_of_row _ _ 0 _ _ _ cR.out
   have r1 : wr.cell? ⟨w.heap.size, 1, none⟩ = some (.slice none 0 0) := cell_of_row _ _ 1 _ _ _ cR.out
   have f0 : wr.frozen? ⟨w.heap.size, 0, none⟩ = false := frozen_of_row _ _ 0 _ _ cR.out
   have f1 : wr.frozen? ⟨w.heap.size, 1, none⟩ = false := frozen_of_row _ _ 1 _ _ cR.out
   have hcap := own_cap hown.out
   have hrd : Eds wr wr.heap.size A (ringE k) := Eds.of_rd (by
    have h := Rd.of_own hown.out
    rw [List.take_of_length_le (by rw [ring_len]; exact Nat.le_refl _)] at h
    exact h) (ring_wt k hn2)
   obtain ⟨g, hA, hgb, hgl, hgc⟩ := own_addr hown.out (by omega)
   have hcm : c ≤ 9223372036854775807 := own_max hown.out
   have HRd := hide hrd
   have HFin : Hid (GraphPost w (k : Int) (ringE k) (.returned (.agg #[.int .i64 (k : Int), .slice A k c])) ((wr.setCell ⟨w.heap.size, 0, none⟩ (.int .i64 (k : Int))).setCell ⟨w.heap.size, 1, none⟩ (.slice A k c))) := hide (by
    refine ⟨A, c, by rw [ring_len], ?_, by rw [ring_len]; exact hcap, hcm, (hbw.out.setCell (p := ⟨w.heap.size, 0, none⟩) (Nat.le_refl _) _).setCell (p := ⟨w.heap.size, 1, none⟩) (Nat.le_refl _) _⟩
    refine Eds.of_rd (fun hn => ?_) (ring_wt k hn2)
    obtain ⟨b, off, e, hlt, hc⟩ := HRd.out.rd hn
    refine ⟨b, off, e, by rw [World.size_setCell, World.size_setCell]; exact hlt, fun j u hu => ?_⟩
    rw [hA] at e
    injection e with e
    injection e with e1 e2
    rw [World.cell?_setCell_far _ _ _ _ (by show w.heap.size ≠ b; omega), World.cell?_setCell_far _ _ _ _ (by show w.heap.size ≠ b; omega)]
    exact hc j u hu)
   clear hrd hA hcap hcm
   go_wp2
   have s0 : ((wr.setCell ⟨w.heap.size, 0, none⟩ (.int .i64 (k : Int))).setCell ⟨w.heap.size, 1, none⟩ (.slice A k c)).cell? ⟨w.heap.size, 0, none⟩ = some (.int .i64 (k : Int)) := by
    rw [World.cell?_setCell_other _ _ _ _ (by intro e; cases e)]
    exact World.cell?_setCell_same' _ _ _ (by rw [r0]; rfl)
   have s1 : ((wr.setCell ⟨w.heap.size, 0, none⟩ (.int .i64 (k : Int))).setCell ⟨w.heap.size, 1, none⟩ (.slice A k c)).cell? ⟨w.heap.size, 1, none⟩ = some (.slice A k c) :=
    World.cell?_setCell_same' _ _ _ (by rw [World.cell?_setCell_other _ _ _ _ (by intro e; cases e), r1]; rfl)
   exact bodyPost_ret (v := .agg #[.int .i64 (k : Int), .slice A k c]) (by simp [results, Try.results27, go_sem, s0, s1]) rfl HFin.out
end Go.Proofs.Ytihdpfjonkagaaa
