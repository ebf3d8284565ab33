/- Lemmas: Rob, Eqr, Req, Qsm. -/
import Derived.Test.YtpgbjabifhjogaaGreatProg
import Derived.Lib.Hide
import Derived.WalkSpells
import Derived.WalkMore
import Derived.IntWalk
import Derived.Test.YtpgbjabifhjogaaGreatSeqPw4
import Derived.Test.YtpgbjabifhjogaaGreatSeqPw7
set_option linter.unusedVariables false
set_option linter.unusedSimpArgs false
set_option maxRecDepth 100000
set_option maxHeartbeats 16000000
namespace Go.Proofs.YtpgbjabifhjogaaGreat
open Go.RowKit
def RowPost (w : World) (es : List Ed) (e : Ending) (w' : World) : Prop := ∃ A c, e = .returned (.slice A es.length c) ∧ w'.ownsRow w.heap.size 58 3 (.slice A es.length c) es.length (edFlat es) ∧ Below w.heap.size w w'
theorem ownsRow_lower {w : World} {base base' : Nat} {e : TypeId} {size : Nat} {v : Value} {n : Nat} {xs : List Value} (h : w.ownsRow base e size v n xs) (hb : base' ≤ base) : w.ownsRow base' e size v n xs :=
 ⟨h.1, h.2.imp id fun ⟨g, cap, cur, h1, h2, h3⟩ => ⟨g, cap, cur, h1, Nat.le_trans hb h2, h3⟩⟩
def fromF (es : List Ed) (v : Int) : List Ed := es.filter fun e => e.1 == v
def toF (es : List Ed) (v : Int) : List Ed := es.filter fun e => e.2.1 == v
theorem filt_step {f : Ed → Bool} {es : List Ed} {k : Nat} {e : Ed} (h : es[k]? = some e) : (es.take (k + 1)).filter f = (es.take k).filter f ++ (if f e then [e] else []) := by
 rw [List.take_add_one, h, List.filter_append]
 congr 1
 simp only [Option.toList_some, List.filter_cons, List.filter_nil]
theorem rout_any (w : World) (V : Int) (A : Option Addr) (es : List Ed) (L c : Nat) (v : Int) (hL : es.length = L) (hE : Eds w w.heap.size A es) (hc : L ≤ 8192) :
  Calls Tryz.prog 61 #[.agg #[.int .i64 V, .slice A L c], .int .i64 v] w (RowPost w (fromF es v)) := by
 obtain ⟨i0, hi0, hz0, hz1, hz2⟩ := info_parts (show (Tryz.prog.info? 58).map (fun i => (i.zero, i.size, i.bytes)) = some (some (.agg #[.int .i64 0, .int .i64 0, .int .i64 0]), 3, 24) by kernel_rfl)
 obtain ⟨u, hu⟩ : ∃ u, w.alloc (.cells #[.int .i64 V, .slice A L c] 24) = u := ⟨_, rfl⟩
 have hzu : u.heap.size = w.heap.size + 1 := by rw [← hu]; simp
 have hbu : Below w.heap.size w u := by rw [← hu]; exact (Below.refl _ _).alloc (Nat.le_refl _) _
 have cg : u.heap[w.heap.size]? = some (.cells #[.int .i64 V, .slice A L c] 24) := by rw [← hu]; exact heap_alloc_last w _
 have cg1 : u.cell? ⟨w.heap.size, 1, none⟩ = some (.slice A L c) := cell_of_row _ _ 1 _ _ _ cg
 have hlg : w.heap.size < u.heap.size := by omega
 have HL := hide hL
 have EU := hide (hE.below hbu (Nat.le_refl _))
 have HB := hide hbu
 have HU := hide hu
 clear hu hzu hbu cg hE hL
 go_enter Tryz.func61, Tryz.ntmps61
 go_wp2
 rw [HU.out]
 go_loopw [5, 6] (fun v5 v6 wr => ∃ (k n : Nat) (A' : Option Addr) (c' : Nat), k ≤ L ∧ n ≤ k ∧ v6 = .int .i64 k ∧ v5 = .slice A' n c' ∧ Hid (((es.take k).filter (fun e => e.1 == v)).length = n) ∧ Hid (wr.ownsRow u.heap.size 58 3 (.slice A' n c') n (edFlat ((es.take k).filter (fun e => e.1 == v)))) ∧ Hid (Kept u wr) ∧ Hid (Below u.heap.size u wr) ∧ u.heap.size ≤ wr.heap.size) (fun _ v6 _ => L - (intOf v6).toNat)
 case atStart => exact ⟨0, 0, none, 0, by omega, by omega, rfl, rfl, hide rfl, hide (World.ownsRow_nil _ _ _ _), hide (Kept.refl u), hide (Below.refl _ _), Nat.le_refl _⟩
 case round =>
  obtain ⟨k, n, A', c', hk, hn, rfl, rfl, hlen, hown, hk1, hb1, hs1⟩ := hrel
  have a1 := (hk1.out ⟨w.heap.size, 1, none⟩ hlg).trans cg1
  by_cases hlt : k < L
  ·obtain ⟨⟨x, y, z⟩, he⟩ : ∃ e, es[k]? = some e := ⟨_, List.getElem?_eq_getElem (by rw [HL.out]; exact hlt)⟩
   obtain ⟨b, off, rfl, hbl, d0, d1, d2, d3, d4⟩ := EU.out.get he
   have d0 := (hk1.out ⟨b, off + k * 3, none⟩ (by show b < _; omega)).trans d0
   have d1 := (hk1.out ⟨b, off + k * 3 + 1, none⟩ (by show b < _; omega)).trans d1
   have d2 := (hk1.out ⟨b, off + k * 3 + 2, none⟩ (by show b < _; omega)).trans d2
   have hst := hide (filt_step (f := fun e => e.1 == v) he)
   have hI0 : (k : Int) < (L : Int) := by omega
   clear he
   dsimp only at d0 d1 d2 d3 d4
   by_cases hxy : x = v
   ·subst hxy
    have hfe : Hid ((es.take (k + 1)).filter (fun e => e.1 == x) = (es.take k).filter (fun e => e.1 == x) ++ [(x, y, z)]) := hide (by rw [hst.out]; simp)
    go_wp2_with (at_builtin; refine wpList_app rfl (.tmp 22) (.tmp 28) 22 rfl u.heap.size 58 i0 (.agg #[.int .i64 0, .int .i64 0, .int .i64 0]) 3 24 Tryz.underlying22 hi0 hz0 hz1 hz2 rfl (by decide) (.slice A' n c') n _ rfl (hown.out.alloc _) (wr.heap.size + 1) (some ⟨wr.heap.size, 0, none⟩) 1 1 [.int .i64 x, .int .i64 y, .int .i64 z] rfl rfl (Rd.new _ _ _ _) (by simp [Value.oneCell']) (by unfold maxLen; omega) (by omega) (by simp; omega) ?_)
    intro A2 c2 w2 hown2 hg2 hat2
    have ho2 : Hid (w2.ownsRow u.heap.size 58 3 (.slice A2 (n + 1) c2) (n + 1) (edFlat ((es.take (k + 1)).filter (fun e => e.1 == x)))) := hide (by rw [hfe.out, ← edFlat_app]; exact hown2)
    have hl2 : Hid (((es.take (k + 1)).filter (fun e => e.1 == x)).length = n + 1) := hide (by rw [hfe.out, List.length_append, hlen.out]; rfl)
    have hb2 := hide (app_below (hb1.out.alloc hs1 _) (hown.out.alloc _) hg2 (by simp; omega) (Nat.le_refl _))
    have hk2 : Hid (Kept u w2) := hide (Kept.of_below hb2.out)
    have hs2 : u.heap.size ≤ w2.heap.size := hb2.out.size
    clear hown2 hg2 hat2 a1 d0 d1 d2
    go_wp2
    go_roundw
    case rel => exact ⟨k + 1, n + 1, A2, c2, by omega, by omega, by go_num, rfl, hl2, ho2, hk2, hb2, hs2⟩
    case measure => simp [intOf]; omega
   ·have hne : (x == v) = false := by simp only [beq_eq_false_iff_ne, ne_eq]; exact hxy
    have hfe : Hid ((es.take (k + 1)).filter (fun e => e.1 == v) = (es.take k).filter (fun e => e.1 == v)) := hide (by rw [hst.out]; simp [hne])
    have ho2 : Hid (wr.ownsRow u.heap.size 58 3 (.slice A' n c') n (edFlat ((es.take (k + 1)).filter (fun e => e.1 == v)))) := hide (by rw [hfe.out]; exact hown.out)
    have hl2 : Hid (((es.take (k + 1)).filter (fun e => e.1 == v)).length = n) := hide (by rw [hfe.out]; exact hlen.out)
    go_wp2
    go_roundw
    case rel => exact ⟨k + 1, n, A', c', by omega, by omega, by go_num, rfl, hl2, ho2, hk1, hb1, hs1⟩
    case measure => simp [intOf]; omega
  ·obtain rfl : k = L := by omega
   have hfe : (es.take k).filter (fun e => e.1 == v) = fromF es v := by rw [List.take_of_length_le (by rw [HL.out]; exact Nat.le_refl _)]; rfl
   rw [hfe] at hlen hown
   have HFin : Hid (RowPost w (fromF es v) (.returned (.slice A' n c')) wr) := hide ⟨A', c', by rw [hlen.out], by rw [hlen.out]; exact ownsRow_lower hown.out (by have := HB.out.size; omega), HB.out.trans (hb1.out.mono HB.out.size)⟩
   clear hlen hown hfe
   go_wp2
   go_ret
   exact HFin.out
theorem rback_any (w : World) (V : Int) (A : Option Addr) (es : List Ed) (L c : Nat) (v : Int) (hL : es.length = L) (hE : Eds w w.heap.size A es) (hc : L ≤ 8192) :
  Calls Tryz.prog 63 #[.agg #[.int .i64 V, .slice A L c], .int .i64 v] w (RowPost w (toF es v)) := by
 obtain ⟨i0, hi0, hz0, hz1, hz2⟩ := info_parts (show (Tryz.prog.info? 58).map (fun i => (i.zero, i.size, i.bytes)) = some (some (.agg #[.int .i64 0, .int .i64 0, .int .i64 0]), 3, 24) by kernel_rfl)
 obtain ⟨u, hu⟩ : ∃ u, w.alloc (.cells #[.int .i64 V, .slice A L c] 24) = u := ⟨_, rfl⟩
 have hzu : u.heap.size = w.heap.size + 1 := by rw [← hu]; simp
 have hbu : Below w.heap.size w u := by rw [← hu]; exact (Below.refl _ _).alloc (Nat.le_refl _) _
 have cg : u.heap[w.heap.size]? = some (.cells #[.int .i64 V, .slice A L c] 24) := by rw [← hu]; exact heap_alloc_last w _
 have cg1 : u.cell? ⟨w.heap.size, 1, none⟩ = some (.slice A L c) := cell_of_row _ _ 1 _ _ _ cg
 have hlg : w.heap.size < u.heap.size := by omega
 have HL := hide hL
 have EU := hide (hE.below hbu (Nat.le_refl _))
 have HB := hide hbu
 have HU := hide hu
 clear hu hzu hbu cg hE hL
 go_enter Tryz.func63, Tryz.ntmps63
 go_wp2
 rw [HU.out]
 go_loopw [5, 6] (fun v5 v6 wr => ∃ (k n : Nat) (A' : Option Addr) (c' : Nat), k ≤ L ∧ n ≤ k ∧ v6 = .int .i64 k ∧ v5 = .slice A' n c' ∧ Hid (((es.take k).filter (fun e => e.2.1 == v)).length = n) ∧ Hid (wr.ownsRow u.heap.size 58 3 (.slice A' n c') n (edFlat ((es.take k).filter (fun e => e.2.1 == v)))) ∧ Hid (Kept u wr) ∧ Hid (Below u.heap.size u wr) ∧ u.heap.size ≤ wr.heap.size) (fun _ v6 _ => L - (intOf v6).toNat)
 case atStart => exact ⟨0, 0, none, 0, by omega, by omega, rfl, rfl, hide rfl, hide (World.ownsRow_nil _ _ _ _), hide (Kept.refl u), hide (Below.refl _ _), Nat.le_refl _⟩
 case round =>
  obtain ⟨k, n, A', c', hk, hn, rfl, rfl, hlen, hown, hk1, hb1, hs1⟩ := hrel
  have a1 := (hk1.out ⟨w.heap.size, 1, none⟩ hlg).trans cg1
  by_cases hlt : k < L
  ·obtain ⟨⟨x, y, z⟩, he⟩ : ∃ e, es[k]? = some e := ⟨_, List.getElem?_eq_getElem (by rw [HL.out]; exact hlt)⟩
   obtain ⟨b, off, rfl, hbl, d0, d1, d2, d3, d4⟩ := EU.out.get he
   have d0 := (hk1.out ⟨b, off + k * 3, none⟩ (by show b < _; omega)).trans d0
   have d1 := (hk1.out ⟨b, off + k * 3 + 1, none⟩ (by show b < _; omega)).trans d1
   have d2 := (hk1.out ⟨b, off + k * 3 + 2, none⟩ (by show b < _; omega)).trans d2
   have hst := hide (filt_step (f := fun e => e.2.1 == v) he)
   have hI0 : (k : Int) < (L : Int) := by omega
   clear he
   dsimp only at d0 d1 d2 d3 d4
   by_cases hxy : y = v
   ·subst hxy
    have hfe : Hid ((es.take (k + 1)).filter (fun e => e.2.1 == y) = (es.take k).filter (fun e => e.2.1 == y) ++ [(x, y, z)]) := hide (by rw [hst.out]; simp)
    go_wp2_with (at_builtin; refine wpList_app rfl (.tmp 22) (.tmp 28) 22 rfl u.heap.size 58 i0 (.agg #[.int .i64 0, .int .i64 0, .int .i64 0]) 3 24 Tryz.underlying22 hi0 hz0 hz1 hz2 rfl (by decide) (.slice A' n c') n _ rfl (hown.out.alloc _) (wr.heap.size + 1) (some ⟨wr.heap.size, 0, none⟩) 1 1 [.int .i64 x, .int .i64 y, .int .i64 z] rfl rfl (Rd.new _ _ _ _) (by simp [Value.oneCell']) (by unfold maxLen; omega) (by omega) (by simp; omega) ?_)
    intro A2 c2 w2 hown2 hg2 hat2
    have ho2 : Hid (w2.ownsRow u.heap.size 58 3 (.slice A2 (n + 1) c2) (n + 1) (edFlat ((es.take (k + 1)).filter (fun e => e.2.1 == y)))) := hide (by rw [hfe.out, ← edFlat_app]; exact hown2)
    have hl2 : Hid (((es.take (k + 1)).filter (fun e => e.2.1 == y)).length = n + 1) := hide (by rw [hfe.out, List.length_append, hlen.out]; rfl)
    have hb2 := hide (app_below (hb1.out.alloc hs1 _) (hown.out.alloc _) hg2 (by simp; omega) (Nat.le_refl _))
    have hk2 : Hid (Kept u w2) := hide (Kept.of_below hb2.out)
    have hs2 : u.heap.size ≤ w2.heap.size := hb2.out.size
    clear hown2 hg2 hat2 a1 d0 d1 d2
    go_wp2
    go_roundw
    case rel => exact ⟨k + 1, n + 1, A2, c2, by omega, by omega, by go_num, rfl, hl2, ho2, hk2, hb2, hs2⟩
    case measure => simp [intOf]; omega
   ·have hne : (y == v) = false := by simp only [beq_eq_false_iff_ne, ne_eq]; exact hxy
    have hfe : Hid ((es.take (k + 1)).filter (fun e => e.2.1 == v) = (es.take k).filter (fun e => e.2.1 == v)) := hide (by rw [hst.out]; simp [hne])
    have ho2 : Hid (wr.ownsRow u.heap.size 58 3 (.slice A' n c') n (edFlat ((es.take (k + 1)).filter (fun e => e.2.1 == v)))) := hide (by rw [hfe.out]; exact hown.out)
    have hl2 : Hid (((es.take (k + 1)).filter (fun e => e.2.1 == v)).length = n) := hide (by rw [hfe.out]; exact hlen.out)
    go_wp2
    go_roundw
    case rel => exact ⟨k + 1, n, A', c', by omega, by omega, by go_num, rfl, hl2, ho2, hk1, hb1, hs1⟩
    case measure => simp [intOf]; omega
  ·obtain rfl : k = L := by omega
   have hfe : (es.take k).filter (fun e => e.2.1 == v) = toF es v := by rw [List.take_of_length_le (by rw [HL.out]; exact Nat.le_refl _)]; rfl
   rw [hfe] at hlen hown
   have HFin : Hid (RowPost w (toF es v) (.returned (.slice A' n c')) wr) := hide ⟨A', c', by rw [hlen.out], by rw [hlen.out]; exact ownsRow_lower hown.out (by have := HB.out.size; omega), HB.out.trans (hb1.out.mono HB.out.size)⟩
   clear hlen hown hfe
   go_wp2
   go_ret
   exact HFin.out
end Go.Proofs.YtpgbjabifhjogaaGreat
namespace Go.Proofs.YtpgbjabifhjogaaGreat
open Go.RowKit
def nm (m : Ml) : Ml := if m.1 then m else (false, 0)
theorem bools_get? {l : List Bool} {i : Nat} {x : Bool} (h : l[i]? = some x) : (bools l)[i]? = some (.bool x) := by simp [bools, h]
end Go.Proofs.YtpgbjabifhjogaaGreat
namespace Go.Proofs.YtpgbjabifhjogaaGreat
open Go.RowKit
theorem rmsame_any (w : World) (A B : Option Addr) (xs ys : List Ml) (n m c d : Nat) (hx : xs.length = n) (hy : ys.length = m) (hn : n ≤ 9223372036854775807) (rx : Rd w w.heap.size A (mlFlat xs)) (ry : Rd w w.heap.size B (mlFlat ys)) :
  Calls Tryz.prog 37 #[.slice A n c, .slice B m d] w fun e w' => e = .returned (.bool (eqL (xs.map nm) (ys.map nm))) ∧ Below w.heap.size w w' := by
 have HX := hide hx
 have HY := hide hy
 have RX := hide rx
 have RY := hide ry
 clear hx hy rx ry
 by_cases hnm : n = m
 ·obtain rfl := hnm
  go_enter Tryz.func37, Tryz.ntmps37
  go_wp2
  go_loopw [5] (fun vi wr => ∃ i : Nat, i ≤ n ∧ vi = .int .i64 i ∧ Hid (eqL (xs.map nm) (ys.map nm) = eqL ((xs.map nm).drop i) ((ys.map nm).drop i)) ∧ Hid (Kept w wr) ∧ Hid (Below w.heap.size w wr)) (fun vi _ => n - (intOf vi).toNat)
  case atStart => exact ⟨0, by omega, rfl, hide rfl, hide (Kept.refl w), hide (Below.refl _ _)⟩
  case round =>
   obtain ⟨i, hi, rfl, heq, hkr, hbr⟩ := hrel
   by_cases hlt : i < n
   ·have hi1 : i < xs.length := by rw [HX.out]; exact hlt
    have hi2 : i < ys.length := by rw [HY.out]; exact hlt
    have HS := hide (eqL_step (xs.map nm) (ys.map nm) i (by rw [List.length_map]; exact hi1) (by rw [List.length_map]; exact hi2))
    obtain ⟨b1, o1, rfl, l1, cx0, cx1⟩ := RX.out.ml (List.getElem?_eq_getElem hi1)
    obtain ⟨b2, o2, rfl, l2, cy0, cy1⟩ := RY.out.ml (List.getElem?_eq_getElem hi2)
    rw [List.getElem_map, List.getElem_map] at HS
    obtain ⟨x, hx⟩ : ∃ x, xs[i] = x := ⟨_, rfl⟩
    obtain ⟨y, hy⟩ : ∃ y, ys[i] = y := ⟨_, rfl⟩
    rw [hx] at cx0 cx1 HS
    rw [hy] at cy0 cy1 HS
    clear hx hy hi1 hi2
    obtain ⟨a, x⟩ := x
    obtain ⟨b, y⟩ := y
    dsimp only at cx0 cx1 cy0 cy1
    have hI0 : (0 : Int) ≤ (i : Int) := by omega
    have hI1 : (i : Int) < (n : Int) := by omega
    rcases a with _ | _ <;> rcases b with _ | _
    ·have HE : Hid (eqL (xs.map nm) (ys.map nm) = eqL ((xs.map nm).drop (i + 1)) ((ys.map nm).drop (i + 1))) := hide (by rw [heq.out, HS.out, decide_eq_true (by simp [nm]), Bool.true_and])
     go_wp2
     refine wp_region_held_drew (S := Kept w) (by kernel_rfl) (fun p hp => hkr.out p hp) (fun hS0 => ?_)
     refine tk 0 17 ?_ ?_ ?_; rotate_left; (focus (intro w h; go_simp; (try with_reducible rfl))); (try simp only [xd, xe, xf])
     refine tk 1 18 ?_ ?_ ?_; rotate_left; (focus (intro w h; go_simp; (try with_reducible rfl))); (try simp only [xd, xe, xf])
     refine tk 2 19 ?_ ?_ ?_; rotate_left; (focus (intro w h; go_simp; (try with_reducible rfl))); (try simp only [xd, xe, xf])
     refine tk 3 20 ?_ ?_ ?_; rotate_left; (focus (intro w h; go_simp; (try with_reducible rfl))); (try simp only [xd, xe, xf])
     refine tk 4 21 ?_ ?_ ?_; rotate_left; (focus (intro w h; go_simp; (try with_reducible rfl))); (try simp only [xd, xe, xf])
     refine tk 5 22 ?_ ?_ ?_; rotate_left; (focus (intro w h; go_simp; (try with_reducible rfl))); (try simp only [xd, xe, xf])
     refine tk 6 23 ?_ ?_ ?_; rotate_left; (focus (intro w h; go_simp; (try with_reducible rfl))); (try simp only [xd, xe, xf])
     refine tk 7 24 ?_ ?_ ?_; rotate_left; (focus (intro w h; go_simp; (try with_reducible rfl))); (try simp only [xd, xe, xf])
     refine tk 8 25 ?_ ?_ ?_; rotate_left; (focus (intro w h; go_simp; (try with_reducible rfl))); (try simp only [xd, xe, xf])
     refine tk 9 26 ?_ ?_ ?_; rotate_left; (focus (intro w h; go_simp; (try with_reducible rfl))); (try simp only [xd, xe, xf])
     refine tk 10 27 ?_ ?_ ?_; rotate_left; (focus (intro w h; go_simp; (try with_reducible rfl))); (try simp only [xd, xe, xf])
     refine tk 11 28 ?_ ?_ ?_; rotate_left; (focus (intro w h; go_simp; (try with_reducible rfl))); (try simp only [xd, xe, xf])
     refine tk 12 29 ?_ ?_ ?_; rotate_left; (focus (intro w h; go_simp; (try with_reducible rfl))); (try simp only [xd, xe, xf])
     refine tk 13 30 ?_ ?_ ?_; rotate_left; (focus (intro w h; go_simp; (try with_reducible rfl))); (try simp only [xd, xe, xf])
     refine tk 14 31 ?_ ?_ ?_; rotate_left; (focus (intro w h; go_simp; (try with_reducible rfl))); (try simp only [xd, xe, xf])
     refine tk 15 32 ?_ ?_ ?_; rotate_left; (focus (intro w h; go_simp; (try with_reducible rfl))); (try simp only [xd, xe, xf])
     refine tk 16 33 ?_ ?_ ?_; rotate_left; (focus (intro w h; go_simp; (try with_reducible rfl))); (try simp only [xd, xe, xf])
     refine tk 17 34 ?_ ?_ ?_; rotate_left; (focus (intro w h; go_simp; (try with_reducible rfl))); (try simp only [xd, xe, xf])
     refine sk 18 35 ?_; (try simp only [xd, xe, xf])
     refine sk 19 36 ?_; (try simp only [xd, xe, xf])
     refine sk 20 37 ?_; (try simp only [xd, xe, xf])
     refine sk 21 38 ?_; (try simp only [xd, xe, xf])
     refine sk 22 39 ?_; (try simp only [xd, xe, xf])
     refine sk 23 40 ?_; (try simp only [xd, xe, xf])
     refine sk 24 41 ?_; (try simp only [xd, xe, xf])
     refine sk 25 42 ?_; (try simp only [xd, xe, xf])
     refine sk 26 43 ?_; (try simp only [xd, xe, xf])
     refine sk 27 44 ?_; (try simp only [xd, xe, xf])
     refine sk 28 45 ?_; (try simp only [xd, xe, xf])
     refine tk 29 46 ?_ ?_ ?_; rotate_left; (focus (intro w h; go_simp; (try with_reducible rfl))); (try simp only [xd, xe, xf])
     refine tk 30 47 ?_ ?_ ?_; rotate_left; (focus (intro w h; go_simp; (try with_reducible rfl))); (try simp only [xd, xe, xf])
     refine wpAnyH_done (by kernel_rfl) ?_ _
     clear hS0
     go_wp2
     go_roundw
     case rel => exact ⟨i + 1, by omega, by go_num, HE, hide (fun p hp => hkr.out p hp), hide hbr.out.drew⟩
     case measure => simp [intOf]; omega
    ·have HE : Hid (eqL (xs.map nm) (ys.map nm) = false) := hide (by rw [heq.out, HS.out, decide_eq_false (by simp [nm]), Bool.false_and])
     go_wp2
     refine wp_region_held_drew (S := Kept w) (by kernel_rfl) (fun p hp => hkr.out p hp) (fun hS0 => ?_)
     refine tk 0 17 ?_ ?_ ?_; rotate_left; (focus (intro w h; go_simp; (try with_reducible rfl))); (try simp only [xd, xe, xf])
     refine tk 1 18 ?_ ?_ ?_; rotate_left; (focus (intro w h; go_simp; (try with_reducible rfl))); (try simp only [xd, xe, xf])
     refine tk 2 19 ?_ ?_ ?_; rotate_left; (focus (intro w h; go_simp; (try with_reducible rfl))); (try simp only [xd, xe, xf])
     refine tk 3 20 ?_ ?_ ?_; rotate_left; (focus (intro w h; go_simp; (try with_reducible rfl))); (try simp only [xd, xe, xf])
     refine tk 4 21 ?_ ?_ ?_; rotate_left; (focus (intro w h; go_simp; (try with_reducible rfl))); (try simp only [xd, xe, xf])
     refine tk 5 22 ?_ ?_ ?_; rotate_left; (focus (intro w h; go_simp; (try with_reducible rfl))); (try simp only [xd, xe, xf])
     refine tk 6 23 ?_ ?_ ?_; rotate_left; (focus (intro w h; go_simp; (try with_reducible rfl))); (try simp only [xd, xe, xf])
     refine tk 7 24 ?_ ?_ ?_; rotate_left; (focus (intro w h; go_simp; (try with_reducible rfl))); (try simp only [xd, xe, xf])
     refine tk 8 25 ?_ ?_ ?_; rotate_left; (focus (intro w h; go_simp; (try with_reducible rfl))); (try simp only [xd, xe, xf])
     refine tk 9 26 ?_ ?_ ?_; rotate_left; (focus (intro w h; go_simp; (try with_reducible rfl))); (try simp only [xd, xe, xf])
     refine tk 10 27 ?_ ?_ ?_; rotate_left; (focus (intro w h; go_simp; (try with_reducible rfl))); (try simp only [xd, xe, xf])
     refine tk 11 28 ?_ ?_ ?_; rotate_left; (focus (intro w h; go_simp; (try with_reducible rfl))); (try simp only [xd, xe, xf])
     refine sk 12 29 ?_; (try simp only [xd, xe, xf])
     refine sk 13 30 ?_; (try simp only [xd, xe, xf])
     refine sk 14 31 ?_; (try simp only [xd, xe, xf])
     refine sk 15 32 ?_; (try simp only [xd, xe, xf])
     refine sk 16 33 ?_; (try simp only [xd, xe, xf])
     refine sk 17 34 ?_; (try simp only [xd, xe, xf])
     refine sk 18 35 ?_; (try simp only [xd, xe, xf])
     refine sk 19 36 ?_; (try simp only [xd, xe, xf])
     refine sk 20 37 ?_; (try simp only [xd, xe, xf])
     refine sk 21 38 ?_; (try simp only [xd, xe, xf])
     refine sk 22 39 ?_; (try simp only [xd, xe, xf])
     refine sk 23 40 ?_; (try simp only [xd, xe, xf])
     refine sk 24 41 ?_; (try simp only [xd, xe, xf])
     refine sk 25 42 ?_; (try simp only [xd, xe, xf])
     refine sk 26 43 ?_; (try simp only [xd, xe, xf])
     refine sk 27 44 ?_; (try simp only [xd, xe, xf])
     refine sk 28 45 ?_; (try simp only [xd, xe, xf])
     refine sk 29 46 ?_; (try simp only [xd, xe, xf])
     refine tk 30 47 ?_ ?_ ?_; rotate_left; (focus (intro w h; go_simp; (try with_reducible rfl))); (try simp only [xd, xe, xf])
     refine wpAnyH_done (by kernel_rfl) ?_ _
     clear hS0
     go_wp2
     go_ret
     exact ⟨ret_b (by rw [HE.out]), hbr.out.drew⟩
    ·have HE : Hid (eqL (xs.map nm) (ys.map nm) = false) := hide (by rw [heq.out, HS.out, decide_eq_false (by simp [nm]), Bool.false_and])
     go_wp2
     refine wp_region_held_drew (S := Kept w) (by kernel_rfl) (fun p hp => hkr.out p hp) (fun hS0 => ?_)
     refine tk 0 17 ?_ ?_ ?_; rotate_left; (focus (intro w h; go_simp; (try with_reducible rfl))); (try simp only [xd, xe, xf])
     refine tk 1 18 ?_ ?_ ?_; rotate_left; (focus (intro w h; go_simp; (try with_reducible rfl))); (try simp only [xd, xe, xf])
     refine tk 2 19 ?_ ?_ ?_; rotate_left; (focus (intro w h; go_simp; (try with_reducible rfl))); (try simp only [xd, xe, xf])
     refine tk 3 20 ?_ ?_ ?_; rotate_left; (focus (intro w h; go_simp; (try with_reducible rfl))); (try simp only [xd, xe, xf])
     refine tk 4 21 ?_ ?_ ?_; rotate_left; (focus (intro w h; go_simp; (try with_reducible rfl))); (try simp only [xd, xe, xf])
     refine tk 5 22 ?_ ?_ ?_; rotate_left; (focus (intro w h; go_simp; (try with_reducible rfl))); (try simp only [xd, xe, xf])
     refine tk 6 23 ?_ ?_ ?_; rotate_left; (focus (intro w h; go_simp; (try with_reducible rfl))); (try simp only [xd, xe, xf])
     refine tk 7 24 ?_ ?_ ?_; rotate_left; (focus (intro w h; go_simp; (try with_reducible rfl))); (try simp only [xd, xe, xf])
     refine tk 8 25 ?_ ?_ ?_; rotate_left; (focus (intro w h; go_simp; (try with_reducible rfl))); (try simp only [xd, xe, xf])
     refine tk 9 26 ?_ ?_ ?_; rotate_left; (focus (intro w h; go_simp; (try with_reducible rfl))); (try simp only [xd, xe, xf])
     refine tk 10 27 ?_ ?_ ?_; rotate_left; (focus (intro w h; go_simp; (try with_reducible rfl))); (try simp only [xd, xe, xf])
     refine tk 11 28 ?_ ?_ ?_; rotate_left; (focus (intro w h; go_simp; (try with_reducible rfl))); (try simp only [xd, xe, xf])
     refine sk 12 29 ?_; (try simp only [xd, xe, xf])
     refine sk 13 30 ?_; (try simp only [xd, xe, xf])
     refine sk 14 31 ?_; (try simp only [xd, xe, xf])
     refine sk 15 32 ?_; (try simp only [xd, xe, xf])
     refine sk 16 33 ?_; (try simp only [xd, xe, xf])
     refine sk 17 34 ?_; (try simp only [xd, xe, xf])
     refine sk 18 35 ?_; (try simp only [xd, xe, xf])
     refine sk 19 36 ?_; (try simp only [xd, xe, xf])
     refine sk 20 37 ?_; (try simp only [xd, xe, xf])
     refine sk 21 38 ?_; (try simp only [xd, xe, xf])
     refine sk 22 39 ?_; (try simp only [xd, xe, xf])
     refine sk 23 40 ?_; (try simp only [xd, xe, xf])
     refine sk 24 41 ?_; (try simp only [xd, xe, xf])
     refine sk 25 42 ?_; (try simp only [xd, xe, xf])
     refine sk 26 43 ?_; (try simp only [xd, xe, xf])
     refine sk 27 44 ?_; (try simp only [xd, xe, xf])
     refine sk 28 45 ?_; (try simp only [xd, xe, xf])
     refine sk 29 46 ?_; (try simp only [xd, xe, xf])
     refine tk 30 47 ?_ ?_ ?_; rotate_left; (focus (intro w h; go_simp; (try with_reducible rfl))); (try simp only [xd, xe, xf])
     refine wpAnyH_done (by kernel_rfl) ?_ _
     clear hS0
     go_wp2
     go_ret
     exact ⟨ret_b (by rw [HE.out]), hbr.out.drew⟩
    ·by_cases hxy : x = y
     ·have HE : Hid (eqL (xs.map nm) (ys.map nm) = eqL ((xs.map nm).drop (i + 1)) ((ys.map nm).drop (i + 1))) := hide (by rw [heq.out, HS.out, decide_eq_true (by simp [nm, hxy]), Bool.true_and])
      subst hxy
      go_wp2
      refine wp_region_held_drew (S := Kept w) (by kernel_rfl) (fun p hp => hkr.out p hp) (fun hS0 => ?_)
      refine tk 0 17 ?_ ?_ ?_; rotate_left; (focus (intro w h; go_simp; (try with_reducible rfl))); (try simp only [xd, xe, xf])
      refine tk 1 18 ?_ ?_ ?_; rotate_left; (focus (intro w h; go_simp; (try with_reducible rfl))); (try simp only [xd, xe, xf])
      refine tk 2 19 ?_ ?_ ?_; rotate_left; (focus (intro w h; go_simp; (try with_reducible rfl))); (try simp only [xd, xe, xf])
      refine tk 3 20 ?_ ?_ ?_; rotate_left; (focus (intro w h; go_simp; (try with_reducible rfl))); (try simp only [xd, xe, xf])
      refine tk 4 21 ?_ ?_ ?_; rotate_left; (focus (intro w h; go_simp; (try with_reducible rfl))); (try simp only [xd, xe, xf])
      refine tk 5 22 ?_ ?_ ?_; rotate_left; (focus (intro w h; go_simp; (try with_reducible rfl))); (try simp only [xd, xe, xf])
      refine tk 6 23 ?_ ?_ ?_; rotate_left; (focus (intro w h; go_simp; (try with_reducible rfl))); (try simp only [xd, xe, xf])
      refine tk 7 24 ?_ ?_ ?_; rotate_left; (focus (intro w h; go_simp; (try with_reducible rfl))); (try simp only [xd, xe, xf])
      refine tk 8 25 ?_ ?_ ?_; rotate_left; (focus (intro w h; go_simp; (try with_reducible rfl))); (try simp only [xd, xe, xf])
      refine tk 9 26 ?_ ?_ ?_; rotate_left; (focus (intro w h; go_simp; (try with_reducible rfl))); (try simp only [xd, xe, xf])
      refine tk 10 27 ?_ ?_ ?_; rotate_left; (focus (intro w h; go_simp; (try with_reducible rfl))); (try simp only [xd, xe, xf])
      refine tk 11 28 ?_ ?_ ?_; rotate_left; (focus (intro w h; go_simp; (try with_reducible rfl))); (try simp only [xd, xe, xf])
      refine tk 12 29 ?_ ?_ ?_; rotate_left; (focus (intro w h; go_simp; (try with_reducible rfl))); (try simp only [xd, xe, xf])
      refine tk 13 30 ?_ ?_ ?_; rotate_left; (focus (intro w h; go_simp; (try with_reducible rfl))); (try simp only [xd, xe, xf])
      refine tk 14 31 ?_ ?_ ?_; rotate_left; (focus (intro w h; go_simp; (try with_reducible rfl))); (try simp only [xd, xe, xf])
      refine tk 15 32 ?_ ?_ ?_; rotate_left; (focus (intro w h; go_simp; (try with_reducible rfl))); (try simp only [xd, xe, xf])
      refine tk 16 33 ?_ ?_ ?_; rotate_left; (focus (intro w h; go_simp; (try with_reducible rfl))); (try simp only [xd, xe, xf])
      refine tk 17 34 ?_ ?_ ?_; rotate_left; (focus (intro w h; go_simp; (try with_reducible rfl))); (try simp only [xd, xe, xf])
      refine tk 18 35 ?_ ?_ ?_; rotate_left; (focus (intro w h; go_simp; (try with_reducible rfl))); (try simp only [xd, xe, xf])
      refine tk 19 36 ?_ ?_ ?_; rotate_left; (focus (intro w h; go_simp; (try with_reducible rfl))); (try simp only [xd, xe, xf])
      refine tk 20 37 ?_ ?_ ?_; rotate_left; (focus (intro w h; go_simp; (try with_reducible rfl))); (try simp only [xd, xe, xf])
      refine tk 21 38 ?_ ?_ ?_; rotate_left; (focus (intro w h; go_simp; (try with_reducible rfl))); (try simp only [xd, xe, xf])
      refine tk 22 39 ?_ ?_ ?_; rotate_left; (focus (intro w h; go_simp; (try with_reducible rfl))); (try simp only [xd, xe, xf])
      refine tk 23 40 ?_ ?_ ?_; rotate_left; (focus (intro w h; go_simp; (try with_reducible rfl))); (try simp only [xd, xe, xf])
      refine tk 24 41 ?_ ?_ ?_; rotate_left; (focus (intro w h; go_simp; (try with_reducible rfl))); (try simp only [xd, xe, xf])
      refine tk 25 42 ?_ ?_ ?_; rotate_left; (focus (intro w h; go_simp; (try with_reducible rfl))); (try simp only [xd, xe, xf])
      refine tk 26 43 ?_ ?_ ?_; rotate_left; (focus (intro w h; go_simp; (try with_reducible rfl))); (try simp only [xd, xe, xf])
      refine tk 27 44 ?_ ?_ ?_; rotate_left; (focus (intro w h; go_simp; (try with_reducible rfl))); (try simp only [xd, xe, xf])
      refine tk 28 45 ?_ ?_ ?_; rotate_left; (focus (intro w h; go_simp; (try with_reducible rfl))); (try simp only [xd, xe, xf])
      refine tk 29 46 ?_ ?_ ?_; rotate_left; (focus (intro w h; go_simp; (try with_reducible rfl))); (try simp only [xd, xe, xf])
      refine tk 30 47 ?_ ?_ ?_; rotate_left; (focus (intro w h; go_simp; (try with_reducible rfl))); (try simp only [xd, xe, xf])
      refine wpAnyH_done (by kernel_rfl) ?_ _
      clear hS0
      go_wp2
      go_roundw
      case rel => exact ⟨i + 1, by omega, by go_num, HE, hide (fun p hp => hkr.out p hp), hide hbr.out.drew⟩
      case measure => simp [intOf]; omega
     ·have HE : Hid (eqL (xs.map nm) (ys.map nm) = false) := hide (by rw [heq.out, HS.out, decide_eq_false (by simp [nm, hxy]), Bool.false_and])
      have hxy' : (x == y) = false := by simp only [beq_eq_false_iff_ne, ne_eq]; exact hxy
      have hxy2 : (x != y) = true := by simp only [bne_iff_ne, ne_eq]; exact hxy
      clear hxy
      go_wp2
      refine wp_region_held_drew (S := Kept w) (by kernel_rfl) (fun p hp => hkr.out p hp) (fun hS0 => ?_)
      refine tk 0 17 ?_ ?_ ?_; rotate_left; (focus (intro w h; go_simp; (try with_reducible rfl))); (try simp only [xd, xe, xf])
      refine tk 1 18 ?_ ?_ ?_; rotate_left; (focus (intro w h; go_simp; (try with_reducible rfl))); (try simp only [xd, xe, xf])
      refine tk 2 19 ?_ ?_ ?_; rotate_left; (focus (intro w h; go_simp; (try with_reducible rfl))); (try simp only [xd, xe, xf])
      refine tk 3 20 ?_ ?_ ?_; rotate_left; (focus (intro w h; go_simp; (try with_reducible rfl))); (try simp only [xd, xe, xf])
      refine tk 4 21 ?_ ?_ ?_; rotate_left; (focus (intro w h; go_simp; (try with_reducible rfl))); (try simp only [xd, xe, xf])
      refine tk 5 22 ?_ ?_ ?_; rotate_left; (focus (intro w h; go_simp; (try with_reducible rfl))); (try simp only [xd, xe, xf])
      refine tk 6 23 ?_ ?_ ?_; rotate_left; (focus (intro w h; go_simp; (try with_reducible rfl))); (try simp only [xd, xe, xf])
      refine tk 7 24 ?_ ?_ ?_; rotate_left; (focus (intro w h; go_simp; (try with_reducible rfl))); (try simp only [xd, xe, xf])
      refine tk 8 25 ?_ ?_ ?_; rotate_left; (focus (intro w h; go_simp; (try with_reducible rfl))); (try simp only [xd, xe, xf])
      refine tk 9 26 ?_ ?_ ?_; rotate_left; (focus (intro w h; go_simp; (try with_reducible rfl))); (try simp only [xd, xe, xf])
      refine tk 10 27 ?_ ?_ ?_; rotate_left; (focus (intro w h; go_simp; (try with_reducible rfl))); (try simp only [xd, xe, xf])
      refine tk 11 28 ?_ ?_ ?_; rotate_left; (focus (intro w h; go_simp; (try with_reducible rfl))); (try simp only [xd, xe, xf])
      refine tk 12 29 ?_ ?_ ?_; rotate_left; (focus (intro w h; go_simp; (try with_reducible rfl))); (try simp only [xd, xe, xf])
      refine tk 13 30 ?_ ?_ ?_; rotate_left; (focus (intro w h; go_simp; (try with_reducible rfl))); (try simp only [xd, xe, xf])
      refine tk 14 31 ?_ ?_ ?_; rotate_left; (focus (intro w h; go_simp; (try with_reducible rfl))); (try simp only [xd, xe, xf])
      refine tk 15 32 ?_ ?_ ?_; rotate_left; (focus (intro w h; go_simp; (try with_reducible rfl))); (try simp only [xd, xe, xf])
      refine tk 16 33 ?_ ?_ ?_; rotate_left; (focus (intro w h; go_simp; (try with_reducible rfl))); (try simp only [xd, xe, xf])
      refine tk 17 34 ?_ ?_ ?_; rotate_left; (focus (intro w h; go_simp; (try with_reducible rfl))); (try simp only [xd, xe, xf])
      refine tk 18 35 ?_ ?_ ?_; rotate_left; (focus (intro w h; go_simp; (try with_reducible rfl))); (try simp only [xd, xe, xf])
      refine tk 19 36 ?_ ?_ ?_; rotate_left; (focus (intro w h; go_simp; (try with_reducible rfl))); (try simp only [xd, xe, xf])
      refine tk 20 37 ?_ ?_ ?_; rotate_left; (focus (intro w h; go_simp; (try with_reducible rfl))); (try simp only [xd, xe, xf])
      refine tk 21 38 ?_ ?_ ?_; rotate_left; (focus (intro w h; go_simp; (try with_reducible rfl))); (try simp only [xd, xe, xf])
      refine tk 22 39 ?_ ?_ ?_; rotate_left; (focus (intro w h; go_simp; (try with_reducible rfl))); (try simp only [xd, xe, xf])
      refine tk 23 40 ?_ ?_ ?_; rotate_left; (focus (intro w h; go_simp; (try with_reducible rfl))); (try simp only [xd, xe, xf])
      refine tk 24 41 ?_ ?_ ?_; rotate_left; (focus (intro w h; go_simp; (try with_reducible rfl))); (try simp only [xd, xe, xf])
      refine tk 25 42 ?_ ?_ ?_; rotate_left; (focus (intro w h; go_simp; (try with_reducible rfl))); (try simp only [xd, xe, xf])
      refine tk 26 43 ?_ ?_ ?_; rotate_left; (focus (intro w h; go_simp; (try with_reducible rfl))); (try simp only [xd, xe, xf])
      refine tk 27 44 ?_ ?_ ?_; rotate_left; (focus (intro w h; go_simp; (try with_reducible rfl))); (try simp only [xd, xe, xf])
      refine tk 28 45 ?_ ?_ ?_; rotate_left; (focus (intro w h; go_simp; (try with_reducible rfl))); (try simp only [xd, xe, xf])
      refine tk 29 46 ?_ ?_ ?_; rotate_left; (focus (intro w h; go_simp; (try with_reducible rfl))); (try simp only [xd, xe, xf])
      refine tk 30 47 ?_ ?_ ?_; rotate_left; (focus (intro w h; go_simp; (try with_reducible rfl))); (try simp only [xd, xe, xf])
      refine wpAnyH_done (by kernel_rfl) ?_ _
      clear hS0
      go_wp2
      go_ret
      exact ⟨ret_b (by rw [HE.out]), hbr.out.drew⟩
   ·obtain rfl : i = n := by omega
    have HE : Hid (eqL (xs.map nm) (ys.map nm) = true) := hide (by rw [heq.out, List.drop_of_length_le (by have := HX.out; rw [List.length_map]; omega), List.drop_of_length_le (by have := HY.out; rw [List.length_map]; omega)]; exact eqL_nil)
    go_wp2
    go_ret
    exact ⟨ret_b (by rw [HE.out]), hbr.out⟩
 ·have HE : Hid (eqL (xs.map nm) (ys.map nm) = false) := hide (eqL_len (by rw [List.length_map, List.length_map, HX.out, HY.out]; exact hnm))
  have hne : ((n : Int) == (m : Int)) = false := by simp; omega
  have hne2 : ((n : Int) != (m : Int)) = true := by simp; omega
  go_enter Tryz.func37, Tryz.ntmps37
  go_wp2
  go_ret
  exact ⟨ret_b (by rw [HE.out]), Below.refl _ _⟩
end Go.Proofs.YtpgbjabifhjogaaGreat
namespace Go.Proofs.YtpgbjabifhjogaaGreat
open Go.RowKit
structure SV where
 st : Int
 vals : List Int
 chg : List Bool
 inb : List Ml
 sm : Int
 mo : Int
deriving DecidableEq
structure VIn (w : World) (p : SV) (Av Ac Ai : Option Addr) : Prop where
 vals : Rd w w.heap.size Av (i64s p.vals)
 chg : Rd w w.heap.size Ac (bools p.chg)
 inb : Rd w w.heap.size Ai (mlFlat p.inb)
theorem VIn.next {w w' : World} {p : SV} {Av Ac Ai : Option Addr} (h : VIn w p Av Ac Ai) (hb : Below w.heap.size w w') : VIn w' p Av Ac Ai := ⟨h.vals.next hb, h.chg.next hb, h.inb.next hb⟩
def VLen (p : SV) (nv nc ni : Nat) : Prop := p.vals.length = nv ∧ p.chg.length = nc ∧ p.inb.length = ni
def sameV (p q : SV) : Bool := decide (p.st = q.st) && decide (p.sm = q.sm) && decide (p.mo = q.mo) && eqL p.vals q.vals && eqL p.chg q.chg && eqL (p.inb.map nm) (q.inb.map nm)
theorem qrsame_any (w : World) (p1 : SV) (Av1 Ac1 Ai1 : Option Addr) (nv1 nc1 ni1 cv1 cc1 ci1 : Nat) (hl1 : VLen p1 nv1 nc1 ni1) (hi1 : VIn w p1 Av1 Ac1 Ai1) (p2 : SV) (Av2 Ac2 Ai2 : Option Addr) (nv2 nc2 ni2 cv2 cc2 ci2 : Nat) (hl2 : VLen p2 nv2 nc2 ni2) (hi2 : VIn w p2 Av2 Ac2 Ai2) (bv : nv1 ≤ 9223372036854775807) (bc : nc1 ≤ 9223372036854775807) (bi : ni1 ≤ 9223372036854775807) :
  Calls Tryz.prog 14 #[.agg #[.int .i64 p1.st, .slice Av1 nv1 cv1, .slice Ac1 nc1 cc1, .slice Ai1 ni1 ci1, .int .i64 p1.sm, .int .i64 p1.mo], .agg #[.int .i64 p2.st, .slice Av2 nv2 cv2, .slice Ac2 nc2 cc2, .slice Ai2 ni2 ci2, .int .i64 p2.sm, .int .i64 p2.mo]] w fun e w' => e = .returned (.bool (sameV p1 p2)) ∧ Below w.heap.size w w' := by
 obtain ⟨u, hv⟩ : ∃ v, (w.alloc (.cells #[.int .i64 p1.st, .slice Av1 nv1 cv1, .slice Ac1 nc1 cc1, .slice Ai1 ni1 ci1, .int .i64 p1.sm, .int .i64 p1.mo] 33)).alloc (.cells #[.int .i64 p2.st, .slice Av2 nv2 cv2, .slice Ac2 nc2 cc2, .slice Ai2 ni2 ci2, .int .i64 p2.sm, .int .i64 p2.mo] 33) = v := ⟨_, rfl⟩
 have hz : w.heap.size + 2 ≤ u.heap.size := by rw [← hv]; simp
 have hb : Below w.heap.size w u := by rw [← hv]; exact ((Below.refl _ _).alloc (Nat.le_refl _) _).alloc (by simp) _
 have q1 : u.heap[w.heap.size]? = some (.cells #[.int .i64 p1.st, .slice Av1 nv1 cv1, .slice Ac1 nc1 cc1, .slice Ai1 ni1 ci1, .int .i64 p1.sm, .int .i64 p1.mo] 33) := by rw [← hv]; exact (Below.heap_alloc _ _ _ (by simp)).trans (heap_alloc_last w _)
 have q2 : u.heap[w.heap.size + 1]? = some (.cells #[.int .i64 p2.st, .slice Av2 nv2 cv2, .slice Ac2 nc2 cc2, .slice Ai2 ni2 ci2, .int .i64 p2.sm, .int .i64 p2.mo] 33) := by
  rw [← hv]
  have := heap_alloc_last (w.alloc (.cells #[.int .i64 p1.st, .slice Av1 nv1 cv1, .slice Ac1 nc1 cc1, .slice Ai1 ni1 ci1, .int .i64 p1.sm, .int .i64 p1.mo] 33)) (.cells #[.int .i64 p2.st, .slice Av2 nv2 cv2, .slice Ac2 nc2 cc2, .slice Ai2 ni2 ci2, .int .i64 p2.sm, .int .i64 p2.mo] 33)
  rw [World.size_alloc] at this
  exact this
 have HB := hide hb
 have HVB := hide (show Below w.heap.size w ((w.alloc (.cells #[.int .i64 p1.st, .slice Av1 nv1 cv1, .slice Ac1 nc1 cc1, .slice Ai1 ni1 ci1, .int .i64 p1.sm, .int .i64 p1.mo] 33)).alloc (.cells #[.int .i64 p2.st, .slice Av2 nv2 cv2, .slice Ac2 nc2 cc2, .slice Ai2 ni2 ci2, .int .i64 p2.sm, .int .i64 p2.mo] 33)) by rw [hv]; exact hb)
 have HV := hide hv
 have HL1 := hide hl1; have HL2 := hide hl2
 have HI1 := hide (hi1.next hb); have HI2 := hide (hi2.next hb)
 have X0 := hide (show u.cell? ⟨w.heap.size, 0, none⟩ = some (.int .i64 p1.st) from cell_of_row _ _ 0 _ _ _ q1)
 have X4 := hide (show u.cell? ⟨w.heap.size, 4, none⟩ = some (.int .i64 p1.sm) from cell_of_row _ _ 4 _ _ _ q1)
 have X5 := hide (show u.cell? ⟨w.heap.size, 5, none⟩ = some (.int .i64 p1.mo) from cell_of_row _ _ 5 _ _ _ q1)
 have Y0 := hide (show u.cell? ⟨w.heap.size + 1, 0, none⟩ = some (.int .i64 p2.st) from cell_of_row _ _ 0 _ _ _ q2)
 have Y4 := hide (show u.cell? ⟨w.heap.size + 1, 4, none⟩ = some (.int .i64 p2.sm) from cell_of_row _ _ 4 _ _ _ q2)
 have Y5 := hide (show u.cell? ⟨w.heap.size + 1, 5, none⟩ = some (.int .i64 p2.mo) from cell_of_row _ _ 5 _ _ _ q2)
 have X1 := hide (show u.cell? ⟨w.heap.size, 1, none⟩ = some (.slice Av1 nv1 cv1) from cell_of_row _ _ 1 _ _ _ q1)
 have X2 := hide (show u.cell? ⟨w.heap.size, 2, none⟩ = some (.slice Ac1 nc1 cc1) from cell_of_row _ _ 2 _ _ _ q1)
 have X3 := hide (show u.cell? ⟨w.heap.size, 3, none⟩ = some (.slice Ai1 ni1 ci1) from cell_of_row _ _ 3 _ _ _ q1)
 have Y1 := hide (show u.cell? ⟨w.heap.size + 1, 1, none⟩ = some (.slice Av2 nv2 cv2) from cell_of_row _ _ 1 _ _ _ q2)
 have Y2 := hide (show u.cell? ⟨w.heap.size + 1, 2, none⟩ = some (.slice Ac2 nc2 cc2) from cell_of_row _ _ 2 _ _ _ q2)
 have Y3 := hide (show u.cell? ⟨w.heap.size + 1, 3, none⟩ = some (.slice Ai2 ni2 ci2) from cell_of_row _ _ 3 _ _ _ q2)
 have KU0 := hide (Below.refl u.heap.size u)
 clear q1 q2 hb hv hl1 hl2 hi1 hi2
 by_cases h_st : p1.st = p2.st
 rotate_left
 ·have hs_st : (p1.st == p2.st) = false := by simpa using h_st
  have hn_st : (p1.st != p2.st) = true := by simpa using h_st
  have HF : Hid (sameV p1 p2 = false) := hide (by simp [sameV, h_st])
  clear h_st
  have x0 := X0.out
  have x1 := X1.out
  have x2 := X2.out
  have x3 := X3.out
  have x4 := X4.out
  have x5 := X5.out
  have y0 := Y0.out
  have y1 := Y1.out
  have y2 := Y2.out
  have y3 := Y3.out
  have y4 := Y4.out
  have y5 := Y5.out
  go_enter Tryz.func14, Tryz.ntmps14
  go_wp2
  go_ret
  exact ⟨ret_b HF.out.symm, HVB.out⟩
 have H_st := hide h_st
 have hs_st : (p1.st == p2.st) = true := by simpa using h_st
 have hn_st : (p1.st != p2.st) = false := by simpa using h_st
 clear h_st
 by_cases h_sm : p1.sm = p2.sm
 rotate_left
 ·have hs_sm : (p1.sm == p2.sm) = false := by simpa using h_sm
  have hn_sm : (p1.sm != p2.sm) = true := by simpa using h_sm
  have HF : Hid (sameV p1 p2 = false) := hide (by simp [sameV, h_sm])
  clear h_sm
  have x0 := X0.out
  have x1 := X1.out
  have x2 := X2.out
  have x3 := X3.out
  have x4 := X4.out
  have x5 := X5.out
  have y0 := Y0.out
  have y1 := Y1.out
  have y2 := Y2.out
  have y3 := Y3.out
  have y4 := Y4.out
  have y5 := Y5.out
  go_enter Tryz.func14, Tryz.ntmps14
  go_wp2
  go_ret
  exact ⟨ret_b HF.out.symm, HVB.out⟩
 have H_sm := hide h_sm
 have hs_sm : (p1.sm == p2.sm) = true := by simpa using h_sm
 have hn_sm : (p1.sm != p2.sm) = false := by simpa using h_sm
 clear h_sm
 by_cases h_mo : p1.mo = p2.mo
 rotate_left
 ·have hs_mo : (p1.mo == p2.mo) = false := by simpa using h_mo
  have hn_mo : (p1.mo != p2.mo) = true := by simpa using h_mo
  have HF : Hid (sameV p1 p2 = false) := hide (by simp [sameV, h_mo])
  clear h_mo
  have x0 := X0.out
  have x1 := X1.out
  have x2 := X2.out
  have x3 := X3.out
  have x4 := X4.out
  have x5 := X5.out
  have y0 := Y0.out
  have y1 := Y1.out
  have y2 := Y2.out
  have y3 := Y3.out
  have y4 := Y4.out
  have y5 := Y5.out
  go_enter Tryz.func14, Tryz.ntmps14
  go_wp2
  go_ret
  exact ⟨ret_b HF.out.symm, HVB.out⟩
 have H_mo := hide h_mo
 have hs_mo : (p1.mo == p2.mo) = true := by simpa using h_mo
 have hn_mo : (p1.mo != p2.mo) = false := by simpa using h_mo
 clear h_mo
 by_cases h1 : nv1 = nv2
 rotate_left
 ·have hz1 : ((nv1 : Int) == (nv2 : Int)) = false := by simp; omega
  have hy1 : ((nv1 : Int) != (nv2 : Int)) = true := by simp; omega
  have HF : Hid (sameV p1 p2 = false) := hide (by have e : eqL p1.vals p2.vals = false := eqL_len (by rw [HL1.out.1, HL2.out.1]; exact h1); simp [sameV, e])
  have x0 := X0.out
  have x1 := X1.out
  have x2 := X2.out
  have x3 := X3.out
  have x4 := X4.out
  have x5 := X5.out
  have y0 := Y0.out
  have y1 := Y1.out
  have y2 := Y2.out
  have y3 := Y3.out
  have y4 := Y4.out
  have y5 := Y5.out
  go_enter Tryz.func14, Tryz.ntmps14
  go_wp2
  go_ret
  exact ⟨ret_b HF.out.symm, HVB.out⟩
 subst h1
 by_cases h2 : nc1 = nc2
 rotate_left
 ·have hz2 : ((nc1 : Int) == (nc2 : Int)) = false := by simp; omega
  have hy2 : ((nc1 : Int) != (nc2 : Int)) = true := by simp; omega
  have HF : Hid (sameV p1 p2 = false) := hide (by have e : eqL p1.chg p2.chg = false := eqL_len (by rw [HL1.out.2.1, HL2.out.2.1]; exact h2); simp [sameV, e])
  have x0 := X0.out
  have x1 := X1.out
  have x2 := X2.out
  have x3 := X3.out
  have x4 := X4.out
  have x5 := X5.out
  have y0 := Y0.out
  have y1 := Y1.out
  have y2 := Y2.out
  have y3 := Y3.out
  have y4 := Y4.out
  have y5 := Y5.out
  go_enter Tryz.func14, Tryz.ntmps14
  go_wp2
  go_ret
  exact ⟨ret_b HF.out.symm, HVB.out⟩
 subst h2
 have x0 := X0.out
 have x1 := X1.out
 have x2 := X2.out
 have x3 := X3.out
 have x4 := X4.out
 have x5 := X5.out
 have y0 := Y0.out
 have y1 := Y1.out
 have y2 := Y2.out
 have y3 := Y3.out
 have y4 := Y4.out
 have y5 := Y5.out
 go_enter Tryz.func14, Tryz.ntmps14
 go_wp2_with fail
 rw [HV.out]
 refine (rmsame_any u Ai1 Ai2 p1.inb p2.inb ni1 ni2 ci1 ci2 HL1.out.2.2 HL2.out.2.2 bi HI1.out.inb HI2.out.inb).mono ?_
 rintro e z ⟨rfl, hz⟩
 have KU := hide hz
 have KP : Hid (Kept u z) := hide (Kept.of_below hz)
 clear KU0 hz x0 y0 x1 y1 x2 y2 x3 y3 x4 y4 x5 y5
 rcases hq : eqL (p1.inb.map nm) (p2.inb.map nm) with _ | _
 ·have HF : Hid (sameV p1 p2 = false) := hide (by simp [sameV, hq])
  have HBf := hide (HB.out.trans (KU.out.mono HB.out.size))
  clear hq
  go_wp2
  go_ret
  exact ⟨ret_b HF.out.symm, HBf.out⟩
 ·have HM := hide hq
  clear hq
  go_wp2
  go_loopw [5] (fun vi wr => ∃ i : Nat, i ≤ nv1 ∧ vi = .int .i64 i ∧ Hid (eqL p1.vals p2.vals = eqL (p1.vals.drop i) (p2.vals.drop i)) ∧ Hid (Kept u wr) ∧ Hid (Below u.heap.size u wr)) (fun vi _ => nv1 - (intOf vi).toNat)
  case atStart => exact ⟨0, by omega, rfl, hide rfl, KP, KU⟩
  case round =>
   clear KP KU
   obtain ⟨i, hi, rfl, heq, hkr, hbr⟩ := hrel
   have xr : wr.cell? ⟨w.heap.size, 1, none⟩ = some (.slice Av1 nv1 cv1) := (hkr.out ⟨w.heap.size, 1, none⟩ (by show w.heap.size < _; omega)).trans X1.out
   by_cases hlt : i < nv1
   ·have hi1 : i < p1.vals.length := by rw [HL1.out.1]; exact hlt
    have hi2 : i < p2.vals.length := by rw [HL2.out.1]; exact hlt
    have HSt := hide (eqL_step p1.vals p2.vals i hi1 hi2)
    obtain ⟨b1, o1, hA1, l1, cx⟩ := HI1.out.vals.at1 (i := i) (i64s_get (List.getElem?_eq_getElem hi1))
    obtain ⟨b2, o2, hA2, l2, cy⟩ := HI2.out.vals.at1 (i := i) (i64s_get (List.getElem?_eq_getElem hi2))
    obtain ⟨x, hx⟩ : ∃ x, p1.vals[i] = x := ⟨_, rfl⟩
    obtain ⟨y, hy⟩ : ∃ y, p2.vals[i] = y := ⟨_, rfl⟩
    rw [hx] at cx HSt
    rw [hy] at cy HSt
    have hI0 : (0 : Int) ≤ (i : Int) := by omega
    have hI1 : (i : Int) < (nv1 : Int) := by omega
    have x1 : u.cell? ⟨w.heap.size, 1, none⟩ = some (.slice (some ⟨b1, o1, none⟩) nv1 cv1) := by rw [← hA1]; exact X1.out
    have y1 : u.cell? ⟨w.heap.size + 1, 1, none⟩ = some (.slice (some ⟨b2, o2, none⟩) nv1 cv2) := by rw [← hA2]; exact Y1.out
    have lu0 : w.heap.size < u.heap.size := by omega
    have lu1 : w.heap.size + 1 < u.heap.size := by omega
    clear hx hy hi1 hi2 hA1 hA2
    by_cases hxy : x = y
    ·have HE : Hid (eqL p1.vals p2.vals = eqL (p1.vals.drop (i + 1)) (p2.vals.drop (i + 1))) := hide (by rw [heq.out, HSt.out, hxy, decide_eq_true rfl, Bool.true_and])
     subst hxy
     all_goals
      go_wp2
      refine wp_region_held_drew (S := Kept u) (by kernel_rfl) (fun p hp => hkr.out p hp) (fun hS0 => ?_)
      refine tk 0 59 ?_ ?_ ?_; rotate_left; (focus (intro w h; go_simp; (try with_reducible rfl))); (try simp only [xd, xe, xf])
      refine tk 1 60 ?_ ?_ ?_; rotate_left; (focus (intro w h; go_simp; (try with_reducible rfl))); (try simp only [xd, xe, xf])
      refine tk 2 61 ?_ ?_ ?_; rotate_left; (focus (intro w h; go_simp; (try with_reducible rfl))); (try simp only [xd, xe, xf])
      refine tk 3 62 ?_ ?_ ?_; rotate_left; (focus (intro w h; go_simp; (try with_reducible rfl))); (try simp only [xd, xe, xf])
      refine tk 4 63 ?_ ?_ ?_; rotate_left; (focus (intro w h; go_simp; (try with_reducible rfl))); (try simp only [xd, xe, xf])
      refine tk 5 64 ?_ ?_ ?_; rotate_left; (focus (intro w h; go_simp; (try with_reducible rfl))); (try simp only [xd, xe, xf])
      refine tk 6 65 ?_ ?_ ?_; rotate_left; (focus (intro w h; go_simp; (try with_reducible rfl))); (try simp only [xd, xe, xf])
      refine tk 7 66 ?_ ?_ ?_; rotate_left; (focus (intro w h; go_simp; (try with_reducible rfl))); (try simp only [xd, xe, xf])
      refine tk 8 67 ?_ ?_ ?_; rotate_left; (focus (intro w h; go_simp; (try with_reducible rfl))); (try simp only [xd, xe, xf])
      refine tk 9 68 ?_ ?_ ?_; rotate_left; (focus (intro w h; go_simp; (try with_reducible rfl))); (try simp only [xd, xe, xf])
      refine tk 10 69 ?_ ?_ ?_; rotate_left; (focus (intro w h; go_simp; (try with_reducible rfl))); (try simp only [xd, xe, xf])
      refine wpAnyH_done (by kernel_rfl) ?_ _
      clear hS0
      go_wp2
      go_roundw
      case rel => exact ⟨i + 1, by omega, by go_num, HE, hide (fun p hp => hkr.out p hp), hide hbr.out.drew⟩
      case measure => simp [intOf]; omega
    ·have HE : Hid (sameV p1 p2 = false) := hide (by rw [sameV, show eqL p1.vals p2.vals = false by rw [heq.out, HSt.out, decide_eq_false hxy, Bool.false_and]]; simp)
     have hxy' : (x == y) = false := by simp only [beq_eq_false_iff_ne, ne_eq]; exact hxy
     have hxy2 : (x != y) = true := by simp only [bne_iff_ne, ne_eq]; exact hxy
     all_goals
      go_wp2
      refine wp_region_held_drew (S := Kept u) (by kernel_rfl) (fun p hp => hkr.out p hp) (fun hS0 => ?_)
      refine tk 0 59 ?_ ?_ ?_; rotate_left; (focus (intro w h; go_simp; (try with_reducible rfl))); (try simp only [xd, xe, xf])
      refine tk 1 60 ?_ ?_ ?_; rotate_left; (focus (intro w h; go_simp; (try with_reducible rfl))); (try simp only [xd, xe, xf])
      refine tk 2 61 ?_ ?_ ?_; rotate_left; (focus (intro w h; go_simp; (try with_reducible rfl))); (try simp only [xd, xe, xf])
      refine tk 3 62 ?_ ?_ ?_; rotate_left; (focus (intro w h; go_simp; (try with_reducible rfl))); (try simp only [xd, xe, xf])
      refine tk 4 63 ?_ ?_ ?_; rotate_left; (focus (intro w h; go_simp; (try with_reducible rfl))); (try simp only [xd, xe, xf])
      refine tk 5 64 ?_ ?_ ?_; rotate_left; (focus (intro w h; go_simp; (try with_reducible rfl))); (try simp only [xd, xe, xf])
      refine tk 6 65 ?_ ?_ ?_; rotate_left; (focus (intro w h; go_simp; (try with_reducible rfl))); (try simp only [xd, xe, xf])
      refine tk 7 66 ?_ ?_ ?_; rotate_left; (focus (intro w h; go_simp; (try with_reducible rfl))); (try simp only [xd, xe, xf])
      refine tk 8 67 ?_ ?_ ?_; rotate_left; (focus (intro w h; go_simp; (try with_reducible rfl))); (try simp only [xd, xe, xf])
      refine tk 9 68 ?_ ?_ ?_; rotate_left; (focus (intro w h; go_simp; (try with_reducible rfl))); (try simp only [xd, xe, xf])
      refine tk 10 69 ?_ ?_ ?_; rotate_left; (focus (intro w h; go_simp; (try with_reducible rfl))); (try simp only [xd, xe, xf])
      refine wpAnyH_done (by kernel_rfl) ?_ _
      clear hS0
      have HBf := hide (HB.out.trans (hbr.out.drew.mono HB.out.size))
      go_wp2
      go_ret
      exact ⟨ret_b HE.out.symm, HBf.out⟩
   ·obtain rfl : i = nv1 := by omega
    have HQ0 : Hid (eqL p1.vals p2.vals = true) := hide (by rw [heq.out, List.drop_of_length_le (by rw [HL1.out.1]; exact Nat.le_refl _), List.drop_of_length_le (by rw [HL2.out.1]; exact Nat.le_refl _)]; exact eqL_nil)
    have KP := hkr
    have KU := hbr
    clear hkr hbr
    obtain ⟨w00, rfl⟩ : ∃ z : World, z = wr := ⟨_, rfl⟩
    go_wp2
    clear xr
    go_loopw [6] (fun vi wr => ∃ i : Nat, i ≤ nc1 ∧ vi = .int .i64 i ∧ Hid (eqL p1.chg p2.chg = eqL (p1.chg.drop i) (p2.chg.drop i)) ∧ Hid (Kept u wr) ∧ Hid (Below u.heap.size u wr)) (fun vi _ => nc1 - (intOf vi).toNat)
    case atStart => exact ⟨0, by omega, rfl, hide rfl, KP, KU⟩
    case round =>
     clear KP KU
     obtain ⟨i, hi, rfl, heq, hkr, hbr⟩ := hrel
     have xr : wr.cell? ⟨w.heap.size, 2, none⟩ = some (.slice Ac1 nc1 cc1) := (hkr.out ⟨w.heap.size, 2, none⟩ (by show w.heap.size < _; omega)).trans X2.out
     by_cases hlt : i < nc1
     ·have hi1 : i < p1.chg.length := by rw [HL1.out.2.1]; exact hlt
      have hi2 : i < p2.chg.length := by rw [HL2.out.2.1]; exact hlt
      have HSt := hide (eqL_step p1.chg p2.chg i hi1 hi2)
      obtain ⟨b1, o1, hA1, l1, cx⟩ := HI1.out.chg.at1 (i := i) (bools_get? (List.getElem?_eq_getElem hi1))
      obtain ⟨b2, o2, hA2, l2, cy⟩ := HI2.out.chg.at1 (i := i) (bools_get? (List.getElem?_eq_getElem hi2))
      obtain ⟨x, hx⟩ : ∃ x, p1.chg[i] = x := ⟨_, rfl⟩
      obtain ⟨y, hy⟩ : ∃ y, p2.chg[i] = y := ⟨_, rfl⟩
      rw [hx] at cx HSt
      rw [hy] at cy HSt
      have hI0 : (0 : Int) ≤ (i : Int) := by omega
      have hI1 : (i : Int) < (nc1 : Int) := by omega
      have x2 : u.cell? ⟨w.heap.size, 2, none⟩ = some (.slice (some ⟨b1, o1, none⟩) nc1 cc1) := by rw [← hA1]; exact X2.out
      have y2 : u.cell? ⟨w.heap.size + 1, 2, none⟩ = some (.slice (some ⟨b2, o2, none⟩) nc1 cc2) := by rw [← hA2]; exact Y2.out
      have lu0 : w.heap.size < u.heap.size := by omega
      have lu1 : w.heap.size + 1 < u.heap.size := by omega
      clear hx hy hi1 hi2 hA1 hA2
      by_cases hxy : x = y
      ·have HE : Hid (eqL p1.chg p2.chg = eqL (p1.chg.drop (i + 1)) (p2.chg.drop (i + 1))) := hide (by rw [heq.out, HSt.out, hxy, decide_eq_true rfl, Bool.true_and])
       subst hxy
       cases x
       all_goals
        go_wp2
        refine wp_region_held_drew (S := Kept u) (by kernel_rfl) (fun p hp => hkr.out p hp) (fun hS0 => ?_)
        refine tk 0 77 ?_ ?_ ?_; rotate_left; (focus (intro w h; go_simp; (try with_reducible rfl))); (try simp only [xd, xe, xf])
        refine tk 1 78 ?_ ?_ ?_; rotate_left; (focus (intro w h; go_simp; (try with_reducible rfl))); (try simp only [xd, xe, xf])
        refine tk 2 79 ?_ ?_ ?_; rotate_left; (focus (intro w h; go_simp; (try with_reducible rfl))); (try simp only [xd, xe, xf])
        refine tk 3 80 ?_ ?_ ?_; rotate_left; (focus (intro w h; go_simp; (try with_reducible rfl))); (try simp only [xd, xe, xf])
        refine tk 4 81 ?_ ?_ ?_; rotate_left; (focus (intro w h; go_simp; (try with_reducible rfl))); (try simp only [xd, xe, xf])
        refine tk 5 82 ?_ ?_ ?_; rotate_left; (focus (intro w h; go_simp; (try with_reducible rfl))); (try simp only [xd, xe, xf])
        refine tk 6 83 ?_ ?_ ?_; rotate_left; (focus (intro w h; go_simp; (try with_reducible rfl))); (try simp only [xd, xe, xf])
        refine tk 7 84 ?_ ?_ ?_; rotate_left; (focus (intro w h; go_simp; (try with_reducible rfl))); (try simp only [xd, xe, xf])
        refine tk 8 85 ?_ ?_ ?_; rotate_left; (focus (intro w h; go_simp; (try with_reducible rfl))); (try simp only [xd, xe, xf])
        refine tk 9 86 ?_ ?_ ?_; rotate_left; (focus (intro w h; go_simp; (try with_reducible rfl))); (try simp only [xd, xe, xf])
        refine tk 10 87 ?_ ?_ ?_; rotate_left; (focus (intro w h; go_simp; (try with_reducible rfl))); (try simp only [xd, xe, xf])
        refine wpAnyH_done (by kernel_rfl) ?_ _
        clear hS0
        go_wp2
        go_roundw
        case rel => exact ⟨i + 1, by omega, by go_num, HE, hide (fun p hp => hkr.out p hp), hide hbr.out.drew⟩
        case measure => simp [intOf]; omega
      ·have HE : Hid (sameV p1 p2 = false) := hide (by rw [sameV, show eqL p1.chg p2.chg = false by rw [heq.out, HSt.out, decide_eq_false hxy, Bool.false_and]]; simp)
       cases x <;> cases y <;> (first | exact absurd rfl hxy | skip)
       all_goals
        go_wp2
        refine wp_region_held_drew (S := Kept u) (by kernel_rfl) (fun p hp => hkr.out p hp) (fun hS0 => ?_)
        refine tk 0 77 ?_ ?_ ?_; rotate_left; (focus (intro w h; go_simp; (try with_reducible rfl))); (try simp only [xd, xe, xf])
        refine tk 1 78 ?_ ?_ ?_; rotate_left; (focus (intro w h; go_simp; (try with_reducible rfl))); (try simp only [xd, xe, xf])
        refine tk 2 79 ?_ ?_ ?_; rotate_left; (focus (intro w h; go_simp; (try with_reducible rfl))); (try simp only [xd, xe, xf])
        refine tk 3 80 ?_ ?_ ?_; rotate_left; (focus (intro w h; go_simp; (try with_reducible rfl))); (try simp only [xd, xe, xf])
        refine tk 4 81 ?_ ?_ ?_; rotate_left; (focus (intro w h; go_simp; (try with_reducible rfl))); (try simp only [xd, xe, xf])
        refine tk 5 82 ?_ ?_ ?_; rotate_left; (focus (intro w h; go_simp; (try with_reducible rfl))); (try simp only [xd, xe, xf])
        refine tk 6 83 ?_ ?_ ?_; rotate_left; (focus (intro w h; go_simp; (try with_reducible rfl))); (try simp only [xd, xe, xf])
        refine tk 7 84 ?_ ?_ ?_; rotate_left; (focus (intro w h; go_simp; (try with_reducible rfl))); (try simp only [xd, xe, xf])
        refine tk 8 85 ?_ ?_ ?_; rotate_left; (focus (intro w h; go_simp; (try with_reducible rfl))); (try simp only [xd, xe, xf])
        refine tk 9 86 ?_ ?_ ?_; rotate_left; (focus (intro w h; go_simp; (try with_reducible rfl))); (try simp only [xd, xe, xf])
        refine tk 10 87 ?_ ?_ ?_; rotate_left; (focus (intro w h; go_simp; (try with_reducible rfl))); (try simp only [xd, xe, xf])
        refine wpAnyH_done (by kernel_rfl) ?_ _
        clear hS0
        have HBf := hide (HB.out.trans (hbr.out.drew.mono HB.out.size))
        go_wp2
        go_ret
        exact ⟨ret_b HE.out.symm, HBf.out⟩
     ·obtain rfl : i = nc1 := by omega
      have HQ1 : Hid (eqL p1.chg p2.chg = true) := hide (by rw [heq.out, List.drop_of_length_le (by rw [HL1.out.2.1]; exact Nat.le_refl _), List.drop_of_length_le (by rw [HL2.out.2.1]; exact Nat.le_refl _)]; exact eqL_nil)
      have KP := hkr
      have KU := hbr
      clear hkr hbr
      have HF : Hid (sameV p1 p2 = true) := hide (by simp [sameV, H_st.out, H_sm.out, H_mo.out, HQ0.out, HQ1.out, HM.out])
      have HBf := hide (HB.out.trans (KU.out.mono HB.out.size))
      go_wp2
      go_ret
      exact ⟨ret_b HF.out.symm, HBf.out⟩
end Go.Proofs.YtpgbjabifhjogaaGreat
