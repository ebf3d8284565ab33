/- The document's Out and Back: a vertex's edges. (printed by gen/rob.py) -/
import Derived.Test.YtgbahnlgblahpaaGreatProg
import Derived.Test.YtgbahnlgblahpaaGreatOap
import Derived.Lib.Hide
import Derived.WalkSpells
import Derived.WalkMore
import Derived.IntWalk
namespace Go.Proofs.YtgbahnlgblahpaaGreat
open Go.RowKit
set_option linter.unusedVariables false
set_option linter.unusedSimpArgs false
def RowPost (w : World) (es : List Ed) (e : Ending) (w' : World) : Prop := ∃ A c, e = .returned (.slice A es.length c) ∧ w'.ownsRow w.heap.size 46 3 (.slice A es.length c) es.length (edFlat es) ∧ Below w.heap.size w w'
theorem ownsRow_lower {w : World} {base base' : Nat} {e : TypeId} {size : Nat} {v : Value} {n : Nat} {xs : List Value} (h : w.ownsRow base e size v n xs) (hb : base' ≤ base) : w.ownsRow base' e size v n xs :=
  ⟨h.1, h.2.imp id fun ⟨g, cap, cur, h1, h2, h3⟩ => ⟨g, cap, cur, h1, Nat.le_trans hb h2, h3⟩⟩
def fromF (es : List Ed) (v : Int) : List Ed := es.filter fun e => e.1 == v
def toF (es : List Ed) (v : Int) : List Ed := es.filter fun e => e.2.1 == v
theorem filt_step {f : Ed → Bool} {es : List Ed} {k : Nat} {e : Ed} (h : es[k]? = some e) : (es.take (k + 1)).filter f = (es.take k).filter f ++ (if f e then [e] else []) := by
  rw [List.take_add_one, h, List.filter_append]
  congr 1
  simp only [Option.toList_some, List.filter_cons, List.filter_nil]
theorem filt_len {f : Ed → Bool} (es : List Ed) (k : Nat) : ((es.take k).filter f).length ≤ k := Nat.le_trans (List.length_filter_le _ _) (by rw [List.length_take]; omega)
set_option maxRecDepth 100000 in
set_option maxHeartbeats 4000000 in
theorem rout_any (w : World) (V : Int) (A : Option Addr) (es : List Ed) (L c : Nat) (v : Int) (hL : es.length = L) (hE : Eds w w.heap.size A es) (hc : L ≤ 8192) :
    Calls Tryz.prog 40 #[.agg #[.int .i64 V, .slice A L c], .int .i64 v] w (RowPost w (fromF es v)) := by
  obtain ⟨i0, hi0, hz0, hz1, hz2⟩ := info_parts (show (Tryz.prog.info? 46).map (fun i => (i.zero, i.size, i.bytes)) = some (some (.agg #[.int .i64 0, .int .i64 0, .int .i64 0]), 3, 24) by kernel_rfl)
  obtain ⟨u, hu⟩ : ∃ u, w.alloc (.cells #[.int .i64 V, .slice A L c] 24) = u := ⟨_, rfl⟩
  have hzu : u.heap.size = w.heap.size + 1 := by rw [← hu]; simp
  have hbu : Below w.heap.size w u := by rw [← hu]; exact (Below.refl _ _).alloc (Nat.le_refl _) _
  have cg : u.heap[w.heap.size]? = some (.cells #[.int .i64 V, .slice A L c] 24) := by rw [← hu]; exact heap_alloc_last w _
  have cg1 : u.cell? ⟨w.heap.size, 1, none⟩ = some (.slice A L c) := cell_of_row _ _ 1 _ _ _ cg
  have hlg : w.heap.size < u.heap.size := by omega
  have HL := hide hL
  have EU := hide (hE.below hbu (Nat.le_refl _))
  have HB := hide hbu
  have HU := hide hu
  clear hu hzu hbu cg hE hL
  go_enter Tryz.func40, Tryz.ntmps40
  go_wp2
  rw [HU.out]
  go_loopw [5, 6] (fun v5 v6 wr => ∃ (k n : Nat) (A' : Option Addr) (c' : Nat), k ≤ L ∧ n ≤ k ∧ v6 = .int .i64 k ∧ v5 = .slice A' n c' ∧ Hid (((es.take k).filter (fun e => e.1 == v)).length = n) ∧ Hid (wr.ownsRow u.heap.size 46 3 (.slice A' n c') n (edFlat ((es.take k).filter (fun e => e.1 == v)))) ∧ Hid (Kept u wr) ∧ Hid (Below u.heap.size u wr) ∧ u.heap.size ≤ wr.heap.size) (fun _ v6 _ => L - (intOf v6).toNat)
  case atStart => exact ⟨0, 0, none, 0, by omega, by omega, rfl, rfl, hide rfl, hide (World.ownsRow_nil _ _ _ _), hide (Kept.refl u), hide (Below.refl _ _), Nat.le_refl _⟩
  case round =>
    obtain ⟨k, n, A', c', hk, hn, rfl, rfl, hlen, hown, hk1, hb1, hs1⟩ := hrel
    have a1 := (hk1.out ⟨w.heap.size, 1, none⟩ hlg).trans cg1
    by_cases hlt : k < L
    · obtain ⟨⟨x, y, z⟩, he⟩ : ∃ e, es[k]? = some e := ⟨_, List.getElem?_eq_getElem (by rw [HL.out]; exact hlt)⟩
      obtain ⟨b, off, rfl, hbl, d0, d1, d2, d3, d4⟩ := EU.out.get he
      have d0 := (hk1.out ⟨b, off + k * 3, none⟩ (by show b < _; omega)).trans d0
      have d1 := (hk1.out ⟨b, off + k * 3 + 1, none⟩ (by show b < _; omega)).trans d1
      have d2 := (hk1.out ⟨b, off + k * 3 + 2, none⟩ (by show b < _; omega)).trans d2
      have hst := hide (filt_step (f := fun e => e.1 == v) he)
      have hI0 : (k : Int) < (L : Int) := by omega
      clear he
      dsimp only at d0 d1 d2 d3 d4
      by_cases hxy : x = v
      · subst hxy
        have hfe : Hid ((es.take (k + 1)).filter (fun e => e.1 == x) = (es.take k).filter (fun e => e.1 == x) ++ [(x, y, z)]) := hide (by rw [hst.out]; simp)
        go_wp2_with (at_builtin; refine wpList_app rfl (.tmp 22) (.tmp 28) 22 rfl u.heap.size 46 i0 (.agg #[.int .i64 0, .int .i64 0, .int .i64 0]) 3 24 Tryz.underlying22 hi0 hz0 hz1 hz2 rfl (by decide) (.slice A' n c') n _ rfl (hown.out.alloc _) (wr.heap.size + 1) (some ⟨wr.heap.size, 0, none⟩) 1 1 [.int .i64 x, .int .i64 y, .int .i64 z] rfl rfl (Rd.new _ _ _ _) (by simp [Value.oneCell']) (by unfold maxLen; omega) (by omega) (by simp; omega) ?_)
        intro A2 c2 w2 hown2 hg2 hat2
        have ho2 : Hid (w2.ownsRow u.heap.size 46 3 (.slice A2 (n + 1) c2) (n + 1) (edFlat ((es.take (k + 1)).filter (fun e => e.1 == x)))) := hide (by rw [hfe.out, ← edFlat_app]; exact hown2)
        have hl2 : Hid (((es.take (k + 1)).filter (fun e => e.1 == x)).length = n + 1) := hide (by rw [hfe.out, List.length_append, hlen.out]; rfl)
        have hb2 := hide (app_below (hb1.out.alloc hs1 _) (hown.out.alloc _) hg2 (by simp; omega) (Nat.le_refl _))
        have hk2 : Hid (Kept u w2) := hide (Kept.of_below hb2.out)
        have hs2 : u.heap.size ≤ w2.heap.size := hb2.out.size
        clear hown2 hg2 hat2 a1 d0 d1 d2
        go_wp2
        go_roundw
        case rel => exact ⟨k + 1, n + 1, A2, c2, by omega, by omega, by go_num, rfl, hl2, ho2, hk2, hb2, hs2⟩
        case measure => simp [intOf]; omega
      · have hne : (x == v) = false := by simp only [beq_eq_false_iff_ne, ne_eq]; exact hxy
        have hfe : Hid ((es.take (k + 1)).filter (fun e => e.1 == v) = (es.take k).filter (fun e => e.1 == v)) := hide (by rw [hst.out]; simp [hne])
        have ho2 : Hid (wr.ownsRow u.heap.size 46 3 (.slice A' n c') n (edFlat ((es.take (k + 1)).filter (fun e => e.1 == v)))) := hide (by rw [hfe.out]; exact hown.out)
        have hl2 : Hid (((es.take (k + 1)).filter (fun e => e.1 == v)).length = n) := hide (by rw [hfe.out]; exact hlen.out)
        go_wp2
        go_roundw
        case rel => exact ⟨k + 1, n, A', c', by omega, by omega, by go_num, rfl, hl2, ho2, hk1, hb1, hs1⟩
        case measure => simp [intOf]; omega
    · obtain rfl : k = L := by omega
      have hfe : (es.take k).filter (fun e => e.1 == v) = fromF es v := by rw [List.take_of_length_le (by rw [HL.out]; exact Nat.le_refl _)]; rfl
      rw [hfe] at hlen hown
      have HFin : Hid (RowPost w (fromF es v) (.returned (.slice A' n c')) wr) := hide ⟨A', c', by rw [hlen.out], by rw [hlen.out]; exact ownsRow_lower hown.out (by have := HB.out.size; omega), HB.out.trans (hb1.out.mono HB.out.size)⟩
      clear hlen hown hfe
      go_wp2
      go_ret
      exact HFin.out
set_option maxRecDepth 100000 in
set_option maxHeartbeats 4000000 in
theorem rback_any (w : World) (V : Int) (A : Option Addr) (es : List Ed) (L c : Nat) (v : Int) (hL : es.length = L) (hE : Eds w w.heap.size A es) (hc : L ≤ 8192) :
    Calls Tryz.prog 96 #[.agg #[.int .i64 V, .slice A L c], .int .i64 v] w (RowPost w (toF es v)) := by
  obtain ⟨i0, hi0, hz0, hz1, hz2⟩ := info_parts (show (Tryz.prog.info? 46).map (fun i => (i.zero, i.size, i.bytes)) = some (some (.agg #[.int .i64 0, .int .i64 0, .int .i64 0]), 3, 24) by kernel_rfl)
  obtain ⟨u, hu⟩ : ∃ u, w.alloc (.cells #[.int .i64 V, .slice A L c] 24) = u := ⟨_, rfl⟩
  have hzu : u.heap.size = w.heap.size + 1 := by rw [← hu]; simp
  have hbu : Below w.heap.size w u := by rw [← hu]; exact (Below.refl _ _).alloc (Nat.le_refl _) _
  have cg : u.heap[w.heap.size]? = some (.cells #[.int .i64 V, .slice A L c] 24) := by rw [← hu]; exact heap_alloc_last w _
  have cg1 : u.cell? ⟨w.heap.size, 1, none⟩ = some (.slice A L c) := cell_of_row _ _ 1 _ _ _ cg
  have hlg : w.heap.size < u.heap.size := by omega
  have HL := hide hL
  have EU := hide (hE.below hbu (Nat.le_refl _))
  have HB := hide hbu
  have HU := hide hu
  clear hu hzu hbu cg hE hL
  go_enter Tryz.func96, Tryz.ntmps96
  go_wp2
  rw [HU.out]
  go_loopw [5, 6] (fun v5 v6 wr => ∃ (k n : Nat) (A' : Option Addr) (c' : Nat), k ≤ L ∧ n ≤ k ∧ v6 = .int .i64 k ∧ v5 = .slice A' n c' ∧ Hid (((es.take k).filter (fun e => e.2.1 == v)).length = n) ∧ Hid (wr.ownsRow u.heap.size 46 3 (.slice A' n c') n (edFlat ((es.take k).filter (fun e => e.2.1 == v)))) ∧ Hid (Kept u wr) ∧ Hid (Below u.heap.size u wr) ∧ u.heap.size ≤ wr.heap.size) (fun _ v6 _ => L - (intOf v6).toNat)
  case atStart => exact ⟨0, 0, none, 0, by omega, by omega, rfl, rfl, hide rfl, hide (World.ownsRow_nil _ _ _ _), hide (Kept.refl u), hide (Below.refl _ _), Nat.le_refl _⟩
  case round =>
    obtain ⟨k, n, A', c', hk, hn, rfl, rfl, hlen, hown, hk1, hb1, hs1⟩ := hrel
    have a1 := (hk1.out ⟨w.heap.size, 1, none⟩ hlg).trans cg1
    by_cases hlt : k < L
    · obtain ⟨⟨x, y, z⟩, he⟩ : ∃ e, es[k]? = some e := ⟨_, List.getElem?_eq_getElem (by rw [HL.out]; exact hlt)⟩
      obtain ⟨b, off, rfl, hbl, d0, d1, d2, d3, d4⟩ := EU.out.get he
      have d0 := (hk1.out ⟨b, off + k * 3, none⟩ (by show b < _; omega)).trans d0
      have d1 := (hk1.out ⟨b, off + k * 3 + 1, none⟩ (by show b < _; omega)).trans d1
      have d2 := (hk1.out ⟨b, off + k * 3 + 2, none⟩ (by show b < _; omega)).trans d2
      have hst := hide (filt_step (f := fun e => e.2.1 == v) he)
      have hI0 : (k : Int) < (L : Int) := by omega
      clear he
      dsimp only at d0 d1 d2 d3 d4
      by_cases hxy : y = v
      · subst hxy
        have hfe : Hid ((es.take (k + 1)).filter (fun e => e.2.1 == y) = (es.take k).filter (fun e => e.2.1 == y) ++ [(x, y, z)]) := hide (by rw [hst.out]; simp)
        go_wp2_with (at_builtin; refine wpList_app rfl (.tmp 22) (.tmp 28) 22 rfl u.heap.size 46 i0 (.agg #[.int .i64 0, .int .i64 0, .int .i64 0]) 3 24 Tryz.underlying22 hi0 hz0 hz1 hz2 rfl (by decide) (.slice A' n c') n _ rfl (hown.out.alloc _) (wr.heap.size + 1) (some ⟨wr.heap.size, 0, none⟩) 1 1 [.int .i64 x, .int .i64 y, .int .i64 z] rfl rfl (Rd.new _ _ _ _) (by simp [Value.oneCell']) (by unfold maxLen; omega) (by omega) (by simp; omega) ?_)
        intro A2 c2 w2 hown2 hg2 hat2
        have ho2 : Hid (w2.ownsRow u.heap.size 46 3 (.slice A2 (n + 1) c2) (n + 1) (edFlat ((es.take (k + 1)).filter (fun e => e.2.1 == y)))) := hide (by rw [hfe.out, ← edFlat_app]; exact hown2)
        have hl2 : Hid (((es.take (k + 1)).filter (fun e => e.2.1 == y)).length = n + 1) := hide (by rw [hfe.out, List.length_append, hlen.out]; rfl)
        have hb2 := hide (app_below (hb1.out.alloc hs1 _) (hown.out.alloc _) hg2 (by simp; omega) (Nat.le_refl _))
        have hk2 : Hid (Kept u w2) := hide (Kept.of_below hb2.out)
        have hs2 : u.heap.size ≤ w2.heap.size := hb2.out.size
        clear hown2 hg2 hat2 a1 d0 d1 d2
        go_wp2
        go_roundw
        case rel => exact ⟨k + 1, n + 1, A2, c2, by omega, by omega, by go_num, rfl, hl2, ho2, hk2, hb2, hs2⟩
        case measure => simp [intOf]; omega
      · have hne : (y == v) = false := by simp only [beq_eq_false_iff_ne, ne_eq]; exact hxy
        have hfe : Hid ((es.take (k + 1)).filter (fun e => e.2.1 == v) = (es.take k).filter (fun e => e.2.1 == v)) := hide (by rw [hst.out]; simp [hne])
        have ho2 : Hid (wr.ownsRow u.heap.size 46 3 (.slice A' n c') n (edFlat ((es.take (k + 1)).filter (fun e => e.2.1 == v)))) := hide (by rw [hfe.out]; exact hown.out)
        have hl2 : Hid (((es.take (k + 1)).filter (fun e => e.2.1 == v)).length = n) := hide (by rw [hfe.out]; exact hlen.out)
        go_wp2
        go_roundw
        case rel => exact ⟨k + 1, n, A', c', by omega, by omega, by go_num, rfl, hl2, ho2, hk1, hb1, hs1⟩
        case measure => simp [intOf]; omega
    · obtain rfl : k = L := by omega
      have hfe : (es.take k).filter (fun e => e.2.1 == v) = toF es v := by rw [List.take_of_length_le (by rw [HL.out]; exact Nat.le_refl _)]; rfl
      rw [hfe] at hlen hown
      have HFin : Hid (RowPost w (toF es v) (.returned (.slice A' n c')) wr) := hide ⟨A', c', by rw [hlen.out], by rw [hlen.out]; exact ownsRow_lower hown.out (by have := HB.out.size; omega), HB.out.trans (hb1.out.mono HB.out.size)⟩
      clear hlen hown hfe
      go_wp2
      go_ret
      exact HFin.out
end Go.Proofs.YtgbahnlgblahpaaGreat
