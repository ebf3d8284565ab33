/- Lemmas: Rct. -/
import Derived.Test.YtihdpfjonkagaaaProg
import Derived.Deep.DeepCutAuto
import Derived.Lib.Hide
import Derived.WalkSpells
import Derived.WalkMore
import Derived.IntWalk
import Derived.Test.YtihdpfjonkagaaaPkWw4
import Derived.Test.YtihdpfjonkagaaaPkWw7
import Derived.Test.YtihdpfjonkagaaaPkWw9
set_option linter.unusedVariables false
set_option linter.unusedSimpArgs false
set_option maxRecDepth 100000
set_option maxHeartbeats 16000000
namespace Go.Proofs.Ytihdpfjonkagaaa
open Go.RowKit
def cutErr (V : Int) (es : List Ed) (n k : Int) : Int := if checkF V es ≠ 0 then checkF V es else if n < 1 ∨ 64 < n ∨ k < 0 ∨ n ≤ k then 2 else 0
theorem cutErr_zero {V : Int} {es : List Ed} {n k : Int} (h : cutErr V es n k = 0) : checkF V es = 0 ∧ 1 ≤ n ∧ n ≤ 64 ∧ 0 ≤ k ∧ k < n := by
 unfold cutErr at h
 by_cases h1 : checkF V es = 0
 ·rw [if_neg (by simp [h1])] at h
  by_cases h2 : n < 1 ∨ 64 < n ∨ k < 0 ∨ n ≤ k
  ·rw [if_pos h2] at h; cases h
  ·exact ⟨h1, by omega, by omega, by omega, by omega⟩
 ·rw [if_pos h1] at h; exact absurd h h1
def CutOK (w : World) (V : Int) (es : List Ed) (n k : Int) (e : Ending) (w' : World) : Prop := ∃ (m : Nat) (Ao : Option Addr) (co : Nat) (Au : Option Addr) (cu : Nat) (hu : List Value) (Ab : Option Addr) (cb : Nat) (hb : List Value),
 (ownedF V n k).length = m ∧ e = .returned (.tuple #[.agg #[.int .i64 k, .int .i64 n, .int .i64 V, .slice Ao m co, .slice Au m cu, .slice Ab m cb], .int .i64 0]) ∧
 w'.ownsRow w.heap.size 3 1 (.slice Ao m co) m ((ownedF V n k).map (Value.int .i64)) ∧ ORows w' w.heap.size Au cu hu ((ownedF V n k).map (fromF es)) ∧ ORows w' w.heap.size Ab cb hb ((ownedF V n k).map (toF es)) ∧ Below w.heap.size w w'
def CutMid (w : World) (V : Int) (A : Option Addr) (L c : Nat) (T : TypeId) (n k : Int) (v9 : Value) (u : World) : Prop := ∃ (bp m : Nat) (Ao : Option Addr) (co : Nat), v9 = .pointer (some ⟨bp, 0, none⟩) ∧ w.heap.size + 2 ≤ bp ∧ bp < u.heap.size ∧ (ownedF V n k).length = m ∧
 u.heap[bp]? = some (.cells #[.int .i64 k, .int .i64 n, .int .i64 V, .slice Ao m co, .slice none 0 0, .slice none 0 0] T) ∧ u.heap[w.heap.size]? = some (.cells #[.int .i64 V, .slice A L c] 30) ∧ u.heap[w.heap.size + 1]? = some (.cells #[.int .i64 0, .int .i64 0, .int .i64 0, .slice none 0 0, .slice none 0 0, .slice none 0 0] T) ∧
 u.ownsRow (w.heap.size + 2) 3 1 (.slice Ao m co) m ((ownedF V n k).map (Value.int .i64)) ∧ Below w.heap.size w u
theorem owned_nn {V n k : Int} {i : Nat} {v : Int} (h : (ownedF V n k)[i]? = some v) : 0 ≤ v ∧ v < 512 := by
 have := List.mem_of_getElem? h
 unfold ownedF ownUpto at this
 rw [List.mem_filter, List.mem_map] at this
 obtain ⟨⟨j, hj, rfl⟩, _⟩ := this
 have := List.mem_range.1 hj
 omega
theorem owned_le (V n k : Int) : (ownedF V n k).length ≤ 512 := by
 have := own_len n k (min V 512).toNat
 unfold ownedF
 omega
theorem rows_step (f : Int → List Ed) (l : List Int) (i : Nat) (v : Int) (h : l[i]? = some v) : (l.take (i + 1)).map f = (l.take i).map f ++ [f v] := by
 rw [List.take_add_one, h]; simp
theorem int_ne_part : 3 ≠ 38 := by decide
theorem own_ne {w : World} {b bp m : Nat} {v : Value} {xs : List Value} {C : Array Value} {T e : TypeId} {s : Nat} {fr : Nat × Nat} (h : w.ownsRow b e s v m xs) (hp : w.heap[bp]? = some (.cells C T fr)) (hT : e ≠ T) : ∀ g, v.ownBlock = some g → g ≠ bp := by
 intro g hg e
 subst e
 rcases h.2 with ⟨rfl, _⟩ | ⟨g2, cap, cur, rfl, _, hc, _⟩
 ·cases hg
 ·obtain rfl : g2 = g := by injection hg
  rw [hc] at hp
  injection hp with hp
  injection hp with _ h
  exact hT h
theorem rcut_ok (w : World) (V : Int) (A : Option Addr) (es : List Ed) (L c : Nat) (n k : Int) (hL : es.length = L) (hE : Eds w w.heap.size A es) (hc : L ≤ 8192) (hok : cutErr V es n k = 0) :
  Calls Try.prog 16 #[.agg #[.int .i64 V, .slice A L c], .int .i64 n, .int .i64 k] w (CutOK w V es n k) := by
 obtain ⟨hck, hn1, hn2, hk1, hk2⟩ := cutErr_zero hok
 obtain ⟨i0, hi0, hz0, hz1, hz2⟩ := info_parts (show (Try.prog.info? 28).map (fun i => (i.zero, i.size, i.bytes)) = some (some (.slice none 0 0), 1, 24) by kernel_rfl)
 obtain ⟨u, hu⟩ : ∃ u, (w.alloc (.cells #[.int .i64 V, .slice A L c] 30)).alloc (.cells #[.int .i64 0, .int .i64 0, .int .i64 0, .slice none 0 0, .slice none 0 0, .slice none 0 0] 38) = u := ⟨_, rfl⟩
 have hzu : u.heap.size = w.heap.size + 2 := by rw [← hu]; simp
 have hbu : Below w.heap.size w u := by rw [← hu]; exact ((Below.refl _ _).alloc (Nat.le_refl _) _).alloc (by simp) _
 have GU : Hid (u.heap[w.heap.size]? = some (.cells #[.int .i64 V, .slice A L c] 30)) := hide (by rw [← hu]; exact (Below.heap_alloc _ _ _ (by simp)).trans (heap_alloc_last w _))
 have ZU : Hid (u.heap[w.heap.size + 1]? = some (.cells #[.int .i64 0, .int .i64 0, .int .i64 0, .slice none 0 0, .slice none 0 0, .slice none 0 0] 38)) := hide (by
  rw [← hu]
  have := heap_alloc_last (w.alloc (.cells #[.int .i64 V, .slice A L c] 30)) (.cells #[.int .i64 0, .int .i64 0, .int .i64 0, .slice none 0 0, .slice none 0 0, .slice none 0 0] 38)
  rw [World.size_alloc] at this
  exact this)
 have HL := hide hL
 have HE0 := hide hE
 have HWt := hide hE.wt
 have HCK := hide hck
 have EU := hide (Eds.next hE hbu)
 have HB := hide hbu
 have HU := hide hu
 have HZu := hide hzu
 have hnn1 : 1 ≤ n := hn1
 clear hu hzu hbu hE hL hck hok
 go_enter Try.func16, Try.ntmps16
 go_wp2_with fail
 rw [HU.out]
 refine (rcheck_any u V A es L c HL.out EU.out (by omega)).mono ?_
 rintro e ws ⟨rfl, hb1⟩
 rw [HCK.out]
 have HB1 : Hid (Below w.heap.size w ws) := hide (HB.out.trans (hb1.mono (by have := HZu.out; omega)))
 have GW : Hid (ws.heap[w.heap.size]? = some (.cells #[.int .i64 V, .slice A L c] 30)) := hide ((hb1.block _ (by have := HZu.out; omega)).trans GU.out)
 have ZW : Hid (ws.heap[w.heap.size + 1]? = some (.cells #[.int .i64 0, .int .i64 0, .int .i64 0, .slice none 0 0, .slice none 0 0, .slice none 0 0] 38)) := hide ((hb1.block _ (by have := HZu.out; omega)).trans ZU.out)
 have hb1s : w.heap.size + 2 ≤ ws.heap.size := by have := hb1.size; have := HZu.out; omega
 have g0 : ws.cell? ⟨w.heap.size, 0, none⟩ = some (.int .i64 V) := cell_of_row _ _ 0 _ _ _ GW.out
 have gl : w.heap.size < ws.heap.size := by omega
 clear hb1
 go_upto_region 6 with fail
 go_cut [9] (fun v9 wc => Hid (CutMid w V A L c 38 n k v9 wc))
 case first =>
  refine wpL_region (S := Kept ws) [11] (by kernel_rfl) (Kept.drew ws) (fun hS0 => ?_)
  refine tl 0 33 ?_ ?_ ?_; rotate_left; (focus (intro w h; go_simp; (try with_reducible rfl))); (try simp only [xd, xe, xf])
  refine tl 1 34 ?_ ?_ ?_; rotate_left; (focus (intro w h; go_simp; (try with_reducible rfl))); (try simp only [xd, xe, xf])
  refine tl 2 35 ?_ ?_ ?_; rotate_left; (focus (intro w h; go_simp; (try with_reducible rfl))); (try simp only [xd, xe, xf])
  refine tl 3 36 ?_ ?_ ?_; rotate_left; (focus (intro w h; go_simp; (try with_reducible rfl))); (try simp only [xd, xe, xf])
  refine tl 4 37 ?_ ?_ ?_; rotate_left; (focus (intro w h; go_simp; (try with_reducible rfl))); (try simp only [xd, xe, xf])
  refine tl 5 38 ?_ ?_ ?_; rotate_left; (focus (intro w h; go_simp; (try with_reducible rfl))); (try simp only [xd, xe, xf])
  refine tl 6 39 ?_ ?_ ?_; rotate_left; (focus (intro w h; go_simp; (try with_reducible rfl))); (try simp only [xd, xe, xf])
  refine tl 7 40 ?_ ?_ ?_; rotate_left; (focus (intro w h; go_simp; (try with_reducible rfl))); (try simp only [xd, xe, xf])
  refine call2L_at (i := 8) (j := 10) (by simp only [xa, xb, xc]; rfl) (by simp only [xa, xb, xc]; rfl) (by kernel_rfl) rfl rfl (fun K hK => ?_) (fun K hK => ?_)
  ·go_simp
   refine (rowned_any _ V n k).mono ?_
   rintro e z1 ⟨Ao, co, rfl, ho, hz⟩
   obtain ⟨m, hm⟩ : ∃ m, (ownedF V n k).length = m := ⟨_, rfl⟩
   rw [hm] at ho ⊢
   have hS1 : Kept ws z1 := hS0.below (by simp) hz
   have HO := hide ho
   have HZ := hide hz
   have HM := hide hm
   clear ho hz hm
   go_wp2_with fail
   refine hK.out _ _ hS1 (fun hSn => ?_)
   clear hK K
   try simp only [xd, xe, xf]
   refine tl 9 42 ?_ ?_ ?_; rotate_left; (focus (intro w h; go_simp; (try with_reducible rfl))); (try simp only [xd, xe, xf])
   refine callL_at (i := 10) (d := 9) (by simp only [xa, xb, xc]; rfl) rfl (by kernel_rfl) rfl (fun K hK => ?_)
   go_simp
   have hS2 : Kept ws (z1.alloc (.cells #[.int .i64 0, .int .i64 0, .int .i64 0, .slice none 0 0, .slice none 0 0, .slice none 0 0] 38)) := fun p hp => (World.cell?_alloc_lt _ _ _ (by have := HZ.out.size; simp at this; omega)).trans (hS1 p hp)
   refine hK.out _ _ hS2 (fun hSn => ?_)
   clear hK K
   try simp only [xd, xe, xf]
   refine exL_at (i := 11) (by simp only [xa, xb, xc]; rfl) (by kernel_rfl) rfl (by kernel_rfl) (fun K hK => ?_)
   go_wp2_with fail
   refine hK.out _ _ ?_
   clear hK K
   try simp only [xd, xe, xf]
   refine wpAnyL_done (by kernel_rfl) ?_ _
   clear hS0 hS1 hS2 hSn
   have HFin : Hid (CutMid w V A L c 38 n k (.pointer (some ⟨z1.heap.size, 0, none⟩)) (z1.alloc (.cells #[.int .i64 k, .int .i64 n, .int .i64 V, .slice Ao m co, .slice none 0 0, .slice none 0 0] 38))) := hide (by
     have hzs := HZ.out.size
     simp at hzs
     refine ⟨z1.heap.size, m, Ao, co, rfl, by omega, by simp, HM.out, heap_alloc_last _ _, ?_, ?_, own_base ((HO.out).alloc _) (by simp; omega), ?_⟩
     ·exact (Below.heap_alloc _ _ _ (by omega)).trans ((HZ.out.block _ (by simp; omega)).trans GW.out)
     ·exact (Below.heap_alloc _ _ _ (by omega)).trans ((HZ.out.block _ (by simp; omega)).trans ZW.out)
     ·exact (HB1.out.drew.trans (HZ.out.mono (by simp; omega))).alloc (by omega) _)
   go_wp2
   go_meet
   case rel => exact HFin
  ·go_simp
   have hS1 : Kept ws (ws.drew.alloc (.cells #[.int .i64 0, .int .i64 0, .int .i64 0, .slice none 0 0, .slice none 0 0, .slice none 0 0] 38)) := fun p hp => (World.cell?_alloc_lt _ _ _ hp)
   refine hK.out _ _ hS1 (fun hSn => ?_)
   clear hK K
   try simp only [xd, xe, xf]
   refine callL_at (i := 8) (d := 41) (by simp only [xa, xb, xc]; rfl) rfl (by kernel_rfl) rfl (fun K hK => ?_)
   go_simp
   refine (rowned_any _ V n k).mono ?_
   rintro e z1 ⟨Ao, co, rfl, ho, hz⟩
   obtain ⟨m, hm⟩ : ∃ m, (ownedF V n k).length = m := ⟨_, rfl⟩
   rw [hm] at ho ⊢
   have hS2 : Kept ws z1 := hS1.below (by simp) hz
   have HO := hide ho
   have HZ := hide hz
   have HM := hide hm
   clear ho hz hm
   go_wp2_with fail
   refine hK.out _ _ hS2 (fun hSn => ?_)
   clear hK K
   try simp only [xd, xe, xf]
   refine tl 9 42 ?_ ?_ ?_; rotate_left; (focus (intro w h; go_simp; (try with_reducible rfl))); (try simp only [xd, xe, xf])
   refine exL_at (i := 11) (by simp only [xa, xb, xc]; rfl) (by kernel_rfl) rfl (by kernel_rfl) (fun K hK => ?_)
   have cP : z1.heap[ws.heap.size]? = some (.cells #[.int .i64 0, .int .i64 0, .int .i64 0, .slice none 0 0, .slice none 0 0, .slice none 0 0] 38) := (HZ.out.block _ (by simp)).trans (heap_alloc_last ws.drew _)
   have cp0 : z1.cell? ⟨ws.heap.size, 0, none⟩ = some (.int .i64 0) := cell_of_row _ _ 0 _ _ _ cP
   have cf0 : z1.frozen? ⟨ws.heap.size, 0, none⟩ = false := frozen_of_row _ _ 0 _ _ cP
   have cp1 : z1.cell? ⟨ws.heap.size, 1, none⟩ = some (.int .i64 0) := cell_of_row _ _ 1 _ _ _ cP
   have cf1 : z1.frozen? ⟨ws.heap.size, 1, none⟩ = false := frozen_of_row _ _ 1 _ _ cP
   have cp2 : z1.cell? ⟨ws.heap.size, 2, none⟩ = some (.int .i64 0) := cell_of_row _ _ 2 _ _ _ cP
   have cf2 : z1.frozen? ⟨ws.heap.size, 2, none⟩ = false := frozen_of_row _ _ 2 _ _ cP
   have cp3 : z1.cell? ⟨ws.heap.size, 3, none⟩ = some (.slice none 0 0) := cell_of_row _ _ 3 _ _ _ cP
   have cf3 : z1.frozen? ⟨ws.heap.size, 3, none⟩ = false := frozen_of_row _ _ 3 _ _ cP
   have cp4 : z1.cell? ⟨ws.heap.size, 4, none⟩ = some (.slice none 0 0) := cell_of_row _ _ 4 _ _ _ cP
   have cf4 : z1.frozen? ⟨ws.heap.size, 4, none⟩ = false := frozen_of_row _ _ 4 _ _ cP
   have cp5 : z1.cell? ⟨ws.heap.size, 5, none⟩ = some (.slice none 0 0) := cell_of_row _ _ 5 _ _ _ cP
   have cf5 : z1.frozen? ⟨ws.heap.size, 5, none⟩ = false := frozen_of_row _ _ 5 _ _ cP
   have CP := hide cP
   clear cP
   go_wp2_with fail
   refine hK.out _ _ ?_
   clear hK K cp0 cf0 cp1 cf1 cp2 cf2 cp3 cf3 cp4 cf4 cp5 cf5
   try simp only [xd, xe, xf]
   refine wpAnyL_done (by kernel_rfl) ?_ _
   clear hS0 hS1 hS2 hSn
   have HFin : Hid (CutMid w V A L c 38 n k (.pointer (some ⟨ws.heap.size, 0, none⟩)) ((((((z1.setCell ⟨ws.heap.size, 0, none⟩ (.int .i64 k)).setCell ⟨ws.heap.size, 1, none⟩ (.int .i64 n)).setCell ⟨ws.heap.size, 2, none⟩ (.int .i64 V)).setCell ⟨ws.heap.size, 3, none⟩ (.slice Ao m co)).setCell ⟨ws.heap.size, 4, none⟩ (.slice none 0 0)).setCell ⟨ws.heap.size, 5, none⟩ (.slice none 0 0))) := hide (by
     have hzs := HZ.out.size
     simp at hzs
     have e1 := heap_setCell_same z1 ws.heap.size 0 _ _ (.int .i64 k) CP.out
     have e2 := heap_setCell_same _ ws.heap.size 1 _ _ (.int .i64 n) e1
     have e3 := heap_setCell_same _ ws.heap.size 2 _ _ (.int .i64 V) e2
     have e4 := heap_setCell_same _ ws.heap.size 3 _ _ (.slice Ao m co) e3
     have e5 := heap_setCell_same _ ws.heap.size 4 _ _ (.slice none 0 0) e4
     have e6 := heap_setCell_same _ ws.heap.size 5 _ _ (.slice none 0 0) e5
     have o1 : z1.ownsRow (ws.heap.size + 1) 3 1 (.slice Ao m co) m ((ownedF V n k).map (Value.int .i64)) := by have := HO.out; simp at this; exact this
     have o2 := fun (w : World) (h : w.ownsRow (ws.heap.size + 1) 3 1 (.slice Ao m co) m ((ownedF V n k).map (Value.int .i64))) (i : Nat) (u : Value) => ownsRow_setCell_below h (a := ⟨ws.heap.size, i, none⟩) (by simp) u
     refine ⟨ws.heap.size, m, Ao, co, rfl, by omega, by simp only [World.size_setCell]; omega, HM.out, e6, ?_, ?_, own_base (o2 _ (o2 _ (o2 _ (o2 _ (o2 _ (o2 _ o1 _ _) _ _) _ _) _ _) _ _) _ _) (by omega), ?_⟩
     ·iterate 6 rw [Below.heap_setCell _ _ _ _ (by show w.heap.size ≠ ws.heap.size; omega)]
      exact (HZ.out.block _ (by simp; omega)).trans ((Below.heap_alloc _ _ _ (by show _ < ws.heap.size; omega)).trans GW.out)
     ·iterate 6 rw [Below.heap_setCell _ _ _ _ (by show w.heap.size + 1 ≠ ws.heap.size; omega)]
      exact (HZ.out.block _ (by simp; omega)).trans ((Below.heap_alloc _ _ _ (by show _ < ws.heap.size; omega)).trans ZW.out)
     ·have b0 := (HB1.out.drew.alloc (by simp; omega) (.cells #[.int .i64 0, .int .i64 0, .int .i64 0, .slice none 0 0, .slice none 0 0, .slice none 0 0] 38)).trans (HZ.out.mono (by simp; omega))
      exact (((((b0.setCell (p := ⟨ws.heap.size, 0, none⟩) (by simp; omega) _).setCell (p := ⟨ws.heap.size, 1, none⟩) (by simp; omega) _).setCell (p := ⟨ws.heap.size, 2, none⟩) (by simp; omega) _).setCell (p := ⟨ws.heap.size, 3, none⟩) (by simp; omega) _).setCell (p := ⟨ws.heap.size, 4, none⟩) (by simp; omega) _).setCell (p := ⟨ws.heap.size, 5, none⟩) (by simp; omega) _)
   go_wp2
   go_meet
   case rel => exact HFin
 case rest =>
  clear g0 gl hb1s GW ZW HB1
  obtain ⟨bp, m, Ao, co, rfl, hbp1, hbp2, hm, hCP, hGB, hZB, hO, hBw⟩ := hcut.out
  obtain ⟨v, rfl⟩ : ∃ v, v = wc := ⟨_, rfl⟩
  have HM := hide hm
  have hm512 : m ≤ 512 := by rw [← hm]; exact owned_le V n k
  have GB := hide hGB
  have ZB := hide hZB
  have HO := hide hO
  have HOX := hide (own_ne hO hCP int_ne_part)
  have HBw := hide hBw
  have CP := hide hCP
  have hwv : w.heap.size + 3 ≤ v.heap.size := by omega
  clear hm hGB hZB hO hBw hCP hcut
  go_wp2
  go_loopw [10] (fun v10 wr => ∃ (i : Nat) (Au : Option Addr) (cu : Nat) (hu : List Value) (Ab : Option Addr) (cb : Nat) (hb : List Value), i ≤ m ∧ v10 = .int .i64 i ∧
   Hid (wr.heap[bp]? = some (.cells #[.int .i64 k, .int .i64 n, .int .i64 V, .slice Ao m co, .slice Au i cu, .slice Ab i cb] 38)) ∧ Hid (ORows wr v.heap.size Au cu hu (((ownedF V n k).take i).map (fromF es))) ∧ Hid (ORows wr v.heap.size Ab cb hb (((ownedF V n k).take i).map (toF es))) ∧
   Hid (Apart (.slice Au i cu) (.slice Ab i cb)) ∧ Hid (KB [bp] v wr) ∧ Hid (Below w.heap.size w wr)) (fun v10 _ => m - (intOf v10).toNat)
  case atStart => exact ⟨0, none, 0, [], none, 0, [], by omega, rfl, CP, hide (ORows.nil _ _), hide (ORows.nil _ _), hide (Apart.nil _ _ _), hide (KB.refl _ _), HBw⟩
  case round =>
   obtain ⟨i, Au, cu, hu, Ab, cb, hb, hi, rfl, HC, Hu, Hb, HA, HK, HBr⟩ := hrel
   obtain ⟨ws, rfl⟩ : ∃ ws, ws = wr := ⟨_, rfl⟩
   have hBs : v.heap.size ≤ ws.heap.size := HK.out.1
   by_cases hlt : i < m
   ·obtain ⟨x, hx⟩ : ∃ x, (ownedF V n k)[i]? = some x := ⟨_, List.getElem?_eq_getElem (by rw [HM.out]; exact hlt)⟩
    have HX := hide hx
    have hxb := owned_nn hx
    have Lu : Hid ((((ownedF V n k).take i).map (fromF es)).length = i) := hide (by rw [List.length_map, List.length_take, HM.out]; omega)
    have Lb : Hid ((((ownedF V n k).take i).map (toF es)).length = i) := hide (by rw [List.length_map, List.length_take, HM.out]; omega)
    obtain ⟨ob, hob, hob1, hob2, hob3⟩ := own_addr HO.out (by omega)
    subst hob
    have OC : Hid (v.cell? ⟨ob, i, none⟩ = some (.int .i64 x)) := hide (by
     rw [HO.out.cellAt i (by omega), List.getElem?_map, hx]; rfl)
    have hoX : ob ∉ [bp] := by have := HOX.out ob rfl; simpa using this
    have HoX := hide hoX
    have hwX : w.heap.size ∉ [bp] := by simp; omega
    have HwX := hide hwX
    have hI0 : (0 : Int) ≤ (i : Int) := by omega
    have hI1 : (i : Int) < (m : Int) := by omega
    have hmc : m ≤ co := hob3
    clear hx hoX hwX
    obtain ⟨B, hBB⟩ : ∃ B, v.heap.size = B := ⟨_, rfl⟩
    rw [hBB] at Hu Hb hBs hwv
    have hbB : bp < B := by omega
    have hwB : w.heap.size < v.heap.size := by omega
    have hoB : ob < v.heap.size := hob2
    have g3 : ws.cell? ⟨bp, 3, none⟩ = some (.slice (some ⟨ob, 0, none⟩) m co) := cell_of_row _ _ 3 _ _ _ HC.out
    have g4 : ws.cell? ⟨bp, 4, none⟩ = some (.slice Au i cu) := cell_of_row _ _ 4 _ _ _ HC.out
    have x0 : ws.cell? ⟨w.heap.size, 0, none⟩ = some (.int .i64 V) := (HK.out.cell (p := ⟨w.heap.size, 0, none⟩) hwB HwX.out).trans (cell_of_row _ _ 0 _ _ _ GB.out)
    have x1 : ws.cell? ⟨w.heap.size, 1, none⟩ = some (.slice A L c) := (HK.out.cell (p := ⟨w.heap.size, 1, none⟩) hwB HwX.out).trans (cell_of_row _ _ 1 _ _ _ GB.out)
    have d0 : ws.cell? ⟨ob, i, none⟩ = some (.int .i64 x) := (HK.out.cell (p := ⟨ob, i, none⟩) hoB HoX.out).trans OC.out
    have HEs : Hid (Eds ws.drew ws.drew.heap.size A es) := hide (Els.more (HE0.out.below HBr.out.drew (Nat.le_refl _)) (by show w.heap.size ≤ ws.heap.size; omega))
    have hlb : bp < ws.heap.size := by omega
    have hlo : ob < ws.heap.size := by omega
    have hlw : w.heap.size < ws.heap.size := by omega
    have HBB := hide hBB
    clear hBB
    go_wp2
    refine wpL_region (S := Kept ws) [10, 12] (by kernel_rfl) (Kept.drew ws) (fun hS0 => ?_)
    refine tw 0 50 ?_ ?_ ?_; rotate_left; (focus (intro w; go_simp; (try with_reducible rfl); done)); (try simp only [xd, xe, xf])
    refine tl 1 51 ?_ ?_ ?_; rotate_left; (focus (intro w h; go_simp; (try with_reducible rfl))); (try simp only [xd, xe, xf])
    refine takeU_at [2, 8, 9, 10, 11, 12] (i := 2) (d := 52) (v := ?_) (by simp only [xa, xb, xc]; rfl) rfl (by kernel_rfl) (by kernel_rfl) (by kernel_rfl) (by kernel_rfl) (by kernel_rfl) (by kernel_rfl) (fun _ _ _ h => h) rfl ?_ (by assumption) ?_
    rotate_left
    focus (intro w hSw; go_simp; (try with_reducible rfl); done)
    try simp only [xd, xe, xf]
    refine tw 3 53 ?_ ?_ ?_; rotate_left; (focus (intro w; go_simp; (try with_reducible rfl); done)); (try simp only [xd, xe, xf])
    refine takeU_at [4, 6, 7, 8, 9, 10, 11, 12] (i := 4) (d := 54) (v := ?_) (by simp only [xa, xb, xc]; rfl) rfl (by kernel_rfl) (by kernel_rfl) (by kernel_rfl) (by kernel_rfl) (by kernel_rfl) (by kernel_rfl) (fun _ _ _ h => h) rfl ?_ (by assumption) ?_
    rotate_left
    focus (intro w hSw; go_simp; (try with_reducible rfl); done)
    try simp only [xd, xe, xf]
    refine tw 5 55 ?_ ?_ ?_; rotate_left; (focus (intro w; go_simp; (try with_reducible rfl); done)); (try simp only [xd, xe, xf])
    refine tw 6 56 ?_ ?_ ?_; rotate_left; (focus (intro w; go_simp; (try with_reducible rfl); done)); (try simp only [xd, xe, xf])
    refine takeU_at [7, 8, 9, 10, 11, 12] (i := 7) (d := 57) (v := ?_) (by simp only [xa, xb, xc]; rfl) rfl (by kernel_rfl) (by kernel_rfl) (by kernel_rfl) (by kernel_rfl) (by kernel_rfl) (by kernel_rfl) (fun _ _ _ h => h) rfl ?_ (by assumption) ?_
    rotate_left
    focus (intro w hSw; go_simp; (try with_reducible rfl); done)
    try simp only [xd, xe, xf]
    refine callL_at (i := 8) (d := 58) (by simp only [xa, xb, xc]; rfl) rfl (by kernel_rfl) rfl (fun K hK => ?_)
    go_simp
    refine (rout_any _ V A es L c x HL.out HEs.out hc).mono ?_
    rintro e y1 ⟨A1, c1, rfl, o1, b1⟩
    obtain ⟨q, hq⟩ : ∃ q, (fromF es x).length = q := ⟨_, rfl⟩
    rw [hq] at o1 ⊢
    have hS1 : Kept ws y1 := hS0.below (by simp) b1
    have O1 := hide o1
    have B1 := hide b1
    have HQ := hide hq
    have hys : ws.heap.size ≤ y1.heap.size := by have := b1.size; simpa using this
    clear o1 b1 hq
    go_wp2_with fail
    refine hK.out _ _ hS1 (fun hSn => ?_)
    clear hK K
    try simp only [xd, xe, xf]
    refine callL_at (i := 9) (d := 59) (by simp only [xa, xb, xc]; rfl) rfl (by kernel_rfl) rfl (fun K hK => ?_)
    go_simp
    have hS2 : Kept ws (y1.alloc (.cells #[.slice A1 q c1] 28)) := fun p hp => (World.cell?_alloc_lt _ _ _ (by omega)).trans (hS1 p hp)
    refine hK.out _ _ hS2 (fun hSn => ?_)
    clear hK K
    try simp only [xd, xe, xf]
    refine exL_at (i := 10) (by simp only [xa, xb, xc]; rfl) (by kernel_rfl) rfl (by kernel_rfl) (fun K hK => ?_)
    have own2 : Hid ((y1.alloc (.cells #[.slice A1 q c1] 28)).ownsRow B 28 1 (.slice Au i cu) i hu) := hide ((own_all (Lu.out ▸ Hu.out.own) (below_start B1.out) (Nat.le_refl _)).alloc _)
    refine op_app (.tmp 51) (.tmp 59) 32 rfl B 28 i0 (.slice none 0 0) 1 24 Try.underlying32 hi0 hz0 hz1 hz2 rfl (by decide) (.slice Au i cu) i _ rfl own2.out (y1.heap.size + 1) (some ⟨y1.heap.size, 0, none⟩) 1 1 [.slice A1 q c1] rfl rfl (Rd.new _ _ _ _) (by simp [Value.oneCell']) (by unfold maxLen; omega) (by omega) (by simp; omega) ?_
    intro A' c' y3 own3 hg3 hat3
    have FIN := push_two Lu.out Hu.out Hb.out (by rw [Lb.out]; exact HA.out) hBs B1.out HQ.out (wt_filter _ HWt.out) O1.out own3 hg3 hat3
    have cQ : y3.heap[bp]? = some (.cells #[.int .i64 k, .int .i64 n, .int .i64 V, .slice (some ⟨ob, 0, none⟩) m co, .slice Au i cu, .slice Ab i cb] 38) := (FIN.2.2.2.block bp hbB).trans HC.out
    have q1 : y3.cell? ⟨bp, 4, none⟩ = some (.slice Au i cu) := cell_of_row _ _ 4 _ _ _ cQ
    have qf : y3.frozen? ⟨bp, 4, none⟩ = false := frozen_of_row _ _ 4 _ _ cQ
    have HF := hide FIN
    have CQ := hide cQ
    have hsz3 : ws.heap.size ≤ y3.heap.size := by have := hg3.size; simp at this; omega
    clear FIN cQ own3 hg3 hat3 own2
    refine hK.out _ _ ?_
    clear hK K
    simp only [Act.put]
    try simp only [xd, xe, xf]
    refine tw 11 61 ?_ ?_ ?_; rotate_left; (focus (intro w; go_simp; (try with_reducible rfl); done)); (try simp only [xd, xe, xf])
    refine exL_at (i := 12) (by simp only [xa, xb, xc]; rfl) (by kernel_rfl) rfl (by kernel_rfl) (fun K hK => ?_)
    go_wp2_with fail
    refine hK.out _ _ ?_
    clear hK K
    try simp only [xd, xe, xf]
    refine wpAnyL_done (by kernel_rfl) ?_ _
    clear hS0 hS1 hS2 hSn g3 g4 x0 x1 d0 q1 qf hys
    have hSet := heap_setCell_same y3 bp 4 _ _ (.slice A' (i + 1) c') CQ.out
    obtain ⟨z, hz⟩ : ∃ z, y3.setCell ⟨bp, 4, none⟩ (.slice A' (i + 1) c') = z := ⟨_, rfl⟩
    rw [hz] at hSet
    have HC2 : Hid (z.heap[bp]? = some (.cells #[.int .i64 k, .int .i64 n, .int .i64 V, .slice (some ⟨ob, 0, none⟩) m co, .slice A' (i + 1) c', .slice Ab i cb] 38)) := hide hSet
    have Hu2 : Hid (ORows z B A' c' (hu ++ [.slice A1 q c1]) (((ownedF V n k).take (i + 1)).map (fromF es))) := hide (by rw [rows_step _ _ _ _ HX.out, ← hz]; exact HF.out.1.setCell hbB _)
    have Hb2 : Hid (ORows z B Ab cb hb (((ownedF V n k).take i).map (toF es))) := hide (by rw [← hz]; exact HF.out.2.1.setCell hbB _)
    have HA2 : Hid (Apart (.slice A' (i + 1) c') (.slice Ab i cb)) := hide (by have := HF.out.2.2.1; rw [Lb.out] at this; exact this)
    have HK2 : Hid (KB [bp] v z) := hide (by rw [← hz]; exact (HK.out.below HF.out.2.2.2 (by rw [HBB.out]; exact Nat.le_refl _)).setCell (.inr (by simp)) _)
    have HBr2 : Hid (Below w.heap.size w z) := hide (by rw [← hz]; exact (HBr.out.trans (HF.out.2.2.2.mono (by omega))).setCell (by show w.heap.size ≤ bp; omega) _)
    have hzs : ws.heap.size ≤ z.heap.size := by rw [← hz, World.size_setCell]; exact hsz3
    rw [hz]
    clear hSet hz HC Hu Hb HA HK HBr HF CQ HQ O1 B1 HEs hsz3
    -- the second region
    have hBs2 : B ≤ z.heap.size := by omega
    have g3 : z.cell? ⟨bp, 3, none⟩ = some (.slice (some ⟨ob, 0, none⟩) m co) := cell_of_row _ _ 3 _ _ _ HC2.out
    have g5 : z.cell? ⟨bp, 5, none⟩ = some (.slice Ab i cb) := cell_of_row _ _ 5 _ _ _ HC2.out
    have x0 : z.cell? ⟨w.heap.size, 0, none⟩ = some (.int .i64 V) := (HK2.out.cell (p := ⟨w.heap.size, 0, none⟩) hwB HwX.out).trans (cell_of_row _ _ 0 _ _ _ GB.out)
    have x1 : z.cell? ⟨w.heap.size, 1, none⟩ = some (.slice A L c) := (HK2.out.cell (p := ⟨w.heap.size, 1, none⟩) hwB HwX.out).trans (cell_of_row _ _ 1 _ _ _ GB.out)
    have d0 : z.cell? ⟨ob, i, none⟩ = some (.int .i64 x) := (HK2.out.cell (p := ⟨ob, i, none⟩) hoB HoX.out).trans OC.out
    have HEs : Hid (Eds z.drew z.drew.heap.size A es) := hide (Els.more (HE0.out.below HBr2.out.drew (Nat.le_refl _)) (by show w.heap.size ≤ z.heap.size; omega))
    have hlb : bp < z.heap.size := by omega
    have hlo : ob < z.heap.size := by omega
    have hlw : w.heap.size < z.heap.size := by omega
    clear hBs hzs
    obtain ⟨ws9, rfl⟩ : ∃ ws9 : World, ws9 = ws := ⟨_, rfl⟩
    obtain ⟨ws, rfl⟩ : ∃ ws, ws = z := ⟨_, rfl⟩
    obtain ⟨Au, rfl⟩ : ∃ Au, Au = A' := ⟨_, rfl⟩
    obtain ⟨cu, rfl⟩ : ∃ cu, cu = c' := ⟨_, rfl⟩
    have hBs := hBs2
    have HC := HC2; have HA := HA2; have Hu := Hu2; have Hb := Hb2; have HK := HK2; have HBr := HBr2
    have Lu : Hid ((((ownedF V n k).take (i + 1)).map (fromF es)).length = i + 1) := hide (by rw [List.length_map, List.length_take, HM.out]; omega)
    clear hBs2 HC2 HA2 Hu2 Hb2 HK2 HBr2
    go_wp2
    refine wpL_region (S := Kept ws) [10, 12] (by kernel_rfl) (Kept.drew ws) (fun hS0 => ?_)
    refine tw 0 62 ?_ ?_ ?_; rotate_left; (focus (intro w; go_simp; (try with_reducible rfl); done)); (try simp only [xd, xe, xf])
    refine tl 1 63 ?_ ?_ ?_; rotate_left; (focus (intro w h; go_simp; (try with_reducible rfl))); (try simp only [xd, xe, xf])
    refine takeU_at [2, 8, 9, 10, 11, 12] (i := 2) (d := 64) (v := ?_) (by simp only [xa, xb, xc]; rfl) rfl (by kernel_rfl) (by kernel_rfl) (by kernel_rfl) (by kernel_rfl) (by kernel_rfl) (by kernel_rfl) (fun _ _ _ h => h) rfl ?_ (by assumption) ?_
    rotate_left
    focus (intro w hSw; go_simp; (try with_reducible rfl); done)
    try simp only [xd, xe, xf]
    refine tw 3 65 ?_ ?_ ?_; rotate_left; (focus (intro w; go_simp; (try with_reducible rfl); done)); (try simp only [xd, xe, xf])
    refine takeU_at [4, 6, 7, 8, 9, 10, 11, 12] (i := 4) (d := 66) (v := ?_) (by simp only [xa, xb, xc]; rfl) rfl (by kernel_rfl) (by kernel_rfl) (by kernel_rfl) (by kernel_rfl) (by kernel_rfl) (by kernel_rfl) (fun _ _ _ h => h) rfl ?_ (by assumption) ?_
    rotate_left
    focus (intro w hSw; go_simp; (try with_reducible rfl); done)
    try simp only [xd, xe, xf]
    refine tw 5 67 ?_ ?_ ?_; rotate_left; (focus (intro w; go_simp; (try with_reducible rfl); done)); (try simp only [xd, xe, xf])
    refine tw 6 68 ?_ ?_ ?_; rotate_left; (focus (intro w; go_simp; (try with_reducible rfl); done)); (try simp only [xd, xe, xf])
    refine takeU_at [7, 8, 9, 10, 11, 12] (i := 7) (d := 69) (v := ?_) (by simp only [xa, xb, xc]; rfl) rfl (by kernel_rfl) (by kernel_rfl) (by kernel_rfl) (by kernel_rfl) (by kernel_rfl) (by kernel_rfl) (fun _ _ _ h => h) rfl ?_ (by assumption) ?_
    rotate_left
    focus (intro w hSw; go_simp; (try with_reducible rfl); done)
    try simp only [xd, xe, xf]
    refine callL_at (i := 8) (d := 70) (by simp only [xa, xb, xc]; rfl) rfl (by kernel_rfl) rfl (fun K hK => ?_)
    go_simp
    refine (rback_any _ V A es L c x HL.out HEs.out hc).mono ?_
    rintro e y1 ⟨A1, c1, rfl, o1, b1⟩
    obtain ⟨q, hq⟩ : ∃ q, (toF es x).length = q := ⟨_, rfl⟩
    rw [hq] at o1 ⊢
    have hS1 : Kept ws y1 := hS0.below (by simp) b1
    have O1 := hide o1
    have B1 := hide b1
    have HQ := hide hq
    have hys : ws.heap.size ≤ y1.heap.size := by have := b1.size; simpa using this
    clear o1 b1 hq
    go_wp2_with fail
    refine hK.out _ _ hS1 (fun hSn => ?_)
    clear hK K
    try simp only [xd, xe, xf]
    refine callL_at (i := 9) (d := 71) (by simp only [xa, xb, xc]; rfl) rfl (by kernel_rfl) rfl (fun K hK => ?_)
    go_simp
    have hS2 : Kept ws (y1.alloc (.cells #[.slice A1 q c1] 28)) := fun p hp => (World.cell?_alloc_lt _ _ _ (by omega)).trans (hS1 p hp)
    refine hK.out _ _ hS2 (fun hSn => ?_)
    clear hK K
    try simp only [xd, xe, xf]
    refine exL_at (i := 10) (by simp only [xa, xb, xc]; rfl) (by kernel_rfl) rfl (by kernel_rfl) (fun K hK => ?_)
    have own2 : Hid ((y1.alloc (.cells #[.slice A1 q c1] 28)).ownsRow B 28 1 (.slice Ab i cb) i hb) := hide ((own_all (Lb.out ▸ Hb.out.own) (below_start B1.out) (Nat.le_refl _)).alloc _)
    refine op_app (.tmp 63) (.tmp 71) 32 rfl B 28 i0 (.slice none 0 0) 1 24 Try.underlying32 hi0 hz0 hz1 hz2 rfl (by decide) (.slice Ab i cb) i _ rfl own2.out (y1.heap.size + 1) (some ⟨y1.heap.size, 0, none⟩) 1 1 [.slice A1 q c1] rfl rfl (Rd.new _ _ _ _) (by simp [Value.oneCell']) (by unfold maxLen; omega) (by omega) (by simp; omega) ?_
    intro A' c' y3 own3 hg3 hat3
    have FIN := push_two Lb.out Hb.out Hu.out (by rw [Lu.out]; exact HA.out.symm) hBs B1.out HQ.out (wt_filter _ HWt.out) O1.out own3 hg3 hat3
    have cQ : y3.heap[bp]? = some (.cells #[.int .i64 k, .int .i64 n, .int .i64 V, .slice (some ⟨ob, 0, none⟩) m co, .slice Au (i + 1) cu, .slice Ab i cb] 38) := (FIN.2.2.2.block bp hbB).trans HC.out
    have q1 : y3.cell? ⟨bp, 5, none⟩ = some (.slice Ab i cb) := cell_of_row _ _ 5 _ _ _ cQ
    have qf : y3.frozen? ⟨bp, 5, none⟩ = false := frozen_of_row _ _ 5 _ _ cQ
    have HF := hide FIN
    have CQ := hide cQ
    have hsz3 : ws.heap.size ≤ y3.heap.size := by have := hg3.size; simp at this; omega
    clear FIN cQ own3 hg3 hat3 own2
    refine hK.out _ _ ?_
    clear hK K
    simp only [Act.put]
    try simp only [xd, xe, xf]
    refine tw 11 73 ?_ ?_ ?_; rotate_left; (focus (intro w; go_simp; (try with_reducible rfl); done)); (try simp only [xd, xe, xf])
    refine exL_at (i := 12) (by simp only [xa, xb, xc]; rfl) (by kernel_rfl) rfl (by kernel_rfl) (fun K hK => ?_)
    go_wp2_with fail
    refine hK.out _ _ ?_
    clear hK K
    try simp only [xd, xe, xf]
    refine wpAnyL_done (by kernel_rfl) ?_ _
    clear hS0 hS1 hS2 hSn g3 g5 x0 x1 d0 q1 qf hys
    have hSet := heap_setCell_same y3 bp 5 _ _ (.slice A' (i + 1) c') CQ.out
    obtain ⟨z, hz⟩ : ∃ z, y3.setCell ⟨bp, 5, none⟩ (.slice A' (i + 1) c') = z := ⟨_, rfl⟩
    rw [hz] at hSet
    have HC2 : Hid (z.heap[bp]? = some (.cells #[.int .i64 k, .int .i64 n, .int .i64 V, .slice (some ⟨ob, 0, none⟩) m co, .slice Au (i + 1) cu, .slice A' (i + 1) c'] 38)) := hide hSet
    have Hb2 : Hid (ORows z v.heap.size A' c' (hb ++ [.slice A1 q c1]) (((ownedF V n k).take (i + 1)).map (toF es))) := hide (by rw [rows_step _ _ _ _ HX.out, ← hz, HBB.out]; exact HF.out.1.setCell hbB _)
    have Hu2 : Hid (ORows z v.heap.size Au cu _ (((ownedF V n k).take (i + 1)).map (fromF es))) := hide (by rw [← hz, HBB.out]; exact HF.out.2.1.setCell hbB _)
    have HA2 : Hid (Apart (.slice Au (i + 1) cu) (.slice A' (i + 1) c')) := hide (by have := HF.out.2.2.1; rw [Lu.out] at this; exact this.symm)
    have HK2 : Hid (KB [bp] v z) := hide (by rw [← hz]; exact (HK.out.below HF.out.2.2.2 (by rw [HBB.out]; exact Nat.le_refl _)).setCell (.inr (by simp)) _)
    have HBr2 : Hid (Below w.heap.size w z) := hide (by rw [← hz]; exact (HBr.out.trans (HF.out.2.2.2.mono (by omega))).setCell (by show w.heap.size ≤ bp; omega) _)
    rw [hz]
    clear hSet hz HC Hu Hb HA HK HBr HF CQ HQ O1 B1 HEs hsz3
    go_wp2
    go_roundw
    case rel => exact ⟨i + 1, Au, cu, _, A', c', _, by omega, by go_num, HC2, Hu2, Hb2, HA2, HK2, HBr2⟩
    case measure => simp [intOf]; omega
   ·obtain rfl : i = m := by omega
    have htk : (ownedF V n k).take i = ownedF V n k := List.take_of_length_le (by rw [HM.out]; exact Nat.le_refl _)
    rw [htk] at Hu Hb
    have g3 : ws.cell? ⟨bp, 3, none⟩ = some (.slice Ao i co) := cell_of_row _ _ 3 _ _ _ HC.out
    have g0 : ws.cell? ⟨bp, 0, none⟩ = some (.int .i64 k) := cell_of_row _ _ 0 _ _ _ HC.out
    have g1 : ws.cell? ⟨bp, 1, none⟩ = some (.int .i64 n) := cell_of_row _ _ 1 _ _ _ HC.out
    have g2 : ws.cell? ⟨bp, 2, none⟩ = some (.int .i64 V) := cell_of_row _ _ 2 _ _ _ HC.out
    have g4 : ws.cell? ⟨bp, 4, none⟩ = some (.slice Au i cu) := cell_of_row _ _ 4 _ _ _ HC.out
    have g5 : ws.cell? ⟨bp, 5, none⟩ = some (.slice Ab i cb) := cell_of_row _ _ 5 _ _ _ HC.out
    have hwX : w.heap.size + 1 ∉ [bp] := by simp; omega
    have hZ : ws.heap[w.heap.size + 1]? = some (.cells #[.int .i64 0, .int .i64 0, .int .i64 0, .slice none 0 0, .slice none 0 0, .slice none 0 0] 38) := (HK.out.2 _ (by omega) hwX).trans ZB.out
    have z0 : ws.cell? ⟨w.heap.size + 1, 0, none⟩ = some (.int .i64 0) := cell_of_row _ _ 0 _ _ _ hZ
    have zf0 : ws.frozen? ⟨w.heap.size + 1, 0, none⟩ = false := frozen_of_row _ _ 0 _ _ hZ
    have z1 : ws.cell? ⟨w.heap.size + 1, 1, none⟩ = some (.int .i64 0) := cell_of_row _ _ 1 _ _ _ hZ
    have zf1 : ws.frozen? ⟨w.heap.size + 1, 1, none⟩ = false := frozen_of_row _ _ 1 _ _ hZ
    have z2 : ws.cell? ⟨w.heap.size + 1, 2, none⟩ = some (.int .i64 0) := cell_of_row _ _ 2 _ _ _ hZ
    have zf2 : ws.frozen? ⟨w.heap.size + 1, 2, none⟩ = false := frozen_of_row _ _ 2 _ _ hZ
    have z3 : ws.cell? ⟨w.heap.size + 1, 3, none⟩ = some (.slice none 0 0) := cell_of_row _ _ 3 _ _ _ hZ
    have zf3 : ws.frozen? ⟨w.heap.size + 1, 3, none⟩ = false := frozen_of_row _ _ 3 _ _ hZ
    have z4 : ws.cell? ⟨w.heap.size + 1, 4, none⟩ = some (.slice none 0 0) := cell_of_row _ _ 4 _ _ _ hZ
    have zf4 : ws.frozen? ⟨w.heap.size + 1, 4, none⟩ = false := frozen_of_row _ _ 4 _ _ hZ
    have z5 : ws.cell? ⟨w.heap.size + 1, 5, none⟩ = some (.slice none 0 0) := cell_of_row _ _ 5 _ _ _ hZ
    have zf5 : ws.frozen? ⟨w.heap.size + 1, 5, none⟩ = false := frozen_of_row _ _ 5 _ _ hZ
    have HOw : Hid (ws.ownsRow (w.heap.size + 2) 3 1 (.slice Ao i co) i ((ownedF V n k).map (Value.int .i64))) := hide (HK.out.own HO.out (fun g hg => by have := HOX.out g hg; simpa using this))
    have hF0 := hZ
    have hF1 := heap_setCell_same ws (w.heap.size + 1) 0 _ _ (.int .i64 k) hF0
    have hF2 := heap_setCell_same _ (w.heap.size + 1) 1 _ _ (.int .i64 n) hF1
    have hF3 := heap_setCell_same _ (w.heap.size + 1) 2 _ _ (.int .i64 V) hF2
    have hF4 := heap_setCell_same _ (w.heap.size + 1) 3 _ _ (.slice Ao i co) hF3
    have hF5 := heap_setCell_same _ (w.heap.size + 1) 4 _ _ (.slice Au i cu) hF4
    have hF6 := heap_setCell_same _ (w.heap.size + 1) 5 _ _ (.slice Ab i cb) hF5
    have HF6 := hide hF6
    have hOw2 := fun (w1 : World) (h : w1.ownsRow (w.heap.size + 2) 3 1 (.slice Ao i co) i ((ownedF V n k).map (Value.int .i64))) (j : Nat) (u : Value) => ownsRow_setCell_below h (a := ⟨w.heap.size + 1, j, none⟩) (by show w.heap.size + 1 < _; omega) u
    have HFO : Hid (((((((ws.setCell ⟨w.heap.size + 1, 0, none⟩ (.int .i64 k)).setCell ⟨w.heap.size + 1, 1, none⟩ (.int .i64 n)).setCell ⟨w.heap.size + 1, 2, none⟩ (.int .i64 V)).setCell ⟨w.heap.size + 1, 3, none⟩ (.slice Ao i co)).setCell ⟨w.heap.size + 1, 4, none⟩ (.slice Au i cu)).setCell ⟨w.heap.size + 1, 5, none⟩ (.slice Ab i cb)).ownsRow (w.heap.size + 2) 3 1 (.slice Ao i co) i ((ownedF V n k).map (Value.int .i64))) := hide (hOw2 _ (hOw2 _ (hOw2 _ (hOw2 _ (hOw2 _ (hOw2 _ HOw.out _ _) _ _) _ _) _ _) _ _) _ _)
    have hlB : w.heap.size + 1 < v.heap.size := by omega
    have HFu := hide ((((((Hu.out.setCell (p := ⟨w.heap.size + 1, 0, none⟩) hlB (.int .i64 k)).setCell (p := ⟨w.heap.size + 1, 1, none⟩) hlB (.int .i64 n)).setCell (p := ⟨w.heap.size + 1, 2, none⟩) hlB (.int .i64 V)).setCell (p := ⟨w.heap.size + 1, 3, none⟩) hlB (.slice Ao i co)).setCell (p := ⟨w.heap.size + 1, 4, none⟩) hlB (.slice Au i cu)).setCell (p := ⟨w.heap.size + 1, 5, none⟩) hlB (.slice Ab i cb))
    have HFb := hide ((((((Hb.out.setCell (p := ⟨w.heap.size + 1, 0, none⟩) hlB (.int .i64 k)).setCell (p := ⟨w.heap.size + 1, 1, none⟩) hlB (.int .i64 n)).setCell (p := ⟨w.heap.size + 1, 2, none⟩) hlB (.int .i64 V)).setCell (p := ⟨w.heap.size + 1, 3, none⟩) hlB (.slice Ao i co)).setCell (p := ⟨w.heap.size + 1, 4, none⟩) hlB (.slice Au i cu)).setCell (p := ⟨w.heap.size + 1, 5, none⟩) hlB (.slice Ab i cb))
    have hlW : w.heap.size ≤ w.heap.size + 1 := by omega
    have HFB := hide ((((((HBr.out.setCell (p := ⟨w.heap.size + 1, 0, none⟩) hlW (.int .i64 k)).setCell (p := ⟨w.heap.size + 1, 1, none⟩) hlW (.int .i64 n)).setCell (p := ⟨w.heap.size + 1, 2, none⟩) hlW (.int .i64 V)).setCell (p := ⟨w.heap.size + 1, 3, none⟩) hlW (.slice Ao i co)).setCell (p := ⟨w.heap.size + 1, 4, none⟩) hlW (.slice Au i cu)).setCell (p := ⟨w.heap.size + 1, 5, none⟩) hlW (.slice Ab i cb))
    clear hZ hwX htk hF0 hF1 hF2 hF3 hF4 hF5 hF6 hOw2
    go_wp2
    obtain ⟨f, hf⟩ : ∃ f, (((((ws.setCell ⟨w.heap.size + 1, 0, none⟩ (.int .i64 k)).setCell ⟨w.heap.size + 1, 1, none⟩ (.int .i64 n)).setCell ⟨w.heap.size + 1, 2, none⟩ (.int .i64 V)).setCell ⟨w.heap.size + 1, 3, none⟩ (.slice Ao i co)).setCell ⟨w.heap.size + 1, 4, none⟩ (.slice Au i cu)).setCell ⟨w.heap.size + 1, 5, none⟩ (.slice Ab i cb) = f := ⟨_, rfl⟩
    have h6 := HF6.out; have hfo := HFO.out; have hfu := HFu.out; have hfb := HFb.out; have hfB := HFB.out
    rw [hf] at h6 hfo hfu hfb hfB ⊢
    have y0 : f.cell? ⟨w.heap.size + 1, 0, none⟩ = some (.int .i64 k) := cell_of_row _ _ 0 _ _ _ h6
    have y1 : f.cell? ⟨w.heap.size + 1, 1, none⟩ = some (.int .i64 n) := cell_of_row _ _ 1 _ _ _ h6
    have y2 : f.cell? ⟨w.heap.size + 1, 2, none⟩ = some (.int .i64 V) := cell_of_row _ _ 2 _ _ _ h6
    have y3 : f.cell? ⟨w.heap.size + 1, 3, none⟩ = some (.slice Ao i co) := cell_of_row _ _ 3 _ _ _ h6
    have y4 : f.cell? ⟨w.heap.size + 1, 4, none⟩ = some (.slice Au i cu) := cell_of_row _ _ 4 _ _ _ h6
    have y5 : f.cell? ⟨w.heap.size + 1, 5, none⟩ = some (.slice Ab i cb) := cell_of_row _ _ 5 _ _ _ h6
    exact bodyPost_ret (v := .tuple #[.agg #[.int .i64 k, .int .i64 n, .int .i64 V, .slice Ao i co, .slice Au i cu, .slice Ab i cb], .int .i64 0]) (by simp [results, Try.results16, go_sem, y0, y1, y2, y3, y4, y5]) rfl ⟨i, Ao, co, Au, cu, hu, Ab, cb, hb, HM.out, rfl, own_base hfo (by omega), hfu.lower (by omega), hfb.lower (by omega), hfB⟩
end Go.Proofs.Ytihdpfjonkagaaa
