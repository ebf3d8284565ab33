/- A graph that is made: Ring. (printed by gen/egr.py) -/
import Derived.Test.YtmlpcfeadacoeaaProg
import Derived.Test.YtmlpcfeadacoeaaOap
import Derived.Lib.Hide
import Derived.WalkSpells
import Derived.WalkMore
import Derived.IntWalk
namespace Go.Proofs.Ytmlpcfeadacoeaa
open Go.RowKit
set_option linter.unusedVariables false
set_option linter.unusedSimpArgs false
def ringE (n : Nat) : List Ed := (List.range n).map fun (i : Nat) => ((i : Int), ((i : Int) + 1) % (n : Int), (i : Int) + 1)
theorem ring_snoc (n k : Nat) (h : k < n) : edFlat ((ringE n).take k) ++ [.int .i64 (k : Int), .int .i64 (((k : Int) + 1) % (n : Int)), .int .i64 ((k : Int) + 1)] = edFlat ((ringE n).take (k + 1)) := by
  have hk : (ringE n)[k]? = some ((k : Int), ((k : Int) + 1) % (n : Int), (k : Int) + 1) := by
    unfold ringE
    rw [List.getElem?_map, List.getElem?_range h]; rfl
  rw [List.take_add_one, hk, ← edFlat_app]
  rfl
theorem ring_len (n : Nat) : (ringE n).length = n := by simp [ringE]
theorem ring_wt (n : Nat) (h : n ≤ 8192) : wt (ringE n) := fun e he => by
  unfold ringE at he
  obtain ⟨i, hi, rfl⟩ := List.mem_map.1 he
  have := List.mem_range.1 hi
  dsimp only
  omega
set_option maxRecDepth 100000 in
set_option maxHeartbeats 4000000 in
theorem ring_any (w : World) (n : Nat) (hn1 : 1 ≤ n) (hn2 : n ≤ 8192) : Calls Try.prog 23 #[.int .i64 (n : Int)] w (GraphPost w (n : Int) (ringE n)) := by
  obtain ⟨i0, hi0, hz0, hz1, hz2⟩ := info_parts (show (Try.prog.info? 23).map (fun i => (i.zero, i.size, i.bytes)) = some (some (.agg #[.int .i64 0, .int .i64 0, .int .i64 0]), 3, 24) by kernel_rfl)
  go_enter Try.func23, Try.ntmps23
  go_wp2
  obtain ⟨v, hv⟩ : ∃ v, (w.alloc (.cells #[.int .i64 0, .slice none 0 0] 35)).alloc (.cells #[.int .i64 (n : Int), .slice none 0 0] 35) = v := ⟨_, rfl⟩
  have hz : v.heap.size = w.heap.size + 2 := by rw [← hv]; simp
  have hb : Below w.heap.size w v := by rw [← hv]; exact ((Below.refl _ _).alloc (Nat.le_refl _) _).alloc (by simp) _
  have cR : Hid (v.heap[w.heap.size]? = some (.cells #[.int .i64 0, .slice none 0 0] 35)) := hide (by rw [← hv]; exact (Below.heap_alloc _ _ _ (by simp)).trans (heap_alloc_last w _))
  have cB : Hid (v.heap[w.heap.size + 1]? = some (.cells #[.int .i64 (n : Int), .slice none 0 0] 35)) := hide (by
    rw [← hv]
    have := heap_alloc_last (w.alloc (.cells #[.int .i64 0, .slice none 0 0] 35)) (.cells #[.int .i64 (n : Int), .slice none 0 0] 35)
    rw [World.size_alloc] at this
    exact this)
  rw [hv]
  have HB := hide hb
  have HZ := hide hz
  clear hv hb hz
  go_loopw [4] (fun v4 wr => ∃ (k : Nat) (A : Option Addr) (c : Nat), k ≤ n ∧ v4 = .int .i64 k ∧ Hid (wr.heap[w.heap.size]? = some (.cells #[.int .i64 0, .slice none 0 0] 35)) ∧ Hid (wr.heap[w.heap.size + 1]? = some (.cells #[.int .i64 (n : Int), .slice A k c] 35)) ∧ Hid (wr.ownsRow v.heap.size 23 3 (.slice A k c) k (edFlat ((ringE n).take k))) ∧ Hid (Below w.heap.size w wr) ∧ v.heap.size ≤ wr.heap.size) (fun v4 _ => n - (intOf v4).toNat)
  case atStart => exact ⟨0, none, 0, by omega, rfl, cR, cB, hide (World.ownsRow_nil _ _ _ _), HB, Nat.le_refl _⟩
  case round =>
    clear cR cB
    obtain ⟨k, A, c, hk, rfl, cR, cB, hown, hbw, hsz⟩ := hrel
    have hz9 := HZ.out
    have g1 : wr.cell? ⟨w.heap.size + 1, 1, none⟩ = some (.slice A k c) := cell_of_row _ _ 1 _ _ _ cB.out
    have hl1 : w.heap.size + 1 < wr.heap.size := by omega
    by_cases hlt : k < n
    · have hsn := hide (ring_snoc n k hlt)
      have e1 : IntKind.i64.wrap ((k : Int) + 1) = (k : Int) + 1 := IntWalk.i64_in _ (by omega)
      have e2 : ((k : Int) + 1).tmod (n : Int) = ((k : Int) + 1) % (n : Int) := Int.tmod_eq_emod_of_nonneg (by omega)
      have e4 : ¬ (n : Int) = 0 := by omega
      have e5 : ¬ n = 0 := by omega
      have hI1 : (k : Int) < (n : Int) := by omega
      have hm0 : 0 ≤ ((k : Int) + 1) % (n : Int) := Int.emod_nonneg _ e4
      have hm1 : ((k : Int) + 1) % (n : Int) < (n : Int) := Int.emod_lt_of_pos _ (by omega)
      obtain ⟨m, hm⟩ : ∃ m, ((k : Int) + 1) % (n : Int) = m := ⟨_, rfl⟩
      rw [hm] at e2 hm0 hm1 hsn
      have e3 : IntKind.i64.wrap m = m := IntWalk.i64_in _ (by omega)
      have HM := hide hm
      clear hm
      go_wp2
      refine wpL_region (S := Kept wr) [11, 13] (by kernel_rfl) (Kept.drew wr) (fun hS0 => ?_)
      refine takeW_at (i := 0) (d := 12) (v := ?_) (by simp only [List.getElem?_toArray, List.getElem?_cons_succ, List.getElem?_cons_zero]; rfl) rfl (by kernel_rfl) (by kernel_rfl) (by kernel_rfl) (fun _ _ _ h => h) rfl ?_ ?_
      rotate_left
      focus (intro w; go_simp; (try with_reducible rfl); done)
      try simp only [List.setIfInBounds_toArray, List.set_cons_zero, List.set_cons_succ]
      refine takeL_at (i := 1) (d := 13) (v := ?_) (by simp only [List.getElem?_toArray, List.getElem?_cons_succ, List.getElem?_cons_zero]; rfl) rfl (by kernel_rfl) (by kernel_rfl) (by kernel_rfl) (by kernel_rfl) (fun _ _ _ h => h) rfl ?_ (by assumption) ?_
      rotate_left
      focus (intro w hSw; go_simp; (try with_reducible rfl); done)
      try simp only [List.setIfInBounds_toArray, List.set_cons_zero, List.set_cons_succ]
      refine takeW_at (i := 2) (d := 14) (v := ?_) (by simp only [List.getElem?_toArray, List.getElem?_cons_succ, List.getElem?_cons_zero]; rfl) rfl (by kernel_rfl) (by kernel_rfl) (by kernel_rfl) (fun _ _ _ h => h) rfl ?_ ?_
      rotate_left
      focus (intro w; go_simp; (try with_reducible rfl); done)
      try simp only [List.setIfInBounds_toArray, List.set_cons_zero, List.set_cons_succ]
      refine takeW_at (i := 3) (d := 15) (v := ?_) (by simp only [List.getElem?_toArray, List.getElem?_cons_succ, List.getElem?_cons_zero]; rfl) rfl (by kernel_rfl) (by kernel_rfl) (by kernel_rfl) (fun _ _ _ h => h) rfl ?_ ?_
      rotate_left
      focus (intro w; go_simp; (try with_reducible rfl); done)
      try simp only [List.setIfInBounds_toArray, List.set_cons_zero, List.set_cons_succ]
      refine takeW_at (i := 4) (d := 16) (v := ?_) (by simp only [List.getElem?_toArray, List.getElem?_cons_succ, List.getElem?_cons_zero]; rfl) rfl (by kernel_rfl) (by kernel_rfl) (by kernel_rfl) (fun _ _ _ h => h) rfl ?_ ?_
      rotate_left
      focus (intro w; go_simp; (try with_reducible rfl); done)
      try simp only [List.setIfInBounds_toArray, List.set_cons_zero, List.set_cons_succ]
      refine takeW_at (i := 5) (d := 17) (v := ?_) (by simp only [List.getElem?_toArray, List.getElem?_cons_succ, List.getElem?_cons_zero]; rfl) rfl (by kernel_rfl) (by kernel_rfl) (by kernel_rfl) (fun _ _ _ h => h) rfl ?_ ?_
      rotate_left
      focus (intro w; go_simp; (try with_reducible rfl); done)
      try simp only [List.setIfInBounds_toArray, List.set_cons_zero, List.set_cons_succ]
      refine takeW_at (i := 6) (d := 18) (v := ?_) (by simp only [List.getElem?_toArray, List.getElem?_cons_succ, List.getElem?_cons_zero]; rfl) rfl (by kernel_rfl) (by kernel_rfl) (by kernel_rfl) (fun _ _ _ h => h) rfl ?_ ?_
      rotate_left
      focus (intro w; go_simp; (try with_reducible rfl); done)
      try simp only [List.setIfInBounds_toArray, List.set_cons_zero, List.set_cons_succ]
      refine takeW_at (i := 7) (d := 19) (v := ?_) (by simp only [List.getElem?_toArray, List.getElem?_cons_succ, List.getElem?_cons_zero]; rfl) rfl (by kernel_rfl) (by kernel_rfl) (by kernel_rfl) (fun _ _ _ h => h) rfl ?_ ?_
      rotate_left
      focus (intro w; go_simp; (try with_reducible rfl); done)
      try simp only [List.setIfInBounds_toArray, List.set_cons_zero, List.set_cons_succ]
      refine takeW_at (i := 8) (d := 20) (v := ?_) (by simp only [List.getElem?_toArray, List.getElem?_cons_succ, List.getElem?_cons_zero]; rfl) rfl (by kernel_rfl) (by kernel_rfl) (by kernel_rfl) (fun _ _ _ h => h) rfl ?_ ?_
      rotate_left
      focus (intro w; go_simp; (try with_reducible rfl); done)
      try simp only [List.setIfInBounds_toArray, List.set_cons_zero, List.set_cons_succ]
      refine takeW_at (i := 9) (d := 21) (v := ?_) (by simp only [List.getElem?_toArray, List.getElem?_cons_succ, List.getElem?_cons_zero]; rfl) rfl (by kernel_rfl) (by kernel_rfl) (by kernel_rfl) (fun _ _ _ h => h) rfl ?_ ?_
      rotate_left
      focus (intro w; go_simp; (try with_reducible rfl); done)
      try simp only [List.setIfInBounds_toArray, List.set_cons_zero, List.set_cons_succ]
      refine callL_at (i := 10) (d := 22) (by simp only [List.getElem?_toArray, List.getElem?_cons_succ, List.getElem?_cons_zero]; rfl) rfl (by kernel_rfl) rfl (fun K hK => ?_)
      go_simp
      have hS1 : Kept wr (wr.drew.alloc (.cells #[.int .i64 (k : Int), .int .i64 m, .int .i64 ((k : Int) + 1)] 23)) := fun p hp => (World.cell?_alloc_lt _ _ _ hp)
      refine hK.out _ _ hS1 (fun hSn => ?_)
      clear hK K
      try simp only [List.setIfInBounds_toArray, List.set_cons_zero, List.set_cons_succ]
      refine exL_at (i := 11) (by simp only [List.getElem?_toArray, List.getElem?_cons_succ, List.getElem?_cons_zero]; rfl) (by kernel_rfl) rfl (by kernel_rfl) (fun K hK => ?_)
      refine op_app (.tmp 13) (.tmp 22) 33 rfl v.heap.size 23 i0 (.agg #[.int .i64 0, .int .i64 0, .int .i64 0]) 3 24 Try.underlying33 hi0 hz0 hz1 hz2 rfl (by decide) (.slice A k c) k _ rfl (hown.out.drew.alloc _) (wr.heap.size + 1) (some ⟨wr.heap.size, 0, none⟩) 1 1 [.int .i64 (k : Int), .int .i64 m, .int .i64 ((k : Int) + 1)] rfl rfl (Rd.new _ _ _ _) (by simp [Value.oneCell']) (by unfold maxLen; omega) (by omega) (by simp; omega) ?_
      intro A' c' w3 hown3 hg3 hat3
      rw [hsn.out] at hown3
      have cB3 : w3.heap[w.heap.size + 1]? = some (.cells #[.int .i64 (n : Int), .slice A k c] 35) := (hg3.block _ (by simp; omega) (fun e => by have := (hown.out.lt _ e.symm).1; omega)).trans ((Below.heap_alloc _ _ _ (by show _ < wr.heap.size; omega)).trans cB.out)
      have cR3 : Hid (w3.heap[w.heap.size]? = some (.cells #[.int .i64 0, .slice none 0 0] 35)) := hide ((hg3.block _ (by simp; omega) (fun e => by have := (hown.out.lt _ e.symm).1; omega)).trans ((Below.heap_alloc _ _ _ (by show _ < wr.heap.size; omega)).trans cR.out))
      have hb3 := hide (app_below ((hbw.out.drew).alloc hbw.out.drew.size _) (hown.out.drew.alloc _) hg3 (by have := hbw.out.size; simp; omega) (by omega))
      have hs3 : v.heap.size ≤ w3.heap.size := by have := hg3.size; simp at this; omega
      have q1 : w3.cell? ⟨w.heap.size + 1, 1, none⟩ = some (.slice A k c) := cell_of_row _ _ 1 _ _ _ cB3
      have qf : w3.frozen? ⟨w.heap.size + 1, 1, none⟩ = false := frozen_of_row _ _ 1 _ _ cB3
      have cS3 := hide (heap_setCell_same w3 (w.heap.size + 1) 1 _ _ (.slice A' (k + 1) c') cB3)
      have HOwn3 := hide hown3
      clear hg3 hat3 hown3 cB3
      refine hK.out _ _ ?_
      clear hK K
      simp only [Act.put]
      try simp only [List.setIfInBounds_toArray, List.set_cons_zero, List.set_cons_succ]
      refine takeW_at (i := 12) (d := 24) (v := ?_) (by simp only [List.getElem?_toArray, List.getElem?_cons_succ, List.getElem?_cons_zero]; rfl) rfl (by kernel_rfl) (by kernel_rfl) (by kernel_rfl) (fun _ _ _ h => h) rfl ?_ ?_
      rotate_left
      focus (intro w; go_simp; (try with_reducible rfl); done)
      try simp only [List.setIfInBounds_toArray, List.set_cons_zero, List.set_cons_succ]
      refine exL_at (i := 13) (by simp only [List.getElem?_toArray, List.getElem?_cons_succ, List.getElem?_cons_zero]; rfl) (by kernel_rfl) rfl (by kernel_rfl) (fun K hK => ?_)
      go_wp2_with fail
      refine hK.out _ _ ?_
      clear hK K
      try simp only [List.setIfInBounds_toArray, List.set_cons_zero, List.set_cons_succ]
      refine wpAnyL_done (by kernel_rfl) ?_ _
      clear hS0 hSn
      have hset : (w3.setCell ⟨w.heap.size + 1, 1, none⟩ (.slice A' (k + 1) c')).ownsRow v.heap.size 23 3 (.slice A' (k + 1) c') (k + 1) (edFlat ((ringE n).take (k + 1))) := ownsRow_setCell_below HOwn3.out (by show w.heap.size + 1 < _; omega) _
      have HSet := hide hset
      have cR4 : Hid ((w3.setCell ⟨w.heap.size + 1, 1, none⟩ (.slice A' (k + 1) c')).heap[w.heap.size]? = some (.cells #[.int .i64 0, .slice none 0 0] 35)) := hide ((Below.heap_setCell _ _ _ _ (by show w.heap.size ≠ w.heap.size + 1; omega)).trans cR3.out)
      have hb4 := hide (hb3.out.setCell (p := ⟨w.heap.size + 1, 1, none⟩) (by show _ ≤ w.heap.size + 1; omega) (.slice A' (k + 1) c'))
      have hs4 : v.heap.size ≤ (w3.setCell ⟨w.heap.size + 1, 1, none⟩ (.slice A' (k + 1) c')).heap.size := by rw [World.size_setCell]; exact hs3
      clear hset hs3
      go_wp2
      go_roundw
      case rel => exact ⟨k + 1, A', c', by omega, by go_num, cR4, cS3, HSet, hb4, hs4⟩
      case measure => simp [intOf]; omega
    · obtain rfl : k = n := by omega
      have g0 : wr.cell? ⟨w.heap.size + 1, 0, none⟩ = some (.int .i64 (k : Int)) := cell_of_row _ _ 0 _ _ _ cB.out
      have r0 : wr.cell? ⟨w.heap.size, 0, none⟩ = some (.int .i64 0) := cell_of_row _ _ 0 _ _ _ cR.out
      have r1 : wr.cell? ⟨w.heap.size, 1, none⟩ = some (.slice none 0 0) := cell_of_row _ _ 1 _ _ _ cR.out
      have f0 : wr.frozen? ⟨w.heap.size, 0, none⟩ = false := frozen_of_row _ _ 0 _ _ cR.out
      have f1 : wr.frozen? ⟨w.heap.size, 1, none⟩ = false := frozen_of_row _ _ 1 _ _ cR.out
      have hcap := own_cap hown.out
      have hrd : Eds wr wr.heap.size A (ringE k) := Eds.of_rd (by
        have h := Rd.of_own hown.out
        rw [List.take_of_length_le (by rw [ring_len]; exact Nat.le_refl _)] at h
        exact h) (ring_wt k hn2)
      obtain ⟨g, hA, hgb, hgl, hgc⟩ := own_addr hown.out (by omega)
      have hcm : c ≤ 9223372036854775807 := own_max hown.out
      have HRd := hide hrd
      have HFin : Hid (GraphPost w (k : Int) (ringE k) (.returned (.agg #[.int .i64 (k : Int), .slice A k c])) ((wr.setCell ⟨w.heap.size, 0, none⟩ (.int .i64 (k : Int))).setCell ⟨w.heap.size, 1, none⟩ (.slice A k c))) := hide (by
        refine ⟨A, c, by rw [ring_len], ?_, by rw [ring_len]; exact hcap, hcm, (hbw.out.setCell (p := ⟨w.heap.size, 0, none⟩) (Nat.le_refl _) _).setCell (p := ⟨w.heap.size, 1, none⟩) (Nat.le_refl _) _⟩
        refine Eds.of_rd (fun hn => ?_) (ring_wt k hn2)
        obtain ⟨b, off, e, hlt, hc⟩ := HRd.out.rd hn
        refine ⟨b, off, e, by rw [World.size_setCell, World.size_setCell]; exact hlt, fun j u hu => ?_⟩
        rw [hA] at e
        injection e with e
        injection e with e1 e2
        rw [World.cell?_setCell_far _ _ _ _ (by show w.heap.size ≠ b; omega), World.cell?_setCell_far _ _ _ _ (by show w.heap.size ≠ b; omega)]
        exact hc j u hu)
      clear hrd hA hcap hcm
      go_wp2
      have s0 : ((wr.setCell ⟨w.heap.size, 0, none⟩ (.int .i64 (k : Int))).setCell ⟨w.heap.size, 1, none⟩ (.slice A k c)).cell? ⟨w.heap.size, 0, none⟩ = some (.int .i64 (k : Int)) := by
        rw [World.cell?_setCell_other _ _ _ _ (by intro e; cases e)]
        exact World.cell?_setCell_same' _ _ _ (by rw [r0]; rfl)
      have s1 : ((wr.setCell ⟨w.heap.size, 0, none⟩ (.int .i64 (k : Int))).setCell ⟨w.heap.size, 1, none⟩ (.slice A k c)).cell? ⟨w.heap.size, 1, none⟩ = some (.slice A k c) :=
        World.cell?_setCell_same' _ _ _ (by rw [World.cell?_setCell_other _ _ _ _ (by intro e; cases e), r1]; rfl)
      exact bodyPost_ret (v := .agg #[.int .i64 (k : Int), .slice A k c]) (by simp [results, Try.results23, go_sem, s0, s1]) rfl HFin.out
end Go.Proofs.Ytmlpcfeadacoeaa
