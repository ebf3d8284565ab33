/- Owned. -/
import Derived.Test.YtihdpfjonkagaaaMow
namespace Go.Proofs.Ytihdpfjonkagaaa
open Go.RowKit Go.Shelf
attribute [local go_sem] Oper.semAt_some
set_option linter.unusedVariables false
set_option linter.unusedSimpArgs false
set_option maxHeartbeats 1000000 in
theorem ownedSeq_any (w : World) (V m k : Int) : Calls Try.prog 30 #[.int .i64 V, .int .i64 m, .int .i64 k] w fun e w' => e = .returned (.func (.func 46) #[] #[.pointer (some ⟨w.heap.size, 0, none⟩), .pointer (some ⟨w.heap.size + 2, 0, none⟩), .pointer (some ⟨w.heap.size + 1, 0, none⟩)]) ∧ w' = ((w.alloc (.cells #[.int .i64 V] 3)).alloc (.cells #[.int .i64 m] 3)).alloc (.cells #[.int .i64 k] 3) := by
  go_enter Try.func30, Try.ntmps30
  go_wp2
  go_ret
  exact ⟨rfl, rfl⟩
theorem grown_drew' (w : World) (row : Option Nat) : w.grownBy w.drew row := ⟨rfl, rfl, rfl, Nat.le_refl _, fun _ _ _ => rfl⟩
theorem owned_stops (n : Nat) (hn : 1 ≤ n) (bV bK bN : Nat) (V m k : Int) (w : World) (hV : bV < w.heap.size) (hK : bK < w.heap.size) (hN : bN < w.heap.size)
    (cV : w.cell? ⟨bV, 0, none⟩ = some (.int .i64 V)) (cK : w.cell? ⟨bK, 0, none⟩ = some (.int .i64 k)) (cN : w.cell? ⟨bN, 0, none⟩ = some (.int .i64 m)) :
    SeqStopsK Fence.wide n Try.prog 46 #[.pointer (some ⟨bV, 0, none⟩), .pointer (some ⟨bK, 0, none⟩), .pointer (some ⟨bN, 0, none⟩)] (fun x : Int => #[Value.int .i64 x]) (Kp3 bV bK bN) (fun ys => ys = ownedF V m k) (fun pre => True) 512 w := fun l J Jx W hW hJ _ hY h0 =>
  owned1_in n hn l bV bK bN V m k J Jx hY W ((hW.cell (p := ⟨bV, 0, none⟩) hV).trans cV) ((hW.cell (p := ⟨bK, 0, none⟩) hK).trans cK) ((hW.cell (p := ⟨bN, 0, none⟩) hN).trans cN) h0
    (fun pre W h => hJ pre W _ none h (grown_drew' W none) (fun r e => by cases e))
set_option maxRecDepth 100000 in
set_option maxHeartbeats 2000000 in
theorem owned_in (n : Nat) (hn : 3 ≤ n) (V m k : Int) (w : World) : CallsIn Fence.wide n Try.prog 11 #[.int .i64 V, .int .i64 m, .int .i64 k] w (OwnPost w (ownedF V m k)) := by
  have h1 : 1 ≤ n := by omega
  obtain ⟨i0, hi, hz0, hz1, hz2⟩ := info_parts (show (Try.prog.info? 3).map (fun i => (i.zero, i.size, i.bytes)) = some (some (.int .i64 0), 1, 8) by kernel_rfl)
  refine callsIn_of_wp_marks Try.func11 rfl trivial ?_ rfl
  simp only [Try.ntmps11, List.size_toArray, List.length_cons, List.length_nil, Nat.reduceAdd, Nat.reduceSub, Array.replicate_succ, Array.replicate_zero, List.push_toArray, List.append_toArray, List.nil_append, List.cons_append]
  gi_wp2_with fail
  refine ⟨trivial, ?_⟩
  refine (callsIn_wide.2 (ownedSeq_any _ V m k)).mono ?_
  rintro e w' ⟨rfl, rfl⟩
  gi_wp2
  obtain ⟨w0, hw0⟩ : ∃ w0, w0 = w.alloc (.cells #[.slice none 0 0] 24) := ⟨_, rfl⟩
  have hs0 : w0.heap.size = w.heap.size + 1 := by rw [hw0]; simp
  obtain ⟨W4, hW4⟩ : ∃ W4, W4 = (((w.alloc (.cells #[.slice none 0 0] 24)).alloc (.cells #[.int .i64 V] 3)).alloc (.cells #[.int .i64 m] 3)).alloc (.cells #[.int .i64 k] 3) := ⟨_, rfl⟩
  have bO0 := Boxed.new w 24 (.slice none 0 0)
  have bO : Boxed W4 w.heap.size 24 (.slice none 0 0) := by rw [hW4]; exact ((bO0.alloc _).alloc _).alloc _
  have cV : W4.cell? ⟨w.heap.size + 1, 0, none⟩ = some (.int .i64 V) := by rw [hW4]; simp [go_sem]
  have cN : W4.cell? ⟨w.heap.size + 2, 0, none⟩ = some (.int .i64 m) := by rw [hW4]; simp [go_sem]
  have cK : W4.cell? ⟨w.heap.size + 3, 0, none⟩ = some (.int .i64 k) := by rw [hW4]; simp [go_sem]
  have hsz : W4.heap.size = w.heap.size + 4 := by rw [hW4]; simp
  have hB : Below w.heap.size w W4 := by rw [hW4]; exact ((((Below.refl _ w).alloc (Nat.le_refl _) _).alloc (by simp) _).alloc (by simp; omega) _).alloc (by simp; omega) _
  rw [← hW4]
  refine wpIn_rangeFunc_ownG rfl h1 (gf := 46) (lb := #[.pointer (some ⟨w.heap.size + 1, 0, none⟩), .pointer (some ⟨w.heap.size + 1 + 2, 0, none⟩), .pointer (some ⟨w.heap.size + 1 + 1, 0, none⟩)]) rfl trivial (enters_of Try.func46 (by kernel_rfl) rfl)
    (owned_stops (n - 1) (by omega) (w.heap.size + 1) (w.heap.size + 1 + 2) (w.heap.size + 1 + 1) V m k W4 (by omega) (by omega) (by omega) cV cK cN) Kp3.trans (fun W l o o' h1 h2 h3 h4 => Kp3.of_below (belowK_b (Nat.le_refl _) W l o o' h1 h2 h3 h4) (by omega) (by omega) (by omega)) (Below.refl _ _) (fun _ => rfl)
    (fun pre W => (∃ v, Boxed W w.heap.size 24 v ∧ W.ownsRow W4.heap.size 3 1 v pre.length (pre.map (Value.int .i64)) ∧ True) ∧ (W4.heap.size ≤ W.heap.size ∧ Below w.heap.size w W))
    (fun _ _ _ => False)
    (OwnFrom.and (Own.from (holdsRow_own W4.heap.size w.heap.size 24 3 1 (fun pre : List Int => pre.length) (fun pre => pre.map (Value.int .i64)) (fun pre v => True)) _) (OwnFrom.and (Own.from (fun s A B row hs hg hr => Nat.le_trans hs hg.size) _) (ownFrom_below (by omega) (by omega))))
    (fun _ _ _ _ _ hs _ _ => hs)
    ⟨⟨_, bO, World.ownsRow_nil _ _ _ _, trivial⟩, Nat.le_refl _, hB⟩
    (fun x => { tmps := #[.int .i64 V, .int .i64 m, .int .i64 k, undef, undef, undef, .slice none 0 0, .pointer (some ⟨w.heap.size, 0, none⟩), .int .i64 x, .int .i64 V, .int .i64 m, .int .i64 k, .func (.func 46) #[] #[.pointer (some ⟨w.heap.size + 1, 0, none⟩), .pointer (some ⟨w.heap.size + 1 + 2, 0, none⟩), .pointer (some ⟨w.heap.size + 1 + 1, 0, none⟩)], .int .i64 x, undef, undef, undef, undef, undef], defers := [] }) ?assign ?body ?done ?stop
  case assign =>
    intro l x W K hK
    gi_wp2
    exact hK
  case body =>
    rintro l pre x W ⟨⟨v, hv, hrow, _⟩, hW4s, hB⟩ hlt
    have hc := hv.cell
    gi_wp2_with (gi_at_builtin; refine wpListIn_append_own _ rfl _ _ 24 rfl W4.heap.size 3 i0 (.int .i64 0) 1 8 Try.underlying24 hi hz0 hz1 hz2 rfl (by decide) _ _ _ rfl (hrow.alloc _) ⟨W.heap.size, 0, none⟩ 1 1 [.int .i64 x] rfl rfl (cell_one_new _ _ _) (by simp [Value.oneCell']) (by unfold maxLen; omega) (by omega) (by simp; omega) ?_; intro v' w1 hown' hgrow _; obtain ⟨g', cap', rfl⟩ := ownsRow_succ hown'; obtain ⟨hv1, hv2, hr2, hk2, hb2⟩ := hv.appended (by decide) (own_base hrow (by omega)) hB.size (Nat.le_refl _) (own_base hown' (by omega)) hgrow; have hc1 := hv1.cell; have hf1 := hv1.frozen)
    have hgr : (W.alloc (.cells #[.int .i64 x] 3)).grownBy w1 v.ownBlock := hgrow
    have hkp : Kp3 (w.heap.size + 1) (w.heap.size + 1 + 2) (w.heap.size + 1 + 1) W (w1.setCell ⟨w.heap.size, 0, none⟩ (.slice (some ⟨g', 0, none⟩) (pre.length + 1) cap')) := fun u q hq hu => by
      have hqs : q < W4.heap.size ∧ q ≠ w.heap.size := by omega
      rw [World.cell?_setCell_far _ _ _ _ (by show w.heap.size ≠ q; omega)]
      refine (World.cell?_of_block (hgr.block q (by simp; omega) (fun e => by have := (hrow.lt q e.symm).1; omega))).trans ?_
      exact (World.cell?_alloc_lt W _ ⟨q, 0, none⟩ (by show q < _; omega)).trans hu
    have hr4 : (w1.setCell ⟨w.heap.size, 0, none⟩ (.slice (some ⟨g', 0, none⟩) (pre.length + 1) cap')).ownsRow W4.heap.size 3 1 (.slice (some ⟨g', 0, none⟩) (pre.length + 1) cap') (pre.length + 1) (pre.map (Value.int .i64) ++ [.int .i64 x]) :=
      hown'.kept (grownBy_setCell' w1 w.heap.size _) (.inr (hv1.not_row (by decide) hown').symm)
    exact ⟨hk2.from _, hkp, ⟨_, hv2, by simpa using hr4, trivial⟩, Nat.le_trans hW4s hb2.size, hB.trans hb2⟩
  case done =>
    rintro D ys W hD rfl ⟨⟨v, hv, hrow, _⟩, hW4s, hB⟩ hK
    have hc := hv.cell
    gi_wp2
    refine ⟨by simp, .inl ⟨_, _, rfl, run_takeDeferred hK, ?_⟩⟩
    obtain ⟨A, c, rfl⟩ := own_form hrow
    exact ⟨_, results_tmp rfl _ _ _, A, c, rfl, own_base (ownsRow_putObj hrow _ hK rfl) (by omega), hB.trans (belowK_b (w := w) (Nat.le_refl _) W D _ _ (by omega) hK rfl rfl)⟩
  case stop =>
    rintro D c pre W _ _ h _
    exact h.elim
theorem owned_any (w : World) (V m k : Int) : Calls Try.prog 11 #[.int .i64 V, .int .i64 m, .int .i64 k] w (OwnPost w (ownedF V m k)) :=
  (callsIn_wide (n := 3)).1 (owned_in 3 (by decide) V m k w)
end Go.Proofs.Ytihdpfjonkagaaa
