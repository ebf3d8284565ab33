/- SortStableFunc of two messages in order: nothing changes. (printed by gen/sso.py) -/
import Derived.Test.YtihlhkbdgbkafaaGreatMsg
import Derived.Test.YtihlhkbdgbkafaaGreatGfc
import Derived.Test.YtihlhkbdgbkafaaGreatAst
import Derived.Deep.DeepCutAuto
import Derived.Lib.Hide
import Derived.WalkSpells
import Derived.WalkMore
import Derived.IntWalk
namespace Go.Proofs.YtihlhkbdgbkafaaGreat
open Go.RowKit
set_option linter.unusedVariables false
set_option linter.unusedSimpArgs false
set_option maxRecDepth 100000 in
set_option maxHeartbeats 4000000 in
theorem send1_any (w : World) (a1 a2 b1 b2 : Int) : Calls Tryz.prog 45 #[.agg #[.int .i64 a1, .int .i64 a2], .agg #[.int .i64 b1, .int .i64 b2]] w fun e w' => e = .returned (.int .i64 (cmpOf a1 b1)) ∧ Below w.heap.size w w' := by
  obtain ⟨u, hu⟩ : ∃ u, (w.alloc (.cells #[.int .i64 a1, .int .i64 a2] 60)).alloc (.cells #[.int .i64 b1, .int .i64 b2] 60) = u := ⟨_, rfl⟩
  have hbu := hide (show Below w.heap.size w u by rw [← hu]; exact ((Below.refl _ _).alloc (Nat.le_refl _) _).alloc (by simp) _)
  have M0 : u.heap[w.heap.size]? = some (.cells #[.int .i64 a1, .int .i64 a2] 60) := by rw [← hu]; exact (Below.heap_alloc _ _ _ (by simp)).trans (heap_alloc_last w _)
  have M1 : u.heap[w.heap.size + 1]? = some (.cells #[.int .i64 b1, .int .i64 b2] 60) := by
    rw [← hu]
    have := heap_alloc_last (w.alloc (.cells #[.int .i64 a1, .int .i64 a2] 60)) (.cells #[.int .i64 b1, .int .i64 b2] 60)
    rw [World.size_alloc] at this
    exact this
  have HU := hide hu
  clear hu
  have c0 : u.cell? ⟨w.heap.size, 0, none⟩ = some (.int .i64 a1) := cell_of_row _ _ 0 _ _ _ M0
  have c1 : u.cell? ⟨w.heap.size + 1, 0, none⟩ = some (.int .i64 b1) := cell_of_row _ _ 0 _ _ _ M1
  clear M0 M1
  go_enter Tryz.func45, Tryz.ntmps45
  go_wp2_with fail
  rw [HU.out]
  go_wp2_with fail
  refine (compare_any _ a1 b1).mono ?_
  rintro e w1 ⟨rfl, rfl⟩
  go_wp2
  go_ret
  exact ⟨rfl, hbu.out⟩
set_option maxRecDepth 100000 in
set_option maxHeartbeats 4000000 in
theorem ins2_any (w : World) (A : Option Addr) (c : Nat) (x0 y0 x1 y1 : Int) (h : Mss w w.heap.size A [(x0, y0), (x1, y1)]) (hxy : x0 < x1) :
    Calls Tryz.prog 62 #[.slice A 2 c, .int .i64 0, .int .i64 2, .func (.func 45) #[] #[]] w fun e w' => e = .returned (.tuple #[]) ∧ Below w.heap.size w w' := by
  obtain ⟨b, off, rfl, hb, p0, p1⟩ := h.get (i := 0) rfl
  obtain ⟨b', off', e, _, q0, q1⟩ := h.get (i := 1) rfl
  obtain ⟨rfl, rfl⟩ : b' = b ∧ off' = off := by simpa using e.symm
  have HCM := hide (show cmpOf x1 x0 = 1 by unfold cmpOf; rw [if_neg (by omega), if_pos hxy])
  clear e h hxy
  dsimp only at p0 p1 q0 q1
  rw [Nat.zero_mul, Nat.add_zero] at p0 p1
  rw [Nat.one_mul] at q0 q1
  have PP := hide (And.intro p0 (And.intro p1 (And.intro q0 q1)))
  clear p0 p1 q0 q1
  go_enter Tryz.func62, Tryz.ntmps62
  go_wp2
  go_loopw [8] (fun v8 wr => (v8 = .int .i64 1 ∨ v8 = .int .i64 2) ∧ Hid (Below w.heap.size w wr)) (fun v8 _ => 2 - (intOf v8).toNat)
  case atStart => exact ⟨.inl rfl, hide (Below.refl _ _)⟩
  case round =>
    obtain ⟨hv, HB⟩ := hrel
    rcases hv with rfl | rfl
    · go_wp2
      go_loopw [9] (fun v9 wr => v9 = .int .i64 1 ∧ Hid (Below w.heap.size w wr)) (fun _ _ => 0)
      case atStart => exact ⟨rfl, HB⟩
      case round =>
        clear HB
        obtain ⟨rfl, HB⟩ := hrel
        obtain ⟨p0, p1, q0, q1⟩ := PP.out
        have p0 := (HB.out.cell (p := ⟨b', off', none⟩) hb).trans p0
        have p1 := (HB.out.cell (p := ⟨b', off' + 1, none⟩) hb).trans p1
        have q0 := (HB.out.cell (p := ⟨b', off' + 1 * 2, none⟩) hb).trans q0
        have q1 := (HB.out.cell (p := ⟨b', off' + 1 * 2 + 1, none⟩) hb).trans q1
        have hl : b' < wr.heap.size := by have := HB.out.size; omega
        have hsz := HB.out.size
        simp only [Nat.one_mul] at q0 q1
        have e0 : IntKind.i64.wrap 0 = 0 := by decide
        go_wp2
        refine wp_region_held_drew (S := Kept wr) (by kernel_rfl) (Kept.drew wr) (fun hS0 => ?_)
        refine take_at (i := 0) (d := 18) (v := ?_) (by simp only [List.getElem?_toArray, List.getElem?_cons_succ, List.getElem?_cons_zero]; rfl) rfl (by kernel_rfl) (by kernel_rfl) (by kernel_rfl) (fun _ _ _ h => h) rfl ?_ (by assumption) ?_
        rotate_left
        focus (intro w hSw; go_simp; (try with_reducible rfl); done)
        try simp only [List.setIfInBounds_toArray, List.set_cons_zero, List.set_cons_succ]
        refine take_at (i := 1) (d := 19) (v := ?_) (by simp only [List.getElem?_toArray, List.getElem?_cons_succ, List.getElem?_cons_zero]; rfl) rfl (by kernel_rfl) (by kernel_rfl) (by kernel_rfl) (fun _ _ _ h => h) rfl ?_ (by assumption) ?_
        rotate_left
        focus (intro w hSw; go_simp; (try with_reducible rfl); done)
        try simp only [List.setIfInBounds_toArray, List.set_cons_zero, List.set_cons_succ]
        refine take_at (i := 2) (d := 20) (v := ?_) (by simp only [List.getElem?_toArray, List.getElem?_cons_succ, List.getElem?_cons_zero]; rfl) rfl (by kernel_rfl) (by kernel_rfl) (by kernel_rfl) (fun _ _ _ h => h) rfl ?_ (by assumption) ?_
        rotate_left
        focus (intro w hSw; go_simp; (try with_reducible rfl); done)
        try simp only [List.setIfInBounds_toArray, List.set_cons_zero, List.set_cons_succ]
        refine take_at (i := 3) (d := 21) (v := ?_) (by simp only [List.getElem?_toArray, List.getElem?_cons_succ, List.getElem?_cons_zero]; rfl) rfl (by kernel_rfl) (by kernel_rfl) (by kernel_rfl) (fun _ _ _ h => h) rfl ?_ (by assumption) ?_
        rotate_left
        focus (intro w hSw; go_simp; (try with_reducible rfl); done)
        try simp only [List.setIfInBounds_toArray, List.set_cons_zero, List.set_cons_succ]
        refine take_at (i := 4) (d := 22) (v := ?_) (by simp only [List.getElem?_toArray, List.getElem?_cons_succ, List.getElem?_cons_zero]; rfl) rfl (by kernel_rfl) (by kernel_rfl) (by kernel_rfl) (fun _ _ _ h => h) rfl ?_ (by assumption) ?_
        rotate_left
        focus (intro w hSw; go_simp; (try with_reducible rfl); done)
        try simp only [List.setIfInBounds_toArray, List.set_cons_zero, List.set_cons_succ]
        refine take_at (i := 5) (d := 23) (v := ?_) (by simp only [List.getElem?_toArray, List.getElem?_cons_succ, List.getElem?_cons_zero]; rfl) rfl (by kernel_rfl) (by kernel_rfl) (by kernel_rfl) (fun _ _ _ h => h) rfl ?_ (by assumption) ?_
        rotate_left
        focus (intro w hSw; go_simp; (try with_reducible rfl); done)
        try simp only [List.setIfInBounds_toArray, List.set_cons_zero, List.set_cons_succ]
        refine take_at (i := 6) (d := 24) (v := ?_) (by simp only [List.getElem?_toArray, List.getElem?_cons_succ, List.getElem?_cons_zero]; rfl) rfl (by kernel_rfl) (by kernel_rfl) (by kernel_rfl) (fun _ _ _ h => h) rfl ?_ (by assumption) ?_
        rotate_left
        focus (intro w hSw; go_simp; (try with_reducible rfl); done)
        try simp only [List.setIfInBounds_toArray, List.set_cons_zero, List.set_cons_succ]
        refine take_at (i := 7) (d := 25) (v := ?_) (by simp only [List.getElem?_toArray, List.getElem?_cons_succ, List.getElem?_cons_zero]; rfl) rfl (by kernel_rfl) (by kernel_rfl) (by kernel_rfl) (fun _ _ _ h => h) rfl ?_ (by assumption) ?_
        rotate_left
        focus (intro w hSw; go_simp; (try with_reducible rfl); done)
        try simp only [List.setIfInBounds_toArray, List.set_cons_zero, List.set_cons_succ]
        refine take_at (i := 8) (d := 26) (v := ?_) (by simp only [List.getElem?_toArray, List.getElem?_cons_succ, List.getElem?_cons_zero]; rfl) rfl (by kernel_rfl) (by kernel_rfl) (by kernel_rfl) (fun _ _ _ h => h) rfl ?_ (by assumption) ?_
        rotate_left
        focus (intro w hSw; go_simp; (try with_reducible rfl); done)
        try simp only [List.setIfInBounds_toArray, List.set_cons_zero, List.set_cons_succ]
        refine take_at (i := 9) (d := 27) (v := ?_) (by simp only [List.getElem?_toArray, List.getElem?_cons_succ, List.getElem?_cons_zero]; rfl) rfl (by kernel_rfl) (by kernel_rfl) (by kernel_rfl) (fun _ _ _ h => h) rfl ?_ (by assumption) ?_
        rotate_left
        focus (intro w hSw; go_simp; (try with_reducible rfl); done)
        try simp only [List.setIfInBounds_toArray, List.set_cons_zero, List.set_cons_succ]
        refine take_at (i := 10) (d := 28) (v := ?_) (by simp only [List.getElem?_toArray, List.getElem?_cons_succ, List.getElem?_cons_zero]; rfl) rfl (by kernel_rfl) (by kernel_rfl) (by kernel_rfl) (fun _ _ _ h => h) rfl ?_ (by assumption) ?_
        rotate_left
        focus (intro w hSw; go_simp; (try with_reducible rfl); done)
        try simp only [List.setIfInBounds_toArray, List.set_cons_zero, List.set_cons_succ]
        refine take_at (i := 11) (d := 29) (v := ?_) (by simp only [List.getElem?_toArray, List.getElem?_cons_succ, List.getElem?_cons_zero]; rfl) rfl (by kernel_rfl) (by kernel_rfl) (by kernel_rfl) (fun _ _ _ h => h) rfl ?_ (by assumption) ?_
        rotate_left
        focus (intro w hSw; go_simp; (try with_reducible rfl); done)
        try simp only [List.setIfInBounds_toArray, List.set_cons_zero, List.set_cons_succ]
        refine take_at (i := 12) (d := 30) (v := ?_) (by simp only [List.getElem?_toArray, List.getElem?_cons_succ, List.getElem?_cons_zero]; rfl) rfl (by kernel_rfl) (by kernel_rfl) (by kernel_rfl) (fun _ _ _ h => h) rfl ?_ (by assumption) ?_
        rotate_left
        focus (intro w hSw; go_simp; (try with_reducible rfl); done)
        try simp only [List.setIfInBounds_toArray, List.set_cons_zero, List.set_cons_succ]
        refine take_at (i := 13) (d := 31) (v := ?_) (by simp only [List.getElem?_toArray, List.getElem?_cons_succ, List.getElem?_cons_zero]; rfl) rfl (by kernel_rfl) (by kernel_rfl) (by kernel_rfl) (fun _ _ _ h => h) rfl ?_ (by assumption) ?_
        rotate_left
        focus (intro w hSw; go_simp; (try with_reducible rfl); done)
        try simp only [List.setIfInBounds_toArray, List.set_cons_zero, List.set_cons_succ]
        refine call_at (i := 14) (d := 32) (by simp only [List.getElem?_toArray, List.getElem?_cons_succ, List.getElem?_cons_zero]; rfl) rfl (by kernel_rfl) rfl (fun K hK => ?_)
        go_simp
        refine (send1_any _ x1 y1 x0 y0).mono ?_
        rintro e z1 ⟨rfl, hz⟩
        have hS1 : Kept wr z1 := hS0.below (by simp) hz
        have HZ := hide hz
        clear hz
        rw [HCM.out]
        go_wp2_with fail
        refine hK.out _ _ hS1 (fun hSn => ?_)
        clear hK K
        try simp only [List.setIfInBounds_toArray, List.set_cons_zero, List.set_cons_succ]
        refine take_at (i := 15) (d := 33) (v := ?_) (by simp only [List.getElem?_toArray, List.getElem?_cons_succ, List.getElem?_cons_zero]; rfl) rfl (by kernel_rfl) (by kernel_rfl) (by kernel_rfl) (fun _ _ _ h => h) rfl ?_ (by assumption) ?_
        rotate_left
        focus (intro w hSw; go_simp; (try with_reducible rfl); done)
        try simp only [List.setIfInBounds_toArray, List.set_cons_zero, List.set_cons_succ]
        refine take_at (i := 16) (d := 34) (v := ?_) (by simp only [List.getElem?_toArray, List.getElem?_cons_succ, List.getElem?_cons_zero]; rfl) rfl (by kernel_rfl) (by kernel_rfl) (by kernel_rfl) (fun _ _ _ h => h) rfl ?_ (by assumption) ?_
        rotate_left
        focus (intro w hSw; go_simp; (try with_reducible rfl); done)
        try simp only [List.setIfInBounds_toArray, List.set_cons_zero, List.set_cons_succ]
        refine wpAnyH_done (by kernel_rfl) ?_ _
        clear hS0 hSn hS1 p0 p1 q0 q1
        have HB2 : Hid (Below w.heap.size w z1) := hide ((HB.out.drew).trans (HZ.out.mono hsz))
        go_wp2
        go_roundw
        all_goals first | exact ⟨.inr rfl, HB2⟩ | (simp [intOf]; try omega)
    · go_wp2
      go_end0
      exact ⟨rfl, HB.out⟩
set_option maxRecDepth 100000 in
set_option maxHeartbeats 4000000 in
theorem stb2_any (w : World) (A : Option Addr) (c : Nat) (x0 y0 x1 y1 : Int) (h : Mss w w.heap.size A [(x0, y0), (x1, y1)]) (hxy : x0 < x1) :
    Calls Tryz.prog 58 #[.slice A 2 c, .int .i64 2, .func (.func 45) #[] #[]] w fun e w' => e = .returned (.tuple #[]) ∧ Below w.heap.size w w' := by
  go_enter Tryz.func58, Tryz.ntmps58
  go_wp2
  go_loopw [7, 8] (fun v7 v8 wr => v7 = .int .i64 0 ∧ v8 = .int .i64 20 ∧ wr = w) (fun _ _ _ => 0)
  case atStart => exact ⟨rfl, rfl, rfl⟩
  case round =>
    obtain ⟨rfl, rfl, rfl⟩ := hrel
    go_wp2_with fail
    refine (ins2_any _ A c x0 y0 x1 y1 h hxy).mono ?_
    rintro e w1 ⟨rfl, hb⟩
    have HB := hide hb
    clear hb
    go_wp2
    go_loopw [6] (fun v6 w2 => v6 = .int .i64 20 ∧ w2 = w1) (fun _ _ => 0)
    case atStart => exact ⟨rfl, rfl⟩
    case round =>
      obtain ⟨rfl, e⟩ := hrel
      go_wp2
      go_end0
      exact ⟨rfl, e ▸ HB.out⟩
set_option maxRecDepth 100000 in
set_option maxHeartbeats 4000000 in
theorem sort2_any (w : World) (A : Option Addr) (c : Nat) (x0 y0 x1 y1 : Int) (h : Mss w w.heap.size A [(x0, y0), (x1, y1)]) (hxy : x0 < x1) :
    Calls Tryz.prog 44 #[.slice A 2 c, .func (.func 45) #[] #[]] w fun e w' => e = .returned (.tuple #[]) ∧ Below w.heap.size w w' := by
  go_enter Tryz.func44, Tryz.ntmps44
  go_wp2_with fail
  refine (stb2_any _ A c x0 y0 x1 y1 h hxy).mono ?_
  rintro e w1 ⟨rfl, hb⟩
  have HB := hide hb
  clear hb
  go_wp2
  go_end0
  exact ⟨rfl, HB.out⟩
end Go.Proofs.YtihlhkbdgbkafaaGreat
