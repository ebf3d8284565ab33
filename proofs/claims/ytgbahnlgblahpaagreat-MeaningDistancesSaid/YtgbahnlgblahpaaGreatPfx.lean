/- Distances: Add, Give, Start, Take, of the program and of the document; cmp.Compare; an edge that fits. -/
import Derived.Test.YtgbahnlgblahpaaGreatProg
import Derived.Test.YtgbahnlgblahpaaGreatMem
import Derived.Test.YtgbahnlgblahpaaGreatGfc
import Derived.Lib.Hide
import Derived.WalkSpells
import Derived.WalkMore
import Derived.Deep.RegionHeld3
namespace Go.Proofs.YtgbahnlgblahpaaGreat
open Go.RowKit
set_option linter.unusedVariables false
set_option linter.unusedSimpArgs false

def dist (a : Int) : Int := if a < 0 then 0 else if a > 4611686018427387904 then 4611686018427387904 else a
theorem dist_bounds (a : Int) : 0 ≤ dist a ∧ dist a ≤ 4611686018427387904 := by unfold dist; split <;> (try split) <;> omega
def dadd (a b : Int) : Int := if dist a + dist b > 4611686018427387904 then 4611686018427387904 else dist a + dist b
theorem dist_minmax (a : Int) : min (max a 0) 4611686018427387904 = dist a := by unfold dist; split <;> (try split) <;> omega
theorem dadd_min (a b : Int) : min (dist a + dist b) 4611686018427387904 = dadd a b := by unfold dadd; split <;> omega

set_option maxRecDepth 100000 in
set_option maxHeartbeats 1000000 in
theorem distance_any (w : World) (a : Int) (h1 : -9223372036854775808 ≤ a) (h2 : a ≤ 9223372036854775807) : Calls Tryz.prog 73 #[.int .i64 a] w fun e w' => e = .returned (.int .i64 (dist a)) ∧ w' = w := by
  go_enter Tryz.func73, Tryz.ntmps73
  go_wp2
  all_goals
    go_ret
    exact ⟨ret_i64 (by unfold dist; (try split at *) <;> (repeat' split) <;> omega), rfl⟩
set_option maxRecDepth 100000 in
set_option maxHeartbeats 1000000 in
theorem add_any (w : World) (a b : Int) (h1 : -9223372036854775808 ≤ a) (h2 : a ≤ 9223372036854775807) (h3 : -9223372036854775808 ≤ b) (h4 : b ≤ 9223372036854775807) : Calls Tryz.prog 57 #[.int .i64 a, .int .i64 b] w fun e w' => e = .returned (.int .i64 (dadd a b)) ∧ w' = w := by
  have ba := dist_bounds a
  have bb := dist_bounds b
  go_enter Tryz.func57, Tryz.ntmps57
  go_wp2_with fail
  refine (distance_any _ a h1 h2).mono ?_
  rintro e w1 ⟨rfl, rfl⟩
  go_wp2_with fail
  refine (distance_any _ b h3 h4).mono ?_
  rintro e w1 ⟨rfl, rfl⟩
  have hm := dadd_min a b
  obtain ⟨x, hx⟩ : ∃ x, dist a = x := ⟨_, rfl⟩
  obtain ⟨y, hy⟩ : ∃ y, dist b = y := ⟨_, rfl⟩
  rw [hx] at ba hm ⊢
  rw [hy] at bb hm ⊢
  have HM := hide hm
  clear hm hx hy
  go_wp2
  all_goals
    go_ret
    exact ⟨ret_i64 (by rw [← HM.out]; omega), rfl⟩
set_option maxRecDepth 100000 in
set_option maxHeartbeats 1000000 in
theorem rdist_any (w : World) (a : Int) : Calls Tryz.prog 59 #[.int .i64 a] w fun e w' => e = .returned (.int .i64 (dist a)) ∧ w' = w := by
  go_enter Tryz.func59, Tryz.ntmps59
  go_wp2
  all_goals
    go_ret
    exact ⟨ret_i64 (by unfold dist; (repeat' split) <;> omega), rfl⟩
set_option maxRecDepth 100000 in
set_option maxHeartbeats 1000000 in
theorem radd_any (w : World) (a b : Int) : Calls Tryz.prog 41 #[.int .i64 a, .int .i64 b] w fun e w' => e = .returned (.int .i64 (dadd a b)) ∧ w' = w := by
  have ba := dist_bounds a
  have bb := dist_bounds b
  go_enter Tryz.func41, Tryz.ntmps41
  go_wp2_with fail
  refine (rdist_any _ a).mono ?_
  rintro e w1 ⟨rfl, rfl⟩
  go_wp2_with fail
  refine (rdist_any _ b).mono ?_
  rintro e w1 ⟨rfl, rfl⟩
  have hd : dadd a b = if dist a + dist b > 4611686018427387904 then 4611686018427387904 else dist a + dist b := rfl
  obtain ⟨x, hx⟩ : ∃ x, dist a = x := ⟨_, rfl⟩
  obtain ⟨y, hy⟩ : ∃ y, dist b = y := ⟨_, rfl⟩
  rw [hx, hy] at hd
  rw [hx] at ba ⊢
  rw [hy] at bb ⊢
  have HD := hide hd
  clear hd hx hy
  have w1' : IntKind.i64.wrap (4611686018427387904 - y) = 4611686018427387904 - y := IntWalk.i64_in _ (by omega)
  have w2' : x + y ≤ 4611686018427387904 → IntKind.i64.wrap (x + y) = x + y := fun h => IntWalk.i64_in _ (by omega)
  by_cases h : 4611686018427387904 - y < x
  · go_wp2
    go_ret
    exact ⟨ret_i64 (by rw [HD.out, if_pos (by omega)]), rfl⟩
  · have w2'' := w2' (by omega)
    go_wp2
    go_ret
    exact ⟨ret_i64 (by rw [HD.out, if_neg (by omega)]), rfl⟩

set_option maxRecDepth 100000 in
set_option maxHeartbeats 1000000 in
theorem give_any (w : World) (v f t x : Int) (h1 : -9223372036854775808 ≤ v) (h2 : v ≤ 9223372036854775807) (h3 : -9223372036854775808 ≤ x) (h4 : x ≤ 9223372036854775807) : Calls Tryz.prog 38 #[.int .i64 v, .agg #[.int .i64 f, .int .i64 t, .int .i64 x]] w fun e w' => e = .returned (.int .i64 (dadd v x)) ∧ Below w.heap.size w w' := by
  have hb : Below w.heap.size w (w.alloc (.cells #[.int .i64 f, .int .i64 t, .int .i64 x] 46)) := (Below.refl _ _).alloc (Nat.le_refl _) _
  go_enter Tryz.func38, Tryz.ntmps38
  go_wp2_with fail
  refine (add_any _ v x h1 h2 h3 h4).mono ?_
  rintro e w1 ⟨rfl, rfl⟩
  go_wp2
  go_ret
  exact ⟨rfl, hb⟩
set_option maxRecDepth 100000 in
set_option maxHeartbeats 1000000 in
theorem rgive_any (w : World) (v f t x : Int) : Calls Tryz.prog 108 #[.int .i64 v, .agg #[.int .i64 f, .int .i64 t, .int .i64 x]] w fun e w' => e = .returned (.int .i64 (dadd v x)) ∧ Below w.heap.size w w' := by
  have hb : Below w.heap.size w (w.alloc (.cells #[.int .i64 f, .int .i64 t, .int .i64 x] 46)) := (Below.refl _ _).alloc (Nat.le_refl _) _
  go_enter Tryz.func108, Tryz.ntmps108
  go_wp2_with fail
  refine (radd_any _ v x).mono ?_
  rintro e w1 ⟨rfl, rfl⟩
  go_wp2
  go_ret
  exact ⟨rfl, hb⟩
def startOf (v s : Int) : Int := if v = s then 0 else 4611686018427387904
set_option maxRecDepth 100000 in
set_option maxHeartbeats 1000000 in
theorem start_any (w : World) (v s : Int) : Calls Tryz.prog 34 #[.int .i64 v, .int .i64 s] w fun e w' => e = .returned (.int .i64 (startOf v s)) ∧ w' = w := by
  by_cases h : v = s
  · subst h
    go_enter Tryz.func34, Tryz.ntmps34
    go_wp2
    go_ret
    exact ⟨by rw [startOf, if_pos rfl]; rfl, rfl⟩
  · go_enter Tryz.func34, Tryz.ntmps34
    go_wp2
    go_ret
    exact ⟨by rw [startOf, if_neg h]; rfl, rfl⟩
set_option maxRecDepth 100000 in
set_option maxHeartbeats 1000000 in
theorem rstart_any (w : World) (v s : Int) : Calls Tryz.prog 94 #[.int .i64 v, .int .i64 s] w fun e w' => e = .returned (.int .i64 (startOf v s)) ∧ w' = w := by
  by_cases h : v = s
  · subst h
    go_enter Tryz.func94, Tryz.ntmps94
    go_wp2
    go_ret
    exact ⟨by rw [startOf, if_pos rfl]; rfl, rfl⟩
  · go_enter Tryz.func94, Tryz.ntmps94
    go_wp2
    go_ret
    exact ⟨by rw [startOf, if_neg h]; rfl, rfl⟩
def takeOf (v : Int) (has : Bool) (x : Int) : Int × Bool := if has = true ∧ max x 0 < v then (max x 0, true) else (v, false)
theorem ret_pair {x y : Int} {a b : Bool} (h : x = y) (g : a = b) : Ending.returned (.tuple #[.int .i64 x, .bool a]) = .returned (.tuple #[.int .i64 y, .bool b]) := by rw [h, g]
set_option maxRecDepth 100000 in
set_option maxHeartbeats 1000000 in
theorem take_any (w : World) (v : Int) (has : Bool) (x : Int) : Calls Tryz.prog 186 #[.int .i64 v, .agg #[.bool has, .int .i64 x]] w fun e w' => e = .returned (.tuple #[.int .i64 (takeOf v has x).1, .bool (takeOf v has x).2]) ∧ Below w.heap.size w w' := by
  have hb : Below w.heap.size w (w.alloc (.cells #[.bool has, .int .i64 x] 121)) := (Below.refl _ _).alloc (Nat.le_refl _) _
  have HB := hide hb
  clear hb
  cases has
  · have ht : takeOf v false x = (v, false) := by simp [takeOf]
    rw [ht]
    go_enter Tryz.func186, Tryz.ntmps186
    go_wp2
    all_goals
      refine bodyPost_ret (results_tmp2 rfl _ _ _) rfl ?_
      exact ⟨ret_pair (by omega) rfl, HB.out⟩
  · by_cases h : max x 0 < v
    · have ht : takeOf v true x = (max x 0, true) := by simp [takeOf, h]
      rw [ht]
      go_enter Tryz.func186, Tryz.ntmps186
      go_wp2
      all_goals
        refine bodyPost_ret (results_tmp2 rfl _ _ _) rfl ?_
        first | exact ⟨ret_pair (by omega) rfl, HB.out⟩ | (exfalso; omega)
    · have ht : takeOf v true x = (v, false) := by simp [takeOf, h]
      rw [ht]
      go_enter Tryz.func186, Tryz.ntmps186
      go_wp2
      all_goals
        refine bodyPost_ret (results_tmp2 rfl _ _ _) rfl ?_
        first | exact ⟨ret_pair (by omega) rfl, HB.out⟩ | (exfalso; omega)
set_option maxRecDepth 100000 in
set_option maxHeartbeats 1000000 in
theorem rtake_any (w : World) (v : Int) (has : Bool) (x : Int) : Calls Tryz.prog 102 #[.int .i64 v, .agg #[.bool has, .int .i64 x]] w fun e w' => e = .returned (.tuple #[.int .i64 (takeOf v has x).1, .bool (takeOf v has x).2]) ∧ Below w.heap.size w w' := by
  have hb : Below w.heap.size w (w.alloc (.cells #[.bool has, .int .i64 x] 121)) := (Below.refl _ _).alloc (Nat.le_refl _) _
  have HB := hide hb
  clear hb
  cases has
  · have ht : takeOf v false x = (v, false) := by simp [takeOf]
    rw [ht]
    go_enter Tryz.func102, Tryz.ntmps102
    go_wp2
    all_goals
      refine bodyPost_ret (results_tmp2 rfl _ _ _) rfl ?_
      exact ⟨ret_pair (by omega) rfl, HB.out⟩
  · by_cases h : max x 0 < v
    · have ht : takeOf v true x = (max x 0, true) := by simp [takeOf, h]
      rw [ht]
      go_enter Tryz.func102, Tryz.ntmps102
      go_wp2
      all_goals
        refine bodyPost_ret (results_tmp2 rfl _ _ _) rfl ?_
        first | exact ⟨ret_pair (by omega) rfl, HB.out⟩ | (exfalso; omega)
    · have ht : takeOf v true x = (v, false) := by simp [takeOf, h]
      rw [ht]
      go_enter Tryz.func102, Tryz.ntmps102
      go_wp2
      all_goals
        refine bodyPost_ret (results_tmp2 rfl _ _ _) rfl ?_
        first | exact ⟨ret_pair (by omega) rfl, HB.out⟩ | (exfalso; omega)
end Go.Proofs.YtgbahnlgblahpaaGreat
