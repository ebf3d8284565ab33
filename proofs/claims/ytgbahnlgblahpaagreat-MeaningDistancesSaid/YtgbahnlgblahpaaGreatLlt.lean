/- Take and Marks of labels, of the program and of the document. (printed by gen/llt.py) -/
import Derived.Test.YtgbahnlgblahpaaGreatKep
import Derived.Test.YtgbahnlgblahpaaGreatLat
import Derived.Test.YtgbahnlgblahpaaGreatReg
import Derived.Test.YtgbahnlgblahpaaGreatProg
import Derived.Lib.Hide
import Derived.WalkSpells
import Derived.WalkMore
namespace Go.Proofs.YtgbahnlgblahpaaGreat
open Go.RowKit
set_option linter.unusedVariables false
set_option linter.unusedSimpArgs false
def ltakeOf (v : Int) (has : Bool) (x : Int) : Int × Bool := if has = true ∧ x < v then (x, true) else (v, false)
theorem ret_pairl {x y : Int} {a b : Bool} (h : x = y) (g : a = b) : Ending.returned (.tuple #[.int .i64 x, .bool a]) = .returned (.tuple #[.int .i64 y, .bool b]) := by rw [h, g]
set_option maxRecDepth 100000 in
set_option maxHeartbeats 1000000 in
theorem ltake_any (w : World) (v : Int) (has : Bool) (x : Int) : Calls Tryz.prog 157 #[.int .i64 v, .agg #[.bool has, .int .i64 x]] w fun e w' => e = .returned (.tuple #[.int .i64 (ltakeOf v has x).1, .bool (ltakeOf v has x).2]) ∧ Below w.heap.size w w' := by
  obtain ⟨u, hu⟩ : ∃ u, w.alloc (.cells #[.bool has, .int .i64 x] 121) = u := ⟨_, rfl⟩
  have hb : Below w.heap.size w u := by rw [← hu]; exact (Below.refl _ _).alloc (Nat.le_refl _) _
  have cu : u.heap[w.heap.size]? = some (.cells #[.bool has, .int .i64 x] 121) := by rw [← hu]; exact heap_alloc_last w _
  have c0 : u.cell? ⟨w.heap.size, 0, none⟩ = some (.bool has) := cell_of_row _ _ 0 _ _ _ cu
  have c1 : u.cell? ⟨w.heap.size, 1, none⟩ = some (.int .i64 x) := cell_of_row _ _ 1 _ _ _ cu
  have hl : w.heap.size < u.heap.size := lt_of_block cu
  have HB := hide hb
  have HU := hide hu
  clear hb cu hu
  cases has
  · have ht : ltakeOf v false x = (v, false) := by simp [ltakeOf]
    rw [ht]
    go_enter Tryz.func157, Tryz.ntmps157
    go_wp2
    rw [HU.out]
    go_wp2
    all_goals
      refine bodyPost_ret (results_tmp2 rfl _ _ _) rfl ?_
      exact ⟨ret_pairl (by omega) rfl, HB.out⟩
  · have ht : ltakeOf v true x = (min v x, decide (x < v)) := by
      unfold ltakeOf
      by_cases h : x < v
      · rw [if_pos ⟨rfl, h⟩, decide_eq_true h, Int.min_eq_right (by omega)]
      · rw [if_neg (fun g => h g.2), decide_eq_false h, Int.min_eq_left (by omega)]
    rw [ht]
    by_cases hlt : v < x
    · have HM := hide (show min v x = v by omega)
      have hd : decide (x < v) = false := decide_eq_false (by omega)
      go_enter Tryz.func157, Tryz.ntmps157
      go_wp2
      rw [HU.out]
      refine wp_region_held_drew (S := Kept u) (by kernel_rfl) (Kept.drew u) (fun hS0 => ?_)
      refine take_at (i := 0) (d := 10) (v := ?_) (by simp only [List.getElem?_toArray, List.getElem?_cons_succ, List.getElem?_cons_zero]; rfl) rfl (by kernel_rfl) (by kernel_rfl) (by kernel_rfl) (fun _ _ _ h => h) rfl ?_ (by assumption) ?_
      rotate_left
      focus (intro w hSw; go_simp; (try with_reducible rfl); done)
      try simp only [List.setIfInBounds_toArray, List.set_cons_zero, List.set_cons_succ]
      refine take_at (i := 1) (d := 11) (v := ?_) (by simp only [List.getElem?_toArray, List.getElem?_cons_succ, List.getElem?_cons_zero]; rfl) rfl (by kernel_rfl) (by kernel_rfl) (by kernel_rfl) (fun _ _ _ h => h) rfl ?_ (by assumption) ?_
      rotate_left
      focus (intro w hSw; go_simp; (try with_reducible rfl); done)
      try simp only [List.setIfInBounds_toArray, List.set_cons_zero, List.set_cons_succ]
      refine take_at (i := 2) (d := 12) (v := ?_) (by simp only [List.getElem?_toArray, List.getElem?_cons_succ, List.getElem?_cons_zero]; rfl) rfl (by kernel_rfl) (by kernel_rfl) (by kernel_rfl) (fun _ _ _ h => h) rfl ?_ (by assumption) ?_
      rotate_left
      focus (intro w hSw; go_simp; (try with_reducible rfl); done)
      try simp only [List.setIfInBounds_toArray, List.set_cons_zero, List.set_cons_succ]
      refine take_at (i := 3) (d := 13) (v := ?_) (by simp only [List.getElem?_toArray, List.getElem?_cons_succ, List.getElem?_cons_zero]; rfl) rfl (by kernel_rfl) (by kernel_rfl) (by kernel_rfl) (fun _ _ _ h => h) rfl ?_ (by assumption) ?_
      rotate_left
      focus (intro w hSw; go_simp; (try with_reducible rfl); done)
      try simp only [List.setIfInBounds_toArray, List.set_cons_zero, List.set_cons_succ]
      refine take_at (i := 4) (d := 14) (v := ?_) (by simp only [List.getElem?_toArray, List.getElem?_cons_succ, List.getElem?_cons_zero]; rfl) rfl (by kernel_rfl) (by kernel_rfl) (by kernel_rfl) (fun _ _ _ h => h) rfl ?_ (by assumption) ?_
      rotate_left
      focus (intro w hSw; go_simp; (try with_reducible rfl); done)
      try simp only [List.setIfInBounds_toArray, List.set_cons_zero, List.set_cons_succ]
      refine take_at (i := 5) (d := 15) (v := ?_) (by simp only [List.getElem?_toArray, List.getElem?_cons_succ, List.getElem?_cons_zero]; rfl) rfl (by kernel_rfl) (by kernel_rfl) (by kernel_rfl) (fun _ _ _ h => h) rfl ?_ (by assumption) ?_
      rotate_left
      focus (intro w hSw; go_simp; (try with_reducible rfl); done)
      try simp only [List.setIfInBounds_toArray, List.set_cons_zero, List.set_cons_succ]
      refine take_at (i := 6) (d := 16) (v := ?_) (by simp only [List.getElem?_toArray, List.getElem?_cons_succ, List.getElem?_cons_zero]; rfl) rfl (by kernel_rfl) (by kernel_rfl) (by kernel_rfl) (fun _ _ _ h => h) rfl ?_ (by assumption) ?_
      rotate_left
      focus (intro w hSw; go_simp; (try with_reducible rfl); done)
      try simp only [List.setIfInBounds_toArray, List.set_cons_zero, List.set_cons_succ]
      refine take_at (i := 7) (d := 17) (v := ?_) (by simp only [List.getElem?_toArray, List.getElem?_cons_succ, List.getElem?_cons_zero]; rfl) rfl (by kernel_rfl) (by kernel_rfl) (by kernel_rfl) (fun _ _ _ h => h) rfl ?_ (by assumption) ?_
      rotate_left
      focus (intro w hSw; go_simp; (try with_reducible rfl); done)
      try simp only [List.setIfInBounds_toArray, List.set_cons_zero, List.set_cons_succ]
      refine take_at (i := 8) (d := 4) (v := ?_) (by simp only [List.getElem?_toArray, List.getElem?_cons_succ, List.getElem?_cons_zero]; rfl) rfl (by kernel_rfl) (by kernel_rfl) (by kernel_rfl) (fun _ _ _ h => h) rfl ?_ (by assumption) ?_
      rotate_left
      focus (intro w hSw; go_simp; (try with_reducible rfl); done)
      try simp only [List.setIfInBounds_toArray, List.set_cons_zero, List.set_cons_succ]
      refine take_at (i := 9) (d := 5) (v := ?_) (by simp only [List.getElem?_toArray, List.getElem?_cons_succ, List.getElem?_cons_zero]; rfl) rfl (by kernel_rfl) (by kernel_rfl) (by kernel_rfl) (fun _ _ _ h => h) rfl ?_ (by assumption) ?_
      rotate_left
      focus (intro w hSw; go_simp; (try with_reducible rfl); done)
      try simp only [List.setIfInBounds_toArray, List.set_cons_zero, List.set_cons_succ]
      refine wpAnyH_done (by kernel_rfl) ?_ _
      clear hS0
      go_wp2
      all_goals
        refine bodyPost_ret (results_tmp2 rfl _ _ _) rfl ?_
        exact ⟨ret_pairl (by omega) (by first | rfl | (simp; done) | (simp; omega)), HB.out.drew⟩
    · go_enter Tryz.func157, Tryz.ntmps157
      go_wp2
      rw [HU.out]
      refine wp_region_held_drew (S := Kept u) (by kernel_rfl) (Kept.drew u) (fun hS0 => ?_)
      refine take_at (i := 0) (d := 10) (v := ?_) (by simp only [List.getElem?_toArray, List.getElem?_cons_succ, List.getElem?_cons_zero]; rfl) rfl (by kernel_rfl) (by kernel_rfl) (by kernel_rfl) (fun _ _ _ h => h) rfl ?_ (by assumption) ?_
      rotate_left
      focus (intro w hSw; go_simp; (try with_reducible rfl); done)
      try simp only [List.setIfInBounds_toArray, List.set_cons_zero, List.set_cons_succ]
      refine take_at (i := 1) (d := 11) (v := ?_) (by simp only [List.getElem?_toArray, List.getElem?_cons_succ, List.getElem?_cons_zero]; rfl) rfl (by kernel_rfl) (by kernel_rfl) (by kernel_rfl) (fun _ _ _ h => h) rfl ?_ (by assumption) ?_
      rotate_left
      focus (intro w hSw; go_simp; (try with_reducible rfl); done)
      try simp only [List.setIfInBounds_toArray, List.set_cons_zero, List.set_cons_succ]
      refine take_at (i := 2) (d := 12) (v := ?_) (by simp only [List.getElem?_toArray, List.getElem?_cons_succ, List.getElem?_cons_zero]; rfl) rfl (by kernel_rfl) (by kernel_rfl) (by kernel_rfl) (fun _ _ _ h => h) rfl ?_ (by assumption) ?_
      rotate_left
      focus (intro w hSw; go_simp; (try with_reducible rfl); done)
      try simp only [List.setIfInBounds_toArray, List.set_cons_zero, List.set_cons_succ]
      refine take_at (i := 3) (d := 13) (v := ?_) (by simp only [List.getElem?_toArray, List.getElem?_cons_succ, List.getElem?_cons_zero]; rfl) rfl (by kernel_rfl) (by kernel_rfl) (by kernel_rfl) (fun _ _ _ h => h) rfl ?_ (by assumption) ?_
      rotate_left
      focus (intro w hSw; go_simp; (try with_reducible rfl); done)
      try simp only [List.setIfInBounds_toArray, List.set_cons_zero, List.set_cons_succ]
      refine take_at (i := 4) (d := 14) (v := ?_) (by simp only [List.getElem?_toArray, List.getElem?_cons_succ, List.getElem?_cons_zero]; rfl) rfl (by kernel_rfl) (by kernel_rfl) (by kernel_rfl) (fun _ _ _ h => h) rfl ?_ (by assumption) ?_
      rotate_left
      focus (intro w hSw; go_simp; (try with_reducible rfl); done)
      try simp only [List.setIfInBounds_toArray, List.set_cons_zero, List.set_cons_succ]
      refine take_at (i := 5) (d := 15) (v := ?_) (by simp only [List.getElem?_toArray, List.getElem?_cons_succ, List.getElem?_cons_zero]; rfl) rfl (by kernel_rfl) (by kernel_rfl) (by kernel_rfl) (fun _ _ _ h => h) rfl ?_ (by assumption) ?_
      rotate_left
      focus (intro w hSw; go_simp; (try with_reducible rfl); done)
      try simp only [List.setIfInBounds_toArray, List.set_cons_zero, List.set_cons_succ]
      refine take_at (i := 6) (d := 16) (v := ?_) (by simp only [List.getElem?_toArray, List.getElem?_cons_succ, List.getElem?_cons_zero]; rfl) rfl (by kernel_rfl) (by kernel_rfl) (by kernel_rfl) (fun _ _ _ h => h) rfl ?_ (by assumption) ?_
      rotate_left
      focus (intro w hSw; go_simp; (try with_reducible rfl); done)
      try simp only [List.setIfInBounds_toArray, List.set_cons_zero, List.set_cons_succ]
      refine take_at (i := 7) (d := 17) (v := ?_) (by simp only [List.getElem?_toArray, List.getElem?_cons_succ, List.getElem?_cons_zero]; rfl) rfl (by kernel_rfl) (by kernel_rfl) (by kernel_rfl) (fun _ _ _ h => h) rfl ?_ (by assumption) ?_
      rotate_left
      focus (intro w hSw; go_simp; (try with_reducible rfl); done)
      try simp only [List.setIfInBounds_toArray, List.set_cons_zero, List.set_cons_succ]
      refine take_at (i := 8) (d := 4) (v := ?_) (by simp only [List.getElem?_toArray, List.getElem?_cons_succ, List.getElem?_cons_zero]; rfl) rfl (by kernel_rfl) (by kernel_rfl) (by kernel_rfl) (fun _ _ _ h => h) rfl ?_ (by assumption) ?_
      rotate_left
      focus (intro w hSw; go_simp; (try with_reducible rfl); done)
      try simp only [List.setIfInBounds_toArray, List.set_cons_zero, List.set_cons_succ]
      refine take_at (i := 9) (d := 5) (v := ?_) (by simp only [List.getElem?_toArray, List.getElem?_cons_succ, List.getElem?_cons_zero]; rfl) rfl (by kernel_rfl) (by kernel_rfl) (by kernel_rfl) (fun _ _ _ h => h) rfl ?_ (by assumption) ?_
      rotate_left
      focus (intro w hSw; go_simp; (try with_reducible rfl); done)
      try simp only [List.setIfInBounds_toArray, List.set_cons_zero, List.set_cons_succ]
      refine wpAnyH_done (by kernel_rfl) ?_ _
      clear hS0
      go_wp2
      all_goals
        refine bodyPost_ret (results_tmp2 rfl _ _ _) rfl ?_
        exact ⟨ret_pairl (by omega) (by first | rfl | (simp; done) | (simp; omega)), HB.out.drew⟩
set_option maxRecDepth 100000 in
set_option maxHeartbeats 1000000 in
theorem rltake_any (w : World) (v : Int) (has : Bool) (x : Int) : Calls Tryz.prog 101 #[.int .i64 v, .agg #[.bool has, .int .i64 x]] w fun e w' => e = .returned (.tuple #[.int .i64 (ltakeOf v has x).1, .bool (ltakeOf v has x).2]) ∧ Below w.heap.size w w' := by
  have hb : Below w.heap.size w (w.alloc (.cells #[.bool has, .int .i64 x] 121)) := (Below.refl _ _).alloc (Nat.le_refl _) _
  have HB := hide hb
  clear hb
  cases has
  · have ht : ltakeOf v false x = (v, false) := by simp [ltakeOf]
    rw [ht]
    go_enter Tryz.func101, Tryz.ntmps101
    go_wp2
    refine bodyPost_ret (results_tmp2 rfl _ _ _) rfl ?_
    exact ⟨ret_pairl rfl rfl, HB.out⟩
  · by_cases h : x < v
    · have ht : ltakeOf v true x = (x, true) := by simp [ltakeOf, h]
      rw [ht]
      go_enter Tryz.func101, Tryz.ntmps101
      go_wp2
      refine bodyPost_ret (results_tmp2 rfl _ _ _) rfl ?_
      exact ⟨ret_pairl rfl rfl, HB.out⟩
    · have ht : ltakeOf v true x = (v, false) := by simp [ltakeOf, h]
      rw [ht]
      go_enter Tryz.func101, Tryz.ntmps101
      go_wp2
      refine bodyPost_ret (results_tmp2 rfl _ _ _) rfl ?_
      exact ⟨ret_pairl rfl rfl, HB.out⟩
/-- the rest of the labels, so many, from number i on; p: how many parts so far -/
def marksG (vals : List Int) : Nat → Nat → Int → Int × Bool
  | 0, _, p => (p, true)
  | f + 1, i, p => if atI vals (i : Int) < 0 ∨ (i : Int) < atI vals (i : Int) ∨ ¬ atI vals (atI vals (i : Int)) = atI vals (i : Int) then (0, false) else marksG vals f (i + 1) (if atI vals (i : Int) = (i : Int) then p + 1 else p)
def marksF (vals : List Int) : Int × Bool := marksG vals vals.length 0 0
set_option maxRecDepth 100000 in
set_option maxHeartbeats 2000000 in
theorem marks_any (w : World) (A : Option Addr) (vals : List Int) (n c : Nat) (hx : vals.length = n) (hn : n ≤ 1000000) (rx : Rd w w.heap.size A (vals.map (Value.int .i64))) :
    Calls Tryz.prog 17 #[.slice A n c] w fun e w' => e = .returned (.tuple #[.int .i64 (marksF vals).1, .bool (marksF vals).2]) ∧ w' = w := by
  have HX := hide hx
  have RX := hide rx
  have HF : Hid (marksF vals = marksG vals n 0 0) := hide (by rw [marksF, hx])
  clear hx rx
  go_enter Tryz.func17, Tryz.ntmps17
  go_wp2
  go_loop [4, 9] (fun vp vi => ∃ (i : Nat) (p : Int), i ≤ n ∧ 0 ≤ p ∧ p ≤ i ∧ vi = .int .i64 i ∧ vp = .int .i64 p ∧ Hid (marksF vals = marksG vals (n - i) i p)) (fun _ vi => n - (intOf vi).toNat)
  case atStart => exact ⟨0, 0, by omega, by omega, by omega, rfl, rfl, HF⟩
  case round =>
    obtain ⟨i, p, hi, hp0, hp1, rfl, rfl, hm⟩ := hrel
    by_cases hlt : i < n
    · have hi1 : i < vals.length := by rw [HX.out]; exact hlt
      obtain ⟨b, o, rfl, hb, _⟩ := RX.out.at_ (k := i) (by rw [List.length_map]; exact hi1)
      have cx := rd_at RX.out hi1
      have HS : Hid (marksG vals (n - i) i p = if atI vals (i : Int) < 0 ∨ (i : Int) < atI vals (i : Int) ∨ ¬ atI vals (atI vals (i : Int)) = atI vals (i : Int) then (0, false) else marksG vals (n - (i + 1)) (i + 1) (if atI vals (i : Int) = (i : Int) then p + 1 else p)) := hide (by rw [show n - i = (n - (i + 1)) + 1 by omega]; rfl)
      have HC : Hid (∀ k : Nat, k < n → w.cell? ⟨b, o + k, none⟩ = some (.int .i64 (atI vals (k : Int)))) := hide (fun k hk => rd_at RX.out (by rw [HX.out]; exact hk))
      obtain ⟨x, hx⟩ : ∃ x, atI vals (i : Int) = x := ⟨_, rfl⟩
      rw [hx] at cx HS
      have hI0 : (0 : Int) ≤ (i : Int) := by omega
      have hI1 : (i : Int) < (n : Int) := by omega
      clear hx hi1
      by_cases h1 : x < 0
      · have HR : Hid (marksF vals = (0, false)) := hide (by rw [hm.out, HS.out, if_pos (.inl h1)])
        go_wp2
        refine bodyPost_ret (results_tmp2 rfl _ _ _) rfl ?_
        exact ⟨ret_pairl (by rw [HR.out]) (by rw [HR.out]), rfl⟩
      · by_cases h2 : (i : Int) < x
        · have HR : Hid (marksF vals = (0, false)) := hide (by rw [hm.out, HS.out, if_pos (.inr (.inl h2))])
          go_wp2
          refine bodyPost_ret (results_tmp2 rfl _ _ _) rfl ?_
          exact ⟨ret_pairl (by rw [HR.out]) (by rw [HR.out]), rfl⟩
        · obtain ⟨k, rfl⟩ := Int.eq_ofNat_of_zero_le (show 0 ≤ x by omega)
          have cy := HC.out k (by omega)
          obtain ⟨y, hy⟩ : ∃ y, atI vals (k : Int) = y := ⟨_, rfl⟩
          rw [hy] at cy HS
          have hK0 : (0 : Int) ≤ (k : Int) := by omega
          have hK1 : (k : Int) < (n : Int) := by omega
          clear hy
          by_cases h3 : y = (k : Int)
          · subst h3
            by_cases h4 : k = i
            · have HR : Hid (marksF vals = marksG vals (n - (i + 1)) (i + 1) (p + 1)) := hide (by rw [hm.out, HS.out, if_neg (by rintro (h | h | h) <;> omega), if_pos (by omega)])
              subst h4
              go_wp2
              go_round
              case rel => exact ⟨k + 1, p + 1, by omega, by omega, by omega, by go_num, rfl, HR⟩
              case measure => simp [intOf]; omega
            · have HR : Hid (marksF vals = marksG vals (n - (i + 1)) (i + 1) p) := hide (by rw [hm.out, HS.out, if_neg (by rintro (h | h | h) <;> omega), if_neg (by omega)])
              have hne : ((k : Int) == (i : Int)) = false := by simp only [beq_eq_false_iff_ne, ne_eq]; omega
              have hne2 : ¬ (k : Int) = (i : Int) := by omega
              go_wp2
              go_round
              case rel => exact ⟨i + 1, p, by omega, by omega, by omega, by go_num, rfl, HR⟩
              case measure => simp [intOf]; omega
          · have HR : Hid (marksF vals = (0, false)) := hide (by rw [hm.out, HS.out, if_pos (.inr (.inr h3))])
            have hne : (y != (k : Int)) = true := by simp only [bne_iff_ne, ne_eq]; exact h3
            go_wp2
            refine bodyPost_ret (results_tmp2 rfl _ _ _) rfl ?_
            exact ⟨ret_pairl (by rw [HR.out]) (by rw [HR.out]), rfl⟩
    · obtain rfl : i = n := by omega
      have HR : Hid (marksF vals = (p, true)) := hide (by rw [hm.out, Nat.sub_self]; rfl)
      go_wp2
      refine bodyPost_ret (results_tmp2 rfl _ _ _) rfl ?_
      exact ⟨ret_pairl (by rw [HR.out]) (by rw [HR.out]), rfl⟩
end Go.Proofs.YtgbahnlgblahpaaGreat
