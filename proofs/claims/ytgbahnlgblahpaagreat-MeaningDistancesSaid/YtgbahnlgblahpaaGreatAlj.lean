/- Which programs share. A job's program: of, shares, Combine, Join. shares. (printed by gen/als.py) Join of totals. (printed by gen/alj.py) -/
import Derived.Test.YtgbahnlgblahpaaGreatPfx
import Derived.Handy
import Derived.Test.YtgbahnlgblahpaaGreatReg
import Derived.Test.YtgbahnlgblahpaaGreatKep
import Derived.Test.YtgbahnlgblahpaaGreatRg2
import Derived.Deep.DeepCutAuto
import Derived.Deep.CutBlock
import Derived.Lib.Hide
namespace Go.Proofs.YtgbahnlgblahpaaGreat
open Go.RowKit
set_option linter.unusedVariables false
set_option linter.unusedSimpArgs false
theorem missing_one {want : Array (String × TypeId)} {got : Array Method} {x : String} (h : (want.toList.filter fun (name, sig) => !got.any fun m => m.name == name && m.sig == sig).map (·.1) = [x]) : ∃ m, Instr.missingMethod want got = some m := by
  unfold Instr.missingMethod
  rw [h]
  cases hc : x.contains '.' <;> simp [List.partition, List.partition.loop, hc, Instr.least]
theorem sharer_ranks (w : World) : (Instr.typeAssert (.iface 83 (.agg #[])) 57 123 true).run Tryz.prog w = .ok (.tuple #[.iface 83 (.agg #[]), .bool true]) w := by kernel_rfl
theorem sharer_nil (w : World) : (Instr.typeAssert .nilIface 57 123 true).run Tryz.prog w = .ok (.tuple #[.nilIface, .bool false]) w := by kernel_rfl
set_option maxRecDepth 100000 in
theorem sharer_labels (w : World) : (Instr.typeAssert (.iface 86 (.agg #[])) 57 123 true).run Tryz.prog w = .ok (.tuple #[.nilIface, .bool false]) w := by
  obtain ⟨inf, hi⟩ : ∃ inf, Tryz.prog.info? 86 = some inf := Option.isSome_iff_exists.1 (by kernel_rfl)
  have hm : inf.methods = ((Tryz.prog.info? 86).map (·.methods)).getD #[] := by rw [hi]; rfl
  obtain ⟨z, hz, hzz⟩ : ∃ z, Tryz.prog.info? 123 = some z ∧ z.zero = some .nilIface := by
    have h : (Tryz.prog.info? 123).map (·.zero) = some (some .nilIface) := by kernel_rfl
    obtain ⟨z, hz, h2⟩ := Option.map_eq_some_iff.1 h
    exact ⟨z, hz, h2⟩
  obtain ⟨m, hmm⟩ := missing_one (want := (match Tryz.prog.underlying 123 with | some (.interface x) => x | _ => #[])) (got := inf.methods) (x := "treadwheel/algos.share") (by rw [hm]; kernel_rfl)
  rw [Tryz.underlying123] at hmm
  dsimp only at hmm
  unfold Instr.typeAssert
  simp [go_sem, underlying, typeInfo, zeroValue, Tryz.underlying123, hi, hz, hzz, hmm]
set_option maxRecDepth 100000 in
theorem sharer_ways (w : World) : (Instr.typeAssert (.iface 87 (.agg #[])) 57 123 true).run Tryz.prog w = .ok (.tuple #[.nilIface, .bool false]) w := by
  obtain ⟨inf, hi⟩ : ∃ inf, Tryz.prog.info? 87 = some inf := Option.isSome_iff_exists.1 (by kernel_rfl)
  have hm : inf.methods = ((Tryz.prog.info? 87).map (·.methods)).getD #[] := by rw [hi]; rfl
  obtain ⟨z, hz, hzz⟩ : ∃ z, Tryz.prog.info? 123 = some z ∧ z.zero = some .nilIface := by
    have h : (Tryz.prog.info? 123).map (·.zero) = some (some .nilIface) := by kernel_rfl
    obtain ⟨z, hz, h2⟩ := Option.map_eq_some_iff.1 h
    exact ⟨z, hz, h2⟩
  obtain ⟨m, hmm⟩ := missing_one (want := (match Tryz.prog.underlying 123 with | some (.interface x) => x | _ => #[])) (got := inf.methods) (x := "treadwheel/algos.share") (by rw [hm]; kernel_rfl)
  rw [Tryz.underlying123] at hmm
  dsimp only at hmm
  unfold Instr.typeAssert
  simp [go_sem, underlying, typeInfo, zeroValue, Tryz.underlying123, hi, hz, hzz, hmm]
end Go.Proofs.YtgbahnlgblahpaaGreat
namespace Go.Proofs.YtgbahnlgblahpaaGreat
open Go.RowKit
set_option linter.unusedVariables false
set_option linter.unusedSimpArgs false
def progV (k : Int) : Value := if k = 1 then .iface 83 (.agg #[]) else if k = 2 then .iface 86 (.agg #[]) else if k = 3 then .iface 87 (.agg #[]) else .nilIface
set_option maxRecDepth 100000 in
set_option maxHeartbeats 2000000 in
theorem of_any (w : World) (k : Int) (j1 j2 j3 j4 : Int) : Calls Tryz.prog 26 #[.agg #[.int .u8 k, .int .i64 j1, .int .i64 j2, .int .i64 j3, .int .i64 j4]] w fun e w' => e = .returned (progV k) ∧ Below w.heap.size w w' := by
  go_enter Tryz.func26, Tryz.ntmps26
  go_wp2_with fail
  all_goals
    go_ret
    refine ⟨?_, (Below.refl _ _).alloc (Nat.le_refl _) _⟩
    unfold progV
    simp_all
theorem of1 (w : World) (j1 j2 j3 j4 : Int) : Calls Tryz.prog 26 #[.agg #[.int .u8 1, .int .i64 j1, .int .i64 j2, .int .i64 j3, .int .i64 j4]] w fun e w' => e = .returned (.iface 83 (.agg #[])) ∧ Below w.heap.size w w' := of_any w 1 j1 j2 j3 j4
theorem of2 (w : World) (j1 j2 j3 j4 : Int) : Calls Tryz.prog 26 #[.agg #[.int .u8 2, .int .i64 j1, .int .i64 j2, .int .i64 j3, .int .i64 j4]] w fun e w' => e = .returned (.iface 86 (.agg #[])) ∧ Below w.heap.size w w' := of_any w 2 j1 j2 j3 j4
theorem of3 (w : World) (j1 j2 j3 j4 : Int) : Calls Tryz.prog 26 #[.agg #[.int .u8 3, .int .i64 j1, .int .i64 j2, .int .i64 j3, .int .i64 j4]] w fun e w' => e = .returned (.iface 87 (.agg #[])) ∧ Below w.heap.size w w' := of_any w 3 j1 j2 j3 j4
theorem of0 (w : World) (k : Int) (h1 : ¬ k = 1) (h2 : ¬ k = 2) (h3 : ¬ k = 3) (j1 j2 j3 j4 : Int) : Calls Tryz.prog 26 #[.agg #[.int .u8 k, .int .i64 j1, .int .i64 j2, .int .i64 j3, .int .i64 j4]] w fun e w' => e = .returned .nilIface ∧ Below w.heap.size w w' := by
  have h := of_any w k j1 j2 j3 j4
  unfold progV at h
  rw [if_neg h1, if_neg h2, if_neg h3] at h
  exact h
def combF (k a b : Int) : Int := if k = 1 then dadd a b else if k = 2 ∨ k = 3 then min a b else 0
set_option maxRecDepth 100000 in
set_option maxHeartbeats 2000000 in
theorem rkcomb_any (w : World) (a b : Int) (h1 : -9223372036854775808 ≤ a) (h2 : a ≤ 9223372036854775807) (h3 : -9223372036854775808 ≤ b) (h4 : b ≤ 9223372036854775807) : Calls Tryz.prog 139 #[.agg #[], .int .i64 a, .int .i64 b] w fun e w' => e = .returned (.int .i64 (dadd a b)) ∧ Below w.heap.size w w' := by
  go_enter Tryz.func139, Tryz.ntmps139
  go_wp2_with fail
  refine (add_any _ a b h1 h2 h3 h4).mono ?_
  rintro e w1 ⟨rfl, rfl⟩
  go_wp2
  go_ret
  exact ⟨rfl, (Below.refl _ _).alloc (Nat.le_refl _) _⟩
set_option maxRecDepth 100000 in
set_option maxHeartbeats 2000000 in
theorem lscomb_any (w : World) (a b : Int) : Calls Tryz.prog 151 #[.agg #[], .int .i64 a, .int .i64 b] w fun e w' => e = .returned (.int .i64 (min a b)) ∧ Below w.heap.size w w' := by
  go_enter Tryz.func151, Tryz.ntmps151
  go_wp2
  all_goals
    go_ret
    exact ⟨ret_i64 (by omega), (Below.refl _ _).alloc (Nat.le_refl _) _⟩
theorem below_box {w w' : World} {o : Obj} (h : Below (w.alloc o).heap.size (w.alloc o) w') : Below w.heap.size w w' := ((Below.refl _ _).alloc (Nat.le_refl _) _).trans (h.mono (by simp))
theorem below_box2 {w w1 w2 : World} {o : Obj} (h : Below (w.alloc o).heap.size (w.alloc o) w1) (h2 : Below w1.heap.size w1 w2) : Below w.heap.size w w2 := below_box (h.trans (h2.mono h.size))
set_option maxRecDepth 100000 in
set_option maxHeartbeats 2000000 in
theorem comb_any (w : World) (k : Int) (j1 j2 j3 j4 : Int) (a b : Int) (h1 : -9223372036854775808 ≤ a) (h2 : a ≤ 9223372036854775807) (h3 : -9223372036854775808 ≤ b) (h4 : b ≤ 9223372036854775807) : Calls Tryz.prog 104 #[.agg #[.int .u8 k, .int .i64 j1, .int .i64 j2, .int .i64 j3, .int .i64 j4], .int .i64 a, .int .i64 b] w fun e w' => e = .returned (.int .i64 (combF k a b)) ∧ Below w.heap.size w w' := by
  by_cases k1 : k = 1
  · subst k1
    go_enter Tryz.func104, Tryz.ntmps104
    go_wp2_with fail
    refine (of1 _ j1 j2 j3 j4).mono ?_
    rintro e w1 ⟨rfl, hb⟩
    have HB := hide hb
    clear hb
    go_wp2_with fail
    refine (rkcomb_any _ a b h1 h2 h3 h4).mono ?_
    rintro e w2 ⟨rfl, hb2⟩
    have HB2 := hide hb2
    clear hb2
    go_wp2
    go_ret
    exact ⟨rfl, below_box2 HB.out HB2.out⟩
  by_cases k2 : k = 2
  · subst k2
    go_enter Tryz.func104, Tryz.ntmps104
    go_wp2_with fail
    refine (of2 _ j1 j2 j3 j4).mono ?_
    rintro e w1 ⟨rfl, hb⟩
    have HB := hide hb
    clear hb
    go_wp2_with fail
    refine (lscomb_any _ a b).mono ?_
    rintro e w2 ⟨rfl, hb2⟩
    have HB2 := hide hb2
    clear hb2
    go_wp2
    go_ret
    exact ⟨rfl, below_box2 HB.out HB2.out⟩
  by_cases k3 : k = 3
  · subst k3
    go_enter Tryz.func104, Tryz.ntmps104
    go_wp2_with fail
    refine (of3 _ j1 j2 j3 j4).mono ?_
    rintro e w1 ⟨rfl, hb⟩
    have HB := hide hb
    clear hb
    go_wp2_with fail
    refine (lscomb_any _ a b).mono ?_
    rintro e w2 ⟨rfl, hb2⟩
    have HB2 := hide hb2
    clear hb2
    go_wp2
    go_ret
    exact ⟨rfl, below_box2 HB.out HB2.out⟩
  ·
    go_enter Tryz.func104, Tryz.ntmps104
    go_wp2_with fail
    refine (of0 _ k k1 k2 k3 j1 j2 j3 j4).mono ?_
    rintro e w1 ⟨rfl, hb⟩
    have HB := hide hb
    clear hb
    go_wp2
    go_ret
    exact ⟨by rw [combF, if_neg k1, if_neg (by omega)]; rfl, below_box HB.out⟩
set_option maxRecDepth 100000 in
set_option maxHeartbeats 2000000 in
theorem rcomb_any (w : World) (k : Int) (j1 j2 j3 j4 : Int) (a b : Int) : Calls Tryz.prog 115 #[.agg #[.int .u8 k, .int .i64 j1, .int .i64 j2, .int .i64 j3, .int .i64 j4], .int .i64 a, .int .i64 b] w fun e w' => e = .returned (.int .i64 (combF k a b)) ∧ Below w.heap.size w w' := by
  have hbox := (Below.refl w.heap.size w).alloc (Nat.le_refl _) (.cells #[.int .u8 k, .int .i64 j1, .int .i64 j2, .int .i64 j3, .int .i64 j4] 26)
  have HBX := hide hbox
  clear hbox
  by_cases k1 : k = 1
  · subst k1
    go_enter Tryz.func115, Tryz.ntmps115
    go_wp2_with fail
    refine (radd_any _ a b).mono ?_
    rintro e w1 ⟨rfl, rfl⟩
    go_wp2
    go_ret
    exact ⟨rfl, HBX.out⟩
  by_cases k2 : k = 2
  · subst k2
    go_enter Tryz.func115, Tryz.ntmps115
    go_wp2
    all_goals
      go_ret
      exact ⟨ret_i64 (by rw [show combF 2 a b = min a b by simp [combF]]; omega), HBX.out⟩
  by_cases k3 : k = 3
  · subst k3
    go_enter Tryz.func115, Tryz.ntmps115
    go_wp2
    all_goals
      go_ret
      exact ⟨ret_i64 (by rw [show combF 3 a b = min a b by simp [combF]]; omega), HBX.out⟩
  ·
    go_enter Tryz.func115, Tryz.ntmps115
    go_wp2
    all_goals
      go_ret
      exact ⟨by rw [combF, if_neg k1, if_neg (by omega)]; rfl, HBX.out⟩
end Go.Proofs.YtgbahnlgblahpaaGreat
namespace Go.Proofs.YtgbahnlgblahpaaGreat
open Go.RowKit
set_option linter.unusedVariables false
set_option linter.unusedSimpArgs false
theorem below_dr {B : Nat} {a w : World} (h : Below B a.drew w) : Below B a w := ⟨h.os, h.tape, h.output, h.size, h.block⟩
set_option maxRecDepth 100000 in
set_option maxHeartbeats 4000000 in
theorem shares_any (w : World) (k : Int) (j1 j2 j3 j4 : Int) : Calls Tryz.prog 50 #[.agg #[.int .u8 k, .int .i64 j1, .int .i64 j2, .int .i64 j3, .int .i64 j4]] w fun e w' => e = .returned (.tuple #[.bool (decide (k = 1)), .bool (decide (k = 1) || decide (k = 2) || decide (k = 3))]) ∧ Below w.heap.size w w' := by
  by_cases k1 : k = 1
  · have ta := sharer_ranks
    subst k1
    go_enter Tryz.func50, Tryz.ntmps50
    go_wp2_with fail
    refine (of1 _ j1 j2 j3 j4).mono ?_
    rintro e ws ⟨rfl, hb⟩
    have HB := hide hb
    clear hb
    go_upto_region 3 with fail
    refine wp_region_held_drew (S := Kept ws) (by kernel_rfl) (Kept.drew ws) (fun hS0 => ?_)
    refine take_at (i := 0) (d := 12) (v := ?_) (by simp only [List.getElem?_toArray, List.getElem?_cons_succ, List.getElem?_cons_zero]; rfl) rfl (by kernel_rfl) (by kernel_rfl) (by kernel_rfl) (fun _ _ _ h => h) rfl ?_ (by assumption) ?_
    rotate_left
    focus (intro w hSw; go_simp; (try with_reducible rfl); done)
    try simp only [List.setIfInBounds_toArray, List.set_cons_zero, List.set_cons_succ]
    refine take_at (i := 1) (d := 13) (v := ?_) (by simp only [List.getElem?_toArray, List.getElem?_cons_succ, List.getElem?_cons_zero]; rfl) rfl (by kernel_rfl) (by kernel_rfl) (by kernel_rfl) (fun _ _ _ h => h) rfl ?_ (by assumption) ?_
    rotate_left
    focus (intro w hSw; go_simp; (try with_reducible rfl); done)
    try simp only [List.setIfInBounds_toArray, List.set_cons_zero, List.set_cons_succ]
    refine take_at (i := 2) (d := 14) (v := ?_) (by simp only [List.getElem?_toArray, List.getElem?_cons_succ, List.getElem?_cons_zero]; rfl) rfl (by kernel_rfl) (by kernel_rfl) (by kernel_rfl) (fun _ _ _ h => h) rfl ?_ (by assumption) ?_
    rotate_left
    focus (intro w hSw; go_simp; (try with_reducible rfl); done)
    try simp only [List.setIfInBounds_toArray, List.set_cons_zero, List.set_cons_succ]
    refine take_at (i := 3) (d := 2) (v := ?_) (by simp only [List.getElem?_toArray, List.getElem?_cons_succ, List.getElem?_cons_zero]; rfl) rfl (by kernel_rfl) (by kernel_rfl) (by kernel_rfl) (fun _ _ _ h => h) rfl ?_ (by assumption) ?_
    rotate_left
    focus (intro w hSw; go_simp; (try with_reducible rfl); done)
    try simp only [List.setIfInBounds_toArray, List.set_cons_zero, List.set_cons_succ]
    refine take_at (i := 4) (d := 3) (v := ?_) (by simp only [List.getElem?_toArray, List.getElem?_cons_succ, List.getElem?_cons_zero]; rfl) rfl (by kernel_rfl) (by kernel_rfl) (by kernel_rfl) (fun _ _ _ h => h) rfl ?_ (by assumption) ?_
    rotate_left
    focus (intro w hSw; go_simp; (try with_reducible rfl); done)
    try simp only [List.setIfInBounds_toArray, List.set_cons_zero, List.set_cons_succ]
    refine wpAnyH_done (by kernel_rfl) ?_ _
    go_wp2
    exact bodyPost_ret (by simp [results, Tryz.results50, go_sem]; try rfl) rfl ⟨rfl, below_box2 HB.out (below_dr (Below.refl _ _))⟩
  by_cases k2 : k = 2
  · have ta := sharer_labels
    subst k2
    go_enter Tryz.func50, Tryz.ntmps50
    go_wp2_with fail
    refine (of2 _ j1 j2 j3 j4).mono ?_
    rintro e ws ⟨rfl, hb⟩
    have HB := hide hb
    clear hb
    go_upto_region 3 with fail
    refine wp_region_held_drew (S := Kept ws) (by kernel_rfl) (Kept.drew ws) (fun hS0 => ?_)
    refine take_at (i := 0) (d := 12) (v := ?_) (by simp only [List.getElem?_toArray, List.getElem?_cons_succ, List.getElem?_cons_zero]; rfl) rfl (by kernel_rfl) (by kernel_rfl) (by kernel_rfl) (fun _ _ _ h => h) rfl ?_ (by assumption) ?_
    rotate_left
    focus (intro w hSw; go_simp; (try with_reducible rfl); done)
    try simp only [List.setIfInBounds_toArray, List.set_cons_zero, List.set_cons_succ]
    refine take_at (i := 1) (d := 13) (v := ?_) (by simp only [List.getElem?_toArray, List.getElem?_cons_succ, List.getElem?_cons_zero]; rfl) rfl (by kernel_rfl) (by kernel_rfl) (by kernel_rfl) (fun _ _ _ h => h) rfl ?_ (by assumption) ?_
    rotate_left
    focus (intro w hSw; go_simp; (try with_reducible rfl); done)
    try simp only [List.setIfInBounds_toArray, List.set_cons_zero, List.set_cons_succ]
    refine take_at (i := 2) (d := 14) (v := ?_) (by simp only [List.getElem?_toArray, List.getElem?_cons_succ, List.getElem?_cons_zero]; rfl) rfl (by kernel_rfl) (by kernel_rfl) (by kernel_rfl) (fun _ _ _ h => h) rfl ?_ (by assumption) ?_
    rotate_left
    focus (intro w hSw; go_simp; (try with_reducible rfl); done)
    try simp only [List.setIfInBounds_toArray, List.set_cons_zero, List.set_cons_succ]
    refine take_at (i := 3) (d := 2) (v := ?_) (by simp only [List.getElem?_toArray, List.getElem?_cons_succ, List.getElem?_cons_zero]; rfl) rfl (by kernel_rfl) (by kernel_rfl) (by kernel_rfl) (fun _ _ _ h => h) rfl ?_ (by assumption) ?_
    rotate_left
    focus (intro w hSw; go_simp; (try with_reducible rfl); done)
    try simp only [List.setIfInBounds_toArray, List.set_cons_zero, List.set_cons_succ]
    refine take_at (i := 4) (d := 3) (v := ?_) (by simp only [List.getElem?_toArray, List.getElem?_cons_succ, List.getElem?_cons_zero]; rfl) rfl (by kernel_rfl) (by kernel_rfl) (by kernel_rfl) (fun _ _ _ h => h) rfl ?_ (by assumption) ?_
    rotate_left
    focus (intro w hSw; go_simp; (try with_reducible rfl); done)
    try simp only [List.setIfInBounds_toArray, List.set_cons_zero, List.set_cons_succ]
    refine wpAnyH_done (by kernel_rfl) ?_ _
    go_wp2
    exact bodyPost_ret (by simp [results, Tryz.results50, go_sem]; try rfl) rfl ⟨rfl, below_box2 HB.out (below_dr (Below.refl _ _))⟩
  by_cases k3 : k = 3
  · have ta := sharer_ways
    subst k3
    go_enter Tryz.func50, Tryz.ntmps50
    go_wp2_with fail
    refine (of3 _ j1 j2 j3 j4).mono ?_
    rintro e ws ⟨rfl, hb⟩
    have HB := hide hb
    clear hb
    go_upto_region 3 with fail
    refine wp_region_held_drew (S := Kept ws) (by kernel_rfl) (Kept.drew ws) (fun hS0 => ?_)
    refine take_at (i := 0) (d := 12) (v := ?_) (by simp only [List.getElem?_toArray, List.getElem?_cons_succ, List.getElem?_cons_zero]; rfl) rfl (by kernel_rfl) (by kernel_rfl) (by kernel_rfl) (fun _ _ _ h => h) rfl ?_ (by assumption) ?_
    rotate_left
    focus (intro w hSw; go_simp; (try with_reducible rfl); done)
    try simp only [List.setIfInBounds_toArray, List.set_cons_zero, List.set_cons_succ]
    refine take_at (i := 1) (d := 13) (v := ?_) (by simp only [List.getElem?_toArray, List.getElem?_cons_succ, List.getElem?_cons_zero]; rfl) rfl (by kernel_rfl) (by kernel_rfl) (by kernel_rfl) (fun _ _ _ h => h) rfl ?_ (by assumption) ?_
    rotate_left
    focus (intro w hSw; go_simp; (try with_reducible rfl); done)
    try simp only [List.setIfInBounds_toArray, List.set_cons_zero, List.set_cons_succ]
    refine take_at (i := 2) (d := 14) (v := ?_) (by simp only [List.getElem?_toArray, List.getElem?_cons_succ, List.getElem?_cons_zero]; rfl) rfl (by kernel_rfl) (by kernel_rfl) (by kernel_rfl) (fun _ _ _ h => h) rfl ?_ (by assumption) ?_
    rotate_left
    focus (intro w hSw; go_simp; (try with_reducible rfl); done)
    try simp only [List.setIfInBounds_toArray, List.set_cons_zero, List.set_cons_succ]
    refine take_at (i := 3) (d := 2) (v := ?_) (by simp only [List.getElem?_toArray, List.getElem?_cons_succ, List.getElem?_cons_zero]; rfl) rfl (by kernel_rfl) (by kernel_rfl) (by kernel_rfl) (fun _ _ _ h => h) rfl ?_ (by assumption) ?_
    rotate_left
    focus (intro w hSw; go_simp; (try with_reducible rfl); done)
    try simp only [List.setIfInBounds_toArray, List.set_cons_zero, List.set_cons_succ]
    refine take_at (i := 4) (d := 3) (v := ?_) (by simp only [List.getElem?_toArray, List.getElem?_cons_succ, List.getElem?_cons_zero]; rfl) rfl (by kernel_rfl) (by kernel_rfl) (by kernel_rfl) (fun _ _ _ h => h) rfl ?_ (by assumption) ?_
    rotate_left
    focus (intro w hSw; go_simp; (try with_reducible rfl); done)
    try simp only [List.setIfInBounds_toArray, List.set_cons_zero, List.set_cons_succ]
    refine wpAnyH_done (by kernel_rfl) ?_ _
    go_wp2
    exact bodyPost_ret (by simp [results, Tryz.results50, go_sem]; try rfl) rfl ⟨rfl, below_box2 HB.out (below_dr (Below.refl _ _))⟩
  have ta := sharer_nil
  go_enter Tryz.func50, Tryz.ntmps50
  go_wp2_with fail
  refine (of0 _ k k1 k2 k3 j1 j2 j3 j4).mono ?_
  rintro e ws ⟨rfl, hb⟩
  have HB := hide hb
  clear hb
  go_upto_region 3 with fail
  refine wp_region_held_drew (S := Kept ws) (by kernel_rfl) (Kept.drew ws) (fun hS0 => ?_)
  refine take_at (i := 0) (d := 12) (v := ?_) (by simp only [List.getElem?_toArray, List.getElem?_cons_succ, List.getElem?_cons_zero]; rfl) rfl (by kernel_rfl) (by kernel_rfl) (by kernel_rfl) (fun _ _ _ h => h) rfl ?_ (by assumption) ?_
  rotate_left
  focus (intro w hSw; go_simp; (try with_reducible rfl); done)
  try simp only [List.setIfInBounds_toArray, List.set_cons_zero, List.set_cons_succ]
  refine take_at (i := 1) (d := 13) (v := ?_) (by simp only [List.getElem?_toArray, List.getElem?_cons_succ, List.getElem?_cons_zero]; rfl) rfl (by kernel_rfl) (by kernel_rfl) (by kernel_rfl) (fun _ _ _ h => h) rfl ?_ (by assumption) ?_
  rotate_left
  focus (intro w hSw; go_simp; (try with_reducible rfl); done)
  try simp only [List.setIfInBounds_toArray, List.set_cons_zero, List.set_cons_succ]
  refine take_at (i := 2) (d := 14) (v := ?_) (by simp only [List.getElem?_toArray, List.getElem?_cons_succ, List.getElem?_cons_zero]; rfl) rfl (by kernel_rfl) (by kernel_rfl) (by kernel_rfl) (fun _ _ _ h => h) rfl ?_ (by assumption) ?_
  rotate_left
  focus (intro w hSw; go_simp; (try with_reducible rfl); done)
  try simp only [List.setIfInBounds_toArray, List.set_cons_zero, List.set_cons_succ]
  refine take_at (i := 3) (d := 2) (v := ?_) (by simp only [List.getElem?_toArray, List.getElem?_cons_succ, List.getElem?_cons_zero]; rfl) rfl (by kernel_rfl) (by kernel_rfl) (by kernel_rfl) (fun _ _ _ h => h) rfl ?_ (by assumption) ?_
  rotate_left
  focus (intro w hSw; go_simp; (try with_reducible rfl); done)
  try simp only [List.setIfInBounds_toArray, List.set_cons_zero, List.set_cons_succ]
  refine take_at (i := 4) (d := 3) (v := ?_) (by simp only [List.getElem?_toArray, List.getElem?_cons_succ, List.getElem?_cons_zero]; rfl) rfl (by kernel_rfl) (by kernel_rfl) (by kernel_rfl) (fun _ _ _ h => h) rfl ?_ (by assumption) ?_
  rotate_left
  focus (intro w hSw; go_simp; (try with_reducible rfl); done)
  try simp only [List.setIfInBounds_toArray, List.set_cons_zero, List.set_cons_succ]
  refine wpAnyH_done (by kernel_rfl) ?_ _
  go_wp2
  exact bodyPost_ret (by simp [results, Tryz.results50, go_sem]; try rfl) rfl ⟨by simp [k1, k2, k3], below_box2 HB.out (below_dr (Below.refl _ _))⟩
end Go.Proofs.YtgbahnlgblahpaaGreat
namespace Go.Proofs.YtgbahnlgblahpaaGreat
open Go.RowKit
set_option linter.unusedVariables false
set_option linter.unusedSimpArgs false
theorem heap_alloc_keep {w : World} {o c : Obj} {b : Nat} (h : w.heap[b]? = some c) : (w.alloc o).heap[b]? = some c := (((Below.refl w.heap.size w).alloc (Nat.le_refl _) o).block b (Array.getElem?_eq_some_iff.1 h).1).trans h
def joinF (k : Int) (s m q r : Int) : Int × Int := if k = 1 then (dadd s q, max m r) else if k = 2 ∨ k = 3 then (dadd s q, dadd m r) else (0, 0)
set_option maxRecDepth 100000 in
set_option maxHeartbeats 4000000 in
theorem join_any (w : World) (k : Int) (j1 j2 j3 j4 : Int) (s m q r : Int) (hs : -9223372036854775808 ≤ s ∧ s ≤ 9223372036854775807) (hm : -9223372036854775808 ≤ m ∧ m ≤ 9223372036854775807) (hq : -9223372036854775808 ≤ q ∧ q ≤ 9223372036854775807) (hr : -9223372036854775808 ≤ r ∧ r ≤ 9223372036854775807) : Calls Tryz.prog 82 #[.agg #[.int .u8 k, .int .i64 j1, .int .i64 j2, .int .i64 j3, .int .i64 j4], .agg #[.int .i64 s, .int .i64 m], .agg #[.int .i64 q, .int .i64 r]] w fun e w' => e = .returned (.agg #[.int .i64 (joinF k s m q r).1, .int .i64 (joinF k s m q r).2]) ∧ Below w.heap.size w w' := by
  obtain ⟨u, hu⟩ : ∃ u, (((w.alloc (.cells #[.int .u8 k, .int .i64 j1, .int .i64 j2, .int .i64 j3, .int .i64 j4] 26)).alloc (.cells #[.int .i64 s, .int .i64 m] 134)).alloc (.cells #[.int .i64 q, .int .i64 r] 134)).alloc (.cells #[.int .i64 0, .int .i64 0] 134) = u := ⟨_, rfl⟩
  have hzu : w.heap.size + 1 + 1 + 1 < u.heap.size := by rw [← hu]; simp
  have hbu := hide (show Below w.heap.size w u by rw [← hu]; exact (((Below.refl _ _).alloc (Nat.le_refl _) _).alloc (by simp) _).alloc (by simp; omega) _ |>.alloc (by simp; omega) _)
  have M0 := hide (show u.heap[w.heap.size]? = some (Obj.cells #[.int .u8 k, .int .i64 j1, .int .i64 j2, .int .i64 j3, .int .i64 j4] 26) by rw [← hu]; exact heap_alloc_keep (heap_alloc_keep (heap_alloc_keep ((by have h := heap_alloc_last w (.cells #[.int .u8 k, .int .i64 j1, .int .i64 j2, .int .i64 j3, .int .i64 j4] 26); simpa using h)))))
  have M1 := hide (show u.heap[w.heap.size + 1]? = some (Obj.cells #[.int .i64 s, .int .i64 m] 134) by rw [← hu]; exact heap_alloc_keep (heap_alloc_keep ((by have h := heap_alloc_last (w.alloc (.cells #[.int .u8 k, .int .i64 j1, .int .i64 j2, .int .i64 j3, .int .i64 j4] 26)) (.cells #[.int .i64 s, .int .i64 m] 134); simpa using h))))
  have M2 := hide (show u.heap[w.heap.size + 1 + 1]? = some (Obj.cells #[.int .i64 q, .int .i64 r] 134) by rw [← hu]; exact heap_alloc_keep ((by have h := heap_alloc_last ((w.alloc (.cells #[.int .u8 k, .int .i64 j1, .int .i64 j2, .int .i64 j3, .int .i64 j4] 26)).alloc (.cells #[.int .i64 s, .int .i64 m] 134)) (.cells #[.int .i64 q, .int .i64 r] 134); simpa using h)))
  have M3 := hide (show u.heap[w.heap.size + 1 + 1 + 1]? = some (Obj.cells #[.int .i64 0, .int .i64 0] 134) by rw [← hu]; exact (by have h := heap_alloc_last (((w.alloc (.cells #[.int .u8 k, .int .i64 j1, .int .i64 j2, .int .i64 j3, .int .i64 j4] 26)).alloc (.cells #[.int .i64 s, .int .i64 m] 134)).alloc (.cells #[.int .i64 q, .int .i64 r] 134)) (.cells #[.int .i64 0, .int .i64 0] 134); simpa using h))
  have c0 : u.cell? ⟨w.heap.size, 0, none⟩ = some (.int .u8 k) := cell_of_row _ _ 0 _ _ _ M0.out
  have c1 : u.cell? ⟨w.heap.size, 1, none⟩ = some (.int .i64 j1) := cell_of_row _ _ 1 _ _ _ M0.out
  have c2 : u.cell? ⟨w.heap.size, 2, none⟩ = some (.int .i64 j2) := cell_of_row _ _ 2 _ _ _ M0.out
  have c3 : u.cell? ⟨w.heap.size, 3, none⟩ = some (.int .i64 j3) := cell_of_row _ _ 3 _ _ _ M0.out
  have c4 : u.cell? ⟨w.heap.size, 4, none⟩ = some (.int .i64 j4) := cell_of_row _ _ 4 _ _ _ M0.out
  clear M0
  have d0 : u.cell? ⟨w.heap.size + 1, 0, none⟩ = some (.int .i64 s) := cell_of_row _ _ 0 _ _ _ M1.out
  have d1 : u.cell? ⟨w.heap.size + 1 + 1, 0, none⟩ = some (.int .i64 q) := cell_of_row _ _ 0 _ _ _ M2.out
  by_cases k1 : k = 1
  · subst k1
    by_cases hlt : m < r
    · have HU := hide hu
      clear hu
      go_enter Tryz.func82, Tryz.ntmps82
      go_wp2_with fail
      rw [HU.out]
      refine (add_any _ s q hs.1 hs.2 hq.1 hq.2).mono ?_
      rintro e w1 ⟨rfl, rfl⟩
      go_wp2_with fail
      refine (shares_any _ 1 j1 j2 j3 j4).mono ?_
      rintro e w1 ⟨rfl, hb⟩
      have HB := hide hb
      have hzw := hb.size
      clear c0 c1 c2 c3 c4 d0 d1
      have N1 := (hb.block _ (by omega)).trans M1.out
      have N2 := (hb.block _ (by omega)).trans M2.out
      have N3 := (hb.block _ (by omega)).trans M3.out
      clear hb
      have x2 : w1.cell? ⟨w.heap.size + 1, 1, none⟩ = some (.int .i64 m) := cell_of_row _ _ 1 _ _ _ N1
      have x4 : w1.cell? ⟨w.heap.size + 1 + 1, 1, none⟩ = some (.int .i64 r) := cell_of_row _ _ 1 _ _ _ N2
      have z0 : w1.cell? ⟨w.heap.size + 1 + 1 + 1, 0, none⟩ = some (.int .i64 0) := cell_of_row _ _ 0 _ _ _ N3
      have zf0 : w1.frozen? ⟨w.heap.size + 1 + 1 + 1, 0, none⟩ = false := frozen_of_row _ _ 0 _ _ N3
      have z1 : w1.cell? ⟨w.heap.size + 1 + 1 + 1, 1, none⟩ = some (.int .i64 0) := cell_of_row _ _ 1 _ _ _ N3
      have zf1 : w1.frozen? ⟨w.heap.size + 1 + 1 + 1, 1, none⟩ = false := frozen_of_row _ _ 1 _ _ N3
      clear N1 N2
      obtain ⟨f, hf⟩ : ∃ z, (w1.setCell ⟨w.heap.size + 1 + 1 + 1, 0, none⟩ (.int .i64 (dadd s q))).setCell ⟨w.heap.size + 1 + 1 + 1, 1, none⟩ (.int .i64 (r)) = z := ⟨_, rfl⟩
      have hfB : Below w.heap.size w f := by rw [← hf]; exact ((hbu.out.trans (HB.out.mono (by omega))).setCell (p := ⟨w.heap.size + 1 + 1 + 1, 0, none⟩) (by show w.heap.size ≤ w.heap.size + 1 + 1 + 1; omega) _).setCell (p := ⟨w.heap.size + 1 + 1 + 1, 1, none⟩) (by show w.heap.size ≤ w.heap.size + 1 + 1 + 1; omega) _
      have hf2 := heap_setCell_same _ (w.heap.size + 1 + 1 + 1) 1 _ _ (.int .i64 (r)) (heap_setCell_same w1 (w.heap.size + 1 + 1 + 1) 0 _ _ (.int .i64 (dadd s q)) N3)
      rw [hf] at hf2
      have y0 : f.cell? ⟨w.heap.size + 1 + 1 + 1, 0, none⟩ = some (.int .i64 (dadd s q)) := cell_of_row _ _ 0 _ _ _ hf2
      have y1 : f.cell? ⟨w.heap.size + 1 + 1 + 1, 1, none⟩ = some (.int .i64 (r)) := cell_of_row _ _ 1 _ _ _ hf2
      have HFin := hide (And.intro hf (And.intro hfB (And.intro y0 y1)))
      clear hf hfB hf2 y0 y1 N3
      go_wp2
      obtain ⟨hf, hfB, y0, y1⟩ := HFin.out
      rw [hf]
      exact bodyPost_ret (v := .agg #[.int .i64 (dadd s q), .int .i64 (r)]) (by simp [results, Tryz.results82, go_sem, y0, y1]) rfl ⟨by rw [show joinF 1 s m q r = (dadd s q, r) by simp [joinF]; omega], hfB⟩
    · have HU := hide hu
      clear hu
      go_enter Tryz.func82, Tryz.ntmps82
      go_wp2_with fail
      rw [HU.out]
      refine (add_any _ s q hs.1 hs.2 hq.1 hq.2).mono ?_
      rintro e w1 ⟨rfl, rfl⟩
      go_wp2_with fail
      refine (shares_any _ 1 j1 j2 j3 j4).mono ?_
      rintro e w1 ⟨rfl, hb⟩
      have HB := hide hb
      have hzw := hb.size
      clear c0 c1 c2 c3 c4 d0 d1
      have N1 := (hb.block _ (by omega)).trans M1.out
      have N2 := (hb.block _ (by omega)).trans M2.out
      have N3 := (hb.block _ (by omega)).trans M3.out
      clear hb
      have x2 : w1.cell? ⟨w.heap.size + 1, 1, none⟩ = some (.int .i64 m) := cell_of_row _ _ 1 _ _ _ N1
      have x4 : w1.cell? ⟨w.heap.size + 1 + 1, 1, none⟩ = some (.int .i64 r) := cell_of_row _ _ 1 _ _ _ N2
      have z0 : w1.cell? ⟨w.heap.size + 1 + 1 + 1, 0, none⟩ = some (.int .i64 0) := cell_of_row _ _ 0 _ _ _ N3
      have zf0 : w1.frozen? ⟨w.heap.size + 1 + 1 + 1, 0, none⟩ = false := frozen_of_row _ _ 0 _ _ N3
      have z1 : w1.cell? ⟨w.heap.size + 1 + 1 + 1, 1, none⟩ = some (.int .i64 0) := cell_of_row _ _ 1 _ _ _ N3
      have zf1 : w1.frozen? ⟨w.heap.size + 1 + 1 + 1, 1, none⟩ = false := frozen_of_row _ _ 1 _ _ N3
      clear N1 N2
      obtain ⟨f, hf⟩ : ∃ z, (w1.setCell ⟨w.heap.size + 1 + 1 + 1, 0, none⟩ (.int .i64 (dadd s q))).setCell ⟨w.heap.size + 1 + 1 + 1, 1, none⟩ (.int .i64 (m)) = z := ⟨_, rfl⟩
      have hfB : Below w.heap.size w f := by rw [← hf]; exact ((hbu.out.trans (HB.out.mono (by omega))).setCell (p := ⟨w.heap.size + 1 + 1 + 1, 0, none⟩) (by show w.heap.size ≤ w.heap.size + 1 + 1 + 1; omega) _).setCell (p := ⟨w.heap.size + 1 + 1 + 1, 1, none⟩) (by show w.heap.size ≤ w.heap.size + 1 + 1 + 1; omega) _
      have hf2 := heap_setCell_same _ (w.heap.size + 1 + 1 + 1) 1 _ _ (.int .i64 (m)) (heap_setCell_same w1 (w.heap.size + 1 + 1 + 1) 0 _ _ (.int .i64 (dadd s q)) N3)
      rw [hf] at hf2
      have y0 : f.cell? ⟨w.heap.size + 1 + 1 + 1, 0, none⟩ = some (.int .i64 (dadd s q)) := cell_of_row _ _ 0 _ _ _ hf2
      have y1 : f.cell? ⟨w.heap.size + 1 + 1 + 1, 1, none⟩ = some (.int .i64 (m)) := cell_of_row _ _ 1 _ _ _ hf2
      have HFin := hide (And.intro hf (And.intro hfB (And.intro y0 y1)))
      clear hf hfB hf2 y0 y1 N3
      go_wp2
      obtain ⟨hf, hfB, y0, y1⟩ := HFin.out
      rw [hf]
      exact bodyPost_ret (v := .agg #[.int .i64 (dadd s q), .int .i64 (m)]) (by simp [results, Tryz.results82, go_sem, y0, y1]) rfl ⟨by rw [show joinF 1 s m q r = (dadd s q, m) by simp [joinF]; omega], hfB⟩
  by_cases k2 : k = 2
  · subst k2
    have HU := hide hu
    clear hu
    go_enter Tryz.func82, Tryz.ntmps82
    go_wp2_with fail
    rw [HU.out]
    refine (add_any _ s q hs.1 hs.2 hq.1 hq.2).mono ?_
    rintro e w1 ⟨rfl, rfl⟩
    go_wp2_with fail
    refine (shares_any _ 2 j1 j2 j3 j4).mono ?_
    rintro e w1 ⟨rfl, hb⟩
    have HB := hide hb
    have hzw := hb.size
    clear c0 c1 c2 c3 c4 d0 d1
    have N1 := (hb.block _ (by omega)).trans M1.out
    have N2 := (hb.block _ (by omega)).trans M2.out
    have N3 := (hb.block _ (by omega)).trans M3.out
    clear hb
    have x2 : w1.cell? ⟨w.heap.size + 1, 1, none⟩ = some (.int .i64 m) := cell_of_row _ _ 1 _ _ _ N1
    have x4 : w1.cell? ⟨w.heap.size + 1 + 1, 1, none⟩ = some (.int .i64 r) := cell_of_row _ _ 1 _ _ _ N2
    have z0 : w1.cell? ⟨w.heap.size + 1 + 1 + 1, 0, none⟩ = some (.int .i64 0) := cell_of_row _ _ 0 _ _ _ N3
    have zf0 : w1.frozen? ⟨w.heap.size + 1 + 1 + 1, 0, none⟩ = false := frozen_of_row _ _ 0 _ _ N3
    have z1 : w1.cell? ⟨w.heap.size + 1 + 1 + 1, 1, none⟩ = some (.int .i64 0) := cell_of_row _ _ 1 _ _ _ N3
    have zf1 : w1.frozen? ⟨w.heap.size + 1 + 1 + 1, 1, none⟩ = false := frozen_of_row _ _ 1 _ _ N3
    clear N1 N2
    obtain ⟨f, hf⟩ : ∃ z, (w1.setCell ⟨w.heap.size + 1 + 1 + 1, 0, none⟩ (.int .i64 (dadd s q))).setCell ⟨w.heap.size + 1 + 1 + 1, 1, none⟩ (.int .i64 (dadd m r)) = z := ⟨_, rfl⟩
    have hfB : Below w.heap.size w f := by rw [← hf]; exact ((hbu.out.trans (HB.out.mono (by omega))).setCell (p := ⟨w.heap.size + 1 + 1 + 1, 0, none⟩) (by show w.heap.size ≤ w.heap.size + 1 + 1 + 1; omega) _).setCell (p := ⟨w.heap.size + 1 + 1 + 1, 1, none⟩) (by show w.heap.size ≤ w.heap.size + 1 + 1 + 1; omega) _
    have hf2 := heap_setCell_same _ (w.heap.size + 1 + 1 + 1) 1 _ _ (.int .i64 (dadd m r)) (heap_setCell_same w1 (w.heap.size + 1 + 1 + 1) 0 _ _ (.int .i64 (dadd s q)) N3)
    rw [hf] at hf2
    have y0 : f.cell? ⟨w.heap.size + 1 + 1 + 1, 0, none⟩ = some (.int .i64 (dadd s q)) := cell_of_row _ _ 0 _ _ _ hf2
    have y1 : f.cell? ⟨w.heap.size + 1 + 1 + 1, 1, none⟩ = some (.int .i64 (dadd m r)) := cell_of_row _ _ 1 _ _ _ hf2
    have HFin := hide (And.intro hf (And.intro hfB (And.intro y0 y1)))
    clear hf hfB hf2 y0 y1 N3
    go_wp2_with fail
    refine (add_any _ m r hm.1 hm.2 hr.1 hr.2).mono ?_
    rintro e w2 ⟨rfl, rfl⟩
    go_wp2
    obtain ⟨hf, hfB, y0, y1⟩ := HFin.out
    rw [hf]
    exact bodyPost_ret (v := .agg #[.int .i64 (dadd s q), .int .i64 (dadd m r)]) (by simp [results, Tryz.results82, go_sem, y0, y1]) rfl ⟨by simp [joinF], hfB⟩
  by_cases k3 : k = 3
  · subst k3
    have HU := hide hu
    clear hu
    go_enter Tryz.func82, Tryz.ntmps82
    go_wp2_with fail
    rw [HU.out]
    refine (add_any _ s q hs.1 hs.2 hq.1 hq.2).mono ?_
    rintro e w1 ⟨rfl, rfl⟩
    go_wp2_with fail
    refine (shares_any _ 3 j1 j2 j3 j4).mono ?_
    rintro e w1 ⟨rfl, hb⟩
    have HB := hide hb
    have hzw := hb.size
    clear c0 c1 c2 c3 c4 d0 d1
    have N1 := (hb.block _ (by omega)).trans M1.out
    have N2 := (hb.block _ (by omega)).trans M2.out
    have N3 := (hb.block _ (by omega)).trans M3.out
    clear hb
    have x2 : w1.cell? ⟨w.heap.size + 1, 1, none⟩ = some (.int .i64 m) := cell_of_row _ _ 1 _ _ _ N1
    have x4 : w1.cell? ⟨w.heap.size + 1 + 1, 1, none⟩ = some (.int .i64 r) := cell_of_row _ _ 1 _ _ _ N2
    have z0 : w1.cell? ⟨w.heap.size + 1 + 1 + 1, 0, none⟩ = some (.int .i64 0) := cell_of_row _ _ 0 _ _ _ N3
    have zf0 : w1.frozen? ⟨w.heap.size + 1 + 1 + 1, 0, none⟩ = false := frozen_of_row _ _ 0 _ _ N3
    have z1 : w1.cell? ⟨w.heap.size + 1 + 1 + 1, 1, none⟩ = some (.int .i64 0) := cell_of_row _ _ 1 _ _ _ N3
    have zf1 : w1.frozen? ⟨w.heap.size + 1 + 1 + 1, 1, none⟩ = false := frozen_of_row _ _ 1 _ _ N3
    clear N1 N2
    obtain ⟨f, hf⟩ : ∃ z, (w1.setCell ⟨w.heap.size + 1 + 1 + 1, 0, none⟩ (.int .i64 (dadd s q))).setCell ⟨w.heap.size + 1 + 1 + 1, 1, none⟩ (.int .i64 (dadd m r)) = z := ⟨_, rfl⟩
    have hfB : Below w.heap.size w f := by rw [← hf]; exact ((hbu.out.trans (HB.out.mono (by omega))).setCell (p := ⟨w.heap.size + 1 + 1 + 1, 0, none⟩) (by show w.heap.size ≤ w.heap.size + 1 + 1 + 1; omega) _).setCell (p := ⟨w.heap.size + 1 + 1 + 1, 1, none⟩) (by show w.heap.size ≤ w.heap.size + 1 + 1 + 1; omega) _
    have hf2 := heap_setCell_same _ (w.heap.size + 1 + 1 + 1) 1 _ _ (.int .i64 (dadd m r)) (heap_setCell_same w1 (w.heap.size + 1 + 1 + 1) 0 _ _ (.int .i64 (dadd s q)) N3)
    rw [hf] at hf2
    have y0 : f.cell? ⟨w.heap.size + 1 + 1 + 1, 0, none⟩ = some (.int .i64 (dadd s q)) := cell_of_row _ _ 0 _ _ _ hf2
    have y1 : f.cell? ⟨w.heap.size + 1 + 1 + 1, 1, none⟩ = some (.int .i64 (dadd m r)) := cell_of_row _ _ 1 _ _ _ hf2
    have HFin := hide (And.intro hf (And.intro hfB (And.intro y0 y1)))
    clear hf hfB hf2 y0 y1 N3
    go_wp2_with fail
    refine (add_any _ m r hm.1 hm.2 hr.1 hr.2).mono ?_
    rintro e w2 ⟨rfl, rfl⟩
    go_wp2
    obtain ⟨hf, hfB, y0, y1⟩ := HFin.out
    rw [hf]
    exact bodyPost_ret (v := .agg #[.int .i64 (dadd s q), .int .i64 (dadd m r)]) (by simp [results, Tryz.results82, go_sem, y0, y1]) rfl ⟨by simp [joinF], hfB⟩
  obtain ⟨hk1, hk2, hk3⟩ : decide (k = 1) = false ∧ decide (k = 2) = false ∧ decide (k = 3) = false := by simp [k1, k2, k3]
  have HU := hide hu
  clear hu
  go_enter Tryz.func82, Tryz.ntmps82
  go_wp2_with fail
  rw [HU.out]
  refine (add_any _ s q hs.1 hs.2 hq.1 hq.2).mono ?_
  rintro e w1 ⟨rfl, rfl⟩
  go_wp2_with fail
  refine (shares_any _ k j1 j2 j3 j4).mono ?_
  rintro e w1 ⟨rfl, hb⟩
  have HB := hide hb
  have hzw := hb.size
  clear c0 c1 c2 c3 c4 d0 d1
  have N1 := (hb.block _ (by omega)).trans M1.out
  have N2 := (hb.block _ (by omega)).trans M2.out
  have N3 := (hb.block _ (by omega)).trans M3.out
  clear hb
  rw [hk1, hk2, hk3]
  have x2 : w1.cell? ⟨w.heap.size + 1, 1, none⟩ = some (.int .i64 m) := cell_of_row _ _ 1 _ _ _ N1
  have x4 : w1.cell? ⟨w.heap.size + 1 + 1, 1, none⟩ = some (.int .i64 r) := cell_of_row _ _ 1 _ _ _ N2
  have z0 : w1.cell? ⟨w.heap.size + 1 + 1 + 1, 0, none⟩ = some (.int .i64 0) := cell_of_row _ _ 0 _ _ _ N3
  have zf0 : w1.frozen? ⟨w.heap.size + 1 + 1 + 1, 0, none⟩ = false := frozen_of_row _ _ 0 _ _ N3
  have z1 : w1.cell? ⟨w.heap.size + 1 + 1 + 1, 1, none⟩ = some (.int .i64 0) := cell_of_row _ _ 1 _ _ _ N3
  have zf1 : w1.frozen? ⟨w.heap.size + 1 + 1 + 1, 1, none⟩ = false := frozen_of_row _ _ 1 _ _ N3
  clear N1 N2
  obtain ⟨f, hf⟩ : ∃ z, (w1.setCell ⟨w.heap.size + 1 + 1 + 1, 0, none⟩ (.int .i64 (0))).setCell ⟨w.heap.size + 1 + 1 + 1, 1, none⟩ (.int .i64 (0)) = z := ⟨_, rfl⟩
  have hfB : Below w.heap.size w f := by rw [← hf]; exact ((hbu.out.trans (HB.out.mono (by omega))).setCell (p := ⟨w.heap.size + 1 + 1 + 1, 0, none⟩) (by show w.heap.size ≤ w.heap.size + 1 + 1 + 1; omega) _).setCell (p := ⟨w.heap.size + 1 + 1 + 1, 1, none⟩) (by show w.heap.size ≤ w.heap.size + 1 + 1 + 1; omega) _
  have hf2 := heap_setCell_same _ (w.heap.size + 1 + 1 + 1) 1 _ _ (.int .i64 (0)) (heap_setCell_same w1 (w.heap.size + 1 + 1 + 1) 0 _ _ (.int .i64 (0)) N3)
  rw [hf] at hf2
  have y0 : f.cell? ⟨w.heap.size + 1 + 1 + 1, 0, none⟩ = some (.int .i64 (0)) := cell_of_row _ _ 0 _ _ _ hf2
  have y1 : f.cell? ⟨w.heap.size + 1 + 1 + 1, 1, none⟩ = some (.int .i64 (0)) := cell_of_row _ _ 1 _ _ _ hf2
  have HFin := hide (And.intro hf (And.intro hfB (And.intro y0 y1)))
  clear hf hfB hf2 y0 y1 N3
  go_wp2
  obtain ⟨hf, hfB, y0, y1⟩ := HFin.out
  rw [hf]
  exact bodyPost_ret (v := .agg #[.int .i64 (0), .int .i64 (0)]) (by simp [results, Tryz.results82, go_sem, y0, y1]) rfl ⟨by simp [joinF, k1, k2, k3], hfB⟩
end Go.Proofs.YtgbahnlgblahpaaGreat
