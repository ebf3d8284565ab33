/- Check of jobs: the document. (printed by gen/acr.py) The walk of the statement AlgosPart. (printed by gen/apw.py) The walk of the statement AlgosOrder. (printed by gen/aow.py) The walk of the statement AlgosCheck. (printed by gen/ach.py) The walk of the statement AlgosCompute. (printed by gen/acw.py) -/
import Derived.Test.YtihlhkbdgbkafaaGreatAsy
import Derived.Test.YtihlhkbdgbkafaaGreatPrf
import Derived.Test.YtihlhkbdgbkafaaGreatAwk
import Derived.Test.YtihlhkbdgbkafaaGreatAtb
import Derived.Test.YtihlhkbdgbkafaaGreatOjb
import Derived.Test.YtihlhkbdgbkafaaGreatLgt
import Derived.Test.YtihlhkbdgbkafaaGreatAcp
namespace Go.Proofs.YtihlhkbdgbkafaaGreat
open Go.RowKit
set_option linter.unusedVariables false
set_option linter.unusedSimpArgs false
set_option maxRecDepth 100000 in
set_option maxHeartbeats 4000000 in
theorem racheck_any (w : World) (k j1 j2 j3 j4 V : Int) (A : Option Addr) (es : List Ed) (L c : Nat) (hL : es.length = L) (hE : Eds w w.heap.size A es) (hc : L ≤ 9223372036854775807) : Calls Tryz.prog 15 #[.agg #[.int .i64 V, .slice A L c], .agg #[.int .u8 k, .int .i64 j1, .int .i64 j2, .int .i64 j3, .int .i64 j4]] w fun e w' => e = .returned (.int .i64 (acheckF k j1 j2 j3 j4 V es)) ∧ Below w.heap.size w w' := by
  obtain ⟨u, hu⟩ : ∃ u, (w.alloc (.cells #[.int .i64 V, .slice A L c] 24)).alloc (.cells #[.int .u8 k, .int .i64 j1, .int .i64 j2, .int .i64 j3, .int .i64 j4] 28) = u := ⟨_, rfl⟩
  have hzu : w.heap.size + 1 < u.heap.size := by rw [← hu]; simp
  have hbu := hide (show Below w.heap.size w u by rw [← hu]; exact ((Below.refl _ _).alloc (Nat.le_refl _) _).alloc (by simp) _)
  have M1 := hide (show u.heap[w.heap.size + 1]? = some (.cells #[.int .u8 k, .int .i64 j1, .int .i64 j2, .int .i64 j3, .int .i64 j4] 28) by rw [← hu]; have h := heap_alloc_last (w.alloc (.cells #[.int .i64 V, .slice A L c] 24)) (.cells #[.int .u8 k, .int .i64 j1, .int .i64 j2, .int .i64 j3, .int .i64 j4] 28); simpa using h)
  have M0 := hide (show u.heap[w.heap.size]? = some (.cells #[.int .i64 V, .slice A L c] 24) by rw [← hu]; exact heap_alloc_keep (heap_alloc_last _ _))
  have HE := hide (hE.next hbu.out)
  have HU := hide hu
  clear hu hE
  obtain ⟨ec, hec⟩ : ∃ z, checkF V es = z := ⟨_, rfl⟩
  have HC := hide hec
  have hcall := rcheck_any u V A es L c hL HE.out hc
  rw [hec] at hcall
  have HK := hide hcall
  clear hcall hec
  by_cases he : ec = 0
  · subst he
    by_cases k1 : k = 1
    · subst k1
      have N0 := ((Below.refl u.heap.size u).block _ (by omega)).trans M0.out
      have g0 : u.cell? ⟨w.heap.size, 0, none⟩ = some (.int .i64 V) := cell_of_row _ _ 0 _ _ _ N0
      have g1 : u.cell? ⟨w.heap.size, 1, none⟩ = some (.slice A L c) := cell_of_row _ _ 1 _ _ _ N0
      clear N0
      have N1 := ((Below.refl u.heap.size u).block _ hzu).trans M1.out
      have c0 : u.cell? ⟨w.heap.size + 1, 0, none⟩ = some (.int .u8 1) := cell_of_row _ _ 0 _ _ _ N1
      have c1 : u.cell? ⟨w.heap.size + 1, 1, none⟩ = some (.int .i64 j1) := cell_of_row _ _ 1 _ _ _ N1
      have c2 : u.cell? ⟨w.heap.size + 1, 2, none⟩ = some (.int .i64 j2) := cell_of_row _ _ 2 _ _ _ N1
      have c3 : u.cell? ⟨w.heap.size + 1, 3, none⟩ = some (.int .i64 j3) := cell_of_row _ _ 3 _ _ _ N1
      have c4 : u.cell? ⟨w.heap.size + 1, 4, none⟩ = some (.int .i64 j4) := cell_of_row _ _ 4 _ _ _ N1
      clear N1
      go_enter Tryz.func15, Tryz.ntmps15
      go_wp2_with fail
      rw [HU.out]
      refine HK.out.mono ?_
      clear g0 g1 c0 c1 c2 c3 c4
      rintro e w1 ⟨rfl, hb⟩
      have hB1 := hide (show Below u.heap.size u w1 from hb)
      have s1 : u.heap.size ≤ w1.heap.size := hb.size
      have N0 := (hb.block _ (by omega)).trans M0.out
      have g0 : w1.cell? ⟨w.heap.size, 0, none⟩ = some (.int .i64 V) := cell_of_row _ _ 0 _ _ _ N0
      have g1 : w1.cell? ⟨w.heap.size, 1, none⟩ = some (.slice A L c) := cell_of_row _ _ 1 _ _ _ N0
      clear N0
      have N1 := (hb.block _ hzu).trans M1.out
      have c0 : w1.cell? ⟨w.heap.size + 1, 0, none⟩ = some (.int .u8 1) := cell_of_row _ _ 0 _ _ _ N1
      have c1 : w1.cell? ⟨w.heap.size + 1, 1, none⟩ = some (.int .i64 j1) := cell_of_row _ _ 1 _ _ _ N1
      have c2 : w1.cell? ⟨w.heap.size + 1, 2, none⟩ = some (.int .i64 j2) := cell_of_row _ _ 2 _ _ _ N1
      have c3 : w1.cell? ⟨w.heap.size + 1, 3, none⟩ = some (.int .i64 j3) := cell_of_row _ _ 3 _ _ _ N1
      have c4 : w1.cell? ⟨w.heap.size + 1, 4, none⟩ = some (.int .i64 j4) := cell_of_row _ _ 4 _ _ _ N1
      clear N1
      clear hb
      go_wp2
      all_goals
        go_ret
        refine ⟨ret_i64 ?_, hbu.out.trans (hB1.out.mono (by omega))⟩
        unfold acheckF
        rw [HC.out]
        first | (simp_all [mayK]; done) | (simp_all [mayK]; omega)
    by_cases k3 : k = 3
    · subst k3
      have N0 := ((Below.refl u.heap.size u).block _ (by omega)).trans M0.out
      have g0 : u.cell? ⟨w.heap.size, 0, none⟩ = some (.int .i64 V) := cell_of_row _ _ 0 _ _ _ N0
      have g1 : u.cell? ⟨w.heap.size, 1, none⟩ = some (.slice A L c) := cell_of_row _ _ 1 _ _ _ N0
      clear N0
      have N1 := ((Below.refl u.heap.size u).block _ hzu).trans M1.out
      have c0 : u.cell? ⟨w.heap.size + 1, 0, none⟩ = some (.int .u8 3) := cell_of_row _ _ 0 _ _ _ N1
      have c1 : u.cell? ⟨w.heap.size + 1, 1, none⟩ = some (.int .i64 j1) := cell_of_row _ _ 1 _ _ _ N1
      have c2 : u.cell? ⟨w.heap.size + 1, 2, none⟩ = some (.int .i64 j2) := cell_of_row _ _ 2 _ _ _ N1
      have c3 : u.cell? ⟨w.heap.size + 1, 3, none⟩ = some (.int .i64 j3) := cell_of_row _ _ 3 _ _ _ N1
      have c4 : u.cell? ⟨w.heap.size + 1, 4, none⟩ = some (.int .i64 j4) := cell_of_row _ _ 4 _ _ _ N1
      clear N1
      go_enter Tryz.func15, Tryz.ntmps15
      go_wp2_with fail
      rw [HU.out]
      refine HK.out.mono ?_
      clear g0 g1 c0 c1 c2 c3 c4
      rintro e w1 ⟨rfl, hb⟩
      have hB1 := hide (show Below u.heap.size u w1 from hb)
      have s1 : u.heap.size ≤ w1.heap.size := hb.size
      have N0 := (hb.block _ (by omega)).trans M0.out
      have g0 : w1.cell? ⟨w.heap.size, 0, none⟩ = some (.int .i64 V) := cell_of_row _ _ 0 _ _ _ N0
      have g1 : w1.cell? ⟨w.heap.size, 1, none⟩ = some (.slice A L c) := cell_of_row _ _ 1 _ _ _ N0
      clear N0
      have N1 := (hb.block _ hzu).trans M1.out
      have c0 : w1.cell? ⟨w.heap.size + 1, 0, none⟩ = some (.int .u8 3) := cell_of_row _ _ 0 _ _ _ N1
      have c1 : w1.cell? ⟨w.heap.size + 1, 1, none⟩ = some (.int .i64 j1) := cell_of_row _ _ 1 _ _ _ N1
      have c2 : w1.cell? ⟨w.heap.size + 1, 2, none⟩ = some (.int .i64 j2) := cell_of_row _ _ 2 _ _ _ N1
      have c3 : w1.cell? ⟨w.heap.size + 1, 3, none⟩ = some (.int .i64 j3) := cell_of_row _ _ 3 _ _ _ N1
      have c4 : w1.cell? ⟨w.heap.size + 1, 4, none⟩ = some (.int .i64 j4) := cell_of_row _ _ 4 _ _ _ N1
      clear N1
      clear hb
      go_wp2
      all_goals
        go_ret
        refine ⟨ret_i64 ?_, hbu.out.trans (hB1.out.mono (by omega))⟩
        unfold acheckF
        rw [HC.out]
        first | (simp_all [mayK]; done) | (simp_all [mayK]; omega)
    by_cases k2 : k = 2
    · subst k2
      have N0 := ((Below.refl u.heap.size u).block _ (by omega)).trans M0.out
      have g0 : u.cell? ⟨w.heap.size, 0, none⟩ = some (.int .i64 V) := cell_of_row _ _ 0 _ _ _ N0
      have g1 : u.cell? ⟨w.heap.size, 1, none⟩ = some (.slice A L c) := cell_of_row _ _ 1 _ _ _ N0
      clear N0
      have N1 := ((Below.refl u.heap.size u).block _ hzu).trans M1.out
      have c0 : u.cell? ⟨w.heap.size + 1, 0, none⟩ = some (.int .u8 2) := cell_of_row _ _ 0 _ _ _ N1
      have c1 : u.cell? ⟨w.heap.size + 1, 1, none⟩ = some (.int .i64 j1) := cell_of_row _ _ 1 _ _ _ N1
      have c2 : u.cell? ⟨w.heap.size + 1, 2, none⟩ = some (.int .i64 j2) := cell_of_row _ _ 2 _ _ _ N1
      have c3 : u.cell? ⟨w.heap.size + 1, 3, none⟩ = some (.int .i64 j3) := cell_of_row _ _ 3 _ _ _ N1
      have c4 : u.cell? ⟨w.heap.size + 1, 4, none⟩ = some (.int .i64 j4) := cell_of_row _ _ 4 _ _ _ N1
      clear N1
      go_enter Tryz.func15, Tryz.ntmps15
      go_wp2_with fail
      rw [HU.out]
      refine HK.out.mono ?_
      clear g0 g1 c0 c1 c2 c3 c4
      rintro e w1 ⟨rfl, hb⟩
      have hB1 := hide (show Below u.heap.size u w1 from hb)
      have s1 : u.heap.size ≤ w1.heap.size := hb.size
      have N0 := (hb.block _ (by omega)).trans M0.out
      have g0 : w1.cell? ⟨w.heap.size, 0, none⟩ = some (.int .i64 V) := cell_of_row _ _ 0 _ _ _ N0
      have g1 : w1.cell? ⟨w.heap.size, 1, none⟩ = some (.slice A L c) := cell_of_row _ _ 1 _ _ _ N0
      clear N0
      have N1 := (hb.block _ hzu).trans M1.out
      have c0 : w1.cell? ⟨w.heap.size + 1, 0, none⟩ = some (.int .u8 2) := cell_of_row _ _ 0 _ _ _ N1
      have c1 : w1.cell? ⟨w.heap.size + 1, 1, none⟩ = some (.int .i64 j1) := cell_of_row _ _ 1 _ _ _ N1
      have c2 : w1.cell? ⟨w.heap.size + 1, 2, none⟩ = some (.int .i64 j2) := cell_of_row _ _ 2 _ _ _ N1
      have c3 : w1.cell? ⟨w.heap.size + 1, 3, none⟩ = some (.int .i64 j3) := cell_of_row _ _ 3 _ _ _ N1
      have c4 : w1.cell? ⟨w.heap.size + 1, 4, none⟩ = some (.int .i64 j4) := cell_of_row _ _ 4 _ _ _ N1
      clear N1
      clear hb
      go_wp2
      all_goals
        go_ret
        refine ⟨ret_i64 ?_, hbu.out.trans (hB1.out.mono (by omega))⟩
        unfold acheckF
        rw [HC.out]
        first | (simp_all [mayK]; done) | (simp_all [mayK]; omega)
    obtain ⟨hk1, hk2, hk3⟩ : decide (k = 1) = false ∧ decide (k = 2) = false ∧ decide (k = 3) = false := by simp [k1, k2, k3]
    have N0 := ((Below.refl u.heap.size u).block _ (by omega)).trans M0.out
    have g0 : u.cell? ⟨w.heap.size, 0, none⟩ = some (.int .i64 V) := cell_of_row _ _ 0 _ _ _ N0
    have g1 : u.cell? ⟨w.heap.size, 1, none⟩ = some (.slice A L c) := cell_of_row _ _ 1 _ _ _ N0
    clear N0
    have N1 := ((Below.refl u.heap.size u).block _ hzu).trans M1.out
    have c0 : u.cell? ⟨w.heap.size + 1, 0, none⟩ = some (.int .u8 k) := cell_of_row _ _ 0 _ _ _ N1
    have c1 : u.cell? ⟨w.heap.size + 1, 1, none⟩ = some (.int .i64 j1) := cell_of_row _ _ 1 _ _ _ N1
    have c2 : u.cell? ⟨w.heap.size + 1, 2, none⟩ = some (.int .i64 j2) := cell_of_row _ _ 2 _ _ _ N1
    have c3 : u.cell? ⟨w.heap.size + 1, 3, none⟩ = some (.int .i64 j3) := cell_of_row _ _ 3 _ _ _ N1
    have c4 : u.cell? ⟨w.heap.size + 1, 4, none⟩ = some (.int .i64 j4) := cell_of_row _ _ 4 _ _ _ N1
    clear N1
    go_enter Tryz.func15, Tryz.ntmps15
    go_wp2_with fail
    rw [HU.out]
    refine HK.out.mono ?_
    clear g0 g1 c0 c1 c2 c3 c4
    rintro e w1 ⟨rfl, hb⟩
    have hB1 := hide (show Below u.heap.size u w1 from hb)
    have s1 : u.heap.size ≤ w1.heap.size := hb.size
    have N0 := (hb.block _ (by omega)).trans M0.out
    have g0 : w1.cell? ⟨w.heap.size, 0, none⟩ = some (.int .i64 V) := cell_of_row _ _ 0 _ _ _ N0
    have g1 : w1.cell? ⟨w.heap.size, 1, none⟩ = some (.slice A L c) := cell_of_row _ _ 1 _ _ _ N0
    clear N0
    have N1 := (hb.block _ hzu).trans M1.out
    have c0 : w1.cell? ⟨w.heap.size + 1, 0, none⟩ = some (.int .u8 k) := cell_of_row _ _ 0 _ _ _ N1
    have c1 : w1.cell? ⟨w.heap.size + 1, 1, none⟩ = some (.int .i64 j1) := cell_of_row _ _ 1 _ _ _ N1
    have c2 : w1.cell? ⟨w.heap.size + 1, 2, none⟩ = some (.int .i64 j2) := cell_of_row _ _ 2 _ _ _ N1
    have c3 : w1.cell? ⟨w.heap.size + 1, 3, none⟩ = some (.int .i64 j3) := cell_of_row _ _ 3 _ _ _ N1
    have c4 : w1.cell? ⟨w.heap.size + 1, 4, none⟩ = some (.int .i64 j4) := cell_of_row _ _ 4 _ _ _ N1
    clear N1
    clear hb
    go_wp2
    all_goals
      go_ret
      refine ⟨ret_i64 ?_, hbu.out.trans (hB1.out.mono (by omega))⟩
      unfold acheckF
      rw [HC.out]
      first | (simp_all [mayK]; done) | (simp_all [mayK]; omega)
  · have N0 := ((Below.refl u.heap.size u).block _ (by omega)).trans M0.out
    have g0 : u.cell? ⟨w.heap.size, 0, none⟩ = some (.int .i64 V) := cell_of_row _ _ 0 _ _ _ N0
    have g1 : u.cell? ⟨w.heap.size, 1, none⟩ = some (.slice A L c) := cell_of_row _ _ 1 _ _ _ N0
    clear N0
    have N1 := ((Below.refl u.heap.size u).block _ hzu).trans M1.out
    have c0 : u.cell? ⟨w.heap.size + 1, 0, none⟩ = some (.int .u8 k) := cell_of_row _ _ 0 _ _ _ N1
    have c1 : u.cell? ⟨w.heap.size + 1, 1, none⟩ = some (.int .i64 j1) := cell_of_row _ _ 1 _ _ _ N1
    have c2 : u.cell? ⟨w.heap.size + 1, 2, none⟩ = some (.int .i64 j2) := cell_of_row _ _ 2 _ _ _ N1
    have c3 : u.cell? ⟨w.heap.size + 1, 3, none⟩ = some (.int .i64 j3) := cell_of_row _ _ 3 _ _ _ N1
    have c4 : u.cell? ⟨w.heap.size + 1, 4, none⟩ = some (.int .i64 j4) := cell_of_row _ _ 4 _ _ _ N1
    clear N1
    go_enter Tryz.func15, Tryz.ntmps15
    go_wp2_with fail
    rw [HU.out]
    refine HK.out.mono ?_
    clear g0 g1 c0 c1 c2 c3 c4
    rintro e w1 ⟨rfl, hb⟩
    have hB1 := hide (show Below u.heap.size u w1 from hb)
    have s1 : u.heap.size ≤ w1.heap.size := hb.size
    have N0 := (hb.block _ (by omega)).trans M0.out
    have g0 : w1.cell? ⟨w.heap.size, 0, none⟩ = some (.int .i64 V) := cell_of_row _ _ 0 _ _ _ N0
    have g1 : w1.cell? ⟨w.heap.size, 1, none⟩ = some (.slice A L c) := cell_of_row _ _ 1 _ _ _ N0
    clear N0
    have N1 := (hb.block _ hzu).trans M1.out
    have c0 : w1.cell? ⟨w.heap.size + 1, 0, none⟩ = some (.int .u8 k) := cell_of_row _ _ 0 _ _ _ N1
    have c1 : w1.cell? ⟨w.heap.size + 1, 1, none⟩ = some (.int .i64 j1) := cell_of_row _ _ 1 _ _ _ N1
    have c2 : w1.cell? ⟨w.heap.size + 1, 2, none⟩ = some (.int .i64 j2) := cell_of_row _ _ 2 _ _ _ N1
    have c3 : w1.cell? ⟨w.heap.size + 1, 3, none⟩ = some (.int .i64 j3) := cell_of_row _ _ 3 _ _ _ N1
    have c4 : w1.cell? ⟨w.heap.size + 1, 4, none⟩ = some (.int .i64 j4) := cell_of_row _ _ 4 _ _ _ N1
    clear N1
    clear hb
    go_wp2
    go_ret
    exact ⟨ret_i64 (by rw [show acheckF k j1 j2 j3 j4 V es = ec by unfold acheckF; rw [HC.out, if_pos he]]), hbu.out.trans (hB1.out.mono (by omega))⟩
end Go.Proofs.YtihlhkbdgbkafaaGreat
namespace Go.Proofs.YtihlhkbdgbkafaaGreat
open Go.RowKit
set_option linter.unusedVariables false
set_option linter.unusedSimpArgs false
set_option maxRecDepth 100000 in
set_option maxHeartbeats 16000000 in
theorem algosPart_go (w : World) (k j1 j2 j3 j4 was val : Int) (h1 : -9223372036854775808 ≤ was) (h2 : was ≤ 9223372036854775807) (h3 : -9223372036854775808 ≤ val) (h4 : val ≤ 9223372036854775807) (chg : Bool) (A : Option Addr) (n c : Nat) (a1 a2 b1 b2 : Int) (ha1 : i64B a1) (ha2 : i64B a2) (hb1 : i64B b1) (hb2 : i64B b2) :
    Calls Tryz.prog 8 #[.agg #[.int .u8 k, .int .i64 j1, .int .i64 j2, .int .i64 j3, .int .i64 j4], .int .i64 was, .int .i64 val, .bool chg, .slice A n c, .agg #[.int .i64 a1, .int .i64 a2], .agg #[.int .i64 b1, .int .i64 b2]] w fun e w' => e = .returned (.bool true) ∧ Below w.heap.size w w' := by
  obtain ⟨u, hu⟩ : ∃ u, (((w.alloc (.cells #[.int .u8 k, .int .i64 j1, .int .i64 j2, .int .i64 j3, .int .i64 j4] 28)).alloc (.cells #[.int .i64 a1, .int .i64 a2] 36)).alloc (.cells #[.int .i64 b1, .int .i64 b2] 36)) = u := ⟨_, rfl⟩
  have hzu : w.heap.size + 1 + 1 < u.heap.size := by rw [← hu]; simp
  have hbu := hide (show Below w.heap.size w u by rw [← hu]; exact (((Below.refl _ _).alloc (Nat.le_refl _) _).alloc (by simp) _).alloc (by simp; omega) _)
  have M0 := hide (show u.heap[w.heap.size]? = some (Obj.cells #[.int .u8 k, .int .i64 j1, .int .i64 j2, .int .i64 j3, .int .i64 j4] 28) by rw [← hu]; exact heap_alloc_keep (heap_alloc_keep ((by have h := heap_alloc_last w (.cells #[.int .u8 k, .int .i64 j1, .int .i64 j2, .int .i64 j3, .int .i64 j4] 28); simpa using h))))
  have M1 := hide (show u.heap[w.heap.size + 1]? = some (Obj.cells #[.int .i64 a1, .int .i64 a2] 36) by rw [← hu]; exact heap_alloc_keep ((by have h := heap_alloc_last (w.alloc (.cells #[.int .u8 k, .int .i64 j1, .int .i64 j2, .int .i64 j3, .int .i64 j4] 28)) (.cells #[.int .i64 a1, .int .i64 a2] 36); simpa using h)))
  have M2 := hide (show u.heap[w.heap.size + 1 + 1]? = some (Obj.cells #[.int .i64 b1, .int .i64 b2] 36) by rw [← hu]; exact (by have h := heap_alloc_last ((w.alloc (.cells #[.int .u8 k, .int .i64 j1, .int .i64 j2, .int .i64 j3, .int .i64 j4] 28)).alloc (.cells #[.int .i64 a1, .int .i64 a2] 36)) (.cells #[.int .i64 b1, .int .i64 b2] 36); simpa using h))
  have HU := hide hu
  clear hu
  by_cases hn : 100 < n
  · have hn' : (100 : Int) < (n : Int) := by omega
    clear hn
    go_enter Tryz.func8, Tryz.ntmps8
    go_wp2_with fail
    rw [HU.out]
    refine (works_any _).mono ?_
    rintro e w1 ⟨rfl, hb⟩
    have HB := hide (hbu.out.trans (hb.mono (by omega)))
    clear hb
    go_wp2
    go_ret
    exact ⟨rfl, HB.out⟩
  · have hn' : ¬ (100 : Int) < (n : Int) := by omega
    clear hn
    obtain ⟨p1, hp1⟩ : ∃ z, (partT k was val chg n).1 = z := ⟨_, rfl⟩
    obtain ⟨p2, hp2⟩ : ∃ z, (partT k was val chg n).2 = z := ⟨_, rfl⟩
    obtain ⟨r1, hr1⟩ : ∃ z, (joinF k a1 a2 b1 b2).1 = z := ⟨_, rfl⟩
    obtain ⟨r2, hr2⟩ : ∃ z, (joinF k a1 a2 b1 b2).2 = z := ⟨_, rfl⟩
    have HP1 := hide hp1
    have HP2 := hide hp2
    have HR1 := hide hr1
    have HR2 := hide hr2
    clear hp1 hp2 hr1 hr2
    go_enter Tryz.func8, Tryz.ntmps8
    go_upto_region 3 with fail
    rw [HU.out]
    have c0 : u.cell? ⟨w.heap.size, 0, none⟩ = some (.int .u8 k) := cell_of_row _ _ 0 _ _ _ M0.out
    have c1 : u.cell? ⟨w.heap.size, 1, none⟩ = some (.int .i64 j1) := cell_of_row _ _ 1 _ _ _ M0.out
    have c2 : u.cell? ⟨w.heap.size, 2, none⟩ = some (.int .i64 j2) := cell_of_row _ _ 2 _ _ _ M0.out
    have c3 : u.cell? ⟨w.heap.size, 3, none⟩ = some (.int .i64 j3) := cell_of_row _ _ 3 _ _ _ M0.out
    have c4 : u.cell? ⟨w.heap.size, 4, none⟩ = some (.int .i64 j4) := cell_of_row _ _ 4 _ _ _ M0.out
    have d10 : u.cell? ⟨w.heap.size + 1, 0, none⟩ = some (.int .i64 a1) := cell_of_row _ _ 0 _ _ _ M1.out
    have d11 : u.cell? ⟨w.heap.size + 1, 1, none⟩ = some (.int .i64 a2) := cell_of_row _ _ 1 _ _ _ M1.out
    have d20 : u.cell? ⟨w.heap.size + 1 + 1, 0, none⟩ = some (.int .i64 b1) := cell_of_row _ _ 0 _ _ _ M2.out
    have d21 : u.cell? ⟨w.heap.size + 1 + 1, 1, none⟩ = some (.int .i64 b2) := cell_of_row _ _ 1 _ _ _ M2.out
    have l0 : w.heap.size < u.heap.size := by omega
    have l1 : w.heap.size + 1 < u.heap.size := by omega
    clear hn'
    refine wp_region_held_drew (S := Kept u) (by kernel_rfl) (Kept.drew u) (fun hS0 => ?_)
    refine take_at (i := 0) (d := 19) (v := ?_) (by simp only [List.getElem?_toArray, List.getElem?_cons_succ, List.getElem?_cons_zero]; rfl) rfl (by kernel_rfl) (by kernel_rfl) (by kernel_rfl) (fun _ _ _ h => h) rfl ?_ (by assumption) ?_
    rotate_left
    focus (intro w hSw; go_simp; (try with_reducible rfl); done)
    try simp only [List.setIfInBounds_toArray, List.set_cons_zero, List.set_cons_succ]
    refine take_at (i := 1) (d := 20) (v := ?_) (by simp only [List.getElem?_toArray, List.getElem?_cons_succ, List.getElem?_cons_zero]; rfl) rfl (by kernel_rfl) (by kernel_rfl) (by kernel_rfl) (fun _ _ _ h => h) rfl ?_ (by assumption) ?_
    rotate_left
    focus (intro w hSw; go_simp; (try with_reducible rfl); done)
    try simp only [List.setIfInBounds_toArray, List.set_cons_zero, List.set_cons_succ]
    refine take_at (i := 2) (d := 21) (v := ?_) (by simp only [List.getElem?_toArray, List.getElem?_cons_succ, List.getElem?_cons_zero]; rfl) rfl (by kernel_rfl) (by kernel_rfl) (by kernel_rfl) (fun _ _ _ h => h) rfl ?_ (by assumption) ?_
    rotate_left
    focus (intro w hSw; go_simp; (try with_reducible rfl); done)
    try simp only [List.setIfInBounds_toArray, List.set_cons_zero, List.set_cons_succ]
    refine take_at (i := 3) (d := 22) (v := ?_) (by simp only [List.getElem?_toArray, List.getElem?_cons_succ, List.getElem?_cons_zero]; rfl) rfl (by kernel_rfl) (by kernel_rfl) (by kernel_rfl) (fun _ _ _ h => h) rfl ?_ (by assumption) ?_
    rotate_left
    focus (intro w hSw; go_simp; (try with_reducible rfl); done)
    try simp only [List.setIfInBounds_toArray, List.set_cons_zero, List.set_cons_succ]
    refine take_at (i := 4) (d := 23) (v := ?_) (by simp only [List.getElem?_toArray, List.getElem?_cons_succ, List.getElem?_cons_zero]; rfl) rfl (by kernel_rfl) (by kernel_rfl) (by kernel_rfl) (fun _ _ _ h => h) rfl ?_ (by assumption) ?_
    rotate_left
    focus (intro w hSw; go_simp; (try with_reducible rfl); done)
    try simp only [List.setIfInBounds_toArray, List.set_cons_zero, List.set_cons_succ]
    refine take_at (i := 7) (d := 26) (v := ?_) (by simp only [List.getElem?_toArray, List.getElem?_cons_succ, List.getElem?_cons_zero]; rfl) rfl (by kernel_rfl) (by kernel_rfl) (by kernel_rfl) (fun _ _ _ h => h) rfl ?_ (by assumption) ?_
    rotate_left
    focus (intro w hSw; go_simp; (try with_reducible rfl); done)
    try simp only [List.setIfInBounds_toArray, List.set_cons_zero, List.set_cons_succ]
    refine take_at (i := 8) (d := 27) (v := ?_) (by simp only [List.getElem?_toArray, List.getElem?_cons_succ, List.getElem?_cons_zero]; rfl) rfl (by kernel_rfl) (by kernel_rfl) (by kernel_rfl) (fun _ _ _ h => h) rfl ?_ (by assumption) ?_
    rotate_left
    focus (intro w hSw; go_simp; (try with_reducible rfl); done)
    try simp only [List.setIfInBounds_toArray, List.set_cons_zero, List.set_cons_succ]
    refine take_at (i := 9) (d := 28) (v := ?_) (by simp only [List.getElem?_toArray, List.getElem?_cons_succ, List.getElem?_cons_zero]; rfl) rfl (by kernel_rfl) (by kernel_rfl) (by kernel_rfl) (fun _ _ _ h => h) rfl ?_ (by assumption) ?_
    rotate_left
    focus (intro w hSw; go_simp; (try with_reducible rfl); done)
    try simp only [List.setIfInBounds_toArray, List.set_cons_zero, List.set_cons_succ]
    refine take_at (i := 10) (d := 29) (v := ?_) (by simp only [List.getElem?_toArray, List.getElem?_cons_succ, List.getElem?_cons_zero]; rfl) rfl (by kernel_rfl) (by kernel_rfl) (by kernel_rfl) (fun _ _ _ h => h) rfl ?_ (by assumption) ?_
    rotate_left
    focus (intro w hSw; go_simp; (try with_reducible rfl); done)
    try simp only [List.setIfInBounds_toArray, List.set_cons_zero, List.set_cons_succ]
    refine take_at (i := 11) (d := 30) (v := ?_) (by simp only [List.getElem?_toArray, List.getElem?_cons_succ, List.getElem?_cons_zero]; rfl) rfl (by kernel_rfl) (by kernel_rfl) (by kernel_rfl) (fun _ _ _ h => h) rfl ?_ (by assumption) ?_
    rotate_left
    focus (intro w hSw; go_simp; (try with_reducible rfl); done)
    try simp only [List.setIfInBounds_toArray, List.set_cons_zero, List.set_cons_succ]
    refine call_at (i := 5) (d := 24) (by simp only [List.getElem?_toArray, List.getElem?_cons_succ, List.getElem?_cons_zero]; rfl) rfl (by kernel_rfl) rfl (fun K hK => ?_)
    go_simp
    have hc := part_any u.drew k j1 j2 j3 j4 was val chg A n c h1 h2 h3 h4
    rw [HP1.out, HP2.out] at hc
    refine hc.mono ?_
    clear hc
    rintro e z1 ⟨rfl, hz⟩
    have hS1 : Kept u z1 := hS0.below (by simp) hz
    have q1 : u.heap.size ≤ z1.heap.size := by have := hz.size; simpa using this
    have B1 := hide ((below_dr0 u.heap.size u).trans (hz.mono (Nat.le_refl _)))
    clear hz
    go_wp2_with fail
    refine hK.out _ _ hS1 (fun hSn => ?_)
    clear hK K
    try simp only [List.setIfInBounds_toArray, List.set_cons_zero, List.set_cons_succ]
    refine call_at (i := 6) (d := 25) (by simp only [List.getElem?_toArray, List.getElem?_cons_succ, List.getElem?_cons_zero]; rfl) rfl (by kernel_rfl) rfl (fun K hK => ?_)
    go_simp
    have hc := plain_any z1 p1 p2
    refine hc.mono ?_
    clear hc
    rintro e z2 ⟨rfl, hz⟩
    have hS2 : Kept u z2 := hS1.below q1 hz
    have q2 : u.heap.size ≤ z2.heap.size := Nat.le_trans q1 hz.size
    have B2 := hide (B1.out.trans (hz.mono q1))
    clear hz
    go_wp2_with fail
    refine hK.out _ _ hS2 (fun hSn => ?_)
    clear hK K
    try simp only [List.setIfInBounds_toArray, List.set_cons_zero, List.set_cons_succ]
    refine call_at (i := 12) (d := 31) (by simp only [List.getElem?_toArray, List.getElem?_cons_succ, List.getElem?_cons_zero]; rfl) rfl (by kernel_rfl) rfl (fun K hK => ?_)
    go_simp
    have hc := rpart_any z2 k j1 j2 j3 j4 was val chg A n c
    rw [HP1.out, HP2.out] at hc
    refine hc.mono ?_
    clear hc
    rintro e z3 ⟨rfl, hz⟩
    have hS3 : Kept u z3 := hS2.below q2 hz
    have q3 : u.heap.size ≤ z3.heap.size := Nat.le_trans q2 hz.size
    have B3 := hide (B2.out.trans (hz.mono q2))
    clear hz
    go_wp2_with fail
    refine hK.out _ _ hS3 (fun hSn => ?_)
    clear hK K
    try simp only [List.setIfInBounds_toArray, List.set_cons_zero, List.set_cons_succ]
    refine take_at (i := 13) (d := 32) (v := ?_) (by simp only [List.getElem?_toArray, List.getElem?_cons_succ, List.getElem?_cons_zero]; rfl) rfl (by kernel_rfl) (by kernel_rfl) (by kernel_rfl) (fun _ _ _ h => h) rfl ?_ (by assumption) ?_
    rotate_left
    focus (intro w hSw; go_simp; (try with_reducible rfl); done)
    try simp only [List.setIfInBounds_toArray, List.set_cons_zero, List.set_cons_succ]
    refine take_at (i := 14) (d := 33) (v := ?_) (by simp only [List.getElem?_toArray, List.getElem?_cons_succ, List.getElem?_cons_zero]; rfl) rfl (by kernel_rfl) (by kernel_rfl) (by kernel_rfl) (fun _ _ _ h => h) rfl ?_ (by assumption) ?_
    rotate_left
    focus (intro w hSw; go_simp; (try with_reducible rfl); done)
    try simp only [List.setIfInBounds_toArray, List.set_cons_zero, List.set_cons_succ]
    refine take_at (i := 15) (d := 34) (v := ?_) (by simp only [List.getElem?_toArray, List.getElem?_cons_succ, List.getElem?_cons_zero]; rfl) rfl (by kernel_rfl) (by kernel_rfl) (by kernel_rfl) (fun _ _ _ h => h) rfl ?_ (by assumption) ?_
    rotate_left
    focus (intro w hSw; go_simp; (try with_reducible rfl); done)
    try simp only [List.setIfInBounds_toArray, List.set_cons_zero, List.set_cons_succ]
    refine take_at (i := 16) (d := 35) (v := ?_) (by simp only [List.getElem?_toArray, List.getElem?_cons_succ, List.getElem?_cons_zero]; rfl) rfl (by kernel_rfl) (by kernel_rfl) (by kernel_rfl) (fun _ _ _ h => h) rfl ?_ (by assumption) ?_
    rotate_left
    focus (intro w hSw; go_simp; (try with_reducible rfl); done)
    try simp only [List.setIfInBounds_toArray, List.set_cons_zero, List.set_cons_succ]
    refine take_at (i := 17) (d := 36) (v := ?_) (by simp only [List.getElem?_toArray, List.getElem?_cons_succ, List.getElem?_cons_zero]; rfl) rfl (by kernel_rfl) (by kernel_rfl) (by kernel_rfl) (fun _ _ _ h => h) rfl ?_ (by assumption) ?_
    rotate_left
    focus (intro w hSw; go_simp; (try with_reducible rfl); done)
    try simp only [List.setIfInBounds_toArray, List.set_cons_zero, List.set_cons_succ]
    refine take_at (i := 20) (d := 39) (v := ?_) (by simp only [List.getElem?_toArray, List.getElem?_cons_succ, List.getElem?_cons_zero]; rfl) rfl (by kernel_rfl) (by kernel_rfl) (by kernel_rfl) (fun _ _ _ h => h) rfl ?_ (by assumption) ?_
    rotate_left
    focus (intro w hSw; go_simp; (try with_reducible rfl); done)
    try simp only [List.setIfInBounds_toArray, List.set_cons_zero, List.set_cons_succ]
    refine take_at (i := 21) (d := 40) (v := ?_) (by simp only [List.getElem?_toArray, List.getElem?_cons_succ, List.getElem?_cons_zero]; rfl) rfl (by kernel_rfl) (by kernel_rfl) (by kernel_rfl) (fun _ _ _ h => h) rfl ?_ (by assumption) ?_
    rotate_left
    focus (intro w hSw; go_simp; (try with_reducible rfl); done)
    try simp only [List.setIfInBounds_toArray, List.set_cons_zero, List.set_cons_succ]
    refine take_at (i := 23) (d := 42) (v := ?_) (by simp only [List.getElem?_toArray, List.getElem?_cons_succ, List.getElem?_cons_zero]; rfl) rfl (by kernel_rfl) (by kernel_rfl) (by kernel_rfl) (fun _ _ _ h => h) rfl ?_ (by assumption) ?_
    rotate_left
    focus (intro w hSw; go_simp; (try with_reducible rfl); done)
    try simp only [List.setIfInBounds_toArray, List.set_cons_zero, List.set_cons_succ]
    refine call_at (i := 18) (d := 37) (by simp only [List.getElem?_toArray, List.getElem?_cons_succ, List.getElem?_cons_zero]; rfl) rfl (by kernel_rfl) rfl (fun K hK => ?_)
    go_simp
    have hc := join_any z3 k j1 j2 j3 j4 a1 a2 b1 b2 ha1 ha2 hb1 hb2
    rw [HR1.out, HR2.out] at hc
    refine hc.mono ?_
    clear hc
    rintro e z4 ⟨rfl, hz⟩
    have hS4 : Kept u z4 := hS3.below q3 hz
    have q4 : u.heap.size ≤ z4.heap.size := Nat.le_trans q3 hz.size
    have B4 := hide (B3.out.trans (hz.mono q3))
    clear hz
    go_wp2_with fail
    refine hK.out _ _ hS4 (fun hSn => ?_)
    clear hK K
    try simp only [List.setIfInBounds_toArray, List.set_cons_zero, List.set_cons_succ]
    refine call_at (i := 19) (d := 38) (by simp only [List.getElem?_toArray, List.getElem?_cons_succ, List.getElem?_cons_zero]; rfl) rfl (by kernel_rfl) rfl (fun K hK => ?_)
    go_simp
    have hc := plain_any z4 r1 r2
    refine hc.mono ?_
    clear hc
    rintro e z5 ⟨rfl, hz⟩
    have hS5 : Kept u z5 := hS4.below q4 hz
    have q5 : u.heap.size ≤ z5.heap.size := Nat.le_trans q4 hz.size
    have B5 := hide (B4.out.trans (hz.mono q4))
    clear hz
    go_wp2_with fail
    refine hK.out _ _ hS5 (fun hSn => ?_)
    clear hK K
    try simp only [List.setIfInBounds_toArray, List.set_cons_zero, List.set_cons_succ]
    refine call_at (i := 22) (d := 41) (by simp only [List.getElem?_toArray, List.getElem?_cons_succ, List.getElem?_cons_zero]; rfl) rfl (by kernel_rfl) rfl (fun K hK => ?_)
    go_simp
    have hc := plain_any z5 a1 a2
    refine hc.mono ?_
    clear hc
    rintro e z6 ⟨rfl, hz⟩
    have hS6 : Kept u z6 := hS5.below q5 hz
    have q6 : u.heap.size ≤ z6.heap.size := Nat.le_trans q5 hz.size
    have B6 := hide (B5.out.trans (hz.mono q5))
    clear hz
    go_wp2_with fail
    refine hK.out _ _ hS6 (fun hSn => ?_)
    clear hK K
    try simp only [List.setIfInBounds_toArray, List.set_cons_zero, List.set_cons_succ]
    refine call_at (i := 24) (d := 43) (by simp only [List.getElem?_toArray, List.getElem?_cons_succ, List.getElem?_cons_zero]; rfl) rfl (by kernel_rfl) rfl (fun K hK => ?_)
    go_simp
    have hc := plain_any z6 b1 b2
    refine hc.mono ?_
    clear hc
    rintro e z7 ⟨rfl, hz⟩
    have hS7 : Kept u z7 := hS6.below q6 hz
    have q7 : u.heap.size ≤ z7.heap.size := Nat.le_trans q6 hz.size
    have B7 := hide (B6.out.trans (hz.mono q6))
    clear hz
    go_wp2_with fail
    refine hK.out _ _ hS7 (fun hSn => ?_)
    clear hK K
    try simp only [List.setIfInBounds_toArray, List.set_cons_zero, List.set_cons_succ]
    refine call_at (i := 25) (d := 44) (by simp only [List.getElem?_toArray, List.getElem?_cons_succ, List.getElem?_cons_zero]; rfl) rfl (by kernel_rfl) rfl (fun K hK => ?_)
    go_simp
    have hc := rjoin_any z7 k j1 j2 j3 j4 a1 a2 b1 b2
    rw [HR1.out, HR2.out] at hc
    refine hc.mono ?_
    clear hc
    rintro e z8 ⟨rfl, hz⟩
    have hS8 : Kept u z8 := hS7.below q7 hz
    have q8 : u.heap.size ≤ z8.heap.size := Nat.le_trans q7 hz.size
    have B8 := hide (B7.out.trans (hz.mono q7))
    clear hz
    go_wp2_with fail
    refine hK.out _ _ hS8 (fun hSn => ?_)
    clear hK K
    try simp only [List.setIfInBounds_toArray, List.set_cons_zero, List.set_cons_succ]
    refine take_at (i := 26) (d := 45) (v := ?_) (by simp only [List.getElem?_toArray, List.getElem?_cons_succ, List.getElem?_cons_zero]; rfl) rfl (by kernel_rfl) (by kernel_rfl) (by kernel_rfl) (fun _ _ _ h => h) rfl ?_ (by assumption) ?_
    rotate_left
    focus (intro w hSw; go_simp; (try with_reducible rfl); done)
    try simp only [List.setIfInBounds_toArray, List.set_cons_zero, List.set_cons_succ]
    refine take_at (i := 27) (d := 46) (v := ?_) (by simp only [List.getElem?_toArray, List.getElem?_cons_succ, List.getElem?_cons_zero]; rfl) rfl (by kernel_rfl) (by kernel_rfl) (by kernel_rfl) (fun _ _ _ h => h) rfl ?_ (by assumption) ?_
    rotate_left
    focus (intro w hSw; go_simp; (try with_reducible rfl); done)
    try simp only [List.setIfInBounds_toArray, List.set_cons_zero, List.set_cons_succ]
    refine take_at (i := 28) (d := 47) (v := ?_) (by simp only [List.getElem?_toArray, List.getElem?_cons_succ, List.getElem?_cons_zero]; rfl) rfl (by kernel_rfl) (by kernel_rfl) (by kernel_rfl) (fun _ _ _ h => h) rfl ?_ (by assumption) ?_
    rotate_left
    focus (intro w hSw; go_simp; (try with_reducible rfl); done)
    try simp only [List.setIfInBounds_toArray, List.set_cons_zero, List.set_cons_succ]
    refine call_at (i := 29) (d := 48) (by simp only [List.getElem?_toArray, List.getElem?_cons_succ, List.getElem?_cons_zero]; rfl) rfl (by kernel_rfl) rfl (fun K hK => ?_)
    go_simp
    have hc := works_any z8
    refine hc.mono ?_
    clear hc
    rintro e z9 ⟨rfl, hz⟩
    have hS9 : Kept u z9 := hS8.below q8 hz
    have q9 : u.heap.size ≤ z9.heap.size := Nat.le_trans q8 hz.size
    have B9 := hide (B8.out.trans (hz.mono q8))
    clear hz
    go_wp2_with fail
    refine hK.out _ _ hS9 (fun hSn => ?_)
    clear hK K
    try simp only [List.setIfInBounds_toArray, List.set_cons_zero, List.set_cons_succ]
    refine take_at (i := 30) (d := 49) (v := ?_) (by simp only [List.getElem?_toArray, List.getElem?_cons_succ, List.getElem?_cons_zero]; rfl) rfl (by kernel_rfl) (by kernel_rfl) (by kernel_rfl) (fun _ _ _ h => h) rfl ?_ (by assumption) ?_
    rotate_left
    focus (intro w hSw; go_simp; (try with_reducible rfl); done)
    try simp only [List.setIfInBounds_toArray, List.set_cons_zero, List.set_cons_succ]
    refine take_at (i := 31) (d := 14) (v := ?_) (by simp only [List.getElem?_toArray, List.getElem?_cons_succ, List.getElem?_cons_zero]; rfl) rfl (by kernel_rfl) (by kernel_rfl) (by kernel_rfl) (fun _ _ _ h => h) rfl ?_ (by assumption) ?_
    rotate_left
    focus (intro w hSw; go_simp; (try with_reducible rfl); done)
    try simp only [List.setIfInBounds_toArray, List.set_cons_zero, List.set_cons_succ]
    refine wpAnyH_done (by kernel_rfl) ?_ _
    have HF := hide (hbu.out.trans (B9.out.mono (by omega)))
    go_wp2
    go_ret
    exact ⟨rfl, HF.out⟩
theorem algosPart_walk (w : World) (k j1 j2 j3 j4 : Int) (hk : 0 ≤ k ∧ k ≤ 255) (hj1 : i64B j1) (hj2 : i64B j2) (hj3 : i64B j3) (hj4 : i64B j4) (was : Int) (h1 : -9223372036854775808 ≤ was) (h2 : was ≤ 9223372036854775807) (val : Int) (h3 : -9223372036854775808 ≤ val) (h4 : val ≤ 9223372036854775807) (chg : Bool)
    (A : Option Addr) (es : List Ed) (c : Nat) (hE : Eds w w.heap.size A es) (hl : es.length ≤ c) (hc : c ≤ 9223372036854775807) (hB : ∀ e ∈ es, edB e) (a1 a2 : Int) (ha1 : i64B a1) (ha2 : i64B a2) (b1 b2 : Int) (hb1 : i64B b1) (hb2 : i64B b2) :
    Calls Tryz.prog 8 #[.agg #[.int .u8 k, .int .i64 j1, .int .i64 j2, .int .i64 j3, .int .i64 j4], .int .i64 was, .int .i64 val, .bool chg, .slice A es.length c, .agg #[.int .i64 a1, .int .i64 a2], .agg #[.int .i64 b1, .int .i64 b2]] w fun e w' => e = .returned (.bool true) ∧ Below w.heap.size w w' :=
  algosPart_go w k j1 j2 j3 j4 was val h1 h2 h3 h4 chg A es.length c a1 a2 b1 b2 ha1 ha2 hb1 hb2
end Go.Proofs.YtihlhkbdgbkafaaGreat
namespace Go.Proofs.YtihlhkbdgbkafaaGreat
open Go.RowKit
set_option linter.unusedVariables false
set_option linter.unusedSimpArgs false
theorem dadd_comm (a b : Int) : dadd a b = dadd b a := by unfold dadd; rw [Int.add_comm]
theorem dist_nn {a : Int} (h : 0 ≤ a) : dist a = min a 4611686018427387904 := by unfold dist; (repeat' split) <;> omega
theorem dadd_nn {a b : Int} (h1 : 0 ≤ a) (h2 : 0 ≤ b) : dadd a b = min (a + b) 4611686018427387904 := by unfold dadd; rw [dist_nn h1, dist_nn h2]; split <;> omega
theorem dadd_assoc {a b c : Int} (h1 : 0 ≤ a) (h2 : 0 ≤ b) (h3 : 0 ≤ c) : dadd (dadd a b) c = dadd a (dadd b c) := by
  have e1 := dadd_nn h1 h2
  have e2 := dadd_nn h2 h3
  rw [e1, e2, dadd_nn (by omega) h3, dadd_nn h1 (by omega)]
  omega
theorem combF_comm (k a b : Int) : combF k a b = combF k b a := by unfold combF; rw [dadd_comm, Int.min_comm]
theorem combF_assoc (k : Int) {a b c : Int} (h1 : 0 ≤ a) (h2 : 0 ≤ b) (h3 : 0 ≤ c) : combF k (combF k a b) c = combF k a (combF k b c) := by
  unfold combF
  by_cases k1 : k = 1
  · simp only [k1, if_true]; exact dadd_assoc h1 h2 h3
  · by_cases k2 : k = 2 ∨ k = 3
    · simp only [k1, k2, if_true, if_false]; omega
    · simp only [k1, k2, if_false]
theorem combF_b (k : Int) {a b : Int} (h1 : 0 ≤ a) (h2 : 0 ≤ b) (h3 : a ≤ 9223372036854775807) (h4 : b ≤ 9223372036854775807) : i64B (combF k a b) := by
  unfold combF i64B
  have := dadd_nn h1 h2
  (repeat' split) <;> omega
theorem joinF_comm (k s m q r : Int) : joinF k s m q r = joinF k q r s m := by unfold joinF; rw [dadd_comm s q, dadd_comm m r, Int.max_comm]
theorem joinF_assoc (k : Int) {a b c d e f : Int} (h1 : 0 ≤ a) (h2 : 0 ≤ b) (h3 : 0 ≤ c) (h4 : 0 ≤ d) (h5 : 0 ≤ e) (h6 : 0 ≤ f) : joinF k (joinF k a b c d).1 (joinF k a b c d).2 e f = joinF k a b (joinF k c d e f).1 (joinF k c d e f).2 := by
  unfold joinF
  by_cases k1 : k = 1
  · simp only [k1, if_true]
    rw [dadd_assoc h1 h3 h5, Int.max_assoc]
  · by_cases k2 : k = 2 ∨ k = 3
    · simp only [k1, k2, if_true, if_false]
      rw [dadd_assoc h1 h3 h5, dadd_assoc h2 h4 h6]
    · simp only [k1, k2, if_false]
theorem joinF_b (k : Int) {a b c d : Int} (h1 : 0 ≤ a) (h2 : 0 ≤ b) (h3 : 0 ≤ c) (h4 : 0 ≤ d) (g1 : a ≤ 9223372036854775807) (g2 : b ≤ 9223372036854775807) (g3 : c ≤ 9223372036854775807) (g4 : d ≤ 9223372036854775807) : i64B (joinF k a b c d).1 ∧ i64B (joinF k a b c d).2 := by
  unfold joinF i64B
  have e1 := dadd_nn h1 h3
  have e2 := dadd_nn h2 h4
  by_cases k1 : k = 1
  · simp only [k1, if_true]; omega
  · by_cases k2 : k = 2 ∨ k = 3
    · simp only [k1, k2, if_true, if_false]; omega
    · simp only [k1, k2, if_false]; omega
set_option maxRecDepth 100000 in
set_option maxHeartbeats 32000000 in
theorem algosOrder_go (w : World) (k j1 j2 j3 j4 a b c : Int) (ha : i64B a) (hb : i64B b) (hc0 : i64B c) :
    Calls Tryz.prog 7 #[.agg #[.int .u8 k, .int .i64 j1, .int .i64 j2, .int .i64 j3, .int .i64 j4], .int .i64 a, .int .i64 b, .int .i64 c] w fun e w' => e = .returned (.bool true) ∧ Below w.heap.size w w' := by
  obtain ⟨u, hu⟩ : ∃ u, w.alloc (.cells #[.int .u8 k, .int .i64 j1, .int .i64 j2, .int .i64 j3, .int .i64 j4] 28) = u := ⟨_, rfl⟩
  have l0 : w.heap.size < u.heap.size := by rw [← hu]; simp
  have hbu := hide (show Below w.heap.size w u by rw [← hu]; exact (Below.refl _ _).alloc (Nat.le_refl _) _)
  have M0 := hide (show u.heap[w.heap.size]? = some (.cells #[.int .u8 k, .int .i64 j1, .int .i64 j2, .int .i64 j3, .int .i64 j4] 28) by rw [← hu]; exact heap_alloc_last _ _)
  have HU := hide hu
  clear hu
  by_cases ha0 : a < 0
  · obtain ⟨x, hx⟩ : ∃ x, combF k a b = x := ⟨_, rfl⟩
    have HX := hide hx
    clear hx
    go_enter Tryz.func7, Tryz.ntmps7
    go_upto_region 2 with fail
    rw [HU.out]
    have N0 := M0.out
    have c0 : u.cell? ⟨w.heap.size, 0, none⟩ = some (.int .u8 k) := cell_of_row _ _ 0 _ _ _ N0
    have c1 : u.cell? ⟨w.heap.size, 1, none⟩ = some (.int .i64 j1) := cell_of_row _ _ 1 _ _ _ N0
    have c2 : u.cell? ⟨w.heap.size, 2, none⟩ = some (.int .i64 j2) := cell_of_row _ _ 2 _ _ _ N0
    have c3 : u.cell? ⟨w.heap.size, 3, none⟩ = some (.int .i64 j3) := cell_of_row _ _ 3 _ _ _ N0
    have c4 : u.cell? ⟨w.heap.size, 4, none⟩ = some (.int .i64 j4) := cell_of_row _ _ 4 _ _ _ N0
    clear N0
    refine wp_region_held_drew (S := Kept u) (by kernel_rfl) (Kept.drew u) (fun hS0 => ?_)
    refine take_at (i := 0) (d := 24) (v := ?_) (by simp only [List.getElem?_toArray, List.getElem?_cons_succ, List.getElem?_cons_zero]; rfl) rfl (by kernel_rfl) (by kernel_rfl) (by kernel_rfl) (fun _ _ _ h => h) rfl ?_ (by assumption) ?_
    rotate_left
    focus (intro w hSw; go_simp; (try with_reducible rfl); done)
    try simp only [List.setIfInBounds_toArray, List.set_cons_zero, List.set_cons_succ]
    refine take_at (i := 1) (d := 25) (v := ?_) (by simp only [List.getElem?_toArray, List.getElem?_cons_succ, List.getElem?_cons_zero]; rfl) rfl (by kernel_rfl) (by kernel_rfl) (by kernel_rfl) (fun _ _ _ h => h) rfl ?_ (by assumption) ?_
    rotate_left
    focus (intro w hSw; go_simp; (try with_reducible rfl); done)
    try simp only [List.setIfInBounds_toArray, List.set_cons_zero, List.set_cons_succ]
    refine take_at (i := 2) (d := 26) (v := ?_) (by simp only [List.getElem?_toArray, List.getElem?_cons_succ, List.getElem?_cons_zero]; rfl) rfl (by kernel_rfl) (by kernel_rfl) (by kernel_rfl) (fun _ _ _ h => h) rfl ?_ (by assumption) ?_
    rotate_left
    focus (intro w hSw; go_simp; (try with_reducible rfl); done)
    try simp only [List.setIfInBounds_toArray, List.set_cons_zero, List.set_cons_succ]
    refine take_at (i := 4) (d := 28) (v := ?_) (by simp only [List.getElem?_toArray, List.getElem?_cons_succ, List.getElem?_cons_zero]; rfl) rfl (by kernel_rfl) (by kernel_rfl) (by kernel_rfl) (fun _ _ _ h => h) rfl ?_ (by assumption) ?_
    rotate_left
    focus (intro w hSw; go_simp; (try with_reducible rfl); done)
    try simp only [List.setIfInBounds_toArray, List.set_cons_zero, List.set_cons_succ]
    refine take_at (i := 5) (d := 29) (v := ?_) (by simp only [List.getElem?_toArray, List.getElem?_cons_succ, List.getElem?_cons_zero]; rfl) rfl (by kernel_rfl) (by kernel_rfl) (by kernel_rfl) (fun _ _ _ h => h) rfl ?_ (by assumption) ?_
    rotate_left
    focus (intro w hSw; go_simp; (try with_reducible rfl); done)
    try simp only [List.setIfInBounds_toArray, List.set_cons_zero, List.set_cons_succ]
    refine take_at (i := 6) (d := 30) (v := ?_) (by simp only [List.getElem?_toArray, List.getElem?_cons_succ, List.getElem?_cons_zero]; rfl) rfl (by kernel_rfl) (by kernel_rfl) (by kernel_rfl) (fun _ _ _ h => h) rfl ?_ (by assumption) ?_
    rotate_left
    focus (intro w hSw; go_simp; (try with_reducible rfl); done)
    try simp only [List.setIfInBounds_toArray, List.set_cons_zero, List.set_cons_succ]
    refine call_at (i := 3) (d := 27) (by simp only [List.getElem?_toArray, List.getElem?_cons_succ, List.getElem?_cons_zero]; rfl) rfl (by kernel_rfl) rfl (fun K hK => ?_)
    go_simp
    have hc := comb_any u.drew k j1 j2 j3 j4 a b ha.1 ha.2 hb.1 hb.2
    rw [HX.out] at hc
    refine hc.mono ?_
    clear hc
    rintro e z1 ⟨rfl, hz⟩
    have hS1 : Kept u z1 := hS0.below (by simp) hz
    have q1 : u.heap.size ≤ z1.heap.size := by have := hz.size; simpa using this
    have B1 := hide ((below_dr0 u.heap.size u).trans (hz.mono (Nat.le_refl _)))
    clear hz
    go_wp2_with fail
    refine hK.out _ _ hS1 (fun hSn => ?_)
    clear hK K
    try simp only [List.setIfInBounds_toArray, List.set_cons_zero, List.set_cons_succ]
    refine call_at (i := 7) (d := 31) (by simp only [List.getElem?_toArray, List.getElem?_cons_succ, List.getElem?_cons_zero]; rfl) rfl (by kernel_rfl) rfl (fun K hK => ?_)
    go_simp
    have hc := rcomb_any z1 k j1 j2 j3 j4 a b
    rw [HX.out] at hc
    refine hc.mono ?_
    clear hc
    rintro e z2 ⟨rfl, hz⟩
    have hS2 : Kept u z2 := hS1.below q1 hz
    have q2 : u.heap.size ≤ z2.heap.size := Nat.le_trans q1 hz.size
    have B2 := hide (B1.out.trans (hz.mono q1))
    clear hz
    go_wp2_with fail
    refine hK.out _ _ hS2 (fun hSn => ?_)
    clear hK K
    try simp only [List.setIfInBounds_toArray, List.set_cons_zero, List.set_cons_succ]
    refine take_at (i := 8) (d := 32) (v := ?_) (by simp only [List.getElem?_toArray, List.getElem?_cons_succ, List.getElem?_cons_zero]; rfl) rfl (by kernel_rfl) (by kernel_rfl) (by kernel_rfl) (fun _ _ _ h => h) rfl ?_ (by assumption) ?_
    rotate_left
    focus (intro w hSw; go_simp; (try with_reducible rfl); done)
    try simp only [List.setIfInBounds_toArray, List.set_cons_zero, List.set_cons_succ]
    refine take_at (i := 9) (d := 33) (v := ?_) (by simp only [List.getElem?_toArray, List.getElem?_cons_succ, List.getElem?_cons_zero]; rfl) rfl (by kernel_rfl) (by kernel_rfl) (by kernel_rfl) (fun _ _ _ h => h) rfl ?_ (by assumption) ?_
    rotate_left
    focus (intro w hSw; go_simp; (try with_reducible rfl); done)
    try simp only [List.setIfInBounds_toArray, List.set_cons_zero, List.set_cons_succ]
    refine call_at (i := 10) (d := 34) (by simp only [List.getElem?_toArray, List.getElem?_cons_succ, List.getElem?_cons_zero]; rfl) rfl (by kernel_rfl) rfl (fun K hK => ?_)
    go_simp
    have hc := works_any z2
    refine hc.mono ?_
    clear hc
    rintro e z3 ⟨rfl, hz⟩
    have hS3 : Kept u z3 := hS2.below q2 hz
    have q3 : u.heap.size ≤ z3.heap.size := Nat.le_trans q2 hz.size
    have B3 := hide (B2.out.trans (hz.mono q2))
    clear hz
    go_wp2_with fail
    refine hK.out _ _ hS3 (fun hSn => ?_)
    clear hK K
    try simp only [List.setIfInBounds_toArray, List.set_cons_zero, List.set_cons_succ]
    refine take_at (i := 11) (d := 35) (v := ?_) (by simp only [List.getElem?_toArray, List.getElem?_cons_succ, List.getElem?_cons_zero]; rfl) rfl (by kernel_rfl) (by kernel_rfl) (by kernel_rfl) (fun _ _ _ h => h) rfl ?_ (by assumption) ?_
    rotate_left
    focus (intro w hSw; go_simp; (try with_reducible rfl); done)
    try simp only [List.setIfInBounds_toArray, List.set_cons_zero, List.set_cons_succ]
    refine take_at (i := 12) (d := 8) (v := ?_) (by simp only [List.getElem?_toArray, List.getElem?_cons_succ, List.getElem?_cons_zero]; rfl) rfl (by kernel_rfl) (by kernel_rfl) (by kernel_rfl) (fun _ _ _ h => h) rfl ?_ (by assumption) ?_
    rotate_left
    focus (intro w hSw; go_simp; (try with_reducible rfl); done)
    try simp only [List.setIfInBounds_toArray, List.set_cons_zero, List.set_cons_succ]
    refine wpAnyH_done (by kernel_rfl) ?_ _
    have HF := hide (hbu.out.trans (B3.out.mono (by omega)))
    go_wp2
    go_ret
    exact ⟨rfl, HF.out⟩
  by_cases hb0 : b < 0
  · obtain ⟨x, hx⟩ : ∃ x, combF k a b = x := ⟨_, rfl⟩
    have HX := hide hx
    clear hx
    go_enter Tryz.func7, Tryz.ntmps7
    go_upto_region 2 with fail
    rw [HU.out]
    have N0 := M0.out
    have c0 : u.cell? ⟨w.heap.size, 0, none⟩ = some (.int .u8 k) := cell_of_row _ _ 0 _ _ _ N0
    have c1 : u.cell? ⟨w.heap.size, 1, none⟩ = some (.int .i64 j1) := cell_of_row _ _ 1 _ _ _ N0
    have c2 : u.cell? ⟨w.heap.size, 2, none⟩ = some (.int .i64 j2) := cell_of_row _ _ 2 _ _ _ N0
    have c3 : u.cell? ⟨w.heap.size, 3, none⟩ = some (.int .i64 j3) := cell_of_row _ _ 3 _ _ _ N0
    have c4 : u.cell? ⟨w.heap.size, 4, none⟩ = some (.int .i64 j4) := cell_of_row _ _ 4 _ _ _ N0
    clear N0
    refine wp_region_held_drew (S := Kept u) (by kernel_rfl) (Kept.drew u) (fun hS0 => ?_)
    refine take_at (i := 0) (d := 24) (v := ?_) (by simp only [List.getElem?_toArray, List.getElem?_cons_succ, List.getElem?_cons_zero]; rfl) rfl (by kernel_rfl) (by kernel_rfl) (by kernel_rfl) (fun _ _ _ h => h) rfl ?_ (by assumption) ?_
    rotate_left
    focus (intro w hSw; go_simp; (try with_reducible rfl); done)
    try simp only [List.setIfInBounds_toArray, List.set_cons_zero, List.set_cons_succ]
    refine take_at (i := 1) (d := 25) (v := ?_) (by simp only [List.getElem?_toArray, List.getElem?_cons_succ, List.getElem?_cons_zero]; rfl) rfl (by kernel_rfl) (by kernel_rfl) (by kernel_rfl) (fun _ _ _ h => h) rfl ?_ (by assumption) ?_
    rotate_left
    focus (intro w hSw; go_simp; (try with_reducible rfl); done)
    try simp only [List.setIfInBounds_toArray, List.set_cons_zero, List.set_cons_succ]
    refine take_at (i := 2) (d := 26) (v := ?_) (by simp only [List.getElem?_toArray, List.getElem?_cons_succ, List.getElem?_cons_zero]; rfl) rfl (by kernel_rfl) (by kernel_rfl) (by kernel_rfl) (fun _ _ _ h => h) rfl ?_ (by assumption) ?_
    rotate_left
    focus (intro w hSw; go_simp; (try with_reducible rfl); done)
    try simp only [List.setIfInBounds_toArray, List.set_cons_zero, List.set_cons_succ]
    refine take_at (i := 4) (d := 28) (v := ?_) (by simp only [List.getElem?_toArray, List.getElem?_cons_succ, List.getElem?_cons_zero]; rfl) rfl (by kernel_rfl) (by kernel_rfl) (by kernel_rfl) (fun _ _ _ h => h) rfl ?_ (by assumption) ?_
    rotate_left
    focus (intro w hSw; go_simp; (try with_reducible rfl); done)
    try simp only [List.setIfInBounds_toArray, List.set_cons_zero, List.set_cons_succ]
    refine take_at (i := 5) (d := 29) (v := ?_) (by simp only [List.getElem?_toArray, List.getElem?_cons_succ, List.getElem?_cons_zero]; rfl) rfl (by kernel_rfl) (by kernel_rfl) (by kernel_rfl) (fun _ _ _ h => h) rfl ?_ (by assumption) ?_
    rotate_left
    focus (intro w hSw; go_simp; (try with_reducible rfl); done)
    try simp only [List.setIfInBounds_toArray, List.set_cons_zero, List.set_cons_succ]
    refine take_at (i := 6) (d := 30) (v := ?_) (by simp only [List.getElem?_toArray, List.getElem?_cons_succ, List.getElem?_cons_zero]; rfl) rfl (by kernel_rfl) (by kernel_rfl) (by kernel_rfl) (fun _ _ _ h => h) rfl ?_ (by assumption) ?_
    rotate_left
    focus (intro w hSw; go_simp; (try with_reducible rfl); done)
    try simp only [List.setIfInBounds_toArray, List.set_cons_zero, List.set_cons_succ]
    refine call_at (i := 3) (d := 27) (by simp only [List.getElem?_toArray, List.getElem?_cons_succ, List.getElem?_cons_zero]; rfl) rfl (by kernel_rfl) rfl (fun K hK => ?_)
    go_simp
    have hc := comb_any u.drew k j1 j2 j3 j4 a b ha.1 ha.2 hb.1 hb.2
    rw [HX.out] at hc
    refine hc.mono ?_
    clear hc
    rintro e z1 ⟨rfl, hz⟩
    have hS1 : Kept u z1 := hS0.below (by simp) hz
    have q1 : u.heap.size ≤ z1.heap.size := by have := hz.size; simpa using this
    have B1 := hide ((below_dr0 u.heap.size u).trans (hz.mono (Nat.le_refl _)))
    clear hz
    go_wp2_with fail
    refine hK.out _ _ hS1 (fun hSn => ?_)
    clear hK K
    try simp only [List.setIfInBounds_toArray, List.set_cons_zero, List.set_cons_succ]
    refine call_at (i := 7) (d := 31) (by simp only [List.getElem?_toArray, List.getElem?_cons_succ, List.getElem?_cons_zero]; rfl) rfl (by kernel_rfl) rfl (fun K hK => ?_)
    go_simp
    have hc := rcomb_any z1 k j1 j2 j3 j4 a b
    rw [HX.out] at hc
    refine hc.mono ?_
    clear hc
    rintro e z2 ⟨rfl, hz⟩
    have hS2 : Kept u z2 := hS1.below q1 hz
    have q2 : u.heap.size ≤ z2.heap.size := Nat.le_trans q1 hz.size
    have B2 := hide (B1.out.trans (hz.mono q1))
    clear hz
    go_wp2_with fail
    refine hK.out _ _ hS2 (fun hSn => ?_)
    clear hK K
    try simp only [List.setIfInBounds_toArray, List.set_cons_zero, List.set_cons_succ]
    refine take_at (i := 8) (d := 32) (v := ?_) (by simp only [List.getElem?_toArray, List.getElem?_cons_succ, List.getElem?_cons_zero]; rfl) rfl (by kernel_rfl) (by kernel_rfl) (by kernel_rfl) (fun _ _ _ h => h) rfl ?_ (by assumption) ?_
    rotate_left
    focus (intro w hSw; go_simp; (try with_reducible rfl); done)
    try simp only [List.setIfInBounds_toArray, List.set_cons_zero, List.set_cons_succ]
    refine take_at (i := 9) (d := 33) (v := ?_) (by simp only [List.getElem?_toArray, List.getElem?_cons_succ, List.getElem?_cons_zero]; rfl) rfl (by kernel_rfl) (by kernel_rfl) (by kernel_rfl) (fun _ _ _ h => h) rfl ?_ (by assumption) ?_
    rotate_left
    focus (intro w hSw; go_simp; (try with_reducible rfl); done)
    try simp only [List.setIfInBounds_toArray, List.set_cons_zero, List.set_cons_succ]
    refine call_at (i := 10) (d := 34) (by simp only [List.getElem?_toArray, List.getElem?_cons_succ, List.getElem?_cons_zero]; rfl) rfl (by kernel_rfl) rfl (fun K hK => ?_)
    go_simp
    have hc := works_any z2
    refine hc.mono ?_
    clear hc
    rintro e z3 ⟨rfl, hz⟩
    have hS3 : Kept u z3 := hS2.below q2 hz
    have q3 : u.heap.size ≤ z3.heap.size := Nat.le_trans q2 hz.size
    have B3 := hide (B2.out.trans (hz.mono q2))
    clear hz
    go_wp2_with fail
    refine hK.out _ _ hS3 (fun hSn => ?_)
    clear hK K
    try simp only [List.setIfInBounds_toArray, List.set_cons_zero, List.set_cons_succ]
    refine take_at (i := 11) (d := 35) (v := ?_) (by simp only [List.getElem?_toArray, List.getElem?_cons_succ, List.getElem?_cons_zero]; rfl) rfl (by kernel_rfl) (by kernel_rfl) (by kernel_rfl) (fun _ _ _ h => h) rfl ?_ (by assumption) ?_
    rotate_left
    focus (intro w hSw; go_simp; (try with_reducible rfl); done)
    try simp only [List.setIfInBounds_toArray, List.set_cons_zero, List.set_cons_succ]
    refine take_at (i := 12) (d := 8) (v := ?_) (by simp only [List.getElem?_toArray, List.getElem?_cons_succ, List.getElem?_cons_zero]; rfl) rfl (by kernel_rfl) (by kernel_rfl) (by kernel_rfl) (fun _ _ _ h => h) rfl ?_ (by assumption) ?_
    rotate_left
    focus (intro w hSw; go_simp; (try with_reducible rfl); done)
    try simp only [List.setIfInBounds_toArray, List.set_cons_zero, List.set_cons_succ]
    refine wpAnyH_done (by kernel_rfl) ?_ _
    have HF := hide (hbu.out.trans (B3.out.mono (by omega)))
    go_wp2
    go_ret
    exact ⟨rfl, HF.out⟩
  by_cases hcc : c < 0
  · obtain ⟨x, hx⟩ : ∃ x, combF k a b = x := ⟨_, rfl⟩
    have HX := hide hx
    clear hx
    go_enter Tryz.func7, Tryz.ntmps7
    go_upto_region 2 with fail
    rw [HU.out]
    have N0 := M0.out
    have c0 : u.cell? ⟨w.heap.size, 0, none⟩ = some (.int .u8 k) := cell_of_row _ _ 0 _ _ _ N0
    have c1 : u.cell? ⟨w.heap.size, 1, none⟩ = some (.int .i64 j1) := cell_of_row _ _ 1 _ _ _ N0
    have c2 : u.cell? ⟨w.heap.size, 2, none⟩ = some (.int .i64 j2) := cell_of_row _ _ 2 _ _ _ N0
    have c3 : u.cell? ⟨w.heap.size, 3, none⟩ = some (.int .i64 j3) := cell_of_row _ _ 3 _ _ _ N0
    have c4 : u.cell? ⟨w.heap.size, 4, none⟩ = some (.int .i64 j4) := cell_of_row _ _ 4 _ _ _ N0
    clear N0
    refine wp_region_held_drew (S := Kept u) (by kernel_rfl) (Kept.drew u) (fun hS0 => ?_)
    refine take_at (i := 0) (d := 24) (v := ?_) (by simp only [List.getElem?_toArray, List.getElem?_cons_succ, List.getElem?_cons_zero]; rfl) rfl (by kernel_rfl) (by kernel_rfl) (by kernel_rfl) (fun _ _ _ h => h) rfl ?_ (by assumption) ?_
    rotate_left
    focus (intro w hSw; go_simp; (try with_reducible rfl); done)
    try simp only [List.setIfInBounds_toArray, List.set_cons_zero, List.set_cons_succ]
    refine take_at (i := 1) (d := 25) (v := ?_) (by simp only [List.getElem?_toArray, List.getElem?_cons_succ, List.getElem?_cons_zero]; rfl) rfl (by kernel_rfl) (by kernel_rfl) (by kernel_rfl) (fun _ _ _ h => h) rfl ?_ (by assumption) ?_
    rotate_left
    focus (intro w hSw; go_simp; (try with_reducible rfl); done)
    try simp only [List.setIfInBounds_toArray, List.set_cons_zero, List.set_cons_succ]
    refine take_at (i := 2) (d := 26) (v := ?_) (by simp only [List.getElem?_toArray, List.getElem?_cons_succ, List.getElem?_cons_zero]; rfl) rfl (by kernel_rfl) (by kernel_rfl) (by kernel_rfl) (fun _ _ _ h => h) rfl ?_ (by assumption) ?_
    rotate_left
    focus (intro w hSw; go_simp; (try with_reducible rfl); done)
    try simp only [List.setIfInBounds_toArray, List.set_cons_zero, List.set_cons_succ]
    refine take_at (i := 4) (d := 28) (v := ?_) (by simp only [List.getElem?_toArray, List.getElem?_cons_succ, List.getElem?_cons_zero]; rfl) rfl (by kernel_rfl) (by kernel_rfl) (by kernel_rfl) (fun _ _ _ h => h) rfl ?_ (by assumption) ?_
    rotate_left
    focus (intro w hSw; go_simp; (try with_reducible rfl); done)
    try simp only [List.setIfInBounds_toArray, List.set_cons_zero, List.set_cons_succ]
    refine take_at (i := 5) (d := 29) (v := ?_) (by simp only [List.getElem?_toArray, List.getElem?_cons_succ, List.getElem?_cons_zero]; rfl) rfl (by kernel_rfl) (by kernel_rfl) (by kernel_rfl) (fun _ _ _ h => h) rfl ?_ (by assumption) ?_
    rotate_left
    focus (intro w hSw; go_simp; (try with_reducible rfl); done)
    try simp only [List.setIfInBounds_toArray, List.set_cons_zero, List.set_cons_succ]
    refine take_at (i := 6) (d := 30) (v := ?_) (by simp only [List.getElem?_toArray, List.getElem?_cons_succ, List.getElem?_cons_zero]; rfl) rfl (by kernel_rfl) (by kernel_rfl) (by kernel_rfl) (fun _ _ _ h => h) rfl ?_ (by assumption) ?_
    rotate_left
    focus (intro w hSw; go_simp; (try with_reducible rfl); done)
    try simp only [List.setIfInBounds_toArray, List.set_cons_zero, List.set_cons_succ]
    refine call_at (i := 3) (d := 27) (by simp only [List.getElem?_toArray, List.getElem?_cons_succ, List.getElem?_cons_zero]; rfl) rfl (by kernel_rfl) rfl (fun K hK => ?_)
    go_simp
    have hc := comb_any u.drew k j1 j2 j3 j4 a b ha.1 ha.2 hb.1 hb.2
    rw [HX.out] at hc
    refine hc.mono ?_
    clear hc
    rintro e z1 ⟨rfl, hz⟩
    have hS1 : Kept u z1 := hS0.below (by simp) hz
    have q1 : u.heap.size ≤ z1.heap.size := by have := hz.size; simpa using this
    have B1 := hide ((below_dr0 u.heap.size u).trans (hz.mono (Nat.le_refl _)))
    clear hz
    go_wp2_with fail
    refine hK.out _ _ hS1 (fun hSn => ?_)
    clear hK K
    try simp only [List.setIfInBounds_toArray, List.set_cons_zero, List.set_cons_succ]
    refine call_at (i := 7) (d := 31) (by simp only [List.getElem?_toArray, List.getElem?_cons_succ, List.getElem?_cons_zero]; rfl) rfl (by kernel_rfl) rfl (fun K hK => ?_)
    go_simp
    have hc := rcomb_any z1 k j1 j2 j3 j4 a b
    rw [HX.out] at hc
    refine hc.mono ?_
    clear hc
    rintro e z2 ⟨rfl, hz⟩
    have hS2 : Kept u z2 := hS1.below q1 hz
    have q2 : u.heap.size ≤ z2.heap.size := Nat.le_trans q1 hz.size
    have B2 := hide (B1.out.trans (hz.mono q1))
    clear hz
    go_wp2_with fail
    refine hK.out _ _ hS2 (fun hSn => ?_)
    clear hK K
    try simp only [List.setIfInBounds_toArray, List.set_cons_zero, List.set_cons_succ]
    refine take_at (i := 8) (d := 32) (v := ?_) (by simp only [List.getElem?_toArray, List.getElem?_cons_succ, List.getElem?_cons_zero]; rfl) rfl (by kernel_rfl) (by kernel_rfl) (by kernel_rfl) (fun _ _ _ h => h) rfl ?_ (by assumption) ?_
    rotate_left
    focus (intro w hSw; go_simp; (try with_reducible rfl); done)
    try simp only [List.setIfInBounds_toArray, List.set_cons_zero, List.set_cons_succ]
    refine take_at (i := 9) (d := 33) (v := ?_) (by simp only [List.getElem?_toArray, List.getElem?_cons_succ, List.getElem?_cons_zero]; rfl) rfl (by kernel_rfl) (by kernel_rfl) (by kernel_rfl) (fun _ _ _ h => h) rfl ?_ (by assumption) ?_
    rotate_left
    focus (intro w hSw; go_simp; (try with_reducible rfl); done)
    try simp only [List.setIfInBounds_toArray, List.set_cons_zero, List.set_cons_succ]
    refine call_at (i := 10) (d := 34) (by simp only [List.getElem?_toArray, List.getElem?_cons_succ, List.getElem?_cons_zero]; rfl) rfl (by kernel_rfl) rfl (fun K hK => ?_)
    go_simp
    have hc := works_any z2
    refine hc.mono ?_
    clear hc
    rintro e z3 ⟨rfl, hz⟩
    have hS3 : Kept u z3 := hS2.below q2 hz
    have q3 : u.heap.size ≤ z3.heap.size := Nat.le_trans q2 hz.size
    have B3 := hide (B2.out.trans (hz.mono q2))
    clear hz
    go_wp2_with fail
    refine hK.out _ _ hS3 (fun hSn => ?_)
    clear hK K
    try simp only [List.setIfInBounds_toArray, List.set_cons_zero, List.set_cons_succ]
    refine take_at (i := 11) (d := 35) (v := ?_) (by simp only [List.getElem?_toArray, List.getElem?_cons_succ, List.getElem?_cons_zero]; rfl) rfl (by kernel_rfl) (by kernel_rfl) (by kernel_rfl) (fun _ _ _ h => h) rfl ?_ (by assumption) ?_
    rotate_left
    focus (intro w hSw; go_simp; (try with_reducible rfl); done)
    try simp only [List.setIfInBounds_toArray, List.set_cons_zero, List.set_cons_succ]
    refine take_at (i := 12) (d := 8) (v := ?_) (by simp only [List.getElem?_toArray, List.getElem?_cons_succ, List.getElem?_cons_zero]; rfl) rfl (by kernel_rfl) (by kernel_rfl) (by kernel_rfl) (fun _ _ _ h => h) rfl ?_ (by assumption) ?_
    rotate_left
    focus (intro w hSw; go_simp; (try with_reducible rfl); done)
    try simp only [List.setIfInBounds_toArray, List.set_cons_zero, List.set_cons_succ]
    refine wpAnyH_done (by kernel_rfl) ?_ _
    have HF := hide (hbu.out.trans (B3.out.mono (by omega)))
    go_wp2
    go_ret
    exact ⟨rfl, HF.out⟩
  have n1 : ¬ a < 0 := ha0
  have n2 : ¬ b < 0 := hb0
  have n3 : ¬ c < 0 := hcc
  replace ha0 : 0 ≤ a := by omega
  replace hb0 : 0 ≤ b := by omega
  replace hcc : 0 ≤ c := by omega
  obtain ⟨x, hx⟩ : ∃ z, combF k a b = z := ⟨_, rfl⟩
  have hxb := combF_b k ha0 hb0 ha.2 hb.2
  rw [hx] at hxb
  have HXC := hide ((combF_comm k b a).trans hx)
  obtain ⟨y, hy⟩ : ∃ z, combF k x c = z := ⟨_, rfl⟩
  obtain ⟨z, hz⟩ : ∃ z, combF k b c = z := ⟨_, rfl⟩
  have hzb := combF_b k hb0 hcc hb.2 hc0.2
  rw [hz] at hzb
  have HYA : Hid (combF k a z = y) := hide (by rw [← hy, ← hx, ← hz]; exact (combF_assoc k ha0 hb0 hcc).symm)
  have HX := hide hx
  have HY := hide hy
  have HZ := hide hz
  clear hx hy hz
  obtain ⟨⟨y1, y2⟩, hyy⟩ : ∃ z, joinF k a b b c = z := ⟨_, rfl⟩
  have byy := joinF_b k ha0 hb0 hb0 hcc ha.2 hb.2 hb.2 hc0.2
  rw [hyy] at byy
  have hy1 : i64B y1 := byy.1
  have hy2 : i64B y2 := byy.2
  clear byy
  have HP1 := hide (show (joinF k a b b c).1 = y1 by rw [hyy])
  have HP2 := hide (show (joinF k a b b c).2 = y2 by rw [hyy])
  have HQ1 := hide (show (joinF k b c a b).1 = y1 by rw [joinF_comm, hyy])
  have HQ2 := hide (show (joinF k b c a b).2 = y2 by rw [joinF_comm, hyy])
  obtain ⟨⟨t1, t2⟩, htt⟩ : ∃ z, joinF k b c c a = z := ⟨_, rfl⟩
  have btt := joinF_b k hb0 hcc hcc ha0 hb.2 hc0.2 hc0.2 ha.2
  rw [htt] at btt
  have ht1 : i64B t1 := btt.1
  have ht2 : i64B t2 := btt.2
  clear btt
  have HT1 := hide (show (joinF k b c c a).1 = t1 by rw [htt])
  have HT2 := hide (show (joinF k b c c a).2 = t2 by rw [htt])
  obtain ⟨⟨e1, e2⟩, hee⟩ : ∃ z, joinF k y1 y2 c a = z := ⟨_, rfl⟩
  have HE1 := hide (show (joinF k y1 y2 c a).1 = e1 by rw [hee])
  have HE2 := hide (show (joinF k y1 y2 c a).2 = e2 by rw [hee])
  have hasc : joinF k a b t1 t2 = (e1, e2) := by rw [← hee]; have h := joinF_assoc k ha0 hb0 hb0 hcc hcc ha0; rw [hyy, htt] at h; exact h.symm
  have HD1 := hide (show (joinF k a b t1 t2).1 = e1 by rw [hasc])
  have HD2 := hide (show (joinF k a b t1 t2).2 = e2 by rw [hasc])
  clear hyy htt hee hasc
  go_enter Tryz.func7, Tryz.ntmps7
  have N0 := M0.out
  have c0 : u.cell? ⟨w.heap.size, 0, none⟩ = some (.int .u8 k) := cell_of_row _ _ 0 _ _ _ N0
  have c1 : u.cell? ⟨w.heap.size, 1, none⟩ = some (.int .i64 j1) := cell_of_row _ _ 1 _ _ _ N0
  have c2 : u.cell? ⟨w.heap.size, 2, none⟩ = some (.int .i64 j2) := cell_of_row _ _ 2 _ _ _ N0
  have c3 : u.cell? ⟨w.heap.size, 3, none⟩ = some (.int .i64 j3) := cell_of_row _ _ 3 _ _ _ N0
  have c4 : u.cell? ⟨w.heap.size, 4, none⟩ = some (.int .i64 j4) := cell_of_row _ _ 4 _ _ _ N0
  clear N0
  go_wp2_with fail
  rw [HU.out]
  have hcl := comb_any u k j1 j2 j3 j4 a b ha.1 ha.2 hb.1 hb.2
  rw [HX.out] at hcl
  refine hcl.mono ?_
  clear hcl
  rintro e v ⟨rfl, hz⟩
  have MV := hide ((hz.block _ l0).trans M0.out)
  have hbv := hide (hbu.out.trans (hz.mono (by omega)))
  have l1 : w.heap.size < v.heap.size := by have := hz.size; omega
  clear hz
  clear c0 c1 c2 c3 c4
  have N0 := MV.out
  have c0 : v.cell? ⟨w.heap.size, 0, none⟩ = some (.int .u8 k) := cell_of_row _ _ 0 _ _ _ N0
  have c1 : v.cell? ⟨w.heap.size, 1, none⟩ = some (.int .i64 j1) := cell_of_row _ _ 1 _ _ _ N0
  have c2 : v.cell? ⟨w.heap.size, 2, none⟩ = some (.int .i64 j2) := cell_of_row _ _ 2 _ _ _ N0
  have c3 : v.cell? ⟨w.heap.size, 3, none⟩ = some (.int .i64 j3) := cell_of_row _ _ 3 _ _ _ N0
  have c4 : v.cell? ⟨w.heap.size, 4, none⟩ = some (.int .i64 j4) := cell_of_row _ _ 4 _ _ _ N0
  clear N0
  go_upto_region 4 with fail
  refine wp_region_held_drew (S := Kept v) (by kernel_rfl) (Kept.drew v) (fun hS0 => ?_)
  refine take_at (i := 0) (d := 40) (v := ?_) (by simp only [List.getElem?_toArray, List.getElem?_cons_succ, List.getElem?_cons_zero]; rfl) rfl (by kernel_rfl) (by kernel_rfl) (by kernel_rfl) (fun _ _ _ h => h) rfl ?_ (by assumption) ?_
  rotate_left
  focus (intro w hSw; go_simp; (try with_reducible rfl); done)
  try simp only [List.setIfInBounds_toArray, List.set_cons_zero, List.set_cons_succ]
  refine take_at (i := 1) (d := 41) (v := ?_) (by simp only [List.getElem?_toArray, List.getElem?_cons_succ, List.getElem?_cons_zero]; rfl) rfl (by kernel_rfl) (by kernel_rfl) (by kernel_rfl) (fun _ _ _ h => h) rfl ?_ (by assumption) ?_
  rotate_left
  focus (intro w hSw; go_simp; (try with_reducible rfl); done)
  try simp only [List.setIfInBounds_toArray, List.set_cons_zero, List.set_cons_succ]
  refine take_at (i := 2) (d := 42) (v := ?_) (by simp only [List.getElem?_toArray, List.getElem?_cons_succ, List.getElem?_cons_zero]; rfl) rfl (by kernel_rfl) (by kernel_rfl) (by kernel_rfl) (fun _ _ _ h => h) rfl ?_ (by assumption) ?_
  rotate_left
  focus (intro w hSw; go_simp; (try with_reducible rfl); done)
  try simp only [List.setIfInBounds_toArray, List.set_cons_zero, List.set_cons_succ]
  refine take_at (i := 3) (d := 43) (v := ?_) (by simp only [List.getElem?_toArray, List.getElem?_cons_succ, List.getElem?_cons_zero]; rfl) rfl (by kernel_rfl) (by kernel_rfl) (by kernel_rfl) (fun _ _ _ h => h) rfl ?_ (by assumption) ?_
  rotate_left
  focus (intro w hSw; go_simp; (try with_reducible rfl); done)
  try simp only [List.setIfInBounds_toArray, List.set_cons_zero, List.set_cons_succ]
  refine call_at (i := 4) (d := 44) (by simp only [List.getElem?_toArray, List.getElem?_cons_succ, List.getElem?_cons_zero]; rfl) rfl (by kernel_rfl) rfl (fun K hK => ?_)
  go_simp
  have hc := rcomb_any v.drew k j1 j2 j3 j4 a b
  rw [HX.out] at hc
  refine hc.mono ?_
  clear hc
  rintro e z1 ⟨rfl, hz⟩
  have hS1 : Kept v z1 := hS0.below (by simp) hz
  have q1 : v.heap.size ≤ z1.heap.size := by have := hz.size; simpa using this
  have B1 := hide ((below_dr0 v.heap.size v).trans (hz.mono (Nat.le_refl _)))
  clear hz
  go_wp2_with fail
  refine hK.out _ _ hS1 (fun hSn => ?_)
  clear hK K
  try simp only [List.setIfInBounds_toArray, List.set_cons_zero, List.set_cons_succ]
  refine take_at (i := 5) (d := 45) (v := ?_) (by simp only [List.getElem?_toArray, List.getElem?_cons_succ, List.getElem?_cons_zero]; rfl) rfl (by kernel_rfl) (by kernel_rfl) (by kernel_rfl) (fun _ _ _ h => h) rfl ?_ (by assumption) ?_
  rotate_left
  focus (intro w hSw; go_simp; (try with_reducible rfl); done)
  try simp only [List.setIfInBounds_toArray, List.set_cons_zero, List.set_cons_succ]
  refine take_at (i := 6) (d := 46) (v := ?_) (by simp only [List.getElem?_toArray, List.getElem?_cons_succ, List.getElem?_cons_zero]; rfl) rfl (by kernel_rfl) (by kernel_rfl) (by kernel_rfl) (fun _ _ _ h => h) rfl ?_ (by assumption) ?_
  rotate_left
  focus (intro w hSw; go_simp; (try with_reducible rfl); done)
  try simp only [List.setIfInBounds_toArray, List.set_cons_zero, List.set_cons_succ]
  refine take_at (i := 7) (d := 47) (v := ?_) (by simp only [List.getElem?_toArray, List.getElem?_cons_succ, List.getElem?_cons_zero]; rfl) rfl (by kernel_rfl) (by kernel_rfl) (by kernel_rfl) (fun _ _ _ h => h) rfl ?_ (by assumption) ?_
  rotate_left
  focus (intro w hSw; go_simp; (try with_reducible rfl); done)
  try simp only [List.setIfInBounds_toArray, List.set_cons_zero, List.set_cons_succ]
  refine take_at (i := 8) (d := 48) (v := ?_) (by simp only [List.getElem?_toArray, List.getElem?_cons_succ, List.getElem?_cons_zero]; rfl) rfl (by kernel_rfl) (by kernel_rfl) (by kernel_rfl) (fun _ _ _ h => h) rfl ?_ (by assumption) ?_
  rotate_left
  focus (intro w hSw; go_simp; (try with_reducible rfl); done)
  try simp only [List.setIfInBounds_toArray, List.set_cons_zero, List.set_cons_succ]
  refine take_at (i := 9) (d := 49) (v := ?_) (by simp only [List.getElem?_toArray, List.getElem?_cons_succ, List.getElem?_cons_zero]; rfl) rfl (by kernel_rfl) (by kernel_rfl) (by kernel_rfl) (fun _ _ _ h => h) rfl ?_ (by assumption) ?_
  rotate_left
  focus (intro w hSw; go_simp; (try with_reducible rfl); done)
  try simp only [List.setIfInBounds_toArray, List.set_cons_zero, List.set_cons_succ]
  refine take_at (i := 10) (d := 50) (v := ?_) (by simp only [List.getElem?_toArray, List.getElem?_cons_succ, List.getElem?_cons_zero]; rfl) rfl (by kernel_rfl) (by kernel_rfl) (by kernel_rfl) (fun _ _ _ h => h) rfl ?_ (by assumption) ?_
  rotate_left
  focus (intro w hSw; go_simp; (try with_reducible rfl); done)
  try simp only [List.setIfInBounds_toArray, List.set_cons_zero, List.set_cons_succ]
  refine call_at (i := 11) (d := 51) (by simp only [List.getElem?_toArray, List.getElem?_cons_succ, List.getElem?_cons_zero]; rfl) rfl (by kernel_rfl) rfl (fun K hK => ?_)
  go_simp
  have hc := comb_any z1 k j1 j2 j3 j4 b a hb.1 hb.2 ha.1 ha.2
  rw [HXC.out] at hc
  refine hc.mono ?_
  clear hc
  rintro e z2 ⟨rfl, hz⟩
  have hS2 : Kept v z2 := hS1.below q1 hz
  have q2 : v.heap.size ≤ z2.heap.size := Nat.le_trans q1 hz.size
  have B2 := hide (B1.out.trans (hz.mono q1))
  clear hz
  go_wp2_with fail
  refine hK.out _ _ hS2 (fun hSn => ?_)
  clear hK K
  try simp only [List.setIfInBounds_toArray, List.set_cons_zero, List.set_cons_succ]
  refine take_at (i := 12) (d := 52) (v := ?_) (by simp only [List.getElem?_toArray, List.getElem?_cons_succ, List.getElem?_cons_zero]; rfl) rfl (by kernel_rfl) (by kernel_rfl) (by kernel_rfl) (fun _ _ _ h => h) rfl ?_ (by assumption) ?_
  rotate_left
  focus (intro w hSw; go_simp; (try with_reducible rfl); done)
  try simp only [List.setIfInBounds_toArray, List.set_cons_zero, List.set_cons_succ]
  refine take_at (i := 13) (d := 53) (v := ?_) (by simp only [List.getElem?_toArray, List.getElem?_cons_succ, List.getElem?_cons_zero]; rfl) rfl (by kernel_rfl) (by kernel_rfl) (by kernel_rfl) (fun _ _ _ h => h) rfl ?_ (by assumption) ?_
  rotate_left
  focus (intro w hSw; go_simp; (try with_reducible rfl); done)
  try simp only [List.setIfInBounds_toArray, List.set_cons_zero, List.set_cons_succ]
  refine take_at (i := 14) (d := 54) (v := ?_) (by simp only [List.getElem?_toArray, List.getElem?_cons_succ, List.getElem?_cons_zero]; rfl) rfl (by kernel_rfl) (by kernel_rfl) (by kernel_rfl) (fun _ _ _ h => h) rfl ?_ (by assumption) ?_
  rotate_left
  focus (intro w hSw; go_simp; (try with_reducible rfl); done)
  try simp only [List.setIfInBounds_toArray, List.set_cons_zero, List.set_cons_succ]
  refine take_at (i := 15) (d := 55) (v := ?_) (by simp only [List.getElem?_toArray, List.getElem?_cons_succ, List.getElem?_cons_zero]; rfl) rfl (by kernel_rfl) (by kernel_rfl) (by kernel_rfl) (fun _ _ _ h => h) rfl ?_ (by assumption) ?_
  rotate_left
  focus (intro w hSw; go_simp; (try with_reducible rfl); done)
  try simp only [List.setIfInBounds_toArray, List.set_cons_zero, List.set_cons_succ]
  refine take_at (i := 16) (d := 56) (v := ?_) (by simp only [List.getElem?_toArray, List.getElem?_cons_succ, List.getElem?_cons_zero]; rfl) rfl (by kernel_rfl) (by kernel_rfl) (by kernel_rfl) (fun _ _ _ h => h) rfl ?_ (by assumption) ?_
  rotate_left
  focus (intro w hSw; go_simp; (try with_reducible rfl); done)
  try simp only [List.setIfInBounds_toArray, List.set_cons_zero, List.set_cons_succ]
  refine take_at (i := 17) (d := 57) (v := ?_) (by simp only [List.getElem?_toArray, List.getElem?_cons_succ, List.getElem?_cons_zero]; rfl) rfl (by kernel_rfl) (by kernel_rfl) (by kernel_rfl) (fun _ _ _ h => h) rfl ?_ (by assumption) ?_
  rotate_left
  focus (intro w hSw; go_simp; (try with_reducible rfl); done)
  try simp only [List.setIfInBounds_toArray, List.set_cons_zero, List.set_cons_succ]
  refine take_at (i := 19) (d := 59) (v := ?_) (by simp only [List.getElem?_toArray, List.getElem?_cons_succ, List.getElem?_cons_zero]; rfl) rfl (by kernel_rfl) (by kernel_rfl) (by kernel_rfl) (fun _ _ _ h => h) rfl ?_ (by assumption) ?_
  rotate_left
  focus (intro w hSw; go_simp; (try with_reducible rfl); done)
  try simp only [List.setIfInBounds_toArray, List.set_cons_zero, List.set_cons_succ]
  refine take_at (i := 20) (d := 60) (v := ?_) (by simp only [List.getElem?_toArray, List.getElem?_cons_succ, List.getElem?_cons_zero]; rfl) rfl (by kernel_rfl) (by kernel_rfl) (by kernel_rfl) (fun _ _ _ h => h) rfl ?_ (by assumption) ?_
  rotate_left
  focus (intro w hSw; go_simp; (try with_reducible rfl); done)
  try simp only [List.setIfInBounds_toArray, List.set_cons_zero, List.set_cons_succ]
  refine take_at (i := 21) (d := 61) (v := ?_) (by simp only [List.getElem?_toArray, List.getElem?_cons_succ, List.getElem?_cons_zero]; rfl) rfl (by kernel_rfl) (by kernel_rfl) (by kernel_rfl) (fun _ _ _ h => h) rfl ?_ (by assumption) ?_
  rotate_left
  focus (intro w hSw; go_simp; (try with_reducible rfl); done)
  try simp only [List.setIfInBounds_toArray, List.set_cons_zero, List.set_cons_succ]
  refine take_at (i := 22) (d := 62) (v := ?_) (by simp only [List.getElem?_toArray, List.getElem?_cons_succ, List.getElem?_cons_zero]; rfl) rfl (by kernel_rfl) (by kernel_rfl) (by kernel_rfl) (fun _ _ _ h => h) rfl ?_ (by assumption) ?_
  rotate_left
  focus (intro w hSw; go_simp; (try with_reducible rfl); done)
  try simp only [List.setIfInBounds_toArray, List.set_cons_zero, List.set_cons_succ]
  refine take_at (i := 23) (d := 63) (v := ?_) (by simp only [List.getElem?_toArray, List.getElem?_cons_succ, List.getElem?_cons_zero]; rfl) rfl (by kernel_rfl) (by kernel_rfl) (by kernel_rfl) (fun _ _ _ h => h) rfl ?_ (by assumption) ?_
  rotate_left
  focus (intro w hSw; go_simp; (try with_reducible rfl); done)
  try simp only [List.setIfInBounds_toArray, List.set_cons_zero, List.set_cons_succ]
  refine call_at (i := 18) (d := 58) (by simp only [List.getElem?_toArray, List.getElem?_cons_succ, List.getElem?_cons_zero]; rfl) rfl (by kernel_rfl) rfl (fun K hK => ?_)
  go_simp
  have hc := comb_any z2 k j1 j2 j3 j4 x c hxb.1 hxb.2 hc0.1 hc0.2
  rw [HY.out] at hc
  refine hc.mono ?_
  clear hc
  rintro e z3 ⟨rfl, hz⟩
  have hS3 : Kept v z3 := hS2.below q2 hz
  have q3 : v.heap.size ≤ z3.heap.size := Nat.le_trans q2 hz.size
  have B3 := hide (B2.out.trans (hz.mono q2))
  clear hz
  go_wp2_with fail
  refine hK.out _ _ hS3 (fun hSn => ?_)
  clear hK K
  try simp only [List.setIfInBounds_toArray, List.set_cons_zero, List.set_cons_succ]
  refine call_at (i := 24) (d := 64) (by simp only [List.getElem?_toArray, List.getElem?_cons_succ, List.getElem?_cons_zero]; rfl) rfl (by kernel_rfl) rfl (fun K hK => ?_)
  go_simp
  have hc := comb_any z3 k j1 j2 j3 j4 b c hb.1 hb.2 hc0.1 hc0.2
  rw [HZ.out] at hc
  refine hc.mono ?_
  clear hc
  rintro e z4 ⟨rfl, hz⟩
  have hS4 : Kept v z4 := hS3.below q3 hz
  have q4 : v.heap.size ≤ z4.heap.size := Nat.le_trans q3 hz.size
  have B4 := hide (B3.out.trans (hz.mono q3))
  clear hz
  go_wp2_with fail
  refine hK.out _ _ hS4 (fun hSn => ?_)
  clear hK K
  try simp only [List.setIfInBounds_toArray, List.set_cons_zero, List.set_cons_succ]
  refine call_at (i := 25) (d := 65) (by simp only [List.getElem?_toArray, List.getElem?_cons_succ, List.getElem?_cons_zero]; rfl) rfl (by kernel_rfl) rfl (fun K hK => ?_)
  go_simp
  have hc := comb_any z4 k j1 j2 j3 j4 a z ha.1 ha.2 hzb.1 hzb.2
  rw [HYA.out] at hc
  refine hc.mono ?_
  clear hc
  rintro e z5 ⟨rfl, hz⟩
  have hS5 : Kept v z5 := hS4.below q4 hz
  have q5 : v.heap.size ≤ z5.heap.size := Nat.le_trans q4 hz.size
  have B5 := hide (B4.out.trans (hz.mono q4))
  clear hz
  go_wp2_with fail
  refine hK.out _ _ hS5 (fun hSn => ?_)
  clear hK K
  try simp only [List.setIfInBounds_toArray, List.set_cons_zero, List.set_cons_succ]
  refine take_at (i := 26) (d := 66) (v := ?_) (by simp only [List.getElem?_toArray, List.getElem?_cons_succ, List.getElem?_cons_zero]; rfl) rfl (by kernel_rfl) (by kernel_rfl) (by kernel_rfl) (fun _ _ _ h => h) rfl ?_ (by assumption) ?_
  rotate_left
  focus (intro w hSw; go_simp; (try with_reducible rfl); done)
  try simp only [List.setIfInBounds_toArray, List.set_cons_zero, List.set_cons_succ]
  refine take_at (i := 27) (d := 67) (v := ?_) (by simp only [List.getElem?_toArray, List.getElem?_cons_succ, List.getElem?_cons_zero]; rfl) rfl (by kernel_rfl) (by kernel_rfl) (by kernel_rfl) (fun _ _ _ h => h) rfl ?_ (by assumption) ?_
  rotate_left
  focus (intro w hSw; go_simp; (try with_reducible rfl); done)
  try simp only [List.setIfInBounds_toArray, List.set_cons_zero, List.set_cons_succ]
  refine wpAnyH_done (by kernel_rfl) ?_ _
  clear hS0 hS1 hS2 hS3 hS4 hS5 hSn c0 c1 c2 c3 c4
  have M5 := hide ((B5.out.block _ l1).trans MV.out)
  have HB5 := hide (hbv.out.trans (B5.out.mono (by omega)))
  have l5 : w.heap.size < z5.heap.size := by omega
  clear B1 B2 B3 B4 B5 q1 q2 q3 q4
  have N0 := M5.out
  have c0 : z5.cell? ⟨w.heap.size, 0, none⟩ = some (.int .u8 k) := cell_of_row _ _ 0 _ _ _ N0
  have c1 : z5.cell? ⟨w.heap.size, 1, none⟩ = some (.int .i64 j1) := cell_of_row _ _ 1 _ _ _ N0
  have c2 : z5.cell? ⟨w.heap.size, 2, none⟩ = some (.int .i64 j2) := cell_of_row _ _ 2 _ _ _ N0
  have c3 : z5.cell? ⟨w.heap.size, 3, none⟩ = some (.int .i64 j3) := cell_of_row _ _ 3 _ _ _ N0
  have c4 : z5.cell? ⟨w.heap.size, 4, none⟩ = some (.int .i64 j4) := cell_of_row _ _ 4 _ _ _ N0
  clear N0
  obtain ⟨r, hr⟩ : ∃ r, ((z5.alloc (.cells #[.int .i64 a, .int .i64 b] 36)).alloc (.cells #[.int .i64 b, .int .i64 c] 36)).alloc (.cells #[.int .i64 c, .int .i64 a] 36) = r := ⟨_, rfl⟩
  have hzr : z5.heap.size + 1 + 1 < r.heap.size := by rw [← hr]; simp
  have hbr := hide (show Below z5.heap.size z5 r by rw [← hr]; exact (((Below.refl _ _).alloc (Nat.le_refl _) _).alloc (by simp) _).alloc (by simp; omega) _)
  have T0 := hide (show r.heap[z5.heap.size]? = some (Obj.cells #[.int .i64 a, .int .i64 b] 36) by rw [← hr]; exact heap_alloc_keep (heap_alloc_keep ((by have h := heap_alloc_last z5 (.cells #[.int .i64 a, .int .i64 b] 36); simpa using h))))
  have T1 := hide (show r.heap[z5.heap.size + 1]? = some (Obj.cells #[.int .i64 b, .int .i64 c] 36) by rw [← hr]; exact heap_alloc_keep ((by have h := heap_alloc_last (z5.alloc (.cells #[.int .i64 a, .int .i64 b] 36)) (.cells #[.int .i64 b, .int .i64 c] 36); simpa using h)))
  have T2 := hide (show r.heap[z5.heap.size + 1 + 1]? = some (Obj.cells #[.int .i64 c, .int .i64 a] 36) by rw [← hr]; exact (by have h := heap_alloc_last ((z5.alloc (.cells #[.int .i64 a, .int .i64 b] 36)).alloc (.cells #[.int .i64 b, .int .i64 c] 36)) (.cells #[.int .i64 c, .int .i64 a] 36); simpa using h))
  have HR := hide hr
  clear hr
  have MR := hide ((hbr.out.block _ l5).trans M5.out)
  clear c0 c1 c2 c3 c4
  have N0 := MR.out
  have c0 : r.cell? ⟨w.heap.size, 0, none⟩ = some (.int .u8 k) := cell_of_row _ _ 0 _ _ _ N0
  have c1 : r.cell? ⟨w.heap.size, 1, none⟩ = some (.int .i64 j1) := cell_of_row _ _ 1 _ _ _ N0
  have c2 : r.cell? ⟨w.heap.size, 2, none⟩ = some (.int .i64 j2) := cell_of_row _ _ 2 _ _ _ N0
  have c3 : r.cell? ⟨w.heap.size, 3, none⟩ = some (.int .i64 j3) := cell_of_row _ _ 3 _ _ _ N0
  have c4 : r.cell? ⟨w.heap.size, 4, none⟩ = some (.int .i64 j4) := cell_of_row _ _ 4 _ _ _ N0
  clear N0
  have d00 : r.cell? ⟨z5.heap.size, 0, none⟩ = some (.int .i64 a) := cell_of_row _ _ 0 _ _ _ T0.out
  have d01 : r.cell? ⟨z5.heap.size, 1, none⟩ = some (.int .i64 b) := cell_of_row _ _ 1 _ _ _ T0.out
  have d10 : r.cell? ⟨z5.heap.size + 1, 0, none⟩ = some (.int .i64 b) := cell_of_row _ _ 0 _ _ _ T1.out
  have d11 : r.cell? ⟨z5.heap.size + 1, 1, none⟩ = some (.int .i64 c) := cell_of_row _ _ 1 _ _ _ T1.out
  have d20 : r.cell? ⟨z5.heap.size + 1 + 1, 0, none⟩ = some (.int .i64 c) := cell_of_row _ _ 0 _ _ _ T2.out
  have d21 : r.cell? ⟨z5.heap.size + 1 + 1, 1, none⟩ = some (.int .i64 a) := cell_of_row _ _ 1 _ _ _ T2.out
  go_upto_region 7 with fail
  rw [HR.out]
  go_wp2_with fail
  have hcl := join_any r k j1 j2 j3 j4 a b b c ha hb hb hc0
  rw [HP1.out, HP2.out] at hcl
  refine hcl.mono ?_
  clear hcl
  rintro e v7 ⟨rfl, hz⟩
  have s7 := hz.size
  have BZ := hide hz
  obtain ⟨s, hs⟩ : ∃ s, v7.alloc (.cells #[.int .i64 y1, .int .i64 y2] 36) = s := ⟨_, rfl⟩
  have hs7 : v7.heap.size < s.heap.size := by rw [← hs]; simp
  have BS := hide (show Below r.heap.size r s by rw [← hs]; exact BZ.out.alloc s7 _)
  have T3 := hide (show s.heap[v7.heap.size]? = some (.cells #[.int .i64 y1, .int .i64 y2] 36) by rw [← hs]; exact heap_alloc_last _ _)
  have HSS := hide hs
  clear hs hz
  clear c0 c1 c2 c3 c4 d00 d01 d10 d11 d20 d21
  go_upto_region 8 with fail
  rw [HSS.out]
  have N0 := (BS.out.block _ (by have := hbr.out.size; omega)).trans MR.out
  have c0 : s.cell? ⟨w.heap.size, 0, none⟩ = some (.int .u8 k) := cell_of_row _ _ 0 _ _ _ N0
  have c1 : s.cell? ⟨w.heap.size, 1, none⟩ = some (.int .i64 j1) := cell_of_row _ _ 1 _ _ _ N0
  have c2 : s.cell? ⟨w.heap.size, 2, none⟩ = some (.int .i64 j2) := cell_of_row _ _ 2 _ _ _ N0
  have c3 : s.cell? ⟨w.heap.size, 3, none⟩ = some (.int .i64 j3) := cell_of_row _ _ 3 _ _ _ N0
  have c4 : s.cell? ⟨w.heap.size, 4, none⟩ = some (.int .i64 j4) := cell_of_row _ _ 4 _ _ _ N0
  clear N0
  have d00 : s.cell? ⟨z5.heap.size, 0, none⟩ = some (.int .i64 a) := cell_of_row _ _ 0 _ _ _ ((BS.out.block _ (by omega)).trans T0.out)
  have d01 : s.cell? ⟨z5.heap.size, 1, none⟩ = some (.int .i64 b) := cell_of_row _ _ 1 _ _ _ ((BS.out.block _ (by omega)).trans T0.out)
  have d10 : s.cell? ⟨z5.heap.size + 1, 0, none⟩ = some (.int .i64 b) := cell_of_row _ _ 0 _ _ _ ((BS.out.block _ (by omega)).trans T1.out)
  have d11 : s.cell? ⟨z5.heap.size + 1, 1, none⟩ = some (.int .i64 c) := cell_of_row _ _ 1 _ _ _ ((BS.out.block _ (by omega)).trans T1.out)
  have d20 : s.cell? ⟨z5.heap.size + 1 + 1, 0, none⟩ = some (.int .i64 c) := cell_of_row _ _ 0 _ _ _ ((BS.out.block _ (by omega)).trans T2.out)
  have d21 : s.cell? ⟨z5.heap.size + 1 + 1, 1, none⟩ = some (.int .i64 a) := cell_of_row _ _ 1 _ _ _ ((BS.out.block _ (by omega)).trans T2.out)
  have d30 : s.cell? ⟨v7.heap.size, 0, none⟩ = some (.int .i64 y1) := cell_of_row _ _ 0 _ _ _ T3.out
  have d31 : s.cell? ⟨v7.heap.size, 1, none⟩ = some (.int .i64 y2) := cell_of_row _ _ 1 _ _ _ T3.out
  have k0 : w.heap.size < s.heap.size := by have := hbr.out.size; omega
  have k1 : z5.heap.size < s.heap.size := by omega
  have k2 : z5.heap.size + 1 < s.heap.size := by omega
  have k3 : z5.heap.size + 1 + 1 < s.heap.size := by omega
  have HB8 := hide (HB5.out.trans ((hbr.out.trans (BS.out.mono (by omega))).mono (by omega)))
  clear hzr s7 l5 l1 l0 q5
  refine wp_region_held_drew (S := Kept s) (by kernel_rfl) (Kept.drew s) (fun hS0 => ?_)
  refine take_at (i := 0) (d := 81) (v := ?_) (by simp only [List.getElem?_toArray, List.getElem?_cons_succ, List.getElem?_cons_zero]; rfl) rfl (by kernel_rfl) (by kernel_rfl) (by kernel_rfl) (fun _ _ _ h => h) rfl ?_ (by assumption) ?_
  rotate_left
  focus (intro w hSw; go_simp; (try with_reducible rfl); done)
  try simp only [List.setIfInBounds_toArray, List.set_cons_zero, List.set_cons_succ]
  refine take_at (i := 1) (d := 82) (v := ?_) (by simp only [List.getElem?_toArray, List.getElem?_cons_succ, List.getElem?_cons_zero]; rfl) rfl (by kernel_rfl) (by kernel_rfl) (by kernel_rfl) (fun _ _ _ h => h) rfl ?_ (by assumption) ?_
  rotate_left
  focus (intro w hSw; go_simp; (try with_reducible rfl); done)
  try simp only [List.setIfInBounds_toArray, List.set_cons_zero, List.set_cons_succ]
  refine take_at (i := 2) (d := 83) (v := ?_) (by simp only [List.getElem?_toArray, List.getElem?_cons_succ, List.getElem?_cons_zero]; rfl) rfl (by kernel_rfl) (by kernel_rfl) (by kernel_rfl) (fun _ _ _ h => h) rfl ?_ (by assumption) ?_
  rotate_left
  focus (intro w hSw; go_simp; (try with_reducible rfl); done)
  try simp only [List.setIfInBounds_toArray, List.set_cons_zero, List.set_cons_succ]
  refine take_at (i := 3) (d := 84) (v := ?_) (by simp only [List.getElem?_toArray, List.getElem?_cons_succ, List.getElem?_cons_zero]; rfl) rfl (by kernel_rfl) (by kernel_rfl) (by kernel_rfl) (fun _ _ _ h => h) rfl ?_ (by assumption) ?_
  rotate_left
  focus (intro w hSw; go_simp; (try with_reducible rfl); done)
  try simp only [List.setIfInBounds_toArray, List.set_cons_zero, List.set_cons_succ]
  refine call_at (i := 4) (d := 85) (by simp only [List.getElem?_toArray, List.getElem?_cons_succ, List.getElem?_cons_zero]; rfl) rfl (by kernel_rfl) rfl (fun K hK => ?_)
  go_simp
  have hc := join_any s.drew k j1 j2 j3 j4 b c a b hb hc0 ha hb
  rw [HQ1.out, HQ2.out] at hc
  refine hc.mono ?_
  clear hc
  rintro e z1 ⟨rfl, hz⟩
  have hS1 : Kept s z1 := hS0.below (by simp) hz
  have q1 : s.heap.size ≤ z1.heap.size := by have := hz.size; simpa using this
  have B1 := hide ((below_dr0 s.heap.size s).trans (hz.mono (Nat.le_refl _)))
  clear hz
  go_wp2_with fail
  refine hK.out _ _ hS1 (fun hSn => ?_)
  clear hK K
  try simp only [List.setIfInBounds_toArray, List.set_cons_zero, List.set_cons_succ]
  refine take_at (i := 5) (d := 86) (v := ?_) (by simp only [List.getElem?_toArray, List.getElem?_cons_succ, List.getElem?_cons_zero]; rfl) rfl (by kernel_rfl) (by kernel_rfl) (by kernel_rfl) (fun _ _ _ h => h) rfl ?_ (by assumption) ?_
  rotate_left
  focus (intro w hSw; go_simp; (try with_reducible rfl); done)
  try simp only [List.setIfInBounds_toArray, List.set_cons_zero, List.set_cons_succ]
  refine take_at (i := 6) (d := 87) (v := ?_) (by simp only [List.getElem?_toArray, List.getElem?_cons_succ, List.getElem?_cons_zero]; rfl) rfl (by kernel_rfl) (by kernel_rfl) (by kernel_rfl) (fun _ _ _ h => h) rfl ?_ (by assumption) ?_
  rotate_left
  focus (intro w hSw; go_simp; (try with_reducible rfl); done)
  try simp only [List.setIfInBounds_toArray, List.set_cons_zero, List.set_cons_succ]
  refine take_at (i := 7) (d := 88) (v := ?_) (by simp only [List.getElem?_toArray, List.getElem?_cons_succ, List.getElem?_cons_zero]; rfl) rfl (by kernel_rfl) (by kernel_rfl) (by kernel_rfl) (fun _ _ _ h => h) rfl ?_ (by assumption) ?_
  rotate_left
  focus (intro w hSw; go_simp; (try with_reducible rfl); done)
  try simp only [List.setIfInBounds_toArray, List.set_cons_zero, List.set_cons_succ]
  refine take_at (i := 8) (d := 89) (v := ?_) (by simp only [List.getElem?_toArray, List.getElem?_cons_succ, List.getElem?_cons_zero]; rfl) rfl (by kernel_rfl) (by kernel_rfl) (by kernel_rfl) (fun _ _ _ h => h) rfl ?_ (by assumption) ?_
  rotate_left
  focus (intro w hSw; go_simp; (try with_reducible rfl); done)
  try simp only [List.setIfInBounds_toArray, List.set_cons_zero, List.set_cons_succ]
  refine take_at (i := 9) (d := 90) (v := ?_) (by simp only [List.getElem?_toArray, List.getElem?_cons_succ, List.getElem?_cons_zero]; rfl) rfl (by kernel_rfl) (by kernel_rfl) (by kernel_rfl) (fun _ _ _ h => h) rfl ?_ (by assumption) ?_
  rotate_left
  focus (intro w hSw; go_simp; (try with_reducible rfl); done)
  try simp only [List.setIfInBounds_toArray, List.set_cons_zero, List.set_cons_succ]
  refine take_at (i := 11) (d := 92) (v := ?_) (by simp only [List.getElem?_toArray, List.getElem?_cons_succ, List.getElem?_cons_zero]; rfl) rfl (by kernel_rfl) (by kernel_rfl) (by kernel_rfl) (fun _ _ _ h => h) rfl ?_ (by assumption) ?_
  rotate_left
  focus (intro w hSw; go_simp; (try with_reducible rfl); done)
  try simp only [List.setIfInBounds_toArray, List.set_cons_zero, List.set_cons_succ]
  refine take_at (i := 12) (d := 93) (v := ?_) (by simp only [List.getElem?_toArray, List.getElem?_cons_succ, List.getElem?_cons_zero]; rfl) rfl (by kernel_rfl) (by kernel_rfl) (by kernel_rfl) (fun _ _ _ h => h) rfl ?_ (by assumption) ?_
  rotate_left
  focus (intro w hSw; go_simp; (try with_reducible rfl); done)
  try simp only [List.setIfInBounds_toArray, List.set_cons_zero, List.set_cons_succ]
  refine take_at (i := 13) (d := 94) (v := ?_) (by simp only [List.getElem?_toArray, List.getElem?_cons_succ, List.getElem?_cons_zero]; rfl) rfl (by kernel_rfl) (by kernel_rfl) (by kernel_rfl) (fun _ _ _ h => h) rfl ?_ (by assumption) ?_
  rotate_left
  focus (intro w hSw; go_simp; (try with_reducible rfl); done)
  try simp only [List.setIfInBounds_toArray, List.set_cons_zero, List.set_cons_succ]
  refine take_at (i := 14) (d := 95) (v := ?_) (by simp only [List.getElem?_toArray, List.getElem?_cons_succ, List.getElem?_cons_zero]; rfl) rfl (by kernel_rfl) (by kernel_rfl) (by kernel_rfl) (fun _ _ _ h => h) rfl ?_ (by assumption) ?_
  rotate_left
  focus (intro w hSw; go_simp; (try with_reducible rfl); done)
  try simp only [List.setIfInBounds_toArray, List.set_cons_zero, List.set_cons_succ]
  refine take_at (i := 15) (d := 96) (v := ?_) (by simp only [List.getElem?_toArray, List.getElem?_cons_succ, List.getElem?_cons_zero]; rfl) rfl (by kernel_rfl) (by kernel_rfl) (by kernel_rfl) (fun _ _ _ h => h) rfl ?_ (by assumption) ?_
  rotate_left
  focus (intro w hSw; go_simp; (try with_reducible rfl); done)
  try simp only [List.setIfInBounds_toArray, List.set_cons_zero, List.set_cons_succ]
  refine call_at (i := 10) (d := 91) (by simp only [List.getElem?_toArray, List.getElem?_cons_succ, List.getElem?_cons_zero]; rfl) rfl (by kernel_rfl) rfl (fun K hK => ?_)
  go_simp
  have hc := join_any z1 k j1 j2 j3 j4 y1 y2 c a hy1 hy2 hc0 ha
  rw [HE1.out, HE2.out] at hc
  refine hc.mono ?_
  clear hc
  rintro e z2 ⟨rfl, hz⟩
  have hS2 : Kept s z2 := hS1.below q1 hz
  have q2 : s.heap.size ≤ z2.heap.size := Nat.le_trans q1 hz.size
  have B2 := hide (B1.out.trans (hz.mono q1))
  clear hz
  go_wp2_with fail
  refine hK.out _ _ hS2 (fun hSn => ?_)
  clear hK K
  try simp only [List.setIfInBounds_toArray, List.set_cons_zero, List.set_cons_succ]
  refine call_at (i := 16) (d := 97) (by simp only [List.getElem?_toArray, List.getElem?_cons_succ, List.getElem?_cons_zero]; rfl) rfl (by kernel_rfl) rfl (fun K hK => ?_)
  go_simp
  have hc := join_any z2 k j1 j2 j3 j4 b c c a hb hc0 hc0 ha
  rw [HT1.out, HT2.out] at hc
  refine hc.mono ?_
  clear hc
  rintro e z3 ⟨rfl, hz⟩
  have hS3 : Kept s z3 := hS2.below q2 hz
  have q3 : s.heap.size ≤ z3.heap.size := Nat.le_trans q2 hz.size
  have B3 := hide (B2.out.trans (hz.mono q2))
  clear hz
  go_wp2_with fail
  refine hK.out _ _ hS3 (fun hSn => ?_)
  clear hK K
  try simp only [List.setIfInBounds_toArray, List.set_cons_zero, List.set_cons_succ]
  refine call_at (i := 17) (d := 98) (by simp only [List.getElem?_toArray, List.getElem?_cons_succ, List.getElem?_cons_zero]; rfl) rfl (by kernel_rfl) rfl (fun K hK => ?_)
  go_simp
  have hc := join_any z3 k j1 j2 j3 j4 a b t1 t2 ha hb ht1 ht2
  rw [HD1.out, HD2.out] at hc
  refine hc.mono ?_
  clear hc
  rintro e z4 ⟨rfl, hz⟩
  have hS4 : Kept s z4 := hS3.below q3 hz
  have q4 : s.heap.size ≤ z4.heap.size := Nat.le_trans q3 hz.size
  have B4 := hide (B3.out.trans (hz.mono q3))
  clear hz
  go_wp2_with fail
  refine hK.out _ _ hS4 (fun hSn => ?_)
  clear hK K
  try simp only [List.setIfInBounds_toArray, List.set_cons_zero, List.set_cons_succ]
  refine take_at (i := 18) (d := 99) (v := ?_) (by simp only [List.getElem?_toArray, List.getElem?_cons_succ, List.getElem?_cons_zero]; rfl) rfl (by kernel_rfl) (by kernel_rfl) (by kernel_rfl) (fun _ _ _ h => h) rfl ?_ (by assumption) ?_
  rotate_left
  focus (intro w hSw; go_simp; (try with_reducible rfl); done)
  try simp only [List.setIfInBounds_toArray, List.set_cons_zero, List.set_cons_succ]
  refine take_at (i := 19) (d := 100) (v := ?_) (by simp only [List.getElem?_toArray, List.getElem?_cons_succ, List.getElem?_cons_zero]; rfl) rfl (by kernel_rfl) (by kernel_rfl) (by kernel_rfl) (fun _ _ _ h => h) rfl ?_ (by assumption) ?_
  rotate_left
  focus (intro w hSw; go_simp; (try with_reducible rfl); done)
  try simp only [List.setIfInBounds_toArray, List.set_cons_zero, List.set_cons_succ]
  refine take_at (i := 20) (d := 101) (v := ?_) (by simp only [List.getElem?_toArray, List.getElem?_cons_succ, List.getElem?_cons_zero]; rfl) rfl (by kernel_rfl) (by kernel_rfl) (by kernel_rfl) (fun _ _ _ h => h) rfl ?_ (by assumption) ?_
  rotate_left
  focus (intro w hSw; go_simp; (try with_reducible rfl); done)
  try simp only [List.setIfInBounds_toArray, List.set_cons_zero, List.set_cons_succ]
  refine call_at (i := 21) (d := 102) (by simp only [List.getElem?_toArray, List.getElem?_cons_succ, List.getElem?_cons_zero]; rfl) rfl (by kernel_rfl) rfl (fun K hK => ?_)
  go_simp
  have hc := works_any z4
  refine hc.mono ?_
  clear hc
  rintro e z5 ⟨rfl, hz⟩
  have hS5 : Kept s z5 := hS4.below q4 hz
  have q5 : s.heap.size ≤ z5.heap.size := Nat.le_trans q4 hz.size
  have B5 := hide (B4.out.trans (hz.mono q4))
  clear hz
  go_wp2_with fail
  refine hK.out _ _ hS5 (fun hSn => ?_)
  clear hK K
  try simp only [List.setIfInBounds_toArray, List.set_cons_zero, List.set_cons_succ]
  refine take_at (i := 22) (d := 103) (v := ?_) (by simp only [List.getElem?_toArray, List.getElem?_cons_succ, List.getElem?_cons_zero]; rfl) rfl (by kernel_rfl) (by kernel_rfl) (by kernel_rfl) (fun _ _ _ h => h) rfl ?_ (by assumption) ?_
  rotate_left
  focus (intro w hSw; go_simp; (try with_reducible rfl); done)
  try simp only [List.setIfInBounds_toArray, List.set_cons_zero, List.set_cons_succ]
  refine take_at (i := 23) (d := 8) (v := ?_) (by simp only [List.getElem?_toArray, List.getElem?_cons_succ, List.getElem?_cons_zero]; rfl) rfl (by kernel_rfl) (by kernel_rfl) (by kernel_rfl) (fun _ _ _ h => h) rfl ?_ (by assumption) ?_
  rotate_left
  focus (intro w hSw; go_simp; (try with_reducible rfl); done)
  try simp only [List.setIfInBounds_toArray, List.set_cons_zero, List.set_cons_succ]
  refine wpAnyH_done (by kernel_rfl) ?_ _
  have HF := hide (HB8.out.trans (B5.out.mono (by omega)))
  go_wp2
  go_ret
  exact ⟨rfl, HF.out⟩
theorem algosOrder_walk (w : World) (k j1 j2 j3 j4 : Int) (hk : 0 ≤ k ∧ k ≤ 255) (hj1 : i64B j1) (hj2 : i64B j2) (hj3 : i64B j3) (hj4 : i64B j4) (a : Int) (h1 : -9223372036854775808 ≤ a) (h2 : a ≤ 9223372036854775807) (b : Int) (h3 : -9223372036854775808 ≤ b) (h4 : b ≤ 9223372036854775807) (c : Int) (h5 : -9223372036854775808 ≤ c) (h6 : c ≤ 9223372036854775807) :
    Calls Tryz.prog 7 #[.agg #[.int .u8 k, .int .i64 j1, .int .i64 j2, .int .i64 j3, .int .i64 j4], .int .i64 a, .int .i64 b, .int .i64 c] w fun e w' => e = .returned (.bool true) ∧ Below w.heap.size w w' :=
  algosOrder_go w k j1 j2 j3 j4 a b c ⟨h1, h2⟩ ⟨h3, h4⟩ ⟨h5, h6⟩
end Go.Proofs.YtihlhkbdgbkafaaGreat
namespace Go.Proofs.YtihlhkbdgbkafaaGreat
open Go.RowKit
set_option linter.unusedVariables false
set_option linter.unusedSimpArgs false
set_option maxRecDepth 100000 in
set_option maxHeartbeats 16000000 in
theorem algosCheck_go (w : World) (k j1 j2 j3 j4 V v0 st mo : Int) (A : Option Addr) (es : List Ed) (L c : Nat) (hL : es.length = L) (hE : Eds w w.heap.size A es) (hc : L ≤ 9223372036854775807) :
    Calls Tryz.prog 5 #[.agg #[.int .i64 V, .slice A L c], .agg #[.int .u8 k, .int .i64 j1, .int .i64 j2, .int .i64 j3, .int .i64 j4], .int .i64 v0, .int .i64 st, .int .i64 mo] w fun e w' => e = .returned (.bool true) ∧ Below w.heap.size w w' := by
  obtain ⟨u, hu⟩ : ∃ u, (w.alloc (.cells #[.int .i64 V, .slice A L c] 24)).alloc (.cells #[.int .u8 k, .int .i64 j1, .int .i64 j2, .int .i64 j3, .int .i64 j4] 28) = u := ⟨_, rfl⟩
  have hzu : w.heap.size + 1 < u.heap.size := by rw [← hu]; simp
  have hbu := hide (show Below w.heap.size w u by rw [← hu]; exact ((Below.refl _ _).alloc (Nat.le_refl _) _).alloc (by simp) _)
  have M1 := hide (show u.heap[w.heap.size + 1]? = some (.cells #[.int .u8 k, .int .i64 j1, .int .i64 j2, .int .i64 j3, .int .i64 j4] 28) by rw [← hu]; have h := heap_alloc_last (w.alloc (.cells #[.int .i64 V, .slice A L c] 24)) (.cells #[.int .u8 k, .int .i64 j1, .int .i64 j2, .int .i64 j3, .int .i64 j4] 28); simpa using h)
  have M0 := hide (show u.heap[w.heap.size]? = some (.cells #[.int .i64 V, .slice A L c] 24) by rw [← hu]; exact heap_alloc_keep (heap_alloc_last _ _))
  have HE := hide (hE.next hbu.out)
  have HU := hide hu
  clear hu hE
  by_cases hl : 200 < L
  · have N0 := M0.out
    have g0 : u.cell? ⟨w.heap.size, 0, none⟩ = some (.int .i64 V) := cell_of_row _ _ 0 _ _ _ N0
    have g1 : u.cell? ⟨w.heap.size, 1, none⟩ = some (.slice A L c) := cell_of_row _ _ 1 _ _ _ N0
    clear N0
    have N1 := M1.out
    have c0 : u.cell? ⟨w.heap.size + 1, 0, none⟩ = some (.int .u8 k) := cell_of_row _ _ 0 _ _ _ N1
    have c1 : u.cell? ⟨w.heap.size + 1, 1, none⟩ = some (.int .i64 j1) := cell_of_row _ _ 1 _ _ _ N1
    have c2 : u.cell? ⟨w.heap.size + 1, 2, none⟩ = some (.int .i64 j2) := cell_of_row _ _ 2 _ _ _ N1
    have c3 : u.cell? ⟨w.heap.size + 1, 3, none⟩ = some (.int .i64 j3) := cell_of_row _ _ 3 _ _ _ N1
    have c4 : u.cell? ⟨w.heap.size + 1, 4, none⟩ = some (.int .i64 j4) := cell_of_row _ _ 4 _ _ _ N1
    clear N1
    go_enter Tryz.func5, Tryz.ntmps5
    go_upto_region 1 with fail
    rw [HU.out]
    go_wp2_with fail
    refine (light_any u V A L c 200).mono ?_
    rintro e w1 ⟨rfl, hb⟩
    rw [show decide ((L : Int) ≤ 200) = false by simp; omega]
    have B1' := hide hb
    have t1 : u.heap.size ≤ w1.heap.size := hb.size
    clear hb
    clear g0 g1 c0 c1 c2 c3 c4
    go_wp2_with fail
    refine (works_any _).mono ?_
    rintro e w2 ⟨rfl, hb⟩
    have HF := hide (hbu.out.trans ((B1'.out.trans (hb.mono t1)).mono (by omega)))
    clear hb
    go_wp2
    go_ret
    exact ⟨rfl, HF.out⟩
  · obtain ⟨s1, hs1⟩ : ∃ z, (startA k j2 V v0).1 = z := ⟨_, rfl⟩
    obtain ⟨s2, hs2⟩ : ∃ z, (startA k j2 V v0).2 = z := ⟨_, rfl⟩
    obtain ⟨ec, hec⟩ : ∃ z, acheckF k j1 j2 j3 j4 V es = z := ⟨_, rfl⟩
    obtain ⟨dn, hdn⟩ : ∃ z, doneF k j1 j4 st mo = z := ⟨_, rfl⟩
    have HS1 := hide hs1
    have HS2 := hide hs2
    have HEC := hide hec
    have HDN := hide hdn
    clear hs1 hs2 hec hdn
    have N0 := M0.out
    have g0 : u.cell? ⟨w.heap.size, 0, none⟩ = some (.int .i64 V) := cell_of_row _ _ 0 _ _ _ N0
    have g1 : u.cell? ⟨w.heap.size, 1, none⟩ = some (.slice A L c) := cell_of_row _ _ 1 _ _ _ N0
    clear N0
    have N1 := M1.out
    have c0 : u.cell? ⟨w.heap.size + 1, 0, none⟩ = some (.int .u8 k) := cell_of_row _ _ 0 _ _ _ N1
    have c1 : u.cell? ⟨w.heap.size + 1, 1, none⟩ = some (.int .i64 j1) := cell_of_row _ _ 1 _ _ _ N1
    have c2 : u.cell? ⟨w.heap.size + 1, 2, none⟩ = some (.int .i64 j2) := cell_of_row _ _ 2 _ _ _ N1
    have c3 : u.cell? ⟨w.heap.size + 1, 3, none⟩ = some (.int .i64 j3) := cell_of_row _ _ 3 _ _ _ N1
    have c4 : u.cell? ⟨w.heap.size + 1, 4, none⟩ = some (.int .i64 j4) := cell_of_row _ _ 4 _ _ _ N1
    clear N1
    go_enter Tryz.func5, Tryz.ntmps5
    go_upto_region 1 with fail
    rw [HU.out]
    go_wp2_with fail
    refine (light_any u V A L c 200).mono ?_
    rintro e w1 ⟨rfl, hb⟩
    rw [show decide ((L : Int) ≤ 200) = true by simp; omega]
    have B1' := hide hb
    have t1 : u.heap.size ≤ w1.heap.size := hb.size
    clear hb
    clear g0 g1 c0 c1 c2 c3 c4
    have N0 := (B1'.out.block _ (by omega)).trans M0.out
    have g0 : w1.cell? ⟨w.heap.size, 0, none⟩ = some (.int .i64 V) := cell_of_row _ _ 0 _ _ _ N0
    have g1 : w1.cell? ⟨w.heap.size, 1, none⟩ = some (.slice A L c) := cell_of_row _ _ 1 _ _ _ N0
    clear N0
    have N1 := (B1'.out.block _ (by omega)).trans M1.out
    have c0 : w1.cell? ⟨w.heap.size + 1, 0, none⟩ = some (.int .u8 k) := cell_of_row _ _ 0 _ _ _ N1
    have c1 : w1.cell? ⟨w.heap.size + 1, 1, none⟩ = some (.int .i64 j1) := cell_of_row _ _ 1 _ _ _ N1
    have c2 : w1.cell? ⟨w.heap.size + 1, 2, none⟩ = some (.int .i64 j2) := cell_of_row _ _ 2 _ _ _ N1
    have c3 : w1.cell? ⟨w.heap.size + 1, 3, none⟩ = some (.int .i64 j3) := cell_of_row _ _ 3 _ _ _ N1
    have c4 : w1.cell? ⟨w.heap.size + 1, 4, none⟩ = some (.int .i64 j4) := cell_of_row _ _ 4 _ _ _ N1
    clear N1
    go_wp2_with fail
    have hcl := astart_any w1 k j1 j2 j3 j4 V v0
    rw [HS1.out, HS2.out] at hcl
    refine hcl.mono ?_
    clear hcl
    rintro e w2 ⟨rfl, hb⟩
    have B2' := hide (B1'.out.trans (hb.mono t1))
    have t2 : u.heap.size ≤ w2.heap.size := Nat.le_trans t1 hb.size
    clear hb
    clear g0 g1 c0 c1 c2 c3 c4
    have N0 := (B2'.out.block _ (by omega)).trans M0.out
    have g0 : w2.cell? ⟨w.heap.size, 0, none⟩ = some (.int .i64 V) := cell_of_row _ _ 0 _ _ _ N0
    have g1 : w2.cell? ⟨w.heap.size, 1, none⟩ = some (.slice A L c) := cell_of_row _ _ 1 _ _ _ N0
    clear N0
    have N1 := (B2'.out.block _ (by omega)).trans M1.out
    have c0 : w2.cell? ⟨w.heap.size + 1, 0, none⟩ = some (.int .u8 k) := cell_of_row _ _ 0 _ _ _ N1
    have c1 : w2.cell? ⟨w.heap.size + 1, 1, none⟩ = some (.int .i64 j1) := cell_of_row _ _ 1 _ _ _ N1
    have c2 : w2.cell? ⟨w.heap.size + 1, 2, none⟩ = some (.int .i64 j2) := cell_of_row _ _ 2 _ _ _ N1
    have c3 : w2.cell? ⟨w.heap.size + 1, 3, none⟩ = some (.int .i64 j3) := cell_of_row _ _ 3 _ _ _ N1
    have c4 : w2.cell? ⟨w.heap.size + 1, 4, none⟩ = some (.int .i64 j4) := cell_of_row _ _ 4 _ _ _ N1
    clear N1
    go_wp2_with fail
    have hcl := rastart_any w2 k j1 j2 j3 j4 V v0
    rw [HS1.out, HS2.out] at hcl
    refine hcl.mono ?_
    clear hcl
    rintro e v ⟨rfl, hb⟩
    have B3' := hide (B2'.out.trans (hb.mono t2))
    have t3 : u.heap.size ≤ v.heap.size := Nat.le_trans t2 hb.size
    clear hb
    clear g0 g1 c0 c1 c2 c3 c4
    have N0 := (B3'.out.block _ (by omega)).trans M0.out
    have g0 : v.cell? ⟨w.heap.size, 0, none⟩ = some (.int .i64 V) := cell_of_row _ _ 0 _ _ _ N0
    have g1 : v.cell? ⟨w.heap.size, 1, none⟩ = some (.slice A L c) := cell_of_row _ _ 1 _ _ _ N0
    clear N0
    have N1 := (B3'.out.block _ (by omega)).trans M1.out
    have c0 : v.cell? ⟨w.heap.size + 1, 0, none⟩ = some (.int .u8 k) := cell_of_row _ _ 0 _ _ _ N1
    have c1 : v.cell? ⟨w.heap.size + 1, 1, none⟩ = some (.int .i64 j1) := cell_of_row _ _ 1 _ _ _ N1
    have c2 : v.cell? ⟨w.heap.size + 1, 2, none⟩ = some (.int .i64 j2) := cell_of_row _ _ 2 _ _ _ N1
    have c3 : v.cell? ⟨w.heap.size + 1, 3, none⟩ = some (.int .i64 j3) := cell_of_row _ _ 3 _ _ _ N1
    have c4 : v.cell? ⟨w.heap.size + 1, 4, none⟩ = some (.int .i64 j4) := cell_of_row _ _ 4 _ _ _ N1
    clear N1
    have HE3 := hide (HE.out.next B3'.out)
    have l0 : w.heap.size < v.heap.size := by omega
    have l1 : w.heap.size + 1 < v.heap.size := by omega
    clear t1 t2
    go_upto_region 5 with fail
    refine wp_region_held_drew (S := Kept v) (by kernel_rfl) (Kept.drew v) (fun hS0 => ?_)
    refine take_at (i := 0) (d := 35) (v := ?_) (by simp only [List.getElem?_toArray, List.getElem?_cons_succ, List.getElem?_cons_zero]; rfl) rfl (by kernel_rfl) (by kernel_rfl) (by kernel_rfl) (fun _ _ _ h => h) rfl ?_ (by assumption) ?_
    rotate_left
    focus (intro w hSw; go_simp; (try with_reducible rfl); done)
    try simp only [List.setIfInBounds_toArray, List.set_cons_zero, List.set_cons_succ]
    refine take_at (i := 1) (d := 36) (v := ?_) (by simp only [List.getElem?_toArray, List.getElem?_cons_succ, List.getElem?_cons_zero]; rfl) rfl (by kernel_rfl) (by kernel_rfl) (by kernel_rfl) (fun _ _ _ h => h) rfl ?_ (by assumption) ?_
    rotate_left
    focus (intro w hSw; go_simp; (try with_reducible rfl); done)
    try simp only [List.setIfInBounds_toArray, List.set_cons_zero, List.set_cons_succ]
    refine take_at (i := 3) (d := 38) (v := ?_) (by simp only [List.getElem?_toArray, List.getElem?_cons_succ, List.getElem?_cons_zero]; rfl) rfl (by kernel_rfl) (by kernel_rfl) (by kernel_rfl) (fun _ _ _ h => h) rfl ?_ (by assumption) ?_
    rotate_left
    focus (intro w hSw; go_simp; (try with_reducible rfl); done)
    try simp only [List.setIfInBounds_toArray, List.set_cons_zero, List.set_cons_succ]
    refine take_at (i := 4) (d := 39) (v := ?_) (by simp only [List.getElem?_toArray, List.getElem?_cons_succ, List.getElem?_cons_zero]; rfl) rfl (by kernel_rfl) (by kernel_rfl) (by kernel_rfl) (fun _ _ _ h => h) rfl ?_ (by assumption) ?_
    rotate_left
    focus (intro w hSw; go_simp; (try with_reducible rfl); done)
    try simp only [List.setIfInBounds_toArray, List.set_cons_zero, List.set_cons_succ]
    refine call_at (i := 2) (d := 37) (by simp only [List.getElem?_toArray, List.getElem?_cons_succ, List.getElem?_cons_zero]; rfl) rfl (by kernel_rfl) rfl (fun K hK => ?_)
    go_simp
    have hc := acheck_any v.drew k j1 j2 j3 j4 V A es L c hL (HE3.out.next (below_dr0 _ v)) hc
    rw [HEC.out] at hc
    refine hc.mono ?_
    clear hc
    rintro e z1 ⟨rfl, hz⟩
    have hS1 : Kept v z1 := hS0.below (by simp) hz
    have q1 : v.heap.size ≤ z1.heap.size := by have := hz.size; simpa using this
    have B1 := hide ((below_dr0 v.heap.size v).trans (hz.mono (Nat.le_refl _)))
    clear hz
    go_wp2_with fail
    refine hK.out _ _ hS1 (fun hSn => ?_)
    clear hK K
    try simp only [List.setIfInBounds_toArray, List.set_cons_zero, List.set_cons_succ]
    refine call_at (i := 5) (d := 40) (by simp only [List.getElem?_toArray, List.getElem?_cons_succ, List.getElem?_cons_zero]; rfl) rfl (by kernel_rfl) rfl (fun K hK => ?_)
    go_simp
    have hc := racheck_any z1 k j1 j2 j3 j4 V A es L c hL ((HE3.out.next B1.out)) hc
    rw [HEC.out] at hc
    refine hc.mono ?_
    clear hc
    rintro e z2 ⟨rfl, hz⟩
    have hS2 : Kept v z2 := hS1.below q1 hz
    have q2 : v.heap.size ≤ z2.heap.size := Nat.le_trans q1 hz.size
    have B2 := hide (B1.out.trans (hz.mono q1))
    clear hz
    go_wp2_with fail
    refine hK.out _ _ hS2 (fun hSn => ?_)
    clear hK K
    try simp only [List.setIfInBounds_toArray, List.set_cons_zero, List.set_cons_succ]
    refine take_at (i := 6) (d := 41) (v := ?_) (by simp only [List.getElem?_toArray, List.getElem?_cons_succ, List.getElem?_cons_zero]; rfl) rfl (by kernel_rfl) (by kernel_rfl) (by kernel_rfl) (fun _ _ _ h => h) rfl ?_ (by assumption) ?_
    rotate_left
    focus (intro w hSw; go_simp; (try with_reducible rfl); done)
    try simp only [List.setIfInBounds_toArray, List.set_cons_zero, List.set_cons_succ]
    refine take_at (i := 7) (d := 42) (v := ?_) (by simp only [List.getElem?_toArray, List.getElem?_cons_succ, List.getElem?_cons_zero]; rfl) rfl (by kernel_rfl) (by kernel_rfl) (by kernel_rfl) (fun _ _ _ h => h) rfl ?_ (by assumption) ?_
    rotate_left
    focus (intro w hSw; go_simp; (try with_reducible rfl); done)
    try simp only [List.setIfInBounds_toArray, List.set_cons_zero, List.set_cons_succ]
    refine take_at (i := 8) (d := 43) (v := ?_) (by simp only [List.getElem?_toArray, List.getElem?_cons_succ, List.getElem?_cons_zero]; rfl) rfl (by kernel_rfl) (by kernel_rfl) (by kernel_rfl) (fun _ _ _ h => h) rfl ?_ (by assumption) ?_
    rotate_left
    focus (intro w hSw; go_simp; (try with_reducible rfl); done)
    try simp only [List.setIfInBounds_toArray, List.set_cons_zero, List.set_cons_succ]
    refine take_at (i := 9) (d := 44) (v := ?_) (by simp only [List.getElem?_toArray, List.getElem?_cons_succ, List.getElem?_cons_zero]; rfl) rfl (by kernel_rfl) (by kernel_rfl) (by kernel_rfl) (fun _ _ _ h => h) rfl ?_ (by assumption) ?_
    rotate_left
    focus (intro w hSw; go_simp; (try with_reducible rfl); done)
    try simp only [List.setIfInBounds_toArray, List.set_cons_zero, List.set_cons_succ]
    refine take_at (i := 10) (d := 45) (v := ?_) (by simp only [List.getElem?_toArray, List.getElem?_cons_succ, List.getElem?_cons_zero]; rfl) rfl (by kernel_rfl) (by kernel_rfl) (by kernel_rfl) (fun _ _ _ h => h) rfl ?_ (by assumption) ?_
    rotate_left
    focus (intro w hSw; go_simp; (try with_reducible rfl); done)
    try simp only [List.setIfInBounds_toArray, List.set_cons_zero, List.set_cons_succ]
    refine take_at (i := 11) (d := 46) (v := ?_) (by simp only [List.getElem?_toArray, List.getElem?_cons_succ, List.getElem?_cons_zero]; rfl) rfl (by kernel_rfl) (by kernel_rfl) (by kernel_rfl) (fun _ _ _ h => h) rfl ?_ (by assumption) ?_
    rotate_left
    focus (intro w hSw; go_simp; (try with_reducible rfl); done)
    try simp only [List.setIfInBounds_toArray, List.set_cons_zero, List.set_cons_succ]
    refine take_at (i := 12) (d := 47) (v := ?_) (by simp only [List.getElem?_toArray, List.getElem?_cons_succ, List.getElem?_cons_zero]; rfl) rfl (by kernel_rfl) (by kernel_rfl) (by kernel_rfl) (fun _ _ _ h => h) rfl ?_ (by assumption) ?_
    rotate_left
    focus (intro w hSw; go_simp; (try with_reducible rfl); done)
    try simp only [List.setIfInBounds_toArray, List.set_cons_zero, List.set_cons_succ]
    refine take_at (i := 13) (d := 48) (v := ?_) (by simp only [List.getElem?_toArray, List.getElem?_cons_succ, List.getElem?_cons_zero]; rfl) rfl (by kernel_rfl) (by kernel_rfl) (by kernel_rfl) (fun _ _ _ h => h) rfl ?_ (by assumption) ?_
    rotate_left
    focus (intro w hSw; go_simp; (try with_reducible rfl); done)
    try simp only [List.setIfInBounds_toArray, List.set_cons_zero, List.set_cons_succ]
    refine take_at (i := 14) (d := 49) (v := ?_) (by simp only [List.getElem?_toArray, List.getElem?_cons_succ, List.getElem?_cons_zero]; rfl) rfl (by kernel_rfl) (by kernel_rfl) (by kernel_rfl) (fun _ _ _ h => h) rfl ?_ (by assumption) ?_
    rotate_left
    focus (intro w hSw; go_simp; (try with_reducible rfl); done)
    try simp only [List.setIfInBounds_toArray, List.set_cons_zero, List.set_cons_succ]
    refine take_at (i := 15) (d := 50) (v := ?_) (by simp only [List.getElem?_toArray, List.getElem?_cons_succ, List.getElem?_cons_zero]; rfl) rfl (by kernel_rfl) (by kernel_rfl) (by kernel_rfl) (fun _ _ _ h => h) rfl ?_ (by assumption) ?_
    rotate_left
    focus (intro w hSw; go_simp; (try with_reducible rfl); done)
    try simp only [List.setIfInBounds_toArray, List.set_cons_zero, List.set_cons_succ]
    refine take_at (i := 16) (d := 51) (v := ?_) (by simp only [List.getElem?_toArray, List.getElem?_cons_succ, List.getElem?_cons_zero]; rfl) rfl (by kernel_rfl) (by kernel_rfl) (by kernel_rfl) (fun _ _ _ h => h) rfl ?_ (by assumption) ?_
    rotate_left
    focus (intro w hSw; go_simp; (try with_reducible rfl); done)
    try simp only [List.setIfInBounds_toArray, List.set_cons_zero, List.set_cons_succ]
    refine take_at (i := 17) (d := 52) (v := ?_) (by simp only [List.getElem?_toArray, List.getElem?_cons_succ, List.getElem?_cons_zero]; rfl) rfl (by kernel_rfl) (by kernel_rfl) (by kernel_rfl) (fun _ _ _ h => h) rfl ?_ (by assumption) ?_
    rotate_left
    focus (intro w hSw; go_simp; (try with_reducible rfl); done)
    try simp only [List.setIfInBounds_toArray, List.set_cons_zero, List.set_cons_succ]
    refine take_at (i := 18) (d := 53) (v := ?_) (by simp only [List.getElem?_toArray, List.getElem?_cons_succ, List.getElem?_cons_zero]; rfl) rfl (by kernel_rfl) (by kernel_rfl) (by kernel_rfl) (fun _ _ _ h => h) rfl ?_ (by assumption) ?_
    rotate_left
    focus (intro w hSw; go_simp; (try with_reducible rfl); done)
    try simp only [List.setIfInBounds_toArray, List.set_cons_zero, List.set_cons_succ]
    refine take_at (i := 19) (d := 54) (v := ?_) (by simp only [List.getElem?_toArray, List.getElem?_cons_succ, List.getElem?_cons_zero]; rfl) rfl (by kernel_rfl) (by kernel_rfl) (by kernel_rfl) (fun _ _ _ h => h) rfl ?_ (by assumption) ?_
    rotate_left
    focus (intro w hSw; go_simp; (try with_reducible rfl); done)
    try simp only [List.setIfInBounds_toArray, List.set_cons_zero, List.set_cons_succ]
    refine take_at (i := 20) (d := 55) (v := ?_) (by simp only [List.getElem?_toArray, List.getElem?_cons_succ, List.getElem?_cons_zero]; rfl) rfl (by kernel_rfl) (by kernel_rfl) (by kernel_rfl) (fun _ _ _ h => h) rfl ?_ (by assumption) ?_
    rotate_left
    focus (intro w hSw; go_simp; (try with_reducible rfl); done)
    try simp only [List.setIfInBounds_toArray, List.set_cons_zero, List.set_cons_succ]
    refine take_at (i := 22) (d := 57) (v := ?_) (by simp only [List.getElem?_toArray, List.getElem?_cons_succ, List.getElem?_cons_zero]; rfl) rfl (by kernel_rfl) (by kernel_rfl) (by kernel_rfl) (fun _ _ _ h => h) rfl ?_ (by assumption) ?_
    rotate_left
    focus (intro w hSw; go_simp; (try with_reducible rfl); done)
    try simp only [List.setIfInBounds_toArray, List.set_cons_zero, List.set_cons_succ]
    refine take_at (i := 23) (d := 58) (v := ?_) (by simp only [List.getElem?_toArray, List.getElem?_cons_succ, List.getElem?_cons_zero]; rfl) rfl (by kernel_rfl) (by kernel_rfl) (by kernel_rfl) (fun _ _ _ h => h) rfl ?_ (by assumption) ?_
    rotate_left
    focus (intro w hSw; go_simp; (try with_reducible rfl); done)
    try simp only [List.setIfInBounds_toArray, List.set_cons_zero, List.set_cons_succ]
    refine take_at (i := 24) (d := 59) (v := ?_) (by simp only [List.getElem?_toArray, List.getElem?_cons_succ, List.getElem?_cons_zero]; rfl) rfl (by kernel_rfl) (by kernel_rfl) (by kernel_rfl) (fun _ _ _ h => h) rfl ?_ (by assumption) ?_
    rotate_left
    focus (intro w hSw; go_simp; (try with_reducible rfl); done)
    try simp only [List.setIfInBounds_toArray, List.set_cons_zero, List.set_cons_succ]
    refine call_at (i := 21) (d := 56) (by simp only [List.getElem?_toArray, List.getElem?_cons_succ, List.getElem?_cons_zero]; rfl) rfl (by kernel_rfl) rfl (fun K hK => ?_)
    go_simp
    have hc := done_any z2 k j1 j2 j3 j4 st mo
    rw [HDN.out] at hc
    refine hc.mono ?_
    clear hc
    rintro e z3 ⟨rfl, hz⟩
    have hS3 : Kept v z3 := hS2.below q2 hz
    have q3 : v.heap.size ≤ z3.heap.size := Nat.le_trans q2 hz.size
    have B3 := hide (B2.out.trans (hz.mono q2))
    clear hz
    go_wp2_with fail
    refine hK.out _ _ hS3 (fun hSn => ?_)
    clear hK K
    try simp only [List.setIfInBounds_toArray, List.set_cons_zero, List.set_cons_succ]
    refine call_at (i := 25) (d := 60) (by simp only [List.getElem?_toArray, List.getElem?_cons_succ, List.getElem?_cons_zero]; rfl) rfl (by kernel_rfl) rfl (fun K hK => ?_)
    go_simp
    have hc := rdone_any z3 k j1 j2 j3 j4 st mo
    rw [HDN.out] at hc
    refine hc.mono ?_
    clear hc
    rintro e z4 ⟨rfl, hz⟩
    have hS4 : Kept v z4 := hS3.below q3 hz
    have q4 : v.heap.size ≤ z4.heap.size := Nat.le_trans q3 hz.size
    have B4 := hide (B3.out.trans (hz.mono q3))
    clear hz
    go_wp2_with fail
    refine hK.out _ _ hS4 (fun hSn => ?_)
    clear hK K
    try simp only [List.setIfInBounds_toArray, List.set_cons_zero, List.set_cons_succ]
    refine take_at (i := 26) (d := 61) (v := ?_) (by simp only [List.getElem?_toArray, List.getElem?_cons_succ, List.getElem?_cons_zero]; rfl) rfl (by kernel_rfl) (by kernel_rfl) (by kernel_rfl) (fun _ _ _ h => h) rfl ?_ (by assumption) ?_
    rotate_left
    focus (intro w hSw; go_simp; (try with_reducible rfl); done)
    try simp only [List.setIfInBounds_toArray, List.set_cons_zero, List.set_cons_succ]
    refine take_at (i := 27) (d := 62) (v := ?_) (by simp only [List.getElem?_toArray, List.getElem?_cons_succ, List.getElem?_cons_zero]; rfl) rfl (by kernel_rfl) (by kernel_rfl) (by kernel_rfl) (fun _ _ _ h => h) rfl ?_ (by assumption) ?_
    rotate_left
    focus (intro w hSw; go_simp; (try with_reducible rfl); done)
    try simp only [List.setIfInBounds_toArray, List.set_cons_zero, List.set_cons_succ]
    refine take_at (i := 28) (d := 63) (v := ?_) (by simp only [List.getElem?_toArray, List.getElem?_cons_succ, List.getElem?_cons_zero]; rfl) rfl (by kernel_rfl) (by kernel_rfl) (by kernel_rfl) (fun _ _ _ h => h) rfl ?_ (by assumption) ?_
    rotate_left
    focus (intro w hSw; go_simp; (try with_reducible rfl); done)
    try simp only [List.setIfInBounds_toArray, List.set_cons_zero, List.set_cons_succ]
    refine call_at (i := 29) (d := 64) (by simp only [List.getElem?_toArray, List.getElem?_cons_succ, List.getElem?_cons_zero]; rfl) rfl (by kernel_rfl) rfl (fun K hK => ?_)
    go_simp
    have hc := works_any z4
    refine hc.mono ?_
    clear hc
    rintro e z5 ⟨rfl, hz⟩
    have hS5 : Kept v z5 := hS4.below q4 hz
    have q5 : v.heap.size ≤ z5.heap.size := Nat.le_trans q4 hz.size
    have B5 := hide (B4.out.trans (hz.mono q4))
    clear hz
    go_wp2_with fail
    refine hK.out _ _ hS5 (fun hSn => ?_)
    clear hK K
    try simp only [List.setIfInBounds_toArray, List.set_cons_zero, List.set_cons_succ]
    refine take_at (i := 30) (d := 65) (v := ?_) (by simp only [List.getElem?_toArray, List.getElem?_cons_succ, List.getElem?_cons_zero]; rfl) rfl (by kernel_rfl) (by kernel_rfl) (by kernel_rfl) (fun _ _ _ h => h) rfl ?_ (by assumption) ?_
    rotate_left
    focus (intro w hSw; go_simp; (try with_reducible rfl); done)
    try simp only [List.setIfInBounds_toArray, List.set_cons_zero, List.set_cons_succ]
    refine take_at (i := 31) (d := 10) (v := ?_) (by simp only [List.getElem?_toArray, List.getElem?_cons_succ, List.getElem?_cons_zero]; rfl) rfl (by kernel_rfl) (by kernel_rfl) (by kernel_rfl) (fun _ _ _ h => h) rfl ?_ (by assumption) ?_
    rotate_left
    focus (intro w hSw; go_simp; (try with_reducible rfl); done)
    try simp only [List.setIfInBounds_toArray, List.set_cons_zero, List.set_cons_succ]
    refine wpAnyH_done (by kernel_rfl) ?_ _
    have HF := hide (hbu.out.trans ((B3'.out.trans (B5.out.mono t3)).mono (by omega)))
    go_wp2
    go_ret
    exact ⟨rfl, HF.out⟩
theorem algosCheck_walk (w : World) (V : Int) (A : Option Addr) (es : List Ed) (c : Nat) (hV1 : -9223372036854775808 ≤ V) (hV2 : V ≤ 9223372036854775807) (hE : Eds w w.heap.size A es) (hl : es.length ≤ c) (hc : c ≤ 9223372036854775807) (hB : ∀ e ∈ es, edB e)
    (k j1 j2 j3 j4 : Int) (hk : 0 ≤ k ∧ k ≤ 255) (hj1 : i64B j1) (hj2 : i64B j2) (hj3 : i64B j3) (hj4 : i64B j4) (v0 : Int) (h1 : -9223372036854775808 ≤ v0) (h2 : v0 ≤ 9223372036854775807) (st : Int) (h3 : -9223372036854775808 ≤ st) (h4 : st ≤ 9223372036854775807) (mo : Int) (h5 : -9223372036854775808 ≤ mo) (h6 : mo ≤ 9223372036854775807) :
    Calls Tryz.prog 5 #[.agg #[.int .i64 V, .slice A es.length c], .agg #[.int .u8 k, .int .i64 j1, .int .i64 j2, .int .i64 j3, .int .i64 j4], .int .i64 v0, .int .i64 st, .int .i64 mo] w fun e w' => e = .returned (.bool true) ∧ Below w.heap.size w w' :=
  algosCheck_go w k j1 j2 j3 j4 V v0 st mo A es es.length c rfl hE (by omega)
end Go.Proofs.YtihlhkbdgbkafaaGreat
namespace Go.Proofs.YtihlhkbdgbkafaaGreat
open Go.RowKit
set_option linter.unusedVariables false
set_option linter.unusedSimpArgs false
set_option maxRecDepth 100000 in
set_option maxHeartbeats 16000000 in
theorem algosCompute_go (w : World) (k j1 j2 j3 j4 V v : Int) (has : Bool) (x su : Int) (bV : V ≤ 9223372036854775807) (bx : x ≤ 9223372036854775807) (bs : su ≤ 9223372036854775807) :
    Calls Tryz.prog 6 #[.agg #[.int .u8 k, .int .i64 j1, .int .i64 j2, .int .i64 j3, .int .i64 j4], .int .i64 V, .int .i64 v, .agg #[.bool has, .int .i64 x], .int .i64 su] w fun e w' => e = .returned (.bool true) ∧ Below w.heap.size w w' := by
  obtain ⟨u, hu⟩ : ∃ u, (w.alloc (.cells #[.int .u8 k, .int .i64 j1, .int .i64 j2, .int .i64 j3, .int .i64 j4] 28)).alloc (.cells #[.bool has, .int .i64 x] 31) = u := ⟨_, rfl⟩
  have hzu : w.heap.size + 1 < u.heap.size := by rw [← hu]; simp
  have hbu := hide (show Below w.heap.size w u by rw [← hu]; exact ((Below.refl _ _).alloc (Nat.le_refl _) _).alloc (by simp) _)
  have M1 := hide (show u.heap[w.heap.size + 1]? = some (.cells #[.bool has, .int .i64 x] 31) by rw [← hu]; have h := heap_alloc_last (w.alloc (.cells #[.int .u8 k, .int .i64 j1, .int .i64 j2, .int .i64 j3, .int .i64 j4] 28)) (.cells #[.bool has, .int .i64 x] 31); simpa using h)
  have M0 := hide (show u.heap[w.heap.size]? = some (.cells #[.int .u8 k, .int .i64 j1, .int .i64 j2, .int .i64 j3, .int .i64 j4] 28) by rw [← hu]; exact heap_alloc_keep (heap_alloc_last _ _))
  have HU := hide hu
  clear hu
  obtain ⟨⟨y1, y2⟩, hy⟩ : ∃ z, compK k V v has x su j3 = z := ⟨_, rfl⟩
  have HY := hide hy
  clear hy
  have N0 := M0.out
  have c0 : u.cell? ⟨w.heap.size, 0, none⟩ = some (.int .u8 k) := cell_of_row _ _ 0 _ _ _ N0
  have c1 : u.cell? ⟨w.heap.size, 1, none⟩ = some (.int .i64 j1) := cell_of_row _ _ 1 _ _ _ N0
  have c2 : u.cell? ⟨w.heap.size, 2, none⟩ = some (.int .i64 j2) := cell_of_row _ _ 2 _ _ _ N0
  have c3 : u.cell? ⟨w.heap.size, 3, none⟩ = some (.int .i64 j3) := cell_of_row _ _ 3 _ _ _ N0
  have c4 : u.cell? ⟨w.heap.size, 4, none⟩ = some (.int .i64 j4) := cell_of_row _ _ 4 _ _ _ N0
  clear N0
  have N1 := M1.out
  have x0 : u.cell? ⟨w.heap.size + 1, 0, none⟩ = some (.bool has) := cell_of_row _ _ 0 _ _ _ N1
  have x1 : u.cell? ⟨w.heap.size + 1, 1, none⟩ = some (.int .i64 x) := cell_of_row _ _ 1 _ _ _ N1
  clear N1
  go_enter Tryz.func6, Tryz.ntmps6
  go_upto_region 1 with fail
  rw [HU.out]
  go_wp2_with fail
  have hc := acomp_any u k j1 j2 j3 j4 V v has x su bV bx bs
  rw [HY.out] at hc
  refine hc.mono ?_
  clear hc
  rintro e w1 ⟨rfl, hb⟩
  have B1 := hide hb
  have t1 : u.heap.size ≤ w1.heap.size := hb.size
  clear hb
  clear c0 c1 c2 c3 c4 x0 x1
  have N0 := (B1.out.block _ (by omega)).trans M0.out
  have c0 : w1.cell? ⟨w.heap.size, 0, none⟩ = some (.int .u8 k) := cell_of_row _ _ 0 _ _ _ N0
  have c1 : w1.cell? ⟨w.heap.size, 1, none⟩ = some (.int .i64 j1) := cell_of_row _ _ 1 _ _ _ N0
  have c2 : w1.cell? ⟨w.heap.size, 2, none⟩ = some (.int .i64 j2) := cell_of_row _ _ 2 _ _ _ N0
  have c3 : w1.cell? ⟨w.heap.size, 3, none⟩ = some (.int .i64 j3) := cell_of_row _ _ 3 _ _ _ N0
  have c4 : w1.cell? ⟨w.heap.size, 4, none⟩ = some (.int .i64 j4) := cell_of_row _ _ 4 _ _ _ N0
  clear N0
  have N1 := (B1.out.block _ (by omega)).trans M1.out
  have x0 : w1.cell? ⟨w.heap.size + 1, 0, none⟩ = some (.bool has) := cell_of_row _ _ 0 _ _ _ N1
  have x1 : w1.cell? ⟨w.heap.size + 1, 1, none⟩ = some (.int .i64 x) := cell_of_row _ _ 1 _ _ _ N1
  clear N1
  go_wp2_with fail
  have hc := rcomp_any w1 k j1 j2 j3 j4 V v has x su bV bx bs
  rw [HY.out] at hc
  refine hc.mono ?_
  clear hc
  rintro e w2 ⟨rfl, hb⟩
  have B2 := hide (B1.out.trans (hb.mono t1))
  have t2 : u.heap.size ≤ w2.heap.size := Nat.le_trans t1 hb.size
  clear hb
  clear c0 c1 c2 c3 c4 x0 x1
  go_wp2_with fail
  refine (works_any _).mono ?_
  rintro e w3 ⟨rfl, hb⟩
  have HF := hide (hbu.out.trans ((B2.out.trans (hb.mono t2)).mono (by omega)))
  clear hb
  go_wp2
  go_ret
  exact ⟨rfl, HF.out⟩
theorem algosCompute_walk (w : World) (k j1 j2 j3 j4 : Int) (hk : 0 ≤ k ∧ k ≤ 255) (hj1 : i64B j1) (hj2 : i64B j2) (hj3 : i64B j3) (hj4 : i64B j4) (V : Int) (h1 : -9223372036854775808 ≤ V) (h2 : V ≤ 9223372036854775807) (v : Int) (h3 : -9223372036854775808 ≤ v) (h4 : v ≤ 9223372036854775807)
    (has : Bool) (x : Int) (hx1 : -9223372036854775808 ≤ x) (hx2 : x ≤ 9223372036854775807) (su : Int) (h5 : -9223372036854775808 ≤ su) (h6 : su ≤ 9223372036854775807) :
    Calls Tryz.prog 6 #[.agg #[.int .u8 k, .int .i64 j1, .int .i64 j2, .int .i64 j3, .int .i64 j4], .int .i64 V, .int .i64 v, .agg #[.bool has, .int .i64 x], .int .i64 su] w fun e w' => e = .returned (.bool true) ∧ Below w.heap.size w w' :=
  algosCompute_go w k j1 j2 j3 j4 V v has x su h2 hx2 h6
end Go.Proofs.YtihlhkbdgbkafaaGreat
