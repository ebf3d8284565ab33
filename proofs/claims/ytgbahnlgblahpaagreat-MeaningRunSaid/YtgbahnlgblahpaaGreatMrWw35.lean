/- Lemmas: Mlt, Mpk. -/
import Derived.WalkSpells
import Derived.WalkMore
import Derived.IntWalk
import Derived.Lib.Hide
import Derived.Test.YtgbahnlgblahpaaGreatMrWw33
import Derived.Test.YtgbahnlgblahpaaGreatMrWw34
set_option linter.unusedVariables false
set_option linter.unusedSimpArgs false
set_option maxRecDepth 100000
set_option maxHeartbeats 16000000
namespace Go.Proofs.YtgbahnlgblahpaaGreat
open Go.RowKit
def lightB (V : Int) (L : Nat) (es : List Ed) : Bool := decide ((L : Int) ≤ 100) && (decide (V ≤ 16) || decide (checkF V es ≠ 0))
theorem lt13_any (w : World) (V : Int) (A : Option Addr) (es : List Ed) (L c : Nat) (hL : es.length = L) (hE : Eds w w.heap.size A es) (hc : L ≤ 9223372036854775807) :
  Calls Tryz.prog 7 #[.agg #[.int .i64 V, .slice A L c]] w fun e w' => e = .returned (.bool (lightB V L es)) ∧ Below w.heap.size w w' := by
 obtain ⟨v, hv⟩ : ∃ v, w.alloc (.cells #[.int .i64 V, .slice A L c] 24) = v := ⟨_, rfl⟩
 have hz : v.heap.size = w.heap.size + 1 := by rw [← hv]; simp
 have hb : Below w.heap.size w v := by rw [← hv]; exact (Below.refl _ _).alloc (Nat.le_refl _) _
 have cg : v.heap[w.heap.size]? = some (.cells #[.int .i64 V, .slice A L c] 24) := by rw [← hv]; exact heap_alloc_last w _
 have c0 : v.cell? ⟨w.heap.size, 0, none⟩ = some (.int .i64 V) := cell_of_row _ _ 0 _ _ _ cg
 have c1 : v.cell? ⟨w.heap.size, 1, none⟩ = some (.slice A L c) := cell_of_row _ _ 1 _ _ _ cg
 have HE : Hid (Eds v v.heap.size A es) := hide ((hE.below hb (Nat.le_refl _)).more hb.size)
 have HV := hide hv
 have HB := hide hb
 have HL := hide hL
 have HG := hide cg
 have hlv : w.heap.size < v.heap.size := by omega
 clear hv hb hz cg hE hL
 go_enter Tryz.func7, Tryz.ntmps7
 go_wp2_with fail
 rw [HV.out]
 go_wp2_with fail
 refine (light_any v V A L c 100).mono ?_
 rintro e y ⟨rfl, hy⟩
 have HBy := hide (HB.out.trans (hy.mono HB.out.size))
 have HGy := (hy.block _ hlv).trans HG.out
 have HEy : Hid (Eds y y.heap.size A es) := hide ((Eds.below HE.out hy (Nat.le_refl _)).more hy.size)
 have c0' : y.cell? ⟨w.heap.size, 0, none⟩ = some (.int .i64 V) := cell_of_row _ _ 0 _ _ _ HGy
 have c1' : y.cell? ⟨w.heap.size, 1, none⟩ = some (.slice A L c) := cell_of_row _ _ 1 _ _ _ HGy
 clear hy c0 c1 HGy
 by_cases h1 : (L : Int) ≤ 100
 ·by_cases h2 : V ≤ 16
  ·have HF : Hid (lightB V L es = true) := hide (by unfold lightB; simp [h2]; omega)
   rw [decide_eq_true h1]
   go_wp2
   go_ret
   exact ⟨ret_b (by rw [HF.out]), HBy.out⟩
  ·have HF : Hid (lightB V L es = decide (checkF V es ≠ 0)) := hide (by unfold lightB; rw [decide_eq_true h1, decide_eq_false h2]; simp)
   rw [decide_eq_true h1]
   have h3 : decide (V ≤ 16) = false := decide_eq_false h2
   go_wp2_with fail
   refine (rcheck_any y V A es L c HL.out HEy.out hc).mono ?_
   rintro e z ⟨rfl, hz⟩
   have HBz := hide (HBy.out.trans (hz.mono HBy.out.size))
   clear hz c0' c1'
   obtain ⟨q, hq⟩ : ∃ q, checkF V es = q := ⟨_, rfl⟩
   rw [hq] at HF ⊢
   clear hq
   by_cases h5 : q = 0
   ·subst h5
    go_wp2
    go_ret
    exact ⟨ret_b (by rw [HF.out]; simp), HBz.out⟩
   ·go_wp2
    go_ret
    exact ⟨ret_b (by rw [HF.out]; simp [h5]), HBz.out⟩
 ·have HF : Hid (lightB V L es = false) := hide (by unfold lightB; rw [decide_eq_false h1]; simp)
  rw [decide_eq_false h1]
  go_wp2
  go_ret
  exact ⟨ret_b (by rw [HF.out]), HBy.out⟩
end Go.Proofs.YtgbahnlgblahpaaGreat
namespace Go.Proofs.YtgbahnlgblahpaaGreat
open Go.RowKit
def pickOf (i n : Int) : Int := if n ≤ 0 then 0 else (i.tmod n + n).tmod n
theorem pick_rng (i n : Int) (h : 0 < n) : 0 ≤ pickOf i n ∧ pickOf i n < n := by
 unfold pickOf
 rw [if_neg (by omega)]
 have h1 := Int.tmod_lt_of_pos i h
 have h2 : -n < i.tmod n := by
  have := Int.tmod_lt_of_pos (-i) h
  rw [Int.neg_tmod] at this
  omega
 have h3 := Int.tmod_lt_of_pos (i.tmod n + n) h
 have h4 := Int.tmod_nonneg (b := n) (a := i.tmod n + n) (by omega)
 omega
theorem ret_nq {x y : Int} (h : x = y) : Ending.returned (.int .i64 x) = .returned (.int .i64 y) := by rw [h]
theorem pick_any (w : World) (i n : Int) (hi1 : -9223372036854775808 ≤ i) (hi2 : i ≤ 9223372036854775807) (hn : 0 < n) (hn2 : n ≤ 4611686018427387904) : Calls Tryz.prog 15 #[.int .i64 i, .int .i64 n] w fun e w' => e = .returned (.int .i64 (pickOf i n)) ∧ w' = w := by
 have hp : pickOf i n = (i.tmod n + n).tmod n := by unfold pickOf; rw [if_neg (by omega)]
 have HP := hide hp
 have h1 := Int.tmod_lt_of_pos i hn
 have h2 : -n < i.tmod n := by
  have := Int.tmod_lt_of_pos (-i) hn
  rw [Int.neg_tmod] at this
  omega
 have hpr := pick_rng i n hn
 rw [hp] at hpr
 clear hp
 have w1 : IntKind.i64.wrap (i.tmod n) = i.tmod n := IntWalk.i64_in _ (by omega)
 have w2 : IntKind.i64.wrap (i.tmod n + n) = i.tmod n + n := IntWalk.i64_in _ (by omega)
 have w3 : IntKind.i64.wrap ((i.tmod n + n).tmod n) = (i.tmod n + n).tmod n := IntWalk.i64_in _ (by omega)
 have d0 : ¬ n = 0 := by omega
 have hnn : 0 ≤ i.tmod n + n := by omega
 go_enter Tryz.func15, Tryz.ntmps15
 go_wp2
 go_ret
 exact ⟨ret_nq (by rw [HP.out, Int.tmod_eq_emod_of_nonneg hnn]), rfl⟩
end Go.Proofs.YtgbahnlgblahpaaGreat
