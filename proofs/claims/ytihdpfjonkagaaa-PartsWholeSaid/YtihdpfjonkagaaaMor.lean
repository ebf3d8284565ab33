/- A worker's vertices: the document's Owned. -/
import Derived.RangeFuncNested
import Derived.RangeFuncBound
import Derived.RangeFuncCalls
import Derived.RangeFuncLeaves
import Derived.RangeFuncBox
import Derived.Shelf.Abstract
import Derived.Shelf.RegionOpen
import Derived.WalkKit
import Derived.OwnWalkIn
import Derived.TacticsInMore
import Derived.LoopNIn
import Derived.LoopIn
import Derived.Test.YtihdpfjonkagaaaMow
import Derived.Test.YtihdpfjonkagaaaReg
import Derived.Maps.AppendAt
namespace Go.Proofs.Ytihdpfjonkagaaa
open Go.RowKit Go.Shelf
attribute [local go_sem] Oper.semAt_some
set_option linter.unusedVariables false
set_option linter.unusedSimpArgs false
set_option maxRecDepth 100000 in
set_option maxHeartbeats 2000000 in
theorem rowned_any (w : World) (V n k : Int) : Calls Try.prog 12 #[.int .i64 V, .int .i64 n, .int .i64 k] w (OwnPost w (ownedF V n k)) := by
  obtain ⟨i0, hi0, hz0, hz1, hz2⟩ := info_parts (show (Try.prog.info? 3).map (fun i => (i.zero, i.size, i.bytes)) = some (some (.int .i64 0), 1, 8) by kernel_rfl)
  obtain ⟨M, hM⟩ : ∃ M, (min V 512).toNat = M := ⟨_, rfl⟩
  have HF : Hid (ownedF V n k = ownUpto n k M) := hide (by rw [ownedF, hM])
  have hM1 : (M : Int) ≤ 512 := by omega
  have HM := hide hM
  go_enter Try.func12, Try.ntmps12
  go_wp2
  go_loopw [7, 8] (fun v7 v8 wr => ∃ (i : Nat) (l : List Int) (A : Option Addr) (c : Nat), i ≤ M ∧ v8 = .int .i64 i ∧ v7 = .slice A l.length c ∧ Hid (ownUpto n k i = l) ∧ l.length ≤ i ∧ Hid (wr.ownsRow w.heap.size 3 1 (.slice A l.length c) l.length (l.map (Value.int .i64))) ∧ Hid (Below w.heap.size w wr)) (fun _ v8 _ => M - (intOf v8).toNat)
  case atStart => exact ⟨0, [], none, 0, by omega, rfl, rfl, hide rfl, by simp, hide (World.ownsRow_nil _ _ _ _), hide (Below.refl _ _)⟩
  case round =>
    obtain ⟨i, l, A, c, hi, rfl, rfl, hl, hll, hown, hbw⟩ := hrel
    obtain ⟨m, hm⟩ : ∃ m, l.length = m := ⟨_, rfl⟩
    rw [hm] at hll hown ⊢
    have HLm := hide hm
    clear hm
    by_cases hlt : i < M
    · have h1 : (i : Int) < V := by have := HM.out; omega
      have h2 : (i : Int) < 512 := by omega
      have HS := hide (own_snoc n k i)
      have hs := hbw.out.size
      by_cases hk : 0 ≤ k
      · by_cases ho : ofF (i : Int) n = k
        · have hsel : sel n k (i : Int) = true := by simp [sel, hk, ho]
          have HN : Hid (ownUpto n k (i + 1) = l ++ [(i : Int)]) := hide (by rw [HS.out, hl.out, if_pos hsel])
          have HA : Hid (l.map (Value.int .i64) ++ [.int .i64 (i : Int)] = (l ++ [(i : Int)]).map (Value.int .i64)) := hide (by simp)
          have HO := hide ho
          clear ho hsel
          go_wp2_with fail
          refine (rof_any _ (i : Int) n).mono ?_
          rintro e y ⟨rfl, rfl⟩
          rw [HO.out]
          go_wp2_with (at_builtin; refine wpList_app rfl (.tmp 27) (.tmp 29) 24 rfl w.heap.size 3 i0 (.int .i64 0) 1 8 Try.underlying24 hi0 hz0 hz1 hz2 rfl (by decide) (.slice A m c) m _ rfl (hown.out.alloc _) (y.heap.size + 1) (some ⟨y.heap.size, 0, none⟩) 1 1 [.int .i64 (i : Int)] rfl rfl (Rd.new _ _ _ _) (by simp [Value.oneCell']) (by unfold maxLen; omega) (by omega) (by simp; omega) ?_; intro A2 c2 w1 hown1 hg1 hat1)
          rw [HA.out] at hown1
          have hb1 := hide (app_below (hbw.out.alloc hs _) (hown.out.alloc _) hg1 (by simp; omega) (Nat.le_refl _))
          have HOwn := hide hown1
          have hlen : (l ++ [(i : Int)]).length = m + 1 := by rw [List.length_append, HLm.out]; rfl
          clear hown hg1 hat1 hown1
          go_wp2
          go_roundw
          case rel => exact ⟨i + 1, l ++ [(i : Int)], A2, c2, by omega, by go_num, by rw [hlen], HN, by omega, by rw [hlen]; exact HOwn, hb1⟩
          case measure => simp [intOf]; omega
        · have HN : Hid (ownUpto n k (i + 1) = l) := hide (by rw [HS.out, hl.out, if_neg (by simp [sel, ho]), List.append_nil])
          obtain ⟨z, hz⟩ : ∃ z, ofF (i : Int) n = z := ⟨_, rfl⟩
          rw [hz] at ho
          have HZ := hide hz
          clear hz
          go_wp2_with fail
          refine (rof_any _ (i : Int) n).mono ?_
          rintro e y ⟨rfl, rfl⟩
          rw [HZ.out]
          go_wp2
          go_roundw
          case rel => exact ⟨i + 1, l, A, c, by omega, by go_num, by rw [HLm.out], HN, by have := HLm.out; omega, by rw [HLm.out]; exact hown, hbw⟩
          case measure => simp [intOf]; omega
      · have HN : Hid (ownUpto n k (i + 1) = l) := hide (by rw [HS.out, hl.out, if_neg (by simp [sel, hk]), List.append_nil])
        have hk' : k < 0 := by omega
        go_wp2
        go_roundw
        case rel => exact ⟨i + 1, l, A, c, by omega, by go_num, by rw [HLm.out], HN, by have := HLm.out; omega, by rw [HLm.out]; exact hown, hbw⟩
        case measure => simp [intOf]; omega
    · obtain rfl : i = M := by omega
      have HFin : Hid (OwnPost w (ownedF V n k) (.returned (.slice A m c)) wr) := hide (by
        rw [HF.out, hl.out]
        exact ⟨A, c, by rw [HLm.out], by rw [HLm.out]; exact hown.out, hbw.out⟩)
      by_cases h1 : (i : Int) < V
      · have h2 : ¬ (i : Int) < 512 := by have := HM.out; omega
        go_wp2
        go_ret
        exact HFin.out
      · go_wp2
        go_ret
        exact HFin.out
end Go.Proofs.Ytihdpfjonkagaaa
