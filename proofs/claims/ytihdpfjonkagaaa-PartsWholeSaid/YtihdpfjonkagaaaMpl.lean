/- The place of a number in a row: slices.Index, Place. -/
import Derived.Test.YtihdpfjonkagaaaProg
import Derived.Test.YtihdpfjonkagaaaKep
import Derived.Lib.Hide
import Derived.WalkSpells
import Derived.WalkMore
namespace Go.Proofs.Ytihdpfjonkagaaa
open Go.RowKit
set_option linter.unusedVariables false
set_option linter.unusedSimpArgs false
/-- the first place at which x stands, from place i on; -1: none -/
def idxAt (xs : List Int) (x : Int) (i : Nat) : Int := match (xs.drop i).findIdx? (fun y => decide (x = y)) with
  | none => -1
  | some k => ((i + k : Nat) : Int)
def idxF (xs : List Int) (x : Int) : Int := idxAt xs x 0
theorem idx_end (xs : List Int) (x : Int) : idxAt xs x xs.length = -1 := by simp [idxAt]
theorem idx_hit {xs : List Int} {x : Int} {i : Nat} (h : i < xs.length) (he : x = xs[i]) : idxAt xs x i = (i : Int) := by
  unfold idxAt
  rw [List.drop_eq_getElem_cons h, List.findIdx?_cons, decide_eq_true he]
  rfl
theorem idx_miss {xs : List Int} {x : Int} {i : Nat} (h : i < xs.length) (he : ¬ x = xs[i]) : idxAt xs x i = idxAt xs x (i + 1) := by
  unfold idxAt
  rw [List.drop_eq_getElem_cons h, List.findIdx?_cons, decide_eq_false he]
  cases (xs.drop (i + 1)).findIdx? (fun y => decide (x = y)) with
  | none => rfl
  | some k => show (((i + (k + 1) : Nat)) : Int) = _; congr 1; omega
set_option maxRecDepth 100000 in
set_option maxHeartbeats 1000000 in
theorem index_any (w : World) (A : Option Addr) (xs : List Int) (n c : Nat) (x : Int) (hx : xs.length = n) (hn : n ≤ 9223372036854775807) (rx : Rd w w.heap.size A (xs.map (Value.int .i64))) :
    Calls Try.prog 44 #[.slice A n c, .int .i64 x] w fun e w' => e = .returned (.int .i64 (idxF xs x)) ∧ w' = w := by
  have HX := hide hx
  have RX := hide rx
  clear hx rx
  go_enter Try.func44, Try.ntmps44
  go_wp2
  go_loop [8] (fun vi => ∃ i : Nat, i ≤ n ∧ vi = .int .i64 i ∧ Hid (idxF xs x = idxAt xs x i)) (fun vi => n - (intOf vi).toNat)
  case atStart => exact ⟨0, by omega, rfl, hide rfl⟩
  case round =>
    obtain ⟨i, hi, rfl, heq⟩ := hrel
    by_cases hlt : i < n
    · have hi1 : i < xs.length := by rw [HX.out]; exact hlt
      obtain ⟨b1, o1, rfl, l1, _⟩ := RX.out.at_ (k := i) (by rw [List.length_map]; exact hi1)
      have cx : w.cell? ⟨b1, o1 + i, none⟩ = some (.int .i64 xs[i]) := RX.out.cell (by rw [List.getElem?_map, List.getElem?_eq_getElem hi1]; rfl)
      have HH : Hid (x = xs[i] → idxF xs x = (i : Int)) := hide (fun h => by rw [heq.out, idx_hit hi1 h])
      have HM : Hid (¬ x = xs[i] → idxF xs x = idxAt xs x (i + 1)) := hide (fun h => by rw [heq.out, idx_miss hi1 h])
      obtain ⟨y, hy⟩ : ∃ y, xs[i] = y := ⟨_, rfl⟩
      rw [hy] at cx HH HM
      have hI0 : (0 : Int) ≤ (i : Int) := by omega
      have hI1 : (i : Int) < (n : Int) := by omega
      clear hy hi1
      by_cases hxy : x = y
      · have HR := hide (HH.out hxy)
        subst hxy
        go_wp2
        go_ret
        exact ⟨ret_n (by rw [HR.out]), rfl⟩
      · have HR := hide (HM.out hxy)
        go_wp2
        go_round
        case rel => exact ⟨i + 1, by omega, by go_num, HR⟩
        case measure => simp [intOf]; omega
    · obtain rfl : i = n := by omega
      have HR : Hid (idxF xs x = -1) := hide (by rw [heq.out, ← HX.out, idx_end])
      go_wp2
      go_ret
      exact ⟨ret_n (by rw [HR.out]), rfl⟩
set_option maxRecDepth 100000 in
theorem place_any (w : World) (a b c : Int) (A O B : Option Addr) (xs : List Int) (n m on oc bn bc : Nat) (x : Int) (hx : xs.length = n) (hn : n ≤ 9223372036854775807) (rx : Rd w w.heap.size A (xs.map (Value.int .i64))) :
    Calls Try.prog 25 #[.agg #[.int .i64 a, .int .i64 b, .int .i64 c, .slice A n m, .slice O on oc, .slice B bn bc], .int .i64 x] w fun e w' => e = .returned (.int .i64 (idxF xs x)) ∧ Below w.heap.size w w' := by
  obtain ⟨v, hv⟩ : ∃ v, w.alloc (.cells #[.int .i64 a, .int .i64 b, .int .i64 c, .slice A n m, .slice O on oc, .slice B bn bc] 34) = v := ⟨_, rfl⟩
  have hb : Below w.heap.size w v := by rw [← hv]; exact (Below.refl _ _).alloc (Nat.le_refl _) _
  have HV := hide hv
  have HB := hide hb
  have RX := hide ((rx.below hb).more hb.size)
  clear hv hb rx
  go_enter Try.func25, Try.ntmps25
  go_wp2_with fail
  rw [HV.out]
  refine (index_any _ A xs n m x hx hn RX.out).mono ?_
  rintro e y ⟨rfl, rfl⟩
  go_wp2
  go_ret
  exact ⟨rfl, HB.out⟩
end Go.Proofs.Ytihdpfjonkagaaa
