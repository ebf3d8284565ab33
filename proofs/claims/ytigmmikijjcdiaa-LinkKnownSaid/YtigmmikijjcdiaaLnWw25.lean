/- Lemmas: Nlg. -/
import Derived.Test.YtigmmikijjcdiaaProg
import Derived.Deep.DeepCutAuto
import Derived.Lib.Hide
import Derived.WalkSpells
import Derived.WalkMore
import Derived.IntWalk
import Derived.Test.YtigmmikijjcdiaaLnWw20
set_option linter.unusedVariables false
set_option linter.unusedSimpArgs false
set_option maxRecDepth 100000
set_option maxHeartbeats 16000000
namespace Go.Proofs.Ytigmmikijjcdiaa
open Go.RowKit
def totC (xs : List Cal5) : Nat := (xs.map fun x => x.b.length).sum
theorem totC_snoc (xs : List Cal5) (x : Cal5) : totC (xs ++ [x]) = totC xs + x.b.length := by unfold totC; simp
def LargePost (w : World) (xs : List Cal5) (e : Ending) (w' : World) : Prop := w = w' ∧ ∃ r : Bool, e = .returned (.bool r) ∧ (r = false → xs.length ≤ 200 ∧ totC xs ≤ 5000 ∧ ∀ x ∈ xs, x.b.length ≤ 5000)
theorem large_any (w : World) (A : Option Addr) (xs : List Cal5) (c : Nat) (hI : Cals w w.heap.size A xs) (hc1 : xs.length ≤ c) (hc2 : c ≤ 9223372036854775807) :
  Calls Try.prog 20 #[.slice A xs.length c] w (LargePost w xs) := by
 obtain ⟨n, hn⟩ : ∃ n, xs.length = n := ⟨_, rfl⟩
 rw [hn] at hc1 ⊢
 have HN := hide hn
 have HI := hide hI
 clear hn hI
 have HYes : Hid (LargePost w xs (.returned (.bool true)) w) := hide ⟨rfl, true, rfl, fun h => by cases h⟩
 by_cases n0 : (200 : Int) < (n : Int)
 ·go_enter Try.func20, Try.ntmps20
  go_wp2
  go_ret
  exact HYes.out
 have hn4 : n ≤ 200 := by omega
 go_enter Try.func20, Try.ntmps20
 go_wp2
 go_loopw [3, 4] (fun v3 v4 wr => ∃ (i t : Nat), i ≤ n ∧ t ≤ 5000 ∧ v3 = .int .i64 (t : Int) ∧ v4 = .int .i64 (i : Int) ∧ w = wr ∧ Hid (totC (xs.take i) = t) ∧ Hid (∀ x ∈ xs.take i, x.b.length ≤ 5000)) (fun _ v4 _ => n - (intOf v4).toNat)
 case atStart => exact ⟨0, 0, by omega, by omega, rfl, rfl, rfl, hide rfl, hide (fun x hx => by simp at hx)⟩
 case round =>
  obtain ⟨i, t, hi, ht, rfl, rfl, rfl, HT, HX⟩ := hrel
  by_cases hlt : i < n
  ·have hI1 : (i : Int) < (n : Int) := by omega
   have hI0 : (0 : Int) ≤ (i : Int) := by omega
   obtain ⟨x, hx⟩ : ∃ x, xs[i]? = some x := ⟨_, List.getElem?_eq_getElem (by rw [HN.out]; exact hlt)⟩
   obtain ⟨g, off, rfl, hg, -, q3, -, -, -, -, hok⟩ := HI.out.get hx
   obtain ⟨bl, hbl⟩ : ∃ z, x.b.length = z := ⟨_, rfl⟩
   rw [hbl] at q3
   have HBl := hide hbl
   have HXi := hide hx
   have hblb : bl ≤ 140737488351232 := by rw [← hbl]; exact hok.2.1
   have kw : IntKind.i64.wrap (5000 - (t : Int)) = 5000 - (t : Int) := IntWalk.i64_in _ (by omega)
   clear hbl hx hok
   by_cases hbig : 5000 - (t : Int) < (bl : Int)
   ·go_wp2
    go_ret
    exact HYes.out
   have kw2 : IntKind.i64.wrap ((t : Int) + (bl : Int)) = ((t + bl : Nat) : Int) := by rw [IntWalk.i64_in _ (by omega)]; omega
   have HT2 : Hid (totC (xs.take (i + 1)) = t + bl) := hide (by rw [List.take_add_one, HXi.out]; show totC (xs.take i ++ [x]) = _; rw [totC_snoc, HT.out, HBl.out])
   have HX2 : Hid (∀ z ∈ xs.take (i + 1), z.b.length ≤ 5000) := hide (fun z hz => by rw [List.take_add_one, HXi.out] at hz; rcases List.mem_append.1 hz with hz | hz; exact HX.out z hz; simp at hz; subst hz; rw [HBl.out]; omega)
   go_wp2
   go_roundw
   case rel => exact ⟨i + 1, t + bl, by omega, by omega, by first | rfl | go_num, by go_num, by first | rfl | trivial, HT2, HX2⟩
   case measure => simp [intOf]; omega
  have hI1 : ¬ (i : Int) < (n : Int) := by omega
  obtain rfl : i = n := by omega
  have HNo : Hid (LargePost w xs (.returned (.bool false)) w) := hide ⟨rfl, false, rfl, fun _ => ⟨by rw [HN.out]; exact hn4, by have h := HT.out; rw [List.take_of_length_le (by rw [HN.out]; exact Nat.le_refl _)] at h; omega, by have h := HX.out; rwa [List.take_of_length_le (by rw [HN.out]; exact Nat.le_refl _)] at h⟩⟩
  clear HX HT
  go_wp2
  go_ret
  exact HNo.out
end Go.Proofs.Ytigmmikijjcdiaa
