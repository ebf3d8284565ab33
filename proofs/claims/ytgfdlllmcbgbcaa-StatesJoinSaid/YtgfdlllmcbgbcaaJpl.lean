/- The document's Place of a vertex among a row of vertices. -/
import Derived.Test.YtgfdlllmcbgbcaaJpv
namespace Go.Proofs.Ytgfdlllmcbgbcaa
open Go.RowKit
set_option linter.unusedVariables false
set_option linter.unusedSimpArgs false
set_option maxRecDepth 100000 in
set_option maxHeartbeats 2000000 in
theorem rplace_any (w : World) (A : Option Addr) (xs : List Int) (n c : Nat) (v : Int) (hx : xs.length = n) (hn : n ≤ 9223372036854775807) (rx : Rd w w.heap.size A (i64s xs)) :
    Calls Try.prog 50 #[.slice A n c, .int .i64 v] w fun e w' => e = .returned (.int .i64 (plc v xs 0)) ∧ w' = w := by
  have HX := hide hx
  have RX := hide rx
  clear hx rx
  go_enter Try.func50, Try.ntmps50
  go_wp2
  go_loopw [5] (fun vi wr => ∃ i : Nat, i ≤ n ∧ vi = .int .i64 i ∧ Hid (plc v xs 0 = plc v (xs.drop i) i) ∧ wr = w) (fun vi _ => n - (intOf vi).toNat)
  case atStart => exact ⟨0, by omega, rfl, hide rfl, rfl⟩
  case round =>
    obtain ⟨i, hi, rfl, hp, rfl⟩ := hrel
    by_cases hlt : i < n
    · obtain ⟨x, hx⟩ : ∃ x, xs[i]? = some x := ⟨_, List.getElem?_eq_getElem (by rw [HX.out]; exact hlt)⟩
      obtain ⟨b, off, rfl, hb, hc⟩ := RX.out.at1 (i64s_get hx)
      have HS := hide (plc_step (v := v) hx)
      have hI0 : (0 : Int) ≤ (i : Int) := by omega
      have hI1 : (i : Int) < (n : Int) := by omega
      clear hx
      by_cases hxv : x = v
      · have HE : Hid (plc v xs 0 = (i : Int)) := hide (by rw [hp.out, HS.out, if_pos hxv])
        subst hxv
        go_wp2
        go_ret
        exact ⟨ret_n HE.out.symm, rfl⟩
      · have HE : Hid (plc v xs 0 = plc v (xs.drop (i + 1)) (i + 1)) := hide (by rw [hp.out, HS.out, if_neg hxv])
        have hxv1 : (x == v) = false := by simpa using hxv
        clear hxv
        go_wp2
        go_roundw
        case rel => exact ⟨i + 1, by omega, by go_num, HE, by first | trivial | rfl⟩
        case measure => simp [intOf]; omega
    · obtain rfl : i = n := by omega
      have HE : Hid (plc v xs 0 = -1) := hide (by rw [hp.out, List.drop_of_length_le (by rw [HX.out]; exact Nat.le_refl _)]; rfl)
      go_wp2
      go_ret
      exact ⟨ret_n HE.out.symm, rfl⟩
end Go.Proofs.Ytgfdlllmcbgbcaa
