/- Messages that are put together; a row of none is sorted. (printed by gen/snd.py) -/
import Derived.Test.YtihlhkbdgbkafaaSss
import Derived.Test.YtihlhkbdgbkafaaSen
import Derived.Test.YtihlhkbdgbkafaaSew
import Derived.Test.YtihlhkbdgbkafaaSel
import Derived.Test.YtihlhkbdgbkafaaAlo
import Derived.Test.YtihlhkbdgbkafaaAlj
import Derived.Deep.DeepCutAuto
namespace Go.Proofs.Ytihlhkbdgbkafaa
open Go.RowKit
set_option linter.unusedVariables false
set_option linter.unusedSimpArgs false
/-- messages put together, those that are neighbours with one To -/
def putM (k : Int) (acc : List Ms) (m : Ms) : List Ms := match acc.getLast? with
  | some a => if a.1 = m.1 then acc.dropLast ++ [(a.1, combF k a.2 m.2)] else acc ++ [m]
  | none => [m]
def foldM (k : Int) (l : List Ms) : List Ms := l.foldl (putM k) []
theorem foldM_snoc (k : Int) (l : List Ms) (m : Ms) : foldM k (l ++ [m]) = putM k (foldM k l) m := by simp [foldM, List.foldl_append]
theorem foldM_take (k : Int) {d : List Ms} {i : Nat} {m : Ms} (h : d[i]? = some m) : foldM k (d.take (i + 1)) = putM k (foldM k (d.take i)) m := by
  rw [List.take_add_one, h]; exact foldM_snoc k _ m
theorem putM_none {k : Int} {acc : List Ms} {m : Ms} (h : acc.length = 0) : putM k acc m = acc ++ [m] := by
  obtain rfl := List.eq_nil_of_length_eq_zero h
  rfl
theorem putM_far {k : Int} {acc : List Ms} {m a : Ms} {q : Nat} (h : acc.length = q + 1) (ha : acc[q]? = some a) (hne : ¬ a.1 = m.1) : putM k acc m = acc ++ [m] := by
  have : acc.getLast? = some a := by rw [List.getLast?_eq_getElem?, h]; exact ha
  unfold putM
  rw [this]
  exact if_neg hne
theorem putM_same {k : Int} {acc : List Ms} {m a : Ms} {q : Nat} (h : acc.length = q + 1) (ha : acc[q]? = some a) (he : a.1 = m.1) : putM k acc m = acc.set q (a.1, combF k a.2 m.2) := by
  have h1 : acc.getLast? = some a := by rw [List.getLast?_eq_getElem?, h]; exact ha
  unfold putM
  rw [h1]
  show (if a.1 = m.1 then _ else _) = _
  rw [if_pos he]
  refine List.ext_getElem? fun t => ?_
  rw [List.getElem?_set, h]
  have hd : acc.dropLast.length = q := by simp [h]
  by_cases c1 : q = t
  · subst c1
    rw [if_pos rfl, if_pos (by omega), List.getElem?_append_right (by omega), hd]
    simp
  · rw [if_neg c1]
    by_cases c2 : t < q
    · rw [List.getElem?_append_left (by omega), List.getElem?_dropLast, if_pos (by omega)]
    · rw [List.getElem?_append_right (by omega), hd, List.getElem?_eq_none (by simp; omega), List.getElem?_eq_none (by omega)]
theorem key_to (d : List Ms) : KeyOn ltF (fun m : Ms => m.1) d := fun x y _ _ => by
  unfold ltF cmpI cmpOf
  by_cases h1 : x.1 < y.1
  · simp [h1]
  · by_cases h2 : y.1 < x.1
    · simp [h1, h2]
    · simp [h1, h2]
set_option maxRecDepth 100000 in
set_option maxHeartbeats 4000000 in
theorem ins0_any (w : World) (A : Option Addr) (c : Nat) : Calls Try.prog 61 #[.slice A 0 c, .int .i64 0, .int .i64 0, .func (.func 40) #[] #[]] w fun e w' => e = .returned (.tuple #[]) ∧ w = w' := by
  go_enter Try.func61, Try.ntmps61
  go_wp2
  go_loopw [8] (fun v8 wr => v8 = .int .i64 1 ∧ wr = w) (fun _ _ => 0)
  case atStart => exact ⟨rfl, rfl⟩
  case round =>
    obtain ⟨rfl, e⟩ := hrel
    go_wp2
    go_end0
    exact ⟨rfl, by first | rfl | exact e.symm⟩
set_option maxRecDepth 100000 in
set_option maxHeartbeats 4000000 in
theorem stb0_any (w : World) (A : Option Addr) (c : Nat) : Calls Try.prog 55 #[.slice A 0 c, .int .i64 0, .func (.func 40) #[] #[]] w fun e w' => e = .returned (.tuple #[]) ∧ w = w' := by
  go_enter Try.func55, Try.ntmps55
  go_wp2
  go_loopw [7, 8] (fun v7 v8 wr => v7 = .int .i64 0 ∧ v8 = .int .i64 20 ∧ wr = w) (fun _ _ _ => 0)
  case atStart => exact ⟨rfl, rfl, rfl⟩
  case round =>
    obtain ⟨rfl, rfl, rfl⟩ := hrel
    go_wp2_with fail
    refine (ins0_any _ A c).mono ?_
    rintro _ w1 ⟨rfl, rfl⟩
    go_wp2
    go_loopw [6] (fun v6 w2 => v6 = .int .i64 20 ∧ w2 = wr) (fun _ _ => 0)
    case atStart => exact ⟨rfl, rfl⟩
    case round =>
      obtain ⟨rfl, e⟩ := hrel
      go_wp2
      go_end0
      exact ⟨rfl, by first | rfl | exact e.symm⟩
set_option maxRecDepth 100000 in
set_option maxHeartbeats 4000000 in
theorem sort0_any (w : World) (A : Option Addr) (c : Nat) : Calls Try.prog 39 #[.slice A 0 c, .func (.func 40) #[] #[]] w fun e w' => e = .returned (.tuple #[]) ∧ w = w' := by
  go_enter Try.func39, Try.ntmps39
  go_wp2_with fail
  refine (stb0_any _ A c).mono ?_
  rintro _ w1 ⟨rfl, rfl⟩
  go_wp2
  go_end0
  exact ⟨rfl, rfl⟩
end Go.Proofs.Ytihlhkbdgbkafaa
