/- A Reader: Raw. -/
import Derived.Test.YtigmmikijjcdiaaLqFre

namespace Go.Proofs.Ytigmmikijjcdiaa
open Go.RowKit
set_option linter.unusedVariables false
def RawPost (w : World) (r : Nat) (bs : List UInt8) (s : Nat × Bool) (n : Int) (e : Ending) (w' : World) : Prop :=
  (∃ A' c', e = .returned (.slice A' (nx bs s n).1.length c') ∧ w'.ownsRow w.heap.size 5 1 (.slice A' (nx bs s n).1.length c') (nx bs s n).1.length (u8s (nx bs s n).1)) ∧ Rr 107 w' r bs (nx bs s n).2 ∧ Besides r w w'
set_option maxRecDepth 100000 in
set_option maxHeartbeats 1000000 in
theorem get_raw (w : World) (r : Nat) (bs : List UInt8) (s : Nat × Bool) (hr : Rr 107 w r bs s) (n : Int) (hn1 : -9223372036854775808 ≤ n) (hn2 : n ≤ 9223372036854775807) :
    Calls Try.prog 45 #[.pointer (some ⟨r, 0, none⟩), .int .i64 n] w fun e w' => RawPost w r bs s n e w' := by
  have hle : (nx bs s n).1.length ≤ bs.length := by
    unfold nx
    split
    · simp
    · simp; omega
  have hl2 : bs.length ≤ 140737488351232 := by obtain ⟨_, _, _, _, _, h, _⟩ := hr; exact h
  go_enter Try.func45, Try.ntmps45
  go_wp2_with fail
  refine (next_any _ r bs s hr n hn1 hn2).mono ?_
  rintro e w1 ⟨⟨A, c, rfl, hR, _⟩, hr1, hb1⟩
  go_wp2_with fail
  refine (clone_any _ A _ c hR.rd (by omega)).mono ?_
  rintro e w2 ⟨⟨A', c', rfl, hown⟩, hb2⟩
  go_wp2
  go_ret
  exact ⟨⟨A', c', rfl, own_base hown hb1.size⟩, hr1.below hb2, hb1.trans (.of_below hb2)⟩

end Go.Proofs.Ytigmmikijjcdiaa
