/- A Writer: Raw. -/
import Derived.Test.YtigmmikijjcdiaaLqFwr

namespace Go.Proofs.Ytigmmikijjcdiaa
open Go.RowKit
set_option linter.unusedVariables false
set_option maxRecDepth 100000 in
set_option maxHeartbeats 1000000 in
theorem put_raw (w : World) (g : Nat) {lo : Nat} (out : List UInt8) (A : Option Addr) (bs : List UInt8) (c : Nat) (hR : Rd w w.heap.size A (u8s bs)) (hW : Wo w g lo out) (hl : out.length ≤ 1000000000000) (hl2 : bs.length ≤ 1000000000000) :
    Calls Try.prog 55 #[.pointer (some ⟨g, 0, none⟩), .slice A bs.length c] w fun e w' => e = .returned (.tuple #[]) ∧ Wo w' g lo (out ++ bs) ∧ Besides g w w' := by
  go_enter Try.func55, Try.ntmps55
  have hlt := hW.lt
  go_wp2_with fail
  refine (clone_any _ A bs c hR (by omega)).mono ?_
  rintro e w1 ⟨⟨A', c', rfl, hown⟩, hb1⟩
  have hR : Rg w1 lo A' (u8s bs) := fun hn => by
    have hpos : 0 < bs.length := by
      rcases bs with _ | ⟨x, l⟩
      · exact absurd rfl hn
      · simp
    obtain ⟨b, rfl, hb, _⟩ := own_addr hown hpos
    exact Rg.of_rd (Rd.of_own hown) (by omega) hn
  have hW1 := hW.below hb1
  go_wp2_with fail
  refine (put_len _ g out _ bs _ rfl _ hW1 hR (by omega)).mono ?_
  rintro e w2 ⟨rfl, hW2, hb2⟩
  go_wp2
  go_end0
  exact ⟨rfl, hW2, (Besides.of_below hb1).trans hb2⟩

end Go.Proofs.Ytigmmikijjcdiaa
