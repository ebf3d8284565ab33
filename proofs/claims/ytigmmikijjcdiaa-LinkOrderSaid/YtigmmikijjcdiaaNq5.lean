/- A step of a script: whichever. (printed by gen/lnp.py) -/
import Derived.Test.YtigmmikijjcdiaaProg
import Derived.Test.YtigmmikijjcdiaaNq1
import Derived.Test.YtigmmikijjcdiaaNq2
import Derived.Test.YtigmmikijjcdiaaNq3
import Derived.Test.YtigmmikijjcdiaaNq4
import Derived.Deep.DeepCutAuto
import Derived.Lib.Hide
import Derived.WalkSpells
import Derived.WalkMore
import Derived.IntWalk
namespace Go.Proofs.Ytigmmikijjcdiaa
open Go.RowKit
set_option linter.unusedVariables false
set_option linter.unusedSimpArgs false
theorem step_any (w : World) {L W P1 P2 a Q1 Q2 ep m n : Nat} (hS : NSt w L W P1 P2 a Q1 Q2 ep m n) (ha : a < 2) (hm : m ≤ 1000) (hn : n ≤ 1000) (k A8 N8 : Nat) (hk : k < 256) (hA : A8 < 256) (hN8 : N8 < 256) (hAa : A8 % 2 = a) (Ab : Option Addr) (b : BL) (bl cb : Nat) (hbl : b.length = bl) (hR : Rd w L Ab (u8s b)) (hb : bl ≤ 5000) :
    Calls Try.prog 18 #[.pointer (some ⟨W, 0, none⟩), .agg #[.int .u8 (k : Int), .int .u8 (A8 : Int), .int .u8 (N8 : Int), .slice Ab bl cb]] w (StepPost w L W P1 P2 a Q1 Q2 ep m n) := by
  have h10 : k % 10 < 10 := Nat.mod_lt _ (by decide)
  rcases hc : k % 10 with _ | _ | _ | _ | _ | _ | _ | _ | _ | _ | c
  · exact step_send0 w hS ha hm hn k A8 N8 hk hA hN8 hAa Ab b bl cb hbl hR hb hc
  · exact step_send1 w hS ha hm hn k A8 N8 hk hA hN8 hAa Ab b bl cb hbl hR hb hc
  · exact step_out w hS ha hm hn k A8 N8 hk hA hN8 hAa Ab b bl cb hbl hR hb hc
  · exact step_again w hS ha hm hn k A8 N8 hk hA hN8 hAa Ab b bl cb hbl hR hb hc
  · exact step_hear4 w hS ha hm hn k A8 N8 hk hA hN8 hAa Ab b bl cb hbl hR hb hc
  · exact step_hear5 w hS ha hm hn k A8 N8 hk hA hN8 hAa Ab b bl cb hbl hR hb hc
  · exact step_stay w hS ha hm hn k A8 N8 hk hA hN8 hAa Ab b bl cb hbl hR hb hc
  · exact step_lost w hS ha hm hn k A8 N8 hk hA hN8 hAa Ab b bl cb hbl hR hb hc
  · exact step_far w hS ha hm hn k A8 N8 hk hA hN8 hAa Ab b bl cb hbl hR hb hc
  · exact step_turn w hS ha hm hn k A8 N8 hk hA hN8 hAa Ab b bl cb hbl hR hb hc
  · omega
end Go.Proofs.Ytigmmikijjcdiaa
