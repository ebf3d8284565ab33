/- A part, as the document has it. -/
import Derived.Test.YtihdpfjonkagaaaProg
import Derived.Test.YtihdpfjonkagaaaMem
import Derived.Lib.Hide
import Derived.WalkSpells
import Derived.WalkMore
namespace Go.Proofs.Ytihdpfjonkagaaa
open Go.RowKit
set_option linter.unusedVariables false
set_option linter.unusedSimpArgs false
set_option maxRecDepth 100000 in
set_option maxHeartbeats 2000000 in
theorem plain_any (w : World) (a b c : Int) (x y z : Value) (hx : ∃ A n k, x = .slice A n k) (hy : ∃ A n k, y = .slice A n k) (hz : ∃ A n k, z = .slice A n k) :
    Calls Try.prog 18 #[.agg #[.int .i64 a, .int .i64 b, .int .i64 c, x, y, z]] w fun e w' => e = .returned (.agg #[.int .i64 a, .int .i64 b, .int .i64 c, x, y, z]) ∧ Below w.heap.size w w' := by
  obtain ⟨A1, n1, k1, rfl⟩ := hx
  obtain ⟨A2, n2, k2, rfl⟩ := hy
  obtain ⟨A3, n3, k3, rfl⟩ := hz
  go_enter Try.func18, Try.ntmps18
  go_wp2
  exact bodyPost_ret (v := .agg #[.int .i64 a, .int .i64 b, .int .i64 c, .slice A1 n1 k1, .slice A2 n2 k2, .slice A3 n3 k3]) (by simp [results, Try.results18, go_sem]) rfl ⟨rfl, ((Below.refl _ _).alloc (Nat.le_refl _) _).alloc (by simp) _⟩
end Go.Proofs.Ytihdpfjonkagaaa
