/- A goal's statement under a name, so that its proof can be told as a local theorem ('let rec'), which Lean lifts out and the kernel checks for itself. -/
import Derived.Lib.Hide
namespace Go.Proofs.YtihlhkbdgbkafaaGreat
structure Tg (P : Prop) : Type where
  mk ::
def Tg.prop {P : Prop} (_ : Tg P) : Prop := P
theorem Tg.intro {P : Prop} (t : Tg P) (h : P) : t.prop := h
theorem Tg.elim {P : Prop} (t : Tg P) (h : t.prop) : P := h
theorem Tg.lay {P : Prop} (h : Tg P → P) : P := h Tg.mk
end Go.Proofs.YtihlhkbdgbkafaaGreat
