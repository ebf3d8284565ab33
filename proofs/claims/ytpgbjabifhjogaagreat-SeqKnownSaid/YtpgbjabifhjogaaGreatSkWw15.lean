/- Lemmas: Lat, Lgt. -/
import Derived.Test.YtpgbjabifhjogaaGreatProg
import Derived.Lib.Hide
import Derived.WalkSpells
import Derived.WalkMore
import Derived.Test.YtpgbjabifhjogaaGreatSkWw1
set_option linter.unusedVariables false
set_option linter.unusedSimpArgs false
set_option maxRecDepth 100000
set_option maxHeartbeats 16000000
namespace Go.Proofs.YtpgbjabifhjogaaGreat
open Go.RowKit
def atI (l:List Int) (i:Int):Int:=(l[i.toNat]?).getD 0
theorem rd_at {w:World} {B b off:Nat} {vals:List Int} (h:Rd w B (some ⟨b,off,none⟩) (vals.map (Value.int .i64))) {k:Nat} (hk:k<vals.length):w.cell? ⟨b,off+k,none⟩=some (.int .i64 (atI vals (k:Int))):=by
 have:=h.cell (j:=k) (u:=.int .i64 vals[k]) (by simp[hk])
 rw[this,atI]
 simp[hk]
theorem light_any (w:World) (V:Int) (A:Option Addr) (L c:Nat) (t:Int):Calls Tryz.prog 32 #[.agg #[.int .i64 V,.slice A L c],.int .i64 t] w fun e w'=>e = .returned (.bool (decide ((L:Int)≤t)))∧Below w.heap.size w w':=by
 have hb:Below w.heap.size w (w.alloc (.cells #[.int .i64 V,.slice A L c] 24)):=(Below.refl _ _).alloc (Nat.le_refl _) _
 go_enter Tryz.func32,Tryz.ntmps32
 go_wp2
 go_ret
 exact⟨rfl,hb⟩
end Go.Proofs.YtpgbjabifhjogaaGreat
