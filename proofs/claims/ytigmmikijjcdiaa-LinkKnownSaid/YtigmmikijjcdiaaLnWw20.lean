/- Lemmas: Ncl, Nsp. -/
import Derived.Deep.Strs
import Derived.Lib.SmallJoins
import Derived.Test.YtigmmikijjcdiaaLnWw2
set_option linter.unusedVariables false
set_option linter.unusedSimpArgs false
set_option maxRecDepth 100000
set_option maxHeartbeats 16000000
namespace Go.Proofs.Ytigmmikijjcdiaa
open Go.ChangeShapes Go.WideShapes Go.ChangeAt Go.RowKit Go.Deep
set_option maxRecDepth 100000
structure Cal5 where
 k : Nat
 A : Option Addr
 b : List UInt8
 c : Nat
 ep : Int
 h : Int
 n : Int
def Cal5.ok (x : Cal5) : Prop := x.k < 256 ∧ x.b.length ≤ 140737488351232 ∧ (-9223372036854775808 ≤ x.ep ∧ x.ep ≤ 9223372036854775807) ∧ (-9223372036854775808 ≤ x.h ∧ x.h ≤ 9223372036854775807) ∧ (-9223372036854775808 ≤ x.n ∧ x.n ≤ 9223372036854775807)
def calCells (w : World) (B : Nat) (cs : List Value) (x : Cal5) : Prop := cs = [.int .u8 x.k, .slice x.A x.b.length x.c, .int .i64 x.ep, .int .i64 x.h, .int .i64 x.n] ∧ Rd w B x.A (u8s x.b) ∧ x.ok
def Cals (w : World) (B : Nat) (A : Option Addr) (xs : List Cal5) : Prop := Els w B 5 A xs (calCells w B)
theorem Cals.below {w w' : World} {B B' : Nat} {A : Option Addr} {xs : List Cal5} (h : Cals w B A xs) (hb : Below B' w w') (hB : B ≤ B') : Cals w' B A xs :=
 Els.keep h (fun p hp => hb.cell (Nat.lt_of_lt_of_le hp hB)) fun cs x hx => ⟨hx.1, hx.2.1.below' hb hB, hx.2.2⟩
theorem Cals.get {w : World} {B : Nat} {A : Option Addr} {xs : List Cal5} (h : Cals w B A xs) {i : Nat} {x : Cal5} (hx : xs[i]? = some x) : ∃ b off, A = some ⟨b, off, none⟩ ∧ b < B ∧
  w.cell? ⟨b, off + i * 5, none⟩ = some (.int .u8 x.k) ∧ w.cell? ⟨b, off + i * 5 + 1, none⟩ = some (.slice x.A x.b.length x.c) ∧ w.cell? ⟨b, off + i * 5 + 2, none⟩ = some (.int .i64 x.ep) ∧ w.cell? ⟨b, off + i * 5 + 3, none⟩ = some (.int .i64 x.h) ∧ w.cell? ⟨b, off + i * 5 + 4, none⟩ = some (.int .i64 x.n) ∧
  Rd w B x.A (u8s x.b) ∧ x.ok := by
 obtain ⟨b, off, rfl, hb⟩ := Els.at_ h (List.getElem?_eq_some_iff.1 hx).1
 obtain ⟨cs, hl, ⟨rfl, hr, hk⟩, hc⟩ := Els.get h hx
 exact ⟨b, off, rfl, hb, by simpa using hc 0 _ rfl, by simpa [Nat.add_assoc] using hc 1 _ rfl, by simpa [Nat.add_assoc] using hc 2 _ rfl, by simpa [Nat.add_assoc] using hc 3 _ rfl, by simpa [Nat.add_assoc] using hc 4 _ rfl, hr, hk⟩
section
variable {H : Type} {enc : TypeId × Value → H}
end
end Go.Proofs.Ytigmmikijjcdiaa
namespace Go.Proofs.Ytigmmikijjcdiaa
open Go.ChangeShapes Go.WideShapes Go.ChangeAt Go.RowKit Go.Deep
set_option maxRecDepth 100000
structure Stp4 where
 k : Nat
 a : Nat
 n : Nat
 A : Option Addr
 b : List UInt8
 c : Nat
def Stp4.ok (x : Stp4) : Prop := x.k < 256 ∧ x.a < 256 ∧ x.n < 256 ∧ x.b.length ≤ 140737488351232
def stpCells (w : World) (B : Nat) (cs : List Value) (x : Stp4) : Prop := cs = [.int .u8 x.k, .int .u8 x.a, .int .u8 x.n, .slice x.A x.b.length x.c] ∧ Rd w B x.A (u8s x.b) ∧ x.ok
def Stps (w : World) (B : Nat) (A : Option Addr) (xs : List Stp4) : Prop := Els w B 4 A xs (stpCells w B)
theorem Stps.below {w w' : World} {B B' : Nat} {A : Option Addr} {xs : List Stp4} (h : Stps w B A xs) (hb : Below B' w w') (hB : B ≤ B') : Stps w' B A xs :=
 Els.keep h (fun p hp => hb.cell (Nat.lt_of_lt_of_le hp hB)) fun cs x hx => ⟨hx.1, hx.2.1.below' hb hB, hx.2.2⟩
theorem Stps.get {w : World} {B : Nat} {A : Option Addr} {xs : List Stp4} (h : Stps w B A xs) {i : Nat} {x : Stp4} (hx : xs[i]? = some x) : ∃ b off, A = some ⟨b, off, none⟩ ∧ b < B ∧
  w.cell? ⟨b, off + i * 4, none⟩ = some (.int .u8 x.k) ∧ w.cell? ⟨b, off + i * 4 + 1, none⟩ = some (.int .u8 x.a) ∧ w.cell? ⟨b, off + i * 4 + 2, none⟩ = some (.int .u8 x.n) ∧ w.cell? ⟨b, off + i * 4 + 3, none⟩ = some (.slice x.A x.b.length x.c) ∧
  Rd w B x.A (u8s x.b) ∧ x.ok := by
 obtain ⟨b, off, rfl, hb⟩ := Els.at_ h (List.getElem?_eq_some_iff.1 hx).1
 obtain ⟨cs, hl, ⟨rfl, hr, hk⟩, hc⟩ := Els.get h hx
 exact ⟨b, off, rfl, hb, by simpa using hc 0 _ rfl, by simpa [Nat.add_assoc] using hc 1 _ rfl, by simpa [Nat.add_assoc] using hc 2 _ rfl, by simpa [Nat.add_assoc] using hc 3 _ rfl, hr, hk⟩
section
variable {H : Type} {enc : TypeId × Value → H}
end
end Go.Proofs.Ytigmmikijjcdiaa
