/- Ends of a link, in plain Lean: frames, what a frame says, what an end does. -/
import Derived.Test.YtigmmikijjcdiaaProg
import Derived.Test.YtigmmikijjcdiaaLqFlw
import Derived.Test.YtigmmikijjcdiaaLqCrcm



namespace Go.Proofs.Ytigmmikijjcdiaa
set_option linter.unusedVariables false
abbrev BL := List UInt8
def frB (tag : Nat) (b : BL) (ns : List Nat) : BL := (be 1 tag ++ ns.flatMap (be 8)) ++ b
/-- the bytes of a frame -/
def fr (tag : Nat) (b : BL) (ns : List Nat) : BL := frB tag b ns ++ be 4 (crcm.sum (frB tag b ns))
def mostL : Nat := 4611686018427387904
/-- what a frame says: its epoch, what was heard, its number (0: an ack), its message -/
def readL (f : BL) : Option (Nat × Nat × Nat × BL) :=
  if f.length < 21 then none else
  let g := f.take (f.length - 4)
  let ep := num ((g.drop 1).take 8)
  let h := num ((g.drop 9).take 8)
  let n := num ((g.drop 17).take 8)
  if num (f.drop (f.length - 4)) ≠ crcm.sum g ∨ mostL < ep ∨ mostL < h then none
  else if num (g.take 1) = 2 then (if g.length = 17 then some (ep, h, 0, []) else none)
  else if num (g.take 1) = 1 then (if 25 ≤ g.length ∧ 1 ≤ n ∧ n ≤ mostL ∧ (g.drop 25).length ≤ 1048576 then some (ep, h, n, g.drop 25) else none)
  else none
theorem num_be_lt {k n : Nat} (h : n < 256 ^ k) : num (be k n) = n := by rw [num_be, Nat.mod_eq_of_lt h]
theorem sum_lt (b : BL) : crcm.sum b < 256 ^ 4 := by have := crcm.sum_lt b; omega
theorem fr_take (tag : Nat) (b : BL) (ns : List Nat) : (fr tag b ns).take ((fr tag b ns).length - 4) = frB tag b ns := by
  have h : (fr tag b ns).length - 4 = (frB tag b ns).length := by unfold fr; rw [List.length_append, be_len]; omega
  rw [h]
  unfold fr
  rw [List.take_left]
theorem fr_drop (tag : Nat) (b : BL) (ns : List Nat) : (fr tag b ns).drop ((fr tag b ns).length - 4) = be 4 (crcm.sum (frB tag b ns)) := by
  have h : (fr tag b ns).length - 4 = (frB tag b ns).length := by unfold fr; rw [List.length_append, be_len]; omega
  rw [h]
  unfold fr
  rw [List.drop_left]
theorem take_app {α : Type} {a b : List α} {k : Nat} (h : a.length = k) : (a ++ b).take k = a := by rw [← h, List.take_left]
theorem drop_app {α : Type} {a b : List α} {k : Nat} (h : a.length = k) : (a ++ b).drop k = b := by rw [← h, List.drop_left]
/-- a message is read as it was put -/
theorem read_msg {ep h n : Nat} {b : BL} (h1 : ep ≤ mostL) (h2 : h ≤ mostL) (h3 : 1 ≤ n) (h4 : n ≤ mostL) (h5 : b.length ≤ 1048576) : readL (fr 1 b [ep, h, n]) = some (ep, h, n, b) := by
  have hB : frB 1 b [ep, h, n] = be 1 1 ++ (be 8 ep ++ (be 8 h ++ (be 8 n ++ b))) := by simp [frB]
  have hl : (frB 1 b [ep, h, n]).length = 25 + b.length := by rw [hB]; simp [be_len]; omega
  have hf : (fr 1 b [ep, h, n]).length = 29 + b.length := by unfold fr; rw [List.length_append, be_len, hl]; omega
  have e1 : (frB 1 b [ep, h, n]).take 1 = be 1 1 := by rw [hB]; exact take_app (be_len _ _)
  have d1 : (frB 1 b [ep, h, n]).drop 1 = be 8 ep ++ (be 8 h ++ (be 8 n ++ b)) := by rw [hB]; exact drop_app (be_len _ _)
  have d9 : (frB 1 b [ep, h, n]).drop 9 = be 8 h ++ (be 8 n ++ b) := by rw [show 9 = 1 + 8 from rfl, ← List.drop_drop, d1]; exact drop_app (be_len _ _)
  have d17 : (frB 1 b [ep, h, n]).drop 17 = be 8 n ++ b := by rw [show 17 = 9 + 8 from rfl, ← List.drop_drop, d9]; exact drop_app (be_len _ _)
  have d25 : (frB 1 b [ep, h, n]).drop 25 = b := by rw [show 25 = 17 + 8 from rfl, ← List.drop_drop, d17]; exact drop_app (be_len _ _)
  have q : ∀ x, x ≤ mostL → x < 256 ^ 8 := fun x hx => by unfold mostL at hx; omega
  unfold readL
  rw [if_neg (by omega)]
  dsimp only
  rw [fr_take, fr_drop, d1, d9, d17, d25, e1, take_app (be_len _ _), take_app (be_len _ _), take_app (be_len _ _), num_be_lt (q _ h1), num_be_lt (q _ h2), num_be_lt (q _ h4), num_be_lt (sum_lt _), num_be_lt (by decide), hl]
  rw [if_neg (by omega), if_neg (by omega), if_pos rfl, if_pos ⟨by omega, h3, h4, h5⟩]
/-- an ack is read as it was put -/
theorem read_ack {ep h : Nat} (h1 : ep ≤ mostL) (h2 : h ≤ mostL) : readL (fr 2 [] [ep, h]) = some (ep, h, 0, []) := by
  have hB : frB 2 [] [ep, h] = be 1 2 ++ (be 8 ep ++ (be 8 h ++ [])) := by simp [frB]
  have hl : (frB 2 [] [ep, h]).length = 17 := by rw [hB]; simp [be_len]
  have hf : (fr 2 [] [ep, h]).length = 21 := by unfold fr; rw [List.length_append, be_len, hl]
  have e1 : (frB 2 [] [ep, h]).take 1 = be 1 2 := by rw [hB]; exact take_app (be_len _ _)
  have d1 : (frB 2 [] [ep, h]).drop 1 = be 8 ep ++ (be 8 h ++ []) := by rw [hB]; exact drop_app (be_len _ _)
  have d9 : (frB 2 [] [ep, h]).drop 9 = be 8 h ++ [] := by rw [show 9 = 1 + 8 from rfl, ← List.drop_drop, d1]; exact drop_app (be_len _ _)
  have q : ∀ x, x ≤ mostL → x < 256 ^ 8 := fun x hx => by unfold mostL at hx; omega
  unfold readL
  rw [if_neg (by omega)]
  dsimp only
  rw [fr_take, fr_drop, d1, d9, e1, take_app (be_len _ _), take_app (be_len _ _), num_be_lt (q _ h1), num_be_lt (q _ h2), num_be_lt (sum_lt _), num_be_lt (by decide), hl]
  rw [if_neg (by omega), if_pos rfl, if_pos rfl]
/-- an end -/
structure LE where
  ep : Nat
  sent : List BL
  next : Nat
  heard : Nat
  fresh : Nat
  owes : Bool
  ahead : Nat → Option BL
def LE.first (s : LE) : Nat := s.next - s.sent.length
def openL (ep : Nat) : LE := ⟨ep, [], 1, 0, 1, false, fun _ => none⟩
/-- what holds of each end -/
structure LEok (s : LE) : Prop where
  ep : s.ep ≤ mostL
  sent : s.sent.length ≤ 64
  first : s.sent.length < s.next
  fresh1 : s.first ≤ s.fresh
  fresh2 : s.fresh ≤ s.next
  next : s.next ≤ 1000000
  heard : s.heard ≤ 1000000
  bytes : ∀ b ∈ s.sent, b.length ≤ 1048576
  ahead : ∀ n b, s.ahead n = some b → b.length ≤ 1048576 ∧ s.heard < n ∧ n ≤ s.heard + 64
theorem openL_ok {ep : Nat} (h : ep ≤ mostL) : LEok (openL ep) := ⟨h, by simp [openL], by simp [openL], by simp [openL, LE.first], by simp [openL], by simp [openL], by simp [openL], by simp [openL], by simp [openL]⟩
/-- Send: the error, and the end -/
def sendL (s : LE) (b : BL) : Int × LE := if 1048576 < b.length ∨ mostL ≤ s.next then (3, s) else if 64 ≤ s.sent.length then (161, s) else (0, { s with sent := s.sent ++ [b], next := s.next + 1 })
/-- the frames from a number on -/
def framesL (s : LE) (n : Nat) : List BL := (List.range' n (s.next - n)).map fun i => fr 1 (s.sent.getD (i - s.first) []) [s.ep, s.heard, i]
def fromL (s : LE) (n : Nat) (ack : Bool) : List BL × LE :=
  let l := if (framesL s n).isEmpty && ack then [fr 2 [] [s.ep, s.heard]] else framesL s n
  (l, { s with owes := s.owes && l.isEmpty, fresh := s.next })
def outL (s : LE) : List BL × LE := fromL s s.fresh s.owes
def againL (s : LE) : List BL × LE := fromL s s.first true
/-- what is acked goes -/
def ackL (s : LE) (h : Nat) : LE := if s.first ≤ h then { s with sent := s.sent.drop (h + 1 - s.first), fresh := max s.fresh (h + 1) } else s
/-- what has come is told in order -/
def tellL : Nat → LE → List BL × LE
  | 0, s => ([], s)
  | k + 1, s => match s.ahead (s.heard + 1) with
    | none => ([], s)
    | some b =>
      let r := tellL k { s with heard := s.heard + 1, ahead := fun n => if n = s.heard + 1 then none else s.ahead n }
      (b :: r.1, r.2)
def putL (s : LE) (n : Nat) (b : BL) : LE := if s.heard < n ∧ n ≤ s.heard + 64 ∧ s.ahead n = none then { s with owes := true, ahead := fun m => if m = n then some b else s.ahead m } else { s with owes := true }
def hearL (s : LE) (f : BL) : Int × List BL × LE := match readL f with
  | none => (150, [], s)
  | some (ep, h, n, b) => if ep ≠ s.ep then (4, [], s) else if s.next ≤ h then (2, [], s) else
    if n = 0 then (0, [], ackL s h) else (0, (tellL 65 (putL (ackL s h) n b)).1, (tellL 65 (putL (ackL s h) n b)).2)
end Go.Proofs.Ytigmmikijjcdiaa
