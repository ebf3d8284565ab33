/- Lemmas: Lkp, Fou, Fwq, Frq. -/
import Derived.Test.YtigmmikijjcdiaaProg
import Derived.Deep.RegionLaw
import Derived.Test.YtigmmikijjcdiaaLnWw7
import Derived.Test.YtigmmikijjcdiaaLnWw8
set_option linter.unusedVariables false
set_option linter.unusedSimpArgs false
set_option maxRecDepth 100000
set_option maxHeartbeats 16000000
namespace Go.Proofs.Ytigmmikijjcdiaa
abbrev BL := List UInt8
def frB (tag : Nat) (b : BL) (ns : List Nat) : BL := (be 1 tag ++ ns.flatMap (be 8)) ++ b
def fr (tag : Nat) (b : BL) (ns : List Nat) : BL := frB tag b ns ++ be 4 (crcm.sum (frB tag b ns))
def mostL : Nat := 4611686018427387904
def readL (f : BL) : Option (Nat × Nat × Nat × BL) :=
 if f.length < 21 then none else
 let g := f.take (f.length - 4)
 let ep := num ((g.drop 1).take 8)
 let h := num ((g.drop 9).take 8)
 let n := num ((g.drop 17).take 8)
 if num (f.drop (f.length - 4)) ≠ crcm.sum g ∨ mostL < ep ∨ mostL < h then none
 else if num (g.take 1) = 2 then (if g.length = 17 then some (ep, h, 0, []) else none)
 else if num (g.take 1) = 1 then (if 25 ≤ g.length ∧ 1 ≤ n ∧ n ≤ mostL ∧ (g.drop 25).length ≤ 1048576 then some (ep, h, n, g.drop 25) else none)
 else none
theorem num_be_lt {k n : Nat} (h : n < 256 ^ k) : num (be k n) = n := by rw [num_be, Nat.mod_eq_of_lt h]
theorem sum_lt (b : BL) : crcm.sum b < 256 ^ 4 := by have := crcm.sum_lt b; omega
theorem fr_take (tag : Nat) (b : BL) (ns : List Nat) : (fr tag b ns).take ((fr tag b ns).length - 4) = frB tag b ns := by
 have h : (fr tag b ns).length - 4 = (frB tag b ns).length := by unfold fr; rw [List.length_append, be_len]; omega
 rw [h]
 unfold fr
 rw [List.take_left]
theorem fr_drop (tag : Nat) (b : BL) (ns : List Nat) : (fr tag b ns).drop ((fr tag b ns).length - 4) = be 4 (crcm.sum (frB tag b ns)) := by
 have h : (fr tag b ns).length - 4 = (frB tag b ns).length := by unfold fr; rw [List.length_append, be_len]; omega
 rw [h]
 unfold fr
 rw [List.drop_left]
theorem take_app {α : Type} {a b : List α} {k : Nat} (h : a.length = k) : (a ++ b).take k = a := by rw [← h, List.take_left]
theorem drop_app {α : Type} {a b : List α} {k : Nat} (h : a.length = k) : (a ++ b).drop k = b := by rw [← h, List.drop_left]
theorem read_msg {ep h n : Nat} {b : BL} (h1 : ep ≤ mostL) (h2 : h ≤ mostL) (h3 : 1 ≤ n) (h4 : n ≤ mostL) (h5 : b.length ≤ 1048576) : readL (fr 1 b [ep, h, n]) = some (ep, h, n, b) := by
 have hB : frB 1 b [ep, h, n] = be 1 1 ++ (be 8 ep ++ (be 8 h ++ (be 8 n ++ b))) := by simp [frB]
 have hl : (frB 1 b [ep, h, n]).length = 25 + b.length := by rw [hB]; simp [be_len]; omega
 have hf : (fr 1 b [ep, h, n]).length = 29 + b.length := by unfold fr; rw [List.length_append, be_len, hl]; omega
 have e1 : (frB 1 b [ep, h, n]).take 1 = be 1 1 := by rw [hB]; exact take_app (be_len _ _)
 have d1 : (frB 1 b [ep, h, n]).drop 1 = be 8 ep ++ (be 8 h ++ (be 8 n ++ b)) := by rw [hB]; exact drop_app (be_len _ _)
 have d9 : (frB 1 b [ep, h, n]).drop 9 = be 8 h ++ (be 8 n ++ b) := by rw [show 9 = 1 + 8 from rfl, ← List.drop_drop, d1]; exact drop_app (be_len _ _)
 have d17 : (frB 1 b [ep, h, n]).drop 17 = be 8 n ++ b := by rw [show 17 = 9 + 8 from rfl, ← List.drop_drop, d9]; exact drop_app (be_len _ _)
 have d25 : (frB 1 b [ep, h, n]).drop 25 = b := by rw [show 25 = 17 + 8 from rfl, ← List.drop_drop, d17]; exact drop_app (be_len _ _)
 have q : ∀ x, x ≤ mostL → x < 256 ^ 8 := fun x hx => by unfold mostL at hx; omega
 unfold readL
 rw [if_neg (by omega)]
 dsimp only
 rw [fr_take, fr_drop, d1, d9, d17, d25, e1, take_app (be_len _ _), take_app (be_len _ _), take_app (be_len _ _), num_be_lt (q _ h1), num_be_lt (q _ h2), num_be_lt (q _ h4), num_be_lt (sum_lt _), num_be_lt (by decide), hl]
 rw [if_neg (by omega), if_neg (by omega), if_pos rfl, if_pos ⟨by omega, h3, h4, h5⟩]
theorem read_ack {ep h : Nat} (h1 : ep ≤ mostL) (h2 : h ≤ mostL) : readL (fr 2 [] [ep, h]) = some (ep, h, 0, []) := by
 have hB : frB 2 [] [ep, h] = be 1 2 ++ (be 8 ep ++ (be 8 h ++ [])) := by simp [frB]
 have hl : (frB 2 [] [ep, h]).length = 17 := by rw [hB]; simp [be_len]
 have hf : (fr 2 [] [ep, h]).length = 21 := by unfold fr; rw [List.length_append, be_len, hl]
 have e1 : (frB 2 [] [ep, h]).take 1 = be 1 2 := by rw [hB]; exact take_app (be_len _ _)
 have d1 : (frB 2 [] [ep, h]).drop 1 = be 8 ep ++ (be 8 h ++ []) := by rw [hB]; exact drop_app (be_len _ _)
 have d9 : (frB 2 [] [ep, h]).drop 9 = be 8 h ++ [] := by rw [show 9 = 1 + 8 from rfl, ← List.drop_drop, d1]; exact drop_app (be_len _ _)
 have q : ∀ x, x ≤ mostL → x < 256 ^ 8 := fun x hx => by unfold mostL at hx; omega
 unfold readL
 rw [if_neg (by omega)]
 dsimp only
 rw [fr_take, fr_drop, d1, d9, e1, take_app (be_len _ _), take_app (be_len _ _), num_be_lt (q _ h1), num_be_lt (q _ h2), num_be_lt (sum_lt _), num_be_lt (by decide), hl]
 rw [if_neg (by omega), if_pos rfl, if_pos rfl]
structure LE where
 ep : Nat
 sent : List BL
 next : Nat
 heard : Nat
 fresh : Nat
 owes : Bool
 ahead : Nat → Option BL
def LE.first (s : LE) : Nat := s.next - s.sent.length
def openL (ep : Nat) : LE := ⟨ep, [], 1, 0, 1, false, fun _ => none⟩
structure LEok (s : LE) : Prop where
 ep : s.ep ≤ mostL
 sent : s.sent.length ≤ 64
 first : s.sent.length < s.next
 fresh1 : s.first ≤ s.fresh
 fresh2 : s.fresh ≤ s.next
 next : s.next ≤ 1000000
 heard : s.heard ≤ 1000000
 bytes : ∀ b ∈ s.sent, b.length ≤ 1048576
 ahead : ∀ n b, s.ahead n = some b → b.length ≤ 1048576 ∧ s.heard < n ∧ n ≤ s.heard + 64
theorem openL_ok {ep : Nat} (h : ep ≤ mostL) : LEok (openL ep) := ⟨h, by simp [openL], by simp [openL], by simp [openL, LE.first], by simp [openL], by simp [openL], by simp [openL], by simp [openL], by simp [openL]⟩
def sendL (s : LE) (b : BL) : Int × LE := if 1048576 < b.length ∨ mostL ≤ s.next then (3, s) else if 64 ≤ s.sent.length then (161, s) else (0, { s with sent := s.sent ++ [b], next := s.next + 1 })
def framesL (s : LE) (n : Nat) : List BL := (List.range' n (s.next - n)).map fun i => fr 1 (s.sent.getD (i - s.first) []) [s.ep, s.heard, i]
def fromL (s : LE) (n : Nat) (ack : Bool) : List BL × LE :=
 let l := if (framesL s n).isEmpty && ack then [fr 2 [] [s.ep, s.heard]] else framesL s n
 (l, { s with owes := s.owes && l.isEmpty, fresh := s.next })
def ackL (s : LE) (h : Nat) : LE := if s.first ≤ h then { s with sent := s.sent.drop (h + 1 - s.first), fresh := max s.fresh (h + 1) } else s
def tellL : Nat → LE → List BL × LE
 | 0, s => ([], s)
 | k + 1, s => match s.ahead (s.heard + 1) with
  | none => ([], s)
  | some b =>
   let r := tellL k { s with heard := s.heard + 1, ahead := fun n => if n = s.heard + 1 then none else s.ahead n }
   (b :: r.1, r.2)
def putL (s : LE) (n : Nat) (b : BL) : LE := if s.heard < n ∧ n ≤ s.heard + 64 ∧ s.ahead n = none then { s with owes := true, ahead := fun m => if m = n then some b else s.ahead m } else { s with owes := true }
def hearL (s : LE) (f : BL) : Int × List BL × LE := match readL f with
 | none => (150, [], s)
 | some (ep, h, n, b) => if ep ≠ s.ep then (4, [], s) else if s.next ≤ h then (2, [], s) else
  if n = 0 then (0, [], ackL s h) else (0, (tellL 65 (putL (ackL s h) n b)).1, (tellL 65 (putL (ackL s h) n b)).2)
end Go.Proofs.Ytigmmikijjcdiaa
namespace Go.Proofs.Ytigmmikijjcdiaa
open Go.RowKit
theorem Chain.same {w : World} {g : Nat} : ∀ {q : Option Addr} {ps ps' : List Piece}, Chain w g q ps → Chain w g q ps' → ps.length = ps'.length
 | _, [], [], _, _ => rfl
 | _, [], (_, _, _) :: _, h, ⟨b, _, e, _⟩ => by rw [show _ = none from h] at e; cases e
 | _, (_, _, _) :: _, [], ⟨b, _, e, _⟩, h => by rw [show _ = none from h] at e; cases e
 | _, (_, _, _) :: ps, (_, _, _) :: ps', ⟨b, q1, e, _, _, _, h1, _, ht⟩, ⟨b', q2, e', _, _, _, h2, _, ht'⟩ => by
  rw [e] at e'
  injection e' with e'
  injection e' with e'
  subst e'
  rw [h1] at h2
  injection h2 with h2
  injection h2 with h2
  subst h2
  simp [Chain.same ht ht']
open Classical in
noncomputable def leftOf (w : World) (g : Nat) (v : Value) : Nat := if h : ∃ ps q, v = .pointer q ∧ Chain w g q ps then (Classical.choose h).length else 0
theorem leftOf_eq {w : World} {g : Nat} {q : Option Addr} {ps : List Piece} (h : Chain w g q ps) : leftOf w g (.pointer q) = ps.length := by
 have hex : ∃ ps q', Value.pointer q = .pointer q' ∧ Chain w g q' ps := ⟨ps, q, rfl, h⟩
 unfold leftOf
 rw [dif_pos hex]
 obtain ⟨q', e, h'⟩ := Classical.choose_spec hex
 injection e with e
 subst e
 exact h'.same h
def outRow (e : Nat) (done : List UInt8) : List Value := List.replicate e (.int .u8 0) ++ u8s done
theorem outRow_len (e : Nat) (done : List UInt8) : (outRow e done).length = e + done.length := by simp [outRow, u8s]
theorem outRow_splice (e : Nat) (bs done : List UInt8) : splice (outRow (e + bs.length) done) e (u8s bs) = outRow e (bs ++ done) := by
 unfold splice outRow
 rw [u8s_len, List.take_append_of_le_length (by simp), List.take_replicate, List.drop_append_of_le_length (by simp), List.drop_replicate]
 simp [u8s]
theorem made_cells {w : World} {base g N : Nat} {xs : List Value} {t : TypeId} (h : w.ownsRow base t 1 (.slice (some ⟨g, 0, none⟩) N N) N xs) : w.heap[g]? = some (.cells xs.toArray t) := by
 rcases h.2 with ⟨e, _⟩ | ⟨g', cap, cur, e, _, hg, _, _, hs, ht⟩
 ·cases e
 ·injection e with e1 e2 e3
  injection e1 with e1
  injection e1 with e1
  subst e1 e3
  rw [hg, ← ht, List.take_of_length_le (by simp [hs])]
theorem made_zero (N : Nat) : (madeCells (Value.int .u8 0).cells (N * 1)).toList = outRow N [] := by
 rw [Nat.mul_one, show (Value.int .u8 0).cells = #[Value.int .u8 0] from rfl, toList_madeCells_one]
 simp [outRow, u8s]
theorem out_any (w : World) (g : Nat) {lo : Nat} (out : List UInt8) (hW : Wo w g lo out) (hl : out.length ≤ 1000000000000) :
  Calls Try.prog 57 #[.pointer (some ⟨g, 0, none⟩)] w fun e w' => e = .returned (.slice (some ⟨w.heap.size, 0, none⟩) out.length out.length) ∧ w'.heap[w.heap.size]? = some (.cells (u8s out).toArray 5) ∧ Below w.heap.size w w' := by
 obtain ⟨ps0, hout, hgl, hll, q0, hg, hc⟩ := hW
 rw [hout] at hg
 have c0 : w.cell? ⟨g, 0, none⟩ = some (.pointer q0) := cell_of_row _ _ 0 _ _ _ hg
 have c1 : w.cell? ⟨g, 1, none⟩ = some (.int .i64 (out.length : Nat)) := cell_of_row _ _ 1 _ _ _ hg
 have hlt := lt_of_block hg
 have HC := hide hc
 clear hg hc
 obtain ⟨N, hN⟩ : ∃ N, out.length = N := ⟨_, rfl⟩
 have HN := hide hN
 rw [hN] at c1 hl ⊢
 clear hN
 obtain ⟨i0, hi0, hz0, hz1, hz2⟩ := info_parts (show (Try.prog.info? 5).map (fun i => (i.zero, i.size, i.bytes)) = some (some (.int .u8 0), 1, 1) by kernel_rfl)
 have hb8 : i0.bytes * N ≤ 281474976710656 := by rw [hz2]; omega
 go_enter Try.func57, Try.ntmps57
 go_wp2_with (at_make; refine wpList_make_full _ rfl (.tmp 11) (.tmp 11) 23 rfl w.heap.size 5 i0 (.int .u8 0) 1 Try.underlying23 hi0 hz0 hz1 .i64 .i64 _ _ N rfl rfl (by omega) (by omega) hb8 (by unfold maxLen; omega) (Nat.le_refl _) ?_; intro w1 hown1 hg1; have hb1 : Below w.heap.size w w1 := (Below.refl _ w).grown hg1 (Nat.le_refl _) (fun k e => by cases e); have c0' := (hb1.cell (p := ⟨g, 0, none⟩) hlt).trans c0; have c1' := (hb1.cell (p := ⟨g, 1, none⟩) hlt).trans c1; have hm1 := made_cells hown1; rw [made_zero] at hm1; clear hown1 hg1)
 go_loopw [4, 5] (fun ve vp wr => ∃ (q : Option Addr) (ps : List Piece) (done : List UInt8), outOf ps ++ done = out ∧ vp = .pointer q ∧ ve = .int .i64 ((outOf ps).length : Nat) ∧ Chain w lo q ps ∧ wr.heap[w.heap.size]? = some (.cells (outRow (outOf ps).length done).toArray 5) ∧ Below w.heap.size w wr) (fun _ vp _ => leftOf w lo vp)
 case atStart => exact ⟨q0, ps0, [], by rw [List.append_nil]; exact hout, rfl, by rw [hout, HN.out], HC.out, by rw [hout, HN.out]; exact hm1, hb1⟩
 case round =>
  obtain ⟨q, ps, done, hcat, rfl, rfl, hch, hrow, hbw⟩ := hrel
  rcases ps with _ | ⟨⟨A, bs, c⟩, ps⟩
  ·obtain rfl : q = none := hch
   have hd : done = out := hcat
   subst hd
   go_wp2
   go_ret
   refine ⟨rfl, ?_, hbw⟩
   rw [hrow]
   simp [outRow, outOf]
  ·obtain ⟨b, q', rfl, hgb, hbl, k0, k1, hR, hch'⟩ := hch
   have hcat' := hcat
   have hle := congrArg List.length hcat
   have hoe : (outOf ((A, bs, c) :: ps)).length = (outOf ps).length + bs.length := by simp [outOf]
   rw [List.length_append, hoe, HN.out] at hle
   rw [hoe] at hrow ⊢
   have hm0 := leftOf_eq hch'
   have hm1' := leftOf_eq (w := w) (g := lo) (q := some ⟨b, 0, none⟩) (ps := (A, bs, c) :: ps) ⟨b, q', rfl, hgb, hbl, k0, k1, hR, hch'⟩
   have k0' := (hbw.cell (p := ⟨b, 0, none⟩) hbl).trans k0
   have k1' := (hbw.cell (p := ⟨b, 1, none⟩) hbl).trans k1
   have hR' := hR.rd.below' hbw (Nat.le_refl _)
   obtain ⟨E, hE⟩ : ∃ E, (outOf ps).length = E := ⟨_, rfl⟩
   obtain ⟨L, hL⟩ : ∃ L, bs.length = L := ⟨_, rfl⟩
   have HE := hide hE
   have HL := hide hL
   have HM := hide hm0
   have HM1 := hide hm1'
   have HCat := hide hcat
   have HCh := hide hch'
   have HRow := hide hrow
   have HR := hide hR'
   have K1 := hide k1
   rw [hE, hL] at hle
   rw [hL] at k0'
   rw [hE, hL]
   clear hE hL hm0 hm1' hcat hcat' hch' hrow hR' k0 k1 hoe hR
   have hI0 : (0 : Int) ≤ (E : Int) := by omega
   have hI1 : (E : Int) ≤ (N : Int) := by omega
   have hs1 : ((E + L : Nat) : Int) = (E : Int) + (L : Int) := by omega
   have hs2 : IntKind.i64.wrap ((E : Int) + (L : Int) - (L : Int)) = (E : Int) := by rw [show (E : Int) + (L : Int) - (L : Int) = (E : Int) by omega]; exact IntWalk.i64_in _ (by omega)
   rw [hs1]
   go_wp2
   have hsrc : ∀ W : World, W.heap = wr.heap → 0 < (u8s bs).length → ∃ ad, A = some ad ∧ ∀ j v, (u8s bs)[j]? = some v → W.cell? (ad.add j) = some v := by
    intro W hW hp
    obtain ⟨b1, off1, e, _, hcc⟩ := HR.out (fun e => by rw [e] at hp; simp at hp)
    exact ⟨_, e, fun j v hv => by rw [add_plain]; exact (World.cell?_of_block (by rw [hW])).trans (hcc j v hv)⟩
   have HS := hide hsrc
   have hrow1 : Hid (wr.heap[w.heap.size]? = some (.cells (outRow (E + bs.length) done).toArray 5)) := hide (by rw [HRow.out, HE.out])
   have hmin : Hid ((u8s bs).length = Nat.min L (N - E)) := hide (by rw [u8s_len, HL.out]; exact (Nat.min_eq_left (by omega)).symm)
   have hnE : Hid (0 < (u8s bs).length → N ≠ E) := hide (fun h => by rw [u8s_len, HL.out] at h; omega)
   have hfit : Hid (E + (u8s bs).length ≤ (outRow (E + bs.length) done).length) := hide (by rw [outRow_len, u8s_len]; omega)
   clear hsrc
   go_region_law (refine step_copy_splice rfl (.tmp 36) (.tmp 40) 23 23 rfl 5 Try.underlying23 (by kernel_rfl) (if N = E then some ⟨w.heap.size, 0, none⟩ else some ⟨w.heap.size, E, none⟩) A (N - E) (N - E) L c (by simp [Act.eval]) (by simp [Act.eval]) w.heap.size E (outRow (E + bs.length) done) 5 hrow1.out (u8s bs) hmin.out (fun hp => ⟨if_neg (hnE.out hp), HS.out _ rfl hp⟩) hfit.out (u8s_one bs) w.heap.size w ⟨hbw.os, hbw.tape, hbw.output, hbw.size, hbw.block⟩ (Nat.le_refl _) ?_; intro w4 hg4 hb4)
   have k4 := (hb4.cell (p := ⟨b, 1, none⟩) hbl).trans K1.out
   clear HS hrow1 hmin hnE hfit HRow HR hbw
   go_wp2
   go_roundw
   case rel =>
    refine ⟨q', ps, bs ++ done, ?_, rfl, by rw [HE.out], HCh.out, ?_, hb4⟩
    ·rw [← HCat.out]; simp [outOf]
    ·rw [HE.out, ← outRow_splice]; exact hg4.out
   case measure =>
    show leftOf w lo (.pointer q') < leftOf w lo (.pointer (some ⟨b, 0, none⟩))
    rw [HM.out, HM1.out]
    simp
end Go.Proofs.Ytigmmikijjcdiaa
namespace Go.Proofs.Ytigmmikijjcdiaa
open Go.RowKit
theorem put_raw (w : World) (g : Nat) {lo : Nat} (out : List UInt8) (A : Option Addr) (bs : List UInt8) (c : Nat) (hR : Rd w w.heap.size A (u8s bs)) (hW : Wo w g lo out) (hl : out.length ≤ 1000000000000) (hl2 : bs.length ≤ 1000000000000) :
  Calls Try.prog 55 #[.pointer (some ⟨g, 0, none⟩), .slice A bs.length c] w fun e w' => e = .returned (.tuple #[]) ∧ Wo w' g lo (out ++ bs) ∧ Besides g w w' := by
 go_enter Try.func55, Try.ntmps55
 have hlt := hW.lt
 go_wp2_with fail
 refine (clone_any _ A bs c hR (by omega)).mono ?_
 rintro e w1 ⟨⟨A', c', rfl, hown⟩, hb1⟩
 have hR : Rg w1 lo A' (u8s bs) := fun hn => by
  have hpos : 0 < bs.length := by
   rcases bs with _ | ⟨x, l⟩
   ·exact absurd rfl hn
   ·simp
  obtain ⟨b, rfl, hb, _⟩ := own_addr hown hpos
  exact Rg.of_rd (Rd.of_own hown) (by omega) hn
 have hW1 := hW.below hb1
 go_wp2_with fail
 refine (put_len _ g out _ bs _ rfl _ hW1 hR (by omega)).mono ?_
 rintro e w2 ⟨rfl, hW2, hb2⟩
 go_wp2
 go_end0
 exact ⟨rfl, hW2, (Besides.of_below hb1).trans hb2⟩
end Go.Proofs.Ytigmmikijjcdiaa
namespace Go.Proofs.Ytigmmikijjcdiaa
open Go.RowKit
def RawPost (w : World) (r : Nat) (bs : List UInt8) (s : Nat × Bool) (n : Int) (e : Ending) (w' : World) : Prop :=
 (∃ A' c', e = .returned (.slice A' (nx bs s n).1.length c') ∧ w'.ownsRow w.heap.size 5 1 (.slice A' (nx bs s n).1.length c') (nx bs s n).1.length (u8s (nx bs s n).1)) ∧ Rr 107 w' r bs (nx bs s n).2 ∧ Besides r w w'
theorem get_raw (w : World) (r : Nat) (bs : List UInt8) (s : Nat × Bool) (hr : Rr 107 w r bs s) (n : Int) (hn1 : -9223372036854775808 ≤ n) (hn2 : n ≤ 9223372036854775807) :
  Calls Try.prog 45 #[.pointer (some ⟨r, 0, none⟩), .int .i64 n] w fun e w' => RawPost w r bs s n e w' := by
 have hle : (nx bs s n).1.length ≤ bs.length := by
  unfold nx
  split
  ·simp
  ·simp; omega
 have hl2 : bs.length ≤ 140737488351232 := by obtain ⟨_, _, _, _, _, h, _⟩ := hr; exact h
 go_enter Try.func45, Try.ntmps45
 go_wp2_with fail
 refine (next_any _ r bs s hr n hn1 hn2).mono ?_
 rintro e w1 ⟨⟨A, c, rfl, hR, _⟩, hr1, hb1⟩
 go_wp2_with fail
 refine (clone_any _ A _ c hR.rd (by omega)).mono ?_
 rintro e w2 ⟨⟨A', c', rfl, hown⟩, hb2⟩
 go_wp2
 go_ret
 exact ⟨⟨A', c', rfl, own_base hown hb1.size⟩, hr1.below hb2, hb1.trans (.of_below hb2)⟩
end Go.Proofs.Ytigmmikijjcdiaa
