/- Lemmas: Lkx. -/
import Derived.Test.YtigmmikijjcdiaaProg
import Derived.Deep.DeepCutAuto
import Derived.Lib.Hide
import Derived.WalkSpells
import Derived.WalkMore
import Derived.IntWalk
import Derived.ScopeJumps
import Derived.Test.YtigmmikijjcdiaaLnWw15
set_option linter.unusedVariables false
set_option linter.unusedSimpArgs false
set_option maxRecDepth 100000
set_option maxHeartbeats 16000000
namespace Go.Proofs.Ytigmmikijjcdiaa
open Go.RowKit Go.MapKept Go.ChangeMaps
theorem scope_label {P : Program} {a : Act} {w : World} {Q : Exit → Act → World → Prop} {c rest : Code} (l : Nat) (J : Act → World → Prop) (μ : Act → World → Nat) (hf : findLabel c l = some (Code.skip.seq rest))
  (first : (∀ a w, J a w → rest.wp P (Exit.jump l J Q) a w) → c.wp P (Exit.jump l J Q) a w)
  (pass : ∀ a w, J a w → rest.wp P (Exit.jump l (fun a' w' => J a' w' ∧ μ a' w' < μ a w) Q) a w) : (Code.scope c).wp P Q a w :=
 wp_scope_jumps l J μ hf (first fun a w h => Code.wp_mono (fun e a w h => by cases e <;> first | exact h | exact ⟨h.1, h.2.1⟩) (pass a w h)) fun a w h => wp_seq (wp_skip (pass a w h))
theorem EndM.row {w : World} {P M : Nat} {G : Option Nat} {own : Nat → Option (Bool × Nat)} {k : Nat} {s : LE} (h : EndM w P M G own k s) : ∃ A c, w.heap[P]? = some (.cells #[.int .i64 s.ep, .slice A s.sent.length c, .int .i64 s.next, .int .i64 s.heard, .int .i64 s.fresh, .bool s.owes, .map (some M)] 67 (0, 0)) ∧ s.sent.length ≤ c ∧ c ≤ maxLen ∧ (0 < c → ∃ g off, A = some ⟨g, off, none⟩) := by
 obtain ⟨h0, h1, sv, vs, f, D, h2, h3, ⟨h4, h5⟩, ⟨h6, h7⟩, h8, h9⟩ := h
 obtain ⟨A, c, rfl, q1, q2, q3, q4, q5⟩ := h3
 rw [h4] at h2 q1
 exact ⟨A, c, h2, q1, q2, fun hc => by obtain ⟨g, off, cur, _, e, _⟩ := q5 hc; exact ⟨g, off, e⟩⟩
theorem readL_bd {f : BL} {ep hd n : Nat} {b : BL} (h : readL f = some (ep, hd, n, b)) : ep ≤ mostL ∧ hd ≤ mostL ∧ n ≤ mostL ∧ b.length ≤ 1048576 := by
 unfold readL at h
 split at h
 ·cases h
 dsimp only at h
 split at h
 ·cases h
 rename_i hn
 split at h
 ·split at h
  ·injection h with h; injection h with h1 h2; injection h2 with h2 h3; injection h3 with h3 h4
   subst h1 h2 h3 h4
   refine ⟨?_, ?_, Nat.zero_le _, Nat.zero_le _⟩ <;> omega
  ·cases h
 ·split at h
  ·split at h
   ·rename_i hq
    injection h with h; injection h with h1 h2; injection h2 with h2 h3; injection h3 with h3 h4
    subst h1 h2 h3 h4
    refine ⟨?_, ?_, hq.2.2.1, hq.2.2.2⟩ <;> omega
   ·cases h
  ·cases h
def HJF (P : Nat) (v : Value) (u : Nat → Value) : Act := { tmps := #[.pointer (some ⟨P, 0, none⟩), u 1, u 2, u 3, u 4, u 5, u 6, u 7, u 8, u 9, u 10, v, u 12, u 13, u 14, u 15, u 16, u 17, u 18, u 19, u 20, u 21, u 22, u 23, u 24, u 25, u 26, u 27, u 28, u 29, u 30, u 31, u 32, u 33, u 34, u 35, u 36, u 37, u 38, u 39, u 40, u 41, u 42, u 43, u 44, u 45, u 46, u 47, u 48, u 49, u 50, u 51, u 52, u 53, u 54, u 55, u 56, u 57, u 58, u 59, u 60, u 61, u 62, u 63, u 64, u 65, u 66, u 67, u 68, u 69, u 70, u 71, u 72, u 73, u 74, u 75, u 76, u 77, u 78, u 79, u 80, u 81, u 82, u 83, u 84, u 85, u 86, u 87, u 88, u 89, u 90, u 91, u 92, u 93, u 94, u 95, u 96, u 97, u 98, u 99, u 100, u 101, u 102, u 103, u 104, u 105, u 106, u 107, u 108, u 109, u 110, u 111, u 112, u 113, u 114, u 115, u 116, u 117, u 118, u 119, u 120, u 121, u 122, u 123, u 124, u 125, u 126, u 127, u 128, u 129, u 130, u 131, u 132, u 133, u 134, u 135, u 136, u 137, u 138, u 139, u 140, u 141, u 142, u 143, u 144, u 145, u 146], defers := [] }
def HJP (w : World) (P M : Nat) (G : Option Nat) (own : Nat → Option (Bool × Nat)) (k : Nat) (s0 : LE) (z : Nat) (a' : Act) (w' : World) : Prop := ∃ (u : Nat → Value) (j : Nat) (v : Value) (s' : LE), a' = HJF P v u ∧ Hid (TellSt w w' P M G own k s0 j v s') ∧ Hid (z ≠ 0)
theorem HJP.mk {w : World} {P M : Nat} {G : Option Nat} {own : Nat → Option (Bool × Nat)} {k : Nat} {s0 : LE} {z : Nat} {a' : Act} {w' : World} {j : Nat} {v : Value} {s' : LE} (h : a' = HJF P v (fun k => a'.tmps.getD k undef)) (ht : Hid (TellSt w w' P M G own k s0 j v s')) (hz : Hid (z ≠ 0)) : HJP w P M G own k s0 z a' w' := ⟨_, j, v, s', h, ht, hz⟩
def HMu (P m : Nat) (w : World) : Nat := match w.cell? ⟨P, 3, none⟩ with | some (.int _ x) => ((m : Int) - x).toNat | _ => 0
theorem HMu.is {w : World} {P m h : Nat} {q : IntKind} (hc : w.cell? ⟨P, 3, none⟩ = some (.int q (h : Int))) : HMu P m w = m - h := by
 unfold HMu
 rw [hc]
 show ((m : Int) - (h : Int)).toNat = m - h
 omega
theorem ackL_eqs (s : LE) (hd : Nat) : (ackL s hd).ep = s.ep ∧ (ackL s hd).next = s.next ∧ (ackL s hd).heard = s.heard ∧ (ackL s hd).owes = s.owes ∧ (ackL s hd).ahead = s.ahead := by
 unfold ackL
 split <;> exact ⟨rfl, rfl, rfl, rfl, rfl⟩
theorem hearL_ok {s : LE} {f : BL} {hd n : Nat} {b : BL} (hq : readL f = some (s.ep, hd, n, b)) (hB : hd < s.next) (hn : n ≠ 0) : hearL s f = (0, (tellL 65 (putL (ackL s hd) n b)).1, (tellL 65 (putL (ackL s hd) n b)).2) := by
 unfold hearL
 rw [hq]
 dsimp only
 rw [if_neg (by simp), if_neg (by omega), if_neg hn]
theorem hear_ack {w y : World} {P M : Nat} {G : Option Nat} {own : Nat → Option (Bool × Nat)} {k : Nat} {s : LE} {f : BL} {hd : Nat} {b : BL} (h : EndM y P M G own k (ackL s hd)) (hk : KB [P] w y) (hq : readL f = some (s.ep, hd, 0, b)) (hB : hd < s.next) : HearPost w P M G own k s f (.returned (.tuple #[.slice none 0 0, .int .i64 0])) y := by
 have hh : hearL s f = (0, [], ackL s hd) := by
  unfold hearL
  rw [hq]
  dsimp only
  rw [if_neg (by simp), if_neg (by omega), if_pos rfl]
 unfold HearPost
 rw [hh]
 exact ⟨_, own, rfl, h.mono, BRows.nil _ _ _ _, ⟨hk.1, fun g hg hx => hk.2 g hg (by simp at hx ⊢; exact hx.1), hk.3⟩, fun g => .inl rfl⟩
theorem putL_heard (s : LE) (n : Nat) (b : BL) : (putL s n b).heard = s.heard := by
 unfold putL
 split <;> rfl
theorem putL_not {s : LE} {n : Nat} {b : BL} (h : ¬ (s.heard < n ∧ n ≤ s.heard + 64 ∧ s.ahead n = none)) : putL s n b = { s with owes := true } := by
 unfold putL
 rw [if_neg h]
theorem look_is {w y : World} {M k n : Nat} {D : DataW Value} {f : Nat → Option Value} {xv : Value} {xb : Bool} (hm : y.ownsMap Try.prog 2 heldElem M k D) (hD : AhIs D f) (h3 : (f n).getD (.slice none 0 0) = xv) (h4 : (f n).isSome = xb) (hw : w.heap[M]? = y.heap[M]?) (hn : n ≤ 9223372036854775807) {a : Act} {o : Oper} {m x : Operand} (ho : o.op = .lookup 65 m x true) (h1 : a.eval m = .map (some M)) (h2 : a.eval x = .int .i64 (n : Int)) :
  (execOp a.eval o).run Try.prog w = .ok (.value (.tuple #[xv, .bool xb])) w := by
 have h := look_exec hm hD hw hn ho h1 h2
 rw [h3, h4] at h
 exact h
def HMid (w wc : World) (P M : Nat) (G : Option Nat) (own : Nat → Option (Bool × Nat)) (k : Nat) (s : LE) (hd T : Nat) (o : Obj) (v : Value) (bl : Nat) (b : BL) : Prop := EndM wc P M G own k (ackL s hd) ∧ wc.heap[T]? = some o ∧ KB [P] w wc ∧ wc.ownsRow w.heap.size 5 1 v bl (u8s b)
theorem hear_go (w : World) {P M : Nat} {G : Option Nat} {own : Nat → Option (Bool × Nat)} {k : Nat} {s : LE} (h : EndM w P M G own k s) (A : Option Addr) (f : BL) (c : Nat) (hR : Rd w w.heap.size A (u8s f)) (hf : f.length ≤ 3000000) (hlc : f.length ≤ c) (hc : c ≤ 9223372036854775807) (hk : k < 1000000) (hh : s.heard + 65 ≤ 1000000) {hd n : Nat} {b : BL} (hq : readL f = some (s.ep, hd, n, b)) (hB : hd < s.next) :
  Calls Try.prog 12 #[.pointer (some ⟨P, 0, none⟩), .slice A f.length c] w (HearPost w P M G own k s f) := by
 have HE := hide h
 have hok := h.1
 obtain ⟨A0, c0, hPr, hc01, hc02, hAs⟩ := h.row
 have hPw : P < w.heap.size := lt_of_block hPr
 have hrd := read_any w A f c hR hf hlc hc
 obtain ⟨m, hm⟩ : ∃ m, f.length = m := ⟨_, rfl⟩
 rw [hm] at hrd ⊢
 have HRd := hide hrd
 clear hrd hm h
 obtain ⟨hb1, hb2, hb3, hb4⟩ := readL_bd hq
 unfold mostL at hb1 hb2 hb3
 have HQ := hide hq
 clear hq
 obtain ⟨sep, hsep⟩ : ∃ x, s.ep = x := ⟨_, rfl⟩
 obtain ⟨nx0, hnx⟩ : ∃ x, s.next = x := ⟨_, rfl⟩
 obtain ⟨ns, hns⟩ : ∃ x, s.sent.length = x := ⟨_, rfl⟩
 obtain ⟨hs0, hhs⟩ : ∃ x, s.heard = x := ⟨_, rfl⟩
 obtain ⟨fr0, hfr⟩ : ∃ x, s.fresh = x := ⟨_, rfl⟩
 obtain ⟨ow0, how⟩ : ∃ x, s.owes = x := ⟨_, rfl⟩
 obtain ⟨fst, hfs⟩ : ∃ x, s.first = x := ⟨_, rfl⟩
 have g1 := hok.sent
 have g2 := hok.first
 have g3 := hok.fresh1
 have g4 := hok.fresh2
 have g5 := hok.next
 have g6 := hok.heard
 have g7 : s.first + s.sent.length = s.next := by unfold LE.first; omega
 rw [hsep, hnx, hns, hhs, hfr, how] at hPr
 rw [hns] at g1 g2 g7 hc01
 rw [hnx] at g2 g4 g5 g7 hB
 rw [hhs] at g6 hh
 rw [hfr] at g3 g4
 rw [hfs] at g3 g7
 rw [hsep] at hb1
 have HS := hide (show s.ep = sep ∧ s.next = nx0 ∧ s.sent.length = ns ∧ s.heard = hs0 ∧ s.fresh = fr0 ∧ s.owes = ow0 ∧ s.first = fst from ⟨hsep, hnx, hns, hhs, hfr, how, hfs⟩)
 have HAs := hide hAs
 have HPr := hide hPr
 clear hsep hnx hns hhs hfr how hfs hAs hok hPr
 have hMw : Hid (M < w.heap.size ∧ ∀ g, G = some g → g < w.heap.size) := hide (by obtain ⟨_, _, _, _, _, _, _, h3, _, ⟨h6, _⟩, _⟩ := HE.out; exact ⟨map_lt h6, fun g hg => by obtain ⟨cur, hc⟩ := h3.blk g hg; exact lt_of_block hc⟩)
 go_enter Try.func12, Try.ntmps12
 go_wp2
 refine scope_label 0 (HJP w P M G own k (putL (ackL s hd) n b) n) (fun _ w' => HMu P (hs0 + 64) w') rfl (fun hL => ?_) ?_
 ·have HL := hide hL
  clear hL
  go_wp2_with fail
  refine HRd.out.mono ?_
  rintro e y ⟨hb, he⟩
  rw [HQ.out] at he
  obtain ⟨A1, c1, rfl, hown⟩ := he
  rw [HS.out.1]
  obtain ⟨bl, hbl⟩ : ∃ x, b.length = x := ⟨_, rfl⟩
  rw [hbl] at hown hb4 ⊢
  have HBl := hide hbl
  clear hbl HRd
  obtain ⟨u, hu⟩ : ∃ u, y.alloc (.cells #[.int .i64 (sep : Int), .int .i64 (hd : Int), .int .i64 (n : Int), .slice A1 bl c1] 71) = u := ⟨_, rfl⟩
  have HT := hide (show u.heap[y.heap.size]? = some (.cells #[.int .i64 (sep : Int), .int .i64 (hd : Int), .int .i64 (n : Int), .slice A1 bl c1] 71) by rw [← hu]; exact heap_alloc_last y _)
  have HBu := hide (show Below w.heap.size w u by rw [← hu]; exact hb.alloc hb.size _)
  have HOb : Hid (u.ownsRow w.heap.size 5 1 (.slice A1 bl c1) bl (u8s b)) := hide (own_below hown (show Below y.heap.size y u by rw [← hu]; exact (Below.refl _ _).alloc (Nat.le_refl _) _) (fun g hg => (hown.lt g hg).2))
  have HU := hide hu
  obtain ⟨T, hT⟩ : ∃ x, y.heap.size = x := ⟨_, rfl⟩
  rw [hT] at HT
  have hTw : w.heap.size ≤ T := by rw [← hT]; exact hb.size
  have HTe := hide hT
  clear hb hu hT hown
  have HPu := hide ((HBu.out.block P hPw).trans HPr.out)
  have hTu : T < u.heap.size := lt_of_block HT.out
  have hPu : P < u.heap.size := lt_of_block HPu.out
  have t0 : u.cell? ⟨T, 0, none⟩ = some (.int .i64 (sep : Int)) := cell_of_row _ _ 0 _ _ _ HT.out
  have t1 : u.cell? ⟨T, 1, none⟩ = some (.int .i64 (hd : Int)) := cell_of_row _ _ 1 _ _ _ HT.out
  have t2 : u.cell? ⟨T, 2, none⟩ = some (.int .i64 (n : Int)) := cell_of_row _ _ 2 _ _ _ HT.out
  have t3 : u.cell? ⟨T, 3, none⟩ = some (.slice A1 bl c1) := cell_of_row _ _ 3 _ _ _ HT.out
  have p0 : u.cell? ⟨P, 0, none⟩ = some (.int .i64 (sep : Int)) := cell_of_row _ _ 0 _ _ _ HPu.out
  have p1 : u.cell? ⟨P, 1, none⟩ = some (.slice A0 ns c0) := cell_of_row _ _ 1 _ _ _ HPu.out
  have p2 : u.cell? ⟨P, 2, none⟩ = some (.int .i64 (nx0 : Int)) := cell_of_row _ _ 2 _ _ _ HPu.out
  have p3 : u.cell? ⟨P, 3, none⟩ = some (.int .i64 (hs0 : Int)) := cell_of_row _ _ 3 _ _ _ HPu.out
  have p4 : u.cell? ⟨P, 4, none⟩ = some (.int .i64 (fr0 : Int)) := cell_of_row _ _ 4 _ _ _ HPu.out
  have p5 : u.cell? ⟨P, 5, none⟩ = some (.bool ow0) := cell_of_row _ _ 5 _ _ _ HPu.out
  have p6 : u.cell? ⟨P, 6, none⟩ = some (.map (some M)) := cell_of_row _ _ 6 _ _ _ HPu.out
  have k1 : ((sep : Int) != (sep : Int)) = false := by simp
  have k2 : ¬ (nx0 : Int) ≤ (hd : Int) := by omega
  go_upto_region 6 with fail
  rw [HU.out, HTe.out]
  refine wp_region_held_drew (S := Kept u) (by kernel_rfl) (Kept.drew u) (fun hS0 => ?_)
  refine tk 0 25 ?_ ?_ ?_; rotate_left; (focus (intro w h; go_simp; (try with_reducible rfl))); (try simp only [zqd, zqe, zqf])
  refine tk 1 26 ?_ ?_ ?_; rotate_left; (focus (intro w h; go_simp; (try with_reducible rfl))); (try simp only [zqd, zqe, zqf])
  refine tk 2 27 ?_ ?_ ?_; rotate_left; (focus (intro w h; go_simp; (try with_reducible rfl))); (try simp only [zqd, zqe, zqf])
  refine tk 3 28 ?_ ?_ ?_; rotate_left; (focus (intro w h; go_simp; (try with_reducible rfl))); (try simp only [zqd, zqe, zqf])
  refine tk 4 29 ?_ ?_ ?_; rotate_left; (focus (intro w h; go_simp; (try with_reducible rfl))); (try simp only [zqd, zqe, zqf])
  refine tk 5 30 ?_ ?_ ?_; rotate_left; (focus (intro w h; go_simp; (try with_reducible rfl))); (try simp only [zqd, zqe, zqf])
  refine tk 6 31 ?_ ?_ ?_; rotate_left; (focus (intro w h; go_simp; (try with_reducible rfl))); (try simp only [zqd, zqe, zqf])
  refine tk 7 24 ?_ ?_ ?_; rotate_left; (focus (intro w h; go_simp; (try with_reducible rfl))); (try simp only [zqd, zqe, zqf])
  refine wpAnyH_done (by kernel_rfl) ?_ _
  clear hS0
  go_upto_region 8 with fail
  refine wp_region_held_drew (S := (fun w9 : World => w9.cell? ⟨T, 1, none⟩ = some (.int .i64 (hd : Int)) ∧ w9.cell? ⟨P, 2, none⟩ = some (.int .i64 (nx0 : Int)))) (by kernel_rfl) ⟨t1, p2⟩ (fun hS0 => ?_)
  refine tk 0 33 ?_ ?_ ?_; rotate_left; (focus (intro w h; go_simp; (try with_reducible rfl))); (try simp only [zqd, zqe, zqf])
  refine tk 1 34 ?_ ?_ ?_; rotate_left; (focus (intro w h; go_simp; (try with_reducible rfl))); (try simp only [zqd, zqe, zqf])
  refine tk 2 35 ?_ ?_ ?_; rotate_left; (focus (intro w h; go_simp; (try with_reducible rfl))); (try simp only [zqd, zqe, zqf])
  refine tk 3 36 ?_ ?_ ?_; rotate_left; (focus (intro w h; go_simp; (try with_reducible rfl))); (try simp only [zqd, zqe, zqf])
  refine tk 4 37 ?_ ?_ ?_; rotate_left; (focus (intro w h; go_simp; (try with_reducible rfl))); (try simp only [zqd, zqe, zqf])
  refine tk 5 38 ?_ ?_ ?_; rotate_left; (focus (intro w h; go_simp; (try with_reducible rfl))); (try simp only [zqd, zqe, zqf])
  refine tk 6 39 ?_ ?_ ?_; rotate_left; (focus (intro w h; go_simp; (try with_reducible rfl))); (try simp only [zqd, zqe, zqf])
  refine tk 7 32 ?_ ?_ ?_; rotate_left; (focus (intro w h; go_simp; (try with_reducible rfl))); (try simp only [zqd, zqe, zqf])
  refine wpAnyH_done (by kernel_rfl) ?_ _
  clear hS0
  go_upto_region 10 with fail
  obtain ⟨z, hz⟩ : ∃ z, u.drew.drew = z := ⟨_, rfl⟩
  have HTz : Hid (z.heap[T]? = some (.cells #[.int .i64 (sep : Int), .int .i64 (hd : Int), .int .i64 (n : Int), .slice A1 bl c1] 71)) := hide (by rw [← hz]; exact HT.out)
  have HBz : Hid (Below w.heap.size w z) := hide (by rw [← hz]; exact HBu.out.drew.drew)
  have HOz : Hid (z.ownsRow w.heap.size 5 1 (.slice A1 bl c1) bl (u8s b)) := hide (by rw [← hz]; exact HOb.out)
  rw [hz]
  clear t0 t1 t2 t3 p0 p1 p2 p3 p4 p5 p6 k1 hz HT HBu HOb HU HTe HPu hTu hPu
  have HPz := hide ((HBz.out.block P hPw).trans HPr.out)
  have HEz := hide (HE.out.next HBz.out)
  have hTz : T < z.heap.size := lt_of_block HTz.out
  have hPz : P < z.heap.size := lt_of_block HPz.out
  have t0 : z.cell? ⟨T, 0, none⟩ = some (.int .i64 (sep : Int)) := cell_of_row _ _ 0 _ _ _ HTz.out
  have t1 : z.cell? ⟨T, 1, none⟩ = some (.int .i64 (hd : Int)) := cell_of_row _ _ 1 _ _ _ HTz.out
  have t2 : z.cell? ⟨T, 2, none⟩ = some (.int .i64 (n : Int)) := cell_of_row _ _ 2 _ _ _ HTz.out
  have t3 : z.cell? ⟨T, 3, none⟩ = some (.slice A1 bl c1) := cell_of_row _ _ 3 _ _ _ HTz.out
  have kw1 : IntKind.i64.wrap ((hd : Int) - (fst : Int)) = (hd : Int) - (fst : Int) := IntWalk.i64_in _ (by omega)
  obtain ⟨kI, hkI⟩ : ∃ x, (hd : Int) - (fst : Int) + 1 = x := ⟨_, rfl⟩
  have kw2 : IntKind.i64.wrap ((hd : Int) - (fst : Int) + 1) = kI := by rw [IntWalk.i64_in _ (by omega)]; exact hkI
  have HKI := hide hkI
  clear hkI
  refine wp_region_held_drew (S := Kept z) (by kernel_rfl) (Kept.drew z) (fun hS0 => ?_)
  refine tk 0 40 ?_ ?_ ?_; rotate_left; (focus (intro w h; go_simp; (try with_reducible rfl))); (try simp only [zqd, zqe, zqf])
  refine tk 1 41 ?_ ?_ ?_; rotate_left; (focus (intro w h; go_simp; (try with_reducible rfl))); (try simp only [zqd, zqe, zqf])
  refine tk 2 42 ?_ ?_ ?_; rotate_left; (focus (intro w h; go_simp; (try with_reducible rfl))); (try simp only [zqd, zqe, zqf])
  refine call_at (i := 3) (d := 43) (by simp only [zqa, zqb, zqc]; rfl) rfl (by kernel_rfl) rfl (fun K hK => ?_)
  go_simp
  refine (lfirst_any z.drew (HEz.out.next (Below.refl _ _).drew)).mono ?_
  rintro e y1 ⟨rfl, hz⟩
  have HY1 : Hid (Below z.heap.size z y1) := hide (below_dr hz)
  have hS1 : Kept z y1 := Kept.of_below HY1.out
  clear hz
  rw [HS.out.2.2.2.2.2.2]
  go_wp2_with fail
  refine hK.out _ _ hS1 (fun hSn => ?_)
  clear hK K
  try simp only [zqd, zqe, zqf]
  refine tk 4 44 ?_ ?_ ?_; rotate_left; (focus (intro w h; go_simp; (try with_reducible rfl))); (try simp only [zqd, zqe, zqf])
  refine tk 5 45 ?_ ?_ ?_; rotate_left; (focus (intro w h; go_simp; (try with_reducible rfl))); (try simp only [zqd, zqe, zqf])
  refine tk 6 8 ?_ ?_ ?_; rotate_left; (focus (intro w h; go_simp; (try with_reducible rfl))); (try simp only [zqd, zqe, zqf])
  refine wpAnyH_done (by kernel_rfl) ?_ _
  clear hS0 hSn hS1 t0 t1 t2 t3 kw1 kw2
  have HTy := hide ((HY1.out.block T hTz).trans HTz.out)
  have HBy := hide (HBz.out.trans (HY1.out.mono HBz.out.size))
  have HPy := hide ((HY1.out.block P hPz).trans HPz.out)
  have HEy := hide (HEz.out.next HY1.out)
  have HOy := hide (own_below HOz.out HY1.out (fun g hg => (HOz.out.lt g hg).2))
  have hPy := lt_of_block HPy.out
  have hTP : T ≠ P := by omega
  clear HY1 HTz HBz HPz HEz HOz hTz hPz
  go_upto_if 47 with fail
  go_cut [] (fun wc => Hid (HMid w wc P M G own k s hd T (.cells #[.int .i64 (sep : Int), .int .i64 (hd : Int), .int .i64 (n : Int), .slice A1 bl c1] 71) (.slice A1 bl c1) bl b))
  case first =>
   by_cases hak : fst ≤ hd
   rotate_left
   ·have k3 : ¬ (0 : Int) < kI := by have := HKI.out; omega
    have HFin : Hid (HMid w y1 P M G own k s hd T (.cells #[.int .i64 (sep : Int), .int .i64 (hd : Int), .int .i64 (n : Int), .slice A1 bl c1] 71) (.slice A1 bl c1) bl b) := hide (⟨by rw [show ackL s hd = s by unfold ackL; rw [if_neg (by rw [HS.out.2.2.2.2.2.2]; exact hak)]]; exact HEy.out, HTy.out, ⟨HBy.out.size, fun g hl _ => HBy.out.block g hl, Env.of_below HBy.out⟩, HOy.out⟩)
    go_wp2
    go_meet
    case rel => exact HFin
   obtain ⟨kk, hkk⟩ : ∃ x, hd + 1 - fst = x := ⟨_, rfl⟩
   obtain rfl : kI = (kk : Int) := by have := HKI.out; omega
   have hk1 : (0 : Int) < (kk : Int) := by omega
   have hk2 : kk ≤ ns := by omega
   have HKK := hide hkk
   have p0 : y1.cell? ⟨P, 0, none⟩ = some (.int .i64 (sep : Int)) := cell_of_row _ _ 0 _ _ _ HPy.out
   have p1 : y1.cell? ⟨P, 1, none⟩ = some (.slice A0 ns c0) := cell_of_row _ _ 1 _ _ _ HPy.out
   have p2 : y1.cell? ⟨P, 2, none⟩ = some (.int .i64 (nx0 : Int)) := cell_of_row _ _ 2 _ _ _ HPy.out
   have p3 : y1.cell? ⟨P, 3, none⟩ = some (.int .i64 (hs0 : Int)) := cell_of_row _ _ 3 _ _ _ HPy.out
   have p4 : y1.cell? ⟨P, 4, none⟩ = some (.int .i64 (fr0 : Int)) := cell_of_row _ _ 4 _ _ _ HPy.out
   have p5 : y1.cell? ⟨P, 5, none⟩ = some (.bool ow0) := cell_of_row _ _ 5 _ _ _ HPy.out
   have p6 : y1.cell? ⟨P, 6, none⟩ = some (.map (some M)) := cell_of_row _ _ 6 _ _ _ HPy.out
   have z1 : y1.frozen? ⟨P, 1, none⟩ = false := frozen_of_row _ _ 1 _ _ HPy.out
   obtain ⟨g, off, hA0⟩ := HAs.out (by omega)
   subst hA0
   clear hkk
   go_upto_region 13 with fail
   obtain ⟨A', hA'⟩ : ∃ x, (if c0 = kk then some (⟨g, off, none⟩ : Addr) else some ⟨g, off + kk, none⟩) = x := ⟨_, rfl⟩
   rw [hA']
   have HA' : Hid (kk < c0 → A' = some ⟨g, off + kk, none⟩) := hide (fun h => by rw [← hA', if_neg (by omega)])
   obtain ⟨y2, hy2⟩ : ∃ x, y1.setCell ⟨P, 1, none⟩ (.slice A' (ns - kk) (c0 - kk)) = x := ⟨_, rfl⟩
   have HP2 : Hid (y2.heap[P]? = some (.cells #[.int .i64 (sep : Int), .slice A' (ns - kk) (c0 - kk), .int .i64 (nx0 : Int), .int .i64 (hs0 : Int), .int .i64 (fr0 : Int), .bool ow0, .map (some M)] 67 (0, 0))) := hide (by rw [← hy2]; exact heap_setCell_same _ P 1 _ _ _ HPy.out)
   have HO2 : Hid ((∀ g, g ≠ P → y2.heap[g]? = y1.heap[g]?) ∧ y2.heap.size = y1.heap.size) := hide ⟨fun g hg => by rw [← hy2]; exact Below.heap_setCell _ _ _ _ hg, by rw [← hy2]; exact World.size_setCell _ _ _⟩
   have HE2 : Hid (Env y1 y2) := hide (by rw [← hy2]; exact (Env.refl _).setCell _ _)
   rw [hy2]
   clear hA' hy2 p0 p1 p2 p3 p4 p5 p6 z1 hk1
   have hP2 : P < y2.heap.size := lt_of_block HP2.out
   have p1 : y2.cell? ⟨P, 1, none⟩ = some (.slice A' (ns - kk) (c0 - kk)) := cell_of_row _ _ 1 _ _ _ HP2.out
   have p2 : y2.cell? ⟨P, 2, none⟩ = some (.int .i64 (nx0 : Int)) := cell_of_row _ _ 2 _ _ _ HP2.out
   have p4 : y2.cell? ⟨P, 4, none⟩ = some (.int .i64 (fr0 : Int)) := cell_of_row _ _ 4 _ _ _ HP2.out
   obtain ⟨mx, hmx⟩ : ∃ x, max fr0 (hd + 1) = x := ⟨_, rfl⟩
   have HMx := hide hmx
   clear hmx
   obtain ⟨n1, hn1⟩ : ∃ x, nx0 - (ns - kk) = x := ⟨_, rfl⟩
   have hn1' : n1 = hd + 1 := by have := HKK.out; omega
   have HMs : Hid ((if fr0 < n1 then (n1 : Int) else (fr0 : Int)) = (mx : Int)) := hide (by rw [← HMx.out, hn1']; split <;> omega)
   have HN1 := hide hn1
   have HN1' := hide hn1'
   clear hn1 hn1'
   refine wpL_region (S := Kept y2) [10] (by kernel_rfl) (Kept.drew y2) (fun hS0 => ?_)
   refine tl 0 57 ?_ ?_ ?_; rotate_left; (focus (intro w h; go_simp; (try with_reducible rfl))); (try simp only [zqd, zqe, zqf])
   refine tl 1 58 ?_ ?_ ?_; rotate_left; (focus (intro w h; go_simp; (try with_reducible rfl))); (try simp only [zqd, zqe, zqf])
   refine tl 2 59 ?_ ?_ ?_; rotate_left; (focus (intro w h; go_simp; (try with_reducible rfl))); (try simp only [zqd, zqe, zqf])
   refine tl 3 60 ?_ ?_ ?_; rotate_left; (focus (intro w h; go_simp; (try with_reducible rfl))); (try simp only [zqd, zqe, zqf])
   refine tl 4 61 ?_ ?_ ?_; rotate_left; (focus (intro w h; go_simp; (try with_reducible rfl))); (try simp only [zqd, zqe, zqf])
   refine tl 5 62 ?_ ?_ ?_; rotate_left; (focus (intro w h; go_simp; (try with_reducible rfl))); (try simp only [zqd, zqe, zqf])
   refine callL_at (i := 6) (d := 63) (by simp only [zqa, zqb, zqc]; rfl) rfl (by kernel_rfl) rfl (fun K hK => ?_)
   go_simp
   refine (lfirst_cells y2.drew P A' (ns - kk) (c0 - kk) nx0 p1 p2 (by omega) g5 hP2).mono ?_
   rintro e y3 ⟨rfl, hz, hz2⟩
   rw [HN1.out]
   have HY3 : Hid (y3.heap = y2.heap) := hide hz2
   have HEn3 : Hid (Env y2 y3) := hide (Env.of_below (below_dr hz))
   have hS3 : Kept y2 y3 := Kept.of_below (below_dr hz)
   clear hz hz2
   have z4 : y3.frozen? ⟨P, 4, none⟩ = false := frozen_of_row _ _ 4 _ _ (by rw [HY3.out]; exact HP2.out)
   have hP3 : P < y3.heap.size := by rw [HY3.out]; exact hP2
   go_wp2_with fail
   refine hK.out _ _ hS3 (fun hSn => ?_)
   clear hK K
   try simp only [zqd, zqe, zqf]
   refine tl 7 64 ?_ ?_ ?_; rotate_left; (focus (intro w hSw; go_simp; rw [HMs.out]; done)); (try simp only [zqd, zqe, zqf])
   refine tw 8 65 ?_ ?_ ?_; rotate_left; (focus (intro w; go_simp; (try with_reducible rfl); done)); (try simp only [zqd, zqe, zqf])
   refine tl 9 66 ?_ ?_ ?_; rotate_left; (focus (intro w h; go_simp; (try with_reducible rfl))); (try simp only [zqd, zqe, zqf])
   refine exL_at (i := 10) (by simp only [zqa, zqb, zqc]; rfl) (by kernel_rfl) rfl (by kernel_rfl) (fun K hK => ?_)
   go_wp2_with fail
   refine hK.out _ _ ?_
   clear hK K
   try simp only [zqd, zqe, zqf]
   refine wpAnyL_done (by kernel_rfl) ?_ _
   obtain ⟨y4, hy4⟩ : ∃ x, y3.setCell ⟨P, 4, none⟩ (.int .i64 (mx : Int)) = x := ⟨_, rfl⟩
   have HE4 : Hid (EndM y4 P M G own k (ackL s hd)) := hide (by
    obtain ⟨s1, s2, s3, s4, s5, s6, s7⟩ := HS.out
    refine EndM.ack (wf := y4) (A' := A') (kk := kk) (c := c0) HEy.out (by rw [s7]; exact hak) (by rw [s2]; exact hB) (by rw [s7]; exact HKK.out) (by rw [s3]; exact cell_of_row _ _ 1 _ _ _ HPy.out) (fun h g' off' e => by injection e with e; injection e with e1 e2; subst e1 e2; exact HA'.out h) ?_ (fun g hg => ?_) ?_
    ·rw [s1, s2, s3, s4, s5, s6, HMx.out, ← hy4]
     exact heap_setCell_same _ P 4 _ _ _ (by rw [HY3.out]; exact HP2.out)
    ·rw [← hy4, Below.heap_setCell _ _ _ _ hg, HY3.out]
     exact HO2.out.1 g hg
    ·rw [← hy4, World.size_setCell, HY3.out]
     exact HO2.out.2)
   have hy4b : ∀ g, g ≠ P → y4.heap[g]? = y1.heap[g]? := fun g hg => by rw [← hy4, Below.heap_setCell _ _ _ _ hg, HY3.out]; exact HO2.out.1 g hg
   have hy4s : y4.heap.size = y1.heap.size := by rw [← hy4, World.size_setCell, HY3.out]; exact HO2.out.2
   have HY4 := hide (And.intro hy4b hy4s)
   have HEv : Hid (Env y1 y4) := hide (by rw [← hy4]; exact (HE2.out.trans HEn3.out).setCell _ _)
   rw [hy4]
   clear hy4 hy4b hy4s hS0 hSn hS3 p1 p2 p4 z4
   have HFin : Hid (HMid w y4 P M G own k s hd T (.cells #[.int .i64 (sep : Int), .int .i64 (hd : Int), .int .i64 (n : Int), .slice A1 bl c1] 71) (.slice A1 bl c1) bl b) := hide (⟨HE4.out, (HY4.out.1 T hTP).trans HTy.out, ⟨by have := HBy.out.size; have := HY4.out.2; omega, fun g hl hx => (HY4.out.1 g (by simpa using hx)).trans (HBy.out.block g hl), (Env.of_below HBy.out).trans HEv.out⟩, own_same HOy.out fun g hg => HY4.out.1 g (by have := (HOy.out.lt g hg).1; omega)⟩)
   go_wp2
   go_meet
   case rel => exact HFin
  case rest =>
   have hEc := hide hcut.out.1
   have hTc := hide hcut.out.2.1
   have hKc := hide hcut.out.2.2.1
   have hOc := hide hcut.out.2.2.2
   clear hcut HEy HBy HTy HPy HOy
   obtain ⟨s1, hs1⟩ : ∃ x, ackL s hd = x := ⟨_, rfl⟩
   have HS1 := hide hs1
   have HQ1 : Hid (s1.ep = sep ∧ s1.next = nx0 ∧ s1.heard = hs0 ∧ s1.owes = ow0) := hide (by obtain ⟨a1, a2, a3, a4, a5⟩ := ackL_eqs s hd; obtain ⟨s1, s2, s3, s4, s5, s6, s7⟩ := HS.out; rw [← hs1, a1, a2, a3, a4]; exact ⟨s1, s2, s4, s6⟩)
   rw [hs1] at hEc
   clear hs1
   obtain ⟨A3, c3, hPc, -, -, -⟩ := hEc.out.row
   have HPc := hide hPc
   clear hPc
   have t0 : wc.cell? ⟨T, 0, none⟩ = some (.int .i64 (sep : Int)) := cell_of_row _ _ 0 _ _ _ hTc.out
   have t1 : wc.cell? ⟨T, 1, none⟩ = some (.int .i64 (hd : Int)) := cell_of_row _ _ 1 _ _ _ hTc.out
   have t2 : wc.cell? ⟨T, 2, none⟩ = some (.int .i64 (n : Int)) := cell_of_row _ _ 2 _ _ _ hTc.out
   have t3 : wc.cell? ⟨T, 3, none⟩ = some (.slice A1 bl c1) := cell_of_row _ _ 3 _ _ _ hTc.out
   have hTwc : T < wc.heap.size := lt_of_block hTc.out
   have hPwc : P < wc.heap.size := lt_of_block HPc.out
   by_cases hn0 : n = 0
   ·have kz : ((n : Int) == 0) = true := by simp [hn0]
    have HFin : Hid (HearPost w P M G own k s f (.returned (.tuple #[.slice none 0 0, .int .i64 0])) wc) := hide (hear_ack (by rw [HS1.out]; exact hEc.out) hKc.out (by rw [HQ.out, hn0]) (by rw [HS.out.2.1]; exact hB))
    clear hn0
    go_wp2
    simp only [Exit.jump]
    exact bodyPost_ret (v := .tuple #[.slice none 0 0, .int .i64 0]) (by simp [results, Try.results12, go_sem]) rfl HFin.out
   have kz : ((n : Int) == 0) = false := by simp; omega
   have HN0 := hide hn0
   clear hn0
   have p5 : wc.cell? ⟨P, 5, none⟩ = some (.bool s1.owes) := cell_of_row _ _ 5 _ _ _ HPc.out
   have z5 : wc.frozen? ⟨P, 5, none⟩ = false := frozen_of_row _ _ 5 _ _ HPc.out
   go_upto_region 17 with fail
   obtain ⟨x0, hx0⟩ : ∃ x, wc.setCell ⟨P, 5, none⟩ (.bool true) = x := ⟨_, rfl⟩
   have HEx : Hid (EndM x0 P M G own k { s1 with owes := true }) := hide (by rw [← hx0]; exact hEc.out.owe true)
   have HTx := hide (show x0.heap[T]? = some (.cells #[.int .i64 (sep : Int), .int .i64 (hd : Int), .int .i64 (n : Int), .slice A1 bl c1] 71) by rw [← hx0, Below.heap_setCell _ _ _ _ hTP]; exact hTc.out)
   have HKx : Hid (KB [P] w x0) := hide (by rw [← hx0]; exact hKc.out.setCell (.inr (by simp)) _)
   have HOx : Hid (x0.ownsRow w.heap.size 5 1 (.slice A1 bl c1) bl (u8s b)) := hide (by rw [← hx0]; exact own_same hOc.out fun g hg => Below.heap_setCell _ _ _ _ (by show g ≠ P; have := (hOc.out.lt g hg).1; omega))
   rw [hx0]
   clear hx0 t0 t1 t2 t3 z5 p5 hEc hTc hKc hOc HPc hTwc hPwc A3 c3
   obtain ⟨A3, c3, hPx, -, -, -⟩ := HEx.out.row
   dsimp only at hPx
   rw [HQ1.out.2.2.1] at hPx
   have HPx := hide hPx
   clear hPx
   have hTx : T < x0.heap.size := lt_of_block HTx.out
   have hPx : P < x0.heap.size := lt_of_block HPx.out
   obtain ⟨D, ff, m1, m2, m3, m4⟩ := HEx.out.mapOf
   dsimp only at m3 m4
   have HM1 := hide m1
   have HM2 := hide m2
   have HM3 := hide m3
   have HM4 := hide m4
   clear m1 m2 m3 m4
   have t2 : x0.cell? ⟨T, 2, none⟩ = some (.int .i64 (n : Int)) := cell_of_row _ _ 2 _ _ _ HTx.out
   have t3 : x0.cell? ⟨T, 3, none⟩ = some (.slice A1 bl c1) := cell_of_row _ _ 3 _ _ _ HTx.out
   have p3 : x0.cell? ⟨P, 3, none⟩ = some (.int .i64 (hs0 : Int)) := cell_of_row _ _ 3 _ _ _ HPx.out
   have p6 : x0.cell? ⟨P, 6, none⟩ = some (.map (some M)) := cell_of_row _ _ 6 _ _ _ HPx.out
   obtain ⟨xv, hxv⟩ : ∃ x, (ff n).getD (.slice none 0 0) = x := ⟨_, rfl⟩
   obtain ⟨xb, hxb⟩ : ∃ x, (ff n).isSome = x := ⟨_, rfl⟩
   have HXv := hide hxv
   have HXb := hide hxb
   clear hxv hxb
   have hn63 : n ≤ 9223372036854775807 := by omega
   refine wp_region_held_drew (S := (fun w9 : World => w9.cell? ⟨P, 6, none⟩ = some (.map (some M)) ∧ w9.cell? ⟨T, 2, none⟩ = some (.int .i64 (n : Int)) ∧ w9.heap[M]? = x0.heap[M]?)) (by kernel_rfl) ⟨p6, t2, rfl⟩ (fun hS0 => ?_)
   refine tk 0 74 ?_ ?_ ?_; rotate_left; (focus (intro w h; go_simp; (try with_reducible rfl))); (try simp only [zqd, zqe, zqf])
   refine tk 1 75 ?_ ?_ ?_; rotate_left; (focus (intro w h; go_simp; (try with_reducible rfl))); (try simp only [zqd, zqe, zqf])
   refine tk 2 76 ?_ ?_ ?_; rotate_left; (focus (intro w h; go_simp; (try with_reducible rfl))); (try simp only [zqd, zqe, zqf])
   refine tk 3 77 ?_ ?_ ?_; rotate_left; (focus (intro w h; go_simp; (try with_reducible rfl))); (try simp only [zqd, zqe, zqf])
   refine tk 4 78 ?_ ?_ ?_; rotate_left; (focus (intro w h; go_simp; (try with_reducible rfl))); (try simp only [zqd, zqe, zqf])
   refine tk 5 79 ?_ ?_ ?_; rotate_left; (focus (intro w h; go_simp; (try with_reducible rfl))); (try simp only [zqd, zqe, zqf])
   refine tk 6 80 ?_ ?_ ?_; rotate_left; (focus (intro w hSw; refine look_is HM1.out HM2.out HXv.out HXb.out hSw.2.2 hn63 (m := .tmp 77) (x := .tmp 79) ?_ ?_ ?_ <;> rfl; done)); (try simp only [zqd, zqe, zqf])
   refine tk 7 73 ?_ ?_ ?_; rotate_left; (focus (intro w h; go_simp; (try with_reducible rfl))); (try simp only [zqd, zqe, zqf])
   refine tk 8 81 ?_ ?_ ?_; rotate_left; (focus (intro w h; go_simp; (try with_reducible rfl))); (try simp only [zqd, zqe, zqf])
   refine tk 9 82 ?_ ?_ ?_; rotate_left; (focus (intro w h; go_simp; (try with_reducible rfl))); (try simp only [zqd, zqe, zqf])
   refine tk 10 9 ?_ ?_ ?_; rotate_left; (focus (intro w h; go_simp; (try with_reducible rfl))); (try simp only [zqd, zqe, zqf])
   refine tk 11 10 ?_ ?_ ?_; rotate_left; (focus (intro w h; go_simp; (try with_reducible rfl))); (try simp only [zqd, zqe, zqf])
   refine wpAnyH_done (by kernel_rfl) ?_ _
   clear hS0
   go_upto_region 18 with fail
   have kw : IntKind.i64.wrap ((hs0 : Int) + 64) = (hs0 : Int) + 64 := IntWalk.i64_in _ (by omega)
   by_cases hc1 : hs0 < n
   rotate_left
   ·have d1 : ¬ (hs0 : Int) < (n : Int) := by omega
    refine wp_region_held_drew (S := (fun w9 : World => w9.cell? ⟨T, 2, none⟩ = some (.int .i64 (n : Int)) ∧ w9.cell? ⟨P, 3, none⟩ = some (.int .i64 (hs0 : Int)))) (by kernel_rfl) ⟨t2, p3⟩ (fun hS0 => ?_)
    refine tk 0 83 ?_ ?_ ?_; rotate_left; (focus (intro w h; go_simp; (try with_reducible rfl))); (try simp only [zqd, zqe, zqf])
    refine tk 1 84 ?_ ?_ ?_; rotate_left; (focus (intro w h; go_simp; (try with_reducible rfl))); (try simp only [zqd, zqe, zqf])
    refine tk 2 85 ?_ ?_ ?_; rotate_left; (focus (intro w h; go_simp; (try with_reducible rfl))); (try simp only [zqd, zqe, zqf])
    refine tk 3 86 ?_ ?_ ?_; rotate_left; (focus (intro w h; go_simp; (try with_reducible rfl))); (try simp only [zqd, zqe, zqf])
    refine tk 4 87 ?_ ?_ ?_; rotate_left; (focus (intro w h; go_simp; (try with_reducible rfl))); (try simp only [zqd, zqe, zqf])
    refine tk 5 88 ?_ ?_ ?_; rotate_left; (focus (intro w h; go_simp; (try with_reducible rfl))); (try simp only [zqd, zqe, zqf])
    refine tk 6 89 ?_ ?_ ?_; rotate_left; (focus (intro w h; go_simp; (try with_reducible rfl))); (try simp only [zqd, zqe, zqf])
    refine tk 7 90 ?_ ?_ ?_; rotate_left; (focus (intro w h; go_simp; (try with_reducible rfl))); (try simp only [zqd, zqe, zqf])
    refine sk 8 91 ?_; (try simp only [zqd, zqe, zqf])
    refine sk 9 92 ?_; (try simp only [zqd, zqe, zqf])
    refine sk 10 93 ?_; (try simp only [zqd, zqe, zqf])
    refine sk 11 94 ?_; (try simp only [zqd, zqe, zqf])
    refine sk 12 95 ?_; (try simp only [zqd, zqe, zqf])
    refine sk 13 96 ?_; (try simp only [zqd, zqe, zqf])
    refine sk 14 97 ?_; (try simp only [zqd, zqe, zqf])
    refine sk 15 98 ?_; (try simp only [zqd, zqe, zqf])
    refine tk 16 99 ?_ ?_ ?_; rotate_left; (focus (intro w h; go_simp; (try with_reducible rfl))); (try simp only [zqd, zqe, zqf])
    refine tk 17 100 ?_ ?_ ?_; rotate_left; (focus (intro w h; go_simp; (try with_reducible rfl))); (try simp only [zqd, zqe, zqf])
    refine sk 18 101 ?_; (try simp only [zqd, zqe, zqf])
    refine sk 19 102 ?_; (try simp only [zqd, zqe, zqf])
    refine tk 20 103 ?_ ?_ ?_; rotate_left; (focus (intro w h; go_simp; (try with_reducible rfl))); (try simp only [zqd, zqe, zqf])
    refine wpAnyH_done (by kernel_rfl) ?_ _
    clear hS0
    have HFin : Hid (TellSt w x0.drew.drew P M G own k (putL s1 n b) 0 (.slice none 0 0) (putL s1 n b)) := hide (TellSt.start (by rw [putL_not (fun h => hc1 (by rw [← HQ1.out.2.2.1]; exact h.1))]; exact (HEx.out.next (Below.refl _ _).drew.drew).mono) ⟨HKx.out.1, fun g hl hx => HKx.out.2 g hl (by simp at hx ⊢; exact hx.1), HKx.out.3⟩ (fun g => .inl rfl))
    rw [← HS1.out] at HFin
    go_wp2_with fail
    go_step3
    simp only [Exit.then]
    apply_assumption
    refine HL.out _ _ ?_
    exact HJP.mk rfl HFin HN0
   have d1 : (hs0 : Int) < (n : Int) := by omega
   by_cases hc2 : n ≤ hs0 + 64
   rotate_left
   ·have d2 : ¬ (n : Int) ≤ (hs0 : Int) + 64 := by omega
    refine wp_region_held_drew (S := (fun w9 : World => w9.cell? ⟨T, 2, none⟩ = some (.int .i64 (n : Int)) ∧ w9.cell? ⟨P, 3, none⟩ = some (.int .i64 (hs0 : Int)))) (by kernel_rfl) ⟨t2, p3⟩ (fun hS0 => ?_)
    refine tk 0 83 ?_ ?_ ?_; rotate_left; (focus (intro w h; go_simp; (try with_reducible rfl))); (try simp only [zqd, zqe, zqf])
    refine tk 1 84 ?_ ?_ ?_; rotate_left; (focus (intro w h; go_simp; (try with_reducible rfl))); (try simp only [zqd, zqe, zqf])
    refine tk 2 85 ?_ ?_ ?_; rotate_left; (focus (intro w h; go_simp; (try with_reducible rfl))); (try simp only [zqd, zqe, zqf])
    refine tk 3 86 ?_ ?_ ?_; rotate_left; (focus (intro w h; go_simp; (try with_reducible rfl))); (try simp only [zqd, zqe, zqf])
    refine tk 4 87 ?_ ?_ ?_; rotate_left; (focus (intro w h; go_simp; (try with_reducible rfl))); (try simp only [zqd, zqe, zqf])
    refine tk 5 88 ?_ ?_ ?_; rotate_left; (focus (intro w h; go_simp; (try with_reducible rfl))); (try simp only [zqd, zqe, zqf])
    refine tk 6 89 ?_ ?_ ?_; rotate_left; (focus (intro w h; go_simp; (try with_reducible rfl))); (try simp only [zqd, zqe, zqf])
    refine tk 7 90 ?_ ?_ ?_; rotate_left; (focus (intro w h; go_simp; (try with_reducible rfl))); (try simp only [zqd, zqe, zqf])
    refine tk 8 91 ?_ ?_ ?_; rotate_left; (focus (intro w h; go_simp; (try with_reducible rfl))); (try simp only [zqd, zqe, zqf])
    refine tk 9 92 ?_ ?_ ?_; rotate_left; (focus (intro w h; go_simp; (try with_reducible rfl))); (try simp only [zqd, zqe, zqf])
    refine tk 10 93 ?_ ?_ ?_; rotate_left; (focus (intro w h; go_simp; (try with_reducible rfl))); (try simp only [zqd, zqe, zqf])
    refine tk 11 94 ?_ ?_ ?_; rotate_left; (focus (intro w h; go_simp; (try with_reducible rfl))); (try simp only [zqd, zqe, zqf])
    refine tk 12 95 ?_ ?_ ?_; rotate_left; (focus (intro w h; go_simp; (try with_reducible rfl))); (try simp only [zqd, zqe, zqf])
    refine tk 13 96 ?_ ?_ ?_; rotate_left; (focus (intro w h; go_simp; (try with_reducible rfl))); (try simp only [zqd, zqe, zqf])
    refine tk 14 97 ?_ ?_ ?_; rotate_left; (focus (intro w h; go_simp; (try with_reducible rfl))); (try simp only [zqd, zqe, zqf])
    refine tk 15 98 ?_ ?_ ?_; rotate_left; (focus (intro w h; go_simp; (try with_reducible rfl))); (try simp only [zqd, zqe, zqf])
    refine tk 16 99 ?_ ?_ ?_; rotate_left; (focus (intro w h; go_simp; (try with_reducible rfl))); (try simp only [zqd, zqe, zqf])
    refine tk 17 100 ?_ ?_ ?_; rotate_left; (focus (intro w h; go_simp; (try with_reducible rfl))); (try simp only [zqd, zqe, zqf])
    refine sk 18 101 ?_; (try simp only [zqd, zqe, zqf])
    refine sk 19 102 ?_; (try simp only [zqd, zqe, zqf])
    refine tk 20 103 ?_ ?_ ?_; rotate_left; (focus (intro w h; go_simp; (try with_reducible rfl))); (try simp only [zqd, zqe, zqf])
    refine wpAnyH_done (by kernel_rfl) ?_ _
    clear hS0
    have HFin : Hid (TellSt w x0.drew.drew P M G own k (putL s1 n b) 0 (.slice none 0 0) (putL s1 n b)) := hide (TellSt.start (by rw [putL_not (fun h => hc2 (by rw [← HQ1.out.2.2.1]; exact h.2.1))]; exact (HEx.out.next (Below.refl _ _).drew.drew).mono) ⟨HKx.out.1, fun g hl hx => HKx.out.2 g hl (by simp at hx ⊢; exact hx.1), HKx.out.3⟩ (fun g => .inl rfl))
    rw [← HS1.out] at HFin
    go_wp2_with fail
    go_step3
    simp only [Exit.then]
    apply_assumption
    refine HL.out _ _ ?_
    exact HJP.mk rfl HFin HN0
   have d2 : (n : Int) ≤ (hs0 : Int) + 64 := by omega
   rcases xb with _ | _
   rotate_left
   ·refine wp_region_held_drew (S := (fun w9 : World => w9.cell? ⟨T, 2, none⟩ = some (.int .i64 (n : Int)) ∧ w9.cell? ⟨P, 3, none⟩ = some (.int .i64 (hs0 : Int)))) (by kernel_rfl) ⟨t2, p3⟩ (fun hS0 => ?_)
    refine tk 0 83 ?_ ?_ ?_; rotate_left; (focus (intro w h; go_simp; (try with_reducible rfl))); (try simp only [zqd, zqe, zqf])
    refine tk 1 84 ?_ ?_ ?_; rotate_left; (focus (intro w h; go_simp; (try with_reducible rfl))); (try simp only [zqd, zqe, zqf])
    refine tk 2 85 ?_ ?_ ?_; rotate_left; (focus (intro w h; go_simp; (try with_reducible rfl))); (try simp only [zqd, zqe, zqf])
    refine tk 3 86 ?_ ?_ ?_; rotate_left; (focus (intro w h; go_simp; (try with_reducible rfl))); (try simp only [zqd, zqe, zqf])
    refine tk 4 87 ?_ ?_ ?_; rotate_left; (focus (intro w h; go_simp; (try with_reducible rfl))); (try simp only [zqd, zqe, zqf])
    refine tk 5 88 ?_ ?_ ?_; rotate_left; (focus (intro w h; go_simp; (try with_reducible rfl))); (try simp only [zqd, zqe, zqf])
    refine tk 6 89 ?_ ?_ ?_; rotate_left; (focus (intro w h; go_simp; (try with_reducible rfl))); (try simp only [zqd, zqe, zqf])
    refine tk 7 90 ?_ ?_ ?_; rotate_left; (focus (intro w h; go_simp; (try with_reducible rfl))); (try simp only [zqd, zqe, zqf])
    refine tk 8 91 ?_ ?_ ?_; rotate_left; (focus (intro w h; go_simp; (try with_reducible rfl))); (try simp only [zqd, zqe, zqf])
    refine tk 9 92 ?_ ?_ ?_; rotate_left; (focus (intro w h; go_simp; (try with_reducible rfl))); (try simp only [zqd, zqe, zqf])
    refine tk 10 93 ?_ ?_ ?_; rotate_left; (focus (intro w h; go_simp; (try with_reducible rfl))); (try simp only [zqd, zqe, zqf])
    refine tk 11 94 ?_ ?_ ?_; rotate_left; (focus (intro w h; go_simp; (try with_reducible rfl))); (try simp only [zqd, zqe, zqf])
    refine tk 12 95 ?_ ?_ ?_; rotate_left; (focus (intro w h; go_simp; (try with_reducible rfl))); (try simp only [zqd, zqe, zqf])
    refine tk 13 96 ?_ ?_ ?_; rotate_left; (focus (intro w h; go_simp; (try with_reducible rfl))); (try simp only [zqd, zqe, zqf])
    refine tk 14 97 ?_ ?_ ?_; rotate_left; (focus (intro w h; go_simp; (try with_reducible rfl))); (try simp only [zqd, zqe, zqf])
    refine tk 15 98 ?_ ?_ ?_; rotate_left; (focus (intro w h; go_simp; (try with_reducible rfl))); (try simp only [zqd, zqe, zqf])
    refine tk 16 99 ?_ ?_ ?_; rotate_left; (focus (intro w h; go_simp; (try with_reducible rfl))); (try simp only [zqd, zqe, zqf])
    refine tk 17 100 ?_ ?_ ?_; rotate_left; (focus (intro w h; go_simp; (try with_reducible rfl))); (try simp only [zqd, zqe, zqf])
    refine tk 18 101 ?_ ?_ ?_; rotate_left; (focus (intro w h; go_simp; (try with_reducible rfl))); (try simp only [zqd, zqe, zqf])
    refine tk 19 102 ?_ ?_ ?_; rotate_left; (focus (intro w h; go_simp; (try with_reducible rfl))); (try simp only [zqd, zqe, zqf])
    refine tk 20 103 ?_ ?_ ?_; rotate_left; (focus (intro w h; go_simp; (try with_reducible rfl))); (try simp only [zqd, zqe, zqf])
    refine wpAnyH_done (by kernel_rfl) ?_ _
    clear hS0
    have HFin : Hid (TellSt w x0.drew.drew P M G own k (putL s1 n b) 0 (.slice none 0 0) (putL s1 n b)) := hide (TellSt.start (by rw [putL_not (fun h => by have h1 := HM3.out n; rw [HXb.out, h.2.2] at h1; cases h1)]; exact (HEx.out.next (Below.refl _ _).drew.drew).mono) ⟨HKx.out.1, fun g hl hx => HKx.out.2 g hl (by simp at hx ⊢; exact hx.1), HKx.out.3⟩ (fun g => .inl rfl))
    rw [← HS1.out] at HFin
    go_wp2_with fail
    go_step3
    simp only [Exit.then]
    apply_assumption
    refine HL.out _ _ ?_
    exact HJP.mk rfl HFin HN0
   refine wp_region_held_drew (S := (fun w9 : World => w9.cell? ⟨T, 2, none⟩ = some (.int .i64 (n : Int)) ∧ w9.cell? ⟨P, 3, none⟩ = some (.int .i64 (hs0 : Int)))) (by kernel_rfl) ⟨t2, p3⟩ (fun hS0 => ?_)
   refine tk 0 83 ?_ ?_ ?_; rotate_left; (focus (intro w h; go_simp; (try with_reducible rfl))); (try simp only [zqd, zqe, zqf])
   refine tk 1 84 ?_ ?_ ?_; rotate_left; (focus (intro w h; go_simp; (try with_reducible rfl))); (try simp only [zqd, zqe, zqf])
   refine tk 2 85 ?_ ?_ ?_; rotate_left; (focus (intro w h; go_simp; (try with_reducible rfl))); (try simp only [zqd, zqe, zqf])
   refine tk 3 86 ?_ ?_ ?_; rotate_left; (focus (intro w h; go_simp; (try with_reducible rfl))); (try simp only [zqd, zqe, zqf])
   refine tk 4 87 ?_ ?_ ?_; rotate_left; (focus (intro w h; go_simp; (try with_reducible rfl))); (try simp only [zqd, zqe, zqf])
   refine tk 5 88 ?_ ?_ ?_; rotate_left; (focus (intro w h; go_simp; (try with_reducible rfl))); (try simp only [zqd, zqe, zqf])
   refine tk 6 89 ?_ ?_ ?_; rotate_left; (focus (intro w h; go_simp; (try with_reducible rfl))); (try simp only [zqd, zqe, zqf])
   refine tk 7 90 ?_ ?_ ?_; rotate_left; (focus (intro w h; go_simp; (try with_reducible rfl))); (try simp only [zqd, zqe, zqf])
   refine tk 8 91 ?_ ?_ ?_; rotate_left; (focus (intro w h; go_simp; (try with_reducible rfl))); (try simp only [zqd, zqe, zqf])
   refine tk 9 92 ?_ ?_ ?_; rotate_left; (focus (intro w h; go_simp; (try with_reducible rfl))); (try simp only [zqd, zqe, zqf])
   refine tk 10 93 ?_ ?_ ?_; rotate_left; (focus (intro w h; go_simp; (try with_reducible rfl))); (try simp only [zqd, zqe, zqf])
   refine tk 11 94 ?_ ?_ ?_; rotate_left; (focus (intro w h; go_simp; (try with_reducible rfl))); (try simp only [zqd, zqe, zqf])
   refine tk 12 95 ?_ ?_ ?_; rotate_left; (focus (intro w h; go_simp; (try with_reducible rfl))); (try simp only [zqd, zqe, zqf])
   refine tk 13 96 ?_ ?_ ?_; rotate_left; (focus (intro w h; go_simp; (try with_reducible rfl))); (try simp only [zqd, zqe, zqf])
   refine tk 14 97 ?_ ?_ ?_; rotate_left; (focus (intro w h; go_simp; (try with_reducible rfl))); (try simp only [zqd, zqe, zqf])
   refine tk 15 98 ?_ ?_ ?_; rotate_left; (focus (intro w h; go_simp; (try with_reducible rfl))); (try simp only [zqd, zqe, zqf])
   refine tk 16 99 ?_ ?_ ?_; rotate_left; (focus (intro w h; go_simp; (try with_reducible rfl))); (try simp only [zqd, zqe, zqf])
   refine tk 17 100 ?_ ?_ ?_; rotate_left; (focus (intro w h; go_simp; (try with_reducible rfl))); (try simp only [zqd, zqe, zqf])
   refine tk 18 101 ?_ ?_ ?_; rotate_left; (focus (intro w h; go_simp; (try with_reducible rfl))); (try simp only [zqd, zqe, zqf])
   refine tk 19 102 ?_ ?_ ?_; rotate_left; (focus (intro w h; go_simp; (try with_reducible rfl))); (try simp only [zqd, zqe, zqf])
   refine tk 20 103 ?_ ?_ ?_; rotate_left; (focus (intro w h; go_simp; (try with_reducible rfl))); (try simp only [zqd, zqe, zqf])
   refine wpAnyH_done (by kernel_rfl) ?_ _
   clear hS0
   go_upto_region 19 with fail
   have hcl := clone_any x0.drew.drew.drew A1 b c1 ((Rd.of_own HOx.out).drew.drew.drew) (by rw [HBl.out]; omega)
   rw [HBl.out] at hcl
   have HCl := hide hcl
   clear hcl
   refine wpL_region (S := (fun w9 : World => w9.cell? ⟨P, 6, none⟩ = some (.map (some M)) ∧ w9.cell? ⟨T, 2, none⟩ = some (.int .i64 (n : Int)) ∧ w9.cell? ⟨T, 3, none⟩ = some (.slice A1 bl c1))) [9] (by kernel_rfl) ⟨p6, t2, t3⟩ (fun hS0 => ?_)
   refine tl 0 104 ?_ ?_ ?_; rotate_left; (focus (intro w h; go_simp; (try with_reducible rfl))); (try simp only [zqd, zqe, zqf])
   refine tl 1 105 ?_ ?_ ?_; rotate_left; (focus (intro w h; go_simp; (try with_reducible rfl))); (try simp only [zqd, zqe, zqf])
   refine tl 2 106 ?_ ?_ ?_; rotate_left; (focus (intro w h; go_simp; (try with_reducible rfl))); (try simp only [zqd, zqe, zqf])
   refine tl 3 107 ?_ ?_ ?_; rotate_left; (focus (intro w h; go_simp; (try with_reducible rfl))); (try simp only [zqd, zqe, zqf])
   refine tl 4 108 ?_ ?_ ?_; rotate_left; (focus (intro w h; go_simp; (try with_reducible rfl))); (try simp only [zqd, zqe, zqf])
   refine tl 5 109 ?_ ?_ ?_; rotate_left; (focus (intro w h; go_simp; (try with_reducible rfl))); (try simp only [zqd, zqe, zqf])
   refine tl 6 110 ?_ ?_ ?_; rotate_left; (focus (intro w h; go_simp; (try with_reducible rfl))); (try simp only [zqd, zqe, zqf])
   refine tl 7 111 ?_ ?_ ?_; rotate_left; (focus (intro w h; go_simp; (try with_reducible rfl))); (try simp only [zqd, zqe, zqf])
   refine callL_at (i := 8) (d := 112) (by simp only [zqa, zqb, zqc]; rfl) rfl (by kernel_rfl) rfl (fun K hK => ?_)
   go_simp
   refine HCl.out.mono ?_
   rintro e y5 ⟨⟨A5, c5, rfl, ho⟩, hb5⟩
   have HB5 : Hid (Below x0.heap.size x0 y5) := hide (below_dr (below_dr (below_dr hb5)))
   have HO5 : Hid (y5.ownsRow x0.heap.size 5 1 (.slice A5 bl c5) bl (u8s b)) := hide ho
   have hS5 : y5.cell? ⟨P, 6, none⟩ = some (.map (some M)) ∧ y5.cell? ⟨T, 2, none⟩ = some (.int .i64 (n : Int)) ∧ y5.cell? ⟨T, 3, none⟩ = some (.slice A1 bl c1) := ⟨(HB5.out.cell (p := ⟨P, 6, none⟩) hPx).trans p6, (HB5.out.cell (p := ⟨T, 2, none⟩) hTx).trans t2, (HB5.out.cell (p := ⟨T, 3, none⟩) hTx).trans t3⟩
   clear ho hb5
   go_wp2_with fail
   refine hK.out _ _ hS5 (fun hSn => ?_)
   clear hK K
   try simp only [zqd, zqe, zqf]
   refine exL_at (i := 9) (by simp only [zqa, zqb, zqc]; rfl) (by kernel_rfl) rfl (by kernel_rfl) (fun K hK => ?_)
   refine op_mput (map_keep HM1.out (HB5.out.block M (map_lt HM1.out))) hk hn63 (m := .tmp 107) (x := .tmp 109) (z := .tmp 112) rfl rfl rfl rfl ?_
   intro wf mf tf
   have HMf := hide mf
   have HTf := hide tf
   clear mf tf
   refine hK.out _ _ ?_
   clear hK K
   try simp only [zqd, zqe, zqf]
   refine wpAnyL_done (by kernel_rfl) ?_ _
   clear hS0 hSn hS5
   have HFin : Hid (TellSt w wf P M G own k (putL s1 n b) 0 (.slice none 0 0) (putL s1 n b)) := hide (by
    have hst : putL s1 n b = { ({ s1 with owes := true } : LE) with ahead := fun m => if m = n then some b else ({ s1 with owes := true } : LE).ahead m } := by
     unfold putL
     rw [if_pos ⟨by rw [HQ1.out.2.2.1]; omega, by rw [HQ1.out.2.2.1]; omega, by have h1 := HM3.out n; rw [HXb.out] at h1; cases hq : s1.ahead n with | none => rfl | some z => (rw [hq] at h1; cases h1)⟩]
    obtain ⟨own5, e1, e2, e3⟩ := HEx.out.put (n := n) (b := b) (A := A5) (c := c5) HM2.out HM3.out HM4.out HB5.out (by rw [HBl.out]; exact HO5.out) (by rw [HBl.out]; exact HMf.out) HTf.out.grown ⟨by show s1.heard < n; rw [HQ1.out.2.2.1]; omega, by show n ≤ s1.heard + 64; rw [HQ1.out.2.2.1]; omega⟩ (by rw [HBl.out]; exact hb4)
    rw [← hst] at e1
    exact TellSt.start e1 ⟨by have := HKx.out.1; have := e2.1; omega, fun g hl hx => (e2.2 g (by have := HKx.out.1; omega) (by simp at hx ⊢; exact hx.2.1)).trans (HKx.out.2 g hl (by simp at hx ⊢; exact hx.1)), HKx.out.3.trans e2.3⟩ (fun g => (e3 g).imp id fun h => Nat.le_trans HKx.out.1 h))
   rw [← HS1.out] at HFin
   go_wp2_with fail
   go_step3
   simp only [Exit.then]
   apply_assumption
   refine HL.out _ _ ?_
   exact HJP.mk rfl HFin HN0
 ·rintro a' x ⟨u, j, v, s', rfl, HT, HN0⟩
  unfold HJF
  dsimp only
  obtain ⟨own', bs, r1, r2, r3, r4, r5, r6, r7, r8, r9⟩ := HT.out
  obtain ⟨D, ff, m1, m2, m3, m4⟩ := r2.mapOf
  obtain ⟨A4, c4, vs, b1, b2, b3, b4⟩ := r4
  rw [r1] at b1 b2
  subst b1
  obtain ⟨A3, c3, hPx, -, -, -⟩ := r2.row
  have hPx' := lt_of_block hPx
  have hvl : vs.length = j := by have := b2.1; omega
  have hs0' : (putL (ackL s hd) n b).heard = hs0 := by rw [putL_heard, (ackL_eqs s hd).2.2.1]; exact HS.out.2.2.2.1
  rw [hs0'] at r3 r7 b3
  obtain ⟨h', hh'⟩ : ∃ x, s'.heard = x := ⟨_, rfl⟩
  have hhb : h' ≤ 1000000 := by rw [← hh']; exact r2.1.heard
  have p3 : x.cell? ⟨P, 3, none⟩ = some (.int .i64 (h' : Int)) := by rw [← hh']; exact cell_of_row _ _ 3 _ _ _ hPx
  have p6 : x.cell? ⟨P, 6, none⟩ = some (.map (some M)) := cell_of_row _ _ 6 _ _ _ hPx
  have kw : IntKind.i64.wrap ((h' : Int) + 1) = ((h' + 1 : Nat) : Int) := by rw [IntWalk.i64_in _ (by omega)]; omega
  have hn63 : h' + 1 ≤ 9223372036854775807 := by omega
  obtain ⟨xv, hxv⟩ : ∃ y, (ff (h' + 1)).getD (.slice none 0 0) = y := ⟨_, rfl⟩
  obtain ⟨xb, hxb⟩ : ∃ y, (ff (h' + 1)).isSome = y := ⟨_, rfl⟩
  have HR1 := hide r1
  have HR2 := hide r2
  have HR3 := hide r3
  have HR6 := hide r6
  have HR7 := hide r7
  have HR8 := hide r8
  have HR9 := hide r9
  have HM1 := hide m1
  have HM2 := hide m2
  have HM3 := hide m3
  have HM4 := hide m4
  have HB2 := hide b2
  have HB3 := hide b3
  have HB4 := hide b4
  have HPx := hide hPx
  have HXv := hide hxv
  have HXb := hide hxb
  have HH' := hide hh'
  have HS0' := hide hs0'
  have HVl := hide hvl
  clear r1 r2 r3 r6 r7 r8 r9 m1 m2 m3 m4 b2 b3 b4 hPx hxv hxb hh' hs0' hvl
  rcases xb with _ | _
  ·have HFin : Hid (HearPost w P M G own k s f (.returned (.tuple #[.slice A4 j c4, .int .i64 0])) x.drew) := hide (TellSt.fin HT.out (by rw [HH'.out]; have h1 := HM3.out (h' + 1); rw [HXb.out] at h1; cases hq : s'.ahead (h' + 1) with | none => rfl | some z => (rw [hq] at h1; cases h1)) (Below.refl _ _).drew (hearL_ok HQ.out (by rw [HS.out.2.1]; exact hB) (fun e => HN0.out e)) (by rw [HS0'.out]; exact HS.out.2.2.2.1.symm))
   go_upto_region 21 with fail
   refine wp_region_held_drew (S := (fun w9 : World => w9.cell? ⟨P, 6, none⟩ = some (.map (some M)) ∧ w9.cell? ⟨P, 3, none⟩ = some (.int .i64 (h' : Int)) ∧ w9.heap[M]? = x.heap[M]?)) (by kernel_rfl) ⟨p6, p3, rfl⟩ (fun hS0 => ?_)
   refine tk 0 114 ?_ ?_ ?_; rotate_left; (focus (intro w h; go_simp; (try with_reducible rfl))); (try simp only [zqd, zqe, zqf])
   refine tk 1 115 ?_ ?_ ?_; rotate_left; (focus (intro w h; go_simp; (try with_reducible rfl))); (try simp only [zqd, zqe, zqf])
   refine tk 2 116 ?_ ?_ ?_; rotate_left; (focus (intro w h; go_simp; (try with_reducible rfl))); (try simp only [zqd, zqe, zqf])
   refine tk 3 117 ?_ ?_ ?_; rotate_left; (focus (intro w h; go_simp; (try with_reducible rfl))); (try simp only [zqd, zqe, zqf])
   refine tk 4 118 ?_ ?_ ?_; rotate_left; (focus (intro w h; go_simp; (try with_reducible rfl))); (try simp only [zqd, zqe, zqf])
   refine tk 5 119 ?_ ?_ ?_; rotate_left; (focus (intro w h; go_simp; (try with_reducible rfl))); (try simp only [zqd, zqe, zqf])
   refine tk 6 120 ?_ ?_ ?_; rotate_left; (focus (intro w h; go_simp; (try with_reducible rfl))); (try simp only [zqd, zqe, zqf])
   refine tk 7 121 ?_ ?_ ?_; rotate_left; (focus (intro w h; go_simp; (try with_reducible rfl))); (try simp only [zqd, zqe, zqf])
   refine tk 8 122 ?_ ?_ ?_; rotate_left; (focus (intro w h; go_simp; (try with_reducible rfl))); (try simp only [zqd, zqe, zqf])
   refine tk 9 123 ?_ ?_ ?_; rotate_left; (focus (intro w hSw; refine look_is HM1.out HM2.out HXv.out HXb.out hSw.2.2 hn63 (m := .tmp 117) (x := .tmp 122) ?_ ?_ ?_ <;> rfl; done)); (try simp only [zqd, zqe, zqf])
   refine tk 10 113 ?_ ?_ ?_; rotate_left; (focus (intro w h; go_simp; (try with_reducible rfl))); (try simp only [zqd, zqe, zqf])
   refine tk 11 124 ?_ ?_ ?_; rotate_left; (focus (intro w h; go_simp; (try with_reducible rfl))); (try simp only [zqd, zqe, zqf])
   refine tk 12 125 ?_ ?_ ?_; rotate_left; (focus (intro w h; go_simp; (try with_reducible rfl))); (try simp only [zqd, zqe, zqf])
   refine tk 13 12 ?_ ?_ ?_; rotate_left; (focus (intro w h; go_simp; (try with_reducible rfl))); (try simp only [zqd, zqe, zqf])
   refine tk 14 13 ?_ ?_ ?_; rotate_left; (focus (intro w h; go_simp; (try with_reducible rfl))); (try simp only [zqd, zqe, zqf])
   refine wpAnyH_done (by kernel_rfl) ?_ _
   clear hS0
   go_wp2
   simp only [Exit.jump]
   exact bodyPost_ret (v := .tuple #[.slice A4 j c4, .int .i64 0]) (by simp [results, Try.results12, go_sem]) rfl HFin.out
  have hj : j ≤ 63 := tell_le (s0 := (putL (ackL s hd) n b)) (s := s') (by rw [HS0'.out]; exact HR3.out) (by rw [HS0'.out]; exact HR7.out) (by rw [HH'.out]; have h1 := HM3.out (h' + 1); rw [HXb.out] at h1; exact h1.symm)
  obtain ⟨b5, hb5⟩ : ∃ z, s'.ahead (h' + 1) = some z := by have h1 := HM3.out (h' + 1); rw [HXb.out] at h1; exact Option.isSome_iff_exists.1 h1.symm
  have hu5 : ff (h' + 1) = some xv := by obtain ⟨z, hz⟩ := Option.isSome_iff_exists.1 HXb.out; rw [← HXv.out, hz]; rfl
  obtain ⟨⟨Ax, cx, hxe⟩, -⟩ := HM4.out (h' + 1) xv b5 hu5 hb5
  obtain ⟨bx, hbx⟩ : ∃ z, b5.length = z := ⟨_, rfl⟩
  rw [hbx] at hxe
  subst hxe
  have HB5 := hide hb5
  have HU5 := hide hu5
  clear hb5 hu5 hbx
  have hHl : h' < 1000000 := by have := HR3.out; have := HH'.out; omega
  go_upto_region 21 with fail
  refine wp_region_held_drew (S := (fun w9 : World => w9.cell? ⟨P, 6, none⟩ = some (.map (some M)) ∧ w9.cell? ⟨P, 3, none⟩ = some (.int .i64 (h' : Int)) ∧ w9.heap[M]? = x.heap[M]?)) (by kernel_rfl) ⟨p6, p3, rfl⟩ (fun hS0 => ?_)
  refine tk 0 114 ?_ ?_ ?_; rotate_left; (focus (intro w h; go_simp; (try with_reducible rfl))); (try simp only [zqd, zqe, zqf])
  refine tk 1 115 ?_ ?_ ?_; rotate_left; (focus (intro w h; go_simp; (try with_reducible rfl))); (try simp only [zqd, zqe, zqf])
  refine tk 2 116 ?_ ?_ ?_; rotate_left; (focus (intro w h; go_simp; (try with_reducible rfl))); (try simp only [zqd, zqe, zqf])
  refine tk 3 117 ?_ ?_ ?_; rotate_left; (focus (intro w h; go_simp; (try with_reducible rfl))); (try simp only [zqd, zqe, zqf])
  refine tk 4 118 ?_ ?_ ?_; rotate_left; (focus (intro w h; go_simp; (try with_reducible rfl))); (try simp only [zqd, zqe, zqf])
  refine tk 5 119 ?_ ?_ ?_; rotate_left; (focus (intro w h; go_simp; (try with_reducible rfl))); (try simp only [zqd, zqe, zqf])
  refine tk 6 120 ?_ ?_ ?_; rotate_left; (focus (intro w h; go_simp; (try with_reducible rfl))); (try simp only [zqd, zqe, zqf])
  refine tk 7 121 ?_ ?_ ?_; rotate_left; (focus (intro w h; go_simp; (try with_reducible rfl))); (try simp only [zqd, zqe, zqf])
  refine tk 8 122 ?_ ?_ ?_; rotate_left; (focus (intro w h; go_simp; (try with_reducible rfl))); (try simp only [zqd, zqe, zqf])
  refine tk 9 123 ?_ ?_ ?_; rotate_left; (focus (intro w hSw; refine look_is HM1.out HM2.out HXv.out HXb.out hSw.2.2 hn63 (m := .tmp 117) (x := .tmp 122) ?_ ?_ ?_ <;> rfl; done)); (try simp only [zqd, zqe, zqf])
  refine tk 10 113 ?_ ?_ ?_; rotate_left; (focus (intro w h; go_simp; (try with_reducible rfl))); (try simp only [zqd, zqe, zqf])
  refine tk 11 124 ?_ ?_ ?_; rotate_left; (focus (intro w h; go_simp; (try with_reducible rfl))); (try simp only [zqd, zqe, zqf])
  refine tk 12 125 ?_ ?_ ?_; rotate_left; (focus (intro w h; go_simp; (try with_reducible rfl))); (try simp only [zqd, zqe, zqf])
  refine tk 13 12 ?_ ?_ ?_; rotate_left; (focus (intro w h; go_simp; (try with_reducible rfl))); (try simp only [zqd, zqe, zqf])
  refine tk 14 13 ?_ ?_ ?_; rotate_left; (focus (intro w h; go_simp; (try with_reducible rfl))); (try simp only [zqd, zqe, zqf])
  refine wpAnyH_done (by kernel_rfl) ?_ _
  clear hS0
  have z3 : x.drew.frozen? ⟨P, 3, none⟩ = false := frozen_of_row _ _ 3 _ _ HPx.out
  go_upto_region 24 with fail
  obtain ⟨x1, hx1⟩ : ∃ y, x.setCell ⟨P, 3, none⟩ (.int .i64 ((h' : Int) + 1)) = y := ⟨_, rfl⟩
  have HP1 := hide (show x1.heap[P]? = some (.cells #[.int .i64 s'.ep, .slice A3 s'.sent.length c3, .int .i64 s'.next, .int .i64 ((s'.heard + 1 : Nat) : Int), .int .i64 s'.fresh, .bool s'.owes, .map (some M)] 67 (0, 0)) by rw [← hx1]; rw [HH'.out]; have h0 := heap_setCell_same x P 3 _ _ (.int .i64 ((h' : Int) + 1)) HPx.out; rw [h0]; rfl)
  have HX1 : Hid ((∀ g, g ≠ P → x1.heap[g]? = x.heap[g]?) ∧ x1.heap.size = x.heap.size) := hide ⟨fun g hg => by rw [← hx1]; exact Below.heap_setCell _ _ _ _ hg, by rw [← hx1]; exact World.size_setCell _ _ _⟩
  have HEx1 : Hid (Env x x1) := hide (by rw [← hx1]; exact (Env.refl _).setCell _ _)
  rw [hx1]
  clear hx1 p3 p6 z3
  have hP1 := lt_of_block HP1.out
  have p3 : x1.cell? ⟨P, 3, none⟩ = some (.int .i64 ((h' : Int) + 1)) := by rw [← HH'.out]; exact cell_of_row _ _ 3 _ _ _ HP1.out
  have p6 : x1.cell? ⟨P, 6, none⟩ = some (.map (some M)) := cell_of_row _ _ 6 _ _ _ HP1.out
  have HPM : Hid (M ≠ P) := hide (by rintro rfl; obtain ⟨es, clock, hm, _⟩ := HM1.out; rw [HPx.out] at hm; cases hm)
  have HMx1 := hide (map_keep HM1.out (HX1.out.1 M HPM.out))
  refine wpL_region (S := (fun w9 : World => w9.cell? ⟨P, 6, none⟩ = some (.map (some M)) ∧ w9.cell? ⟨P, 3, none⟩ = some (.int .i64 ((h' : Int) + 1)))) [8] (by kernel_rfl) ⟨p6, p3⟩ (fun hS0 => ?_)
  refine tw 0 134 ?_ ?_ ?_; rotate_left; (focus (intro w; go_simp; (try with_reducible rfl); done)); (try simp only [zqd, zqe, zqf])
  refine tw 1 135 ?_ ?_ ?_; rotate_left; (focus (intro w; go_simp; (try with_reducible rfl); done)); (try simp only [zqd, zqe, zqf])
  refine tw 2 136 ?_ ?_ ?_; rotate_left; (focus (intro w; go_simp; (try with_reducible rfl); done)); (try simp only [zqd, zqe, zqf])
  refine tl 3 137 ?_ ?_ ?_; rotate_left; (focus (intro w h; go_simp; (try with_reducible rfl))); (try simp only [zqd, zqe, zqf])
  refine tw 4 138 ?_ ?_ ?_; rotate_left; (focus (intro w; go_simp; (try with_reducible rfl); done)); (try simp only [zqd, zqe, zqf])
  refine tw 5 139 ?_ ?_ ?_; rotate_left; (focus (intro w; go_simp; (try with_reducible rfl); done)); (try simp only [zqd, zqe, zqf])
  refine tw 6 140 ?_ ?_ ?_; rotate_left; (focus (intro w; go_simp; (try with_reducible rfl); done)); (try simp only [zqd, zqe, zqf])
  refine tl 7 141 ?_ ?_ ?_; rotate_left; (focus (intro w h; go_simp; (try with_reducible rfl))); (try simp only [zqd, zqe, zqf])
  refine exL_at (i := 8) (by simp only [zqa, zqb, zqc]; rfl) (by kernel_rfl) rfl (by kernel_rfl) (fun K hK => ?_)
  refine op_del (y := x1.drew.drew) HMx1.out hn63 (m := .tmp 137) (x := .tmp 141) rfl rfl rfl ?_
  intro x2 md td
  have HMd := hide md
  have HTd := hide (show x1.drew.drew.mapTurned x2 M from td)
  clear md td
  refine hK.out _ _ ?_
  clear hK K
  try simp only [zqd, zqe, zqf]
  refine wpAnyL_done (by kernel_rfl) ?_ _
  clear hS0
  have hX2s := turned_size HTd.out
  have hX2 : x2.heap.size = x.heap.size := hX2s.trans HX1.out.2
  have HB5x : Hid (x2.ownsRow w.heap.size 23 1 (.slice A4 j c4) j vs) := hide (own_same HB2.out fun g hg => by
   have hgw := (HB2.out.lt g hg).1
   exact (turned_block HTd.out (by have := hMw.out.1; omega)).trans (HX1.out.1 g (by omega)))
  obtain ⟨i3, a3i, a3z, a3s, a3b⟩ := info_parts (show (Try.prog.info? 23).map (fun i => (i.zero, i.size, i.bytes)) = some (some (.slice none 0 0), 1, 24) by kernel_rfl)
  have hsx : w.heap.size ≤ x2.heap.size := by rw [hX2]; exact HR8.out.1
  have hP2 : P < x2.heap.size := by rw [hX2]; exact hPx'
  clear p3 p6 hX2s hX2
  go_wp2_with (at_builtin; refine wpList_app rfl (.tmp 142) (.tmp 144) 22 rfl w.heap.size 23 i3 (.slice none 0 0) 1 24 Try.underlying22 a3i a3z a3s a3b rfl (by decide) (.slice A4 j c4) j vs rfl (HB5x.out.alloc _) (x2.heap.size + 1) (some ⟨x2.heap.size, 0, none⟩) 1 1 [.slice Ax bx cx] rfl rfl (Rd.new _ _ _ _) (by simp [Value.oneCell']) (by unfold maxLen; omega) (by omega) (by simp; omega) ?_; intro A6 c6 x4 own6 hg6 hat6)
  have HFin : Hid (TellSt w x4 P M G own k (putL (ackL s hd) n b) (j + 1) (.slice A6 (j + 1) c6) { s' with heard := s'.heard + 1, ahead := fun n => if n = s'.heard + 1 then none else s'.ahead n }) := hide (TellSt.step (x1 := x1.drew.drew) hPw hMw.out.1 hMw.out.2 HR1.out HR2.out (by rw [HS0'.out]; exact HR3.out) HB2.out (by rw [HS0'.out]; exact HB3.out) HB4.out hj HR6.out (by rw [HS0'.out]; exact HR7.out) HR8.out HR9.out HM2.out HM3.out HM4.out (by rw [HH'.out]; exact hHl) (by rw [HH'.out]; exact HU5.out) (by rw [HH'.out]; exact HB5.out) (cell_of_row _ _ 1 _ _ _ HPx.out) HP1.out (fun g hg => HX1.out.1 g hg) HX1.out.2 HEx1.out (by rw [HH'.out]; exact HMd.out) HTd.out ((Below.refl _ _).alloc (Nat.le_refl _) _) own6 hg6)
  have HMu1 : Hid (HMu P (hs0 + 64) x = hs0 + 64 - h') := hide (HMu.is (q := .i64) (by rw [← HH'.out]; exact cell_of_row _ _ 3 _ _ _ HPx.out))
  have HMu2 : Hid (HMu P (hs0 + 64) x4 = hs0 + 64 - (h' + 1)) := hide (by
   obtain ⟨_, _, _, q2, _⟩ := HFin.out
   obtain ⟨A9, c9, q3, -, -, -⟩ := q2.row
   refine HMu.is (q := .i64) ?_
   rw [← HH'.out]
   exact cell_of_row _ _ 3 _ _ _ q3)
  have HLt : Hid (HMu P (hs0 + 64) x4 < HMu P (hs0 + 64) x) := hide (by rw [HMu1.out, HMu2.out]; have := HR3.out; have := HH'.out; omega)
  clear own6 hg6 hat6
  go_wp2
  go_step3
  exact ⟨rfl, HJP.mk rfl HFin HN0, HLt.out⟩
end Go.Proofs.Ytigmmikijjcdiaa
