/- Lemmas: Lkv, Lkd, Lkm, Lkz, Lnt, Rdn, Rfr, Rrn, Rrp. -/
import Derived.Test.YtigmmikijjcdiaaProg
import Derived.Deep.DeepCutAuto
import Derived.Lib.Hide
import Derived.WalkSpells
import Derived.WalkMore
import Derived.IntWalk
import Derived.ScopeJumps
import Derived.Lib.SlBytesConst
import Derived.Lib.AppendStr
import Derived.Test.YtigmmikijjcdiaaLnWw16
set_option linter.unusedVariables false
set_option linter.unusedSimpArgs false
set_option maxRecDepth 100000
set_option maxHeartbeats 16000000
namespace Go.Proofs.Ytigmmikijjcdiaa
open Go.RowKit Go.MapKept Go.ChangeMaps
theorem hear_any (w : World) {P M : Nat} {G : Option Nat} {own : Nat → Option (Bool × Nat)} {k : Nat} {s : LE} (h : EndM w P M G own k s) (A : Option Addr) (f : BL) (c : Nat) (hR : Rd w w.heap.size A (u8s f)) (hf : f.length ≤ 3000000) (hlc : f.length ≤ c) (hc : c ≤ 9223372036854775807) (hk : k < 1000000) (hh : s.heard + 65 ≤ 1000000) :
  Calls Try.prog 12 #[.pointer (some ⟨P, 0, none⟩), .slice A f.length c] w (HearPost w P M G own k s f) := by
 have HE := hide h
 obtain ⟨A0, c0, e0, e1, e2, e3, e4, e5, hP⟩ := h.cells
 have hrd := read_any w A f c hR hf hlc hc
 obtain ⟨m, hm⟩ : ∃ m, f.length = m := ⟨_, rfl⟩
 rw [hm] at hrd hf hlc ⊢
 have HRd := hide hrd
 have HM9 := hide hm
 clear hrd hm h
 rcases hq : readL f with _ | ⟨ep, hd, n, b⟩
 ·have HQ := hide hq
  clear hq
  go_enter Try.func12, Try.ntmps12
  go_wp2
  go_step3
  go_wp2_with fail
  refine HRd.out.mono ?_
  rintro e y ⟨hb, he⟩
  rw [HQ.out] at he
  obtain rfl := he
  have HFin : Hid (HearPost w P M G own k s f (.returned (.tuple #[.slice none 0 0, .int .i64 150])) (y.alloc (.cells #[.int .i64 0, .int .i64 0, .int .i64 0, .slice none 0 0] 71))) := hide (hear_no HE.out (hb.alloc hb.size _) (by unfold hearL; rw [HQ.out]))
  clear hb HRd
  go_wp2
  exact bodyPost_ret (v := .tuple #[.slice none 0 0, .int .i64 150]) (by simp [results, Try.results12, go_sem]) rfl HFin.out
 have HQ := hide hq
 clear hq
 obtain ⟨sep, hsep⟩ : ∃ x, s.ep = x := ⟨_, rfl⟩
 obtain ⟨nx0, hnx⟩ : ∃ x, s.next = x := ⟨_, rfl⟩
 by_cases hgo : ep = sep ∧ hd < nx0
 ·exact HM9.out ▸ hear_go w HE.out A f c hR (by rw [HM9.out]; exact hf) (by rw [HM9.out]; exact hlc) hc hk hh (by rw [HQ.out, hsep, hgo.1]) (by rw [hnx]; exact hgo.2)
 rw [hsep] at e0
 rw [hnx] at e2
 have HSe := hide hsep
 have HSn := hide hnx
 have HGo := hide hgo
 clear hsep hnx hgo
 go_enter Try.func12, Try.ntmps12
 go_wp2
 go_step3
 go_wp2_with fail
 refine HRd.out.mono ?_
 rintro e y ⟨hb, he⟩
 rw [HQ.out] at he
 obtain ⟨A1, c1, rfl, hown⟩ := he
 obtain ⟨bl, hbl⟩ : ∃ x, b.length = x := ⟨_, rfl⟩
 rw [hbl] at hown ⊢
 have HBl := hide hbl
 have HOb := hide hown
 clear hown hbl HRd
 obtain ⟨u, hu⟩ : ∃ u, y.alloc (.cells #[.int .i64 (ep : Int), .int .i64 (hd : Int), .int .i64 (n : Int), .slice A1 bl c1] 71) = u := ⟨_, rfl⟩
 have HT := hide (show u.heap[y.heap.size]? = some (.cells #[.int .i64 (ep : Int), .int .i64 (hd : Int), .int .i64 (n : Int), .slice A1 bl c1] 71) by rw [← hu]; exact heap_alloc_last y _)
 have HBu := hide (show Below w.heap.size w u by rw [← hu]; exact hb.alloc hb.size _)
 have HU := hide hu
 obtain ⟨T, hT⟩ : ∃ x, y.heap.size = x := ⟨_, rfl⟩
 rw [hT] at HT
 have HTw : Hid (w.heap.size ≤ T) := hide (by rw [← hT]; exact hb.size)
 have HTe := hide hT
 clear hb hu hT
 have t0 : u.cell? ⟨T, 0, none⟩ = some (.int .i64 (ep : Int)) := cell_of_row _ _ 0 _ _ _ HT.out
 have t1 : u.cell? ⟨T, 1, none⟩ = some (.int .i64 (hd : Int)) := cell_of_row _ _ 1 _ _ _ HT.out
 have t2 : u.cell? ⟨T, 2, none⟩ = some (.int .i64 (n : Int)) := cell_of_row _ _ 2 _ _ _ HT.out
 have t3 : u.cell? ⟨T, 3, none⟩ = some (.slice A1 bl c1) := cell_of_row _ _ 3 _ _ _ HT.out
 have p0 := (HBu.out.cell (p := ⟨P, 0, none⟩) hP).trans e0
 have p1 := (HBu.out.cell (p := ⟨P, 1, none⟩) hP).trans e1
 have p2 := (HBu.out.cell (p := ⟨P, 2, none⟩) hP).trans e2
 have p3 := (HBu.out.cell (p := ⟨P, 3, none⟩) hP).trans e3
 have p4 := (HBu.out.cell (p := ⟨P, 4, none⟩) hP).trans e4
 have p5 := (HBu.out.cell (p := ⟨P, 5, none⟩) hP).trans e5
 have hTu : T < u.heap.size := lt_of_block HT.out
 have hPu : P < u.heap.size := by have := HBu.out.size; omega
 go_upto_region 6 with fail
 rw [HU.out, HTe.out]
 by_cases cE : ep = sep
 rotate_left
 ·have k1 : ((ep : Int) != (sep : Int)) = true := by simp; omega
  have HFin : Hid (HearPost w P M G own k s f (.returned (.tuple #[.slice none 0 0, .int .i64 4])) u.drew) := hide (hear_no HE.out HBu.out.drew (by unfold hearL; rw [HQ.out]; dsimp only; rw [if_pos (by rw [HSe.out]; exact cE)]))
  clear cE
  refine wp_region_held_drew (S := Kept u) (by kernel_rfl) (Kept.drew u) (fun hS0 => ?_)
  refine tk 0 25 ?_ ?_ ?_; rotate_left; (focus (intro w h; go_simp; (try with_reducible rfl))); (try simp only [zqd, zqe, zqf])
  refine tk 1 26 ?_ ?_ ?_; rotate_left; (focus (intro w h; go_simp; (try with_reducible rfl))); (try simp only [zqd, zqe, zqf])
  refine tk 2 27 ?_ ?_ ?_; rotate_left; (focus (intro w h; go_simp; (try with_reducible rfl))); (try simp only [zqd, zqe, zqf])
  refine tk 3 28 ?_ ?_ ?_; rotate_left; (focus (intro w h; go_simp; (try with_reducible rfl))); (try simp only [zqd, zqe, zqf])
  refine tk 4 29 ?_ ?_ ?_; rotate_left; (focus (intro w h; go_simp; (try with_reducible rfl))); (try simp only [zqd, zqe, zqf])
  refine tk 5 30 ?_ ?_ ?_; rotate_left; (focus (intro w h; go_simp; (try with_reducible rfl))); (try simp only [zqd, zqe, zqf])
  refine tk 6 31 ?_ ?_ ?_; rotate_left; (focus (intro w h; go_simp; (try with_reducible rfl))); (try simp only [zqd, zqe, zqf])
  refine tk 7 24 ?_ ?_ ?_; rotate_left; (focus (intro w h; go_simp; (try with_reducible rfl))); (try simp only [zqd, zqe, zqf])
  refine wpAnyH_done (by kernel_rfl) ?_ _
  go_wp2
  exact bodyPost_ret (v := .tuple #[.slice none 0 0, .int .i64 4]) (by simp [results, Try.results12, go_sem]) rfl HFin.out
 have cB : nx0 ≤ hd := by have := HGo.out; omega
 have k1 : ((ep : Int) != (sep : Int)) = false := by simp; omega
 have HCE := hide cE
 clear cE
 have k2 : (nx0 : Int) ≤ (hd : Int) := by omega
 have HFin : Hid (HearPost w P M G own k s f (.returned (.tuple #[.slice none 0 0, .int .i64 2])) u.drew.drew) := hide (hear_no HE.out HBu.out.drew.drew (by unfold hearL; rw [HQ.out]; dsimp only; rw [if_neg (by rw [HSe.out, HCE.out]; simp), if_pos (by rw [HSn.out]; exact cB)]))
 clear cB
 refine wp_region_held_drew (S := Kept u) (by kernel_rfl) (Kept.drew u) (fun hS0 => ?_)
 refine tk 0 25 ?_ ?_ ?_; rotate_left; (focus (intro w h; go_simp; (try with_reducible rfl))); (try simp only [zqd, zqe, zqf])
 refine tk 1 26 ?_ ?_ ?_; rotate_left; (focus (intro w h; go_simp; (try with_reducible rfl))); (try simp only [zqd, zqe, zqf])
 refine tk 2 27 ?_ ?_ ?_; rotate_left; (focus (intro w h; go_simp; (try with_reducible rfl))); (try simp only [zqd, zqe, zqf])
 refine tk 3 28 ?_ ?_ ?_; rotate_left; (focus (intro w h; go_simp; (try with_reducible rfl))); (try simp only [zqd, zqe, zqf])
 refine tk 4 29 ?_ ?_ ?_; rotate_left; (focus (intro w h; go_simp; (try with_reducible rfl))); (try simp only [zqd, zqe, zqf])
 refine tk 5 30 ?_ ?_ ?_; rotate_left; (focus (intro w h; go_simp; (try with_reducible rfl))); (try simp only [zqd, zqe, zqf])
 refine tk 6 31 ?_ ?_ ?_; rotate_left; (focus (intro w h; go_simp; (try with_reducible rfl))); (try simp only [zqd, zqe, zqf])
 refine tk 7 24 ?_ ?_ ?_; rotate_left; (focus (intro w h; go_simp; (try with_reducible rfl))); (try simp only [zqd, zqe, zqf])
 refine wpAnyH_done (by kernel_rfl) ?_ _
 clear hS0
 go_upto_region 8 with fail
 refine wp_region_held_drew (S := (fun w9 : World => w9.cell? ⟨T, 1, none⟩ = some (.int .i64 (hd : Int)) ∧ w9.cell? ⟨P, 2, none⟩ = some (.int .i64 (nx0 : Int)))) (by kernel_rfl) ⟨t1, p2⟩ (fun hS0 => ?_)
 refine tk 0 33 ?_ ?_ ?_; rotate_left; (focus (intro w h; go_simp; (try with_reducible rfl))); (try simp only [zqd, zqe, zqf])
 refine tk 1 34 ?_ ?_ ?_; rotate_left; (focus (intro w h; go_simp; (try with_reducible rfl))); (try simp only [zqd, zqe, zqf])
 refine tk 2 35 ?_ ?_ ?_; rotate_left; (focus (intro w h; go_simp; (try with_reducible rfl))); (try simp only [zqd, zqe, zqf])
 refine tk 3 36 ?_ ?_ ?_; rotate_left; (focus (intro w h; go_simp; (try with_reducible rfl))); (try simp only [zqd, zqe, zqf])
 refine tk 4 37 ?_ ?_ ?_; rotate_left; (focus (intro w h; go_simp; (try with_reducible rfl))); (try simp only [zqd, zqe, zqf])
 refine tk 5 38 ?_ ?_ ?_; rotate_left; (focus (intro w h; go_simp; (try with_reducible rfl))); (try simp only [zqd, zqe, zqf])
 refine tk 6 39 ?_ ?_ ?_; rotate_left; (focus (intro w h; go_simp; (try with_reducible rfl))); (try simp only [zqd, zqe, zqf])
 refine tk 7 32 ?_ ?_ ?_; rotate_left; (focus (intro w h; go_simp; (try with_reducible rfl))); (try simp only [zqd, zqe, zqf])
 refine wpAnyH_done (by kernel_rfl) ?_ _
 go_wp2
 exact bodyPost_ret (v := .tuple #[.slice none 0 0, .int .i64 2]) (by simp [results, Try.results12, go_sem]) rfl HFin.out
end Go.Proofs.Ytigmmikijjcdiaa
namespace Go.Proofs.Ytigmmikijjcdiaa
open Go.RowKit
def Two (w : World) (L B n P1 P2 : Nat) (s t : LE) : Prop :=
 ∃ M1 G1 own1 k1 M2 G2 own2 k2, EndM w P1 M1 G1 own1 k1 s ∧ EndM w P2 M2 G2 own2 k2 t ∧ P1 ≠ P2 ∧ M1 ≠ M2 ∧ (∀ g, G1 = some g → G2 ≠ some g) ∧ k1 ≤ n ∧ k2 ≤ n ∧ (∀ g, (g = P1 ∨ g = M1 ∨ G1 = some g ∨ g = P2 ∨ g = M2 ∨ G2 = some g) → L ≤ g ∧ g < B)
structure Mid (L B : Nat) (w w' : World) : Prop where
 size : w.heap.size ≤ w'.heap.size
 blk : ∀ g, g < w.heap.size → (g < L ∨ B ≤ g) → w'.heap[g]? = w.heap[g]?
 env : Env w w'
 oth : ∀ (g : Nat) (cur : Array Value) (T : TypeId), w.heap[g]? = some (.cells cur T (0, 0)) → T ≠ 67 → T ≠ 23 → w'.heap[g]? = w.heap[g]?
theorem Mid.refl (L B : Nat) (w : World) : Mid L B w w := ⟨Nat.le_refl _, fun _ _ _ => rfl, Env.refl w, fun _ _ _ _ _ _ => rfl⟩
theorem Mid.drew {L B : Nat} {w w' : World} (h : Mid L B w w') : Mid L B w w'.drew := ⟨h.1, h.2, h.3, h.4⟩
theorem Mid.trans {L B : Nat} {a b c : World} (h : Mid L B a b) (h' : Mid L B b c) : Mid L B a c := ⟨Nat.le_trans h.1 h'.1, fun g hl hg => (h'.2 g (Nat.lt_of_lt_of_le hl h.1) hg).trans (h.2 g hl hg), h.3.trans h'.3, fun g cur T hc h1 h2 => (h'.4 g cur T ((h.4 g cur T hc h1 h2).trans hc) h1 h2).trans (h.4 g cur T hc h1 h2)⟩
theorem Mid.wide {L B B' : Nat} {a b : World} (h : Mid L B a b) (hB : B ≤ B') : Mid L B' a b := ⟨h.1, fun g hl hg => h.2 g hl (hg.imp id fun hg => Nat.le_trans hB hg), h.3, h.4⟩
theorem Mid.of_kb {L B : Nat} {X : List Nat} {w w' : World} (h : KB X w w') (hX : ∀ x ∈ X, L ≤ x ∧ x < B) (h8 : ∀ x ∈ X, ∀ cur T, w.heap[x]? = some (.cells cur T (0, 0)) → T = 67 ∨ T = 23) : Mid L B w w' := ⟨h.1, fun g hl hg => h.2 g hl (fun hm => by have := hX g hm; omega), h.3, fun g cur T hc h1 h2 => h.2 g (lt_of_block hc) (fun hm => (h8 g hm cur T hc).elim h1 h2)⟩
theorem Mid.of_below {L B : Nat} {w w' : World} (h : Below w.heap.size w w') : Mid L B w w' := ⟨h.size, fun g hl _ => h.block g hl, Env.of_below h, fun g cur T hc _ _ => h.block g (lt_of_block hc)⟩
theorem Mid.below {L B : Nat} {w w' : World} (h : Mid L B w w') : Below L w w' ∨ w.heap.size < L := by
 rcases Nat.lt_or_ge w.heap.size L with hl | hl
 ·exact .inr hl
 ·exact .inl ⟨h.3.1, h.3.2.1, h.3.2.2, h.1, fun g hg => h.2 g (by omega) (.inl hg)⟩
theorem Mid.toBelow {L B : Nat} {w w' : World} (h : Mid L B w w') (hl : L ≤ w.heap.size) : Below L w w' := ⟨h.3.1, h.3.2.1, h.3.2.2, h.1, fun g hg => h.2 g (by omega) (.inl hg)⟩
theorem EndM.not8 {w : World} {P M : Nat} {G : Option Nat} {own : Nat → Option (Bool × Nat)} {k : Nat} {s : LE} (h : EndM w P M G own k s) {X : List Nat} (hX : ∀ x ∈ X, x = P ∨ x = M ∨ G = some x) : ∀ x ∈ X, ∀ cur T, w.heap[x]? = some (.cells cur T (0, 0)) → T = 67 ∨ T = 23 := fun x hx cur T hc => by
 obtain ⟨_, _, _, _, _, _, p1, r1, _, ⟨⟨es1, cl1, m1, _⟩, _⟩, _⟩ := h
 rcases hX x hx with rfl | rfl | hg
 ·rw [hc] at p1
  injection p1 with p1
  injection p1 with _ p1
  exact .inl p1
 ·rw [hc] at m1; cases m1
 ·obtain ⟨cur', h⟩ := r1.blk x hg
  rw [hc] at h
  injection h with h
  injection h with _ h
  exact .inr h
theorem EndM.other {w w' : World} {P1 M1 P2 M2 : Nat} {G1 G2 : Option Nat} {own1 own2 : Nat → Option (Bool × Nat)} {k1 k2 : Nat} {s t : LE} {X : List Nat} (h1 : EndM w P1 M1 G1 own1 k1 s) (h2 : EndM w P2 M2 G2 own2 k2 t) (hP : P1 ≠ P2) (hM : M1 ≠ M2) (hG : ∀ g, G1 = some g → G2 ≠ some g)
  (hk : KB X w w') (hX : ∀ x ∈ X, x = P2 ∨ x = M2 ∨ G2 = some x) : EndM w' P1 M1 G1 own1 k1 s := by
 obtain ⟨_, _, _, _, _, _, p1, r1, _, ⟨⟨es1, cl1, m1, _⟩, _⟩, _⟩ := id h1
 obtain ⟨_, _, _, _, _, _, p2, r2, _, ⟨⟨es2, cl2, m2, _⟩, _⟩, _⟩ := id h2
 refine h1.keepT hk.1 fun g hl hc => hk.2 g hl fun hm => ?_
 rcases hX g hm with rfl | rfl | hx
 ·rcases hc with rfl | rfl | hc | ⟨cur, hc⟩
  ·exact hP rfl
  ·rw [p2] at m1; cases m1
  ·obtain ⟨cur, h⟩ := r1.blk g hc
   exact row_ne h p2 (by decide) rfl
  ·exact row_ne hc p2 (by decide) rfl
 ·rcases hc with rfl | rfl | hc | ⟨cur, hc⟩
  ·rw [p1] at m2; cases m2
  ·exact hM rfl
  ·obtain ⟨cur, h⟩ := r1.blk g hc
   rw [h] at m2; cases m2
  ·rw [hc] at m2; cases m2
 ·obtain ⟨cur2, h2c⟩ := r2.blk g hx
  rcases hc with rfl | rfl | hc | ⟨cur, hc⟩
  ·exact row_ne h2c p1 (by decide) rfl
  ·rw [h2c] at m1; cases m1
  ·exact hG g hc hx
  ·exact row_ne hc h2c (by decide) rfl
theorem Two.symm {w : World} {L B n P1 P2 : Nat} {s t : LE} (h : Two w L B n P1 P2 s t) : Two w L B n P2 P1 t s := by
 obtain ⟨M1, G1, own1, k1, M2, G2, own2, k2, h1, h2, h3, h4, h5, h6, h7, h8⟩ := h
 exact ⟨M2, G2, own2, k2, M1, G1, own1, k1, h2, h1, Ne.symm h3, Ne.symm h4, fun g e1 e2 => h5 g e2 e1, h7, h6, fun g hg => h8 g (by rcases hg with h | h | h | h | h | h <;> simp [h])⟩
theorem Two.mono {w : World} {L B B' n n' P1 P2 : Nat} {s t : LE} (h : Two w L B n P1 P2 s t) (hB : B ≤ B') (hn : n ≤ n') : Two w L B' n' P1 P2 s t := by
 obtain ⟨M1, G1, own1, k1, M2, G2, own2, k2, h1, h2, h3, h4, h5, h6, h7, h8⟩ := h
 exact ⟨M1, G1, own1, k1, M2, G2, own2, k2, h1, h2, h3, h4, h5, Nat.le_trans h6 hn, Nat.le_trans h7 hn, fun g hg => ⟨(h8 g hg).1, Nat.lt_of_lt_of_le (h8 g hg).2 hB⟩⟩
theorem Two.next {w w' : World} {L B n P1 P2 : Nat} {s t : LE} (h : Two w L B n P1 P2 s t) (hb : Below w.heap.size w w') : Two w' L B n P1 P2 s t := by
 obtain ⟨M1, G1, own1, k1, M2, G2, own2, k2, h1, h2, h3⟩ := h
 exact ⟨M1, G1, own1, k1, M2, G2, own2, k2, h1.next hb, h2.next hb, h3⟩
theorem Two.ok1 {w : World} {L B n P1 P2 : Nat} {s t : LE} (h : Two w L B n P1 P2 s t) : LEok s := by
 obtain ⟨M1, G1, own1, k1, M2, G2, own2, k2, h1, h2, h3⟩ := h
 exact h1.1
theorem Two.ok2 {w : World} {L B n P1 P2 : Nat} {s t : LE} (h : Two w L B n P1 P2 s t) : LEok t := h.symm.ok1
theorem Two.low {w : World} {L B n P1 P2 : Nat} {s t : LE} (h : Two w L B n P1 P2 s t) : L < w.heap.size := by
 obtain ⟨M1, G1, own1, k1, M2, G2, own2, k2, h1, h2, h3, h4, h5, h6, h7, h8⟩ := h
 obtain ⟨A, c, q, -⟩ := h1.row
 have := lt_of_block q
 have := (h8 P1 (.inl rfl)).1
 omega
theorem Two.opened {w0 w1 w2 : World} {a b P1 M1 P2 M2 : Nat} (h1 : EndM w1 P1 M1 none (fun _ => none) 0 (openL a)) (hp : w0.heap.size ≤ P1) (hm : w0.heap.size ≤ M1) (h2 : EndM w2 P2 M2 none (fun _ => none) 0 (openL b)) (hp2 : w1.heap.size ≤ P2) (hm2 : w1.heap.size ≤ M2) (hb : Below w1.heap.size w1 w2) : Two w2 w0.heap.size w2.heap.size 0 P1 P2 (openL a) (openL b) := by
 have e1 := h1.next hb
 obtain ⟨A, c, q1, -⟩ := h1.row
 obtain ⟨_, _, _, _, _, _, _, _, _, ⟨⟨es1, cl1, m1, _⟩, _⟩, _⟩ := id h1
 have lp1 := lt_of_block q1
 have lm1 := lt_of_block m1
 obtain ⟨A2, c2, q2, -⟩ := h2.row
 obtain ⟨_, _, _, _, _, _, _, _, _, ⟨⟨es2, cl2, m2, _⟩, _⟩, _⟩ := id h2
 have lp2 := lt_of_block q2
 have lm2 := lt_of_block m2
 have hs := hb.size
 refine ⟨M1, none, _, 0, M2, none, _, 0, e1, h2, by omega, by omega, fun g e => (by cases e), Nat.le_refl _, Nat.le_refl _, fun g hg => ?_⟩
 rcases hg with rfl | rfl | hg | rfl | rfl | hg
 ·omega
 ·omega
 ·cases hg
 ·omega
 ·omega
 ·cases hg
def RdRows (w : World) (v : Value) (fs : List BL) : Prop :=
 ∃ A c, v = .slice A fs.length c ∧ ∀ i f, fs[i]? = some f → ∃ g off Af cf, A = some ⟨g, off, none⟩ ∧ g < w.heap.size ∧ w.cell? ⟨g, off + i, none⟩ = some (.slice Af f.length cf) ∧ Rd w w.heap.size Af (u8s f) ∧ (f ≠ [] → f.length ≤ cf ∧ cf ≤ 9223372036854775807)
theorem RdRows.next {w w' : World} {v : Value} {fs : List BL} (h : RdRows w v fs) (hb : Below w.heap.size w w') : RdRows w' v fs := by
 obtain ⟨A, c, h1, h2⟩ := h
 refine ⟨A, c, h1, fun i f hf => ?_⟩
 obtain ⟨g, off, Af, cf, e1, e2, e3, e4, e5⟩ := h2 i f hf
 exact ⟨g, off, Af, cf, e1, Nat.lt_of_lt_of_le e2 hb.size, (hb.cell e2).trans e3, (e4.below hb).more hb.size, e5⟩
def FRw (w : World) (B : Nat) (v : Value) (fs : List BL) : Prop := ∃ own tg, BRows B w own tg v fs
theorem ByV.rd {w : World} {own : Nat → Option (Bool × Nat)} {tg : Bool × Nat} {v : Value} {b : BL} (h : ByV w own tg v b) : ∃ A c, v = .slice A b.length c ∧ Rd w w.heap.size A (u8s b) ∧ (b ≠ [] → b.length ≤ c ∧ c ≤ 9223372036854775807) := by
 have hr := h.row
 obtain ⟨⟨A, c, rfl⟩, h2⟩ := h
 refine ⟨A, c, rfl, hr, fun hb => ?_⟩
 obtain ⟨⟨h3, h4⟩, _⟩ := h2 hb
 have hl : 0 < b.length := List.length_pos_iff.2 hb
 rcases h4 with ⟨h0, _⟩ | ⟨g, cap, cur, hv, hg, hc, hn, hm, hs, _⟩
 ·injection h0 with _ h0 _
  omega
 ·injection hv with _ _ hv
  subst hv
  unfold maxLen at hm
  exact ⟨hn, hm⟩
theorem BRows.rd {B : Nat} {w : World} {own : Nat → Option (Bool × Nat)} {tg : Nat → Bool × Nat} {v : Value} {fs : List BL} (h : BRows B w own tg v fs) : RdRows w v fs := by
 obtain ⟨A, c, vs, rfl, h2, h3, h4⟩ := h
 refine ⟨A, c, rfl, fun i f hf => ?_⟩
 have hlf := (List.getElem?_eq_some_iff.1 hf).1
 obtain ⟨hlen, hh⟩ := h2
 obtain ⟨u, hu⟩ : ∃ u, vs[i]? = some u := ⟨_, List.getElem?_eq_getElem (by omega)⟩
 obtain ⟨Af, cf, rfl, hr, hc⟩ := (h3 i u f hu hf).rd
 rcases hh with ⟨_, h0⟩ | ⟨g, cap, cur, hv, hg, hcg, hn, hm, hs, ht⟩
 ·omega
 ·injection hv with hA _ hv
  refine ⟨g, 0, Af, cf, hA, lt_of_block hcg, ?_, hr, hc⟩
  rw [cell_of_row w g _ cur _ _ hcg, Nat.zero_add]
  rw [← ht, List.getElem?_take, if_pos (by omega)] at hu
  simpa using hu
theorem FRw.rd {w : World} {B : Nat} {v : Value} {fs : List BL} (h : FRw w B v fs) : RdRows w v fs := by
 obtain ⟨own, tg, h1⟩ := h
 exact h1.rd
theorem FRw.mid {w w' : World} {L B B' : Nat} {v : Value} {fs : List BL} (h : FRw w B v fs) (hm : Mid L B' w w') (hB : B' ≤ B) : FRw w' B v fs := by
 obtain ⟨own, tg, ⟨A, c, vs, h1, h2, h3, h4⟩⟩ := h
 refine ⟨own, tg, ⟨A, c, vs, h1, own_same h2 fun g hg => ?_, fun i u b hu hb => (h3 i u b hu hb).keep fun g cur hg hc => ⟨hm.oth g cur _ hc (by decide) (by decide), hg⟩, h4⟩⟩
 have := h2.lt g hg
 exact hm.2 g this.2 (.inr (by omega))
theorem FRw.next {w w' : World} {B : Nat} {v : Value} {fs : List BL} (h : FRw w B v fs) (hb : Below w.heap.size w w') : FRw w' B v fs := h.mid (L := 0) (B' := B) (Mid.of_below hb) (Nat.le_refl _)
def HearT (w : World) (L B n P1 P2 : Nat) (s t : LE) (f : BL) (e : Ending) (w' : World) : Prop :=
 ∃ v, e = .returned (.tuple #[v, .int .i64 (hearL t f).1]) ∧ Two w' L B (n + 1) P1 P2 s (hearL t f).2.2 ∧ FRw w' w.heap.size v (hearL t f).2.1 ∧ Mid L B w w'
theorem two_hear {w : World} {L B n P1 P2 : Nat} {s t : LE} (h : Two w L B n P1 P2 s t) (A : Option Addr) (f : BL) (c : Nat) (hR : Rd w w.heap.size A (u8s f)) (hf : f.length ≤ 3000000) (hlc : f.length ≤ c) (hc : c ≤ 9223372036854775807) (hn : n < 1000000) (hh : t.heard + 65 ≤ 1000000) :
  Calls Try.prog 12 #[.pointer (some ⟨P2, 0, none⟩), .slice A f.length c] w (HearT w L B n P1 P2 s t f) := by
 obtain ⟨M1, G1, own1, k1, M2, G2, own2, k2, h1, h2, h3, h4, h5, h6, h7, h8⟩ := h
 refine (hear_any w h2 A f c hR hf hlc hc (by omega) hh).mono ?_
 rintro e w' ⟨v, own', rfl, hE, hB, hk, ho⟩
 have hX : ∀ x ∈ P2 :: M2 :: G2.toList, x = P2 ∨ x = M2 ∨ G2 = some x := fun x hx => by
  rcases List.mem_cons.1 hx with rfl | hx
  ·exact .inl rfl
  ·rcases List.mem_cons.1 hx with rfl | hx
   ·exact .inr (.inl rfl)
   ·exact .inr (.inr (in_O hx))
 exact ⟨v, rfl, ⟨M1, G1, own1, k1, M2, G2, own', k2 + 1, h1.other h2 h3 h4 h5 hk hX, hE, h3, h4, h5, by omega, by omega, h8⟩, ⟨own', _, hB⟩, Mid.of_kb hk (fun x hx => h8 x (by rcases hX x hx with h | h | h <;> simp [h])) (h2.not8 hX)⟩
def SendT (w : World) (L P1 P2 n : Nat) (s t : LE) (b : BL) (B : Nat) (e : Ending) (w' : World) : Prop :=
 e = .returned (.int .i64 (sendL s b).1) ∧ Two w' L w'.heap.size n P1 P2 (sendL s b).2 t ∧ Mid L B w w'
theorem two_send {w : World} {L B n P1 P2 : Nat} {s t : LE} (h : Two w L B n P1 P2 s t) (hBw : B ≤ w.heap.size) (A : Option Addr) (b : BL) (c : Nat) (hR : Rd w w.heap.size A (u8s b)) (hb : b.length ≤ 100000000) (hn : s.next < 1000000) :
  Calls Try.prog 10 #[.pointer (some ⟨P1, 0, none⟩), .slice A b.length c] w (SendT w L P1 P2 n s t b B) := by
 obtain ⟨M1, G1, own1, k1, M2, G2, own2, k2, h1, h2, h3, h4, h5, h6, h7, h8⟩ := h
 refine (send_any w h1 A b c hR hb hn).mono ?_
 rintro e w' ⟨rfl, G', own', hE, hk, hG, ho⟩
 have hX : ∀ x ∈ P1 :: G1.toList, x = P1 ∨ x = M1 ∨ G1 = some x := fun x hx => by
  rcases List.mem_cons.1 hx with rfl | hx
  ·exact .inl rfl
  ·exact .inr (.inr (in_O hx))
 have hGn : ∀ g, G' = some g → G1 = some g ∨ w.heap.size ≤ g := fun g hg => by
  rcases hG with rfl | ⟨g', rfl, hl⟩
  ·exact .inl hg
  ·injection hg with hg
   subst hg
   exact .inr hl
 have hlL : L < w.heap.size := by
  have := (h8 P1 (.inl rfl))
  omega
 have hs := hk.1
 have hGlt : ∀ g, G' = some g → g < w'.heap.size := fun g hg => by
  obtain ⟨_, _, _, _, _, _, _, r, _⟩ := hE
  obtain ⟨cur, hc⟩ := r.blk g hg
  exact lt_of_block hc
 refine ⟨rfl, ⟨M1, G', own', k1, M2, G2, own2, k2, hE, h2.other h1 (Ne.symm h3) (Ne.symm h4) (fun g e1 e2 => h5 g e2 e1) hk hX, h3, h4, fun g hg hg2 => ?_, h6, h7, fun g hg => ?_⟩, Mid.of_kb hk (fun x hx => h8 x (by rcases hX x hx with h | h | h <;> simp [h])) (h1.not8 hX)⟩
 ·rcases hGn g hg with h | h
  ·exact h5 g h hg2
  ·have := h8 g (by simp [hg2])
   omega
 ·rcases hg with hg | hg | hg | hg
  ·have := h8 g (by simp [hg]); omega
  ·have := h8 g (by simp [hg]); omega
  ·rcases hGn g hg with h | h
   ·have := h8 g (by simp [h]); omega
   ·have := hGlt g hg; omega
  ·have := h8 g (by simp [hg]); omega
def FromT (w : World) (L B n P1 P2 : Nat) (s t : LE) (m : Nat) (ack : Bool) (e : Ending) (w' : World) : Prop :=
 ∃ v, e = .returned v ∧ FRw w' w.heap.size v (fromL s m ack).1 ∧ Two w' L B n P1 P2 (fromL s m ack).2 t ∧ Mid L B w w'
theorem two_from {w : World} {L B n P1 P2 : Nat} {s t : LE} (h : Two w L B n P1 P2 s t) (m : Nat) (ack : Bool) {F : Nat} {args : Array Value} (hc : ∀ M G own k, EndM w P1 M G own k s → Calls Try.prog F args w (FromPost w P1 M G own k s m ack)) : Calls Try.prog F args w (FromT w L B n P1 P2 s t m ack) := by
 obtain ⟨M1, G1, own1, k1, M2, G2, own2, k2, h1, h2, h3, h4, h5, h6, h7, h8⟩ := h
 refine (hc M1 G1 own1 k1 h1).mono ?_
 rintro e w' ⟨v, own3, rfl, hB, ho, hE, hk⟩
 exact ⟨v, rfl, ⟨own3, _, hB⟩, ⟨M1, G1, own1, k1, M2, G2, own2, k2, hE, h2.other h1 (Ne.symm h3) (Ne.symm h4) (fun g e1 e2 => h5 g e2 e1) hk (by simp), h3, h4, h5, h6, h7, h8⟩, Mid.of_kb hk (fun x hx => h8 x (by simp at hx; simp [hx])) (h1.not8 (by simp))⟩
theorem two_out {w : World} {L B n P1 P2 : Nat} {s t : LE} (h : Two w L B n P1 P2 s t) : Calls Try.prog 11 #[.pointer (some ⟨P1, 0, none⟩)] w (FromT w L B n P1 P2 s t s.fresh s.owes) := two_from h _ _ fun M G own k hE => lout_any w hE
theorem two_again {w : World} {L B n P1 P2 : Nat} {s t : LE} (h : Two w L B n P1 P2 s t) : Calls Try.prog 16 #[.pointer (some ⟨P1, 0, none⟩)] w (FromT w L B n P1 P2 s t s.first true) := two_from h _ _ fun M G own k hE => lagain_any w hE
theorem two_waits {w : World} {L B n P1 P2 : Nat} {s t : LE} (h : Two w L B n P1 P2 s t) : Calls Try.prog 13 #[.pointer (some ⟨P1, 0, none⟩)] w fun e w' => e = .returned (.int .i64 s.sent.length) ∧ w' = w := by
 obtain ⟨M1, G1, own1, k1, M2, G2, own2, k2, h1, _⟩ := h
 exact lwaits_any h1
theorem two_heard {w : World} {L B n P1 P2 : Nat} {s t : LE} (h : Two w L B n P1 P2 s t) : Calls Try.prog 14 #[.pointer (some ⟨P1, 0, none⟩)] w fun e w' => e = .returned (.int .i64 s.heard) ∧ w' = w := by
 obtain ⟨M1, G1, own1, k1, M2, G2, own2, k2, h1, _⟩ := h
 exact lheard_any h1
theorem two_next {w : World} {L B n P1 P2 : Nat} {s t : LE} (h : Two w L B n P1 P2 s t) : Calls Try.prog 15 #[.pointer (some ⟨P1, 0, none⟩)] w fun e w' => e = .returned (.int .i64 s.next) ∧ w' = w := by
 obtain ⟨M1, G1, own1, k1, M2, G2, own2, k2, h1, _⟩ := h
 exact lnext_any h1
theorem two_epoch {w : World} {L B n P1 P2 : Nat} {s t : LE} (h : Two w L B n P1 P2 s t) : Calls Try.prog 26 #[.pointer (some ⟨P1, 0, none⟩)] w fun e w' => e = .returned (.int .i64 s.ep) ∧ w' = w := by
 obtain ⟨M1, G1, own1, k1, M2, G2, own2, k2, h1, _⟩ := h
 exact lepoch_any h1
end Go.Proofs.Ytigmmikijjcdiaa
namespace Go.Proofs.Ytigmmikijjcdiaa
structure Dir (x y : LE) (p g : List BL) : Prop where
 next : x.next = p.length + 1
 slen : x.sent.length ≤ p.length
 sent : x.sent = p.drop (p.length - x.sent.length)
 heard : y.heard = g.length
 glen : g.length ≤ p.length
 got : g = p.take g.length
 ahead : ∀ n b, y.ahead n = some b → p[n - 1]? = some b
 acked : x.first ≤ y.heard + 1
theorem Dir.open_ (a b : Nat) : Dir (openL a) (openL b) [] [] := ⟨rfl, Nat.le_refl _, rfl, rfl, Nat.le_refl _, rfl, fun n b h => by simp [openL] at h, by simp [openL, LE.first]⟩
theorem Dir.first {x y : LE} {p g : List BL} (h : Dir x y p g) : x.first + x.sent.length = p.length + 1 := by
 have := h.next
 have := h.slen
 unfold LE.first
 omega
def RdF (ep hx : Nat) (p : List BL) (f : BL) : Prop := ∃ h n b, readL f = some (ep, h, n, b) ∧ h ≤ hx ∧ (n = 0 ∨ (1 ≤ n ∧ p[n - 1]? = some b))
theorem RdF.more {ep hx hx' : Nat} {p q : List BL} {f : BL} (h : RdF ep hx p f) (hh : hx ≤ hx') : RdF ep hx' (p ++ q) f := by
 obtain ⟨h1, n, b, e1, e2, e3⟩ := h
 refine ⟨h1, n, b, e1, Nat.le_trans e2 hh, e3.imp id fun ⟨q1, q2⟩ => ⟨q1, ?_⟩⟩
 have hl := (List.getElem?_eq_some_iff.1 q2).1
 rw [List.getElem?_append_left hl]
 exact q2
theorem tell_dir {p : List BL} : ∀ (k : Nat) (s : LE), s.heard ≤ p.length → (∀ n b, s.ahead n = some b → p[n - 1]? = some b) →
  ∃ j, (tellL k s).1 = (p.drop s.heard).take j ∧ (tellL k s).1.length = j ∧ (tellL k s).2.heard = s.heard + j ∧ s.heard + j ≤ p.length ∧ (∀ n b, (tellL k s).2.ahead n = some b → s.ahead n = some b) ∧ (tellL k s).2.ep = s.ep ∧ (tellL k s).2.sent = s.sent ∧ (tellL k s).2.next = s.next ∧ (tellL k s).2.fresh = s.fresh ∧ (tellL k s).2.owes = s.owes
 | 0, s, hs, ha => ⟨0, rfl, rfl, rfl, hs, fun n b h => h, rfl, rfl, rfl, rfl, rfl⟩
 | k + 1, s, hs, ha => by
  rcases hb : s.ahead (s.heard + 1) with _ | b
  ·have e : tellL (k + 1) s = ([], s) := by rw [tellL, hb]
   rw [e]
   exact ⟨0, rfl, rfl, rfl, hs, fun n b h => h, rfl, rfl, rfl, rfl, rfl⟩
  ·have e : tellL (k + 1) s = (b :: (tellL k { s with heard := s.heard + 1, ahead := fun n => if n = s.heard + 1 then none else s.ahead n }).1, (tellL k { s with heard := s.heard + 1, ahead := fun n => if n = s.heard + 1 then none else s.ahead n }).2) := by rw [tellL, hb]
   have hpb := ha _ _ hb
   have hl := (List.getElem?_eq_some_iff.1 hpb).1
   rw [Nat.add_sub_cancel] at hpb hl
   obtain ⟨j, h1, h2, h3, h4, h5, h6⟩ := tell_dir (p := p) k { s with heard := s.heard + 1, ahead := fun n => if n = s.heard + 1 then none else s.ahead n } (by dsimp only; omega) (fun n b hn => by
    dsimp only at hn
    split at hn
    ·cases hn
    ·exact ha n b hn)
   rw [e]
   dsimp only at h1 h3 h4 h5 ⊢
   have hd : p.drop s.heard = b :: p.drop (s.heard + 1) := by
    rw [List.drop_eq_getElem_cons hl]
    rw [List.getElem?_eq_getElem hl] at hpb
    injection hpb with hpb
    rw [hpb]
   refine ⟨j + 1, by rw [hd, List.take_succ_cons, h1], by simp [h2], by omega, by omega, fun n b hn => ?_, h6⟩
   have := h5 n b hn
   split at this
   ·cases this
   ·exact this
theorem tell_some {k : Nat} {s : LE} (h : s.ahead (s.heard + 1) ≠ none) : s.heard + 1 ≤ (tellL (k + 1) s).2.heard := by
 have hm : ∀ k (s : LE), s.heard ≤ (tellL k s).2.heard := fun k => by
  induction k with
  | zero => intro s; exact Nat.le_refl _
  | succ k ih =>
   intro s
   rw [tellL]
   split
   ·exact Nat.le_refl _
   ·have := ih { s with heard := s.heard + 1, ahead := fun n => if n = s.heard + 1 then none else s.ahead n }
    dsimp only at this ⊢
    omega
 rcases hb : s.ahead (s.heard + 1) with _ | b
 ·exact absurd hb h
 ·rw [tellL, hb]
  exact hm k { s with heard := s.heard + 1, ahead := fun n => if n = s.heard + 1 then none else s.ahead n }
theorem ackL_dir {x y : LE} {q r : List BL} {h : Nat} (hd : Dir y x q r) (hh : h ≤ x.heard) : Dir (ackL y h) x q r := by
 unfold ackL
 by_cases hc : y.first ≤ h
 ·rw [if_pos hc]
  have h1 := hd.next
  have h2 := hd.slen
  have h3 := hd.sent
  have hf := hd.first
  have h4 := hd.glen
  have h5 := hd.heard
  have hl : (y.sent.drop (h + 1 - y.first)).length = y.sent.length - (h + 1 - y.first) := List.length_drop
  refine ⟨h1, by dsimp only; omega, ?_, hd.heard, hd.glen, hd.got, hd.ahead, ?_⟩
  ·dsimp only
   rw [hl]
   conv => lhs; rw [h3]
   rw [List.drop_drop]
   congr 1
   omega
  ·show y.next - (y.sent.drop (h + 1 - y.first)).length ≤ x.heard + 1
   rw [hl]
   omega
 ·rw [if_neg hc]
  exact hd
theorem ackL_back {x y : LE} {p g : List BL} {h : Nat} (hd : Dir x y p g) : Dir x (ackL y h) p g := by
 obtain ⟨a1, a2, a3, a4, a5⟩ := ackL_eqs y h
 exact ⟨hd.next, hd.slen, hd.sent, by rw [a3]; exact hd.heard, hd.glen, hd.got, by rw [a5]; exact hd.ahead, by rw [a3]; exact hd.acked⟩
theorem Dir.same {x y y' : LE} {q r : List BL} (hd : Dir y x q r) (h1 : y'.sent = y.sent) (h2 : y'.next = y.next) : Dir y' x q r := by
 have hf : y'.first = y.first := by unfold LE.first; rw [h1, h2]
 exact ⟨by rw [h2]; exact hd.next, by rw [h1]; exact hd.slen, by rw [h1]; exact hd.sent, hd.heard, hd.glen, hd.got, hd.ahead, by rw [hf]; exact hd.acked⟩
theorem putL_eqs (s : LE) (n : Nat) (b : BL) : (putL s n b).ep = s.ep ∧ (putL s n b).sent = s.sent ∧ (putL s n b).next = s.next ∧ (putL s n b).heard = s.heard ∧ (putL s n b).owes = true ∧ (putL s n b).fresh = s.fresh := by
 unfold putL
 split <;> exact ⟨rfl, rfl, rfl, rfl, rfl, rfl⟩
theorem putL_ahead {s : LE} {n m : Nat} {b c : BL} (h : (putL s n b).ahead m = some c) : s.ahead m = some c ∨ (m = n ∧ c = b) := by
 unfold putL at h
 split at h
 ·dsimp only at h
  split at h
  ·rename_i e
   injection h with h
   exact .inr ⟨e, h.symm⟩
  ·exact .inl h
 ·exact .inl h
structure HearD (x y : LE) (p q g r : List BL) (f : BL) : Prop where
 code : (hearL y f).1 = 0
 told : ∃ j, (hearL y f).2.1 = (p.drop g.length).take j ∧ (hearL y f).2.1.length = j
 fwd : Dir x (hearL y f).2.2 p (g ++ (hearL y f).2.1)
 bwd : Dir (hearL y f).2.2 x q r
 ep : (hearL y f).2.2.ep = y.ep
theorem hear_dir {x y : LE} {p q g r : List BL} (h1 : Dir x y p g) (h2 : Dir y x q r) {f : BL} (hf : RdF y.ep x.heard p f) : HearD x y p q g r f := by
 obtain ⟨h, n, b, hq, hh, hn⟩ := hf
 have hB : h < y.next := by have := h2.next; have := h2.heard; have := h2.glen; omega
 have hA := ackL_dir h2 hh
 have hA2 := ackL_back (h := h) h1
 obtain ⟨a1, a2, a3, a4, a5⟩ := ackL_eqs y h
 rcases hn with rfl | ⟨hn1, hn2⟩
 ·have hc : hearL y f = (0, [], ackL y h) := by
   unfold hearL
   rw [hq]
   dsimp only
   rw [if_neg (by simp), if_neg (by omega), if_pos rfl]
  refine ⟨by rw [hc], ⟨0, by rw [hc]; rfl, by rw [hc]; rfl⟩, by rw [hc]; simpa using hA2, by rw [hc]; exact hA, by rw [hc]; exact a1⟩
 ·have hc := hearL_ok hq hB (by omega)
  obtain ⟨b1, b2, b3, b4, b5, b6⟩ := putL_eqs (ackL y h) n b
  obtain ⟨j, t1, t2, t3, t4, t5, t6, t7, t8, t9, t10⟩ := tell_dir (p := p) 65 (putL (ackL y h) n b) (by rw [b4, a3, h1.heard]; exact h1.glen) (fun m c hm => by
   rcases putL_ahead hm with h | ⟨rfl, rfl⟩
   ·rw [a5] at h
    exact h1.ahead m c h
   ·exact hn2)
  rw [b4, a3, h1.heard] at t1 t3 t4
  have hgl : (g ++ (p.drop g.length).take j) = p.take (g.length + j) := by
   rw [List.take_add]
   congr 1
   exact h1.got
  have ht2 : ((p.drop g.length).take j).length = j := by rw [← t1]; exact t2
  refine ⟨by rw [hc], ⟨j, by rw [hc]; exact t1, by rw [hc]; exact t2⟩, ?_, ?_, by rw [hc]; dsimp only; rw [t6, b1, a1]⟩
  ·rw [hc]
   dsimp only
   rw [t1]
   refine ⟨h1.next, h1.slen, h1.sent, by rw [t3, List.length_append, ht2], by rw [List.length_append, ht2]; exact t4, by rw [List.length_append, ht2]; exact hgl, fun m c hm => ?_, by rw [t3]; have := h1.acked; have := h1.heard; omega⟩
   rcases putL_ahead (t5 m c hm) with h | ⟨rfl, rfl⟩
   ·rw [a5] at h
    exact h1.ahead m c h
   ·exact hn2
  ·rw [hc]
   dsimp only
   exact hA.same (by rw [t7, b2]) (by rw [t8, b3])
theorem hear_other {y : LE} {f : BL} (h : readL f = none ∨ ∃ ep h n b, readL f = some (ep, h, n, b) ∧ ep ≠ y.ep) : (hearL y f).1 ≠ 0 ∧ (hearL y f).2 = ([], y) := by
 unfold hearL
 rcases h with h | ⟨ep, h', n, b, h, he⟩
 ·rw [h]
  exact ⟨by show (150 : Int) ≠ 0; decide, rfl⟩
 ·rw [h]
  dsimp only
  rw [if_pos he]
  exact ⟨by show (4 : Int) ≠ 0; decide, rfl⟩
theorem hear_upto {x y : LE} {p q g r : List BL} (h1 : Dir x y p g) (h2 : Dir y x q r) {f : BL} {h n : Nat} {b : BL} (hq : readL f = some (y.ep, h, n, b)) (hh : h ≤ x.heard) (hn : 1 ≤ n) (hnh : n ≤ y.heard + 1) : n ≤ (hearL y f).2.2.heard := by
 have hB : h < y.next := by have := h2.next; have := h2.heard; have := h2.glen; omega
 have hc := hearL_ok hq hB (by omega)
 obtain ⟨a1, a2, a3, a4, a5⟩ := ackL_eqs y h
 obtain ⟨b1, b2, b3, b4, b5, b6⟩ := putL_eqs (ackL y h) n b
 rw [hc]
 dsimp only
 rcases Nat.lt_or_ge y.heard n with hl | hl
 ·have hne : n = y.heard + 1 := by omega
  have := tell_some (k := 64) (s := putL (ackL y h) n b) (by
   rw [b4, a3, ← hne]
   unfold putL
   by_cases hc2 : (ackL y h).heard < n ∧ n ≤ (ackL y h).heard + 64 ∧ (ackL y h).ahead n = none
   ·rw [if_pos hc2]
    simp
   ·rw [if_neg hc2]
    intro e
    exact hc2 ⟨by rw [a3]; omega, by rw [a3]; omega, e⟩)
  rw [b4, a3] at this
  show n ≤ (tellL (64 + 1) (putL (ackL y h) n b)).2.heard
  omega
 ·have hm : ∀ k (s : LE), s.heard ≤ (tellL k s).2.heard := fun k => by
   induction k with
   | zero => intro s; exact Nat.le_refl _
   | succ k ih =>
    intro s
    rw [tellL]
    split
    ·exact Nat.le_refl _
    ·have := ih { s with heard := s.heard + 1, ahead := fun n => if n = s.heard + 1 then none else s.ahead n }
     dsimp only at this ⊢
     omega
  have := hm 65 (putL (ackL y h) n b)
  rw [b4, a3] at this
  omega
theorem send_dir {x y : LE} {p g : List BL} (h : Dir x y p g) (b : BL) (hb : b.length ≤ 1048576) (hn : x.next < mostL) : ((sendL x b).1 = 0 ∧ Dir (sendL x b).2 y (p ++ [b]) g) ∨ ((sendL x b).1 = 161 ∧ 64 ≤ x.sent.length ∧ (sendL x b).2 = x) := by
 unfold sendL
 rw [if_neg (by omega)]
 by_cases hf : 64 ≤ x.sent.length
 ·rw [if_pos hf]
  exact .inr ⟨rfl, hf, rfl⟩
 ·rw [if_neg hf]
  refine .inl ⟨rfl, ?_⟩
  have h1 := h.next
  have h2 := h.slen
  refine ⟨by simp [h1], by simp; exact h2, ?_, h.heard, by have := h.glen; simp; omega, ?_, fun n c hc => ?_, ?_⟩
  ·dsimp only
   rw [List.length_append, List.length_append, List.length_singleton, show p.length + 1 - (x.sent.length + 1) = p.length - x.sent.length by omega, List.drop_append_of_le_length (by omega), ← h.sent]
  ·rw [List.take_append_of_le_length h.glen]
   exact h.got
  ·have := h.ahead n c hc
   rw [List.getElem?_append_left (List.getElem?_eq_some_iff.1 this).1]
   exact this
  ·have := h.acked
   have := h.first
   unfold LE.first at *
   simp
   omega
theorem send_back {x y : LE} {q r : List BL} (h : Dir y x q r) (b : BL) : Dir y (sendL x b).2 q r := by
 unfold sendL
 split
 ·exact h
 ·split
  ·exact h
  ·exact ⟨h.next, h.slen, h.sent, h.heard, h.glen, h.got, h.ahead, h.acked⟩
theorem from_dir {x y : LE} {p g : List BL} (h : Dir x y p g) (m : Nat) (ack : Bool) : Dir (fromL x m ack).2 y p g := h.same rfl rfl
theorem from_back {x y : LE} {q r : List BL} (h : Dir y x q r) (m : Nat) (ack : Bool) : Dir y (fromL x m ack).2 q r := ⟨h.next, h.slen, h.sent, h.heard, h.glen, h.got, h.ahead, h.acked⟩
theorem from_frame {x y : LE} {p g : List BL} (h : Dir x y p g) (hok : LEok x) {m : Nat} (hm : x.first ≤ m) {ack : Bool} {f : BL} {i : Nat} (hf : (fromL x m ack).1[i]? = some f) :
  (f = fr 2 [] [x.ep, x.heard] ∧ readL f = some (x.ep, x.heard, 0, []) ∧ x.next ≤ m) ∨ ∃ b, f = fr 1 b [x.ep, x.heard, m + i] ∧ readL f = some (x.ep, x.heard, m + i, b) ∧ m + i < x.next ∧ 1 ≤ m + i ∧ p[m + i - 1]? = some b ∧ b.length ≤ 1048576 := by
 have hme : x.heard ≤ mostL := by have := hok.heard; unfold mostL; omega
 have hff := h.first
 have hsl := hok.first
 have hnx := h.next
 have h1 : 1 ≤ x.first := by unfold LE.first; omega
 have hcase : (fromL x m ack).1 = if (framesL x m).isEmpty && ack then [fr 2 [] [x.ep, x.heard]] else framesL x m := rfl
 rw [hcase] at hf
 split at hf
 ·rename_i he
  have hfe : f = fr 2 [] [x.ep, x.heard] := by
   rcases i with _ | i
   ·simpa using hf.symm
   ·simp at hf
  refine .inl ⟨hfe, by rw [hfe]; exact read_ack hok.ep hme, ?_⟩
  rw [Bool.and_eq_true, List.isEmpty_iff] at he
  have hl := congrArg List.length he.1
  unfold framesL at hl
  rw [List.length_map, List.length_range'] at hl
  simp at hl
  omega
 ·right
  unfold framesL at hf
  rw [List.getElem?_map, Option.map_eq_some_iff] at hf
  obtain ⟨k, hk, rfl⟩ := hf
  have hlt : i < x.next - m := by
   have := (List.getElem?_eq_some_iff.1 hk).1
   rwa [List.length_range'] at this
  rw [List.getElem?_range' hlt, Nat.one_mul] at hk
  injection hk with hk
  subst hk
  obtain ⟨b, hb⟩ : ∃ b, x.sent[m + i - x.first]? = some b := ⟨_, List.getElem?_eq_getElem (by omega)⟩
  have hgb : x.sent.getD (m + i - x.first) [] = b := by rw [List.getD_eq_getElem?_getD, hb]; rfl
  have hbl := hok.bytes b (List.mem_of_getElem? hb)
  have hpb : p[m + i - 1]? = some b := by
   have hs := h.sent
   rw [hs, List.getElem?_drop] at hb
   rw [← hb]
   congr 1
   omega
  have hnm : m + i ≤ mostL := by have := hok.next; unfold mostL; omega
  exact ⟨b, by rw [hgb], by rw [hgb]; exact read_msg hok.ep hme (by omega) hnm hbl, by omega, by omega, hpb, hbl⟩
theorem from_rdf {x y : LE} {p g : List BL} (h : Dir x y p g) (hok : LEok x) {m : Nat} (hm : x.first ≤ m) {ack : Bool} {f : BL} {i : Nat} (hf : (fromL x m ack).1[i]? = some f) : RdF x.ep x.heard p f := by
 rcases from_frame h hok hm hf with ⟨_, h1, _⟩ | ⟨b, _, h1, _, h2, h3, _⟩
 ·exact ⟨_, _, _, h1, Nat.le_refl _, .inl rfl⟩
 ·exact ⟨_, _, _, h1, Nat.le_refl _, .inr ⟨h2, h3⟩⟩
end Go.Proofs.Ytigmmikijjcdiaa
namespace Go.Proofs.Ytigmmikijjcdiaa
open Go.RowKit
def zA1 : LE := (sendL (openL 7) [97]).2
def zA2 : LE := (sendL zA1 [98]).2
def zA3 : LE := (fromL zA2 zA2.fresh zA2.owes).2
def zF0 : BL := fr 1 [97] [7, 0, 1]
def zF1 : BL := fr 1 [98] [7, 0, 2]
def zK : BL := fr 2 [] [7, 2]
def zB1 : LE := (tellL 65 (putL (ackL (openL 7) 0) 2 [98])).2
def zB2 : LE := (tellL 65 (putL (ackL zB1 0) 1 [97])).2
def zB3 : LE := (fromL zB2 zB2.fresh zB2.owes).2
theorem z_out : fromL zA2 zA2.fresh zA2.owes = ([zF0, zF1], zA3) := rfl
theorem z_rd0 : readL zF0 = some (7, 0, 1, [97]) := read_msg (by decide) (by decide) (by decide) (by decide) (by decide)
theorem z_rd1 : readL zF1 = some (7, 0, 2, [98]) := read_msg (by decide) (by decide) (by decide) (by decide) (by decide)
theorem z_rdk : readL zK = some (7, 2, 0, []) := read_ack (by decide) (by decide)
theorem z_hear1 : hearL (openL 7) zF1 = (0, [], zB1) := (hearL_ok (s := openL 7) z_rd1 (by decide) (by decide)).trans rfl
theorem z_hear0 : hearL zB1 zF0 = (0, [[97], [98]], zB2) := (hearL_ok (s := zB1) z_rd0 (by decide) (by decide)).trans rfl
theorem z_back : fromL zB2 zB2.fresh zB2.owes = ([zK], zB3) := rfl
theorem z_lenk : zK.length = 21 := by unfold zK; rw [fr_len]; rfl
theorem z_other : hearL (openL 8) zK = (4, [], openL 8) := by
 unfold hearL
 rw [z_rdk]
 rfl
theorem z_ack : hearL zA3 zK = (0, [], ackL zA3 2) := by
 unfold hearL
 rw [z_rdk]
 rfl
theorem z_len : zF0.length = 30 ∧ zF1.length = 30 := ⟨by unfold zF0; rw [fr_len]; rfl, by unfold zF1; rw [fr_len]; rfl⟩
theorem RdRows.get {w : World} {A : Option Addr} {n c : Nat} {fs : List BL} (h : RdRows w (.slice A n c) fs) {i : Nat} {f : BL} (hf : fs[i]? = some f) : n = fs.length ∧ ∃ g off Af cf, A = some ⟨g, off, none⟩ ∧ g < w.heap.size ∧ w.cell? ⟨g, off + i, none⟩ = some (.slice Af f.length cf) ∧ Rd w w.heap.size Af (u8s f) ∧ (f ≠ [] → f.length ≤ cf ∧ cf ≤ 9223372036854775807) := by
 obtain ⟨A', c', h1, h2⟩ := h
 injection h1 with e1 e2 e3
 subst e1
 exact ⟨e2, h2 i f hf⟩
theorem RdRows.form {w : World} {v : Value} {fs : List BL} (h : RdRows w v fs) : ∃ A c, v = .slice A fs.length c := by
 obtain ⟨A, c, h1, _⟩ := h
 exact ⟨A, c, h1⟩
theorem epN_small {e : Nat} (h : e ≤ 4611686018427387904) : epN (e : Int) = e := by
 unfold epN
 rw [if_neg (by omega)]
 omega
theorem works_any (w : World) : Calls Try.prog 8 #[] w fun e w' => e = .returned (.bool true) ∧ Below w.heap.size w w' := by
 have kc := fun (w : World) (C : Array Value) (n c : Nat) => Lib.run_convert_bytes_const (P := Try.prog) w 23 5 C n c Try.underlying23 Try.underlying5
 go_enter Try.func8, Try.ntmps8
 go_wp2_with fail
 refine (lopen_any w 7).mono ?_
 rintro e w1 ⟨P1, M1, rfl, hE1, hp1, hm1, hb1⟩
 go_wp2_with fail
 refine (lopen_any w1 7).mono ?_
 rintro e w2 ⟨P2, M2, rfl, hE2, hp2, hm2, hb2⟩
 have HT0 : Hid (Two w2 w.heap.size w2.heap.size 0 P1 P2 (openL 7) (openL 7)) := hide (Two.opened hE1 hp1 hm1 hE2 hp2 hm2 hb2)
 have HBb : Hid (Below w.heap.size w w2) := hide (hb1.trans (hb2.mono hb1.size))
 clear hE1 hp1 hm1 hE2 hp2 hm2 hb1 hb2
 go_wp2_with fail
 obtain ⟨v1, hv⟩ : ∃ z, w2.alloc (.cells #[.int .u8 97] 5 (1, 2)) = z := ⟨_, rfl⟩
 have HV1 : Hid (Below w2.heap.size w2 v1) := hide (by rw [← hv]; exact (Below.refl _ _).alloc (Nat.le_refl _) _)
 have HR1 : Hid (Rd v1 v1.heap.size (some ⟨w2.heap.size, 0, none⟩) (u8s [97])) := hide (by rw [← hv]; exact (Rd.new w2 #[.int .u8 97] 5 (1, 2)).more (by simp))
 rw [hv]
 clear hv
 have hsd := two_send ((HT0.out.next HV1.out).mono HV1.out.size (Nat.le_refl _)) (Nat.le_refl _) (some ⟨w2.heap.size, 0, none⟩) [97] 1 HR1.out (by decide) (by decide)
 refine hsd.mono ?_
 clear hsd
 rintro e x1 ⟨rfl, ht, hm⟩
 have HT1 : Hid (Two x1 w.heap.size x1.heap.size 0 P1 P2 zA1 (openL 7)) := hide ht
 have HB1 : Hid (Below w.heap.size w x1) := hide (HBb.out.trans ((HV1.out.mono HBb.out.size).trans (hm.toBelow (Nat.le_trans HBb.out.size HV1.out.size))))
 rw [show (sendL (openL 7) [97]).1 = 0 from rfl]
 clear ht hm HV1 HR1 HT0 HBb
 have HBb := HB1
 clear HB1
 go_wp2_with fail
 obtain ⟨v2, hv⟩ : ∃ z, x1.alloc (.cells #[.int .u8 98] 5 (1, 2)) = z := ⟨_, rfl⟩
 have HV2 : Hid (Below x1.heap.size x1 v2) := hide (by rw [← hv]; exact (Below.refl _ _).alloc (Nat.le_refl _) _)
 have HR2 : Hid (Rd v2 v2.heap.size (some ⟨x1.heap.size, 0, none⟩) (u8s [98])) := hide (by rw [← hv]; exact (Rd.new x1 #[.int .u8 98] 5 (1, 2)).more (by simp))
 rw [hv]
 clear hv
 have hsd := two_send ((HT1.out.next HV2.out).mono HV2.out.size (Nat.le_refl _)) (Nat.le_refl _) (some ⟨x1.heap.size, 0, none⟩) [98] 1 HR2.out (by decide) (by decide)
 refine hsd.mono ?_
 clear hsd
 rintro e x2 ⟨rfl, ht, hm⟩
 have HT2 : Hid (Two x2 w.heap.size x2.heap.size 0 P1 P2 zA2 (openL 7)) := hide ht
 have HB2 : Hid (Below w.heap.size w x2) := hide (HBb.out.trans ((HV2.out.mono HBb.out.size).trans (hm.toBelow (Nat.le_trans HBb.out.size HV2.out.size))))
 rw [show (sendL zA1 [98]).1 = 0 from rfl]
 clear ht hm HV2 HR2 HT1 HBb
 have HBb := HB2
 clear HB2
 go_wp2_with fail
 refine (two_out HT2.out).mono ?_
 rintro e x3 ⟨v3, rfl, hf, ht, hm⟩
 rw [z_out] at hf ht
 have HT3 : Hid (Two x3 w.heap.size x2.heap.size 0 P1 P2 zA3 (openL 7)) := hide ht
 have HF3 : Hid (FRw x3 x2.heap.size v3 [zF0, zF1]) := hide hf
 have HB3 : Hid (Below w.heap.size w x3) := hide (HBb.out.trans (hm.toBelow HBb.out.size))
 have HZ3 : Hid (x2.heap.size ≤ x3.heap.size) := hide hm.1
 clear hf ht hm HT2 HBb
 obtain ⟨Af, cf, rfl⟩ := HF3.out.rd.form
 obtain ⟨-, g, off, A1, c1, rfl, hg, hc1, hr1, hk1⟩ := HF3.out.rd.get (i := 1) (f := zF1) rfl
 rw [z_len.2] at hc1
 have HR1 := hide hr1
 have HK1 := hide (hk1 (by intro e; have := z_len.2; rw [e] at this; cases this))
 clear hr1 hk1
 go_wp2_with fail
 have hhr := two_hear HT3.out A1 zF1 c1 HR1.out (by rw [z_len.2]; decide) HK1.out.1 HK1.out.2 (by decide) (by decide)
 rw [z_len.2] at hhr
 refine hhr.mono ?_
 clear hhr
 rintro e x4 ⟨v4, rfl, ht, hb, hm⟩
 rw [z_hear1] at ht hb ⊢
 have HT4 : Hid (Two x4 w.heap.size x2.heap.size 1 P1 P2 zA3 zB1) := hide ht
 have HF4 := hide (HF3.out.mid hm (Nat.le_refl _))
 have HB4 : Hid (Below w.heap.size w x4) := hide (HB3.out.trans (hm.toBelow HB3.out.size))
 have HZ4 : Hid (x3.heap.size ≤ x4.heap.size) := hide hm.1
 obtain ⟨A4, c4, rfl⟩ := hb.rd.form
 clear ht hb hm hc1 HR1 HK1 HT3 HF3 hg
 obtain ⟨-, g', off', A1', c1', hA', hg, hc1, hr1, hk1⟩ := HF4.out.rd.get (i := 0) (f := zF0) rfl
 injection hA' with hA'
 injection hA' with e1 e2
 subst e1 e2
 rw [z_len.1, Nat.add_zero] at hc1
 have HR1 := hide hr1
 have HK1 := hide (hk1 (by intro e; have := z_len.1; rw [e] at this; cases this))
 clear hr1 hk1
 go_wp2_with fail
 have hhr := two_hear HT4.out A1' zF0 c1' HR1.out (by rw [z_len.1]; decide) HK1.out.1 HK1.out.2 (by decide) (by decide)
 rw [z_len.1] at hhr
 refine hhr.mono ?_
 clear hhr
 rintro e x5 ⟨v5, rfl, ht, hb, hm⟩
 rw [z_hear0] at ht hb ⊢
 have HT5 : Hid (Two x5 w.heap.size x2.heap.size 2 P1 P2 zA3 zB2) := hide ht
 have HF5 : Hid (RdRows x5 v5 [[97], [98]]) := hide hb.rd
 have HB5 : Hid (Below w.heap.size w x5) := hide (HB4.out.trans (hm.toBelow HB4.out.size))
 obtain ⟨A5, c5, rfl⟩ := hb.rd.form
 have HO5 : Hid (FRw x5 x4.heap.size (.slice A5 2 c5) [[97], [98]]) := hide hb
 clear ht hb hm hc1 HR1 HK1 HT4 HF4 hg
 go_wp2_with fail
 refine (two_out HT5.out.symm).mono ?_
 rintro e x6 ⟨v6, rfl, hf, ht, hm⟩
 rw [z_back] at hf ht
 have HT6 : Hid (Two x6 w.heap.size x2.heap.size 2 P1 P2 zA3 zB3) := hide ht.symm
 have HF6 : Hid (FRw x6 x5.heap.size v6 [zK]) := hide hf
 have HB6 : Hid (Below w.heap.size w x6) := hide (HB5.out.trans (hm.toBelow HB5.out.size))
 have hx2 : x2.heap.size ≤ x4.heap.size := by have := HZ3.out; have := HZ4.out; omega
 have HF5' : Hid (RdRows x6 (.slice A5 2 c5) [[97], [98]]) := hide (HO5.out.mid hm hx2).rd
 clear hx2 hf ht hm HT5 HO5
 obtain ⟨A6, c6, rfl⟩ := HF6.out.rd.form
 obtain ⟨-, g5, o5, Aa, ca, rfl, hg5, hc5, hr5, -⟩ := HF5'.out.get (i := 0) (f := [97]) rfl
 obtain ⟨-, g5', o5', Ab, cb, hA5, -, hc5', hr5', -⟩ := HF5'.out.get (i := 1) (f := [98]) rfl
 injection hA5 with hA5
 injection hA5 with e1 e2
 subst e1 e2
 rw [Nat.add_zero] at hc5
 obtain ⟨-, g6, o6, Ak, ck, rfl, hg6, hc6, hr6, hk6⟩ := HF6.out.rd.get (i := 0) (f := zK) rfl
 rw [z_lenk, Nat.add_zero] at hc6
 have HR6 := hide hr6
 have HK6 := hide (hk6 (by intro e; have := z_lenk; rw [e] at this; cases this))
 have HC6 := hide hc6
 have s5 := run_string_of (P := Try.prog) x6 23 9 5 Aa ca _ [97] Try.underlying23 Try.underlying5 Try.underlying9 hr5
 have s5' := run_string_of (P := Try.prog) x6 23 9 5 Ab cb _ [98] Try.underlying23 Try.underlying5 Try.underlying9 hr5'
 rw [show ([97] : List UInt8).length = 1 from rfl] at s5 hc5
 rw [show ([98] : List UInt8).length = 1 from rfl] at s5' hc5'
 clear hr5 hr5' hr6 hk6 HF5' HF6 HB5 HB4 HB3
 go_upto_region 12 with fail
 clear s5 s5' hc5 hc5' hg5
 refine wp_region_held_drew (S := Kept x6) (by kernel_rfl) (Kept.drew x6) (fun hS0 => ?_)
 refine tk 1 100 ?_ ?_ ?_; rotate_left; (focus (intro w h; go_simp; (try with_reducible rfl))); (try simp only [zqd, zqe, zqf])
 refine tk 2 101 ?_ ?_ ?_; rotate_left; (focus (intro w h; go_simp; (try with_reducible rfl))); (try simp only [zqd, zqe, zqf])
 refine tk 3 102 ?_ ?_ ?_; rotate_left; (focus (intro w h; go_simp; (try with_reducible rfl))); (try simp only [zqd, zqe, zqf])
 refine call_at (i := 0) (d := 99) (by simp only [zqa, zqb, zqc]; rfl) rfl (by kernel_rfl) rfl (fun K hK => ?_)
 go_simp
 refine (lopen_any x6.drew 8).mono ?_
 rintro e y1 ⟨P3, M3, rfl, hE3, hp3, hm3, hb3⟩
 have HY1 : Hid (Below x6.heap.size x6 y1) := hide (below_dr hb3)
 have HE3 := hide hE3
 have HP3 : Hid (x6.heap.size ≤ P3 ∧ x6.heap.size ≤ M3) := hide ⟨hp3, hm3⟩
 have hS1 : Kept x6 y1 := Kept.of_below HY1.out
 clear hE3 hp3 hm3 hb3
 go_wp2_with fail
 refine hK.out _ _ hS1 (fun hSn => ?_)
 clear hK K
 try simp only [zqd, zqe, zqf]
 refine call_at (i := 4) (d := 103) (by simp only [zqa, zqb, zqc]; rfl) rfl (by kernel_rfl) rfl (fun K hK => ?_)
 go_simp
 have hhr := hear_any y1 HE3.out Ak zK ck ((HR6.out.below HY1.out).more HY1.out.size) (by rw [z_lenk]; decide) HK6.out.1 HK6.out.2 (by decide) (by decide)
 rw [z_lenk] at hhr
 refine hhr.mono ?_
 clear hhr
 rintro e y2 ⟨v9, own9, rfl, hE9, hb9, hk9, -⟩
 rw [show hearL (openL (epN 8)) zK = (4, [], openL 8) from z_other] at hb9 ⊢
 obtain ⟨A9, c9, rfl⟩ := hb9.rd.form
 have HY2 : Hid (Below x6.heap.size x6 y2) := hide (HY1.out.trans ⟨hk9.env.1, hk9.env.2.1, hk9.env.2.2, hk9.1, fun g hg => hk9.2 g (Nat.lt_of_lt_of_le hg HY1.out.size) (by have := HP3.out; simp; omega)⟩)
 have hS2 : Kept x6 y2 := Kept.of_below HY2.out
 clear hE9 hb9 hk9
 go_wp2_with fail
 refine hK.out _ _ hS2 (fun hSn => ?_)
 clear hK K
 try simp only [zqd, zqe, zqf]
 refine tk 5 98 ?_ ?_ ?_; rotate_left; (focus (intro w h; go_simp; (try with_reducible rfl))); (try simp only [zqd, zqe, zqf])
 refine tk 6 104 ?_ ?_ ?_; rotate_left; (focus (intro w h; go_simp; (try with_reducible rfl))); (try simp only [zqd, zqe, zqf])
 refine tk 7 105 ?_ ?_ ?_; rotate_left; (focus (intro w h; go_simp; (try with_reducible rfl))); (try simp only [zqd, zqe, zqf])
 refine tk 8 11 ?_ ?_ ?_; rotate_left; (focus (intro w h; go_simp; (try with_reducible rfl))); (try simp only [zqd, zqe, zqf])
 refine tk 9 12 ?_ ?_ ?_; rotate_left; (focus (intro w h; go_simp; (try with_reducible rfl))); (try simp only [zqd, zqe, zqf])
 refine wpAnyH_done (by kernel_rfl) ?_ _
 clear hS0 hSn hS1 hS2 hc6
 have hc7 := (HY2.out.cell (p := ⟨g6, o6, none⟩) hg6).trans HC6.out
 have HT7 := hide (HT6.out.next HY2.out).symm
 have HB7 := hide (HB6.out.trans (HY2.out.mono HB6.out.size))
 have HR7 := hide ((HR6.out.below HY2.out).more HY2.out.size)
 have hg7 : g6 < y2.heap.size := Nat.lt_of_lt_of_le hg6 HY2.out.size
 clear HT6 HB6 HR6 HY1 HE3 HP3 hg6
 go_wp2_with fail
 have hhr := two_hear HT7.out Ak zK ck HR7.out (by rw [z_lenk]; decide) HK6.out.1 HK6.out.2 (by decide) (by decide)
 rw [z_lenk] at hhr
 refine hhr.mono ?_
 clear hhr
 rintro e x8 ⟨v8, rfl, ht, hb, hm⟩
 rw [z_ack] at ht hb ⊢
 have HT8 := hide ht
 have HB8 := hide (HB7.out.trans (hm.toBelow HB7.out.size))
 obtain ⟨A8, c8, rfl⟩ := hb.rd.form
 clear ht hb hm hc7
 go_wp2_with fail
 refine (two_waits HT8.out.symm).mono ?_
 rintro e x9 ⟨rfl, rfl⟩
 rw [show (ackL zA3 2).sent.length = 0 from rfl]
 go_wp2_with fail
 refine (two_heard HT8.out).mono ?_
 rintro e x10 ⟨rfl, rfl⟩
 rw [show zB3.heard = 2 from rfl]
 go_wp2_with fail
 refine (two_next HT8.out.symm).mono ?_
 rintro e x11 ⟨rfl, rfl⟩
 rw [show (ackL zA3 2).next = 3 from rfl]
 go_wp2
 go_ret
 exact ⟨rfl, HB8.out⟩
end Go.Proofs.Ytigmmikijjcdiaa
namespace Go.Proofs.Ytigmmikijjcdiaa
open Go.RowKit
def strs (xs : List BL) : List Value := xs.map fun b => .string ⟨b.toArray⟩
theorem strs_app (xs ys : List BL) : strs (xs ++ ys) = strs xs ++ strs ys := List.map_append
theorem strs_len (xs : List BL) : (strs xs).length = xs.length := List.length_map _
def StrRow (w : World) (L : Nat) (tag : Nat → Option (Nat × Nat)) (t : Nat × Nat) (v : Value) (xs : List BL) : Prop :=
 (∃ A c, v = .slice A xs.length c) ∧ w.ownsRow L 9 1 v xs.length (strs xs) ∧ ∀ g, v.ownBlock = some g → tag g = some t
theorem StrRow.keep {w w' : World} {L : Nat} {tag tag' : Nat → Option (Nat × Nat)} {t : Nat × Nat} {v : Value} {xs : List BL} (h : StrRow w L tag t v xs) (hk : ∀ g cur, tag g = some t → w.heap[g]? = some (.cells cur 9 (0, 0)) → w'.heap[g]? = w.heap[g]? ∧ tag' g = some t) : StrRow w' L tag' t v xs := by
 obtain ⟨h1, h2, h3⟩ := h
 have hq : ∀ g, v.ownBlock = some g → w'.heap[g]? = w.heap[g]? ∧ tag' g = some t := fun g hg => by
  obtain ⟨cur, hc⟩ := own_type h2 g hg
  exact hk g cur (h3 g hg) hc
 exact ⟨h1, own_same h2 fun g hg => (hq g hg).1, fun g hg => (hq g hg).2⟩
def SRows (w : World) (L : Nat) (tag : Nat → Option (Nat × Nat)) (k B : Nat) (ls : List (List BL)) : Prop :=
 ∃ vs : List Value, w.heap[B]? = some (.cells vs.toArray 48 (0, 0)) ∧ vs.length = ls.length ∧ ∀ i v xs, vs[i]? = some v → ls[i]? = some xs → StrRow w L tag (k, i) v xs
theorem SRows.lt {w : World} {L : Nat} {tag : Nat → Option (Nat × Nat)} {k B : Nat} {ls : List (List BL)} (h : SRows w L tag k B ls) : B < w.heap.size := by
 obtain ⟨vs, h1, _⟩ := h
 exact lt_of_block h1
theorem SRows.keep {w w' : World} {L : Nat} {tag tag' : Nat → Option (Nat × Nat)} {k B : Nat} {ls : List (List BL)} (h : SRows w L tag k B ls) (hB : w'.heap[B]? = w.heap[B]?) (hk : ∀ g cur i, tag g = some (k, i) → w.heap[g]? = some (.cells cur 9 (0, 0)) → w'.heap[g]? = w.heap[g]? ∧ tag' g = some (k, i)) : SRows w' L tag' k B ls := by
 obtain ⟨vs, h1, h2, h3⟩ := h
 exact ⟨vs, hB.trans h1, h2, fun i v xs hv hx => (h3 i v xs hv hx).keep fun g cur hg hc => hk g cur i hg hc⟩
theorem SRows.at_ {w : World} {L : Nat} {tag : Nat → Option (Nat × Nat)} {k B : Nat} {ls : List (List BL)} (h : SRows w L tag k B ls) {a : Nat} {xs : List BL} (ha : ls[a]? = some xs) : ∃ v, w.cell? ⟨B, a, none⟩ = some v ∧ StrRow w L tag (k, a) v xs := by
 obtain ⟨vs, h1, h2, h3⟩ := h
 have hl := (List.getElem?_eq_some_iff.1 ha).1
 obtain ⟨v, hv⟩ : ∃ v, vs[a]? = some v := ⟨_, List.getElem?_eq_getElem (by omega)⟩
 exact ⟨v, (cell_of_row _ _ a _ _ _ h1).trans (by rw [List.getElem?_toArray]; exact hv), h3 a v xs hv ha⟩
theorem SRows.frozen {w : World} {L : Nat} {tag : Nat → Option (Nat × Nat)} {k B : Nat} {ls : List (List BL)} (h : SRows w L tag k B ls) (a : Nat) : w.frozen? ⟨B, a, none⟩ = false := by
 obtain ⟨vs, h1, h2, h3⟩ := h
 exact frozen_of_row _ _ a _ _ h1
def tagN (tag : Nat → Option (Nat × Nat)) (v' : Value) (t : Nat × Nat) : Nat → Option (Nat × Nat) := fun g => if v'.ownBlock = some g then some t else tag g
section
variable {x y : World} {L k a B : Nat} {tag : Nat → Option (Nat × Nat)} {v v' : Value} {xs xs' : List BL}
theorem SRows.others {k' B' : Nat} {ls : List (List BL)} (h : SRows x L tag k' B' ls) (hk : k' ≠ k) (hB : B' ≠ B) (hold : StrRow x L tag (k, a) v xs) (hTB : ∃ cur, x.heap[B]? = some (.cells cur 48 (0, 0)))
  (hs : ∀ g, g < x.heap.size → v.ownBlock ≠ some g → y.heap[g]? = x.heap[g]?) (hn : ∀ g, v'.ownBlock = some g → v.ownBlock = some g ∨ x.heap.size ≤ g) : SRows (y.setCell ⟨B, a, none⟩ v') L (tagN tag v' (k, a)) k' B' ls := by
 obtain ⟨vs, q1, q2, q3⟩ := id h
 have hb : ∀ g, v.ownBlock = some g → ∃ cur, x.heap[g]? = some (.cells cur 9 (0, 0)) := fun g hg => own_type hold.2.1 g hg
 obtain ⟨curB, hcB⟩ := hTB
 refine h.keep ?_ fun g cur i hg hc => ⟨?_, ?_⟩
 ·rw [Below.heap_setCell _ _ _ _ hB]
  refine hs B' (lt_of_block q1) fun e => ?_
  obtain ⟨cur, hc⟩ := hb B' e
  exact row_ne hc q1 (by decide) rfl
 ·rw [Below.heap_setCell _ _ _ _ (row_ne hc hcB (by decide))]
  refine hs g (lt_of_block hc) fun e => ?_
  have := hold.2.2 g e
  rw [hg] at this
  injection this with this
  injection this with this _
  exact hk this
 ·unfold tagN
  rw [if_neg fun e => ?_]
  ·exact hg
  ·rcases hn g e with h1 | h1
   ·have := hold.2.2 g h1
    rw [hg] at this
    injection this with this
    injection this with this _
    exact hk this
   ·have := lt_of_block hc
    omega
theorem SRows.upd {ls : List (List BL)} (h : SRows x L tag k B ls) (ha : ls[a]? = some xs) (hold : StrRow x L tag (k, a) v xs)
  (hs : ∀ g, g < x.heap.size → v.ownBlock ≠ some g → y.heap[g]? = x.heap[g]?) (hn : ∀ g, v'.ownBlock = some g → v.ownBlock = some g ∨ x.heap.size ≤ g) (hf : ∃ A c, v' = .slice A xs'.length c) (ho : y.ownsRow L 9 1 v' xs'.length (strs xs')) : SRows (y.setCell ⟨B, a, none⟩ v') L (tagN tag v' (k, a)) k B (ls.set a xs') := by
 obtain ⟨vs, q1, q2, q3⟩ := h
 have hb : ∀ g, v.ownBlock = some g → ∃ cur, x.heap[g]? = some (.cells cur 9 (0, 0)) := fun g hg => own_type hold.2.1 g hg
 have hyB : y.heap[B]? = some (.cells vs.toArray 48 (0, 0)) := (hs B (lt_of_block q1) fun e => by
  obtain ⟨cur, hc⟩ := hb B e
  exact row_ne hc q1 (by decide) rfl).trans q1
 refine ⟨vs.set a v', ?_, by simp [q2], fun i u ys hu hy => ?_⟩
 ·have h := heap_setCell_same _ B a _ _ v' hyB
  rw [h]
  simp
 ·by_cases hi : i = a
  ·subst hi
   have hl := (List.getElem?_eq_some_iff.1 ha).1
   rw [List.getElem?_set_self (by omega)] at hu hy
   injection hu with hu
   injection hy with hy
   subst hu hy
   refine ⟨hf, own_same ho fun g hg => ?_, fun g hg => by unfold tagN; rw [if_pos hg]⟩
   obtain ⟨cur, hc⟩ := own_type ho g hg
   exact Below.heap_setCell _ _ _ _ (row_ne hc hyB (by decide))
  ·rw [List.getElem?_set_ne (Ne.symm hi)] at hu hy
   refine (q3 i u ys hu hy).keep fun g cur hg hc => ⟨?_, ?_⟩
   ·rw [Below.heap_setCell _ _ _ _ (row_ne hc q1 (by decide))]
    refine hs g (lt_of_block hc) fun e => ?_
    have := hold.2.2 g e
    rw [hg] at this
    injection this with this
    injection this with _ this
    exact hi this
   ·unfold tagN
    rw [if_neg fun e => ?_]
    ·exact hg
    ·rcases hn g e with h1 | h1
     ·have := hold.2.2 g h1
      rw [hg] at this
      injection this with this
      injection this with _ this
      exact hi this
     ·have := lt_of_block hc
      omega
end
structure NetM (w : World) (L W E Y U T P1 P2 : Nat) (tag : Nat → Option (Nat × Nat)) (ways puts gots : List (List BL)) (bad : Bool) : Prop where
 wd : w.heap[W]? = some (.cells #[.slice (some ⟨E, 0, none⟩) 2 2, .slice (some ⟨Y, 0, none⟩) 2 2, .slice (some ⟨U, 0, none⟩) 2 2, .slice (some ⟨T, 0, none⟩) 2 2, .bool bad] 45 (0, 0))
 en : w.heap[E]? = some (.cells #[.pointer (some ⟨P1, 0, none⟩), .pointer (some ⟨P2, 0, none⟩)] 25 (0, 0))
 way : SRows w L tag 0 Y ways
 put : SRows w L tag 1 U puts
 got : SRows w L tag 2 T gots
 ne : Y ≠ U ∧ Y ≠ T ∧ U ≠ T
 lo : L ≤ W ∧ L ≤ Y ∧ L ≤ U ∧ L ≤ T
 len : ways.length = 2 ∧ puts.length = 2 ∧ gots.length = 2
structure ModN (L : Nat) (w w' : World) : Prop where
 size : w.heap.size ≤ w'.heap.size
 env : Env w w'
 low : ∀ g, g < w.heap.size → g < L → w'.heap[g]? = w.heap[g]?
 oth : ∀ g, g < w.heap.size → (∀ cur T, w.heap[g]? = some (.cells cur T (0, 0)) → T ≠ 45 ∧ T ≠ 48 ∧ T ≠ 9) → w'.heap[g]? = w.heap[g]?
theorem ModN.of_below {L : Nat} {w w' : World} (h : Below w.heap.size w w') : ModN L w w' := ⟨h.size, Env.of_below h, fun g hg _ => h.block g hg, fun g hg _ => h.block g hg⟩
theorem ModN.toBelow {L : Nat} {w w' : World} (h : ModN L w w') (hl : L ≤ w.heap.size) : Below L w w' := ⟨h.2.1, h.2.2.1, h.2.2.2, h.1, fun g hg => h.low g (by omega) hg⟩
theorem ModN.cells {L : Nat} {w w' : World} (h : ModN L w w') {g : Nat} {cs : Array Value} {T : TypeId} (hc : w.heap[g]? = some (.cells cs T (0, 0))) (h1 : T ≠ 45) (h2 : T ≠ 48) (h3 : T ≠ 9) : w'.heap[g]? = some (.cells cs T (0, 0)) := (h.oth g (lt_of_block hc) fun cur T' hc' => by
 rw [hc] at hc'
 injection hc' with hc'
 injection hc' with _ hc'
 subst hc'
 exact ⟨h1, h2, h3⟩).trans hc
theorem ModN.trans {L : Nat} {a b c : World} (h : ModN L a b) (h' : ModN L b c) : ModN L a c := ⟨Nat.le_trans h.1 h'.1, h.2.trans h'.2, fun g hl hg => (h'.low g (Nat.lt_of_lt_of_le hl h.1) hg).trans (h.low g hl hg), fun g hl hg => by
 have e := h.oth g hl hg
 exact (h'.oth g (Nat.lt_of_lt_of_le hl h.1) (by rw [e]; exact hg)).trans e⟩
theorem EndM.modn {w w' : World} {L P M : Nat} {G : Option Nat} {own : Nat → Option (Bool × Nat)} {k : Nat} {s : LE} (h : EndM w P M G own k s) (hm : ModN L w w') : EndM w' P M G own k s := by
 obtain ⟨_, _, _, _, _, _, p1, r1, _, ⟨⟨es1, cl1, m1, _⟩, _⟩, _⟩ := id h
 refine h.keepT hm.1 fun g hl hc => hm.oth g hl fun cur T hT => ?_
 have hq : ∀ {cs : Array Value} {T' : TypeId}, w.heap[g]? = some (.cells cs T' (0, 0)) → T = T' := fun h' => by
  rw [hT] at h'
  injection h' with h'
  injection h'
 rcases hc with rfl | rfl | hc | ⟨cur', hc⟩
 ·rw [hq p1]; decide
 ·rw [hT] at m1; cases m1
 ·obtain ⟨cur', h'⟩ := r1.blk g hc
  rw [hq h']; decide
 ·rw [hq hc]; decide
theorem Two.modn {w w' : World} {L L' B n P1 P2 : Nat} {s t : LE} (h : Two w L B n P1 P2 s t) (hm : ModN L' w w') : Two w' L B n P1 P2 s t := by
 obtain ⟨M1, G1, own1, k1, M2, G2, own2, k2, h1, h2, h3⟩ := h
 exact ⟨M1, G1, own1, k1, M2, G2, own2, k2, h1.modn hm, h2.modn hm, h3⟩
theorem FRw.modn {w w' : World} {L B : Nat} {v : Value} {fs : List BL} (h : FRw w B v fs) (hm : ModN L w w') : FRw w' B v fs := by
 obtain ⟨own, tg, ⟨A, c, vs, h1, h2, h3, h4⟩⟩ := h
 refine ⟨own, tg, ⟨A, c, vs, h1, own_same h2 fun g hg => ?_, fun i u b hu hb => (h3 i u b hu hb).keep fun g cur hg hc => ⟨?_, hg⟩, h4⟩⟩
 ·obtain ⟨cur, hc⟩ := own_type h2 g hg
  exact (hm.cells hc (by decide) (by decide) (by decide)).trans hc.symm
 ·exact (hm.cells hc (by decide) (by decide) (by decide)).trans hc.symm
theorem NetM.mid {w w' : World} {L L' B W E Y U T P1 P2 : Nat} {tag : Nat → Option (Nat × Nat)} {ways puts gots : List (List BL)} {bad : Bool} (h : NetM w L W E Y U T P1 P2 tag ways puts gots bad) (hm : Mid L' B w w') : NetM w' L W E Y U T P1 P2 tag ways puts gots bad := by
 have hq : ∀ {k B : Nat} {ls : List (List BL)}, SRows w L tag k B ls → SRows w' L tag k B ls := fun h => by
  obtain ⟨vs, h1, _⟩ := id h
  exact h.keep (hm.oth _ _ _ h1 (by decide) (by decide)) fun g cur i hg hc => ⟨hm.oth _ _ _ hc (by decide) (by decide), hg⟩
 exact ⟨(hm.oth _ _ _ h.wd (by decide) (by decide)).trans h.wd, (hm.oth _ _ _ h.en (by decide) (by decide)).trans h.en, hq h.way, hq h.put, hq h.got, h.ne, h.lo, h.len⟩
theorem NetM.next {w w' : World} {L W E Y U T P1 P2 : Nat} {tag : Nat → Option (Nat × Nat)} {ways puts gots : List (List BL)} {bad : Bool} (h : NetM w L W E Y U T P1 P2 tag ways puts gots bad) (hb : Below w.heap.size w w') : NetM w' L W E Y U T P1 P2 tag ways puts gots bad := h.mid (L' := 0) (B := 0) (Mid.of_below hb)
theorem modn_upd {x y : World} {L k a B : Nat} {tag : Nat → Option (Nat × Nat)} {v v' : Value} {xs : List BL} (hold : StrRow x L tag (k, a) v xs) (hTB : ∃ cur, x.heap[B]? = some (.cells cur 48 (0, 0))) (hB : L ≤ B) (hsz : x.heap.size ≤ y.heap.size) (he : Env x y)
  (hs : ∀ g, g < x.heap.size → v.ownBlock ≠ some g → y.heap[g]? = x.heap[g]?) : ModN L x (y.setCell ⟨B, a, none⟩ v') := by
 obtain ⟨curB, hcB⟩ := hTB
 refine ⟨by rw [World.size_setCell]; exact hsz, he.setCell _ _, fun g hg hl => ?_, fun g hg ht => ?_⟩
 ·rw [Below.heap_setCell _ _ _ _ (by show g ≠ B; omega)]
  exact hs g hg fun e => by have := (hold.2.1.lt g e).1; omega
 ·rw [Below.heap_setCell _ _ _ _ (by rintro rfl; exact (ht _ _ hcB).2.1 rfl)]
  refine hs g hg fun e => ?_
  obtain ⟨cur, hc⟩ := own_type hold.2.1 g e
  exact (ht _ _ hc).2.2 rfl
section
variable {x y : World} {L W E Y U T P1 P2 a : Nat} {tag : Nat → Option (Nat × Nat)} {ways puts gots : List (List BL)} {bad : Bool} {v v' : Value} {xs xs' : List BL}
theorem NetM.cellsW (h : NetM x L W E Y U T P1 P2 tag ways puts gots bad) {g : Nat} (hg : v.ownBlock = some g) (k : Nat) (hold : StrRow x L tag (k, a) v xs) : g ≠ W ∧ g ≠ E := by
 obtain ⟨cur, hc⟩ := own_type hold.2.1 g hg
 exact ⟨row_ne hc h.wd (by decide), row_ne hc h.en (by decide)⟩
theorem NetM.updWay (h : NetM x L W E Y U T P1 P2 tag ways puts gots bad) (ha : ways[a]? = some xs) (hold : StrRow x L tag (0, a) v xs) (hsz : x.heap.size ≤ y.heap.size)
  (hs : ∀ g, g < x.heap.size → v.ownBlock ≠ some g → y.heap[g]? = x.heap[g]?) (hn : ∀ g, v'.ownBlock = some g → v.ownBlock = some g ∨ x.heap.size ≤ g) (hf : ∃ A c, v' = .slice A xs'.length c) (ho : y.ownsRow L 9 1 v' xs'.length (strs xs')) : NetM (y.setCell ⟨Y, a, none⟩ v') L W E Y U T P1 P2 (tagN tag v' (0, a)) (ways.set a xs') puts gots bad := by
 obtain ⟨vs, q1, _⟩ := id h.way
 have hTB : ∃ cur, x.heap[Y]? = some (.cells cur 48 (0, 0)) := ⟨_, q1⟩
 refine ⟨?_, ?_, h.way.upd ha hold hs hn hf ho, h.put.others (by decide) (Ne.symm h.ne.1) hold hTB hs hn, h.got.others (by decide) (Ne.symm h.ne.2.1) hold hTB hs hn, h.ne, h.lo, ⟨by simp [h.len.1], h.len.2⟩⟩
 ·rw [Below.heap_setCell _ _ _ _ (row_ne h.wd q1 (by decide))]
  exact (hs W (lt_of_block h.wd) fun e => (h.cellsW e 0 hold).1 rfl).trans h.wd
 ·rw [Below.heap_setCell _ _ _ _ (row_ne h.en q1 (by decide))]
  exact (hs E (lt_of_block h.en) fun e => (h.cellsW e 0 hold).2 rfl).trans h.en
theorem NetM.updPut (h : NetM x L W E Y U T P1 P2 tag ways puts gots bad) (ha : puts[a]? = some xs) (hold : StrRow x L tag (1, a) v xs) (hsz : x.heap.size ≤ y.heap.size)
  (hs : ∀ g, g < x.heap.size → v.ownBlock ≠ some g → y.heap[g]? = x.heap[g]?) (hn : ∀ g, v'.ownBlock = some g → v.ownBlock = some g ∨ x.heap.size ≤ g) (hf : ∃ A c, v' = .slice A xs'.length c) (ho : y.ownsRow L 9 1 v' xs'.length (strs xs')) : NetM (y.setCell ⟨U, a, none⟩ v') L W E Y U T P1 P2 (tagN tag v' (1, a)) ways (puts.set a xs') gots bad := by
 obtain ⟨vs, q1, _⟩ := id h.put
 have hTB : ∃ cur, x.heap[U]? = some (.cells cur 48 (0, 0)) := ⟨_, q1⟩
 refine ⟨?_, ?_, h.way.others (by decide) h.ne.1 hold hTB hs hn, h.put.upd ha hold hs hn hf ho, h.got.others (by decide) (Ne.symm h.ne.2.2) hold hTB hs hn, h.ne, h.lo, ⟨h.len.1, by simp [h.len.2.1], h.len.2.2⟩⟩
 ·rw [Below.heap_setCell _ _ _ _ (row_ne h.wd q1 (by decide))]
  exact (hs W (lt_of_block h.wd) fun e => (h.cellsW e 1 hold).1 rfl).trans h.wd
 ·rw [Below.heap_setCell _ _ _ _ (row_ne h.en q1 (by decide))]
  exact (hs E (lt_of_block h.en) fun e => (h.cellsW e 1 hold).2 rfl).trans h.en
theorem NetM.updGot (h : NetM x L W E Y U T P1 P2 tag ways puts gots bad) (ha : gots[a]? = some xs) (hold : StrRow x L tag (2, a) v xs) (hsz : x.heap.size ≤ y.heap.size)
  (hs : ∀ g, g < x.heap.size → v.ownBlock ≠ some g → y.heap[g]? = x.heap[g]?) (hn : ∀ g, v'.ownBlock = some g → v.ownBlock = some g ∨ x.heap.size ≤ g) (hf : ∃ A c, v' = .slice A xs'.length c) (ho : y.ownsRow L 9 1 v' xs'.length (strs xs')) : NetM (y.setCell ⟨T, a, none⟩ v') L W E Y U T P1 P2 (tagN tag v' (2, a)) ways puts (gots.set a xs') bad := by
 obtain ⟨vs, q1, _⟩ := id h.got
 have hTB : ∃ cur, x.heap[T]? = some (.cells cur 48 (0, 0)) := ⟨_, q1⟩
 refine ⟨?_, ?_, h.way.others (by decide) h.ne.2.1 hold hTB hs hn, h.put.others (by decide) h.ne.2.2 hold hTB hs hn, h.got.upd ha hold hs hn hf ho, h.ne, h.lo, ⟨h.len.1, h.len.2.1, by simp [h.len.2.2]⟩⟩
 ·rw [Below.heap_setCell _ _ _ _ (row_ne h.wd q1 (by decide))]
  exact (hs W (lt_of_block h.wd) fun e => (h.cellsW e 2 hold).1 rfl).trans h.wd
 ·rw [Below.heap_setCell _ _ _ _ (row_ne h.en q1 (by decide))]
  exact (hs E (lt_of_block h.en) fun e => (h.cellsW e 2 hold).2 rfl).trans h.en
theorem NetM.blkT (h : NetM x L W E Y U T P1 P2 tag ways puts gots bad) : (∃ cur, x.heap[Y]? = some (.cells cur 48 (0, 0))) ∧ (∃ cur, x.heap[U]? = some (.cells cur 48 (0, 0))) ∧ ∃ cur, x.heap[T]? = some (.cells cur 48 (0, 0)) := by
 obtain ⟨v1, q1, _⟩ := h.way
 obtain ⟨v2, q2, _⟩ := h.put
 obtain ⟨v3, q3, _⟩ := h.got
 exact ⟨⟨_, q1⟩, ⟨_, q2⟩, ⟨_, q3⟩⟩
end
theorem StrRow.rd {w : World} {L : Nat} {tag : Nat → Option (Nat × Nat)} {t : Nat × Nat} {v : Value} {xs : List BL} (h : StrRow w L tag t v xs) : ∃ A c, v = .slice A xs.length c ∧ Rd w w.heap.size A (strs xs) ∧ xs.length ≤ c ∧ c ≤ 9223372036854775807 := by
 obtain ⟨⟨A, c, rfl⟩, h2, h3⟩ := h
 refine ⟨A, c, rfl, Rd.of_own h2, ?_⟩
 obtain ⟨h4, h5⟩ := h2
 rcases h5 with ⟨h0, h00⟩ | ⟨g, cap, cur, hv, hg, hc, hn, hm, hs, _⟩
 ·injection h0 with _ h0 h01
  subst h01
  omega
 ·injection hv with _ _ hv
  subst hv
  unfold maxLen at hm
  exact ⟨hn, hm⟩
end Go.Proofs.Ytigmmikijjcdiaa
namespace Go.Proofs.Ytigmmikijjcdiaa
open Go.RowKit
theorem be_take (k n m : Nat) : (be (k + n) m).take k = be k (m / 256 ^ n) := by
 induction n generalizing m with
 | zero => rw [Nat.add_zero, Nat.pow_zero, Nat.div_one]; exact List.take_of_length_le (by rw [be_len]; exact Nat.le_refl _)
 | succ n ih => rw [show k + (n + 1) = (k + n) + 1 by omega, be, List.take_append_of_le_length (by rw [be_len]; omega), ih, Nat.div_div_eq_div_mul, Nat.pow_succ, Nat.mul_comm]
theorem be_app (k n m : Nat) : be k (m / 256 ^ n) ++ be n m = be (k + n) m := by
 rw [← be_take k n m, ← be_drop k n m, List.take_append_drop]
theorem be_cons (j m : Nat) : be (1 + j) m = UInt8.ofNat (m / 256 ^ j) :: be j m := by
 rw [← be_app 1 j m]; rfl
theorem dg_set (q j m : Nat) : (u8s (List.replicate (q + 1) 0 ++ be j m)).set q (.int .u8 ((m / 256 ^ j % 256 : Nat) : Int)) = u8s (List.replicate q 0 ++ be (j + 1) m) := by
 have e : (Value.int .u8 ((m / 256 ^ j % 256 : Nat) : Int)) = .int .u8 ((UInt8.ofNat (m / 256 ^ j)).toNat : Nat) := by simp [UInt8.toNat_ofNat']
 rw [e, Nat.add_comm j 1, be_cons, List.replicate_succ']
 simp only [u8s, List.map_append, List.append_assoc]
 rw [List.set_append_right _ _ (by simp)]
 simp
theorem rdigits_any (w : World) (n N : Nat) (hn : n < 18446744073709551616) (hN1 : 1 ≤ N) (hN2 : N ≤ 1000) :
  Calls Try.prog 39 #[.int .u64 n, .int .i64 N] w fun e w' => e = .returned (.slice (some ⟨w.heap.size, 0, none⟩) N N) ∧ w'.heap[w.heap.size]? = some (.cells (u8s (be N n)).toArray 5) ∧ Below w.heap.size w w' := by
 obtain ⟨i0, hi0, hz0, hz1, hz2⟩ := info_parts (show (Try.prog.info? 5).map (fun i => (i.zero, i.size, i.bytes)) = some (some (.int .u8 0), 1, 1) by kernel_rfl)
 have hb8 : i0.bytes * N ≤ 281474976710656 := by rw [hz2]; omega
 go_enter Try.func39, Try.ntmps39
 go_wp2_with (at_make; refine wpList_make_full _ rfl (.tmp 7) (.tmp 7) 23 rfl w.heap.size 5 i0 (.int .u8 0) 1 Try.underlying23 hi0 hz0 hz1 .i64 .i64 _ _ N rfl rfl (by omega) (by omega) hb8 (by unfold maxLen; omega) (Nat.le_refl _) ?_; intro w1 hown1 hg1; have hb1 : Below w.heap.size w w1 := (Below.refl _ w).grown hg1 (Nat.le_refl _) (fun k e => by cases e); have hm0 := made_cells hown1; rw [made_zero] at hm0; have hm1 := hide hm0; clear hown1 hg1 hm0)
 go_loopw [0, 6] (fun vn vi wr => ∃ q j : Nat, q + j = N ∧ vi = .int .i64 ((q : Int) - 1) ∧ vn = .int .u64 (n / 256 ^ j : Nat) ∧ Hid (wr.heap[w.heap.size]? = some (.cells (u8s (List.replicate q 0 ++ be j n)).toArray 5)) ∧ Below w.heap.size w wr) (fun _ vi _ => (intOf vi + 1).toNat)
 case atStart => exact ⟨N, 0, by omega, by go_num, by simp, hide (by rw [hm1.out]; simp [u8s, be, outRow]), hb1⟩
 case round =>
  obtain ⟨q, j, hq, rfl, rfl, hrow, hb⟩ := hrel
  have hs := hb.size
  rcases q with _ | q
  ·obtain rfl : j = N := by omega
   go_wp2
   go_ret
   refine ⟨rfl, ?_, hb⟩
   simpa using hrow.out
  ·rw [show ((q + 1 : Nat) : Int) - 1 = (q : Int) by omega]
   have hle := Nat.div_le_self n (256 ^ j)
   have hset := dg_set q j n
   have hdd := hide (show n / 256 ^ (j + 1) = n / 256 ^ j / 256 by rw [Nat.div_div_eq_div_mul, Nat.pow_succ])
   have hrow2 := hide (heap_setCell_same wr w.heap.size q _ _ (.int .u8 ((n / 256 ^ j % 256 : Nat) : Int)) hrow.out)
   rw [List.setIfInBounds_toArray, hset] at hrow2
   have hc : wr.cell? ⟨w.heap.size, q, none⟩ = some (.int .u8 0) := by
    rw [cell_of_row _ _ q _ _ _ hrow.out]
    simp [u8s, List.getElem?_append]
   have hf := frozen_of_row _ _ q _ _ hrow.out
   obtain ⟨a, ha⟩ : ∃ a, n / 256 ^ j = a := ⟨_, rfl⟩
   rw [ha] at hle hrow2 hdd ⊢
   have hb2 := hide (hb.setCell (p := ⟨w.heap.size, q, none⟩) (Nat.le_refl _) (.int .u8 ((a % 256 : Nat) : Int)))
   have HR := hide hrow.out
   have hqN : q < N := by omega
   clear hset hrow ha
   go_wp2
   go_roundw
   case rel => exact ⟨q, j + 1, by omega, by go_num, by rw [hdd.out]; go_num, by first | exact hrow2 | skip, by first | exact hb2.out | skip⟩
   case measure => simp [intOf]
theorem rnumber0_any (w : World) (A : Option Addr) (bs : List UInt8) (L c : Nat) (hL : bs.length = L) (hR : Rd w w.heap.size A (u8s bs)) (h8 : L ≤ 8) :
  Calls Try.prog 77 #[.slice A L c] w fun e w' => e = .returned (.int .u64 (num bs : Nat)) ∧ w' = w := by
 have HL := hide hL
 have HR := hide hR
 clear hL hR
 go_enter Try.func77, Try.ntmps77
 go_wp2
 go_loop [3, 4] (fun vn vi => ∃ i : Nat, i ≤ L ∧ vi = .int .i64 i ∧ vn = .int .u64 (num (bs.take i) : Nat)) (fun _ vi => L - (intOf vi).toNat)
 case atStart => exact ⟨0, by omega, rfl, rfl⟩
 case round =>
  obtain ⟨i, hi, rfl, rfl⟩ := hrel
  by_cases hlt : i < L
  ·have hil : i < bs.length := by rw [HL.out]; exact hlt
   obtain ⟨b, off, rfl, _, hc⟩ := HR.out.at_ (k := i) (by rw [u8s_len]; exact hil)
   have hc1 := hc i _ (u8s_get hil)
   have ht := hide (num_take hil)
   have hb := (bs[i]).toNat_lt
   have hlt2 := num_lt (bs.take i)
   have hpow : 256 ^ (bs.take i).length ≤ 256 ^ 7 := Nat.pow_le_pow_right (by decide) (by rw [List.length_take]; omega)
   have ha : num (bs.take i) < 72057594037927936 := by omega
   obtain ⟨a, haa⟩ : ∃ a, num (bs.take i) = a := ⟨_, rfl⟩
   obtain ⟨y, hy⟩ : ∃ y, (bs[i]).toNat = y := ⟨_, rfl⟩
   rw [haa] at ha ht ⊢
   rw [hy] at hc1 hb ht
   clear hlt2 hpow haa hy hc hil
   have hI0 : (0 : Int) ≤ (i : Int) := by omega
   have hI1 : (i : Int) < (L : Int) := by omega
   go_wp2
   go_round
   case rel => exact ⟨i + 1, by omega, by go_num, by rw [ht.out]; go_num⟩
   case measure => simp [intOf]; omega
  ·obtain rfl : i = L := by omega
   rw [← HL.out, List.take_length]
   go_wp2
   go_ret
   exact ⟨rfl, rfl⟩
end Go.Proofs.Ytigmmikijjcdiaa
namespace Go.Proofs.Ytigmmikijjcdiaa
open Go.RowKit
def u64n (x : Int) : Nat := (x % 18446744073709551616).toNat
theorem u64n_lt (x : Int) : u64n x < 18446744073709551616 := by unfold u64n; omega
theorem u64n_nat {n : Nat} (h : n < 18446744073709551616) : u64n (n : Int) = n := by unfold u64n; omega
def frI (tag : Nat) (b : BL) (ep h n : Int) : BL := if tag = 1 then fr 1 b [u64n ep, u64n h, u64n n] else fr tag [] [u64n ep, u64n h]
def FwI (w x : World) (A : Option Addr) (n c : Nat) (f : BL) : Prop := x.ownsRow w.heap.size 5 1 (.slice A n c) n (u8s f) ∧ f.length = n ∧ Below w.heap.size w x
theorem u8s_app (a b : BL) : u8s (a ++ b) = u8s a ++ u8s b := by unfold u8s; rw [List.map_append]
theorem strCells_u8s (b : BL) : Go.Lib.strCells ⟨b.toArray⟩ = u8s b := by unfold Go.Lib.strCells u8s; simp
theorem rnum_any (w : World) (x : Int) (h1 : -9223372036854775808 ≤ x) (h2 : x ≤ 9223372036854775807) :
  Calls Try.prog 38 #[.int .i64 x] w fun e w' => e = .returned (.slice (some ⟨w.heap.size, 0, none⟩) 8 8) ∧ w'.heap[w.heap.size]? = some (.cells (u8s (be 8 (u64n x))).toArray 5) ∧ Below w.heap.size w w' := by
 have hd := rdigits_any w (u64n x) 8 (u64n_lt x) (by decide) (by decide)
 have kw : IntKind.u64.wrap x = ((u64n x : Nat) : Int) := by
  unfold u64n
  rw [Int.toNat_of_nonneg (by omega)]
  rfl
 have HD := hide hd
 clear hd
 go_enter Try.func38, Try.ntmps38
 go_wp2_with fail
 refine HD.out.mono ?_
 rintro e w1 ⟨rfl, hr, hb⟩
 have HR := hide hr
 have HB := hide hb
 clear hr hb
 go_wp2
 go_ret
 exact ⟨rfl, HR.out, HB.out⟩
theorem rframe_any (w : World) (tag : Nat) (ht : tag < 256) (ep h n : Int) (e1 : -9223372036854775808 ≤ ep) (e2 : ep ≤ 9223372036854775807) (h1 : -9223372036854775808 ≤ h) (h2 : h ≤ 9223372036854775807) (n1 : -9223372036854775808 ≤ n) (n2 : n ≤ 9223372036854775807) (b : BL) (hb : b.length ≤ 16000000) :
  Calls Try.prog 27 #[.int .u8 (tag : Int), .int .i64 ep, .int .i64 h, .int .i64 n, .string ⟨b.toArray⟩] w fun e w' => e = .returned (.string ⟨(frI tag b ep h n).toArray⟩) ∧ Below w.heap.size w w' := by
 obtain ⟨i0, hi0, hz0, hz1, hz2⟩ := info_parts (show (Try.prog.info? 5).map (fun i => (i.zero, i.size, i.bytes)) = some (some (.int .u8 0), 1, 1) by kernel_rfl)
 obtain ⟨bl, hbl⟩ : ∃ z, b.length = z := ⟨_, rfl⟩
 have HBl := hide hbl
 rw [hbl] at hb
 clear hbl
 have HF0 : Hid (FwI w (w.alloc (.cells #[.int .u8 (tag : Int)] 5)) (some ⟨w.heap.size, 0, none⟩) 1 1 (be 1 tag)) := hide ⟨by have h := World.ownsRow_lit (base := w.heap.size) (e := 5) (size := 1) w #[.int .u8 (tag : Int)] 1 (Nat.le_refl _) (by unfold maxLen; omega) rfl; rw [show u8s (be 1 tag) = [.int .u8 (tag : Int)] by simp [be, u8s]; omega]; exact h, be_len _ _, (Below.refl _ _).alloc (Nat.le_refl _) _⟩
 obtain ⟨x0, hx0⟩ : ∃ z, w.alloc (.cells #[.int .u8 (tag : Int)] 5) = z := ⟨_, rfl⟩
 rw [hx0] at HF0
 have HX0 := hide hx0
 clear hx0
 go_enter Try.func27, Try.ntmps27
 go_upto_region 2 with fail
 rw [HX0.out]
 go_wp2_with fail
 refine (rnum_any x0 ep e1 e2).mono ?_
 rintro e y1 ⟨rfl, hr, hb⟩
 have HO1 : Hid (FwI w y1 (some ⟨w.heap.size, 0, none⟩) (1) 1 (be 1 tag)) := hide ⟨own_below HF0.out.1 hb (fun g hg => (HF0.out.1.lt g hg).2), HF0.out.2.1, HF0.out.2.2.trans (hb.mono HF0.out.2.2.size)⟩
 have hr1 : Rd y1 y1.heap.size (some ⟨x0.heap.size, 0, none⟩) (u8s (be 8 (u64n ep))) := rd_cells hr
 clear hr hb
 have hs1 : w.heap.size ≤ y1.heap.size := HO1.out.2.2.size
 go_wp2_with (at_builtin; go_loud (refine wpList_app rfl (.tmp 14) (.tmp 16) 23 rfl w.heap.size 5 i0 (.int .u8 0) 1 1 Try.underlying23 hi0 hz0 hz1 hz2 rfl (by decide) (.slice (some ⟨w.heap.size, 0, none⟩) (1) 1) (1) _ rfl HO1.out.1 y1.heap.size (some ⟨x0.heap.size, 0, none⟩) 8 8 (u8s (be 8 (u64n ep))) rfl (by simp [u8s_len, be_len]) hr1 (u8s_one _) (by unfold maxLen; omega) (by omega) hs1 ?_; intro A1 c1 z1 hown hg hat; have HF1 : Hid (FwI w z1 A1 (9) c1 (be 1 tag ++ be 8 (u64n ep))) := hide ⟨by rw [u8s_app]; exact hown, by rw [List.length_append, HO1.out.2.1, be_len], app_below HO1.out.2.2 HO1.out.1 hg hs1 (Nat.le_refl _)⟩; clear hown hg hat hr1 HO1))
 go_wp2_with fail
 refine (rnum_any z1 h h1 h2).mono ?_
 rintro e y2 ⟨rfl, hr, hb⟩
 have HO2 : Hid (FwI w y2 A1 (9) c1 (be 1 tag ++ be 8 (u64n ep))) := hide ⟨own_below HF1.out.1 hb (fun g hg => (HF1.out.1.lt g hg).2), HF1.out.2.1, HF1.out.2.2.trans (hb.mono HF1.out.2.2.size)⟩
 have hr2 : Rd y2 y2.heap.size (some ⟨z1.heap.size, 0, none⟩) (u8s (be 8 (u64n h))) := rd_cells hr
 clear hr hb
 have hs2 : w.heap.size ≤ y2.heap.size := HO2.out.2.2.size
 go_upto_region 4 with (at_builtin; go_loud (refine wpList_app rfl (.tmp 18) (.tmp 20) 23 rfl w.heap.size 5 i0 (.int .u8 0) 1 1 Try.underlying23 hi0 hz0 hz1 hz2 rfl (by decide) (.slice A1 (9) c1) (9) _ rfl HO2.out.1 y2.heap.size (some ⟨z1.heap.size, 0, none⟩) 8 8 (u8s (be 8 (u64n h))) rfl (by simp [u8s_len, be_len]) hr2 (u8s_one _) (by unfold maxLen; omega) (by omega) hs2 ?_; intro A2 c2 z2 hown hg hat; have HF2 : Hid (FwI w z2 A2 (17) c2 (be 1 tag ++ be 8 (u64n ep) ++ be 8 (u64n h))) := hide ⟨by rw [u8s_app]; exact hown, by rw [List.length_append, HO2.out.2.1, be_len], app_below HO2.out.2.2 HO2.out.1 hg hs2 (Nat.le_refl _)⟩; clear hown hg hat hr2 HO2))
 have hs2 := HF2.out.2.2.size
 by_cases ht1 : tag = 1
 ·have hq : ((tag : Int) == 1) = true := by simp; omega
  have hq2 : (tag : Int) = 1 := by omega
  have HT1 := hide ht1
  go_upto_region 5 with fail
  clear hq hq2 ht1
  go_wp2_with fail
  refine (rnum_any z2 n n1 n2).mono ?_
  rintro e y3 ⟨rfl, hr, hb⟩
  have HO3 : Hid (FwI w y3 A2 (17) c2 (be 1 tag ++ be 8 (u64n ep) ++ be 8 (u64n h))) := hide ⟨own_below HF2.out.1 hb (fun g hg => (HF2.out.1.lt g hg).2), HF2.out.2.1, HF2.out.2.2.trans (hb.mono HF2.out.2.2.size)⟩
  have hr3 : Rd y3 y3.heap.size (some ⟨z2.heap.size, 0, none⟩) (u8s (be 8 (u64n n))) := rd_cells hr
  clear hr hb
  have hs3 : w.heap.size ≤ y3.heap.size := HO3.out.2.2.size
  go_upto_region 6 with (at_builtin; go_loud (refine wpList_app rfl (.tmp 24) (.tmp 26) 23 rfl w.heap.size 5 i0 (.int .u8 0) 1 1 Try.underlying23 hi0 hz0 hz1 hz2 rfl (by decide) (.slice A2 (17) c2) (17) _ rfl HO3.out.1 y3.heap.size (some ⟨z2.heap.size, 0, none⟩) 8 8 (u8s (be 8 (u64n n))) rfl (by simp [u8s_len, be_len]) hr3 (u8s_one _) (by unfold maxLen; omega) (by omega) hs3 ?_; intro A3 c3 z3 hown hg hat; have HF3 : Hid (FwI w z3 A3 (25) c3 (be 1 tag ++ be 8 (u64n ep) ++ be 8 (u64n h) ++ be 8 (u64n n))) := hide ⟨by rw [u8s_app]; exact hown, by rw [List.length_append, HO3.out.2.1, be_len], app_below HO3.out.2.2 HO3.out.1 hg hs3 (Nat.le_refl _)⟩; clear hown hg hat hr3 HO3))
  have hs4 : w.heap.size ≤ z3.heap.size := HF3.out.2.2.size
  go_wp2_with (at_builtin; go_loud (refine Go.Lib.wpList_append_own_string _ rfl (.tmp 28) (.tmp 29) 23 9 rfl w.heap.size 5 i0 Try.underlying23 Try.underlying9 hi0 hz0 hz1 hz2 (.slice A3 25 c3) 25 _ rfl HF3.out.1 ⟨b.toArray⟩ rfl (by rw [show ByteArray.size ⟨b.toArray⟩ = bl from HBl.out]; unfold maxLen; omega) (by rw [show ByteArray.size ⟨b.toArray⟩ = bl from HBl.out]; omega) hs4 ?_; intro v4 z4 hown hg hat; obtain ⟨A4, c4, rfl⟩ : ∃ A4 c4, v4 = .slice A4 (25 + bl) c4 := (by rw [show ByteArray.size ⟨b.toArray⟩ = bl from HBl.out] at hown; exact own_form hown); have HF4 : Hid (FwI w z4 A4 (25 + bl) c4 (be 1 tag ++ be 8 (u64n ep) ++ be 8 (u64n h) ++ be 8 (u64n n) ++ b)) := hide ⟨by rw [u8s_app, ← strCells_u8s]; rw [show ByteArray.size ⟨b.toArray⟩ = bl from HBl.out] at hown; exact hown, by rw [List.length_append, HF3.out.2.1, HBl.out], HF3.out.2.2.grown hg hs4 (fun k e => (HF3.out.1.lt k e).1)⟩; clear hown hg hat))
  obtain ⟨y, hy⟩ : ∃ z : World, z4 = z := ⟨_, rfl⟩
  rw [hy] at HF4 ⊢
  clear hy
  obtain ⟨F, hF⟩ : ∃ z, be 1 tag ++ be 8 (u64n ep) ++ be 8 (u64n h) ++ be 8 (u64n n) ++ b = z := ⟨_, rfl⟩
  have hfr : frI tag b ep h n = F ++ be 4 (crcm.sum F) := by rw [← hF]; unfold frI; rw [if_pos HT1.out]; unfold fr frB; simp [HT1.out]
  rw [hF] at HF4
  clear hF
  have hlF := HF4.out.2.1
  have HFr := hide hfr
  clear hfr
  have hrd : Rd y y.heap.size A4 (u8s F) := (Rd.of_own HF4.out.1)
  have hsum := refSum_any F A4 c4 y.heap.size y hrd (Nat.le_refl _) (by rw [hlF]; omega)
  rw [hlF] at hsum
  have HSm := hide hsum
  clear hsum hrd hlF
  go_wp2_with fail
  refine HSm.out.mono ?_
  rintro e y5 ⟨rfl, hb5⟩
  have HG5 : Hid (FwI w y5 A4 (25 + bl) c4 F) := hide ⟨own_below HF4.out.1 hb5 (fun g hg => (HF4.out.1.lt g hg).2), HF4.out.2.1, HF4.out.2.2.trans (hb5.mono HF4.out.2.2.size)⟩
  have hsl := crcm.sum_lt F
  obtain ⟨sm, hsm⟩ : ∃ z, crcm.sum F = z := ⟨_, rfl⟩
  rw [hsm] at hsl HFr ⊢
  have HDg := hide (rdigits_any y5 sm 4 (by omega) (by decide) (by decide))
  clear hb5 hsm HSm
  go_wp2_with fail
  refine (HDg.out).mono ?_
  rintro e y6 ⟨rfl, hr, hb⟩
  have HO6 : Hid (FwI w y6 A4 (25 + bl) c4 (F)) := hide ⟨own_below HG5.out.1 hb (fun g hg => (HG5.out.1.lt g hg).2), HG5.out.2.1, HG5.out.2.2.trans (hb.mono HG5.out.2.2.size)⟩
  have hr6 : Rd y6 y6.heap.size (some ⟨y5.heap.size, 0, none⟩) (u8s (be 4 sm)) := rd_cells hr
  clear hr hb
  have hs6 : w.heap.size ≤ y6.heap.size := HO6.out.2.2.size
  go_wp2_with (at_builtin; go_loud (refine wpList_app rfl (.tmp 31) (.tmp 35) 23 rfl w.heap.size 5 i0 (.int .u8 0) 1 1 Try.underlying23 hi0 hz0 hz1 hz2 rfl (by decide) (.slice A4 (25 + bl) c4) (25 + bl) _ rfl HO6.out.1 y6.heap.size (some ⟨y5.heap.size, 0, none⟩) 4 4 (u8s (be 4 sm)) rfl (by simp [u8s_len, be_len]) hr6 (u8s_one _) (by unfold maxLen; omega) (by omega) hs6 ?_; intro A6 c6 z6 hown hg hat; have HF6 : Hid (FwI w z6 A6 (25 + bl + 4) c6 (F ++ be 4 sm)) := hide ⟨by rw [u8s_app]; exact hown, by rw [List.length_append, HO6.out.2.1, be_len], app_below HO6.out.2.2 HO6.out.1 hg hs6 (Nat.le_refl _)⟩; clear hown hg hat hr6 HO6; have kc := run_string_of (P := Try.prog) z6 23 9 5 A6 c6 _ (F ++ be 4 sm) Try.underlying23 Try.underlying5 Try.underlying9 (Rd.of_own HF6.out.1); rw [HF6.out.2.1] at kc))
  go_wp2
  go_ret
  exact ⟨by rw [HFr.out]; rfl, HF6.out.2.2⟩
 ·have hq : ((tag : Int) == 1) = false := by simp; omega
  have hq2 : ¬ (tag : Int) = 1 := by omega
  have HT1 := hide ht1
  go_upto_region 7 with fail
  clear hq hq2 ht1
  obtain ⟨y, hy⟩ : ∃ z : World, z2 = z := ⟨_, rfl⟩
  rw [hy] at HF2 ⊢
  clear hy
  obtain ⟨F, hF⟩ : ∃ z, be 1 tag ++ be 8 (u64n ep) ++ be 8 (u64n h) = z := ⟨_, rfl⟩
  have hfr : frI tag b ep h n = F ++ be 4 (crcm.sum F) := by rw [← hF]; unfold frI; rw [if_neg HT1.out]; unfold fr frB; simp
  rw [hF] at HF2
  clear hF
  have hlF := HF2.out.2.1
  have HFr := hide hfr
  clear hfr
  have hrd : Rd y y.heap.size A2 (u8s F) := (Rd.of_own HF2.out.1)
  have hsum := refSum_any F A2 c2 y.heap.size y hrd (Nat.le_refl _) (by rw [hlF]; omega)
  rw [hlF] at hsum
  have HSm := hide hsum
  clear hsum hrd hlF
  go_wp2_with fail
  refine HSm.out.mono ?_
  rintro e y5 ⟨rfl, hb5⟩
  have HG5 : Hid (FwI w y5 A2 (17) c2 F) := hide ⟨own_below HF2.out.1 hb5 (fun g hg => (HF2.out.1.lt g hg).2), HF2.out.2.1, HF2.out.2.2.trans (hb5.mono HF2.out.2.2.size)⟩
  have hsl := crcm.sum_lt F
  obtain ⟨sm, hsm⟩ : ∃ z, crcm.sum F = z := ⟨_, rfl⟩
  rw [hsm] at hsl HFr ⊢
  have HDg := hide (rdigits_any y5 sm 4 (by omega) (by decide) (by decide))
  clear hb5 hsm HSm
  go_wp2_with fail
  refine (HDg.out).mono ?_
  rintro e y6 ⟨rfl, hr, hb⟩
  have HO6 : Hid (FwI w y6 A2 (17) c2 (F)) := hide ⟨own_below HG5.out.1 hb (fun g hg => (HG5.out.1.lt g hg).2), HG5.out.2.1, HG5.out.2.2.trans (hb.mono HG5.out.2.2.size)⟩
  have hr6 : Rd y6 y6.heap.size (some ⟨y5.heap.size, 0, none⟩) (u8s (be 4 sm)) := rd_cells hr
  clear hr hb
  have hs6 : w.heap.size ≤ y6.heap.size := HO6.out.2.2.size
  go_wp2_with (at_builtin; go_loud (refine wpList_app rfl (.tmp 31) (.tmp 35) 23 rfl w.heap.size 5 i0 (.int .u8 0) 1 1 Try.underlying23 hi0 hz0 hz1 hz2 rfl (by decide) (.slice A2 (17) c2) (17) _ rfl HO6.out.1 y6.heap.size (some ⟨y5.heap.size, 0, none⟩) 4 4 (u8s (be 4 sm)) rfl (by simp [u8s_len, be_len]) hr6 (u8s_one _) (by unfold maxLen; omega) (by omega) hs6 ?_; intro A6 c6 z6 hown hg hat; have HF6 : Hid (FwI w z6 A6 (21) c6 (F ++ be 4 sm)) := hide ⟨by rw [u8s_app]; exact hown, by rw [List.length_append, HO6.out.2.1, be_len], app_below HO6.out.2.2 HO6.out.1 hg hs6 (Nat.le_refl _)⟩; clear hown hg hat hr6 HO6; have kc := run_string_of (P := Try.prog) z6 23 9 5 A6 c6 _ (F ++ be 4 sm) Try.underlying23 Try.underlying5 Try.underlying9 (Rd.of_own HF6.out.1); rw [HF6.out.2.1] at kc))
  go_wp2
  go_ret
  exact ⟨by rw [HFr.out]; rfl, HF6.out.2.2⟩
end Go.Proofs.Ytigmmikijjcdiaa
namespace Go.Proofs.Ytigmmikijjcdiaa
open Go.RowKit
theorem num_snoc_mod (l : List UInt8) (b : UInt8) : num (l ++ [b]) / 256 = num l ∧ UInt8.ofNat (num (l ++ [b])) = b := by
 rw [num_snoc]
 have := b.toNat_lt
 constructor
 ·omega
 ·apply UInt8.toNat_inj.1
  rw [UInt8.toNat_ofNat']
  omega
theorem be_num : ∀ (n : Nat) (l : List UInt8), l.length = n → be n (num l) = l
 | 0, l, h => by rw [List.eq_nil_of_length_eq_zero h]; rfl
 | n + 1, l, h => by
  rcases List.eq_nil_or_concat l with rfl | ⟨l', b, rfl⟩
  ·simp at h
  ·rw [List.concat_eq_append] at h ⊢
   obtain ⟨h1, h2⟩ := num_snoc_mod l' b
   rw [be, h1, h2, be_num n l' (by simpa using h)]
def numI (f : BL) (at_ : Nat) : Int := if (f.length : Int) - 4 < (at_ : Int) + 8 then -1 else if mostL < num ((f.drop at_).take 8) then -1 else (num ((f.drop at_).take 8) : Nat)
theorem rnumber_any (w : World) (A : Option Addr) (f : BL) (c at_ : Nat) (hR : Rd w w.heap.size A (u8s f)) (hc : f.length ≤ c) (hc2 : c ≤ 9223372036854775807) (hat : at_ ≤ 17) :
  Calls Try.prog 75 #[.slice A f.length c, .int .i64 at_] w fun e w' => e = .returned (.int .i64 (numI f at_)) ∧ w' = w := by
 obtain ⟨m, hm⟩ : ∃ z, f.length = z := ⟨_, rfl⟩
 rw [hm] at hc ⊢
 have HM := hide hm
 have HR := hide hR
 obtain ⟨dl, hdl⟩ : ∃ z, (f.drop at_).take 8 = z := ⟨_, rfl⟩
 have hnl : num dl < 18446744073709551616 := by have h9 := num_lt dl; have h8 : 256 ^ dl.length ≤ 256 ^ 8 := Nat.pow_le_pow_right (by omega) (by rw [← hdl, List.length_take]; omega); omega
 obtain ⟨nn, hnn⟩ : ∃ z, num dl = z := ⟨_, rfl⟩
 rw [hnn] at hnl
 have hE : numI f at_ = if (m : Int) - 4 < (at_ : Int) + 8 then -1 else if 4611686018427387904 < nn then -1 else (nn : Int) := by unfold numI mostL; rw [hm, hdl, hnn]
 have HE := hide hE
 have HDl := hide hdl
 have HNn := hide hnn
 clear hm hR hE hdl hnn
 by_cases hs : (m : Int) - 4 < (at_ : Int) + 8
 ·have HE2 : Hid (numI f at_ = -1) := hide (by rw [HE.out, if_pos hs])
  go_enter Try.func75, Try.ntmps75
  go_wp2
  go_ret
  exact ⟨by rw [HE2.out]; rfl, rfl⟩
 ·have hne : f ≠ [] := by rintro rfl; have := HM.out; simp at this; omega
  obtain ⟨g, off, rfl, hg, -⟩ := HR.out (by intro e; apply hne; have := congrArg List.length e; rw [u8s_len] at this; exact List.eq_nil_of_length_eq_zero (by simpa using this))
  have hrd := rd_drop HR.out at_
  have hcall := rnumber0_any w (some ⟨g, off + at_, none⟩) dl 8 (c - at_) (by rw [← HDl.out, List.length_take, List.length_drop, HM.out]; omega) (by rw [← HDl.out]; have h := hrd.take 8; rw [show u8s ((f.drop at_).take 8) = ((u8s f).drop at_).take 8 by unfold u8s; rw [List.map_take, List.map_drop]]; exact h) (by decide)
  rw [HNn.out] at hcall
  have HCl := hide hcall
  clear hcall hrd hne
  have q1 : (at_ : Int) + 8 ≤ (c : Int) := by omega
  have kw : IntKind.i64.wrap ((at_ : Int) + 8) = (at_ : Int) + 8 := IntWalk.i64_in _ (by omega)
  have kw2 : IntKind.i64.wrap ((m : Int) - 4) = (m : Int) - 4 := IntWalk.i64_in _ (by omega)
  go_enter Try.func75, Try.ntmps75
  go_wp2_with fail
  refine HCl.out.mono ?_
  rintro e w1 ⟨rfl, rfl⟩
  by_cases hb : 4611686018427387904 < nn
  ·have HE2 : Hid (numI f at_ = -1) := hide (by rw [HE.out, if_neg (by omega), if_pos (by omega)])
   have hb1 : (4611686018427387904 : Int) < (nn : Int) := by omega
   go_wp2
   go_ret
   exact ⟨by rw [HE2.out]; rfl, rfl⟩
  ·have HE2 : Hid (numI f at_ = (nn : Int)) := hide (by rw [HE.out, if_neg (by omega), if_neg (by omega)])
   have hb1 : ¬ (4611686018427387904 : Int) < (nn : Int) := by omega
   go_wp2
   go_ret
   exact ⟨by rw [HE2.out]; rfl, rfl⟩
end Go.Proofs.Ytigmmikijjcdiaa
namespace Go.Proofs.Ytigmmikijjcdiaa
open Go.RowKit
theorem five_of (g : BL) : g.take 1 ++ ((g.drop 1).take 8 ++ ((g.drop 9).take 8 ++ ((g.drop 17).take 8 ++ g.drop 25))) = g := by
 rw [show g.drop 25 = (g.drop 17).drop 8 by rw [List.drop_drop], List.take_append_drop, show g.drop 17 = (g.drop 9).drop 8 by rw [List.drop_drop], List.take_append_drop, show g.drop 9 = (g.drop 1).drop 8 by rw [List.drop_drop], List.take_append_drop, List.take_append_drop]
theorem three_of (g : BL) : g.take 1 ++ ((g.drop 1).take 8 ++ ((g.drop 9).take 8 ++ g.drop 17)) = g := by
 rw [show g.drop 17 = (g.drop 9).drop 8 by rw [List.drop_drop], List.take_append_drop, show g.drop 9 = (g.drop 1).drop 8 by rw [List.drop_drop], List.take_append_drop, List.take_append_drop]
theorem sub8 (f : BL) {k q : Nat} (h : k + 8 ≤ q) : ((f.take q).drop k).take 8 = (f.drop k).take 8 := by
 rw [List.drop_take, List.take_take, Nat.min_eq_left (by omega)]
theorem be_num8 {f : BL} {k : Nat} (h : k + 8 ≤ f.length) : be 8 (num ((f.drop k).take 8)) = (f.drop k).take 8 := be_num 8 _ (by rw [List.length_take, List.length_drop]; omega)
theorem fr_sum {f : BL} {tag : Nat} {b : BL} {ns : List Nat} (h4 : 4 ≤ f.length) (hB : frB tag b ns = f.take (f.length - 4)) : fr tag b ns = f ↔ num (f.drop (f.length - 4)) = crcm.sum (f.take (f.length - 4)) := by
 constructor
 ·intro h
  have e1 := fr_drop tag b ns
  rw [h] at e1
  rw [e1, ← hB, num_be_lt (sum_lt _)]
 ·intro h
  unfold fr
  rw [hB, ← h, be_num 4 _ (by rw [List.length_drop]; omega), List.take_append_drop]
theorem frB_one {f : BL} (h : 29 ≤ f.length) (h0 : num (f.take 1) = 1) : frB 1 ((f.take (f.length - 4)).drop 25) [num ((f.drop 1).take 8), num ((f.drop 9).take 8), num ((f.drop 17).take 8)] = f.take (f.length - 4) := by
 have e1 : be 1 1 = f.take 1 := by have := be_num 1 (f.take 1) (by rw [List.length_take]; omega); rwa [h0] at this
 have h5 := five_of (f.take (f.length - 4))
 rw [sub8 f (by omega), sub8 f (by omega), sub8 f (by omega), List.take_take, Nat.min_eq_left (by omega)] at h5
 unfold frB
 simp only [List.flatMap_cons, List.flatMap_nil, List.append_nil]
 rw [be_num8 (by omega), be_num8 (by omega), be_num8 (by omega), e1]
 simpa using h5
theorem frB_two {f : BL} (h : f.length = 21) (h0 : num (f.take 1) = 2) : frB 2 [] [num ((f.drop 1).take 8), num ((f.drop 9).take 8)] = f.take (f.length - 4) := by
 have e1 : be 1 2 = f.take 1 := by have := be_num 1 (f.take 1) (by rw [List.length_take]; omega); rwa [h0] at this
 have h5 := three_of (f.take (f.length - 4))
 rw [sub8 f (by omega), sub8 f (by omega), List.take_take, Nat.min_eq_left (by omega), show (f.take (f.length - 4)).drop 17 = [] by rw [List.drop_eq_nil_iff, List.length_take]; omega] at h5
 unfold frB
 simp only [List.flatMap_cons, List.flatMap_nil, List.append_nil]
 rw [be_num8 (by omega), be_num8 (by omega), e1]
 simpa using h5
theorem most_u {n : Nat} (h : n ≤ mostL) : u64n (n : Int) = n := u64n_nat (by unfold mostL at h; omega)
theorem numI_eq {f : BL} {k : Nat} (h : k + 12 ≤ f.length) : numI f k = if mostL < num ((f.drop k).take 8) then (-1 : Int) else ((num ((f.drop k).take 8) : Nat) : Int) := by
 unfold numI
 rw [if_neg (by omega)]
theorem rd_one {f : BL} (h21 : 21 ≤ f.length) (h0 : num (f.take 1) = 1) : readL f = if numI f 17 < 1 ∨ numI f 1 < 0 ∨ numI f 9 < 0 ∨ 1048576 < (f.length : Int) - 29 ∨ frI 1 ((f.take (f.length - 4)).drop 25) (numI f 1) (numI f 9) (numI f 17) ≠ f then none else some ((numI f 1).toNat, (numI f 9).toNat, (numI f 17).toNat, (f.take (f.length - 4)).drop 25) := by
 have ht : num ((f.take (f.length - 4)).take 1) = 1 := by rw [List.take_take, Nat.min_eq_left (by omega)]; exact h0
 have hgl : (f.take (f.length - 4)).length = f.length - 4 := by rw [List.length_take]; omega
 unfold readL
 rw [if_neg (by omega)]
 dsimp only
 rw [ht, hgl, sub8 f (by omega), sub8 f (by omega), if_neg (show ¬ ((1 : Nat) = 2) by decide), if_pos rfl]
 by_cases hq : f.length < 29
 ·have e17 : numI f 17 = -1 := by unfold numI; rw [if_pos (by omega)]
  rw [if_pos (show numI f 17 < 1 ∨ _ by left; rw [e17]; decide), if_neg (show ¬ (25 ≤ f.length - 4 ∧ _) by omega)]
  split <;> rfl
 ·have e1 := numI_eq (f := f) (k := 1) (by omega)
  have e9 := numI_eq (f := f) (k := 9) (by omega)
  have e17 := numI_eq (f := f) (k := 17) (by omega)
  have hiff := fr_sum (tag := 1) (f := f) (by omega) (frB_one (by omega) h0)
  rw [sub8 f (by omega)]
  have hd : ((f.take (f.length - 4)).drop 25).length = f.length - 29 := by rw [List.length_drop, hgl]; omega
  rw [hd]
  generalize num ((f.drop 1).take 8) = ep at *
  generalize num ((f.drop 9).take 8) = hh at *
  generalize num ((f.drop 17).take 8) = n at *
  generalize (f.take (f.length - 4)).drop 25 = b at *
  by_cases c1 : mostL < ep
  ·rw [if_pos (.inr (.inl c1)), if_pos (.inr (.inl (by rw [e1, if_pos c1]; decide)))]
  by_cases c2 : mostL < hh
  ·rw [if_pos (.inr (.inr c2)), if_pos (.inr (.inr (.inl (by rw [e9, if_pos c2]; decide))))]
  rw [if_neg c1] at e1
  rw [if_neg c2] at e9
  by_cases c3 : mostL < n
  ·rw [if_pos c3] at e17
   rw [if_pos (show numI f 17 < 1 ∨ _ by left; rw [e17]; decide), if_neg (show ¬ (25 ≤ f.length - 4 ∧ 1 ≤ n ∧ n ≤ mostL ∧ _) by omega)]
   split <;> rfl
  rw [if_neg c3] at e17
  rw [e1, e9, e17]
  have hfr : frI 1 b (ep : Int) (hh : Int) (n : Int) = fr 1 b [ep, hh, n] := by unfold frI; rw [if_pos rfl, most_u (by omega), most_u (by omega), most_u (by omega)]
  rw [hfr]
  by_cases c4 : fr 1 b [ep, hh, n] = f
  ·have hs := hiff.1 c4
   rw [if_neg (show ¬ (num (f.drop (f.length - 4)) ≠ crcm.sum (f.take (f.length - 4)) ∨ mostL < ep ∨ mostL < hh) by omega)]
   by_cases c5 : 1 ≤ n ∧ f.length - 29 ≤ 1048576
   ·rw [if_pos ⟨by omega, c5.1, by omega, c5.2⟩, if_neg]
    ·rfl
    ·rintro (h | h | h | h | h)
     ·omega
     ·omega
     ·omega
     ·omega
     ·exact h c4
   ·rw [if_neg (show ¬ (25 ≤ f.length - 4 ∧ 1 ≤ n ∧ n ≤ mostL ∧ f.length - 29 ≤ 1048576) by omega), if_pos]
    by_cases c6 : 1 ≤ n
    ·exact .inr (.inr (.inr (.inl (by omega))))
    ·exact .inl (by omega)
  ·rw [if_pos (.inl fun h => c4 (hiff.2 h)), if_pos (.inr (.inr (.inr (.inr c4))))]
theorem rd_two {f : BL} (h21 : 21 ≤ f.length) (h0 : num (f.take 1) = 2) : readL f = if numI f 1 < 0 ∨ numI f 9 < 0 ∨ frI 2 [] (numI f 1) (numI f 9) 0 ≠ f then none else some ((numI f 1).toNat, (numI f 9).toNat, 0, []) := by
 have ht : num ((f.take (f.length - 4)).take 1) = 2 := by rw [List.take_take, Nat.min_eq_left (by omega)]; exact h0
 have hgl : (f.take (f.length - 4)).length = f.length - 4 := by rw [List.length_take]; omega
 unfold readL
 rw [if_neg (by omega)]
 dsimp only
 rw [ht, hgl, sub8 f (by omega), sub8 f (by omega), if_pos rfl]
 have e1 := numI_eq (f := f) (k := 1) (by omega)
 have e9 := numI_eq (f := f) (k := 9) (by omega)
 by_cases hq : f.length = 21
 ·have hiff := fr_sum (tag := 2) (f := f) (by omega) (frB_two hq h0)
  generalize num ((f.drop 1).take 8) = ep at *
  generalize num ((f.drop 9).take 8) = hh at *
  by_cases c1 : mostL < ep
  ·rw [if_pos (.inr (.inl c1)), if_pos (.inl (by rw [e1, if_pos c1]; decide))]
  by_cases c2 : mostL < hh
  ·rw [if_pos (.inr (.inr c2)), if_pos (.inr (.inl (by rw [e9, if_pos c2]; decide)))]
  rw [if_neg c1] at e1
  rw [if_neg c2] at e9
  rw [e1, e9]
  have hfr : frI 2 [] (ep : Int) (hh : Int) 0 = fr 2 [] [ep, hh] := by unfold frI; rw [if_neg (by decide), most_u (by omega), most_u (by omega)]
  rw [hfr]
  by_cases c4 : fr 2 [] [ep, hh] = f
  ·rw [if_neg (show ¬ (num (f.drop (f.length - 4)) ≠ crcm.sum (f.take (f.length - 4)) ∨ mostL < ep ∨ mostL < hh) by have := hiff.1 c4; omega), if_pos (show f.length - 4 = 17 by omega), if_neg]
   ·rfl
   ·rintro (h | h | h)
    ·omega
    ·omega
    ·exact h c4
  ·rw [if_pos (.inl fun h => c4 (hiff.2 h)), if_pos (.inr (.inr c4))]
 ·have hne : frI 2 [] (numI f 1) (numI f 9) 0 ≠ f := by
   intro h
   have := congrArg List.length h
   unfold frI at this
   rw [if_neg (by decide)] at this
   unfold fr frB at this
   simp [be_len] at this
   omega
  rw [if_pos (show numI f 1 < 0 ∨ numI f 9 < 0 ∨ _ from .inr (.inr hne)), if_neg (show ¬ f.length - 4 = 17 by omega)]
  split <;> rfl
theorem rd_none {f : BL} (h1 : num (f.take 1) ≠ 1) (h2 : num (f.take 1) ≠ 2) : readL f = none := by
 unfold readL
 by_cases h21 : f.length < 21
 ·rw [if_pos h21]
 ·rw [if_neg h21]
  dsimp only
  have ht : num ((f.take (f.length - 4)).take 1) = num (f.take 1) := by rw [List.take_take, Nat.min_eq_left (by omega)]
  rw [ht, if_neg h1, if_neg h2]
  split <;> rfl
end Go.Proofs.Ytigmmikijjcdiaa
