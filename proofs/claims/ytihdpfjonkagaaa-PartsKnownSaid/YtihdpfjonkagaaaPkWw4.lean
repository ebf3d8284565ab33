/- Lemmas: Sme, Erw, Orw. -/
import Derived.Test.YtihdpfjonkagaaaProg
import Derived.Lib.Hide
import Derived.Shelf.SlicesE.Kit
import Derived.WalkSpells
import Derived.WalkMore
import Derived.Test.YtihdpfjonkagaaaPkWw3
set_option linter.unusedVariables false
set_option linter.unusedSimpArgs false
set_option maxRecDepth 100000
set_option maxHeartbeats 16000000
namespace Go.Proofs.Ytihdpfjonkagaaa
open Go.RowKit
theorem sameEdges_any (w : World) (A B : Option Addr) (xs ys : List Ed) (n m c d : Nat) (hx : xs.length = n) (hy : ys.length = m) (hn : n ≤ 9223372036854775807) (rx : Eds w w.heap.size A xs) (ry : Eds w w.heap.size B ys) :
  Calls Try.prog 19 #[.slice A n c, .slice B m d] w fun e w' => e = .returned (.bool (eqL xs ys)) ∧ Below w.heap.size w w' := by
 have HX := hide hx
 have HY := hide hy
 have RX := hide rx
 have RY := hide ry
 clear hx hy rx ry
 by_cases hnm : n = m
 ·obtain rfl := hnm
  go_enter Try.func19, Try.ntmps19
  go_wp2
  go_loopw [5] (fun vi wr => ∃ i : Nat, i ≤ n ∧ vi = .int .i64 i ∧ Hid (eqL xs ys = eqL (xs.drop i) (ys.drop i)) ∧ Hid (Kept w wr) ∧ Hid (Below w.heap.size w wr)) (fun vi _ => n - (intOf vi).toNat)
  case atStart => exact ⟨0, by omega, rfl, hide rfl, hide (Kept.refl w), hide (Below.refl _ _)⟩
  case round =>
   obtain ⟨i, hi, rfl, heq, hkr, hbr⟩ := hrel
   by_cases hlt : i < n
   ·have hi1 : i < xs.length := by rw [HX.out]; exact hlt
    have hi2 : i < ys.length := by rw [HY.out]; exact hlt
    have HS := hide (eqL_step xs ys i hi1 hi2)
    obtain ⟨b1, o1, rfl, l1, cx0, cx1, cx2, _w1, _w2⟩ := Eds.get RX.out (List.getElem?_eq_getElem hi1)
    obtain ⟨b2, o2, rfl, l2, cy0, cy1, cy2, _w3, _w4⟩ := Eds.get RY.out (List.getElem?_eq_getElem hi2)
    obtain ⟨x, hx⟩ : ∃ x, xs[i] = x := ⟨_, rfl⟩
    obtain ⟨y, hy⟩ : ∃ y, ys[i] = y := ⟨_, rfl⟩
    rw [hx] at cx0 cx1 cx2 HS
    rw [hy] at cy0 cy1 cy2 HS
    obtain ⟨x1, x2, x3⟩ := x
    obtain ⟨y1, y2, y3⟩ := y
    dsimp only at cx0 cx1 cx2 cy0 cy1 cy2
    have hI0 : (0 : Int) ≤ (i : Int) := by omega
    have hI1 : (i : Int) < (n : Int) := by omega
    clear hx hy hi1 hi2 _w1 _w2 _w3 _w4
    by_cases hxy : ((x1, x2, x3) : Ed) = (y1, y2, y3)
    ·have HE : Hid (eqL xs ys = eqL (xs.drop (i + 1)) (ys.drop (i + 1))) := hide (by rw [heq.out, HS.out, decide_eq_true hxy, Bool.true_and])
     injection hxy with hxy1 hxy2
     injection hxy2 with hxy2 hxy3
     subst hxy1 hxy2 hxy3
     go_wp2
     refine wp_region_held_drew (S := Kept w) (by kernel_rfl) (fun p hp => hkr.out p hp) (fun hS0 => ?_)
     refine tk 0 17 ?_ ?_ ?_; rotate_left; (focus (intro w h; go_simp; (try with_reducible rfl))); (try simp only [xd, xe, xf])
     refine tk 1 18 ?_ ?_ ?_; rotate_left; (focus (intro w h; go_simp; (try with_reducible rfl))); (try simp only [xd, xe, xf])
     refine tk 2 19 ?_ ?_ ?_; rotate_left; (focus (intro w h; go_simp; (try with_reducible rfl))); (try simp only [xd, xe, xf])
     refine tk 3 20 ?_ ?_ ?_; rotate_left; (focus (intro w h; go_simp; (try with_reducible rfl))); (try simp only [xd, xe, xf])
     refine tk 4 21 ?_ ?_ ?_; rotate_left; (focus (intro w h; go_simp; (try with_reducible rfl))); (try simp only [xd, xe, xf])
     refine tk 5 22 ?_ ?_ ?_; rotate_left; (focus (intro w h; go_simp; (try with_reducible rfl))); (try simp only [xd, xe, xf])
     refine tk 6 23 ?_ ?_ ?_; rotate_left; (focus (intro w h; go_simp; (try with_reducible rfl))); (try simp only [xd, xe, xf])
     refine tk 7 24 ?_ ?_ ?_; rotate_left; (focus (intro w h; go_simp; (try with_reducible rfl))); (try simp only [xd, xe, xf])
     refine tk 8 25 ?_ ?_ ?_; rotate_left; (focus (intro w h; go_simp; (try with_reducible rfl))); (try simp only [xd, xe, xf])
     refine wpAnyH_done (by kernel_rfl) ?_ _
     go_wp2
     go_roundw
     case rel => exact ⟨i + 1, by omega, by go_num, HE, hide (fun p hp => hkr.out p hp), hide hbr.out.drew⟩
     case measure => simp [intOf]; omega
    ·have HE : Hid (eqL xs ys = false) := hide (by rw [heq.out, HS.out, decide_eq_false hxy, Bool.false_and])
     have HXY : Hid (¬ (x1 = y1 ∧ x2 = y2 ∧ x3 = y3)) := hide (fun h => hxy (by rw [h.1, h.2.1, h.2.2]))
     clear hxy
     go_wp2
     refine wp_region_held_drew (S := Kept w) (by kernel_rfl) (fun p hp => hkr.out p hp) (fun hS0 => ?_)
     refine tk 0 17 ?_ ?_ ?_; rotate_left; (focus (intro w h; go_simp; (try with_reducible rfl))); (try simp only [xd, xe, xf])
     refine tk 1 18 ?_ ?_ ?_; rotate_left; (focus (intro w h; go_simp; (try with_reducible rfl))); (try simp only [xd, xe, xf])
     refine tk 2 19 ?_ ?_ ?_; rotate_left; (focus (intro w h; go_simp; (try with_reducible rfl))); (try simp only [xd, xe, xf])
     refine tk 3 20 ?_ ?_ ?_; rotate_left; (focus (intro w h; go_simp; (try with_reducible rfl))); (try simp only [xd, xe, xf])
     refine tk 4 21 ?_ ?_ ?_; rotate_left; (focus (intro w h; go_simp; (try with_reducible rfl))); (try simp only [xd, xe, xf])
     refine tk 5 22 ?_ ?_ ?_; rotate_left; (focus (intro w h; go_simp; (try with_reducible rfl))); (try simp only [xd, xe, xf])
     refine tk 6 23 ?_ ?_ ?_; rotate_left; (focus (intro w h; go_simp; (try with_reducible rfl))); (try simp only [xd, xe, xf])
     refine tk 7 24 ?_ ?_ ?_; rotate_left; (focus (intro w h; go_simp; (try with_reducible rfl))); (try simp only [xd, xe, xf])
     refine tk 8 25 ?_ ?_ ?_; rotate_left; (focus (intro w hSw; go_simp; show _ = Result.ok (Next.value (Value.bool true)) w; (by_cases q1 : x1 = y1 <;> by_cases q2 : x2 = y2 <;> by_cases q3 : x3 = y3 <;> first | (simp [q1, q2, q3]; done) | (exact absurd (And.intro q1 (And.intro q2 q3)) HXY.out)); done)); (try simp only [xd, xe, xf])
     refine wpAnyH_done (by kernel_rfl) ?_ _
     go_wp2
     go_ret
     exact ⟨ret_b (by rw [HE.out]), hbr.out.drew⟩
   ·obtain rfl : i = n := by omega
    have HE : Hid (eqL xs ys = true) := hide (by rw [heq.out, List.drop_of_length_le (by have := HX.out; omega), List.drop_of_length_le (by have := HY.out; omega)]; exact eqL_nil)
    go_wp2
    go_ret
    exact ⟨ret_b (by rw [HE.out]), hbr.out⟩
 ·have hne : ((n : Int) == (m : Int)) = false := by simp; omega
  have hne2 : ((n : Int) != (m : Int)) = true := by simp; omega
  have HE : Hid (eqL xs ys = false) := hide (eqL_len (by rw [HX.out, HY.out]; exact hnm))
  go_enter Try.func19, Try.ntmps19
  go_wp2
  go_ret
  exact ⟨ret_b (by rw [HE.out]), Below.refl _ _⟩
end Go.Proofs.Ytihdpfjonkagaaa
namespace Go.Proofs.Ytihdpfjonkagaaa
open Go.RowKit
def erwCells (w : World) (B : Nat) (cs : List Value) (es : List Ed) : Prop := ∃ (A : Option Addr) (c : Nat), cs = [.slice A es.length c] ∧ es.length ≤ c ∧ c ≤ 9223372036854775807 ∧ Eds w B A es
def ERows (w : World) (B : Nat) (A : Option Addr) (rs : List (List Ed)) : Prop := Els w B 1 A rs (erwCells w B)
theorem ERows.keep {w w' : World} {B : Nat} {A : Option Addr} {rs : List (List Ed)} (h : ERows w B A rs) (hk : ∀ p : Addr, p.block < B → w'.cell? p = w.cell? p) : ERows w' B A rs :=
 Els.keep h hk fun cs es ⟨A, c, e, h1, h2, h3⟩ => ⟨A, c, e, h1, h2, Els.keep h3 hk fun _ _ h => h⟩
theorem ERows.get {w : World} {B : Nat} {A : Option Addr} {rs : List (List Ed)} (h : ERows w B A rs) {i : Nat} {es : List Ed} (he : rs[i]? = some es) : ∃ b off A2 c, A = some ⟨b, off, none⟩ ∧ b < B ∧ w.cell? ⟨b, off + i, none⟩ = some (.slice A2 es.length c) ∧ es.length ≤ c ∧ c ≤ 9223372036854775807 ∧ Eds w B A2 es := by
 obtain ⟨b, off, rfl, hb⟩ := Els.at_ h (List.getElem?_eq_some_iff.1 he).1
 obtain ⟨cs, hl, ⟨A2, c, rfl, h1, h2, h3⟩, hc⟩ := Els.get h he
 exact ⟨b, off, A2, c, rfl, hb, by simpa using hc 0 _ rfl, h1, h2, h3⟩
theorem ERows.more {w : World} {B B' : Nat} {A : Option Addr} {rs : List (List Ed)} (h : ERows w B A rs) (hB : B ≤ B') : ERows w B' A rs :=
 Els.more (Els.keep h (fun _ _ => rfl) fun cs es ⟨A, c, e, h1, h2, h3⟩ => ⟨A, c, e, h1, h2, Els.more h3 hB⟩) hB
theorem ERows.next {w w' : World} {A : Option Addr} {rs : List (List Ed)} (h : ERows w w.heap.size A rs) (hb : Below w.heap.size w w') : ERows w' w'.heap.size A rs := (h.keep fun p hp => hb.cell hp).more hb.size
theorem sameRows_any (w : World) (A B : Option Addr) (xs ys : List (List Ed)) (n m c d : Nat) (hx : xs.length = n) (hy : ys.length = m) (hn : n ≤ 9223372036854775807) (rx : ERows w w.heap.size A xs) (ry : ERows w w.heap.size B ys) :
  Calls Try.prog 38 #[.slice A n c, .slice B m d] w fun e w' => e = .returned (.bool (eqL xs ys)) ∧ Below w.heap.size w w' := by
 have HX := hide hx
 have HY := hide hy
 have RX := hide rx
 have RY := hide ry
 clear hx hy rx ry
 by_cases hnm : n = m
 ·obtain rfl := hnm
  go_enter Try.func38, Try.ntmps38
  go_wp2
  go_loopw [5] (fun vi wr => ∃ i : Nat, i ≤ n ∧ vi = .int .i64 i ∧ Hid (eqL xs ys = eqL (xs.drop i) (ys.drop i)) ∧ Hid (Kept w wr) ∧ Hid (Below w.heap.size w wr)) (fun vi _ => n - (intOf vi).toNat)
  case atStart => exact ⟨0, by omega, rfl, hide rfl, hide (Kept.refl w), hide (Below.refl _ _)⟩
  case round =>
   obtain ⟨i, hi, rfl, heq, hkr, hbr⟩ := hrel
   by_cases hlt : i < n
   ·have hi1 : i < xs.length := by rw [HX.out]; exact hlt
    have hi2 : i < ys.length := by rw [HY.out]; exact hlt
    have HS := hide (eqL_step xs ys i hi1 hi2)
    obtain ⟨b1, o1, A1, d1, rfl, l1, cx, x1, x2, ex⟩ := RX.out.get (List.getElem?_eq_getElem hi1)
    obtain ⟨b2, o2, A2, d2, rfl, l2, cy, y1, y2, ey⟩ := RY.out.get (List.getElem?_eq_getElem hi2)
    obtain ⟨x, hx⟩ : ∃ x, xs[i] = x := ⟨_, rfl⟩
    obtain ⟨y, hy⟩ : ∃ y, ys[i] = y := ⟨_, rfl⟩
    rw [hx] at cx HS x1 ex
    rw [hy] at cy HS y1 ey
    obtain ⟨nx, hnx⟩ : ∃ nx, x.length = nx := ⟨_, rfl⟩
    obtain ⟨ny, hny⟩ : ∃ ny, y.length = ny := ⟨_, rfl⟩
    rw [hnx] at cx x1
    rw [hny] at cy y1
    have hI0 : (0 : Int) ≤ (i : Int) := by omega
    have hI1 : (i : Int) < (n : Int) := by omega
    have HNX := hide hnx
    have HNY := hide hny
    have EX : Hid (Eds wr.drew wr.drew.heap.size A1 x) := hide (Els.more (Els.keep ex (fun p hp => hkr.out p hp) fun _ _ h => h) (by have := hbr.out.size; exact this))
    have EY : Hid (Eds wr.drew wr.drew.heap.size A2 y) := hide (Els.more (Els.keep ey (fun p hp => hkr.out p hp) fun _ _ h => h) (by have := hbr.out.size; exact this))
    have hS00 : Hid (Kept w wr.drew) := hide (fun p hp => hkr.out p hp)
    clear hx hy hi1 hi2 hnx hny ex ey
    obtain ⟨q, hq⟩ : ∃ q, eqL x y = q := ⟨_, rfl⟩
    have HQ := hide hq
    rcases q with _ | _
    ·have HE : Hid (eqL xs ys = false) := hide (by rw [heq.out, HS.out, show decide (x = y) = false from hq, Bool.false_and])
     clear hq
     go_wp2
     refine wp_region_held_drew (S := Kept w) (by kernel_rfl) hS00.out (fun hS0 => ?_)
     refine tk 0 17 ?_ ?_ ?_; rotate_left; (focus (intro w h; go_simp; (try with_reducible rfl))); (try simp only [xd, xe, xf])
     refine tk 1 18 ?_ ?_ ?_; rotate_left; (focus (intro w h; go_simp; (try with_reducible rfl))); (try simp only [xd, xe, xf])
     refine tk 2 19 ?_ ?_ ?_; rotate_left; (focus (intro w h; go_simp; (try with_reducible rfl))); (try simp only [xd, xe, xf])
     refine tk 3 20 ?_ ?_ ?_; rotate_left; (focus (intro w h; go_simp; (try with_reducible rfl))); (try simp only [xd, xe, xf])
     refine tk 4 21 ?_ ?_ ?_; rotate_left; (focus (intro w h; go_simp; (try with_reducible rfl))); (try simp only [xd, xe, xf])
     refine tk 5 22 ?_ ?_ ?_; rotate_left; (focus (intro w h; go_simp; (try with_reducible rfl))); (try simp only [xd, xe, xf])
     refine tk 6 23 ?_ ?_ ?_; rotate_left; (focus (intro w h; go_simp; (try with_reducible rfl))); (try simp only [xd, xe, xf])
     refine tk 7 24 ?_ ?_ ?_; rotate_left; (focus (intro w h; go_simp; (try with_reducible rfl))); (try simp only [xd, xe, xf])
     refine call_at (i := 8) (d := 25) (by simp only [xa, xb, xc]; rfl) rfl (by kernel_rfl) rfl (fun K hK => ?_)
     go_simp
     refine (sameEdges_any _ A1 A2 x y nx ny d1 d2 HNX.out HNY.out (by omega) EX.out EY.out).mono ?_
     rintro e z1 ⟨rfl, b1⟩
     rw [HQ.out]
     have hS1 : Kept w z1 := hS0.below (by have := hbr.out.size; first | (simp; omega) | exact this) b1
     have KZ := hide (hbr.out.drew.trans (b1.mono hbr.out.drew.size))
     clear b1
     go_wp2_with fail
     refine hK.out _ _ hS1 (fun hSn => ?_)
     clear hK K
     try simp only [xd, xe, xf]
     refine tk 9 26 ?_ ?_ ?_; rotate_left; (focus (intro w h; go_simp; (try with_reducible rfl))); (try simp only [xd, xe, xf])
     refine wpAnyH_done (by kernel_rfl) ?_ _
     clear hS0 hS1 hSn
     go_wp2
     go_ret
     exact ⟨ret_b (by rw [HE.out]), KZ.out⟩
    ·have HE : Hid (eqL xs ys = eqL (xs.drop (i + 1)) (ys.drop (i + 1))) := hide (by rw [heq.out, HS.out, show decide (x = y) = true from hq, Bool.true_and])
     clear hq
     go_wp2
     refine wp_region_held_drew (S := Kept w) (by kernel_rfl) hS00.out (fun hS0 => ?_)
     refine tk 0 17 ?_ ?_ ?_; rotate_left; (focus (intro w h; go_simp; (try with_reducible rfl))); (try simp only [xd, xe, xf])
     refine tk 1 18 ?_ ?_ ?_; rotate_left; (focus (intro w h; go_simp; (try with_reducible rfl))); (try simp only [xd, xe, xf])
     refine tk 2 19 ?_ ?_ ?_; rotate_left; (focus (intro w h; go_simp; (try with_reducible rfl))); (try simp only [xd, xe, xf])
     refine tk 3 20 ?_ ?_ ?_; rotate_left; (focus (intro w h; go_simp; (try with_reducible rfl))); (try simp only [xd, xe, xf])
     refine tk 4 21 ?_ ?_ ?_; rotate_left; (focus (intro w h; go_simp; (try with_reducible rfl))); (try simp only [xd, xe, xf])
     refine tk 5 22 ?_ ?_ ?_; rotate_left; (focus (intro w h; go_simp; (try with_reducible rfl))); (try simp only [xd, xe, xf])
     refine tk 6 23 ?_ ?_ ?_; rotate_left; (focus (intro w h; go_simp; (try with_reducible rfl))); (try simp only [xd, xe, xf])
     refine tk 7 24 ?_ ?_ ?_; rotate_left; (focus (intro w h; go_simp; (try with_reducible rfl))); (try simp only [xd, xe, xf])
     refine call_at (i := 8) (d := 25) (by simp only [xa, xb, xc]; rfl) rfl (by kernel_rfl) rfl (fun K hK => ?_)
     go_simp
     refine (sameEdges_any _ A1 A2 x y nx ny d1 d2 HNX.out HNY.out (by omega) EX.out EY.out).mono ?_
     rintro e z1 ⟨rfl, b1⟩
     rw [HQ.out]
     have hS1 : Kept w z1 := hS0.below (by have := hbr.out.size; first | (simp; omega) | exact this) b1
     have KZ := hide (hbr.out.drew.trans (b1.mono hbr.out.drew.size))
     clear b1
     go_wp2_with fail
     refine hK.out _ _ hS1 (fun hSn => ?_)
     clear hK K
     try simp only [xd, xe, xf]
     refine tk 9 26 ?_ ?_ ?_; rotate_left; (focus (intro w h; go_simp; (try with_reducible rfl))); (try simp only [xd, xe, xf])
     refine wpAnyH_done (by kernel_rfl) ?_ _
     clear hS0 hSn
     have hk9 := hide hS1
     clear hS1
     go_wp2
     go_roundw
     case rel => exact ⟨i + 1, by omega, by go_num, HE, hk9, KZ⟩
     case measure => simp [intOf]; omega
   ·obtain rfl : i = n := by omega
    have HE : Hid (eqL xs ys = true) := hide (by rw [heq.out, List.drop_of_length_le (by have := HX.out; omega), List.drop_of_length_le (by have := HY.out; omega)]; exact eqL_nil)
    go_wp2
    go_ret
    exact ⟨ret_b (by rw [HE.out]), hbr.out⟩
 ·have hne : ((n : Int) == (m : Int)) = false := by simp; omega
  have hne2 : ((n : Int) != (m : Int)) = true := by simp; omega
  have HE : Hid (eqL xs ys = false) := hide (eqL_len (by rw [HX.out, HY.out]; exact hnm))
  go_enter Try.func38, Try.ntmps38
  go_wp2
  go_ret
  exact ⟨ret_b (by rw [HE.out]), Below.refl _ _⟩
end Go.Proofs.Ytihdpfjonkagaaa
namespace Go.Proofs.Ytihdpfjonkagaaa
open Go.RowKit
def KB (X : List Nat) (v w : World) : Prop := v.heap.size ≤ w.heap.size ∧ ∀ b, b < v.heap.size → b ∉ X → w.heap[b]? = v.heap[b]?
section
variable {X : List Nat} {v w w' : World} {B : Nat}
theorem KB.refl (X : List Nat) (v : World) : KB X v v := ⟨Nat.le_refl _, fun _ _ _ => rfl⟩
theorem KB.drew (h : KB X v w) : KB X v w.drew := h
theorem KB.trans (h : KB X v w) (h' : KB X w w') : KB X v w' := ⟨Nat.le_trans h.1 h'.1, fun b hb hx => (h'.2 b (Nat.lt_of_lt_of_le hb h.1) hx).trans (h.2 b hb hx)⟩
theorem KB.below (h : KB X v w) (hb : Below B w w') (hB : v.heap.size ≤ B) : KB X v w' := ⟨Nat.le_trans h.1 hb.size, fun b hl hx => (hb.block b (Nat.lt_of_lt_of_le hl hB)).trans (h.2 b hl hx)⟩
theorem KB.alloc (h : KB X v w) (o : Obj) : KB X v (w.alloc o) := h.below ((Below.refl w.heap.size w).alloc (Nat.le_refl _) o) h.1
theorem KB.grown (h : KB X v w) {row : Option Nat} (hg : w.grownBy w' row) (hr : ∀ g, row = some g → v.heap.size ≤ g ∨ g ∈ X) : KB X v w' := by
 refine ⟨Nat.le_trans h.1 hg.size, fun b hl hx => (hg.block b (Nat.lt_of_lt_of_le hl h.1) (fun e => ?_)).trans (h.2 b hl hx)⟩
 rcases hr b e.symm with h1 | h1
 ·omega
 ·exact hx h1
theorem KB.setCell (h : KB X v w) {p : Addr} (hp : v.heap.size ≤ p.block ∨ p.block ∈ X) (u : Value) : KB X v (w.setCell p u) := by
 refine ⟨by rw [World.size_setCell]; exact h.1, fun b hl hx => (Below.heap_setCell _ _ _ _ (fun e => ?_)).trans (h.2 b hl hx)⟩
 rcases hp with h1 | h1
 ·omega
 ·rw [← e] at h1; exact hx h1
theorem KB.cell (h : KB X v w) {p : Addr} (hl : p.block < v.heap.size) (hx : p.block ∉ X) : w.cell? p = v.cell? p := World.cell?_of_block (h.2 _ hl hx)
theorem KB.frozen (h : KB X v w) {p : Addr} (hl : p.block < v.heap.size) (hx : p.block ∉ X) : w.frozen? p = v.frozen? p := World.frozen?_of_block (h.2 _ hl hx)
theorem KB.own (h : KB X v w) {base size n : Nat} {e : TypeId} {u : Value} {xs : List Value} (ho : v.ownsRow base e size u n xs) (hx : ∀ g, u.ownBlock = some g → g ∉ X) : w.ownsRow base e size u n xs := by
 refine ⟨ho.1, ?_⟩
 rcases ho.2 with h0 | ⟨g, cap, cur, hv, hg, hc, hr⟩
 ·exact .inl h0
 ·exact .inr ⟨g, cap, cur, hv, hg, (h.2 g (lt_of_block hc) (hx g (by rw [hv]; rfl))).trans hc, hr⟩
theorem KB.rd (h : KB X v w) {A : Option Addr} {xs : List Value} (hr : Rd v B A xs) (hB : B ≤ v.heap.size) (hx : ∀ b ∈ X, B ≤ b) : Rd w B A xs := hr.keep fun p hp => h.cell (by omega) (fun hm => by have := hx _ hm; omega)
end
def EdOwn (w : World) (b : Nat) (v : Value) (r : List Ed) : Prop := (∃ A c, v = .slice A r.length c) ∧ w.ownsRow b 44 3 v r.length (edFlat r) ∧ wt r
structure ORows (w : World) (b : Nat) (A : Option Addr) (c : Nat) (hs : List Value) (rs : List (List Ed)) : Prop where
 own : w.ownsRow b 28 1 (.slice A rs.length c) rs.length hs
 row : ∀ (i : Nat) (h : Value) (r : List Ed), hs[i]? = some h → rs[i]? = some r → EdOwn w b h r
 apart : ∀ (i j : Nat) (h h' : Value), i ≠ j → hs[i]? = some h → hs[j]? = some h' → h.ownBlock = none ∨ h.ownBlock ≠ h'.ownBlock
theorem ORows.len {w : World} {b : Nat} {A : Option Addr} {c : Nat} {hs : List Value} {rs : List (List Ed)} (h : ORows w b A c hs rs) : hs.length = rs.length := by have := h.own.1; simpa using this
theorem ORows.nil (w : World) (b : Nat) : ORows w b none 0 [] [] := ⟨World.ownsRow_nil _ _ _ _, fun i h r hh => by simp at hh, fun i j h h' _ hh => by simp at hh⟩
theorem ORows.lift {w w' : World} {b : Nat} {A : Option Addr} {c : Nat} {hs : List Value} {rs : List (List Ed)} (h : ORows w b A c hs rs)
  (ho : w'.ownsRow b 28 1 (.slice A rs.length c) rs.length hs) (hr : ∀ v n xs, w.ownsRow b 44 3 v n xs → w'.ownsRow b 44 3 v n xs) : ORows w' b A c hs rs :=
 ⟨ho, fun i x r h1 h2 => let ⟨k1, k2, k3⟩ := h.row i x r h1 h2; ⟨k1, hr _ _ _ k2, k3⟩, h.apart⟩
theorem own_all {w w' : World} {b B : Nat} {e : TypeId} {size n : Nat} {v : Value} {xs : List Value} (h : w.ownsRow b e size v n xs) (hb : Below B w w') (hB : w.heap.size ≤ B) : w'.ownsRow b e size v n xs :=
 own_below h hb fun g hg => Nat.lt_of_lt_of_le (h.lt g hg).2 hB
theorem ORows.below {w w' : World} {b B : Nat} {A : Option Addr} {c : Nat} {hs : List Value} {rs : List (List Ed)} (h : ORows w b A c hs rs) (hb : Below B w w') (hB : w.heap.size ≤ B) : ORows w' b A c hs rs :=
 h.lift (own_all h.own hb hB) fun v n xs hv => own_all hv hb hB
theorem ORows.setCell {w : World} {b : Nat} {A : Option Addr} {c : Nat} {hs : List Value} {rs : List (List Ed)} (h : ORows w b A c hs rs) {p : Addr} (hp : p.block < b) (u : Value) : ORows (w.setCell p u) b A c hs rs :=
 h.lift (ownsRow_setCell_below h.own hp u) fun v n xs hv => ownsRow_setCell_below hv hp u
theorem edge_ne_row : 44 ≠ 28 := by decide
theorem ORows.other {w w' : World} {b b2 : Nat} {A : Option Addr} {c n : Nat} {hs : List Value} {rs : List (List Ed)} {v : Value} {xs : List Value} (h : ORows w b A c hs rs) (hv : w.ownsRow b2 28 1 v n xs)
  (hg : w.grownBy w' v.ownBlock) (ha : (Value.slice A rs.length c).ownBlock = none ∨ (Value.slice A rs.length c).ownBlock ≠ v.ownBlock) : ORows w' b A c hs rs :=
 h.lift (h.own.kept hg ha) fun u n xs hu => hu.kept hg (own_apart hu hv edge_ne_row)
theorem ORows.push {w w' : World} {b m : Nat} {A A' : Option Addr} {c c' : Nat} {hs : List Value} {rs : List (List Ed)} {v : Value} {r : List Ed} (h : ORows w b A c hs rs) (hn : w.ownsRow m 44 3 v r.length (edFlat r)) (hv : ∃ A c, v = .slice A r.length c) (hw : wt r) (hm : b ≤ m)
  (hall : ∀ (i : Nat) (x : Value) g, hs[i]? = some x → x.ownBlock = some g → g < m)
  (hg : w.grownBy w' (Value.slice A rs.length c).ownBlock) (ho : w'.ownsRow b 28 1 (.slice A' (rs.length + 1) c') (rs.length + 1) (hs ++ [v])) : ORows w' b A' c' (hs ++ [v]) (rs ++ [r]) := by
 have hlen := h.len
 refine ⟨by rw [List.length_append]; exact ho, fun i x q h1 h2 => ?_, fun i j x y hij h1 h2 => ?_⟩
 ·rcases Nat.lt_or_ge i hs.length with hi | hi
  ·rw [List.getElem?_append_left hi] at h1
   rw [List.getElem?_append_left (by omega)] at h2
   obtain ⟨k1, k2, k3⟩ := h.row i x q h1 h2
   exact ⟨k1, k2.kept hg (own_apart k2 h.own edge_ne_row), k3⟩
  ·have hi2 := (List.getElem?_eq_some_iff.1 h1).1
   rw [List.length_append] at hi2
   simp only [List.length_cons, List.length_nil] at hi2
   obtain rfl : i = hs.length := by omega
   rw [List.getElem?_append_right (Nat.le_refl _), Nat.sub_self] at h1
   rw [List.getElem?_append_right (by omega), hlen, Nat.sub_self] at h2
   simp only [List.getElem?_cons_zero, Option.some.injEq] at h1 h2
   subst h1 h2
   exact ⟨hv, own_base (hn.kept hg (own_apart hn h.own edge_ne_row)) hm, hw⟩
 ·rcases Nat.lt_or_ge i hs.length with hi | hi
  ·rw [List.getElem?_append_left hi] at h1
   rcases Nat.lt_or_ge j hs.length with hj | hj
   ·rw [List.getElem?_append_left hj] at h2
    exact h.apart i j x y hij h1 h2
   ·have hj2 := (List.getElem?_eq_some_iff.1 h2).1
    rw [List.length_append] at hj2
    simp only [List.length_cons, List.length_nil] at hj2
    obtain rfl : j = hs.length := by omega
    rw [List.getElem?_append_right (Nat.le_refl _), Nat.sub_self] at h2
    simp only [List.getElem?_cons_zero, Option.some.injEq] at h2
    subst h2
    rcases hx : x.ownBlock with _ | g
    ·exact .inl rfl
    ·refine .inr fun e => ?_
     have h3 := hall i x g h1 hx
     have := (hn.lt g e.symm).1
     omega
  ·have hi2 := (List.getElem?_eq_some_iff.1 h1).1
   rw [List.length_append] at hi2
   simp only [List.length_cons, List.length_nil] at hi2
   obtain rfl : i = hs.length := by omega
   have hj2 := (List.getElem?_eq_some_iff.1 h2).1
   rw [List.length_append] at hj2
   simp only [List.length_cons, List.length_nil] at hj2
   rw [List.getElem?_append_left (by omega)] at h2
   rw [List.getElem?_append_right (Nat.le_refl _), Nat.sub_self] at h1
   simp only [List.getElem?_cons_zero, Option.some.injEq] at h1
   subst h1
   rcases hx : v.ownBlock with _ | g
   ·exact .inl rfl
   ·refine .inr fun e => ?_
    have h3 := hall j y g h2 e.symm
    have := (hn.lt g hx).1
    omega
theorem ORows.lt {w : World} {b : Nat} {A : Option Addr} {c : Nat} {hs : List Value} {rs : List (List Ed)} (h : ORows w b A c hs rs) (i : Nat) (x : Value) (g : Nat) (hx : hs[i]? = some x) (hg : x.ownBlock = some g) : b ≤ g ∧ g < w.heap.size := by
 have hi := (List.getElem?_eq_some_iff.1 hx).1
 rw [h.len] at hi
 exact (h.row i x _ hx (List.getElem?_eq_getElem hi)).2.1.lt g hg
theorem ORows.erows {w : World} {b : Nat} {A : Option Addr} {c : Nat} {hs : List Value} {rs : List (List Ed)} (h : ORows w b A c hs rs) : ERows w w.heap.size A rs := fun hn => by
 have hpos : 0 < rs.length := List.length_pos_iff.2 hn
 obtain ⟨g, rfl, hb, hg, _⟩ := own_addr h.own hpos
 refine ⟨g, 0, rfl, hg, fun i r hr => ?_⟩
 have hi := (List.getElem?_eq_some_iff.1 hr).1
 have hi2 : i < hs.length := by rw [h.len]; exact hi
 obtain ⟨⟨A2, c2, k1⟩, k2, k3⟩ := h.row i _ r (List.getElem?_eq_getElem hi2) hr
 refine ⟨[hs[i]], rfl, ⟨A2, c2, by rw [k1], ?_, ?_, ?_⟩, fun j u hu => ?_⟩
 ·rw [k1] at k2; exact own_cap k2
 ·rw [k1] at k2; exact own_max k2
 ·rw [k1] at k2; exact Eds.of_rd (Rd.of_own k2) k3
 ·rcases j with _ | j
  ·simp only [List.getElem?_cons_zero, Option.some.injEq] at hu
   subst hu
   have := h.own.cellAt i (by omega)
   simp only [Nat.mul_one, Nat.add_zero, Nat.zero_add]
   rw [this]
   exact List.getElem?_eq_getElem hi2
  ·simp at hu
def Apart (a b : Value) : Prop := ∀ g, a.ownBlock = some g → b.ownBlock = some g → False
theorem Apart.symm {a b : Value} (h : Apart a b) : Apart b a := fun g h1 h2 => h g h2 h1
theorem Apart.or {a b : Value} (h : Apart a b) : a.ownBlock = none ∨ a.ownBlock ≠ b.ownBlock := by
 rcases e : a.ownBlock with _ | g
 ·exact .inl rfl
 ·exact .inr fun e2 => h g e e2.symm
theorem Apart.nil (n c : Nat) (b : Value) : Apart (.slice none n c) b := fun g h => by cases h
theorem below_start {B : Nat} {a w : World} (h : Below B a.drew w) : Below B a w := ⟨h.os, h.tape, h.output, h.size, h.block⟩
theorem push_two {ws y1 y3 : World} {B q : Nat} {Am Ao A1 A' : Option Addr} {cm co c1 c' : Nat} {hm ho : List Value} {rm ro : List (List Ed)} {r : List Ed} {T : TypeId} {im : Nat} (hlen : rm.length = im) (hM : ORows ws B Am cm hm rm) (hO : ORows ws B Ao co ho ro)
  (ha : Apart (.slice Am im cm) (.slice Ao ro.length co)) (hB : B ≤ ws.heap.size) (b1 : Below ws.heap.size ws.drew y1) (hq : r.length = q) (hw : wt r) (o1 : y1.ownsRow ws.heap.size 44 3 (.slice A1 q c1) q (edFlat r))
  (own3 : y3.ownsRow B 28 1 (.slice A' (im + 1) c') (im + 1) (hm ++ [.slice A1 q c1])) (hg : (y1.alloc (.cells #[.slice A1 q c1] T)).grownBy y3 (Value.slice Am im cm).ownBlock)
  (hat : (Value.slice A' (im + 1) c').ownBlock = (Value.slice Am im cm).ownBlock ∨ (Value.slice A' (im + 1) c').ownBlock = some (y1.alloc (.cells #[.slice A1 q c1] T)).heap.size) :
  ORows y3 B A' c' (hm ++ [.slice A1 q c1]) (rm ++ [r]) ∧ ORows y3 B Ao co ho ro ∧ Apart (.slice A' (im + 1) c') (.slice Ao ro.length co) ∧ Below B ws y3 := by
 subst hlen hq
 have b2 : Below ws.heap.size ws (y1.alloc (.cells #[.slice A1 r.length c1] T)) := (below_start b1).alloc (below_start b1).size _
 have hM2 := hM.below b2 (Nat.le_refl _)
 have hO2 := hO.below b2 (Nat.le_refl _)
 refine ⟨?_, ?_, ?_, ?_⟩
 ·exact hM2.push (o1.alloc _) ⟨_, _, rfl⟩ hw hB (fun i x g hx hg => (hM.lt i x g hx hg).2) hg own3
 ·exact hO2.other hM2.own hg ha.symm.or
 ·intro g h1 h2
  rcases hat with h | h
  ·exact ha g (h.symm.trans h1) h2
  ·have h3 := (hO.own.lt g h2).2
   rw [h] at h1
   injection h1 with h1
   have := b2.size
   omega
 ·exact app_below (b2.mono hB) hM2.own hg (by have := b2.size; omega) (Nat.le_refl _)
theorem ORows.lower {w : World} {b b' : Nat} {A : Option Addr} {c : Nat} {hs : List Value} {rs : List (List Ed)} (h : ORows w b A c hs rs) (hb : b' ≤ b) : ORows w b' A c hs rs :=
 ⟨own_base h.own hb, fun i x r h1 h2 => let ⟨k1, k2, k3⟩ := h.row i x r h1 h2; ⟨k1, own_base k2 hb, k3⟩, h.apart⟩
theorem wt_filter {es : List Ed} (f : Ed → Bool) (h : wt es) : wt (es.filter f) := fun e he => h e (List.mem_filter.1 he).1
end Go.Proofs.Ytihdpfjonkagaaa
