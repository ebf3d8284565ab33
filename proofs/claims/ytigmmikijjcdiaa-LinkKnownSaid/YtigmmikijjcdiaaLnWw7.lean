/- Lemmas: Fwr, Frd, Fre, Flw. -/
import Derived.Lib.Hide
import Derived.WalkSpells
import Derived.WalkLawsBesides
import Derived.WalkMore
import Derived.Laws.CopyOwn
import Derived.Lib.SliceRun
import Derived.BigQuiet
import Derived.Test.YtigmmikijjcdiaaLnWw6
set_option linter.unusedVariables false
set_option linter.unusedSimpArgs false
set_option maxRecDepth 100000
set_option maxHeartbeats 16000000
namespace Go.Proofs.Ytigmmikijjcdiaa
open Go.RowKit
structure Besides (g : Nat) (w w' : World) : Prop where
 os : w'.os = w.os
 tape : w'.tape = w.tape
 output : w'.output = w.output
 size : w.heap.size ≤ w'.heap.size
 block : ∀ k, k < w.heap.size → k ≠ g → w'.heap[k]? = w.heap[k]?
theorem Besides.refl (g : Nat) (w : World) : Besides g w w := ⟨rfl, rfl, rfl, Nat.le_refl _, fun _ _ _ => rfl⟩
theorem Besides.trans {g : Nat} {a b c : World} (h : Besides g a b) (k : Besides g b c) : Besides g a c :=
 ⟨k.os.trans h.os, k.tape.trans h.tape, k.output.trans h.output, Nat.le_trans h.size k.size, fun i hi hg => (k.block i (Nat.lt_of_lt_of_le hi h.size) hg).trans (h.block i hi hg)⟩
theorem Besides.of_below {g : Nat} {a b : World} (h : Below a.heap.size a b) : Besides g a b := ⟨h.os, h.tape, h.output, h.size, fun k hk _ => h.block k hk⟩
theorem Besides.below {g B : Nat} {a b : World} (h : Besides g a b) (h1 : B ≤ g) (h2 : B ≤ a.heap.size) : Below B a b := ⟨h.os, h.tape, h.output, h.size, fun k hk => h.block k (Nat.lt_of_lt_of_le hk h2) (by omega)⟩
theorem Besides.cell {g : Nat} {a b : World} (h : Besides g a b) {p : Addr} (h1 : p.block < a.heap.size) (h2 : p.block ≠ g) : b.cell? p = a.cell? p := World.cell?_of_block (h.block _ h1 h2)
theorem Besides.setCell {g : Nat} {a : World} {o : Nat} (v : Value) : Besides g a (a.setCell ⟨g, o, none⟩ v) := by
 have h := (Below.refl g a).setCell (p := ⟨g, o, none⟩) (Nat.le_refl _) v
 exact ⟨h.os, h.tape, h.output, h.size, fun k _ hk => heap_setCell_other _ _ _ _ hk⟩
theorem Besides.alloc {g : Nat} {a : World} (o : Obj) : Besides g a (a.alloc o) := .of_below ((Below.refl _ _).alloc (Nat.le_refl _) _)
def Rg (w : World) (g : Nat) (A : Option Addr) (xs : List Value) : Prop :=
 xs ≠ [] → ∃ b off, A = some ⟨b, off, none⟩ ∧ g < b ∧ b < w.heap.size ∧ ∀ j u, xs[j]? = some u → w.cell? ⟨b, off + j, none⟩ = some u
theorem Rg.rd {w : World} {g : Nat} {A : Option Addr} {xs : List Value} (h : Rg w g A xs) : Rd w w.heap.size A xs := fun hn => by
 obtain ⟨b, off, e, _, hb, hc⟩ := h hn
 exact ⟨b, off, e, hb, hc⟩
theorem Rg.besides {w w' : World} {g lo : Nat} {A : Option Addr} {xs : List Value} (h : Rg w lo A xs) (hb : Besides g w w') (hgl : g ≤ lo) : Rg w' lo A xs := fun hn => by
 obtain ⟨b, off, e, hg, hlt, hc⟩ := h hn
 exact ⟨b, off, e, hg, Nat.lt_of_lt_of_le hlt hb.size, fun j u hu => (hb.cell (p := ⟨b, off + j, none⟩) hlt (by show b ≠ g; omega)).trans (hc j u hu)⟩
theorem Rg.of_rd {w : World} {g b : Nat} {xs : List Value} (h : Rd w w.heap.size (some ⟨b, 0, none⟩) xs) (hg : g < b) : Rg w g (some ⟨b, 0, none⟩) xs := fun hn => by
 obtain ⟨b', off, e, hb, hc⟩ := h hn
 injection e with e
 injection e with e1 e2
 subst e1 e2
 exact ⟨b, 0, rfl, hg, hb, hc⟩
abbrev Piece := Option Addr × List UInt8 × Nat
def Chain (w : World) (g : Nat) : Option Addr → List Piece → Prop
 | q, [] => q = none
 | q, (A, bs, c) :: ps => ∃ b q', q = some ⟨b, 0, none⟩ ∧ g < b ∧ b < w.heap.size ∧ w.cell? ⟨b, 0, none⟩ = some (.slice A bs.length c) ∧ w.cell? ⟨b, 1, none⟩ = some (.pointer q') ∧ Rg w g A (u8s bs) ∧ Chain w g q' ps
theorem Chain.besides {w w' : World} {g lo : Nat} (hb : Besides g w w') (hgl : g ≤ lo) : ∀ {q : Option Addr} {ps : List Piece}, Chain w lo q ps → Chain w' lo q ps
 | _, [], h => h
 | _, (_, _, _) :: _, ⟨b, q', e, hg, hlt, h0, h1, hr, ht⟩ => ⟨b, q', e, hg, Nat.lt_of_lt_of_le hlt hb.size, (hb.cell (p := ⟨b, 0, none⟩) hlt (by show b ≠ g; omega)).trans h0, (hb.cell (p := ⟨b, 1, none⟩) hlt (by show b ≠ g; omega)).trans h1, hr.besides hb hgl, Chain.besides hb hgl ht⟩
def outOf : List Piece → List UInt8
 | [] => []
 | (_, bs, _) :: ps => outOf ps ++ bs
def Wr (w : World) (g lo : Nat) (ps : List Piece) : Prop :=
 g ≤ lo ∧ lo < w.heap.size ∧ ∃ q, w.heap[g]? = some (.cells #[.pointer q, .int .i64 ((outOf ps).length : Nat)] 100) ∧ Chain w lo q ps
theorem Wr.other {w w' : World} {g lo h : Nat} {ps : List Piece} (hw : Wr w g lo ps) (hb : Besides h w w') (hg : g ≠ h) (hl : h ≤ lo) : Wr w' g lo ps := by
 obtain ⟨h1, h2, q, h, hc⟩ := hw
 exact ⟨h1, Nat.lt_of_lt_of_le h2 hb.size, q, (hb.block g (by omega) hg).trans h, hc.besides hb hl⟩
theorem Chain.below {w w' : World} {lo : Nat} (hb : Below w.heap.size w w') : ∀ {q : Option Addr} {ps : List Piece}, Chain w lo q ps → Chain w' lo q ps
 | _, [], h => h
 | _, (_, _, _) :: _, ⟨b, q', e, hg, hlt, h0, h1, hr, ht⟩ => ⟨b, q', e, hg, Nat.lt_of_lt_of_le hlt hb.size, (hb.cell (p := ⟨b, 0, none⟩) hlt).trans h0, (hb.cell (p := ⟨b, 1, none⟩) hlt).trans h1, fun hn => by
  obtain ⟨b1, off, e1, hg1, hlt1, hc⟩ := hr hn
  exact ⟨b1, off, e1, hg1, Nat.lt_of_lt_of_le hlt1 hb.size, fun j u hu => (hb.cell (p := ⟨b1, off + j, none⟩) hlt1).trans (hc j u hu)⟩, Chain.below hb ht⟩
theorem Wr.below {w w' : World} {g lo : Nat} {ps : List Piece} (h : Wr w g lo ps) (hb : Below w.heap.size w w') : Wr w' g lo ps := by
 obtain ⟨h1, h2, q, h, hc⟩ := h
 exact ⟨h1, Nat.lt_of_lt_of_le h2 hb.size, q, (hb.block g (by omega)).trans h, hc.below hb⟩
theorem Wr.new (w : World) : Wr (w.alloc (.cells #[.pointer none, .int .i64 0] 100)) w.heap.size w.heap.size [] := ⟨Nat.le_refl _, by simp, none, heap_alloc_last w _, rfl⟩
theorem put_any (w : World) (g lo : Nat) (ps : List Piece) (A : Option Addr) (bs : List UInt8) (c : Nat) (hW : Wr w g lo ps) (hR : Rg w lo A (u8s bs)) (hl : (outOf ps).length + bs.length ≤ 4611686018427387904) :
  Calls Try.prog 66 #[.pointer (some ⟨g, 0, none⟩), .slice A bs.length c] w fun e w' => e = .returned (.tuple #[]) ∧ Wr w' g lo ((A, bs, c) :: ps) ∧ Besides g w w' := by
 obtain ⟨hgl, hll, q, hg, hc⟩ := hW
 have hlt : g < w.heap.size := by omega
 have c0 := cell_of_row _ _ 0 _ _ _ hg
 have c1 := cell_of_row _ _ 1 _ _ _ hg
 have f0 := frozen_of_row _ _ 0 _ _ hg
 have f1 := frozen_of_row _ _ 1 _ _ hg
 have HG := hide hg
 have HC := hide hc
 have HR := hide hR
 clear hg hc hR
 go_enter Try.func66, Try.ntmps66
 go_wp2
 go_end0
 refine ⟨rfl, ⟨hgl, by simp; omega, some ⟨w.heap.size, 0, none⟩, ?_, w.heap.size, q, rfl, hll, by simp, ?_, ?_, ?_, ?_⟩, ?_⟩
 ·have e1 := heap_setCell_same _ _ 1 _ _ (.int .i64 (((outOf ps).length : Int) + (bs.length : Int))) (heap_setCell_same _ _ 0 _ _ (.pointer (some ⟨w.heap.size, 0, none⟩)) HG.out)
  refine (Below.heap_alloc _ _ _ (by simpa using hlt)).trans (e1.trans ?_)
  simp [outOf]
 ·have hs : ((w.setCell ⟨g, 0, none⟩ (.pointer (some ⟨w.heap.size, 0, none⟩))).setCell ⟨g, 1, none⟩ (.int .i64 (((outOf ps).length : Int) + (bs.length : Int)))).heap.size = w.heap.size := by simp
  have h := World.cell?_alloc_new (w := (w.setCell ⟨g, 0, none⟩ (.pointer (some ⟨w.heap.size, 0, none⟩))).setCell ⟨g, 1, none⟩ (.int .i64 (((outOf ps).length : Int) + (bs.length : Int)))) #[.slice A bs.length c, .pointer q] 126 0
  rw [hs] at h
  exact h
 ·have hs : ((w.setCell ⟨g, 0, none⟩ (.pointer (some ⟨w.heap.size, 0, none⟩))).setCell ⟨g, 1, none⟩ (.int .i64 (((outOf ps).length : Int) + (bs.length : Int)))).heap.size = w.heap.size := by simp
  have h := World.cell?_alloc_new (w := (w.setCell ⟨g, 0, none⟩ (.pointer (some ⟨w.heap.size, 0, none⟩))).setCell ⟨g, 1, none⟩ (.int .i64 (((outOf ps).length : Int) + (bs.length : Int)))) #[.slice A bs.length c, .pointer q] 126 1
  rw [hs] at h
  exact h
 ·exact HR.out.besides (((Besides.setCell _).trans (Besides.setCell _)).trans (Besides.alloc _)) hgl
 ·exact HC.out.besides (((Besides.setCell _).trans (Besides.setCell _)).trans (Besides.alloc _)) hgl
 ·exact ((Besides.setCell _).trans (Besides.setCell _)).trans (Besides.alloc _)
def Wo (w : World) (g lo : Nat) (out : List UInt8) : Prop := ∃ ps, outOf ps = out ∧ Wr w g lo ps
theorem Wo.lt {w : World} {g lo : Nat} {out : List UInt8} (h : Wo w g lo out) : lo < w.heap.size := by obtain ⟨_, _, _, h, _⟩ := h; exact h
theorem Wo.le {w : World} {g lo : Nat} {out : List UInt8} (h : Wo w g lo out) : g ≤ lo := by obtain ⟨_, _, h, _⟩ := h; exact h
theorem Wo.below {w w' : World} {g lo : Nat} {out : List UInt8} (h : Wo w g lo out) (hb : Below w.heap.size w w') : Wo w' g lo out := by obtain ⟨ps, e, h⟩ := h; exact ⟨ps, e, h.below hb⟩
theorem Wo.other {w w' : World} {g lo h : Nat} {out : List UInt8} (hw : Wo w g lo out) (hb : Besides h w w') (hg : g ≠ h) (hl : h ≤ lo) : Wo w' g lo out := by obtain ⟨ps, e, hw⟩ := hw; exact ⟨ps, e, hw.other hb hg hl⟩
theorem Wo.new (w : World) : Wo (w.alloc (.cells #[.pointer none, .int .i64 0] 100)) w.heap.size w.heap.size [] := ⟨[], rfl, .new w⟩
theorem clone_any (w : World) (A : Option Addr) (bs : List UInt8) (c : Nat) (hR : Rd w w.heap.size A (u8s bs)) (hl : bs.length ≤ 140737488351232) :
  Calls Try.prog 29 #[.slice A bs.length c] w fun e w' => (∃ A' c', e = .returned (.slice A' bs.length c') ∧ w'.ownsRow w.heap.size 5 1 (.slice A' bs.length c') bs.length (u8s bs)) ∧ Below w.heap.size w w' := by
 obtain ⟨i0, hi0, hz0, hz1, hz2⟩ := info_parts (show (Try.prog.info? 5).map (fun i => (i.zero, i.size, i.bytes)) = some (some (.int .u8 0), 1, 1) by kernel_rfl)
 go_enter Try.func29, Try.ntmps29
 have hq := fun (w : World) => Lib.run_eql_slice_nil (P := Try.prog) w 23 5 A bs.length c 0 0 Try.underlying23
 cases A with
 | none =>
  have hn : bs = [] := by
   rcases bs with _ | ⟨x, l⟩
   ·rfl
   ·obtain ⟨b, o, e, _⟩ := hR (by simp [u8s])
    cases e
  subst hn
  have hq := fun (w : World) => Lib.run_eql_slice_nil (P := Try.prog) w 23 5 none 0 c 0 0 Try.underlying23
  go_wp2
  go_ret
  exact ⟨⟨none, 0, rfl, World.ownsRow_nil _ _ _ _⟩, Below.refl _ _⟩
 | some p =>
  have hown : (w.alloc (.cells #[] 5)).ownsRow w.heap.size 5 1 (.slice (some ⟨w.heap.size, 0, none⟩) 0 0) 0 [] := ⟨rfl, .inr ⟨w.heap.size, 0, #[], rfl, Nat.le_refl _, heap_alloc_last w _, Nat.le_refl _, by decide, rfl, rfl⟩⟩
  have hR1 := hR.alloc (Nat.le_refl _) (.cells #[] 5)
  go_wp2_with (at_builtin; refine wpList_app rfl (.tmp 5) (.tmp 6) 23 rfl w.heap.size 5 i0 (.int .u8 0) 1 1 Try.underlying23 hi0 hz0 hz1 hz2 rfl (by decide) _ 0 _ rfl hown w.heap.size (some p) bs.length c (u8s bs) rfl (by rw [u8s_len]; omega) hR1 (u8s_one bs) (by unfold maxLen; omega) (by omega) (by simp) ?_; intro A2 c2 w2 hown2 hg2 hat2)
  rw [Nat.zero_add, List.nil_append] at hown2
  have hb2 := app_below (((Below.refl _ w).alloc (Nat.le_refl _) (.cells #[] 5))) hown hg2 (by simp) (Nat.le_refl _)
  clear hg2 hat2
  go_wp2
  go_ret
  exact ⟨⟨A2, c2, rfl, hown2⟩, hb2⟩
theorem put_len (w : World) (g : Nat) {lo : Nat} (out : List UInt8) (A : Option Addr) (bs : List UInt8) (n : Nat) (hn : bs.length = n) (c : Nat) (hW : Wo w g lo out) (hR : Rg w lo A (u8s bs)) (hl : out.length + n ≤ 4611686018427387904) :
  Calls Try.prog 66 #[.pointer (some ⟨g, 0, none⟩), .slice A n c] w fun e w' => e = .returned (.tuple #[]) ∧ Wo w' g lo (out ++ bs) ∧ Besides g w w' := by
 subst hn
 obtain ⟨ps, rfl, hW⟩ := hW
 refine (put_any w g lo ps A bs c hW hR hl).mono ?_
 rintro e w' ⟨rfl, h, hb⟩
 exact ⟨rfl, ⟨_, rfl, h⟩, hb⟩
theorem put8 (w : World) (g : Nat) {lo : Nat} (out : List UInt8) (m : Nat) (hm : m < 256) (hW : Wo w g lo out) (hl : out.length ≤ 1000000000000) :
  Calls Try.prog 53 #[.pointer (some ⟨g, 0, none⟩), .int .u8 m] w fun e w' => e = .returned (.tuple #[]) ∧ Wo w' g lo (out ++ be 1 m) ∧ Besides g w w' := by
 go_enter Try.func53, Try.ntmps53
 have hlt := hW.lt
 go_wp2_with fail
 refine (digits8 m hm _).mono ?_
 rintro e w1 ⟨rfl, hr, hlt1, hb1⟩
 have hR := Rg.of_rd hr (g := lo) (by omega)
 have hW1 := hW.below hb1
 go_wp2_with fail
 refine (put_len _ g out _ (be 1 m) 1 (be_len _ _) _ hW1 hR (by omega)).mono ?_
 rintro e w2 ⟨rfl, hW2, hb2⟩
 go_wp2
 go_end0
 exact ⟨rfl, hW2, (Besides.of_below hb1).trans hb2⟩
theorem put32 (w : World) (g : Nat) {lo : Nat} (out : List UInt8) (m : Nat) (hm : m < 4294967296) (hW : Wo w g lo out) (hl : out.length ≤ 1000000000000) :
  Calls Try.prog 56 #[.pointer (some ⟨g, 0, none⟩), .int .u32 m] w fun e w' => e = .returned (.tuple #[]) ∧ Wo w' g lo (out ++ be 4 m) ∧ Besides g w w' := by
 go_enter Try.func56, Try.ntmps56
 have hlt := hW.lt
 go_wp2_with fail
 refine (digits32 m hm _).mono ?_
 rintro e w1 ⟨rfl, hr, hlt1, hb1⟩
 have hR := Rg.of_rd hr (g := lo) (by omega)
 have hW1 := hW.below hb1
 go_wp2_with fail
 refine (put_len _ g out _ (be 4 m) 4 (be_len _ _) _ hW1 hR (by omega)).mono ?_
 rintro e w2 ⟨rfl, hW2, hb2⟩
 go_wp2
 go_end0
 exact ⟨rfl, hW2, (Besides.of_below hb1).trans hb2⟩
theorem put64 (w : World) (g : Nat) {lo : Nat} (out : List UInt8) (m : Nat) (hm : m < 18446744073709551616) (hW : Wo w g lo out) (hl : out.length ≤ 1000000000000) :
  Calls Try.prog 54 #[.pointer (some ⟨g, 0, none⟩), .int .u64 m] w fun e w' => e = .returned (.tuple #[]) ∧ Wo w' g lo (out ++ be 8 m) ∧ Besides g w w' := by
 go_enter Try.func54, Try.ntmps54
 have hlt := hW.lt
 go_wp2_with fail
 refine (digits64 m hm _).mono ?_
 rintro e w1 ⟨rfl, hr, hlt1, hb1⟩
 have hR := Rg.of_rd hr (g := lo) (by omega)
 have hW1 := hW.below hb1
 go_wp2_with fail
 refine (put_len _ g out _ (be 8 m) 8 (be_len _ _) _ hW1 hR (by omega)).mono ?_
 rintro e w2 ⟨rfl, hW2, hb2⟩
 go_wp2
 go_end0
 exact ⟨rfl, hW2, (Besides.of_below hb1).trans hb2⟩
end Go.Proofs.Ytigmmikijjcdiaa
namespace Go.Proofs.Ytigmmikijjcdiaa
open Go.RowKit
def Rn (w : World) (g : Nat) (A : Option Addr) (xs : List Value) : Prop :=
 xs ≠ [] → ∃ b off, A = some ⟨b, off, none⟩ ∧ b ≠ g ∧ b < w.heap.size ∧ ∀ j u, xs[j]? = some u → w.cell? ⟨b, off + j, none⟩ = some u
theorem Rn.nil_ {w : World} {g : Nat} {A : Option Addr} : Rn w g A [] := fun h => absurd rfl h
theorem Rn.rd {w : World} {g : Nat} {A : Option Addr} {xs : List Value} (h : Rn w g A xs) : Rd w w.heap.size A xs := fun hn => by
 obtain ⟨b, off, e, _, hb, hc⟩ := h hn
 exact ⟨b, off, e, hb, hc⟩
theorem Rn.besides {w w' : World} {g : Nat} {A : Option Addr} {xs : List Value} (h : Rn w g A xs) (hb : Besides g w w') : Rn w' g A xs := fun hn => by
 obtain ⟨b, off, e, hg, hlt, hc⟩ := h hn
 exact ⟨b, off, e, hg, Nat.lt_of_lt_of_le hlt hb.size, fun j u hu => (hb.cell (p := ⟨b, off + j, none⟩) hlt hg).trans (hc j u hu)⟩
theorem Rn.of_rd {w : World} {g B : Nat} {A : Option Addr} {xs : List Value} (h : Rd w B A xs) (hB : B ≤ g) (hg : g < w.heap.size) : Rn w g A xs := fun hn => by
 obtain ⟨b, off, e, hb, hc⟩ := h hn
 exact ⟨b, off, e, by omega, by omega, hc⟩
theorem Rn.cut {w : World} {g : Nat} {b off : Nat} {xs : List Value} (h : Rn w g (some ⟨b, off, none⟩) xs) (k n : Nat) : Rn w g (some ⟨b, off + k, none⟩) ((xs.drop k).take n) := fun hn => by
 obtain ⟨b', off', e, hg, hlt, hc⟩ := h (fun e => by subst e; simp at hn)
 injection e with e
 injection e with e1 e2
 subst e1 e2
 refine ⟨b, off + k, rfl, hg, hlt, fun j u hu => ?_⟩
 rw [List.getElem?_take] at hu
 split at hu
 ·rw [List.getElem?_drop] at hu
  rw [Nat.add_assoc]
  exact hc _ _ hu
 ·cases hu
def Rr (T : TypeId) (w : World) (g : Nat) (bs : List UInt8) (s : Nat × Bool) : Prop :=
 ∃ A c, w.heap[g]? = some (.cells #[.slice A bs.length c, .int .i64 (s.1 : Nat), .bool s.2] T) ∧ Rn w g A (u8s bs) ∧ bs.length ≤ c ∧ bs.length ≤ 140737488351232 ∧ s.1 ≤ bs.length
theorem Rr.lt {T : TypeId} {w : World} {g : Nat} {bs : List UInt8} {s : Nat × Bool} (h : Rr T w g bs s) : g < w.heap.size := by
 obtain ⟨_, _, h, _⟩ := h
 exact lt_of_block h
theorem Rr.below {T : TypeId} {w w' : World} {g : Nat} {bs : List UInt8} {s : Nat × Bool} (h : Rr T w g bs s) (hb : Below w.heap.size w w') : Rr T w' g bs s := by
 have hlt := h.lt
 obtain ⟨A, c, h, hr, h3⟩ := h
 exact ⟨A, c, (hb.block g hlt).trans h, hr.besides (.of_below hb), h3⟩
def nx (bs : List UInt8) (s : Nat × Bool) (n : Int) : List UInt8 × (Nat × Bool) :=
 if s.2 = true ∨ n < 0 ∨ (bs.length : Int) - (s.1 : Int) < n then ([], (bs.length, true)) else ((bs.drop s.1).take n.toNat, (s.1 + n.toNat, false))
theorem open_any (w : World) (A : Option Addr) (bs : List UInt8) (c : Nat) (hR : Rd w w.heap.size A (u8s bs)) (hl : bs.length ≤ 1000000000000) :
  Calls Try.prog 42 #[.slice A bs.length c] w fun e w' => (∃ r, e = .returned (.pointer (some ⟨r, 0, none⟩)) ∧ w.heap.size ≤ r ∧ Rr 107 w' r bs (0, false)) ∧ Below w.heap.size w w' := by
 go_enter Try.func42, Try.ntmps42
 go_wp2_with fail
 refine (clone_any _ A bs c hR (by omega)).mono ?_
 rintro e w1 ⟨⟨A', c', rfl, hown⟩, hb1⟩
 go_wp2
 go_ret
 have hr1 := (Rd.of_own hown).alloc (Nat.le_refl _) (.cells #[.slice A' bs.length c', .int .i64 0, .bool false] 107)
 exact ⟨⟨w1.heap.size, rfl, hb1.size, A', c', heap_alloc_last w1 _, Rn.of_rd hr1 (Nat.le_refl _) (by simp), own_cap hown, by omega, Nat.zero_le _⟩, hb1.alloc hb1.size _⟩
theorem left_any (w : World) (r : Nat) (bs : List UInt8) (s : Nat × Bool) (hr : Rr 107 w r bs s) :
  Calls Try.prog 46 #[.pointer (some ⟨r, 0, none⟩)] w fun e w' => e = .returned (.int .i64 ((bs.length : Int) - (s.1 : Int))) ∧ Below w.heap.size w w' := by
 obtain ⟨A, c, hg, hR, h1, h2, h3⟩ := hr
 have c0 : w.cell? ⟨r, 0, none⟩ = some (.slice A bs.length c) := cell_of_row _ _ 0 _ _ _ hg
 have c1 : w.cell? ⟨r, 1, none⟩ = some (.int .i64 (s.1 : Nat)) := cell_of_row _ _ 1 _ _ _ hg
 have hw : IntKind.i64.wrap ((bs.length : Int) - (s.1 : Int)) = (bs.length : Int) - (s.1 : Int) := IntWalk.i64_in _ (by omega)
 go_enter Try.func46, Try.ntmps46
 go_wp2
 go_quiet (fail)
 go_wp2
 go_ret
 exact ⟨rfl, below_drewN (Below.refl _ _) _⟩
theorem bad_any (w : World) (r : Nat) (bs : List UInt8) (s : Nat × Bool) (hr : Rr 107 w r bs s) :
  Calls Try.prog 47 #[.pointer (some ⟨r, 0, none⟩)] w fun e w' => e = .returned (.bool s.2) ∧ w = w' := by
 obtain ⟨A, c, hg, hR, h1, h2, h3⟩ := hr
 have c2 : w.cell? ⟨r, 2, none⟩ = some (.bool s.2) := cell_of_row _ _ 2 _ _ _ hg
 go_enter Try.func47, Try.ntmps47
 go_wp2
 go_ret
 exact ⟨rfl, rfl⟩
def NextPost (T : TypeId) (w : World) (r : Nat) (bs : List UInt8) (s : Nat × Bool) (n : Int) (e : Ending) (w' : World) : Prop :=
 (∃ A' c', e = .returned (.slice A' (nx bs s n).1.length c') ∧ Rn w' r A' (u8s (nx bs s n).1) ∧ (nx bs s n).1.length ≤ c') ∧ Rr T w' r bs (nx bs s n).2 ∧ Besides r w w'
theorem fall_post {T : TypeId} {w : World} {r : Nat} {bs : List UInt8} {s : Nat × Bool} {n : Int} {A : Option Addr} {c : Nat} (hg : w.heap[r]? = some (.cells #[.slice A bs.length c, .int .i64 (s.1 : Nat), .bool s.2] T)) (hR : Rn w r A (u8s bs)) (h1 : bs.length ≤ c) (h2 : bs.length ≤ 140737488351232)
  (hn : s.2 = true ∨ n < 0 ∨ (bs.length : Int) - (s.1 : Int) < n) : NextPost T w r bs s n (.returned (.slice none 0 0)) ((w.setCell ⟨r, 2, none⟩ (.bool true)).setCell ⟨r, 1, none⟩ (.int .i64 (bs.length : Nat))) := by
 have hb : Besides r w ((w.setCell ⟨r, 2, none⟩ (.bool true)).setCell ⟨r, 1, none⟩ (.int .i64 (bs.length : Nat))) := (Besides.setCell _).trans (Besides.setCell _)
 unfold NextPost nx
 rw [if_pos hn]
 refine ⟨⟨none, 0, rfl, Rn.nil_, Nat.le_refl _⟩, ⟨A, c, ?_, hR.besides hb, h1, h2, Nat.le_refl _⟩, hb⟩
 have e1 := heap_setCell_same _ _ 1 _ _ (.int .i64 (bs.length : Nat)) (heap_setCell_same _ _ 2 _ _ (.bool true) hg)
 exact e1
theorem fall_post' {T : TypeId} {w : World} {r : Nat} {bs : List UInt8} {s : Nat × Bool} {n : Int} {w1 w' : World} {e : Ending} (hb : Below w.heap.size w w1) (hr : r < w.heap.size) (h : NextPost T w1 r bs s n e w') : NextPost T w r bs s n e w' :=
 ⟨h.1, h.2.1, (Besides.of_below hb).trans h.2.2⟩
theorem ok_post {T : TypeId} {w w1 w2 : World} {r : Nat} {bs : List UInt8} {at' k : Nat} {A : Option Addr} {c : Nat} (hk : at' + k ≤ bs.length) (hb1 : Below w.heap.size w w1) (hb2 : Besides r w1 w2)
  (hg : w2.heap[r]? = some (.cells #[.slice A bs.length c, .int .i64 ((at' + k : Nat) : Int), .bool false] T)) (hR : Rn w2 r A (u8s bs)) (h1 : bs.length ≤ c) (h2 : bs.length ≤ 140737488351232) (A' : Option Addr) (c' : Nat)
  (hA : ∀ b off, A = some ⟨b, off, none⟩ → 0 < k → A' = some ⟨b, off + at', none⟩) (m : Nat) (hc' : k ≤ c') : NextPost T w r bs (at', false) (k : Int) (.returned (.slice A' k c')) (w2.drewN m) := by
 have hb : Besides r w2 (w2.drewN m) := .of_below (below_drewN (Below.refl _ _) m)
 have hne : ¬ ((at', false).2 = true ∨ (k : Int) < 0 ∨ (bs.length : Int) - ((at', false).1 : Int) < (k : Int)) := by
  dsimp only
  rintro (h | h | h)
  ·cases h
  ·omega
  ·omega
 unfold NextPost nx
 rw [if_neg hne]
 have hl : ((bs.drop at').take k).length = k := by rw [List.length_take, List.length_drop]; omega
 refine ⟨⟨A', c', ?_, ?_, ?_⟩, ⟨A, c, hg, hR.besides hb, h1, h2, hk⟩, ((Besides.of_below hb1).trans hb2).trans hb⟩
 ·show _ = Ending.returned (.slice A' ((bs.drop at').take k).length c')
  rw [hl]
 ·show Rn _ r A' (u8s ((bs.drop at').take k))
  intro hn
  have hk0 : 0 < k := by
   rcases Nat.eq_zero_or_pos k with h | h
   ·subst h; simp [u8s] at hn
   ·exact h
  obtain ⟨b, off, e, _⟩ := hR (fun e => by
   have : bs = [] := by simpa [u8s] using e
   subst this
   simp at hk
   omega)
  rw [hA b off e hk0]
  rw [e] at hR
  rw [← u8s_take, ← u8s_drop] at hn ⊢
  exact ((hR.besides hb).cut at' k) hn
 ·show ((bs.drop at').take k).length ≤ c'
  rw [hl]; exact hc'
theorem next_any (w : World) (r : Nat) (bs : List UInt8) (s : Nat × Bool) (hr : Rr 107 w r bs s) (n : Int) (hn1 : -9223372036854775808 ≤ n) (hn2 : n ≤ 9223372036854775807) :
  Calls Try.prog 60 #[.pointer (some ⟨r, 0, none⟩), .int .i64 n] w fun e w' => NextPost 107 w r bs s n e w' := by
 have hr0 := hr
 have hlt := hr.lt
 obtain ⟨A, c, hg, hR, h1, h2, h3⟩ := hr
 have c0 : w.cell? ⟨r, 0, none⟩ = some (.slice A bs.length c) := cell_of_row _ _ 0 _ _ _ hg
 have c1 : w.cell? ⟨r, 1, none⟩ = some (.int .i64 (s.1 : Nat)) := cell_of_row _ _ 1 _ _ _ hg
 have c2 : w.cell? ⟨r, 2, none⟩ = some (.bool s.2) := cell_of_row _ _ 2 _ _ _ hg
 have f1 := frozen_of_row _ _ 1 _ _ hg
 have f2 := frozen_of_row _ _ 2 _ _ hg
 have HG := hide hg
 have HR := hide hR
 clear hg hR
 obtain ⟨at', bad⟩ := s
 dsimp only at c1 c2 h3
 by_cases hbad : bad = true
 ·subst hbad
  go_enter Try.func60, Try.ntmps60
  go_wp2
  go_ret
  exact fall_post HG.out HR.out h1 h2 (.inl rfl)
 ·obtain rfl : bad = false := by simpa using hbad
  by_cases hneg : n < 0
  ·go_enter Try.func60, Try.ntmps60
   go_wp2
   go_ret
   exact fall_post HG.out HR.out h1 h2 (.inr (.inl hneg))
  ·have d1 : decide (n < 0) = false := decide_eq_false hneg
   go_enter Try.func60, Try.ntmps60
   go_wp2_with fail
   refine (left_any _ r bs _ hr0).mono ?_
   rintro e w1 ⟨rfl, hb1⟩
   have hg1 := (hb1.block r hlt).trans HG.out
   have hR1 := hide (HR.out.besides (.of_below hb1))
   have c0' := (hb1.cell (p := ⟨r, 0, none⟩) hlt).trans c0
   have c1' := (hb1.cell (p := ⟨r, 1, none⟩) hlt).trans c1
   have c2' : w1.cell? ⟨r, 2, none⟩ = some (.bool false) := cell_of_row _ _ 2 _ _ _ hg1
   have f1' := frozen_of_row _ _ 1 _ _ hg1
   have f2' := frozen_of_row _ _ 2 _ _ hg1
   have HG1 := hide hg1
   clear hg1 c0 c1 c2 f1 f2 hr0 HG HR
   by_cases hmore : (bs.length : Int) - (at' : Int) < n
   ·have d2 : decide ((bs.length : Int) - (at' : Int) < n) = true := decide_eq_true hmore
    go_wp2
    go_ret
    exact fall_post' hb1 hlt (fall_post HG1.out hR1.out h1 h2 (.inr (.inr hmore)))
   ·have d2 : decide ((bs.length : Int) - (at' : Int) < n) = false := decide_eq_false hmore
    obtain ⟨k, rfl⟩ := Int.eq_ofNat_of_zero_le (show 0 ≤ n by omega)
    have hk : at' + k ≤ bs.length := by omega
    have hw : IntKind.i64.wrap ((at' : Int) + (k : Int)) = (at' : Int) + (k : Int) := IntWalk.i64_in _ (by omega)
    have hI0 : (0 : Int) ≤ (at' : Int) := by omega
    have hI1 : (at' : Int) ≤ (at' : Int) + (k : Int) := by omega
    have hI2 : (at' : Int) + (k : Int) ≤ (c : Int) := by omega
    go_wp2
    obtain ⟨w2, hw2⟩ : ∃ w2, w1.setCell ⟨r, 1, none⟩ (.int .i64 ((at' : Int) + (k : Int))) = w2 := ⟨_, rfl⟩
    have hb2 : Besides r w1 w2 := by rw [← hw2]; exact Besides.setCell _
    have hg2 : w2.heap[r]? = some (.cells #[.slice A bs.length c, .int .i64 ((at' + k : Nat) : Int), .bool false] 107) := by
     rw [← hw2]
     exact heap_setCell_same _ _ 1 _ _ _ HG1.out
    have hR2 := hide (hR1.out.besides hb2)
    rw [hw2]
    clear hw2 c0' c1' c2' f1' f2' HG1 hR1
    have c0 : w2.cell? ⟨r, 0, none⟩ = some (.slice A bs.length c) := cell_of_row _ _ 0 _ _ _ hg2
    have c1 : w2.cell? ⟨r, 1, none⟩ = some (.int .i64 ((at' : Int) + (k : Int))) := cell_of_row _ _ 1 _ _ _ hg2
    have HG2 := hide hg2
    clear hg2
    clear d1 d2
    go_quiet (fail)
    go_wp2
    ·go_ret
     exact ok_post hk hb1 hb2 HG2.out hR2.out h1 h2 A 0 (fun _ _ _ h => by omega) nq (by omega)
    ·go_ret
     exact ok_post hk hb1 hb2 HG2.out hR2.out h1 h2 _ (c - at') (fun b off e _ => by rw [e, Option.map_some, add_plain]) nq (by omega)
end Go.Proofs.Ytigmmikijjcdiaa
namespace Go.Proofs.Ytigmmikijjcdiaa
open Go.RowKit
def num (bs : List UInt8) : Nat := bs.foldl (fun a b => a * 256 + b.toNat) 0
theorem num_snoc (bs : List UInt8) (b : UInt8) : num (bs ++ [b]) = num bs * 256 + b.toNat := by simp [num]
theorem num_lt (bs : List UInt8) : num bs < 256 ^ bs.length := by
 rcases List.eq_nil_or_concat bs with rfl | ⟨l, b, rfl⟩
 ·decide
 ·have ih := num_lt l
  have hb := b.toNat_lt
  rw [List.concat_eq_append, num_snoc, List.length_append, List.length_singleton, Nat.pow_succ]
  omega
termination_by bs.length
decreasing_by simp_all
theorem num_take {bs : List UInt8} {i : Nat} (h : i < bs.length) : num (bs.take (i + 1)) = num (bs.take i) * 256 + (bs[i]).toNat := by
 rw [List.take_succ_eq_append_getElem h, num_snoc]
theorem nx_len (bs : List UInt8) (s : Nat × Bool) (n : Nat) : (nx bs s n).1.length ≤ n := by
 unfold nx
 split
 ·simp
 ·simp; omega
theorem or_byte (a b : Nat) (hb : b < 256) : (a * 256) ||| b = a * 256 + b := by
 have h := Nat.two_pow_add_eq_or_of_lt (i := 8) (b := b) hb a
 rw [show 2 ^ 8 * a = a * 256 by omega] at h
 omega
theorem bits_or_nat8 {a b : Nat} (ha : a < 256 ^ (1 - 1)) (hb : b < 256) : bits .or .u8 ((a : Int) * 256) (b : Int) = ((a * 256 ||| b : Nat) : Int) := by
 have h : a * 256 < 2 ^ 8 := by omega
 have h2 : b < 2 ^ 8 := by omega
 rw [show ((a : Int) * 256) = ((a * 256 : Nat) : Int) by omega]
 generalize a * 256 = m at h ⊢
 have h3 : m ||| b < 2 ^ 8 := Nat.or_lt_two_pow h h2
 have e1 : (BitVec.ofInt 8 (m : Int)).toNat = m := by
  rw [BitVec.ofInt_natCast, BitVec.toNat_ofNat]; exact Nat.mod_eq_of_lt h
 have e2 : (BitVec.ofInt 8 (b : Int)).toNat = b := by
  rw [BitVec.ofInt_natCast, BitVec.toNat_ofNat]; exact Nat.mod_eq_of_lt h2
 show IntKind.u8.wrap ((BitVec.ofInt 8 (m : Int) ||| BitVec.ofInt 8 (b : Int)).toNat : Int) = _
 rw [BitVec.toNat_or, e1, e2, IntKind.wrap_u8]
 omega
theorem bits_or_nat32 {a b : Nat} (ha : a < 256 ^ (4 - 1)) (hb : b < 256) : bits .or .u32 ((a : Int) * 256) (b : Int) = ((a * 256 ||| b : Nat) : Int) := by
 have h : a * 256 < 2 ^ 32 := by omega
 have h2 : b < 2 ^ 32 := by omega
 rw [show ((a : Int) * 256) = ((a * 256 : Nat) : Int) by omega]
 generalize a * 256 = m at h ⊢
 have h3 : m ||| b < 2 ^ 32 := Nat.or_lt_two_pow h h2
 have e1 : (BitVec.ofInt 32 (m : Int)).toNat = m := by
  rw [BitVec.ofInt_natCast, BitVec.toNat_ofNat]; exact Nat.mod_eq_of_lt h
 have e2 : (BitVec.ofInt 32 (b : Int)).toNat = b := by
  rw [BitVec.ofInt_natCast, BitVec.toNat_ofNat]; exact Nat.mod_eq_of_lt h2
 show IntKind.u32.wrap ((BitVec.ofInt 32 (m : Int) ||| BitVec.ofInt 32 (b : Int)).toNat : Int) = _
 rw [BitVec.toNat_or, e1, e2, IntKind.wrap_u32]
 omega
theorem bits_or_nat64 {a b : Nat} (ha : a < 256 ^ (8 - 1)) (hb : b < 256) : bits .or .u64 ((a : Int) * 256) (b : Int) = ((a * 256 ||| b : Nat) : Int) := by
 have h : a * 256 < 2 ^ 64 := by omega
 have h2 : b < 2 ^ 64 := by omega
 rw [show ((a : Int) * 256) = ((a * 256 : Nat) : Int) by omega]
 generalize a * 256 = m at h ⊢
 have h3 : m ||| b < 2 ^ 64 := Nat.or_lt_two_pow h h2
 have e1 : (BitVec.ofInt 64 (m : Int)).toNat = m := by
  rw [BitVec.ofInt_natCast, BitVec.toNat_ofNat]; exact Nat.mod_eq_of_lt h
 have e2 : (BitVec.ofInt 64 (b : Int)).toNat = b := by
  rw [BitVec.ofInt_natCast, BitVec.toNat_ofNat]; exact Nat.mod_eq_of_lt h2
 show IntKind.u64.wrap ((BitVec.ofInt 64 (m : Int) ||| BitVec.ofInt 64 (b : Int)).toNat : Int) = _
 rw [BitVec.toNat_or, e1, e2, IntKind.wrap_u64]
 omega
theorem read8 (w : World) (r : Nat) (bs : List UInt8) (s : Nat × Bool) (hr : Rr 107 w r bs s) :
  Calls Try.prog 58 #[.pointer (some ⟨r, 0, none⟩)] w fun e w' => e = .returned (.int .u8 (num (nx bs s 1).1 : Nat)) ∧ Rr 107 w' r bs (nx bs s 1).2 ∧ Besides r w w' := by
 go_enter Try.func58, Try.ntmps58
 go_wp2_with fail
 refine (width8 _).mono ?_
 rintro e w1 ⟨rfl, rfl⟩
 go_wp2_with fail
 refine (next_any _ r bs s hr 1 (by decide) (by decide)).mono ?_
 rintro e w1 ⟨⟨A, c, rfl, hR, _⟩, hr1, hb1⟩
 have hL : (nx bs s 1).1.length ≤ 1 := nx_len bs s 1
 generalize hx : nx bs s 1 = x at hR hr1 hL ⊢
 have HX := hide hx
 clear hx
 obtain ⟨xs, s'⟩ := x
 dsimp only at hR hr1 hL ⊢
 have HR := hide hR
 have HR1 := hide hr1
 clear hR hr1
 obtain ⟨L, hLe⟩ : ∃ L, xs.length = L := ⟨_, rfl⟩
 have HL := hide hLe
 rw [hLe] at hL ⊢
 clear hLe
 go_wp2
 go_loop [2, 4, 9] (fun vn _ vi => ∃ i : Nat, vi = .int .i64 i ∧ i ≤ L ∧ vn = .int .u8 (num (xs.take i) : Nat)) (fun _ _ vi => L - (intOf vi).toNat)
 case atStart => exact ⟨0, rfl, by omega, rfl⟩
 case round =>
  obtain ⟨i, rfl, hi, rfl⟩ := hrel
  by_cases hlt : i < L
  ·have hil : i < xs.length := by rw [HL.out]; exact hlt
   obtain ⟨b, off, rfl, _, _, hc⟩ := HR.out (fun e => by have := congrArg List.length e; rw [u8s_len] at this; simp only [List.length_nil] at this; omega)
   have hc1 := hc i _ (u8s_get hil)
   have ht := hide (num_take hil)
   have hb := (xs[i]).toNat_lt
   have hlt2 := num_lt (xs.take i)
   have hpow : 256 ^ (xs.take i).length ≤ 256 ^ (1 - 1) := Nat.pow_le_pow_right (by decide) (by rw [List.length_take]; omega)
   have ha : num (xs.take i) < 256 ^ (1 - 1) := Nat.lt_of_lt_of_le hlt2 hpow
   clear hlt2 hpow hc
   generalize num (xs.take i) = a at ha ht
   generalize (xs[i]).toNat = y at hb hc1 ht
   go_wp2
   go_round
   case rel => exact ⟨i + 1, by go_num, by omega, by rw [ht.out, ← or_byte _ _ hb]; exact congrArg _ (bits_or_nat8 (by omega) (by omega))⟩
   case measure => simp [intOf]; omega
  ·obtain rfl : i = L := by omega
   go_wp2
   go_ret
   rw [← HL.out, List.take_length, HX.out]
   exact ⟨rfl, HR1.out, hb1⟩
theorem read32 (w : World) (r : Nat) (bs : List UInt8) (s : Nat × Bool) (hr : Rr 107 w r bs s) :
  Calls Try.prog 61 #[.pointer (some ⟨r, 0, none⟩)] w fun e w' => e = .returned (.int .u32 (num (nx bs s 4).1 : Nat)) ∧ Rr 107 w' r bs (nx bs s 4).2 ∧ Besides r w w' := by
 go_enter Try.func61, Try.ntmps61
 go_wp2_with fail
 refine (width32 _).mono ?_
 rintro e w1 ⟨rfl, rfl⟩
 go_wp2_with fail
 refine (next_any _ r bs s hr 4 (by decide) (by decide)).mono ?_
 rintro e w1 ⟨⟨A, c, rfl, hR, _⟩, hr1, hb1⟩
 have hL : (nx bs s 4).1.length ≤ 4 := nx_len bs s 4
 generalize hx : nx bs s 4 = x at hR hr1 hL ⊢
 have HX := hide hx
 clear hx
 obtain ⟨xs, s'⟩ := x
 dsimp only at hR hr1 hL ⊢
 have HR := hide hR
 have HR1 := hide hr1
 clear hR hr1
 obtain ⟨L, hLe⟩ : ∃ L, xs.length = L := ⟨_, rfl⟩
 have HL := hide hLe
 rw [hLe] at hL ⊢
 clear hLe
 go_wp2
 go_loop [2, 4, 9] (fun vn _ vi => ∃ i : Nat, vi = .int .i64 i ∧ i ≤ L ∧ vn = .int .u32 (num (xs.take i) : Nat)) (fun _ _ vi => L - (intOf vi).toNat)
 case atStart => exact ⟨0, rfl, by omega, rfl⟩
 case round =>
  obtain ⟨i, rfl, hi, rfl⟩ := hrel
  by_cases hlt : i < L
  ·have hil : i < xs.length := by rw [HL.out]; exact hlt
   obtain ⟨b, off, rfl, _, _, hc⟩ := HR.out (fun e => by have := congrArg List.length e; rw [u8s_len] at this; simp only [List.length_nil] at this; omega)
   have hc1 := hc i _ (u8s_get hil)
   have ht := hide (num_take hil)
   have hb := (xs[i]).toNat_lt
   have hlt2 := num_lt (xs.take i)
   have hpow : 256 ^ (xs.take i).length ≤ 256 ^ (4 - 1) := Nat.pow_le_pow_right (by decide) (by rw [List.length_take]; omega)
   have ha : num (xs.take i) < 256 ^ (4 - 1) := Nat.lt_of_lt_of_le hlt2 hpow
   clear hlt2 hpow hc
   generalize num (xs.take i) = a at ha ht
   generalize (xs[i]).toNat = y at hb hc1 ht
   go_wp2
   go_round
   case rel => exact ⟨i + 1, by go_num, by omega, by rw [ht.out, ← or_byte _ _ hb]; exact congrArg _ (bits_or_nat32 (by omega) (by omega))⟩
   case measure => simp [intOf]; omega
  ·obtain rfl : i = L := by omega
   go_wp2
   go_ret
   rw [← HL.out, List.take_length, HX.out]
   exact ⟨rfl, HR1.out, hb1⟩
theorem read64 (w : World) (r : Nat) (bs : List UInt8) (s : Nat × Bool) (hr : Rr 107 w r bs s) :
  Calls Try.prog 59 #[.pointer (some ⟨r, 0, none⟩)] w fun e w' => e = .returned (.int .u64 (num (nx bs s 8).1 : Nat)) ∧ Rr 107 w' r bs (nx bs s 8).2 ∧ Besides r w w' := by
 go_enter Try.func59, Try.ntmps59
 go_wp2_with fail
 refine (width64 _).mono ?_
 rintro e w1 ⟨rfl, rfl⟩
 go_wp2_with fail
 refine (next_any _ r bs s hr 8 (by decide) (by decide)).mono ?_
 rintro e w1 ⟨⟨A, c, rfl, hR, _⟩, hr1, hb1⟩
 have hL : (nx bs s 8).1.length ≤ 8 := nx_len bs s 8
 generalize hx : nx bs s 8 = x at hR hr1 hL ⊢
 have HX := hide hx
 clear hx
 obtain ⟨xs, s'⟩ := x
 dsimp only at hR hr1 hL ⊢
 have HR := hide hR
 have HR1 := hide hr1
 clear hR hr1
 obtain ⟨L, hLe⟩ : ∃ L, xs.length = L := ⟨_, rfl⟩
 have HL := hide hLe
 rw [hLe] at hL ⊢
 clear hLe
 go_wp2
 go_loop [2, 4, 9] (fun vn _ vi => ∃ i : Nat, vi = .int .i64 i ∧ i ≤ L ∧ vn = .int .u64 (num (xs.take i) : Nat)) (fun _ _ vi => L - (intOf vi).toNat)
 case atStart => exact ⟨0, rfl, by omega, rfl⟩
 case round =>
  obtain ⟨i, rfl, hi, rfl⟩ := hrel
  by_cases hlt : i < L
  ·have hil : i < xs.length := by rw [HL.out]; exact hlt
   obtain ⟨b, off, rfl, _, _, hc⟩ := HR.out (fun e => by have := congrArg List.length e; rw [u8s_len] at this; simp only [List.length_nil] at this; omega)
   have hc1 := hc i _ (u8s_get hil)
   have ht := hide (num_take hil)
   have hb := (xs[i]).toNat_lt
   have hlt2 := num_lt (xs.take i)
   have hpow : 256 ^ (xs.take i).length ≤ 256 ^ (8 - 1) := Nat.pow_le_pow_right (by decide) (by rw [List.length_take]; omega)
   have ha : num (xs.take i) < 256 ^ (8 - 1) := Nat.lt_of_lt_of_le hlt2 hpow
   clear hlt2 hpow hc
   generalize num (xs.take i) = a at ha ht
   generalize (xs[i]).toNat = y at hb hc1 ht
   go_wp2
   go_round
   case rel => exact ⟨i + 1, by go_num, by omega, by rw [ht.out, ← or_byte _ _ hb]; exact congrArg _ (bits_or_nat64 (by omega) (by omega))⟩
   case measure => simp [intOf]; omega
  ·obtain rfl : i = L := by omega
   go_wp2
   go_ret
   rw [← HL.out, List.take_length, HX.out]
   exact ⟨rfl, HR1.out, hb1⟩
theorem get8 (w : World) (r : Nat) (bs : List UInt8) (s : Nat × Bool) (hr : Rr 107 w r bs s) :
  Calls Try.prog 43 #[.pointer (some ⟨r, 0, none⟩)] w fun e w' => e = .returned (.int .u8 (num (nx bs s 1).1 : Nat)) ∧ Rr 107 w' r bs (nx bs s 1).2 ∧ Besides r w w' := by
 go_enter Try.func43, Try.ntmps43
 go_wp2_with fail
 refine (read8 _ r bs s hr).mono ?_
 rintro e w1 ⟨rfl, hr1, hb1⟩
 go_wp2
 go_ret
 exact ⟨rfl, hr1, hb1⟩
theorem get32 (w : World) (r : Nat) (bs : List UInt8) (s : Nat × Bool) (hr : Rr 107 w r bs s) :
  Calls Try.prog 48 #[.pointer (some ⟨r, 0, none⟩)] w fun e w' => e = .returned (.int .u32 (num (nx bs s 4).1 : Nat)) ∧ Rr 107 w' r bs (nx bs s 4).2 ∧ Besides r w w' := by
 go_enter Try.func48, Try.ntmps48
 go_wp2_with fail
 refine (read32 _ r bs s hr).mono ?_
 rintro e w1 ⟨rfl, hr1, hb1⟩
 go_wp2
 go_ret
 exact ⟨rfl, hr1, hb1⟩
theorem get64 (w : World) (r : Nat) (bs : List UInt8) (s : Nat × Bool) (hr : Rr 107 w r bs s) :
  Calls Try.prog 44 #[.pointer (some ⟨r, 0, none⟩)] w fun e w' => e = .returned (.int .u64 (num (nx bs s 8).1 : Nat)) ∧ Rr 107 w' r bs (nx bs s 8).2 ∧ Besides r w w' := by
 go_enter Try.func44, Try.ntmps44
 go_wp2_with fail
 refine (read64 _ r bs s hr).mono ?_
 rintro e w1 ⟨rfl, hr1, hb1⟩
 go_wp2
 go_ret
 exact ⟨rfl, hr1, hb1⟩
end Go.Proofs.Ytigmmikijjcdiaa
namespace Go.Proofs.Ytigmmikijjcdiaa
open Go.RowKit
theorem num_be (n m : Nat) : num (be n m) = m % 256 ^ n := by
 induction n generalizing m with
 | zero => simp [be, num, Nat.mod_one]
 | succ n ih =>
  have e : m % 256 ^ (n + 1) = m % 256 + 256 * (m / 256 % 256 ^ n) := by rw [Nat.pow_succ, Nat.mul_comm (256 ^ n) 256, Nat.mod_mul]
  rw [be, num_snoc, ih, e, UInt8.toNat_ofNat']
  omega
theorem be_drop (k n m : Nat) : (be (k + n) m).drop k = be n m := by
 induction n generalizing m with
 | zero => rw [Nat.add_zero]; exact List.drop_of_length_le (by rw [be_len]; exact Nat.le_refl _)
 | succ n ih => rw [show k + (n + 1) = (k + n) + 1 by omega, be, be, List.drop_append_of_le_length (by rw [be_len]; omega), ih]
end Go.Proofs.Ytigmmikijjcdiaa
