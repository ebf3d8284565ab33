/- A Writer: what lies in memory, and what put does. -/
import Derived.Test.YtigmmikijjcdiaaLqFdd
import Derived.Lib.Hide
import Derived.WalkSpells
import Derived.WalkLawsBesides
import Derived.WalkMore
import Derived.Laws.CopyOwn
import Derived.Lib.SliceRun







namespace Go.Proofs.Ytigmmikijjcdiaa
open Go.RowKit
set_option linter.unusedVariables false

/-- nothing that lay has turned but block g -/
structure Besides (g : Nat) (w w' : World) : Prop where
  os : w'.os = w.os
  tape : w'.tape = w.tape
  output : w'.output = w.output
  size : w.heap.size ≤ w'.heap.size
  block : ∀ k, k < w.heap.size → k ≠ g → w'.heap[k]? = w.heap[k]?

theorem Besides.refl (g : Nat) (w : World) : Besides g w w := ⟨rfl, rfl, rfl, Nat.le_refl _, fun _ _ _ => rfl⟩
theorem Besides.trans {g : Nat} {a b c : World} (h : Besides g a b) (k : Besides g b c) : Besides g a c :=
  ⟨k.os.trans h.os, k.tape.trans h.tape, k.output.trans h.output, Nat.le_trans h.size k.size, fun i hi hg => (k.block i (Nat.lt_of_lt_of_le hi h.size) hg).trans (h.block i hi hg)⟩
theorem Besides.of_below {g : Nat} {a b : World} (h : Below a.heap.size a b) : Besides g a b := ⟨h.os, h.tape, h.output, h.size, fun k hk _ => h.block k hk⟩
theorem Besides.below {g B : Nat} {a b : World} (h : Besides g a b) (h1 : B ≤ g) (h2 : B ≤ a.heap.size) : Below B a b := ⟨h.os, h.tape, h.output, h.size, fun k hk => h.block k (Nat.lt_of_lt_of_le hk h2) (by omega)⟩
theorem Besides.cell {g : Nat} {a b : World} (h : Besides g a b) {p : Addr} (h1 : p.block < a.heap.size) (h2 : p.block ≠ g) : b.cell? p = a.cell? p := World.cell?_of_block (h.block _ h1 h2)
theorem Besides.setCell {g : Nat} {a : World} {o : Nat} (v : Value) : Besides g a (a.setCell ⟨g, o, none⟩ v) := by
  have h := (Below.refl g a).setCell (p := ⟨g, o, none⟩) (Nat.le_refl _) v
  exact ⟨h.os, h.tape, h.output, h.size, fun k _ hk => heap_setCell_other _ _ _ _ hk⟩
theorem Besides.alloc {g : Nat} {a : World} (o : Obj) : Besides g a (a.alloc o) := .of_below ((Below.refl _ _).alloc (Nat.le_refl _) _)

/-- a row of cells behind block g -/
def Rg (w : World) (g : Nat) (A : Option Addr) (xs : List Value) : Prop :=
  xs ≠ [] → ∃ b off, A = some ⟨b, off, none⟩ ∧ g < b ∧ b < w.heap.size ∧ ∀ j u, xs[j]? = some u → w.cell? ⟨b, off + j, none⟩ = some u
theorem Rg.rd {w : World} {g : Nat} {A : Option Addr} {xs : List Value} (h : Rg w g A xs) : Rd w w.heap.size A xs := fun hn => by
  obtain ⟨b, off, e, _, hb, hc⟩ := h hn
  exact ⟨b, off, e, hb, hc⟩
theorem Rg.besides {w w' : World} {g lo : Nat} {A : Option Addr} {xs : List Value} (h : Rg w lo A xs) (hb : Besides g w w') (hgl : g ≤ lo) : Rg w' lo A xs := fun hn => by
  obtain ⟨b, off, e, hg, hlt, hc⟩ := h hn
  exact ⟨b, off, e, hg, Nat.lt_of_lt_of_le hlt hb.size, fun j u hu => (hb.cell (p := ⟨b, off + j, none⟩) hlt (by show b ≠ g; omega)).trans (hc j u hu)⟩
theorem Rg.of_rd {w : World} {g b : Nat} {xs : List Value} (h : Rd w w.heap.size (some ⟨b, 0, none⟩) xs) (hg : g < b) : Rg w g (some ⟨b, 0, none⟩) xs := fun hn => by
  obtain ⟨b', off, e, hb, hc⟩ := h hn
  injection e with e
  injection e with e1 e2
  subst e1 e2
  exact ⟨b, 0, rfl, hg, hb, hc⟩

/-- what was put: where it lies, the bytes, the room -/
abbrev Piece := Option Addr × List UInt8 × Nat
def Chain (w : World) (g : Nat) : Option Addr → List Piece → Prop
  | q, [] => q = none
  | q, (A, bs, c) :: ps => ∃ b q', q = some ⟨b, 0, none⟩ ∧ g < b ∧ b < w.heap.size ∧ w.cell? ⟨b, 0, none⟩ = some (.slice A bs.length c) ∧ w.cell? ⟨b, 1, none⟩ = some (.pointer q') ∧ Rg w g A (u8s bs) ∧ Chain w g q' ps
theorem Chain.besides {w w' : World} {g lo : Nat} (hb : Besides g w w') (hgl : g ≤ lo) : ∀ {q : Option Addr} {ps : List Piece}, Chain w lo q ps → Chain w' lo q ps
  | _, [], h => h
  | _, (_, _, _) :: _, ⟨b, q', e, hg, hlt, h0, h1, hr, ht⟩ => ⟨b, q', e, hg, Nat.lt_of_lt_of_le hlt hb.size, (hb.cell (p := ⟨b, 0, none⟩) hlt (by show b ≠ g; omega)).trans h0, (hb.cell (p := ⟨b, 1, none⟩) hlt (by show b ≠ g; omega)).trans h1, hr.besides hb hgl, Chain.besides hb hgl ht⟩
def outOf : List Piece → List UInt8
  | [] => []
  | (_, bs, _) :: ps => outOf ps ++ bs
/-- the Writer in block g has been told these pieces, which lie behind block lo -/
def Wr (w : World) (g lo : Nat) (ps : List Piece) : Prop :=
  g ≤ lo ∧ lo < w.heap.size ∧ ∃ q, w.heap[g]? = some (.cells #[.pointer q, .int .i64 ((outOf ps).length : Nat)] 100) ∧ Chain w lo q ps
theorem Wr.other {w w' : World} {g lo h : Nat} {ps : List Piece} (hw : Wr w g lo ps) (hb : Besides h w w') (hg : g ≠ h) (hl : h ≤ lo) : Wr w' g lo ps := by
  obtain ⟨h1, h2, q, h, hc⟩ := hw
  exact ⟨h1, Nat.lt_of_lt_of_le h2 hb.size, q, (hb.block g (by omega) hg).trans h, hc.besides hb hl⟩
theorem Chain.below {w w' : World} {lo : Nat} (hb : Below w.heap.size w w') : ∀ {q : Option Addr} {ps : List Piece}, Chain w lo q ps → Chain w' lo q ps
  | _, [], h => h
  | _, (_, _, _) :: _, ⟨b, q', e, hg, hlt, h0, h1, hr, ht⟩ => ⟨b, q', e, hg, Nat.lt_of_lt_of_le hlt hb.size, (hb.cell (p := ⟨b, 0, none⟩) hlt).trans h0, (hb.cell (p := ⟨b, 1, none⟩) hlt).trans h1, fun hn => by
    obtain ⟨b1, off, e1, hg1, hlt1, hc⟩ := hr hn
    exact ⟨b1, off, e1, hg1, Nat.lt_of_lt_of_le hlt1 hb.size, fun j u hu => (hb.cell (p := ⟨b1, off + j, none⟩) hlt1).trans (hc j u hu)⟩, Chain.below hb ht⟩
theorem Wr.below {w w' : World} {g lo : Nat} {ps : List Piece} (h : Wr w g lo ps) (hb : Below w.heap.size w w') : Wr w' g lo ps := by
  obtain ⟨h1, h2, q, h, hc⟩ := h
  exact ⟨h1, Nat.lt_of_lt_of_le h2 hb.size, q, (hb.block g (by omega)).trans h, hc.below hb⟩
theorem Wr.new (w : World) : Wr (w.alloc (.cells #[.pointer none, .int .i64 0] 100)) w.heap.size w.heap.size [] := ⟨Nat.le_refl _, by simp, none, heap_alloc_last w _, rfl⟩
theorem Wr.raise {w : World} {g lo lo' : Nat} (h : Wr w g lo []) (h1 : g ≤ lo') (h2 : lo' < w.heap.size) : Wr w g lo' [] := by
  obtain ⟨_, _, q, h, hc⟩ := h
  exact ⟨h1, h2, q, h, hc⟩

set_option maxRecDepth 100000 in
set_option maxHeartbeats 1000000 in
theorem put_any (w : World) (g lo : Nat) (ps : List Piece) (A : Option Addr) (bs : List UInt8) (c : Nat) (hW : Wr w g lo ps) (hR : Rg w lo A (u8s bs)) (hl : (outOf ps).length + bs.length ≤ 4611686018427387904) :
    Calls Try.prog 66 #[.pointer (some ⟨g, 0, none⟩), .slice A bs.length c] w fun e w' => e = .returned (.tuple #[]) ∧ Wr w' g lo ((A, bs, c) :: ps) ∧ Besides g w w' := by
  obtain ⟨hgl, hll, q, hg, hc⟩ := hW
  have hlt : g < w.heap.size := by omega
  have c0 := cell_of_row _ _ 0 _ _ _ hg
  have c1 := cell_of_row _ _ 1 _ _ _ hg
  have f0 := frozen_of_row _ _ 0 _ _ hg
  have f1 := frozen_of_row _ _ 1 _ _ hg
  have HG := hide hg
  have HC := hide hc
  have HR := hide hR
  clear hg hc hR
  go_enter Try.func66, Try.ntmps66
  go_wp2
  go_end0
  refine ⟨rfl, ⟨hgl, by simp; omega, some ⟨w.heap.size, 0, none⟩, ?_, w.heap.size, q, rfl, hll, by simp, ?_, ?_, ?_, ?_⟩, ?_⟩
  · have e1 := heap_setCell_same _ _ 1 _ _ (.int .i64 (((outOf ps).length : Int) + (bs.length : Int))) (heap_setCell_same _ _ 0 _ _ (.pointer (some ⟨w.heap.size, 0, none⟩)) HG.out)
    refine (Below.heap_alloc _ _ _ (by simpa using hlt)).trans (e1.trans ?_)
    simp [outOf]
  · have hs : ((w.setCell ⟨g, 0, none⟩ (.pointer (some ⟨w.heap.size, 0, none⟩))).setCell ⟨g, 1, none⟩ (.int .i64 (((outOf ps).length : Int) + (bs.length : Int)))).heap.size = w.heap.size := by simp
    have h := World.cell?_alloc_new (w := (w.setCell ⟨g, 0, none⟩ (.pointer (some ⟨w.heap.size, 0, none⟩))).setCell ⟨g, 1, none⟩ (.int .i64 (((outOf ps).length : Int) + (bs.length : Int)))) #[.slice A bs.length c, .pointer q] 126 0
    rw [hs] at h
    exact h
  · have hs : ((w.setCell ⟨g, 0, none⟩ (.pointer (some ⟨w.heap.size, 0, none⟩))).setCell ⟨g, 1, none⟩ (.int .i64 (((outOf ps).length : Int) + (bs.length : Int)))).heap.size = w.heap.size := by simp
    have h := World.cell?_alloc_new (w := (w.setCell ⟨g, 0, none⟩ (.pointer (some ⟨w.heap.size, 0, none⟩))).setCell ⟨g, 1, none⟩ (.int .i64 (((outOf ps).length : Int) + (bs.length : Int)))) #[.slice A bs.length c, .pointer q] 126 1
    rw [hs] at h
    exact h
  · exact HR.out.besides (((Besides.setCell _).trans (Besides.setCell _)).trans (Besides.alloc _)) hgl
  · exact HC.out.besides (((Besides.setCell _).trans (Besides.setCell _)).trans (Besides.alloc _)) hgl
  · exact ((Besides.setCell _).trans (Besides.setCell _)).trans (Besides.alloc _)

set_option maxRecDepth 100000 in
theorem put_none (w : World) (v : Value) :
    Calls Try.prog 66 #[.pointer none, v] w fun e w' => e = .returned (.tuple #[]) ∧ w = w' := by
  go_enter Try.func66, Try.ntmps66
  go_wp2
  refine bodyPost_ret (results_none rfl _ _ _) rfl ?_
  exact ⟨rfl, rfl⟩

/-- the Writer in block g has been told these bytes -/
def Wo (w : World) (g lo : Nat) (out : List UInt8) : Prop := ∃ ps, outOf ps = out ∧ Wr w g lo ps
theorem Wo.lt {w : World} {g lo : Nat} {out : List UInt8} (h : Wo w g lo out) : lo < w.heap.size := by obtain ⟨_, _, _, h, _⟩ := h; exact h
theorem Wo.le {w : World} {g lo : Nat} {out : List UInt8} (h : Wo w g lo out) : g ≤ lo := by obtain ⟨_, _, h, _⟩ := h; exact h
theorem Wo.below {w w' : World} {g lo : Nat} {out : List UInt8} (h : Wo w g lo out) (hb : Below w.heap.size w w') : Wo w' g lo out := by obtain ⟨ps, e, h⟩ := h; exact ⟨ps, e, h.below hb⟩
theorem Wo.other {w w' : World} {g lo h : Nat} {out : List UInt8} (hw : Wo w g lo out) (hb : Besides h w w') (hg : g ≠ h) (hl : h ≤ lo) : Wo w' g lo out := by obtain ⟨ps, e, hw⟩ := hw; exact ⟨ps, e, hw.other hb hg hl⟩
theorem Wo.new (w : World) : Wo (w.alloc (.cells #[.pointer none, .int .i64 0] 100)) w.heap.size w.heap.size [] := ⟨[], rfl, .new w⟩

set_option maxRecDepth 100000 in
set_option maxHeartbeats 1000000 in
theorem clone_any (w : World) (A : Option Addr) (bs : List UInt8) (c : Nat) (hR : Rd w w.heap.size A (u8s bs)) (hl : bs.length ≤ 140737488351232) :
    Calls Try.prog 29 #[.slice A bs.length c] w fun e w' => (∃ A' c', e = .returned (.slice A' bs.length c') ∧ w'.ownsRow w.heap.size 5 1 (.slice A' bs.length c') bs.length (u8s bs)) ∧ Below w.heap.size w w' := by
  obtain ⟨i0, hi0, hz0, hz1, hz2⟩ := info_parts (show (Try.prog.info? 5).map (fun i => (i.zero, i.size, i.bytes)) = some (some (.int .u8 0), 1, 1) by kernel_rfl)
  go_enter Try.func29, Try.ntmps29
  have hq := fun (w : World) => Lib.run_eql_slice_nil (P := Try.prog) w 23 5 A bs.length c 0 0 Try.underlying23
  cases A with
  | none =>
    have hn : bs = [] := by
      rcases bs with _ | ⟨x, l⟩
      · rfl
      · obtain ⟨b, o, e, _⟩ := hR (by simp [u8s])
        cases e
    subst hn
    have hq := fun (w : World) => Lib.run_eql_slice_nil (P := Try.prog) w 23 5 none 0 c 0 0 Try.underlying23
    go_wp2
    go_ret
    exact ⟨⟨none, 0, rfl, World.ownsRow_nil _ _ _ _⟩, Below.refl _ _⟩
  | some p =>
    have hown : (w.alloc (.cells #[] 5)).ownsRow w.heap.size 5 1 (.slice (some ⟨w.heap.size, 0, none⟩) 0 0) 0 [] := ⟨rfl, .inr ⟨w.heap.size, 0, #[], rfl, Nat.le_refl _, heap_alloc_last w _, Nat.le_refl _, by decide, rfl, rfl⟩⟩
    have hR1 := hR.alloc (Nat.le_refl _) (.cells #[] 5)
    go_wp2_with (at_builtin; refine wpList_app rfl (.tmp 5) (.tmp 6) 23 rfl w.heap.size 5 i0 (.int .u8 0) 1 1 Try.underlying23 hi0 hz0 hz1 hz2 rfl (by decide) _ 0 _ rfl hown w.heap.size (some p) bs.length c (u8s bs) rfl (by rw [u8s_len]; omega) hR1 (u8s_one bs) (by unfold maxLen; omega) (by omega) (by simp) ?_; intro A2 c2 w2 hown2 hg2 hat2)
    rw [Nat.zero_add, List.nil_append] at hown2
    have hb2 := app_below (((Below.refl _ w).alloc (Nat.le_refl _) (.cells #[] 5))) hown hg2 (by simp) (Nat.le_refl _)
    clear hg2 hat2
    go_wp2
    go_ret
    exact ⟨⟨A2, c2, rfl, hown2⟩, hb2⟩

theorem put_len (w : World) (g : Nat) {lo : Nat} (out : List UInt8) (A : Option Addr) (bs : List UInt8) (n : Nat) (hn : bs.length = n) (c : Nat) (hW : Wo w g lo out) (hR : Rg w lo A (u8s bs)) (hl : out.length + n ≤ 4611686018427387904) :
    Calls Try.prog 66 #[.pointer (some ⟨g, 0, none⟩), .slice A n c] w fun e w' => e = .returned (.tuple #[]) ∧ Wo w' g lo (out ++ bs) ∧ Besides g w w' := by
  subst hn
  obtain ⟨ps, rfl, hW⟩ := hW
  refine (put_any w g lo ps A bs c hW hR hl).mono ?_
  rintro e w' ⟨rfl, h, hb⟩
  exact ⟨rfl, ⟨_, rfl, h⟩, hb⟩

set_option maxRecDepth 100000 in
set_option maxHeartbeats 1000000 in
theorem put8 (w : World) (g : Nat) {lo : Nat} (out : List UInt8) (m : Nat) (hm : m < 256) (hW : Wo w g lo out) (hl : out.length ≤ 1000000000000) :
    Calls Try.prog 53 #[.pointer (some ⟨g, 0, none⟩), .int .u8 m] w fun e w' => e = .returned (.tuple #[]) ∧ Wo w' g lo (out ++ be 1 m) ∧ Besides g w w' := by
  go_enter Try.func53, Try.ntmps53
  have hlt := hW.lt
  go_wp2_with fail
  refine (digits8 m hm _).mono ?_
  rintro e w1 ⟨rfl, hr, hlt1, hb1⟩
  have hR := Rg.of_rd hr (g := lo) (by omega)
  have hW1 := hW.below hb1
  go_wp2_with fail
  refine (put_len _ g out _ (be 1 m) 1 (be_len _ _) _ hW1 hR (by omega)).mono ?_
  rintro e w2 ⟨rfl, hW2, hb2⟩
  go_wp2
  go_end0
  exact ⟨rfl, hW2, (Besides.of_below hb1).trans hb2⟩

set_option maxRecDepth 100000 in
set_option maxHeartbeats 1000000 in
theorem put32 (w : World) (g : Nat) {lo : Nat} (out : List UInt8) (m : Nat) (hm : m < 4294967296) (hW : Wo w g lo out) (hl : out.length ≤ 1000000000000) :
    Calls Try.prog 56 #[.pointer (some ⟨g, 0, none⟩), .int .u32 m] w fun e w' => e = .returned (.tuple #[]) ∧ Wo w' g lo (out ++ be 4 m) ∧ Besides g w w' := by
  go_enter Try.func56, Try.ntmps56
  have hlt := hW.lt
  go_wp2_with fail
  refine (digits32 m hm _).mono ?_
  rintro e w1 ⟨rfl, hr, hlt1, hb1⟩
  have hR := Rg.of_rd hr (g := lo) (by omega)
  have hW1 := hW.below hb1
  go_wp2_with fail
  refine (put_len _ g out _ (be 4 m) 4 (be_len _ _) _ hW1 hR (by omega)).mono ?_
  rintro e w2 ⟨rfl, hW2, hb2⟩
  go_wp2
  go_end0
  exact ⟨rfl, hW2, (Besides.of_below hb1).trans hb2⟩

set_option maxRecDepth 100000 in
set_option maxHeartbeats 1000000 in
theorem put64 (w : World) (g : Nat) {lo : Nat} (out : List UInt8) (m : Nat) (hm : m < 18446744073709551616) (hW : Wo w g lo out) (hl : out.length ≤ 1000000000000) :
    Calls Try.prog 54 #[.pointer (some ⟨g, 0, none⟩), .int .u64 m] w fun e w' => e = .returned (.tuple #[]) ∧ Wo w' g lo (out ++ be 8 m) ∧ Besides g w w' := by
  go_enter Try.func54, Try.ntmps54
  have hlt := hW.lt
  go_wp2_with fail
  refine (digits64 m hm _).mono ?_
  rintro e w1 ⟨rfl, hr, hlt1, hb1⟩
  have hR := Rg.of_rd hr (g := lo) (by omega)
  have hW1 := hW.below hb1
  go_wp2_with fail
  refine (put_len _ g out _ (be 8 m) 8 (be_len _ _) _ hW1 hR (by omega)).mono ?_
  rintro e w2 ⟨rfl, hW2, hb2⟩
  go_wp2
  go_end0
  exact ⟨rfl, hW2, (Besides.of_below hb1).trans hb2⟩

end Go.Proofs.Ytigmmikijjcdiaa
