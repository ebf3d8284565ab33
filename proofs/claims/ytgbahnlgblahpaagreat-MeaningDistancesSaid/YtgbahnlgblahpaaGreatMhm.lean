/- A heap of spots in memory: Len, Less, Swap. (printed by gen/mhm.py) -/
import Derived.Test.YtgbahnlgblahpaaGreatMhp
import Derived.Test.YtgbahnlgblahpaaGreatMrw
import Derived.Test.YtgbahnlgblahpaaGreatRgl
import Derived.Test.YtgbahnlgblahpaaGreatReg
import Derived.WalkSpells
import Derived.WalkMore
import Derived.IntWalk
namespace Go.Proofs.YtgbahnlgblahpaaGreat
open Go.RowKit
set_option linter.unusedVariables false
set_option linter.unusedSimpArgs false
def spV (d : List Sp) : List Value := d.flatMap fun x => [.int .i64 x.1, .int .i64 x.2]
theorem spV_len (d : List Sp) : (spV d).length = d.length * 2 := by
  unfold spV
  induction d with
  | nil => rfl
  | cons x d ih => rw [List.flatMap_cons, List.length_append, ih, List.length_cons]; simp; omega
theorem spV_get : ∀ {d : List Sp} {i : Nat} {m : Sp}, d[i]? = some m → (spV d)[i * 2]? = some (.int .i64 m.1) ∧ (spV d)[i * 2 + 1]? = some (.int .i64 m.2) := by
  intro d
  induction d with
  | nil => intro i m h; simp at h
  | cons x d ih =>
    intro i m h
    cases i with
    | zero => simp at h; subst h; simp [spV]
    | succ i =>
      have := ih (i := i) (m := m) (by simpa using h)
      unfold spV at this ⊢
      rw [List.flatMap_cons, show (i + 1) * 2 = i * 2 + 2 by omega]
      simpa using this
theorem spV_set : ∀ {d : List Sp} {i : Nat} (m : Sp), i < d.length → spV (d.set i m) = ((spV d).set (i * 2) (.int .i64 m.1)).set (i * 2 + 1) (.int .i64 m.2) := by
  intro d
  induction d with
  | nil => intro i m h; simp at h
  | cons x d ih =>
    intro i m h
    cases i with
    | zero => simp [spV]
    | succ i =>
      have h2 := ih (i := i) m (by simpa using h)
      unfold spV at h2 ⊢
      rw [List.set_cons_succ, List.flatMap_cons, h2, List.flatMap_cons]
      simp only [List.cons_append, List.nil_append, show (i + 1) * 2 = i * 2 + 2 by omega, Nat.add_right_comm, List.set_cons_succ]
/-- the row at P holds d, in block g; all but P and G0 is as it was in v0 -/
structure HpM (P g n c : Nat) (d : List Sp) (w : World) : Prop where
  len : d.length = n
  own : w.ownsRow 0 70 2 (.slice (some ⟨g, 0, none⟩) n c) n (spV d)
  ptr : w.heap[P]? = some (.cells #[.slice (some ⟨g, 0, none⟩) n c] 72)
section
variable {w w' : World} {P g n c : Nat} {d : List Sp}
theorem HpM.ne (h : HpM P g n c d w) : g ≠ P := fun e => by
  subst e
  rcases h.own.2 with ⟨h0, _⟩ | ⟨g', cap, cur, hv, _, hc, _⟩
  · cases h0
  · injection hv with h1
    injection h1 with h1
    injection h1 with h1
    subst h1
    rw [h.ptr] at hc
    injection hc with hc
    injection hc with _ h2
    exact absurd h2 (by decide)
theorem HpM.glt (h : HpM P g n c d w) : g < w.heap.size := (h.own.lt g rfl).2
theorem HpM.plt (h : HpM P g n c d w) : P < w.heap.size := lt_of_block h.ptr
theorem HpM.cap (h : HpM P g n c d w) : n ≤ c := own_cap h.own
theorem HpM.drew (h : HpM P g n c d w) : HpM P g n c d w.drew := ⟨h.len, h.own.drew, h.ptr⟩
theorem HpM.keep (h : HpM P g n c d w) (hg : w'.heap[g]? = w.heap[g]?) (hp : w'.heap[P]? = w.heap[P]?) : HpM P g n c d w' := by
  refine ⟨h.len, ⟨h.own.1, ?_⟩, hp.trans h.ptr⟩
  rcases h.own.2 with h0 | ⟨g', cap, cur, hv, hb, hc, hr⟩
  · exact .inl h0
  · have e : g' = g := by
      injection hv with h1
      injection h1 with h1
      injection h1 with h1
      exact h1.symm
    subst e
    exact .inr ⟨g', cap, cur, hv, hb, hg.trans hc, hr⟩
theorem HpM.below (h : HpM P g n c d w) (hb : Below w.heap.size w w') : HpM P g n c d w' := h.keep (hb.block g h.glt) (hb.block P h.plt)
theorem HpM.frozen (h : HpM P g n c d w) (j : Nat) : w.frozen? ⟨g, j, none⟩ = false := h.own.frozenAt j
theorem HpM.get (h : HpM P g n c d w) {i : Nat} {m : Sp} (hm : d[i]? = some m) : w.cell? ⟨g, i * 2, none⟩ = some (.int .i64 m.1) ∧ w.cell? ⟨g, i * 2 + 1, none⟩ = some (.int .i64 m.2) := by
  have hi := (List.getElem?_eq_some_iff.1 hm).1
  have hl := h.len
  exact ⟨(h.own.cellAt (i * 2) (by omega)).trans (spV_get hm).1, (h.own.cellAt (i * 2 + 1) (by omega)).trans (spV_get hm).2⟩
theorem HpM.set (h : HpM P g n c d w) {i : Nat} (hi : i < n) (m : Sp) : HpM P g n c (d.set i m) ((w.setCell ⟨g, i * 2, none⟩ (.int .i64 m.1)).setCell ⟨g, i * 2 + 1, none⟩ (.int .i64 m.2)) := by
  have hne : P ≠ g := h.ne.symm
  refine ⟨by rw [List.length_set]; exact h.len, ?_, ?_⟩
  · rw [spV_set m (by rw [h.len]; exact hi)]
    exact ((h.own.stored (i * 2) (.int .i64 m.1)).1.stored (i * 2 + 1) (.int .i64 m.2)).1
  · exact ((Below.heap_setCell _ ⟨g, i * 2 + 1, none⟩ _ P hne).trans (Below.heap_setCell _ ⟨g, i * 2, none⟩ _ P hne)).trans h.ptr
end
/-- all blocks that lay in v are as they were, but for P and g -/
structure KH (P g : Nat) (v w : World) : Prop where
  os : w.os = v.os
  tape : w.tape = v.tape
  output : w.output = v.output
  size : v.heap.size ≤ w.heap.size
  blk : ∀ b, b < v.heap.size → b ≠ P → b ≠ g → w.heap[b]? = v.heap[b]?
section
variable {P g B : Nat} {v w w' : World}
theorem KH.refl (P g : Nat) (v : World) : KH P g v v := ⟨rfl, rfl, rfl, Nat.le_refl _, fun _ _ _ _ => rfl⟩
theorem KH.drew (h : KH P g v w) : KH P g v w.drew := ⟨h.os, h.tape, h.output, h.size, h.blk⟩
theorem KH.trans (h : KH P g v w) (h' : KH P g w w') : KH P g v w' := ⟨h'.os.trans h.os, h'.tape.trans h.tape, h'.output.trans h.output, Nat.le_trans h.size h'.size, fun b hb h1 h2 => (h'.blk b (Nat.lt_of_lt_of_le hb h.size) h1 h2).trans (h.blk b hb h1 h2)⟩
theorem KH.below (h : KH P g v w) (hb : Below B w w') (hB : v.heap.size ≤ B) : KH P g v w' := ⟨hb.os.trans h.os, hb.tape.trans h.tape, hb.output.trans h.output, Nat.le_trans h.size hb.size, fun b hl h1 h2 => (hb.block b (Nat.lt_of_lt_of_le hl hB)).trans (h.blk b hl h1 h2)⟩
theorem KH.of_below (hb : Below v.heap.size v w) : KH P g v w := (KH.refl P g v).below hb (Nat.le_refl _)
theorem KH.setCell (h : KH P g v w) {p : Addr} (hp : p.block = P ∨ p.block = g) (u : Value) : KH P g v (w.setCell p u) := by
  have hb := (Below.refl 0 w).setCell (Nat.zero_le p.block) u
  exact ⟨hb.os.trans h.os, hb.tape.trans h.tape, hb.output.trans h.output, by rw [World.size_setCell]; exact h.size, fun b hl h1 h2 => (Below.heap_setCell _ _ _ b (by rcases hp with e | e <;> rw [e] <;> assumption)).trans (h.blk b hl h1 h2)⟩
theorem KH.grown (h : KH P g v w) (hg : w.grownBy w' (some g)) : KH P g v w' := ⟨hg.os.trans h.os, hg.tape.trans h.tape, hg.output.trans h.output, Nat.le_trans h.size hg.size, fun b hl h1 h2 => (hg.block b (Nat.lt_of_lt_of_le hl h.size) (fun e => by injection e with e; exact h2 e)).trans (h.blk b hl h1 h2)⟩
theorem KH.toBelow (h : KH P g v w) (hP : B ≤ P) (hg : B ≤ g) (hv : B ≤ v.heap.size) : Below B v w := ⟨h.os, h.tape, h.output, h.size, fun b hb => h.blk b (by omega) (by omega) (by omega)⟩
theorem KH.set2 (h : KH P g v w) (i j : Nat) (a b : Value) : KH P g v ((w.setCell ⟨g, i, none⟩ a).setCell ⟨g, j, none⟩ b) := (h.setCell (p := ⟨g, i, none⟩) (.inr rfl) _).setCell (p := ⟨g, j, none⟩) (.inr rfl) _
end
set_option maxRecDepth 100000 in
theorem hlen_any (w : World) (A : Option Addr) (n c : Nat) : Calls Tryz.prog 35 #[.slice A n c] w fun e w' => e = .returned (.int .i64 (n : Int)) ∧ w' = w := by
  go_enter Tryz.func35, Tryz.ntmps35
  go_wp2
  go_ret
  exact ⟨rfl, rfl⟩
set_option maxRecDepth 100000 in
set_option maxHeartbeats 4000000 in
theorem hless_any (w : World) (P g n c : Nat) (d : List Sp) (i j : Nat) (x y : Sp) (hM : HpM P g n c d w) (hx : d[i]? = some x) (hy : d[j]? = some y) :
    Calls Tryz.prog 135 #[.slice (some ⟨g, 0, none⟩) n c, .int .i64 (i : Int), .int .i64 (j : Int)] w fun e w' => e = .returned (.bool (decide (x.2 < y.2))) ∧ w' = w.drew := by
  obtain ⟨x0, x1⟩ := hM.get hx
  obtain ⟨y0, y1⟩ := hM.get hy
  have hlen := hM.len
  have hi := (List.getElem?_eq_some_iff.1 hx).1
  have hj := (List.getElem?_eq_some_iff.1 hy).1
  have hi0 : (0 : Int) ≤ (i : Int) := by omega
  have hi1 : (i : Int) < (n : Int) := by omega
  have hj0 : (0 : Int) ≤ (j : Int) := by omega
  have hj1 : (j : Int) < (n : Int) := by omega
  have hg := hM.glt
  clear hM hx hy hlen hi hj
  go_enter Tryz.func135, Tryz.ntmps135
  go_upto_region 1 with fail
  refine wp_region_held_drew (S := Kept w) (by kernel_rfl) (Kept.drew w) (fun hS0 => ?_)
  refine take_at (i := 0) (d := 7) (v := ?_) (by simp only [List.getElem?_toArray, List.getElem?_cons_succ, List.getElem?_cons_zero]; rfl) rfl (by kernel_rfl) (by kernel_rfl) (by kernel_rfl) (fun _ _ _ h => h) rfl ?_ (by assumption) ?_
  rotate_left
  focus (intro w hSw; go_simp; (try with_reducible rfl); done)
  try simp only [List.setIfInBounds_toArray, List.set_cons_zero, List.set_cons_succ]
  refine take_at (i := 1) (d := 8) (v := ?_) (by simp only [List.getElem?_toArray, List.getElem?_cons_succ, List.getElem?_cons_zero]; rfl) rfl (by kernel_rfl) (by kernel_rfl) (by kernel_rfl) (fun _ _ _ h => h) rfl ?_ (by assumption) ?_
  rotate_left
  focus (intro w hSw; go_simp; (try with_reducible rfl); done)
  try simp only [List.setIfInBounds_toArray, List.set_cons_zero, List.set_cons_succ]
  refine take_at (i := 2) (d := 9) (v := ?_) (by simp only [List.getElem?_toArray, List.getElem?_cons_succ, List.getElem?_cons_zero]; rfl) rfl (by kernel_rfl) (by kernel_rfl) (by kernel_rfl) (fun _ _ _ h => h) rfl ?_ (by assumption) ?_
  rotate_left
  focus (intro w hSw; go_simp; (try with_reducible rfl); done)
  try simp only [List.setIfInBounds_toArray, List.set_cons_zero, List.set_cons_succ]
  refine take_at (i := 3) (d := 10) (v := ?_) (by simp only [List.getElem?_toArray, List.getElem?_cons_succ, List.getElem?_cons_zero]; rfl) rfl (by kernel_rfl) (by kernel_rfl) (by kernel_rfl) (fun _ _ _ h => h) rfl ?_ (by assumption) ?_
  rotate_left
  focus (intro w hSw; go_simp; (try with_reducible rfl); done)
  try simp only [List.setIfInBounds_toArray, List.set_cons_zero, List.set_cons_succ]
  refine take_at (i := 4) (d := 11) (v := ?_) (by simp only [List.getElem?_toArray, List.getElem?_cons_succ, List.getElem?_cons_zero]; rfl) rfl (by kernel_rfl) (by kernel_rfl) (by kernel_rfl) (fun _ _ _ h => h) rfl ?_ (by assumption) ?_
  rotate_left
  focus (intro w hSw; go_simp; (try with_reducible rfl); done)
  try simp only [List.setIfInBounds_toArray, List.set_cons_zero, List.set_cons_succ]
  refine take_at (i := 5) (d := 12) (v := ?_) (by simp only [List.getElem?_toArray, List.getElem?_cons_succ, List.getElem?_cons_zero]; rfl) rfl (by kernel_rfl) (by kernel_rfl) (by kernel_rfl) (fun _ _ _ h => h) rfl ?_ (by assumption) ?_
  rotate_left
  focus (intro w hSw; go_simp; (try with_reducible rfl); done)
  try simp only [List.setIfInBounds_toArray, List.set_cons_zero, List.set_cons_succ]
  refine take_at (i := 6) (d := 13) (v := ?_) (by simp only [List.getElem?_toArray, List.getElem?_cons_succ, List.getElem?_cons_zero]; rfl) rfl (by kernel_rfl) (by kernel_rfl) (by kernel_rfl) (fun _ _ _ h => h) rfl ?_ (by assumption) ?_
  rotate_left
  focus (intro w hSw; go_simp; (try with_reducible rfl); done)
  try simp only [List.setIfInBounds_toArray, List.set_cons_zero, List.set_cons_succ]
  refine take_at (i := 7) (d := 14) (v := ?_) (by simp only [List.getElem?_toArray, List.getElem?_cons_succ, List.getElem?_cons_zero]; rfl) rfl (by kernel_rfl) (by kernel_rfl) (by kernel_rfl) (fun _ _ _ h => h) rfl ?_ (by assumption) ?_
  rotate_left
  focus (intro w hSw; go_simp; (try with_reducible rfl); done)
  try simp only [List.setIfInBounds_toArray, List.set_cons_zero, List.set_cons_succ]
  refine take_at (i := 8) (d := 15) (v := ?_) (by simp only [List.getElem?_toArray, List.getElem?_cons_succ, List.getElem?_cons_zero]; rfl) rfl (by kernel_rfl) (by kernel_rfl) (by kernel_rfl) (fun _ _ _ h => h) rfl ?_ (by assumption) ?_
  rotate_left
  focus (intro w hSw; go_simp; (try with_reducible rfl); done)
  try simp only [List.setIfInBounds_toArray, List.set_cons_zero, List.set_cons_succ]
  refine take_at (i := 9) (d := 16) (v := ?_) (by simp only [List.getElem?_toArray, List.getElem?_cons_succ, List.getElem?_cons_zero]; rfl) rfl (by kernel_rfl) (by kernel_rfl) (by kernel_rfl) (fun _ _ _ h => h) rfl ?_ (by assumption) ?_
  rotate_left
  focus (intro w hSw; go_simp; (try with_reducible rfl); done)
  try simp only [List.setIfInBounds_toArray, List.set_cons_zero, List.set_cons_succ]
  refine take_at (i := 10) (d := 17) (v := ?_) (by simp only [List.getElem?_toArray, List.getElem?_cons_succ, List.getElem?_cons_zero]; rfl) rfl (by kernel_rfl) (by kernel_rfl) (by kernel_rfl) (fun _ _ _ h => h) rfl ?_ (by assumption) ?_
  rotate_left
  focus (intro w hSw; go_simp; (try with_reducible rfl); done)
  try simp only [List.setIfInBounds_toArray, List.set_cons_zero, List.set_cons_succ]
  refine take_at (i := 11) (d := 6) (v := ?_) (by simp only [List.getElem?_toArray, List.getElem?_cons_succ, List.getElem?_cons_zero]; rfl) rfl (by kernel_rfl) (by kernel_rfl) (by kernel_rfl) (fun _ _ _ h => h) rfl ?_ (by assumption) ?_
  rotate_left
  focus (intro w hSw; go_simp; (try with_reducible rfl); done)
  try simp only [List.setIfInBounds_toArray, List.set_cons_zero, List.set_cons_succ]
  refine wpAnyH_done (by kernel_rfl) ?_ _
  clear hS0
  go_wp2
  go_ret
  exact ⟨rfl, rfl⟩
set_option maxRecDepth 100000 in
set_option maxHeartbeats 4000000 in
theorem hswap_any (w : World) (P g n c : Nat) (d : List Sp) (i j : Nat) (x y : Sp) (hM : HpM P g n c d w) (hx : d[i]? = some x) (hy : d[j]? = some y) :
    Calls Tryz.prog 138 #[.slice (some ⟨g, 0, none⟩) n c, .int .i64 (i : Int), .int .i64 (j : Int)] w fun e w' => e = .returned (.tuple #[]) ∧ HpM P g n c ((d.set i y).set j x) w' ∧ KH P g w w' ∧ w'.heap.size = w.heap.size := by
  have HS := hide hM
  have hlen := hM.len
  have hi := (List.getElem?_eq_some_iff.1 hx).1
  have hj := (List.getElem?_eq_some_iff.1 hy).1
  have hi0 : (0 : Int) ≤ (i : Int) := by omega
  have hi1 : (i : Int) < (n : Int) := by omega
  have hj0 : (0 : Int) ≤ (j : Int) := by omega
  have hj1 : (j : Int) < (n : Int) := by omega
  obtain ⟨cx0, cx1⟩ := HS.out.get hx
  have cxf0 := HS.out.frozen (i * 2)
  have cxf1 := HS.out.frozen (i * 2 + 1)
  obtain ⟨cy0, cy1⟩ := HS.out.get hy
  have cyf0 := HS.out.frozen (j * 2)
  have cyf1 := HS.out.frozen (j * 2 + 1)
  have hg := hM.glt
  have HX := hide hx
  have HY := hide hy
  clear hM hx hy
  go_enter Tryz.func138, Tryz.ntmps138
  go_upto_region 0 with fail
  refine wpL_region (S := Kept w) [13, 15] (by kernel_rfl) (Kept.drew w) (fun hS0 => ?_)
  refine takeL_at (i := 0) (d := 6) (v := ?_) (by simp only [List.getElem?_toArray, List.getElem?_cons_succ, List.getElem?_cons_zero]; rfl) rfl (by kernel_rfl) (by kernel_rfl) (by kernel_rfl) (by kernel_rfl) (fun _ _ _ h => h) rfl ?_ (by assumption) ?_
  rotate_left
  focus (intro w hSw; go_simp; (try with_reducible rfl); done)
  try simp only [List.setIfInBounds_toArray, List.set_cons_zero, List.set_cons_succ]
  refine takeL_at (i := 1) (d := 7) (v := ?_) (by simp only [List.getElem?_toArray, List.getElem?_cons_succ, List.getElem?_cons_zero]; rfl) rfl (by kernel_rfl) (by kernel_rfl) (by kernel_rfl) (by kernel_rfl) (fun _ _ _ h => h) rfl ?_ (by assumption) ?_
  rotate_left
  focus (intro w hSw; go_simp; (try with_reducible rfl); done)
  try simp only [List.setIfInBounds_toArray, List.set_cons_zero, List.set_cons_succ]
  refine takeW_at (i := 2) (d := 8) (v := ?_) (by simp only [List.getElem?_toArray, List.getElem?_cons_succ, List.getElem?_cons_zero]; rfl) rfl (by kernel_rfl) (by kernel_rfl) (by kernel_rfl) (fun _ _ _ h => h) rfl ?_ ?_
  rotate_left
  focus (intro w; go_simp; (try with_reducible rfl); done)
  try simp only [List.setIfInBounds_toArray, List.set_cons_zero, List.set_cons_succ]
  refine takeW_at (i := 3) (d := 9) (v := ?_) (by simp only [List.getElem?_toArray, List.getElem?_cons_succ, List.getElem?_cons_zero]; rfl) rfl (by kernel_rfl) (by kernel_rfl) (by kernel_rfl) (fun _ _ _ h => h) rfl ?_ ?_
  rotate_left
  focus (intro w; go_simp; (try with_reducible rfl); done)
  try simp only [List.setIfInBounds_toArray, List.set_cons_zero, List.set_cons_succ]
  refine takeL_at (i := 4) (d := 10) (v := ?_) (by simp only [List.getElem?_toArray, List.getElem?_cons_succ, List.getElem?_cons_zero]; rfl) rfl (by kernel_rfl) (by kernel_rfl) (by kernel_rfl) (by kernel_rfl) (fun _ _ _ h => h) rfl ?_ (by assumption) ?_
  rotate_left
  focus (intro w hSw; go_simp; (try with_reducible rfl); done)
  try simp only [List.setIfInBounds_toArray, List.set_cons_zero, List.set_cons_succ]
  refine takeL_at (i := 5) (d := 11) (v := ?_) (by simp only [List.getElem?_toArray, List.getElem?_cons_succ, List.getElem?_cons_zero]; rfl) rfl (by kernel_rfl) (by kernel_rfl) (by kernel_rfl) (by kernel_rfl) (fun _ _ _ h => h) rfl ?_ (by assumption) ?_
  rotate_left
  focus (intro w hSw; go_simp; (try with_reducible rfl); done)
  try simp only [List.setIfInBounds_toArray, List.set_cons_zero, List.set_cons_succ]
  refine takeL_at (i := 6) (d := 12) (v := ?_) (by simp only [List.getElem?_toArray, List.getElem?_cons_succ, List.getElem?_cons_zero]; rfl) rfl (by kernel_rfl) (by kernel_rfl) (by kernel_rfl) (by kernel_rfl) (fun _ _ _ h => h) rfl ?_ (by assumption) ?_
  rotate_left
  focus (intro w hSw; go_simp; (try with_reducible rfl); done)
  try simp only [List.setIfInBounds_toArray, List.set_cons_zero, List.set_cons_succ]
  refine takeL_at (i := 7) (d := 13) (v := ?_) (by simp only [List.getElem?_toArray, List.getElem?_cons_succ, List.getElem?_cons_zero]; rfl) rfl (by kernel_rfl) (by kernel_rfl) (by kernel_rfl) (by kernel_rfl) (fun _ _ _ h => h) rfl ?_ (by assumption) ?_
  rotate_left
  focus (intro w hSw; go_simp; (try with_reducible rfl); done)
  try simp only [List.setIfInBounds_toArray, List.set_cons_zero, List.set_cons_succ]
  refine takeW_at (i := 8) (d := 14) (v := ?_) (by simp only [List.getElem?_toArray, List.getElem?_cons_succ, List.getElem?_cons_zero]; rfl) rfl (by kernel_rfl) (by kernel_rfl) (by kernel_rfl) (fun _ _ _ h => h) rfl ?_ ?_
  rotate_left
  focus (intro w; go_simp; (try with_reducible rfl); done)
  try simp only [List.setIfInBounds_toArray, List.set_cons_zero, List.set_cons_succ]
  refine takeW_at (i := 9) (d := 15) (v := ?_) (by simp only [List.getElem?_toArray, List.getElem?_cons_succ, List.getElem?_cons_zero]; rfl) rfl (by kernel_rfl) (by kernel_rfl) (by kernel_rfl) (fun _ _ _ h => h) rfl ?_ ?_
  rotate_left
  focus (intro w; go_simp; (try with_reducible rfl); done)
  try simp only [List.setIfInBounds_toArray, List.set_cons_zero, List.set_cons_succ]
  refine takeW_at (i := 10) (d := 16) (v := ?_) (by simp only [List.getElem?_toArray, List.getElem?_cons_succ, List.getElem?_cons_zero]; rfl) rfl (by kernel_rfl) (by kernel_rfl) (by kernel_rfl) (fun _ _ _ h => h) rfl ?_ ?_
  rotate_left
  focus (intro w; go_simp; (try with_reducible rfl); done)
  try simp only [List.setIfInBounds_toArray, List.set_cons_zero, List.set_cons_succ]
  refine takeL_at (i := 11) (d := 17) (v := ?_) (by simp only [List.getElem?_toArray, List.getElem?_cons_succ, List.getElem?_cons_zero]; rfl) rfl (by kernel_rfl) (by kernel_rfl) (by kernel_rfl) (by kernel_rfl) (fun _ _ _ h => h) rfl ?_ (by assumption) ?_
  rotate_left
  focus (intro w hSw; go_simp; (try with_reducible rfl); done)
  try simp only [List.setIfInBounds_toArray, List.set_cons_zero, List.set_cons_succ]
  refine takeL_at (i := 12) (d := 18) (v := ?_) (by simp only [List.getElem?_toArray, List.getElem?_cons_succ, List.getElem?_cons_zero]; rfl) rfl (by kernel_rfl) (by kernel_rfl) (by kernel_rfl) (by kernel_rfl) (fun _ _ _ h => h) rfl ?_ (by assumption) ?_
  rotate_left
  focus (intro w hSw; go_simp; (try with_reducible rfl); done)
  try simp only [List.setIfInBounds_toArray, List.set_cons_zero, List.set_cons_succ]
  refine exL_at (i := 13) (by simp only [List.getElem?_toArray, List.getElem?_cons_succ, List.getElem?_cons_zero]; rfl) (by kernel_rfl) rfl (by kernel_rfl) (fun K hK => ?_)
  go_wp2_with fail
  refine hK.out _ _ ?_
  clear hK K
  try simp only [List.setIfInBounds_toArray, List.set_cons_zero, List.set_cons_succ]
  have HSa := hide (HpM.set HS.out (i := i) (by omega) y).drew
  obtain ⟨ya, hya⟩ : ∃ z, World.drew ((w.setCell ⟨g, i * 2, none⟩ (.int .i64 y.1)).setCell ⟨g, i * 2 + 1, none⟩ (.int .i64 y.2)) = z := ⟨_, rfl⟩
  rw [hya] at HSa
  first | rw [hya] | rw [show _ = ya from hya]
  have HYa := hide hya
  clear hya
  have ga0 := HSa.out.frozen (j * 2)
  have ga1 := HSa.out.frozen (j * 2 + 1)
  obtain ⟨mj, hmj⟩ : ∃ m, (d.set i y)[j]? = some m := ⟨_, List.getElem?_eq_getElem (by rw [List.length_set]; omega)⟩
  obtain ⟨gb0, gb1⟩ := HSa.out.get hmj
  clear hmj
  refine takeW_at (i := 14) (d := 19) (v := ?_) (by simp only [List.getElem?_toArray, List.getElem?_cons_succ, List.getElem?_cons_zero]; rfl) rfl (by kernel_rfl) (by kernel_rfl) (by kernel_rfl) (fun _ _ _ h => h) rfl ?_ ?_
  rotate_left
  focus (intro w; go_simp; (try with_reducible rfl); done)
  try simp only [List.setIfInBounds_toArray, List.set_cons_zero, List.set_cons_succ]
  refine exL_at (i := 15) (by simp only [List.getElem?_toArray, List.getElem?_cons_succ, List.getElem?_cons_zero]; rfl) (by kernel_rfl) rfl (by kernel_rfl) (fun K hK => ?_)
  go_wp2_with fail
  refine hK.out _ _ ?_
  clear hK K
  try simp only [List.setIfInBounds_toArray, List.set_cons_zero, List.set_cons_succ]
  refine wpAnyL_done (by kernel_rfl) ?_ _
  have HSb := hide (HpM.set HSa.out (i := j) (by omega) x)
  have HKb := hide (show KH P g w ((ya.setCell ⟨g, j * 2, none⟩ (.int .i64 x.1)).setCell ⟨g, j * 2 + 1, none⟩ (.int .i64 x.2)) from KH.set2 (by rw [← HYa.out]; exact (KH.set2 (KH.refl _ _ _) _ _ _ _).drew) _ _ _ _)
  have HZb : Hid (((ya.setCell ⟨g, j * 2, none⟩ (.int .i64 x.1)).setCell ⟨g, j * 2 + 1, none⟩ (.int .i64 x.2)).heap.size = w.heap.size) := hide (by rw [World.size_setCell, World.size_setCell, ← HYa.out]; show ((w.setCell ⟨g, i * 2, none⟩ (.int .i64 y.1)).setCell ⟨g, i * 2 + 1, none⟩ (.int .i64 y.2)).heap.size = _; rw [World.size_setCell, World.size_setCell])
  clear hS0 HSa HYa ga0 ga1 gb0 gb1 cx0 cx1 cy0 cy1 cxf0 cxf1 cyf0 cyf1
  go_wp2
  go_end0
  exact ⟨rfl, HSb.out, HKb.out, HZb.out⟩
end Go.Proofs.YtgbahnlgblahpaaGreat
