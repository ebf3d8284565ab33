/- A heap: put and taken. (printed by gen/mhq.py) -/
import Derived.Test.YtgbahnlgblahpaaGreatMhu
import Derived.Test.YtgbahnlgblahpaaGreatOap
namespace Go.Proofs.YtgbahnlgblahpaaGreat
open Go.RowKit
set_option linter.unusedVariables false
set_option linter.unusedSimpArgs false
theorem own_take {w : World} {base : Nat} {e : TypeId} {size n c g k : Nat} {xs : List Value} (h : w.ownsRow base e size (.slice (some ⟨g, 0, none⟩) n c) n xs) (hk : k ≤ n) : w.ownsRow base e size (.slice (some ⟨g, 0, none⟩) k c) k (xs.take (k * size)) := by
  have hks : k * size ≤ n * size := Nat.mul_le_mul_right _ hk
  refine ⟨by rw [List.length_take, h.1]; omega, ?_⟩
  rcases h.2 with ⟨h0, _⟩ | ⟨g', cap, cur, hv, hb, hc, hn, hm, hs, ht⟩
  · cases h0
  · injection hv with h1 _ h3
    subst h3
    injection h1 with h1
    injection h1 with h1
    subst h1
    exact .inr ⟨g, c, cur, rfl, hb, hc, by omega, hm, hs, by rw [← ht, List.take_take, Nat.min_eq_left hks]⟩
theorem grown_at {w w' : World} {o : Obj} {q : Option Nat} {b : Nat} {x : Obj} (h : w.heap[b]? = some x) (hg : (w.drew.alloc o).grownBy w' q) (hne : some b ≠ q) (hb : b < w.heap.size) : w'.heap[b]? = some x :=
  (hg.block b (by simp; omega) (fun e => hne (by first | exact e | exact e.symm))).trans ((Below.heap_alloc w.drew o b (by simpa using hb)).trans h)
theorem own_block_ne {w w' : World} {base D : Nat} {e : TypeId} {size n c g : Nat} {xs : List Value} (h : w.ownsRow base e size (.slice (some ⟨g, 0, none⟩) n c) n xs) (hf : FarG D w w') (hD : g ≠ D) : w'.ownsRow base e size (.slice (some ⟨g, 0, none⟩) n c) n xs := by
  refine ⟨h.1, ?_⟩
  rcases h.2 with h0 | ⟨g', cap, cur, hv, hg, hc, hr⟩
  · exact .inl h0
  · have e9 : g = g' := by injection hv with h1; injection h1 with h1; injection h1
    subst e9
    exact .inr ⟨g, cap, cur, hv, hg, (hf.block g hD hD).trans hc, hr⟩
theorem spot_as (w : World) (x : Sp) : (Instr.typeAssert (.iface 70 (.agg #[.int .i64 x.1, .int .i64 x.2])) 20 70 false).run Tryz.prog w = .ok (.agg #[.int .i64 x.1, .int .i64 x.2]) w := by kernel_rfl
def PushPost (P g n : Nat) (l : List Sp) (w : World) (e : Ending) (w' : World) : Prop := e = .returned (.tuple #[]) ∧ ∃ g' c' d', HpM P g' (n + 1) c' d' w' ∧ d' = l ∧ KH P g w w' ∧ (g' = g ∨ w.heap.size ≤ g')
set_option maxRecDepth 100000 in
set_option maxHeartbeats 4000000 in
theorem rowPush_any (w : World) (P g n c : Nat) (d : List Sp) (x : Sp) (hM : HpM P g n c d w) (hn : n ≤ 1000000) :
    Calls Tryz.prog 137 #[.pointer (some ⟨P, 0, none⟩), .iface 70 (.agg #[.int .i64 x.1, .int .i64 x.2])] w (PushPost P g n (d ++ [x]) w) := by
  obtain ⟨i0, hi0, hz0, hz1, hz2⟩ := info_parts (show (Tryz.prog.info? 70).map (fun i => (i.zero, i.size, i.bytes)) = some (some (.agg #[.int .i64 0, .int .i64 0]), 2, 16) by kernel_rfl)
  have HM := hide hM
  have HOw := hide hM.own
  have HPt := hide hM.ptr
  have HNe : Hid (some P ≠ some g) := hide (fun e => hM.ne (by injection e with e; exact e.symm))
  have p0 := hM.pc
  have hPl := hM.plt
  have hgl := hM.glt
  clear hM
  go_enter Tryz.func137, Tryz.ntmps137
  go_upto_region 0 with fail
  refine wpL_region (S := Kept w) [7, 9] (by kernel_rfl) (Kept.drew w) (fun hS0 => ?_)
  refine takeW_at (i := 0) (d := 4) (v := ?_) (by simp only [List.getElem?_toArray, List.getElem?_cons_succ, List.getElem?_cons_zero]; rfl) rfl (by kernel_rfl) (by kernel_rfl) (by kernel_rfl) (fun _ _ _ h => h) rfl ?_ ?_
  rotate_left
  focus (intro w; go_simp; (try with_reducible rfl); done)
  try simp only [List.setIfInBounds_toArray, List.set_cons_zero, List.set_cons_succ]
  refine takeW_at (i := 1) (d := 5) (v := ?_) (by simp only [List.getElem?_toArray, List.getElem?_cons_succ, List.getElem?_cons_zero]; rfl) rfl (by kernel_rfl) (by kernel_rfl) (by kernel_rfl) (fun _ _ _ h => h) rfl ?_ ?_
  rotate_left
  focus (intro w; go_simp; (try with_reducible rfl); done)
  try simp only [List.setIfInBounds_toArray, List.set_cons_zero, List.set_cons_succ]
  refine takeW_at (i := 2) (d := 6) (v := ?_) (by simp only [List.getElem?_toArray, List.getElem?_cons_succ, List.getElem?_cons_zero]; rfl) rfl (by kernel_rfl) (by kernel_rfl) (by kernel_rfl) (fun _ _ _ h => h) rfl ?_ ?_
  rotate_left
  focus (intro w; go_simp; (try with_reducible rfl); done)
  try simp only [List.setIfInBounds_toArray, List.set_cons_zero, List.set_cons_succ]
  refine takeL_at (i := 3) (d := 7) (v := ?_) (by simp only [List.getElem?_toArray, List.getElem?_cons_succ, List.getElem?_cons_zero]; rfl) rfl (by kernel_rfl) (by kernel_rfl) (by kernel_rfl) (by kernel_rfl) (fun _ _ _ h => h) rfl ?_ (by assumption) ?_
  rotate_left
  focus (intro w hSw; go_simp; (try with_reducible rfl); done)
  try simp only [List.setIfInBounds_toArray, List.set_cons_zero, List.set_cons_succ]
  refine takeW_at (i := 4) (d := 8) (v := ?_) (by simp only [List.getElem?_toArray, List.getElem?_cons_succ, List.getElem?_cons_zero]; rfl) rfl (by kernel_rfl) (by kernel_rfl) (by kernel_rfl) (fun _ _ _ h => h) rfl ?_ ?_
  rotate_left
  focus (intro w; go_simp; (try with_reducible rfl); done)
  try simp only [List.setIfInBounds_toArray, List.set_cons_zero, List.set_cons_succ]
  refine takeW_at (i := 5) (d := 9) (v := ?_) (by simp only [List.getElem?_toArray, List.getElem?_cons_succ, List.getElem?_cons_zero]; rfl) rfl (by kernel_rfl) (by kernel_rfl) (by kernel_rfl) (fun _ _ _ h => h) rfl ?_ ?_
  rotate_left
  focus (intro w; have hh := spot_as w x; go_simp; (try with_reducible rfl); done)
  try simp only [List.setIfInBounds_toArray, List.set_cons_zero, List.set_cons_succ]
  refine callL_at (i := 6) (d := 10) (by simp only [List.getElem?_toArray, List.getElem?_cons_succ, List.getElem?_cons_zero]; rfl) rfl (by kernel_rfl) rfl (fun K hK => ?_)
  go_simp
  have hS1 : Kept w (w.drew.alloc (.cells #[.int .i64 x.1, .int .i64 x.2] 70)) := fun p hp => World.cell?_alloc_lt _ _ _ hp
  refine hK.out _ _ hS1 (fun hSn => ?_)
  clear hK K
  try simp only [List.setIfInBounds_toArray, List.set_cons_zero, List.set_cons_succ]
  refine exL_at (i := 7) (by simp only [List.getElem?_toArray, List.getElem?_cons_succ, List.getElem?_cons_zero]; rfl) (by kernel_rfl) rfl (by kernel_rfl) (fun K hK => ?_)
  refine op_app (.tmp 7) (.tmp 10) 72 rfl 0 70 i0 (.agg #[.int .i64 0, .int .i64 0]) 2 16 Tryz.underlying72 hi0 hz0 hz1 hz2 rfl (by decide) (.slice (some ⟨g, 0, none⟩) n c) n _ rfl (HOw.out.drew.alloc _) (w.heap.size + 1) (some ⟨w.heap.size, 0, none⟩) 1 1 [.int .i64 x.1, .int .i64 x.2] rfl rfl (Rd.new _ _ _ _) (by simp [Value.oneCell']) (by unfold maxLen; omega) (by omega) (Nat.zero_le _) ?_
  intro A' c' y own3 hg3 hat3
  have hP1 := hide (grown_at (HPt.out) hg3 HNe.out hPl)
  have HO3 := hide own3
  have HAt := hide hat3
  have HG3 := hide hg3
  clear own3 hg3 hat3
  have yp : y.cell? ⟨P, 0, none⟩ = some (.slice (some ⟨g, 0, none⟩) n c) := cell_of_row _ _ 0 _ _ _ hP1.out
  have yf : y.frozen? ⟨P, 0, none⟩ = false := frozen_of_row _ _ 0 _ _ hP1.out
  refine hK.out _ _ ?_
  clear hK K
  simp only [Act.put]
  try simp only [List.setIfInBounds_toArray, List.set_cons_zero, List.set_cons_succ]
  refine takeW_at (i := 8) (d := 12) (v := ?_) (by simp only [List.getElem?_toArray, List.getElem?_cons_succ, List.getElem?_cons_zero]; rfl) rfl (by kernel_rfl) (by kernel_rfl) (by kernel_rfl) (fun _ _ _ h => h) rfl ?_ ?_
  rotate_left
  focus (intro w; go_simp; (try with_reducible rfl); done)
  try simp only [List.setIfInBounds_toArray, List.set_cons_zero, List.set_cons_succ]
  refine exL_at (i := 9) (by simp only [List.getElem?_toArray, List.getElem?_cons_succ, List.getElem?_cons_zero]; rfl) (by kernel_rfl) rfl (by kernel_rfl) (fun K hK => ?_)
  go_wp2_with fail
  refine hK.out _ _ ?_
  clear hK K
  try simp only [List.setIfInBounds_toArray, List.set_cons_zero, List.set_cons_succ]
  refine wpAnyL_done (by kernel_rfl) ?_ _
  obtain ⟨g', rfl, _, hg9, hn9⟩ := own_addr HO3.out (by omega)
  have hgg : g' = g ∨ w.heap.size ≤ g' := by
    rcases HAt.out with h | h
    · exact .inl (by injection h)
    · refine .inr ?_
      have h : some g' = some _ := h
      injection h with h
      rw [h]; simp
  have hgP : g' ≠ P := by
    rcases hgg with h | h
    · subst h; exact fun e => HNe.out (by rw [e])
    · omega
  have hp2 := heap_setCell_same y P 0 _ _ (.slice (some ⟨g', 0, none⟩) (n + 1) c') hP1.out
  have HFin : Hid (PushPost P g n (d ++ [x]) w (.returned (.tuple #[])) (y.setCell ⟨P, 0, none⟩ (.slice (some ⟨g', 0, none⟩) (n + 1) c'))) := hide (by
    refine ⟨rfl, g', c', d ++ [x], ⟨by rw [List.length_append, HM.out.len]; rfl, ?_, by simpa using hp2⟩, rfl, ?_, hgg⟩
    · have e : spV (d ++ [x]) = spV d ++ [.int .i64 x.1, .int .i64 x.2] := by simp [spV]
      rw [e]
      exact own_block_ne HO3.out ((FarS.refl P P y).set (p := ⟨P, 0, none⟩) (.inl rfl) _) hgP
    · exact ((((KH.refl P g w).drew).below ((Below.refl _ _).alloc (Nat.le_refl _) _) (Nat.le_refl _)).grown HG3.out).setCell (p := ⟨P, 0, none⟩) (.inl rfl) _)
  clear hp2 hS0 hSn yp yf p0
  go_wp2
  go_end0
  exact HFin.out
def PopPost (P g k c : Nat) (d : List Sp) (x : Sp) (w : World) (e : Ending) (w' : World) : Prop := e = .returned (.iface 70 (.agg #[.int .i64 x.1, .int .i64 x.2])) ∧ HpM P g k c d w' ∧ KH P g w w'
set_option maxRecDepth 100000 in
set_option maxHeartbeats 4000000 in
theorem rowPop_any (w : World) (P g n c : Nat) (d : List Sp) (x : Sp) (hM : HpM P g (n + 1) c (d ++ [x]) w) (hn : n ≤ 1000000) :
    Calls Tryz.prog 136 #[.pointer (some ⟨P, 0, none⟩)] w (PopPost P g n c d x w) := by
  have hl : d.length = n := by have := hM.len; simp at this; exact this
  obtain ⟨x0, x1⟩ := hM.get (i := n) (m := x) (by rw [List.getElem?_append_right (by omega), hl, Nat.sub_self]; rfl)
  have HM := hide hM
  have p0 := hM.pc
  have hPl := hM.plt
  have hgl := hM.glt
  have hcap := hM.cap
  have e1 : IntKind.i64.wrap (((n + 1 : Nat) : Int) - 1) = (n : Int) := by rw [show ((n + 1 : Nat) : Int) - 1 = (n : Int) by omega]; exact IntWalk.i64_in _ (by omega)
  have e2 : ((n + 1 : Nat) : Int) - 1 = (n : Int) := by omega
  obtain ⟨N, hN⟩ : ∃ N, n + 1 = N := ⟨_, rfl⟩
  rw [hN] at e1 e2 p0 hcap HM
  have hn1 : (n : Int) < (N : Int) := by omega
  have hn0 : (0 : Int) ≤ (n : Int) := by omega
  have hnc : n ≤ c := by omega
  have hncI : (n : Int) ≤ (c : Int) := by omega
  have HNN := hide hN
  have HLd := hide hl
  clear hM hN hl
  obtain ⟨u, hu⟩ : ∃ u, w.alloc (.cells #[.int .i64 x.1, .int .i64 x.2] 70) = u := ⟨_, rfl⟩
  have hbu : Below w.heap.size w u := by rw [← hu]; exact (Below.refl _ _).alloc (Nat.le_refl _) _
  have hul : u.heap[w.heap.size]? = some (.cells #[.int .i64 x.1, .int .i64 x.2] 70) := by rw [← hu]; exact heap_alloc_last _ _
  have HMu := hide (HM.out.below hbu)
  have HU := hide hu
  clear hu
  go_enter Tryz.func136, Tryz.ntmps136
  go_upto_region 3 with fail
  rw [HU.out]
  have q0 := HMu.out.pc
  have qf : u.frozen? ⟨P, 0, none⟩ = false := frozen_of_row _ _ 0 _ _ HMu.out.ptr
  have hp2 := heap_setCell_same u P 0 _ _ (.slice (some ⟨g, 0, none⟩) n c) HMu.out.ptr
  obtain ⟨f, hf⟩ : ∃ f, u.setCell ⟨P, 0, none⟩ (.slice (some ⟨g, 0, none⟩) n c) = f := ⟨_, rfl⟩
  have hff : FarG P u f := by rw [← hf]; exact (FarS.refl P P u).set (p := ⟨P, 0, none⟩) (.inl rfl) _
  rw [hf] at hp2
  have hul2 := (hff.block w.heap.size (by omega) (by omega)).trans hul
  have f0 : f.cell? ⟨w.heap.size, 0, none⟩ = some (.int .i64 x.1) := cell_of_row _ _ 0 _ _ _ hul2
  have f1 : f.cell? ⟨w.heap.size, 1, none⟩ = some (.int .i64 x.2) := cell_of_row _ _ 1 _ _ _ hul2
  have HFin : Hid (PopPost P g n c d x w (.returned (.iface 70 (.agg #[.int .i64 x.1, .int .i64 x.2]))) f) := hide (by
    refine ⟨rfl, ⟨HLd.out, ?_, by simpa using hp2⟩, ?_⟩
    · have ht := own_take HMu.out.own (k := n) (by have := HNN.out; omega)
      have e : (spV (d ++ [x])).take (n * 2) = spV d := by
        have : spV (d ++ [x]) = spV d ++ [.int .i64 x.1, .int .i64 x.2] := by simp [spV]
        rw [this, List.take_left' (by rw [spV_len, HLd.out])]
      rw [e] at ht
      exact own_block_ne ht hff HMu.out.ne
    · rw [← hf]; exact (KH.of_below hbu).setCell (p := ⟨P, 0, none⟩) (.inl rfl) _)
  have HFe := hide hf
  clear hp2 hff hul2 hul hbu hf x0 x1 p0
  go_upto_region 4 with fail
  rw [HFe.out]
  clear q0 qf
  go_wp2
  go_ret
  exact HFin.out
def HPushPost (P g n : Nat) (d : List Sp) (x : Sp) (w : World) (e : Ending) (w' : World) : Prop := e = .returned (.tuple #[]) ∧ ∃ g' c' d', HpM P g' (n + 1) c' d' w' ∧ d'.Perm (d ++ [x]) ∧ HeapO d' ∧ KH P g w w' ∧ (g' = g ∨ w.heap.size ≤ g')
theorem KH.sub {P g g' : Nat} {v w w' : World} (h : KH P g v w) (h' : KH P g' w w') (hg : g' = g ∨ v.heap.size ≤ g') : KH P g v w' :=
  ⟨h'.os.trans h.os, h'.tape.trans h.tape, h'.output.trans h.output, Nat.le_trans h.size h'.size, fun b hb h1 h2 => (h'.blk b (Nat.lt_of_lt_of_le hb h.size) h1 (by rcases hg with e | e <;> omega)).trans (h.blk b hb h1 h2)⟩
set_option maxRecDepth 100000 in
set_option maxHeartbeats 4000000 in
theorem heapPush_any (w : World) (P g n c : Nat) (d : List Sp) (x : Sp) (hM : HpM P g n c d w) (hn : n ≤ 100000) (hH : HeapO d) :
    Calls Tryz.prog 39 #[.iface 68 (.pointer (some ⟨P, 0, none⟩)), .iface 70 (.agg #[.int .i64 x.1, .int .i64 x.2])] w (HPushPost P g n d x w) := by
  have hm := mPush w P
  have HC := hide (rowPush_any w P g n c d x hM (by omega))
  have HH := hide hH
  have HL := hide hM.len
  clear hM hH
  go_enter Tryz.func39, Tryz.ntmps39
  go_wp2_with fail
  refine HC.out.mono ?_
  rintro e y ⟨rfl, g', c', d', hM, rfl, hK, hg⟩
  have hm2 := hM.mLen
  have HM := hide hM
  have HK := hide hK
  have HG := hide hg
  clear hm HC hM hK hg
  go_wp2_with fail
  refine (hlen_any y (some ⟨g', 0, none⟩) (n + 1) c').mono ?_
  rintro e y1 ⟨rfl, rfl⟩
  have e1 : IntKind.i64.wrap (((n + 1 : Nat) : Int) - 1) = (n : Int) := by rw [show ((n + 1 : Nat) : Int) - 1 = (n : Int) by omega]; exact IntWalk.i64_in _ (by omega)
  have e2 : ((n + 1 : Nat) : Int) - 1 = (n : Int) := by omega
  obtain ⟨N, hN⟩ : ∃ N, n + 1 = N := ⟨_, rfl⟩
  rw [hN] at e1 e2 HM ⊢
  have hu : UpInv (d ++ [x]) n := by have h := UpInv.push HH.out x; rw [HL.out] at h; exact h
  have HU := hide (up_any y1 P g' N c' (d ++ [x]) n HM.out (by omega) (by omega) hu)
  have HN := hide hN
  clear hm2 hu hN
  go_wp2_with fail
  refine HU.out.mono ?_
  rintro e z ⟨rfl, d2, hM2, hp2, hh2, hk2⟩
  have HFin : Hid (HPushPost P g n d x w (.returned (.tuple #[])) z) := hide ⟨rfl, g', c', d2, by rw [HN.out]; exact hM2, hp2, hh2, HK.out.sub hk2 HG.out, HG.out⟩
  clear hM2 hp2 hh2 hk2 HU
  go_wp2
  go_end0
  exact HFin.out
def HPopPost (P g n c : Nat) (d : List Sp) (w : World) (e : Ending) (w' : World) : Prop := ∃ x d', d[0]? = some x ∧ e = .returned (.iface 70 (.agg #[.int .i64 x.1, .int .i64 x.2])) ∧ HpM P g n c d' w' ∧ (d' ++ [x]).Perm d ∧ HeapO d' ∧ KH P g w w'
set_option maxRecDepth 100000 in
set_option maxHeartbeats 4000000 in
theorem heapPop_any (w : World) (P g n c : Nat) (d : List Sp) (hM : HpM P g (n + 1) c d w) (hn : n ≤ 100000) (hH : HeapO d) :
    Calls Tryz.prog 36 #[.iface 68 (.pointer (some ⟨P, 0, none⟩))] w (HPopPost P g n c d w) := by
  obtain ⟨b, y, rfl⟩ : ∃ b y, d = b ++ [y] := by
    rcases List.eq_nil_or_concat d with h | ⟨b, y, h⟩
    · have := hM.len; rw [h] at this; simp at this
    · exact ⟨b, y, by rw [h, List.concat_eq_append]⟩
  have hbl : b.length = n := by have := hM.len; simp at this; exact this
  obtain ⟨x, hx⟩ : ∃ x, (b ++ [y])[0]? = some x := ⟨_, List.getElem?_eq_getElem (by simp)⟩
  have hy : (b ++ [y])[n]? = some y := by rw [List.getElem?_append_right (by omega), hbl, Nat.sub_self]; rfl
  have hswp : ((b ++ [y]).set 0 y).set n x = b.set 0 y ++ [x] := by
    rcases b with _ | ⟨z, b⟩
    · simp at hbl; subst hbl; rfl
    · rw [List.set_append_left _ _ (by simp), List.set_append_right _ _ (by rw [List.length_set]; omega), List.length_set, hbl, Nat.sub_self]; rfl
  have HSw := hide hswp
  have HX := hide hx
  have HY := hide hy
  have HBl := hide hbl
  have HH := hide hH
  have HPp := hide (swap_perm hx hy)
  have hm := hM.mLen
  have HM := hide hM
  have e1 : IntKind.i64.wrap (((n + 1 : Nat) : Int) - 1) = (n : Int) := by rw [show ((n + 1 : Nat) : Int) - 1 = (n : Int) by omega]; exact IntWalk.i64_in _ (by omega)
  have e2 : ((n + 1 : Nat) : Int) - 1 = (n : Int) := by omega
  obtain ⟨N, hN⟩ : ∃ N, n + 1 = N := ⟨_, rfl⟩
  rw [hN] at e1 e2 HM hm
  have HN := hide hN
  have hnN : n < N := by omega
  clear hM hH hx hy hswp hbl hN
  go_enter Tryz.func36, Tryz.ntmps36
  go_wp2_with fail
  refine (hlen_any w (some ⟨g, 0, none⟩) N c).mono ?_
  rintro e y1 ⟨rfl, rfl⟩
  clear hm
  have hms := HM.out.mSwap
  have HC := hide (hswap_any y1 P g N c (b ++ [y]) 0 n x y HM.out HX.out HY.out)
  go_wp2_with fail
  refine HC.out.mono ?_
  rintro e y2 ⟨rfl, hm2, hk2, hz2⟩
  rw [HSw.out] at hm2
  have HD := hide (down_any y2 P g N c n (b.set 0 y) [x] hm2 (by rw [List.length_set]; exact HBl.out) (by omega) (DownInv.first HH.out x _ rfl))
  have HK2 := hide hk2
  clear hm2 hk2 hz2 hms HC
  go_wp2_with fail
  refine HD.out.mono ?_
  rintro e y3 ⟨⟨bb, rfl⟩, a', hm3, hp3, hh3, hk3⟩
  have hmp := mPop y3 P
  have HP := hide (rowPop_any y3 P g n c a' x (by rw [HN.out]; exact hm3) (by omega))
  have HK3 := hide (HK2.out.trans hk3)
  have HP3 := hide hp3
  have HH3 := hide hh3
  clear hm3 hp3 hh3 hk3 HD HK2
  go_wp2_with fail
  refine HP.out.mono ?_
  rintro e y4 ⟨rfl, hm4, hk4⟩
  have HFin : Hid (HPopPost P g n c (b ++ [y]) y1 (.returned (.iface 70 (.agg #[.int .i64 x.1, .int .i64 x.2]))) y4) := hide ⟨x, a', HX.out, rfl, hm4, by
    have h := HPp.out
    rw [HSw.out] at h
    exact (List.Perm.append_right [x] HP3.out).trans h, HH3.out, HK3.out.trans hk4⟩
  clear hm4 hk4 hmp HP
  go_wp2
  go_ret
  exact HFin.out
end Go.Proofs.YtgbahnlgblahpaaGreat
