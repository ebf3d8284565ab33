/- A Reader: what lies in memory; Open, Left, Bad, next. -/
import Derived.Test.YtigmmikijjcdiaaLqFwr
import Derived.BigQuiet


namespace Go.Proofs.Ytigmmikijjcdiaa
open Go.RowKit
set_option linter.unusedVariables false

/-- a row of cells in another block than g -/
def Rn (w : World) (g : Nat) (A : Option Addr) (xs : List Value) : Prop :=
  xs ≠ [] → ∃ b off, A = some ⟨b, off, none⟩ ∧ b ≠ g ∧ b < w.heap.size ∧ ∀ j u, xs[j]? = some u → w.cell? ⟨b, off + j, none⟩ = some u
theorem Rn.nil_ {w : World} {g : Nat} {A : Option Addr} : Rn w g A [] := fun h => absurd rfl h
theorem Rn.rd {w : World} {g : Nat} {A : Option Addr} {xs : List Value} (h : Rn w g A xs) : Rd w w.heap.size A xs := fun hn => by
  obtain ⟨b, off, e, _, hb, hc⟩ := h hn
  exact ⟨b, off, e, hb, hc⟩
theorem Rn.besides {w w' : World} {g : Nat} {A : Option Addr} {xs : List Value} (h : Rn w g A xs) (hb : Besides g w w') : Rn w' g A xs := fun hn => by
  obtain ⟨b, off, e, hg, hlt, hc⟩ := h hn
  exact ⟨b, off, e, hg, Nat.lt_of_lt_of_le hlt hb.size, fun j u hu => (hb.cell (p := ⟨b, off + j, none⟩) hlt hg).trans (hc j u hu)⟩
theorem Rn.of_rd {w : World} {g B : Nat} {A : Option Addr} {xs : List Value} (h : Rd w B A xs) (hB : B ≤ g) (hg : g < w.heap.size) : Rn w g A xs := fun hn => by
  obtain ⟨b, off, e, hb, hc⟩ := h hn
  exact ⟨b, off, e, by omega, by omega, hc⟩
theorem Rn.cut {w : World} {g : Nat} {b off : Nat} {xs : List Value} (h : Rn w g (some ⟨b, off, none⟩) xs) (k n : Nat) : Rn w g (some ⟨b, off + k, none⟩) ((xs.drop k).take n) := fun hn => by
  obtain ⟨b', off', e, hg, hlt, hc⟩ := h (fun e => by subst e; simp at hn)
  injection e with e
  injection e with e1 e2
  subst e1 e2
  refine ⟨b, off + k, rfl, hg, hlt, fun j u hu => ?_⟩
  rw [List.getElem?_take] at hu
  split at hu
  · rw [List.getElem?_drop] at hu
    rw [Nat.add_assoc]
    exact hc _ _ hu
  · cases hu

/-- a Reader of type T in block g: its bytes, its place, whether it has fallen -/
def Rr (T : TypeId) (w : World) (g : Nat) (bs : List UInt8) (s : Nat × Bool) : Prop :=
  ∃ A c, w.heap[g]? = some (.cells #[.slice A bs.length c, .int .i64 (s.1 : Nat), .bool s.2] T) ∧ Rn w g A (u8s bs) ∧ bs.length ≤ c ∧ bs.length ≤ 140737488351232 ∧ s.1 ≤ bs.length
theorem Rr.lt {T : TypeId} {w : World} {g : Nat} {bs : List UInt8} {s : Nat × Bool} (h : Rr T w g bs s) : g < w.heap.size := by
  obtain ⟨_, _, h, _⟩ := h
  exact lt_of_block h
theorem Rr.below {T : TypeId} {w w' : World} {g : Nat} {bs : List UInt8} {s : Nat × Bool} (h : Rr T w g bs s) (hb : Below w.heap.size w w') : Rr T w' g bs s := by
  have hlt := h.lt
  obtain ⟨A, c, h, hr, h3⟩ := h
  exact ⟨A, c, (hb.block g hlt).trans h, hr.besides (.of_below hb), h3⟩
/-- what next tells, and where the Reader stands behind it -/
def nx (bs : List UInt8) (s : Nat × Bool) (n : Int) : List UInt8 × (Nat × Bool) :=
  if s.2 = true ∨ n < 0 ∨ (bs.length : Int) - (s.1 : Int) < n then ([], (bs.length, true)) else ((bs.drop s.1).take n.toNat, (s.1 + n.toNat, false))

set_option maxRecDepth 100000 in
set_option maxHeartbeats 1000000 in
theorem open_any (w : World) (A : Option Addr) (bs : List UInt8) (c : Nat) (hR : Rd w w.heap.size A (u8s bs)) (hl : bs.length ≤ 1000000000000) :
    Calls Try.prog 42 #[.slice A bs.length c] w fun e w' => (∃ r, e = .returned (.pointer (some ⟨r, 0, none⟩)) ∧ w.heap.size ≤ r ∧ Rr 107 w' r bs (0, false)) ∧ Below w.heap.size w w' := by
  go_enter Try.func42, Try.ntmps42
  go_wp2_with fail
  refine (clone_any _ A bs c hR (by omega)).mono ?_
  rintro e w1 ⟨⟨A', c', rfl, hown⟩, hb1⟩
  go_wp2
  go_ret
  have hr1 := (Rd.of_own hown).alloc (Nat.le_refl _) (.cells #[.slice A' bs.length c', .int .i64 0, .bool false] 107)
  exact ⟨⟨w1.heap.size, rfl, hb1.size, A', c', heap_alloc_last w1 _, Rn.of_rd hr1 (Nat.le_refl _) (by simp), own_cap hown, by omega, Nat.zero_le _⟩, hb1.alloc hb1.size _⟩

set_option maxRecDepth 100000 in
set_option maxHeartbeats 1000000 in
theorem left_any (w : World) (r : Nat) (bs : List UInt8) (s : Nat × Bool) (hr : Rr 107 w r bs s) :
    Calls Try.prog 46 #[.pointer (some ⟨r, 0, none⟩)] w fun e w' => e = .returned (.int .i64 ((bs.length : Int) - (s.1 : Int))) ∧ Below w.heap.size w w' := by
  obtain ⟨A, c, hg, hR, h1, h2, h3⟩ := hr
  have c0 : w.cell? ⟨r, 0, none⟩ = some (.slice A bs.length c) := cell_of_row _ _ 0 _ _ _ hg
  have c1 : w.cell? ⟨r, 1, none⟩ = some (.int .i64 (s.1 : Nat)) := cell_of_row _ _ 1 _ _ _ hg
  have hw : IntKind.i64.wrap ((bs.length : Int) - (s.1 : Int)) = (bs.length : Int) - (s.1 : Int) := IntWalk.i64_in _ (by omega)
  go_enter Try.func46, Try.ntmps46
  go_wp2
  go_quiet (fail)
  go_wp2
  go_ret
  exact ⟨rfl, below_drewN (Below.refl _ _) _⟩

set_option maxRecDepth 100000 in
set_option maxHeartbeats 1000000 in
theorem bad_any (w : World) (r : Nat) (bs : List UInt8) (s : Nat × Bool) (hr : Rr 107 w r bs s) :
    Calls Try.prog 47 #[.pointer (some ⟨r, 0, none⟩)] w fun e w' => e = .returned (.bool s.2) ∧ w = w' := by
  obtain ⟨A, c, hg, hR, h1, h2, h3⟩ := hr
  have c2 : w.cell? ⟨r, 2, none⟩ = some (.bool s.2) := cell_of_row _ _ 2 _ _ _ hg
  go_enter Try.func47, Try.ntmps47
  go_wp2
  go_ret
  exact ⟨rfl, rfl⟩

def NextPost (T : TypeId) (w : World) (r : Nat) (bs : List UInt8) (s : Nat × Bool) (n : Int) (e : Ending) (w' : World) : Prop :=
  (∃ A' c', e = .returned (.slice A' (nx bs s n).1.length c') ∧ Rn w' r A' (u8s (nx bs s n).1) ∧ (nx bs s n).1.length ≤ c') ∧ Rr T w' r bs (nx bs s n).2 ∧ Besides r w w'
theorem fall_post {T : TypeId} {w : World} {r : Nat} {bs : List UInt8} {s : Nat × Bool} {n : Int} {A : Option Addr} {c : Nat} (hg : w.heap[r]? = some (.cells #[.slice A bs.length c, .int .i64 (s.1 : Nat), .bool s.2] T)) (hR : Rn w r A (u8s bs)) (h1 : bs.length ≤ c) (h2 : bs.length ≤ 140737488351232)
    (hn : s.2 = true ∨ n < 0 ∨ (bs.length : Int) - (s.1 : Int) < n) : NextPost T w r bs s n (.returned (.slice none 0 0)) ((w.setCell ⟨r, 2, none⟩ (.bool true)).setCell ⟨r, 1, none⟩ (.int .i64 (bs.length : Nat))) := by
  have hb : Besides r w ((w.setCell ⟨r, 2, none⟩ (.bool true)).setCell ⟨r, 1, none⟩ (.int .i64 (bs.length : Nat))) := (Besides.setCell _).trans (Besides.setCell _)
  unfold NextPost nx
  rw [if_pos hn]
  refine ⟨⟨none, 0, rfl, Rn.nil_, Nat.le_refl _⟩, ⟨A, c, ?_, hR.besides hb, h1, h2, Nat.le_refl _⟩, hb⟩
  have e1 := heap_setCell_same _ _ 1 _ _ (.int .i64 (bs.length : Nat)) (heap_setCell_same _ _ 2 _ _ (.bool true) hg)
  exact e1
theorem fall_post' {T : TypeId} {w : World} {r : Nat} {bs : List UInt8} {s : Nat × Bool} {n : Int} {w1 w' : World} {e : Ending} (hb : Below w.heap.size w w1) (hr : r < w.heap.size) (h : NextPost T w1 r bs s n e w') : NextPost T w r bs s n e w' :=
  ⟨h.1, h.2.1, (Besides.of_below hb).trans h.2.2⟩

theorem ok_post {T : TypeId} {w w1 w2 : World} {r : Nat} {bs : List UInt8} {at' k : Nat} {A : Option Addr} {c : Nat} (hk : at' + k ≤ bs.length) (hb1 : Below w.heap.size w w1) (hb2 : Besides r w1 w2)
    (hg : w2.heap[r]? = some (.cells #[.slice A bs.length c, .int .i64 ((at' + k : Nat) : Int), .bool false] T)) (hR : Rn w2 r A (u8s bs)) (h1 : bs.length ≤ c) (h2 : bs.length ≤ 140737488351232) (A' : Option Addr) (c' : Nat)
    (hA : ∀ b off, A = some ⟨b, off, none⟩ → 0 < k → A' = some ⟨b, off + at', none⟩) (m : Nat) (hc' : k ≤ c') : NextPost T w r bs (at', false) (k : Int) (.returned (.slice A' k c')) (w2.drewN m) := by
  have hb : Besides r w2 (w2.drewN m) := .of_below (below_drewN (Below.refl _ _) m)
  have hne : ¬ ((at', false).2 = true ∨ (k : Int) < 0 ∨ (bs.length : Int) - ((at', false).1 : Int) < (k : Int)) := by
    dsimp only
    rintro (h | h | h)
    · cases h
    · omega
    · omega
  unfold NextPost nx
  rw [if_neg hne]
  have hl : ((bs.drop at').take k).length = k := by rw [List.length_take, List.length_drop]; omega
  refine ⟨⟨A', c', ?_, ?_, ?_⟩, ⟨A, c, hg, hR.besides hb, h1, h2, hk⟩, ((Besides.of_below hb1).trans hb2).trans hb⟩
  · show _ = Ending.returned (.slice A' ((bs.drop at').take k).length c')
    rw [hl]
  · show Rn _ r A' (u8s ((bs.drop at').take k))
    intro hn
    have hk0 : 0 < k := by
      rcases Nat.eq_zero_or_pos k with h | h
      · subst h; simp [u8s] at hn
      · exact h
    obtain ⟨b, off, e, _⟩ := hR (fun e => by
      have : bs = [] := by simpa [u8s] using e
      subst this
      simp at hk
      omega)
    rw [hA b off e hk0]
    rw [e] at hR
    rw [← u8s_take, ← u8s_drop] at hn ⊢
    exact ((hR.besides hb).cut at' k) hn
  · show ((bs.drop at').take k).length ≤ c'
    rw [hl]; exact hc'

set_option maxRecDepth 100000 in
set_option maxHeartbeats 1000000 in
theorem next_any (w : World) (r : Nat) (bs : List UInt8) (s : Nat × Bool) (hr : Rr 107 w r bs s) (n : Int) (hn1 : -9223372036854775808 ≤ n) (hn2 : n ≤ 9223372036854775807) :
    Calls Try.prog 60 #[.pointer (some ⟨r, 0, none⟩), .int .i64 n] w fun e w' => NextPost 107 w r bs s n e w' := by
  have hr0 := hr
  have hlt := hr.lt
  obtain ⟨A, c, hg, hR, h1, h2, h3⟩ := hr
  have c0 : w.cell? ⟨r, 0, none⟩ = some (.slice A bs.length c) := cell_of_row _ _ 0 _ _ _ hg
  have c1 : w.cell? ⟨r, 1, none⟩ = some (.int .i64 (s.1 : Nat)) := cell_of_row _ _ 1 _ _ _ hg
  have c2 : w.cell? ⟨r, 2, none⟩ = some (.bool s.2) := cell_of_row _ _ 2 _ _ _ hg
  have f1 := frozen_of_row _ _ 1 _ _ hg
  have f2 := frozen_of_row _ _ 2 _ _ hg
  have HG := hide hg
  have HR := hide hR
  clear hg hR
  obtain ⟨at', bad⟩ := s
  dsimp only at c1 c2 h3
  by_cases hbad : bad = true
  · subst hbad
    go_enter Try.func60, Try.ntmps60
    go_wp2
    go_ret
    exact fall_post HG.out HR.out h1 h2 (.inl rfl)
  · obtain rfl : bad = false := by simpa using hbad
    by_cases hneg : n < 0
    · go_enter Try.func60, Try.ntmps60
      go_wp2
      go_ret
      exact fall_post HG.out HR.out h1 h2 (.inr (.inl hneg))
    · have d1 : decide (n < 0) = false := decide_eq_false hneg
      go_enter Try.func60, Try.ntmps60
      go_wp2_with fail
      refine (left_any _ r bs _ hr0).mono ?_
      rintro e w1 ⟨rfl, hb1⟩
      have hg1 := (hb1.block r hlt).trans HG.out
      have hR1 := hide (HR.out.besides (.of_below hb1))
      have c0' := (hb1.cell (p := ⟨r, 0, none⟩) hlt).trans c0
      have c1' := (hb1.cell (p := ⟨r, 1, none⟩) hlt).trans c1
      have c2' : w1.cell? ⟨r, 2, none⟩ = some (.bool false) := cell_of_row _ _ 2 _ _ _ hg1
      have f1' := frozen_of_row _ _ 1 _ _ hg1
      have f2' := frozen_of_row _ _ 2 _ _ hg1
      have HG1 := hide hg1
      clear hg1 c0 c1 c2 f1 f2 hr0 HG HR
      by_cases hmore : (bs.length : Int) - (at' : Int) < n
      · have d2 : decide ((bs.length : Int) - (at' : Int) < n) = true := decide_eq_true hmore
        go_wp2
        go_ret
        exact fall_post' hb1 hlt (fall_post HG1.out hR1.out h1 h2 (.inr (.inr hmore)))
      · have d2 : decide ((bs.length : Int) - (at' : Int) < n) = false := decide_eq_false hmore
        obtain ⟨k, rfl⟩ := Int.eq_ofNat_of_zero_le (show 0 ≤ n by omega)
        have hk : at' + k ≤ bs.length := by omega
        have hw : IntKind.i64.wrap ((at' : Int) + (k : Int)) = (at' : Int) + (k : Int) := IntWalk.i64_in _ (by omega)
        have hI0 : (0 : Int) ≤ (at' : Int) := by omega
        have hI1 : (at' : Int) ≤ (at' : Int) + (k : Int) := by omega
        have hI2 : (at' : Int) + (k : Int) ≤ (c : Int) := by omega
        go_wp2
        obtain ⟨w2, hw2⟩ : ∃ w2, w1.setCell ⟨r, 1, none⟩ (.int .i64 ((at' : Int) + (k : Int))) = w2 := ⟨_, rfl⟩
        have hb2 : Besides r w1 w2 := by rw [← hw2]; exact Besides.setCell _
        have hg2 : w2.heap[r]? = some (.cells #[.slice A bs.length c, .int .i64 ((at' + k : Nat) : Int), .bool false] 107) := by
          rw [← hw2]
          exact heap_setCell_same _ _ 1 _ _ _ HG1.out
        have hR2 := hide (hR1.out.besides hb2)
        rw [hw2]
        clear hw2 c0' c1' c2' f1' f2' HG1 hR1
        have c0 : w2.cell? ⟨r, 0, none⟩ = some (.slice A bs.length c) := cell_of_row _ _ 0 _ _ _ hg2
        have c1 : w2.cell? ⟨r, 1, none⟩ = some (.int .i64 ((at' : Int) + (k : Int))) := cell_of_row _ _ 1 _ _ _ hg2
        have HG2 := hide hg2
        clear hg2
        clear d1 d2
        go_quiet (fail)
        go_wp2
        · go_ret
          exact ok_post hk hb1 hb2 HG2.out hR2.out h1 h2 A 0 (fun _ _ _ h => by omega) nq (by omega)
        · go_ret
          exact ok_post hk hb1 hb2 HG2.out hR2.out h1 h2 _ (c - at') (fun b off e _ => by rw [e, Option.map_some, add_plain]) nq (by omega)

end Go.Proofs.Ytigmmikijjcdiaa
