/- The document's Reader: Next; and a Reader beside it. -/
import Derived.Test.YtbmaiiflbdggnaaFrx
import Derived.BigQuiet
namespace Go.Proofs.Ytbmaiiflbdggnaa
open Go.RowKit
set_option linter.unusedVariables false
set_option linter.unusedSimpArgs false

/-- the document's Reader in block g, of bytes that lie below block B -/
def Rm (w : World) (g B : Nat) (bs : List UInt8) (s : Nat × Bool) : Prop :=
  ∃ A c, w.heap[g]? = some (.cells #[.slice A bs.length c, .int .i64 (s.1 : Nat), .bool s.2] 40) ∧ Rd w B A (u8s bs) ∧ (bs.length ≤ c ∧ bs.length ≤ 140737488351232 ∧ s.1 ≤ bs.length) ∧ B ≤ g
theorem Rm.lt {w : World} {g B : Nat} {bs : List UInt8} {s : Nat × Bool} (h : Rm w g B bs s) : g < w.heap.size := by obtain ⟨_, _, h, _⟩ := h; exact lt_of_block h
theorem Rm.le {w : World} {g B : Nat} {bs : List UInt8} {s : Nat × Bool} (h : Rm w g B bs s) : B ≤ g := by obtain ⟨_, _, _, _, _, h⟩ := h; exact h
theorem Rm.other {w w' : World} {g B k : Nat} {bs : List UInt8} {s : Nat × Bool} (h : Rm w g B bs s) (hb : Besides k w w') (hk : B ≤ k) (hg : g ≠ k) : Rm w' g B bs s := by
  have hlt := h.lt
  obtain ⟨A, c, h1, h2, h3, h4⟩ := h
  exact ⟨A, c, (hb.block g hlt hg).trans h1, h2.keep fun p hp => hb.cell (by omega) (by omega), h3, h4⟩
theorem Rm.below {w w' : World} {g B D : Nat} {bs : List UInt8} {s : Nat × Bool} (h : Rm w g B bs s) (hb : Below D w w') (hD : g < D) : Rm w' g B bs s := by
  obtain ⟨A, c, h1, h2, h3, h4⟩ := h
  exact ⟨A, c, (hb.block g hD).trans h1, h2.below' hb (by omega), h3, h4⟩
/-- a Reader whose bytes do not lie in a block of other things -/
theorem Rr.other {T T' : TypeId} {w w' : World} {g k : Nat} {bs : List UInt8} {s : Nat × Bool} {A' : Option Addr} {l' c' : Nat} {i' : Int} {b' : Bool} (h : Rr T w g bs s) (hk : w.heap[k]? = some (.cells #[.slice A' l' c', .int .i64 i', .bool b'] T')) (hg : g ≠ k) (hb : Besides k w w') : Rr T w' g bs s := by
  have hlt := h.lt
  obtain ⟨A, c, h1, h2, h3⟩ := h
  refine ⟨A, c, (hb.block g hlt hg).trans h1, fun hn => ?_, h3⟩
  obtain ⟨b, off, e, hne, hlt2, hc⟩ := h2 hn
  have hbk : b ≠ k := by
    rintro rfl
    rcases bs with _ | ⟨x, xs⟩
    · simp [u8s] at hn
    have h0 := hc 0 (.int .u8 x.toNat) (by simp [u8s])
    rw [cell_of_row _ _ _ _ _ _ hk] at h0
    rcases off with _ | _ | _ | off <;> simp at h0
  exact ⟨b, off, e, hne, Nat.lt_of_lt_of_le hlt2 hb.size, fun j u hu => (hb.cell (p := ⟨b, off + j, none⟩) hlt2 hbk).trans (hc j u hu)⟩
theorem Rr.rm {T : TypeId} {w w' : World} {g k B : Nat} {bs bs' : List UInt8} {s s' : Nat × Bool} (h : Rr T w g bs s) (hk : Rm w k B bs' s') (hg : g ≠ k) (hb : Besides k w w') : Rr T w' g bs s := by
  obtain ⟨A, c, h1, _⟩ := hk
  exact h.other h1 hg hb

def MPost (w : World) (r B : Nat) (bs : List UInt8) (s : Nat × Bool) (n : Int) (e : Ending) (w' : World) : Prop :=
  (∃ A' c', e = .returned (.slice A' (nx bs s n).1.length c') ∧ Rd w' B A' (u8s (nx bs s n).1) ∧ (nx bs s n).1.length ≤ c') ∧ Rm w' r B bs (nx bs s n).2 ∧ Besides r w w'
theorem m_fall {w w1 : World} {r B : Nat} {bs : List UInt8} {s : Nat × Bool} {n : Int} {A : Option Addr} {c : Nat} (hb0 : Below w.heap.size w w1) (hg : w1.heap[r]? = some (.cells #[.slice A bs.length c, .int .i64 (s.1 : Nat), .bool s.2] 40)) (hR : Rd w1 B A (u8s bs)) (hB : B ≤ r) (h1 : bs.length ≤ c) (h2 : bs.length ≤ 140737488351232)
    (hn : s.2 = true ∨ n < 0 ∨ (bs.length : Int) - (s.1 : Int) < n) : MPost w r B bs s n (.returned (.slice none 0 0)) ((w1.setCell ⟨r, 2, none⟩ (.bool true)).setCell ⟨r, 1, none⟩ (.int .i64 (bs.length : Nat))) := by
  have hlt := lt_of_block hg
  have hb : Besides r w1 ((w1.setCell ⟨r, 2, none⟩ (.bool true)).setCell ⟨r, 1, none⟩ (.int .i64 (bs.length : Nat))) := (Besides.setCell _).trans (Besides.setCell _)
  unfold MPost nx
  rw [if_pos hn]
  refine ⟨⟨none, 0, rfl, Rd.nil_, Nat.le_refl _⟩, ⟨A, c, ?_, hR.keep (fun p hp => hb.cell (by omega) (by omega)), ⟨h1, h2, Nat.le_refl _⟩, hB⟩, (Besides.of_below hb0).trans hb⟩
  exact heap_setCell_same _ _ 1 _ _ (.int .i64 (bs.length : Nat)) (heap_setCell_same _ _ 2 _ _ (.bool true) hg)
theorem m_ok {w w1 w2 : World} {r B : Nat} {bs : List UInt8} {at' k : Nat} {A : Option Addr} {c : Nat} (hk : at' + k ≤ bs.length) (hb1 : Below w.heap.size w w1) (hb2 : Besides r w1 w2)
    (hg : w2.heap[r]? = some (.cells #[.slice A bs.length c, .int .i64 ((at' + k : Nat) : Int), .bool false] 40)) (hR : Rd w2 B A (u8s bs)) (hB : B ≤ r) (h1 : bs.length ≤ c) (h2 : bs.length ≤ 140737488351232) (A' : Option Addr) (c' : Nat)
    (hA : ∀ b off, A = some ⟨b, off, none⟩ → 0 < k → A' = some ⟨b, off + at', none⟩) (m : Nat) (hc' : k ≤ c') : MPost w r B bs (at', false) (k : Int) (.returned (.slice A' k c')) (w2.drewN m) := by
  have hb : Besides r w2 (w2.drewN m) := .of_below (below_drewN (Below.refl _ _) m)
  have hlt := lt_of_block hg
  have hne : ¬ ((at', false).2 = true ∨ (k : Int) < 0 ∨ (bs.length : Int) - ((at', false).1 : Int) < (k : Int)) := by
    dsimp only
    rintro (h | h | h)
    · cases h
    · omega
    · omega
  unfold MPost nx
  rw [if_neg hne]
  have hl : ((bs.drop at').take k).length = k := by rw [List.length_take, List.length_drop]; omega
  refine ⟨⟨A', c', ?_, ?_, ?_⟩, ⟨A, c, hg, hR, ⟨h1, h2, hk⟩, hB⟩, ((Besides.of_below hb1).trans hb2).trans hb⟩
  · show _ = Ending.returned (.slice A' ((bs.drop at').take k).length c')
    rw [hl]
  · show Rd _ B A' (u8s ((bs.drop at').take k))
    intro hn
    have hk0 : 0 < k := by
      rcases Nat.eq_zero_or_pos k with h | h
      · subst h; simp [u8s] at hn
      · exact h
    obtain ⟨b, off, e, hbB, hc⟩ := hR (fun e => by
      have : bs = [] := by simpa [u8s] using e
      subst this
      simp at hk
      omega)
    refine ⟨b, off + at', hA b off e hk0, hbB, fun j u hu => ?_⟩
    rw [← u8s_take, ← u8s_drop, List.getElem?_take] at hu
    split at hu
    · rw [List.getElem?_drop] at hu
      rw [Nat.add_assoc]
      exact hc _ _ hu
    · cases hu
  · show ((bs.drop at').take k).length ≤ c'
    rw [hl]; exact hc'

set_option maxRecDepth 100000 in
set_option maxHeartbeats 2000000 in
theorem mnext_any (w : World) (r B : Nat) (bs : List UInt8) (s : Nat × Bool) (hr : Rm w r B bs s) (n : Int) (hn1 : -9223372036854775808 ≤ n) (hn2 : n ≤ 9223372036854775807) :
    Calls Try.prog 20 #[.pointer (some ⟨r, 0, none⟩), .int .i64 n] w fun e w' => MPost w r B bs s n e w' := by
  have hlt := hr.lt
  obtain ⟨A, c, hg, hR, ⟨h1, h2, h3⟩, hB⟩ := hr
  have c0 : w.cell? ⟨r, 0, none⟩ = some (.slice A bs.length c) := cell_of_row _ _ 0 _ _ _ hg
  have c1 : w.cell? ⟨r, 1, none⟩ = some (.int .i64 (s.1 : Nat)) := cell_of_row _ _ 1 _ _ _ hg
  have c2 : w.cell? ⟨r, 2, none⟩ = some (.bool s.2) := cell_of_row _ _ 2 _ _ _ hg
  have f1 := frozen_of_row _ _ 1 _ _ hg
  have f2 := frozen_of_row _ _ 2 _ _ hg
  have HG := hide hg
  have HR := hide hR
  have hbq := fun q => below_drewN (Below.refl w.heap.size w) q
  have HBQ := hide hbq
  clear hg hR hbq
  obtain ⟨at', bad⟩ := s
  dsimp only at c1 c2 h3
  have hwl : IntKind.i64.wrap ((bs.length : Int) - (at' : Int)) = (bs.length : Int) - (at' : Int) := IntWalk.i64_in _ (by omega)
  by_cases hbad : bad = true
  · subst hbad
    go_enter Try.func20, Try.ntmps20
    go_wp2
    go_quiet (fail)
    go_wp2
    go_ret
    exact m_fall (HBQ.out nq) HG.out HR.out hB h1 h2 (.inl rfl)
  · obtain rfl : bad = false := by simpa using hbad
    by_cases hneg : n < 0
    · go_enter Try.func20, Try.ntmps20
      go_wp2
      go_quiet (fail)
      go_wp2
      go_ret
      exact m_fall (HBQ.out nq) HG.out HR.out hB h1 h2 (.inr (.inl hneg))
    · have d1 : decide (n < 0) = false := decide_eq_false hneg
      by_cases hmore : (bs.length : Int) - (at' : Int) < n
      · have d2 : decide ((bs.length : Int) - (at' : Int) < n) = true := decide_eq_true hmore
        go_enter Try.func20, Try.ntmps20
        go_wp2
        go_quiet (fail)
        go_wp2
        go_ret
        exact m_fall (HBQ.out nq) HG.out HR.out hB h1 h2 (.inr (.inr hmore))
      · have d2 : decide ((bs.length : Int) - (at' : Int) < n) = false := decide_eq_false hmore
        obtain ⟨k, rfl⟩ := Int.eq_ofNat_of_zero_le (show 0 ≤ n by omega)
        have hk : at' + k ≤ bs.length := by omega
        have hw : IntKind.i64.wrap ((at' : Int) + (k : Int)) = (at' : Int) + (k : Int) := IntWalk.i64_in _ (by omega)
        have hw2 : IntKind.i64.wrap ((at' : Int) + (k : Int) - (k : Int)) = (at' : Int) := by rw [show (at' : Int) + (k : Int) - (k : Int) = (at' : Int) by omega]; exact IntWalk.i64_in _ (by omega)
        have hI0 : (0 : Int) ≤ (at' : Int) := by omega
        have hI1 : (at' : Int) ≤ (at' : Int) + (k : Int) := by omega
        have hI2 : (at' : Int) + (k : Int) ≤ (c : Int) := by omega
        go_enter Try.func20, Try.ntmps20
        go_wp2
        go_quiet (fail)
        obtain ⟨w1, hw1⟩ : ∃ w1, w.drewN nq = w1 := ⟨_, rfl⟩
        have hb1 : Below w.heap.size w w1 := by rw [← hw1]; exact HBQ.out nq
        have hg1 : w1.heap[r]? = some (.cells #[.slice A bs.length c, .int .i64 (at' : Nat), .bool false] 40) := by rw [← hw1]; exact HG.out
        have hR1 := hide (HR.out.below' hb1 (by omega))
        have c1' : w1.cell? ⟨r, 1, none⟩ = some (.int .i64 (at' : Nat)) := cell_of_row _ _ 1 _ _ _ hg1
        have f1' := frozen_of_row _ _ 1 _ _ hg1
        have HG1 := hide hg1
        rw [hw1]
        clear hw1 c0 c1 c2 f1 f2 HG HR hg1 HBQ
        go_wp2
        obtain ⟨w2, hw2'⟩ : ∃ w2, w1.setCell ⟨r, 1, none⟩ (.int .i64 ((at' : Int) + (k : Int))) = w2 := ⟨_, rfl⟩
        have hb2 : Besides r w1 w2 := by rw [← hw2']; exact Besides.setCell _
        have hg2 : w2.heap[r]? = some (.cells #[.slice A bs.length c, .int .i64 ((at' + k : Nat) : Int), .bool false] 40) := by
          rw [← hw2']
          exact heap_setCell_same _ _ 1 _ _ _ HG1.out
        have hlt1 := lt_of_block HG1.out
        have hR2 := hide (hR1.out.keep (w' := w2) fun p hp => hb2.cell (by omega) (by omega))
        rw [hw2']
        clear hw2' c1' f1' HG1 hR1
        have c0 : w2.cell? ⟨r, 0, none⟩ = some (.slice A bs.length c) := cell_of_row _ _ 0 _ _ _ hg2
        have c1 : w2.cell? ⟨r, 1, none⟩ = some (.int .i64 ((at' : Int) + (k : Int))) := cell_of_row _ _ 1 _ _ _ hg2
        have HG2 := hide hg2
        clear hg2 d1 d2 hwl
        go_quiet (fail)
        go_wp2
        · go_ret
          exact m_ok hk hb1 hb2 HG2.out hR2.out hB h1 h2 A 0 (fun _ _ _ h => by omega) _ (by omega)
        · go_ret
          exact m_ok hk hb1 hb2 HG2.out hR2.out hB h1 h2 _ (c - at') (fun b off e _ => by rw [e, Option.map_some, add_plain]) _ (by omega)

def Raw2Post (w : World) (r : Nat) (bs : List UInt8) (s : Nat × Bool) (n : Int) (e : Ending) (w' : World) : Prop :=
  ∃ w1, Rr 65 w1 r bs (nx bs s n).2 ∧ Besides r w w1 ∧ Below w1.heap.size w1 w' ∧ ∃ A' c', e = .returned (.slice A' (nx bs s n).1.length c') ∧ w'.ownsRow w1.heap.size 5 1 (.slice A' (nx bs s n).1.length c') (nx bs s n).1.length (u8s (nx bs s n).1)
set_option maxRecDepth 100000 in
set_option maxHeartbeats 1000000 in
theorem get_raw2 (w : World) (r : Nat) (bs : List UInt8) (s : Nat × Bool) (hr : Rr 65 w r bs s) (n : Int) (hn1 : -9223372036854775808 ≤ n) (hn2 : n ≤ 9223372036854775807) :
    Calls Try.prog 19 #[.pointer (some ⟨r, 0, none⟩), .int .i64 n] w fun e w' => Raw2Post w r bs s n e w' := by
  have hle : (nx bs s n).1.length ≤ bs.length := by
    unfold nx
    split
    · simp
    · simp; omega
  have hl2 : bs.length ≤ 140737488351232 := by obtain ⟨_, _, _, _, _, h, _⟩ := hr; exact h
  go_enter Try.func19, Try.ntmps19
  go_wp2_with fail
  refine (next_any _ r bs s hr n hn1 hn2).mono ?_
  rintro e w1 ⟨⟨A, c, rfl, hR, _⟩, hr1, hb1⟩
  go_wp2_with fail
  refine (clone_any _ A _ c hR.rd (by omega)).mono ?_
  rintro e w2 ⟨⟨A', c', rfl, hown⟩, hb2⟩
  go_wp2
  go_ret
  exact ⟨w1, hr1, hb1, hb2, A', c', rfl, hown⟩
end Go.Proofs.Ytbmaiiflbdggnaa
