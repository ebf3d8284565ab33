/- Sorting in place by blocks that grow: the steps, in plain terms. -/
import Derived.Test.YtihlhkbdgbkafaaSty
namespace Go.Proofs.Ytihlhkbdgbkafaa
set_option linter.unusedVariables false
section
variable {α : Type} {lt : α → α → Bool} {κ : α → Int}
def StA (lt : α → α → Bool) (κ : α → Int) (n k : Nat) (d0 d : List α) : Prop := Mv 0 n d0 d ∧ (KeyOn lt κ d0 → Stb κ d0 d ∧ ∀ q, q < k → Srt κ (q * 20) (q * 20 + 20) d)
def StB (lt : α → α → Bool) (κ : α → Int) (n bs : Nat) (d0 d : List α) : Prop := Mv 0 n d0 d ∧ (KeyOn lt κ d0 → Stb κ d0 d ∧ ∀ q, Srt κ (q * bs) (q * bs + bs) d)
def StC (lt : α → α → Bool) (κ : α → Int) (n bs k : Nat) (d0 d : List α) : Prop := Mv 0 n d0 d ∧ (KeyOn lt κ d0 → Stb κ d0 d ∧ (∀ q, q < k → Srt κ (q * (2 * bs)) (q * (2 * bs) + 2 * bs) d) ∧ ∀ q, 2 * k ≤ q → Srt κ (q * bs) (q * bs + bs) d)
theorem StA.start (n : Nat) (d : List α) : StA lt κ n 0 d d := ⟨Mv.refl _ _ _, fun _ => ⟨Stb.refl _ _, fun q h => by omega⟩⟩
theorem Srt.far {a b : Nat} {d : List α} (h : d.length ≤ a) : Srt κ a b d := fun i j x y h1 h2 h3 h4 h5 => by have := lt_of_get h4; omega
theorem Srt.cut {a b c : Nat} {d : List α} (h : Srt κ a b d) (hc : c ≤ b ∨ d.length ≤ b) : Srt κ a c d := fun i j x y h1 h2 h3 h4 h5 => h i j x y h1 h2 (by have := lt_of_get h5; omega) h4 h5
theorem StA.step {n k a : Nat} {d0 d d' : List α} (h : StA lt κ n k d0 d) (ha : a = k * 20) (hn : a + 20 ≤ n) (hm : Mv a (a + 20) d d') (hs : KeyOn lt κ d → Srt κ a (a + 20) d' ∧ Stb κ d d') : StA lt κ n (k + 1) d0 d' := by
  refine ⟨h.1.trans (hm.mono (Nat.zero_le _) hn), fun hk => ?_⟩
  obtain ⟨h1, h2⟩ := h.2 hk
  obtain ⟨g1, g2⟩ := hs (hk.perm h.1.perm)
  refine ⟨h1.trans g2, fun q hq => ?_⟩
  by_cases c : q < k
  · exact hm.srt_out (h2 q c) (.inl (by omega))
  · obtain rfl : q = k := by omega
    rw [← ha]; exact g1
theorem StA.last {n k a : Nat} {d0 d d' : List α} (h : StA lt κ n k d0 d) (ha : a = k * 20) (hn : n < a + 20) (hl : d0.length = n) (han : a ≤ n) (hm : Mv a n d d') (hs : KeyOn lt κ d → Srt κ a n d' ∧ Stb κ d d') : StB lt κ n 20 d0 d' := by
  have hm2 := h.1.trans (hm.mono (Nat.zero_le _) (Nat.le_refl _))
  refine ⟨hm2, fun hk => ?_⟩
  obtain ⟨h1, h2⟩ := h.2 hk
  obtain ⟨g1, g2⟩ := hs (hk.perm h.1.perm)
  refine ⟨h1.trans g2, fun q => ?_⟩
  have hl2 := hm2.len
  by_cases c : q < k
  · exact hm.srt_out (h2 q c) (.inl (by omega))
  · by_cases c2 : q = k
    · subst c2
      rw [← ha]; exact g1.cut (.inr (by omega))
    · exact Srt.far (by omega)
theorem StB.blocks {n bs : Nat} {d0 d : List α} (h : StB lt κ n bs d0 d) : StC lt κ n bs 0 d0 d := ⟨h.1, fun hk => ⟨(h.2 hk).1, fun q hq => by omega, fun q _ => (h.2 hk).2 q⟩⟩
theorem two_mul_ (k bs : Nat) : 2 * k * bs = k * (2 * bs) := by rw [Nat.mul_comm 2 k, Nat.mul_assoc]
theorem StC.step {n bs k a : Nat} {d0 d d' : List α} (h : StC lt κ n bs k d0 d) (ha : a = k * (2 * bs)) (hn : a + 2 * bs ≤ n) (hs : SymR lt κ a (a + bs) (a + 2 * bs) d d') : StC lt κ n bs (k + 1) d0 d' := by
  refine ⟨h.1.trans (hs.1.mono (Nat.zero_le _) hn), fun hk => ?_⟩
  obtain ⟨h1, h2, h3⟩ := h.2 hk
  have e0 : 2 * k * bs = a := by rw [ha]; exact two_mul_ k bs
  have e1 := h3 (2 * k) (Nat.le_refl _)
  have e2 := h3 (2 * k + 1) (by omega)
  rw [Nat.add_mul, Nat.one_mul, e0] at e2
  rw [e0] at e1
  obtain ⟨g1, g2⟩ := hs.2 (hk.perm h.1.perm) e1 (by rw [show a + 2 * bs = a + bs + bs by omega]; exact e2)
  refine ⟨h1.trans g2, fun q hq => ?_, fun q hq => ?_⟩
  · by_cases c : q < k
    · have := Nat.mul_le_mul_right (2 * bs) (show q + 1 ≤ k by omega)
      rw [Nat.add_mul, Nat.one_mul, ← ha] at this
      exact hs.1.srt_out (h2 q c) (.inl this)
    · obtain rfl : q = k := by omega
      rw [← ha]; exact g1
  · have := Nat.mul_le_mul_right bs (show 2 * k + 2 ≤ q by omega)
    rw [Nat.add_mul, e0] at this
    exact hs.1.srt_out (h3 q (by omega)) (.inr this)
theorem StC.last1 {n bs k a : Nat} {d0 d d' : List α} (h : StC lt κ n bs k d0 d) (ha : a = k * (2 * bs)) (hn : n < a + 2 * bs) (hl : d0.length = n) (hs : SymR lt κ a (a + bs) n d d') : StB lt κ n (2 * bs) d0 d' := by
  have hm2 := h.1.trans (hs.1.mono (Nat.zero_le _) (Nat.le_refl _))
  refine ⟨hm2, fun hk => ?_⟩
  obtain ⟨h1, h2, h3⟩ := h.2 hk
  have hl2 := hm2.len
  have e0 : 2 * k * bs = a := by rw [ha]; exact two_mul_ k bs
  have e1 := h3 (2 * k) (Nat.le_refl _)
  have e2 := h3 (2 * k + 1) (by omega)
  rw [Nat.add_mul, Nat.one_mul, e0] at e2
  rw [e0] at e1
  obtain ⟨g1, g2⟩ := hs.2 (hk.perm h.1.perm) e1 (e2.cut (.inl (by omega)))
  refine ⟨h1.trans g2, fun q => ?_⟩
  by_cases c : q < k
  · have := Nat.mul_le_mul_right (2 * bs) (show q + 1 ≤ k by omega)
    rw [Nat.add_mul, Nat.one_mul, ← ha] at this
    exact hs.1.srt_out (h2 q c) (.inl this)
  · by_cases c2 : q = k
    · subst c2
      rw [← ha]; exact g1.cut (.inr (by omega))
    · have := Nat.mul_le_mul_right (2 * bs) (show k + 1 ≤ q by omega)
      rw [Nat.add_mul, Nat.one_mul, ← ha] at this
      exact Srt.far (by omega)
theorem StC.last2 {n bs k a : Nat} {d0 d : List α} (h : StC lt κ n bs k d0 d) (ha : a = k * (2 * bs)) (hn : n ≤ a + bs) (hl : d0.length = n) : StB lt κ n (2 * bs) d0 d := by
  refine ⟨h.1, fun hk => ?_⟩
  obtain ⟨h1, h2, h3⟩ := h.2 hk
  have hl2 := h.1.len
  have e0 : 2 * k * bs = a := by rw [ha]; exact two_mul_ k bs
  have e1 := h3 (2 * k) (Nat.le_refl _)
  rw [e0] at e1
  refine ⟨h1, fun q => ?_⟩
  by_cases c : q < k
  · exact h2 q c
  · by_cases c2 : q = k
    · subst c2
      rw [← ha]; exact e1.cut (.inr (by omega))
    · have := Nat.mul_le_mul_right (2 * bs) (show k + 1 ≤ q by omega)
      rw [Nat.add_mul, Nat.one_mul, ← ha] at this
      exact Srt.far (by omega)
/-- what a stable sort of n has done -/
def StS (lt : α → α → Bool) (κ : α → Int) (n : Nat) (d d' : List α) : Prop := Mv 0 n d d' ∧ (KeyOn lt κ d → Srt κ 0 n d' ∧ Stb κ d d')
theorem StB.done {n bs : Nat} {d0 d : List α} (h : StB lt κ n bs d0 d) (hb : n ≤ bs) : StS lt κ n d0 d := ⟨h.1, fun hk => ⟨by
  have := (h.2 hk).2 0
  rw [Nat.zero_mul, Nat.zero_add] at this
  exact this.cut (.inl hb), (h.2 hk).1⟩⟩
end
end Go.Proofs.Ytihlhkbdgbkafaa
