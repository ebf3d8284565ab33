/- Heaps, plain law: a row in which no spot is nearer than the one above it. -/
import Derived.Test.YtgbahnlgblahpaaGreatMld
namespace Go.Proofs.YtgbahnlgblahpaaGreat
set_option linter.unusedVariables false
set_option linter.unusedSimpArgs false
abbrev Sp := Int × Int
def key (d : List Sp) (k : Nat) : Int := ((d[k]?).getD (0, 0)).2
def HeapO (d : List Sp) : Prop := ∀ k, 0 < k → k < d.length → key d ((k - 1) / 2) ≤ key d k
theorem key_get {d : List Sp} {k : Nat} {x : Sp} (h : d[k]? = some x) : key d k = x.2 := by unfold key; rw [h]; rfl
theorem key_swap {d : List Sp} {i j : Nat} {x y : Sp} (hx : d[i]? = some x) (hy : d[j]? = some y) (hij : i ≠ j) (k : Nat) :
    key ((d.set i y).set j x) k = if k = j then key d i else if k = i then key d j else key d k := by
  have hi := (List.getElem?_eq_some_iff.1 hx).1
  have hj := (List.getElem?_eq_some_iff.1 hy).1
  rw [key_get hx, key_get hy]
  unfold key
  rw [List.getElem?_set]
  by_cases h1 : j = k
  · subst h1; rw [if_pos rfl, if_pos (by simpa using hj), if_pos rfl]; rfl
  · rw [if_neg h1, if_neg (Ne.symm h1), List.getElem?_set]
    by_cases h2 : i = k
    · subst h2; rw [if_pos rfl, if_pos hi, if_pos rfl]; rfl
    · rw [if_neg h2, if_neg (Ne.symm h2)]
theorem swap_perm {d : List Sp} {i j : Nat} {x y : Sp} (hx : d[i]? = some x) (hy : d[j]? = some y) : ((d.set i y).set j x).Perm d := by
  obtain ⟨hi, rfl⟩ := List.getElem?_eq_some_iff.1 hx
  obtain ⟨hj, rfl⟩ := List.getElem?_eq_some_iff.1 hy
  exact List.set_set_perm hi hj
theorem heap_min {d : List Sp} (h : HeapO d) : ∀ k, k < d.length → key d 0 ≤ key d k := fun k => by
  induction k using Nat.strongRecOn with
  | _ k ih =>
    intro hk
    by_cases h0 : k = 0
    · subst h0; exact Int.le_refl _
    · exact Int.le_trans (ih ((k - 1) / 2) (by omega) (by omega)) (h k (by omega) hk)
structure UpInv (d : List Sp) (j : Nat) : Prop where
  one : ∀ k, 0 < k → k < d.length → k ≠ j → key d ((k - 1) / 2) ≤ key d k
  two : ∀ k, 0 < k → k < d.length → (k - 1) / 2 = j → 0 < j → key d ((j - 1) / 2) ≤ key d k
theorem UpInv.step {d : List Sp} {i j : Nat} {x y : Sp} (h : UpInv d j) (hj : 0 < j) (hi : i = (j - 1) / 2) (hx : d[i]? = some x) (hy : d[j]? = some y) (hlt : y.2 < x.2) : UpInv ((d.set i y).set j x) i := by
  have hs := key_swap hx hy (by omega)
  have kx := key_get hx
  have ky := key_get hy
  have hjl := (List.getElem?_eq_some_iff.1 hy).1
  have hl : ((d.set i y).set j x).length = d.length := by simp
  constructor
  · intro k hk hkl hki
    rw [hl] at hkl
    rw [hs, hs]
    by_cases h1 : k = j
    · subst h1
      rw [if_pos rfl, if_neg (by omega), if_pos (by omega)]; omega
    · have a1 := h.one k hk hkl h1
      rw [if_neg h1, if_neg hki]
      by_cases h2 : (k - 1) / 2 = j
      · rw [if_pos h2, hi]; exact h.two k hk hkl h2 hj
      · rw [if_neg h2]
        by_cases h3 : (k - 1) / 2 = i
        · rw [if_pos h3]; rw [h3] at a1; omega
        · rw [if_neg h3]; exact a1
  · intro k hk hkl hki hi0
    rw [hl] at hkl
    have a0 := h.one i hi0 (by omega) (by omega)
    rw [hs, hs, if_neg (by omega), if_neg (by omega)]
    by_cases h1 : k = j
    · rw [if_pos h1]; exact a0
    · rw [if_neg h1, if_neg (by omega)]
      have a1 := h.one k hk hkl h1
      rw [hki] at a1
      exact Int.le_trans a0 a1
theorem UpInv.stop {d : List Sp} {j : Nat} (h : UpInv d j) (hs : j = 0 ∨ ¬ key d j < key d ((j - 1) / 2)) : HeapO d := fun k hk hkl => by
  by_cases h1 : k = j
  · subst h1
    rcases hs with h2 | h2 <;> omega
  · exact h.one k hk hkl h1
theorem UpInv.push {d : List Sp} (h : HeapO d) (x : Sp) : UpInv (d ++ [x]) d.length := by
  have hk : ∀ k, k < d.length → key (d ++ [x]) k = key d k := fun k hk => by unfold key; rw [List.getElem?_append_left hk]
  constructor
  · intro k h0 hkl hne
    rw [List.length_append, List.length_singleton] at hkl
    rw [hk _ (by omega), hk _ (by omega)]
    exact h k h0 (by omega)
  · intro k h0 hkl hp hd
    rw [List.length_append, List.length_singleton] at hkl
    omega
structure DownInv (d : List Sp) (i : Nat) : Prop where
  one : ∀ k, 0 < k → k < d.length → (k - 1) / 2 ≠ i → key d ((k - 1) / 2) ≤ key d k
  two : ∀ k, 0 < k → k < d.length → (k - 1) / 2 = i → 0 < i → key d ((i - 1) / 2) ≤ key d k
theorem DownInv.step {d : List Sp} {i j : Nat} {x y : Sp} (h : DownInv d i) (hj : 0 < j) (hi : (j - 1) / 2 = i) (hx : d[i]? = some x) (hy : d[j]? = some y) (hlt : y.2 < x.2)
    (hm : ∀ k, 0 < k → k < d.length → (k - 1) / 2 = i → key d j ≤ key d k) : DownInv ((d.set i y).set j x) j := by
  have hs := key_swap hx hy (by omega)
  have kx := key_get hx
  have ky := key_get hy
  have hjl := (List.getElem?_eq_some_iff.1 hy).1
  have hl : ((d.set i y).set j x).length = d.length := by simp
  constructor
  · intro k hk hkl hkj
    rw [hl] at hkl
    rw [hs, hs, if_neg hkj]
    by_cases h1 : k = j
    · subst h1
      rw [if_pos rfl, if_pos hi]; omega
    · rw [if_neg h1]
      by_cases h2 : k = i
      · subst h2
        rw [if_pos rfl, if_neg (by omega)]; exact h.two j hj hjl hi hk
      · rw [if_neg h2]
        by_cases h3 : (k - 1) / 2 = i
        · rw [if_pos h3]; exact hm k hk hkl h3
        · rw [if_neg h3]; exact h.one k hk hkl h3
  · intro k hk hkl hkj _
    rw [hl] at hkl
    have a1 := h.one k hk hkl (by omega)
    rw [hkj] at a1
    rw [hs, hs, if_neg (by omega), if_pos (by omega), if_neg (by omega), if_neg (by omega)]
    exact a1
theorem DownInv.stop {d : List Sp} {i : Nat} (h : DownInv d i) (hs : ∀ k, 0 < k → k < d.length → (k - 1) / 2 = i → key d i ≤ key d k) : HeapO d := fun k hk hkl => by
  by_cases h1 : (k - 1) / 2 = i
  · rw [h1]; exact hs k hk hkl h1
  · exact h.one k hk hkl h1
/-- the last one put first, and left out at the end -/
theorem DownInv.first {d : List Sp} {y : Sp} (h : HeapO (d ++ [y])) (x : Sp) (d' : List Sp) (hd : d' = d.set 0 y) : DownInv d' 0 := by
  subst hd
  have hk : ∀ k, k ≠ 0 → k < d.length → key (d.set 0 y) k = key (d ++ [y]) k := fun k h0 hk => by
    unfold key
    rw [List.getElem?_append_left hk, List.getElem?_set, if_neg (by omega)]
  constructor
  · intro k h0 hkl hne
    rw [List.length_set] at hkl
    rw [hk _ hne (by omega), hk _ (by omega) hkl]
    exact h k h0 (by simp; omega)
  · intro k _ _ _ h0; omega
end Go.Proofs.YtgbahnlgblahpaaGreat
