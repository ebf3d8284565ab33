/- The product of fixed numbers: the document. (printed by gen/rml.py) -/
import Derived.Test.YtihlhkbdgbkafaaMul
import Derived.Test.YtihlhkbdgbkafaaAtd
import Derived.Deep.DeepCutAuto
namespace Go.Proofs.Ytihlhkbdgbkafaa
open Go.RowKit
set_option linter.unusedVariables false
set_option linter.unusedSimpArgs false
def SR (s0 s1 s2 s3 : Nat) (v : World) (v12 v67 : Value) (wr : World) : Prop := (v67 = .int .i64 0 ∧ v12 = .int .i64 (s0 : Int) ∧ wr = v ∧ s0 ≤ 4611686018427387904) ∨ (v67 = .int .i64 1 ∧ v12 = .int .i64 (s1 : Int) ∧ wr = v ∧ s1 ≤ 4611686018427387904) ∨ (v67 = .int .i64 2 ∧ v12 = .int .i64 (s2 : Int) ∧ wr = v ∧ s2 ≤ 4611686018427387904) ∨ (v67 = .int .i64 3 ∧ v12 = .int .i64 (s3 : Int) ∧ wr = v ∧ s3 ≤ 4611686018427387904)
theorem mul_split (p q r s : Nat) : (p * 4294967296 + q) * (r * 4294967296 + s) / 4294967296 = p * r * 4294967296 + p * s + q * r + q * s / 4294967296 := by
  rw [Go.Lib.split_mul, show p * r * (4294967296 * 4294967296) + (p * s + q * r) * 4294967296 + q * s = q * s + (p * r * 4294967296 + (p * s + q * r)) * 4294967296 by
    rw [Nat.add_mul (p * r * 4294967296), Nat.mul_assoc (p * r), Nat.add_comm], Nat.add_mul_div_right _ _ (by decide)]
  omega
theorem u64_nat (x : Nat) (h : x ≤ 18446744073709551615) : IntKind.u64.wrap (x : Int) = (x : Int) := IntWalk.u64_in _ (by omega)
theorem w64_nat (x : Nat) (h : x ≤ 9223372036854775807) : wrap64 (x : Int) = (x : Int) := IntWalk.wrap64_in _ (by omega)
theorem w64_mul (k x : Nat) (h : k * 4294967296 = x) (hx : x ≤ 9223372036854775807) : wrap64 ((k : Int) * 4294967296) = (x : Int) := by rw [show (k : Int) * 4294967296 = (x : Int) by omega]; exact w64_nat x hx
theorem div_nat (y x : Nat) (h : y / 4294967296 = x) : (y : Int) / 4294967296 = (x : Int) := by omega
set_option maxRecDepth 100000 in
set_option maxHeartbeats 16000000 in
theorem rmul_any (w : World) (a b : Nat) (ha : a ≤ 9223372036854775807) (hb : b ≤ 9223372036854775807) : Calls Try.prog 54 #[.int .i64 (a : Int), .int .i64 (b : Int)] w fun e w' => e = .returned (.tuple #[.int .i64 ((mulF a b).1 : Int), .int .i64 ((mulF a b).2 : Int)]) ∧ Below w.heap.size w w' := by
  have n1 : ¬ (a : Int) < 0 := by omega
  have n2 : ¬ (b : Int) < 0 := by omega
  obtain ⟨p, hp⟩ : ∃ p, a / 4294967296 = p := ⟨_, rfl⟩
  obtain ⟨q, hq⟩ : ∃ p, a % 4294967296 = p := ⟨_, rfl⟩
  obtain ⟨r, hr⟩ : ∃ p, b / 4294967296 = p := ⟨_, rfl⟩
  obtain ⟨s, hs⟩ : ∃ p, b % 4294967296 = p := ⟨_, rfl⟩
  have hp' : (a : Int) / 4294967296 = (p : Int) := by omega
  have hq' : (a : Int) % 4294967296 = (q : Int) := by omega
  have hr' : (b : Int) / 4294967296 = (r : Int) := by omega
  have hs' : (b : Int) % 4294967296 = (s : Int) := by omega
  have bp : p ≤ 2147483647 := by omega
  have bq : q ≤ 4294967295 := by omega
  have br : r ≤ 2147483647 := by omega
  have bs : s ≤ 4294967295 := by omega
  obtain ⟨m, hm⟩ : ∃ m, mulF a b = m := ⟨_, rfl⟩
  have hab : a * b / 4294967296 = p * r * 4294967296 + p * s + q * r + q * s / 4294967296 := by
    rw [← mul_split, show p * 4294967296 + q = a by omega, show r * 4294967296 + s = b by omega]
  have hmf : mulF a b = if 4611686018427387904 < a * b / 4294967296 then (0, 50) else (a * b / 4294967296, 0) := rfl
  rw [hab] at hmf
  have b1 : p * s ≤ 2147483647 * 4294967295 := Nat.mul_le_mul bp bs
  have b2 : q * r ≤ 4294967295 * 2147483647 := Nat.mul_le_mul bq br
  have b3 : q * s ≤ 4294967295 * 4294967295 := Nat.mul_le_mul bq bs
  obtain ⟨D, hD⟩ : ∃ D, 1073741824 / p = D := ⟨_, rfl⟩
  have hdiv : 0 < p → (D < r ↔ 1073741824 < p * r) := fun h => by rw [← hD, Nat.div_lt_iff_lt_mul h, Nat.mul_comm]
  have hz : p = 0 → p * r = 0 := fun h => by rw [h, Nat.zero_mul]
  have hD' : (1073741824 : Int) / (p : Int) = (D : Int) := by rw [← hD]; rfl
  have hDb : D ≤ 1073741824 := by rw [← hD]; exact Nat.div_le_self _ _
  obtain ⟨k, hk⟩ : ∃ k, p * r = k := ⟨_, rfl⟩
  obtain ⟨x1, hx1⟩ : ∃ k, p * s = k := ⟨_, rfl⟩
  obtain ⟨x2, hx2⟩ : ∃ k, q * r = k := ⟨_, rfl⟩
  obtain ⟨y, hy⟩ : ∃ k, q * s = k := ⟨_, rfl⟩
  have i1 : (p : Int) * (r : Int) = (k : Int) := by rw [← hk]; rfl
  have i2 : (p : Int) * (s : Int) = (x1 : Int) := by rw [← hx1]; rfl
  have i3 : (q : Int) * (r : Int) = (x2 : Int) := by rw [← hx2]; rfl
  have i4 : (q : Int) * (s : Int) = (y : Int) := by rw [← hy]; rfl
  rw [hk, hx1, hx2, hy] at hmf
  rw [hx1] at b1
  rw [hx2] at b2
  rw [hy] at b3
  rw [hk] at hdiv hz
  have HR : Hid (IntKind.i64.wrap ((a : Int) / 4294967296) = (p : Int) ∧ (a : Int).tmod 4294967296 = (q : Int) ∧ IntKind.i64.wrap ((b : Int) / 4294967296) = (r : Int) ∧ (b : Int).tmod 4294967296 = (s : Int)) := hide
    ⟨by rw [hp']; exact IntWalk.i64_in _ (by omega), by rw [Int.tmod_eq_emod_of_nonneg (by omega)]; exact hq', by rw [hr']; exact IntWalk.i64_in _ (by omega), by rw [Int.tmod_eq_emod_of_nonneg (by omega)]; exact hs'⟩
  have HMF0 := hide hmf
  have DV := hide (And.intro hdiv (And.intro hz (And.intro hD' hDb)))
  have II := hide (And.intro i1 (And.intro i2 (And.intro i3 i4)))
  have BB := hide (And.intro bp (And.intro bq (And.intro br bs)))
  have CC := hide (And.intro b1 (And.intro b2 b3))
  clear hp hq hr hs hp' hq' hr' hs' bp bq br bs hm hab hmf b1 b2 b3 hD hdiv hz hD' hDb hk hx1 hx2 hy i1 i2 i3 i4
  go_enter Try.func54, Try.ntmps54
  go_upto_region 4 with fail
  refine wp_region_held_drew (S := Kept w) (by kernel_rfl) (Kept.drew w) (fun hS0 => ?_)
  refine take_at (i := 0) (d := 21) (v := ?_) (by simp only [List.getElem?_toArray, List.getElem?_cons_succ, List.getElem?_cons_zero]; rfl) rfl (by kernel_rfl) (by kernel_rfl) (by kernel_rfl) (fun _ _ _ h => h) rfl ?_ (by assumption) ?_
  rotate_left
  focus (intro w hSw; go_simp; (try with_reducible rfl); done)
  try simp only [List.setIfInBounds_toArray, List.set_cons_zero, List.set_cons_succ]
  refine take_at (i := 1) (d := 22) (v := ?_) (by simp only [List.getElem?_toArray, List.getElem?_cons_succ, List.getElem?_cons_zero]; rfl) rfl (by kernel_rfl) (by kernel_rfl) (by kernel_rfl) (fun _ _ _ h => h) rfl ?_ (by assumption) ?_
  rotate_left
  focus (intro w hSw; go_simp; (try with_reducible rfl); done)
  try simp only [List.setIfInBounds_toArray, List.set_cons_zero, List.set_cons_succ]
  refine take_at (i := 2) (d := 23) (v := ?_) (by simp only [List.getElem?_toArray, List.getElem?_cons_succ, List.getElem?_cons_zero]; rfl) rfl (by kernel_rfl) (by kernel_rfl) (by kernel_rfl) (fun _ _ _ h => h) rfl ?_ (by assumption) ?_
  rotate_left
  focus (intro w hSw; go_simp; (try with_reducible rfl); done)
  try simp only [List.setIfInBounds_toArray, List.set_cons_zero, List.set_cons_succ]
  refine take_at (i := 3) (d := 24) (v := ?_) (by simp only [List.getElem?_toArray, List.getElem?_cons_succ, List.getElem?_cons_zero]; rfl) rfl (by kernel_rfl) (by kernel_rfl) (by kernel_rfl) (fun _ _ _ h => h) rfl ?_ (by assumption) ?_
  rotate_left
  focus (intro w hSw; go_simp; (try with_reducible rfl); done)
  try simp only [List.setIfInBounds_toArray, List.set_cons_zero, List.set_cons_succ]
  refine take_at (i := 4) (d := 25) (v := ?_) (by simp only [List.getElem?_toArray, List.getElem?_cons_succ, List.getElem?_cons_zero]; rfl) rfl (by kernel_rfl) (by kernel_rfl) (by kernel_rfl) (fun _ _ _ h => h) rfl ?_ (by assumption) ?_
  rotate_left
  focus (intro w hSw; go_simp; (try with_reducible rfl); done)
  try simp only [List.setIfInBounds_toArray, List.set_cons_zero, List.set_cons_succ]
  refine take_at (i := 5) (d := 26) (v := ?_) (by simp only [List.getElem?_toArray, List.getElem?_cons_succ, List.getElem?_cons_zero]; rfl) rfl (by kernel_rfl) (by kernel_rfl) (by kernel_rfl) (fun _ _ _ h => h) rfl ?_ (by assumption) ?_
  rotate_left
  focus (intro w hSw; go_simp; (try with_reducible rfl); done)
  try simp only [List.setIfInBounds_toArray, List.set_cons_zero, List.set_cons_succ]
  refine take_at (i := 6) (d := 27) (v := ?_) (by simp only [List.getElem?_toArray, List.getElem?_cons_succ, List.getElem?_cons_zero]; rfl) rfl (by kernel_rfl) (by kernel_rfl) (by kernel_rfl) (fun _ _ _ h => h) rfl ?_ (by assumption) ?_
  rotate_left
  focus (intro w hSw; go_simp; (try with_reducible rfl); done)
  try simp only [List.setIfInBounds_toArray, List.set_cons_zero, List.set_cons_succ]
  refine take_at (i := 7) (d := 28) (v := ?_) (by simp only [List.getElem?_toArray, List.getElem?_cons_succ, List.getElem?_cons_zero]; rfl) rfl (by kernel_rfl) (by kernel_rfl) (by kernel_rfl) (fun _ _ _ h => h) rfl ?_ (by assumption) ?_
  rotate_left
  focus (intro w hSw; go_simp; (try with_reducible rfl); done)
  try simp only [List.setIfInBounds_toArray, List.set_cons_zero, List.set_cons_succ]
  refine take_at (i := 8) (d := 29) (v := ?_) (by simp only [List.getElem?_toArray, List.getElem?_cons_succ, List.getElem?_cons_zero]; rfl) rfl (by kernel_rfl) (by kernel_rfl) (by kernel_rfl) (fun _ _ _ h => h) rfl ?_ (by assumption) ?_
  rotate_left
  focus (intro w hSw; go_simp; (try with_reducible rfl); done)
  try simp only [List.setIfInBounds_toArray, List.set_cons_zero, List.set_cons_succ]
  refine take_at (i := 9) (d := 30) (v := ?_) (by simp only [List.getElem?_toArray, List.getElem?_cons_succ, List.getElem?_cons_zero]; rfl) rfl (by kernel_rfl) (by kernel_rfl) (by kernel_rfl) (fun _ _ _ h => h) rfl ?_ (by assumption) ?_
  rotate_left
  focus (intro w hSw; go_simp; (try with_reducible rfl); done)
  try simp only [List.setIfInBounds_toArray, List.set_cons_zero, List.set_cons_succ]
  refine take_at (i := 10) (d := 31) (v := ?_) (by simp only [List.getElem?_toArray, List.getElem?_cons_succ, List.getElem?_cons_zero]; rfl) rfl (by kernel_rfl) (by kernel_rfl) (by kernel_rfl) (fun _ _ _ h => h) rfl ?_ (by assumption) ?_
  rotate_left
  focus (intro w hSw; go_simp; (try with_reducible rfl); done)
  try simp only [List.setIfInBounds_toArray, List.set_cons_zero, List.set_cons_succ]
  refine take_at (i := 11) (d := 32) (v := ?_) (by simp only [List.getElem?_toArray, List.getElem?_cons_succ, List.getElem?_cons_zero]; rfl) rfl (by kernel_rfl) (by kernel_rfl) (by kernel_rfl) (fun _ _ _ h => h) rfl ?_ (by assumption) ?_
  rotate_left
  focus (intro w hSw; go_simp; (try with_reducible rfl); done)
  try simp only [List.setIfInBounds_toArray, List.set_cons_zero, List.set_cons_succ]
  refine take_at (i := 12) (d := 7) (v := ?_) (by simp only [List.getElem?_toArray, List.getElem?_cons_succ, List.getElem?_cons_zero]; rfl) rfl (by kernel_rfl) (by kernel_rfl) (by kernel_rfl) (fun _ _ _ h => h) rfl ?_ (by assumption) ?_
  rotate_left
  focus (intro w hSw; go_simp; (try with_reducible rfl); done)
  try simp only [List.setIfInBounds_toArray, List.set_cons_zero, List.set_cons_succ]
  refine take_at (i := 13) (d := 8) (v := ?_) (by simp only [List.getElem?_toArray, List.getElem?_cons_succ, List.getElem?_cons_zero]; rfl) rfl (by kernel_rfl) (by kernel_rfl) (by kernel_rfl) (fun _ _ _ h => h) rfl ?_ (by assumption) ?_
  rotate_left
  focus (intro w hSw; go_simp; (try with_reducible rfl); done)
  try simp only [List.setIfInBounds_toArray, List.set_cons_zero, List.set_cons_succ]
  refine take_at (i := 14) (d := 9) (v := ?_) (by simp only [List.getElem?_toArray, List.getElem?_cons_succ, List.getElem?_cons_zero]; rfl) rfl (by kernel_rfl) (by kernel_rfl) (by kernel_rfl) (fun _ _ _ h => h) rfl ?_ (by assumption) ?_
  rotate_left
  focus (intro w hSw; go_simp; (try with_reducible rfl); done)
  try simp only [List.setIfInBounds_toArray, List.set_cons_zero, List.set_cons_succ]
  refine take_at (i := 15) (d := 10) (v := ?_) (by simp only [List.getElem?_toArray, List.getElem?_cons_succ, List.getElem?_cons_zero]; rfl) rfl (by kernel_rfl) (by kernel_rfl) (by kernel_rfl) (fun _ _ _ h => h) rfl ?_ (by assumption) ?_
  rotate_left
  focus (intro w hSw; go_simp; (try with_reducible rfl); done)
  try simp only [List.setIfInBounds_toArray, List.set_cons_zero, List.set_cons_succ]
  refine wpAnyH_done (by kernel_rfl) ?_ _
  clear hS0
  rw [HR.out.1, HR.out.2.1, HR.out.2.2.1, HR.out.2.2.2]
  obtain ⟨hdiv, hz, hD', hDb⟩ := DV.out
  obtain ⟨bp, bq, br, bs⟩ := BB.out
  obtain ⟨b1, b2, b3⟩ := CC.out
  have hb0 := hide (below_dr0 w.heap.size w)
  obtain ⟨w1, hw1⟩ : ∃ z, w.drew = z := ⟨_, rfl⟩
  rw [hw1] at hb0 ⊢
  have hsz : w1.heap.size = w.heap.size := by rw [← hw1]; rfl
  by_cases hover : 0 < p ∧ D < r
  · have h1 : 1073741824 < k := (hdiv hover.1).1 hover.2
    have HM2 : Hid (mulF a b = (0, 50)) := hide (by rw [HMF0.out, if_pos (by omega)])
    have g1 : 0 < (p : Int) := by omega
    have g2 : (D : Int) < (r : Int) := by omega
    have e0 : ¬ (p : Int) = 0 := by omega
    have HBF := hide hb0.out
    clear hdiv hz h1 hover b1 b2 b3 hw1 hsz
    go_wp2
    exact bodyPost_ret (by simp [results, Try.results54, go_sem]; try rfl) rfl ⟨by rw [HM2.out]; rfl, HBF.out⟩
  · have h1 : k ≤ 1073741824 := by
      rcases Nat.eq_zero_or_pos p with h0 | h0
      · rw [hz h0]; decide
      · rcases Nat.lt_or_ge 1073741824 k with h2 | h2
        · exact absurd ⟨h0, (hdiv h0).2 h2⟩ hover
        · exact h2
    have HOV := hide hover
    clear hdiv hz hover
    obtain ⟨s0, hs0⟩ : ∃ z, k * 4294967296 = z := ⟨_, rfl⟩
    obtain ⟨x3, hx3⟩ : ∃ z, y / 4294967296 = z := ⟨_, rfl⟩
    obtain ⟨s1, hs1⟩ : ∃ z, s0 + x1 = z := ⟨_, rfl⟩
    obtain ⟨s2, hs2⟩ : ∃ z, s1 + x2 = z := ⟨_, rfl⟩
    obtain ⟨s3, hs3⟩ : ∃ z, s2 + x3 = z := ⟨_, rfl⟩
    have HMF : Hid (mulF a b = if 4611686018427387904 < s3 then (0, 50) else (s3, 0)) := hide (by rw [HMF0.out, hs0, hx3, hs1, hs2, hs3])
    have HTOT : Hid (s3 = s0 + x1 + x2 + x3) := hide (by omega)
    have HE1 : Hid ((s0 : Int) + (x1 : Int) = (s1 : Int)) := hide (by omega)
    have HE2 : Hid ((s1 : Int) + (x2 : Int) = (s2 : Int)) := hide (by omega)
    have HE3 : Hid ((s2 : Int) + (x3 : Int) = (s3 : Int)) := hide (by omega)
    have HS0 : Hid (s0 ≤ 4611686018427387904) := hide (by omega)
    have HLT1 : Hid (x1 < 9223372036854775808) := hide (by omega)
    have HLT2 : Hid (x2 < 9223372036854775808) := hide (by omega)
    have HLT3 : Hid (x3 < 9223372036854775808) := hide (by omega)
    have y3 : (y : Int) / 4294967296 = (x3 : Int) := div_nat y x3 hx3
    have t1 : k ≤ 9223372036854775807 := Nat.le_trans h1 (by decide)
    have t2 : x1 ≤ 18446744073709551615 := Nat.le_trans b1 (by decide)
    have t3 : x2 ≤ 18446744073709551615 := Nat.le_trans b2 (by decide)
    have t4 : y ≤ 18446744073709551615 := Nat.le_trans b3 (by decide)
    have a1 : wrap64 (k : Int) = (k : Int) := w64_nat k t1
    have a2 : wrap64 ((k : Int) * 4294967296) = (s0 : Int) := w64_mul k s0 hs0 (Nat.le_trans HS0.out (by decide))
    have u1 : IntKind.u64.wrap (p : Int) = (p : Int) := u64_nat p (Nat.le_trans bp (by decide))
    have u2 : IntKind.u64.wrap (q : Int) = (q : Int) := u64_nat q (Nat.le_trans bq (by decide))
    have u3 : IntKind.u64.wrap (r : Int) = (r : Int) := u64_nat r (Nat.le_trans br (by decide))
    have u4 : IntKind.u64.wrap (s : Int) = (s : Int) := u64_nat s (Nat.le_trans bs (by decide))
    have v1 : IntKind.u64.wrap (x1 : Int) = (x1 : Int) := u64_nat x1 t2
    have v2 : IntKind.u64.wrap (x2 : Int) = (x2 : Int) := u64_nat x2 t3
    have v3 : IntKind.u64.wrap (y : Int) = (y : Int) := u64_nat y t4
    have v4 : IntKind.u64.wrap (x3 : Int) = (x3 : Int) := u64_nat x3 (Nat.le_trans (Nat.le_of_lt HLT3.out) (by decide))
    clear t1 t2 t3 t4
    obtain ⟨v, hv⟩ : ∃ z, w1.alloc (.cells #[.int .u64 (x1 : Int), .int .u64 (x2 : Int), .int .u64 (x3 : Int)] 102) = z := ⟨_, rfl⟩
    have HV0 : Hid (v.heap[w.heap.size]? = some (.cells #[.int .u64 (x1 : Int), .int .u64 (x2 : Int), .int .u64 (x3 : Int)] 102)) := hide (by rw [← hv, ← hsz]; exact heap_alloc_last _ _)
    have HLV : Hid (w.heap.size < v.heap.size) := hide (by rw [← hv]; simp; omega)
    have HBV : Hid (Below w.heap.size w v) := hide (by rw [← hv]; exact hb0.out.alloc (by omega) _)
    have HV := hide hv
    have HSZ := hide hsz
    obtain ⟨i1, i2, i3, i4⟩ := II.out
    clear h1 b1 b2 b3 hs0 hx3 hs1 hs2 hs3 hv hw1 hsz hDb
    by_cases hp0 : 0 < p
    · have g2 : ¬ (D : Int) < (r : Int) := by have := HOV.out; omega
      have g1 : 0 < (p : Int) := by omega
      have e0 : ¬ (p : Int) = 0 := by omega
      clear hp0
      go_wp2
      rw [HV.out, HSZ.out]
      (try clear i1); (try clear i2); (try clear i3); (try clear i4); (try clear y3); (try clear a1); (try clear a2); (try clear u1); (try clear u2); (try clear u3); (try clear u4); (try clear v1); (try clear v2); (try clear v3); (try clear v4); (try clear hD'); (try clear g1); (try clear g2); (try clear e0); (try clear bp); (try clear bq); (try clear br); (try clear bs); (try clear ha); (try clear hb); (try clear n1); (try clear n2)
      go_loopw [12, 67] (fun v12 v67 wr => SR s0 s1 s2 s3 v v12 v67 wr) (fun _ v67 _ => 3 - (intOf v67).toNat)
      case atStart => exact .inl ⟨rfl, rfl, rfl, HS0.out⟩
      case round =>
        rcases hrel with hrel | hrel | hrel | hrel
        · obtain ⟨e1, e2, e3, hle⟩ := hrel
          subst e1
          subst e2
          have e4 := e3.symm
          subst e4
          have d : v.cell? ⟨w.heap.size, 0, none⟩ = some (.int .u64 ((x1 : Nat) : Int)) := cell_of_row _ _ 0 _ _ _ HV0.out
          have lv : w.heap.size < v.heap.size := HLV.out
          obtain ⟨D, hD⟩ : ∃ D : Nat, (4611686018427387904 : Int) - (s0 : Int) = (D : Int) := ⟨4611686018427387904 - s0, by omega⟩
          have w0 : wrap64 (D : Int) = (D : Int) := IntWalk.wrap64_in _ (by omega)
          have w0' : IntKind.i64.wrap (D : Int) = (D : Int) := IntWalk.i64_in _ (by omega)
          have w1 : IntKind.u64.wrap (D : Int) = (D : Int) := IntWalk.u64_in _ (by omega)
          have hlt := HLT1.out
          by_cases hx : D < x1
          · have hx' : (D : Int) < (x1 : Int) := by omega
            have HM2 : Hid (mulF a b = (0, 50)) := hide (by rw [HMF.out, if_pos (by have h0 := HTOT.out; have h1 := HE1.out; have h2 := HE2.out; have h3 := HE3.out; omega)])
            have HBF := hide HBV.out
            clear hx hlt hle
            go_wp2
            exact bodyPost_ret (by simp [results, Try.results54, go_sem]; try rfl) rfl ⟨by rw [HM2.out]; rfl, HBF.out⟩
          · have hx' : ¬ (D : Int) < (x1 : Int) := by omega
            have w2 : wrap64 (x1 : Int) = (x1 : Int) := IntWalk.wrap64_in _ (by omega)
            have w3 : wrap64 ((s0 : Int) + (x1 : Int)) = (s1 : Int) := by rw [← HE1.out]; exact IntWalk.wrap64_in _ (by omega)
            have w3' : IntKind.i64.wrap ((s0 : Int) + (x1 : Int)) = (s1 : Int) := by rw [← HE1.out]; exact IntWalk.i64_in _ (by omega)
            have hn : s1 ≤ 4611686018427387904 := by have := HE1.out; omega
            have HN := hide hn
            clear hx hlt hle hn
            go_wp2
            go_roundw
            case rel => exact .inr (.inl ⟨by rfl, by rfl, rfl, HN.out⟩)
            case measure => simp [intOf]
        · obtain ⟨e1, e2, e3, hle⟩ := hrel
          subst e1
          subst e2
          have e4 := e3.symm
          subst e4
          have d : v.cell? ⟨w.heap.size, 1, none⟩ = some (.int .u64 ((x2 : Nat) : Int)) := cell_of_row _ _ 1 _ _ _ HV0.out
          have lv : w.heap.size < v.heap.size := HLV.out
          obtain ⟨D, hD⟩ : ∃ D : Nat, (4611686018427387904 : Int) - (s1 : Int) = (D : Int) := ⟨4611686018427387904 - s1, by omega⟩
          have w0 : wrap64 (D : Int) = (D : Int) := IntWalk.wrap64_in _ (by omega)
          have w0' : IntKind.i64.wrap (D : Int) = (D : Int) := IntWalk.i64_in _ (by omega)
          have w1 : IntKind.u64.wrap (D : Int) = (D : Int) := IntWalk.u64_in _ (by omega)
          have hlt := HLT2.out
          by_cases hx : D < x2
          · have hx' : (D : Int) < (x2 : Int) := by omega
            have HM2 : Hid (mulF a b = (0, 50)) := hide (by rw [HMF.out, if_pos (by have h0 := HTOT.out; have h1 := HE1.out; have h2 := HE2.out; have h3 := HE3.out; omega)])
            have HBF := hide HBV.out
            clear hx hlt hle
            go_wp2
            exact bodyPost_ret (by simp [results, Try.results54, go_sem]; try rfl) rfl ⟨by rw [HM2.out]; rfl, HBF.out⟩
          · have hx' : ¬ (D : Int) < (x2 : Int) := by omega
            have w2 : wrap64 (x2 : Int) = (x2 : Int) := IntWalk.wrap64_in _ (by omega)
            have w3 : wrap64 ((s1 : Int) + (x2 : Int)) = (s2 : Int) := by rw [← HE2.out]; exact IntWalk.wrap64_in _ (by omega)
            have w3' : IntKind.i64.wrap ((s1 : Int) + (x2 : Int)) = (s2 : Int) := by rw [← HE2.out]; exact IntWalk.i64_in _ (by omega)
            have hn : s2 ≤ 4611686018427387904 := by have := HE2.out; omega
            have HN := hide hn
            clear hx hlt hle hn
            go_wp2
            go_roundw
            case rel => exact .inr (.inr (.inl ⟨by rfl, by rfl, rfl, HN.out⟩))
            case measure => simp [intOf]
        · obtain ⟨e1, e2, e3, hle⟩ := hrel
          subst e1
          subst e2
          have e4 := e3.symm
          subst e4
          have d : v.cell? ⟨w.heap.size, 2, none⟩ = some (.int .u64 ((x3 : Nat) : Int)) := cell_of_row _ _ 2 _ _ _ HV0.out
          have lv : w.heap.size < v.heap.size := HLV.out
          obtain ⟨D, hD⟩ : ∃ D : Nat, (4611686018427387904 : Int) - (s2 : Int) = (D : Int) := ⟨4611686018427387904 - s2, by omega⟩
          have w0 : wrap64 (D : Int) = (D : Int) := IntWalk.wrap64_in _ (by omega)
          have w0' : IntKind.i64.wrap (D : Int) = (D : Int) := IntWalk.i64_in _ (by omega)
          have w1 : IntKind.u64.wrap (D : Int) = (D : Int) := IntWalk.u64_in _ (by omega)
          have hlt := HLT3.out
          by_cases hx : D < x3
          · have hx' : (D : Int) < (x3 : Int) := by omega
            have HM2 : Hid (mulF a b = (0, 50)) := hide (by rw [HMF.out, if_pos (by have h0 := HTOT.out; have h1 := HE1.out; have h2 := HE2.out; have h3 := HE3.out; omega)])
            have HBF := hide HBV.out
            clear hx hlt hle
            go_wp2
            exact bodyPost_ret (by simp [results, Try.results54, go_sem]; try rfl) rfl ⟨by rw [HM2.out]; rfl, HBF.out⟩
          · have hx' : ¬ (D : Int) < (x3 : Int) := by omega
            have w2 : wrap64 (x3 : Int) = (x3 : Int) := IntWalk.wrap64_in _ (by omega)
            have w3 : wrap64 ((s2 : Int) + (x3 : Int)) = (s3 : Int) := by rw [← HE3.out]; exact IntWalk.wrap64_in _ (by omega)
            have w3' : IntKind.i64.wrap ((s2 : Int) + (x3 : Int)) = (s3 : Int) := by rw [← HE3.out]; exact IntWalk.i64_in _ (by omega)
            have hn : s3 ≤ 4611686018427387904 := by have := HE3.out; omega
            have HN := hide hn
            clear hx hlt hle hn
            go_wp2
            go_roundw
            case rel => exact .inr (.inr (.inr (⟨by rfl, by rfl, rfl, HN.out⟩)))
            case measure => simp [intOf]
        · obtain ⟨e1, e2, e3, hle⟩ := hrel
          subst e1
          subst e2
          have e4 := e3.symm
          subst e4
          have HM2 : Hid (mulF a b = (s3, 0)) := hide (by rw [HMF.out, if_neg (by omega)])
          have HBF := hide HBV.out
          clear hle
          go_wp2
          exact bodyPost_ret (by simp [results, Try.results54, go_sem]; try rfl) rfl ⟨by rw [HM2.out]; rfl, HBF.out⟩
    · have g1 : ¬ (0 : Int) < (p : Int) := by omega
      clear hp0
      generalize (p : Int) = z at *
      go_wp2
      rw [HV.out, HSZ.out]
      (try clear i1); (try clear i2); (try clear i3); (try clear i4); (try clear y3); (try clear a1); (try clear a2); (try clear u1); (try clear u2); (try clear u3); (try clear u4); (try clear v1); (try clear v2); (try clear v3); (try clear v4); (try clear hD'); (try clear g1); (try clear g2); (try clear e0); (try clear bp); (try clear bq); (try clear br); (try clear bs); (try clear ha); (try clear hb); (try clear n1); (try clear n2)
      go_loopw [12, 67] (fun v12 v67 wr => SR s0 s1 s2 s3 v v12 v67 wr) (fun _ v67 _ => 3 - (intOf v67).toNat)
      case atStart => exact .inl ⟨rfl, rfl, rfl, HS0.out⟩
      case round =>
        rcases hrel with hrel | hrel | hrel | hrel
        · obtain ⟨e1, e2, e3, hle⟩ := hrel
          subst e1
          subst e2
          have e4 := e3.symm
          subst e4
          have d : v.cell? ⟨w.heap.size, 0, none⟩ = some (.int .u64 ((x1 : Nat) : Int)) := cell_of_row _ _ 0 _ _ _ HV0.out
          have lv : w.heap.size < v.heap.size := HLV.out
          obtain ⟨D, hD⟩ : ∃ D : Nat, (4611686018427387904 : Int) - (s0 : Int) = (D : Int) := ⟨4611686018427387904 - s0, by omega⟩
          have w0 : wrap64 (D : Int) = (D : Int) := IntWalk.wrap64_in _ (by omega)
          have w0' : IntKind.i64.wrap (D : Int) = (D : Int) := IntWalk.i64_in _ (by omega)
          have w1 : IntKind.u64.wrap (D : Int) = (D : Int) := IntWalk.u64_in _ (by omega)
          have hlt := HLT1.out
          by_cases hx : D < x1
          · have hx' : (D : Int) < (x1 : Int) := by omega
            have HM2 : Hid (mulF a b = (0, 50)) := hide (by rw [HMF.out, if_pos (by have h0 := HTOT.out; have h1 := HE1.out; have h2 := HE2.out; have h3 := HE3.out; omega)])
            have HBF := hide HBV.out
            clear hx hlt hle
            go_wp2
            exact bodyPost_ret (by simp [results, Try.results54, go_sem]; try rfl) rfl ⟨by rw [HM2.out]; rfl, HBF.out⟩
          · have hx' : ¬ (D : Int) < (x1 : Int) := by omega
            have w2 : wrap64 (x1 : Int) = (x1 : Int) := IntWalk.wrap64_in _ (by omega)
            have w3 : wrap64 ((s0 : Int) + (x1 : Int)) = (s1 : Int) := by rw [← HE1.out]; exact IntWalk.wrap64_in _ (by omega)
            have w3' : IntKind.i64.wrap ((s0 : Int) + (x1 : Int)) = (s1 : Int) := by rw [← HE1.out]; exact IntWalk.i64_in _ (by omega)
            have hn : s1 ≤ 4611686018427387904 := by have := HE1.out; omega
            have HN := hide hn
            clear hx hlt hle hn
            go_wp2
            go_roundw
            case rel => exact .inr (.inl ⟨by rfl, by rfl, rfl, HN.out⟩)
            case measure => simp [intOf]
        · obtain ⟨e1, e2, e3, hle⟩ := hrel
          subst e1
          subst e2
          have e4 := e3.symm
          subst e4
          have d : v.cell? ⟨w.heap.size, 1, none⟩ = some (.int .u64 ((x2 : Nat) : Int)) := cell_of_row _ _ 1 _ _ _ HV0.out
          have lv : w.heap.size < v.heap.size := HLV.out
          obtain ⟨D, hD⟩ : ∃ D : Nat, (4611686018427387904 : Int) - (s1 : Int) = (D : Int) := ⟨4611686018427387904 - s1, by omega⟩
          have w0 : wrap64 (D : Int) = (D : Int) := IntWalk.wrap64_in _ (by omega)
          have w0' : IntKind.i64.wrap (D : Int) = (D : Int) := IntWalk.i64_in _ (by omega)
          have w1 : IntKind.u64.wrap (D : Int) = (D : Int) := IntWalk.u64_in _ (by omega)
          have hlt := HLT2.out
          by_cases hx : D < x2
          · have hx' : (D : Int) < (x2 : Int) := by omega
            have HM2 : Hid (mulF a b = (0, 50)) := hide (by rw [HMF.out, if_pos (by have h0 := HTOT.out; have h1 := HE1.out; have h2 := HE2.out; have h3 := HE3.out; omega)])
            have HBF := hide HBV.out
            clear hx hlt hle
            go_wp2
            exact bodyPost_ret (by simp [results, Try.results54, go_sem]; try rfl) rfl ⟨by rw [HM2.out]; rfl, HBF.out⟩
          · have hx' : ¬ (D : Int) < (x2 : Int) := by omega
            have w2 : wrap64 (x2 : Int) = (x2 : Int) := IntWalk.wrap64_in _ (by omega)
            have w3 : wrap64 ((s1 : Int) + (x2 : Int)) = (s2 : Int) := by rw [← HE2.out]; exact IntWalk.wrap64_in _ (by omega)
            have w3' : IntKind.i64.wrap ((s1 : Int) + (x2 : Int)) = (s2 : Int) := by rw [← HE2.out]; exact IntWalk.i64_in _ (by omega)
            have hn : s2 ≤ 4611686018427387904 := by have := HE2.out; omega
            have HN := hide hn
            clear hx hlt hle hn
            go_wp2
            go_roundw
            case rel => exact .inr (.inr (.inl ⟨by rfl, by rfl, rfl, HN.out⟩))
            case measure => simp [intOf]
        · obtain ⟨e1, e2, e3, hle⟩ := hrel
          subst e1
          subst e2
          have e4 := e3.symm
          subst e4
          have d : v.cell? ⟨w.heap.size, 2, none⟩ = some (.int .u64 ((x3 : Nat) : Int)) := cell_of_row _ _ 2 _ _ _ HV0.out
          have lv : w.heap.size < v.heap.size := HLV.out
          obtain ⟨D, hD⟩ : ∃ D : Nat, (4611686018427387904 : Int) - (s2 : Int) = (D : Int) := ⟨4611686018427387904 - s2, by omega⟩
          have w0 : wrap64 (D : Int) = (D : Int) := IntWalk.wrap64_in _ (by omega)
          have w0' : IntKind.i64.wrap (D : Int) = (D : Int) := IntWalk.i64_in _ (by omega)
          have w1 : IntKind.u64.wrap (D : Int) = (D : Int) := IntWalk.u64_in _ (by omega)
          have hlt := HLT3.out
          by_cases hx : D < x3
          · have hx' : (D : Int) < (x3 : Int) := by omega
            have HM2 : Hid (mulF a b = (0, 50)) := hide (by rw [HMF.out, if_pos (by have h0 := HTOT.out; have h1 := HE1.out; have h2 := HE2.out; have h3 := HE3.out; omega)])
            have HBF := hide HBV.out
            clear hx hlt hle
            go_wp2
            exact bodyPost_ret (by simp [results, Try.results54, go_sem]; try rfl) rfl ⟨by rw [HM2.out]; rfl, HBF.out⟩
          · have hx' : ¬ (D : Int) < (x3 : Int) := by omega
            have w2 : wrap64 (x3 : Int) = (x3 : Int) := IntWalk.wrap64_in _ (by omega)
            have w3 : wrap64 ((s2 : Int) + (x3 : Int)) = (s3 : Int) := by rw [← HE3.out]; exact IntWalk.wrap64_in _ (by omega)
            have w3' : IntKind.i64.wrap ((s2 : Int) + (x3 : Int)) = (s3 : Int) := by rw [← HE3.out]; exact IntWalk.i64_in _ (by omega)
            have hn : s3 ≤ 4611686018427387904 := by have := HE3.out; omega
            have HN := hide hn
            clear hx hlt hle hn
            go_wp2
            go_roundw
            case rel => exact .inr (.inr (.inr (⟨by rfl, by rfl, rfl, HN.out⟩)))
            case measure => simp [intOf]
        · obtain ⟨e1, e2, e3, hle⟩ := hrel
          subst e1
          subst e2
          have e4 := e3.symm
          subst e4
          have HM2 : Hid (mulF a b = (s3, 0)) := hide (by rw [HMF.out, if_neg (by omega)])
          have HBF := hide HBV.out
          clear hle
          go_wp2
          exact bodyPost_ret (by simp [results, Try.results54, go_sem]; try rfl) rfl ⟨by rw [HM2.out]; rfl, HBF.out⟩
end Go.Proofs.Ytihlhkbdgbkafaa
