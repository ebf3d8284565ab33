/- works of law06, and the walk of PartsOf. -/
import Derived.Test.YtihdpfjonkagaaaMor
import Derived.Test.YtihdpfjonkagaaaMwn
import Derived.Test.YtihdpfjonkagaaaMpl
import Derived.Test.YtihdpfjonkagaaaSai
namespace Go.Proofs.Ytihdpfjonkagaaa
open Go.RowKit
set_option linter.unusedVariables false
set_option linter.unusedSimpArgs false
theorem sameInts_self {w : World} {A B : Option Addr} {xs : List Int} {n c d : Nat} (hx : xs.length = n) (hn : n ≤ 9223372036854775807) (rx : Rd w w.heap.size A (xs.map (Value.int .i64))) (ry : Rd w w.heap.size B (xs.map (Value.int .i64))) :
    Calls Try.prog 10 #[.slice A n c, .slice B n d] w fun e w' => e = .returned (.bool true) ∧ Below w.heap.size w w' :=
  (sameInts_any w A B xs xs n n c d hx hx hn rx ry).mono fun e w' h => ⟨by rw [h.1, eqL_self], h.2⟩
set_option maxRecDepth 100000 in
set_option maxHeartbeats 2000000 in
theorem works_any (w : World) : Calls Try.prog 13 #[] w fun e w' => e = .returned (.bool true) ∧ Below w.heap.size w w' := by
  have HO : Hid (ownedF 6 2 0 = [0, 2, 4, 5]) := hide (by decide)
  go_enter Try.func13, Try.ntmps13
  go_wp2_with fail
  refine (of_any _ 0 4).mono ?_
  rintro e y1 ⟨rfl, rfl⟩
  rw [show ofF 0 4 = 0 by decide]
  go_wp2_with fail
  refine (of_any _ 1 4).mono ?_
  rintro e y1 ⟨rfl, rfl⟩
  rw [show ofF 1 4 = 2 by decide]
  go_wp2_with fail
  refine (of_any _ 2 4).mono ?_
  rintro e y1 ⟨rfl, rfl⟩
  rw [show ofF 2 4 = 0 by decide]
  go_wp2_with fail
  refine (of_any _ 3 4).mono ?_
  rintro e y1 ⟨rfl, rfl⟩
  rw [show ofF 3 4 = 3 by decide]
  go_wp2_with fail
  refine (owned_any _ 6 2 0).mono ?_
  rintro e y2 ⟨A, c, rfl, hown, hb⟩
  rw [HO.out] at hown ⊢
  have HOw := hide hown
  have HB := hide hb
  clear hown hb
  obtain ⟨u, hu⟩ : ∃ u, y2.alloc (.cells #[.int .i64 0, .int .i64 2, .int .i64 4, .int .i64 5] 3) = u := ⟨_, rfl⟩
  have hbu : Below y2.heap.size y2 u := by rw [← hu]; exact (Below.refl _ _).alloc (Nat.le_refl _) _
  have R1 : Hid (Rd u u.heap.size A ([0, 2, 4, 5].map (Value.int .i64))) := hide (((Rd.of_own HOw.out).below hbu).more hbu.size)
  have R2 : Hid (Rd u u.heap.size (some ⟨y2.heap.size, 0, none⟩) ([0, 2, 4, 5].map (Value.int .i64))) := hide (by
    rw [← hu]
    exact (Rd.new y2 #[.int .i64 0, .int .i64 2, .int .i64 4, .int .i64 5] 3 (0, 0)).more (by simp))
  have HBU := hide (HB.out.trans (hbu.mono HB.out.size))
  have HU := hide hu
  clear hbu hu
  go_wp2_with fail
  rw [HU.out]
  refine (sameInts_self (xs := [0, 2, 4, 5]) rfl (by decide) R1.out R2.out).mono ?_
  rintro e y3 ⟨rfl, k3⟩
  have K3 := hide (HBU.out.trans (k3.mono HBU.out.size))
  clear k3
  go_wp2_with fail
  refine (of_any _ 1 0).mono ?_
  rintro e y4 ⟨rfl, rfl⟩
  rw [show ofF 1 0 = -1 by decide]
  go_wp2_with fail
  refine (of_any _ 512 2).mono ?_
  rintro e y4 ⟨rfl, rfl⟩
  rw [show ofF 512 2 = -1 by decide]
  obtain ⟨v, hv⟩ : ∃ v, y4.alloc (.cells #[.int .i64 3, .int .i64 5] 3) = v := ⟨_, rfl⟩
  have hbv : Below y4.heap.size y4 v := by rw [← hv]; exact (Below.refl _ _).alloc (Nat.le_refl _) _
  have R3 : Hid (Rd v v.heap.size (some ⟨y4.heap.size, 0, none⟩) ([3, 5].map (Value.int .i64))) := hide (by
    rw [← hv]
    exact (Rd.new y4 #[.int .i64 3, .int .i64 5] 3 (0, 0)).more (by simp))
  have K4 := hide (K3.out.trans (hbv.mono K3.out.size))
  have HV := hide hv
  clear hbv hv
  go_wp2_with fail
  rw [HV.out]
  refine (place_any _ 0 0 0 _ _ _ [3, 5] 2 2 0 0 0 0 5 rfl (by decide) R3.out).mono ?_
  rintro e y5 ⟨rfl, k5⟩
  rw [show idxF [3, 5] 5 = 1 by decide]
  have K5 := hide (K4.out.trans (k5.mono K4.out.size))
  clear k5
  go_wp2
  go_ret
  exact ⟨rfl, K5.out⟩
set_option maxRecDepth 100000 in
set_option maxHeartbeats 2000000 in
theorem partsOf_walk (w : World) (v : Int) (_ : -9223372036854775808 ≤ v) (_ : v ≤ 9223372036854775807) (n : Int) (_ : -9223372036854775808 ≤ n) (_ : n ≤ 9223372036854775807) (k : Int) (_ : -9223372036854775808 ≤ k) (_ : k ≤ 9223372036854775807) :
    Calls Try.prog 3 #[.int .i64 v, .int .i64 n, .int .i64 k] w fun e w' => e = .returned (.bool true) ∧ Below w.heap.size w w' := by
  obtain ⟨z, hz⟩ : ∃ z, ofF v n = z := ⟨_, rfl⟩
  obtain ⟨l, hl⟩ : ∃ l, ownedF v n k = l := ⟨_, rfl⟩
  have HZ := hide hz
  have HL := hide hl
  have hlen : Hid (l.length ≤ 512) := hide (by
    rw [← hl]
    unfold ownedF
    have := own_len n k (min v 512).toNat
    omega)
  clear hz hl
  go_enter Try.func3, Try.ntmps3
  go_wp2_with fail
  refine (of_any _ v n).mono ?_
  rintro e y1 ⟨rfl, rfl⟩
  rw [HZ.out]
  go_wp2_with fail
  refine (rof_any _ v n).mono ?_
  rintro e y1 ⟨rfl, rfl⟩
  rw [HZ.out]
  go_wp2_with fail
  refine (owned_any _ v n k).mono ?_
  rintro e y2 ⟨A, c, rfl, hown, hb⟩
  rw [HL.out] at hown ⊢
  have HOw := hide hown
  have HB := hide hb
  clear hown hb
  go_wp2_with fail
  refine (rowned_any _ v n k).mono ?_
  rintro e y3 ⟨A2, c2, rfl, hown, hb⟩
  rw [HL.out] at hown ⊢
  have R1 : Hid (Rd y3 y3.heap.size A (l.map (Value.int .i64))) := hide (((Rd.of_own HOw.out).below hb).more hb.size)
  have R2 : Hid (Rd y3 y3.heap.size A2 (l.map (Value.int .i64))) := hide (Rd.of_own hown)
  have HB3 := hide (HB.out.trans (hb.mono HB.out.size))
  clear hown hb
  go_wp2_with fail
  refine (sameInts_self (xs := l) rfl (by have := hlen.out; omega) R1.out R2.out).mono ?_
  rintro e y4 ⟨rfl, k4⟩
  have K4 := hide (HB3.out.trans (k4.mono HB3.out.size))
  clear k4
  go_wp2_with fail
  refine (works_any _).mono ?_
  rintro e y5 ⟨rfl, k5⟩
  have K5 := hide (K4.out.trans (k5.mono K4.out.size))
  clear k5
  go_wp2
  go_ret
  exact ⟨rfl, K5.out⟩
end Go.Proofs.Ytihdpfjonkagaaa
