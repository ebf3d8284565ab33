/- Take of Rank: the program and the document. (printed by gen/tke.py) -/
import Derived.Test.YtihlhkbdgbkafaaRml
namespace Go.Proofs.Ytihlhkbdgbkafaa
open Go.RowKit
set_option linter.unusedVariables false
set_option linter.unusedSimpArgs false
def takeK (V d g s : Int) : Int := if V < 1 ∨ d < 0 ∨ 4294967296 < d ∨ g < 0 ∨ s < 0 then 0 else if (mulF d.toNat (dadd g (s.tdiv V)).toNat).2 = 0 then (4294967296 - d).tdiv V + ((mulF d.toNat (dadd g (s.tdiv V)).toNat).1 : Int) else 0
theorem dadd_rg (a b : Int) : 0 ≤ dadd a b ∧ dadd a b ≤ 4611686018427387904 := by
  have h1 := dist_bounds a
  have h2 := dist_bounds b
  unfold dadd
  split <;> omega
theorem mulF_b (a b : Nat) : (mulF a b).1 ≤ 4611686018427387904 := by unfold mulF; split <;> simp; omega
set_option maxRecDepth 100000 in
set_option maxHeartbeats 8000000 in
theorem rktake_any (w : World) (V d g s : Int) (bv : V ≤ 9223372036854775807) (bg : g ≤ 9223372036854775807) (bs : s ≤ 9223372036854775807) : Calls Try.prog 87 #[.int .i64 V, .int .i64 d, .int .i64 g, .int .i64 s] w fun e w' => e = .returned (.int .i64 (takeK V d g s)) ∧ w = w' := by
  by_cases hv : V < 1
  · have HT : Hid (takeK V d g s = 0) := hide (by unfold takeK; rw [if_pos (by omega)])
    rw [HT.out]
    go_enter Try.func87, Try.ntmps87
    go_wp2
    go_ret
    exact ⟨rfl, rfl⟩
  by_cases hd : d < 0
  · have HT : Hid (takeK V d g s = 0) := hide (by unfold takeK; rw [if_pos (by omega)])
    rw [HT.out]
    go_enter Try.func87, Try.ntmps87
    go_wp2
    go_ret
    exact ⟨rfl, rfl⟩
  by_cases ho : 4294967296 < d
  · have HT : Hid (takeK V d g s = 0) := hide (by unfold takeK; rw [if_pos (by omega)])
    rw [HT.out]
    go_enter Try.func87, Try.ntmps87
    go_wp2
    go_ret
    exact ⟨rfl, rfl⟩
  by_cases hg : g < 0
  · have HT : Hid (takeK V d g s = 0) := hide (by unfold takeK; rw [if_pos (by omega)])
    rw [HT.out]
    go_enter Try.func87, Try.ntmps87
    go_wp2
    go_ret
    exact ⟨rfl, rfl⟩
  by_cases hs : s < 0
  · have HT : Hid (takeK V d g s = 0) := hide (by unfold takeK; rw [if_pos (by omega)])
    rw [HT.out]
    go_enter Try.func87, Try.ntmps87
    go_wp2
    go_ret
    exact ⟨rfl, rfl⟩
  obtain ⟨D, rfl⟩ := Int.eq_ofNat_of_zero_le (show 0 ≤ d by omega)
  have q1 := tdiv_in (a := 4294967296 - (D : Int)) (n := V) (by omega) (by omega) (by omega)
  have q2 := tdiv_in (a := s) (n := V) (by omega) bs (by omega)
  have q3 : (4294967296 - (D : Int)).tdiv V ≤ 4294967296 := by rw [Int.tdiv_eq_ediv_of_nonneg (by omega)]; exact Int.le_trans (Int.ediv_le_self _ (by omega)) (by omega)
  have h1 : shareF (4294967296 - (D : Int)) V = ((4294967296 - (D : Int)).tdiv V, 0) := by rw [shareF, if_neg (by omega)]
  have h2 : shareF s V = (s.tdiv V, 0) := by rw [shareF, if_neg (by omega)]
  obtain ⟨r, hr⟩ : ∃ z, (4294967296 - (D : Int)).tdiv V = z := ⟨_, rfl⟩
  obtain ⟨l, hl⟩ : ∃ z, s.tdiv V = z := ⟨_, rfl⟩
  rw [hr] at q1 q3 h1
  rw [hl] at q2 h2
  have q4 := dadd_rg g l
  obtain ⟨N, hN⟩ := Int.eq_ofNat_of_zero_le q4.1
  rw [hN] at q4
  obtain ⟨⟨m1, m2⟩, hm⟩ : ∃ m, mulF D N = m := ⟨_, rfl⟩
  have q5 : m1 ≤ 4611686018427387904 := by have := mulF_b D N; rw [hm] at this; exact this
  have hT : takeK V (D : Int) g s = if m2 = 0 then r + (m1 : Int) else 0 := by
    unfold takeK
    rw [if_neg (by omega), hl, hN]
    simp only [Int.toNat_natCast]
    rw [hm, hr]
  have w1 : IntKind.i64.wrap (4294967296 - (D : Int)) = 4294967296 - (D : Int) := IntWalk.i64_in _ (by omega)
  have w2 : IntKind.i64.wrap r = r := IntWalk.i64_in _ (by omega)
  have w3 : IntKind.i64.wrap l = l := IntWalk.i64_in _ (by omega)
  have w4 : IntKind.i64.wrap (r + (m1 : Int)) = r + (m1 : Int) := IntWalk.i64_in _ (by omega)
  have hV : ¬ V = 0 := by omega
  have bD : D ≤ 9223372036854775807 := by omega
  have bN : N ≤ 9223372036854775807 := by have := q4.2; omega
  have hN' : dadd g l = (N : Int) := hN
  have H1 := hide h1
  have H2 := hide h2
  have HN := hide hN'
  have HM := hide hm
  have HT := hide hT
  have BDN := hide (And.intro bD bN)
  have BG := hide (And.intro (show -9223372036854775808 ≤ g by omega) (And.intro bg (And.intro (show -9223372036854775808 ≤ l by omega) q2.2)))
  have HS0 : Hid (-9223372036854775808 ≤ 4294967296 - (D : Int) ∧ 4294967296 - (D : Int) ≤ 9223372036854775807) := hide (by omega)
  have HSs : Hid (-9223372036854775808 ≤ s ∧ s ≤ 9223372036854775807) := hide (by omega)
  clear h1 h2 hN hN' hm hT q1 q2 q3 q4 q5 bD bN
  clear hr hl
  go_enter Try.func87, Try.ntmps87
  go_wp2_with fail
  have hc := fun x : World => share_any x (4294967296 - (D : Int)) V HS0.out
  rw [H1.out] at hc
  refine (hc _).mono ?_
  clear hc
  rintro e wz ⟨rfl, rfl⟩
  go_wp2_with fail
  refine (ornone_any _ r 0).mono ?_
  rintro e wz ⟨rfl, rfl⟩
  rw [if_pos rfl]
  go_wp2_with fail
  have hc := fun x : World => share_any x s V HSs.out
  rw [H2.out] at hc
  refine (hc _).mono ?_
  clear hc
  rintro e wz ⟨rfl, rfl⟩
  go_wp2_with fail
  refine (ornone_any _ l 0).mono ?_
  rintro e wz ⟨rfl, rfl⟩
  rw [if_pos rfl]
  go_wp2_with fail
  have hc := fun x : World => add_any x g l BG.out.1 BG.out.2.1 BG.out.2.2.1 BG.out.2.2.2
  rw [HN.out] at hc
  refine (hc _).mono ?_
  clear hc
  rintro e wz ⟨rfl, rfl⟩
  go_wp2_with fail
  have hc := fun x : World => fmul_any x D N BDN.out.1 BDN.out.2
  rw [HM.out] at hc
  refine (hc _).mono ?_
  clear hc
  rintro e wz ⟨rfl, rfl⟩
  rcases Nat.eq_zero_or_pos m2 with h0 | h0
  · subst h0
    have HF : Hid (takeK V (D : Int) g s = r + (m1 : Int)) := hide (by rw [HT.out, if_pos rfl])
    go_wp2
    go_ret
    exact ⟨by rw [HF.out]; rfl, rfl⟩
  · have HF : Hid (takeK V (D : Int) g s = 0) := hide (by rw [HT.out, if_neg (by omega)])
    have h0' : ¬ (m2 : Int) = 0 := by omega
    clear h0
    go_wp2
    go_ret
    exact ⟨by rw [HF.out]; rfl, rfl⟩
set_option maxRecDepth 100000 in
set_option maxHeartbeats 8000000 in
theorem r7take_any (w : World) (V d g s : Int) (bv : V ≤ 9223372036854775807) (bg : g ≤ 9223372036854775807) (bs : s ≤ 9223372036854775807) : Calls Try.prog 36 #[.int .i64 V, .int .i64 d, .int .i64 g, .int .i64 s] w fun e w' => e = .returned (.int .i64 (takeK V d g s)) ∧ Below w.heap.size w w' := by
  by_cases hv : V < 1
  · have HT : Hid (takeK V d g s = 0) := hide (by unfold takeK; rw [if_pos (by omega)])
    rw [HT.out]
    go_enter Try.func36, Try.ntmps36
    go_wp2
    go_ret
    exact ⟨rfl, Below.refl _ _⟩
  by_cases hd : d < 0
  · have HT : Hid (takeK V d g s = 0) := hide (by unfold takeK; rw [if_pos (by omega)])
    rw [HT.out]
    go_enter Try.func36, Try.ntmps36
    go_wp2
    go_ret
    exact ⟨rfl, Below.refl _ _⟩
  by_cases ho : 4294967296 < d
  · have HT : Hid (takeK V d g s = 0) := hide (by unfold takeK; rw [if_pos (by omega)])
    rw [HT.out]
    go_enter Try.func36, Try.ntmps36
    go_wp2
    go_ret
    exact ⟨rfl, Below.refl _ _⟩
  by_cases hg : g < 0
  · have HT : Hid (takeK V d g s = 0) := hide (by unfold takeK; rw [if_pos (by omega)])
    rw [HT.out]
    go_enter Try.func36, Try.ntmps36
    go_wp2
    go_ret
    exact ⟨rfl, Below.refl _ _⟩
  by_cases hs : s < 0
  · have HT : Hid (takeK V d g s = 0) := hide (by unfold takeK; rw [if_pos (by omega)])
    rw [HT.out]
    go_enter Try.func36, Try.ntmps36
    go_wp2
    go_ret
    exact ⟨rfl, Below.refl _ _⟩
  obtain ⟨D, rfl⟩ := Int.eq_ofNat_of_zero_le (show 0 ≤ d by omega)
  have q1 := tdiv_in (a := 4294967296 - (D : Int)) (n := V) (by omega) (by omega) (by omega)
  have q2 := tdiv_in (a := s) (n := V) (by omega) bs (by omega)
  have q3 : (4294967296 - (D : Int)).tdiv V ≤ 4294967296 := by rw [Int.tdiv_eq_ediv_of_nonneg (by omega)]; exact Int.le_trans (Int.ediv_le_self _ (by omega)) (by omega)
  have h1 : shareF (4294967296 - (D : Int)) V = ((4294967296 - (D : Int)).tdiv V, 0) := by rw [shareF, if_neg (by omega)]
  have h2 : shareF s V = (s.tdiv V, 0) := by rw [shareF, if_neg (by omega)]
  obtain ⟨r, hr⟩ : ∃ z, (4294967296 - (D : Int)).tdiv V = z := ⟨_, rfl⟩
  obtain ⟨l, hl⟩ : ∃ z, s.tdiv V = z := ⟨_, rfl⟩
  rw [hr] at q1 q3 h1
  rw [hl] at q2 h2
  have q4 := dadd_rg g l
  obtain ⟨N, hN⟩ := Int.eq_ofNat_of_zero_le q4.1
  rw [hN] at q4
  obtain ⟨⟨m1, m2⟩, hm⟩ : ∃ m, mulF D N = m := ⟨_, rfl⟩
  have q5 : m1 ≤ 4611686018427387904 := by have := mulF_b D N; rw [hm] at this; exact this
  have hT : takeK V (D : Int) g s = if m2 = 0 then r + (m1 : Int) else 0 := by
    unfold takeK
    rw [if_neg (by omega), hl, hN]
    simp only [Int.toNat_natCast]
    rw [hm, hr]
  have w1 : IntKind.i64.wrap (4294967296 - (D : Int)) = 4294967296 - (D : Int) := IntWalk.i64_in _ (by omega)
  have w2 : IntKind.i64.wrap r = r := IntWalk.i64_in _ (by omega)
  have w3 : IntKind.i64.wrap l = l := IntWalk.i64_in _ (by omega)
  have w4 : IntKind.i64.wrap (r + (m1 : Int)) = r + (m1 : Int) := IntWalk.i64_in _ (by omega)
  have hV : ¬ V = 0 := by omega
  have bD : D ≤ 9223372036854775807 := by omega
  have bN : N ≤ 9223372036854775807 := by have := q4.2; omega
  have hN' : dadd g l = (N : Int) := hN
  have H1 := hide h1
  have H2 := hide h2
  have HN := hide hN'
  have HM := hide hm
  have HT := hide hT
  have BDN := hide (And.intro bD bN)
  have BG := hide (And.intro (show -9223372036854775808 ≤ g by omega) (And.intro bg (And.intro (show -9223372036854775808 ≤ l by omega) q2.2)))
  have HS0 : Hid (-9223372036854775808 ≤ 4294967296 - (D : Int) ∧ 4294967296 - (D : Int) ≤ 9223372036854775807) := hide (by omega)
  have HSs : Hid (-9223372036854775808 ≤ s ∧ s ≤ 9223372036854775807) := hide (by omega)
  clear h1 h2 hN hN' hm hT q1 q2 q3 q4 q5 bD bN
  have z1 : IntKind.i64.wrap (s.tdiv V) = l := by rw [hl]; exact w3
  have z2 : IntKind.i64.wrap ((4294967296 - (D : Int)).tdiv V) = r := by rw [hr]; exact w2
  clear hr hl
  go_enter Try.func36, Try.ntmps36
  go_wp2_with fail
  have hc := fun x : World => radd_any x g l
  rw [HN.out] at hc
  refine (hc _).mono ?_
  clear hc
  rintro e wz ⟨rfl, rfl⟩
  go_wp2_with fail
  have hc := fun x : World => rmul_any x D N BDN.out.1 BDN.out.2
  rw [HM.out] at hc
  refine (hc _).mono ?_
  clear hc
  rintro e wz ⟨rfl, hb⟩
  have HB := hide hb
  clear hb
  rcases Nat.eq_zero_or_pos m2 with h0 | h0
  · subst h0
    have HF : Hid (takeK V (D : Int) g s = r + (m1 : Int)) := hide (by rw [HT.out, if_pos rfl])
    go_wp2
    go_ret
    exact ⟨by rw [HF.out]; rfl, HB.out⟩
  · have HF : Hid (takeK V (D : Int) g s = 0) := hide (by rw [HT.out, if_neg (by omega)])
    have h0' : ¬ (m2 : Int) = 0 := by omega
    clear h0
    go_wp2
    go_ret
    exact ⟨by rw [HF.out]; rfl, HB.out⟩
end Go.Proofs.Ytihlhkbdgbkafaa
