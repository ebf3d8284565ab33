/- The walk of the statement FieldsHalves. -/
import Derived.Test.YtbmaiiflbdggnaaFla
import Derived.Test.YtbmaiiflbdggnaaFrs
namespace Go.Proofs.Ytbmaiiflbdggnaa
open Go.RowKit
set_option linter.unusedVariables false
set_option linter.unusedSimpArgs false

set_option maxRecDepth 100000 in
set_option maxHeartbeats 4000000 in
theorem fieldsHalves_walk (w : World) (n : Int) (hn1 : 0 ≤ n) (hn2 : n ≤ 18446744073709551615) :
    Calls Try.prog 6 #[.int .u64 n] w fun e w' => e = .returned (.bool true) ∧ Below w.heap.size w w' := by
  obtain ⟨n, rfl⟩ := Int.eq_ofNat_of_zero_le hn1
  have n1 := hide (And.intro (two_new w).1 (second_new w))
  have hbw : Below w.heap.size w ((w.alloc (.cells #[.pointer none, .int .i64 0] 28)).alloc (.cells #[.pointer none, .int .i64 0] 28)) := ((Below.refl _ _).alloc (Nat.le_refl _) _).alloc (by simp) _
  go_enter Try.func6, Try.ntmps6
  go_wp2_with fail
  refine (put64 _ w.heap.size [] n (by omega) n1.out.1 (by decide)).mono ?_
  rintro e w1 ⟨rfl, V1, q1⟩
  have W1 := n1.out.2.other q1 (by omega) (by omega)
  have hb1 := hbw.trans (q1.below (Nat.le_refl _) (by simp; omega))
  have hs1 := hb1.size
  rw [List.nil_append] at V1
  have hw1 := V1.lt
  clear n1 q1 hbw
  go_wp2_with fail
  refine (out_len _ w.heap.size _ 8 (be_len _ _) V1 (by decide)).mono ?_
  rintro e w2 ⟨rfl, g2, b2⟩
  have V2 := V1.below b2
  have hb2 := hb1.trans (b2.mono hs1)
  have hs2 := hb2.size
  go_wp2_with fail
  refine (open_lo _ _ _ 8 _ (be_len _ _) (Rd.of_block g2) (by rw [be_len]; decide)).mono ?_
  rintro e w3 ⟨⟨r1, rfl, R1⟩, b3⟩
  have V3 := V2.below b3
  have hb3 := hb2.trans (b3.mono hs2)
  have hs3 := hb3.size
  have l3 := b3.size
  have l2 := b2.size
  clear V1 V2 g2 hb1 hb2
  go_wp2_with fail
  refine (out_len _ w.heap.size _ 8 (be_len _ _) V3 (by decide)).mono ?_
  rintro e w4 ⟨rfl, g4, b4⟩
  have V4 := V3.below b4
  have hb4 := hb3.trans (b4.mono hs3)
  have hs4 := hb4.size
  have R1' := R1.below b4
  have k1 := R1.rr.lt
  go_wp2_with fail
  refine (open_lo _ _ _ 8 _ (be_len _ _) (Rd.of_block g4) (by rw [be_len]; decide)).mono ?_
  rintro e w5 ⟨⟨r2, rfl, R2⟩, b5⟩
  have V5 := V4.below b5
  have hb5 := hb4.trans (b5.mono hs4)
  have hs5 := hb5.size
  have R1'' := R1'.below b5
  clear V3 V4 g4 hb3 hb4 R1 R1'
  have l5 := b5.size
  have l4 := b4.size
  go_wp2_with fail
  refine (out_len _ w.heap.size _ 8 (be_len _ _) V5 (by decide)).mono ?_
  rintro e w6 ⟨rfl, g6, b6⟩
  have hb6 := hb5.trans (b6.mono hs5)
  have hs6 := hb6.size
  have R1a := R1''.below b6
  have R2a := R2.below b6
  have k2 := R2.rr.lt
  go_wp2_with fail
  refine (open_lo _ _ _ 8 _ (be_len _ _) (Rd.of_block g6) (by rw [be_len]; decide)).mono ?_
  rintro e w7 ⟨⟨r3, rfl, R3⟩, b7⟩
  have hb7 := hb6.trans (b7.mono hs6)
  have hs7 := hb7.size
  have R1b := R1a.below b7
  have R2b := R2a.below b7
  have l7 := b7.size
  have l6 := b6.size
  have r1g := R1b.rr.lt
  have r1h := R1b.le
  have r2g := R2b.rr.lt
  have r3g := R3.rr.lt
  have r2h := R2b.le
  have r3h := R3.le
  have d1 : w.heap.size + 1 < r1 := by omega
  have d2 : w.heap.size + 1 < r2 := by omega
  have d3 : w.heap.size + 1 < r3 := by omega
  have W7 := W1.below (((((b2.trans (b3.mono l2)).trans (b4.mono (Nat.le_trans l2 l3))).trans (b5.mono (Nat.le_trans (Nat.le_trans l2 l3) l4))).trans (b6.mono (by omega))).trans (b7.mono (by omega)))
  clear V5 g6 hb5 hb6 R1'' R1a R2 R2a W1 b2 b3 b4 b5 b6 b7
  go_wp2_with fail
  refine (get32 _ r1 _ _ R1b.rr).mono ?_
  rintro e w8 ⟨rfl, R1c, q8⟩
  rw [nx_be 8 n 0 4 4 4 rfl rfl] at R1c ⊢
  dsimp only at R1c ⊢
  rw [num_be]
  have hb8 := hb7.trans (q8.below (by omega) hs7)
  have hs8 := hb8.size
  have m8 := q8.size
  have R2c := R2b.other q8 (by omega)
  have R3c := R3.other q8 (by omega)
  have W8 := (W7.raise (lo' := w7.heap.size - 1) (by omega) (by omega)).other q8 (by omega) (by omega)
  obtain ⟨h, hh⟩ : ∃ h, n / 256 ^ 4 % 256 ^ 4 = h := ⟨_, rfl⟩
  obtain ⟨l, hl⟩ : ∃ l, n % 256 ^ 4 = l := ⟨_, rfl⟩
  have hnl : h * 4294967296 + l = n := by omega
  have hh1 : h < 4294967296 := by omega
  have hl1 : l < 4294967296 := by omega
  have HH := hide hh
  have HL := hide hl
  rw [hh]
  clear hh hl R2b R3 q8 hb7 R1b W7
  go_wp2_with fail
  refine (get32 _ r1 _ _ R1c).mono ?_
  rintro e w9 ⟨rfl, R1d, q9⟩
  rw [nx_be 8 n 4 4 0 4 rfl rfl] at R1d ⊢
  dsimp only at R1d ⊢
  rw [num_be, Nat.pow_zero, Nat.div_one, HL.out]
  have hb9 := hb8.trans (q9.below (by omega) hs8)
  have hs9 := hb9.size
  have m9 := q9.size
  have R2d := R2c.other q9 (by omega)
  have R3d := R3c.other q9 (by omega)
  have W9 := W8.other q9 (by omega) (by omega)
  have e1 : bits .or .u64 ((h : Int) * 4294967296) (l : Int) = (n : Int) := by
    have e := bits_or64 (a := h) (b := l) (k := 32) (by decide) (by omega) (by omega)
    rw [show ((h * 2 ^ 32 : Nat) : Int) = (h : Int) * 4294967296 by omega] at e
    rw [e]; omega
  clear R1c R2c R3c W8 q9 hb8
  have R1e : Rr 65 w9 r1 (be 8 n) (8, false) := R1d
  have kl : (((be 8 n).length : Nat) : Int) - (((8, false) : Nat × Bool).1 : Int) = 0 := by rw [be_len]; rfl
  clear R1d
  go_wp2_with fail
  refine (left_any _ r1 _ _ R1e).mono ?_
  rintro e w10 ⟨rfl, b10⟩
  rw [kl]
  have R2e := R2d.below b10
  have R3e := R3d.below b10
  have W10 := W9.below b10
  have hb10 := hb9.trans (b10.mono hs9)
  have m10 := b10.size
  clear R1e R2d R3d W9 b10 kl hb9 e1 hnl hh1 hl1 HH HL hs1 hs2 hs3 hs4 hs5 hs6 hs7 hs8 l2 l3 l4 l5
  go_wp2
  go_loopw [8, 9] (fun va vi wr => ∃ i : Nat, i ≤ 4 ∧ vi = .int .i64 i ∧ va = .int .u64 (n / 256 ^ (8 - 2 * i) : Nat) ∧ Below w.heap.size w wr ∧ Rr 65 wr r2 (be 8 n) (2 * i, false) ∧ Rl wr r3 w6.heap.size (be 8 n) (0, false) ∧ Wr wr (w.heap.size + 1) (w7.heap.size - 1) []) (fun _ vi _ => 4 - (intOf vi).toNat)
  case atStart => exact ⟨0, by omega, rfl, by rw [Nat.div_eq_of_lt (by omega)]; rfl, hb10, R2e.rr, R3e, W10⟩
  case round =>
    obtain ⟨i, hi, rfl, rfl, hb, hR2, hR3, hW⟩ := hrel
    have hs := hb.size
    clear hb10 R2e R3e W10
    by_cases hlt : i < 4
    · obtain ⟨ha1, ha2⟩ := half16 n i (by omega) hlt
      obtain ⟨a, ha⟩ : ∃ a, n / 256 ^ (8 - 2 * i) = a := ⟨_, rfl⟩
      obtain ⟨b, hbb⟩ : ∃ b, n / 256 ^ (6 - 2 * i) % 256 ^ 2 = b := ⟨_, rfl⟩
      rw [ha] at ha1 ha2 ⊢
      rw [hbb] at ha2
      have hb1 : b < 65536 := by omega
      have e1 : bits .or .u64 ((a : Int) * 65536) (b : Int) = ((n / 256 ^ (8 - 2 * (i + 1)) : Nat) : Int) := by
        have e := bits_or64 (a := a) (b := b) (k := 16) (by decide) (by omega) (by omega)
        rw [show ((a * 2 ^ 16 : Nat) : Int) = (a : Int) * 65536 by omega] at e
        rw [e, ← ha2]
      obtain ⟨c, hc⟩ : ∃ c, n / 256 ^ (8 - 2 * (i + 1)) = c := ⟨_, rfl⟩
      rw [hc] at e1
      have HC := hide hc
      have HB := hide hbb
      clear ha ha2 hc hbb
      go_wp2_with fail
      refine (get16 _ r2 _ _ hR2).mono ?_
      rintro e wa ⟨rfl, R2f, qa⟩
      rw [nx_be 8 n (2 * i) 2 (6 - 2 * i) 2 rfl (by omega)] at R2f ⊢
      dsimp only at R2f ⊢
      rw [num_be, HB.out]
      have hba := hb.trans (qa.below (by omega) hs)
      have R3f := hR3.other qa (by omega)
      have Wf := hW.other qa (by omega) (by omega)
      clear hb hR2 hR3 hW qa
      go_wp2
      go_roundw
      case rel => exact ⟨i + 1, by omega, by go_num, by rw [HC.out], hba, by rw [show 2 * (i + 1) = 2 * i + 2 by omega]; exact R2f, R3f, Wf⟩
      case measure => simp [intOf]; omega
    · obtain rfl : i = 4 := by omega
      rw [show n / 256 ^ (8 - 2 * 4) = n by simp]
      go_wp2
      go_loopw [10, 11] (fun va vi wr => ∃ i : Nat, i ≤ 8 ∧ vi = .int .i64 i ∧ va = .int .u64 (n / 256 ^ (8 - i) : Nat) ∧ Below w.heap.size w wr ∧ Rr 65 wr r3 (be 8 n) (i, false) ∧ Wr wr (w.heap.size + 1) (w7.heap.size - 1) []) (fun _ vi _ => 8 - (intOf vi).toNat)
      case atStart => exact ⟨0, by omega, rfl, by rw [Nat.div_eq_of_lt (by omega)]; rfl, hb, hR3.rr, hW⟩
      case round =>
        obtain ⟨i, hi, rfl, rfl, hb, hR3, hW⟩ := hrel
        have hs := hb.size
        by_cases hlt : i < 8
        · obtain ⟨ha1, ha2⟩ := half8 n i (by omega) hlt
          obtain ⟨a, ha⟩ : ∃ a, n / 256 ^ (8 - i) = a := ⟨_, rfl⟩
          obtain ⟨b, hbb⟩ : ∃ b, n / 256 ^ (7 - i) % 256 ^ 1 = b := ⟨_, rfl⟩
          rw [ha] at ha1 ha2 ⊢
          rw [hbb] at ha2
          have hb1 : b < 256 := by omega
          have e1 : bits .or .u64 ((a : Int) * 256) (b : Int) = ((n / 256 ^ (8 - (i + 1)) : Nat) : Int) := by
            have e := bits_or64 (a := a) (b := b) (k := 8) (by decide) (by omega) (by omega)
            rw [show ((a * 2 ^ 8 : Nat) : Int) = (a : Int) * 256 by omega] at e
            rw [e, ← ha2]
          obtain ⟨c, hc⟩ : ∃ c, n / 256 ^ (8 - (i + 1)) = c := ⟨_, rfl⟩
          rw [hc] at e1
          have HC := hide hc
          have HB := hide hbb
          clear ha ha2 hc hbb
          go_wp2_with fail
          refine (get8 _ r3 _ _ hR3).mono ?_
          rintro e wa ⟨rfl, R3f, qa⟩
          rw [nx_be 8 n i 1 (7 - i) 1 rfl (by omega)] at R3f ⊢
          dsimp only at R3f ⊢
          rw [num_be, HB.out]
          have hba := hb.trans (qa.below (by omega) hs)
          have Wf := hW.other qa (by omega) (by omega)
          clear hb hR3 hW qa
          go_wp2
          go_roundw
          case rel => exact ⟨i + 1, by omega, by go_num, by rw [HC.out], hba, R3f, Wf⟩
          case measure => simp [intOf]; omega
        · obtain rfl : i = 8 := by omega
          rw [show n / 256 ^ (8 - 8) = n by simp]
          go_wp2_with fail
          have Wa : Wo wr (w.heap.size + 1) (w7.heap.size - 1) [] := ⟨[], rfl, hW⟩
          clear hW hR3 hR2
          refine (put32i _ (w.heap.size + 1) [] _ (n / 4294967296) (by omega) (by omega) Wa (by decide)).mono ?_
          rintro e x1 ⟨rfl, Wb, q1⟩
          have hb1 := hb.trans (q1.below (by omega) hs)
          have hs1 := hb1.size
          clear Wa q1 hb
          go_wp2_with fail
          refine (put16i _ (w.heap.size + 1) _ _ (n / 65536 % 65536) (by first | omega | (rw [IntKind.wrap_u16]; omega)) (by omega) Wb (by simp [be_len])).mono ?_
          rintro e x2 ⟨rfl, Wc, q2⟩
          have hb2 := hb1.trans (q2.below (by omega) hs1)
          have hs2 := hb2.size
          clear Wb q2 hb1
          go_wp2_with fail
          refine (put8i _ (w.heap.size + 1) _ _ (n / 256 % 256) (by first | omega | (rw [IntKind.wrap_u8]; omega)) (by omega) Wc (by simp [be_len])).mono ?_
          rintro e x3 ⟨rfl, Wd, q3⟩
          have hb3 := hb2.trans (q3.below (by omega) hs2)
          have hs3 := hb3.size
          clear Wc q3 hb2
          go_wp2_with fail
          refine (put8i _ (w.heap.size + 1) _ _ (n % 256) (by first | omega | (rw [IntKind.wrap_u8]; omega)) (by omega) Wd (by simp [be_len])).mono ?_
          rintro e x4 ⟨rfl, We, q4⟩
          have hb4 := hb3.trans (q4.below (by omega) hs3)
          have hs4 := hb4.size
          rw [be_halves] at We
          clear Wd q4 hb3
          go_wp2_with fail
          refine (out_len _ (w.heap.size + 1) _ 8 (be_len _ _) We (by decide)).mono ?_
          rintro e x5 ⟨rfl, g5, b5⟩
          have hb5 := hb4.trans (b5.mono hs4)
          have hs5 := hb5.size
          go_wp2_with fail
          refine (open_lo _ _ _ 8 _ (be_len _ _) (Rd.of_block g5) (by rw [be_len]; decide)).mono ?_
          rintro e x6 ⟨⟨r4, rfl, R4⟩, b6⟩
          have hb6 := hb5.trans (b6.mono hs5)
          have hs6 := hb6.size
          have d4 := R4.le
          clear We g5 b5 b6 hb5 hb4
          go_wp2_with fail
          refine (get64 _ r4 _ _ R4.rr).mono ?_
          rintro e x7 ⟨rfl, R5, q7⟩
          rw [nx_be 8 n 0 8 0 8 rfl rfl]
          dsimp only
          rw [num_be, Nat.pow_zero, Nat.div_one, Nat.mod_eq_of_lt (by omega)]
          have hb7 := hb6.trans (q7.below (by omega) hs6)
          clear R5 q7 hb6 R4
          go_wp2_with fail
          refine (works_any _).mono ?_
          rintro e x8 ⟨rfl, b8⟩
          have hb8 := hb7.trans (b8.mono hb7.size)
          clear b8 hb7
          go_wp2
          go_ret
          exact ⟨rfl, hb8⟩
end Go.Proofs.Ytbmaiiflbdggnaa
