/- The walk of the statement FieldsCut. -/
import Derived.Test.YtbmaiiflbdggnaaFrx
import Derived.Deep.DeepCutAuto
namespace Go.Proofs.Ytbmaiiflbdggnaa
open Go.RowKit
set_option linter.unusedVariables false
set_option linter.unusedSimpArgs false

set_option maxRecDepth 100000 in
set_option maxHeartbeats 8000000 in
theorem fieldsCut_walk (w : World) (A : Option Addr) (xs : List It) (c : Nat) (hI : Its w w.heap.size A xs) (hc : xs.length ≤ c) (hc2 : c ≤ 9223372036854775807) (cut : Int) (hcut1 : -9223372036854775808 ≤ cut) (hcut2 : cut ≤ 9223372036854775807) :
    Calls Try.prog 7 #[.slice A xs.length c, .int .i64 cut] w fun e w' => e = .returned (.bool true) ∧ Below w.heap.size w w' := by
  obtain ⟨L, hL⟩ : ∃ L, xs.length = L := ⟨_, rfl⟩
  rw [hL] at hc ⊢
  have HL := hide hL
  have HI := hide hI
  clear hL hI
  go_enter Try.func7, Try.ntmps7
  go_wp2_with fail
  refine (few_any _ A xs L c 40 HL.out HI.out (by omega) (by decide)).mono ?_
  rintro e w1 ⟨⟨r, rfl, hr⟩, rfl⟩
  rcases r with _ | _
  · clear hr
    go_wp2_with fail
    refine (works_any _).mono ?_
    rintro e w2 ⟨rfl, hb⟩
    go_wp2
    go_ret
    exact ⟨rfl, hb⟩
  · obtain ⟨hL60, hT⟩ := hr rfl
    clear hr
    have W0 := hide (Wo.new w1)
    have hb0 : Below w1.heap.size w1 (w1.alloc (.cells #[.pointer none, .int .i64 0] 28)) := (Below.refl _ _).alloc (Nat.le_refl _) _
    go_wp2
    go_loopw [6] (fun vi wr => ∃ i : Nat, i ≤ L ∧ vi = .int .i64 i ∧ Wo wr w1.heap.size w1.heap.size (flat (xs.take i)) ∧ Below w1.heap.size w1 wr) (fun vi _ => L - (intOf vi).toNat)
    case atStart => exact ⟨0, by omega, rfl, W0.out, hb0⟩
    case round =>
      obtain ⟨i, hi, rfl, hW, hb⟩ := hrel
      clear hb0 W0
      have hs := hb.size
      by_cases hlt : i < L
      · have hil : i < xs.length := by rw [HL.out]; exact hlt
        obtain ⟨x, hx⟩ : ∃ x, xs[i]? = some x := ⟨_, List.getElem?_eq_getElem hil⟩
        obtain ⟨b, off, rfl, _, c0, c1, c2, hR, hok⟩ := Its.get (HI.out.below hb (Nat.le_refl _)) hx
        have hfl := flat_len (xs.take i)
        have htl := total_take_le xs i
        have hxl := item_le hx
        have HF := hide (flat_snoc hx)
        have HR := hide (hR.more hs)
        have HOK := hide hok
        have hI0 : (0 : Int) ≤ (i : Int) := by omega
        have hI1 : (i : Int) < (L : Int) := by omega
        clear hx hR hok hil
        go_wp2_with fail
        refine (put_it _ w1.heap.size _ x hW (by omega) HR.out HOK.out (by omega)).mono ?_
        rintro e w2 ⟨rfl, hW2, hb2⟩
        rw [← HF.out] at hW2
        have hb2' := hb.trans (hb2.below (Nat.le_refl _) hs)
        clear hW hb hb2 c0 c1 c2
        go_wp2
        go_roundw
        case rel => exact ⟨i + 1, by omega, by go_num, hW2, hb2'⟩
        case measure => simp [intOf]; omega
      · obtain rfl : i = L := by omega
        rw [← HL.out, List.take_length] at hW
        have hfl := flat_len xs
        go_wp2_with fail
        refine (out_any _ w1.heap.size _ hW (by omega)).mono ?_
        rintro e w2 ⟨rfl, hg2, hb2⟩
        have hb2' := hb.trans (hb2.mono hs)
        have hs2 := hb2'.size
        clear hW hb2 hb
        obtain ⟨N, hN⟩ : ∃ N, (flat xs).length = N := ⟨_, rfl⟩
        have HN := hide hN
        have HR := hide (Rd.of_block hg2)
        have hG2 := lt_of_block hg2
        rw [hN] at hfl ⊢
        clear hN hg2
        obtain ⟨G, hG⟩ : ∃ G, wr.heap.size = G := ⟨_, rfl⟩
        rw [hG] at HR hG2 hs ⊢
        have hr1 := Int.tmod_lt_of_pos cut (show (0 : Int) < (N : Int) + 1 by omega)
        have hr2 : -((N : Int) + 1) < cut.tmod ((N : Int) + 1) := by
          have := Int.tmod_lt_of_pos (-cut) (show (0 : Int) < (N : Int) + 1 by omega)
          rw [Int.neg_tmod] at this
          omega
        obtain ⟨q, hq⟩ : ∃ q, cut.tmod ((N : Int) + 1) = q := ⟨_, rfl⟩
        rw [hq] at hr1 hr2
        have hr3 := Int.tmod_lt_of_pos (q + N + 1) (show (0 : Int) < (N : Int) + 1 by omega)
        have hr4 := Int.tmod_nonneg ((N : Int) + 1) (show 0 ≤ q + N + 1 by omega)
        obtain ⟨n, hn⟩ := Int.eq_ofNat_of_zero_le hr4
        rw [hn] at hr3
        have hw1 : IntKind.i64.wrap ((N : Int) + 1) = (N : Int) + 1 := IntWalk.i64_in _ (by omega)
        have hw2 : IntKind.i64.wrap (q + (N : Int)) = q + (N : Int) := IntWalk.i64_in _ (by omega)
        have hw3 : IntKind.i64.wrap (q + (N : Int) + 1) = q + (N : Int) + 1 := IntWalk.i64_in _ (by omega)
        go_upto_if 36 with fail
        go_cut [8] (fun s8 wc => (∃ n : Nat, n ≤ N ∧ s8 = .int .i64 n) ∧ wc = w2)
        case first =>
          go_wp2
          all_goals go_meet
          case rel => exact ⟨⟨n, by omega, rfl⟩, rfl⟩
          case rel => exact ⟨⟨0, by omega, rfl⟩, rfl⟩
        case rest =>
          clear hr1 hr2 hr3 hr4 hw1 hw2 hw3 hq hn
          obtain ⟨⟨n, hnN, rfl⟩, rfl⟩ := hcut
          have HB := hide (Eq.refl ((flat xs).take n))
          have hbn : ((flat xs).take n).length = n := by rw [List.length_take, HN.out]; omega
          have hRn : Rd wc wc.heap.size (some ⟨G, 0, none⟩) (u8s ((flat xs).take n)) := by
            have h := HR.out.take n
            rw [u8s_take] at h
            exact h
          go_wp2_with fail
          refine (open_lo _ _ _ n _ hbn hRn (by omega)).mono ?_
          rintro e w3 ⟨⟨r, rfl, hRl⟩, hb3⟩
          have hr3 := hRl.rr
          have hrg := hRl.le
          have hb3' := hb2'.trans (hb3.mono hs2)
          have hs3 := hb3'.size
          obtain ⟨bs, hbs⟩ : ∃ bs, (flat xs).take n = bs := ⟨_, rfl⟩
          have HBS := hide hbs
          rw [hbs] at hbn hr3
          clear HB hbs hRn hRl HR hb3
          go_wp2
          go_loopw [10, 11, 12, 13] (fun va vi vx vg wq => ∃ j : Nat, j ≤ i ∧ vi = .int .i64 j ∧ va = .int .i64 ((flat (xs.take j)).length : Nat) ∧ (flat (xs.take j)).length ≤ n ∧ Below w1.heap.size w1 wq ∧ Rr 65 wq r bs ((flat (xs.take j)).length, false)) (fun _ vi _ _ _ => i - (intOf vi).toNat)
          case atStart => exact ⟨0, by omega, rfl, by simp [flat], by simp [flat], hb3', by simpa [flat] using hr3⟩
          case round =>
            obtain ⟨j, hj, rfl, rfl, hEn, hbq, hrq⟩ := hrel
            clear hb3' hr3 hb2'
            have hsq := hbq.size
            by_cases hlt2 : j < i
            · have hjl : j < xs.length := by rw [HL.out]; exact hlt2
              obtain ⟨x, hx⟩ : ∃ x, xs[j]? = some x := ⟨_, List.getElem?_eq_getElem hjl⟩
              obtain ⟨b, off, rfl, hbo, c0, c1, c2, hR, hok⟩ := Its.get (HI.out.below hbq (Nat.le_refl _)) hx
              obtain ⟨hp1, hp2⟩ := flat_part hx
              have HF := hide (flat_snoc hx)
              have hfl' := congrArg List.length HF.out
              rw [List.length_append] at hfl'
              rw [HN.out] at hp2
              have HOK := hide hok
              have hI0 : (0 : Int) ≤ (j : Int) := by omega
              have hI1 : (j : Int) < (i : Int) := by omega
              obtain ⟨M, hM⟩ : ∃ M, x.bytes.length = M := ⟨_, rfl⟩
              obtain ⟨E, hE⟩ : ∃ E, (flat (xs.take j)).length = E := ⟨_, rfl⟩
              rw [hE] at hEn hrq hp1 hp2 hfl' ⊢
              rw [hM] at hp1 hp2 hfl'
              have HM := hide hM
              have HE := hide hE
              have HF' := hide hfl'
              have HX := hide hx
              clear hfl' hE hx hok hjl
              have hA3 : IntKind.i64.wrap ((E : Int) + (M : Int)) = (E : Int) + (M : Int) := IntWalk.i64_in _ (by omega)
              go_wp2_with fail
              refine (bytes_any _ x (hR.more hsq) HOK.out).mono ?_
              rintro e w4 ⟨⟨A', c', rfl, hR4, hc4, hA4⟩, hb4⟩
              have hN4 : Rn w4 r A' (u8s x.bytes) := bytes_apart hb4 hR (by have := hs2; omega) hrq.lt hR4 hA4
              have d0 := (hb4.cell (p := ⟨b, off + j * 3, none⟩) (by show b < _; omega)).trans c0
              have d1 := (hb4.cell (p := ⟨b, off + j * 3 + 1, none⟩) (by show b < _; omega)).trans c1
              have d2 := (hb4.cell (p := ⟨b, off + j * 3 + 2, none⟩) (by show b < _; omega)).trans c2
              have hrq4 := hrq.below hb4
              have hb4' := hbq.trans (hb4.mono hsq)
              have hs4 := hb4'.size
              rw [hM] at hc4 ⊢
              have HR4 := hide hN4
              clear c0 c1 c2 hR hR4 hN4 hA4 hrq hb4 hbq hM
              go_wp2_with fail
              refine (read_any _ r bs _ x hrq4 HOK.out).mono ?_
              rintro e w5 ⟨⟨A5, c5, rfl, hR5, hc5⟩, hr5, hb5⟩
              have hb5' := hb4'.trans (hb5.below (by omega) hs4)
              have hs5 := hb5'.size
              have hsz : x.size = M := by rw [← It.bytes_len]; exact HM.out
              rw [hsz] at hR5 hc5 hr5 ⊢
              by_cases hfit : E + M ≤ n
              · have hnx : nx bs (E, false) (M : Int) = (x.bytes, (E + M, false)) := by
                  have hng : ¬ ((E, false).2 = true ∨ (M : Int) < 0 ∨ (bs.length : Int) - (((E, false) : Nat × Bool).1 : Int) < (M : Int)) := by
                    rw [hbn]
                    rintro (h | h | h)
                    · cases h
                    · omega
                    · dsimp only at h; omega
                  rw [nx, if_neg hng]
                  dsimp only
                  rw [Int.toNat_natCast, ← HBS.out, List.drop_take, List.take_take, Nat.min_eq_left (by omega), hp1]
                rw [hnx] at hR5 hc5 hr5 ⊢
                dsimp only at hR5 hc5 hr5 ⊢
                rw [It.got_bytes x _ (It.bytes_len x)] at hR5 hc5 ⊢
                rw [HM.out] at hc5 ⊢
                have hR4' := (HR4.out.besides hb5).rd
                have k1 := run_string_of (P := Try.prog) w5 31 9 5 A5 c5 _ x.bytes Try.underlying31 Try.underlying5 Try.underlying9 hR5
                have k2 := run_string_of (P := Try.prog) w5 31 9 5 A' c' _ x.bytes Try.underlying31 Try.underlying5 Try.underlying9 hR4'
                rw [HM.out] at k1 k2
                have HR5 := hide hr5
                have hB1 : decide ((n : Int) < (E : Int) + (M : Int)) = false := decide_eq_false (by omega)
                have hB2 : IntKind.i64.wrap ((n : Int) - ((E : Int) + (M : Int))) = (n : Int) - ((E : Int) + (M : Int)) := IntWalk.i64_in _ (by omega)
                clear hR5 hr5 hR4' HR4 hrq4 hb5 hnx d0 d1 d2 hb4'
                go_wp2_with fail
                refine (bad_any _ r bs _ HR5.out).mono ?_
                rintro e w6 ⟨rfl, rfl⟩
                go_wp2_with fail
                refine (left_any _ r bs _ HR5.out).mono ?_
                rintro e w7 ⟨rfl, hb7⟩
                rw [hbn, show ((n : Int) - (((E + M, false) : Nat × Bool).1 : Int)) = (n : Int) - ((E : Int) + (M : Int)) by dsimp only; omega]
                have HR7 := hide (HR5.out.below hb7)
                have hb7' := hb5'.trans (hb7.mono hs5)
                clear HR5 hb5' hb7 k1 k2
                go_wp2
                go_roundw
                case rel => exact ⟨j + 1, by omega, by go_num, by rw [HF'.out]; go_num, by rw [HF'.out]; exact hfit, hb7', by rw [HF'.out]; exact HR7.out⟩
                case measure => simp [intOf]; omega
              · have hnx : nx bs (E, false) (M : Int) = ([], (bs.length, true)) := by
                  rw [nx, if_pos (.inr (.inr (by rw [hbn]; dsimp only; omega)))]
                rw [hnx] at hR5 hc5 hr5 ⊢
                dsimp only at hR5 hc5 hr5 ⊢
                rw [hbn] at hr5
                obtain ⟨hg1, hg2, hg3⟩ := x.got_nil
                have hB1 : decide ((n : Int) < (E : Int) + (M : Int)) = true := decide_eq_true (by omega)
                have HR5 := hide hr5
                have HRd := hide hR5
                have HG1 := hide hg1
                have hkk := HOK.out.1
                have d5 := (hb5.cell (p := ⟨b, off + j * 3, none⟩) (by show b < _; omega) (by show b ≠ r; omega)).trans d0
                clear hR5 hr5 HR4 hrq4 hb5 hnx hb4' hg1 d0 d1 d2
                have hnx8 : nx bs (n, true) 8 = ([], (bs.length, true)) := by rw [nx, if_pos (.inl rfl)]
                have HN8 := hide hnx8
                clear hnx8
                go_wp2_with fail
                refine (bad_any _ r bs _ HR5.out).mono ?_
                rintro e w6 ⟨rfl, rfl⟩
                go_wp2_with fail
                refine (left_any _ r bs _ HR5.out).mono ?_
                rintro e w7 ⟨rfl, hb7⟩
                rw [hbn, show ((n : Int) - (((n, true) : Nat × Bool).1 : Int)) = 0 by dsimp only; omega]
                have HR7 := hide (HR5.out.below hb7)
                have HRd7 := hide ((HRd.out.below' hb7 (Nat.le_refl _)).more hb7.size)
                have d7 := (hb7.cell (p := ⟨b, off + j * 3, none⟩) (by show b < _; omega)).trans d5
                have hb7' := hb5'.trans (hb7.mono hs5)
                have hs7 := hb7'.size
                clear HR5 HRd hb5' hb7 d5
                by_cases hk4 : x.k % 5 = 4
                · have hk4' : (x.k : Int) % 5 = 4 := by omega
                  rw [hg2 hk4]
                  clear HRd7 hg2 hg3
                  simp only [List.length_nil]
                  go_wp2_with fail
                  refine (get64 _ r bs _ HR7.out).mono ?_
                  rintro e w8 ⟨rfl, hr8, hb8⟩
                  rw [HN8.out, hbn] at hr8
                  rw [HN8.out]
                  have HR8 := hide hr8
                  have hb8' := hb7'.trans (hb8.below (by omega) hs7)
                  clear hr8 hb8 hb7' d7
                  rw [show num (([], (bs.length, true)) : List UInt8 × (Nat × Bool)).1 = 0 from rfl]
                  go_wp2_with fail
                  refine (bad_any _ r bs _ HR8.out).mono ?_
                  rintro e w9 ⟨rfl, rfl⟩
                  go_wp2_with fail
                  refine (works_any _).mono ?_
                  rintro e w10 ⟨rfl, hb10⟩
                  have hb11 := hb8'.trans (hb10.mono hb8'.size)
                  clear hb10 hb8'
                  go_wp2
                  go_ret
                  exact ⟨rfl, hb11⟩
                · have hk4' : ¬ (x.k : Int) % 5 = 4 := by omega
                  have hkl := hg3 hk4
                  have hk8 : 2 ^ (x.k % 5) ≤ 8 := by
                    have : x.k % 5 = 0 ∨ x.k % 5 = 1 ∨ x.k % 5 = 2 ∨ x.k % 5 = 3 := by omega
                    rcases this with h | h | h | h <;> rw [h] <;> decide
                  rw [hkl] at hc5 ⊢
                  obtain ⟨Z, hZ⟩ : ∃ Z, 2 ^ (x.k % 5) = Z := ⟨_, rfl⟩
                  rw [hZ] at hc5 hkl hk8 ⊢
                  have HKL := hide hkl
                  clear hZ hkl hg2 hg3
                  go_wp2_with fail
                  refine (number_any _ A5 _ Z c5 HKL.out HRd7.out hk8).mono ?_
                  rintro e w7b ⟨rfl, rfl⟩
                  rw [HG1.out]
                  go_wp2_with fail
                  refine (get64 _ r bs _ HR7.out).mono ?_
                  rintro e w8 ⟨rfl, hr8, hb8⟩
                  rw [HN8.out, hbn] at hr8
                  rw [HN8.out]
                  have HR8 := hide hr8
                  have hb8' := hb7'.trans (hb8.below (by omega) hs7)
                  clear hr8 hb8 hb7' d7
                  rw [show num (([], (bs.length, true)) : List UInt8 × (Nat × Bool)).1 = 0 from rfl]
                  go_wp2_with fail
                  refine (bad_any _ r bs _ HR8.out).mono ?_
                  rintro e w9 ⟨rfl, rfl⟩
                  go_wp2_with fail
                  refine (works_any _).mono ?_
                  rintro e w10 ⟨rfl, hb10⟩
                  have hb11 := hb8'.trans (hb10.mono hb8'.size)
                  clear hb10 hb8'
                  go_wp2
                  go_ret
                  exact ⟨rfl, hb11⟩
            · obtain rfl : j = i := by omega
              rw [← HL.out, List.take_length] at hrq
              have HRq := hide hrq
              clear hrq
              go_wp2_with fail
              refine (bad_any _ r bs _ HRq.out).mono ?_
              rintro e w6 ⟨rfl, rfl⟩
              go_wp2_with fail
              refine (works_any _).mono ?_
              rintro e w10 ⟨rfl, hb10⟩
              have hb11 := hbq.trans (hb10.mono hsq)
              clear hb10 hbq
              go_wp2
              go_ret
              exact ⟨rfl, hb11⟩
end Go.Proofs.Ytbmaiiflbdggnaa
