/- A row is sorted in place; those of one number keep their order. (printed by gen/sst.py) -/
import Derived.Test.YtihdpfjonkagaaaEsm
import Derived.Test.YtihdpfjonkagaaaEsi
import Derived.Test.YtihdpfjonkagaaaSty
import Derived.Deep.DeepCutAuto
import Derived.Lib.Hide
import Derived.WalkSpells
import Derived.WalkMore
import Derived.IntWalk
namespace Go.Proofs.Ytihdpfjonkagaaa
open Go.RowKit
set_option linter.unusedVariables false
set_option linter.unusedSimpArgs false
set_option maxRecDepth 100000 in
set_option maxHeartbeats 64000000 in
theorem stab_any (κ : Ed → Int) (v0 w : World) (B g n cap : Nat) (d : List Ed) (hS : SR v0 B g n cap d w) (hn : n ≤ 1000000) :
    Calls Try.prog 49 #[.slice (some ⟨g, 0, none⟩) n cap, .int .i64 (n : Int), .func (.func 40) #[] #[]] w (fun e w' => e = .returned (.tuple #[]) ∧ ∃ d', SR v0 B g n cap d' w' ∧ StS ltF κ n d d') := by
  have HS := hide hS
  have HL := hide hS.1
  clear hS
  go_enter Try.func49, Try.ntmps49
  go_wp2
  go_loopw [7, 8] (fun v7 v8 wr => ∃ (k a b : Nat) (d1 : List Ed), (a = k * 20 ∧ b = a + 20 ∧ a ≤ n) ∧ v7 = .int .i64 (a : Int) ∧ v8 = .int .i64 (b : Int) ∧ Hid (SR v0 B g n cap d1 wr) ∧ Hid (StA ltF κ n k d d1)) (fun v7 _ _ => n - (intOf v7).toNat)
  case atStart => exact ⟨0, 0, 20, d, by omega, by rfl, by rfl, HS, hide (StA.start n d)⟩
  case round =>
    obtain ⟨k, a, b, d1, hab, rfl, rfl, HS1, HT⟩ := hrel
    by_cases hlt : b ≤ n
    · have hI : (b : Int) ≤ (n : Int) := by omega
      obtain ⟨b2, hb2⟩ : ∃ z, b + 20 = z := ⟨_, rfl⟩
      have e1 : (b : Int) + 20 = (b2 : Int) := by omega
      have hb3 : b = (k + 1) * 20 ∧ b2 = b + 20 ∧ b ≤ n := by omega
      have hm3 : n - b < n - a := by omega
      have e2 : IntKind.i64.wrap (b2 : Int) = (b2 : Int) := i64_nat _ (by omega)
      have HAB := hide hab
      have HB3 := hide hb3
      clear hb2 hab hb3
      go_wp2_with fail
      refine (ins_any κ v0 _ B g n cap d1 a b HS1.out (by have := HAB.out; omega) hlt hn).mono ?_
      rintro _ w2 ⟨rfl, d2, hs2, hm2, hk2⟩
      have HS2 := hide hs2
      have HT2 : Hid (StA ltF κ n (k + 1) d d2) := hide (by have h := HAB.out; rw [h.2.1] at hm2 hk2; exact HT.out.step h.1 (by rw [← h.2.1]; exact hlt) hm2 hk2)
      clear hs2 hm2 hk2 HS1 HT
      go_wp2
      go_roundw
      case rel => first | exact ⟨k + 1, b, b2, d2, HB3.out, rfl, by first | rfl | go_num, HS2, HT2⟩ | ((repeat apply Exists.intro); exact ⟨⟨k + 1, b, b2, d2, HB3.out, rfl, by first | rfl | go_num, HS2, HT2⟩, rfl⟩)
      case measure => simp [intOf]; omega
    · have hI : ¬ (b : Int) ≤ (n : Int) := by omega
      have hna : n < a + 20 := by omega
      have han := hab.2.2
      have HAB := hide hab
      clear hab
      go_wp2_with fail
      refine (ins_any κ v0 _ B g n cap d1 a n HS1.out han (Nat.le_refl _) hn).mono ?_
      rintro _ w2 ⟨rfl, d2, hs2, hm2, hk2⟩
      have HS2 := hide hs2
      have HT2 : Hid (StB ltF κ n 20 d d2) := hide (HT.out.last HAB.out.1 hna HL.out han hm2 hk2)
      clear hs2 hm2 hk2 HS1 HT hI
      go_wp2
      go_loopw [6] (fun v6 wr => ∃ (bs : Nat) (d3 : List Ed), (20 ≤ bs ∧ (bs ≤ 2 * n ∨ bs = 20)) ∧ v6 = .int .i64 (bs : Int) ∧ Hid (SR v0 B g n cap d3 wr) ∧ Hid (StB ltF κ n bs d d3)) (fun v6 _ => 2 * n - (intOf v6).toNat)
      case atStart => exact ⟨20, d2, by omega, by rfl, HS2, HT2⟩
      case round =>
        clear HS2 HT2
        obtain ⟨bs, d3, hbs, rfl, HS3, HT3⟩ := hrel
        have HBS := hide hbs
        obtain ⟨w3, rfl⟩ : ∃ z : World, z = wr := ⟨_, rfl⟩
        by_cases hlt2 : bs < n
        · have hJ : (bs : Int) < (n : Int) := by omega
          obtain ⟨bb, hbb⟩ : ∃ z, 2 * bs = z := ⟨_, rfl⟩
          have g1 : (2 : Int) * (bs : Int) = (bb : Int) := by omega
          have g2 : (bs : Int) * 2 = (bb : Int) := by omega
          have hbb2 : bs < bb ∧ (20 ≤ bb ∧ (bb ≤ 2 * n ∨ bb = 20)) ∧ bb = bs + bs ∧ 0 < bb ∧ 0 < bs := by omega
          have hms : 2 * n - bb < 2 * n - bs := by omega
          have bbl : bb ≤ 9223372036854775807 := by omega
          have HBB := hide hbb
          have H2 := hide (And.intro hbb2 hms)
          have g3 : IntKind.i64.wrap (bb : Int) = (bb : Int) := i64_nat _ bbl
          have HG := hide (And.intro g1 (And.intro g2 g3))
          clear hbb hbb2 hms hbs
          go_wp2
          go_loopw [7, 8] (fun v7 v8 wr => ∃ (k a b : Nat) (d4 : List Ed), (a = k * (2 * bs) ∧ b = a + 2 * bs ∧ a ≤ n) ∧ v7 = .int .i64 (a : Int) ∧ v8 = .int .i64 (b : Int) ∧ Hid (SR v0 B g n cap d4 wr) ∧ Hid (StC ltF κ n bs k d d4)) (fun v7 _ _ => n - (intOf v7).toNat)
          case atStart => exact ⟨0, 0, bb, d3, ⟨by rw [Nat.zero_mul], by have := HBB.out; omega, Nat.zero_le _⟩, by rfl, rfl, HS3, hide HT3.out.blocks⟩
          case round =>
            clear HS3 HT3 g1 g2 g3
            obtain ⟨k, a, b, d4, hab2, rfl, rfl, HS4, HT4⟩ := hrel
            by_cases hlt3 : b ≤ n
            · have hI : (b : Int) ≤ (n : Int) := by omega
              obtain ⟨am, ham⟩ : ∃ z, a + bs = z := ⟨_, rfl⟩
              obtain ⟨b2, hb2⟩ : ∃ z, b + bb = z := ⟨_, rfl⟩
              have e1 : (a : Int) + (bs : Int) = (am : Int) := by omega
              have e2 : (b : Int) + (bb : Int) = (b2 : Int) := by omega
              have hq : a < am ∧ am < b ∧ b - a ≤ n ∧ n - b < n - a := by have := HBB.out; have := H2.out; omega
              have hb3 : b = (k + 1) * (2 * bs) ∧ b2 = b + 2 * bs ∧ b ≤ n := ⟨by rw [Nat.add_mul, Nat.one_mul]; omega, by have := HBB.out; omega, hlt3⟩
              have bam : am ≤ 9223372036854775807 := by omega
              have bb2 : b2 ≤ 9223372036854775807 := by omega
              have HQ := hide hq
              have HAM := hide ham
              have HAB2 := hide hab2
              have HB3 := hide hb3
              clear hq ham hb2 hab2 hb3
              obtain ⟨g1, g2, g3⟩ := HG.out
              have e3 : IntKind.i64.wrap (am : Int) = (am : Int) := i64_nat _ bam
              have e4 : IntKind.i64.wrap (b2 : Int) = (b2 : Int) := i64_nat _ bb2
              go_wp2_with fail
              refine (sym_any κ v0 B g n cap hn n _ d4 a am b HQ.out.2.2.1 HS4.out HQ.out.1 HQ.out.2.1 hlt3).mono ?_
              rintro _ w5 ⟨rfl, d5, hs5, hk5⟩
              have HS5 := hide hs5
              have HT5 : Hid (StC ltF κ n bs (k + 1) d d5) := hide (HT4.out.step HAB2.out.1 (by rw [← HAB2.out.2.1]; exact hlt3) (by rw [HAM.out, ← HAB2.out.2.1]; exact hk5))
              clear hs5 hk5 HS4 HT4
              go_wp2
              clear e1 e2 e3 e4 g1 g2 g3
              go_roundw
              case rel => first | exact ⟨k + 1, b, b2, d5, HB3.out, by first | rfl | go_num, by first | rfl | go_num, HS5, HT5⟩ | ((repeat apply Exists.intro); exact ⟨⟨k + 1, b, b2, d5, HB3.out, by first | rfl | go_num, by first | rfl | go_num, HS5, HT5⟩, rfl⟩)
              case measure => have := HQ.out; simp [intOf]; omega
            · have hI : ¬ (b : Int) ≤ (n : Int) := by omega
              obtain ⟨am, ham⟩ : ∃ z, a + bs = z := ⟨_, rfl⟩
              have e1 : (a : Int) + (bs : Int) = (am : Int) := by omega
              have bam : am ≤ 9223372036854775807 := by omega
              have HAM := hide ham
              have hbn3 : n < a + 2 * bs := by omega
              have HN3 := hide hbn3
              have HAB2 := hide hab2
              by_cases hlt4 : am < n
              · have hq : a < am ∧ n - a ≤ n := by have := H2.out; omega
                have hK : (am : Int) < (n : Int) := by omega
                clear ham hab2 hbn3
                obtain ⟨g1, g2, g3⟩ := HG.out
                have e3 : IntKind.i64.wrap (am : Int) = (am : Int) := i64_nat _ bam
                go_wp2_with fail
                refine (sym_any κ v0 B g n cap hn n _ d4 a am n hq.2 HS4.out hq.1 hlt4 (Nat.le_refl _)).mono ?_
                rintro _ w5 ⟨rfl, d5, hs5, hk5⟩
                have HS5 := hide hs5
                have HT5 : Hid (StB ltF κ n bb d d5) := hide (by rw [← HBB.out]; exact HT4.out.last1 HAB2.out.1 HN3.out HL.out (by rw [HAM.out]; exact hk5))
                clear hs5 hk5 HS4 HT4
                go_wp2
                clear e1 e3 g1 g2 g3
                go_roundw
                case rel => first | exact ⟨bb, d5, H2.out.1.2.1, by first | rfl | go_num, HS5, HT5⟩ | ((repeat apply Exists.intro); exact ⟨⟨bb, d5, H2.out.1.2.1, by first | rfl | go_num, HS5, HT5⟩, rfl⟩)
                case measure => have := H2.out; simp [intOf]; omega
              · have hK : ¬ (am : Int) < (n : Int) := by omega
                have HT5 : Hid (StB ltF κ n bb d d4) := hide (by rw [← HBB.out]; exact HT4.out.last2 hab2.1 (by omega) HL.out)
                clear ham hab2 hbn3
                obtain ⟨g1, g2, g3⟩ := HG.out
                have e3 : IntKind.i64.wrap (am : Int) = (am : Int) := i64_nat _ bam
                go_wp2
                clear e1 e3 g1 g2 g3
                go_roundw
                case rel => first | exact ⟨bb, d4, H2.out.1.2.1, by first | rfl | go_num, HS4, HT5⟩ | ((repeat apply Exists.intro); exact ⟨⟨bb, d4, H2.out.1.2.1, by first | rfl | go_num, HS4, HT5⟩, rfl⟩)
                case measure => have := H2.out; simp [intOf]; omega
        · have hJ : ¬ (bs : Int) < (n : Int) := by omega
          clear hbs
          have HFin := hide (show ∃ d', SR v0 B g n cap d' w3 ∧ StS ltF κ n d d' from ⟨d3, HS3.out, HT3.out.done (by omega)⟩)
          go_wp2
          go_end0
          exact ⟨rfl, HFin.out⟩
set_option maxRecDepth 100000 in
set_option maxHeartbeats 64000000 in
theorem sort_any (κ : Ed → Int) (v0 w : World) (B g n cap : Nat) (d : List Ed) (hS : SR v0 B g n cap d w) (hn : n ≤ 1000000) :
    Calls Try.prog 39 #[.slice (some ⟨g, 0, none⟩) n cap, .func (.func 40) #[] #[]] w (fun e w' => e = .returned (.tuple #[]) ∧ ∃ d', SR v0 B g n cap d' w' ∧ StS ltF κ n d d') := by
  go_enter Try.func39, Try.ntmps39
  go_wp2_with fail
  refine (stab_any κ v0 _ B g n cap d hS hn).mono ?_
  rintro _ w1 ⟨rfl, h⟩
  have H := hide h
  clear h
  go_wp2
  go_end0
  exact ⟨rfl, H.out⟩
end Go.Proofs.Ytihdpfjonkagaaa
