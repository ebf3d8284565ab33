/- Lemmas: Nlp. -/
import Derived.Test.YtigmmikijjcdiaaProg
import Derived.Deep.DeepCutAuto
import Derived.Lib.Hide
import Derived.WalkSpells
import Derived.WalkMore
import Derived.IntWalk
import Derived.Test.YtigmmikijjcdiaaLnWw23
import Derived.Test.YtigmmikijjcdiaaLnWw24
import Derived.Test.YtigmmikijjcdiaaLnWw25
set_option linter.unusedVariables false
set_option linter.unusedSimpArgs false
set_option maxRecDepth 100000
set_option maxHeartbeats 16000000
namespace Go.Proofs.Ytigmmikijjcdiaa
open Go.RowKit
theorem pair_open {w w1 w2 : World} {P M Q ep : Nat} (hE : EndM w1 P M none (fun _ => none) 0 (openL ep)) (hP : w.heap.size ≤ P) (hM : w.heap.size ≤ M) (hb : Below w.heap.size w w1) (hR : ∀ L, L ≤ w1.heap.size → REnd w2 L Q none (openL ep)) (hb2 : Below w1.heap.size w1 w2) : PairSt w.heap.size P Q 0 w2 (openL ep) ∧ PairN 0 (openL ep) ∧ Below w.heap.size w w2 := by
 have s1 := hb.size
 have s2 := hb2.size
 exact ⟨⟨M, none, _, 0, none, Nat.le_refl _, hE.next hb2, hR _ s1, hP, hM, (fun g hg => by cases hg), fun g hg => absurd rfl hg, by omega⟩, ⟨rfl, by simp [openL], by simp [openL]⟩, hb.trans (hb2.mono s1)⟩
theorem linkPlays_walk (w : World) (a : Int) (ha1 : -9223372036854775808 ≤ a) (ha2 : a ≤ 9223372036854775807) (A : Option Addr) (xs : List Cal5) (c : Nat) (hI : Cals w w.heap.size A xs) (hc1 : xs.length ≤ c) (hc2 : c ≤ 9223372036854775807) :
  Calls Try.prog 6 #[.int .i64 a, .slice A xs.length c] w fun e w' => e = .returned (.bool true) ∧ Below w.heap.size w w' := by
 have HI := hide hI
 have HLg := hide (large_any w A xs c hI hc1 hc2)
 obtain ⟨n, hn⟩ : ∃ n, xs.length = n := ⟨_, rfl⟩
 rw [hn] at HLg hc1 ⊢
 have HN := hide hn
 clear hn hI
 go_enter Try.func6, Try.ntmps6
 go_wp2_with fail
 refine HLg.out.mono ?_
 rintro e w0 ⟨rfl, r, rfl, hr⟩
 have HLr := hide hr
 clear hr HLg
 rcases r with _ | _
 rotate_left
 ·go_wp2_with fail
  refine (works_any w).mono ?_
  rintro e w8 ⟨rfl, hb8⟩
  have HB8 := hide ((Below.refl w.heap.size w).trans (hb8.mono (by have := (Below.refl w.heap.size w).size; omega)))
  clear hb8
  go_wp2
  go_ret
  exact ⟨rfl, HB8.out⟩
 obtain ⟨hl1, -, hl3⟩ := HLr.out rfl
 rw [HN.out] at hl1
 have HL3 := hide hl3
 clear hl3 HLr
 obtain ⟨ep, hep⟩ : ∃ z, epN a = z := ⟨_, rfl⟩
 have HOp := hide (lopen_any w a)
 rw [hep] at HOp
 go_wp2_with fail
 refine HOp.out.mono ?_
 rintro e w1 ⟨P, M, rfl, hE1, hp1, hm1, hb1⟩
 have HRo := hide (ropen_any w1 a)
 rw [hep] at HRo
 have HE1 := hide hE1
 have HB1 := hide hb1
 clear hE1 hb1 HOp
 go_wp2_with fail
 refine HRo.out.mono ?_
 rintro e w2 ⟨Q, rfl, hq1, hR2, hb2⟩
 have h9 := pair_open HE1.out hp1 hm1 HB1.out hR2 hb2
 have HP0 := hide (show ∃ s, PairSt w.heap.size P Q 0 w2 s ∧ PairN 0 s from ⟨_, h9.1, h9.2.1⟩)
 have HB2 := hide h9.2.2
 clear h9 hR2 hb2 HE1 HB1 HRo hep
 go_wp2
 go_loopw [7] (fun v7 wr => ∃ i : Nat, i ≤ n ∧ v7 = .int .i64 (i : Int) ∧ Hid (∃ s, PairSt w.heap.size P Q i wr s ∧ PairN i s) ∧ Hid (Below w.heap.size w wr)) (fun v7 _ => n - (intOf v7).toNat)
 case atStart => exact ⟨0, by omega, rfl, HP0, HB2⟩
 case round =>
  obtain ⟨i, hi, rfl, HPr, HBr⟩ := hrel
  clear HP0 HB2
  obtain ⟨wr, rfl⟩ : ∃ z : World, z = wr := ⟨_, rfl⟩
  have swr : w.heap.size ≤ wr.heap.size := HBr.out.size
  obtain ⟨s, hps, hpn⟩ := HPr.out
  have HPs := hide hps
  have HPn := hide hpn
  clear hps hpn HPr
  by_cases hlt : i < n
  ·have hI1 : (i : Int) < (n : Int) := by omega
   have hI0 : (0 : Int) ≤ (i : Int) := by omega
   obtain ⟨x, hx⟩ : ∃ x, xs[i]? = some x := ⟨_, List.getElem?_eq_getElem (by rw [HN.out]; exact hlt)⟩
   obtain ⟨g, off, rfl, hg, q0, q1, q2, q3, q4, hrd, hok⟩ := HI.out.get hx
   have hgr : g < wr.heap.size := by omega
   have q0 := (HBr.out.cell (p := ⟨g, off + i * 5, none⟩) hg).trans q0
   have q1 := (HBr.out.cell (p := ⟨g, off + i * 5 + 1, none⟩) hg).trans q1
   have q2 := (HBr.out.cell (p := ⟨g, off + i * 5 + 2, none⟩) hg).trans q2
   have q3 := (HBr.out.cell (p := ⟨g, off + i * 5 + 3, none⟩) hg).trans q3
   have q4 := (HBr.out.cell (p := ⟨g, off + i * 5 + 4, none⟩) hg).trans q4
   have HDo := hide (does_any wr HPs.out HPn.out (by omega) swr x hok (hrd.keep fun p hp => HBr.out.cell hp) (HL3.out x (List.mem_of_getElem? hx)))
   clear hrd hok hx
   go_wp2_with fail
   refine HDo.out.mono ?_
   rintro e y ⟨rfl, ⟨s', hps, hpn⟩, hb⟩
   have HPy := hide hps
   have HNy := hide hpn
   have HBy := hide (HBr.out.trans hb)
   clear hps hpn hb HDo q0 q1 q2 q3 q4
   have HSm := hide (by obtain ⟨M', G, own, k, G', -, h2, h3, -⟩ := HPy.out; exact same_any y P M' G own k w.heap.size Q G' s' h2 h3)
   go_wp2_with fail
   refine HSm.out.mono ?_
   rintro e z ⟨rfl, rfl⟩
   have HPz : Hid (∃ s, PairSt w.heap.size P Q (i + 1) y.drew s ∧ PairN (i + 1) s) := hide ⟨s', HPy.out.next (Below.refl _ _).drew, HNy.out⟩
   have HBz := hide (HBy.out.drew)
   go_wp2
   go_roundw
   case rel => exact ⟨i + 1, by omega, by go_num, HPz, HBz⟩
   case measure => simp [intOf]; omega
  have hI1 : ¬ (i : Int) < (n : Int) := by omega
  obtain ⟨M', G, own, k, G', g1, g2, g3, g4, g5, g6, g7, g8⟩ := HPs.out
  have HE := hide g2
  have HR := hide g3
  have HOw := hide (fun g (hg : own g ≠ none) => And.intro (g7 g hg) (g2.2.1 g hg))
  have HFl := hide (from_lens (n := s.first) (ack := true) g2.1 (Nat.le_refl _))
  have HG := hide g6
  clear g2 g3 g6 g7
  go_wp2_with fail
  refine (lagain_any wr HE.out).mono ?_
  rintro e y ⟨v, own2, rfl, ha, ho, hb, hk⟩
  have HV := hide ha
  have HO2 := hide ho
  have HE1 := hide hb
  have HK1 := hide hk
  have HR1 := hide (HE.out.keepR hk (by intro x hx; simp at hx; exact .inl hx) HR.out)
  clear ha ho hb hk
  go_wp2_with fail
  refine (rlagain_any y HR1.out).mono ?_
  rintro e z ⟨v2, rfl, ha, hb, hk⟩
  have HV2 := hide (HV.out.keepT fun g cur T hc hT => HR1.out.keepB hk (by intro x hx; simp at hx; exact .inl hx) hc (by rcases hT with rfl | rfl <;> decide) (by rcases hT with rfl | rfl <;> decide))
  have HS2 := hide ha
  have HR2 := hide hb
  have HK2 := hide hk
  clear ha hb hk
  have HRw := hide (rows_any z HV2.out HS2.out (by intro i j e; injection e with _ e) HFl.out.1 HFl.out.2)
  go_wp2_with fail
  refine HRw.out.mono ?_
  rintro e x ⟨rfl, hsp⟩
  have HBx := hide (HBr.out.trans (pair_told g4 g5 HG.out HOw.out g8 g1 HE1.out HK1.out HO2.out HR1.out HK2.out HR2.out hsp).2)
  clear hsp
  go_wp2_with fail
  refine (works_any x).mono ?_
  rintro e w8 ⟨rfl, hb8⟩
  have HB8 := hide ((HBx.out).trans (hb8.mono (by have := (HBx.out).size; omega)))
  clear hb8
  go_wp2
  go_ret
  exact ⟨rfl, HB8.out⟩
end Go.Proofs.Ytigmmikijjcdiaa
