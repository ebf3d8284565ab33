/- The walk of the statement LinkEpochs. (printed by gen/lep.py) -/
import Derived.Test.YtigmmikijjcdiaaProg
import Derived.Test.YtigmmikijjcdiaaLkz
import Derived.Test.YtigmmikijjcdiaaLki
import Derived.Deep.DeepCutAuto
import Derived.Lib.Hide
import Derived.WalkSpells
import Derived.WalkMore
import Derived.IntWalk
namespace Go.Proofs.Ytigmmikijjcdiaa
open Go.RowKit
set_option linter.unusedVariables false
set_option linter.unusedSimpArgs false
theorem Rows.get {w : World} {B : Nat} {A : Option Addr} {rs : List Row} (h : Rows w B A rs) {i : Nat} {Ar : Option Addr} {b : BL} {cr : Nat} (hr : rs[i]? = some (Ar, b, cr)) : ∃ g off, A = some ⟨g, off, none⟩ ∧ g < B ∧ w.cell? ⟨g, off + i, none⟩ = some (.slice Ar b.length cr) ∧ Rd w B Ar (u8s b) := by
  have hl := (List.getElem?_eq_some_iff.1 hr).1
  have he : rs[i] = (Ar, b, cr) := by rw [List.getElem?_eq_getElem hl] at hr; injection hr
  obtain ⟨g, off, rfl, hg⟩ := Rows.at_ h hl
  have h1 := Rows.cell h hl
  have h2 := Rows.row h hl
  rw [he] at h1 h2
  exact ⟨g, off, rfl, hg, h1, h2⟩
/-- how far the second end has come -/
def EpSt (ea eb : Nat) (bs : List BL) (j : Nat) (t : LE) : Prop := (ea ≠ eb ∧ t = openL eb) ∨ (ea = eb ∧ ∃ gj, Runs (sentS ea bs) t bs [] [] [] 1 j gj)
theorem EpSt.step {ea eb : Nat} {bs : List BL} {j : Nat} {t : LE} {f : BL} (h : EpSt ea eb bs j t) (hok : LEok (sentS ea bs)) (hf : (fromL (sentS ea bs) (sentS ea bs).first true).1[j]? = some f) :
    EpSt ea eb bs (j + 1) (hearL t f).2.2 ∧ (∃ h n b, readL f = some (ea, h, n, b)) ∧ f.length ≤ 3000000 ∧ f ≠ [] ∧ t.heard ≤ bs.length ∧ ((ea ≠ eb ∧ (hearL t f).1 = 4 ∧ (hearL t f).2.1 = [] ∧ (hearL t f).2.2 = openL eb) ∨ (ea = eb ∧ (hearL t f).1 = 0)) := by
  rw [sentS_first] at hf
  rcases h with ⟨hne, rfl⟩ | ⟨rfl, gj, hr⟩
  · have hrd : (∃ h n b, readL f = some (ea, h, n, b)) ∧ 21 ≤ f.length ∧ f.length ≤ 1048605 := by
      rcases from_frame (sentS_dir ea eb bs) hok (by rw [sentS_first]; exact Nat.le_refl _) hf with ⟨e, h, _⟩ | ⟨b, e, h, _, _, _, hb⟩
      · exact ⟨⟨_, _, _, h⟩, by rw [e, fr_len]; simp, by rw [e, fr_len]; simp⟩
      · exact ⟨⟨_, _, _, h⟩, by rw [e, fr_len]; simp; omega, by rw [e, fr_len]; simp; omega⟩
    obtain ⟨⟨h1, n, b, hq⟩, hl1, hl2⟩ := hrd
    have hh : hearL (openL eb) f = (4, [], openL eb) := by
      unfold hearL
      rw [hq]
      dsimp only
      rw [if_pos (show ea ≠ (openL eb).ep from hne)]
    exact ⟨.inl ⟨hne, by rw [hh]⟩, ⟨h1, n, b, hq⟩, by omega, by rintro rfl; simp at hl1, Nat.zero_le _, .inl ⟨hne, by rw [hh], by rw [hh], by rw [hh]⟩⟩
  · obtain ⟨hd, hr', hq, hl1, hl2⟩ := hr.step hok (by rw [sentS_first]; exact Nat.le_refl _) hf
    exact ⟨.inr ⟨rfl, _, hr'⟩, hq, by omega, by rintro rfl; simp at hl1, by rw [hr.fwd.heard]; exact hr.fwd.glen, .inr ⟨rfl, hd.code⟩⟩
theorem EpSt.fin {ea eb : Nat} {bs : List BL} {t : LE} (h : EpSt ea eb bs (fromL (sentS ea bs) (sentS ea bs).first true).1.length t) (he : ea = eb) : t.heard = bs.length := by
  rcases h with ⟨hne, _⟩ | ⟨_, gj, hr⟩
  · exact absurd he hne
  · rw [sentS_first] at hr
    exact (hr.all (fun h => by unfold sentS at h; dsimp only at h; omega)).2
theorem EpSt.heard_le {ea eb : Nat} {bs : List BL} {j : Nat} {t : LE} (h : EpSt ea eb bs j t) : t.heard ≤ bs.length := by
  rcases h with ⟨_, rfl⟩ | ⟨_, gj, hr⟩
  · exact Nat.zero_le _
  · rw [hr.fwd.heard]; exact hr.fwd.glen
theorem EpSt.eq {ea eb : Nat} {bs : List BL} {j : Nat} {t : LE} (h : EpSt ea eb bs j t) (hne : ea ≠ eb) : t = openL eb := by
  rcases h with ⟨_, h⟩ | ⟨e, _⟩
  · exact h
  · exact absurd e hne
set_option maxRecDepth 100000 in
set_option maxHeartbeats 16000000 in
theorem linkEpochs_walk (w : World) (a : Int) (ha1 : -9223372036854775808 ≤ a) (ha2 : a ≤ 9223372036854775807) (b : Int) (hb1 : -9223372036854775808 ≤ b) (hb2 : b ≤ 9223372036854775807) (A : Option Addr) (rs : List Row) (c : Nat) (hE : Rows w w.heap.size A rs) (hl : rs.length ≤ 9223372036854775807) (hk : ∀ r ∈ rs, r.2.1.length ≤ 140737488351232) :
    Calls Try.prog 4 #[.int .i64 a, .int .i64 b, .slice A rs.length c] w fun e w' => e = .returned (.bool true) ∧ Below w.heap.size w w' := by
  obtain ⟨n, hn⟩ : ∃ n, rs.length = n := ⟨_, rfl⟩
  rw [hn] at hl ⊢
  have HN := hide hn
  have HE := hide hE
  clear hn hE hk
  by_cases a0 : a < 0
  · go_enter Try.func4, Try.ntmps4
    go_wp2_with fail
    refine (works_any _).mono ?_
    rintro e w1 ⟨rfl, hb⟩
    have HB := hide hb
    clear hb
    go_wp2
    go_ret
    exact ⟨rfl, HB.out⟩
  by_cases b0 : b < 0
  · go_enter Try.func4, Try.ntmps4
    go_wp2_with fail
    refine (works_any _).mono ?_
    rintro e w1 ⟨rfl, hb⟩
    have HB := hide hb
    clear hb
    go_wp2
    go_ret
    exact ⟨rfl, HB.out⟩
  by_cases a1 : 4611686018427387904 < a
  · go_enter Try.func4, Try.ntmps4
    go_wp2_with fail
    refine (works_any _).mono ?_
    rintro e w1 ⟨rfl, hb⟩
    have HB := hide hb
    clear hb
    go_wp2
    go_ret
    exact ⟨rfl, HB.out⟩
  by_cases b1 : 4611686018427387904 < b
  · go_enter Try.func4, Try.ntmps4
    go_wp2_with fail
    refine (works_any _).mono ?_
    rintro e w1 ⟨rfl, hb⟩
    have HB := hide hb
    clear hb
    go_wp2
    go_ret
    exact ⟨rfl, HB.out⟩
  by_cases n0 : (20 : Int) < (n : Int)
  · go_enter Try.func4, Try.ntmps4
    go_wp2_with fail
    refine (works_any _).mono ?_
    rintro e w1 ⟨rfl, hb⟩
    have HB := hide hb
    clear hb
    go_wp2
    go_ret
    exact ⟨rfl, HB.out⟩
  obtain ⟨ea, rfl⟩ := Int.eq_ofNat_of_zero_le (show 0 ≤ a by omega)
  obtain ⟨eb, rfl⟩ := Int.eq_ofNat_of_zero_le (show 0 ≤ b by omega)
  have hea : ea ≤ 4611686018427387904 := by omega
  have heb : eb ≤ 4611686018427387904 := by omega
  have hn20 : n ≤ 20 := by omega
  obtain ⟨bs, hbs⟩ : ∃ l, rs.map (fun r => r.2.1) = l := ⟨_, rfl⟩
  have hbl : bs.length = n := by rw [← hbs, List.length_map]; exact HN.out
  have HBs := hide hbs
  have HBl := hide hbl
  clear hbs hbl
  go_enter Try.func4, Try.ntmps4
  go_wp2_with fail
  have ho1 := lopen_any w (ea : Int)
  rw [epN_small hea] at ho1
  refine ho1.mono ?_
  clear ho1
  rintro e w1 ⟨P1, M1, rfl, hE1, hp1, hm1, hb1⟩
  go_wp2_with fail
  have ho1 := lopen_any w1 (eb : Int)
  rw [epN_small heb] at ho1
  refine ho1.mono ?_
  clear ho1
  rintro e w2 ⟨P2, M2, rfl, hE2, hp2, hm2, hb2⟩
  have HT0 : Hid (Two w2 w.heap.size w2.heap.size 0 P1 P2 (sentS ea []) (openL eb)) := hide (Two.opened hE1 hp1 hm1 hE2 hp2 hm2 hb2)
  have HBb : Hid (Below w.heap.size w w2) := hide (hb1.trans (hb2.mono hb1.size))
  clear hE1 hp1 hm1 hE2 hp2 hm2 hb1 hb2
  go_wp2
  go_loopw [9] (fun v9 wr => ∃ i : Nat, i ≤ n ∧ v9 = .int .i64 (i : Int) ∧ Hid (Two wr w.heap.size wr.heap.size 0 P1 P2 (sentS ea (bs.take i)) (openL eb)) ∧ Hid (Below w.heap.size w wr) ∧ Hid (∀ b ∈ bs.take i, b.length ≤ 200)) (fun v9 _ => n - (intOf v9).toNat)
  case atStart => exact ⟨0, by omega, rfl, HT0, HBb, hide (fun b hb => by simp at hb)⟩
  case round =>
    clear HT0 HBb
    obtain ⟨i, hi, rfl, hT, hB, hM⟩ := hrel
    obtain ⟨wr, rfl⟩ : ∃ z : World, z = wr := ⟨_, rfl⟩
    have swr : w.heap.size ≤ wr.heap.size := hB.out.size
    by_cases hlt : i < n
    · have hI1 : (i : Int) < (n : Int) := by omega
      have hI0 : (0 : Int) ≤ (i : Int) := by omega
      obtain ⟨⟨Ar, b, cr⟩, hr⟩ : ∃ r, rs[i]? = some r := ⟨_, List.getElem?_eq_getElem (by rw [HN.out]; exact hlt)⟩
      obtain ⟨g, off, rfl, hg, hc, hrd⟩ := (HE.out.below hB.out (Nat.le_refl _)).get hr
      have HBi : Hid (bs[i]? = some b) := hide (by rw [← HBs.out, List.getElem?_map, hr]; rfl)
      have hgw : g < wr.heap.size := by omega
      have HRd := hide (hrd.more swr)
      obtain ⟨bl, hbl⟩ : ∃ x, b.length = x := ⟨_, rfl⟩
      rw [hbl] at hc
      have HBl2 := hide hbl
      clear hbl hrd hr
      by_cases hbig : 200 < bl
      · have hq : (200 : Int) < (bl : Int) := by omega
        go_wp2_with fail
        refine (works_any _).mono ?_
        rintro e w3 ⟨rfl, hb3⟩
        have HB3 := hide (hB.out.trans (hb3.mono swr))
        clear hb3 hc
        go_wp2
        go_ret
        exact ⟨rfl, HB3.out⟩
      have hq : ¬ (200 : Int) < (bl : Int) := by omega
      have HTl : Hid ((bs.take i).length = i) := hide (by rw [List.length_take, HBl.out]; omega)
      go_wp2_with fail
      have hsd := two_send hT.out (Nat.le_refl _) Ar b cr HRd.out (by rw [HBl2.out]; omega) (by show (bs.take i).length + 1 < 1000000; rw [HTl.out]; omega)
      rw [HBl2.out] at hsd
      refine hsd.mono ?_
      clear hsd
      rintro e w3 ⟨rfl, ht, hm⟩
      rw [sentS_send (by rw [HTl.out]; omega) (by rw [HBl2.out]; omega)] at ht ⊢
      have HT3 : Hid (Two w3 w.heap.size w3.heap.size 0 P1 P2 (sentS ea (bs.take (i + 1))) (openL eb)) := hide (by rw [List.take_add_one, HBi.out]; exact ht)
      have HB3 := hide (hB.out.trans (hm.toBelow swr))
      have HM3 : Hid (∀ b ∈ bs.take (i + 1), b.length ≤ 200) := hide (fun x hx => by rw [List.take_add_one, HBi.out] at hx; rcases List.mem_append.1 hx with hx | hx; exact hM.out x hx; simp at hx; subst hx; rw [HBl2.out]; omega)
      clear ht hm hc
      go_wp2
      go_roundw
      case rel => exact ⟨i + 1, by omega, by go_num, HT3, HB3, HM3⟩
      case measure => simp [intOf]; omega
    obtain rfl : i = n := by omega
    obtain ⟨wo, rfl⟩ : ∃ z : World, z = wr := ⟨_, rfl⟩
    have swo := swr
    have HTn : Hid (Two wo w.heap.size wo.heap.size 0 P1 P2 (sentS ea bs) (openL eb)) := hide (by have h := hT.out; rwa [List.take_of_length_le (by rw [HBl.out]; exact Nat.le_refl _)] at h)
    have hI1 : ¬ (i : Int) < (i : Int) := by omega
    clear hT hM
    have HOk := hide HTn.out.ok1
    go_wp2_with fail
    refine (two_again HTn.out).mono ?_
    rintro e w3 ⟨v3, rfl, hf, ht, hm⟩
    obtain ⟨fs, hfs⟩ : ∃ x, (fromL (sentS ea bs) (sentS ea bs).first true).1 = x := ⟨_, rfl⟩
    obtain ⟨xs, hxs⟩ : ∃ x, (fromL (sentS ea bs) (sentS ea bs).first true).2 = x := ⟨_, rfl⟩
    rw [hfs] at hf
    rw [hxs] at ht
    have HFs := hide hfs
    have HT3 : Hid (Two w3 w.heap.size wo.heap.size 0 P1 P2 xs (openL eb)) := hide ht
    have HF3 : Hid (FRw w3 wo.heap.size v3 fs) := hide hf
    have HB3 : Hid (Below w.heap.size w w3) := hide (hB.out.trans (hm.toBelow swo))
    clear hf ht hm hfs hxs HTn
    obtain ⟨Af, cf, rfl⟩ := HF3.out.rd.form
    obtain ⟨m, hm⟩ : ∃ x, fs.length = x := ⟨_, rfl⟩
    rw [hm]
    have HM := hide hm
    clear hm
    have HMb : Hid (m ≤ 64) := hide (by rw [← HM.out, ← HFs.out, sentS_first]; rcases from_len (sentS ea bs) 1 true with h | ⟨_, h⟩; rw [h]; unfold sentS; dsimp only; rw [HBl.out]; omega; omega)
    have HS0 : Hid (EpSt ea eb bs 0 (openL eb)) := hide (by by_cases e : ea = eb; exact .inr ⟨e, [], Runs.start (sentS_dir _ _ _) (sentS_back _ _ _) e (Nat.le_refl _)⟩; exact .inl ⟨e, rfl⟩)
    go_wp2
    go_loopw [11] (fun v11 wr => ∃ (j : Nat) (t : LE), j ≤ m ∧ v11 = .int .i64 (j : Int) ∧ Hid (Two wr w.heap.size wo.heap.size j P1 P2 xs t) ∧ Hid (Below w.heap.size w wr) ∧ Hid (FRw wr wo.heap.size (.slice Af m cf) fs) ∧ Hid (EpSt ea eb bs j t)) (fun v11 _ => m - (intOf v11).toNat)
    case atStart => exact ⟨0, openL eb, by omega, rfl, HT3, HB3, hide (by have h := HF3.out; rwa [HM.out] at h), HS0⟩
    case round =>
      clear HT3 HB3 HF3 HS0
      obtain ⟨j, t, hj, rfl, hT, hBq, hF, hS⟩ := hrel
      obtain ⟨wr, rfl⟩ : ∃ z : World, z = wr := ⟨_, rfl⟩
      have swr : w.heap.size ≤ wr.heap.size := hBq.out.size
      have hm64 := HMb.out
      have hth := hS.out.heard_le
      rw [HBl.out] at hth
      by_cases hlt : j < m
      · have hI1 : (j : Int) < (m : Int) := by omega
        have hI0 : (0 : Int) ≤ (j : Int) := by omega
        obtain ⟨f, hf⟩ : ∃ f, fs[j]? = some f := ⟨_, List.getElem?_eq_getElem (by rw [HM.out]; exact hlt)⟩
        obtain ⟨hst, ⟨h1, n1, b1, hq⟩, hl1, hl2, hl3, hcase⟩ := hS.out.step HOk.out (by rw [HFs.out]; exact hf)
        obtain ⟨-, g, off, A1, c1, rfl, hg, hc, hr, hcap⟩ := hF.out.rd.get hf
        have HR1 := hide hr
        have HK1 := hide (hcap hl2)
        have HL1 := hide hl1
        have HSt := hide hst
        have HQ1 := hide hq
        have HCase := hide hcase
        obtain ⟨fl, hfl⟩ : ∃ x, f.length = x := ⟨_, rfl⟩
        rw [hfl] at hc
        have HFl := hide hfl
        clear hr hcap hl1 hst hq hcase hfl hf hl2 hl3
        go_wp2_with fail
        have hof := lof_any wr A1 f c1 HR1.out HL1.out HK1.out.1 HK1.out.2
        rw [HFl.out] at hof
        refine hof.mono ?_
        clear hof
        rintro e w4 ⟨hb4, he⟩
        rw [HQ1.out] at he
        subst he
        have HB4 := hide hb4
        have hc4 := (hb4.cell (p := ⟨g, off + j, none⟩) hg).trans hc
        have hg4 : g < w4.heap.size := Nat.lt_of_lt_of_le hg hb4.size
        clear hb4 hc
        go_wp2_with fail
        have hhr := two_hear (hT.out.next HB4.out) A1 f c1 ((HR1.out.below HB4.out).more HB4.out.size) HL1.out HK1.out.1 HK1.out.2 (by omega) (by omega)
        rw [HFl.out] at hhr
        refine hhr.mono ?_
        clear hhr
        rintro e w5 ⟨v5, rfl, ht, hb, hm⟩
        have HT5 := hide ht
        have HB5 : Hid (Below w.heap.size w w5) := hide ((hBq.out.trans (HB4.out.mono swr)).trans (hm.toBelow (Nat.le_trans swr HB4.out.size)))
        have HF5 := hide ((hF.out.next HB4.out).mid hm (Nat.le_refl _))
        have HV5 := hide hb
        clear ht hm hb hc4
        by_cases hab : ea = eb
        · have hcode : (hearL t f).1 = 0 := by rcases HCase.out with ⟨h, _⟩ | ⟨_, h⟩; exact absurd hab h; exact h
          rw [hcode]
          have qab : ((ea : Int) != (eb : Int)) = false := by simp; omega
          have qab2 : ((ea : Int) == (eb : Int)) = true := by simp; omega
          have HAB := hide hab
          clear hab hcode
          go_wp2
          go_roundw
          case rel => exact ⟨j + 1, _, by omega, by go_num, HT5, HB5, HF5, HSt⟩
          case measure => simp [intOf]; omega
        obtain ⟨hcode, hnil, hsame⟩ : (hearL t f).1 = 4 ∧ (hearL t f).2.1 = [] ∧ (hearL t f).2.2 = openL eb := by rcases HCase.out with ⟨_, h⟩ | ⟨h, _⟩; exact h; exact absurd h hab
        rw [hcode]
        have hv5 := HV5.out.rd.form
        rw [hnil] at hv5
        obtain ⟨A5, c5, rfl⟩ := hv5
        have qab : ((ea : Int) != (eb : Int)) = true := by simp; omega
        have qab2 : ((ea : Int) == (eb : Int)) = false := by simp; omega
        have HAB := hide hab
        have HSame := hide hsame
        have HT5' : Hid (Two w5 w.heap.size wo.heap.size (j + 1) P1 P2 xs (openL eb)) := hide (by have h := HT5.out; rwa [hsame] at h)
        clear hab hcode hnil hsame
        go_wp2_with fail
        refine (two_heard HT5'.out.symm).mono ?_
        rintro e w6 ⟨rfl, rfl⟩
        rw [show (openL eb).heard = 0 from rfl]
        go_wp2_with fail
        refine (two_waits HT5'.out.symm).mono ?_
        rintro e w7 ⟨rfl, rfl⟩
        rw [show (openL eb).sent.length = 0 from rfl]
        go_wp2
        go_roundw
        case rel => exact ⟨j + 1, _, by omega, by go_num, HT5, HB5, HF5, HSt⟩
        case measure => simp [intOf]; omega
      have hI1 : ¬ (j : Int) < (m : Int) := by omega
      obtain rfl : j = m := by omega
      by_cases hab : ea = eb
      · have hh : t.heard = i := by rw [EpSt.fin (t := t) (by rw [HFs.out, HM.out]; exact hS.out) hab]; exact HBl.out
        have qab : ((ea : Int) != (eb : Int)) = false := by simp; omega
        clear hab
        go_wp2_with fail
        refine (two_heard hT.out.symm).mono ?_
        rintro e w6 ⟨rfl, rfl⟩
        rw [hh]
        go_wp2_with fail
        refine (works_any _).mono ?_
        rintro e w8 ⟨rfl, hb8⟩
        have HB8 := hide (hBq.out.trans (hb8.mono swr))
        clear hb8
        go_wp2
        go_ret
        exact ⟨rfl, HB8.out⟩
      have qab : ((ea : Int) != (eb : Int)) = true := by simp; omega
      clear hab
      go_wp2_with fail
      refine (works_any _).mono ?_
      rintro e w8 ⟨rfl, hb8⟩
      have HB8 := hide (hBq.out.trans (hb8.mono swr))
      clear hb8
      go_wp2
      go_ret
      exact ⟨rfl, HB8.out⟩
end Go.Proofs.Ytigmmikijjcdiaa
