/- The walk of the statement LinkThrough. (printed by gen/lth.py) -/
import Derived.Test.YtigmmikijjcdiaaProg
import Derived.Test.YtigmmikijjcdiaaLep
import Derived.Test.YtigmmikijjcdiaaLkt
import Derived.Deep.DeepCutAuto
import Derived.Lib.Hide
import Derived.WalkSpells
import Derived.WalkMore
import Derived.IntWalk
import Derived.Deep.CutBlock
namespace Go.Proofs.Ytigmmikijjcdiaa
open Go.RowKit
set_option linter.unusedVariables false
set_option linter.unusedSimpArgs false
theorem str_kept {v : World} {A : Option Addr} {bs : List UInt8} {n c : Nat} (h : Rd v v.heap.size A (u8s bs)) (hn : bs.length = n) : ∀ w, Kept v w → (convert 23 9 (.slice A n c)).run Try.prog w = .ok (.string ⟨bs.toArray⟩) w := by
  subst hn
  intro w hk
  exact run_string_of w 23 9 5 A c _ bs Try.underlying23 Try.underlying5 Try.underlying9 (h.keep hk)
/-- how far the first end has heard the ack -/
def GSt (bs : List BL) (s1 : Nat) (gs : List BL) (Y : LE) (j : Nat) (Z : LE) : Prop :=
  (gs = [] ∧ j = 0 ∧ TSt bs s1 0 Z Y) ∨ (∃ f X, gs = [f] ∧ f.length ≤ 3000000 ∧ f ≠ [] ∧ (hearL X f).1 = 0 ∧ (hearL X f).2.1 = [] ∧ TSt bs s1 0 (hearL X f).2.2 Y ∧ X.heard = 0 ∧ ((j = 0 ∧ Z = X) ∨ (j = 1 ∧ Z = (hearL X f).2.2)))
theorem GSt.heard {bs : List BL} {s1 : Nat} {gs : List BL} {Y : LE} {j : Nat} {Z : LE} (h : GSt bs s1 gs Y j Z) : Z.heard = 0 := by
  rcases h with ⟨_, _, h⟩ | ⟨f', X, rfl, h1, h2, h3, h4, h5, h6, ⟨rfl, rfl⟩ | ⟨rfl, rfl⟩⟩
  · exact h.bwd.heard
  · exact h6
  · exact h5.bwd.heard
theorem GSt.len {bs : List BL} {s1 : Nat} {gs : List BL} {Y : LE} {j : Nat} {Z : LE} (h : GSt bs s1 gs Y j Z) : gs.length ≤ 1 ∧ j ≤ gs.length := by
  rcases h with ⟨rfl, rfl, _⟩ | ⟨f, X, rfl, _, _, _, _, _, _, ⟨rfl, _⟩ | ⟨rfl, _⟩⟩ <;> simp
theorem GSt.step {bs : List BL} {s1 : Nat} {gs : List BL} {Y : LE} {j : Nat} {Z : LE} {f : BL} (h : GSt bs s1 gs Y j Z) (hf : gs[j]? = some f) : f.length ≤ 3000000 ∧ f ≠ [] ∧ (hearL Z f).1 = 0 ∧ (hearL Z f).2.1 = [] ∧ GSt bs s1 gs Y (j + 1) (hearL Z f).2.2 := by
  rcases h with ⟨rfl, rfl, _⟩ | ⟨f', X, rfl, h1, h2, h3, h4, h5, h6, ⟨rfl, rfl⟩ | ⟨rfl, rfl⟩⟩
  · simp at hf
  · simp at hf
    subst hf
    exact ⟨h1, h2, h3, h4, .inr ⟨f', Z, rfl, h1, h2, h3, h4, h5, h6, .inr ⟨rfl, rfl⟩⟩⟩
  · simp at hf
theorem GSt.fin {bs : List BL} {s1 : Nat} {gs : List BL} {Y : LE} {j : Nat} {Z : LE} (h : GSt bs s1 gs Y j Z) (hj : j = gs.length) : TSt bs s1 0 Z Y := by
  rcases h with ⟨rfl, rfl, h⟩ | ⟨f', X, rfl, h1, h2, h3, h4, h5, h6, ⟨rfl, rfl⟩ | ⟨rfl, rfl⟩⟩
  · exact h
  · simp at hj
  · exact h5
set_option maxRecDepth 100000 in
set_option maxHeartbeats 16000000 in
theorem linkThrough_walk (w : World) (a : Int) (ha1 : -9223372036854775808 ≤ a) (ha2 : a ≤ 9223372036854775807) (A : Option Addr) (rs : List Row) (c : Nat) (hE : Rows w w.heap.size A rs) (hl : rs.length ≤ 9223372036854775807) (hk : ∀ r ∈ rs, r.2.1.length ≤ 140737488351232) (At : Option Addr) (ts : List UInt8) (ct : Nat) (hTs : Rd w w.heap.size At (u8s ts)) (hlt : ts.length ≤ 9223372036854775807) :
    Calls Try.prog 3 #[.int .i64 a, .slice A rs.length c, .slice At ts.length ct] w fun e w' => e = .returned (.bool true) ∧ Below w.heap.size w w' := by
  obtain ⟨n, hn⟩ : ∃ n, rs.length = n := ⟨_, rfl⟩
  rw [hn] at hl ⊢
  have HN := hide hn
  have HE := hide hE
  obtain ⟨nt, hnt⟩ : ∃ n, ts.length = n := ⟨_, rfl⟩
  rw [hnt] at hlt ⊢
  have HNt := hide hnt
  have HTs := hide hTs
  clear hn hE hk hnt hTs
  by_cases a0 : a < 0
  · go_enter Try.func3, Try.ntmps3
    go_wp2_with fail
    refine (works_any _).mono ?_
    rintro e w1 ⟨rfl, hb⟩
    have HB := hide hb
    clear hb
    go_wp2
    go_ret
    exact ⟨rfl, HB.out⟩
  by_cases a1 : 4611686018427387904 < a
  · go_enter Try.func3, Try.ntmps3
    go_wp2_with fail
    refine (works_any _).mono ?_
    rintro e w1 ⟨rfl, hb⟩
    have HB := hide hb
    clear hb
    go_wp2
    go_ret
    exact ⟨rfl, HB.out⟩
  by_cases n0 : (64 : Int) < (n : Int)
  · go_enter Try.func3, Try.ntmps3
    go_wp2_with fail
    refine (works_any _).mono ?_
    rintro e w1 ⟨rfl, hb⟩
    have HB := hide hb
    clear hb
    go_wp2
    go_ret
    exact ⟨rfl, HB.out⟩
  obtain ⟨ea, rfl⟩ := Int.eq_ofNat_of_zero_le (show 0 ≤ a by omega)
  have hea : ea ≤ 4611686018427387904 := by omega
  have hn64 : n ≤ 64 := by omega
  obtain ⟨bs, hbs⟩ : ∃ l, rs.map (fun r => r.2.1) = l := ⟨_, rfl⟩
  have hbl : bs.length = n := by rw [← hbs, List.length_map]; exact HN.out
  have HBs := hide hbs
  have HBl := hide hbl
  clear hbs hbl
  go_enter Try.func3, Try.ntmps3
  go_wp2_with fail
  have ho1 := lopen_any w (ea : Int)
  rw [epN_small hea] at ho1
  have HO := hide ho1
  refine HO.out.mono ?_
  clear ho1 HO
  rintro e w1 ⟨P1, M1, rfl, hE1, hp1, hm1, hb1⟩
  go_wp2_with fail
  have ho1 := lopen_any w1 (ea : Int)
  rw [epN_small hea] at ho1
  refine ho1.mono ?_
  clear ho1
  rintro e w2 ⟨P2, M2, rfl, hE2, hp2, hm2, hb2⟩
  have HT0 : Hid (Two w2 w.heap.size w2.heap.size (100 * 0) P1 P2 (openL ea) (openL ea)) := hide (Two.opened hE1 hp1 hm1 hE2 hp2 hm2 hb2)
  have HBb : Hid (Below w.heap.size w w2) := hide (hb1.trans (hb2.mono hb1.size))
  have HTS0 : Hid (TSt bs 0 0 (openL ea) (openL ea)) := hide (TSt.start ea bs)
  clear hE1 hp1 hm1 hE2 hp2 hm2 hb1 hb2
  go_wp2
  go_loopw [9, 10, 11] (fun v9 v10 v11 wr => ∃ (t s0 : Nat) (x y : LE), t ≤ n + 1 ∧ s0 ≤ n ∧ v9 = .int .i64 (s0 : Int) ∧ v10 = .int .i64 (s0 : Int) ∧ v11 = .int .i64 (t : Int) ∧ Hid (t = n + 1 → s0 = n) ∧ Hid (Two wr w.heap.size wr.heap.size (100 * t) P1 P2 x y) ∧ Hid (TSt bs s0 0 x y) ∧ Hid (Below w.heap.size w wr)) (fun _ _ v11 _ => n + 1 - (intOf v11).toNat)
  case atStart => exact ⟨0, 0, _, _, by omega, by omega, rfl, rfl, rfl, hide (by omega), HT0, HTS0, HBb⟩
  case round =>
    clear HT0 HBb HTS0
    obtain ⟨t, s0, x, y, ht, hs, rfl, rfl, rfl, HFin0, hT, hS, hB⟩ := hrel
    obtain ⟨wa, rfl⟩ : ∃ z : World, z = wr := ⟨_, rfl⟩
    have swa : w.heap.size ≤ wa.heap.size := hB.out.size
    by_cases htn : t ≤ n
    · have hI1 : (t : Int) ≤ (n : Int) := by omega
      have hI0 : (0 : Int) ≤ (t : Int) := by omega
      have kw : IntKind.i64.wrap ((n : Int) - (s0 : Int)) = (n : Int) - (s0 : Int) := IntWalk.i64_in _ (by omega)
      go_upto_region 9 with fail
      go_cut [58] (fun v58 wc => ∃ q : Bool, v58 = .bool q ∧ Hid (q = true → t < nt ∧ t < n) ∧ wa = wc)
      case first =>
        by_cases q1 : t < nt
        rotate_left
        · have q2 : ¬ (t : Int) < (nt : Int) := by omega
          go_wp2
          go_meet
          case rel => exact ⟨false, rfl, hide (fun h => by cases h), rfl⟩
        have q2 : (t : Int) < (nt : Int) := by omega
        by_cases q3 : t < n
        rotate_left
        · have q4 : ¬ (t : Int) < (n : Int) := by omega
          go_wp2
          go_meet
          case rel => exact ⟨false, rfl, hide (fun h => by cases h), rfl⟩
        have q4 : (t : Int) < (n : Int) := by omega
        go_wp2
        go_meet
        case rel => exact ⟨true, rfl, hide (fun _ => ⟨q1, q3⟩), rfl⟩
      case rest =>
        obtain ⟨q, rfl, HQ, rfl⟩ := hcut
        go_upto_if 58 with fail
        go_cut [12] (fun v12 wc => ∃ mk : Nat, v12 = .int .i64 (mk : Int) ∧ Hid (mk ≤ n - s0 ∧ (t = n → mk = n - s0)) ∧ wa = wc)
        case first =>
          rcases q with _ | _
          · have he : (n : Int) - (s0 : Int) = ((n - s0 : Nat) : Int) := by omega
            rw [he]
            clear he
            go_wp2
            go_meet
            case rel => exact ⟨n - s0, rfl, hide ⟨Nat.le_refl _, fun _ => rfl⟩, rfl⟩
          have hq := HQ.out rfl
          obtain ⟨z, hz⟩ : ∃ z, ts[t]? = some z := ⟨_, List.getElem?_eq_getElem (by rw [HNt.out]; exact hq.1)⟩
          obtain ⟨z2, hz2⟩ : ∃ z2, z.toNat = z2 := ⟨_, rfl⟩
          obtain ⟨g, off, rfl, hg, hc⟩ := (HTs.out.below' hB.out (Nat.le_refl _)).at_ (k := t) (by rw [u8s_len, HNt.out]; exact hq.1)
          have hcz := hc t (.int .u8 (z2 : Int)) (by unfold u8s; rw [List.getElem?_map, hz, ← hz2]; rfl)
          have hq5 : (t : Int) < (nt : Int) := by omega
          have hgw : g < wa.heap.size := by omega
          clear hc
          have hsn : s0 ≤ n := hs
          go_wp2
          · go_meet
            case rel => exact ⟨z2 % 5, by first | rfl | (congr 1; omega), hide ⟨by omega, fun h => by have := hq.2; omega⟩, rfl⟩
          · go_meet
            case rel => exact ⟨n - s0, by congr 1; omega, hide ⟨Nat.le_refl _, fun _ => rfl⟩, rfl⟩
        case rest =>
          obtain ⟨mk, rfl, HMk, rfl⟩ := hcut
          clear HQ
          have hmk := HMk.out.1
          go_wp2
          go_loopw [9, 13] (fun v9 v13 wr => ∃ (i : Nat) (x1 : LE), i ≤ mk ∧ v9 = .int .i64 ((s0 + i : Nat) : Int) ∧ v13 = .int .i64 (i : Int) ∧ Hid (Two wr w.heap.size wr.heap.size (100 * t) P1 P2 x1 y) ∧ Hid (TSt bs s0 i x1 y) ∧ Hid (Below w.heap.size w wr)) (fun _ v13 _ => mk - (intOf v13).toNat)
          case atStart => exact ⟨0, x, by omega, rfl, rfl, hT, hS, hB⟩
          case round =>
            clear hT hS hB
            obtain ⟨i, x1, hi, rfl, rfl, hT, hS, hB⟩ := hrel
            obtain ⟨wb, rfl⟩ : ∃ z : World, z = wr := ⟨_, rfl⟩
            have swb : w.heap.size ≤ wb.heap.size := hB.out.size
            by_cases hlt2 : i < mk
            · have hJ1 : (i : Int) < (mk : Int) := by omega
              obtain ⟨q, hq⟩ : ∃ q, s0 + i = q := ⟨_, rfl⟩
              rw [hq]
              have hqn : q < n := by omega
              have hJ2 : (0 : Int) ≤ (q : Int) := by omega
              have hJ3 : (q : Int) < (n : Int) := by omega
              have HQq := hide hq
              obtain ⟨⟨Ar, b, cr⟩, hr⟩ : ∃ r, rs[q]? = some r := ⟨_, List.getElem?_eq_getElem (by rw [HN.out]; exact hqn)⟩
              obtain ⟨g, off, rfl, hg, hc, hrd⟩ := (HE.out.below hB.out (Nat.le_refl _)).get hr
              have HBi : Hid (bs[q]? = some b) := hide (by rw [← HBs.out, List.getElem?_map, hr]; rfl)
              have hgw : g < wb.heap.size := by omega
              have HRd := hide (hrd.more swb)
              obtain ⟨bl, hbl⟩ : ∃ x, b.length = x := ⟨_, rfl⟩
              rw [hbl] at hc
              have HBl2 := hide hbl
              clear hbl hrd hr hq
              by_cases hbig : 200 < bl
              · have hq : (200 : Int) < (bl : Int) := by omega
                go_wp2_with fail
                refine (works_any _).mono ?_
                rintro e w3 ⟨rfl, hb3⟩
                have HB3 := hide (hB.out.trans (hb3.mono swb))
                clear hb3 hc
                go_wp2
                go_ret
                exact ⟨rfl, HB3.out⟩
              have hq : ¬ (200 : Int) < (bl : Int) := by omega
              have HSd := hide (hS.out.send (by rw [HQq.out]; exact HBi.out) (by rw [HBl2.out]; omega) (by omega) (by rw [HBl.out]; omega))
              go_wp2_with fail
              have hsd := two_send hT.out (Nat.le_refl _) Ar b cr HRd.out (by rw [HBl2.out]; omega) (by have := (hS.out.first (by rw [HBl.out]; omega)).2.1; omega)
              rw [HBl2.out] at hsd
              refine hsd.mono ?_
              clear hsd
              rintro e w3 ⟨rfl, ht3, hm⟩
              rw [HSd.out.1]
              have HT3 := hide ht3
              have HB3 := hide (hB.out.trans (hm.toBelow swb))
              clear ht3 hm hc
              go_wp2
              go_roundw
              case rel => exact ⟨i + 1, _, by omega, by have := HQq.out; go_num, by go_num, HT3, hide HSd.out.2, HB3⟩
              case measure => simp [intOf]; omega
            obtain rfl : i = mk := by omega
            have hJ1 : ¬ (i : Int) < (i : Int) := by omega
            obtain ⟨s1, hs1⟩ : ∃ z, s0 + i = z := ⟨_, rfl⟩
            rw [hs1]
            have HS1 := hide hs1
            have hs1n : s1 ≤ n := by omega
            clear hs1
            have HOk := hide hT.out.ok1
            have hsi : s0 + i ≤ n := by omega
            go_wp2_with fail
            refine (two_out hT.out).mono ?_
            rintro e w3 ⟨v3, rfl, hf, ht3, hm⟩
            obtain ⟨fs, hfs⟩ : ∃ z, (fromL x1 x1.fresh x1.owes).1 = z := ⟨_, rfl⟩
            obtain ⟨X, hX⟩ : ∃ z, (fromL x1 x1.fresh x1.owes).2 = z := ⟨_, rfl⟩
            rw [hfs] at hf
            rw [hX] at ht3
            have HX := hide hX
            have hfl : fs.length = i := by rw [← hfs]; exact hS.out.frames (by rw [HBl.out]; exact hsi)
            obtain ⟨Af, cf, hvf⟩ := hf.rd.form
            rw [hfl] at hvf
            subst hvf
            have HFl := hide hfl
            have HFs := hide hfs
            have HT3 := hide ht3
            have HF3 : Hid (FRw w3 wb.heap.size (.slice Af i cf) fs) := hide hf
            have HB3 : Hid (Below w.heap.size w w3) := hide (hB.out.trans (hm.toBelow swb))
            have HZ3 : Hid (wb.heap.size ≤ w3.heap.size) := hide hm.1
            have HRun := hide (hS.out.run (by rw [HBl.out]; exact hsi))
            have HTl0 : Hid ((bs.take s0).length = s0) := hide (take_len (by rw [HBl.out]; omega))
            clear hf ht3 hm hfs hX hfl hT hB
            go_wp2
            go_loopw [10, 15] (fun v10 v15 wr => ∃ (j : Nat) (y1 : LE) (gj : List BL) (h : Nat), j ≤ i ∧ v10 = .int .i64 (h : Int) ∧ v15 = .int .i64 (j : Int) ∧ Hid (gj.length = h) ∧ Hid (Two wr w.heap.size wb.heap.size (100 * t + j) P1 P2 X y1) ∧ Hid (Below w.heap.size w wr) ∧ Hid (wb.heap.size ≤ wr.heap.size) ∧ Hid (FRw wr wb.heap.size (.slice Af i cf) fs) ∧ Hid (TRun bs s0 i x1 y1 j gj)) (fun _ v15 _ => i - (intOf v15).toNat)
            case atStart => exact ⟨0, y, bs.take s0, s0, by omega, rfl, rfl, HTl0, HT3, HB3, HZ3, HF3, HRun⟩
            case round =>
              clear HT3 HB3 HF3 HRun HZ3
              obtain ⟨j, y1, gj, h, hj, rfl, rfl, HGl, hT, hB, hZ, hF, hR⟩ := hrel
              obtain ⟨wd, rfl⟩ : ∃ z : World, z = wr := ⟨_, rfl⟩
              have swd : w.heap.size ≤ wd.heap.size := hB.out.size
              have hyb : y1.heard ≤ 64 := by have h1 := hR.out.runs.fwd.heard; have h2 := hR.out.runs.fwd.glen; rw [List.length_take, HBl.out] at h2; omega
              by_cases hlt3 : j < i
              · have hL1 : (j : Int) < (i : Int) := by omega
                have hL0 : (0 : Int) ≤ (j : Int) := by omega
                obtain ⟨f, hf⟩ : ∃ f, fs[j]? = some f := ⟨_, List.getElem?_eq_getElem (by rw [HFl.out]; exact hlt3)⟩
                obtain ⟨st1, st2, st3, st4, st5, st6⟩ := TRun.step hS.out (by rw [HBl.out]; exact hsi) HOk.out hR.out (by rw [HFs.out]; exact hf)
                obtain ⟨-, g, off, A1, c1, rfl, hg, hc, hr, hcap⟩ := hF.out.rd.get hf
                have HR1 := hide hr
                have HK1 := hide (hcap st5)
                have HL1 := hide st4
                have HSt1 := hide st1
                have HSt2 := hide st2
                have HSt3 := hide st3
                obtain ⟨fl, hfl⟩ : ∃ x, f.length = x := ⟨_, rfl⟩
                rw [hfl] at hc
                have HFl2 := hide hfl
                clear hr hcap st1 st2 st3 st4 st5 st6 hfl hf
                go_wp2_with fail
                have hhr := two_hear hT.out A1 f c1 HR1.out HL1.out HK1.out.1 HK1.out.2 (by omega) (by omega)
                rw [HFl2.out] at hhr
                refine hhr.mono ?_
                clear hhr
                rintro e w5 ⟨v5, rfl, ht5, hb, hm⟩
                rw [HSt1.out]
                obtain ⟨ms, hms⟩ : ∃ z, (hearL y1 f).2.1 = z := ⟨_, rfl⟩
                rw [hms] at hb HSt2 HSt3
                have HT5 := hide ht5
                have HB5 : Hid (Below w.heap.size w w5) := hide (hB.out.trans (hm.toBelow swd))
                have HF5 := hide (hF.out.mid hm (Nat.le_refl _))
                have HZ5 : Hid (wb.heap.size ≤ w5.heap.size) := hide (Nat.le_trans hZ.out hm.1)
                obtain ⟨A5, c5, rfl⟩ := hb.rd.form
                have HV5 : Hid (RdRows w5 (.slice A5 ms.length c5) ms) := hide hb.rd
                obtain ⟨ml, hml⟩ : ∃ z, ms.length = z := ⟨_, rfl⟩
                rw [hml] at HV5 ⊢
                have HMl := hide hml
                have HMb : Hid (h + ml ≤ n) := hide (by have h1 := HSt2.out.runs.fwd.glen; rw [List.length_append, List.length_take, HBl.out, HGl.out, hml] at h1; omega)
                have hmb := HMb.out
                have swe0 : w.heap.size ≤ w5.heap.size := HB5.out.size
                clear ht5 hb hm hms hml hc
                go_wp2
                go_loopw [10, 18] (fun v10 v18 wr => ∃ kk : Nat, kk ≤ ml ∧ v10 = .int .i64 ((h + kk : Nat) : Int) ∧ v18 = .int .i64 (kk : Int) ∧ Hid (Below w5.heap.size w5 wr)) (fun _ v18 _ => ml - (intOf v18).toNat)
                case atStart => exact ⟨0, by omega, rfl, rfl, hide (Below.refl _ _)⟩
                case round =>
                  obtain ⟨kk, hkk, rfl, rfl, hBe⟩ := hrel
                  obtain ⟨we, rfl⟩ : ∃ z : World, z = wr := ⟨_, rfl⟩
                  have swe : w5.heap.size ≤ we.heap.size := hBe.out.size
                  obtain ⟨hk0, hhk⟩ : ∃ z, h + kk = z := ⟨_, rfl⟩
                  rw [hhk]
                  by_cases hlt4 : kk < ml
                  · have hM1 : (kk : Int) < (ml : Int) := by omega
                    have hM0 : (0 : Int) ≤ (kk : Int) := by omega
                    have hH1 : (hk0 : Int) < (n : Int) := by omega
                    have hH2 : ¬ (n : Int) ≤ (hk0 : Int) := by omega
                    have hH0 : (0 : Int) ≤ (hk0 : Int) := by omega
                    obtain ⟨b, hb⟩ : ∃ b, ms[kk]? = some b := ⟨_, List.getElem?_eq_getElem (by rw [HMl.out]; exact hlt4)⟩
                    have hbb : bs[hk0]? = some b := by have h1 := HSt3.out kk b hb; rw [HGl.out] at h1; rw [← hhk]; exact h1
                    have HHk := hide hhk
                    clear hhk
                    obtain ⟨⟨Ar, b', cr⟩, hr⟩ : ∃ r, rs[hk0]? = some r := ⟨_, List.getElem?_eq_getElem (by rw [HN.out]; omega)⟩
                    obtain rfl : b' = b := by rw [← HBs.out, List.getElem?_map, hr] at hbb; injection hbb
                    obtain ⟨g, off, rfl, hg, hc, hrd⟩ := (HE.out.below (HB5.out.trans (hBe.out.mono swe0)) (Nat.le_refl _)).get hr
                    obtain ⟨-, g5, o5, A6, c6, rfl, hg5, hc5, hr5, -⟩ := (HV5.out.next hBe.out).get hb
                    have hgw : g < we.heap.size := by omega
                    obtain ⟨bl, hbl⟩ : ∃ x, b'.length = x := ⟨_, rfl⟩
                    rw [hbl] at hc hc5
                    have hk1 := hide (str_kept (c := c6) hr5 hbl)
                    have hk2 := hide (str_kept (c := cr) (hrd.more (Nat.le_trans swe0 swe)) hbl)
                    clear hrd hr5 hr hb hbb hbl
                    go_upto_region 29 with fail
                    refine wp_region_held_drew (S := Kept we) (by kernel_rfl) (Kept.drew we) (fun hS0 => ?_)
                    refine take_at (i := 0) (d := 113) (v := ?_) (by simp only [List.getElem?_toArray, List.getElem?_cons_succ, List.getElem?_cons_zero]; rfl) rfl (by kernel_rfl) (by kernel_rfl) (by kernel_rfl) (fun _ _ _ h => h) rfl ?_ (by assumption) ?_
                    rotate_left
                    focus (intro w hSw; go_simp; (try with_reducible rfl); done)
                    try simp only [List.setIfInBounds_toArray, List.set_cons_zero, List.set_cons_succ]
                    refine take_at (i := 1) (d := 114) (v := ?_) (by simp only [List.getElem?_toArray, List.getElem?_cons_succ, List.getElem?_cons_zero]; rfl) rfl (by kernel_rfl) (by kernel_rfl) (by kernel_rfl) (fun _ _ _ h => h) rfl ?_ (by assumption) ?_
                    rotate_left
                    focus (intro w hSw; go_simp; (try with_reducible rfl); done)
                    try simp only [List.setIfInBounds_toArray, List.set_cons_zero, List.set_cons_succ]
                    refine take_at (i := 2) (d := 115) (v := ?_) (by simp only [List.getElem?_toArray, List.getElem?_cons_succ, List.getElem?_cons_zero]; rfl) rfl (by kernel_rfl) (by kernel_rfl) (by kernel_rfl) (fun _ _ _ h => h) rfl ?_ (by assumption) ?_
                    rotate_left
                    focus (intro w hSw; go_simp; (try with_reducible rfl); done)
                    try simp only [List.setIfInBounds_toArray, List.set_cons_zero, List.set_cons_succ]
                    refine take_at (i := 3) (d := 116) (v := ?_) (by simp only [List.getElem?_toArray, List.getElem?_cons_succ, List.getElem?_cons_zero]; rfl) rfl (by kernel_rfl) (by kernel_rfl) (by kernel_rfl) (fun _ _ _ h => h) rfl ?_ (by assumption) ?_
                    rotate_left
                    focus (intro w hSw; go_simp; (try with_reducible rfl); done)
                    try simp only [List.setIfInBounds_toArray, List.set_cons_zero, List.set_cons_succ]
                    refine take_at (i := 4) (d := 117) (v := ?_) (by simp only [List.getElem?_toArray, List.getElem?_cons_succ, List.getElem?_cons_zero]; rfl) rfl (by kernel_rfl) (by kernel_rfl) (by kernel_rfl) (fun _ _ _ h => h) rfl ?_ (by assumption) ?_
                    rotate_left
                    focus (intro w hSw; go_simp; (try with_reducible rfl); done)
                    try simp only [List.setIfInBounds_toArray, List.set_cons_zero, List.set_cons_succ]
                    refine take_at (i := 5) (d := 118) (v := ?_) (by simp only [List.getElem?_toArray, List.getElem?_cons_succ, List.getElem?_cons_zero]; rfl) rfl (by kernel_rfl) (by kernel_rfl) (by kernel_rfl) (fun _ _ _ h => h) rfl ?_ (by assumption) ?_
                    rotate_left
                    focus (intro w hSw; go_simp; (try with_reducible rfl); done)
                    try simp only [List.setIfInBounds_toArray, List.set_cons_zero, List.set_cons_succ]
                    refine take_at (i := 6) (d := 119) (v := ?_) (by simp only [List.getElem?_toArray, List.getElem?_cons_succ, List.getElem?_cons_zero]; rfl) rfl (by kernel_rfl) (by kernel_rfl) (by kernel_rfl) (fun _ _ _ h => h) rfl ?_ (by assumption) ?_
                    rotate_left
                    focus (intro w hSw; go_simp; (try with_reducible rfl); done)
                    try simp only [List.setIfInBounds_toArray, List.set_cons_zero, List.set_cons_succ]
                    refine take_at (i := 7) (d := 120) (v := ?_) (by simp only [List.getElem?_toArray, List.getElem?_cons_succ, List.getElem?_cons_zero]; rfl) rfl (by kernel_rfl) (by kernel_rfl) (by kernel_rfl) (fun _ _ _ h => h) rfl ?_ (by assumption) ?_
                    rotate_left
                    focus (intro w hSw; go_simp; (try with_reducible rfl); done)
                    try simp only [List.setIfInBounds_toArray, List.set_cons_zero, List.set_cons_succ]
                    refine take_at (i := 8) (d := 121) (v := ?_) (by simp only [List.getElem?_toArray, List.getElem?_cons_succ, List.getElem?_cons_zero]; rfl) rfl (by kernel_rfl) (by kernel_rfl) (by kernel_rfl) (fun _ _ _ h => h) rfl ?_ (by assumption) ?_
                    rotate_left
                    focus (intro w hSw; go_simp; (try with_reducible rfl); done)
                    try simp only [List.setIfInBounds_toArray, List.set_cons_zero, List.set_cons_succ]
                    refine take_at (i := 9) (d := 122) (v := ?_) (by simp only [List.getElem?_toArray, List.getElem?_cons_succ, List.getElem?_cons_zero]; rfl) rfl (by kernel_rfl) (by kernel_rfl) (by kernel_rfl) (fun _ _ _ h => h) rfl ?_ (by assumption) ?_
                    rotate_left
                    focus (intro w hSw; have hh := hk1.out w hSw; go_simp; (try with_reducible rfl); done)
                    try simp only [List.setIfInBounds_toArray, List.set_cons_zero, List.set_cons_succ]
                    refine take_at (i := 10) (d := 123) (v := ?_) (by simp only [List.getElem?_toArray, List.getElem?_cons_succ, List.getElem?_cons_zero]; rfl) rfl (by kernel_rfl) (by kernel_rfl) (by kernel_rfl) (fun _ _ _ h => h) rfl ?_ (by assumption) ?_
                    rotate_left
                    focus (intro w hSw; go_simp; (try with_reducible rfl); done)
                    try simp only [List.setIfInBounds_toArray, List.set_cons_zero, List.set_cons_succ]
                    refine take_at (i := 11) (d := 124) (v := ?_) (by simp only [List.getElem?_toArray, List.getElem?_cons_succ, List.getElem?_cons_zero]; rfl) rfl (by kernel_rfl) (by kernel_rfl) (by kernel_rfl) (fun _ _ _ h => h) rfl ?_ (by assumption) ?_
                    rotate_left
                    focus (intro w hSw; go_simp; (try with_reducible rfl); done)
                    try simp only [List.setIfInBounds_toArray, List.set_cons_zero, List.set_cons_succ]
                    refine take_at (i := 12) (d := 125) (v := ?_) (by simp only [List.getElem?_toArray, List.getElem?_cons_succ, List.getElem?_cons_zero]; rfl) rfl (by kernel_rfl) (by kernel_rfl) (by kernel_rfl) (fun _ _ _ h => h) rfl ?_ (by assumption) ?_
                    rotate_left
                    focus (intro w hSw; go_simp; (try with_reducible rfl); done)
                    try simp only [List.setIfInBounds_toArray, List.set_cons_zero, List.set_cons_succ]
                    refine take_at (i := 13) (d := 126) (v := ?_) (by simp only [List.getElem?_toArray, List.getElem?_cons_succ, List.getElem?_cons_zero]; rfl) rfl (by kernel_rfl) (by kernel_rfl) (by kernel_rfl) (fun _ _ _ h => h) rfl ?_ (by assumption) ?_
                    rotate_left
                    focus (intro w hSw; go_simp; (try with_reducible rfl); done)
                    try simp only [List.setIfInBounds_toArray, List.set_cons_zero, List.set_cons_succ]
                    refine take_at (i := 14) (d := 127) (v := ?_) (by simp only [List.getElem?_toArray, List.getElem?_cons_succ, List.getElem?_cons_zero]; rfl) rfl (by kernel_rfl) (by kernel_rfl) (by kernel_rfl) (fun _ _ _ h => h) rfl ?_ (by assumption) ?_
                    rotate_left
                    focus (intro w hSw; have hh := hk2.out w hSw; go_simp; (try with_reducible rfl); done)
                    try simp only [List.setIfInBounds_toArray, List.set_cons_zero, List.set_cons_succ]
                    refine take_at (i := 15) (d := 128) (v := ?_) (by simp only [List.getElem?_toArray, List.getElem?_cons_succ, List.getElem?_cons_zero]; rfl) rfl (by kernel_rfl) (by kernel_rfl) (by kernel_rfl) (fun _ _ _ h => h) rfl ?_ (by assumption) ?_
                    rotate_left
                    focus (intro w hSw; go_simp; (try with_reducible rfl); done)
                    try simp only [List.setIfInBounds_toArray, List.set_cons_zero, List.set_cons_succ]
                    refine take_at (i := 16) (d := 129) (v := ?_) (by simp only [List.getElem?_toArray, List.getElem?_cons_succ, List.getElem?_cons_zero]; rfl) rfl (by kernel_rfl) (by kernel_rfl) (by kernel_rfl) (fun _ _ _ h => h) rfl ?_ (by assumption) ?_
                    rotate_left
                    focus (intro w hSw; go_simp; (try with_reducible rfl); done)
                    try simp only [List.setIfInBounds_toArray, List.set_cons_zero, List.set_cons_succ]
                    refine wpAnyH_done (by kernel_rfl) ?_ _
                    clear hS0 hc hc5 hk1 hk2
                    have HB6 := hide hBe.out.drew
                    go_wp2
                    go_roundw
                    case rel => exact ⟨kk + 1, by omega, by have := HHk.out; go_num, by go_num, HB6⟩
                    case measure => simp [intOf]; omega
                  obtain rfl : kk = ml := by omega
                  have hM1 : ¬ (kk : Int) < (kk : Int) := by omega
                  have HGn : Hid ((gj ++ ms).length = hk0) := hide (by rw [List.length_append, HGl.out, HMl.out]; exact hhk)
                  clear hhk
                  have HTe := hide (HT5.out.next hBe.out)
                  have HBe := hide (HB5.out.trans (hBe.out.mono swe0))
                  have HFe := hide (HF5.out.next hBe.out)
                  have HZe : Hid (wb.heap.size ≤ we.heap.size) := hide (Nat.le_trans HZ5.out swe)
                  go_wp2
                  go_roundw
                  case rel => exact ⟨j + 1, _, _, hk0, by omega, rfl, by go_num, HGn, HTe, HBe, HZe, HFe, HSt2⟩
                  case measure => simp [intOf]; omega
              obtain rfl : j = i := by omega
              have hL1 : ¬ (j : Int) < (j : Int) := by omega
              obtain ⟨hgl, hcase⟩ := TRun.fin hS.out (by rw [HBl.out]; exact hsi) hR.out HOk.out hT.out.ok2
              rw [HX.out, HS1.out] at hcase
              rw [HGl.out, HS1.out] at hgl
              subst hgl
              have HCase := hide hcase
              clear hcase
              go_wp2_with fail
              refine (two_out hT.out.symm).mono ?_
              rintro e w7 ⟨v7, rfl, hf, ht7, hm⟩
              obtain ⟨gs, hgs⟩ : ∃ z, (fromL y1 y1.fresh y1.owes).1 = z := ⟨_, rfl⟩
              obtain ⟨Y, hY⟩ : ∃ z, (fromL y1 y1.fresh y1.owes).2 = z := ⟨_, rfl⟩
              rw [hgs] at hf
              rw [hY] at ht7
              have HG0 : Hid (GSt bs h gs Y 0 X) := hide (by
                have hc := HCase.out
                rw [hgs, hY] at hc
                rcases hc with ⟨_, q1, q2⟩ | ⟨_, f, q1, q2, q3, q4, q5, q6⟩
                · exact .inl ⟨q1, rfl, q2⟩
                · exact .inr ⟨f, X, q1, q2, q3, q4, q5, q6, by rw [← HX.out]; exact hS.out.bwd.heard, .inl ⟨rfl, rfl⟩⟩)
              obtain ⟨Ag, cg, rfl⟩ := hf.rd.form
              obtain ⟨gl, hgl⟩ : ∃ z, gs.length = z := ⟨_, rfl⟩
              rw [hgl] at hf ⊢
              have HGll := hide hgl
              have HF7 : Hid (FRw w7 wd.heap.size (.slice Ag gl cg) gs) := hide hf
              have HT7 : Hid (Two w7 w.heap.size wb.heap.size (100 * t + j + 0) P1 P2 X Y) := hide ht7.symm
              have HB7 : Hid (Below w.heap.size w w7) := hide (hB.out.trans (hm.toBelow swd))
              have HZ7 : Hid (wb.heap.size ≤ w7.heap.size) := hide (Nat.le_trans hZ.out hm.1)
              have hgl1 := HG0.out.len.1
              rw [hgl] at hgl1
              clear hf ht7 hm hgs hY hgl hT hB
              go_wp2
              go_loopw [20] (fun v20 wr => ∃ (jj : Nat) (Z : LE), jj ≤ gl ∧ v20 = .int .i64 (jj : Int) ∧ Hid (Two wr w.heap.size wb.heap.size (100 * t + j + jj) P1 P2 Z Y) ∧ Hid (Below w.heap.size w wr) ∧ Hid (wb.heap.size ≤ wr.heap.size) ∧ Hid (FRw wr wd.heap.size (.slice Ag gl cg) gs) ∧ Hid (GSt bs h gs Y jj Z)) (fun v20 _ => gl - (intOf v20).toNat)
              case atStart => exact ⟨0, X, by omega, rfl, HT7, HB7, HZ7, HF7, HG0⟩
              case round =>
                clear HT7 HB7 HZ7 HF7 HG0
                obtain ⟨jj, Z, hjj, rfl, hT, hB, hZ2, hF, hG⟩ := hrel
                obtain ⟨wf, rfl⟩ : ∃ z : World, z = wr := ⟨_, rfl⟩
                have swf : w.heap.size ≤ wf.heap.size := hB.out.size
                by_cases hlt5 : jj < gl
                · have hL1 : (jj : Int) < (gl : Int) := by omega
                  have hL0 : (0 : Int) ≤ (jj : Int) := by omega
                  obtain ⟨f, hf⟩ : ∃ f, gs[jj]? = some f := ⟨_, List.getElem?_eq_getElem (by rw [HGll.out]; exact hlt5)⟩
                  obtain ⟨st1, st2, st3, st4, st5⟩ := hG.out.step hf
                  obtain ⟨-, g, off, A1, c1, rfl, hg, hc, hr, hcap⟩ := hF.out.rd.get hf
                  have HR1 := hide hr
                  have HK1 := hide (hcap st2)
                  have HL1 := hide st1
                  have HSt3 := hide st3
                  have HSt4 := hide st4
                  have HSt5 := hide st5
                  obtain ⟨fl, hfl⟩ : ∃ x, f.length = x := ⟨_, rfl⟩
                  rw [hfl] at hc
                  have HFl2 := hide hfl
                  have hzh : Z.heard ≤ 0 := by rw [hG.out.heard]; exact Nat.le_refl _
                  clear hr hcap st1 st2 st3 st4 st5 hfl hf
                  go_wp2_with fail
                  have hhr := two_hear hT.out.symm A1 f c1 HR1.out HL1.out HK1.out.1 HK1.out.2 (by omega) (by omega)
                  rw [HFl2.out] at hhr
                  refine hhr.mono ?_
                  clear hhr
                  rintro e w8 ⟨v8, rfl, ht8, hb, hm⟩
                  rw [HSt3.out]
                  have hv8 := hb.rd.form
                  rw [HSt4.out] at hv8
                  obtain ⟨A8, c8, rfl⟩ := hv8
                  have HT8 := hide ht8.symm
                  have HB8 : Hid (Below w.heap.size w w8) := hide (hB.out.trans (hm.toBelow swf))
                  have HF8 := hide (hF.out.mid hm hZ.out)
                  have HZ8 : Hid (wb.heap.size ≤ w8.heap.size) := hide (Nat.le_trans hZ2.out hm.1)
                  clear ht8 hb hm hc
                  go_wp2
                  go_roundw
                  case rel => exact ⟨jj + 1, _, by omega, by go_num, HT8, HB8, HZ8, HF8, HSt5⟩
                  case measure => simp [intOf]; omega
                obtain rfl : jj = gl := by omega
                have hL1 : ¬ (jj : Int) < (jj : Int) := by omega
                have HTS := hide (hG.out.fin HGll.out.symm)
                have HTw : Hid (Two wf w.heap.size wf.heap.size (100 * (t + 1)) P1 P2 Z Y) := hide (hT.out.mono hZ2.out (by omega))
                have kw9 : IntKind.i64.wrap ((h : Int) + 1) = (h : Int) + 1 := IntWalk.i64_in _ (by omega)
                have HNx : Hid ((Z.next : Int) = (h : Int) + 1) := hide (by have := (HTS.out.first (by rw [HBl.out]; omega)).2.1; omega)
                have HYh : Hid (Y.heard = h) := hide (HTS.out.first (by rw [HBl.out]; omega)).2.2
                have HLast : Hid (t + 1 = n + 1 → h = n) := hide (fun e => by have := HMk.out.2 (by omega); have := HS1.out; omega)
                go_wp2_with fail
                refine (two_waits HTw.out).mono ?_
                rintro e w9 ⟨rfl, rfl⟩
                rw [HTS.out.slen]
                go_wp2_with fail
                refine (two_heard HTw.out.symm).mono ?_
                rintro e w10 ⟨rfl, rfl⟩
                rw [HYh.out]
                go_wp2_with fail
                refine (two_next HTw.out).mono ?_
                rintro e w11 ⟨rfl, rfl⟩
                rw [HNx.out]
                go_wp2
                go_roundw
                case rel => exact ⟨t + 1, h, Z, Y, by omega, by omega, rfl, rfl, by go_num, HLast, HTw, HTS, hB⟩
                case measure => simp [intOf]; omega
    have hI1 : ¬ (t : Int) ≤ (n : Int) := by omega
    have hsn := HFin0.out (by omega)
    have qe : ((s0 : Int) == (n : Int)) = true := by simp; omega
    clear hsn
    go_wp2_with fail
    refine (works_any _).mono ?_
    rintro e w8 ⟨rfl, hb8⟩
    have HB8 := hide (hB.out.trans (hb8.mono swa))
    clear hb8
    go_wp2
    go_ret
    exact ⟨rfl, HB8.out⟩
end Go.Proofs.Ytigmmikijjcdiaa
