/- works of law18. (printed by gen/lkz.py) -/
import Derived.Test.YtigmmikijjcdiaaProg
import Derived.Test.YtigmmikijjcdiaaLqLkd
import Derived.Test.YtigmmikijjcdiaaLqLkx
import Derived.Deep.DeepCutAuto
import Derived.Lib.Hide
import Derived.WalkSpells
import Derived.WalkMore
import Derived.IntWalk
import Derived.Lib.SlBytesConst









namespace Go.Proofs.Ytigmmikijjcdiaa
open Go.RowKit
set_option linter.unusedVariables false
set_option linter.unusedSimpArgs false
def zA1 : LE := (sendL (openL 7) [97]).2
def zA2 : LE := (sendL zA1 [98]).2
def zA3 : LE := (fromL zA2 zA2.fresh zA2.owes).2
def zF0 : BL := fr 1 [97] [7, 0, 1]
def zF1 : BL := fr 1 [98] [7, 0, 2]
def zK : BL := fr 2 [] [7, 2]
def zB1 : LE := (tellL 65 (putL (ackL (openL 7) 0) 2 [98])).2
def zB2 : LE := (tellL 65 (putL (ackL zB1 0) 1 [97])).2
def zB3 : LE := (fromL zB2 zB2.fresh zB2.owes).2
theorem z_send1 : sendL (openL 7) [97] = (0, zA1) := rfl
theorem z_send2 : sendL zA1 [98] = (0, zA2) := rfl
theorem z_out : fromL zA2 zA2.fresh zA2.owes = ([zF0, zF1], zA3) := rfl
theorem z_rd0 : readL zF0 = some (7, 0, 1, [97]) := read_msg (by decide) (by decide) (by decide) (by decide) (by decide)
theorem z_rd1 : readL zF1 = some (7, 0, 2, [98]) := read_msg (by decide) (by decide) (by decide) (by decide) (by decide)
theorem z_rdk : readL zK = some (7, 2, 0, []) := read_ack (by decide) (by decide)
theorem z_hear1 : hearL (openL 7) zF1 = (0, [], zB1) := (hearL_ok (s := openL 7) z_rd1 (by decide) (by decide)).trans rfl
theorem z_hear0 : hearL zB1 zF0 = (0, [[97], [98]], zB2) := (hearL_ok (s := zB1) z_rd0 (by decide) (by decide)).trans rfl
theorem z_back : fromL zB2 zB2.fresh zB2.owes = ([zK], zB3) := rfl
theorem z_lenk : zK.length = 21 := by unfold zK; rw [fr_len]; rfl
theorem z_other : hearL (openL 8) zK = (4, [], openL 8) := by
  unfold hearL
  rw [z_rdk]
  rfl
theorem z_ack : hearL zA3 zK = (0, [], ackL zA3 2) := by
  unfold hearL
  rw [z_rdk]
  rfl
theorem z_fin : (ackL zA3 2).sent.length = 0 ∧ zB3.heard = 2 ∧ (ackL zA3 2).next = 3 := ⟨rfl, rfl, rfl⟩
theorem z_len : zF0.length = 30 ∧ zF1.length = 30 := ⟨by unfold zF0; rw [fr_len]; rfl, by unfold zF1; rw [fr_len]; rfl⟩
/-- a row of rows, element by element -/
theorem RdRows.get {w : World} {A : Option Addr} {n c : Nat} {fs : List BL} (h : RdRows w (.slice A n c) fs) {i : Nat} {f : BL} (hf : fs[i]? = some f) : n = fs.length ∧ ∃ g off Af cf, A = some ⟨g, off, none⟩ ∧ g < w.heap.size ∧ w.cell? ⟨g, off + i, none⟩ = some (.slice Af f.length cf) ∧ Rd w w.heap.size Af (u8s f) ∧ (f ≠ [] → f.length ≤ cf ∧ cf ≤ 9223372036854775807) := by
  obtain ⟨A', c', h1, h2⟩ := h
  injection h1 with e1 e2 e3
  subst e1
  exact ⟨e2, h2 i f hf⟩
theorem RdRows.form {w : World} {v : Value} {fs : List BL} (h : RdRows w v fs) : ∃ A c, v = .slice A fs.length c := by
  obtain ⟨A, c, h1, _⟩ := h
  exact ⟨A, c, h1⟩
theorem epN_small {e : Nat} (h : e ≤ 4611686018427387904) : epN (e : Int) = e := by
  unfold epN
  rw [if_neg (by omega)]
  omega
set_option maxRecDepth 100000 in
set_option maxHeartbeats 16000000 in
theorem works_any (w : World) : Calls Try.prog 8 #[] w fun e w' => e = .returned (.bool true) ∧ Below w.heap.size w w' := by
  have kc := fun (w : World) (C : Array Value) (n c : Nat) => Lib.run_convert_bytes_const (P := Try.prog) w 23 5 C n c Try.underlying23 Try.underlying5
  go_enter Try.func8, Try.ntmps8
  go_wp2_with fail
  refine (lopen_any w 7).mono ?_
  rintro e w1 ⟨P1, M1, rfl, hE1, hp1, hm1, hb1⟩
  go_wp2_with fail
  refine (lopen_any w1 7).mono ?_
  rintro e w2 ⟨P2, M2, rfl, hE2, hp2, hm2, hb2⟩
  have HT0 : Hid (Two w2 w.heap.size w2.heap.size 0 P1 P2 (openL 7) (openL 7)) := hide (Two.opened hE1 hp1 hm1 hE2 hp2 hm2 hb2)
  have HBb : Hid (Below w.heap.size w w2) := hide (hb1.trans (hb2.mono hb1.size))
  clear hE1 hp1 hm1 hE2 hp2 hm2 hb1 hb2
  go_wp2_with fail
  obtain ⟨v1, hv⟩ : ∃ z, w2.alloc (.cells #[.int .u8 97] 5 (1, 2)) = z := ⟨_, rfl⟩
  have HV1 : Hid (Below w2.heap.size w2 v1) := hide (by rw [← hv]; exact (Below.refl _ _).alloc (Nat.le_refl _) _)
  have HR1 : Hid (Rd v1 v1.heap.size (some ⟨w2.heap.size, 0, none⟩) (u8s [97])) := hide (by rw [← hv]; exact (Rd.new w2 #[.int .u8 97] 5 (1, 2)).more (by simp))
  rw [hv]
  clear hv
  have hsd := two_send ((HT0.out.next HV1.out).mono HV1.out.size (Nat.le_refl _)) (Nat.le_refl _) (some ⟨w2.heap.size, 0, none⟩) [97] 1 HR1.out (by decide) (by decide)
  refine hsd.mono ?_
  clear hsd
  rintro e x1 ⟨rfl, ht, hm⟩
  have HT1 : Hid (Two x1 w.heap.size x1.heap.size 0 P1 P2 zA1 (openL 7)) := hide ht
  have HB1 : Hid (Below w.heap.size w x1) := hide (HBb.out.trans ((HV1.out.mono HBb.out.size).trans (hm.toBelow (Nat.le_trans HBb.out.size HV1.out.size))))
  rw [show (sendL (openL 7) [97]).1 = 0 from rfl]
  clear ht hm HV1 HR1 HT0 HBb
  have HBb := HB1
  clear HB1
  go_wp2_with fail
  obtain ⟨v2, hv⟩ : ∃ z, x1.alloc (.cells #[.int .u8 98] 5 (1, 2)) = z := ⟨_, rfl⟩
  have HV2 : Hid (Below x1.heap.size x1 v2) := hide (by rw [← hv]; exact (Below.refl _ _).alloc (Nat.le_refl _) _)
  have HR2 : Hid (Rd v2 v2.heap.size (some ⟨x1.heap.size, 0, none⟩) (u8s [98])) := hide (by rw [← hv]; exact (Rd.new x1 #[.int .u8 98] 5 (1, 2)).more (by simp))
  rw [hv]
  clear hv
  have hsd := two_send ((HT1.out.next HV2.out).mono HV2.out.size (Nat.le_refl _)) (Nat.le_refl _) (some ⟨x1.heap.size, 0, none⟩) [98] 1 HR2.out (by decide) (by decide)
  refine hsd.mono ?_
  clear hsd
  rintro e x2 ⟨rfl, ht, hm⟩
  have HT2 : Hid (Two x2 w.heap.size x2.heap.size 0 P1 P2 zA2 (openL 7)) := hide ht
  have HB2 : Hid (Below w.heap.size w x2) := hide (HBb.out.trans ((HV2.out.mono HBb.out.size).trans (hm.toBelow (Nat.le_trans HBb.out.size HV2.out.size))))
  rw [show (sendL zA1 [98]).1 = 0 from rfl]
  clear ht hm HV2 HR2 HT1 HBb
  have HBb := HB2
  clear HB2
  go_wp2_with fail
  refine (two_out HT2.out).mono ?_
  rintro e x3 ⟨v3, rfl, hf, ht, hm⟩
  rw [z_out] at hf ht
  have HT3 : Hid (Two x3 w.heap.size x2.heap.size 0 P1 P2 zA3 (openL 7)) := hide ht
  have HF3 : Hid (FRw x3 x2.heap.size v3 [zF0, zF1]) := hide hf
  have HB3 : Hid (Below w.heap.size w x3) := hide (HBb.out.trans (hm.toBelow HBb.out.size))
  have HZ3 : Hid (x2.heap.size ≤ x3.heap.size) := hide hm.1
  clear hf ht hm HT2 HBb
  obtain ⟨Af, cf, rfl⟩ := HF3.out.rd.form
  obtain ⟨-, g, off, A1, c1, rfl, hg, hc1, hr1, hk1⟩ := HF3.out.rd.get (i := 1) (f := zF1) rfl
  rw [z_len.2] at hc1
  have HR1 := hide hr1
  have HK1 := hide (hk1 (by intro e; have := z_len.2; rw [e] at this; cases this))
  clear hr1 hk1
  go_wp2_with fail
  have hhr := two_hear HT3.out A1 zF1 c1 HR1.out (by rw [z_len.2]; decide) HK1.out.1 HK1.out.2 (by decide) (by decide)
  rw [z_len.2] at hhr
  refine hhr.mono ?_
  clear hhr
  rintro e x4 ⟨v4, rfl, ht, hb, hm⟩
  rw [z_hear1] at ht hb ⊢
  have HT4 : Hid (Two x4 w.heap.size x2.heap.size 1 P1 P2 zA3 zB1) := hide ht
  have HF4 := hide (HF3.out.mid hm (Nat.le_refl _))
  have HB4 : Hid (Below w.heap.size w x4) := hide (HB3.out.trans (hm.toBelow HB3.out.size))
  have HZ4 : Hid (x3.heap.size ≤ x4.heap.size) := hide hm.1
  obtain ⟨A4, c4, rfl⟩ := hb.rd.form
  clear ht hb hm hc1 HR1 HK1 HT3 HF3 hg
  obtain ⟨-, g', off', A1', c1', hA', hg, hc1, hr1, hk1⟩ := HF4.out.rd.get (i := 0) (f := zF0) rfl
  injection hA' with hA'
  injection hA' with e1 e2
  subst e1 e2
  rw [z_len.1, Nat.add_zero] at hc1
  have HR1 := hide hr1
  have HK1 := hide (hk1 (by intro e; have := z_len.1; rw [e] at this; cases this))
  clear hr1 hk1
  go_wp2_with fail
  have hhr := two_hear HT4.out A1' zF0 c1' HR1.out (by rw [z_len.1]; decide) HK1.out.1 HK1.out.2 (by decide) (by decide)
  rw [z_len.1] at hhr
  refine hhr.mono ?_
  clear hhr
  rintro e x5 ⟨v5, rfl, ht, hb, hm⟩
  rw [z_hear0] at ht hb ⊢
  have HT5 : Hid (Two x5 w.heap.size x2.heap.size 2 P1 P2 zA3 zB2) := hide ht
  have HF5 : Hid (RdRows x5 v5 [[97], [98]]) := hide hb.rd
  have HB5 : Hid (Below w.heap.size w x5) := hide (HB4.out.trans (hm.toBelow HB4.out.size))
  obtain ⟨A5, c5, rfl⟩ := hb.rd.form
  have HO5 : Hid (FRw x5 x4.heap.size (.slice A5 2 c5) [[97], [98]]) := hide hb
  clear ht hb hm hc1 HR1 HK1 HT4 HF4 hg
  go_wp2_with fail
  refine (two_out HT5.out.symm).mono ?_
  rintro e x6 ⟨v6, rfl, hf, ht, hm⟩
  rw [z_back] at hf ht
  have HT6 : Hid (Two x6 w.heap.size x2.heap.size 2 P1 P2 zA3 zB3) := hide ht.symm
  have HF6 : Hid (FRw x6 x5.heap.size v6 [zK]) := hide hf
  have HB6 : Hid (Below w.heap.size w x6) := hide (HB5.out.trans (hm.toBelow HB5.out.size))
  have hx2 : x2.heap.size ≤ x4.heap.size := by have := HZ3.out; have := HZ4.out; omega
  have HF5' : Hid (RdRows x6 (.slice A5 2 c5) [[97], [98]]) := hide (HO5.out.mid hm hx2).rd
  clear hx2 hf ht hm HT5 HO5
  obtain ⟨A6, c6, rfl⟩ := HF6.out.rd.form
  obtain ⟨-, g5, o5, Aa, ca, rfl, hg5, hc5, hr5, -⟩ := HF5'.out.get (i := 0) (f := [97]) rfl
  obtain ⟨-, g5', o5', Ab, cb, hA5, -, hc5', hr5', -⟩ := HF5'.out.get (i := 1) (f := [98]) rfl
  injection hA5 with hA5
  injection hA5 with e1 e2
  subst e1 e2
  rw [Nat.add_zero] at hc5
  obtain ⟨-, g6, o6, Ak, ck, rfl, hg6, hc6, hr6, hk6⟩ := HF6.out.rd.get (i := 0) (f := zK) rfl
  rw [z_lenk, Nat.add_zero] at hc6
  have HR6 := hide hr6
  have HK6 := hide (hk6 (by intro e; have := z_lenk; rw [e] at this; cases this))
  have HC6 := hide hc6
  have s5 := run_string_of (P := Try.prog) x6 23 9 5 Aa ca _ [97] Try.underlying23 Try.underlying5 Try.underlying9 hr5
  have s5' := run_string_of (P := Try.prog) x6 23 9 5 Ab cb _ [98] Try.underlying23 Try.underlying5 Try.underlying9 hr5'
  rw [show ([97] : List UInt8).length = 1 from rfl] at s5 hc5
  rw [show ([98] : List UInt8).length = 1 from rfl] at s5' hc5'
  clear hr5 hr5' hr6 hk6 HF5' HF6 HB5 HB4 HB3
  go_upto_region 12 with fail
  clear s5 s5' hc5 hc5' hg5
  refine wp_region_held_drew (S := Kept x6) (by kernel_rfl) (Kept.drew x6) (fun hS0 => ?_)
  refine take_at (i := 1) (d := 100) (v := ?_) (by simp only [List.getElem?_toArray, List.getElem?_cons_succ, List.getElem?_cons_zero]; rfl) rfl (by kernel_rfl) (by kernel_rfl) (by kernel_rfl) (fun _ _ _ h => h) rfl ?_ (by assumption) ?_
  rotate_left
  focus (intro w hSw; go_simp; (try with_reducible rfl); done)
  try simp only [List.setIfInBounds_toArray, List.set_cons_zero, List.set_cons_succ]
  refine take_at (i := 2) (d := 101) (v := ?_) (by simp only [List.getElem?_toArray, List.getElem?_cons_succ, List.getElem?_cons_zero]; rfl) rfl (by kernel_rfl) (by kernel_rfl) (by kernel_rfl) (fun _ _ _ h => h) rfl ?_ (by assumption) ?_
  rotate_left
  focus (intro w hSw; go_simp; (try with_reducible rfl); done)
  try simp only [List.setIfInBounds_toArray, List.set_cons_zero, List.set_cons_succ]
  refine take_at (i := 3) (d := 102) (v := ?_) (by simp only [List.getElem?_toArray, List.getElem?_cons_succ, List.getElem?_cons_zero]; rfl) rfl (by kernel_rfl) (by kernel_rfl) (by kernel_rfl) (fun _ _ _ h => h) rfl ?_ (by assumption) ?_
  rotate_left
  focus (intro w hSw; go_simp; (try with_reducible rfl); done)
  try simp only [List.setIfInBounds_toArray, List.set_cons_zero, List.set_cons_succ]
  refine call_at (i := 0) (d := 99) (by simp only [List.getElem?_toArray, List.getElem?_cons_succ, List.getElem?_cons_zero]; rfl) rfl (by kernel_rfl) rfl (fun K hK => ?_)
  go_simp
  refine (lopen_any x6.drew 8).mono ?_
  rintro e y1 ⟨P3, M3, rfl, hE3, hp3, hm3, hb3⟩
  have HY1 : Hid (Below x6.heap.size x6 y1) := hide (below_dr hb3)
  have HE3 := hide hE3
  have HP3 : Hid (x6.heap.size ≤ P3 ∧ x6.heap.size ≤ M3) := hide ⟨hp3, hm3⟩
  have hS1 : Kept x6 y1 := Kept.of_below HY1.out
  clear hE3 hp3 hm3 hb3
  go_wp2_with fail
  refine hK.out _ _ hS1 (fun hSn => ?_)
  clear hK K
  try simp only [List.setIfInBounds_toArray, List.set_cons_zero, List.set_cons_succ]
  refine call_at (i := 4) (d := 103) (by simp only [List.getElem?_toArray, List.getElem?_cons_succ, List.getElem?_cons_zero]; rfl) rfl (by kernel_rfl) rfl (fun K hK => ?_)
  go_simp
  have hhr := hear_any y1 HE3.out Ak zK ck ((HR6.out.below HY1.out).more HY1.out.size) (by rw [z_lenk]; decide) HK6.out.1 HK6.out.2 (by decide) (by decide)
  rw [z_lenk] at hhr
  refine hhr.mono ?_
  clear hhr
  rintro e y2 ⟨v9, own9, rfl, hE9, hb9, hk9, -⟩
  rw [show hearL (openL (epN 8)) zK = (4, [], openL 8) from z_other] at hb9 ⊢
  obtain ⟨A9, c9, rfl⟩ := hb9.rd.form
  have HY2 : Hid (Below x6.heap.size x6 y2) := hide (HY1.out.trans ⟨hk9.env.1, hk9.env.2.1, hk9.env.2.2, hk9.1, fun g hg => hk9.2 g (Nat.lt_of_lt_of_le hg HY1.out.size) (by have := HP3.out; simp; omega)⟩)
  have hS2 : Kept x6 y2 := Kept.of_below HY2.out
  clear hE9 hb9 hk9
  go_wp2_with fail
  refine hK.out _ _ hS2 (fun hSn => ?_)
  clear hK K
  try simp only [List.setIfInBounds_toArray, List.set_cons_zero, List.set_cons_succ]
  refine take_at (i := 5) (d := 98) (v := ?_) (by simp only [List.getElem?_toArray, List.getElem?_cons_succ, List.getElem?_cons_zero]; rfl) rfl (by kernel_rfl) (by kernel_rfl) (by kernel_rfl) (fun _ _ _ h => h) rfl ?_ (by assumption) ?_
  rotate_left
  focus (intro w hSw; go_simp; (try with_reducible rfl); done)
  try simp only [List.setIfInBounds_toArray, List.set_cons_zero, List.set_cons_succ]
  refine take_at (i := 6) (d := 104) (v := ?_) (by simp only [List.getElem?_toArray, List.getElem?_cons_succ, List.getElem?_cons_zero]; rfl) rfl (by kernel_rfl) (by kernel_rfl) (by kernel_rfl) (fun _ _ _ h => h) rfl ?_ (by assumption) ?_
  rotate_left
  focus (intro w hSw; go_simp; (try with_reducible rfl); done)
  try simp only [List.setIfInBounds_toArray, List.set_cons_zero, List.set_cons_succ]
  refine take_at (i := 7) (d := 105) (v := ?_) (by simp only [List.getElem?_toArray, List.getElem?_cons_succ, List.getElem?_cons_zero]; rfl) rfl (by kernel_rfl) (by kernel_rfl) (by kernel_rfl) (fun _ _ _ h => h) rfl ?_ (by assumption) ?_
  rotate_left
  focus (intro w hSw; go_simp; (try with_reducible rfl); done)
  try simp only [List.setIfInBounds_toArray, List.set_cons_zero, List.set_cons_succ]
  refine take_at (i := 8) (d := 11) (v := ?_) (by simp only [List.getElem?_toArray, List.getElem?_cons_succ, List.getElem?_cons_zero]; rfl) rfl (by kernel_rfl) (by kernel_rfl) (by kernel_rfl) (fun _ _ _ h => h) rfl ?_ (by assumption) ?_
  rotate_left
  focus (intro w hSw; go_simp; (try with_reducible rfl); done)
  try simp only [List.setIfInBounds_toArray, List.set_cons_zero, List.set_cons_succ]
  refine take_at (i := 9) (d := 12) (v := ?_) (by simp only [List.getElem?_toArray, List.getElem?_cons_succ, List.getElem?_cons_zero]; rfl) rfl (by kernel_rfl) (by kernel_rfl) (by kernel_rfl) (fun _ _ _ h => h) rfl ?_ (by assumption) ?_
  rotate_left
  focus (intro w hSw; go_simp; (try with_reducible rfl); done)
  try simp only [List.setIfInBounds_toArray, List.set_cons_zero, List.set_cons_succ]
  refine wpAnyH_done (by kernel_rfl) ?_ _
  clear hS0 hSn hS1 hS2 hc6
  have hc7 := (HY2.out.cell (p := ⟨g6, o6, none⟩) hg6).trans HC6.out
  have HT7 := hide (HT6.out.next HY2.out).symm
  have HB7 := hide (HB6.out.trans (HY2.out.mono HB6.out.size))
  have HR7 := hide ((HR6.out.below HY2.out).more HY2.out.size)
  have hg7 : g6 < y2.heap.size := Nat.lt_of_lt_of_le hg6 HY2.out.size
  clear HT6 HB6 HR6 HY1 HE3 HP3 hg6
  go_wp2_with fail
  have hhr := two_hear HT7.out Ak zK ck HR7.out (by rw [z_lenk]; decide) HK6.out.1 HK6.out.2 (by decide) (by decide)
  rw [z_lenk] at hhr
  refine hhr.mono ?_
  clear hhr
  rintro e x8 ⟨v8, rfl, ht, hb, hm⟩
  rw [z_ack] at ht hb ⊢
  have HT8 := hide ht
  have HB8 := hide (HB7.out.trans (hm.toBelow HB7.out.size))
  obtain ⟨A8, c8, rfl⟩ := hb.rd.form
  clear ht hb hm hc7
  go_wp2_with fail
  refine (two_waits HT8.out.symm).mono ?_
  rintro e x9 ⟨rfl, rfl⟩
  rw [show (ackL zA3 2).sent.length = 0 from rfl]
  go_wp2_with fail
  refine (two_heard HT8.out).mono ?_
  rintro e x10 ⟨rfl, rfl⟩
  rw [show zB3.heard = 2 from rfl]
  go_wp2_with fail
  refine (two_next HT8.out.symm).mono ?_
  rintro e x11 ⟨rfl, rfl⟩
  rw [show (ackL zA3 2).next = 3 from rfl]
  go_wp2
  go_ret
  exact ⟨rfl, HB8.out⟩
end Go.Proofs.Ytigmmikijjcdiaa
