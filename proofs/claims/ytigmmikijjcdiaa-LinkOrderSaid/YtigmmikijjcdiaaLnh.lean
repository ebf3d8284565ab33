/- The net's methods: an end hears. (printed by gen/lnh.py) -/
import Derived.Test.YtigmmikijjcdiaaProg
import Derived.Test.YtigmmikijjcdiaaLno
import Derived.Deep.DeepCutAuto
import Derived.Lib.Hide
import Derived.WalkSpells
import Derived.WalkMore
import Derived.IntWalk
namespace Go.Proofs.Ytigmmikijjcdiaa
open Go.RowKit
set_option linter.unusedVariables false
set_option linter.unusedSimpArgs false
def HearsPost (w : World) (L B W E Y U T P1 P2 n Q1 Q2 a : Nat) (ways puts gots : List (List BL)) (s t : LE) (f : BL) (e : Ending) (w' : World) : Prop :=
  e = .returned (.tuple #[]) ∧ (∃ tag', NetM w' L W E Y U T P1 P2 tag' ways puts (gots.set a (gots.getD a [] ++ (hearL s f).2.1)) false ∧ Two w' L B (n + 1) Q2 Q1 t (hearL s f).2.2 ∧ B ≤ w'.heap.size) ∧ Below L w w' ∧ ∀ (Bf : Nat) (v : Value) (fs : List BL), B ≤ Bf → FRw w Bf v fs → FRw w' Bf v fs
theorem StrRow.get {w : World} {L : Nat} {tag : Nat → Option (Nat × Nat)} {t : Nat × Nat} {A : Option Addr} {n c : Nat} {xs : List BL} (h : StrRow w L tag t (.slice A n c) xs) {i : Nat} {b : BL} (hi : xs[i]? = some b) : ∃ g off, A = some ⟨g, off, none⟩ ∧ g < w.heap.size ∧ w.cell? ⟨g, off + i, none⟩ = some (.string ⟨b.toArray⟩) := by
  obtain ⟨A', c', e, hr, -⟩ := h.rd
  injection e with e1 e2 e3
  subst e1
  have hl := (List.getElem?_eq_some_iff.1 hi).1
  have hs : (strs xs)[i]? = some (.string ⟨b.toArray⟩) := by unfold strs; rw [List.getElem?_map, hi]; rfl
  obtain ⟨g, off, rfl, hg, hc⟩ := hr.at_ (k := i) (by rw [strs_len]; exact hl)
  exact ⟨g, off, rfl, hg, hc i _ hs⟩
theorem set_self {X : Type} {l : List X} {a : Nat} {x : X} (h : l[a]? = some x) : l.set a x = l := by
  obtain ⟨hl, he⟩ := List.getElem?_eq_some_iff.1 h
  rw [← he, List.set_getElem_self]
theorem cell_new {x y : World} {L k a B : Nat} {tag : Nat → Option (Nat × Nat)} {v v' : Value} {xs : List BL} {ls : List (List BL)} (hs : ∀ g, g < x.heap.size → v.ownBlock ≠ some g → y.heap[g]? = x.heap[g]?) (h : SRows x L tag k B ls) (hold : StrRow x L tag (k, a) v xs) (ha : a < ls.length) : (y.setCell ⟨B, a, none⟩ v').cell? ⟨B, a, none⟩ = some v' := by
  obtain ⟨vs, q1, q2, _⟩ := h
  have h9 := (cell_at hs hold q1 (by decide)).trans q1
  have h8 := heap_setCell_same _ B a _ _ v' h9
  refine (cell_of_row _ _ a _ _ _ h8).trans ?_
  rw [Array.getElem?_setIfInBounds, if_pos rfl, if_pos (by simp; omega)]
theorem str_kept {v : World} {A : Option Addr} {bs : List UInt8} {n c : Nat} (h : Rd v v.heap.size A (u8s bs)) (hn : bs.length = n) : ∀ w, Kept v w → (convert 23 9 (.slice A n c)).run Try.prog w = .ok (.string ⟨bs.toArray⟩) w := by
  subst hn
  intro w hk
  exact run_string_of w 23 9 5 A c _ bs Try.underlying23 Try.underlying5 Try.underlying9 (h.keep hk)
set_option maxRecDepth 100000 in
set_option maxHeartbeats 16000000 in
theorem hears_any (w : World) {L W E Y U T P1 P2 : Nat} {tag : Nat → Option (Nat × Nat)} {ways puts gots : List (List BL)} (hN : NetM w L W E Y U T P1 P2 tag ways puts gots false) (a : Nat) (ha : a < 2) {B n Q1 Q2 : Nat} {s t : LE} (hT : Two w L B n Q2 Q1 t s) (hBw : B ≤ w.heap.size) (hE : w.cell? ⟨E, a, none⟩ = some (.pointer (some ⟨Q1, 0, none⟩))) (f : BL) (hf : f.length ≤ 3000000) (hn : n < 1000000) (hs : s.heard + 65 ≤ 1000000)
    (htold : ∀ g p, gots[a]? = some g → puts[1 - a]? = some p → ∃ j, (hearL s f).2.1 = (p.drop g.length).take j ∧ (hearL s f).2.1.length = j) (hcode : (hearL s f).1 ≠ 0 → (hearL s f).2.1 = []) (hg1 : ∀ g, gots[a]? = some g → g.length ≤ 10000) (hp1 : ∀ p, puts[1 - a]? = some p → p.length ≤ 10000) :
    Calls Try.prog 19 #[.pointer (some ⟨W, 0, none⟩), .int .i64 (a : Int), .string ⟨f.toArray⟩] w (HearsPost w L B W E Y U T P1 P2 n Q1 Q2 a ways puts gots s t f) := by
  have hlen := hN.len
  obtain ⟨gw, hgw⟩ : ∃ z, gots[a]? = some z := ⟨_, List.getElem?_eq_getElem (by omega)⟩
  obtain ⟨b, hb⟩ : ∃ z, 1 - a = z := ⟨_, rfl⟩
  obtain ⟨p, hp⟩ : ∃ z, puts[b]? = some z := ⟨_, List.getElem?_eq_getElem (by omega)⟩
  have hgl := hg1 gw hgw
  have hpl := hp1 p (by rw [hb]; exact hp)
  obtain ⟨j, hj1, hj2⟩ := htold gw p hgw (by rw [hb]; exact hp)
  obtain ⟨fl, hfl⟩ : ∃ z, f.length = z := ⟨_, rfl⟩
  have kq := run_bytes_of (P := Try.prog) w 9 23 5 f Try.underlying9 Try.underlying23 Try.underlying5
  rw [hfl] at kq hf
  obtain ⟨cp, hcp⟩ : ∃ z, grownCap w fl 0 5 = z := ⟨_, rfl⟩
  have hcp1 : fl ≤ cp := by rw [← hcp]; exact grownCap_ge _ _ _ _
  have hcp2 : cp ≤ 9223372036854775807 := by rw [← hcp]; exact grownCap_le_maxLen _ _ _ _ (by unfold maxLen; omega)
  rw [hcp] at kq
  have HBx : Hid (Below w.heap.size w (bytesWorld w 5 f)) := hide (bytesWorld_below _ _ _)
  have HRx : Hid (Rd (bytesWorld w 5 f) (bytesWorld w 5 f).heap.size (some ⟨w.heap.size, 0, none⟩) (u8s f)) := hide (by rw [bytesWorld_size]; exact bytesWorld_rd _ _ _)
  obtain ⟨x1, hx1⟩ : ∃ z, bytesWorld w 5 f = z := ⟨_, rfl⟩
  rw [hx1] at kq HBx HRx
  have HN := hide hN
  have HT := hide hT
  have HG0 := hide hgw
  have HP0 := hide hp
  have HJ1 := hide hj1
  have HJ2 := hide hj2
  have HFl := hide hfl
  have HLx0 : Hid (L < w.heap.size) := hide hT.low
  have e0 : w.cell? ⟨W, 0, none⟩ = some (.slice (some ⟨E, 0, none⟩) 2 2) := cell_of_row _ _ 0 _ _ _ hN.wd
  have hW : W < w.heap.size := lt_of_block hN.wd
  have hE0 : E < w.heap.size := lt_of_block hN.en
  have ha0 : (0 : Int) ≤ (a : Int) := by omega
  have ha1 : (a : Int) < 2 := by omega
  have hb2 : b < 2 := by omega
  have hb0 : (0 : Int) ≤ (b : Int) := by omega
  have hb1 : (b : Int) < 2 := by omega
  have kw : IntKind.i64.wrap (1 - (a : Int)) = (b : Int) := by rw [IntWalk.i64_in _ (by omega)]; omega
  have HAb := hide hb
  clear hcp hx1 hN hT hgw hp hj1 hj2 hfl hb hg1 hp1 htold
  have HHr := hide (by have h := two_hear (HT.out.next HBx.out) (some ⟨w.heap.size, 0, none⟩) f cp HRx.out (by rw [HFl.out]; omega) (by rw [HFl.out]; exact hcp1) hcp2 hn hs; rw [HFl.out] at h; exact h)
  go_enter Try.func19, Try.ntmps19
  go_wp2_with fail
  refine HHr.out.mono ?_
  rintro e y1 ⟨v1, rfl, ht, hf, hm⟩
  obtain ⟨ms, hms⟩ : ∃ z, (hearL s f).2.1 = z := ⟨_, rfl⟩
  obtain ⟨s', hs'⟩ : ∃ z, (hearL s f).2.2 = z := ⟨_, rfl⟩
  obtain ⟨cd, hcd⟩ : ∃ z, (hearL s f).1 = z := ⟨_, rfl⟩
  rw [hms] at hf hcode
  rw [hs'] at ht
  rw [hcd] at hcode ⊢
  have HMs := hide hms
  have HS' := hide hs'
  have HT1 := hide ht
  have HF1 := hide hf
  have HN1 := hide ((HN.out.next HBx.out).mid hm)
  have HB1 : Hid (Below L w y1) := hide ((HBx.out.mono (Nat.le_of_lt HLx0.out)).trans (hm.toBelow (Nat.le_trans (Nat.le_of_lt HLx0.out) HBx.out.size)))
  have HFk : Hid (∀ (Bf : Nat) (v : Value) (fs : List BL), B ≤ Bf → FRw w Bf v fs → FRw y1 Bf v fs) := hide (fun Bf v fs hb h => (h.next HBx.out).mid hm hb)
  have HBl : Hid (B ≤ y1.heap.size) := hide (Nat.le_trans hBw (Nat.le_trans HBx.out.size hm.1))
  obtain ⟨Am, cm, rfl⟩ := hf.rd.form
  obtain ⟨ml, hml⟩ : ∃ z, ms.length = z := ⟨_, rfl⟩
  rw [hml]
  have HMl := hide hml
  have HCode := hide hcode
  clear hms hs' ht hf hm hcode e0 kq
  have HJ3 : Hid (ms = (p.drop gw.length).take j ∧ ms.length = j) := hide (by rw [← HMs.out]; exact ⟨HJ1.out, HJ2.out⟩)
  go_upto_region 1 with fail
  go_cut [29] (fun v29 wc => v29 = .bool false ∧ y1 = wc)
  case first =>
    by_cases hc0 : cd = 0
    · subst hc0
      go_wp2
      go_meet
      case rel => exact ⟨rfl, rfl⟩
    · have hq : (cd != 0) = true := by simp [hc0]
      have hq2 : ¬ (0 : Int) < (ml : Int) := by have hml0 : ml = 0 := (by rw [← HMl.out, HCode.out hc0]; rfl); omega
      have hq3 : ¬ 0 < ml := by omega
      go_wp2
      go_meet
      case rel => exact ⟨rfl, rfl⟩
  case rest =>
    obtain ⟨rfl, rfl⟩ := hcut
    go_wp2
    have HN2 : Hid (NetM y1 L W E Y U T P1 P2 tag ways puts (gots.set a (gw ++ ms.take 0)) false) := hide (by rw [List.take_zero, List.append_nil, set_self HG0.out]; exact HN1.out)
    have HF2 : Hid (FRw y1 (x1.heap.size) (.slice Am ml cm) ms) := hide (by have h := HF1.out; rwa [HMl.out] at h)
    go_loopw [8] (fun v8 wr => ∃ (i : Nat) (tag0 : Nat → Option (Nat × Nat)), i ≤ ml ∧ v8 = .int .i64 (i : Int) ∧ Hid (NetM wr L W E Y U T P1 P2 tag0 ways puts (gots.set a (gw ++ ms.take i)) false) ∧ Hid (ModN L y1 wr) ∧ Hid (FRw wr x1.heap.size (.slice Am ml cm) ms)) (fun v8 _ => ml - (intOf v8).toNat)
    case atStart => exact ⟨0, tag, by omega, rfl, HN2, hide (ModN.of_below (Below.refl _ _)), HF2⟩
    case round =>
      clear HN2 HF2
      obtain ⟨i, tag0, hi, rfl, hM, hMod, hF⟩ := hrel
      obtain ⟨x, rfl⟩ : ∃ z : World, z = wr := ⟨_, rfl⟩
      have hmlb : ml ≤ 10000 := by rw [← HMl.out, HJ3.out.1, List.length_take, List.length_drop]; omega
      by_cases hlt : i < ml
      · have hI1 : (i : Int) < (ml : Int) := by omega
        have hI0 : (0 : Int) ≤ (i : Int) := by omega
        obtain ⟨m, hm⟩ : ∃ m, ms[i]? = some m := ⟨_, List.getElem?_eq_getElem (by rw [HMl.out]; exact hlt)⟩
        obtain ⟨-, g, Ar, cr, cur, rfl, hg, hci, hrt, -⟩ := hF.out.get hm
        obtain ⟨xs, hxs⟩ : ∃ z, gw ++ ms.take i = z := ⟨_, rfl⟩
        obtain ⟨n0, hn0⟩ : ∃ z, xs.length = z := ⟨_, rfl⟩
        have hn0' : n0 = gw.length + i := by rw [← hn0, ← hxs, List.length_append, List.length_take, HMl.out]; omega
        have hpm : p[n0]? = some m := by have h := hm; rw [HJ3.out.1, List.getElem?_take] at h; split at h; rw [List.getElem?_drop] at h; rw [hn0']; exact h; cases h
        have hnp : n0 < p.length := (List.getElem?_eq_some_iff.1 hpm).1
        have HN0' := hide hn0'
        rw [hxs] at hM
        have hax : (gots.set a xs)[a]? = some xs := by rw [List.getElem?_set_self (by omega)]
        obtain ⟨v0, hv0, hR0⟩ := hM.out.got.at_ hax
        obtain ⟨A0, c0, rfl, -, -, -⟩ := hR0.rd
        rw [hn0] at hv0
        have HR0 : Hid (StrRow x L tag0 (2, a) (.slice A0 n0 c0) xs) := hide (by rw [← hn0]; exact hR0)
        have HRo : Hid (x.ownsRow L 9 1 (.slice A0 n0 c0) n0 (strs xs)) := hide (by have h := HR0.out.2.1; rwa [hn0] at h)
        have HN0 := hide hn0
        obtain ⟨fl2, hfl2⟩ : ∃ z, m.length = z := ⟨_, rfl⟩
        rw [hfl2] at hci
        have HFl2 := hide hfl2
        have HXs := hide hxs
        have HMi := hide hm
        have HG := hide hg
        have HRt := hide hrt
        have HPm := hide hpm
        have e1 : x.cell? ⟨W, 3, none⟩ = some (.slice (some ⟨T, 0, none⟩) 2 2) := cell_of_row _ _ 3 _ _ _ hM.out.wd
        have e2 : x.cell? ⟨g, i, none⟩ = some (.slice Ar fl2 cr) := (cell_of_row _ _ i _ _ _ hg).trans hci
        have HE2 := hide e2
        have hWx : W < x.heap.size := lt_of_block hM.out.wd
        have hYx : T < x.heap.size := hM.out.got.lt
        have hgx : g < x.heap.size := lt_of_block hg
        clear hR0 hn0 hn0' hfl2 hxs hm hg hci hrt hpm
        go_upto_region 6 with fail
        have hLx : L ≤ x.heap.size := by have := hM.out.lo; have := hM.out.got.lt; omega
        obtain ⟨i3, a3i, a3z, a3s, a3b⟩ := info_parts (show (Try.prog.info? 9).map (fun i => (i.zero, i.size, i.bytes)) = some (some (.string ⟨#[]⟩), 1, 16) by kernel_rfl)
        refine wpL_region (S := (fun w9 : World => w9.cell? ⟨W, 3, none⟩ = some (.slice (some ⟨T, 0, none⟩) 2 2) ∧ w9.cell? ⟨T, a, none⟩ = some (.slice A0 n0 c0) ∧ w9.cell? ⟨g, i, none⟩ = some (.slice Ar fl2 cr) ∧ RdT w9 Ar m)) [20] (by kernel_rfl) ⟨e1, hv0, e2, HRt.out⟩ (fun hS0 => ?_)
        refine takeL_at (i := 0) (d := 39) (v := ?_) (by simp only [List.getElem?_toArray, List.getElem?_cons_succ, List.getElem?_cons_zero]; rfl) rfl (by kernel_rfl) (by kernel_rfl) (by kernel_rfl) (by kernel_rfl) (fun _ _ _ h => h) rfl ?_ (by assumption) ?_
        rotate_left
        focus (intro w hSw; go_simp; (try with_reducible rfl); done)
        try simp only [List.setIfInBounds_toArray, List.set_cons_zero, List.set_cons_succ]
        refine takeL_at (i := 1) (d := 40) (v := ?_) (by simp only [List.getElem?_toArray, List.getElem?_cons_succ, List.getElem?_cons_zero]; rfl) rfl (by kernel_rfl) (by kernel_rfl) (by kernel_rfl) (by kernel_rfl) (fun _ _ _ h => h) rfl ?_ (by assumption) ?_
        rotate_left
        focus (intro w hSw; go_simp; (try with_reducible rfl); done)
        try simp only [List.setIfInBounds_toArray, List.set_cons_zero, List.set_cons_succ]
        refine takeL_at (i := 2) (d := 41) (v := ?_) (by simp only [List.getElem?_toArray, List.getElem?_cons_succ, List.getElem?_cons_zero]; rfl) rfl (by kernel_rfl) (by kernel_rfl) (by kernel_rfl) (by kernel_rfl) (fun _ _ _ h => h) rfl ?_ (by assumption) ?_
        rotate_left
        focus (intro w hSw; go_simp; (try with_reducible rfl); done)
        try simp only [List.setIfInBounds_toArray, List.set_cons_zero, List.set_cons_succ]
        refine takeL_at (i := 3) (d := 42) (v := ?_) (by simp only [List.getElem?_toArray, List.getElem?_cons_succ, List.getElem?_cons_zero]; rfl) rfl (by kernel_rfl) (by kernel_rfl) (by kernel_rfl) (by kernel_rfl) (fun _ _ _ h => h) rfl ?_ (by assumption) ?_
        rotate_left
        focus (intro w hSw; go_simp; (try with_reducible rfl); done)
        try simp only [List.setIfInBounds_toArray, List.set_cons_zero, List.set_cons_succ]
        refine takeL_at (i := 4) (d := 43) (v := ?_) (by simp only [List.getElem?_toArray, List.getElem?_cons_succ, List.getElem?_cons_zero]; rfl) rfl (by kernel_rfl) (by kernel_rfl) (by kernel_rfl) (by kernel_rfl) (fun _ _ _ h => h) rfl ?_ (by assumption) ?_
        rotate_left
        focus (intro w hSw; go_simp; (try with_reducible rfl); done)
        try simp only [List.setIfInBounds_toArray, List.set_cons_zero, List.set_cons_succ]
        refine takeL_at (i := 5) (d := 44) (v := ?_) (by simp only [List.getElem?_toArray, List.getElem?_cons_succ, List.getElem?_cons_zero]; rfl) rfl (by kernel_rfl) (by kernel_rfl) (by kernel_rfl) (by kernel_rfl) (fun _ _ _ h => h) rfl ?_ (by assumption) ?_
        rotate_left
        focus (intro w hSw; go_simp; (try with_reducible rfl); done)
        try simp only [List.setIfInBounds_toArray, List.set_cons_zero, List.set_cons_succ]
        refine takeL_at (i := 6) (d := 45) (v := ?_) (by simp only [List.getElem?_toArray, List.getElem?_cons_succ, List.getElem?_cons_zero]; rfl) rfl (by kernel_rfl) (by kernel_rfl) (by kernel_rfl) (by kernel_rfl) (fun _ _ _ h => h) rfl ?_ (by assumption) ?_
        rotate_left
        focus (intro w hSw; go_simp; (try with_reducible rfl); done)
        try simp only [List.setIfInBounds_toArray, List.set_cons_zero, List.set_cons_succ]
        refine takeL_at (i := 7) (d := 46) (v := ?_) (by simp only [List.getElem?_toArray, List.getElem?_cons_succ, List.getElem?_cons_zero]; rfl) rfl (by kernel_rfl) (by kernel_rfl) (by kernel_rfl) (by kernel_rfl) (fun _ _ _ h => h) rfl ?_ (by assumption) ?_
        rotate_left
        focus (intro w hSw; go_simp; (try with_reducible rfl); done)
        try simp only [List.setIfInBounds_toArray, List.set_cons_zero, List.set_cons_succ]
        refine takeL_at (i := 8) (d := 47) (v := ?_) (by simp only [List.getElem?_toArray, List.getElem?_cons_succ, List.getElem?_cons_zero]; rfl) rfl (by kernel_rfl) (by kernel_rfl) (by kernel_rfl) (by kernel_rfl) (fun _ _ _ h => h) rfl ?_ (by assumption) ?_
        rotate_left
        focus (intro w hSw; go_simp; (try with_reducible rfl); done)
        try simp only [List.setIfInBounds_toArray, List.set_cons_zero, List.set_cons_succ]
        refine takeL_at (i := 9) (d := 48) (v := ?_) (by simp only [List.getElem?_toArray, List.getElem?_cons_succ, List.getElem?_cons_zero]; rfl) rfl (by kernel_rfl) (by kernel_rfl) (by kernel_rfl) (by kernel_rfl) (fun _ _ _ h => h) rfl ?_ (by assumption) ?_
        rotate_left
        focus (intro w hSw; go_simp; (try with_reducible rfl); done)
        try simp only [List.setIfInBounds_toArray, List.set_cons_zero, List.set_cons_succ]
        refine takeL_at (i := 10) (d := 49) (v := ?_) (by simp only [List.getElem?_toArray, List.getElem?_cons_succ, List.getElem?_cons_zero]; rfl) rfl (by kernel_rfl) (by kernel_rfl) (by kernel_rfl) (by kernel_rfl) (fun _ _ _ h => h) rfl ?_ (by assumption) ?_
        rotate_left
        focus (intro w hSw; go_simp; (try with_reducible rfl); done)
        try simp only [List.setIfInBounds_toArray, List.set_cons_zero, List.set_cons_succ]
        refine takeL_at (i := 11) (d := 50) (v := ?_) (by simp only [List.getElem?_toArray, List.getElem?_cons_succ, List.getElem?_cons_zero]; rfl) rfl (by kernel_rfl) (by kernel_rfl) (by kernel_rfl) (by kernel_rfl) (fun _ _ _ h => h) rfl ?_ (by assumption) ?_
        rotate_left
        focus (intro w hSw; go_simp; (try with_reducible rfl); done)
        try simp only [List.setIfInBounds_toArray, List.set_cons_zero, List.set_cons_succ]
        refine takeL_at (i := 12) (d := 51) (v := ?_) (by simp only [List.getElem?_toArray, List.getElem?_cons_succ, List.getElem?_cons_zero]; rfl) rfl (by kernel_rfl) (by kernel_rfl) (by kernel_rfl) (by kernel_rfl) (fun _ _ _ h => h) rfl ?_ (by assumption) ?_
        rotate_left
        focus (intro w hSw; go_simp; (try with_reducible rfl); done)
        try simp only [List.setIfInBounds_toArray, List.set_cons_zero, List.set_cons_succ]
        refine takeL_at (i := 13) (d := 52) (v := ?_) (by simp only [List.getElem?_toArray, List.getElem?_cons_succ, List.getElem?_cons_zero]; rfl) rfl (by kernel_rfl) (by kernel_rfl) (by kernel_rfl) (by kernel_rfl) (fun _ _ _ h => h) rfl ?_ (by assumption) ?_
        rotate_left
        focus (intro w hSw; go_simp; (try with_reducible rfl); done)
        try simp only [List.setIfInBounds_toArray, List.set_cons_zero, List.set_cons_succ]
        refine takeL_at (i := 14) (d := 53) (v := ?_) (by simp only [List.getElem?_toArray, List.getElem?_cons_succ, List.getElem?_cons_zero]; rfl) rfl (by kernel_rfl) (by kernel_rfl) (by kernel_rfl) (by kernel_rfl) (fun _ _ _ h => h) rfl ?_ (by assumption) ?_
        rotate_left
        focus (intro w hSw; go_simp; (try with_reducible rfl); done)
        try simp only [List.setIfInBounds_toArray, List.set_cons_zero, List.set_cons_succ]
        refine takeL_at (i := 15) (d := 54) (v := ?_) (by simp only [List.getElem?_toArray, List.getElem?_cons_succ, List.getElem?_cons_zero]; rfl) rfl (by kernel_rfl) (by kernel_rfl) (by kernel_rfl) (by kernel_rfl) (fun _ _ _ h => h) rfl ?_ (by assumption) ?_
        rotate_left
        focus (intro w hSw; go_simp; (try with_reducible rfl); done)
        try simp only [List.setIfInBounds_toArray, List.set_cons_zero, List.set_cons_succ]
        refine takeL_at (i := 16) (d := 55) (v := ?_) (by simp only [List.getElem?_toArray, List.getElem?_cons_succ, List.getElem?_cons_zero]; rfl) rfl (by kernel_rfl) (by kernel_rfl) (by kernel_rfl) (by kernel_rfl) (fun _ _ _ h => h) rfl ?_ (by assumption) ?_
        rotate_left
        focus (intro w hSw; have hh := hSw.2.2.2.conv (c := cr) HFl2.out; go_simp; (try with_reducible rfl); done)
        try simp only [List.setIfInBounds_toArray, List.set_cons_zero, List.set_cons_succ]
        refine callL_at (i := 17) (d := 56) (by simp only [List.getElem?_toArray, List.getElem?_cons_succ, List.getElem?_cons_zero]; rfl) rfl (by kernel_rfl) rfl (fun K hK => ?_)
        go_simp
        obtain ⟨y4, hy⟩ : ∃ z, (x.alloc (.cells #[.string ⟨(m).toArray⟩] 9)).drew = z := ⟨_, rfl⟩
        have HY4 : Hid (Below x.heap.size x y4) := hide (by rw [← hy]; exact ((Below.refl _ _).alloc (Nat.le_refl _) _).drew)
        have HO1 : Hid (y4.heap[x.heap.size]? = some (.cells #[.string ⟨(m).toArray⟩] 9)) := hide (by rw [← hy]; exact heap_alloc_last x _)
        rw [hy]
        clear hy
        have hS4 : y4.cell? ⟨W, 3, none⟩ = some (.slice (some ⟨T, 0, none⟩) 2 2) ∧ y4.cell? ⟨T, a, none⟩ = some (.slice A0 n0 c0) ∧ y4.cell? ⟨g, i, none⟩ = some (.slice Ar fl2 cr) ∧ RdT y4 Ar m := ⟨(HY4.out.cell (p := ⟨W, 3, none⟩) hWx).trans e1, (HY4.out.cell (p := ⟨T, a, none⟩) hYx).trans hv0, (HY4.out.cell (p := ⟨g, i, none⟩) hgx).trans e2, HRt.out.keep fun g' cur' hc' => HY4.out.block g' (lt_of_block hc')⟩
        refine hK.out _ _ hS4 (fun hSn => ?_)
        clear hK K
        try simp only [List.setIfInBounds_toArray, List.set_cons_zero, List.set_cons_succ]
        refine callL_at (i := 18) (d := 57) (by simp only [List.getElem?_toArray, List.getElem?_cons_succ, List.getElem?_cons_zero]; rfl) rfl (by kernel_rfl) rfl (fun K hK => ?_)
        refine op_app (.tmp 50) (.tmp 56) 48 rfl L 9 i3 (.string ⟨#[]⟩) 1 16 Try.underlying48 a3i a3z a3s a3b rfl (by decide) (.slice A0 n0 c0) n0 (strs xs) rfl (own_below HRo.out HY4.out (fun g hg => (HRo.out.lt g hg).2)) y4.heap.size (some ⟨x.heap.size, 0, none⟩) 1 1 [.string ⟨(m).toArray⟩] rfl rfl (rd_cells HO1.out) (by simp [Value.oneCell']) (by unfold maxLen; omega) (by omega) (Nat.le_trans hLx HY4.out.size) ?_
        intro A8 c8 y5 own5 hg5 hat5
        have HOwn : Hid (y5.ownsRow L 9 1 (.slice A8 (n0 + 1) c8) (n0 + 1) (strs (xs ++ [m]))) := hide (by rw [strs_app]; exact own5)
        have HG5 := hide hg5
        have HA5 := hide hat5
        have HSm : Hid (∀ g, g < x.heap.size → (Value.slice A0 n0 c0).ownBlock ≠ some g → y5.heap[g]? = x.heap[g]?) := hide (fun g hl hne => (HG5.out.block g (Nat.lt_of_lt_of_le hl HY4.out.size) (fun e => hne e.symm)).trans (HY4.out.block g hl))
        have HNw : Hid (∀ g, (Value.slice A8 (n0 + 1) c8).ownBlock = some g → (Value.slice A0 n0 c0).ownBlock = some g ∨ x.heap.size ≤ g) := hide (fun g hg => by rcases HA5.out with h | h; exact .inl (by rw [← h]; exact hg); right; rw [h] at hg; injection hg with hg; rw [← hg]; exact HY4.out.size)
        have HSz : Hid (x.heap.size ≤ y5.heap.size ∧ Env x y5) := hide ⟨Nat.le_trans HY4.out.size HG5.out.size, (Env.of_below HY4.out).grown HG5.out⟩
        have hS5 : y5.cell? ⟨W, 3, none⟩ = some (.slice (some ⟨T, 0, none⟩) 2 2) ∧ y5.cell? ⟨T, a, none⟩ = some (.slice A0 n0 c0) ∧ y5.cell? ⟨g, i, none⟩ = some (.slice Ar fl2 cr) ∧ RdT y5 Ar m := by
          obtain ⟨vs, q1, _⟩ := hM.out.got
          exact ⟨(World.cell?_of_block (cell_at HSm.out HR0.out hM.out.wd (by decide))).trans e1, (World.cell?_of_block (cell_at HSm.out HR0.out q1 (by decide))).trans hv0, (World.cell?_of_block (cell_at HSm.out HR0.out HG.out (by decide))).trans e2, HRt.out.keep fun g' cur' hc' => cell_at HSm.out HR0.out hc' (by decide)⟩
        clear own5 hg5 hat5
        refine hK.out _ _ hS5 (fun hSn => ?_)
        clear hK K
        simp only [Act.put]
        try simp only [List.setIfInBounds_toArray, List.set_cons_zero, List.set_cons_succ]
        refine takeL_at (i := 19) (d := 58) (v := ?_) (by simp only [List.getElem?_toArray, List.getElem?_cons_succ, List.getElem?_cons_zero]; rfl) rfl (by kernel_rfl) (by kernel_rfl) (by kernel_rfl) (by kernel_rfl) (fun _ _ _ h => h) rfl ?_ (by assumption) ?_
        rotate_left
        focus (intro w hSw; go_simp; (try with_reducible rfl); done)
        try simp only [List.setIfInBounds_toArray, List.set_cons_zero, List.set_cons_succ]
        refine exL_at (i := 20) (by simp only [List.getElem?_toArray, List.getElem?_cons_succ, List.getElem?_cons_zero]; rfl) (by kernel_rfl) rfl (by kernel_rfl) (fun K hK => ?_)
        have z5 : y5.frozen? ⟨T, a, none⟩ = false := frozen_at HSm.out hM.out.got HR0.out _
        go_wp2_with fail
        refine hK.out _ _ ?_
        clear hK K
        try simp only [List.setIfInBounds_toArray, List.set_cons_zero, List.set_cons_succ]
        refine wpAnyL_done (by kernel_rfl) ?_ _
        clear hS0 hSn hS4 hS5
        skip
        have HNew : Hid (NetM (y5.setCell ⟨T, a, none⟩ (.slice A8 (n0 + 1) c8)) L W E Y U T P1 P2 (tagN tag0 (.slice A8 (n0 + 1) c8) (2, a)) ways puts (gots.set a (gw ++ ms.take (i + 1))) false) := hide (by
          have h := hM.out.updGot hax HR0.out HSz.out.1 HSm.out HNw.out (xs' := xs ++ [m]) ⟨A8, c8, by simp [HN0.out]⟩ (by rw [List.length_append, HN0.out]; exact HOwn.out)
          rw [List.set_set] at h
          have e : gw ++ ms.take (i + 1) = xs ++ [m] := by rw [List.take_add_one, HMi.out]; show gw ++ (ms.take i ++ [m]) = _; rw [← List.append_assoc, HXs.out]
          rw [e]
          exact h)
        have HMd : Hid (ModN L x (y5.setCell ⟨T, a, none⟩ (.slice A8 (n0 + 1) c8))) := hide (modn_upd HR0.out hM.out.blkT.2.2 hM.out.lo.2.2.2 HSz.out.1 HSz.out.2 HSm.out)
        have HMd2 := hide (hMod.out.trans HMd.out)
        have HF2 := hide (hF.out.modn HMd.out)
        obtain ⟨y6, hy6⟩ : ∃ z, (y5.setCell ⟨T, a, none⟩ (.slice A8 (n0 + 1) c8)) = z := ⟨_, rfl⟩
        have q2 : y6.cell? ⟨T, a, none⟩ = some (.slice A8 (n0 + 1) c8) := by rw [← hy6]; exact cell_new HSm.out hM.out.got HR0.out (by simp [hlen.2.2]; exact ha)
        rw [hy6] at HNew HMd HMd2 HF2 ⊢
        clear hy6 e1 e2 hv0 hWx hYx hgx
        have hW6 : W < y6.heap.size := lt_of_block HNew.out.wd
        have q1 : y6.cell? ⟨W, 3, none⟩ = some (.slice (some ⟨T, 0, none⟩) 2 2) := cell_of_row _ _ 3 _ _ _ HNew.out.wd
        have q3 : y6.cell? ⟨W, 2, none⟩ = some (.slice (some ⟨U, 0, none⟩) 2 2) := cell_of_row _ _ 2 _ _ _ HNew.out.wd
        obtain ⟨vp, q4, hRp⟩ := HNew.out.put.at_ HP0.out
        obtain ⟨Ap, cpp, rfl, -, -, -⟩ := hRp.rd
        obtain ⟨np, hnp2⟩ : ∃ z, p.length = z := ⟨_, rfl⟩
        rw [hnp2] at q4 hRp hnp hpl
        obtain ⟨gp, op, rfl, hgp, q5⟩ := hRp.get HPm.out
        obtain ⟨-, g', Ar', cr', cur', hA', hg', hci', hrt', -⟩ := HF2.out.get HMi.out
        injection hA' with hA'
        injection hA' with hA' _
        subst hA'
        rw [HFl2.out] at hci'
        have q6 : y6.cell? ⟨g, i, none⟩ = some (.slice Ar' fl2 cr') := (cell_of_row _ _ i _ _ _ hg').trans hci'
        have HRt2 := hide hrt'
        have HK2 := hide (str_kept (c := cr') hrt'.rd HFl2.out)
        have kn : IntKind.i64.wrap (n0 : Int) = (n0 : Int) := IntWalk.i64_in _ (by omega)
        have hq0 : ¬ (np : Int) < (n0 : Int) + 1 := by omega
        have hq1 : (n0 : Int) < (np : Int) := by omega
        have hq2 : (0 : Int) ≤ (n0 : Int) := by omega
        have hg6 : g < y6.heap.size := lt_of_block hg'
        have hU6 : U < y6.heap.size := HNew.out.put.lt
        have hT6 : T < y6.heap.size := HNew.out.got.lt
        clear hRp hg' hci' hrt'
        go_upto_region 8 with fail
        refine wp_region_held_drew (S := Kept y6) (by kernel_rfl) (Kept.drew y6) (fun hS0 => ?_)
        refine take_at (i := 0) (d := 67) (v := ?_) (by simp only [List.getElem?_toArray, List.getElem?_cons_succ, List.getElem?_cons_zero]; rfl) rfl (by kernel_rfl) (by kernel_rfl) (by kernel_rfl) (fun _ _ _ h => h) rfl ?_ (by assumption) ?_
        rotate_left
        focus (intro w hSw; go_simp; (try with_reducible rfl); done)
        try simp only [List.setIfInBounds_toArray, List.set_cons_zero, List.set_cons_succ]
        refine take_at (i := 1) (d := 68) (v := ?_) (by simp only [List.getElem?_toArray, List.getElem?_cons_succ, List.getElem?_cons_zero]; rfl) rfl (by kernel_rfl) (by kernel_rfl) (by kernel_rfl) (fun _ _ _ h => h) rfl ?_ (by assumption) ?_
        rotate_left
        focus (intro w hSw; go_simp; (try with_reducible rfl); done)
        try simp only [List.setIfInBounds_toArray, List.set_cons_zero, List.set_cons_succ]
        refine take_at (i := 2) (d := 69) (v := ?_) (by simp only [List.getElem?_toArray, List.getElem?_cons_succ, List.getElem?_cons_zero]; rfl) rfl (by kernel_rfl) (by kernel_rfl) (by kernel_rfl) (fun _ _ _ h => h) rfl ?_ (by assumption) ?_
        rotate_left
        focus (intro w hSw; go_simp; (try with_reducible rfl); done)
        try simp only [List.setIfInBounds_toArray, List.set_cons_zero, List.set_cons_succ]
        refine take_at (i := 3) (d := 70) (v := ?_) (by simp only [List.getElem?_toArray, List.getElem?_cons_succ, List.getElem?_cons_zero]; rfl) rfl (by kernel_rfl) (by kernel_rfl) (by kernel_rfl) (fun _ _ _ h => h) rfl ?_ (by assumption) ?_
        rotate_left
        focus (intro w hSw; go_simp; (try with_reducible rfl); done)
        try simp only [List.setIfInBounds_toArray, List.set_cons_zero, List.set_cons_succ]
        refine take_at (i := 4) (d := 71) (v := ?_) (by simp only [List.getElem?_toArray, List.getElem?_cons_succ, List.getElem?_cons_zero]; rfl) rfl (by kernel_rfl) (by kernel_rfl) (by kernel_rfl) (fun _ _ _ h => h) rfl ?_ (by assumption) ?_
        rotate_left
        focus (intro w hSw; go_simp; (try with_reducible rfl); done)
        try simp only [List.setIfInBounds_toArray, List.set_cons_zero, List.set_cons_succ]
        refine take_at (i := 5) (d := 72) (v := ?_) (by simp only [List.getElem?_toArray, List.getElem?_cons_succ, List.getElem?_cons_zero]; rfl) rfl (by kernel_rfl) (by kernel_rfl) (by kernel_rfl) (fun _ _ _ h => h) rfl ?_ (by assumption) ?_
        rotate_left
        focus (intro w hSw; go_simp; (try with_reducible rfl); done)
        try simp only [List.setIfInBounds_toArray, List.set_cons_zero, List.set_cons_succ]
        refine take_at (i := 6) (d := 73) (v := ?_) (by simp only [List.getElem?_toArray, List.getElem?_cons_succ, List.getElem?_cons_zero]; rfl) rfl (by kernel_rfl) (by kernel_rfl) (by kernel_rfl) (fun _ _ _ h => h) rfl ?_ (by assumption) ?_
        rotate_left
        focus (intro w hSw; go_simp; (try with_reducible rfl); done)
        try simp only [List.setIfInBounds_toArray, List.set_cons_zero, List.set_cons_succ]
        refine take_at (i := 7) (d := 74) (v := ?_) (by simp only [List.getElem?_toArray, List.getElem?_cons_succ, List.getElem?_cons_zero]; rfl) rfl (by kernel_rfl) (by kernel_rfl) (by kernel_rfl) (fun _ _ _ h => h) rfl ?_ (by assumption) ?_
        rotate_left
        focus (intro w hSw; go_simp; (try with_reducible rfl); done)
        try simp only [List.setIfInBounds_toArray, List.set_cons_zero, List.set_cons_succ]
        refine take_at (i := 8) (d := 75) (v := ?_) (by simp only [List.getElem?_toArray, List.getElem?_cons_succ, List.getElem?_cons_zero]; rfl) rfl (by kernel_rfl) (by kernel_rfl) (by kernel_rfl) (fun _ _ _ h => h) rfl ?_ (by assumption) ?_
        rotate_left
        focus (intro w hSw; go_simp; (try with_reducible rfl); done)
        try simp only [List.setIfInBounds_toArray, List.set_cons_zero, List.set_cons_succ]
        refine take_at (i := 9) (d := 76) (v := ?_) (by simp only [List.getElem?_toArray, List.getElem?_cons_succ, List.getElem?_cons_zero]; rfl) rfl (by kernel_rfl) (by kernel_rfl) (by kernel_rfl) (fun _ _ _ h => h) rfl ?_ (by assumption) ?_
        rotate_left
        focus (intro w hSw; go_simp; (try with_reducible rfl); done)
        try simp only [List.setIfInBounds_toArray, List.set_cons_zero, List.set_cons_succ]
        refine take_at (i := 10) (d := 77) (v := ?_) (by simp only [List.getElem?_toArray, List.getElem?_cons_succ, List.getElem?_cons_zero]; rfl) rfl (by kernel_rfl) (by kernel_rfl) (by kernel_rfl) (fun _ _ _ h => h) rfl ?_ (by assumption) ?_
        rotate_left
        focus (intro w hSw; go_simp; (try with_reducible rfl); done)
        try simp only [List.setIfInBounds_toArray, List.set_cons_zero, List.set_cons_succ]
        refine take_at (i := 11) (d := 78) (v := ?_) (by simp only [List.getElem?_toArray, List.getElem?_cons_succ, List.getElem?_cons_zero]; rfl) rfl (by kernel_rfl) (by kernel_rfl) (by kernel_rfl) (fun _ _ _ h => h) rfl ?_ (by assumption) ?_
        rotate_left
        focus (intro w hSw; go_simp; (try with_reducible rfl); done)
        try simp only [List.setIfInBounds_toArray, List.set_cons_zero, List.set_cons_succ]
        refine take_at (i := 12) (d := 79) (v := ?_) (by simp only [List.getElem?_toArray, List.getElem?_cons_succ, List.getElem?_cons_zero]; rfl) rfl (by kernel_rfl) (by kernel_rfl) (by kernel_rfl) (fun _ _ _ h => h) rfl ?_ (by assumption) ?_
        rotate_left
        focus (intro w hSw; go_simp; (try with_reducible rfl); done)
        try simp only [List.setIfInBounds_toArray, List.set_cons_zero, List.set_cons_succ]
        refine take_at (i := 13) (d := 80) (v := ?_) (by simp only [List.getElem?_toArray, List.getElem?_cons_succ, List.getElem?_cons_zero]; rfl) rfl (by kernel_rfl) (by kernel_rfl) (by kernel_rfl) (fun _ _ _ h => h) rfl ?_ (by assumption) ?_
        rotate_left
        focus (intro w hSw; go_simp; (try with_reducible rfl); done)
        try simp only [List.setIfInBounds_toArray, List.set_cons_zero, List.set_cons_succ]
        refine take_at (i := 14) (d := 81) (v := ?_) (by simp only [List.getElem?_toArray, List.getElem?_cons_succ, List.getElem?_cons_zero]; rfl) rfl (by kernel_rfl) (by kernel_rfl) (by kernel_rfl) (fun _ _ _ h => h) rfl ?_ (by assumption) ?_
        rotate_left
        focus (intro w hSw; go_simp; (try with_reducible rfl); done)
        try simp only [List.setIfInBounds_toArray, List.set_cons_zero, List.set_cons_succ]
        refine take_at (i := 15) (d := 82) (v := ?_) (by simp only [List.getElem?_toArray, List.getElem?_cons_succ, List.getElem?_cons_zero]; rfl) rfl (by kernel_rfl) (by kernel_rfl) (by kernel_rfl) (fun _ _ _ h => h) rfl ?_ (by assumption) ?_
        rotate_left
        focus (intro w hSw; go_simp; (try with_reducible rfl); done)
        try simp only [List.setIfInBounds_toArray, List.set_cons_zero, List.set_cons_succ]
        refine take_at (i := 16) (d := 83) (v := ?_) (by simp only [List.getElem?_toArray, List.getElem?_cons_succ, List.getElem?_cons_zero]; rfl) rfl (by kernel_rfl) (by kernel_rfl) (by kernel_rfl) (fun _ _ _ h => h) rfl ?_ (by assumption) ?_
        rotate_left
        focus (intro w hSw; go_simp; (try with_reducible rfl); done)
        try simp only [List.setIfInBounds_toArray, List.set_cons_zero, List.set_cons_succ]
        refine take_at (i := 17) (d := 84) (v := ?_) (by simp only [List.getElem?_toArray, List.getElem?_cons_succ, List.getElem?_cons_zero]; rfl) rfl (by kernel_rfl) (by kernel_rfl) (by kernel_rfl) (fun _ _ _ h => h) rfl ?_ (by assumption) ?_
        rotate_left
        focus (intro w hSw; go_simp; (try with_reducible rfl); done)
        try simp only [List.setIfInBounds_toArray, List.set_cons_zero, List.set_cons_succ]
        refine take_at (i := 18) (d := 85) (v := ?_) (by simp only [List.getElem?_toArray, List.getElem?_cons_succ, List.getElem?_cons_zero]; rfl) rfl (by kernel_rfl) (by kernel_rfl) (by kernel_rfl) (fun _ _ _ h => h) rfl ?_ (by assumption) ?_
        rotate_left
        focus (intro w hSw; go_simp; (try with_reducible rfl); done)
        try simp only [List.setIfInBounds_toArray, List.set_cons_zero, List.set_cons_succ]
        refine take_at (i := 19) (d := 86) (v := ?_) (by simp only [List.getElem?_toArray, List.getElem?_cons_succ, List.getElem?_cons_zero]; rfl) rfl (by kernel_rfl) (by kernel_rfl) (by kernel_rfl) (fun _ _ _ h => h) rfl ?_ (by assumption) ?_
        rotate_left
        focus (intro w hSw; go_simp; (try with_reducible rfl); done)
        try simp only [List.setIfInBounds_toArray, List.set_cons_zero, List.set_cons_succ]
        refine take_at (i := 20) (d := 87) (v := ?_) (by simp only [List.getElem?_toArray, List.getElem?_cons_succ, List.getElem?_cons_zero]; rfl) rfl (by kernel_rfl) (by kernel_rfl) (by kernel_rfl) (fun _ _ _ h => h) rfl ?_ (by assumption) ?_
        rotate_left
        focus (intro w hSw; go_simp; (try with_reducible rfl); done)
        try simp only [List.setIfInBounds_toArray, List.set_cons_zero, List.set_cons_succ]
        refine take_at (i := 21) (d := 88) (v := ?_) (by simp only [List.getElem?_toArray, List.getElem?_cons_succ, List.getElem?_cons_zero]; rfl) rfl (by kernel_rfl) (by kernel_rfl) (by kernel_rfl) (fun _ _ _ h => h) rfl ?_ (by assumption) ?_
        rotate_left
        focus (intro w hSw; go_simp; (try with_reducible rfl); done)
        try simp only [List.setIfInBounds_toArray, List.set_cons_zero, List.set_cons_succ]
        refine take_at (i := 22) (d := 89) (v := ?_) (by simp only [List.getElem?_toArray, List.getElem?_cons_succ, List.getElem?_cons_zero]; rfl) rfl (by kernel_rfl) (by kernel_rfl) (by kernel_rfl) (fun _ _ _ h => h) rfl ?_ (by assumption) ?_
        rotate_left
        focus (intro w hSw; go_simp; (try with_reducible rfl); done)
        try simp only [List.setIfInBounds_toArray, List.set_cons_zero, List.set_cons_succ]
        refine take_at (i := 23) (d := 90) (v := ?_) (by simp only [List.getElem?_toArray, List.getElem?_cons_succ, List.getElem?_cons_zero]; rfl) rfl (by kernel_rfl) (by kernel_rfl) (by kernel_rfl) (fun _ _ _ h => h) rfl ?_ (by assumption) ?_
        rotate_left
        focus (intro w hSw; go_simp; (try with_reducible rfl); done)
        try simp only [List.setIfInBounds_toArray, List.set_cons_zero, List.set_cons_succ]
        refine take_at (i := 24) (d := 91) (v := ?_) (by simp only [List.getElem?_toArray, List.getElem?_cons_succ, List.getElem?_cons_zero]; rfl) rfl (by kernel_rfl) (by kernel_rfl) (by kernel_rfl) (fun _ _ _ h => h) rfl ?_ (by assumption) ?_
        rotate_left
        focus (intro w hSw; go_simp; (try with_reducible rfl); done)
        try simp only [List.setIfInBounds_toArray, List.set_cons_zero, List.set_cons_succ]
        refine take_at (i := 25) (d := 92) (v := ?_) (by simp only [List.getElem?_toArray, List.getElem?_cons_succ, List.getElem?_cons_zero]; rfl) rfl (by kernel_rfl) (by kernel_rfl) (by kernel_rfl) (fun _ _ _ h => h) rfl ?_ (by assumption) ?_
        rotate_left
        focus (intro w hSw; go_simp; (try with_reducible rfl); done)
        try simp only [List.setIfInBounds_toArray, List.set_cons_zero, List.set_cons_succ]
        refine take_at (i := 26) (d := 93) (v := ?_) (by simp only [List.getElem?_toArray, List.getElem?_cons_succ, List.getElem?_cons_zero]; rfl) rfl (by kernel_rfl) (by kernel_rfl) (by kernel_rfl) (fun _ _ _ h => h) rfl ?_ (by assumption) ?_
        rotate_left
        focus (intro w hSw; go_simp; (try with_reducible rfl); done)
        try simp only [List.setIfInBounds_toArray, List.set_cons_zero, List.set_cons_succ]
        refine take_at (i := 27) (d := 94) (v := ?_) (by simp only [List.getElem?_toArray, List.getElem?_cons_succ, List.getElem?_cons_zero]; rfl) rfl (by kernel_rfl) (by kernel_rfl) (by kernel_rfl) (fun _ _ _ h => h) rfl ?_ (by assumption) ?_
        rotate_left
        focus (intro w hSw; go_simp; (try with_reducible rfl); done)
        try simp only [List.setIfInBounds_toArray, List.set_cons_zero, List.set_cons_succ]
        refine take_at (i := 28) (d := 95) (v := ?_) (by simp only [List.getElem?_toArray, List.getElem?_cons_succ, List.getElem?_cons_zero]; rfl) rfl (by kernel_rfl) (by kernel_rfl) (by kernel_rfl) (fun _ _ _ h => h) rfl ?_ (by assumption) ?_
        rotate_left
        focus (intro w hSw; have hh := HK2.out w hSw; go_simp; (try with_reducible rfl); done)
        try simp only [List.setIfInBounds_toArray, List.set_cons_zero, List.set_cons_succ]
        refine take_at (i := 29) (d := 96) (v := ?_) (by simp only [List.getElem?_toArray, List.getElem?_cons_succ, List.getElem?_cons_zero]; rfl) rfl (by kernel_rfl) (by kernel_rfl) (by kernel_rfl) (fun _ _ _ h => h) rfl ?_ (by assumption) ?_
        rotate_left
        focus (intro w hSw; go_simp; (try with_reducible rfl); done)
        try simp only [List.setIfInBounds_toArray, List.set_cons_zero, List.set_cons_succ]
        refine take_at (i := 30) (d := 97) (v := ?_) (by simp only [List.getElem?_toArray, List.getElem?_cons_succ, List.getElem?_cons_zero]; rfl) rfl (by kernel_rfl) (by kernel_rfl) (by kernel_rfl) (fun _ _ _ h => h) rfl ?_ (by assumption) ?_
        rotate_left
        focus (intro w hSw; go_simp; (try with_reducible rfl); done)
        try simp only [List.setIfInBounds_toArray, List.set_cons_zero, List.set_cons_succ]
        refine wpAnyH_done (by kernel_rfl) ?_ _
        clear hS0 q1 q2 q3 q4 q5 q6
        have HNd : Hid (NetM y6.drew L W E Y U T P1 P2 (tagN tag0 (.slice A8 (n0 + 1) c8) (2, a)) ways puts (gots.set a (gw ++ ms.take (i + 1))) false) := hide (HNew.out.next (Below.refl _ _).drew)
        have HMd3 := hide (HMd2.out.trans (ModN.of_below (Below.refl _ _).drew))
        have HF3 := hide (HF2.out.next (Below.refl _ _).drew)
        go_wp2
        go_roundw
        case rel => exact ⟨i + 1, _, by omega, by go_num, HNd, HMd3, HF3⟩
        case measure => simp [intOf]; omega
      have hI1 : ¬ (i : Int) < (ml : Int) := by omega
      obtain rfl : i = ml := by omega
      have HEx : Hid (∃ tag', NetM x L W E Y U T P1 P2 tag' ways puts (gots.set a (gots.getD a [] ++ (hearL s f).2.1)) false ∧ Two x L B (n + 1) Q2 Q1 t (hearL s f).2.2 ∧ B ≤ x.heap.size) := hide ⟨tag0, by (rw [List.getD_eq_getElem?_getD, HG0.out, HMs.out]; have h := hM.out; rwa [List.take_of_length_le (by rw [HMl.out]; exact Nat.le_refl _)] at h), by rw [HS'.out]; exact HT1.out.modn hMod.out, Nat.le_trans HBl.out hMod.out.size⟩
      have HFin := hide (HB1.out.trans (hMod.out.toBelow (Nat.le_trans (Nat.le_of_lt HLx0.out) HB1.out.size)))
      go_wp2
      go_end0
      exact ⟨rfl, HEx.out, HFin.out, fun Bf v fs hb h => (HFk.out Bf v fs hb h).modn hMod.out⟩
end Go.Proofs.Ytigmmikijjcdiaa
