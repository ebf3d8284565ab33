/- Put: the bytes of a part. (printed by gen/spt.py) -/
import Derived.Test.YtgfdlllmcbgbcaaProg
import Derived.Test.YtgfdlllmcbgbcaaSpb
import Derived.Test.YtgfdlllmcbgbcaaRgt
import Derived.Test.YtgfdlllmcbgbcaaFou
import Derived.Test.YtgfdlllmcbgbcaaKbl
import Derived.Deep.DeepCutAuto
import Derived.Deep.CutBlock
import Derived.Lib.Hide
import Derived.WalkSpells
import Derived.WalkMore
import Derived.IntWalk
namespace Go.Proofs.Ytgfdlllmcbgbcaa
open Go.RowKit
set_option linter.unusedVariables false
set_option linter.unusedSimpArgs false
theorem Besides.kb {g : Nat} {v w w' : World} (h : KB [g] v w) (hb : Besides g w w') : KB [g] v w' :=
  ⟨Nat.le_trans h.1 hb.size, fun b hl hx => (hb.block b (Nat.lt_of_lt_of_le hl h.1) (by simpa using hx)).trans (h.2 b hl hx)⟩
set_option maxRecDepth 100000 in
set_option maxHeartbeats 2000000 in
theorem sput_bad (w : World) (p : SPart) (Ao Av Ac Ai : Option Addr) (no nv nc ni co cv cc ci : Nat) (hlen : SLen p no nv nc ni) (bn : no ≤ 9223372036854775807) (hin : SIn w p Ao Av Ac Ai) (hr : rightB p = false) :
    Calls Try.prog 11 #[.agg #[.int .i64 p.step, .slice Ao no co, .slice Av nv cv, .slice Ac nc cc, .slice Ai ni ci]] w (PutPost w [] 4) := by
  obtain ⟨u, hu⟩ : ∃ u, w.alloc (.cells #[.int .i64 p.step, .slice Ao no co, .slice Av nv cv, .slice Ac nc cc, .slice Ai ni ci] 27) = u := ⟨_, rfl⟩
  have hbu : Hid (Below w.heap.size w u) := hide (by rw [← hu]; exact (Below.refl _ _).alloc (Nat.le_refl _) _)
  have HI := hide (hin.next hbu.out)
  have HU := hide hu
  have HR := hide hr
  have HLen := hide hlen
  clear hu hin hr hlen
  go_enter Try.func11, Try.ntmps11
  go_wp2_with fail
  rw [HU.out]
  refine (right_any u p Ao Av Ac Ai no nv nc ni co cv cc ci HLen.out bn HI.out).mono ?_
  rintro e y1 ⟨rfl, k1⟩
  rw [HR.out]
  have HB1 := hide (hbu.out.trans (k1.mono hbu.out.size))
  clear k1
  go_wp2
  go_ret2
  exact ⟨none, 0, 0, rfl, rfl, Rd.nil_, by omega, by omega, HB1.out⟩
set_option maxRecDepth 100000 in
set_option maxHeartbeats 16000000 in
theorem sput_ok (w : World) (p : SPart) (Ao Av Ac Ai : Option Addr) (no nv nc ni co cv cc ci : Nat) (hlen : SLen p no nv nc ni) (bn : no ≤ 2000) (hin : SIn w p Ao Av Ac Ai) (hr : rightB p = true) :
    Calls Try.prog 11 #[.agg #[.int .i64 p.step, .slice Ao no co, .slice Av nv cv, .slice Ac nc cc, .slice Ai ni ci]] w (PutPost w (putB p) 0) := by
  obtain ⟨n, hn⟩ : ∃ n, no = n := ⟨_, rfl⟩
  obtain ⟨q1, q2, q3, q4, q5, hrl⟩ := right_parts hr
  obtain rfl : no = n := hn
  obtain rfl : nv = no := by have := hlen.1; have := hlen.2.1; omega
  obtain rfl : nc = nv := by have := hlen.1; have := hlen.2.2.1; omega
  obtain rfl : ni = nc := by have := hlen.1; have := hlen.2.2.2; omega
  obtain ⟨s, hs⟩ := Int.eq_ofNat_of_zero_le q1
  obtain ⟨n, rfl⟩ : ∃ n, n = ni := ⟨_, rfl⟩
  rw [hs]
  obtain ⟨u, hu⟩ : ∃ u, w.alloc (.cells #[.int .i64 (s : Int), .slice Ao n co, .slice Av n cv, .slice Ac n cc, .slice Ai n ci] 27) = u := ⟨_, rfl⟩
  have hbu : Hid (Below w.heap.size w u) := hide (by rw [← hu]; exact (Below.refl _ _).alloc (Nat.le_refl _) _)
  have hcu : Hid (u.heap[w.heap.size]? = some (.cells #[.int .i64 (s : Int), .slice Ao n co, .slice Av n cv, .slice Ac n cc, .slice Ai n ci] 27)) := hide (by rw [← hu]; exact heap_alloc_last _ _)
  have hlu : w.heap.size < u.heap.size := by rw [← hu]; simp
  have HI := hide hin
  have HI2 := hide (hin.next hbu.out)
  have HU := hide hu
  have HR := hide hr
  have HRt := hide hrl
  have HLen := hide hlen
  have HS := hide hs
  have hs2 : s ≤ 2000 := by omega
  clear hu hin hr hlen hrl q1 q2 q3 q4 q5 hs
  go_enter Try.func11, Try.ntmps11
  go_wp2_with fail
  rw [HU.out]
  have hcall := right_any u p Ao Av Ac Ai n n n n co cv cc ci HLen.out (by omega) HI2.out
  rw [HS.out] at hcall
  refine hcall.mono ?_
  clear hcall
  rintro e y1 ⟨rfl, k1⟩
  rw [HR.out]
  have HB1 := hide (hbu.out.trans (k1.mono hbu.out.size))
  have hly : u.heap.size ≤ y1.heap.size := k1.size
  have hcy := (k1.block w.heap.size hlu).trans hcu.out
  obtain ⟨v0, hv0⟩ : ∃ v0, y1.alloc (.cells #[.pointer none, .int .i64 0] 64) = v0 := ⟨_, rfl⟩
  obtain ⟨g, hg⟩ : ∃ g, y1.heap.size = g := ⟨_, rfl⟩
  have hW0 : Hid (Wo v0 g g []) := hide (by rw [← hv0, ← hg]; exact Wo.new y1)
  have hB0 : Hid (Below w.heap.size w v0) := hide (by rw [← hv0]; exact HB1.out.alloc HB1.out.size _)
  have hcv := (show v0.heap[w.heap.size]? = y1.heap[w.heap.size]? by rw [← hv0]; exact Below.heap_alloc _ _ _ (by omega)).trans hcy
  have hv0s : g < v0.heap.size := by rw [← hv0, ← hg]; simp
  have e0 : v0.cell? ⟨w.heap.size, 0, none⟩ = some (.int .i64 (s : Int)) := cell_of_row _ _ 0 _ _ _ hcv
  have E1 := hide (show v0.cell? ⟨w.heap.size, 1, none⟩ = some (.slice Ao n co) from cell_of_row _ _ 1 _ _ _ hcv)
  have E2 := hide (show v0.cell? ⟨w.heap.size, 2, none⟩ = some (.slice Av n cv) from cell_of_row _ _ 2 _ _ _ hcv)
  have E3 := hide (show v0.cell? ⟨w.heap.size, 3, none⟩ = some (.slice Ac n cc) from cell_of_row _ _ 3 _ _ _ hcv)
  have E4 := hide (show v0.cell? ⟨w.heap.size, 4, none⟩ = some (.slice Ai n ci) from cell_of_row _ _ 4 _ _ _ hcv)
  have KV : Hid (∀ p : Addr, p.block < w.heap.size → v0.cell? p = w.cell? p) := hide (fun p hp => hB0.out.cell hp)
  have hwg : w.heap.size ≤ g := by omega
  have lw : w.heap.size < v0.heap.size := by omega
  have xw : w.heap.size ∉ [g] := by simp; omega
  have HV0 := hide hv0
  have HG := hide hg
  clear hcy hcv k1 hv0
  rw [hg] at hly
  clear hg
  go_upto_region 4 with fail
  rw [HV0.out, HG.out]
  go_wp2_with fail
  refine (put32 _ g [] s (by omega) hW0.out (by simp)).mono ?_
  rintro e z1 ⟨rfl, hw1, b1⟩
  have W1 := hide hw1
  have K1 := hide (Besides.kb (KB.refl [g] v0) b1)
  have B1 := hide (hB0.out.trans (b1.below hwg hB0.out.size))
  have e1 := (K1.out.cell (p := ⟨w.heap.size, 1, none⟩) lw xw).trans E1.out
  have s1 : v0.heap.size ≤ z1.heap.size := K1.out.1
  clear hw1 b1 e0 hW0
  go_wp2_with fail
  refine (put16 _ g ([] ++ be 4 s) n (by omega) W1.out (by simp [be_len])).mono ?_
  rintro e z2 ⟨rfl, hw2, b2⟩
  have W2 : Hid (Wo z2 g g (headB p ++ rowsB p 0)) := hide (by
    have := hw2
    rw [headB, HS.out, HLen.out.1, Int.toNat_natCast]
    simpa [rowsB] using this)
  have K2 := hide (Besides.kb K1.out b2)
  have B2 := hide (B1.out.trans (b2.below hwg B1.out.size))
  have e1 := (K2.out.cell (p := ⟨w.heap.size, 1, none⟩) lw xw).trans E1.out
  have s2 : v0.heap.size ≤ z2.heap.size := K2.out.1
  clear hw2 b2 W1 K1 B1
  go_wp2
  go_loopw [24] (fun v24 wr => ∃ i : Nat, i ≤ n ∧ v24 = .int .i64 i ∧ Hid (Wo wr g g (headB p ++ rowsB p i)) ∧ Hid (KB [g] v0 wr) ∧ Hid (Below w.heap.size w wr)) (fun v24 _ => n - (intOf v24).toNat)
  case atStart => exact ⟨0, by omega, rfl, W2, K2, B2⟩
  case round =>
    clear W2 K2 B2 e1
    obtain ⟨i, hi, rfl, HW, HK, HBr⟩ := hrel
    have s0 : v0.heap.size ≤ wr.heap.size := HK.out.1
    by_cases hlt : i < n
    · obtain ⟨v, hv⟩ : ∃ v, p.own[i]? = some v := ⟨_, List.getElem?_eq_getElem (by rw [HLen.out.1]; exact hlt)⟩
      obtain ⟨x, hx⟩ : ∃ x, p.vals[i]? = some x := ⟨_, List.getElem?_eq_getElem (by rw [HLen.out.2.1]; exact hlt)⟩
      obtain ⟨c, hc⟩ : ∃ c, p.chg[i]? = some c := ⟨_, List.getElem?_eq_getElem (by rw [HLen.out.2.2.1]; exact hlt)⟩
      obtain ⟨⟨h, y⟩, hm⟩ : ∃ m, p.inb[i]? = some m := ⟨_, List.getElem?_eq_getElem (by rw [HLen.out.2.2.2]; exact hlt)⟩
      obtain ⟨r1, r2, r3, r4, r5⟩ := right_elem HRt.out (by omega) hv hx hm
      obtain ⟨bo, oo, rfl, lo, dv⟩ := HI.out.own.at1 (i64s_get hv)
      obtain ⟨bv, ov, rfl, lv, dx⟩ := HI.out.vals.at1 (i64s_get hx)
      obtain ⟨bc, oc, rfl, lc, dc⟩ := HI.out.chg.at1 (show (bools p.chg)[i]? = some (.bool c) by simp [bools, hc])
      obtain ⟨bi, oi, rfl, li, dm, dy⟩ := HI.out.inb.ml hm
      dsimp only at dm dy r5
      obtain ⟨v, rfl⟩ := Int.eq_ofNat_of_zero_le r1
      obtain ⟨x, rfl⟩ := Int.eq_ofNat_of_zero_le r3
      have hI0 : (0 : Int) ≤ (i : Int) := by omega
      have hI1 : (i : Int) < (n : Int) := by omega
      have HOw := hide hv; have HVa := hide hx; have HCh := hide hc; have HIn := hide hm
      have xo : bo ∉ [g] := by simp; omega
      have xv : bv ∉ [g] := by simp; omega
      have xc : bc ∉ [g] := by simp; omega
      have xi : bi ∉ [g] := by simp; omega
      have lo : bo < v0.heap.size := by omega
      have lv : bv < v0.heap.size := by omega
      have lc : bc < v0.heap.size := by omega
      have li : bi < v0.heap.size := by omega
      have FX := hide ((KV.out ⟨bv, ov + i, none⟩ (by show bv < _; omega)).trans dx)
      have FC := hide ((KV.out ⟨bc, oc + i, none⟩ (by show bc < _; omega)).trans dc)
      have FM := hide ((KV.out ⟨bi, oi + i * 2, none⟩ (by show bi < _; omega)).trans dm)
      have FY := hide ((KV.out ⟨bi, oi + i * 2 + 1, none⟩ (by show bi < _; omega)).trans dy)
      have c1 := (HK.out.cell (p := ⟨bo, oo + i, none⟩) lo xo).trans ((KV.out ⟨bo, oo + i, none⟩ (by show bo < _; omega)).trans dv)
      obtain ⟨out, ho⟩ : ∃ o, headB p ++ rowsB p i = o := ⟨_, rfl⟩
      have HOut := hide ho
      have hol : out.length ≤ 6 + 19 * i := by have := rowsB_len p i; rw [← ho, List.length_append, headB_len]; omega
      rw [ho] at HW
      skip
      clear ho hv hx hc hm dv dx dc dm dy r1 r3
      rcases c with _ | _ <;> rcases h with _ | _
      · have HSN := hide (rowsB_snoc HOw.out HVa.out HCh.out HIn.out)
        go_wp2_with fail
        refine (put16 _ g out v (by omega) HW.out (by omega)).mono ?_
        rintro e z1 ⟨rfl, hw1, b1⟩
        have W1 := hide hw1
        have K1 := hide (Besides.kb HK.out b1)
        have B1 := hide (HBr.out.trans (b1.below hwg HBr.out.size))
        have s1 : v0.heap.size ≤ z1.heap.size := K1.out.1
        have d2 := (K1.out.cell (p := ⟨w.heap.size, 2, none⟩) lw xw).trans E2.out
        have d3 := (K1.out.cell (p := ⟨w.heap.size, 3, none⟩) lw xw).trans E3.out
        have d4 := (K1.out.cell (p := ⟨w.heap.size, 4, none⟩) lw xw).trans E4.out
        have f1 := (K1.out.cell (p := ⟨bv, ov + i, none⟩) lv xv).trans FX.out
        clear hw1 b1 c1 HW HK HBr
        go_wp2_with fail
        refine (put64 _ g (out ++ be 2 v) x (by omega) W1.out (by rw [List.length_append, be_len]; omega)).mono ?_
        rintro e z2 ⟨rfl, hw2, b2⟩
        have W2 := hide hw2
        have K2 := hide (Besides.kb K1.out b2)
        have B2 := hide (B1.out.trans (b2.below hwg B1.out.size))
        have s2 : v0.heap.size ≤ z2.heap.size := K2.out.1
        have d3 := (K2.out.cell (p := ⟨w.heap.size, 3, none⟩) lw xw).trans E3.out
        have d4 := (K2.out.cell (p := ⟨w.heap.size, 4, none⟩) lw xw).trans E4.out
        have f2 := (K2.out.cell (p := ⟨bc, oc + i, none⟩) lc xc).trans FC.out
        have f3 := (K2.out.cell (p := ⟨bi, oi + i * 2, none⟩) li xi).trans FM.out
        have f4 := (K2.out.cell (p := ⟨bi, oi + i * 2 + 1, none⟩) li xi).trans FY.out
        clear hw2 b2 d2 f1 W1 K1 B1
        have W2a := hide (W2.out.below ((Below.refl z2.heap.size z2).alloc (Nat.le_refl _) (.cells #[.bool false, .int .i64 y] 61)))
        have K2a := hide (K2.out.alloc (.cells #[.bool false, .int .i64 y] 61))
        have B2a := hide (B2.out.alloc B2.out.size (.cells #[.bool false, .int .i64 y] 61))
        have M0 := heap_alloc_last z2 (.cells #[.bool false, .int .i64 y] 61)
        have hz2g : g ≠ z2.heap.size := by have := W2.out.lt; have := W2.out.le; omega
        have HM0 := hide M0
        clear M0 W2 K2 B2
        go_wp2_with fail
        refine (put8 _ g ((out ++ be 2 v) ++ be 8 x) 0 (by omega) W2a.out (by simp only [List.length_append, be_len]; omega)).mono ?_
        rintro e z3 ⟨rfl, hw3, b3⟩
        have W3 := hide hw3
        have K3 := hide (Besides.kb K2a.out b3)
        have B3 := hide (B2a.out.trans (b3.below hwg B2a.out.size))
        have m1 := (b3.block z2.heap.size (by simp) (fun e => hz2g e.symm)).trans HM0.out
        have n0 : z3.cell? ⟨z2.heap.size, 0, none⟩ = some (.bool false) := cell_of_row _ _ 0 _ _ _ m1
        have n1 : z3.cell? ⟨z2.heap.size, 1, none⟩ = some (.int .i64 y) := cell_of_row _ _ 1 _ _ _ m1
        have ln := lt_of_block m1
        clear hw3 b3 d3 d4 f2 f3 f4 W2a K2a B2a HM0 m1
        have W4 : Hid (Wo z3 g g (headB p ++ rowsB p (i + 1))) := hide (by rw [HSN.out, ← List.append_assoc, HOut.out]; have := W3.out; simp only [vB, flagOf, Int.toNat_natCast] at this ⊢; simpa using this)
        go_wp2
        go_roundw
        case rel => exact ⟨i + 1, by omega, by go_num, W4, K3, B3⟩
        case measure => simp [intOf]; omega
      · have r6 := r5 rfl
        obtain ⟨y, rfl⟩ := Int.eq_ofNat_of_zero_le r6.1
        have r7 := r6.2
        clear r5 r6
        have HSN := hide (rowsB_snoc HOw.out HVa.out HCh.out HIn.out)
        go_wp2_with fail
        refine (put16 _ g out v (by omega) HW.out (by omega)).mono ?_
        rintro e z1 ⟨rfl, hw1, b1⟩
        have W1 := hide hw1
        have K1 := hide (Besides.kb HK.out b1)
        have B1 := hide (HBr.out.trans (b1.below hwg HBr.out.size))
        have s1 : v0.heap.size ≤ z1.heap.size := K1.out.1
        have d2 := (K1.out.cell (p := ⟨w.heap.size, 2, none⟩) lw xw).trans E2.out
        have d3 := (K1.out.cell (p := ⟨w.heap.size, 3, none⟩) lw xw).trans E3.out
        have d4 := (K1.out.cell (p := ⟨w.heap.size, 4, none⟩) lw xw).trans E4.out
        have f1 := (K1.out.cell (p := ⟨bv, ov + i, none⟩) lv xv).trans FX.out
        clear hw1 b1 c1 HW HK HBr
        go_wp2_with fail
        refine (put64 _ g (out ++ be 2 v) x (by omega) W1.out (by rw [List.length_append, be_len]; omega)).mono ?_
        rintro e z2 ⟨rfl, hw2, b2⟩
        have W2 := hide hw2
        have K2 := hide (Besides.kb K1.out b2)
        have B2 := hide (B1.out.trans (b2.below hwg B1.out.size))
        have s2 : v0.heap.size ≤ z2.heap.size := K2.out.1
        have d3 := (K2.out.cell (p := ⟨w.heap.size, 3, none⟩) lw xw).trans E3.out
        have d4 := (K2.out.cell (p := ⟨w.heap.size, 4, none⟩) lw xw).trans E4.out
        have f2 := (K2.out.cell (p := ⟨bc, oc + i, none⟩) lc xc).trans FC.out
        have f3 := (K2.out.cell (p := ⟨bi, oi + i * 2, none⟩) li xi).trans FM.out
        have f4 := (K2.out.cell (p := ⟨bi, oi + i * 2 + 1, none⟩) li xi).trans FY.out
        clear hw2 b2 d2 f1 W1 K1 B1
        have W2a := hide (W2.out.below ((Below.refl z2.heap.size z2).alloc (Nat.le_refl _) (.cells #[.bool true, .int .i64 y] 61)))
        have K2a := hide (K2.out.alloc (.cells #[.bool true, .int .i64 y] 61))
        have B2a := hide (B2.out.alloc B2.out.size (.cells #[.bool true, .int .i64 y] 61))
        have M0 := heap_alloc_last z2 (.cells #[.bool true, .int .i64 y] 61)
        have hz2g : g ≠ z2.heap.size := by have := W2.out.lt; have := W2.out.le; omega
        have HM0 := hide M0
        clear M0 W2 K2 B2
        go_wp2_with fail
        refine (put8 _ g ((out ++ be 2 v) ++ be 8 x) 2 (by omega) W2a.out (by simp only [List.length_append, be_len]; omega)).mono ?_
        rintro e z3 ⟨rfl, hw3, b3⟩
        have W3 := hide hw3
        have K3 := hide (Besides.kb K2a.out b3)
        have B3 := hide (B2a.out.trans (b3.below hwg B2a.out.size))
        have m1 := (b3.block z2.heap.size (by simp) (fun e => hz2g e.symm)).trans HM0.out
        have n0 : z3.cell? ⟨z2.heap.size, 0, none⟩ = some (.bool true) := cell_of_row _ _ 0 _ _ _ m1
        have n1 : z3.cell? ⟨z2.heap.size, 1, none⟩ = some (.int .i64 y) := cell_of_row _ _ 1 _ _ _ m1
        have ln := lt_of_block m1
        clear hw3 b3 d3 d4 f2 f3 f4 W2a K2a B2a HM0 m1
        go_wp2_with fail
        refine (put64 _ g (((out ++ be 2 v) ++ be 8 x) ++ be 1 2) y (by omega) W3.out (by simp only [List.length_append, be_len]; omega)).mono ?_
        rintro e z4 ⟨rfl, hw4, b4⟩
        have W4 : Hid (Wo z4 g g (headB p ++ rowsB p (i + 1))) := hide (by rw [HSN.out, ← List.append_assoc, HOut.out]; have := hw4; simp only [vB, flagOf, Int.toNat_natCast] at this ⊢; simpa using this)
        have K4 := hide (Besides.kb K3.out b4)
        have B4 := hide (B3.out.trans (b4.below hwg B3.out.size))
        clear hw4 b4 n0 n1 W3 K3 B3
        go_wp2
        go_roundw
        case rel => exact ⟨i + 1, by omega, by go_num, W4, K4, B4⟩
        case measure => simp [intOf]; omega
      · have HSN := hide (rowsB_snoc HOw.out HVa.out HCh.out HIn.out)
        go_wp2_with fail
        refine (put16 _ g out v (by omega) HW.out (by omega)).mono ?_
        rintro e z1 ⟨rfl, hw1, b1⟩
        have W1 := hide hw1
        have K1 := hide (Besides.kb HK.out b1)
        have B1 := hide (HBr.out.trans (b1.below hwg HBr.out.size))
        have s1 : v0.heap.size ≤ z1.heap.size := K1.out.1
        have d2 := (K1.out.cell (p := ⟨w.heap.size, 2, none⟩) lw xw).trans E2.out
        have d3 := (K1.out.cell (p := ⟨w.heap.size, 3, none⟩) lw xw).trans E3.out
        have d4 := (K1.out.cell (p := ⟨w.heap.size, 4, none⟩) lw xw).trans E4.out
        have f1 := (K1.out.cell (p := ⟨bv, ov + i, none⟩) lv xv).trans FX.out
        clear hw1 b1 c1 HW HK HBr
        go_wp2_with fail
        refine (put64 _ g (out ++ be 2 v) x (by omega) W1.out (by rw [List.length_append, be_len]; omega)).mono ?_
        rintro e z2 ⟨rfl, hw2, b2⟩
        have W2 := hide hw2
        have K2 := hide (Besides.kb K1.out b2)
        have B2 := hide (B1.out.trans (b2.below hwg B1.out.size))
        have s2 : v0.heap.size ≤ z2.heap.size := K2.out.1
        have d3 := (K2.out.cell (p := ⟨w.heap.size, 3, none⟩) lw xw).trans E3.out
        have d4 := (K2.out.cell (p := ⟨w.heap.size, 4, none⟩) lw xw).trans E4.out
        have f2 := (K2.out.cell (p := ⟨bc, oc + i, none⟩) lc xc).trans FC.out
        have f3 := (K2.out.cell (p := ⟨bi, oi + i * 2, none⟩) li xi).trans FM.out
        have f4 := (K2.out.cell (p := ⟨bi, oi + i * 2 + 1, none⟩) li xi).trans FY.out
        clear hw2 b2 d2 f1 W1 K1 B1
        have W2a := hide (W2.out.below ((Below.refl z2.heap.size z2).alloc (Nat.le_refl _) (.cells #[.bool false, .int .i64 y] 61)))
        have K2a := hide (K2.out.alloc (.cells #[.bool false, .int .i64 y] 61))
        have B2a := hide (B2.out.alloc B2.out.size (.cells #[.bool false, .int .i64 y] 61))
        have M0 := heap_alloc_last z2 (.cells #[.bool false, .int .i64 y] 61)
        have hz2g : g ≠ z2.heap.size := by have := W2.out.lt; have := W2.out.le; omega
        have HM0 := hide M0
        clear M0 W2 K2 B2
        go_wp2_with fail
        refine (put8 _ g ((out ++ be 2 v) ++ be 8 x) 1 (by omega) W2a.out (by simp only [List.length_append, be_len]; omega)).mono ?_
        rintro e z3 ⟨rfl, hw3, b3⟩
        have W3 := hide hw3
        have K3 := hide (Besides.kb K2a.out b3)
        have B3 := hide (B2a.out.trans (b3.below hwg B2a.out.size))
        have m1 := (b3.block z2.heap.size (by simp) (fun e => hz2g e.symm)).trans HM0.out
        have n0 : z3.cell? ⟨z2.heap.size, 0, none⟩ = some (.bool false) := cell_of_row _ _ 0 _ _ _ m1
        have n1 : z3.cell? ⟨z2.heap.size, 1, none⟩ = some (.int .i64 y) := cell_of_row _ _ 1 _ _ _ m1
        have ln := lt_of_block m1
        clear hw3 b3 d3 d4 f2 f3 f4 W2a K2a B2a HM0 m1
        have W4 : Hid (Wo z3 g g (headB p ++ rowsB p (i + 1))) := hide (by rw [HSN.out, ← List.append_assoc, HOut.out]; have := W3.out; simp only [vB, flagOf, Int.toNat_natCast] at this ⊢; simpa using this)
        go_wp2
        go_roundw
        case rel => exact ⟨i + 1, by omega, by go_num, W4, K3, B3⟩
        case measure => simp [intOf]; omega
      · have r6 := r5 rfl
        obtain ⟨y, rfl⟩ := Int.eq_ofNat_of_zero_le r6.1
        have r7 := r6.2
        clear r5 r6
        have HSN := hide (rowsB_snoc HOw.out HVa.out HCh.out HIn.out)
        go_wp2_with fail
        refine (put16 _ g out v (by omega) HW.out (by omega)).mono ?_
        rintro e z1 ⟨rfl, hw1, b1⟩
        have W1 := hide hw1
        have K1 := hide (Besides.kb HK.out b1)
        have B1 := hide (HBr.out.trans (b1.below hwg HBr.out.size))
        have s1 : v0.heap.size ≤ z1.heap.size := K1.out.1
        have d2 := (K1.out.cell (p := ⟨w.heap.size, 2, none⟩) lw xw).trans E2.out
        have d3 := (K1.out.cell (p := ⟨w.heap.size, 3, none⟩) lw xw).trans E3.out
        have d4 := (K1.out.cell (p := ⟨w.heap.size, 4, none⟩) lw xw).trans E4.out
        have f1 := (K1.out.cell (p := ⟨bv, ov + i, none⟩) lv xv).trans FX.out
        clear hw1 b1 c1 HW HK HBr
        go_wp2_with fail
        refine (put64 _ g (out ++ be 2 v) x (by omega) W1.out (by rw [List.length_append, be_len]; omega)).mono ?_
        rintro e z2 ⟨rfl, hw2, b2⟩
        have W2 := hide hw2
        have K2 := hide (Besides.kb K1.out b2)
        have B2 := hide (B1.out.trans (b2.below hwg B1.out.size))
        have s2 : v0.heap.size ≤ z2.heap.size := K2.out.1
        have d3 := (K2.out.cell (p := ⟨w.heap.size, 3, none⟩) lw xw).trans E3.out
        have d4 := (K2.out.cell (p := ⟨w.heap.size, 4, none⟩) lw xw).trans E4.out
        have f2 := (K2.out.cell (p := ⟨bc, oc + i, none⟩) lc xc).trans FC.out
        have f3 := (K2.out.cell (p := ⟨bi, oi + i * 2, none⟩) li xi).trans FM.out
        have f4 := (K2.out.cell (p := ⟨bi, oi + i * 2 + 1, none⟩) li xi).trans FY.out
        clear hw2 b2 d2 f1 W1 K1 B1
        have W2a := hide (W2.out.below ((Below.refl z2.heap.size z2).alloc (Nat.le_refl _) (.cells #[.bool true, .int .i64 y] 61)))
        have K2a := hide (K2.out.alloc (.cells #[.bool true, .int .i64 y] 61))
        have B2a := hide (B2.out.alloc B2.out.size (.cells #[.bool true, .int .i64 y] 61))
        have M0 := heap_alloc_last z2 (.cells #[.bool true, .int .i64 y] 61)
        have hz2g : g ≠ z2.heap.size := by have := W2.out.lt; have := W2.out.le; omega
        have HM0 := hide M0
        clear M0 W2 K2 B2
        go_wp2_with fail
        refine (put8 _ g ((out ++ be 2 v) ++ be 8 x) 3 (by omega) W2a.out (by simp only [List.length_append, be_len]; omega)).mono ?_
        rintro e z3 ⟨rfl, hw3, b3⟩
        have W3 := hide hw3
        have K3 := hide (Besides.kb K2a.out b3)
        have B3 := hide (B2a.out.trans (b3.below hwg B2a.out.size))
        have m1 := (b3.block z2.heap.size (by simp) (fun e => hz2g e.symm)).trans HM0.out
        have n0 : z3.cell? ⟨z2.heap.size, 0, none⟩ = some (.bool true) := cell_of_row _ _ 0 _ _ _ m1
        have n1 : z3.cell? ⟨z2.heap.size, 1, none⟩ = some (.int .i64 y) := cell_of_row _ _ 1 _ _ _ m1
        have ln := lt_of_block m1
        clear hw3 b3 d3 d4 f2 f3 f4 W2a K2a B2a HM0 m1
        go_wp2_with fail
        refine (put64 _ g (((out ++ be 2 v) ++ be 8 x) ++ be 1 3) y (by omega) W3.out (by simp only [List.length_append, be_len]; omega)).mono ?_
        rintro e z4 ⟨rfl, hw4, b4⟩
        have W4 : Hid (Wo z4 g g (headB p ++ rowsB p (i + 1))) := hide (by rw [HSN.out, ← List.append_assoc, HOut.out]; have := hw4; simp only [vB, flagOf, Int.toNat_natCast] at this ⊢; simpa using this)
        have K4 := hide (Besides.kb K3.out b4)
        have B4 := hide (B3.out.trans (b4.below hwg B3.out.size))
        clear hw4 b4 n0 n1 W3 K3 B3
        go_wp2
        go_roundw
        case rel => exact ⟨i + 1, by omega, by go_num, W4, K4, B4⟩
        case measure => simp [intOf]; omega
    · obtain rfl : i = n := by omega
      have hol : (headB p ++ rowsB p i).length ≤ 1000000000000 := by have := rowsB_len p i; rw [List.length_append, headB_len]; omega
      have HPB : Hid (headB p ++ rowsB p i = putB p) := hide (by unfold putB; rw [HLen.out.1])
      have hol2 : (putB p).length ≤ 1000000 := by have := putB_len p; rw [HLen.out.1] at this; omega
      go_wp2_with fail
      refine (out_any _ g _ HW.out hol).mono ?_
      rw [HPB.out]
      rintro e z3 ⟨rfl, hh, b3⟩
      have HFin : Hid (PutPost w (putB p) 0 (.returned (.tuple #[.slice (some ⟨wr.heap.size, 0, none⟩) (putB p).length (putB p).length, .int .i64 0])) z3) := hide ⟨_, _, _, rfl, rfl, by have := Rd.of_block hh; simpa using this, Nat.le_refl _, by omega, HBr.out.trans (b3.mono HBr.out.size)⟩
      clear hh b3 hol
      go_wp2
      go_ret2
      exact HFin.out
theorem sput_any (w : World) (p : SPart) (Ao Av Ac Ai : Option Addr) (no nv nc ni co cv cc ci : Nat) (hlen : SLen p no nv nc ni) (bn : no ≤ 2000) (hin : SIn w p Ao Av Ac Ai) :
    Calls Try.prog 11 #[.agg #[.int .i64 p.step, .slice Ao no co, .slice Av nv cv, .slice Ac nc cc, .slice Ai ni ci]] w (PutPost w (putOut p) (putCode p)) := by
  rcases hr : rightB p with _ | _
  · rw [show putOut p = [] by simp [putOut, hr], show putCode p = 4 by simp [putCode, hr]]
    exact sput_bad w p Ao Av Ac Ai no nv nc ni co cv cc ci hlen (by omega) hin hr
  · rw [show putOut p = putB p by simp [putOut, hr], show putCode p = 0 by simp [putCode, hr]]
    exact sput_ok w p Ao Av Ac Ai no nv nc ni co cv cc ci hlen bn hin hr
end Go.Proofs.Ytgfdlllmcbgbcaa
