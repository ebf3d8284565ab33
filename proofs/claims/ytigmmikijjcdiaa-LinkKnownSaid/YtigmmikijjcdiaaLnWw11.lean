/- Lemmas: Lkf. -/
import Derived.Test.YtigmmikijjcdiaaProg
import Derived.Deep.DeepCutAuto
import Derived.Lib.Hide
import Derived.WalkSpells
import Derived.WalkMore
import Derived.IntWalk
import Derived.Test.YtigmmikijjcdiaaLnWw9
import Derived.Test.YtigmmikijjcdiaaLnWw10
set_option linter.unusedVariables false
set_option linter.unusedSimpArgs false
set_option maxRecDepth 100000
set_option maxHeartbeats 16000000
namespace Go.Proofs.Ytigmmikijjcdiaa
open Go.RowKit
theorem Rd.at1n {w : World} {B : Nat} {A : Option Addr} {xs : List Value} {i : Nat} {u : Value} (h : Rd w B A xs) (hu : xs[i]? = some u) : ∃ b off, A = some ⟨b, off, none⟩ ∧ b < B ∧ w.cell? ⟨b, off + i, none⟩ = some u := by
 obtain ⟨b, off, e, hb, hc⟩ := h.at_ (List.getElem?_eq_some_iff.1 hu).1
 exact ⟨b, off, e, hb, hc i u hu⟩
theorem rd_cells {w : World} {g : Nat} {xs : List Value} {t : TypeId} {f : Nat × Nat} (h : w.heap[g]? = some (.cells xs.toArray t f)) : Rd w w.heap.size (some ⟨g, 0, none⟩) xs := fun hn =>
 ⟨g, 0, rfl, (Array.getElem?_eq_some_iff.1 h).1, fun j u hu => by
  have hc := cell_of_row w g j _ _ _ h
  rw [Nat.zero_add, hc]
  simpa using hu⟩
theorem flat8_len : ∀ ns : List Nat, (ns.flatMap (be 8)).length = 8 * ns.length
 | [] => rfl
 | x :: ns => by rw [List.flatMap_cons, List.length_append, be_len, flat8_len ns, List.length_cons]; omega
def FrPost (w : World) (tag : Nat) (bs : BL) (ns : List Nat) (e : Ending) (w' : World) : Prop := ∃ g, e = .returned (.slice (some ⟨g, 0, none⟩) (fr tag bs ns).length (fr tag bs ns).length) ∧ w.heap.size ≤ g ∧ w'.heap[g]? = some (.cells (u8s (fr tag bs ns)).toArray 5) ∧ Below w.heap.size w w'
theorem frame_any (w : World) (tag : Nat) (htag : tag < 256) (A : Option Addr) (bs : BL) (c : Nat) (hR : Rd w w.heap.size A (u8s bs)) (hbs : bs.length ≤ 2000000) (A2 : Option Addr) (ns : List Nat) (n c2 : Nat) (hN : ns.length = n) (hn : n ≤ 100) (hRn : Rd w w.heap.size A2 (ns.map fun (x : Nat) => .int .i64 (x : Int))) (hNb : ∀ x ∈ ns, x ≤ 9223372036854775807) :
  Calls Try.prog 41 #[.int .u8 (tag : Int), .slice A bs.length c, .slice A2 n c2] w (FrPost w tag bs ns) := by
 have HR := hide hR
 have HN := hide hN
 have HRn := hide hRn
 have HNb := hide hNb
 clear hR hN hRn hNb
 obtain ⟨m, hm⟩ : ∃ m, bs.length = m := ⟨_, rfl⟩
 rw [hm] at hbs ⊢
 have HM := hide hm
 clear hm
 obtain ⟨v, hv⟩ : ∃ u, w.alloc (.cells #[.pointer none, .int .i64 0] 100) = u := ⟨_, rfl⟩
 have hzl : w.heap.size < v.heap.size := by rw [← hv]; simp
 have HBv := hide (show Below w.heap.size w v by rw [← hv]; exact (Below.refl _ _).alloc (Nat.le_refl _) _)
 have HW0 : Hid (Wo v w.heap.size w.heap.size []) := hide (by rw [← hv]; exact Wo.new w)
 have HV := hide hv
 obtain ⟨g, hg⟩ : ∃ g, w.heap.size = g := ⟨_, rfl⟩
 have HG := hide hg
 rw [hg] at HW0 hzl
 clear hv hg
 go_enter Try.func41, Try.ntmps41
 go_upto_region 2 with fail
 rw [HV.out, HG.out]
 go_wp2_with fail
 refine (put8 _ g [] tag htag HW0.out (by simp)).mono ?_
 rintro e w1 ⟨rfl, hw1, hb1⟩
 have HW1 := hide hw1
 have HB1 := hide (HBv.out.trans (hb1.below (by rw [HG.out]; exact Nat.le_refl _) (by rw [HG.out]; omega)))
 clear hw1 hb1
 go_wp2
 go_loopw [14] (fun v14 wr => ∃ i : Nat, i ≤ n ∧ v14 = .int .i64 (i : Int) ∧ Hid (Wo wr g g (be 1 tag ++ (ns.take i).flatMap (be 8))) ∧ Hid (Below w.heap.size w wr)) (fun v14 _ => n - (intOf v14).toNat)
 case atStart => exact ⟨0, by omega, rfl, by simpa using HW1, HB1⟩
 case round =>
  clear HW1 HB1
  obtain ⟨i, hi, rfl, hw, hb⟩ := hrel
  have swr : w.heap.size ≤ wr.heap.size := hb.out.size
  by_cases hlt : i < n
  ·have hI1 : (i : Int) < (n : Int) := by omega
   obtain ⟨x, hx⟩ : ∃ x, ns[i]? = some x := ⟨_, List.getElem?_eq_getElem (by rw [HN.out]; exact hlt)⟩
   have hxb := HNb.out x (List.mem_of_getElem? hx)
   obtain ⟨b2, o2, rfl, hb2, c0⟩ := HRn.out.at1n (i := i) (by rw [List.getElem?_map, hx]; rfl)
   have c0 := (hb.out.cell (p := ⟨b2, o2 + i, none⟩) hb2).trans c0
   have hb2r : b2 < wr.heap.size := by omega
   have e1 : IntKind.u64.wrap (x : Int) = (x : Int) := IntWalk.u64_in _ (by omega)
   have HT : Hid ((ns.take (i + 1)).flatMap (be 8) = (ns.take i).flatMap (be 8) ++ be 8 x) := hide (by rw [List.take_add_one, hx, List.flatMap_append]; simp)
   have hlen : (be 1 tag ++ (ns.take i).flatMap (be 8)).length ≤ 1000000000000 := by rw [List.length_append, be_len, flat8_len]; have := List.length_take_le i ns; omega
   have HLen := hide hlen
   clear hx hlen
   go_wp2_with fail
   refine (put64 wr g _ x (by omega) hw.out HLen.out).mono ?_
   rintro e w2 ⟨rfl, hw2, hbs2⟩
   have HW2 : Hid (Wo w2 g g (be 1 tag ++ (ns.take (i + 1)).flatMap (be 8))) := hide (by rw [HT.out, ← List.append_assoc]; exact hw2)
   have HB2 := hide (hb.out.trans (hbs2.below (by rw [HG.out]; exact Nat.le_refl _) (by omega)))
   clear hw2 hbs2 hw hb c0
   go_wp2
   go_roundw
   case rel => exact ⟨i + 1, by omega, by go_num, HW2, HB2⟩
   case measure => simp [intOf]; omega
  ·obtain rfl : n = i := by omega
   have HWn : Hid (Wo wr g g (be 1 tag ++ ns.flatMap (be 8))) := hide (by have := hw.out; rw [List.take_of_length_le (by rw [HN.out]; exact Nat.le_refl _)] at this; exact this)
   have HBn := hb
   clear hw hb
   have hl0 : (be 1 tag ++ ns.flatMap (be 8)).length = 1 + 8 * n := by rw [List.length_append, be_len, flat8_len, HN.out]
   have HL0 := hide hl0
   clear hl0
   go_wp2_with fail
   rw [← HM.out]
   refine (put_raw wr g _ A bs c ((HR.out.below HBn.out).more swr) HWn.out (by rw [HL0.out]; omega) (by rw [HM.out]; omega)).mono ?_
   rintro e w3 ⟨rfl, hw3, hb3⟩
   have HW3 : Hid (Wo w3 g g (frB tag bs ns)) := hide hw3
   have HB3 := hide (HBn.out.trans (hb3.below (by rw [HG.out]; exact Nat.le_refl _) swr))
   have s3 : w.heap.size ≤ w3.heap.size := HB3.out.size
   clear hw3 hb3
   obtain ⟨fb, hfb⟩ : ∃ x, frB tag bs ns = x := ⟨_, rfl⟩
   rw [hfb] at HW3
   have hfl : fb.length ≤ 3000000 := by rw [← hfb]; unfold frB; rw [List.length_append, HL0.out, HM.out]; omega
   have HFB := hide hfb
   clear hfb
   go_wp2_with fail
   refine (out_any w3 g fb HW3.out (by omega)).mono ?_
   rintro e w4 ⟨rfl, ho4, hb4⟩
   have HO4 := hide (rd_cells ho4)
   have HW4 := hide (HW3.out.below hb4)
   have HB4 := hide (HB3.out.trans (hb4.mono s3))
   have s4 : w.heap.size ≤ w4.heap.size := HB4.out.size
   clear ho4 hb4
   go_wp2_with fail
   refine (sum_any fb _ fb.length w4.heap.size w4 HO4.out (Nat.le_refl _) (by omega)).mono ?_
   rintro e w5 ⟨rfl, hb5⟩
   have HW5 := hide (HW4.out.below hb5)
   have HB5 := hide (HB4.out.trans (hb5.mono s4))
   have s5 : w.heap.size ≤ w5.heap.size := HB5.out.size
   have hsl := crcm.sum_lt fb
   clear hb5
   obtain ⟨sm, hsm⟩ : ∃ x, crcm.sum fb = x := ⟨_, rfl⟩
   rw [hsm] at hsl ⊢
   have HSM := hide hsm
   clear hsm
   go_wp2_with fail
   refine (put32 w5 g fb sm hsl HW5.out (by omega)).mono ?_
   rintro e w6 ⟨rfl, hw6, hb6⟩
   have HW6 : Hid (Wo w6 g g (fr tag bs ns)) := hide (by unfold fr; rw [HFB.out, HSM.out]; exact hw6)
   have HB6 := hide (HB5.out.trans (hb6.below (by rw [HG.out]; exact Nat.le_refl _) s5))
   have s6 : w.heap.size ≤ w6.heap.size := HB6.out.size
   clear hw6 hb6
   obtain ⟨fl, hff⟩ : ∃ x, fr tag bs ns = x := ⟨_, rfl⟩
   have hfll : fl.length ≤ 4000000 := by rw [← hff]; unfold fr; rw [List.length_append, be_len, HFB.out]; omega
   rw [hff] at HW6
   have HFF := hide hff
   clear hff
   go_wp2_with fail
   refine (out_any w6 g fl HW6.out (by omega)).mono ?_
   rintro e w7 ⟨rfl, ho7, hb7⟩
   have HFin : Hid (FrPost w tag bs ns (.returned (.slice (some ⟨w6.heap.size, 0, none⟩) fl.length fl.length)) w7) := hide ⟨w6.heap.size, by rw [HFF.out], s6, by rw [HFF.out]; exact ho7, HB6.out.trans (hb7.mono s6)⟩
   clear ho7 hb7
   go_wp2
   go_ret
   exact HFin.out
end Go.Proofs.Ytigmmikijjcdiaa
