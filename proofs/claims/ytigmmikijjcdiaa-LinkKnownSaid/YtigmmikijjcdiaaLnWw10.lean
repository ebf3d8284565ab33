/- Lemmas: Crcw, Crcr, Crcs. -/
import Derived.Test.YtigmmikijjcdiaaProg
import Derived.WalkKit
import Derived.WalkSpells
import Derived.WalkLawsBesides
import Derived.Lib.Hide
import Derived.WalkMore
import Derived.ScopeJumps
import Derived.Deep.WholeRow
import Derived.Test.YtigmmikijjcdiaaLnWw1
import Derived.Test.YtigmmikijjcdiaaLnWw8
set_option linter.unusedVariables false
set_option linter.unusedSimpArgs false
set_option maxRecDepth 100000
set_option maxHeartbeats 16000000
namespace Go.Proofs.Ytigmmikijjcdiaa
open Go.RowKit
theorem ret_num {k : IntKind} {a b : Int} (h : a = b) : Ending.returned (.int k a) = .returned (.int k b) := by rw [h]
theorem and_one_u32 (r : Nat) (hr : r < 4294967296) : bits .and .u32 (r : Int) 1 = ((r % 2 : Nat) : Int) := by
 have h := u32_and_nat r 1 hr (by omega)
 rw [nat_mask1] at h
 exact h
theorem up_any (r : Nat) (hr : r < 4294967296) (w : World) :
  Calls Try.prog 74 #[.int .u32 r] w fun e w' => e = .returned (.int .u32 (crcm.up r : Nat)) ∧ w = w' := by
 have e1 := and_one_u32 r hr
 have e2 := u32_xor_nat (r / 2) 2197175160 (by omega) (by omega)
 by_cases h : r % 2 = 1
 ·have hb : (bits .and .u32 (r : Int) 1 == 1) = true := by rw [e1, h]; rfl
  have hv : bits .xor .u32 ((r : Int) / 2) 2197175160 = (crcm.up r : Nat) := by unfold crcm.up; rw [if_pos h]; exact e2
  have HV := Lib.hid hv
  clear e1 e2 h hv
  go_enter Try.func74, Try.ntmps74
  go_wp2
  go_ret
  exact ⟨ret_num HV.out, rfl⟩
 ·have hb : (bits .and .u32 (r : Int) 1 == 1) = false := by rw [e1]; simp; omega
  have hv : ((r : Int) / 2) = (crcm.up r : Nat) := by unfold crcm.up; rw [if_neg h]; rfl
  have HV := Lib.hid hv
  clear e1 e2 h hv
  go_enter Try.func74, Try.ntmps74
  go_wp2
  go_ret
  exact ⟨ret_num HV.out, rfl⟩
theorem leave_any (r : Nat) (hr : r < 4294967296) (w : World) :
  Calls Try.prog 73 #[.int .u32 r] w fun e w' => e = .returned (.int .u32 (crcm.upk 4 r : Nat)) ∧ w = w' := by
 go_enter Try.func73, Try.ntmps73
 go_wp2
 go_loop [0, 3] (fun t i => ∃ k : Nat, k ≤ 4 ∧ i = .int .i64 k ∧ t = .int .u32 (crcm.upk k r : Nat)) (fun _ i => 4 - (intOf i).toNat)
 case atStart => exact ⟨0, by omega, rfl, rfl⟩
 case round =>
  obtain ⟨k, hk, rfl, rfl⟩ := hrel
  by_cases hlt : k < 4
  ·go_wp2_with (go_at_call 74; refine (up_any _ (crcm.upk_lt _ _ hr) _).mono ?_; rintro e w' ⟨rfl, rfl⟩)
   go_round
   case rel => exact ⟨k + 1, by omega, by go_num, rfl⟩
   case measure => simp [intOf]; omega
  ·obtain rfl : k = 4 := by omega
   go_wp2
   go_ret
   exact ⟨rfl, rfl⟩
theorem wpList_store_last {P : Program} {ops : Array Oper} {rest : List Oper} {o : Oper} {a : Act} {w : World} {Q : Exit → Act → World → Prop} (hgd : o.guard = none) (ty : TypeId) (x y : Operand) (ho : o.op = .store ty x y)
  (cells old : Array Value) (hx : a.eval x = .pointer (some ⟨w.heap.size, 0, none⟩)) (hy : a.eval y = .agg cells) (t : TypeId) (hi : (P.info? ty).map (·.size) = some cells.size)
  (hold : old.size = cells.size) (h1 : cells.all (·.oneCell') = true)
  (h : wpList P ops Q rest (a.put o.dst undef) (w.alloc (.cells cells t))) : wpList P ops Q (o :: rest) a (w.alloc (.cells old t)) :=
 wpList_plain hgd fun _ hK => wp_store_row ty x y ho w.heap.size cells hx hy t old (heap_alloc_last w _) hi hold h1 (hK _ _ (by rw [World.setRow_alloc_new]; exact h))
def tabTo (k : Nat) : Array Value := ((List.range 16).map fun i => if i < k then Value.int .u32 (crcm.upk 4 i : Nat) else .int .u32 0).toArray
theorem tabTo_size (k : Nat) : (tabTo k).size = 16 := by simp [tabTo]
theorem tabTo_get (k i : Nat) (h : i < 16) : (tabTo k)[i]? = some (if i < k then Value.int .u32 (crcm.upk 4 i : Nat) else .int .u32 0) := by
 simp [tabTo, h]
theorem tabTo_one (k : Nat) : (tabTo k).all (·.oneCell') = true := by
 simp only [tabTo, List.all_toArray, List.all_map]
 rw [List.all_eq_true]
 intro x _
 simp only [Function.comp]
 split <;> rfl
theorem tabTo_set (k : Nat) (_h : k < 16) : (tabTo k).setIfInBounds k (.int .u32 (crcm.upk 4 k : Nat)) = tabTo (k + 1) := by
 apply Array.ext
 ·simp [tabTo_size]
 ·intro i h1 h2
  have hi : i < 16 := by simpa [tabTo_size] using h2
  have e2 := tabTo_get (k + 1) i hi
  have e1 := tabTo_get k i hi
  rw [Array.getElem?_eq_getElem h2] at e2
  rw [Array.getElem?_eq_getElem (by simpa [tabTo_size] using hi)] at e1
  simp only [Option.some.injEq] at e1 e2
  rw [Array.getElem_setIfInBounds (by simpa [tabTo_size] using hi), e1, e2]
  by_cases hk : k = i
  ·subst hk; simp
  ·rw [if_neg hk]
   by_cases hlt : i < k
   ·rw [if_pos hlt, if_pos (by omega)]
   ·rw [if_neg hlt, if_neg (by omega)]
theorem info_tab : (Try.prog.info? 111).map (·.size) = some 16 := by kernel_rfl
theorem halves_any (w : World) :
  Calls Try.prog 62 #[] w fun e w' => e = .returned (.agg (tabTo 16)) ∧ Below w.heap.size w w' := by
 go_enter Try.func62, Try.ntmps62
 go_wp2
 go_loopw [2, 3] (fun _ i wr => ∃ k : Nat, k ≤ 16 ∧ i = .int .i64 k ∧ wr = w.alloc (.cells (tabTo k) 111)) (fun _ i _ => 16 - (intOf i).toNat)
 case atStart => exact ⟨0, by omega, rfl, rfl⟩
 case round =>
  obtain ⟨k, hk, rfl, rfl⟩ := hrel
  by_cases hlt : k < 16
  ·have g1 := tabTo_get k k hlt
   rw [if_neg (Nat.lt_irrefl k)] at g1
   go_wp2_with (go_at_call 73; refine (leave_any _ (by omega) _).mono ?_; rintro e w' ⟨rfl, rfl⟩)
   go_roundw
   case rel => exact ⟨k + 1, by omega, by go_num, by rw [tabTo_set k hlt]⟩
   case measure => simp [intOf]; omega
  ·obtain rfl : k = 16 := by omega
   go_wp2_with (first
    | (refine wpList_load_row rfl 111 (.tmp 0) rfl w.heap.size rfl 111 (tabTo 16) (0, 0) _ (heap_alloc_last w _) Try.underlying111 rfl (by rw [info_tab, tabTo_size]) ?_)
    | (refine wpList_store_last rfl 111 (.tmp 0) (.tmp 13) rfl (tabTo 16) (tabTo 16) rfl rfl 111 (by rw [info_tab, tabTo_size]) rfl (tabTo_one 16) ?_))
   refine bodyPost_ret (v := .agg (tabTo 16)) (results_cell_row rfl _ _ w.heap.size 111 (tabTo 16) (0, 0) _ rfl (heap_alloc_last w _) Try.underlying111 rfl (by rw [info_tab, tabTo_size])) rfl ⟨rfl, ?_⟩
   exact (Below.refl _ _).alloc (Nat.le_refl _) _
theorem sum_any (bs : List UInt8) (A : Option Addr) (cap B : Nat) (w : World) (hr : Rd w B A (u8s bs)) (hB : B ≤ w.heap.size) (hl : bs.length ≤ 9223372036854775807) :
  Calls Try.prog 49 #[.slice A bs.length cap] w fun e w' => e = .returned (.int .u32 (crcm.sum bs : Nat)) ∧ Below w.heap.size w w' := by
 go_enter Try.func49, Try.ntmps49
 go_wp2_with (first
  | (go_at_call 62; refine (halves_any _).mono ?_; rintro e w1 ⟨rfl, hb1⟩)
  | (refine wpList_store_last rfl 111 (.tmp 3) (.tmp 7) rfl (tabTo 16) _ rfl rfl 111 (by rw [info_tab, tabTo_size]) (by rw [tabTo_size]; rfl) (tabTo_one 16) ?_))
 have hr1 := (hr.below' hb1 hB).alloc (Nat.le_trans hB hb1.size) (.cells (tabTo 16) 111)
 go_loop [4, 6, 10] (fun r _ i => ∃ k : Nat, k ≤ bs.length ∧ i = .int .i64 k ∧ r = .int .u32 (crcm.sumR 4294967295 (bs.take k) : Nat)) (fun _ _ i => bs.length - (intOf i).toNat)
 case atStart => exact ⟨0, by omega, rfl, rfl⟩
 case round =>
  obtain ⟨k, hk, rfl, rfl⟩ := hrel
  by_cases hlt : k < bs.length
  ·obtain ⟨b, off, rfl, hbB, hcell⟩ := hr1.at_ (k := k) (by rw [u8s_len]; exact hlt)
   have hc := hcell k _ (u8s_get hlt)
   have hsn := hide (crcm.sumR_snoc 4294967295 (bs.take k) bs[k])
   have htk : Hid (bs.take (k + 1) = bs.take k ++ [bs[k]]) := by rw [List.take_succ_eq_append_getElem hlt]; exact hide rfl
   have hrl := crcm.sumR_lt (bs.take k) 4294967295 (by omega)
   have hcl := crcm.byte_lt bs[k]
   clear hcell hr1
   generalize bs[k] = c at *
   generalize hg : crcm.sumR 4294967295 (bs.take k) = r at *
   clear hg
   obtain ⟨s, hs⟩ : ∃ s, s = r ^^^ c.toNat := ⟨_, rfl⟩
   have hsl : s < 4294967296 := by rw [hs]; exact Nat.xor_lt_two_pow (n := 32) hrl (by omega)
   have x1 : bits .xor .u32 (r : Int) (c.toNat : Int) = (s : Int) := by rw [hs]; exact u32_xor_nat _ _ hrl (by omega)
   have HS := hide hs
   clear hs
   obtain ⟨q, hq⟩ : ∃ q, q = s % 16 := ⟨_, rfl⟩
   have hql : q < 16 := by omega
   have a1 : bits .and .u32 (s : Int) 15 = (q : Int) := by rw [hq, ← nat_mask4]; exact u32_and_nat s 15 hsl (by omega)
   have g1 := tabTo_get 16 q hql
   rw [if_pos hql] at g1
   obtain ⟨s2, hs2⟩ : ∃ s2, s2 = s / 16 ^^^ crcm.upk 4 q := ⟨_, rfl⟩
   have hul := crcm.upk_lt 4 q (by omega)
   have hs2l : s2 < 4294967296 := by rw [hs2]; exact Nat.xor_lt_two_pow (n := 32) (by omega) hul
   have x2 : bits .xor .u32 ((s : Int) / 16) (crcm.upk 4 q : Nat) = (s2 : Int) := by rw [hs2]; exact u32_xor_nat (s / 16) _ (by omega) hul
   obtain ⟨q2, hq2⟩ : ∃ q, q = s2 % 16 := ⟨_, rfl⟩
   have hq2l : q2 < 16 := by omega
   have a2 : bits .and .u32 (s2 : Int) 15 = (q2 : Int) := by rw [hq2, ← nat_mask4]; exact u32_and_nat s2 15 hs2l (by omega)
   have g2 := tabTo_get 16 q2 hq2l
   rw [if_pos hq2l] at g2
   have hul2 := crcm.upk_lt 4 q2 (by omega)
   have x3 : bits .xor .u32 ((s2 : Int) / 16) (crcm.upk 4 q2 : Nat) = (crcm.upk 8 s : Nat) := by
    rw [← crcm.byte_step s, ← hq, ← hs2, ← hq2]; exact u32_xor_nat (s2 / 16) _ (by omega) hul2
   have HQ := hide hq
   have HQ2 := hide hq2
   have HS2 := hide hs2
   clear hq hq2 hs2
   go_wp2
   go_round
   case rel =>
    refine ⟨k + 1, by omega, by go_num, ?_⟩
    rw [htk.out, hsn.out, ← HS.out]
   case measure => simp [intOf]; omega
  ·obtain rfl : k = bs.length := by omega
   rw [List.take_length]
   have hrl := crcm.sumR_lt bs 4294967295 (by omega)
   have hv := hide (u32_xor_nat 4294967295 _ (by omega) hrl)
   clear hr1 hrl
   go_wp2
   go_ret
   refine ⟨ret_num ?_, hb1.alloc hb1.size _⟩
   refine hv.out.trans ?_
   rw [Nat.xor_comm]
   rfl
end Go.Proofs.Ytigmmikijjcdiaa
namespace Go.Proofs.Ytigmmikijjcdiaa
open Go.RowKit
theorem info_bool : (Try.prog.info? 4).map (fun i => (i.zero, i.size, i.bytes)) = some (some (.bool false), 1, 1) := by kernel_rfl
def pcells : Array Value := #[.int .i64 32, .int .i64 28, .int .i64 27, .int .i64 26, .int .i64 25, .int .i64 23, .int .i64 22, .int .i64 20, .int .i64 19, .int .i64 18, .int .i64 14, .int .i64 13, .int .i64 11, .int .i64 10, .int .i64 9, .int .i64 8, .int .i64 6, .int .i64 0]
theorem pcells_eq : pcells = (crcm.ps.map fun p : Nat => Value.int .i64 (p : Int)).toArray := rfl
theorem pcells_get {k : Nat} (h : k < 18) : pcells[k]? = some (.int .i64 ((crcm.ps.getD k 0 : Nat) : Int)) := by
 have hl : k < crcm.ps.length := h
 rw [pcells_eq, List.getElem?_toArray, List.getElem?_map, List.getElem?_eq_getElem hl, List.getD_eq_getElem?_getD, List.getElem?_eq_getElem hl]
 rfl
theorem refP_any (w : World) :
  Calls Try.prog 65 #[] w fun e w' => e = .returned (.slice (some ⟨w.heap.size, 0, none⟩) 18 18) ∧ w' = w.alloc (.cells pcells 3) := by
 go_enter Try.func65, Try.ntmps65
 go_wp2
 go_ret
 exact ⟨rfl, rfl⟩
def lenOf : Value → Nat | .slice _ n _ => n | _ => 0
theorem own_set {w : World} {base : Nat} {e : TypeId} {g n c : Nat} {xs : List Value} (h : w.ownsRow base e 1 (.slice (some ⟨g, 0, none⟩) n c) n xs) (j : Nat) (u : Value) :
  (w.setCell ⟨g, j, none⟩ u).ownsRow base e 1 (.slice (some ⟨g, 0, none⟩) n c) n (xs.set j u) := (h.stored j u).1
theorem own_bool {w : World} {base : Nat} {e : TypeId} {g n c : Nat} {l : List Bool} (h : w.ownsRow base e 1 (.slice (some ⟨g, 0, none⟩) n c) n (bools l)) {j : Nat} (hj : j < l.length) :
  w.cell? ⟨g, j, none⟩ = some (.bool l[j]) := by
 have hl := h.1
 rw [bools_len] at hl
 rw [h.cellAt j (by omega)]
 exact bools_get hj
theorem refRest_any (l : List Bool) (A : Option Addr) (cap B : Nat) (w : World) (hr : Rd w B A (bools l)) (hB : B ≤ w.heap.size) (hl : l.length ≤ 140737488351232) :
    Calls Try.prog 52 #[.slice A l.length cap] w fun e w' => e = .returned (.int .u32 (crcm.rest l : Nat)) ∧ Below w.heap.size w w' := by
  obtain ⟨i0, hi0, hz0, hz1, hz2⟩ := info_parts info_bool
  go_enter Try.func52, Try.ntmps52
  go_wp2_with (at_builtin; refine wpList_app rfl (.tmp 10) (.tmp 11) 95 rfl w.heap.size 4 i0 (.bool false) 1 1 Try.underlying95 hi0 hz0 hz1 hz2 rfl (by decide) (.slice none 0 0) 0 _ rfl (World.ownsRow_nil _ _ _ _) B A l.length cap (bools l) rfl (by rw [bools_len]; omega) hr (bools_one l) (by unfold maxLen; omega) (by omega) (Nat.le_refl _) ?_; intro A1 c1 w1 hown1 hg1 hat1)
  rw [Nat.zero_add, List.nil_append] at hown1
  have hb1 := app_below (Below.refl _ _) (World.ownsRow_nil _ w.heap.size 4 1) hg1 (Nat.le_refl _) (Nat.le_refl _)
  clear hat1 hg1
  go_wp2
  go_loopw [3] (fun v wr => ∃ (cur : List Bool) (A : Option Addr) (c : Nat), v = .slice A cur.length c ∧ wr.ownsRow w.heap.size 4 1 (.slice A cur.length c) cur.length (bools cur) ∧ Below w.heap.size w wr ∧ Hid (crcm.rest cur = crcm.rest l) ∧ cur.length ≤ l.length + 32) (fun v _ => 32 - lenOf v)
  case atStart => exact ⟨l, A1, c1, rfl, hown1, hb1, hide rfl, by omega⟩
  case round =>
    obtain ⟨cur, A2, c2, rfl, hown, hbw, hrest, hlen⟩ := hrel
    clear hown1 hb1
    have hs := hbw.size
    by_cases hlt : cur.length < 32
    · have hlit := World.ownsRow_lit (base := w.heap.size) (e := 4) (size := 1) wr #[.bool false] 1 hs (by unfold maxLen; omega) rfl
      have hsrc := (Rd.of_own hown).alloc (Nat.le_refl _) (.cells #[.bool false] 4)
      have hrest2 : Hid (crcm.rest (false :: cur) = crcm.rest l) := hide (by rw [crcm.rest_cons]; simp [crcm.upk_zero]; exact hrest.out)
      go_wp2_with (at_builtin; refine wpList_app rfl (.tmp 16) (.tmp 17) 95 rfl w.heap.size 4 i0 (.bool false) 1 1 Try.underlying95 hi0 hz0 hz1 hz2 rfl (by decide) _ 1 _ rfl hlit wr.heap.size A2 cur.length c2 (bools cur) rfl (by rw [bools_len]; omega) hsrc (bools_one cur) (by unfold maxLen; omega) (by omega) (by simp; omega) ?_; intro A' c' w1 hown1 hg1 hat1)
      have hb1 := app_below (hbw.alloc hs _) hlit hg1 (by simp; omega) (Nat.le_refl _)
      clear hg1 hat1 hlit hsrc hown
      go_wp2
      go_roundw
      case rel =>
        refine ⟨false :: cur, A', c', by rw [List.length_cons, Nat.add_comm], ?_, hb1, hrest2, by simp; omega⟩
        rw [List.length_cons, Nat.add_comm cur.length 1]
        exact hown1
      case measure => simp [lenOf]; omega
    · obtain ⟨g, rfl, hg1, hg2, hnc⟩ := own_addr hown (by omega)
      obtain ⟨N, hN⟩ : ∃ N, cur.length = N := ⟨_, rfl⟩
      rw [hN] at hown hlt hlen hnc ⊢
      have HN := hide hN
      clear hN
      go_wp2_with (go_at_call 65; refine (refP_any _).mono ?_; rintro e w1 ⟨rfl, rfl⟩)
      have hown1 := hown.alloc (.cells pcells 3)
      have hb1 := hbw.alloc hs (.cells pcells 3)
      have hp1 := heap_alloc_last wr (.cells pcells 3)
      have hG := hide (Nat.le_refl wr.heap.size)
      generalize wr.heap.size = G at hp1 hg2 hs hG ⊢
      generalize wr.alloc (.cells pcells 3) = w1 at hown1 hb1 hp1 ⊢
      clear hown hbw
      go_loopw [5, 6, 7] (fun vi _ _ wr => ∃ (i : Nat) (cu : List Bool), vi = .int .i64 i ∧ i + 32 ≤ N ∧ cu.length = N ∧ wr.ownsRow w.heap.size 4 1 (.slice (some ⟨g, 0, none⟩) N c2) N (bools cu) ∧ wr.heap[G]? = some (.cells pcells 3) ∧ Below w.heap.size w wr ∧ Hid (crcm.rest cu = crcm.rest l) ∧ Hid (∀ j, j < i → cu[j]? = some false)) (fun vi _ _ _ => N - (intOf vi).toNat)
      case atStart => exact ⟨0, cur, rfl, by omega, HN.out, hown1, hp1, hb1, hrest, hide (fun j hj => by omega)⟩
      case round =>
        obtain ⟨i, cu, rfl, hi, hcu, hown, hp, hbw, hrs, hz⟩ := hrel
        have HC := hide hcu
        clear hown1 hb1 hp1 hrest HN hcu
        obtain ⟨wo, hwo⟩ : ∃ wo, wr = wo := ⟨_, rfl⟩
        subst hwo
        by_cases hlt : i + 32 < N
        · have hic : i < cu.length := by have := HC.out; omega
          have hcell := own_bool hown hic
          cases hbit : cu[i]
          · rw [hbit] at hcell
            have HB := hide hbit
            clear hbit
            go_wp2
            go_roundw
            case rel =>
              refine ⟨i + 1, cu, by go_num, by omega, HC.out, hown, hp, hbw, hrs, hide (fun j hj => ?_)⟩
              rcases Nat.lt_or_ge j i with h | h
              · exact hz.out j h
              · obtain rfl : j = i := by omega
                rw [List.getElem?_eq_getElem hic, HB.out]
            case measure => simp [intOf]; omega
          · rw [hbit] at hcell
            have HB := hide hbit
            clear hbit
            go_wp2
            obtain ⟨m, hm⟩ : ∃ m, i + 33 + m = N := ⟨N - (i + 33), by omega⟩
            have HM := hide hm
            have HZ := hide hz.out
            have hR := hide hrs.out
            clear hm hcell hz hrs
            obtain ⟨w0, hw0⟩ : ∃ w0, w0 = wr := ⟨_, rfl⟩
            have HW0 := hide hw0
            clear hw0
            go_loopw [6, 7] (fun vk _ wk => ∃ (K : Nat) (cu : List Bool), vk = .int .i64 K ∧ K ≤ 18 ∧ cu.length = N ∧ wk.ownsRow w.heap.size 4 1 (.slice (some ⟨g, 0, none⟩) N c2) N (bools cu) ∧ wk.heap[G]? = some (.cells pcells 3) ∧ Below w.heap.size w wk ∧ Hid (crcm.rest cu = crcm.rest l ^^^ crcm.upk m (crcm.accP K)) ∧ Hid (∀ j, j < i → cu[j]? = some false) ∧ Hid (cu[i]? = some (K == 0))) (fun vk _ _ => 18 - (intOf vk).toNat)
            case atStart =>
              refine ⟨0, cu, rfl, by omega, HC.out, hown, hp, hbw, hide ?_, HZ, hide ?_⟩
              · rw [hR.out]; simp [crcm.accP, crcm.upk_zero]
              · rw [List.getElem?_eq_getElem hic, HB.out]; rfl
            case round =>
              obtain ⟨K, cu, rfl, hK, hcu, hown, hp, hbw, hrs, hz, hzi⟩ := hrel
              have HC2 := hide hcu
              clear hcu
              by_cases hKlt : K < 18
              · have hpc : wr.cell? ⟨G, K, none⟩ = some (.int .i64 ((crcm.ps.getD K 0 : Nat) : Int)) := by rw [cell_of_row _ _ _ _ _ _ hp]; exact pcells_get hKlt
                obtain ⟨p, hpv⟩ : ∃ p, crcm.ps.getD K 0 = p := ⟨_, rfl⟩
                have hple : p ≤ 32 := by rw [← hpv]; exact crcm.ps_le K
                obtain ⟨at', hat⟩ : ∃ at', i + 32 - p = at' := ⟨_, rfl⟩
                have hatl : at' < cu.length := by have := HC2.out; have := HM.out; omega
                have hatN : at' < N := by have := HM.out; omega
                have hstep2 := hide (crcm.accP_step cu i K (crcm.rest l) m at' (by have := HC2.out; have := HM.out; omega) hrs.out hatl (by rw [hpv]; exact hat))
                have hpl2 := hide (fun h : 0 < K => show p < 32 by rw [← hpv]; exact crcm.ps_small h)
                have hpK := hide (fun h : K = 0 => show p = 32 by rw [← hpv]; subst h; rfl)
                have hbv := hide (List.getElem?_eq_getElem hatl)
                rw [hpv] at hpc
                clear hpv
                have hati : (i : Int) + 32 - (p : Int) = (at' : Int) := by omega
                have hcell := own_bool hown hatl
                have hfr := hown.frozenAt at'
                have hcell2 := hown
                have HAT := hide hat
                clear hat
                have hset := own_set hown at' (.bool (!cu[at']))
                rw [bools_set] at hset
                have hset2 := hide hset
                have hp2 := hide ((heap_setCell_other wr ⟨g, at', none⟩ G (.bool (!cu[at'])) (by show G ≠ g; omega)).trans hp)
                have hbw2 := hide (hbw.setCell (p := ⟨g, at', none⟩) hg1 (.bool (!cu[at'])))
                clear hset hcell2 hown hbw hp
                generalize cu[at'] = b at hcell hset2 hstep2 hp2 hbw2 hbv
                go_wp2
                go_roundw
                case rel =>
                  refine ⟨K + 1, cu.set at' (!b), by go_num, by omega, by rw [List.length_set]; exact HC2.out, hset2.out, hp2.out, hbw2.out, hstep2, hide ?_, hide ?_⟩
                  · intro j hj
                    have := HAT.out
                    rw [List.getElem?_set_ne (by omega)]
                    exact hz.out j hj
                  · rcases Nat.eq_zero_or_pos K with h | h
                    · subst h
                      have h32 := hpK.out rfl
                      have := HAT.out
                      obtain rfl : at' = i := by omega
                      have hzi' := hzi.out
                      rw [hbv.out] at hzi'
                      obtain rfl : b = true := by simpa using hzi'
                      rw [List.getElem?_set_self hatl]
                      rfl
                    · have := hpl2.out h
                      have := HAT.out
                      rw [List.getElem?_set_ne (by omega)]
                      refine hzi.out.trans ?_
                      cases K with
                      | zero => omega
                      | succ K => rfl
                case measure => simp [intOf]; omega
              · obtain rfl : K = 18 := by omega
                have hrs2 : Hid (crcm.rest cu = crcm.rest l) := hide (by rw [hrs.out, crcm.accP_all, crcm.upk_zero, Nat.xor_zero])
                have hz2 : Hid (∀ j, j < i + 1 → cu[j]? = some false) := hide (fun j hj => by
                  rcases Nat.lt_or_ge j i with h | h
                  · exact hz.out j h
                  · obtain rfl : j = i := by omega
                    exact hzi.out)
                clear hrs hz hzi HZ hR HW0
                go_wp2
                go_roundw
                case rel => exact ⟨i + 1, cu, by go_num, by omega, HC2.out, hown, hp, hbw, hrs2, hz2⟩
                case measure => simp [intOf]; omega
        · have hiN : i + 32 = N := by omega
          have hlen32 : (cu.drop i).length = 32 := by rw [List.length_drop, HC.out]; omega
          have hres : Hid (crcm.numTo (cu.drop i) 32 = crcm.rest l) := hide (by
            rw [crcm.numTo_all _ hlen32, ← hrs.out]
            exact (crcm.rest_tail cu i (by rw [HC.out]; omega) (fun j hj => by
              have := hz.out j hj
              rw [List.getElem?_eq_getElem (by have := HC.out; omega)] at this
              simpa using this)).symm)
          have HI := hide hiN
          have HL := hide hlen32
          clear hiN hlen32 hz hrs hp
          go_wp2
          go_loop [8, 9] (fun vn vk => ∃ k : Nat, vk = .int .i64 k ∧ k ≤ 32 ∧ vn = .int .u32 (crcm.numTo (cu.drop i) k : Nat)) (fun _ vk => 32 - (intOf vk).toNat)
          case atStart => exact ⟨0, rfl, by omega, by rw [crcm.numTo_zero]; rfl⟩
          case round =>
            obtain ⟨k, rfl, hk, rfl⟩ := hrel
            by_cases hklt : k < 32
            · have hidx : (N : Int) - 32 + (k : Int) = ((i + k : Nat) : Int) := by have := HI.out; omega
              have hcl : i + k < cu.length := by have := HC.out; have := HI.out; omega
              have hcN : i + k < N := by have := HI.out; omega
              have hcell := own_bool hown hcl
              have hadd := hide (crcm.numTo_add (cu.drop i) HL.out k hklt)
              have hnlt := hide (crcm.numTo_lt (cu.drop i) HL.out (k + 1) (by omega))
              have hget := hide (List.getElem_drop (xs := cu) (i := i) (j := k) (h := by rw [HL.out]; exact hklt))
              cases hb : cu[i + k]
              all_goals
                rw [hb] at hcell
                have HB := hide hb
                clear hb
                go_wp2
                go_round
                case rel =>
                  refine ⟨k + 1, by go_num, by omega, ?_⟩
                  have h1 := hadd.out
                  have h2 := hget.out
                  rw [HB.out] at h2
                  rw [h2] at h1
                  rw [h1]
                  first
                    | rfl
                    | (have h3 := hnlt.out
                       have h4 : 2 ^ (k + 1) ≤ 2 ^ 32 := Nat.pow_le_pow_right (by omega) (by omega)
                       rw [h1, if_pos rfl] at h3
                       have h5 : ((2 : Int) ^ k) = ((2 ^ k : Nat) : Int) := by simp
                       rw [if_pos rfl, h5]
                       generalize crcm.numTo (cu.drop i) k = a at h3 ⊢
                       generalize 2 ^ k = b at h3 ⊢
                       generalize 2 ^ (k + 1) = c at h3 h4
                       rw [show ((a : Int) + (b : Int) % 4294967296) % 4294967296 = ((a + b : Nat) : Int) by omega])
                case measure => simp [intOf]; omega
            · obtain rfl : k = 32 := by omega
              have hv := hide (congrArg (fun n : Nat => (n : Int)) hres.out)
              go_wp2
              go_ret
              exact ⟨ret_num hv.out, hbw⟩
end Go.Proofs.Ytigmmikijjcdiaa
namespace Go.Proofs.Ytigmmikijjcdiaa
open Go.RowKit
theorem made_bools (n : Nat) : (madeCells (Value.bool false).cells (n * 1)).toList = bools (List.replicate n false) := by
 rw [Nat.mul_one, show (Value.bool false).cells = #[Value.bool false] from rfl, toList_madeCells_one]
 simp [bools]
theorem byte_test (x k : Nat) (hx : x < 256) : (bits .and .u8 ((x : Int) / 2 ^ k) 1 == 1) = x.testBit k := by
 have e : ((x : Int) / 2 ^ k) = ((x / 2 ^ k : Nat) : Int) := by simp
 have hl : x / 2 ^ k < 256 := Nat.lt_of_le_of_lt (Nat.div_le_self _ _) hx
 have h1 : bits .and .u8 ((x / 2 ^ k : Nat) : Int) 1 = ((x / 2 ^ k % 2 : Nat) : Int) := by
  have h := u8_and_nat (x / 2 ^ k) 1 hl (by omega)
  rw [nat_mask1] at h
  exact h
 rw [e, h1, Nat.testBit_eq_decide_div_mod_eq]
 rcases Nat.mod_two_eq_zero_or_one (x / 2 ^ k) with h0 | h0 <;> rw [h0] <;> rfl
theorem refSum_any (bs : List UInt8) (A : Option Addr) (cap B : Nat) (w : World) (hr : Rd w B A (u8s bs)) (hB : B ≤ w.heap.size) (hl : bs.length ≤ 16777216) :
  Calls Try.prog 40 #[.slice A bs.length cap] w fun e w' => e = .returned (.int .u32 (crcm.sum bs : Nat)) ∧ Below w.heap.size w w' := by
 obtain ⟨i0, hi0, hz0, hz1, hz2⟩ := info_parts info_bool
 obtain ⟨N, hN⟩ : ∃ N, 8 * bs.length + 32 = N := ⟨_, rfl⟩
 have hrep := hide (made_bools N)
 have hNl : N ≤ 134217760 := by omega
 have hN32 : 32 ≤ N := by omega
 have hNi : 8 * (bs.length : Int) + 32 = (N : Int) := by omega
 have HN := hide hN
 clear hN
 go_enter Try.func40, Try.ntmps40
 go_wp2_with (at_make; refine wpList_make_full _ rfl (.tmp 10) (.tmp 10) 95 rfl w.heap.size 4 i0 (.bool false) 1 Try.underlying95 hi0 hz0 hz1 .i64 .i64 _ _ N rfl rfl (by omega) (by omega) (by rw [hz2]; omega) (by unfold maxLen; omega) (Nat.le_refl _) ?_; intro w1 hown1 hg1; rw [hrep.out] at hown1; have hb1 := (Below.refl w.heap.size w).grown hg1 (Nat.le_refl _) (fun k hk => by cases hk); have hr1 := hr.below' hb1 hB)
 clear hg1 hr
 go_loopw [4, 5] (fun vi _ wr => ∃ (i : Nat) (cu : List Bool), vi = .int .i64 i ∧ i ≤ bs.length ∧ cu.length = N ∧ wr.ownsRow w.heap.size 4 1 (.slice (some ⟨w.heap.size, 0, none⟩) N N) N (bools cu) ∧ Rd wr B A (u8s bs) ∧ Below w.heap.size w wr ∧ Hid (crcm.rest cu = crcm.upk (8 * (bs.length - i)) (crcm.sumR 0 (bs.take i))) ∧ Hid (∀ j, 8 * i ≤ j → j < N → cu[j]? = some false)) (fun vi _ _ => bs.length - (intOf vi).toNat)
 case atStart =>
  refine ⟨0, _, rfl, by omega, by rw [List.length_replicate], hown1, hr1, hb1, hide ?_, hide ?_⟩
  ·rw [crcm.rest_false, List.take_zero]; exact (crcm.upk_zero _).symm
  ·intro j _ hj; simp [hj]
 case round =>
  obtain ⟨i, cu, rfl, hi, hcu, hown, hrd, hbw, hrs, hz⟩ := hrel
  have HC := hide hcu
  clear hown1 hr1 hb1 hcu
  obtain ⟨wo, hwo⟩ : ∃ wo, wr = wo := ⟨_, rfl⟩
  subst hwo
  by_cases hlt : i < bs.length
  ·obtain ⟨b, o, rfl, hbB, _⟩ := hrd.at_ (k := i) (by rw [u8s_len]; exact hlt)
   obtain ⟨w0, hw0⟩ : ∃ w0, w0 = wr := ⟨_, rfl⟩
   have HW0 := hide hw0
   have hdone := hide (crcm.byte_done bs.length i bs hlt rfl)
   have hget := hide (u8s_get hlt)
   have hxl := crcm.byte_lt bs[i]
   generalize bs[i] = x at hdone hget hxl
   obtain ⟨R, hR⟩ : ∃ R, crcm.upk (8 * (bs.length - i)) (crcm.sumR 0 (bs.take i)) = R := ⟨_, rfl⟩
   have hrs' := hide (hrs.out.trans hR)
   have hdone' := hide hdone.out
   rw [hR] at hdone'
   have HZ := hide hz.out
   clear hw0 hrs hdone hz hR
   go_wp2
   go_loopw [5] (fun vk wk => ∃ (k : Nat) (cu : List Bool), vk = .int .i64 k ∧ k ≤ 8 ∧ cu.length = N ∧ wk.ownsRow w.heap.size 4 1 (.slice (some ⟨w.heap.size, 0, none⟩) N N) N (bools cu) ∧ Rd wk B (some ⟨b, o, none⟩) (u8s bs) ∧ Below w.heap.size w wk ∧ Hid (crcm.rest cu = R ^^^ crcm.upk (8 * (bs.length - i)) (x.toNat % 2 ^ k)) ∧ Hid (∀ j, 8 * i + k ≤ j → j < N → cu[j]? = some false)) (fun vk _ => 8 - (intOf vk).toNat)
   case atStart => exact ⟨0, cu, rfl, by omega, HC.out, hown, hrd, hbw, hide (by rw [hrs'.out, show x.toNat % 2 ^ 0 = 0 by omega, crcm.upk_zero, Nat.xor_zero]), HZ⟩
   case round =>
    obtain ⟨k, cu, rfl, hk, hcu, hown, hrd, hbw, hrs, hz⟩ := hrel
    have HC2 := hide hcu
    clear hcu
    by_cases hklt : k < 8
    ·obtain ⟨q, hq⟩ : ∃ q, 8 * i + k = q := ⟨_, rfl⟩
     have hqN : q < N := by have := HN.out; omega
     have hqc : q < cu.length := by have := HC2.out; omega
     have hqi : 8 * (i : Int) + (k : Int) = (q : Int) := by omega
     have hx := hrd.cell hget.out
     have ht := byte_test x.toNat k hxl
     have hqf : cu[q] = false := by
      have := hz.out q (by omega) hqN
      rw [List.getElem?_eq_getElem hqc] at this
      simpa using this
     have hrs2 := hide (crcm.bit_step cu bs.length i k q x.toNat R (by rw [HC2.out]; exact HN.out.symm) hlt hklt hrs.out hq hqc hqf)
     have hcell := own_bool hown hqc
     have hfr := hown.frozenAt q
     have hset := own_set hown q (.bool (x.toNat.testBit k))
     rw [bools_set] at hset
     have hset2 := hide hset
     have hrd2 := hide (hrd.setCell (p := ⟨w.heap.size, q, none⟩) hB (.bool (x.toNat.testBit k)))
     have hbw2 := hide (hbw.setCell (p := ⟨w.heap.size, q, none⟩) (Nat.le_refl _) (.bool (x.toNat.testBit k)))
     have hz2 : Hid (∀ j, 8 * i + (k + 1) ≤ j → j < N → (cu.set q (x.toNat.testBit k))[j]? = some false) := hide (fun j hj hjN => by
      rw [List.getElem?_set_ne (by omega)]
      exact hz.out j (by omega) hjN)
     rw [hqf] at hcell
     clear hset hown hrd hbw hrs hz hqf hq
     go_wp2
     go_roundw
     case rel => exact ⟨k + 1, _, by go_num, by omega, by rw [List.length_set]; exact HC2.out, hset2.out, hrd2.out, hbw2.out, hrs2, hz2⟩
     case measure => simp [intOf]; omega
    ·obtain rfl : k = 8 := by omega
     have hrs2 := hide (hrs.out.trans hdone'.out)
     have hz2 : Hid (∀ j, 8 * (i + 1) ≤ j → j < N → cu[j]? = some false) := hide (fun j hj hjN => hz.out j (by omega) hjN)
     clear hrs hz
     go_wp2
     go_roundw
     case rel => exact ⟨i + 1, cu, by go_num, by omega, HC2.out, hown, hrd, hbw, hrs2, hz2⟩
     case measure => simp [intOf]; omega
  ·obtain rfl : i = bs.length := by omega
   have hrs0 : Hid (crcm.rest cu = crcm.sumR 0 bs) := hide (by rw [hrs.out, Nat.sub_self, List.take_length]; rfl)
   clear hrs hz hrd
   go_wp2
   go_loopw [6] (fun vk wk => ∃ (k : Nat) (cu : List Bool), vk = .int .i64 k ∧ k ≤ 32 ∧ cu.length = N ∧ wk.ownsRow w.heap.size 4 1 (.slice (some ⟨w.heap.size, 0, none⟩) N N) N (bools cu) ∧ Below w.heap.size w wk ∧ Hid (crcm.rest cu = crcm.sumR 0 bs ^^^ crcm.upk (8 * bs.length) (4294967295 % 2 ^ k))) (fun vk _ => 32 - (intOf vk).toNat)
   case atStart => exact ⟨0, cu, rfl, by omega, HC.out, hown, hbw, hide (by rw [hrs0.out, show 4294967295 % 2 ^ 0 = 0 by omega, crcm.upk_zero, Nat.xor_zero])⟩
   case round =>
    obtain ⟨k, cu, rfl, hk, hcu, hown, hbw, hrs⟩ := hrel
    have HC2 := hide hcu
    clear hcu hrs0
    by_cases hklt : k < 32
    ·have hkc : k < cu.length := by have := HC2.out; omega
     have hkN : k < N := by omega
     have hrs2 := hide (crcm.front_step cu bs.length k _ (by rw [HC2.out]; exact HN.out.symm) hklt hrs.out hkc)
     have hcell := own_bool hown hkc
     have hfr := hown.frozenAt k
     have hset := own_set hown k (.bool (!cu[k]))
     rw [bools_set] at hset
     have hset2 := hide hset
     have hbw2 := hide (hbw.setCell (p := ⟨w.heap.size, k, none⟩) (Nat.le_refl _) (.bool (!cu[k])))
     clear hset hown hbw hrs
     generalize cu[k] = bb at hcell hset2 hrs2 hbw2
     go_wp2
     go_roundw
     case rel => exact ⟨k + 1, _, by go_num, by omega, by rw [List.length_set]; exact HC2.out, hset2.out, hbw2.out, hrs2⟩
     case measure => simp [intOf]; omega
    ·obtain rfl : k = 32 := by omega
     have hres : Hid (crcm.rest cu ^^^ 4294967295 = crcm.sum bs) := hide (by rw [hrs.out, ← crcm.ref_sum bs])
     have hcall := fun W B hr hB => refRest_any cu (some ⟨w.heap.size, 0, none⟩) N B W hr hB (by rw [HC2.out]; omega)
     rw [HC2.out] at hcall
     have HK := hide hcall
     have hr := hide (Rd.of_own hown)
     clear hcall hrs hown
     go_wp2_with fail
     refine (HK.out _ _ hr.out (Nat.le_refl _)).mono ?_
     rintro e w4 ⟨rfl, hb4⟩
     have hv := hide ((u32_xor_nat _ 4294967295 (crcm.rest_lt cu) (by omega)).trans (congrArg (fun n : Nat => (n : Int)) hres.out))
     go_wp2_with fail
     go_ret
     exact ⟨ret_num hv.out, hbw.trans (hb4.mono hbw.size)⟩
end Go.Proofs.Ytigmmikijjcdiaa
