/- What each function of the document's reference for layer 1 computes: its walk. -/
import Derived.Test.YtigmmikijjcdiaaLqCrcw
import Derived.Test.YtigmmikijjcdiaaLqCrcn


namespace Go.Proofs.Ytigmmikijjcdiaa
open Go.RowKit
set_option linter.unusedVariables false

theorem info_bool : (Try.prog.info? 4).map (fun i => (i.zero, i.size, i.bytes)) = some (some (.bool false), 1, 1) := by kernel_rfl

def pcells : Array Value := #[.int .i64 32, .int .i64 28, .int .i64 27, .int .i64 26, .int .i64 25, .int .i64 23, .int .i64 22, .int .i64 20, .int .i64 19, .int .i64 18, .int .i64 14, .int .i64 13, .int .i64 11, .int .i64 10, .int .i64 9, .int .i64 8, .int .i64 6, .int .i64 0]
theorem pcells_eq : pcells = (crcm.ps.map fun p : Nat => Value.int .i64 (p : Int)).toArray := rfl
theorem pcells_get {k : Nat} (h : k < 18) : pcells[k]? = some (.int .i64 ((crcm.ps.getD k 0 : Nat) : Int)) := by
  have hl : k < crcm.ps.length := h
  rw [pcells_eq, List.getElem?_toArray, List.getElem?_map, List.getElem?_eq_getElem hl, List.getD_eq_getElem?_getD, List.getElem?_eq_getElem hl]
  rfl

set_option maxRecDepth 100000 in
set_option maxHeartbeats 400000 in
theorem refP_any (w : World) :
    Calls Try.prog 65 #[] w fun e w' => e = .returned (.slice (some ⟨w.heap.size, 0, none⟩) 18 18) ∧ w' = w.alloc (.cells pcells 3) := by
  go_enter Try.func65, Try.ntmps65
  go_wp2
  go_ret
  exact ⟨rfl, rfl⟩

def bitsOf (n : Nat) : List Bool := (List.range 32).map n.testBit
theorem bit_test (n k : Nat) (hn : n < 4294967296) : (bits .and .u32 ((n : Int) / 2 ^ k) 1 == 1) = n.testBit k := by
  have e : ((n : Int) / 2 ^ k) = ((n / 2 ^ k : Nat) : Int) := by simp
  rw [e, and_one_u32 _ (Nat.lt_of_le_of_lt (Nat.div_le_self _ _) hn), Nat.testBit_eq_decide_div_mod_eq]
  rcases Nat.mod_two_eq_zero_or_one (n / 2 ^ k) with h0 | h0 <;> rw [h0] <;> rfl

def lenOf : Value → Nat | .slice _ n _ => n | _ => 0
/-- a block of the call's own: what a store does -/
theorem own_set {w : World} {base : Nat} {e : TypeId} {g n c : Nat} {xs : List Value} (h : w.ownsRow base e 1 (.slice (some ⟨g, 0, none⟩) n c) n xs) (j : Nat) (u : Value) :
    (w.setCell ⟨g, j, none⟩ u).ownsRow base e 1 (.slice (some ⟨g, 0, none⟩) n c) n (xs.set j u) := (h.stored j u).1
theorem own_bool {w : World} {base : Nat} {e : TypeId} {g n c : Nat} {l : List Bool} (h : w.ownsRow base e 1 (.slice (some ⟨g, 0, none⟩) n c) n (bools l)) {j : Nat} (hj : j < l.length) :
    w.cell? ⟨g, j, none⟩ = some (.bool l[j]) := by
  have hl := h.1
  rw [bools_len] at hl
  rw [h.cellAt j (by omega)]
  exact bools_get hj

set_option maxRecDepth 100000 in
set_option maxHeartbeats 1600000 in
/-- what division leaves -/
theorem refRest_any (l : List Bool) (A : Option Addr) (cap B : Nat) (w : World) (hr : Rd w B A (bools l)) (hB : B ≤ w.heap.size) (hl : l.length ≤ 140737488351232) :
    Calls Try.prog 52 #[.slice A l.length cap] w fun e w' => e = .returned (.int .u32 (crcm.rest l : Nat)) ∧ Below w.heap.size w w' := by
  obtain ⟨i0, hi0, hz0, hz1, hz2⟩ := info_parts info_bool
  go_enter Try.func52, Try.ntmps52
  go_wp2_with (at_builtin; refine wpList_app rfl (.tmp 10) (.tmp 11) 95 rfl w.heap.size 4 i0 (.bool false) 1 1 Try.underlying95 hi0 hz0 hz1 hz2 rfl (by decide) (.slice none 0 0) 0 _ rfl (World.ownsRow_nil _ _ _ _) B A l.length cap (bools l) rfl (by rw [bools_len]; omega) hr (bools_one l) (by unfold maxLen; omega) (by omega) (Nat.le_refl _) ?_; intro A1 c1 w1 hown1 hg1 hat1)
  rw [Nat.zero_add, List.nil_append] at hown1
  have hb1 := app_below (Below.refl _ _) (World.ownsRow_nil _ w.heap.size 4 1) hg1 (Nat.le_refl _) (Nat.le_refl _)
  clear hat1 hg1
  go_wp2
  go_loopw [3] (fun v wr => ∃ (cur : List Bool) (A : Option Addr) (c : Nat), v = .slice A cur.length c ∧ wr.ownsRow w.heap.size 4 1 (.slice A cur.length c) cur.length (bools cur) ∧ Below w.heap.size w wr ∧ Hid (crcm.rest cur = crcm.rest l) ∧ cur.length ≤ l.length + 32) (fun v _ => 32 - lenOf v)
  case atStart => exact ⟨l, A1, c1, rfl, hown1, hb1, hide rfl, by omega⟩
  case round =>
    obtain ⟨cur, A2, c2, rfl, hown, hbw, hrest, hlen⟩ := hrel
    clear hown1 hb1
    have hs := hbw.size
    by_cases hlt : cur.length < 32
    · have hlit := World.ownsRow_lit (base := w.heap.size) (e := 4) (size := 1) wr #[.bool false] 1 hs (by unfold maxLen; omega) rfl
      have hsrc := (Rd.of_own hown).alloc (Nat.le_refl _) (.cells #[.bool false] 4)
      have hrest2 : Hid (crcm.rest (false :: cur) = crcm.rest l) := hide (by rw [crcm.rest_cons]; simp [crcm.upk_zero]; exact hrest.out)
      go_wp2_with (at_builtin; refine wpList_app rfl (.tmp 16) (.tmp 17) 95 rfl w.heap.size 4 i0 (.bool false) 1 1 Try.underlying95 hi0 hz0 hz1 hz2 rfl (by decide) _ 1 _ rfl hlit wr.heap.size A2 cur.length c2 (bools cur) rfl (by rw [bools_len]; omega) hsrc (bools_one cur) (by unfold maxLen; omega) (by omega) (by simp; omega) ?_; intro A' c' w1 hown1 hg1 hat1)
      have hb1 := app_below (hbw.alloc hs _) hlit hg1 (by simp; omega) (Nat.le_refl _)
      clear hg1 hat1 hlit hsrc hown
      go_wp2
      go_roundw
      case rel =>
        refine ⟨false :: cur, A', c', by rw [List.length_cons, Nat.add_comm], ?_, hb1, hrest2, by simp; omega⟩
        rw [List.length_cons, Nat.add_comm cur.length 1]
        exact hown1
      case measure => simp [lenOf]; omega
    · obtain ⟨g, rfl, hg1, hg2, hnc⟩ := own_addr hown (by omega)
      obtain ⟨N, hN⟩ : ∃ N, cur.length = N := ⟨_, rfl⟩
      rw [hN] at hown hlt hlen hnc ⊢
      have HN := hide hN
      clear hN
      go_wp2_with (go_at_call 65; refine (refP_any _).mono ?_; rintro e w1 ⟨rfl, rfl⟩)
      have hown1 := hown.alloc (.cells pcells 3)
      have hb1 := hbw.alloc hs (.cells pcells 3)
      have hp1 := heap_alloc_last wr (.cells pcells 3)
      have hG := hide (Nat.le_refl wr.heap.size)
      generalize wr.heap.size = G at hp1 hg2 hs hG ⊢
      generalize wr.alloc (.cells pcells 3) = w1 at hown1 hb1 hp1 ⊢
      clear hown hbw
      go_loopw [5, 6, 7] (fun vi _ _ wr => ∃ (i : Nat) (cu : List Bool), vi = .int .i64 i ∧ i + 32 ≤ N ∧ cu.length = N ∧ wr.ownsRow w.heap.size 4 1 (.slice (some ⟨g, 0, none⟩) N c2) N (bools cu) ∧ wr.heap[G]? = some (.cells pcells 3) ∧ Below w.heap.size w wr ∧ Hid (crcm.rest cu = crcm.rest l) ∧ Hid (∀ j, j < i → cu[j]? = some false)) (fun vi _ _ _ => N - (intOf vi).toNat)
      case atStart => exact ⟨0, cur, rfl, by omega, HN.out, hown1, hp1, hb1, hrest, hide (fun j hj => by omega)⟩
      case round =>
        obtain ⟨i, cu, rfl, hi, hcu, hown, hp, hbw, hrs, hz⟩ := hrel
        have HC := hide hcu
        clear hown1 hb1 hp1 hrest HN hcu
        obtain ⟨wo, hwo⟩ : ∃ wo, wr = wo := ⟨_, rfl⟩
        subst hwo
        by_cases hlt : i + 32 < N
        · have hic : i < cu.length := by have := HC.out; omega
          have hcell := own_bool hown hic
          cases hbit : cu[i]
          · rw [hbit] at hcell
            have HB := hide hbit
            clear hbit
            go_wp2
            go_roundw
            case rel =>
              refine ⟨i + 1, cu, by go_num, by omega, HC.out, hown, hp, hbw, hrs, hide (fun j hj => ?_)⟩
              rcases Nat.lt_or_ge j i with h | h
              · exact hz.out j h
              · obtain rfl : j = i := by omega
                rw [List.getElem?_eq_getElem hic, HB.out]
            case measure => simp [intOf]; omega
          · rw [hbit] at hcell
            have HB := hide hbit
            clear hbit
            go_wp2
            obtain ⟨m, hm⟩ : ∃ m, i + 33 + m = N := ⟨N - (i + 33), by omega⟩
            have HM := hide hm
            have HZ := hide hz.out
            have hR := hide hrs.out
            clear hm hcell hz hrs
            obtain ⟨w0, hw0⟩ : ∃ w0, w0 = wr := ⟨_, rfl⟩
            have HW0 := hide hw0
            clear hw0
            go_loopw [6, 7] (fun vk _ wk => ∃ (K : Nat) (cu : List Bool), vk = .int .i64 K ∧ K ≤ 18 ∧ cu.length = N ∧ wk.ownsRow w.heap.size 4 1 (.slice (some ⟨g, 0, none⟩) N c2) N (bools cu) ∧ wk.heap[G]? = some (.cells pcells 3) ∧ Below w.heap.size w wk ∧ Hid (crcm.rest cu = crcm.rest l ^^^ crcm.upk m (crcm.accP K)) ∧ Hid (∀ j, j < i → cu[j]? = some false) ∧ Hid (cu[i]? = some (K == 0))) (fun vk _ _ => 18 - (intOf vk).toNat)
            case atStart =>
              refine ⟨0, cu, rfl, by omega, HC.out, hown, hp, hbw, hide ?_, HZ, hide ?_⟩
              · rw [hR.out]; simp [crcm.accP, crcm.upk_zero]
              · rw [List.getElem?_eq_getElem hic, HB.out]; rfl
            case round =>
              obtain ⟨K, cu, rfl, hK, hcu, hown, hp, hbw, hrs, hz, hzi⟩ := hrel
              have HC2 := hide hcu
              clear hcu
              by_cases hKlt : K < 18
              · have hpc : wr.cell? ⟨G, K, none⟩ = some (.int .i64 ((crcm.ps.getD K 0 : Nat) : Int)) := by rw [cell_of_row _ _ _ _ _ _ hp]; exact pcells_get hKlt
                obtain ⟨p, hpv⟩ : ∃ p, crcm.ps.getD K 0 = p := ⟨_, rfl⟩
                have hple : p ≤ 32 := by rw [← hpv]; exact crcm.ps_le K
                obtain ⟨at', hat⟩ : ∃ at', i + 32 - p = at' := ⟨_, rfl⟩
                have hatl : at' < cu.length := by have := HC2.out; have := HM.out; omega
                have hatN : at' < N := by have := HM.out; omega
                have hstep2 := hide (crcm.accP_step cu i K (crcm.rest l) m at' (by have := HC2.out; have := HM.out; omega) hrs.out hatl (by rw [hpv]; exact hat))
                have hpl2 := hide (fun h : 0 < K => show p < 32 by rw [← hpv]; exact crcm.ps_small h)
                have hpK := hide (fun h : K = 0 => show p = 32 by rw [← hpv]; subst h; rfl)
                have hbv := hide (List.getElem?_eq_getElem hatl)
                rw [hpv] at hpc
                clear hpv
                have hati : (i : Int) + 32 - (p : Int) = (at' : Int) := by omega
                have hcell := own_bool hown hatl
                have hfr := hown.frozenAt at'
                have hcell2 := hown
                have HAT := hide hat
                clear hat
                have hset := own_set hown at' (.bool (!cu[at']))
                rw [bools_set] at hset
                have hset2 := hide hset
                have hp2 := hide ((heap_setCell_other wr ⟨g, at', none⟩ G (.bool (!cu[at'])) (by show G ≠ g; omega)).trans hp)
                have hbw2 := hide (hbw.setCell (p := ⟨g, at', none⟩) hg1 (.bool (!cu[at'])))
                clear hset hcell2 hown hbw hp
                generalize cu[at'] = b at hcell hset2 hstep2 hp2 hbw2 hbv
                go_wp2
                go_roundw
                case rel =>
                  refine ⟨K + 1, cu.set at' (!b), by go_num, by omega, by rw [List.length_set]; exact HC2.out, hset2.out, hp2.out, hbw2.out, hstep2, hide ?_, hide ?_⟩
                  · intro j hj
                    have := HAT.out
                    rw [List.getElem?_set_ne (by omega)]
                    exact hz.out j hj
                  · rcases Nat.eq_zero_or_pos K with h | h
                    · subst h
                      have h32 := hpK.out rfl
                      have := HAT.out
                      obtain rfl : at' = i := by omega
                      have hzi' := hzi.out
                      rw [hbv.out] at hzi'
                      obtain rfl : b = true := by simpa using hzi'
                      rw [List.getElem?_set_self hatl]
                      rfl
                    · have := hpl2.out h
                      have := HAT.out
                      rw [List.getElem?_set_ne (by omega)]
                      refine hzi.out.trans ?_
                      cases K with
                      | zero => omega
                      | succ K => rfl
                case measure => simp [intOf]; omega
              · obtain rfl : K = 18 := by omega
                have hrs2 : Hid (crcm.rest cu = crcm.rest l) := hide (by rw [hrs.out, crcm.accP_all, crcm.upk_zero, Nat.xor_zero])
                have hz2 : Hid (∀ j, j < i + 1 → cu[j]? = some false) := hide (fun j hj => by
                  rcases Nat.lt_or_ge j i with h | h
                  · exact hz.out j h
                  · obtain rfl : j = i := by omega
                    exact hzi.out)
                clear hrs hz hzi HZ hR HW0
                go_wp2
                go_roundw
                case rel => exact ⟨i + 1, cu, by go_num, by omega, HC2.out, hown, hp, hbw, hrs2, hz2⟩
                case measure => simp [intOf]; omega
        · have hiN : i + 32 = N := by omega
          have hlen32 : (cu.drop i).length = 32 := by rw [List.length_drop, HC.out]; omega
          have hres : Hid (crcm.numTo (cu.drop i) 32 = crcm.rest l) := hide (by
            rw [crcm.numTo_all _ hlen32, ← hrs.out]
            exact (crcm.rest_tail cu i (by rw [HC.out]; omega) (fun j hj => by
              have := hz.out j hj
              rw [List.getElem?_eq_getElem (by have := HC.out; omega)] at this
              simpa using this)).symm)
          have HI := hide hiN
          have HL := hide hlen32
          clear hiN hlen32 hz hrs hp
          go_wp2
          go_loop [8, 9] (fun vn vk => ∃ k : Nat, vk = .int .i64 k ∧ k ≤ 32 ∧ vn = .int .u32 (crcm.numTo (cu.drop i) k : Nat)) (fun _ vk => 32 - (intOf vk).toNat)
          case atStart => exact ⟨0, rfl, by omega, by rw [crcm.numTo_zero]; rfl⟩
          case round =>
            obtain ⟨k, rfl, hk, rfl⟩ := hrel
            by_cases hklt : k < 32
            · have hidx : (N : Int) - 32 + (k : Int) = ((i + k : Nat) : Int) := by have := HI.out; omega
              have hcl : i + k < cu.length := by have := HC.out; have := HI.out; omega
              have hcN : i + k < N := by have := HI.out; omega
              have hcell := own_bool hown hcl
              have hadd := hide (crcm.numTo_add (cu.drop i) HL.out k hklt)
              have hnlt := hide (crcm.numTo_lt (cu.drop i) HL.out (k + 1) (by omega))
              have hget := hide (List.getElem_drop (xs := cu) (i := i) (j := k) (h := by rw [HL.out]; exact hklt))
              cases hb : cu[i + k]
              all_goals
                rw [hb] at hcell
                have HB := hide hb
                clear hb
                go_wp2
                go_round
                case rel =>
                  refine ⟨k + 1, by go_num, by omega, ?_⟩
                  have h1 := hadd.out
                  have h2 := hget.out
                  rw [HB.out] at h2
                  rw [h2] at h1
                  rw [h1]
                  first
                    | rfl
                    | (have h3 := hnlt.out
                       have h4 : 2 ^ (k + 1) ≤ 2 ^ 32 := Nat.pow_le_pow_right (by omega) (by omega)
                       rw [h1, if_pos rfl] at h3
                       have h5 : ((2 : Int) ^ k) = ((2 ^ k : Nat) : Int) := by simp
                       rw [if_pos rfl, h5]
                       generalize crcm.numTo (cu.drop i) k = a at h3 ⊢
                       generalize 2 ^ k = b at h3 ⊢
                       generalize 2 ^ (k + 1) = c at h3 h4
                       rw [show ((a : Int) + (b : Int) % 4294967296) % 4294967296 = ((a + b : Nat) : Int) by omega])
                case measure => simp [intOf]; omega
            · obtain rfl : k = 32 := by omega
              have hv := hide (congrArg (fun n : Nat => (n : Int)) hres.out)
              go_wp2
              go_ret
              exact ⟨ret_num hv.out, hbw⟩

end Go.Proofs.Ytigmmikijjcdiaa
