/- relaxed, and Pick. (printed by gen/prx.py) -/
import Derived.Test.YtmlpcfeadacoeaaPtq
import Derived.Test.YtmlpcfeadacoeaaPtr
import Derived.Test.YtmlpcfeadacoeaaRgl
namespace Go.Proofs.Ytmlpcfeadacoeaa
open Go.RowKit
set_option linter.unusedVariables false
set_option linter.unusedSimpArgs false
def pickOf (i n : Int) : Int := if n ≤ 0 then 0 else (i.tmod n + n).tmod n
theorem pick_rng (i n : Int) (h : 0 < n) : 0 ≤ pickOf i n ∧ pickOf i n < n := by
  unfold pickOf
  rw [if_neg (by omega)]
  have h1 := Int.tmod_lt_of_pos i h
  have h2 : -n < i.tmod n := by
    have := Int.tmod_lt_of_pos (-i) h
    rw [Int.neg_tmod] at this
    omega
  have h3 := Int.tmod_lt_of_pos (i.tmod n + n) h
  have h4 := Int.tmod_nonneg (b := n) (a := i.tmod n + n) (by omega)
  omega
set_option maxRecDepth 100000 in
set_option maxHeartbeats 1000000 in
theorem pick_any (w : World) (i n : Int) (hi1 : -9223372036854775808 ≤ i) (hi2 : i ≤ 9223372036854775807) (hn : 0 < n) (hn2 : n ≤ 4611686018427387904) : Calls Try.prog 21 #[.int .i64 i, .int .i64 n] w fun e w' => e = .returned (.int .i64 (pickOf i n)) ∧ w' = w := by
  have hp : pickOf i n = (i.tmod n + n).tmod n := by unfold pickOf; rw [if_neg (by omega)]
  have HP := hide hp
  have h1 := Int.tmod_lt_of_pos i hn
  have h2 : -n < i.tmod n := by
    have := Int.tmod_lt_of_pos (-i) hn
    rw [Int.neg_tmod] at this
    omega
  have hpr := pick_rng i n hn
  rw [hp] at hpr
  clear hp
  have w1 : IntKind.i64.wrap (i.tmod n) = i.tmod n := IntWalk.i64_in _ (by omega)
  have w2 : IntKind.i64.wrap (i.tmod n + n) = i.tmod n + n := IntWalk.i64_in _ (by omega)
  have w3 : IntKind.i64.wrap ((i.tmod n + n).tmod n) = (i.tmod n + n).tmod n := IntWalk.i64_in _ (by omega)
  have d0 : ¬ n = 0 := by omega
  have hnn : 0 ≤ i.tmod n + n := by omega
  go_enter Try.func21, Try.ntmps21
  go_wp2
  go_ret
  exact ⟨ret_n (by rw [HP.out, Int.tmod_eq_emod_of_nonneg hnn]), rfl⟩

theorem start_snoc (k : Nat) (s : Int) : (start0 k s).map (Value.int .i64) ++ [.int .i64 (startOf (k : Int) s)] = (start0 (k + 1) s).map (Value.int .i64) := by
  unfold start0
  rw [List.range_succ]
  simp
theorem roundsN_next (es : List Ed) (M n : Nat) (l : List Int) (h : n < M) : roundsN es (M - n) l = roundsN es (M - (n + 1)) (round es l) := by
  rw [show M - n = (M - (n + 1)) + 1 by omega]; rfl
theorem foldS_step {es : List Ed} {i : Nat} {e : Ed} (l : List Int) (he : es[i]? = some e) : (es.drop i).foldl step l = (es.drop (i + 1)).foldl step (step l e) := by
  obtain ⟨hi, rfl⟩ := List.getElem?_eq_some_iff.1 he
  rw [List.drop_eq_getElem_cons hi]; rfl
/-- numbers that are 64 bits wide -/
def all64 (l : List Int) : Prop := ∀ x ∈ l, -9223372036854775808 ≤ x ∧ x ≤ 9223372036854775807
theorem all64_at {l : List Int} (h : all64 l) {k : Nat} (hk : k < l.length) : -9223372036854775808 ≤ at_ l k ∧ at_ l k ≤ 9223372036854775807 := by
  rw [at_nat, List.getElem?_eq_getElem hk]
  exact h _ (List.getElem_mem _)
theorem all64_step {l : List Int} (h : all64 l) (e : Ed) (hk : e.2.1.toNat < l.length) : all64 (step l e) := fun x hx => by
  unfold step at hx
  rcases List.mem_or_eq_of_mem_set hx with h1 | rfl
  · exact h x h1
  · rw [take_min _ _ (dadd_rng _ _).1]
    have h1 := dadd_rng (at_ l e.1) e.2.2
    unfold inf at h1
    have h2 : -9223372036854775808 ≤ at_ l e.2.1 ∧ at_ l e.2.1 ≤ 9223372036854775807 := by
      unfold at_
      rw [List.getElem?_eq_getElem hk]
      exact h _ (List.getElem_mem _)
    omega
theorem own_int {w : World} {base : Nat} {e : TypeId} {g n c : Nat} {l : List Int} {k : IntKind} (h : w.ownsRow base e 1 (.slice (some ⟨g, 0, none⟩) n c) n (l.map (Value.int k))) {j : Nat} (hj : j < l.length) :
    w.cell? ⟨g, j, none⟩ = some (.int k (at_ l (j : Int))) := by
  have hl := h.1
  rw [List.length_map] at hl
  rw [h.cellAt j (by omega), at_nat, List.getElem?_map, List.getElem?_eq_getElem hj]; rfl
theorem start_64 (M : Nat) (s : Int) : all64 (start0 M s) := fun x hx => by
  unfold start0 at hx
  obtain ⟨j, _, rfl⟩ := List.mem_map.1 hx
  unfold startOf
  split <;> omega
theorem rounds_64 {es : List Ed} {M : Nat} (hw : Within es M) : ∀ (n : Nat) (l : List Int), l.length = M → all64 l → all64 (roundsN es n l) ∧ (roundsN es n l).length = M := by
  have hone : ∀ (p : List Ed) (l : List Int), (∀ e ∈ p, e ∈ es) → l.length = M → all64 l → all64 (p.foldl step l) ∧ (p.foldl step l).length = M := by
    intro p
    induction p with
    | nil => intro l _ hl ha; exact ⟨ha, hl⟩
    | cons x p ih =>
      intro l hm hl ha
      exact ih _ (fun e he => hm e (List.mem_cons_of_mem _ he)) (by rw [step_len, hl]) (all64_step ha x (by have := (hw x (hm x (by simp))).2.2; omega))
  intro n
  induction n with
  | zero => intro l hl ha; exact ⟨ha, hl⟩
  | succ n ih =>
    intro l hl ha
    obtain ⟨h1, h2⟩ := hone es l (fun _ h => h) hl ha
    exact ih _ h2 h1
theorem relaxed_64 (V : Int) (es : List Ed) (s : Int) (hw : Within es V.toNat) : all64 (relaxedF V es s) := (rounds_64 hw _ _ (by simp [start0]) (start_64 _ _)).1
theorem relaxed_len (V : Int) (es : List Ed) (s : Int) : (relaxedF V es s).length = V.toNat := by
  unfold relaxedF
  have h : ∀ (n : Nat) (l : List Int), (roundsN es n l).length = l.length := fun n => by
    induction n with
    | zero => intro l; rfl
    | succ n ih => intro l; rw [roundsN, ih, round_len]
  rw [h]; simp [start0]
def RelPost (w : World) (M : Nat) (l : List Int) (e : Ending) (w' : World) : Prop := ∃ g c', e = .returned (.slice (some ⟨g, 0, none⟩) M c') ∧ w'.ownsRow w.heap.size 2 1 (.slice (some ⟨g, 0, none⟩) M c') M (l.map (Value.int .i64)) ∧ Below w.heap.size w w'
set_option maxRecDepth 100000 in
set_option maxHeartbeats 4000000 in
theorem relaxed_any (w : World) (V : Int) (A : Option Addr) (es : List Ed) (L c : Nat) (s : Int) (hL : es.length = L) (hE : Eds w w.heap.size A es) (hc : L ≤ 9223372036854775807) (hchk : checkF V es = 0) :
    Calls Try.prog 20 #[.agg #[.int .i64 V, .slice A L c], .int .i64 s] w (RelPost w V.toNat (relaxedF V es s)) := by
  obtain ⟨hV1, hV2, hok⟩ := checkF_zero hchk
  obtain ⟨M, rfl⟩ := Int.eq_ofNat_of_zero_le (show 0 ≤ V by omega)
  rw [Int.toNat_natCast]
  obtain ⟨v, hv⟩ : ∃ v, w.alloc (.cells #[.int .i64 (M : Int), .slice A L c] 35) = v := ⟨_, rfl⟩
  have hz : v.heap.size = w.heap.size + 1 := by rw [← hv]; simp
  have hb : Below w.heap.size w v := by rw [← hv]; exact (Below.refl _ _).alloc (Nat.le_refl _) _
  have cg : v.heap[w.heap.size]? = some (.cells #[.int .i64 (M : Int), .slice A L c] 35) := by rw [← hv]; exact heap_alloc_last w _
  have cg0 : v.cell? ⟨w.heap.size, 0, none⟩ = some (.int .i64 (M : Int)) := cell_of_row _ _ 0 _ _ _ cg
  have cg1 : v.cell? ⟨w.heap.size, 1, none⟩ = some (.slice A L c) := cell_of_row _ _ 1 _ _ _ cg
  have hlg : w.heap.size < v.heap.size := by omega
  have HE := hide (hE.below hb (Nat.le_refl _))
  have HV := hide hv
  have HB := hide hb
  have HL := hide hL
  have HZ := hide hz
  have HOk := hide hok
  have HRF : Hid (relaxedF (M : Int) es s = roundsN es M (start0 M s)) := hide (by unfold relaxedF; rw [Int.toNat_natCast])
  obtain ⟨i0, hi0, hz0, hz1, hz2⟩ := info_parts (show (Try.prog.info? 2).map (fun i => (i.zero, i.size, i.bytes)) = some (some (.int .i64 0), 1, 8) by kernel_rfl)
  clear hv hb hz cg hE hL hok hchk
  go_enter Try.func20, Try.ntmps20
  go_wp2
  rw [HV.out]
  go_loopw [5, 6] (fun v5 v6 wr => ∃ (k : Nat) (A' : Option Addr) (c' : Nat), k ≤ M ∧ v6 = .int .i64 k ∧ v5 = .slice A' k c' ∧ Hid (wr.ownsRow v.heap.size 2 1 (.slice A' k c') k ((start0 k s).map (Value.int .i64))) ∧ Hid (Below w.heap.size w wr) ∧ Below v.heap.size v wr) (fun _ v6 _ => M - (intOf v6).toNat)
  case atStart => exact ⟨0, none, 0, by omega, rfl, rfl, hide (World.ownsRow_nil _ _ _ _), HB, Below.refl _ _⟩
  case round =>
    obtain ⟨k, A', c', hk, rfl, rfl, hown, hbw, hvw⟩ := hrel
    have gg0 := (hvw.cell (p := ⟨w.heap.size, 0, none⟩) hlg).trans cg0
    have hs := hvw.size
    by_cases hlt : k < M
    · have hsn : Hid ((start0 k s).map (Value.int .i64) ++ [.int .i64 (startOf (k : Int) s)] = (start0 (k + 1) s).map (Value.int .i64)) := hide (start_snoc k s)
      have HVW := hide hvw
      clear hvw
      go_wp2_with fail
      refine (start_any _ (k : Int) s).mono ?_
      rintro e y ⟨rfl, rfl⟩
      clear gg0
      go_wp2_with (at_builtin; refine wpList_app rfl (.tmp 16) (.tmp 20) 36 rfl v.heap.size 2 i0 (.int .i64 0) 1 8 Try.underlying36 hi0 hz0 hz1 hz2 rfl (by decide) (.slice A' k c') k _ rfl (hown.out.alloc _) (y.heap.size + 1) (some ⟨y.heap.size, 0, none⟩) 1 1 [.int .i64 (startOf (k : Int) s)] rfl rfl (Rd.new _ _ _ _) (by simp [Value.oneCell']) (by unfold maxLen; omega) (by omega) (by simp; omega) ?_; intro A2 c2 w1 hown1 hg1 hat1)
      rw [hsn.out] at hown1
      have hb1 := app_below (HVW.out.alloc hs _) (hown.out.alloc _) hg1 (by simp; omega) (Nat.le_refl _)
      have hb2 := hide (app_below (hbw.out.alloc hbw.out.size _) (hown.out.alloc _) hg1 (by have := hbw.out.size; simp; omega) (by omega))
      have HOwn := hide hown1
      clear hown hg1 hat1 hown1
      go_wp2
      go_roundw
      case rel => exact ⟨k + 1, A2, c2, by omega, by go_num, rfl, HOwn, hb2, hb1⟩
      case measure => simp [intOf]; omega
    · obtain rfl : k = M := by omega
      obtain ⟨g, rfl, hgb, hgl, hgc⟩ := own_addr hown.out (by omega)
      have hgl0 := hide hgl
      go_wp2
      clear gg0
      obtain ⟨wo, hwo⟩ : ∃ wo, wr = wo := ⟨_, rfl⟩
      subst hwo
      have HKV : Hid (Kept v wr) := hide (fun p hp => hvw.cell hp)
      have hall : Hid (all64 (start0 k s)) := hide (start_64 _ _)
      have hlen0 : (start0 k s).length = k := by simp [start0]
      clear hvw
      go_loopw [7] (fun v7 wr => ∃ (n : Nat) (l : List Int), n ≤ k ∧ v7 = .int .i64 n ∧ l.length = k ∧ Hid (all64 l) ∧ Hid (roundsN es k (start0 k s) = roundsN es (k - n) l) ∧ Hid (wr.ownsRow v.heap.size 2 1 (.slice (some ⟨g, 0, none⟩) k c') k (l.map (Value.int .i64))) ∧ Hid (Kept v wr) ∧ Hid (Below w.heap.size w wr)) (fun v7 _ => k - (intOf v7).toNat)
      case atStart => exact ⟨0, start0 k s, by omega, rfl, hlen0, hall, hide rfl, hown, HKV, hbw⟩
      case round =>
        clear hown HKV hbw hall hlen0 hgl0 hgl
        obtain ⟨n, l, hn, rfl, hll, hal, hrnd, hown, hkv, hbw⟩ := hrel
        have gg0 := (hkv.out ⟨w.heap.size, 0, none⟩ hlg).trans cg0
        by_cases hnk : n < k
        · have HNext := hide (roundsN_next es k n l hnk)
          go_wp2
          clear gg0
          go_loopw [8] (fun v8 wr => ∃ (i : Nat) (l' : List Int), i ≤ L ∧ v8 = .int .i64 i ∧ l'.length = k ∧ Hid (all64 l') ∧ Hid (round es l = (es.drop i).foldl step l') ∧ Hid (wr.ownsRow v.heap.size 2 1 (.slice (some ⟨g, 0, none⟩) k c') k (l'.map (Value.int .i64))) ∧ Hid (Kept v wr) ∧ Hid (Below w.heap.size w wr)) (fun v8 _ => L - (intOf v8).toNat)
          case atStart => exact ⟨0, l, by omega, rfl, hll, hal, hide rfl, hown, hkv, hbw⟩
          case round =>
            clear hown hkv hbw hal
            obtain ⟨i, l', hi, rfl, hll', hal, hps, hown, hkr, hbr⟩ := hrel
            have kg1 := (hkr.out ⟨w.heap.size, 1, none⟩ hlg).trans cg1
            have hsr := hbr.out.size
            by_cases hlt2 : i < L
            · obtain ⟨e, he⟩ : ∃ e, es[i]? = some e := ⟨_, List.getElem?_eq_getElem (by rw [HL.out]; exact hlt2)⟩
              have hfit := fits_bounds (ok_all HOk.out he)
              obtain ⟨b, off, rfl, hbl, c0, c1, c2', hx1, hx2⟩ := Eds.get HE.out he
              have HStep := hide (foldS_step l' he)
              obtain ⟨e1, e2, e3⟩ := e
              dsimp only at c0 c1 c2' hfit hx1 hx2 HStep
              obtain ⟨f, rfl⟩ := Int.eq_ofNat_of_zero_le hfit.1
              obtain ⟨t, rfl⟩ := Int.eq_ofNat_of_zero_le hfit.2.2.1
              have hfM : f < k := by omega
              have htM : t < k := by omega
              have k0 := (hkr.out ⟨b, off + i * 3, none⟩ (by show b < _; omega)).trans c0
              have k1 := (hkr.out ⟨b, off + i * 3 + 1, none⟩ (by show b < _; omega)).trans c1
              have k2 := (hkr.out ⟨b, off + i * 3 + 2, none⟩ (by show b < _; omega)).trans c2'
              have hI0' : (0 : Int) ≤ (i : Int) := by omega
              have hI1' : (i : Int) < (L : Int) := by omega
              clear he c0 c1 c2' hfit
              go_wp2
              obtain ⟨u, hu⟩ : ∃ u, wr.alloc (.cells #[.int .i64 (f : Int), .int .i64 (t : Int), .int .i64 e3] 23) = u := ⟨_, rfl⟩
              have hbu : Below wr.heap.size wr u := by rw [← hu]; exact (Below.refl _ _).alloc (Nat.le_refl _) _
              have ce : u.heap[wr.heap.size]? = some (.cells #[.int .i64 (f : Int), .int .i64 (t : Int), .int .i64 e3] 23) := by rw [← hu]; exact heap_alloc_last wr _
              have ue0 : u.cell? ⟨wr.heap.size, 0, none⟩ = some (.int .i64 (f : Int)) := cell_of_row _ _ 0 _ _ _ ce
              have ue1 : u.cell? ⟨wr.heap.size, 1, none⟩ = some (.int .i64 (t : Int)) := cell_of_row _ _ 1 _ _ _ ce
              have ue2 : u.cell? ⟨wr.heap.size, 2, none⟩ = some (.int .i64 e3) := cell_of_row _ _ 2 _ _ _ ce
              have hlu : wr.heap.size < u.heap.size := lt_of_block ce
              have hgw : g < wr.heap.size := (hown.out.lt g rfl).2
              have hku : Hid (Kept v u) := hide (hkr.out.below (by omega) hbu)
              have hou := own_below_g hown.out hbu hgw
              have uf := own_int hou (j := f) (by omega)
              have ut := own_int hou (j := t) (by omega)
              have bf := all64_at hal.out (k := f) (by omega)
              have bt := all64_at hal.out (k := t) (by omega)
              have hlgu : g < u.heap.size := by omega
              have hwu := hide (hbr.out.trans (hbu.mono hsr))
              have HU := hide hu
              have HOU := hide hou
              have HAL := hide (all64_step hal.out ((f : Int), (t : Int), e3) (by dsimp only; omega))
              have hMk : Hid (step l' ((f : Int), (t : Int), e3) = l'.set t (takeOf (at_ l' (t : Int)) true (dadd (at_ l' (f : Int)) e3)).1) := hide (by rw [step]; dsimp only; rw [Int.toNat_natCast])
              have hf0 : (0 : Int) ≤ (f : Int) := by omega
              have hf1 : (f : Int) < (k : Int) := by omega
              have ht0 : (0 : Int) ≤ (t : Int) := by omega
              have ht1 : (t : Int) < (k : Int) := by omega
              obtain ⟨Fv, hF⟩ : ∃ F, at_ l' (f : Int) = F := ⟨_, rfl⟩
              obtain ⟨X, hX⟩ : ∃ X, at_ l' (t : Int) = X := ⟨_, rfl⟩
              rw [hF] at uf bf hMk
              rw [hX] at ut bt hMk
              have hd9 := dadd_rng Fv e3
              unfold inf at hd9
              obtain ⟨d, hd⟩ : ∃ d, dadd Fv e3 = d := ⟨_, rfl⟩
              obtain ⟨T, hT⟩ : ∃ T, takeOf X true d = T := ⟨_, rfl⟩
              rw [hd, hT] at hMk
              rw [hd] at hd9
              have HD := hide hd
              have HT := hide hT
              clear hu ce hbu hkr hbr hF hX hou k0 k1 k2 kg1 hd hT
              go_wp2
              rw [HU.out]
              refine wpL_region (S := Kept u) [21] (by kernel_rfl) (Kept.drew u) (fun hS0 => ?_)
              refine takeL_at (i := 0) (d := 41) (v := ?_) (by simp only [List.getElem?_toArray, List.getElem?_cons_succ, List.getElem?_cons_zero]; rfl) rfl (by kernel_rfl) (by kernel_rfl) (by kernel_rfl) (by kernel_rfl) (fun _ _ _ h => h) rfl ?_ (by assumption) ?_
              rotate_left
              focus (intro w hSw; go_simp; (try with_reducible rfl); done)
              try simp only [List.setIfInBounds_toArray, List.set_cons_zero, List.set_cons_succ]
              refine takeL_at (i := 1) (d := 42) (v := ?_) (by simp only [List.getElem?_toArray, List.getElem?_cons_succ, List.getElem?_cons_zero]; rfl) rfl (by kernel_rfl) (by kernel_rfl) (by kernel_rfl) (by kernel_rfl) (fun _ _ _ h => h) rfl ?_ (by assumption) ?_
              rotate_left
              focus (intro w hSw; go_simp; (try with_reducible rfl); done)
              try simp only [List.setIfInBounds_toArray, List.set_cons_zero, List.set_cons_succ]
              refine takeL_at (i := 2) (d := 43) (v := ?_) (by simp only [List.getElem?_toArray, List.getElem?_cons_succ, List.getElem?_cons_zero]; rfl) rfl (by kernel_rfl) (by kernel_rfl) (by kernel_rfl) (by kernel_rfl) (fun _ _ _ h => h) rfl ?_ (by assumption) ?_
              rotate_left
              focus (intro w hSw; go_simp; (try with_reducible rfl); done)
              try simp only [List.setIfInBounds_toArray, List.set_cons_zero, List.set_cons_succ]
              refine takeL_at (i := 3) (d := 44) (v := ?_) (by simp only [List.getElem?_toArray, List.getElem?_cons_succ, List.getElem?_cons_zero]; rfl) rfl (by kernel_rfl) (by kernel_rfl) (by kernel_rfl) (by kernel_rfl) (fun _ _ _ h => h) rfl ?_ (by assumption) ?_
              rotate_left
              focus (intro w hSw; go_simp; (try with_reducible rfl); done)
              try simp only [List.setIfInBounds_toArray, List.set_cons_zero, List.set_cons_succ]
              refine takeL_at (i := 4) (d := 45) (v := ?_) (by simp only [List.getElem?_toArray, List.getElem?_cons_succ, List.getElem?_cons_zero]; rfl) rfl (by kernel_rfl) (by kernel_rfl) (by kernel_rfl) (by kernel_rfl) (fun _ _ _ h => h) rfl ?_ (by assumption) ?_
              rotate_left
              focus (intro w hSw; go_simp; (try with_reducible rfl); done)
              try simp only [List.setIfInBounds_toArray, List.set_cons_zero, List.set_cons_succ]
              refine takeL_at (i := 5) (d := 46) (v := ?_) (by simp only [List.getElem?_toArray, List.getElem?_cons_succ, List.getElem?_cons_zero]; rfl) rfl (by kernel_rfl) (by kernel_rfl) (by kernel_rfl) (by kernel_rfl) (fun _ _ _ h => h) rfl ?_ (by assumption) ?_
              rotate_left
              focus (intro w hSw; go_simp; (try with_reducible rfl); done)
              try simp only [List.setIfInBounds_toArray, List.set_cons_zero, List.set_cons_succ]
              refine takeL_at (i := 6) (d := 47) (v := ?_) (by simp only [List.getElem?_toArray, List.getElem?_cons_succ, List.getElem?_cons_zero]; rfl) rfl (by kernel_rfl) (by kernel_rfl) (by kernel_rfl) (by kernel_rfl) (fun _ _ _ h => h) rfl ?_ (by assumption) ?_
              rotate_left
              focus (intro w hSw; go_simp; (try with_reducible rfl); done)
              try simp only [List.setIfInBounds_toArray, List.set_cons_zero, List.set_cons_succ]
              refine takeL_at (i := 7) (d := 48) (v := ?_) (by simp only [List.getElem?_toArray, List.getElem?_cons_succ, List.getElem?_cons_zero]; rfl) rfl (by kernel_rfl) (by kernel_rfl) (by kernel_rfl) (by kernel_rfl) (fun _ _ _ h => h) rfl ?_ (by assumption) ?_
              rotate_left
              focus (intro w hSw; go_simp; (try with_reducible rfl); done)
              try simp only [List.setIfInBounds_toArray, List.set_cons_zero, List.set_cons_succ]
              refine takeL_at (i := 8) (d := 49) (v := ?_) (by simp only [List.getElem?_toArray, List.getElem?_cons_succ, List.getElem?_cons_zero]; rfl) rfl (by kernel_rfl) (by kernel_rfl) (by kernel_rfl) (by kernel_rfl) (fun _ _ _ h => h) rfl ?_ (by assumption) ?_
              rotate_left
              focus (intro w hSw; go_simp; (try with_reducible rfl); done)
              try simp only [List.setIfInBounds_toArray, List.set_cons_zero, List.set_cons_succ]
              refine takeL_at (i := 9) (d := 50) (v := ?_) (by simp only [List.getElem?_toArray, List.getElem?_cons_succ, List.getElem?_cons_zero]; rfl) rfl (by kernel_rfl) (by kernel_rfl) (by kernel_rfl) (by kernel_rfl) (fun _ _ _ h => h) rfl ?_ (by assumption) ?_
              rotate_left
              focus (intro w hSw; go_simp; (try with_reducible rfl); done)
              try simp only [List.setIfInBounds_toArray, List.set_cons_zero, List.set_cons_succ]
              refine takeL_at (i := 10) (d := 51) (v := ?_) (by simp only [List.getElem?_toArray, List.getElem?_cons_succ, List.getElem?_cons_zero]; rfl) rfl (by kernel_rfl) (by kernel_rfl) (by kernel_rfl) (by kernel_rfl) (fun _ _ _ h => h) rfl ?_ (by assumption) ?_
              rotate_left
              focus (intro w hSw; go_simp; (try with_reducible rfl); done)
              try simp only [List.setIfInBounds_toArray, List.set_cons_zero, List.set_cons_succ]
              refine takeL_at (i := 11) (d := 52) (v := ?_) (by simp only [List.getElem?_toArray, List.getElem?_cons_succ, List.getElem?_cons_zero]; rfl) rfl (by kernel_rfl) (by kernel_rfl) (by kernel_rfl) (by kernel_rfl) (fun _ _ _ h => h) rfl ?_ (by assumption) ?_
              rotate_left
              focus (intro w hSw; go_simp; (try with_reducible rfl); done)
              try simp only [List.setIfInBounds_toArray, List.set_cons_zero, List.set_cons_succ]
              refine takeL_at (i := 12) (d := 53) (v := ?_) (by simp only [List.getElem?_toArray, List.getElem?_cons_succ, List.getElem?_cons_zero]; rfl) rfl (by kernel_rfl) (by kernel_rfl) (by kernel_rfl) (by kernel_rfl) (fun _ _ _ h => h) rfl ?_ (by assumption) ?_
              rotate_left
              focus (intro w hSw; go_simp; (try with_reducible rfl); done)
              try simp only [List.setIfInBounds_toArray, List.set_cons_zero, List.set_cons_succ]
              refine takeL_at (i := 13) (d := 54) (v := ?_) (by simp only [List.getElem?_toArray, List.getElem?_cons_succ, List.getElem?_cons_zero]; rfl) rfl (by kernel_rfl) (by kernel_rfl) (by kernel_rfl) (by kernel_rfl) (fun _ _ _ h => h) rfl ?_ (by assumption) ?_
              rotate_left
              focus (intro w hSw; go_simp; (try with_reducible rfl); done)
              try simp only [List.setIfInBounds_toArray, List.set_cons_zero, List.set_cons_succ]
              refine callL_at (i := 14) (d := 55) (by simp only [List.getElem?_toArray, List.getElem?_cons_succ, List.getElem?_cons_zero]; rfl) rfl (by kernel_rfl) rfl (fun K hK => ?_)
              go_simp
              refine (give_any _ Fv (f : Int) (t : Int) e3 bf.1 bf.2 hx1 hx2).mono ?_
              rintro e y1 ⟨rfl, hy1⟩
              rw [HD.out]
              have hS1 : Kept u y1 := hS0.below (by first | (simp; done) | (simp; omega)) hy1
              have HY1 := hide hy1
              clear hy1
              go_wp2_with fail
              refine hK.out _ _ hS1 (fun hSn => ?_)
              clear hK K
              try simp only [List.setIfInBounds_toArray, List.set_cons_zero, List.set_cons_succ]
              refine takeL_at (i := 15) (d := 56) (v := ?_) (by simp only [List.getElem?_toArray, List.getElem?_cons_succ, List.getElem?_cons_zero]; rfl) rfl (by kernel_rfl) (by kernel_rfl) (by kernel_rfl) (by kernel_rfl) (fun _ _ _ h => h) rfl ?_ (by assumption) ?_
              rotate_left
              focus (intro w hSw; go_simp; (try with_reducible rfl); done)
              try simp only [List.setIfInBounds_toArray, List.set_cons_zero, List.set_cons_succ]
              refine callL_at (i := 16) (d := 57) (by simp only [List.getElem?_toArray, List.getElem?_cons_succ, List.getElem?_cons_zero]; rfl) rfl (by kernel_rfl) rfl (fun K hK => ?_)
              go_simp
              refine (take_any _ X true d).mono ?_
              rintro e y2 ⟨rfl, hy2⟩
              rw [HT.out]
              have hS2 : Kept u y2 := hS1.below (by have := HY1.out.size; simp at this; omega) hy2
              have HY2 := hide (HY1.out.trans (hy2.mono HY1.out.size))
              have yt := (hS2 ⟨g, t, none⟩ hlgu).trans ut
              have yfz := (own_below_g HOU.out ((Below.refl u.heap.size u).drew.trans HY2.out) hlgu).frozenAt t
              clear hy2
              go_wp2_with fail
              refine hK.out _ _ hS2 (fun hSn => ?_)
              clear hK K
              try simp only [List.setIfInBounds_toArray, List.set_cons_zero, List.set_cons_succ]
              refine takeL_at (i := 17) (d := 40) (v := ?_) (by simp only [List.getElem?_toArray, List.getElem?_cons_succ, List.getElem?_cons_zero]; rfl) rfl (by kernel_rfl) (by kernel_rfl) (by kernel_rfl) (by kernel_rfl) (fun _ _ _ h => h) rfl ?_ (by assumption) ?_
              rotate_left
              focus (intro w hSw; go_simp; (try with_reducible rfl); done)
              try simp only [List.setIfInBounds_toArray, List.set_cons_zero, List.set_cons_succ]
              refine takeL_at (i := 18) (d := 58) (v := ?_) (by simp only [List.getElem?_toArray, List.getElem?_cons_succ, List.getElem?_cons_zero]; rfl) rfl (by kernel_rfl) (by kernel_rfl) (by kernel_rfl) (by kernel_rfl) (fun _ _ _ h => h) rfl ?_ (by assumption) ?_
              rotate_left
              focus (intro w hSw; go_simp; (try with_reducible rfl); done)
              try simp only [List.setIfInBounds_toArray, List.set_cons_zero, List.set_cons_succ]
              refine takeW_at (i := 19) (d := 59) (v := ?_) (by simp only [List.getElem?_toArray, List.getElem?_cons_succ, List.getElem?_cons_zero]; rfl) rfl (by kernel_rfl) (by kernel_rfl) (by kernel_rfl) (fun _ _ _ h => h) rfl ?_ ?_
              rotate_left
              focus (intro w; go_simp; (try with_reducible rfl); done)
              try simp only [List.setIfInBounds_toArray, List.set_cons_zero, List.set_cons_succ]
              refine takeL_at (i := 20) (d := 60) (v := ?_) (by simp only [List.getElem?_toArray, List.getElem?_cons_succ, List.getElem?_cons_zero]; rfl) rfl (by kernel_rfl) (by kernel_rfl) (by kernel_rfl) (by kernel_rfl) (fun _ _ _ h => h) rfl ?_ (by assumption) ?_
              rotate_left
              focus (intro w hSw; go_simp; (try with_reducible rfl); done)
              try simp only [List.setIfInBounds_toArray, List.set_cons_zero, List.set_cons_succ]
              refine exL_at (i := 21) (by simp only [List.getElem?_toArray, List.getElem?_cons_succ, List.getElem?_cons_zero]; rfl) (by kernel_rfl) rfl (by kernel_rfl) (fun K hK => ?_)
              go_wp2_with fail
              refine hK.out _ _ ?_
              clear hK K
              try simp only [List.setIfInBounds_toArray, List.set_cons_zero, List.set_cons_succ]
              refine wpAnyL_done (by kernel_rfl) ?_ _
              clear hS0 hSn
              have hYb : Hid (Below u.heap.size u y2) := hide ((Below.refl u.heap.size u).drew.trans HY2.out)
              have hoY := own_below_g HOU.out hYb.out hlgu
              have hset := (hoY.stored t (.int .i64 T.1)).1
              rw [← List.map_set, ← hMk.out] at hset
              have HSet := hide hset
              have HKs : Hid (Kept v (y2.setCell ⟨g, t, none⟩ (.int .i64 T.1))) := hide (fun p hp => (World.cell?_setCell_far y2 ⟨g, t, none⟩ p _ (by first | (show p.block ≠ g; omega) | (show g ≠ p.block; omega))).trans ((hku.out.below (by omega) hYb.out) p hp))
              have HBs := hide ((hwu.out.trans (hYb.out.mono hwu.out.size)).setCell (p := ⟨g, t, none⟩) (by show _ ≤ g; omega) (.int .i64 T.1))
              have HPS : Hid (round es l = (es.drop (i + 1)).foldl step (step l' ((f : Int), (t : Int), e3))) := hide (by rw [hps.out, HStep.out])
              have hlen2 : (step l' ((f : Int), (t : Int), e3)).length = k := by rw [step_len]; exact hll'
              clear hS1 hS2 HY1 HY2 hYb ue0 ue1 ue2 uf ut hku hwu HOU HU hset hoY hal hps HStep hMk hown
              go_wp2
              go_roundw
              case rel => exact ⟨i + 1, step l' ((f : Int), (t : Int), e3), by omega, by go_num, hlen2, HAL, HPS, HSet, HKs, HBs⟩
              case measure => simp [intOf]; omega
            · obtain rfl : i = L := by omega
              have hpf : round es l = l' := by rw [hps.out, ← HL.out, List.drop_length]; rfl
              have HRN : Hid (roundsN es k (start0 k s) = roundsN es (k - (n + 1)) l') := hide (by rw [hrnd.out, HNext.out, hpf])
              clear hpf
              go_wp2
              go_roundw
              case rel => exact ⟨n + 1, l', by omega, by go_num, hll', hal, HRN, hown, hkr, hbr⟩
              case measure => simp [intOf]; omega
        · obtain rfl : k = n := by omega
          have HRR : Hid (relaxedF (k : Int) es s = l) := hide (by rw [HRF.out, hrnd.out, Nat.sub_self]; rfl)
          clear hrnd
          have hfin : RelPost w k l (.returned (.slice (some ⟨g, 0, none⟩) k c')) wr := ⟨g, c', rfl, own_base hown.out (by omega), hbw.out⟩
          have HFin := hide hfin
          clear hfin
          go_wp2
          go_ret
          rw [HRR.out]
          exact HFin.out
end Go.Proofs.Ytmlpcfeadacoeaa
