/- The walk of the statement FieldsWalk. (printed by gen/fwa.py) -/
import Derived.Test.YtbmaiiflbdggnaaFnx
import Derived.Test.YtbmaiiflbdggnaaReg
import Derived.Deep.DeepCutAuto
import Derived.Deep.CutBlock
namespace Go.Proofs.Ytbmaiiflbdggnaa
open Go.ChangeShapes Go.WideShapes Go.ChangeAt Go.RowKit
set_option linter.unusedVariables false
set_option linter.unusedSimpArgs false

theorem setCell_row {w : World} {g i : Nat} {cs : Array Value} {t : TypeId} {fr : Nat × Nat} (hg : w.heap[g]? = some (.cells cs t fr)) (v : Value) : (w.setCell ⟨g, i, none⟩ v).heap[g]? = some (.cells (cs.setIfInBounds i v) t fr) := by
  rw [setCell_eq_setRow w g i cs t fr v hg]
  exact setRow_heap w g cs _ t _ hg
theorem frozen_before {w : World} {g i : Nat} {cs : Array Value} {t : TypeId} {fr : Nat × Nat} (hg : w.heap[g]? = some (.cells cs t fr)) (h : i < fr.1) : w.frozen? ⟨g, i, none⟩ = false := by
  simp only [World.frozen?, hg]
  rw [decide_eq_false (by omega), Bool.false_and]
/-- what '[]byte(s)' has laid, as one block -/
def Bed (w : World) (g N : Nat) : Prop := ∃ C fr, w.heap[g]? = some (.cells C 5 fr) ∧ N ≤ C.size ∧ N ≤ fr.1
theorem bed_new (w : World) (bs : List UInt8) : Bed (bytesWorld w 5 bs) w.heap.size bs.length := by
  have h1 : (bytesRow ⟨bs.toArray⟩ (grownCap w bs.length 0 5)).size ≥ bs.length := by
    unfold Go.bytesRow
    have : (⟨bs.toArray⟩ : ByteArray).size = bs.length := by show bs.toArray.size = _; simp
    simp [this]
  exact ⟨_, _, heap_alloc_last w _, h1, h1⟩
theorem Bed.other {w w' : World} {g N : Nat} (h : Bed w g N) (hb : Below w.heap.size w w') : Bed w' g N := by
  obtain ⟨C, fr, h1, h2⟩ := h
  exact ⟨C, fr, (hb.block g (lt_of_block h1)).trans h1, h2⟩
theorem Bed.at_ {w : World} {g N j : Nat} (h : Bed w g N) (hj : j < N) : (∃ v, w.cell? ⟨g, j, none⟩ = some v) ∧ w.frozen? ⟨g, j, none⟩ = false ∧ ∀ v, Bed (w.setCell ⟨g, j, none⟩ v) g N := by
  obtain ⟨C, fr, h1, h2, h3⟩ := h
  refine ⟨⟨C[j]'(by omega), ?_⟩, frozen_before h1 (by omega), fun v => ⟨_, fr, setCell_row h1 v, by rw [Array.size_setIfInBounds]; exact h2, h3⟩⟩
  rw [cell_of_row _ _ _ _ _ _ h1]
  exact Array.getElem?_eq_getElem _
def Bed0 (w : World) (g N : Nat) : Prop := ∃ C, w.heap[g]? = some (.cells C 5 (0, 0)) ∧ N ≤ C.size
theorem Bed0.at_ {w : World} {g N j : Nat} (h : Bed0 w g N) (hj : j < N) : (∃ v, w.cell? ⟨g, j, none⟩ = some v) ∧ w.frozen? ⟨g, j, none⟩ = false ∧ ∀ v, Bed0 (w.setCell ⟨g, j, none⟩ v) g N := by
  obtain ⟨C, h1, h2⟩ := h
  refine ⟨⟨C[j]'(by omega), ?_⟩, frozen_of_row _ _ _ _ _ h1, fun v => ⟨_, setCell_row h1 v, by rw [Array.size_setIfInBounds]; exact h2⟩⟩
  rw [cell_of_row _ _ _ _ _ _ h1]
  exact Array.getElem?_eq_getElem _
theorem besides_mix {g : Nat} {a b c d : World} (h1 : Below a.heap.size a b) (h2 : Besides g b c) (h3 : Below a.heap.size c d) : Besides g a d :=
  ⟨h3.os.trans (h2.os.trans h1.os), h3.tape.trans (h2.tape.trans h1.tape), h3.output.trans (h2.output.trans h1.output), Nat.le_trans h1.size (Nat.le_trans h2.size h3.size), fun k hk hg => (h3.block k hk).trans ((h2.block k (Nat.lt_of_lt_of_le hk h1.size) hg).trans (h1.block k hk))⟩
/-- how far the two Readers have come together -/
def Both (w : World) (r m B : Nat) (bs : List UInt8) : Prop := ∃ s, Rr 65 w r bs s ∧ Rm w m B bs s
def Ahead (w : World) (r m B : Nat) (bs : List UInt8) (x : It) (v : Value) : Prop :=
  (¬ x.k % 5 = 4 ∧ ∃ s, v = .int .u64 (num (nx bs s (2 ^ (x.k % 5) : Nat)).1 : Nat) ∧ Rr 65 w r bs (nx bs s (2 ^ (x.k % 5) : Nat)).2 ∧ Rm w m B bs s) ∨ (x.k % 5 = 4 ∧ Both w r m B bs)
theorem open_b2 {W : World} {base : Nat} {r : Reach} {v : Value} {H : Type} {enc : TypeId × Value → H} {d : DataW H} {p : List MemPlace}
    (hv : Value.okWide Try.prog W r base 31 v) (h : DataW.Trod enc Try.prog W 0 (fun _ => true) true 31 v d p) (hz : ∀ n ∈ d.weights Try.prog 31, n ≤ reachBytes) :
    ∃ (A : Option Addr) (bs : List UInt8) (c : Nat), v = .slice A bs.length c ∧ Rd W W.heap.size A (u8s bs) ∧ bs.length ≤ c ∧ bs.length ≤ 140737488351232 := by
  obtain ⟨a0, len, cap, rfl⟩ := okWide_slice Try.underlying31 hv
  obtain ⟨fuel, hf⟩ := h
  obtain ⟨A, bs, c, h1, h2, h3, h4⟩ := bytes_of Try.underlying31 Try.underlying5 bytes_cells bytes_bytes hf hz
  simp only [Value.cells, List.cons.injEq, and_true] at h1
  exact ⟨A, bs, c, by simpa using h1, h2, h3, by omega⟩

set_option maxRecDepth 100000 in
set_option maxHeartbeats 16000000 in
theorem fieldsWalk_walk (w : World) (A : Option Addr) (bs : List UInt8) (c : Nat) (hR : Rd w w.heap.size A (u8s bs)) (hbc : bs.length ≤ c) (hb47 : bs.length ≤ 140737488351232) (A2 : Option Addr) (xs : List It) (c2 : Nat) (hI : Its w w.heap.size A2 xs) (hc : xs.length ≤ c2) (hc2 : c2 ≤ 9223372036854775807) :
    Calls Try.prog 4 #[.slice A bs.length c, .slice A2 xs.length c2] w fun e w' => e = .returned (.bool true) ∧ Below w.heap.size w w' := by
  obtain ⟨L, hL⟩ : ∃ L, xs.length = L := ⟨_, rfl⟩
  rw [hL] at hc ⊢
  have HL := hide hL
  have HI := hide hI
  clear hL hI
  have hcs : (3000 < bs.length ∨ 60 < L) ∨ (bs.length ≤ 3000 ∧ L ≤ 60) := by omega
  rcases hcs with hbig | ⟨hN3, hL60⟩
  · by_cases h1 : 3000 < bs.length
    · have d1 : decide ((3000 : Int) < (bs.length : Int)) = true := decide_eq_true (by omega)
      go_enter Try.func4, Try.ntmps4
      go_wp2_with fail
      refine (works_any _).mono ?_
      rintro e w3 ⟨rfl, hb3⟩
      go_wp2
      go_ret
      exact ⟨rfl, hb3⟩
    · have d1 : decide ((3000 : Int) < (bs.length : Int)) = false := decide_eq_false (by omega)
      have d2 : decide ((60 : Int) < (L : Int)) = true := decide_eq_true (by omega)
      go_enter Try.func4, Try.ntmps4
      go_wp2_with fail
      refine (works_any _).mono ?_
      rintro e w3 ⟨rfl, hb3⟩
      go_wp2
      go_ret
      exact ⟨rfl, hb3⟩
  · have d1 : decide ((3000 : Int) < (bs.length : Int)) = false := decide_eq_false (by omega)
    have d2 : decide ((60 : Int) < (L : Int)) = false := decide_eq_false (by omega)
    have k1 := run_string_of (P := Try.prog) w 31 9 5 A c _ bs Try.underlying31 Try.underlying5 Try.underlying9 hR
    have kb := fun (W : World) (l : List UInt8) => run_bytes_of (P := Try.prog) W 9 31 5 l Try.underlying9 Try.underlying31 Try.underlying5
    have hz0 := bytesWorld_size w 5 bs
    have hb0 := bytesWorld_below w 5 bs
    have hr0 := (bytesWorld_rd w 5 bs).more (Nat.le_of_eq hz0.symm)
    have hbed := bed_new w bs
    have HZ := hide hz0
    have HR := hide hR
    have hsz : w.heap.size < (bytesWorld w 5 bs).heap.size := by omega
    clear hz0 hR
    go_enter Try.func4, Try.ntmps4
    go_wp2_with fail
    clear kb k1 d1 d2
    generalize bytesWorld w 5 bs = w0 at *
    generalize grownCap w bs.length 0 5 = c0 at *
    refine (open_lo _ _ bs _ _ rfl hr0 (by omega)).mono ?_
    rintro e w1 ⟨⟨r, rfl, hRl⟩, hb1⟩
    have hr1 := hRl.le
    have hr2 := hRl.rr.lt
    have hb01 := hb0.trans (hb1.mono (by omega))
    have hs1 := hb01.size
    obtain ⟨v, hv⟩ : ∃ v, w1.alloc (.cells #[.slice A bs.length c, .int .i64 0, .bool false] 40) = v := ⟨_, rfl⟩
    have hbv : Below w1.heap.size w1 v := by rw [← hv]; exact (Below.refl _ _).alloc (Nat.le_refl _) _
    have hvs : v.heap.size = w1.heap.size + 1 := by rw [← hv]; simp
    have hbwv := hb01.trans (hbv.mono hs1)
    have hRv := hide (hRl.below hbv)
    have hbedv := hide ((hbed.other hb1).other hbv)
    have hMv : Hid (Rm v w1.heap.size w.heap.size bs (0, false)) := hide ⟨A, c, by rw [← hv]; exact heap_alloc_last w1 _, HR.out.below' hbwv (Nat.le_refl _), ⟨hbc, hb47, Nat.zero_le _⟩, hs1⟩
    have HV := hide hv
    obtain ⟨N, hN⟩ : ∃ N, bs.length = N := ⟨_, rfl⟩
    have HN := hide hN
    rw [hN] at hN3 hbc hb47 hbedv ⊢
    obtain ⟨m, hm⟩ : ∃ m, w1.heap.size = m := ⟨_, rfl⟩
    have HM := hide hm
    have hlo : w.heap.size < w0.heap.size := hsz
    clear hv hr0 hb0 hbed hRl hb1 hb01 hbv hN
    go_wp2
    rw [← HN.out, HV.out, HN.out]
    rw [hm] at hMv hr2 hs1 hvs
    clear hm HV
    go_loopw [8] (fun vi wr => ∃ j : Nat, j ≤ N ∧ vi = .int .i64 j ∧ Besides w.heap.size v wr ∧ Hid (Bed wr w.heap.size N)) (fun vi _ => N - (intOf vi).toNat)
    case atStart => exact ⟨0, by omega, rfl, Besides.refl _ _, hbedv⟩
    case round =>
      obtain ⟨j, hj, rfl, hbs, hbd⟩ := hrel
      clear hbedv
      by_cases hlt : j < N
      · obtain ⟨⟨u, hc1⟩, hf1, hset⟩ := hbd.out.at_ hlt
        have hI0 : (0 : Int) ≤ (j : Int) := by omega
        have hI1 : (j : Int) < (N : Int) := by omega
        have HS := hide (hset (.int .u8 7))
        have HBs := hide (hbs.trans (Besides.setCell (o := j) (.int .u8 7)))
        clear hbd hset hbs
        go_wp2
        go_roundw
        case rel => exact ⟨j + 1, by omega, by go_num, HBs.out, HS⟩
        case measure => simp [intOf]; omega
      · obtain rfl : N = j := by omega
        have hRr := hide ((hRv.out.other hbs (by omega)).rr)
        have hM1 := hide (hMv.out.other hbs (Nat.le_refl _) (by omega))
        have hbw : Below w.heap.size w wr := hbwv.trans (hbs.below (Nat.le_refl _) (by omega))
        clear hRv hMv hbs hbd hbwv
        go_wp2
        obtain ⟨wo, hwo⟩ : ∃ wo, wr = wo := ⟨_, rfl⟩
        subst hwo
        go_loopw [9, 10, 11, 12, 13] (fun vi vg vn vx vk wq => ∃ i : Nat, i ≤ L ∧ vi = .int .i64 i ∧ Below w.heap.size w wq ∧ Hid (Both wq r m w.heap.size bs)) (fun vi _ _ _ _ _ => L - (intOf vi).toNat)
        case atStart => exact ⟨0, by omega, rfl, hbw, hide ⟨_, hRr.out, hM1.out⟩⟩
        case round =>
          obtain ⟨i, hi, rfl, hbq, hbo⟩ := hrel
          clear hbw hRr hM1
          have hsq := hbq.size
          by_cases hlt2 : i < L
          · have hil : i < xs.length := by rw [HL.out]; exact hlt2
            obtain ⟨x, hx⟩ : ∃ x, xs[i]? = some x := ⟨_, List.getElem?_eq_getElem hil⟩
            obtain ⟨b, off, rfl, hbl, c0, c1, _, _, hok⟩ := Its.get (HI.out.below hbq (Nat.le_refl _)) hx
            have hI0 : (0 : Int) ≤ (i : Int) := by omega
            have hI1 : (i : Int) < (L : Int) := by omega
            have hx2 := hok.2.1
            have HXX := hide hx
            clear hx hok hil
            obtain ⟨s, hRs, hMs⟩ := hbo.out
            have HRs := hide hRs
            have HMs := hide hMs
            have hrq := hRs.lt
            have hmq := hMs.lt
            clear hRs hMs hbo
            go_upto_block 4 with fail
            go_cut [10, 51] (fun s10 s51 wc => s51 = .int .u8 ((x.k : Int) % 5) ∧ Below w.heap.size w wc ∧ Hid (Ahead wc r m w.heap.size bs x s10))
            case first =>
              have hcases : x.k % 5 = 4 ∨ x.k % 5 = 0 ∨ x.k % 5 = 1 ∨ x.k % 5 = 2 ∨ x.k % 5 = 3 := by omega
              rcases hcases with hk | hk | hk | hk | hk
              · have hk' : (x.k : Int) % 5 = 4 := by omega
                have hn : ∃ q : Int, IntKind.i64.wrap ((x.n : Int) % 44 - 3) = q ∧ q = (x.n : Int) % 44 - 3 := ⟨_, rfl, IntWalk.i64_in _ (by omega)⟩
                obtain ⟨q, hq1, hq2⟩ := hn
                have hq3 : -3 ≤ q ∧ q ≤ 40 := by omega
                clear hq2
                go_wp2_with fail
                refine (get_raw2 _ r bs s HRs.out q (by omega) (by omega)).mono ?_
                rintro e wb ⟨wa, hRa, hba, hbb, A', c', rfl, hown⟩
                have hMa := HMs.out.other hba (by omega) (by omega)
                have hma := hMa.lt
                have hMb := hide (hMa.below hbb hma)
                have hbA := hbq.trans (hba.below (by omega) hsq)
                have hsA := hbA.size
                have hbB := hbA.trans (hbb.mono hsA)
                obtain ⟨zs, hzs⟩ : ∃ zs, (nx bs s q).1 = zs := ⟨_, rfl⟩
                obtain ⟨s2, hs2⟩ : ∃ s2, (nx bs s q).2 = s2 := ⟨_, rfl⟩
                have HX1 := hide hzs
                have HX2 := hide hs2
                rw [hs2] at hRa
                rw [hzs] at hown ⊢
                have hzl : zs.length ≤ 40 := by
                  rw [← hzs, nx]
                  split
                  · simp
                  · rw [List.length_take]; omega
                obtain ⟨Z, hZ⟩ : ∃ Z, zs.length = Z := ⟨_, rfl⟩
                rw [hZ] at hown hzl ⊢
                have hRw := Rd.of_own hown
                have hbd : Below wb.heap.size wb wb.drew := (Below.refl _ _).drew
                have HRa := hide hRa
                have HOw := hide hown
                have HZ := hide hZ
                have HRw := hide (hRw.below hbd)
                have k1 := run_string_of (P := Try.prog) wb.drew 31 9 5 A' c' _ zs Try.underlying31 Try.underlying5 Try.underlying9 (hRw.below hbd)
                rw [hZ] at k1
                have HMd := hide (hMb.out.below hbd hMb.out.lt)
                have hBab := hide (hbb.trans (hbd.mono hbb.size))
                have hsz1 := hBab.out.size
                have hbBd := hbB.trans (hbd.mono hbB.size)
                have HMa := hide hMa
                clear hRa hba hbb hMa hbA hbq c0 c1 hzs hs2 hZ hbB hown hMb hbd
                go_wp2
                refine wp_region_held_drew (S := (fun w' => (convert 31 9 (.slice A' Z c')).run Try.prog w' = .ok (.string ⟨zs.toArray⟩) w')) (by kernel_rfl) k1 (fun hS0 => ?_)
                clear k1 hRw
                refine take_at (i := 0) (d := 63) (v := ?_) (by simp only [List.getElem?_toArray, List.getElem?_cons_succ, List.getElem?_cons_zero]; rfl) rfl (by kernel_rfl) (by kernel_rfl) (by kernel_rfl) (fun _ _ _ h => h) rfl ?_ (by assumption) ?_
                rotate_left
                · intro w hSw
                  go_simp
                  try with_reducible rfl
                try simp only [List.setIfInBounds_toArray, List.set_cons_zero, List.set_cons_succ]
                refine take_at (i := 1) (d := 64) (v := ?_) (by simp only [List.getElem?_toArray, List.getElem?_cons_succ, List.getElem?_cons_zero]; rfl) rfl (by kernel_rfl) (by kernel_rfl) (by kernel_rfl) (fun _ _ _ h => h) rfl ?_ (by assumption) ?_
                rotate_left
                · intro w hSw
                  go_simp
                  try with_reducible rfl
                try simp only [List.setIfInBounds_toArray, List.set_cons_zero, List.set_cons_succ]
                refine take_at (i := 2) (d := 65) (v := ?_) (by simp only [List.getElem?_toArray, List.getElem?_cons_succ, List.getElem?_cons_zero]; rfl) rfl (by kernel_rfl) (by kernel_rfl) (by kernel_rfl) (fun _ _ _ h => h) rfl ?_ (by assumption) ?_
                rotate_left
                · intro w hSw
                  go_simp
                  try with_reducible rfl
                try simp only [List.setIfInBounds_toArray, List.set_cons_zero, List.set_cons_succ]
                refine take_at (i := 3) (d := 66) (v := ?_) (by simp only [List.getElem?_toArray, List.getElem?_cons_succ, List.getElem?_cons_zero]; rfl) rfl (by kernel_rfl) (by kernel_rfl) (by kernel_rfl) (fun _ _ _ h => h) rfl ?_ (by assumption) ?_
                rotate_left
                · intro w hSw
                  go_simp
                  try with_reducible rfl
                try simp only [List.setIfInBounds_toArray, List.set_cons_zero, List.set_cons_succ]
                refine call_at (i := 4) (d := 67) (by simp only [List.getElem?_toArray, List.getElem?_cons_succ, List.getElem?_cons_zero]; rfl) rfl (by kernel_rfl) rfl (fun K hK => ?_)
                go_simp
                refine (mnext_any _ m w.heap.size bs s HMd.out q (by omega) (by omega)).mono ?_
                rintro e wd ⟨⟨A9, c9, rfl, hR9, hc9⟩, hM9, hb9⟩
                rw [HX2.out] at hM9
                rw [HX1.out] at hR9 hc9 ⊢
                have hRw9 : Rd wd wd.heap.size A' (u8s zs) := by
                  intro hn
                  obtain ⟨g, hg1, hg2, hg3, hg4⟩ := own_addr HOw.out (by rw [← HZ.out]; exact List.length_pos_iff.2 (fun h => hn (by rw [h]; rfl)))
                  obtain ⟨b9, o9, e9, hlt9, hc99⟩ := HRw.out hn
                  refine ⟨b9, o9, e9, Nat.lt_of_lt_of_le hlt9 hb9.size, fun j u hu => (hb9.cell (p := ⟨b9, o9 + j, none⟩) hlt9 ?_).trans (hc99 j u hu)⟩
                  rw [hg1] at e9; injection e9 with e9; injection e9 with e91 e92
                  show b9 ≠ m
                  omega
                have k1 := run_string_of (P := Try.prog) wd 31 9 5 A' c' _ zs Try.underlying31 Try.underlying5 Try.underlying9 hRw9
                have k2 := run_string_of (P := Try.prog) wd 31 9 5 A9 c9 _ zs Try.underlying31 Try.underlying5 Try.underlying9 (hR9.more (B' := wd.heap.size) (by have := hb9.size; have := hbBd.size; omega))
                rw [HZ.out] at k1 k2 hc9 ⊢
                have HM9 := hide hM9
                have HB9 := hide hb9
                have hbD := hbBd.trans (hb9.below (by omega) hbBd.size)
                clear hR9 hM9 hb9 hRw9 HRw
                go_wp2_with fail
                refine hK.out _ _ k1 (fun hSn => ?_)
                clear hK K
                try simp only [List.setIfInBounds_toArray, List.set_cons_zero, List.set_cons_succ]
                have q2 := And.intro k1 k2
                clear k1 k2
                refine wpAnyH_more (S' := (fun w' => (convert 31 9 (.slice A' Z c')).run Try.prog w' = .ok (.string ⟨zs.toArray⟩) w' ∧ (convert 31 9 (.slice A9 Z c9)).run Try.prog w' = .ok (.string ⟨zs.toArray⟩) w')) (fun _ h => h.1) _ _ _ _ ?_
                refine take_at (i := 5) (d := 68) (v := ?_) (by simp only [List.getElem?_toArray, List.getElem?_cons_succ, List.getElem?_cons_zero]; rfl) rfl (by kernel_rfl) (by kernel_rfl) (by kernel_rfl) (fun _ _ _ h => h) rfl ?_ (by assumption) ?_
                rotate_left
                · intro w hSw
                  go_simp
                  try with_reducible rfl
                try simp only [List.setIfInBounds_toArray, List.set_cons_zero, List.set_cons_succ]
                refine take_at (i := 6) (d := 69) (v := ?_) (by simp only [List.getElem?_toArray, List.getElem?_cons_succ, List.getElem?_cons_zero]; rfl) rfl (by kernel_rfl) (by kernel_rfl) (by kernel_rfl) (fun _ _ _ h => h) rfl ?_ (by assumption) ?_
                rotate_left
                · intro w hSw
                  go_simp
                  try with_reducible rfl
                try simp only [List.setIfInBounds_toArray, List.set_cons_zero, List.set_cons_succ]
                refine wpAnyH_done (by kernel_rfl) ?_ _
                clear q2 hSn hS0
                have hX : Hid (0 < Z → ∃ g, A' = some ⟨g, 0, none⟩ ∧ wa.heap.size ≤ g ∧ Bed0 wd g Z) := hide (fun h0 => by
                  obtain ⟨g, hg1, hg2, hg3, hg4⟩ := own_addr HOw.out h0
                  rcases HOw.out.2 with ⟨_, hz⟩ | ⟨g', cap, cur, hv, _, hgc, hle, _, hcs, _⟩
                  · omega
                  · injection hv with hv
                    rw [hg1] at hv; injection hv with hv; injection hv with hv1 hv2
                    subst hv1
                    exact ⟨g, hg1, hg2, cur, (HB9.out.block g (by simpa using hg3) (by omega)).trans hgc, by omega⟩)
                go_wp2
                obtain ⟨wo, hwo⟩ : ∃ wo, wr = wo := ⟨_, rfl⟩
                subst hwo
                go_loopw [13] (fun vk wq => ∃ k : Nat, k ≤ Z ∧ vk = .int .i64 k ∧ Below wa.heap.size wd wq ∧ Hid (0 < Z → ∃ g, A' = some ⟨g, 0, none⟩ ∧ wa.heap.size ≤ g ∧ Bed0 wq g Z)) (fun vk _ => Z - (intOf vk).toNat)
                case atStart => exact ⟨0, by omega, rfl, Below.refl _ _, hX⟩
                case round =>
                  obtain ⟨k, hk2, rfl, hbk, hX2⟩ := hrel
                  clear hX
                  by_cases hkZ : k < Z
                  · obtain ⟨g, hgA, hg2, hbed⟩ := hX2.out (by omega)
                    obtain ⟨⟨u, hc1⟩, hf1, hset⟩ := hbed.at_ hkZ
                    have hI2 : (0 : Int) ≤ (k : Int) := by omega
                    have hI3 : (k : Int) < (Z : Int) := by omega
                    have HS := hide (hset (.int .u8 0))
                    have HBk := hide (hbk.setCell (p := ⟨g, k, none⟩) hg2 (.int .u8 0))
                    clear hX2 hbed hset hbk
                    subst hgA
                    go_wp2
                    go_roundw
                    case rel => exact ⟨k + 1, by omega, by go_num, HBk.out, hide (fun _ => ⟨g, rfl, hg2, HS.out⟩)⟩
                    case measure => simp [intOf]; omega
                  · obtain rfl : Z = k := by omega
                    have hBes : Besides m wa wr := besides_mix hBab.out HB9.out hbk
                    have hRf := hide (HRa.out.rm HMa.out (by omega) hBes)
                    have hMf := hide (HM9.out.below hbk hma)
                    have hbF := hbD.trans (hbk.mono hsA)
                    clear hbk hX2 hBes
                    go_wp2
                    go_meet
                    case rel => exact ⟨by rw [hk'], hbF, hide (.inr ⟨hk, s2, hRf.out, hMf.out⟩)⟩
              · have hk' : (x.k : Int) % 5 = 0 := by omega
                go_wp2_with fail
                refine (get8 _ r bs s HRs.out).mono ?_
                rintro e wa ⟨rfl, hRa, hba⟩
                have hnl := num_lt (nx bs s 1).1
                have hgl := nx_len bs s 1
                have hpow : 256 ^ (nx bs s 1).1.length ≤ 256 ^ 1 := Nat.pow_le_pow_right (by decide) hgl
                have hMa := hide (HMs.out.other hba (by omega) (by omega))
                have HRa := hide hRa
                have hbA := hbq.trans (hba.below (by omega) hsq)
                obtain ⟨z, hz⟩ : ∃ z, num (nx bs s 1).1 = z := ⟨_, rfl⟩
                have hz2 : z < 256 := by omega
                have HZ2 := hide hz
                rw [hz]
                clear hRa hba hbq hz hnl hgl hpow c0 c1
                go_wp2
                go_meet
                case rel => exact ⟨by rw [hk'], hbA, hide (.inl ⟨by omega, s, by rw [hk]; show _ = Value.int .u64 ((num (nx bs s 1).1 : Nat) : Int); rw [HZ2.out], by rw [hk]; exact HRa.out, hMa.out⟩)⟩
              · have hk' : (x.k : Int) % 5 = 1 := by omega
                go_wp2_with fail
                refine (get16 _ r bs s HRs.out).mono ?_
                rintro e wa ⟨rfl, hRa, hba⟩
                have hnl := num_lt (nx bs s 2).1
                have hgl := nx_len bs s 2
                have hpow : 256 ^ (nx bs s 2).1.length ≤ 256 ^ 2 := Nat.pow_le_pow_right (by decide) hgl
                have hMa := hide (HMs.out.other hba (by omega) (by omega))
                have HRa := hide hRa
                have hbA := hbq.trans (hba.below (by omega) hsq)
                obtain ⟨z, hz⟩ : ∃ z, num (nx bs s 2).1 = z := ⟨_, rfl⟩
                have hz2 : z < 65536 := by omega
                have HZ2 := hide hz
                rw [hz]
                clear hRa hba hbq hz hnl hgl hpow c0 c1
                go_wp2
                go_meet
                case rel => exact ⟨by rw [hk'], hbA, hide (.inl ⟨by omega, s, by rw [hk]; show _ = Value.int .u64 ((num (nx bs s 2).1 : Nat) : Int); rw [HZ2.out], by rw [hk]; exact HRa.out, hMa.out⟩)⟩
              · have hk' : (x.k : Int) % 5 = 2 := by omega
                go_wp2_with fail
                refine (get32 _ r bs s HRs.out).mono ?_
                rintro e wa ⟨rfl, hRa, hba⟩
                have hnl := num_lt (nx bs s 4).1
                have hgl := nx_len bs s 4
                have hpow : 256 ^ (nx bs s 4).1.length ≤ 256 ^ 4 := Nat.pow_le_pow_right (by decide) hgl
                have hMa := hide (HMs.out.other hba (by omega) (by omega))
                have HRa := hide hRa
                have hbA := hbq.trans (hba.below (by omega) hsq)
                obtain ⟨z, hz⟩ : ∃ z, num (nx bs s 4).1 = z := ⟨_, rfl⟩
                have hz2 : z < 4294967296 := by omega
                have HZ2 := hide hz
                rw [hz]
                clear hRa hba hbq hz hnl hgl hpow c0 c1
                go_wp2
                go_meet
                case rel => exact ⟨by rw [hk'], hbA, hide (.inl ⟨by omega, s, by rw [hk]; show _ = Value.int .u64 ((num (nx bs s 4).1 : Nat) : Int); rw [HZ2.out], by rw [hk]; exact HRa.out, hMa.out⟩)⟩
              · have hk' : (x.k : Int) % 5 = 3 := by omega
                go_wp2_with fail
                refine (get64 _ r bs s HRs.out).mono ?_
                rintro e wa ⟨rfl, hRa, hba⟩
                have hnl := num_lt (nx bs s 8).1
                have hgl := nx_len bs s 8
                have hpow : 256 ^ (nx bs s 8).1.length ≤ 256 ^ 8 := Nat.pow_le_pow_right (by decide) hgl
                have hMa := hide (HMs.out.other hba (by omega) (by omega))
                have HRa := hide hRa
                have hbA := hbq.trans (hba.below (by omega) hsq)
                obtain ⟨z, hz⟩ : ∃ z, num (nx bs s 8).1 = z := ⟨_, rfl⟩
                have hz2 : z < 18446744073709551616 := by omega
                have HZ2 := hide hz
                rw [hz]
                clear hRa hba hbq hz hnl hgl hpow c0 c1
                go_wp2
                go_meet
                case rel => exact ⟨by rw [hk'], hbA, hide (.inl ⟨by omega, s, by rw [hk]; show _ = Value.int .u64 ((num (nx bs s 8).1 : Nat) : Int); rw [HZ2.out], by rw [hk]; exact HRa.out, hMa.out⟩)⟩
            case rest =>
              obtain ⟨rfl, hbC, hah⟩ := hcut
              clear hbq HRs HMs hrq hmq s c0 c1 hsq
              have hsC := hbC.size
              obtain ⟨b', off', e', _, c0, _, _, _, _⟩ := Its.get (HI.out.below hbC (Nat.le_refl _)) HXX.out
              injection e' with e'
              injection e' with e1 e2
              subst e1 e2
              have hcases : x.k % 5 = 4 ∨ x.k % 5 = 0 ∨ x.k % 5 = 1 ∨ x.k % 5 = 2 ∨ x.k % 5 = 3 := by omega
              go_upto_region 31 with fail
              go_cut [10, 51, 118] (fun s10 s51 s118 wx => s118 = .bool false ∧ s51 = .int .u8 ((x.k : Int) % 5) ∧ Below w.heap.size w wx ∧ Hid (Both wx r m w.heap.size bs))
              case first =>
                rcases hah.out with ⟨hk4, s, hv, hRs, hMs⟩ | ⟨hk, s, hRs, hMs⟩
                · have hrq := hRs.lt
                  have hmq := hMs.lt
                  have HMs := hide hMs
                  clear hah hMs
                  rcases hcases with hk | hk | hk | hk | hk
                  · omega
                  · have hk' : (x.k : Int) % 5 = 0 := by omega
                    rw [hk] at hRs hv
                    have HRs : Hid (Rr 65 wc r bs (nx bs s 1).2) := hide hRs
                    obtain ⟨zs, hzs⟩ : ∃ zs, (nx bs s 1).1 = zs := ⟨_, rfl⟩
                    have hv' : u10 = .int .u64 (num zs : Nat) := by rw [hv, ← hzs]; rfl
                    have hzl : (nx bs s 1).1.length ≤ 1 := nx_len bs s 1
                    rw [hzs] at hzl
                    have HX1 := hide hzs
                    clear hRs hv hzs
                    subst hv'
                    go_wp2_with fail
                    refine (mnext_any _ m w.heap.size bs s HMs.out 1 (by decide) (by decide)).mono ?_
                    rintro e wd ⟨⟨A9, c9, rfl, hR9, hc9⟩, hM9, hb9⟩
                    rw [HX1.out] at hR9 hc9 ⊢
                    have hbD := hbC.trans (hb9.below (by omega) hsC)
                    have HR9 := hide (hR9.more hbD.size)
                    have HRd := hide (HRs.out.rm HMs.out (by omega) hb9)
                    have HMd := hide hM9
                    obtain ⟨Z, hZ⟩ : ∃ Z, zs.length = Z := ⟨_, rfl⟩
                    have HZ := hide hZ
                    rw [hZ] at hzl hc9 ⊢
                    clear hR9 hM9 hb9 hZ c0 hbC HMs HRs
                    go_wp2_with fail
                    refine (number_any _ A9 zs Z c9 HZ.out HR9.out (by omega)).mono ?_
                    rintro e we ⟨rfl, rfl⟩
                    obtain ⟨z, hz⟩ : ∃ z, num zs = z := ⟨_, rfl⟩
                    rw [hz]
                    go_wp2
                    go_meet
                    case rel => exact ⟨rfl, by rw [hk'], hbD, hide ⟨_, HRd.out, HMd.out⟩⟩
                  · have hk' : (x.k : Int) % 5 = 1 := by omega
                    rw [hk] at hRs hv
                    have HRs : Hid (Rr 65 wc r bs (nx bs s 2).2) := hide hRs
                    obtain ⟨zs, hzs⟩ : ∃ zs, (nx bs s 2).1 = zs := ⟨_, rfl⟩
                    have hv' : u10 = .int .u64 (num zs : Nat) := by rw [hv, ← hzs]; rfl
                    have hzl : (nx bs s 2).1.length ≤ 2 := nx_len bs s 2
                    rw [hzs] at hzl
                    have HX1 := hide hzs
                    clear hRs hv hzs
                    subst hv'
                    go_wp2_with fail
                    refine (mnext_any _ m w.heap.size bs s HMs.out 2 (by decide) (by decide)).mono ?_
                    rintro e wd ⟨⟨A9, c9, rfl, hR9, hc9⟩, hM9, hb9⟩
                    rw [HX1.out] at hR9 hc9 ⊢
                    have hbD := hbC.trans (hb9.below (by omega) hsC)
                    have HR9 := hide (hR9.more hbD.size)
                    have HRd := hide (HRs.out.rm HMs.out (by omega) hb9)
                    have HMd := hide hM9
                    obtain ⟨Z, hZ⟩ : ∃ Z, zs.length = Z := ⟨_, rfl⟩
                    have HZ := hide hZ
                    rw [hZ] at hzl hc9 ⊢
                    clear hR9 hM9 hb9 hZ c0 hbC HMs HRs
                    go_wp2_with fail
                    refine (number_any _ A9 zs Z c9 HZ.out HR9.out (by omega)).mono ?_
                    rintro e we ⟨rfl, rfl⟩
                    obtain ⟨z, hz⟩ : ∃ z, num zs = z := ⟨_, rfl⟩
                    rw [hz]
                    go_wp2
                    go_meet
                    case rel => exact ⟨rfl, by rw [hk'], hbD, hide ⟨_, HRd.out, HMd.out⟩⟩
                  · have hk' : (x.k : Int) % 5 = 2 := by omega
                    rw [hk] at hRs hv
                    have HRs : Hid (Rr 65 wc r bs (nx bs s 4).2) := hide hRs
                    obtain ⟨zs, hzs⟩ : ∃ zs, (nx bs s 4).1 = zs := ⟨_, rfl⟩
                    have hv' : u10 = .int .u64 (num zs : Nat) := by rw [hv, ← hzs]; rfl
                    have hzl : (nx bs s 4).1.length ≤ 4 := nx_len bs s 4
                    rw [hzs] at hzl
                    have HX1 := hide hzs
                    clear hRs hv hzs
                    subst hv'
                    go_wp2_with fail
                    refine (mnext_any _ m w.heap.size bs s HMs.out 4 (by decide) (by decide)).mono ?_
                    rintro e wd ⟨⟨A9, c9, rfl, hR9, hc9⟩, hM9, hb9⟩
                    rw [HX1.out] at hR9 hc9 ⊢
                    have hbD := hbC.trans (hb9.below (by omega) hsC)
                    have HR9 := hide (hR9.more hbD.size)
                    have HRd := hide (HRs.out.rm HMs.out (by omega) hb9)
                    have HMd := hide hM9
                    obtain ⟨Z, hZ⟩ : ∃ Z, zs.length = Z := ⟨_, rfl⟩
                    have HZ := hide hZ
                    rw [hZ] at hzl hc9 ⊢
                    clear hR9 hM9 hb9 hZ c0 hbC HMs HRs
                    go_wp2_with fail
                    refine (number_any _ A9 zs Z c9 HZ.out HR9.out (by omega)).mono ?_
                    rintro e we ⟨rfl, rfl⟩
                    obtain ⟨z, hz⟩ : ∃ z, num zs = z := ⟨_, rfl⟩
                    rw [hz]
                    go_wp2
                    go_meet
                    case rel => exact ⟨rfl, by rw [hk'], hbD, hide ⟨_, HRd.out, HMd.out⟩⟩
                  · have hk' : (x.k : Int) % 5 = 3 := by omega
                    rw [hk] at hRs hv
                    have HRs : Hid (Rr 65 wc r bs (nx bs s 8).2) := hide hRs
                    obtain ⟨zs, hzs⟩ : ∃ zs, (nx bs s 8).1 = zs := ⟨_, rfl⟩
                    have hv' : u10 = .int .u64 (num zs : Nat) := by rw [hv, ← hzs]; rfl
                    have hzl : (nx bs s 8).1.length ≤ 8 := nx_len bs s 8
                    rw [hzs] at hzl
                    have HX1 := hide hzs
                    clear hRs hv hzs
                    subst hv'
                    go_wp2_with fail
                    refine (mnext_any _ m w.heap.size bs s HMs.out 8 (by decide) (by decide)).mono ?_
                    rintro e wd ⟨⟨A9, c9, rfl, hR9, hc9⟩, hM9, hb9⟩
                    rw [HX1.out] at hR9 hc9 ⊢
                    have hbD := hbC.trans (hb9.below (by omega) hsC)
                    have HR9 := hide (hR9.more hbD.size)
                    have HRd := hide (HRs.out.rm HMs.out (by omega) hb9)
                    have HMd := hide hM9
                    obtain ⟨Z, hZ⟩ : ∃ Z, zs.length = Z := ⟨_, rfl⟩
                    have HZ := hide hZ
                    rw [hZ] at hzl hc9 ⊢
                    clear hR9 hM9 hb9 hZ c0 hbC HMs HRs
                    go_wp2_with fail
                    refine (number_any _ A9 zs Z c9 HZ.out HR9.out (by omega)).mono ?_
                    rintro e we ⟨rfl, rfl⟩
                    obtain ⟨z, hz⟩ : ∃ z, num zs = z := ⟨_, rfl⟩
                    rw [hz]
                    go_wp2
                    go_meet
                    case rel => exact ⟨rfl, by rw [hk'], hbD, hide ⟨_, HRd.out, HMd.out⟩⟩
                · have hk' : (x.k : Int) % 5 = 4 := by omega
                  go_wp2
                  go_meet
                  case rel => exact ⟨rfl, by rw [hk'], hbC, hide ⟨s, hRs, hMs⟩⟩
              case rest =>
                obtain ⟨rfl, rfl, hbE, hbo⟩ := hcut
                clear hah hbC c0 hsC hcases
                obtain ⟨s, hRs, hMs⟩ := hbo.out
                clear hbo
                have hrq := hRs.lt
                have hmq := hMs.lt
                obtain ⟨Am, cm, hgm, _, ⟨_, _, hsle⟩, _⟩ := id hMs
                have cm1 : wc.drew.cell? ⟨m, 1, none⟩ = some (.int .i64 (s.1 : Nat)) := cell_of_row wc _ 1 _ _ _ hgm
                have cm2 : wc.drew.cell? ⟨m, 2, none⟩ = some (.bool s.2) := cell_of_row wc _ 2 _ _ _ hgm
                have hbd : Below wc.heap.size wc wc.drew := (Below.refl _ _).drew
                have HRd := hide (hRs.below hbd)
                have HMd := hide (hMs.below hbd hmq)
                have hbF := hbE.trans (hbd.mono hbE.size)
                have hsF := hbF.size
                have hmF := HMd.out.lt
                rw [HN.out] at hsle
                have hwl : IntKind.i64.wrap ((N : Int) - (s.1 : Int)) = (N : Int) - (s.1 : Int) := IntWalk.i64_in _ (by omega)
                obtain ⟨s1, s2⟩ := s
                dsimp only at cm1 cm2 hwl hsle
                clear hRs hMs hgm hbE hbd
                go_wp2
                refine wp_region_held_drew (S := (fun w' => w'.cell? ⟨m, 1, none⟩ = some (.int .i64 (s1 : Nat)) ∧ w'.cell? ⟨m, 2, none⟩ = some (.bool s2))) (by kernel_rfl) ⟨cm1, cm2⟩ (fun hS0 => ?_)
                refine take_at (i := 0) (d := 119) (v := ?_) (by simp only [List.getElem?_toArray, List.getElem?_cons_succ, List.getElem?_cons_zero]; rfl) rfl (by kernel_rfl) (by kernel_rfl) (by kernel_rfl) (fun _ _ _ h => h) rfl ?_ (by assumption) ?_
                rotate_left
                · intro w hSw
                  go_simp
                  try with_reducible rfl
                try simp only [List.setIfInBounds_toArray, List.set_cons_zero, List.set_cons_succ]
                refine take_at (i := 2) (d := 121) (v := ?_) (by simp only [List.getElem?_toArray, List.getElem?_cons_succ, List.getElem?_cons_zero]; rfl) rfl (by kernel_rfl) (by kernel_rfl) (by kernel_rfl) (fun _ _ _ h => h) rfl ?_ (by assumption) ?_
                rotate_left
                · intro w hSw
                  go_simp
                  try with_reducible rfl
                try simp only [List.setIfInBounds_toArray, List.set_cons_zero, List.set_cons_succ]
                refine take_at (i := 3) (d := 122) (v := ?_) (by simp only [List.getElem?_toArray, List.getElem?_cons_succ, List.getElem?_cons_zero]; rfl) rfl (by kernel_rfl) (by kernel_rfl) (by kernel_rfl) (fun _ _ _ h => h) rfl ?_ (by assumption) ?_
                rotate_left
                · intro w hSw
                  go_simp
                  try with_reducible rfl
                try simp only [List.setIfInBounds_toArray, List.set_cons_zero, List.set_cons_succ]
                refine take_at (i := 4) (d := 123) (v := ?_) (by simp only [List.getElem?_toArray, List.getElem?_cons_succ, List.getElem?_cons_zero]; rfl) rfl (by kernel_rfl) (by kernel_rfl) (by kernel_rfl) (fun _ _ _ h => h) rfl ?_ (by assumption) ?_
                rotate_left
                · intro w hSw
                  go_simp
                  try with_reducible rfl
                try simp only [List.setIfInBounds_toArray, List.set_cons_zero, List.set_cons_succ]
                refine take_at (i := 5) (d := 124) (v := ?_) (by simp only [List.getElem?_toArray, List.getElem?_cons_succ, List.getElem?_cons_zero]; rfl) rfl (by kernel_rfl) (by kernel_rfl) (by kernel_rfl) (fun _ _ _ h => h) rfl ?_ (by assumption) ?_
                rotate_left
                · intro w hSw
                  go_simp
                  try with_reducible rfl
                try simp only [List.setIfInBounds_toArray, List.set_cons_zero, List.set_cons_succ]
                refine call_at (i := 1) (d := 120) (by simp only [List.getElem?_toArray, List.getElem?_cons_succ, List.getElem?_cons_zero]; rfl) rfl (by kernel_rfl) rfl (fun K hK => ?_)
                go_simp
                refine (bad_any _ r bs (s1, s2) HRd.out).mono ?_
                rintro e wy ⟨rfl, rfl⟩
                go_wp2_with fail
                refine hK.out _ _ hS0 (fun hSn => ?_)
                clear hK K
                try simp only [List.setIfInBounds_toArray, List.set_cons_zero, List.set_cons_succ]
                refine take_at (i := 6) (d := 125) (v := ?_) (by simp only [List.getElem?_toArray, List.getElem?_cons_succ, List.getElem?_cons_zero]; rfl) rfl (by kernel_rfl) (by kernel_rfl) (by kernel_rfl) (fun _ _ _ h => h) rfl ?_ (by assumption) ?_
                rotate_left
                · intro w hSw
                  go_simp
                  try with_reducible rfl
                try simp only [List.setIfInBounds_toArray, List.set_cons_zero, List.set_cons_succ]
                refine take_at (i := 7) (d := 126) (v := ?_) (by simp only [List.getElem?_toArray, List.getElem?_cons_succ, List.getElem?_cons_zero]; rfl) rfl (by kernel_rfl) (by kernel_rfl) (by kernel_rfl) (fun _ _ _ h => h) rfl ?_ (by assumption) ?_
                rotate_left
                · intro w hSw
                  go_simp
                  try with_reducible rfl
                try simp only [List.setIfInBounds_toArray, List.set_cons_zero, List.set_cons_succ]
                refine take_at (i := 8) (d := 127) (v := ?_) (by simp only [List.getElem?_toArray, List.getElem?_cons_succ, List.getElem?_cons_zero]; rfl) rfl (by kernel_rfl) (by kernel_rfl) (by kernel_rfl) (fun _ _ _ h => h) rfl ?_ (by assumption) ?_
                rotate_left
                · intro w hSw
                  go_simp
                  try with_reducible rfl
                try simp only [List.setIfInBounds_toArray, List.set_cons_zero, List.set_cons_succ]
                refine take_at (i := 10) (d := 129) (v := ?_) (by simp only [List.getElem?_toArray, List.getElem?_cons_succ, List.getElem?_cons_zero]; rfl) rfl (by kernel_rfl) (by kernel_rfl) (by kernel_rfl) (fun _ _ _ h => h) rfl ?_ (by assumption) ?_
                rotate_left
                · intro w hSw
                  go_simp
                  try with_reducible rfl
                try simp only [List.setIfInBounds_toArray, List.set_cons_zero, List.set_cons_succ]
                refine take_at (i := 11) (d := 130) (v := ?_) (by simp only [List.getElem?_toArray, List.getElem?_cons_succ, List.getElem?_cons_zero]; rfl) rfl (by kernel_rfl) (by kernel_rfl) (by kernel_rfl) (fun _ _ _ h => h) rfl ?_ (by assumption) ?_
                rotate_left
                · intro w hSw
                  go_simp
                  try with_reducible rfl
                try simp only [List.setIfInBounds_toArray, List.set_cons_zero, List.set_cons_succ]
                refine take_at (i := 12) (d := 131) (v := ?_) (by simp only [List.getElem?_toArray, List.getElem?_cons_succ, List.getElem?_cons_zero]; rfl) rfl (by kernel_rfl) (by kernel_rfl) (by kernel_rfl) (fun _ _ _ h => h) rfl ?_ (by assumption) ?_
                rotate_left
                · intro w hSw
                  go_simp
                  try with_reducible rfl
                try simp only [List.setIfInBounds_toArray, List.set_cons_zero, List.set_cons_succ]
                refine take_at (i := 13) (d := 132) (v := ?_) (by simp only [List.getElem?_toArray, List.getElem?_cons_succ, List.getElem?_cons_zero]; rfl) rfl (by kernel_rfl) (by kernel_rfl) (by kernel_rfl) (fun _ _ _ h => h) rfl ?_ (by assumption) ?_
                rotate_left
                · intro w hSw
                  go_simp
                  try with_reducible rfl
                try simp only [List.setIfInBounds_toArray, List.set_cons_zero, List.set_cons_succ]
                refine take_at (i := 14) (d := 133) (v := ?_) (by simp only [List.getElem?_toArray, List.getElem?_cons_succ, List.getElem?_cons_zero]; rfl) rfl (by kernel_rfl) (by kernel_rfl) (by kernel_rfl) (fun _ _ _ h => h) rfl ?_ (by assumption) ?_
                rotate_left
                · intro w hSw
                  go_simp
                  try with_reducible rfl
                try simp only [List.setIfInBounds_toArray, List.set_cons_zero, List.set_cons_succ]
                refine take_at (i := 15) (d := 134) (v := ?_) (by simp only [List.getElem?_toArray, List.getElem?_cons_succ, List.getElem?_cons_zero]; rfl) rfl (by kernel_rfl) (by kernel_rfl) (by kernel_rfl) (fun _ _ _ h => h) rfl ?_ (by assumption) ?_
                rotate_left
                · intro w hSw
                  go_simp
                  try with_reducible rfl
                try simp only [List.setIfInBounds_toArray, List.set_cons_zero, List.set_cons_succ]
                refine take_at (i := 16) (d := 135) (v := ?_) (by simp only [List.getElem?_toArray, List.getElem?_cons_succ, List.getElem?_cons_zero]; rfl) rfl (by kernel_rfl) (by kernel_rfl) (by kernel_rfl) (fun _ _ _ h => h) rfl ?_ (by assumption) ?_
                rotate_left
                · intro w hSw
                  go_simp
                  try with_reducible rfl
                try simp only [List.setIfInBounds_toArray, List.set_cons_zero, List.set_cons_succ]
                refine call_at (i := 9) (d := 128) (by simp only [List.getElem?_toArray, List.getElem?_cons_succ, List.getElem?_cons_zero]; rfl) rfl (by kernel_rfl) rfl (fun K hK => ?_)
                go_simp
                refine (left_any _ r bs (s1, s2) HRd.out).mono ?_
                rintro e wz ⟨rfl, hbz⟩
                rw [HN.out]
                dsimp only
                have cz1 := (hbz.cell (p := ⟨m, 1, none⟩) hmF).trans cm1
                have cz2 := (hbz.cell (p := ⟨m, 2, none⟩) hmF).trans cm2
                have HRg := hide (HRd.out.below hbz)
                have HMg := hide (HMd.out.below hbz hmF)
                have hbG := hbF.trans (hbz.mono hsF)
                clear hbz
                go_wp2_with fail
                refine hK.out _ _ ⟨cz1, cz2⟩ (fun hSn => ?_)
                clear hK K
                try simp only [List.setIfInBounds_toArray, List.set_cons_zero, List.set_cons_succ]
                refine take_at (i := 17) (d := 136) (v := ?_) (by simp only [List.getElem?_toArray, List.getElem?_cons_succ, List.getElem?_cons_zero]; rfl) rfl (by kernel_rfl) (by kernel_rfl) (by kernel_rfl) (fun _ _ _ h => h) rfl ?_ (by assumption) ?_
                rotate_left
                · intro w hSw
                  go_simp
                  try with_reducible rfl
                try simp only [List.setIfInBounds_toArray, List.set_cons_zero, List.set_cons_succ]
                refine take_at (i := 18) (d := 137) (v := ?_) (by simp only [List.getElem?_toArray, List.getElem?_cons_succ, List.getElem?_cons_zero]; rfl) rfl (by kernel_rfl) (by kernel_rfl) (by kernel_rfl) (fun _ _ _ h => h) rfl ?_ (by assumption) ?_
                rotate_left
                · intro w hSw
                  go_simp
                  try with_reducible rfl
                try simp only [List.setIfInBounds_toArray, List.set_cons_zero, List.set_cons_succ]
                refine wpAnyH_done (by kernel_rfl) ?_ _
                clear hS0 cm1 cm2
                go_wp2
                go_roundw
                case rel => exact ⟨i + 1, by omega, by go_num, hbG, hide ⟨_, HRg.out, HMg.out⟩⟩
                case measure => simp [intOf]; omega
          · obtain rfl : L = i := by omega
            clear hbo
            go_wp2_with fail
            refine (works_any _).mono ?_
            rintro e w10 ⟨rfl, hb10⟩
            have hb11 := hbq.trans (hb10.mono hsq)
            clear hb10 hbq
            go_wp2
            go_ret
            exact ⟨rfl, hb11⟩
end Go.Proofs.Ytbmaiiflbdggnaa
