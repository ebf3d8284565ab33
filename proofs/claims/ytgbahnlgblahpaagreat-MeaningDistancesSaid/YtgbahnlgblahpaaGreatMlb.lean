/- Labels of the program: the least vertices that hang together. (printed by gen/mlb.py) -/
import Derived.Test.YtgbahnlgblahpaaGreatMlr
import Derived.Test.YtgbahnlgblahpaaGreatPck
import Derived.Test.YtgbahnlgblahpaaGreatReg
namespace Go.Proofs.YtgbahnlgblahpaaGreat
open Go.RowKit
set_option linter.unusedVariables false
set_option linter.unusedSimpArgs false
def labI (es : List Ed) (M : Nat) : List Int := (List.range M).map (fun x => ((labF es x : Nat) : Int))
def labL (V : Int) (es : List Ed) : List Int := if checkF V es = 0 then labI es V.toNat else []
/-- the row while it is being filled -/
def labK (es : List Ed) (M k : Nat) : List Int := labI es k ++ List.replicate (M - k) 0
theorem labK_len (es : List Ed) {M k : Nat} (h : k ≤ M) : (labK es M k).length = M := by simp [labK, labI]; omega
theorem labK_zero (es : List Ed) (M : Nat) : labK es M 0 = List.replicate M 0 := by simp [labK, labI]
theorem labK_full (es : List Ed) (M : Nat) : labK es M M = labI es M := by simp [labK]
theorem labK_set (es : List Ed) {M k : Nat} (h : k < M) : (labK es M k).set k (labF es k : Int) = labK es M (k + 1) := by
  unfold labK labI
  rw [List.set_append_right _ _ (by simp)]
  simp only [List.length_map, List.length_range, Nat.sub_self]
  rw [show M - k = (M - (k + 1)) + 1 by omega, List.replicate_succ, List.set_cons_zero, List.range_succ, List.map_append, List.append_assoc]
  rfl
def upK (M k : Nat) : List Nat := List.range k ++ List.replicate (M - k) 0
theorem upK_zero (M : Nat) : natI (upK M 0) = List.replicate M 0 := by simp [upK, natI]
theorem upK_full (M : Nat) : upK M M = List.range M := by simp [upK]
theorem upK_len {M k : Nat} (h : k ≤ M) : (upK M k).length = M := by simp [upK]; omega
theorem upK_set {M k : Nat} (h : k < M) : (upK M k).set k k = upK M (k + 1) := by
  unfold upK
  rw [List.set_append_right _ _ (by simp)]
  simp only [List.length_range, Nat.sub_self]
  rw [show M - k = (M - (k + 1)) + 1 by omega, List.replicate_succ, List.set_cons_zero, List.range_succ, List.append_assoc]
  rfl
theorem up_range (M v : Nat) : upAt (List.range M) v = v := by
  unfold upAt
  rcases Nat.lt_or_ge v M with h | h
  · rw [List.getElem?_range h]; rfl
  · rw [List.getElem?_eq_none (by simpa using h)]; rfl
/-- the roots are what the edges so far say -/
def UpF (es : List Ed) (i : Nat) (u : List Nat) : Prop := UpOk u ∧ ∀ x, rootF u x = ((es.take i).foldl labStep id) x
theorem UpF.first (es : List Ed) (M : Nat) : UpF es 0 (List.range M) := ⟨fun v => by rw [up_range]; exact Nat.le_refl _, fun x => by rw [root_of_fix (up_range M x)]; simp⟩
theorem UpF.root {es : List Ed} {i : Nat} {u u' : List Nat} (h : UpF es i u) (hs : RootS u u') : UpF es i u' := ⟨hs.2.1, fun x => (hs.2.2 x).trans (h.2 x)⟩
theorem UpF.step {es : List Ed} {i : Nat} {e : Ed} {u u1 u2 : List Nat} (h : UpF es i u) (he : es[i]? = some e) (h1 : RootS u u1) (h2 : RootS u1 u2) (ha : e.1.toNat < u.length) (hb : e.2.1.toNat < u.length) :
    UpF es (i + 1) (u2.set (max (rootF u e.1.toNat) (rootF u1 e.2.1.toNat)) (min (rootF u e.1.toNat) (rootF u1 e.2.1.toNat))) := by
  have r1 := root_le u e.1.toNat
  have r2 := root_le u1 e.2.1.toNat
  have l2 : u2.length = u.length := h2.1.trans h1.1
  have ea : rootF u2 (rootF u e.1.toNat) = rootF u e.1.toNat := by rw [h2.2.2, h1.2.2, root_root h.1]
  have eb : rootF u2 (rootF u1 e.2.1.toNat) = rootF u1 e.2.1.toNat := by rw [h2.2.2, root_root h1.2.1]
  have hj := set_join h2.2.1 (fix_of_root h2.2.1 ea) (fix_of_root h2.2.1 eb) (by omega) (by omega)
  refine ⟨set_ok h2.2.1 (by omega), fun x => ?_⟩
  rw [hj x, List.take_add_one, he, List.foldl_append]
  simp only [Option.toList_some, List.foldl_cons, List.foldl_nil]
  have hx := h.2
  obtain ⟨f, hf⟩ : ∃ f, (es.take i).foldl labStep id = f := ⟨_, rfl⟩
  rw [hf] at hx ⊢
  unfold labStep
  rw [← hx x, ← hx e.1.toNat, ← hx e.2.1.toNat, h2.2.2, h1.2.2, h1.2.2]
theorem st_func (w : World) (T : TypeId) (fn : Fn) (f c : Array Value) : (store ⟨w.heap.size, 0, none⟩ (.func fn f c)).run Tryz.prog (w.alloc (.cells #[.nilFunc] T)) = .ok () (w.alloc (.cells #[.func fn f c] T)) := by
  rw [run_store Tryz.prog _ _ _ _ rfl]
  simp [go_sem]
set_option maxRecDepth 100000 in
set_option maxHeartbeats 4000000 in
theorem labels_any (w : World) (V : Int) (A : Option Addr) (es : List Ed) (L c : Nat) (hL : es.length = L) (hE : Eds w w.heap.size A es) (hc : L ≤ 8192) :
    Calls Tryz.prog 12 #[.agg #[.int .i64 V, .slice A L c]] w (LPost w (checkF V es) (labL V es)) := by
  obtain ⟨v, hv⟩ : ∃ v, w.alloc (.cells #[.int .i64 V, .slice A L c] 24) = v := ⟨_, rfl⟩
  have hz : v.heap.size = w.heap.size + 1 := by rw [← hv]; simp
  have hb : Below w.heap.size w v := by rw [← hv]; exact (Below.refl _ _).alloc (Nat.le_refl _) _
  have cg : v.heap[w.heap.size]? = some (.cells #[.int .i64 V, .slice A L c] 24) := by rw [← hv]; exact heap_alloc_last w _
  have c0 : v.cell? ⟨w.heap.size, 0, none⟩ = some (.int .i64 V) := cell_of_row _ _ 0 _ _ _ cg
  have c1 : v.cell? ⟨w.heap.size, 1, none⟩ = some (.slice A L c) := cell_of_row _ _ 1 _ _ _ cg
  have HEw := hide hE
  have HE : Hid (Eds v v.heap.size A es) := hide ((hE.below hb (Nat.le_refl _)).more hb.size)
  have HV := hide hv
  have HB := hide hb
  have HL := hide hL
  have HZ := hide hz
  have HG := hide cg
  clear hv hb hz cg hE hL
  go_enter Tryz.func12, Tryz.ntmps12
  go_wp2_with fail
  rw [HV.out]
  go_wp2_with fail
  refine (check_any _ V A es L c HL.out HE.out (by omega)).mono ?_
  rintro e y ⟨rfl, hy⟩
  have HBy := hide (HB.out.trans (hy.mono HB.out.size))
  have HGy := hide ((hy.block _ (by rw [HZ.out]; omega)).trans HG.out)
  have hzy : w.heap.size + 1 ≤ y.heap.size := by have := hy.size; rw [HZ.out] at this; exact this
  have HEy : Hid (Eds y y.heap.size A es) := hide ((Eds.below HE.out hy (Nat.le_refl _)).more hy.size)
  clear hy c0 c1
  by_cases hchk : checkF V es = 0
  · obtain ⟨hV1, hV2, hok⟩ := checkF_zero hchk
    obtain ⟨M, rfl⟩ := Int.eq_ofNat_of_zero_le (show 0 ≤ V by omega)
    have hM512 : M ≤ 512 := by omega
    have HRes : Hid (labL (M : Int) es = labI es M) := hide (by unfold labL; rw [if_pos hchk, Int.toNat_natCast])
    have HOk := hide hok
    have HCk := hide hchk
    rw [hchk]
    have c0 : y.cell? ⟨w.heap.size, 0, none⟩ = some (.int .i64 (M : Int)) := cell_of_row _ _ 0 _ _ _ HGy.out
    have hmk := mkI_run y M (by omega)
    obtain ⟨x, hx⟩ : ∃ x, y.alloc (.cells (intsV (List.replicate M 0)).toArray 3) = x := ⟨_, rfl⟩
    rw [hx] at hmk
    have HX0 := hide (show RowI x y.heap.size 3 (natI (upK M 0)) by rw [← hx, upK_zero]; exact heap_alloc_last _ _)
    have HBx := hide (show Below w.heap.size w x by rw [← hx]; exact HBy.out.alloc (by omega) _)
    have HBy2 := hide (show Below y.heap.size y x by rw [← hx]; exact (Below.refl _ _).alloc (Nat.le_refl _) _)
    have hxz : x.heap.size = y.heap.size + 1 := by rw [← hx]; simp
    have HXe := hide hx
    clear hx hchk hok
    go_upto_region 5 with fail
    obtain ⟨G, hG⟩ : ∃ G, y.heap.size = G := ⟨_, rfl⟩
    rw [hG] at HX0 hzy hxz hmk ⊢
    obtain ⟨Bu, hBu⟩ : ∃ B, G + 1 = B := ⟨_, rfl⟩
    obtain ⟨x1, hx1⟩ : ∃ z, x.alloc (.cells #[.slice (some ⟨G, 0, none⟩) M M] 65) = z := ⟨_, rfl⟩
    rw [hx1, hBu]
    have hcu1 : x1.heap[Bu]? = some (.cells #[.slice (some ⟨G, 0, none⟩) M M] 65) := by rw [← hx1, ← hBu, ← hxz]; exact heap_alloc_last _ _
    have HRow1 := hide (show RowI x1 G 3 (natI (upK M 0)) by rw [← hx1]; exact HX0.out.below ((Below.refl _ _).alloc (Nat.le_refl _) _) (by omega))
    have HB1 := hide (show Below w.heap.size w x1 by rw [← hx1]; exact HBx.out.alloc (by omega) _)
    have HG1 := hide (show x1.heap[w.heap.size]? = some (.cells #[.int .i64 (M : Int), .slice A L c] 24) by rw [← hx1]; exact (((Below.refl _ _).alloc (Nat.le_refl _) _).block _ (by omega)).trans ((HBy2.out.block _ (by omega)).trans HGy.out))
    have HCu1 := hide hcu1
    have hBuG : Bu ≠ G := by omega
    have hBuz : Bu < x1.heap.size := lt_of_block hcu1
    have hBw : w.heap.size < G := by omega
    have u0 : x1.cell? ⟨Bu, 0, none⟩ = some (.slice (some ⟨G, 0, none⟩) M M) := cell_of_row _ _ 0 _ _ _ hcu1
    have HBuG := hide (show Bu = G + 1 by omega)
    clear hx1 hBu hG hcu1 c0 hmk hxz hzy HXe HBy2 HBx HX0 HGy HBy HEy
    go_wp2
    go_loopw [24] (fun v24 wr => ∃ k : Nat, k ≤ M ∧ v24 = .int .i64 (k : Int) ∧ Hid (RowI wr G 3 (natI (upK M k))) ∧ Hid (FarG G x1 wr)) (fun v24 _ => M - (intOf v24).toNat)
    case atStart => exact ⟨0, by omega, rfl, HRow1, hide (FarS.refl _ _ _)⟩
    case round =>
      clear HRow1 u0
      obtain ⟨k, hk, rfl, HRow, HF⟩ := hrel
      have u0 : wr.cell? ⟨Bu, 0, none⟩ = some (.slice (some ⟨G, 0, none⟩) M M) := (World.cell?_of_block (HF.out.block Bu hBuG hBuG)).trans (cell_of_row _ _ 0 _ _ _ HCu1.out)
      by_cases hlt : k < M
      · have hI0 : (0 : Int) ≤ (k : Int) := by omega
        have hI1 : (k : Int) < (M : Int) := by omega
        have gk := HRow.out.cell (i := k) (by rw [natI_len, upK_len hk]; exact hlt)
        have gf := HRow.out.frozen k
        have hs := HRow.out.set k (k : Int)
        rw [natI_set, upK_set hlt] at hs
        have HS := hide hs
        have HF2 := hide (HF.out.set (p := ⟨G, k, none⟩) (.inl rfl) (.int .i64 (k : Int)))
        clear hs HRow HF
        go_wp2
        go_roundw
        case rel => exact ⟨k + 1, by omega, by go_num, HS, HF2⟩
        case measure => simp [intOf]; omega
      · obtain rfl : M = k := by omega
        rw [upK_full] at HRow
        have HBz := hide (HB1.out.trans (HF.out.below (by omega) (by omega)))
        have HGz := hide ((HF.out.block _ (by omega) (by omega)).trans HG1.out)
        have hBuz2 : Bu < wr.heap.size := by rw [HF.out.size]; exact hBuz
        have HCu2 := hide ((HF.out.block Bu hBuG hBuG).trans HCu1.out)
        clear HF HB1 HG1 u0 hlt
        have hst := st_func wr 66 (.func 33) #[] #[.pointer (some ⟨Bu, 0, none⟩), .pointer (some ⟨wr.heap.size, 0, none⟩)]
        go_upto_region 12 with fail
        obtain ⟨Br, hBr⟩ : ∃ B, wr.heap.size = B := ⟨_, rfl⟩
        obtain ⟨z, hz⟩ : ∃ z, wr.alloc (.cells #[(.func (.func 33) #[] #[.pointer (some ⟨Bu, 0, none⟩), .pointer (some ⟨Br, 0, none⟩)])] 66) = z := ⟨_, rfl⟩
        rw [hBr] at hst ⊢
        rw [hz]
        have hcr1 : z.heap[Br]? = some (.cells #[(.func (.func 33) #[] #[.pointer (some ⟨Bu, 0, none⟩), .pointer (some ⟨Br, 0, none⟩)])] 66) := by rw [← hz, ← hBr]; exact heap_alloc_last _ _
        have hBz : Below wr.heap.size wr z := by rw [← hz]; exact (Below.refl _ _).alloc (Nat.le_refl _) _
        have hGw : G < wr.heap.size := HRow.out.lt
        have hBrG : Br ≠ G := by omega
        have HMz : Hid (UpM z Bu Br G M (List.range M)) := hide ⟨cell_of_row _ _ 0 _ _ _ ((hBz.block Bu (by omega)).trans HCu2.out), cell_of_row _ _ 0 _ _ _ hcr1, HRow.out.below hBz hGw, by simp⟩
        have HB0 := hide (HBz.out.trans (hBz.mono HBz.out.size))
        have HG0 := hide ((hBz.block _ (by omega)).trans HGz.out)
        have c1 : z.cell? ⟨w.heap.size, 1, none⟩ = some (.slice A L c) := cell_of_row _ _ 1 _ _ _ HG0.out
        have hbrz : Br < z.heap.size := lt_of_block hcr1
        have hbuz3 : Bu < z.heap.size := by have := hBz.size; omega
        have HZr := hide (And.intro hz hBr)
        clear hz hBr hcr1 hBz HRow HCu2 HBz HGz hst hGw
        go_wp2
        clear c1
        go_loopw [36] (fun v36 wr => ∃ (i : Nat) (u : List Nat), i ≤ L ∧ v36 = .int .i64 (i : Int) ∧ Hid (UpM wr Bu Br G M u) ∧ Hid (UpF es i u) ∧ Hid (Below w.heap.size w wr) ∧ Hid (wr.heap[w.heap.size]? = some (.cells #[.int .i64 (M : Int), .slice A L c] 24)) ∧ Bu < wr.heap.size ∧ Br < wr.heap.size) (fun v36 _ => L - (intOf v36).toNat)
        case atStart => exact ⟨0, List.range M, by omega, rfl, HMz, hide (UpF.first es M), HB0, HG0, hbuz3, hbrz⟩
        case round =>
          clear HMz HB0 HG0
          obtain ⟨i, u, hi, rfl, HM, HUf, HBr, HGr, hlu, hlr⟩ := hrel
          have hsw := HBr.out.size
          by_cases hlt : i < L
          · obtain ⟨e, he⟩ : ∃ e, es[i]? = some e := ⟨_, List.getElem?_eq_getElem (by rw [HL.out]; exact hlt)⟩
            have hfit := fits_bounds (ok_all HOk.out he)
            obtain ⟨b0, off, rfl, hbl, d0, d1, d2, hx1, hx2⟩ := Eds.get HEw.out he
            obtain ⟨e1, e2, e3⟩ := e
            dsimp only at d0 d1 d2 hfit hx1 hx2
            obtain ⟨a, rfl⟩ := Int.eq_ofNat_of_zero_le hfit.1
            obtain ⟨b, rfl⟩ := Int.eq_ofNat_of_zero_le hfit.2.2.1
            have haM : a < M := by omega
            have hbM : b < M := by omega
            have d0 := (HBr.out.cell (p := ⟨b0, off + i * 3, none⟩) hbl).trans d0
            have d1 := (HBr.out.cell (p := ⟨b0, off + i * 3 + 1, none⟩) hbl).trans d1
            have d2 := (HBr.out.cell (p := ⟨b0, off + i * 3 + 2, none⟩) hbl).trans d2
            have hI0 : (0 : Int) ≤ (i : Int) := by omega
            have hI1 : (i : Int) < (L : Int) := by omega
            have hstp := fun u1 u2 => UpF.step (u1 := u1) (u2 := u2) HUf.out he
            simp only [Int.toNat_natCast] at hstp
            have HSt := hide hstp
            clear he hfit hstp
            obtain ⟨t, ht⟩ : ∃ q, wr.alloc (.cells #[.int .i64 (a : Int), .int .i64 (b : Int), .int .i64 e3] 46) = q := ⟨_, rfl⟩
            have htl : t.heap[wr.heap.size]? = some (.cells #[.int .i64 (a : Int), .int .i64 (b : Int), .int .i64 e3] 46) := by rw [← ht]; exact heap_alloc_last _ _
            have hbt : Below wr.heap.size wr t := by rw [← ht]; exact (Below.refl _ _).alloc (Nat.le_refl _) _
            have HTe := hide ht
            clear ht
            go_upto_region 15 with fail
            rw [HTe.out]
            obtain ⟨T, hT⟩ : ∃ T, wr.heap.size = T := ⟨_, rfl⟩
            rw [hT] at htl ⊢
            have t0 : t.cell? ⟨T, 0, none⟩ = some (.int .i64 (a : Int)) := cell_of_row _ _ 0 _ _ _ htl
            have t1 : t.cell? ⟨T, 1, none⟩ = some (.int .i64 (b : Int)) := cell_of_row _ _ 1 _ _ _ htl
            have hTG : T ≠ G := by have := HM.out.row.lt; omega
            have HM2 : Hid (UpM t Bu Br G M u) := hide ⟨(hbt.cell (p := ⟨Bu, 0, none⟩) hlu).trans HM.out.cu, (hbt.cell (p := ⟨Br, 0, none⟩) hlr).trans HM.out.cr, HM.out.row.below hbt HM.out.row.lt, HM.out.len⟩
            have HBt := hide (HBr.out.trans (hbt.mono HBr.out.size))
            have HGt := hide ((hbt.block _ (by have := lt_of_block HGr.out; omega)).trans HGr.out)
            have hlut : Bu < t.heap.size := by have := hbt.size; omega
            have hlrt : Br < t.heap.size := by have := hbt.size; omega
            have tcr := HM2.out.cr
            have HUp := hide HUf.out.1
            have HTs := hide hT
            clear htl hbt HTe d0 d1 d2 HBr HGr hT hlu hlr hsw HM
            refine wp_region_held_drew (S := (fun w9 : World => w9.cell? ⟨Br, 0, none⟩ = some (.func (.func 33) #[] #[.pointer (some ⟨Bu, 0, none⟩), .pointer (some ⟨Br, 0, none⟩)]) ∧ w9.cell? ⟨T, 0, none⟩ = some (.int .i64 (a : Int)) ∧ w9.cell? ⟨T, 1, none⟩ = some (.int .i64 (b : Int)))) (by kernel_rfl) ⟨tcr, t0, t1⟩ (fun hS0 => ?_)
            refine take_at (i := 0) (d := 40) (v := ?_) (by simp only [List.getElem?_toArray, List.getElem?_cons_succ, List.getElem?_cons_zero]; rfl) rfl (by kernel_rfl) (by kernel_rfl) (by kernel_rfl) (fun _ _ _ h => h) rfl ?_ (by assumption) ?_
            rotate_left
            focus (intro w hSw; go_simp; (try with_reducible rfl); done)
            try simp only [List.setIfInBounds_toArray, List.set_cons_zero, List.set_cons_succ]
            refine take_at (i := 1) (d := 41) (v := ?_) (by simp only [List.getElem?_toArray, List.getElem?_cons_succ, List.getElem?_cons_zero]; rfl) rfl (by kernel_rfl) (by kernel_rfl) (by kernel_rfl) (fun _ _ _ h => h) rfl ?_ (by assumption) ?_
            rotate_left
            focus (intro w hSw; go_simp; (try with_reducible rfl); done)
            try simp only [List.setIfInBounds_toArray, List.set_cons_zero, List.set_cons_succ]
            refine take_at (i := 2) (d := 42) (v := ?_) (by simp only [List.getElem?_toArray, List.getElem?_cons_succ, List.getElem?_cons_zero]; rfl) rfl (by kernel_rfl) (by kernel_rfl) (by kernel_rfl) (fun _ _ _ h => h) rfl ?_ (by assumption) ?_
            rotate_left
            focus (intro w hSw; go_simp; (try with_reducible rfl); done)
            try simp only [List.setIfInBounds_toArray, List.set_cons_zero, List.set_cons_succ]
            refine take_at (i := 4) (d := 44) (v := ?_) (by simp only [List.getElem?_toArray, List.getElem?_cons_succ, List.getElem?_cons_zero]; rfl) rfl (by kernel_rfl) (by kernel_rfl) (by kernel_rfl) (fun _ _ _ h => h) rfl ?_ (by assumption) ?_
            rotate_left
            focus (intro w hSw; go_simp; (try with_reducible rfl); done)
            try simp only [List.setIfInBounds_toArray, List.set_cons_zero, List.set_cons_succ]
            refine take_at (i := 5) (d := 45) (v := ?_) (by simp only [List.getElem?_toArray, List.getElem?_cons_succ, List.getElem?_cons_zero]; rfl) rfl (by kernel_rfl) (by kernel_rfl) (by kernel_rfl) (fun _ _ _ h => h) rfl ?_ (by assumption) ?_
            rotate_left
            focus (intro w hSw; go_simp; (try with_reducible rfl); done)
            try simp only [List.setIfInBounds_toArray, List.set_cons_zero, List.set_cons_succ]
            refine take_at (i := 6) (d := 46) (v := ?_) (by simp only [List.getElem?_toArray, List.getElem?_cons_succ, List.getElem?_cons_zero]; rfl) rfl (by kernel_rfl) (by kernel_rfl) (by kernel_rfl) (fun _ _ _ h => h) rfl ?_ (by assumption) ?_
            rotate_left
            focus (intro w hSw; go_simp; (try with_reducible rfl); done)
            try simp only [List.setIfInBounds_toArray, List.set_cons_zero, List.set_cons_succ]
            refine call_at (i := 3) (d := 43) (by simp only [List.getElem?_toArray, List.getElem?_cons_succ, List.getElem?_cons_zero]; rfl) rfl (by kernel_rfl) rfl (fun K hK => ?_)
            go_simp
            refine (root_any Bu Br G M hBuG hBrG hM512 a t.drew u a (Nat.le_refl _) (by omega) HM2.out.drew HUp.out).mono ?_
            rintro e y1 ⟨rfl, u1, hs1, hat1, hrow1, hf1⟩
            have hf1 := ((FarS.refl G G t).drew).trans hf1
            have HM3 := hide (HM2.out.far hf1 hBuG hBrG hrow1 hs1.1)
            have hS1 : y1.cell? ⟨Br, 0, none⟩ = some (.func (.func 33) #[] #[.pointer (some ⟨Bu, 0, none⟩), .pointer (some ⟨Br, 0, none⟩)]) ∧ y1.cell? ⟨T, 0, none⟩ = some (.int .i64 (a : Int)) ∧ y1.cell? ⟨T, 1, none⟩ = some (.int .i64 (b : Int)) := ⟨HM3.out.cr, (World.cell?_of_block (hf1.block T hTG hTG)).trans t0, (World.cell?_of_block (hf1.block T hTG hTG)).trans t1⟩
            have HS1 := hide hs1
            have HF1 := hide hf1
            have HA1 := hide hat1
            clear hs1 hf1 hrow1 hat1
            go_wp2_with fail
            refine hK.out _ _ hS1 (fun hSn => ?_)
            clear hK K
            try simp only [List.setIfInBounds_toArray, List.set_cons_zero, List.set_cons_succ]
            refine call_at (i := 7) (d := 47) (by simp only [List.getElem?_toArray, List.getElem?_cons_succ, List.getElem?_cons_zero]; rfl) rfl (by kernel_rfl) rfl (fun K hK => ?_)
            go_simp
            refine (root_any Bu Br G M hBuG hBrG hM512 b y1 u1 b (Nat.le_refl _) (by omega) HM3.out HS1.out.2.1).mono ?_
            rintro e y2 ⟨rfl, u2, hs2, hat2, hrow2, hf2⟩
            have HM4 := hide (HM3.out.far hf2 hBuG hBrG hrow2 hs2.1)
            have hS2 : y2.cell? ⟨Br, 0, none⟩ = some (.func (.func 33) #[] #[.pointer (some ⟨Bu, 0, none⟩), .pointer (some ⟨Br, 0, none⟩)]) ∧ y2.cell? ⟨T, 0, none⟩ = some (.int .i64 (a : Int)) ∧ y2.cell? ⟨T, 1, none⟩ = some (.int .i64 (b : Int)) := ⟨HM4.out.cr, (World.cell?_of_block (hf2.block T hTG hTG)).trans hS1.2.1, (World.cell?_of_block (hf2.block T hTG hTG)).trans hS1.2.2⟩
            have HS2 := hide hs2
            have HF2 := hide hf2
            have HA2 := hide hat2
            clear hs2 hf2 hrow2 hat2 hS1
            go_wp2_with fail
            refine hK.out _ _ hS2 (fun hSn => ?_)
            clear hK K
            try simp only [List.setIfInBounds_toArray, List.set_cons_zero, List.set_cons_succ]
            refine take_at (i := 8) (d := 10) (v := ?_) (by simp only [List.getElem?_toArray, List.getElem?_cons_succ, List.getElem?_cons_zero]; rfl) rfl (by kernel_rfl) (by kernel_rfl) (by kernel_rfl) (fun _ _ _ h => h) rfl ?_ (by assumption) ?_
            rotate_left
            focus (intro w hSw; go_simp; (try with_reducible rfl); done)
            try simp only [List.setIfInBounds_toArray, List.set_cons_zero, List.set_cons_succ]
            refine take_at (i := 9) (d := 11) (v := ?_) (by simp only [List.getElem?_toArray, List.getElem?_cons_succ, List.getElem?_cons_zero]; rfl) rfl (by kernel_rfl) (by kernel_rfl) (by kernel_rfl) (fun _ _ _ h => h) rfl ?_ (by assumption) ?_
            rotate_left
            focus (intro w hSw; go_simp; (try with_reducible rfl); done)
            try simp only [List.setIfInBounds_toArray, List.set_cons_zero, List.set_cons_succ]
            refine wpAnyH_done (by kernel_rfl) ?_ _
            clear t0 t1 tcr hS2 hSn hS0
            obtain ⟨p, hp⟩ : ∃ p, rootF u a = p := ⟨_, rfl⟩
            obtain ⟨q, hq⟩ : ∃ q, rootF u1 b = q := ⟨_, rfl⟩
            have hpM : p < M := by have := root_le u a; omega
            have hqM : q < M := by have := root_le u1 b; omega
            rw [hp, hq]
            have HPQ := hide (And.intro hp hq)
            clear hp hq
            rcases Nat.lt_trichotomy p q with hpq | rfl | hpq
            · have gk := HM4.out.row.cell (i := q) (by rw [natI_len, HM4.out.len]; omega)
              have gf := HM4.out.row.frozen q
              have hnew := HM4.out.row.set q (p : Int)
              rw [natI_set] at hnew
              have hU2 := HSt.out u1 u2 HS1.out HS2.out (by rw [HM2.out.len]; exact haM) (by rw [HM2.out.len]; exact hbM)
              rw [HPQ.out.1, HPQ.out.2, Nat.max_eq_right (Nat.le_of_lt hpq), Nat.min_eq_left (Nat.le_of_lt hpq)] at hU2
              have HUn := hide hU2
              have HMn := hide (HM4.out.far ((FarS.refl G G y2).set (p := ⟨G, q, none⟩) (.inl rfl) (.int .i64 (p : Int))) hBuG hBrG hnew (by simp))
              have HFn := hide ((HF1.out.trans HF2.out).trans ((FarS.refl G G y2).set (p := ⟨G, q, none⟩) (.inl rfl) (.int .i64 (p : Int))))
              have HBn := hide (HBt.out.trans (HFn.out.below (by omega) (by omega)))
              have HGn := hide ((HFn.out.block w.heap.size (by omega) (by omega)).trans HGt.out)
              have hln : Bu < (y2.setCell ⟨G, q, none⟩ (.int .i64 (p : Int))).heap.size := by rw [HFn.out.size]; exact hlut
              have hln2 : Br < (y2.setCell ⟨G, q, none⟩ (.int .i64 (p : Int))).heap.size := by rw [HFn.out.size]; exact hlrt
              have ycu := HM4.out.cu
              clear hnew hU2 HPQ HM3 HM4 HS1 HS2 HF1 HF2 HA1 HA2 hlut hlrt
              go_wp2
              go_roundw
              case rel => exact ⟨i + 1, u2.set q p, by omega, by go_num, HMn, HUn, HBn, HGn, hln, hln2⟩
              case measure => simp [intOf]; omega
            · have gk := HM4.out.row.cell (i := p) (by rw [natI_len, HM4.out.len]; omega)
              have gf := HM4.out.row.frozen p
              have hnew := HM4.out.row.set p (p : Int)
              rw [natI_set] at hnew
              have hU2 := HSt.out u1 u2 HS1.out HS2.out (by rw [HM2.out.len]; exact haM) (by rw [HM2.out.len]; exact hbM)
              rw [HPQ.out.1, HPQ.out.2, Nat.max_self, Nat.min_self] at hU2
              have HUn := hide hU2
              have HMn := hide (HM4.out.far ((FarS.refl G G y2).set (p := ⟨G, p, none⟩) (.inl rfl) (.int .i64 (p : Int))) hBuG hBrG hnew (by simp))
              have HFn := hide ((HF1.out.trans HF2.out).trans ((FarS.refl G G y2).set (p := ⟨G, p, none⟩) (.inl rfl) (.int .i64 (p : Int))))
              have HBn := hide (HBt.out.trans (HFn.out.below (by omega) (by omega)))
              have HGn := hide ((HFn.out.block w.heap.size (by omega) (by omega)).trans HGt.out)
              have hln : Bu < (y2.setCell ⟨G, p, none⟩ (.int .i64 (p : Int))).heap.size := by rw [HFn.out.size]; exact hlut
              have hln2 : Br < (y2.setCell ⟨G, p, none⟩ (.int .i64 (p : Int))).heap.size := by rw [HFn.out.size]; exact hlrt
              have ycu := HM4.out.cu
              clear hnew hU2 HPQ HM3 HM4 HS1 HS2 HF1 HF2 HA1 HA2 hlut hlrt
              go_wp2
              go_roundw
              case rel => exact ⟨i + 1, u2.set p p, by omega, by go_num, HMn, HUn, HBn, HGn, hln, hln2⟩
              case measure => simp [intOf]; omega
            · have gk := HM4.out.row.cell (i := p) (by rw [natI_len, HM4.out.len]; omega)
              have gf := HM4.out.row.frozen p
              have hnew := HM4.out.row.set p (q : Int)
              rw [natI_set] at hnew
              have hU2 := HSt.out u1 u2 HS1.out HS2.out (by rw [HM2.out.len]; exact haM) (by rw [HM2.out.len]; exact hbM)
              rw [HPQ.out.1, HPQ.out.2, Nat.max_eq_left (Nat.le_of_lt hpq), Nat.min_eq_right (Nat.le_of_lt hpq)] at hU2
              have HUn := hide hU2
              have HMn := hide (HM4.out.far ((FarS.refl G G y2).set (p := ⟨G, p, none⟩) (.inl rfl) (.int .i64 (q : Int))) hBuG hBrG hnew (by simp))
              have HFn := hide ((HF1.out.trans HF2.out).trans ((FarS.refl G G y2).set (p := ⟨G, p, none⟩) (.inl rfl) (.int .i64 (q : Int))))
              have HBn := hide (HBt.out.trans (HFn.out.below (by omega) (by omega)))
              have HGn := hide ((HFn.out.block w.heap.size (by omega) (by omega)).trans HGt.out)
              have hln : Bu < (y2.setCell ⟨G, p, none⟩ (.int .i64 (q : Int))).heap.size := by rw [HFn.out.size]; exact hlut
              have hln2 : Br < (y2.setCell ⟨G, p, none⟩ (.int .i64 (q : Int))).heap.size := by rw [HFn.out.size]; exact hlrt
              have ycu := HM4.out.cu
              clear hnew hU2 HPQ HM3 HM4 HS1 HS2 HF1 HF2 HA1 HA2 hlut hlrt
              go_wp2
              go_roundw
              case rel => exact ⟨i + 1, u2.set p q, by omega, by go_num, HMn, HUn, HBn, HGn, hln, hln2⟩
              case measure => simp [intOf]; omega
          · obtain rfl : L = i := by omega
            have hLf : (es.take L).foldl labStep id = labF es := by rw [List.take_of_length_le (by rw [HL.out]; exact Nat.le_refl _)]; rfl
            have HUl : Hid (UpOk u ∧ ∀ x, rootF u x = labF es x) := hide (by have h := HUf.out; unfold UpF at h; rw [hLf] at h; exact h)
            have c0 : wr.cell? ⟨w.heap.size, 0, none⟩ = some (.int .i64 (M : Int)) := cell_of_row _ _ 0 _ _ _ HGr.out
            have hmk := mkL_run wr M (by omega)
            obtain ⟨x, hx⟩ : ∃ x, wr.alloc (.cells (intsV (List.replicate M 0)).toArray 2) = x := ⟨_, rfl⟩
            rw [hx] at hmk
            have hbx : Below wr.heap.size wr x := by rw [← hx]; exact (Below.refl _ _).alloc (Nat.le_refl _) _
            have HX0 := hide (show RowI x wr.heap.size 2 (labK es M 0) by rw [← hx, labK_zero]; exact heap_alloc_last _ _)
            obtain ⟨D, hD⟩ : ∃ D, wr.heap.size = D := ⟨_, rfl⟩
            have HBx := hide (HBr.out.trans (hbx.mono hsw))
            rw [hD] at hbx HX0 hmk
            have hgd : G < D := by have := HM.out.row.lt; omega
            have HMx : Hid (UpM x Bu Br G M u) := hide ⟨(hbx.cell (p := ⟨Bu, 0, none⟩) (by show Bu < D; omega)).trans HM.out.cu, (hbx.cell (p := ⟨Br, 0, none⟩) (by show Br < D; omega)).trans HM.out.cr, HM.out.row.below hbx hgd, HM.out.len⟩
            have hlux : Bu < D := by omega
            have hlrx : Br < D := by omega
            have hwD : w.heap.size < D := by have := lt_of_block HGr.out; omega
            have HXx := hide (And.intro hx hD)
            clear hx hbx HBr HGr HM HUf hLf hlu hlr hsw hlt hD
            go_upto_region 19 with fail
            clear hmk c0
            go_wp2
            go_loopw [62] (fun v62 wr => ∃ (k : Nat) (u : List Nat), k ≤ M ∧ v62 = .int .i64 (k : Int) ∧ Hid (RowI wr D 2 (labK es M k)) ∧ Hid (UpM wr Bu Br G M u) ∧ Hid (UpOk u ∧ ∀ x, rootF u x = labF es x) ∧ Hid (Below w.heap.size w wr)) (fun v62 _ => M - (intOf v62).toNat)
            case atStart => exact ⟨0, u, by omega, rfl, HX0, HMx, HUl, HBx⟩
            case round =>
              clear HX0 HMx HUl HBx
              obtain ⟨k, u, hk, rfl, HX, HM, HU, HBr⟩ := hrel
              by_cases hlt : k < M
              · have hI0 : (0 : Int) ≤ (k : Int) := by omega
                have hI1 : (k : Int) < (M : Int) := by omega
                have hc := root_any Bu Br G M hBuG hBrG hM512 k wr u k (Nat.le_refl _) hlt HM.out HU.out.1
                have HC := hide hc
                have q0 := HM.out.cr
                clear hc
                go_wp2_with fail
                refine HC.out.mono ?_
                rintro e y1 ⟨rfl, u1, hs1, hat1, hrow1, hf1⟩
                rw [HU.out.2]
                have hDG : D ≠ G := by omega
                have hX1 := HX.out.block (hf1.block D hDG hDG)
                have gk := hX1.cell (i := k) (by rw [labK_len _ hk]; exact hlt)
                have gf := hX1.frozen k
                have hX2 := hX1.set k (labF es k : Int)
                rw [labK_set es hlt] at hX2
                have hf2 : FarS D D y1 (y1.setCell ⟨D, k, none⟩ (.int .i64 (labF es k : Int))) := (FarS.refl D D y1).set (p := ⟨D, k, none⟩) (.inl rfl) _
                have hm1 := HM.out.far hf1 hBuG hBrG hrow1 hs1.1
                have HM2 : Hid (UpM (y1.setCell ⟨D, k, none⟩ (.int .i64 (labF es k : Int))) Bu Br G M u1) := hide ⟨(World.cell?_of_block (hf2.block Bu (by omega) (by omega))).trans hm1.cu, (World.cell?_of_block (hf2.block Br (by omega) (by omega))).trans hm1.cr, hm1.row.block (hf2.block G (by omega) (by omega)), hm1.len⟩
                have HX2 := hide hX2
                have HU2 : Hid (UpOk u1 ∧ ∀ x, rootF u1 x = labF es x) := hide ⟨hs1.2.1, fun x => (hs1.2.2 x).trans (HU.out.2 x)⟩
                have HB2 := hide ((HBr.out.trans (hf1.below (by omega) (by omega))).trans (hf2.below (by omega) (by omega)))
                clear hX1 hX2 hf1 hf2 hm1 hs1 hat1 hrow1 HX HM HU HBr HC q0
                go_wp2
                go_roundw
                case rel => exact ⟨k + 1, u1, by omega, by go_num, HX2, HM2, HU2, HB2⟩
                case measure => simp [intOf]; omega
              · obtain rfl : M = k := by omega
                rw [labK_full] at HX
                have hll : (labI es M).length = M := by simp [labI]
                have HFin : Hid (LPost w 0 (labI es M) (.returned (.tuple #[.slice (some ⟨D, 0, none⟩) M M, .int .i64 0])) wr) := hide ⟨some ⟨D, 0, none⟩, M, by rw [hll], by rw [hll]; exact HX.out.own (by omega) hll (by unfold maxLen; omega), HBr.out⟩
                go_wp2
                refine bodyPost_ret (v := .tuple #[.slice (some ⟨D, 0, none⟩) M M, .int .i64 0]) (by simp [results, Tryz.results12, go_sem]) rfl ?_
                rw [HRes.out, HCk.out]
                exact HFin.out
  · have hne : ¬ checkF V es = 0 := hchk
    have HRes : Hid (labL V es = []) := hide (by unfold labL; rw [if_neg hchk])
    have HFin : Hid (LPost w (checkF V es) [] (.returned (.tuple #[.slice none 0 0, .int .i64 (checkF V es)])) y) := hide ⟨none, 0, rfl, World.ownsRow_nil _ _ _ _, HBy.out⟩
    clear hchk
    obtain ⟨k, hk⟩ : ∃ k, checkF V es = k := ⟨_, rfl⟩
    rw [hk] at hne HFin ⊢
    have HK := hide hk
    clear hk
    go_wp2
    refine bodyPost_ret (v := .tuple #[.slice none 0 0, .int .i64 k]) (by simp [results, Tryz.results12, go_sem]) rfl ?_
    rw [HRes.out, HK.out]
    exact HFin.out
end Go.Proofs.YtgbahnlgblahpaaGreat
