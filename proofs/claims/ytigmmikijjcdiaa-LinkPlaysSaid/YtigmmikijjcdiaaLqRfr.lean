/- The document's num and Frame. (printed by gen/rfr.py) -/
import Derived.Lib.AppendStr
import Derived.Test.YtigmmikijjcdiaaProg
import Derived.Test.YtigmmikijjcdiaaLqRdn
import Derived.Test.YtigmmikijjcdiaaLqCrcs
import Derived.Deep.DeepCutAuto
import Derived.Lib.Hide
import Derived.WalkSpells
import Derived.WalkMore
import Derived.IntWalk









namespace Go.Proofs.Ytigmmikijjcdiaa
open Go.RowKit
set_option linter.unusedVariables false
set_option linter.unusedSimpArgs false
/-- a number as 64 bits -/
def u64n (x : Int) : Nat := (x % 18446744073709551616).toNat
theorem u64n_lt (x : Int) : u64n x < 18446744073709551616 := by unfold u64n; omega
theorem u64n_nat {n : Nat} (h : n < 18446744073709551616) : u64n (n : Int) = n := by unfold u64n; omega
/-- the document's frame -/
def frI (tag : Nat) (b : BL) (ep h n : Int) : BL := if tag = 1 then fr 1 b [u64n ep, u64n h, u64n n] else fr tag [] [u64n ep, u64n h]
/-- a row under way -/
def FwI (w x : World) (A : Option Addr) (n c : Nat) (f : BL) : Prop := x.ownsRow w.heap.size 5 1 (.slice A n c) n (u8s f) ∧ f.length = n ∧ Below w.heap.size w x
theorem u8s_app (a b : BL) : u8s (a ++ b) = u8s a ++ u8s b := by unfold u8s; rw [List.map_append]
theorem strCells_u8s (b : BL) : Go.Lib.strCells ⟨b.toArray⟩ = u8s b := by unfold Go.Lib.strCells u8s; simp
set_option maxRecDepth 100000 in
set_option maxHeartbeats 2000000 in
theorem rnum_any (w : World) (x : Int) (h1 : -9223372036854775808 ≤ x) (h2 : x ≤ 9223372036854775807) :
    Calls Try.prog 38 #[.int .i64 x] w fun e w' => e = .returned (.slice (some ⟨w.heap.size, 0, none⟩) 8 8) ∧ w'.heap[w.heap.size]? = some (.cells (u8s (be 8 (u64n x))).toArray 5) ∧ Below w.heap.size w w' := by
  have hd := rdigits_any w (u64n x) 8 (u64n_lt x) (by decide) (by decide)
  have kw : IntKind.u64.wrap x = ((u64n x : Nat) : Int) := by
    unfold u64n
    rw [Int.toNat_of_nonneg (by omega)]
    rfl
  have HD := hide hd
  clear hd
  go_enter Try.func38, Try.ntmps38
  go_wp2_with fail
  refine HD.out.mono ?_
  rintro e w1 ⟨rfl, hr, hb⟩
  have HR := hide hr
  have HB := hide hb
  clear hr hb
  go_wp2
  go_ret
  exact ⟨rfl, HR.out, HB.out⟩
set_option maxRecDepth 100000 in
set_option maxHeartbeats 8000000 in
theorem rframe_any (w : World) (tag : Nat) (ht : tag < 256) (ep h n : Int) (e1 : -9223372036854775808 ≤ ep) (e2 : ep ≤ 9223372036854775807) (h1 : -9223372036854775808 ≤ h) (h2 : h ≤ 9223372036854775807) (n1 : -9223372036854775808 ≤ n) (n2 : n ≤ 9223372036854775807) (b : BL) (hb : b.length ≤ 16000000) :
    Calls Try.prog 27 #[.int .u8 (tag : Int), .int .i64 ep, .int .i64 h, .int .i64 n, .string ⟨b.toArray⟩] w fun e w' => e = .returned (.string ⟨(frI tag b ep h n).toArray⟩) ∧ Below w.heap.size w w' := by
  obtain ⟨i0, hi0, hz0, hz1, hz2⟩ := info_parts (show (Try.prog.info? 5).map (fun i => (i.zero, i.size, i.bytes)) = some (some (.int .u8 0), 1, 1) by kernel_rfl)
  obtain ⟨bl, hbl⟩ : ∃ z, b.length = z := ⟨_, rfl⟩
  have HBl := hide hbl
  rw [hbl] at hb
  clear hbl
  have HF0 : Hid (FwI w (w.alloc (.cells #[.int .u8 (tag : Int)] 5)) (some ⟨w.heap.size, 0, none⟩) 1 1 (be 1 tag)) := hide ⟨by have h := World.ownsRow_lit (base := w.heap.size) (e := 5) (size := 1) w #[.int .u8 (tag : Int)] 1 (Nat.le_refl _) (by unfold maxLen; omega) rfl; rw [show u8s (be 1 tag) = [.int .u8 (tag : Int)] by simp [be, u8s]; omega]; exact h, be_len _ _, (Below.refl _ _).alloc (Nat.le_refl _) _⟩
  obtain ⟨x0, hx0⟩ : ∃ z, w.alloc (.cells #[.int .u8 (tag : Int)] 5) = z := ⟨_, rfl⟩
  rw [hx0] at HF0
  have HX0 := hide hx0
  clear hx0
  go_enter Try.func27, Try.ntmps27
  go_upto_region 2 with fail
  rw [HX0.out]
  go_wp2_with fail
  refine (rnum_any x0 ep e1 e2).mono ?_
  rintro e y1 ⟨rfl, hr, hb⟩
  have HO1 : Hid (FwI w y1 (some ⟨w.heap.size, 0, none⟩) (1) 1 (be 1 tag)) := hide ⟨own_below HF0.out.1 hb (fun g hg => (HF0.out.1.lt g hg).2), HF0.out.2.1, HF0.out.2.2.trans (hb.mono HF0.out.2.2.size)⟩
  have hr1 : Rd y1 y1.heap.size (some ⟨x0.heap.size, 0, none⟩) (u8s (be 8 (u64n ep))) := rd_cells hr
  clear hr hb
  have hs1 : w.heap.size ≤ y1.heap.size := HO1.out.2.2.size
  go_wp2_with (at_builtin; go_loud (refine wpList_app rfl (.tmp 14) (.tmp 16) 23 rfl w.heap.size 5 i0 (.int .u8 0) 1 1 Try.underlying23 hi0 hz0 hz1 hz2 rfl (by decide) (.slice (some ⟨w.heap.size, 0, none⟩) (1) 1) (1) _ rfl HO1.out.1 y1.heap.size (some ⟨x0.heap.size, 0, none⟩) 8 8 (u8s (be 8 (u64n ep))) rfl (by simp [u8s_len, be_len]) hr1 (u8s_one _) (by unfold maxLen; omega) (by omega) hs1 ?_; intro A1 c1 z1 hown hg hat; have HF1 : Hid (FwI w z1 A1 (9) c1 (be 1 tag ++ be 8 (u64n ep))) := hide ⟨by rw [u8s_app]; exact hown, by rw [List.length_append, HO1.out.2.1, be_len], app_below HO1.out.2.2 HO1.out.1 hg hs1 (Nat.le_refl _)⟩; clear hown hg hat hr1 HO1))
  go_wp2_with fail
  refine (rnum_any z1 h h1 h2).mono ?_
  rintro e y2 ⟨rfl, hr, hb⟩
  have HO2 : Hid (FwI w y2 A1 (9) c1 (be 1 tag ++ be 8 (u64n ep))) := hide ⟨own_below HF1.out.1 hb (fun g hg => (HF1.out.1.lt g hg).2), HF1.out.2.1, HF1.out.2.2.trans (hb.mono HF1.out.2.2.size)⟩
  have hr2 : Rd y2 y2.heap.size (some ⟨z1.heap.size, 0, none⟩) (u8s (be 8 (u64n h))) := rd_cells hr
  clear hr hb
  have hs2 : w.heap.size ≤ y2.heap.size := HO2.out.2.2.size
  go_upto_region 4 with (at_builtin; go_loud (refine wpList_app rfl (.tmp 18) (.tmp 20) 23 rfl w.heap.size 5 i0 (.int .u8 0) 1 1 Try.underlying23 hi0 hz0 hz1 hz2 rfl (by decide) (.slice A1 (9) c1) (9) _ rfl HO2.out.1 y2.heap.size (some ⟨z1.heap.size, 0, none⟩) 8 8 (u8s (be 8 (u64n h))) rfl (by simp [u8s_len, be_len]) hr2 (u8s_one _) (by unfold maxLen; omega) (by omega) hs2 ?_; intro A2 c2 z2 hown hg hat; have HF2 : Hid (FwI w z2 A2 (17) c2 (be 1 tag ++ be 8 (u64n ep) ++ be 8 (u64n h))) := hide ⟨by rw [u8s_app]; exact hown, by rw [List.length_append, HO2.out.2.1, be_len], app_below HO2.out.2.2 HO2.out.1 hg hs2 (Nat.le_refl _)⟩; clear hown hg hat hr2 HO2))
  have hs2 := HF2.out.2.2.size
  by_cases ht1 : tag = 1
  · have hq : ((tag : Int) == 1) = true := by simp; omega
    have hq2 : (tag : Int) = 1 := by omega
    have HT1 := hide ht1
    go_upto_region 5 with fail
    clear hq hq2 ht1
    go_wp2_with fail
    refine (rnum_any z2 n n1 n2).mono ?_
    rintro e y3 ⟨rfl, hr, hb⟩
    have HO3 : Hid (FwI w y3 A2 (17) c2 (be 1 tag ++ be 8 (u64n ep) ++ be 8 (u64n h))) := hide ⟨own_below HF2.out.1 hb (fun g hg => (HF2.out.1.lt g hg).2), HF2.out.2.1, HF2.out.2.2.trans (hb.mono HF2.out.2.2.size)⟩
    have hr3 : Rd y3 y3.heap.size (some ⟨z2.heap.size, 0, none⟩) (u8s (be 8 (u64n n))) := rd_cells hr
    clear hr hb
    have hs3 : w.heap.size ≤ y3.heap.size := HO3.out.2.2.size
    go_upto_region 6 with (at_builtin; go_loud (refine wpList_app rfl (.tmp 24) (.tmp 26) 23 rfl w.heap.size 5 i0 (.int .u8 0) 1 1 Try.underlying23 hi0 hz0 hz1 hz2 rfl (by decide) (.slice A2 (17) c2) (17) _ rfl HO3.out.1 y3.heap.size (some ⟨z2.heap.size, 0, none⟩) 8 8 (u8s (be 8 (u64n n))) rfl (by simp [u8s_len, be_len]) hr3 (u8s_one _) (by unfold maxLen; omega) (by omega) hs3 ?_; intro A3 c3 z3 hown hg hat; have HF3 : Hid (FwI w z3 A3 (25) c3 (be 1 tag ++ be 8 (u64n ep) ++ be 8 (u64n h) ++ be 8 (u64n n))) := hide ⟨by rw [u8s_app]; exact hown, by rw [List.length_append, HO3.out.2.1, be_len], app_below HO3.out.2.2 HO3.out.1 hg hs3 (Nat.le_refl _)⟩; clear hown hg hat hr3 HO3))
    have hs4 : w.heap.size ≤ z3.heap.size := HF3.out.2.2.size
    go_wp2_with (at_builtin; go_loud (refine Go.Lib.wpList_append_own_string _ rfl (.tmp 28) (.tmp 29) 23 9 rfl w.heap.size 5 i0 Try.underlying23 Try.underlying9 hi0 hz0 hz1 hz2 (.slice A3 25 c3) 25 _ rfl HF3.out.1 ⟨b.toArray⟩ rfl (by rw [show ByteArray.size ⟨b.toArray⟩ = bl from HBl.out]; unfold maxLen; omega) (by rw [show ByteArray.size ⟨b.toArray⟩ = bl from HBl.out]; omega) hs4 ?_; intro v4 z4 hown hg hat; obtain ⟨A4, c4, rfl⟩ : ∃ A4 c4, v4 = .slice A4 (25 + bl) c4 := (by rw [show ByteArray.size ⟨b.toArray⟩ = bl from HBl.out] at hown; exact own_form hown); have HF4 : Hid (FwI w z4 A4 (25 + bl) c4 (be 1 tag ++ be 8 (u64n ep) ++ be 8 (u64n h) ++ be 8 (u64n n) ++ b)) := hide ⟨by rw [u8s_app, ← strCells_u8s]; rw [show ByteArray.size ⟨b.toArray⟩ = bl from HBl.out] at hown; exact hown, by rw [List.length_append, HF3.out.2.1, HBl.out], HF3.out.2.2.grown hg hs4 (fun k e => (HF3.out.1.lt k e).1)⟩; clear hown hg hat))
    obtain ⟨y, hy⟩ : ∃ z : World, z4 = z := ⟨_, rfl⟩
    rw [hy] at HF4 ⊢
    clear hy
    obtain ⟨F, hF⟩ : ∃ z, be 1 tag ++ be 8 (u64n ep) ++ be 8 (u64n h) ++ be 8 (u64n n) ++ b = z := ⟨_, rfl⟩
    have hfr : frI tag b ep h n = F ++ be 4 (crcm.sum F) := by rw [← hF]; unfold frI; rw [if_pos HT1.out]; unfold fr frB; simp [HT1.out]
    rw [hF] at HF4
    clear hF
    have hlF := HF4.out.2.1
    have HFr := hide hfr
    clear hfr
    have hrd : Rd y y.heap.size A4 (u8s F) := (Rd.of_own HF4.out.1)
    have hsum := refSum_any F A4 c4 y.heap.size y hrd (Nat.le_refl _) (by rw [hlF]; omega)
    rw [hlF] at hsum
    have HSm := hide hsum
    clear hsum hrd hlF
    go_wp2_with fail
    refine HSm.out.mono ?_
    rintro e y5 ⟨rfl, hb5⟩
    have HG5 : Hid (FwI w y5 A4 (25 + bl) c4 F) := hide ⟨own_below HF4.out.1 hb5 (fun g hg => (HF4.out.1.lt g hg).2), HF4.out.2.1, HF4.out.2.2.trans (hb5.mono HF4.out.2.2.size)⟩
    have hsl := crcm.sum_lt F
    obtain ⟨sm, hsm⟩ : ∃ z, crcm.sum F = z := ⟨_, rfl⟩
    rw [hsm] at hsl HFr ⊢
    have HDg := hide (rdigits_any y5 sm 4 (by omega) (by decide) (by decide))
    clear hb5 hsm HSm
    go_wp2_with fail
    refine (HDg.out).mono ?_
    rintro e y6 ⟨rfl, hr, hb⟩
    have HO6 : Hid (FwI w y6 A4 (25 + bl) c4 (F)) := hide ⟨own_below HG5.out.1 hb (fun g hg => (HG5.out.1.lt g hg).2), HG5.out.2.1, HG5.out.2.2.trans (hb.mono HG5.out.2.2.size)⟩
    have hr6 : Rd y6 y6.heap.size (some ⟨y5.heap.size, 0, none⟩) (u8s (be 4 sm)) := rd_cells hr
    clear hr hb
    have hs6 : w.heap.size ≤ y6.heap.size := HO6.out.2.2.size
    go_wp2_with (at_builtin; go_loud (refine wpList_app rfl (.tmp 31) (.tmp 35) 23 rfl w.heap.size 5 i0 (.int .u8 0) 1 1 Try.underlying23 hi0 hz0 hz1 hz2 rfl (by decide) (.slice A4 (25 + bl) c4) (25 + bl) _ rfl HO6.out.1 y6.heap.size (some ⟨y5.heap.size, 0, none⟩) 4 4 (u8s (be 4 sm)) rfl (by simp [u8s_len, be_len]) hr6 (u8s_one _) (by unfold maxLen; omega) (by omega) hs6 ?_; intro A6 c6 z6 hown hg hat; have HF6 : Hid (FwI w z6 A6 (25 + bl + 4) c6 (F ++ be 4 sm)) := hide ⟨by rw [u8s_app]; exact hown, by rw [List.length_append, HO6.out.2.1, be_len], app_below HO6.out.2.2 HO6.out.1 hg hs6 (Nat.le_refl _)⟩; clear hown hg hat hr6 HO6; have kc := run_string_of (P := Try.prog) z6 23 9 5 A6 c6 _ (F ++ be 4 sm) Try.underlying23 Try.underlying5 Try.underlying9 (Rd.of_own HF6.out.1); rw [HF6.out.2.1] at kc))
    go_wp2
    go_ret
    exact ⟨by rw [HFr.out]; rfl, HF6.out.2.2⟩
  · have hq : ((tag : Int) == 1) = false := by simp; omega
    have hq2 : ¬ (tag : Int) = 1 := by omega
    have HT1 := hide ht1
    go_upto_region 7 with fail
    clear hq hq2 ht1
    obtain ⟨y, hy⟩ : ∃ z : World, z2 = z := ⟨_, rfl⟩
    rw [hy] at HF2 ⊢
    clear hy
    obtain ⟨F, hF⟩ : ∃ z, be 1 tag ++ be 8 (u64n ep) ++ be 8 (u64n h) = z := ⟨_, rfl⟩
    have hfr : frI tag b ep h n = F ++ be 4 (crcm.sum F) := by rw [← hF]; unfold frI; rw [if_neg HT1.out]; unfold fr frB; simp
    rw [hF] at HF2
    clear hF
    have hlF := HF2.out.2.1
    have HFr := hide hfr
    clear hfr
    have hrd : Rd y y.heap.size A2 (u8s F) := (Rd.of_own HF2.out.1)
    have hsum := refSum_any F A2 c2 y.heap.size y hrd (Nat.le_refl _) (by rw [hlF]; omega)
    rw [hlF] at hsum
    have HSm := hide hsum
    clear hsum hrd hlF
    go_wp2_with fail
    refine HSm.out.mono ?_
    rintro e y5 ⟨rfl, hb5⟩
    have HG5 : Hid (FwI w y5 A2 (17) c2 F) := hide ⟨own_below HF2.out.1 hb5 (fun g hg => (HF2.out.1.lt g hg).2), HF2.out.2.1, HF2.out.2.2.trans (hb5.mono HF2.out.2.2.size)⟩
    have hsl := crcm.sum_lt F
    obtain ⟨sm, hsm⟩ : ∃ z, crcm.sum F = z := ⟨_, rfl⟩
    rw [hsm] at hsl HFr ⊢
    have HDg := hide (rdigits_any y5 sm 4 (by omega) (by decide) (by decide))
    clear hb5 hsm HSm
    go_wp2_with fail
    refine (HDg.out).mono ?_
    rintro e y6 ⟨rfl, hr, hb⟩
    have HO6 : Hid (FwI w y6 A2 (17) c2 (F)) := hide ⟨own_below HG5.out.1 hb (fun g hg => (HG5.out.1.lt g hg).2), HG5.out.2.1, HG5.out.2.2.trans (hb.mono HG5.out.2.2.size)⟩
    have hr6 : Rd y6 y6.heap.size (some ⟨y5.heap.size, 0, none⟩) (u8s (be 4 sm)) := rd_cells hr
    clear hr hb
    have hs6 : w.heap.size ≤ y6.heap.size := HO6.out.2.2.size
    go_wp2_with (at_builtin; go_loud (refine wpList_app rfl (.tmp 31) (.tmp 35) 23 rfl w.heap.size 5 i0 (.int .u8 0) 1 1 Try.underlying23 hi0 hz0 hz1 hz2 rfl (by decide) (.slice A2 (17) c2) (17) _ rfl HO6.out.1 y6.heap.size (some ⟨y5.heap.size, 0, none⟩) 4 4 (u8s (be 4 sm)) rfl (by simp [u8s_len, be_len]) hr6 (u8s_one _) (by unfold maxLen; omega) (by omega) hs6 ?_; intro A6 c6 z6 hown hg hat; have HF6 : Hid (FwI w z6 A6 (21) c6 (F ++ be 4 sm)) := hide ⟨by rw [u8s_app]; exact hown, by rw [List.length_append, HO6.out.2.1, be_len], app_below HO6.out.2.2 HO6.out.1 hg hs6 (Nat.le_refl _)⟩; clear hown hg hat hr6 HO6; have kc := run_string_of (P := Try.prog) z6 23 9 5 A6 c6 _ (F ++ be 4 sm) Try.underlying23 Try.underlying5 Try.underlying9 (Rd.of_own HF6.out.1); rw [HF6.out.2.1] at kc))
    go_wp2
    go_ret
    exact ⟨by rw [HFr.out]; rfl, HF6.out.2.2⟩
end Go.Proofs.Ytigmmikijjcdiaa
