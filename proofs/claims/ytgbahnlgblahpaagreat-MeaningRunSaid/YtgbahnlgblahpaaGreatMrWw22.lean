/- Lemmas: Pck, Ptg, Ptp, Mlp, Ptq, Mld, Mhp, Mdp. -/
import Derived.Deep.DeepCutAuto
import Derived.ScopeJumps
import Derived.Test.YtgbahnlgblahpaaGreatMrWw3
import Derived.Test.YtgbahnlgblahpaaGreatMrWw4
set_option linter.unusedVariables false
set_option linter.unusedSimpArgs false
set_option maxRecDepth 100000
set_option maxHeartbeats 16000000
namespace Go.Proofs.YtgbahnlgblahpaaGreat
open Go.RowKit
def orOf (x y : Int) : Int := if x = 0 then y else x
theorem or_any (w : World) (b : Nat) (x y : Int) (c0 : w.cell? ⟨b, 0, none⟩ = some (.int .i64 x)) (c1 : w.cell? ⟨b, 1, none⟩ = some (.int .i64 y)) :
  Calls Tryz.prog 65 #[.slice (some ⟨b, 0, none⟩) 2 2] w fun e w' => e = .returned (.int .i64 (orOf x y)) ∧ w' = w := by
 go_enter Tryz.func65, Tryz.ntmps65
 go_wp2
 go_loop [5, 8] (fun v5 vi => vi = .int .i64 0 ∨ (vi = .int .i64 1 ∧ x = 0) ∨ (vi = .int .i64 2 ∧ x = 0 ∧ y = 0)) (fun _ vi => 2 - (intOf vi).toNat)
 case atStart => exact .inl rfl
 case round =>
  rcases hrel with rfl | ⟨rfl, hx⟩ | ⟨rfl, hx, hy⟩
  ·by_cases h : x = 0
   ·subst h
    go_wp2
    go_round
    case rel => first | exact .inr (.inl ⟨rfl, rfl⟩) | simp
    case measure => simp [intOf]
   ·go_wp2
    go_ret
    exact ⟨ret_i64 (by rw [orOf, if_neg h]), rfl⟩
  ·subst hx
   by_cases h : y = 0
   ·subst h
    go_wp2
    go_round
    case rel => first | exact .inr (.inr ⟨rfl, rfl, rfl⟩) | simp
    case measure => simp [intOf]
   ·go_wp2
    go_ret
    exact ⟨ret_i64 (by rw [orOf, if_pos rfl]), rfl⟩
  ·subst hx; subst hy
   go_wp2
   go_ret
   exact ⟨ret_i64 (by rw [orOf, if_pos rfl]), rfl⟩
def orderOf (a b : Ed) : Int := orOf (cmpOf a.1 b.1) (cmpOf a.2.1 b.2.1)
theorem order_any (w : World) (a1 a2 a3 b1 b2 b3 : Int) :
  Calls Tryz.prog 46 #[.agg #[.int .i64 a1, .int .i64 a2, .int .i64 a3], .agg #[.int .i64 b1, .int .i64 b2, .int .i64 b3]] w fun e w' => e = .returned (.int .i64 (orderOf (a1, a2, a3) (b1, b2, b3))) ∧ Below w.heap.size w w' := by
 obtain ⟨v, hv⟩ : ∃ v, (w.alloc (.cells #[.int .i64 a1, .int .i64 a2, .int .i64 a3] 46)).alloc (.cells #[.int .i64 b1, .int .i64 b2, .int .i64 b3] 46) = v := ⟨_, rfl⟩
 have hz : v.heap.size = w.heap.size + 2 := by rw [← hv]; simp
 have hb : Below w.heap.size w v := by rw [← hv]; exact ((Below.refl _ _).alloc (Nat.le_refl _) _).alloc (by simp) _
 have ca : v.heap[w.heap.size]? = some (.cells #[.int .i64 a1, .int .i64 a2, .int .i64 a3] 46) := by
  rw [← hv]; exact (Below.heap_alloc _ _ _ (by simp)).trans (heap_alloc_last w _)
 have cb : v.heap[w.heap.size + 1]? = some (.cells #[.int .i64 b1, .int .i64 b2, .int .i64 b3] 46) := by
  rw [← hv]
  have h := heap_alloc_last (w.alloc (.cells #[.int .i64 a1, .int .i64 a2, .int .i64 a3] 46)) (.cells #[.int .i64 b1, .int .i64 b2, .int .i64 b3] 46)
  rw [show (w.alloc (.cells #[.int .i64 a1, .int .i64 a2, .int .i64 a3] 46)).heap.size = w.heap.size + 1 by simp] at h
  exact h
 have ca0 : v.cell? ⟨w.heap.size, 0, none⟩ = some (.int .i64 a1) := cell_of_row _ _ 0 _ _ _ ca
 have ca1 : v.cell? ⟨w.heap.size, 1, none⟩ = some (.int .i64 a2) := cell_of_row _ _ 1 _ _ _ ca
 have cb0 : v.cell? ⟨w.heap.size + 1, 0, none⟩ = some (.int .i64 b1) := cell_of_row _ _ 0 _ _ _ cb
 have cb1 : v.cell? ⟨w.heap.size + 1, 1, none⟩ = some (.int .i64 b2) := cell_of_row _ _ 1 _ _ _ cb
 have l0 : w.heap.size < v.heap.size := by omega
 have l1 : w.heap.size + 1 < v.heap.size := by omega
 have HV := hide hv
 have HB := hide hb
 have HZ := hide hz
 clear hv hb hz ca cb
 go_enter Tryz.func46, Tryz.ntmps46
 go_wp2
 rw [HV.out]
 refine wp_region_held_drew (S := Kept v) (by kernel_rfl) (Kept.drew v) (fun hS0 => ?_)
 refine take_at (i := 0) (d := 5) (v := ?_) (by simp only [zqa, zqb, zqc]; rfl) rfl (by kernel_rfl) (by kernel_rfl) (by kernel_rfl) (fun _ _ _ h => h) rfl ?_ (by assumption) ?_
 rotate_left
 ·intro w hSw
  go_simp
  try with_reducible rfl
 try simp only [zqd, zqe, zqf]
 refine take_at (i := 1) (d := 6) (v := ?_) (by simp only [zqa, zqb, zqc]; rfl) rfl (by kernel_rfl) (by kernel_rfl) (by kernel_rfl) (fun _ _ _ h => h) rfl ?_ (by assumption) ?_
 rotate_left
 ·intro w hSw
  go_simp
  try with_reducible rfl
 try simp only [zqd, zqe, zqf]
 refine take_at (i := 2) (d := 7) (v := ?_) (by simp only [zqa, zqb, zqc]; rfl) rfl (by kernel_rfl) (by kernel_rfl) (by kernel_rfl) (fun _ _ _ h => h) rfl ?_ (by assumption) ?_
 rotate_left
 ·intro w hSw
  go_simp
  try with_reducible rfl
 try simp only [zqd, zqe, zqf]
 refine take_at (i := 3) (d := 8) (v := ?_) (by simp only [zqa, zqb, zqc]; rfl) rfl (by kernel_rfl) (by kernel_rfl) (by kernel_rfl) (fun _ _ _ h => h) rfl ?_ (by assumption) ?_
 rotate_left
 ·intro w hSw
  go_simp
  try with_reducible rfl
 try simp only [zqd, zqe, zqf]
 refine take_at (i := 5) (d := 10) (v := ?_) (by simp only [zqa, zqb, zqc]; rfl) rfl (by kernel_rfl) (by kernel_rfl) (by kernel_rfl) (fun _ _ _ h => h) rfl ?_ (by assumption) ?_
 rotate_left
 ·intro w hSw
  go_simp
  try with_reducible rfl
 try simp only [zqd, zqe, zqf]
 refine take_at (i := 6) (d := 11) (v := ?_) (by simp only [zqa, zqb, zqc]; rfl) rfl (by kernel_rfl) (by kernel_rfl) (by kernel_rfl) (fun _ _ _ h => h) rfl ?_ (by assumption) ?_
 rotate_left
 ·intro w hSw
  go_simp
  try with_reducible rfl
 try simp only [zqd, zqe, zqf]
 refine take_at (i := 7) (d := 12) (v := ?_) (by simp only [zqa, zqb, zqc]; rfl) rfl (by kernel_rfl) (by kernel_rfl) (by kernel_rfl) (fun _ _ _ h => h) rfl ?_ (by assumption) ?_
 rotate_left
 ·intro w hSw
  go_simp
  try with_reducible rfl
 try simp only [zqd, zqe, zqf]
 refine take_at (i := 8) (d := 13) (v := ?_) (by simp only [zqa, zqb, zqc]; rfl) rfl (by kernel_rfl) (by kernel_rfl) (by kernel_rfl) (fun _ _ _ h => h) rfl ?_ (by assumption) ?_
 rotate_left
 ·intro w hSw
  go_simp
  try with_reducible rfl
 try simp only [zqd, zqe, zqf]
 refine call_at (i := 4) (d := 9) (by simp only [zqa, zqb, zqc]; rfl) rfl (by kernel_rfl) rfl (fun K hK => ?_)
 go_simp
 refine (compare_any _ a1 b1).mono ?_
 rintro e y1 ⟨rfl, rfl⟩
 go_wp2_with fail
 refine hK.out _ _ hS0 (fun hSn => ?_)
 clear hK K
 try simp only [zqd, zqe, zqf]
 refine call_at (i := 9) (d := 14) (by simp only [zqa, zqb, zqc]; rfl) rfl (by kernel_rfl) rfl (fun K hK => ?_)
 go_simp
 refine (compare_any _ a2 b2).mono ?_
 rintro e y2 ⟨rfl, rfl⟩
 go_wp2_with fail
 refine hK.out _ _ hS0 (fun hSn => ?_)
 clear hK K
 try simp only [zqd, zqe, zqf]
 have hal : Below v.drew.heap.size v.drew (v.drew.alloc (.cells #[.int .i64 (cmpOf a1 b1), .int .i64 (cmpOf a2 b2)] 3)) := (Below.refl _ _).alloc (Nat.le_refl _) _
 have hS1 := hS0.below (by simp) hal
 have HAL := hide hal
 clear hal
 refine call_at (i := 10) (d := 15) (by simp only [zqa, zqb, zqc]; rfl) rfl (by kernel_rfl) rfl (fun K hK => ?_)
 go_simp
 refine hK.out _ _ hS1 (fun hSn => ?_)
 clear hK K
 try simp only [zqd, zqe, zqf]
 refine call_at (i := 11) (d := 16) (by simp only [zqa, zqb, zqc]; rfl) rfl (by kernel_rfl) rfl (fun K hK => ?_)
 go_simp
 refine (or_any _ _ (cmpOf a1 b1) (cmpOf a2 b2) (by first | (rw [World.cell?_alloc_mark]; rfl) | (have h := World.cell?_alloc_mark; simp)) (by first | (rw [World.cell?_alloc_mark]; rfl) | simp)).mono ?_
 rintro e y3 ⟨rfl, rfl⟩
 go_wp2_with fail
 refine hK.out _ _ hS1 (fun hSn => ?_)
 clear hK K
 try simp only [zqd, zqe, zqf]
 refine take_at (i := 12) (d := 4) (v := ?_) (by simp only [zqa, zqb, zqc]; rfl) rfl (by kernel_rfl) (by kernel_rfl) (by kernel_rfl) (fun _ _ _ h => h) rfl ?_ (by assumption) ?_
 rotate_left
 ·intro w hSw
  go_simp
  try with_reducible rfl
 try simp only [zqd, zqe, zqf]
 refine wpAnyH_done (by kernel_rfl) ?_ _
 go_wp2
 go_ret
 exact ⟨rfl, HB.out.drew.trans (HAL.out.mono HB.out.drew.size)⟩
def fitsE (e : Ed) (V : Int) : Bool := fitsB e.1 e.2.1 e.2.2 V
def okAt (V : Int) (es : List Ed) (i : Nat) : Bool := match es[i]? with
 | none => true
 | some e => fitsE e V && (match (if i = 0 then none else es[i - 1]?) with | none => true | some p => decide (orderOf p e < 0))
def okFrom (V : Int) (es : List Ed) (i : Nat) : Bool := (List.range (es.length - i)).all fun k => okAt V es (i + k)
theorem okFrom_end (V : Int) (es : List Ed) : okFrom V es es.length = true := by simp [okFrom]
theorem okFrom_step (V : Int) (es : List Ed) (i : Nat) (h : i < es.length) : okFrom V es i = (okAt V es i && okFrom V es (i + 1)) := by
 unfold okFrom
 rw [show es.length - i = (es.length - (i + 1)) + 1 by omega, List.range_succ_eq_map, List.all_cons, List.all_map]
 congr 2
 funext k
 simp only [Function.comp]
 rw [show i + Nat.succ k = i + 1 + k by omega]
def checkF (V : Int) (es : List Ed) : Int := if V > 512 ∨ es.length > 8192 then 3 else if V < 1 then 40 else if okFrom V es 0 = true then 0 else 40
theorem check_any (w : World) (V : Int) (A : Option Addr) (es : List Ed) (L c : Nat) (hL : es.length = L) (hE : Eds w w.heap.size A es) (hc : L ≤ 9223372036854775807) :
  Calls Tryz.prog 25 #[.agg #[.int .i64 V, .slice A L c]] w fun e w' => e = .returned (.int .i64 (checkF V es)) ∧ Below w.heap.size w w' := by
 obtain ⟨v, hv⟩ : ∃ v, w.alloc (.cells #[.int .i64 V, .slice A L c] 24) = v := ⟨_, rfl⟩
 have hz : v.heap.size = w.heap.size + 1 := by rw [← hv]; simp
 have hb : Below w.heap.size w v := by rw [← hv]; exact (Below.refl _ _).alloc (Nat.le_refl _) _
 have cg : v.heap[w.heap.size]? = some (.cells #[.int .i64 V, .slice A L c] 24) := by rw [← hv]; exact heap_alloc_last w _
 have cg0 : v.cell? ⟨w.heap.size, 0, none⟩ = some (.int .i64 V) := cell_of_row _ _ 0 _ _ _ cg
 have cg1 : v.cell? ⟨w.heap.size, 1, none⟩ = some (.slice A L c) := cell_of_row _ _ 1 _ _ _ cg
 have hlg : w.heap.size < v.heap.size := by omega
 have HE := hide (Els.more (hE.below hb (Nat.le_refl _)) (Nat.le_of_lt hlg))
 have HV := hide hv
 have HB := hide hb
 have HL := hide hL
 have HZ := hide hz
 clear hv hb hz cg hE hL
 by_cases h1 : V > 512 ∨ L > 8192
 ·have hF : checkF V es = 3 := by rw [checkF, HL.out, if_pos h1]
  have HF := hide hF
  clear hF
  by_cases hV : 512 < V
  ·go_enter Tryz.func25, Tryz.ntmps25
   go_wp2
   go_ret
   rw [HV.out, HF.out]
   exact ⟨rfl, HB.out⟩
  ·have hV' : ¬ 512 < V := by omega
   have hL' : (8192 : Int) < (L : Int) := by omega
   go_enter Tryz.func25, Tryz.ntmps25
   go_wp2
   go_ret
   rw [HV.out, HF.out]
   exact ⟨rfl, HB.out⟩
 ·have hV : ¬ 512 < V := by omega
  have hL' : ¬ (8192 : Int) < (L : Int) := by omega
  by_cases h2 : V < 1
  ·have hF : checkF V es = 40 := by rw [checkF, HL.out, if_neg h1, if_pos h2]
   have HF := hide hF
   clear hF
   go_enter Tryz.func25, Tryz.ntmps25
   go_wp2
   go_ret
   rw [HV.out, HF.out]
   exact ⟨rfl, HB.out⟩
  ·have hF : checkF V es = if okFrom V es 0 = true then 0 else 40 := by rw [checkF, HL.out, if_neg h1, if_neg h2]
   have HF := hide hF
   clear hF h1
   have hL2 : L ≤ 8192 := by omega
   go_enter Tryz.func25, Tryz.ntmps25
   go_wp2
   rw [HV.out]
   go_loopw [3, 22] (fun v3 vi wr => ∃ i : Nat, i ≤ L ∧ vi = .int .i64 i ∧ Hid (okFrom V es 0 = okFrom V es i) ∧ Kept v wr ∧ Below w.heap.size w wr ∧ v.heap.size ≤ wr.heap.size) (fun _ vi _ => L - (intOf vi).toNat)
   case atStart => exact ⟨0, by omega, rfl, hide rfl, Kept.refl v, HB.out, Nat.le_refl _⟩
   case round =>
    obtain ⟨i, hi, rfl, hok, hk, hbw, hsz⟩ := hrel
    have hs := hbw.size
    by_cases hlt : i < L
    ·obtain ⟨e, he⟩ : ∃ e, es[i]? = some e := ⟨_, List.getElem?_eq_getElem (by rw [HL.out]; exact hlt)⟩
     obtain ⟨b, off, rfl, hbl, c0, c1, c2, _, _⟩ := Eds.get HE.out he
     have hI0 : (0 : Int) ≤ (i : Int) := by omega
     have hI1 : (i : Int) < (L : Int) := by omega
     have HStep := hide (okFrom_step V es i (by rw [HL.out]; exact hlt))
     have HEi := hide he
     clear he
     obtain ⟨e1, e2, e3⟩ := e
     dsimp only at c0 c1 c2
     have hk2 := hk
     have HKv := hide hk
     obtain ⟨u, hu⟩ : ∃ u, wr.alloc (.cells #[.int .i64 e1, .int .i64 e2, .int .i64 e3] 46) = u := ⟨_, rfl⟩
     have hzu : u.heap.size = wr.heap.size + 1 := by rw [← hu]; simp
     have hbu : Below wr.heap.size wr u := by rw [← hu]; exact (Below.refl _ _).alloc (Nat.le_refl _) _
     have hku : Kept v u := hk2.below hsz hbu
     have ce : u.heap[wr.heap.size]? = some (.cells #[.int .i64 e1, .int .i64 e2, .int .i64 e3] 46) := by rw [← hu]; exact heap_alloc_last wr _
     have ue0 : u.cell? ⟨wr.heap.size, 0, none⟩ = some (.int .i64 e1) := cell_of_row _ _ 0 _ _ _ ce
     have ue1 : u.cell? ⟨wr.heap.size, 1, none⟩ = some (.int .i64 e2) := cell_of_row _ _ 1 _ _ _ ce
     have ue2 : u.cell? ⟨wr.heap.size, 2, none⟩ = some (.int .i64 e3) := cell_of_row _ _ 2 _ _ _ ce
     have ug0 := (hku ⟨w.heap.size, 0, none⟩ hlg).trans cg0
     have ug1 := (hku ⟨w.heap.size, 1, none⟩ hlg).trans cg1
     have m0 : w.heap.size < u.heap.size := by omega
     have m1 : wr.heap.size < u.heap.size := by omega
     have m2 : b < u.heap.size := by omega
     have HU := hide hu
     have hwu := hbw.trans (hbu.mono hs)
     have hsu := hwu.size
     have hlast : ∀ w', Below u.drew.heap.size u.drew w' → Kept v w' ∧ Below w.heap.size w w' ∧ v.heap.size ≤ w'.heap.size := fun w' h => ⟨(hku.below (by omega) ((Below.refl u.heap.size u).drew)).below (by simp; omega) h, hwu.drew.trans (h.mono hwu.drew.size), by have := h.size; simp at this; omega⟩
     have HLAST := hide hlast
     clear hk2 hku hu ce hbu hlast hwu hzu
     go_wp2
     rw [HU.out]
     clear hk
     by_cases hf : fitsB e1 e2 e3 V = true
     ·rcases Nat.eq_zero_or_pos i with hi0 | hi0
      ·subst hi0
       rw [show ((0 : Nat) : Int) = 0 from rfl]
       refine wp_region_held_drew (S := Kept u) (by kernel_rfl) (Kept.drew u) (fun hS0 => ?_)
       refine take_at (i := 0) (d := 27) (v := ?_) (by simp only [zqa, zqb, zqc]; rfl) rfl (by kernel_rfl) (by kernel_rfl) (by kernel_rfl) (fun _ _ _ h => h) rfl ?_ (by assumption) ?_
       rotate_left
       ·intro w hSw
        go_simp
        try with_reducible rfl
       try simp only [zqd, zqe, zqf]
       refine take_at (i := 1) (d := 28) (v := ?_) (by simp only [zqa, zqb, zqc]; rfl) rfl (by kernel_rfl) (by kernel_rfl) (by kernel_rfl) (fun _ _ _ h => h) rfl ?_ (by assumption) ?_
       rotate_left
       ·intro w hSw
        go_simp
        try with_reducible rfl
       try simp only [zqd, zqe, zqf]
       refine take_at (i := 2) (d := 29) (v := ?_) (by simp only [zqa, zqb, zqc]; rfl) rfl (by kernel_rfl) (by kernel_rfl) (by kernel_rfl) (fun _ _ _ h => h) rfl ?_ (by assumption) ?_
       rotate_left
       ·intro w hSw
        go_simp
        try with_reducible rfl
       try simp only [zqd, zqe, zqf]
       refine call_at (i := 3) (d := 30) (by simp only [zqa, zqb, zqc]; rfl) rfl (by kernel_rfl) rfl (fun K hK => ?_)
       go_simp
       refine (fits_any _ e1 e2 e3 V).mono ?_
       rintro e y1 ⟨rfl, hy1⟩
       rw [hf]
       have hS1 : Kept u y1 := hS0.below (by simp) hy1
       have HY1 := hide hy1
       clear hy1
       go_wp2_with fail
       refine hK.out _ _ hS1 (fun hSn => ?_)
       clear hK K
       try simp only [zqd, zqe, zqf]
       refine take_at (i := 4) (d := 31) (v := ?_) (by simp only [zqa, zqb, zqc]; rfl) rfl (by kernel_rfl) (by kernel_rfl) (by kernel_rfl) (fun _ _ _ h => h) rfl ?_ (by assumption) ?_
       rotate_left
       ·intro w hSw
        go_simp
        try with_reducible rfl
       try simp only [zqd, zqe, zqf]
       refine take_at (i := 5) (d := 32) (v := ?_) (by simp only [zqa, zqb, zqc]; rfl) rfl (by kernel_rfl) (by kernel_rfl) (by kernel_rfl) (fun _ _ _ h => h) rfl ?_ (by assumption) ?_
       rotate_left
       ·intro w hSw
        go_simp
        try with_reducible rfl
       try simp only [zqd, zqe, zqf]
       refine take_at (i := 6) (d := 33) (v := ?_) (by simp only [zqa, zqb, zqc]; rfl) rfl (by kernel_rfl) (by kernel_rfl) (by kernel_rfl) (fun _ _ _ h => h) rfl ?_ (by assumption) ?_
       rotate_left
       ·intro w hSw
        go_simp
        try with_reducible rfl
       try simp only [zqd, zqe, zqf]
       refine take_at (i := 7) (d := 34) (v := ?_) (by simp only [zqa, zqb, zqc]; rfl) rfl (by kernel_rfl) (by kernel_rfl) (by kernel_rfl) (fun _ _ _ h => h) rfl ?_ (by assumption) ?_
       rotate_left
       ·intro w hSw
        go_simp
        try with_reducible rfl
       try simp only [zqd, zqe, zqf]
       refine take_at (i := 8) (d := 35) (v := ?_) (by simp only [zqa, zqb, zqc]; rfl) rfl (by kernel_rfl) (by kernel_rfl) (by kernel_rfl) (fun _ _ _ h => h) rfl ?_ (by assumption) ?_
       rotate_left
       ·intro w hSw
        go_simp
        try with_reducible rfl
       try simp only [zqd, zqe, zqf]
       refine sk 9 36 ?_; (try simp only [zqd, zqe, zqf])
       refine sk 10 37 ?_; (try simp only [zqd, zqe, zqf])
       refine sk 11 38 ?_; (try simp only [zqd, zqe, zqf])
       refine sk 12 39 ?_; (try simp only [zqd, zqe, zqf])
       refine sk 13 40 ?_; (try simp only [zqd, zqe, zqf])
       refine sk 14 41 ?_; (try simp only [zqd, zqe, zqf])
       refine sk 15 42 ?_; (try simp only [zqd, zqe, zqf])
       refine sk 16 43 ?_; (try simp only [zqd, zqe, zqf])
       refine sk 17 44 ?_; (try simp only [zqd, zqe, zqf])
       refine take_at (i := 18) (d := 45) (v := ?_) (by simp only [zqa, zqb, zqc]; rfl) rfl (by kernel_rfl) (by kernel_rfl) (by kernel_rfl) (fun _ _ _ h => h) rfl ?_ (by assumption) ?_
       rotate_left
       ·intro w hSw
        go_simp
        try with_reducible rfl
       try simp only [zqd, zqe, zqf]
       refine take_at (i := 19) (d := 46) (v := ?_) (by simp only [zqa, zqb, zqc]; rfl) rfl (by kernel_rfl) (by kernel_rfl) (by kernel_rfl) (fun _ _ _ h => h) rfl ?_ (by assumption) ?_
       rotate_left
       ·intro w hSw
        go_simp
        try with_reducible rfl
       try simp only [zqd, zqe, zqf]
       refine wpAnyH_done (by kernel_rfl) ?_ _
       have hgo := HLAST.out _ HY1.out
       have hst := HStep.out
       have hat : okAt V es 0 = true := by
        rw [okAt, HEi.out]
        show (fitsB e1 e2 e3 V && true) = true
        rw [hf]; rfl
       rw [hat, Bool.true_and] at hst
       clear hS0 hSn
       go_wp2
       go_roundw
       case rel => exact ⟨1, by omega, by go_num, hide (by rw [hst]), hgo⟩
       case measure => simp [intOf]; omega
      ·obtain ⟨k, rfl⟩ : ∃ k, i = k + 1 := ⟨i - 1, by omega⟩
       have hpos : (0 : Int) < ((k + 1 : Nat) : Int) := by omega
       have hsub : ((k + 1 : Nat) : Int) - 1 = (k : Int) := by omega
       have hk0 : (0 : Int) ≤ (k : Int) := by omega
       have hk1 : (k : Int) < (L : Int) := by omega
       have hwk : IntKind.i64.wrap (k : Int) = (k : Int) := IntWalk.i64_in _ (by omega)
       obtain ⟨pe, hpe⟩ : ∃ pe, es[k]? = some pe := ⟨_, List.getElem?_eq_getElem (by have := HL.out; omega)⟩
       obtain ⟨p1, p2, p3⟩ := pe
       obtain ⟨b', off', hA', _, q0, q1, q2, _, _⟩ := Eds.get HE.out hpe
       injection hA' with hA'
       injection hA' with hA1 hA2
       subst hA1 hA2
       dsimp only at q0 q1 q2
       have hkuv := (HLAST.out _ (Below.refl _ _)).1
       have up0 : u.cell? ⟨b, off + k * 3, none⟩ = some (.int .i64 p1) := (hkuv ⟨b, off + k * 3, none⟩ hbl).trans q0
       have up1 : u.cell? ⟨b, off + k * 3 + 1, none⟩ = some (.int .i64 p2) := (hkuv ⟨b, off + k * 3 + 1, none⟩ hbl).trans q1
       have up2 : u.cell? ⟨b, off + k * 3 + 2, none⟩ = some (.int .i64 p3) := (hkuv ⟨b, off + k * 3 + 2, none⟩ hbl).trans q2
       have hat : okAt V es (k + 1) = decide (orderOf (p1, p2, p3) (e1, e2, e3) < 0) := by
        rw [okAt, HEi.out]
        show (fitsB e1 e2 e3 V && _) = _
        rw [hf, if_neg (by omega), Nat.add_sub_cancel, hpe]; rfl
       have HAt := hide hat
       have HPe := hide hpe
       clear hkuv q0 q1 q2 hat hpe
       refine wp_region_held_drew (S := Kept u) (by kernel_rfl) (Kept.drew u) (fun hS0 => ?_)
       refine take_at (i := 0) (d := 27) (v := ?_) (by simp only [zqa, zqb, zqc]; rfl) rfl (by kernel_rfl) (by kernel_rfl) (by kernel_rfl) (fun _ _ _ h => h) rfl ?_ (by assumption) ?_
       rotate_left
       ·intro w hSw
        go_simp
        try with_reducible rfl
       try simp only [zqd, zqe, zqf]
       refine take_at (i := 1) (d := 28) (v := ?_) (by simp only [zqa, zqb, zqc]; rfl) rfl (by kernel_rfl) (by kernel_rfl) (by kernel_rfl) (fun _ _ _ h => h) rfl ?_ (by assumption) ?_
       rotate_left
       ·intro w hSw
        go_simp
        try with_reducible rfl
       try simp only [zqd, zqe, zqf]
       refine take_at (i := 2) (d := 29) (v := ?_) (by simp only [zqa, zqb, zqc]; rfl) rfl (by kernel_rfl) (by kernel_rfl) (by kernel_rfl) (fun _ _ _ h => h) rfl ?_ (by assumption) ?_
       rotate_left
       ·intro w hSw
        go_simp
        try with_reducible rfl
       try simp only [zqd, zqe, zqf]
       refine call_at (i := 3) (d := 30) (by simp only [zqa, zqb, zqc]; rfl) rfl (by kernel_rfl) rfl (fun K hK => ?_)
       go_simp
       refine (fits_any _ e1 e2 e3 V).mono ?_
       rintro e y1 ⟨rfl, hy1⟩
       rw [hf]
       have hS1 : Kept u y1 := hS0.below (by simp) hy1
       have HY1 := hide hy1
       clear hy1
       go_wp2_with fail
       refine hK.out _ _ hS1 (fun hSn => ?_)
       clear hK K
       try simp only [zqd, zqe, zqf]
       refine take_at (i := 4) (d := 31) (v := ?_) (by simp only [zqa, zqb, zqc]; rfl) rfl (by kernel_rfl) (by kernel_rfl) (by kernel_rfl) (fun _ _ _ h => h) rfl ?_ (by assumption) ?_
       rotate_left
       ·intro w hSw
        go_simp
        try with_reducible rfl
       try simp only [zqd, zqe, zqf]
       refine take_at (i := 5) (d := 32) (v := ?_) (by simp only [zqa, zqb, zqc]; rfl) rfl (by kernel_rfl) (by kernel_rfl) (by kernel_rfl) (fun _ _ _ h => h) rfl ?_ (by assumption) ?_
       rotate_left
       ·intro w hSw
        go_simp
        try with_reducible rfl
       try simp only [zqd, zqe, zqf]
       refine take_at (i := 6) (d := 33) (v := ?_) (by simp only [zqa, zqb, zqc]; rfl) rfl (by kernel_rfl) (by kernel_rfl) (by kernel_rfl) (fun _ _ _ h => h) rfl ?_ (by assumption) ?_
       rotate_left
       ·intro w hSw
        go_simp
        try with_reducible rfl
       try simp only [zqd, zqe, zqf]
       refine take_at (i := 7) (d := 34) (v := ?_) (by simp only [zqa, zqb, zqc]; rfl) rfl (by kernel_rfl) (by kernel_rfl) (by kernel_rfl) (fun _ _ _ h => h) rfl ?_ (by assumption) ?_
       rotate_left
       ·intro w hSw
        go_simp
        try with_reducible rfl
       try simp only [zqd, zqe, zqf]
       refine take_at (i := 8) (d := 35) (v := ?_) (by simp only [zqa, zqb, zqc]; rfl) rfl (by kernel_rfl) (by kernel_rfl) (by kernel_rfl) (fun _ _ _ h => h) rfl ?_ (by assumption) ?_
       rotate_left
       ·intro w hSw
        go_simp
        try with_reducible rfl
       try simp only [zqd, zqe, zqf]
       refine take_at (i := 9) (d := 36) (v := ?_) (by simp only [zqa, zqb, zqc]; rfl) rfl (by kernel_rfl) (by kernel_rfl) (by kernel_rfl) (fun _ _ _ h => h) rfl ?_ (by assumption) ?_
       rotate_left
       ·intro w hSw
        go_simp
        try with_reducible rfl
       try simp only [zqd, zqe, zqf]
       refine take_at (i := 10) (d := 37) (v := ?_) (by simp only [zqa, zqb, zqc]; rfl) rfl (by kernel_rfl) (by kernel_rfl) (by kernel_rfl) (fun _ _ _ h => h) rfl ?_ (by assumption) ?_
       rotate_left
       ·intro w hSw
        go_simp
        try with_reducible rfl
       try simp only [zqd, zqe, zqf]
       refine take_at (i := 11) (d := 38) (v := ?_) (by simp only [zqa, zqb, zqc]; rfl) rfl (by kernel_rfl) (by kernel_rfl) (by kernel_rfl) (fun _ _ _ h => h) rfl ?_ (by assumption) ?_
       rotate_left
       ·intro w hSw
        go_simp
        try with_reducible rfl
       try simp only [zqd, zqe, zqf]
       refine take_at (i := 12) (d := 39) (v := ?_) (by simp only [zqa, zqb, zqc]; rfl) rfl (by kernel_rfl) (by kernel_rfl) (by kernel_rfl) (fun _ _ _ h => h) rfl ?_ (by assumption) ?_
       rotate_left
       ·intro w hSw
        go_simp
        try with_reducible rfl
       try simp only [zqd, zqe, zqf]
       refine take_at (i := 13) (d := 40) (v := ?_) (by simp only [zqa, zqb, zqc]; rfl) rfl (by kernel_rfl) (by kernel_rfl) (by kernel_rfl) (fun _ _ _ h => h) rfl ?_ (by assumption) ?_
       rotate_left
       ·intro w hSw
        go_simp
        try with_reducible rfl
       try simp only [zqd, zqe, zqf]
       refine take_at (i := 14) (d := 41) (v := ?_) (by simp only [zqa, zqb, zqc]; rfl) rfl (by kernel_rfl) (by kernel_rfl) (by kernel_rfl) (fun _ _ _ h => h) rfl ?_ (by assumption) ?_
       rotate_left
       ·intro w hSw
        go_simp
        try with_reducible rfl
       try simp only [zqd, zqe, zqf]
       refine take_at (i := 15) (d := 42) (v := ?_) (by simp only [zqa, zqb, zqc]; rfl) rfl (by kernel_rfl) (by kernel_rfl) (by kernel_rfl) (fun _ _ _ h => h) rfl ?_ (by assumption) ?_
       rotate_left
       ·intro w hSw
        go_simp
        try with_reducible rfl
       try simp only [zqd, zqe, zqf]
       refine call_at (i := 16) (d := 43) (by simp only [zqa, zqb, zqc]; rfl) rfl (by kernel_rfl) rfl (fun K hK => ?_)
       go_simp
       refine (order_any _ p1 p2 p3 e1 e2 e3).mono ?_
       rintro e y2 ⟨rfl, hy2⟩
       have hS2 : Kept u y2 := hS1.below (by have := HY1.out.size; simp at this; omega) hy2
       have HY2 := hide (HY1.out.trans (hy2.mono HY1.out.size))
       clear hy2
       go_wp2_with fail
       refine hK.out _ _ hS2 (fun hSn => ?_)
       clear hK K
       try simp only [zqd, zqe, zqf]
       refine take_at (i := 17) (d := 44) (v := ?_) (by simp only [zqa, zqb, zqc]; rfl) rfl (by kernel_rfl) (by kernel_rfl) (by kernel_rfl) (fun _ _ _ h => h) rfl ?_ (by assumption) ?_
       rotate_left
       ·intro w hSw
        go_simp
        try with_reducible rfl
       try simp only [zqd, zqe, zqf]
       refine take_at (i := 18) (d := 45) (v := ?_) (by simp only [zqa, zqb, zqc]; rfl) rfl (by kernel_rfl) (by kernel_rfl) (by kernel_rfl) (fun _ _ _ h => h) rfl ?_ (by assumption) ?_
       rotate_left
       ·intro w hSw
        go_simp
        try with_reducible rfl
       try simp only [zqd, zqe, zqf]
       refine take_at (i := 19) (d := 46) (v := ?_) (by simp only [zqa, zqb, zqc]; rfl) rfl (by kernel_rfl) (by kernel_rfl) (by kernel_rfl) (fun _ _ _ h => h) rfl ?_ (by assumption) ?_
       rotate_left
       ·intro w hSw
        go_simp
        try with_reducible rfl
       try simp only [zqd, zqe, zqf]
       refine wpAnyH_done (by kernel_rfl) ?_ _
       have hgo := HLAST.out _ HY2.out
       have hst := HStep.out
       rw [HAt.out] at hst
       clear hS0 hSn
       by_cases hord : orderOf (p1, p2, p3) (e1, e2, e3) < 0
       ·have hord' : ¬ 0 ≤ orderOf (p1, p2, p3) (e1, e2, e3) := by omega
        rw [decide_eq_true hord, Bool.true_and] at hst
        have HST := hide hst
        clear hst
        go_wp2
        go_roundw
        case rel => exact ⟨k + 1 + 1, by omega, by go_num, hide (by rw [hok.out, HST.out]), hgo⟩
        case measure => simp [intOf]; omega
       ·have hord' : 0 ≤ orderOf (p1, p2, p3) (e1, e2, e3) := by omega
        rw [decide_eq_false hord, Bool.false_and] at hst
        have HST := hide hst
        clear hst
        go_wp2
        go_ret
        rw [HF.out, hok.out, HST.out]
        exact ⟨rfl, hgo.2.1⟩
     ·have hf' : fitsB e1 e2 e3 V = false := by simpa using hf
      refine wp_region_held_drew (S := Kept u) (by kernel_rfl) (Kept.drew u) (fun hS0 => ?_)
      refine take_at (i := 0) (d := 27) (v := ?_) (by simp only [zqa, zqb, zqc]; rfl) rfl (by kernel_rfl) (by kernel_rfl) (by kernel_rfl) (fun _ _ _ h => h) rfl ?_ (by assumption) ?_
      rotate_left
      ·intro w hSw
       go_simp
       try with_reducible rfl
      try simp only [zqd, zqe, zqf]
      refine take_at (i := 1) (d := 28) (v := ?_) (by simp only [zqa, zqb, zqc]; rfl) rfl (by kernel_rfl) (by kernel_rfl) (by kernel_rfl) (fun _ _ _ h => h) rfl ?_ (by assumption) ?_
      rotate_left
      ·intro w hSw
       go_simp
       try with_reducible rfl
      try simp only [zqd, zqe, zqf]
      refine take_at (i := 2) (d := 29) (v := ?_) (by simp only [zqa, zqb, zqc]; rfl) rfl (by kernel_rfl) (by kernel_rfl) (by kernel_rfl) (fun _ _ _ h => h) rfl ?_ (by assumption) ?_
      rotate_left
      ·intro w hSw
       go_simp
       try with_reducible rfl
      try simp only [zqd, zqe, zqf]
      refine call_at (i := 3) (d := 30) (by simp only [zqa, zqb, zqc]; rfl) rfl (by kernel_rfl) rfl (fun K hK => ?_)
      go_simp
      refine (fits_any _ e1 e2 e3 V).mono ?_
      rintro e y1 ⟨rfl, hy1⟩
      rw [hf']
      have hS1 : Kept u y1 := hS0.below (by simp) hy1
      have HY1 := hide hy1
      clear hy1
      go_wp2_with fail
      refine hK.out _ _ hS1 (fun hSn => ?_)
      clear hK K
      try simp only [zqd, zqe, zqf]
      refine take_at (i := 4) (d := 31) (v := ?_) (by simp only [zqa, zqb, zqc]; rfl) rfl (by kernel_rfl) (by kernel_rfl) (by kernel_rfl) (fun _ _ _ h => h) rfl ?_ (by assumption) ?_
      rotate_left
      ·intro w hSw
       go_simp
       try with_reducible rfl
      try simp only [zqd, zqe, zqf]
      refine take_at (i := 5) (d := 32) (v := ?_) (by simp only [zqa, zqb, zqc]; rfl) rfl (by kernel_rfl) (by kernel_rfl) (by kernel_rfl) (fun _ _ _ h => h) rfl ?_ (by assumption) ?_
      rotate_left
      ·intro w hSw
       go_simp
       try with_reducible rfl
      try simp only [zqd, zqe, zqf]
      refine sk 6 33 ?_; (try simp only [zqd, zqe, zqf])
      refine sk 7 34 ?_; (try simp only [zqd, zqe, zqf])
      refine sk 8 35 ?_; (try simp only [zqd, zqe, zqf])
      refine sk 9 36 ?_; (try simp only [zqd, zqe, zqf])
      refine sk 10 37 ?_; (try simp only [zqd, zqe, zqf])
      refine sk 11 38 ?_; (try simp only [zqd, zqe, zqf])
      refine sk 12 39 ?_; (try simp only [zqd, zqe, zqf])
      refine sk 13 40 ?_; (try simp only [zqd, zqe, zqf])
      refine sk 14 41 ?_; (try simp only [zqd, zqe, zqf])
      refine sk 15 42 ?_; (try simp only [zqd, zqe, zqf])
      refine sk 16 43 ?_; (try simp only [zqd, zqe, zqf])
      refine sk 17 44 ?_; (try simp only [zqd, zqe, zqf])
      refine sk 18 45 ?_; (try simp only [zqd, zqe, zqf])
      refine take_at (i := 19) (d := 46) (v := ?_) (by simp only [zqa, zqb, zqc]; rfl) rfl (by kernel_rfl) (by kernel_rfl) (by kernel_rfl) (fun _ _ _ h => h) rfl ?_ (by assumption) ?_
      rotate_left
      ·intro w hSw
       go_simp
       try with_reducible rfl
      try simp only [zqd, zqe, zqf]
      refine wpAnyH_done (by kernel_rfl) ?_ _
      have hgo := HLAST.out _ HY1.out
      have hst := HStep.out
      have hat : okAt V es i = false := by
       rw [okAt, HEi.out]
       show (fitsB e1 e2 e3 V && _) = false
       rw [hf']; rfl
      rw [hat, Bool.false_and] at hst
      have HST := hide hst
      clear hst hS0 hSn
      go_wp2
      go_ret
      rw [HF.out, hok.out, HST.out]
      exact ⟨rfl, hgo.2.1⟩
    ·obtain rfl : i = L := by omega
     have ht : okFrom V es 0 = true := by rw [hok.out, ← HL.out]; exact okFrom_end _ _
     go_wp2
     go_ret
     rw [HF.out, if_pos ht]
     exact ⟨rfl, hbw⟩
end Go.Proofs.YtgbahnlgblahpaaGreat
namespace Go.Proofs.YtgbahnlgblahpaaGreat
open Go.RowKit
def at_ (vals : List Int) (i : Int) : Int := (vals[i.toNat]?).getD 0
def bat (r : List Bool) (i : Int) : Bool := (r[i.toNat]?).getD false
def scan (vals : List Int) : List Ed → List Bool → Option (Option Nat)
 | [], _ => some none
 | e :: es, r => if dadd (at_ vals e.1) e.2.2 < at_ vals e.2.1 then none else if bat r e.1 = true ∧ bat r e.2.1 = false ∧ at_ vals e.2.1 = dadd (at_ vals e.1) e.2.2 then some (some e.2.1.toNat) else scan vals es r
def close (vals : List Int) (es : List Ed) : Nat → List Bool → Option (List Bool)
 | 0, r => some r
 | n + 1, r => match scan vals es r with
  | none => none
  | some none => some r
  | some (some t) => close vals es n (r.set t true)
def cnt (r : List Bool) : Nat := r.countP (fun b => !b)
theorem checkF_zero {V : Int} {es : List Ed} (h : checkF V es = 0) : 1 ≤ V ∧ V ≤ 512 ∧ okFrom V es 0 = true := by
 unfold checkF at h
 split at h
 ·cases h
 ·split at h
  ·cases h
  ·split at h
   ·exact ⟨by omega, by omega, ‹_›⟩
   ·cases h
theorem ok_all {V : Int} {es : List Ed} (h : okFrom V es 0 = true) {i : Nat} {e : Ed} (he : es[i]? = some e) : fitsE e V = true := by
 unfold okFrom at h
 have hi := (List.getElem?_eq_some_iff.1 he).1
 have := List.all_eq_true.1 h i (by simpa using hi)
 rw [Nat.zero_add, okAt, he] at this
 dsimp only at this
 rw [Bool.and_eq_true] at this
 exact this.1
theorem fits_bounds {e : Ed} {V : Int} (h : fitsE e V = true) : 0 ≤ e.1 ∧ e.1 < V ∧ 0 ≤ e.2.1 ∧ e.2.1 < V := by
 unfold fitsE fitsB at h
 simp only [Bool.and_eq_true, decide_eq_true_eq] at h
 omega
def JF (M q L c b2 off2 c2 : Nat) (A : Option Addr) (w : World) (G : Nat) (u : Nat → Value) : Act := { tmps := #[.agg #[.int .i64 (M : Int), .slice A L c], .int .i64 (q : Int), .slice (some ⟨b2, off2, none⟩) M c2, .pointer (some ⟨w.heap.size, 0, none⟩), undef, undef, u 6, .slice (some ⟨G, 0, none⟩) M M, undef, u 9, u 10, undef, undef, .agg #[.int .i64 (M : Int), .slice A L c], .int .i64 0, .bool false, .bool false, .int .i64 (q : Int), .bool false, .bool false, .bool false, .int .i64 (q : Int), .pointer (some ⟨w.heap.size, 0, none⟩), .int .i64 (M : Int), .bool false, .bool false, .bool false, .slice (some ⟨b2, off2, none⟩) M c2, .int .i64 (M : Int), .pointer (some ⟨w.heap.size, 0, none⟩), .int .i64 (M : Int), .bool false, .bool false, .bool false, .slice (some ⟨b2, off2, none⟩) M c2, .int .i64 (q : Int), .pointer (some ⟨b2, off2 + q, none⟩), .int .i64 0, .bool false, .bool false, .pointer (some ⟨w.heap.size, 0, none⟩), .int .i64 (M : Int), .slice (some ⟨G, 0, none⟩) M M, .slice (some ⟨G, 0, none⟩) M M, .int .i64 (q : Int), .pointer (some ⟨G, q, none⟩), .pointer (some ⟨w.heap.size, 1, none⟩), .slice A L c, .int .i64 (L : Int), u 49, u 50, u 51, u 52, u 53, u 54, u 55, u 56, u 57, u 58, u 59, u 60, u 61, u 62, u 63, u 64, u 65, u 66, u 67, u 68, u 69, u 70, u 71, u 72, u 73, u 74, u 75, u 76, u 77, u 78, u 79, u 80, u 81, u 82, u 83, u 84, u 85, u 86, u 87, u 88, u 89, u 90, u 91, u 92, u 93, undef, undef, undef, undef, undef, undef, undef, undef, undef, undef, undef, undef, undef, undef, undef, undef, undef, undef, undef, undef, undef, undef, undef, undef, undef], defers := [] }
def JP (M q L c b2 off2 c2 : Nat) (A : Option Addr) (w v : World) (vals : List Int) (es : List Ed) (r0 : List Bool) (a' : Act) (w' : World) : Prop :=
 ∃ (G : Nat) (r : List Bool) (u : Nat → Value), a' = JF M q L c b2 off2 c2 A w G u ∧ r.length = M ∧ v.heap.size ≤ G ∧ Hid (close vals es (cnt r + 1) r = close vals es M r0) ∧ w'.heap[G]? = some (.cells (bools r).toArray 4) ∧ Hid (Kept v w') ∧ Hid (Below w.heap.size w w')
theorem JP.mk {M q L c b2 off2 c2 : Nat} {A : Option Addr} {w v : World} {vals : List Int} {es : List Ed} {r0 : List Bool} {a' : Act} {w' : World} (G : Nat) (r : List Bool) (h : a' = JF M q L c b2 off2 c2 A w G (fun k => a'.tmps.getD k undef)) (h1 : r.length = M) (h2 : v.heap.size ≤ G) (h3 : Hid (close vals es (cnt r + 1) r = close vals es M r0)) (h4 : w'.heap[G]? = some (.cells (bools r).toArray 4)) (h5 : Hid (Kept v w')) (h6 : Hid (Below w.heap.size w w')) : JP M q L c b2 off2 c2 A w v vals es r0 a' w' :=
 ⟨G, r, _, h, h1, h2, h3, h4, h5, h6⟩
end Go.Proofs.YtgbahnlgblahpaaGreat
namespace Go.Proofs.YtgbahnlgblahpaaGreat
def mark (vals : List Int) (r : List Bool) (e : Ed) : List Bool := if bat r e.1 = true ∧ dadd (at_ vals e.1) e.2.2 = at_ vals e.2.1 then r.set e.2.1.toNat true else r
def pass (vals : List Int) (es : List Ed) (r : List Bool) : List Bool := es.foldl (mark vals) r
def first (V s : Int) : List Bool := (List.replicate V.toNat false).set s.toNat true
def Shut_ (vals : List Int) (es : List Ed) (r : List Bool) : Prop := ∀ e ∈ es, bat r e.1 = true → dadd (at_ vals e.1) e.2.2 = at_ vals e.2.1 → bat r e.2.1 = true
def Le (r q : List Bool) : Prop := ∀ i : Int, bat r i = true → bat q i = true
theorem Le.refl (r : List Bool) : Le r r := fun _ h => h
theorem Le.trans {a b c : List Bool} (h : Le a b) (g : Le b c) : Le a c := fun i hi => g i (h i hi)
theorem bat_set (r : List Bool) (t : Nat) (i : Int) : bat (r.set t true) i = true ↔ ((i.toNat = t ∧ t < r.length) ∨ bat r i = true) := by
 unfold bat
 rw [List.getElem?_set]
 by_cases h : t = i.toNat
 ·subst h
  by_cases h2 : i.toNat < r.length
  ·simp [h2]
  ·rw [if_pos rfl, if_neg h2, List.getElem?_eq_none (by omega)]
   simp; omega
 ·rw [if_neg h]
  constructor
  ·exact .inr
  ·rintro (⟨h1, _⟩ | h1)
   ·exact absurd h1.symm h
   ·exact h1
def Within (es : List Ed) (M : Nat) : Prop := ∀ e ∈ es, 0 ≤ e.1 ∧ e.1 < M ∧ 0 ≤ e.2.1 ∧ e.2.1 < M
theorem within_of {V : Int} {es : List Ed} (h : checkF V es = 0) : Within es V.toNat := fun e he => by
 obtain ⟨i, hi⟩ := List.getElem?_of_mem he
 have := fits_bounds (ok_all (checkF_zero h).2.2 hi)
 omega
end Go.Proofs.YtgbahnlgblahpaaGreat
namespace Go.Proofs.YtgbahnlgblahpaaGreat
def upAt (u : List Nat) (v : Nat) : Nat := (u[v]?).getD v
def UpOk (u : List Nat) : Prop := ∀ v, upAt u v ≤ v
def rootF (u : List Nat) (v : Nat) : Nat := if h : upAt u v < v then rootF u (upAt u v) else v
termination_by v
theorem root_step {u : List Nat} {v : Nat} (h : upAt u v < v) : rootF u v = rootF u (upAt u v) := by rw [rootF, dif_pos h]
theorem root_self {u : List Nat} {v : Nat} (h : ¬ upAt u v < v) : rootF u v = v := by rw [rootF, dif_neg h]
theorem root_le (u : List Nat) : ∀ v, rootF u v ≤ v := fun v => by
 induction v using Nat.strongRecOn with
 | _ v ih =>
  by_cases h : upAt u v < v
  ·rw [root_step h]; exact Nat.le_trans (ih _ h) (Nat.le_of_lt h)
  ·rw [root_self h]; exact Nat.le_refl _
theorem root_fix {u : List Nat} (hu : UpOk u) : ∀ v, upAt u (rootF u v) = rootF u v := fun v => by
 induction v using Nat.strongRecOn with
 | _ v ih =>
  by_cases h : upAt u v < v
  ·rw [root_step h]; exact ih _ h
  ·rw [root_self h]; have := hu v; omega
theorem root_of_fix {u : List Nat} {v : Nat} (h : upAt u v = v) : rootF u v = v := root_self (by omega)
theorem root_root {u : List Nat} (hu : UpOk u) (v : Nat) : rootF u (rootF u v) = rootF u v := root_of_fix (root_fix hu v)
theorem fix_of_root {u : List Nat} (hu : UpOk u) {v : Nat} (h : rootF u v = v) : upAt u v = v := by have := root_fix hu v; rwa [h] at this
theorem upAt_set (u : List Nat) (v y x : Nat) : upAt (u.set v y) x = if x = v ∧ v < u.length then y else upAt u x := by
 unfold upAt
 rw [List.getElem?_set]
 by_cases h : v = x
 ·subst h
  by_cases hl : v < u.length
  ·simp [hl]
  ·simp [hl]
 ·rw [if_neg h, if_neg (fun g => h g.1.symm)]
theorem set_ok {u : List Nat} (hu : UpOk u) {v y : Nat} (hy : y ≤ v) : UpOk (u.set v y) := fun x => by
 rw [upAt_set]
 split
 ·rename_i h; rw [h.1]; exact hy
 ·exact hu x
theorem set_root {u : List Nat} (hu : UpOk u) (v : Nat) : ∀ x, rootF (u.set v (rootF u v)) x = rootF u x := fun x => by
 have hle := root_le u v
 induction x using Nat.strongRecOn with
 | _ x ih =>
  have hat := upAt_set u v (rootF u v) x
  by_cases hc : x = v ∧ v < u.length
  ·rw [if_pos hc] at hat
   obtain ⟨rfl, hl⟩ := hc
   by_cases hr : rootF u x < x
   ·rw [root_step (by rw [hat]; exact hr), hat, ih _ hr, root_root hu]
   ·rw [root_self (by rw [hat]; exact hr)]; omega
  ·rw [if_neg hc] at hat
   by_cases hr : upAt u x < x
   ·rw [root_step (by rw [hat]; exact hr), hat, ih _ hr, root_step hr]
   ·rw [root_self (by rw [hat]; exact hr), root_self hr]
theorem set_join {u : List Nat} (hu : UpOk u) {a b : Nat} (ha : upAt u a = a) (hb : upAt u b = b) (hal : a < u.length) (hbl : b < u.length) :
  ∀ x, rootF (u.set (max a b) (min a b)) x = if rootF u x = max a b then min a b else rootF u x := fun x => by
 induction x using Nat.strongRecOn with
 | _ x ih =>
  have hat := upAt_set u (max a b) (min a b) x
  have hmf : rootF u (min a b) = min a b := by
   rcases Nat.le_total a b with h | h
   ·rw [Nat.min_eq_left h]; exact root_of_fix ha
   ·rw [Nat.min_eq_right h]; exact root_of_fix hb
  have hxf : rootF u (max a b) = max a b := by
   rcases Nat.le_total a b with h | h
   ·rw [Nat.max_eq_right h]; exact root_of_fix hb
   ·rw [Nat.max_eq_left h]; exact root_of_fix ha
  by_cases hc : x = max a b ∧ max a b < u.length
  ·rw [if_pos hc] at hat
   obtain ⟨rfl, hl⟩ := hc
   rw [hxf, if_pos rfl]
   by_cases hr : min a b < max a b
   ·rw [root_step (by rw [hat]; exact hr), hat, ih _ hr, hmf, if_neg (by omega)]
   ·rw [root_self (by rw [hat]; exact hr)]; omega
  ·rw [if_neg hc] at hat
   by_cases hr : upAt u x < x
   ·rw [root_step (by rw [hat]; exact hr), hat, ih _ hr, root_step hr]
   ·have hne : x ≠ max a b := fun h => hc ⟨h, by omega⟩
    rw [root_self (by rw [hat]; exact hr), root_self hr, if_neg hne]
def labStep (f : Nat → Nat) (e : Ed) : Nat → Nat := fun x => if f x = max (f e.1.toNat) (f e.2.1.toNat) then min (f e.1.toNat) (f e.2.1.toNat) else f x
def labF (es : List Ed) : Nat → Nat := es.foldl labStep id
inductive Conn (es : List Ed) (x : Nat) : Nat → Prop
 | refl : Conn es x x
 | fwd {e : Ed} : e ∈ es → Conn es x e.1.toNat → Conn es x e.2.1.toNat
 | bwd {e : Ed} : e ∈ es → Conn es x e.2.1.toNat → Conn es x e.1.toNat
theorem Conn.trans {es : List Ed} {x y z : Nat} (h : Conn es x y) (g : Conn es y z) : Conn es x z := by
 induction g with
 | refl => exact h
 | fwd he _ ih => exact .fwd he ih
 | bwd he _ ih => exact .bwd he ih
theorem Conn.symm {es : List Ed} {x y : Nat} (h : Conn es x y) : Conn es y x := by
 induction h with
 | refl => exact .refl
 | fwd he _ ih => exact (Conn.bwd he .refl).trans ih
 | bwd he _ ih => exact (Conn.fwd he .refl).trans ih
structure LabOk (es : List Ed) (n : Nat) (f : Nat → Nat) : Prop where
 edge : ∀ e ∈ es, f e.1.toNat = f e.2.1.toNat
 le : ∀ x, x < n → f x ≤ x
 conn : ∀ x, x < n → Conn es x (f x)
theorem LabOk.same {es : List Ed} {n : Nat} {f : Nat → Nat} (h : LabOk es n f) {x y : Nat} (g : Conn es x y) : f x = f y := by
 induction g with
 | refl => rfl
 | fwd he _ ih => rw [ih, h.edge _ he]
 | bwd he _ ih => rw [ih, h.edge _ he]
theorem LabOk.least {es : List Ed} {n : Nat} {f g : Nat → Nat} (h : LabOk es n f) (k : LabOk es n g) {x : Nat} (hx : x < n) : f x ≤ g x := by
 rw [h.same (k.conn x hx)]
 exact h.le _ (Nat.lt_of_le_of_lt (k.le x hx) hx)
theorem LabOk.unique {es : List Ed} {n : Nat} {f g : Nat → Nat} (h : LabOk es n f) (k : LabOk es n g) {x : Nat} (hx : x < n) : f x = g x :=
 Nat.le_antisymm (h.least k hx) (k.least h hx)
theorem lab_ok {es : List Ed} {n : Nat} (hw : Within es n) : LabOk es n (labF es) := by
 have key : ∀ (p done : List Ed) (f : Nat → Nat), (∀ e ∈ p, e ∈ es) → (∀ e ∈ done, e ∈ es) → (∀ e ∈ done, f e.1.toNat = f e.2.1.toNat) → (∀ x, f x ≤ x) → (∀ x, Conn es x (f x)) →
   (∀ e ∈ done ++ p, (p.foldl labStep f) e.1.toNat = (p.foldl labStep f) e.2.1.toNat) ∧ (∀ x, (p.foldl labStep f) x ≤ x) ∧ ∀ x, Conn es x ((p.foldl labStep f) x) := by
  intro p
  induction p with
  | nil => intro done f _ _ h1 h2 h3; exact ⟨by simpa using h1, h2, h3⟩
  | cons e p ih =>
   intro done f hp hd h1 h2 h3
   have hee : e ∈ es := hp e (by simp)
   have q : ∀ x, labStep f e x = if f x = max (f e.1.toNat) (f e.2.1.toNat) then min (f e.1.toNat) (f e.2.1.toNat) else f x := fun x => rfl
   obtain ⟨A, hA⟩ : ∃ A, f e.1.toNat = A := ⟨_, rfl⟩
   obtain ⟨B, hB⟩ : ∃ B, f e.2.1.toNat = B := ⟨_, rfl⟩
   rw [hA, hB] at q
   have hAB : Conn es A B := (((hA ▸ h3 e.1.toNat).symm).trans (.fwd hee .refl)).trans (hB ▸ h3 e.2.1.toNat)
   have := ih (done ++ [e]) (labStep f e) (fun x hx => hp x (List.mem_cons_of_mem _ hx)) (fun x hx => by
    rcases List.mem_append.1 hx with hx | hx
    ·exact hd x hx
    ·rw [List.mem_singleton.1 hx]; exact hee) (fun x hx => by
    rcases List.mem_append.1 hx with hx | hx
    ·rw [q, q, h1 x hx]
    ·rw [List.mem_singleton.1 hx, q, q, hA, hB]
     (repeat' split) <;> omega) (fun x => by
    rw [q]; have := h2 x; split <;> omega) (fun x => by
    rw [q]
    split
    ·rename_i hx
     have h4 := h3 x
     rw [hx] at h4
     rcases Nat.le_total A B with h | h
     ·rw [Nat.min_eq_left h]; rw [Nat.max_eq_right h] at h4; exact h4.trans hAB.symm
     ·rw [Nat.min_eq_right h]; rw [Nat.max_eq_left h] at h4; exact h4.trans hAB
    ·exact h3 x)
   rw [List.append_assoc] at this
   exact this
 obtain ⟨h1, h2, h3⟩ := key es [] id (fun _ h => h) (by simp) (by simp) (fun x => Nat.le_refl _) (fun x => .refl)
 exact ⟨fun e he => h1 e (by simpa using he), fun x _ => h2 x, fun x _ => h3 x⟩
end Go.Proofs.YtgbahnlgblahpaaGreat
namespace Go.Proofs.YtgbahnlgblahpaaGreat
def inf : Int := 4611686018427387904
theorem dadd_eq (a b : Int) : dadd a b = min (dist a + dist b) inf := by unfold dadd inf; split <;> omega
theorem dist_mono {a b : Int} (h : a ≤ b) : dist a ≤ dist b := by unfold dist; (repeat' split) <;> omega
theorem dadd_mono {a b : Int} (c : Int) (h : a ≤ b) : dadd a c ≤ dadd b c := by
 have := dist_mono h
 rw [dadd_eq, dadd_eq]; omega
theorem dadd_rng (a b : Int) : 0 ≤ dadd a b ∧ dadd a b ≤ inf := by
 have h1 := dist_bounds a
 have h2 := dist_bounds b
 rw [dadd_eq]; unfold inf; omega
def step (l : List Int) (e : Ed) : List Int := l.set e.2.1.toNat (takeOf (at_ l e.2.1) true (dadd (at_ l e.1) e.2.2)).1
def round (es : List Ed) (l : List Int) : List Int := es.foldl step l
def roundsN (es : List Ed) : Nat → List Int → List Int
 | 0, l => l
 | n + 1, l => roundsN es n (round es l)
def start0 (M : Nat) (s : Int) : List Int := (List.range M).map fun (v : Nat) => startOf (v : Int) s
theorem take_min (a x : Int) (h : 0 ≤ x) : (takeOf a true x).1 = min a x := by
 unfold takeOf
 by_cases h : max x 0 < a
 ·rw [if_pos ⟨rfl, h⟩]; dsimp only; omega
 ·rw [if_neg (fun g => h g.2)]; dsimp only; omega
theorem step_len (l : List Int) (e : Ed) : (step l e).length = l.length := by unfold step; simp
theorem at_nat (l : List Int) (i : Nat) : at_ l (i : Int) = (l[i]?).getD 0 := by unfold at_; rw [Int.toNat_natCast]
theorem step_at (l : List Int) (e : Ed) (i : Nat) (hi : i < l.length) (he : 0 ≤ e.2.1) : at_ (step l e) (i : Int) = if (i : Int) = e.2.1 then min (at_ l e.2.1) (dadd (at_ l e.1) e.2.2) else at_ l (i : Int) := by
 unfold step
 rw [at_nat, List.getElem?_set]
 by_cases h : e.2.1.toNat = i
 ·rw [if_pos h, if_pos (by omega), if_pos (by omega), take_min _ _ (dadd_rng _ _).1]; rfl
 ·rw [if_neg h, if_neg (by omega), at_nat]
theorem round_len (es : List Ed) : ∀ l : List Int, (round es l).length = l.length := by
 unfold round
 induction es with
 | nil => intro l; rfl
 | cons e es ih => intro l; rw [List.foldl_cons, ih, step_len]
theorem at_lt {l : List Int} {i : Int} (h : 0 ≤ i) : at_ l i = at_ l (i.toNat : Int) := by rw [show ((i.toNat : Nat) : Int) = i by omega]
theorem ext_at {a b : List Int} (hl : a.length = b.length) (h : ∀ i : Nat, i < a.length → at_ a i = at_ b i) : a = b := by
 apply List.ext_getElem hl
 intro i h1 h2
 have := h i h1
 rw [at_nat, at_nat, List.getElem?_eq_getElem h1, List.getElem?_eq_getElem h2] at this
 exact this
def LeV (M : Nat) (a b : List Int) : Prop := ∀ i : Nat, i < M → at_ a i ≤ at_ b i
structure Feas (es : List Ed) (M : Nat) (s : Int) (F : List Int) : Prop where
 len : F.length = M
 src : at_ F s ≤ 0
 top : ∀ i : Nat, i < M → at_ F i ≤ inf
 edge : ∀ e ∈ es, at_ F e.2.1 ≤ dadd (at_ F e.1) e.2.2
structure Good (M : Nat) (s : Int) (l : List Int) : Prop where
 len : l.length = M
 src : at_ l s = 0
 rng : ∀ i : Nat, i < M → 0 ≤ at_ l i ∧ at_ l i ≤ inf
theorem good_start {es : List Ed} {M : Nat} {s : Int} (hw : Within es M) (hs0 : 0 ≤ s) (hs1 : s < M) : Good M s (start0 M s) := by
 have hat : ∀ i : Nat, i < M → at_ (start0 M s) i = startOf (i : Int) s := fun i hi => by
  rw [at_nat, start0, List.getElem?_map, List.getElem?_range hi]; rfl
 refine ⟨by simp [start0], ?_, fun i hi => ?_⟩
 ·rw [at_lt hs0, hat _ (by omega), startOf, if_pos (by omega)]
 ·rw [hat i hi, startOf]; unfold inf; split <;> omega
theorem feas_start {es : List Ed} {M : Nat} {s : Int} (hw : Within es M) (hs0 : 0 ≤ s) (hs1 : s < M) {F : List Int} (hF : Feas es M s F) : LeV M F (start0 M s) := fun i hi => by
 rw [at_nat (start0 M s), start0, List.getElem?_map, List.getElem?_range hi]
 show at_ F i ≤ startOf (i : Int) s
 unfold startOf
 split
 ·rename_i h; rw [h]; exact hF.src
 ·have := hF.top i hi; unfold inf at this; exact this
theorem good_step {es : List Ed} {M : Nat} {s : Int} (hw : Within es M) (hs0 : 0 ≤ s) (hs1 : s < M) {l : List Int} (h : Good M s l) {e : Ed} (he : e ∈ es) : Good M s (step l e) := by
 obtain ⟨w1, w2, w3, w4⟩ := hw e he
 have r1 := dadd_rng (at_ l e.1) e.2.2
 have r2 := h.rng e.2.1.toNat (by omega)
 rw [← at_lt w3] at r2
 refine ⟨by rw [step_len, h.len], ?_, fun i hi => ?_⟩
 ·rw [at_lt hs0, step_at l e _ (by rw [h.len]; omega) w3]
  split
  ·rename_i hq
   have : at_ l e.2.1 = 0 := by rw [← hq, ← at_lt hs0]; exact h.src
   omega
  ·rw [← at_lt hs0]; exact h.src
 ·rw [step_at l e i (by rw [h.len]; exact hi) w3]
  split
  ·omega
  ·exact h.rng i hi
theorem le_step {es : List Ed} {M : Nat} {s : Int} (hw : Within es M) (hs0 : 0 ≤ s) (hs1 : s < M) {l F : List Int} (hl : l.length = M) (hF : Feas es M s F) (h : LeV M F l) {e : Ed} (he : e ∈ es) : LeV M F (step l e) := fun i hi => by
 obtain ⟨w1, w2, w3, w4⟩ := hw e he
 rw [step_at l e i (by omega) w3]
 split
 ·rename_i hq
  have h1 := h e.2.1.toNat (by omega)
  have h2 := h e.1.toNat (by omega)
  rw [← at_lt w3, ← at_lt w3] at h1
  rw [← at_lt w1, ← at_lt w1] at h2
  have h3 := hF.edge e he
  have h4 := dadd_mono e.2.2 h2
  rw [hq]; omega
 ·exact h i hi
theorem step_le {es : List Ed} {M : Nat} {s : Int} (hw : Within es M) (hs0 : 0 ≤ s) (hs1 : s < M) {l : List Int} (hl : l.length = M) {e : Ed} (he : e ∈ es) : LeV M (step l e) l := fun i hi => by
 obtain ⟨w1, w2, w3, w4⟩ := hw e he
 rw [step_at l e i (by omega) w3]
 split
 ·rename_i hq; rw [hq]; omega
 ·exact Int.le_refl _
theorem fold_all {es : List Ed} {M : Nat} {s : Int} (hw : Within es M) (hs0 : 0 ≤ s) (hs1 : s < M) {D : List Int} (hD : Feas es M s D) : ∀ (p : List Ed) (l : List Int), (∀ e ∈ p, e ∈ es) → Good M s l → LeV M D l →
  Good M s (p.foldl step l) ∧ LeV M D (p.foldl step l) ∧ LeV M (p.foldl step l) l ∧ (∀ e ∈ p, at_ l e.1 = at_ D e.1 → dadd (at_ D e.1) e.2.2 = at_ D e.2.1 → at_ (p.foldl step l) e.2.1 = at_ D e.2.1) := by
 intro p
 induction p with
 | nil => intro l _ hg hl; exact ⟨hg, hl, fun i _ => Int.le_refl _, fun e he => by cases he⟩
 | cons x p ih =>
  intro l hm hg hl
  have hx := hm x (by simp)
  obtain ⟨i1, i2, i3, i4⟩ := ih (step l x) (fun e he => hm e (List.mem_cons_of_mem _ he)) (good_step hw hs0 hs1 hg hx) (le_step hw hs0 hs1 hg.len hD hl hx)
  have h3 := step_le hw hs0 hs1 hg.len hx
  rw [List.foldl_cons]
  refine ⟨i1, i2, fun i hi => Int.le_trans (i3 i hi) (h3 i hi), fun e he h1 h2 => ?_⟩
  obtain ⟨w1, w2, w3, w4⟩ := hw e (hm e he)
  rcases List.mem_cons.1 he with rfl | he
  ·have ha := i2 e.2.1.toNat (by omega)
   have hb := i3 e.2.1.toNat (by omega)
   rw [step_at l e _ (by rw [hg.len]; omega) w3, if_pos (by omega), h1, h2] at hb
   rw [← at_lt w3, ← at_lt w3] at ha
   rw [← at_lt w3] at hb
   omega
  ·refine i4 e he ?_ h2
   have ha := le_step hw hs0 hs1 hg.len hD hl hx e.1.toNat (by omega)
   have hb := h3 e.1.toNat (by omega)
   rw [← at_lt w1, ← at_lt w1] at ha hb
   omega
theorem fold_fix {es : List Ed} {M : Nat} {s : Int} (hw : Within es M) (hs0 : 0 ≤ s) (hs1 : s < M) : ∀ (p : List Ed) (l : List Int), (∀ e ∈ p, e ∈ es) → l.length = M → LeV M (p.foldl step l) l ∧ (LeV M l (p.foldl step l) → ∀ e ∈ p, at_ l e.2.1 ≤ dadd (at_ l e.1) e.2.2) := by
 intro p
 induction p with
 | nil => intro l _ _; exact ⟨fun i _ => Int.le_refl _, fun _ e he => by cases he⟩
 | cons x p ih =>
  intro l hm hl
  have hx := hm x (by simp)
  have hl' : (step l x).length = M := by rw [step_len, hl]
  obtain ⟨i1, i2⟩ := ih (step l x) (fun e he => hm e (List.mem_cons_of_mem _ he)) hl'
  have h3 := step_le hw hs0 hs1 hl hx
  rw [List.foldl_cons]
  refine ⟨fun i hi => Int.le_trans (i1 i hi) (h3 i hi), fun heq e he => ?_⟩
  have hsx : step l x = l := ext_at (by rw [hl', hl]) (fun i hi => by
   have a := h3 i (by omega)
   have b := heq i (by omega)
   have c := i1 i (by omega)
   omega)
  rcases List.mem_cons.1 he with rfl | he
  ·obtain ⟨w1, w2, w3, w4⟩ := hw e hx
   have := step_at l e e.2.1.toNat (by omega) w3
   rw [hsx, if_pos (by omega), ← at_lt w3] at this
   omega
  ·rw [hsx] at i2 heq
   exact i2 heq e he
def sumV (l : List Int) : Nat := (l.map Int.toNat).sum
theorem sum_le : ∀ {a b : List Int}, a.length = b.length → (∀ i : Nat, i < b.length → 0 ≤ at_ a i ∧ at_ a i ≤ at_ b i) → sumV a ≤ sumV b ∧ (sumV a = sumV b → a = b) := by
 intro a
 induction a with
 | nil => intro b hl _; cases b with
  | nil => exact ⟨Nat.le_refl _, fun _ => rfl⟩
  | cons _ _ => cases hl
 | cons x a ih =>
  intro b hl h
  cases b with
  | nil => cases hl
  | cons y b =>
   have h0 := h 0 (by simp)
   rw [at_nat, at_nat] at h0
   simp only [List.getElem?_cons_zero, Option.getD_some] at h0
   obtain ⟨i1, i2⟩ := ih (b := b) (by simpa using hl) (fun i hi => by
    have := h (i + 1) (by simpa using hi)
    rw [at_nat, at_nat] at this ⊢
    simpa using this)
   unfold sumV at i1 i2 ⊢
   rw [List.map_cons, List.map_cons, List.sum_cons, List.sum_cons]
   refine ⟨by omega, fun e => ?_⟩
   rw [i2 (by omega), show x = y by omega]
theorem greatest {es : List Ed} {M : Nat} {s : Int} (hw : Within es M) (hs0 : 0 ≤ s) (hs1 : s < M) : ∀ (k : Nat) (l : List Int), sumV l ≤ k → Good M s l → (∀ F, Feas es M s F → LeV M F l) → ∃ D, Good M s D ∧ Feas es M s D ∧ ∀ F, Feas es M s F → LeV M F D := by
 intro k
 induction k with
 | zero =>
  intro l hk hg hF
  have hgood : ∀ p : List Ed, (∀ e ∈ p, e ∈ es) → ∀ l, Good M s l → Good M s (p.foldl step l) := fun p => by
   induction p with
   | nil => intro _ l h; exact h
   | cons x p ih => intro hm l h; exact ih (fun e he => hm e (List.mem_cons_of_mem _ he)) _ (good_step hw hs0 hs1 h (hm x (by simp)))
  obtain ⟨h1, h2⟩ := fold_fix hw hs0 hs1 es l (fun _ h => h) hg.len
  have hgr := hgood es (fun _ h => h) l hg
  have hsum := sum_le (a := es.foldl step l) (b := l) (by rw [hgr.len, hg.len]) (fun i hi => ⟨(hgr.rng i (by rw [← hg.len]; exact hi)).1, h1 i (by rw [← hg.len]; exact hi)⟩)
  have heq := hsum.2 (by omega)
  refine ⟨l, hg, ⟨hg.len, by rw [hg.src]; exact Int.le_refl _, fun i hi => (hg.rng i hi).2, h2 (by rw [heq]; exact fun i _ => Int.le_refl _)⟩, hF⟩
 | succ k ih =>
  intro l hk hg hF
  have hgood : ∀ p : List Ed, (∀ e ∈ p, e ∈ es) → ∀ l, Good M s l → Good M s (p.foldl step l) := fun p => by
   induction p with
   | nil => intro _ l h; exact h
   | cons x p ih => intro hm l h; exact ih (fun e he => hm e (List.mem_cons_of_mem _ he)) _ (good_step hw hs0 hs1 h (hm x (by simp)))
  have hkeep : ∀ p : List Ed, (∀ e ∈ p, e ∈ es) → ∀ l, Good M s l → (∀ F, Feas es M s F → LeV M F l) → ∀ F, Feas es M s F → LeV M F (p.foldl step l) := fun p => by
   induction p with
   | nil => intro _ l _ h; exact h
   | cons x p ih => intro hm l hg h; exact ih (fun e he => hm e (List.mem_cons_of_mem _ he)) _ (good_step hw hs0 hs1 hg (hm x (by simp))) (fun F hF => le_step hw hs0 hs1 hg.len hF (h F hF) (hm x (by simp)))
  obtain ⟨h1, h2⟩ := fold_fix hw hs0 hs1 es l (fun _ h => h) hg.len
  have hgr := hgood es (fun _ h => h) l hg
  have hsum := sum_le (a := es.foldl step l) (b := l) (by rw [hgr.len, hg.len]) (fun i hi => ⟨(hgr.rng i (by rw [← hg.len]; exact hi)).1, h1 i (by rw [← hg.len]; exact hi)⟩)
  by_cases hlt : sumV (es.foldl step l) = sumV l
  ·have heq := hsum.2 hlt
   refine ⟨l, hg, ⟨hg.len, by rw [hg.src]; exact Int.le_refl _, fun i hi => (hg.rng i hi).2, h2 (by rw [heq]; exact fun i _ => Int.le_refl _)⟩, hF⟩
  ·exact ih (es.foldl step l) (by omega) hgr (hkeep es (fun _ h => h) l hg hF)
theorem exists_D {es : List Ed} {M : Nat} {s : Int} (hw : Within es M) (hs0 : 0 ≤ s) (hs1 : s < M) : ∃ D, Good M s D ∧ Feas es M s D ∧ ∀ F, Feas es M s F → LeV M F D :=
 greatest hw hs0 hs1 _ _ (Nat.le_refl _) (good_start hw hs0 hs1) (fun F hF => feas_start hw hs0 hs1 hF)
def rowOf (M : Nat) (f : Nat → Int) : List Int := (List.range M).map f
theorem rowOf_at {M : Nat} (f : Nat → Int) {i : Nat} (h : i < M) : at_ (rowOf M f) i = f i := by
 rw [at_nat, rowOf, List.getElem?_map, List.getElem?_range h]; rfl
def rowB (M : Nat) (f : Nat → Bool) : List Bool := (List.range M).map f
theorem rowB_at {M : Nat} (f : Nat → Bool) {i : Int} (h0 : 0 ≤ i) (h : i < M) : bat (rowB M f) i = f i.toNat := by
 unfold bat
 rw [rowB, List.getElem?_map, List.getElem?_range (by omega)]; rfl
theorem rowB_true {M : Nat} (f : Nat → Bool) {i : Int} (h : bat (rowB M f) i = true) : i.toNat < M ∧ f i.toNat = true := by
 unfold bat rowB at h
 by_cases hi : i.toNat < M
 ·rw [List.getElem?_map, List.getElem?_range hi] at h
  exact ⟨hi, h⟩
 ·rw [List.getElem?_eq_none (by simp; omega)] at h
  cases h
theorem first_bat {es : List Ed} {M : Nat} {s : Int} (hw : Within es M) (hs0 : 0 ≤ s) (hs1 : s < M) (q : List Bool) (hq : q[s.toNat]? = some true) : Le (first (M : Int) s) q := fun i hi => by
 unfold first at hi
 rcases (bat_set _ _ _).1 hi with ⟨h, _⟩ | h
 ·unfold bat; rw [h, hq]; rfl
 ·unfold bat at h
  rw [List.getElem?_replicate] at h
  split at h <;> cases h
theorem attained {es : List Ed} {M : Nat} {s : Int} (hw : Within es M) (hs0 : 0 ≤ s) (hs1 : s < M) {D : List Int} (hg : Good M s D) (hD : Feas es M s D) (hmax : ∀ F, Feas es M s F → LeV M F D) {r : List Bool} (hr : Shut_ D es r) (hl : r.length = M) (hfirst : Le (first (M : Int) s) r) {i : Nat} (hi : i < M) (hfin : at_ D i < inf) : bat r i = true := by
 cases hb : bat r i with
 | true => rfl
 | false =>
  have hsr : bat r s = true := hfirst s (by unfold first; exact (bat_set _ _ _).2 (.inl ⟨rfl, by simp; omega⟩))
  have hF : Feas es M s (rowOf M fun j => if bat r j = true then at_ D j else min (at_ D j + 1) inf) := by
   refine ⟨by simp [rowOf], ?_, fun j hj => ?_, fun e he => ?_⟩
   ·rw [at_lt hs0, rowOf_at _ (by omega), ← at_lt hs0, show ((s.toNat : Nat) : Int) = s by omega, if_pos hsr, hg.src]; exact Int.le_refl _
   ·rw [rowOf_at _ hj]
    have := (hg.rng j hj).2
    split <;> omega
   ·obtain ⟨w1, w2, w3, w4⟩ := hw e he
    rw [at_lt w3, rowOf_at _ (by omega), at_lt w1, rowOf_at _ (by omega), ← at_lt w3, ← at_lt w1, show ((e.1.toNat : Nat) : Int) = e.1 by omega, show ((e.2.1.toNat : Nat) : Int) = e.2.1 by omega]
    have hE := hD.edge e he
    have r1 := hg.rng e.1.toNat (by omega)
    rw [← at_lt w1] at r1
    have d1 := dist_bounds e.2.2
    have r2 := dadd_rng (at_ D e.1) e.2.2
    have hm : dadd (at_ D e.1) e.2.2 ≤ dadd (min (at_ D e.1 + 1) inf) e.2.2 := dadd_mono _ (by omega)
    cases h1 : bat r e.1 with
    | true =>
     cases h2 : bat r e.2.1 with
     | true =>
      simp only [eq_self_iff_true, if_true]
      exact hE
     | false =>
      simp only [eq_self_iff_true, if_true, Bool.false_eq_true, if_false]
      have hne : ¬ dadd (at_ D e.1) e.2.2 = at_ D e.2.1 := fun h => by
       have := hr e he h1 h
       rw [h2] at this; cases this
      omega
    | false =>
     cases h2 : bat r e.2.1 with
     | true =>
      simp only [eq_self_iff_true, if_true, Bool.false_eq_true, if_false]
      omega
     | false =>
      simp only [Bool.false_eq_true, if_false]
      rw [dadd_eq] at hE hm r2 ⊢
      have e1 : dist (at_ D e.1) = at_ D e.1 := by unfold dist; unfold inf at r1; split <;> (try split) <;> omega
      have e2 : dist (min (at_ D e.1 + 1) inf) = min (at_ D e.1 + 1) inf := by unfold dist inf; unfold inf at r1; split <;> (try split) <;> omega
      rw [e2]
      rw [e1] at hE
      omega
  have := hmax _ hF i hi
  rw [rowOf_at _ hi, hb, if_neg (by simp)] at this
  omega
theorem count_lt {es : List Ed} {M : Nat} {s : Int} (hw : Within es M) (hs0 : 0 ≤ s) (hs1 : s < M) (a b : Nat → Bool) : ∀ n : Nat, (∀ i, i < n → a i = true → b i = true) → ((List.range n).countP a ≤ (List.range n).countP b) ∧ ((∃ i, i < n ∧ b i = true ∧ a i = false) → (List.range n).countP a < (List.range n).countP b) := by
 intro n
 induction n with
 | zero => intro _; exact ⟨Nat.le_refl _, fun ⟨i, h, _⟩ => by omega⟩
 | succ n ih =>
  intro h
  obtain ⟨i1, i2⟩ := ih (fun i hi => h i (by omega))
  rw [List.range_succ, List.countP_append, List.countP_append, List.countP_singleton, List.countP_singleton]
  have hn := h n (by omega)
  constructor
  ·cases ha : a n <;> cases hb : b n <;> simp_all <;> omega
  ·rintro ⟨i, hi, h1, h2⟩
   by_cases e : i = n
   ·subst e
    rw [h1, h2]
    simp only [if_true, Bool.false_eq_true, if_false]
    omega
   ·have := i2 ⟨i, by omega, h1, h2⟩
    cases ha : a n <;> cases hb : b n <;> simp_all <;> omega
def unlike (D l : List Int) (i : Nat) : Bool := decide (at_ l i ≠ at_ D i)
theorem round_less {es : List Ed} {M : Nat} {s : Int} (hw : Within es M) (hs0 : 0 ≤ s) (hs1 : s < M) {D l : List Int} (hgD : Good M s D) (hD : Feas es M s D) (hmax : ∀ F, Feas es M s F → LeV M F D) (hg : Good M s l) (hl : LeV M D l) :
  Good M s (round es l) ∧ LeV M D (round es l) ∧ ((List.range M).countP (unlike D (round es l)) < (List.range M).countP (unlike D l) ∨ l = D) := by
 obtain ⟨h1, h2, h3, h4⟩ := fold_all hw hs0 hs1 hD es l (fun _ h => h) hg hl
 refine ⟨h1, h2, ?_⟩
 by_cases hc : ∃ e ∈ es, at_ l e.1 = at_ D e.1 ∧ dadd (at_ D e.1) e.2.2 = at_ D e.2.1 ∧ at_ l e.2.1 ≠ at_ D e.2.1
 ·left
  obtain ⟨e, he, g1, g2, g3⟩ := hc
  obtain ⟨w1, w2, w3, w4⟩ := hw e he
  refine (count_lt hw hs0 hs1 _ _ M (fun i hi hu => ?_)).2 ⟨e.2.1.toNat, by omega, ?_, ?_⟩
  ·unfold unlike at hu ⊢
   simp only [decide_eq_true_eq] at hu ⊢
   intro e
   have a := h2 i hi
   have b := h3 i hi
   exact hu (Int.le_antisymm (by rw [← e]; exact b) a)
  ·unfold unlike
   rw [← at_lt w3, ← at_lt w3]
   exact decide_eq_true g3
  ·unfold unlike
   rw [← at_lt w3, ← at_lt w3]
   exact decide_eq_false (fun h => h (h4 e he g1 g2))
 ·right
  have hshut : Shut_ D es (rowB M fun i => decide (at_ l i = at_ D i)) := fun e he a b => by
   obtain ⟨w1, w2, w3, w4⟩ := hw e he
   rw [rowB_at _ w1 w2, ← at_lt w1, ← at_lt w1] at a
   rw [rowB_at _ w3 w4, ← at_lt w3, ← at_lt w3]
   refine decide_eq_true ?_
   apply Classical.byContradiction
   intro hn
   exact hc ⟨e, he, by simpa using a, b, hn⟩
  refine ext_at (by rw [hg.len, hgD.len]) (fun i hi => ?_)
  have hi' : i < M := by rw [← hg.len]; exact hi
  by_cases hfin : at_ D i < inf
  ·have := attained hw hs0 hs1 hgD hD hmax hshut (by simp [rowB]) (first_bat hw hs0 hs1 _ (by
    rw [rowB, List.getElem?_map, List.getElem?_range (by omega)]
    simp only [Option.map_some]
    rw [← at_lt hs0, ← at_lt hs0, hg.src, hgD.src, decide_eq_true rfl])) hi' hfin
   obtain ⟨_, h⟩ := rowB_true _ this
   simpa using h
  ·have a := hl i hi'
   have b := (hg.rng i hi').2
   have c := (hgD.rng i hi').2
   omega
theorem rounds_D {es : List Ed} {M : Nat} {s : Int} (hw : Within es M) (hs0 : 0 ≤ s) (hs1 : s < M) {D : List Int} (hgD : Good M s D) (hD : Feas es M s D) (hmax : ∀ F, Feas es M s F → LeV M F D) : ∀ (n : Nat) (l : List Int), Good M s l → LeV M D l → (List.range M).countP (unlike D l) < n → roundsN es n l = D := by
 have hfix : round es D = D := by
  obtain ⟨h1, h2, _⟩ := round_less hw hs0 hs1 hgD hD hmax hgD (fun i _ => Int.le_refl _)
  have h3 := (fold_fix hw hs0 hs1 es D (fun _ h => h) hgD.len).1
  exact ext_at (by rw [h1.len, hgD.len]) (fun i hi => Int.le_antisymm (h3 i (by rw [← h1.len]; exact hi)) (h2 i (by rw [← h1.len]; exact hi)))
 have hfixn : ∀ n, roundsN es n D = D := fun n => by
  induction n with
  | zero => rfl
  | succ n ih => rw [roundsN, hfix, ih]
 intro n
 induction n with
 | zero => intro l _ _ h; omega
 | succ n ih =>
  intro l hg hl hc
  obtain ⟨h1, h2, h3⟩ := round_less hw hs0 hs1 hgD hD hmax hg hl
  rcases h3 with h3 | rfl
  ·rw [roundsN]
   exact ih _ h1 h2 (by omega)
  ·exact hfixn _
def relaxedF (V : Int) (es : List Ed) (s : Int) : List Int := roundsN es V.toNat (start0 V.toNat s)
end Go.Proofs.YtgbahnlgblahpaaGreat
namespace Go.Proofs.YtgbahnlgblahpaaGreat
theorem at_set (l : List Int) (k x : Nat) (v : Int) (hk : k < l.length) : at_ (l.set k v) (x : Int) = if x = k then v else at_ l (x : Int) := by
 rw [at_nat, at_nat, List.getElem?_set]
 by_cases h : k = x
 ·subst h; simp [hk]
 ·rw [if_neg h, if_neg (fun g => h g.symm)]
structure DocO (es : List Ed) (n v : Nat) (l : List Int) : Prop where
 len : l.length = n
 val : ∀ x : Nat, x < n → at_ l (x : Int) = -1 ∨ ∃ k : Nat, at_ l (x : Int) = (k : Int) ∧ k < v ∧ k ≤ x ∧ Conn es x k
 old : ∀ x : Nat, x < n → x < v → at_ l (x : Int) ≠ -1
 edge : ∀ e ∈ es, at_ l e.1 = at_ l e.2.1
structure DocI (es : List Ed) (n v : Nat) (l0 l : List Int) (todo : List Nat) : Prop where
 len : l.length = n
 mem : ∀ x ∈ todo, x < n ∧ at_ l0 (x : Int) = -1 ∧ Conn es x v ∧ v ≤ x ∧ at_ l (x : Int) = (v : Int)
 oth : ∀ x : Nat, x < n → x ∉ todo → at_ l (x : Int) = at_ l0 (x : Int)
def Done (todo : List Nat) (y : Nat) (e : Ed) : Prop := (e.1.toNat = y → e.2.1.toNat ∈ todo) ∧ (e.2.1.toNat = y → e.1.toNat ∈ todo)
def Prog (es : List Ed) (todo : List Nat) (i k : Nat) : Prop := (∀ j y, j < i → todo[j]? = some y → ∀ e ∈ es, Done todo y e) ∧ ∀ y, todo[i]? = some y → ∀ e ∈ es.take k, Done todo y e
theorem Done.more {todo : List Nat} {y : Nat} {e : Ed} (h : Done todo y e) (x : Nat) : Done (todo ++ [x]) y e := ⟨fun q => List.mem_append_left _ (h.1 q), fun q => List.mem_append_left _ (h.2 q)⟩
theorem Prog.more {es : List Ed} {todo : List Nat} {i k : Nat} (h : Prog es todo i k) (hi : i < todo.length) (x : Nat) : Prog es (todo ++ [x]) i k := by
 refine ⟨fun j y hj hy e he => (h.1 j y hj ?_ e he).more x, fun y hy e he => (h.2 y ?_ e he).more x⟩
 ·rwa [List.getElem?_append_left (by omega)] at hy
 ·rwa [List.getElem?_append_left hi] at hy
theorem Prog.first (es : List Ed) (v : Nat) : Prog es [v] 0 0 := ⟨fun j y hj => absurd hj (Nat.not_lt_zero _), fun y _ e he => by simp at he⟩
theorem Prog.step {es : List Ed} {todo : List Nat} {i k y : Nat} {e : Ed} (h : Prog es todo i k) (he : es[k]? = some e) (hy : todo[i]? = some y) (hd : Done todo y e) : Prog es todo i (k + 1) := by
 refine ⟨h.1, fun z hz x hx => ?_⟩
 obtain rfl : y = z := by rw [hy] at hz; injection hz
 rw [List.take_add_one, he] at hx
 rcases List.mem_append.1 hx with hx | hx
 ·exact h.2 y hy x hx
 ·rw [show x = e by simpa using hx]; exact hd
theorem Prog.next {es : List Ed} {todo : List Nat} {i : Nat} (h : Prog es todo i es.length) : Prog es todo (i + 1) 0 := by
 refine ⟨fun j y hj hy e he => ?_, fun y hy e he => by simp at he⟩
 by_cases hji : j = i
 ·subst hji; exact h.2 y hy e (by rw [List.take_length]; exact he)
 ·exact h.1 j y (by omega) hy e he
section
variable {es : List Ed} {n v : Nat} {l0 l : List Int} {todo : List Nat}
theorem DocO.zero (hw : Within es n) : DocO es n 0 (List.replicate n (-1)) := by
 have h : ∀ x : Nat, x < n → at_ (List.replicate n (-1)) (x : Int) = -1 := fun x hx => by
  rw [at_nat, List.getElem?_replicate, if_pos hx]; rfl
 refine ⟨by simp, fun x hx => .inl (h x hx), fun x _ hx => absurd hx (Nat.not_lt_zero _), fun e he => ?_⟩
 obtain ⟨h1, h2, h3, h4⟩ := hw e he
 rw [at_lt h1, at_lt h3, h _ (by omega), h _ (by omega)]
theorem DocO.skip (h : DocO es n v l) (hv : ¬ at_ l (v : Int) < 0) : DocO es n (v + 1) l := by
 refine ⟨h.len, fun x hx => (h.val x hx).imp_right (fun ⟨k, h1, h2, h3⟩ => ⟨k, h1, by omega, h3⟩), fun x hx hxv => ?_, h.edge⟩
 by_cases e : x = v
 ·subst e; omega
 ·exact h.old x hx (by omega)
theorem DocO.neg (h : DocO es n v l0) {x : Nat} (hx : x < n) (hn : at_ l0 (x : Int) < 0) : at_ l0 (x : Int) = -1 ∧ v ≤ x := by
 rcases h.val x hx with h1 | ⟨k, h1, _⟩
 ·refine ⟨h1, ?_⟩
  rcases Nat.lt_or_ge x v with h2 | h2
  ·exact absurd h1 (h.old x hx h2)
  ·exact h2
 ·omega
theorem DocI.first (h : DocO es n v l0) (hv : v < n) (hn : at_ l0 (v : Int) < 0) : DocI es n v l0 (l0.set v (v : Int)) [v] := by
 refine ⟨by rw [List.length_set]; exact h.len, fun x hx => ?_, fun x hx hm => ?_⟩
 ·obtain rfl : x = v := by simpa using hx
  exact ⟨hv, (h.neg hv hn).1, .refl, Nat.le_refl _, by rw [at_set _ _ _ _ (by rw [h.len]; exact hv), if_pos rfl]⟩
 ·rw [at_set _ _ _ _ (by rw [h.len]; exact hv), if_neg (by simpa using hm)]
theorem DocI.push (h0 : DocO es n v l0) (h : DocI es n v l0 l todo) {x : Nat} (hx : x < n) (hn : at_ l (x : Int) < 0) (hc : Conn es x v) : DocI es n v l0 (l.set x (v : Int)) (todo ++ [x]) := by
 have hnm : x ∉ todo := fun hm => by have := (h.mem x hm).2.2.2.2; omega
 have hl := h.oth x hx hnm
 rw [hl] at hn
 have hk := h0.neg hx hn
 have hlx : x < l.length := by rw [h.len]; exact hx
 refine ⟨by rw [List.length_set]; exact h.len, fun y hy => ?_, fun y hy hm => ?_⟩
 ·rcases List.mem_append.1 hy with hy | hy
  ·obtain ⟨q1, q2, q3, q4, q5⟩ := h.mem y hy
   refine ⟨q1, q2, q3, q4, ?_⟩
   rw [at_set _ _ _ _ hlx]
   split
   ·rfl
   ·exact q5
  ·obtain rfl : y = x := by simpa using hy
   exact ⟨hx, hk.1, hc, hk.2, by rw [at_set _ _ _ _ hlx, if_pos rfl]⟩
 ·rw [at_set _ _ _ _ hlx, if_neg (fun e => hm (List.mem_append_right _ (by simp [e])))]
  exact h.oth y hy (fun g => hm (List.mem_append_left _ g))
theorem DocI.finish (h0 : DocO es n v l0) (h : DocI es n v l0 l todo) (hw : Within es n) (hv : v ∈ todo) (hp : Prog es todo todo.length 0) : DocO es n (v + 1) l := by
 have hall : ∀ y ∈ todo, ∀ e ∈ es, Done todo y e := fun y hy e he => by
  obtain ⟨j, hj, rfl⟩ := List.getElem_of_mem hy
  exact hp.1 j _ hj (List.getElem?_eq_getElem hj) e he
 refine ⟨h.len, fun x hx => ?_, fun x hx hxv => ?_, fun e he => ?_⟩
 ·by_cases hm : x ∈ todo
  ·obtain ⟨_, _, q3, q4, q5⟩ := h.mem x hm
   exact .inr ⟨v, q5, by omega, q4, q3⟩
  ·rw [h.oth x hx hm]
   exact (h0.val x hx).imp_right (fun ⟨k, h1, h2, h3⟩ => ⟨k, h1, by omega, h3⟩)
 ·by_cases hm : x ∈ todo
  ·rw [(h.mem x hm).2.2.2.2]; omega
  ·rw [h.oth x hx hm]
   have : x ≠ v := fun e => hm (e ▸ hv)
   exact h0.old x hx (by omega)
 ·obtain ⟨w1, w2, w3, w4⟩ := hw e he
  have d := h0.edge e he
  rw [at_lt w1, at_lt w3] at d ⊢
  by_cases hm : e.1.toNat ∈ todo
  ·have hm2 := (hall _ hm e he).1 rfl
   rw [(h.mem _ hm).2.2.2.2, (h.mem _ hm2).2.2.2.2]
  ·have hm2 : e.2.1.toNat ∉ todo := fun g => hm ((hall _ g e he).2 rfl)
   rw [h.oth _ (by omega) hm, h.oth _ (by omega) hm2, d]
end
end Go.Proofs.YtgbahnlgblahpaaGreat
namespace Go.Proofs.YtgbahnlgblahpaaGreat
abbrev Sp := Int × Int
def key (d : List Sp) (k : Nat) : Int := ((d[k]?).getD (0, 0)).2
def HeapO (d : List Sp) : Prop := ∀ k, 0 < k → k < d.length → key d ((k - 1) / 2) ≤ key d k
theorem key_get {d : List Sp} {k : Nat} {x : Sp} (h : d[k]? = some x) : key d k = x.2 := by unfold key; rw [h]; rfl
theorem key_swap {d : List Sp} {i j : Nat} {x y : Sp} (hx : d[i]? = some x) (hy : d[j]? = some y) (hij : i ≠ j) (k : Nat) :
  key ((d.set i y).set j x) k = if k = j then key d i else if k = i then key d j else key d k := by
 have hi := (List.getElem?_eq_some_iff.1 hx).1
 have hj := (List.getElem?_eq_some_iff.1 hy).1
 rw [key_get hx, key_get hy]
 unfold key
 rw [List.getElem?_set]
 by_cases h1 : j = k
 ·subst h1; rw [if_pos rfl, if_pos (by simpa using hj), if_pos rfl]; rfl
 ·rw [if_neg h1, if_neg (Ne.symm h1), List.getElem?_set]
  by_cases h2 : i = k
  ·subst h2; rw [if_pos rfl, if_pos hi, if_pos rfl]; rfl
  ·rw [if_neg h2, if_neg (Ne.symm h2)]
theorem swap_perm {d : List Sp} {i j : Nat} {x y : Sp} (hx : d[i]? = some x) (hy : d[j]? = some y) : ((d.set i y).set j x).Perm d := by
 obtain ⟨hi, rfl⟩ := List.getElem?_eq_some_iff.1 hx
 obtain ⟨hj, rfl⟩ := List.getElem?_eq_some_iff.1 hy
 exact List.set_set_perm hi hj
theorem heap_min {d : List Sp} (h : HeapO d) : ∀ k, k < d.length → key d 0 ≤ key d k := fun k => by
 induction k using Nat.strongRecOn with
 | _ k ih =>
  intro hk
  by_cases h0 : k = 0
  ·subst h0; exact Int.le_refl _
  ·exact Int.le_trans (ih ((k - 1) / 2) (by omega) (by omega)) (h k (by omega) hk)
structure UpInv (d : List Sp) (j : Nat) : Prop where
 one : ∀ k, 0 < k → k < d.length → k ≠ j → key d ((k - 1) / 2) ≤ key d k
 two : ∀ k, 0 < k → k < d.length → (k - 1) / 2 = j → 0 < j → key d ((j - 1) / 2) ≤ key d k
theorem UpInv.step {d : List Sp} {i j : Nat} {x y : Sp} (h : UpInv d j) (hj : 0 < j) (hi : i = (j - 1) / 2) (hx : d[i]? = some x) (hy : d[j]? = some y) (hlt : y.2 < x.2) : UpInv ((d.set i y).set j x) i := by
 have hs := key_swap hx hy (by omega)
 have kx := key_get hx
 have ky := key_get hy
 have hjl := (List.getElem?_eq_some_iff.1 hy).1
 have hl : ((d.set i y).set j x).length = d.length := by simp
 constructor
 ·intro k hk hkl hki
  rw [hl] at hkl
  rw [hs, hs]
  by_cases h1 : k = j
  ·subst h1
   rw [if_pos rfl, if_neg (by omega), if_pos (by omega)]; omega
  ·have a1 := h.one k hk hkl h1
   rw [if_neg h1, if_neg hki]
   by_cases h2 : (k - 1) / 2 = j
   ·rw [if_pos h2, hi]; exact h.two k hk hkl h2 hj
   ·rw [if_neg h2]
    by_cases h3 : (k - 1) / 2 = i
    ·rw [if_pos h3]; rw [h3] at a1; omega
    ·rw [if_neg h3]; exact a1
 ·intro k hk hkl hki hi0
  rw [hl] at hkl
  have a0 := h.one i hi0 (by omega) (by omega)
  rw [hs, hs, if_neg (by omega), if_neg (by omega)]
  by_cases h1 : k = j
  ·rw [if_pos h1]; exact a0
  ·rw [if_neg h1, if_neg (by omega)]
   have a1 := h.one k hk hkl h1
   rw [hki] at a1
   exact Int.le_trans a0 a1
theorem UpInv.stop {d : List Sp} {j : Nat} (h : UpInv d j) (hs : j = 0 ∨ ¬ key d j < key d ((j - 1) / 2)) : HeapO d := fun k hk hkl => by
 by_cases h1 : k = j
 ·subst h1
  rcases hs with h2 | h2 <;> omega
 ·exact h.one k hk hkl h1
theorem UpInv.push {d : List Sp} (h : HeapO d) (x : Sp) : UpInv (d ++ [x]) d.length := by
 have hk : ∀ k, k < d.length → key (d ++ [x]) k = key d k := fun k hk => by unfold key; rw [List.getElem?_append_left hk]
 constructor
 ·intro k h0 hkl hne
  rw [List.length_append, List.length_singleton] at hkl
  rw [hk _ (by omega), hk _ (by omega)]
  exact h k h0 (by omega)
 ·intro k h0 hkl hp hd
  rw [List.length_append, List.length_singleton] at hkl
  omega
structure DownInv (d : List Sp) (i : Nat) : Prop where
 one : ∀ k, 0 < k → k < d.length → (k - 1) / 2 ≠ i → key d ((k - 1) / 2) ≤ key d k
 two : ∀ k, 0 < k → k < d.length → (k - 1) / 2 = i → 0 < i → key d ((i - 1) / 2) ≤ key d k
theorem DownInv.step {d : List Sp} {i j : Nat} {x y : Sp} (h : DownInv d i) (hj : 0 < j) (hi : (j - 1) / 2 = i) (hx : d[i]? = some x) (hy : d[j]? = some y) (hlt : y.2 < x.2)
  (hm : ∀ k, 0 < k → k < d.length → (k - 1) / 2 = i → key d j ≤ key d k) : DownInv ((d.set i y).set j x) j := by
 have hs := key_swap hx hy (by omega)
 have kx := key_get hx
 have ky := key_get hy
 have hjl := (List.getElem?_eq_some_iff.1 hy).1
 have hl : ((d.set i y).set j x).length = d.length := by simp
 constructor
 ·intro k hk hkl hkj
  rw [hl] at hkl
  rw [hs, hs, if_neg hkj]
  by_cases h1 : k = j
  ·subst h1
   rw [if_pos rfl, if_pos hi]; omega
  ·rw [if_neg h1]
   by_cases h2 : k = i
   ·subst h2
    rw [if_pos rfl, if_neg (by omega)]; exact h.two j hj hjl hi hk
   ·rw [if_neg h2]
    by_cases h3 : (k - 1) / 2 = i
    ·rw [if_pos h3]; exact hm k hk hkl h3
    ·rw [if_neg h3]; exact h.one k hk hkl h3
 ·intro k hk hkl hkj _
  rw [hl] at hkl
  have a1 := h.one k hk hkl (by omega)
  rw [hkj] at a1
  rw [hs, hs, if_neg (by omega), if_pos (by omega), if_neg (by omega), if_neg (by omega)]
  exact a1
theorem DownInv.stop {d : List Sp} {i : Nat} (h : DownInv d i) (hs : ∀ k, 0 < k → k < d.length → (k - 1) / 2 = i → key d i ≤ key d k) : HeapO d := fun k hk hkl => by
 by_cases h1 : (k - 1) / 2 = i
 ·rw [h1]; exact hs k hk hkl h1
 ·exact h.one k hk hkl h1
theorem DownInv.first {d : List Sp} {y : Sp} (h : HeapO (d ++ [y])) (x : Sp) (d' : List Sp) (hd : d' = d.set 0 y) : DownInv d' 0 := by
 subst hd
 have hk : ∀ k, k ≠ 0 → k < d.length → key (d.set 0 y) k = key (d ++ [y]) k := fun k h0 hk => by
  unfold key
  rw [List.getElem?_append_left hk, List.getElem?_set, if_neg (by omega)]
 constructor
 ·intro k h0 hkl hne
  rw [List.length_set] at hkl
  rw [hk _ hne (by omega), hk _ (by omega) hkl]
  exact h k h0 (by simp; omega)
 ·intro k _ _ _ h0; omega
end Go.Proofs.YtgbahnlgblahpaaGreat
namespace Go.Proofs.YtgbahnlgblahpaaGreat
theorem dadd_ge {a : Int} (b : Int) (h0 : 0 ≤ a) (h1 : a ≤ inf) : a ≤ dadd a b := by
 have hb := (dist_bounds b).1
 have ha : dist a = a := by unfold dist; unfold inf at h1; rw [if_neg (by omega), if_neg (by omega)]
 rw [dadd_eq, ha]; omega
theorem dadd_inf (b : Int) : dadd inf b = inf := by
 have h := dadd_ge b (show 0 ≤ inf by unfold inf; omega) (Int.le_refl _)
 have h2 := (dadd_rng inf b).2
 omega
theorem fin_relaxed {es : List Ed} {V s : Int} {l : List Int} (hc : checkF V es = 0) (h0 : 0 ≤ s) (h1 : s < V) (hg : Good V.toNat s l) (hF : Feas es V.toNat s l) (hlow : ∀ F, Feas es V.toNat s F → LeV V.toNat F l) : l = relaxedF V es s := by
 obtain ⟨hV1, hV2, _⟩ := checkF_zero hc
 obtain ⟨M, rfl⟩ := Int.eq_ofNat_of_zero_le (show 0 ≤ V by omega)
 have hw := within_of hc
 rw [Int.toNat_natCast] at hw hg hF hlow
 obtain ⟨D, hgD, hD, hmax⟩ := exists_D hw h0 h1
 have hrel : relaxedF (M : Int) es s = D := by
  unfold relaxedF
  rw [Int.toNat_natCast]
  have hs := good_start hw h0 h1
  refine rounds_D hw h0 h1 hgD hD hmax M _ hs (feas_start hw h0 h1 hD) ?_
  have hle : (List.range M).countP (unlike D (start0 M s)) < (List.range M).countP (fun _ => true) := (count_lt hw h0 h1 _ _ M (fun _ _ _ => rfl)).2 ⟨s.toNat, by omega, rfl, by
   unfold unlike
   rw [← at_lt h0, ← at_lt h0, hs.src, hgD.src]; rfl⟩
  rw [List.countP_true, List.length_range] at hle
  exact hle
 rw [hrel]
 refine ext_at (by rw [hg.len, hgD.len]) (fun i hi => ?_)
 have hi' : i < M := by rw [← hg.len]; exact hi
 exact Int.le_antisymm (hmax l hF i hi') (hlow D hD i hi')
theorem step_lt {l : List Int} {e : Ed} (h : dadd (at_ l e.1) e.2.2 < at_ l e.2.1) : step l e = l.set e.2.1.toNat (dadd (at_ l e.1) e.2.2) := by
 unfold step
 rw [take_min _ _ (dadd_rng _ _).1, show min (at_ l e.2.1) (dadd (at_ l e.1) e.2.2) = dadd (at_ l e.1) e.2.2 by omega]
structure DI (es : List Ed) (M : Nat) (s : Int) (l : List Int) (h : List Sp) (S : Nat → Bool) (rest : List Ed) (m : Int) : Prop where
 good : Good M s l
 low : ∀ F, Feas es M s F → LeV M F l
 heap : HeapO h
 nod : h.Nodup
 spot : ∀ x ∈ h, ∃ v : Nat, x.1 = (v : Int) ∧ v < M ∧ at_ l (v : Int) ≤ x.2 ∧ x.2 ≤ inf ∧ (S v = true → at_ l (v : Int) < x.2)
 ord : ∀ x ∈ h, m ≤ x.2
 set_ : ∀ v, v < M → S v = true → at_ l (v : Int) ≤ m
 reach : ∀ v, v < M → S v = false → at_ l (v : Int) < inf → ((v : Int), at_ l (v : Int)) ∈ h
 done : ∀ e ∈ es, S e.1.toNat = true → e ∈ rest ∨ at_ l e.2.1 ≤ dadd (at_ l e.1) e.2.2
 cnt : h.length + es.countP (fun e => !S e.1.toNat) + rest.length ≤ 1 + es.length
section
variable {es : List Ed} {M : Nat} {s : Int} {l : List Int} {h h' : List Sp} {S : Nat → Bool} {rest : List Ed} {m : Int}
theorem DI.start (hw : Within es M) (h0 : 0 ≤ s) (h1 : s < M) : DI es M s (start0 M s) [(s, 0)] (fun _ => false) [] 0 := by
 have hs := good_start hw h0 h1
 refine ⟨hs, fun F hF => feas_start hw h0 h1 hF, fun k hk hkl => ?_, by simp, fun x hx => ?_, fun x hx => ?_, fun v _ h => (by cases h), fun v hv _ hlt => ?_, fun e _ h => (by cases h), ?_⟩
 ·simp at hkl; omega
 ·obtain rfl : x = (s, 0) := by simpa using hx
  refine ⟨s.toNat, by simp; omega, by omega, ?_, by show (0 : Int) ≤ inf; unfold inf; omega, fun h => (by cases h)⟩
  rw [← at_lt h0, hs.src]; exact Int.le_refl _
 ·obtain rfl : x = (s, 0) := by simpa using hx
  exact Int.le_refl _
 ·rw [at_nat, start0, List.getElem?_map, List.getElem?_range hv] at hlt ⊢
  have hlt' : startOf (v : Int) s < inf := hlt
  show ((v : Int), startOf (v : Int) s) ∈ [(s, (0 : Int))]
  unfold startOf at hlt' ⊢
  by_cases hvs : (v : Int) = s
  ·rw [if_pos hvs, hvs]; simp
  ·rw [if_neg hvs] at hlt'; unfold inf at hlt'; omega
 ·simp only [Bool.not_false, List.countP_true, List.length_singleton, List.length_nil]; omega
theorem DI.skip {x : Sp} (hd : DI es M s l h S [] m) (hp : (h' ++ [x]).Perm h) (hH : HeapO h') (hv : at_ l x.1 < x.2) : DI es M s l h' S [] m := by
 have hsub : ∀ y, y ∈ h' → y ∈ h := fun y hy => hp.mem_iff.1 (List.mem_append_left _ hy)
 have hnd : (h' ++ [x]).Nodup := hp.nodup_iff.2 hd.nod
 refine ⟨hd.good, hd.low, hH, (List.nodup_append.1 hnd).1, fun y hy => hd.spot y (hsub y hy), fun y hy => hd.ord y (hsub y hy), hd.set_, fun v hvM hS hlt => ?_, hd.done, ?_⟩
 ·rcases List.mem_append.1 (hp.mem_iff.2 (hd.reach v hvM hS hlt)) with h1 | h1
  ·exact h1
  ·have e : ((v : Int), at_ l (v : Int)) = x := by simpa using h1
   rw [← e] at hv
   exact absurd hv (Int.lt_irrefl _)
 ·have := hd.cnt
  have hl := hp.length_eq
  simp at hl
  omega
theorem count_settle (es : List Ed) (S : Nat → Bool) (v : Nat) (hw : Within es M) (hS : S v = false) :
  es.countP (fun e => !(if e.1.toNat = v then true else S e.1.toNat)) + (es.filter (fun e => e.1 == (v : Int))).length = es.countP (fun e => !S e.1.toNat) := by
 rw [← List.countP_eq_length_filter]
 induction es with
 | nil => rfl
 | cons e es ih =>
  have ih := ih (fun e he => hw e (List.mem_cons_of_mem _ he))
  obtain ⟨w1, _⟩ := hw e (by simp)
  rw [List.countP_cons, List.countP_cons, List.countP_cons]
  by_cases h : e.1.toNat = v
  ·have h2 : e.1 = (v : Int) := by omega
   have h3 : (e.1 == (v : Int)) = true := by simp [h2]
   rw [if_pos h, h3, h, hS]
   simp only [Bool.not_true, Bool.not_false, if_true]
   rw [if_neg (by decide)]
   omega
  ·have h3 : (e.1 == (v : Int)) = false := by simp; omega
   rw [if_neg h, h3]
   simp only [if_neg (show ¬ (false = true) by decide)]
   omega
theorem DI.settle {x : Sp} {v : Nat} (hw : Within es M) (hd : DI es M s l h S [] m) (hx0 : h[0]? = some x) (hp : (h' ++ [x]).Perm h) (hH : HeapO h') (hxv : x.1 = (v : Int)) (hv : ¬ at_ l x.1 < x.2) :
  v < M ∧ at_ l (v : Int) = x.2 ∧ S v = false ∧ DI es M s l h' (fun u => if u = v then true else S u) (es.filter (fun e => e.1 == (v : Int))) x.2 := by
 have hxh : x ∈ h := List.mem_of_getElem? hx0
 obtain ⟨v', e1, hvM, hle, hinf, hSx⟩ := hd.spot x hxh
 obtain rfl : v' = v := by omega
 rw [hxv] at hv
 have heq : at_ l (v' : Int) = x.2 := by omega
 have hSv : S v' = false := by
  cases h9 : S v' with
  | false => rfl
  | true => have := hSx h9; omega
 have hsub : ∀ y, y ∈ h' → y ∈ h := fun y hy => hp.mem_iff.1 (List.mem_append_left _ hy)
 have hnd : (h' ++ [x]).Nodup := hp.nodup_iff.2 hd.nod
 have hxn : x ∉ h' := fun hx => (List.nodup_append.1 hnd).2.2 x hx x (by simp) rfl
 have hmin : ∀ y ∈ h, x.2 ≤ y.2 := fun y hy => by
  obtain ⟨k, hk, rfl⟩ := List.getElem_of_mem hy
  have := heap_min hd.heap k hk
  rw [key_get hx0, key_get (List.getElem?_eq_getElem hk)] at this
  exact this
 refine ⟨hvM, heq, hSv, hd.good, hd.low, hH, (List.nodup_append.1 hnd).1, fun y hy => ?_, fun y hy => hmin y (hsub y hy), fun u hu hS => ?_, fun u hu hS hlt => ?_, fun e he hS => ?_, ?_⟩
 ·obtain ⟨u, f1, f2, f3, f4, f5⟩ := hd.spot y (hsub y hy)
  refine ⟨u, f1, f2, f3, f4, fun hS => ?_⟩
  by_cases hu : u = v'
  ·subst hu
   rcases Int.lt_or_eq_of_le f3 with h1 | h1
   ·exact h1
   ·exact absurd (show y = x from Prod.ext (f1.trans hxv.symm) (by omega)) (fun e => hxn (e ▸ hy))
  ·rw [if_neg hu] at hS; exact f5 hS
 ·by_cases huv : u = v'
  ·subst huv; omega
  ·rw [if_neg huv] at hS
   exact Int.le_trans (hd.set_ u hu hS) (hd.ord x hxh)
 ·by_cases huv : u = v'
  ·subst huv; simp at hS
  ·rw [if_neg huv] at hS
   rcases List.mem_append.1 (hp.mem_iff.2 (hd.reach u hu hS hlt)) with h1 | h1
   ·exact h1
   ·have e : ((u : Int), at_ l (u : Int)) = x := by simpa using h1
    rw [← e] at hxv
    have : (u : Int) = (v' : Int) := hxv
    omega
 ·obtain ⟨w1, _⟩ := hw e he
  by_cases huv : e.1.toNat = v'
  ·exact .inl (List.mem_filter.2 ⟨he, by simp; omega⟩)
  ·rw [if_neg huv] at hS
   exact .inr ((hd.done e he hS).resolve_left (by simp))
 ·have h1 := hd.cnt
  have h2 := count_settle es S v' hw hSv
  have hl := hp.length_eq
  simp only [List.length_append, List.length_singleton] at hl
  simp only [List.length_nil] at h1
  omega
theorem DI.pass {e : Ed} (hd : DI es M s l h S (e :: rest) m) (hge : ¬ dadd (at_ l e.1) e.2.2 < at_ l e.2.1) : DI es M s l h S rest m := by
 refine ⟨hd.good, hd.low, hd.heap, hd.nod, hd.spot, hd.ord, hd.set_, hd.reach, fun f hf hS => ?_, ?_⟩
 ·rcases hd.done f hf hS with h1 | h1
  ·rcases List.mem_cons.1 h1 with rfl | h1
   ·exact .inr (by omega)
   ·exact .inl h1
  ·exact .inr h1
 ·have := hd.cnt
  simp only [List.length_cons] at this
  omega
theorem DI.near {e : Ed} {t : Nat} {d : Int} (hw : Within es M) (h0 : 0 ≤ s) (h1 : s < M) (hd : DI es M s l h S (e :: rest) m) (hee : e ∈ es) (hm : at_ l e.1 = m) (ht : e.2.1 = (t : Int)) (hdd : dadd m e.2.2 = d) (hlt : d < at_ l (t : Int))
  (hp : h'.Perm (h ++ [((t : Int), d)])) (hH : HeapO h') : DI es M s (l.set t d) h' S rest m ∧ (∀ v : Nat, v < M → S v = true → at_ (l.set t d) (v : Int) = at_ l (v : Int)) := by
 obtain ⟨w1, w2, w3, w4⟩ := hw e hee
 have htM : t < M := by omega
 have hst : step l e = l.set t d := by rw [step_lt (by rw [hm, hdd, ht]; exact hlt), hm, hdd, ht, Int.toNat_natCast]
 have hat : ∀ u : Nat, at_ (l.set t d) (u : Int) = if u = t then d else at_ l (u : Int) := fun u => at_set l t u d (by rw [hd.good.len]; exact htM)
 have hle : ∀ u : Nat, at_ (l.set t d) (u : Int) ≤ at_ l (u : Int) := fun u => by rw [hat]; split <;> (try subst_vars) <;> omega
 have hmr : 0 ≤ m ∧ m ≤ inf := by have := hd.good.rng e.1.toNat (by omega); rw [← at_lt w1, hm] at this; exact this
 have hdm : m ≤ d := by rw [← hdd]; exact dadd_ge _ hmr.1 hmr.2
 have hdi : d ≤ inf := by rw [← hdd]; exact (dadd_rng _ _).2
 have hSt : S t = false := by
  cases h9 : S t with
  | false => rfl
  | true => have := hd.set_ t htM h9; omega
 have hkeep : ∀ v : Nat, v < M → S v = true → at_ (l.set t d) (v : Int) = at_ l (v : Int) := fun v hv hS => by
  rw [hat, if_neg (fun e => by subst e; rw [hSt] at hS; cases hS)]
 refine ⟨⟨hst ▸ good_step hw h0 h1 hd.good hee, fun F hF => hst ▸ le_step hw h0 h1 hd.good.len hF (hd.low F hF) hee, hH, ?_, fun y hy => ?_, fun y hy => ?_, fun v hv hS => ?_, fun v hv hS hl => ?_, fun f hf hS => ?_, ?_⟩, hkeep⟩
 ·refine hp.nodup_iff.2 (List.nodup_append.2 ⟨hd.nod, by simp, fun a ha b hb => ?_⟩)
  obtain rfl : b = ((t : Int), d) := by simpa using hb
  rintro rfl
  obtain ⟨u, f1, f2, f3, _⟩ := hd.spot _ ha
  have f1 : (t : Int) = (u : Int) := f1
  have f3 : at_ l (u : Int) ≤ d := f3
  rw [← f1] at f3
  omega
 ·rcases List.mem_append.1 (hp.mem_iff.1 hy) with hy | hy
  ·obtain ⟨u, f1, f2, f3, f4, f5⟩ := hd.spot y hy
   have := hle u
   exact ⟨u, f1, f2, by omega, f4, fun hS => by have := f5 hS; omega⟩
  ·obtain rfl : y = ((t : Int), d) := by simpa using hy
   refine ⟨t, rfl, htM, by rw [hat, if_pos rfl]; exact Int.le_refl _, hdi, fun hS => by rw [hSt] at hS; cases hS⟩
 ·rcases List.mem_append.1 (hp.mem_iff.1 hy) with hy | hy
  ·exact hd.ord y hy
  ·obtain rfl : y = ((t : Int), d) := by simpa using hy
   exact hdm
 ·rw [hkeep v hv hS]; exact hd.set_ v hv hS
 ·refine hp.mem_iff.2 (List.mem_append.2 ?_)
  rw [hat] at hl ⊢
  by_cases hvt : v = t
  ·subst hvt; rw [if_pos rfl]; exact .inr (by simp)
  ·rw [if_neg hvt] at hl ⊢; exact .inl (hd.reach v hv hS hl)
 ·obtain ⟨q1, q2, q3, q4⟩ := hw f hf
  have e1 : at_ (l.set t d) f.1 = at_ l f.1 := by rw [at_lt q1, at_lt (l := l) q1]; exact hkeep _ (by omega) hS
  have e2 : at_ (l.set t d) f.2.1 ≤ at_ l f.2.1 := by rw [at_lt q3, at_lt (l := l) q3]; exact hle _
  rw [e1]
  rcases hd.done f hf hS with h2 | h2
  ·rcases List.mem_cons.1 h2 with rfl | h2
   ·refine .inr ?_
    rw [hm, hdd, ht, hat, if_pos rfl]; exact Int.le_refl _
   ·exact .inl h2
  ·exact .inr (by omega)
 ·have h2 := hd.cnt
  have h3 := hp.length_eq
  simp only [List.length_append, List.length_cons, List.length_nil] at h2 h3
  omega
theorem DI.finish {V : Int} (hc : checkF V es = 0) (h0 : 0 ≤ s) (h1 : s < V) (hM : V = (M : Int)) (hd : DI es M s l [] S [] m) : l = relaxedF V es s := by
 subst hM
 have hw := within_of hc
 rw [Int.toNat_natCast] at hw
 refine fin_relaxed hc h0 h1 (by rw [Int.toNat_natCast]; exact hd.good) ?_ (by rw [Int.toNat_natCast]; exact hd.low)
 rw [Int.toNat_natCast]
 refine ⟨hd.good.len, by rw [hd.good.src]; exact Int.le_refl _, fun i hi => (hd.good.rng i hi).2, fun e he => ?_⟩
 obtain ⟨w1, w2, w3, w4⟩ := hw e he
 cases hS : S e.1.toNat with
 | true => exact (hd.done e he hS).resolve_left (by simp)
 | false =>
  have hr := hd.good.rng e.1.toNat (by omega)
  have hr2 := hd.good.rng e.2.1.toNat (by omega)
  have : ¬ at_ l (e.1.toNat : Int) < inf := fun hl => by have := hd.reach e.1.toNat (by omega) hS hl; simp at this
  rw [at_lt w1, at_lt w3, show at_ l (e.1.toNat : Int) = inf by omega, dadd_inf]
  exact hr2.2
end
end Go.Proofs.YtgbahnlgblahpaaGreat
