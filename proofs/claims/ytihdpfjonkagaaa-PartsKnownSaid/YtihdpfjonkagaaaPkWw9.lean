/- Lemmas: Pck, Prf, Ejc. -/
import Derived.Deep.DeepCutAuto
import Derived.Test.YtihdpfjonkagaaaProg
import Derived.Lib.Hide
import Derived.WalkSpells
import Derived.WalkMore
import Derived.IntWalk
import Derived.Test.YtihdpfjonkagaaaPkWw3
import Derived.Test.YtihdpfjonkagaaaPkWw8
set_option linter.unusedVariables false
set_option linter.unusedSimpArgs false
set_option maxRecDepth 100000
set_option maxHeartbeats 16000000
namespace Go.Proofs.Ytihdpfjonkagaaa
open Go.RowKit
def orOf (x y : Int) : Int := if x = 0 then y else x
theorem or_any (w : World) (b : Nat) (x y : Int) (c0 : w.cell? ⟨b, 0, none⟩ = some (.int .i64 x)) (c1 : w.cell? ⟨b, 1, none⟩ = some (.int .i64 y)) :
  Calls Try.prog 55 #[.slice (some ⟨b, 0, none⟩) 2 2] w fun e w' => e = .returned (.int .i64 (orOf x y)) ∧ w' = w := by
 go_enter Try.func55, Try.ntmps55
 go_wp2
 go_loop [5, 8] (fun v5 vi => vi = .int .i64 0 ∨ (vi = .int .i64 1 ∧ x = 0) ∨ (vi = .int .i64 2 ∧ x = 0 ∧ y = 0)) (fun _ vi => 2 - (intOf vi).toNat)
 case atStart => exact .inl rfl
 case round =>
  rcases hrel with rfl | ⟨rfl, hx⟩ | ⟨rfl, hx, hy⟩
  ·by_cases h : x = 0
   ·subst h
    go_wp2
    go_round
    case rel => first | exact .inr (.inl ⟨rfl, rfl⟩) | simp
    case measure => simp [intOf]
   ·go_wp2
    go_ret
    exact ⟨ret_i64 (by rw [orOf, if_neg h]), rfl⟩
  ·subst hx
   by_cases h : y = 0
   ·subst h
    go_wp2
    go_round
    case rel => first | exact .inr (.inr ⟨rfl, rfl, rfl⟩) | simp
    case measure => simp [intOf]
   ·go_wp2
    go_ret
    exact ⟨ret_i64 (by rw [orOf, if_pos rfl]), rfl⟩
  ·subst hx; subst hy
   go_wp2
   go_ret
   exact ⟨ret_i64 (by rw [orOf, if_pos rfl]), rfl⟩
def orderOf (a b : Ed) : Int := orOf (cmpOf a.1 b.1) (cmpOf a.2.1 b.2.1)
theorem order_any (w : World) (a1 a2 a3 b1 b2 b3 : Int) :
  Calls Try.prog 48 #[.agg #[.int .i64 a1, .int .i64 a2, .int .i64 a3], .agg #[.int .i64 b1, .int .i64 b2, .int .i64 b3]] w fun e w' => e = .returned (.int .i64 (orderOf (a1, a2, a3) (b1, b2, b3))) ∧ Below w.heap.size w w' := by
 obtain ⟨v, hv⟩ : ∃ v, (w.alloc (.cells #[.int .i64 a1, .int .i64 a2, .int .i64 a3] 44)).alloc (.cells #[.int .i64 b1, .int .i64 b2, .int .i64 b3] 44) = v := ⟨_, rfl⟩
 have hz : v.heap.size = w.heap.size + 2 := by rw [← hv]; simp
 have hb : Below w.heap.size w v := by rw [← hv]; exact ((Below.refl _ _).alloc (Nat.le_refl _) _).alloc (by simp) _
 have ca : v.heap[w.heap.size]? = some (.cells #[.int .i64 a1, .int .i64 a2, .int .i64 a3] 44) := by
  rw [← hv]; exact (Below.heap_alloc _ _ _ (by simp)).trans (heap_alloc_last w _)
 have cb : v.heap[w.heap.size + 1]? = some (.cells #[.int .i64 b1, .int .i64 b2, .int .i64 b3] 44) := by
  rw [← hv]
  have h := heap_alloc_last (w.alloc (.cells #[.int .i64 a1, .int .i64 a2, .int .i64 a3] 44)) (.cells #[.int .i64 b1, .int .i64 b2, .int .i64 b3] 44)
  rw [show (w.alloc (.cells #[.int .i64 a1, .int .i64 a2, .int .i64 a3] 44)).heap.size = w.heap.size + 1 by simp] at h
  exact h
 have ca0 : v.cell? ⟨w.heap.size, 0, none⟩ = some (.int .i64 a1) := cell_of_row _ _ 0 _ _ _ ca
 have ca1 : v.cell? ⟨w.heap.size, 1, none⟩ = some (.int .i64 a2) := cell_of_row _ _ 1 _ _ _ ca
 have cb0 : v.cell? ⟨w.heap.size + 1, 0, none⟩ = some (.int .i64 b1) := cell_of_row _ _ 0 _ _ _ cb
 have cb1 : v.cell? ⟨w.heap.size + 1, 1, none⟩ = some (.int .i64 b2) := cell_of_row _ _ 1 _ _ _ cb
 have l0 : w.heap.size < v.heap.size := by omega
 have l1 : w.heap.size + 1 < v.heap.size := by omega
 have HV := hide hv
 have HB := hide hb
 have HZ := hide hz
 clear hv hb hz ca cb
 go_enter Try.func48, Try.ntmps48
 go_wp2
 rw [HV.out]
 refine wp_region_held_drew (S := Kept v) (by kernel_rfl) (Kept.drew v) (fun hS0 => ?_)
 refine take_at (i := 0) (d := 5) (v := ?_) (by simp only [xa, xb, xc]; rfl) rfl (by kernel_rfl) (by kernel_rfl) (by kernel_rfl) (fun _ _ _ h => h) rfl ?_ (by assumption) ?_
 rotate_left
 ·intro w hSw
  go_simp
  try with_reducible rfl
 try simp only [xd, xe, xf]
 refine take_at (i := 1) (d := 6) (v := ?_) (by simp only [xa, xb, xc]; rfl) rfl (by kernel_rfl) (by kernel_rfl) (by kernel_rfl) (fun _ _ _ h => h) rfl ?_ (by assumption) ?_
 rotate_left
 ·intro w hSw
  go_simp
  try with_reducible rfl
 try simp only [xd, xe, xf]
 refine take_at (i := 2) (d := 7) (v := ?_) (by simp only [xa, xb, xc]; rfl) rfl (by kernel_rfl) (by kernel_rfl) (by kernel_rfl) (fun _ _ _ h => h) rfl ?_ (by assumption) ?_
 rotate_left
 ·intro w hSw
  go_simp
  try with_reducible rfl
 try simp only [xd, xe, xf]
 refine take_at (i := 3) (d := 8) (v := ?_) (by simp only [xa, xb, xc]; rfl) rfl (by kernel_rfl) (by kernel_rfl) (by kernel_rfl) (fun _ _ _ h => h) rfl ?_ (by assumption) ?_
 rotate_left
 ·intro w hSw
  go_simp
  try with_reducible rfl
 try simp only [xd, xe, xf]
 refine take_at (i := 5) (d := 10) (v := ?_) (by simp only [xa, xb, xc]; rfl) rfl (by kernel_rfl) (by kernel_rfl) (by kernel_rfl) (fun _ _ _ h => h) rfl ?_ (by assumption) ?_
 rotate_left
 ·intro w hSw
  go_simp
  try with_reducible rfl
 try simp only [xd, xe, xf]
 refine take_at (i := 6) (d := 11) (v := ?_) (by simp only [xa, xb, xc]; rfl) rfl (by kernel_rfl) (by kernel_rfl) (by kernel_rfl) (fun _ _ _ h => h) rfl ?_ (by assumption) ?_
 rotate_left
 ·intro w hSw
  go_simp
  try with_reducible rfl
 try simp only [xd, xe, xf]
 refine take_at (i := 7) (d := 12) (v := ?_) (by simp only [xa, xb, xc]; rfl) rfl (by kernel_rfl) (by kernel_rfl) (by kernel_rfl) (fun _ _ _ h => h) rfl ?_ (by assumption) ?_
 rotate_left
 ·intro w hSw
  go_simp
  try with_reducible rfl
 try simp only [xd, xe, xf]
 refine take_at (i := 8) (d := 13) (v := ?_) (by simp only [xa, xb, xc]; rfl) rfl (by kernel_rfl) (by kernel_rfl) (by kernel_rfl) (fun _ _ _ h => h) rfl ?_ (by assumption) ?_
 rotate_left
 ·intro w hSw
  go_simp
  try with_reducible rfl
 try simp only [xd, xe, xf]
 refine call_at (i := 4) (d := 9) (by simp only [xa, xb, xc]; rfl) rfl (by kernel_rfl) rfl (fun K hK => ?_)
 go_simp
 refine (compare_any _ a1 b1).mono ?_
 rintro e y1 ⟨rfl, rfl⟩
 go_wp2_with fail
 refine hK.out _ _ hS0 (fun hSn => ?_)
 clear hK K
 try simp only [xd, xe, xf]
 refine call_at (i := 9) (d := 14) (by simp only [xa, xb, xc]; rfl) rfl (by kernel_rfl) rfl (fun K hK => ?_)
 go_simp
 refine (compare_any _ a2 b2).mono ?_
 rintro e y2 ⟨rfl, rfl⟩
 go_wp2_with fail
 refine hK.out _ _ hS0 (fun hSn => ?_)
 clear hK K
 try simp only [xd, xe, xf]
 have hal : Below v.drew.heap.size v.drew (v.drew.alloc (.cells #[.int .i64 (cmpOf a1 b1), .int .i64 (cmpOf a2 b2)] 3)) := (Below.refl _ _).alloc (Nat.le_refl _) _
 have hS1 := hS0.below (by simp) hal
 have HAL := hide hal
 clear hal
 refine call_at (i := 10) (d := 15) (by simp only [xa, xb, xc]; rfl) rfl (by kernel_rfl) rfl (fun K hK => ?_)
 go_simp
 refine hK.out _ _ hS1 (fun hSn => ?_)
 clear hK K
 try simp only [xd, xe, xf]
 refine call_at (i := 11) (d := 16) (by simp only [xa, xb, xc]; rfl) rfl (by kernel_rfl) rfl (fun K hK => ?_)
 go_simp
 refine (or_any _ _ (cmpOf a1 b1) (cmpOf a2 b2) (by first | (rw [World.cell?_alloc_mark]; rfl) | (have h := World.cell?_alloc_mark; simp)) (by first | (rw [World.cell?_alloc_mark]; rfl) | simp)).mono ?_
 rintro e y3 ⟨rfl, rfl⟩
 go_wp2_with fail
 refine hK.out _ _ hS1 (fun hSn => ?_)
 clear hK K
 try simp only [xd, xe, xf]
 refine take_at (i := 12) (d := 4) (v := ?_) (by simp only [xa, xb, xc]; rfl) rfl (by kernel_rfl) (by kernel_rfl) (by kernel_rfl) (fun _ _ _ h => h) rfl ?_ (by assumption) ?_
 rotate_left
 ·intro w hSw
  go_simp
  try with_reducible rfl
 try simp only [xd, xe, xf]
 refine wpAnyH_done (by kernel_rfl) ?_ _
 go_wp2
 go_ret
 exact ⟨rfl, HB.out.drew.trans (HAL.out.mono HB.out.drew.size)⟩
def fitsE (e : Ed) (V : Int) : Bool := fitsB e.1 e.2.1 e.2.2 V
def okAt (V : Int) (es : List Ed) (i : Nat) : Bool := match es[i]? with
 | none => true
 | some e => fitsE e V && (match (if i = 0 then none else es[i - 1]?) with | none => true | some p => decide (orderOf p e < 0))
def okFrom (V : Int) (es : List Ed) (i : Nat) : Bool := (List.range (es.length - i)).all fun k => okAt V es (i + k)
theorem okFrom_end (V : Int) (es : List Ed) : okFrom V es es.length = true := by simp [okFrom]
theorem okFrom_step (V : Int) (es : List Ed) (i : Nat) (h : i < es.length) : okFrom V es i = (okAt V es i && okFrom V es (i + 1)) := by
 unfold okFrom
 rw [show es.length - i = (es.length - (i + 1)) + 1 by omega, List.range_succ_eq_map, List.all_cons, List.all_map]
 congr 2
 funext k
 simp only [Function.comp]
 rw [show i + Nat.succ k = i + 1 + k by omega]
def checkF (V : Int) (es : List Ed) : Int := if V > 512 ∨ es.length > 8192 then 3 else if V < 1 then 40 else if okFrom V es 0 = true then 0 else 40
theorem check_any (w : World) (V : Int) (A : Option Addr) (es : List Ed) (L c : Nat) (hL : es.length = L) (hE : Eds w w.heap.size A es) (hc : L ≤ 9223372036854775807) :
  Calls Try.prog 31 #[.agg #[.int .i64 V, .slice A L c]] w fun e w' => e = .returned (.int .i64 (checkF V es)) ∧ Below w.heap.size w w' := by
 obtain ⟨v, hv⟩ : ∃ v, w.alloc (.cells #[.int .i64 V, .slice A L c] 30) = v := ⟨_, rfl⟩
 have hz : v.heap.size = w.heap.size + 1 := by rw [← hv]; simp
 have hb : Below w.heap.size w v := by rw [← hv]; exact (Below.refl _ _).alloc (Nat.le_refl _) _
 have cg : v.heap[w.heap.size]? = some (.cells #[.int .i64 V, .slice A L c] 30) := by rw [← hv]; exact heap_alloc_last w _
 have cg0 : v.cell? ⟨w.heap.size, 0, none⟩ = some (.int .i64 V) := cell_of_row _ _ 0 _ _ _ cg
 have cg1 : v.cell? ⟨w.heap.size, 1, none⟩ = some (.slice A L c) := cell_of_row _ _ 1 _ _ _ cg
 have hlg : w.heap.size < v.heap.size := by omega
 have HE := hide (Els.more (hE.below hb (Nat.le_refl _)) (Nat.le_of_lt hlg))
 have HV := hide hv
 have HB := hide hb
 have HL := hide hL
 have HZ := hide hz
 clear hv hb hz cg hE hL
 by_cases h1 : V > 512 ∨ L > 8192
 ·have hF : checkF V es = 3 := by rw [checkF, HL.out, if_pos h1]
  have HF := hide hF
  clear hF
  by_cases hV : 512 < V
  ·go_enter Try.func31, Try.ntmps31
   go_wp2
   go_ret
   rw [HV.out, HF.out]
   exact ⟨rfl, HB.out⟩
  ·have hV' : ¬ 512 < V := by omega
   have hL' : (8192 : Int) < (L : Int) := by omega
   go_enter Try.func31, Try.ntmps31
   go_wp2
   go_ret
   rw [HV.out, HF.out]
   exact ⟨rfl, HB.out⟩
 ·have hV : ¬ 512 < V := by omega
  have hL' : ¬ (8192 : Int) < (L : Int) := by omega
  by_cases h2 : V < 1
  ·have hF : checkF V es = 40 := by rw [checkF, HL.out, if_neg h1, if_pos h2]
   have HF := hide hF
   clear hF
   go_enter Try.func31, Try.ntmps31
   go_wp2
   go_ret
   rw [HV.out, HF.out]
   exact ⟨rfl, HB.out⟩
  ·have hF : checkF V es = if okFrom V es 0 = true then 0 else 40 := by rw [checkF, HL.out, if_neg h1, if_neg h2]
   have HF := hide hF
   clear hF h1
   have hL2 : L ≤ 8192 := by omega
   go_enter Try.func31, Try.ntmps31
   go_wp2
   rw [HV.out]
   go_loopw [3, 22] (fun v3 vi wr => ∃ i : Nat, i ≤ L ∧ vi = .int .i64 i ∧ Hid (okFrom V es 0 = okFrom V es i) ∧ Kept v wr ∧ Below w.heap.size w wr ∧ v.heap.size ≤ wr.heap.size) (fun _ vi _ => L - (intOf vi).toNat)
   case atStart => exact ⟨0, by omega, rfl, hide rfl, Kept.refl v, HB.out, Nat.le_refl _⟩
   case round =>
    obtain ⟨i, hi, rfl, hok, hk, hbw, hsz⟩ := hrel
    have hs := hbw.size
    by_cases hlt : i < L
    ·obtain ⟨e, he⟩ : ∃ e, es[i]? = some e := ⟨_, List.getElem?_eq_getElem (by rw [HL.out]; exact hlt)⟩
     obtain ⟨b, off, rfl, hbl, c0, c1, c2, _, _⟩ := Eds.get HE.out he
     have hI0 : (0 : Int) ≤ (i : Int) := by omega
     have hI1 : (i : Int) < (L : Int) := by omega
     have HStep := hide (okFrom_step V es i (by rw [HL.out]; exact hlt))
     have HEi := hide he
     clear he
     obtain ⟨e1, e2, e3⟩ := e
     dsimp only at c0 c1 c2
     have hk2 := hk
     have HKv := hide hk
     obtain ⟨u, hu⟩ : ∃ u, wr.alloc (.cells #[.int .i64 e1, .int .i64 e2, .int .i64 e3] 44) = u := ⟨_, rfl⟩
     have hzu : u.heap.size = wr.heap.size + 1 := by rw [← hu]; simp
     have hbu : Below wr.heap.size wr u := by rw [← hu]; exact (Below.refl _ _).alloc (Nat.le_refl _) _
     have hku : Kept v u := hk2.below hsz hbu
     have ce : u.heap[wr.heap.size]? = some (.cells #[.int .i64 e1, .int .i64 e2, .int .i64 e3] 44) := by rw [← hu]; exact heap_alloc_last wr _
     have ue0 : u.cell? ⟨wr.heap.size, 0, none⟩ = some (.int .i64 e1) := cell_of_row _ _ 0 _ _ _ ce
     have ue1 : u.cell? ⟨wr.heap.size, 1, none⟩ = some (.int .i64 e2) := cell_of_row _ _ 1 _ _ _ ce
     have ue2 : u.cell? ⟨wr.heap.size, 2, none⟩ = some (.int .i64 e3) := cell_of_row _ _ 2 _ _ _ ce
     have ug0 := (hku ⟨w.heap.size, 0, none⟩ hlg).trans cg0
     have ug1 := (hku ⟨w.heap.size, 1, none⟩ hlg).trans cg1
     have m0 : w.heap.size < u.heap.size := by omega
     have m1 : wr.heap.size < u.heap.size := by omega
     have m2 : b < u.heap.size := by omega
     have HU := hide hu
     have hwu := hbw.trans (hbu.mono hs)
     have hsu := hwu.size
     have hlast : ∀ w', Below u.drew.heap.size u.drew w' → Kept v w' ∧ Below w.heap.size w w' ∧ v.heap.size ≤ w'.heap.size := fun w' h => ⟨(hku.below (by omega) ((Below.refl u.heap.size u).drew)).below (by simp; omega) h, hwu.drew.trans (h.mono hwu.drew.size), by have := h.size; simp at this; omega⟩
     have HLAST := hide hlast
     clear hk2 hku hu ce hbu hlast hwu hzu
     go_wp2
     rw [HU.out]
     clear hk
     by_cases hf : fitsB e1 e2 e3 V = true
     ·rcases Nat.eq_zero_or_pos i with hi0 | hi0
      ·subst hi0
       rw [show ((0 : Nat) : Int) = 0 from rfl]
       refine wp_region_held_drew (S := Kept u) (by kernel_rfl) (Kept.drew u) (fun hS0 => ?_)
       refine take_at (i := 0) (d := 27) (v := ?_) (by simp only [xa, xb, xc]; rfl) rfl (by kernel_rfl) (by kernel_rfl) (by kernel_rfl) (fun _ _ _ h => h) rfl ?_ (by assumption) ?_
       rotate_left
       ·intro w hSw
        go_simp
        try with_reducible rfl
       try simp only [xd, xe, xf]
       refine take_at (i := 1) (d := 28) (v := ?_) (by simp only [xa, xb, xc]; rfl) rfl (by kernel_rfl) (by kernel_rfl) (by kernel_rfl) (fun _ _ _ h => h) rfl ?_ (by assumption) ?_
       rotate_left
       ·intro w hSw
        go_simp
        try with_reducible rfl
       try simp only [xd, xe, xf]
       refine take_at (i := 2) (d := 29) (v := ?_) (by simp only [xa, xb, xc]; rfl) rfl (by kernel_rfl) (by kernel_rfl) (by kernel_rfl) (fun _ _ _ h => h) rfl ?_ (by assumption) ?_
       rotate_left
       ·intro w hSw
        go_simp
        try with_reducible rfl
       try simp only [xd, xe, xf]
       refine call_at (i := 3) (d := 30) (by simp only [xa, xb, xc]; rfl) rfl (by kernel_rfl) rfl (fun K hK => ?_)
       go_simp
       refine (fits_any _ e1 e2 e3 V).mono ?_
       rintro e y1 ⟨rfl, hy1⟩
       rw [hf]
       have hS1 : Kept u y1 := hS0.below (by simp) hy1
       have HY1 := hide hy1
       clear hy1
       go_wp2_with fail
       refine hK.out _ _ hS1 (fun hSn => ?_)
       clear hK K
       try simp only [xd, xe, xf]
       refine take_at (i := 4) (d := 31) (v := ?_) (by simp only [xa, xb, xc]; rfl) rfl (by kernel_rfl) (by kernel_rfl) (by kernel_rfl) (fun _ _ _ h => h) rfl ?_ (by assumption) ?_
       rotate_left
       ·intro w hSw
        go_simp
        try with_reducible rfl
       try simp only [xd, xe, xf]
       refine take_at (i := 5) (d := 32) (v := ?_) (by simp only [xa, xb, xc]; rfl) rfl (by kernel_rfl) (by kernel_rfl) (by kernel_rfl) (fun _ _ _ h => h) rfl ?_ (by assumption) ?_
       rotate_left
       ·intro w hSw
        go_simp
        try with_reducible rfl
       try simp only [xd, xe, xf]
       refine take_at (i := 6) (d := 33) (v := ?_) (by simp only [xa, xb, xc]; rfl) rfl (by kernel_rfl) (by kernel_rfl) (by kernel_rfl) (fun _ _ _ h => h) rfl ?_ (by assumption) ?_
       rotate_left
       ·intro w hSw
        go_simp
        try with_reducible rfl
       try simp only [xd, xe, xf]
       refine take_at (i := 7) (d := 34) (v := ?_) (by simp only [xa, xb, xc]; rfl) rfl (by kernel_rfl) (by kernel_rfl) (by kernel_rfl) (fun _ _ _ h => h) rfl ?_ (by assumption) ?_
       rotate_left
       ·intro w hSw
        go_simp
        try with_reducible rfl
       try simp only [xd, xe, xf]
       refine take_at (i := 8) (d := 35) (v := ?_) (by simp only [xa, xb, xc]; rfl) rfl (by kernel_rfl) (by kernel_rfl) (by kernel_rfl) (fun _ _ _ h => h) rfl ?_ (by assumption) ?_
       rotate_left
       ·intro w hSw
        go_simp
        try with_reducible rfl
       try simp only [xd, xe, xf]
       refine sk 9 36 ?_; (try simp only [xd, xe, xf])
       refine sk 10 37 ?_; (try simp only [xd, xe, xf])
       refine sk 11 38 ?_; (try simp only [xd, xe, xf])
       refine sk 12 39 ?_; (try simp only [xd, xe, xf])
       refine sk 13 40 ?_; (try simp only [xd, xe, xf])
       refine sk 14 41 ?_; (try simp only [xd, xe, xf])
       refine sk 15 42 ?_; (try simp only [xd, xe, xf])
       refine sk 16 43 ?_; (try simp only [xd, xe, xf])
       refine sk 17 44 ?_; (try simp only [xd, xe, xf])
       refine take_at (i := 18) (d := 45) (v := ?_) (by simp only [xa, xb, xc]; rfl) rfl (by kernel_rfl) (by kernel_rfl) (by kernel_rfl) (fun _ _ _ h => h) rfl ?_ (by assumption) ?_
       rotate_left
       ·intro w hSw
        go_simp
        try with_reducible rfl
       try simp only [xd, xe, xf]
       refine take_at (i := 19) (d := 46) (v := ?_) (by simp only [xa, xb, xc]; rfl) rfl (by kernel_rfl) (by kernel_rfl) (by kernel_rfl) (fun _ _ _ h => h) rfl ?_ (by assumption) ?_
       rotate_left
       ·intro w hSw
        go_simp
        try with_reducible rfl
       try simp only [xd, xe, xf]
       refine wpAnyH_done (by kernel_rfl) ?_ _
       have hgo := HLAST.out _ HY1.out
       have hst := HStep.out
       have hat : okAt V es 0 = true := by
        rw [okAt, HEi.out]
        show (fitsB e1 e2 e3 V && true) = true
        rw [hf]; rfl
       rw [hat, Bool.true_and] at hst
       clear hS0 hSn
       go_wp2
       go_roundw
       case rel => exact ⟨1, by omega, by go_num, hide (by rw [hst]), hgo⟩
       case measure => simp [intOf]; omega
      ·obtain ⟨k, rfl⟩ : ∃ k, i = k + 1 := ⟨i - 1, by omega⟩
       have hpos : (0 : Int) < ((k + 1 : Nat) : Int) := by omega
       have hsub : ((k + 1 : Nat) : Int) - 1 = (k : Int) := by omega
       have hk0 : (0 : Int) ≤ (k : Int) := by omega
       have hk1 : (k : Int) < (L : Int) := by omega
       have hwk : IntKind.i64.wrap (k : Int) = (k : Int) := IntWalk.i64_in _ (by omega)
       obtain ⟨pe, hpe⟩ : ∃ pe, es[k]? = some pe := ⟨_, List.getElem?_eq_getElem (by have := HL.out; omega)⟩
       obtain ⟨p1, p2, p3⟩ := pe
       obtain ⟨b', off', hA', _, q0, q1, q2, _, _⟩ := Eds.get HE.out hpe
       injection hA' with hA'
       injection hA' with hA1 hA2
       subst hA1 hA2
       dsimp only at q0 q1 q2
       have hkuv := (HLAST.out _ (Below.refl _ _)).1
       have up0 : u.cell? ⟨b, off + k * 3, none⟩ = some (.int .i64 p1) := (hkuv ⟨b, off + k * 3, none⟩ hbl).trans q0
       have up1 : u.cell? ⟨b, off + k * 3 + 1, none⟩ = some (.int .i64 p2) := (hkuv ⟨b, off + k * 3 + 1, none⟩ hbl).trans q1
       have up2 : u.cell? ⟨b, off + k * 3 + 2, none⟩ = some (.int .i64 p3) := (hkuv ⟨b, off + k * 3 + 2, none⟩ hbl).trans q2
       have hat : okAt V es (k + 1) = decide (orderOf (p1, p2, p3) (e1, e2, e3) < 0) := by
        rw [okAt, HEi.out]
        show (fitsB e1 e2 e3 V && _) = _
        rw [hf, if_neg (by omega), Nat.add_sub_cancel, hpe]; rfl
       have HAt := hide hat
       have HPe := hide hpe
       clear hkuv q0 q1 q2 hat hpe
       refine wp_region_held_drew (S := Kept u) (by kernel_rfl) (Kept.drew u) (fun hS0 => ?_)
       refine take_at (i := 0) (d := 27) (v := ?_) (by simp only [xa, xb, xc]; rfl) rfl (by kernel_rfl) (by kernel_rfl) (by kernel_rfl) (fun _ _ _ h => h) rfl ?_ (by assumption) ?_
       rotate_left
       ·intro w hSw
        go_simp
        try with_reducible rfl
       try simp only [xd, xe, xf]
       refine take_at (i := 1) (d := 28) (v := ?_) (by simp only [xa, xb, xc]; rfl) rfl (by kernel_rfl) (by kernel_rfl) (by kernel_rfl) (fun _ _ _ h => h) rfl ?_ (by assumption) ?_
       rotate_left
       ·intro w hSw
        go_simp
        try with_reducible rfl
       try simp only [xd, xe, xf]
       refine take_at (i := 2) (d := 29) (v := ?_) (by simp only [xa, xb, xc]; rfl) rfl (by kernel_rfl) (by kernel_rfl) (by kernel_rfl) (fun _ _ _ h => h) rfl ?_ (by assumption) ?_
       rotate_left
       ·intro w hSw
        go_simp
        try with_reducible rfl
       try simp only [xd, xe, xf]
       refine call_at (i := 3) (d := 30) (by simp only [xa, xb, xc]; rfl) rfl (by kernel_rfl) rfl (fun K hK => ?_)
       go_simp
       refine (fits_any _ e1 e2 e3 V).mono ?_
       rintro e y1 ⟨rfl, hy1⟩
       rw [hf]
       have hS1 : Kept u y1 := hS0.below (by simp) hy1
       have HY1 := hide hy1
       clear hy1
       go_wp2_with fail
       refine hK.out _ _ hS1 (fun hSn => ?_)
       clear hK K
       try simp only [xd, xe, xf]
       refine take_at (i := 4) (d := 31) (v := ?_) (by simp only [xa, xb, xc]; rfl) rfl (by kernel_rfl) (by kernel_rfl) (by kernel_rfl) (fun _ _ _ h => h) rfl ?_ (by assumption) ?_
       rotate_left
       ·intro w hSw
        go_simp
        try with_reducible rfl
       try simp only [xd, xe, xf]
       refine take_at (i := 5) (d := 32) (v := ?_) (by simp only [xa, xb, xc]; rfl) rfl (by kernel_rfl) (by kernel_rfl) (by kernel_rfl) (fun _ _ _ h => h) rfl ?_ (by assumption) ?_
       rotate_left
       ·intro w hSw
        go_simp
        try with_reducible rfl
       try simp only [xd, xe, xf]
       refine take_at (i := 6) (d := 33) (v := ?_) (by simp only [xa, xb, xc]; rfl) rfl (by kernel_rfl) (by kernel_rfl) (by kernel_rfl) (fun _ _ _ h => h) rfl ?_ (by assumption) ?_
       rotate_left
       ·intro w hSw
        go_simp
        try with_reducible rfl
       try simp only [xd, xe, xf]
       refine take_at (i := 7) (d := 34) (v := ?_) (by simp only [xa, xb, xc]; rfl) rfl (by kernel_rfl) (by kernel_rfl) (by kernel_rfl) (fun _ _ _ h => h) rfl ?_ (by assumption) ?_
       rotate_left
       ·intro w hSw
        go_simp
        try with_reducible rfl
       try simp only [xd, xe, xf]
       refine take_at (i := 8) (d := 35) (v := ?_) (by simp only [xa, xb, xc]; rfl) rfl (by kernel_rfl) (by kernel_rfl) (by kernel_rfl) (fun _ _ _ h => h) rfl ?_ (by assumption) ?_
       rotate_left
       ·intro w hSw
        go_simp
        try with_reducible rfl
       try simp only [xd, xe, xf]
       refine take_at (i := 9) (d := 36) (v := ?_) (by simp only [xa, xb, xc]; rfl) rfl (by kernel_rfl) (by kernel_rfl) (by kernel_rfl) (fun _ _ _ h => h) rfl ?_ (by assumption) ?_
       rotate_left
       ·intro w hSw
        go_simp
        try with_reducible rfl
       try simp only [xd, xe, xf]
       refine take_at (i := 10) (d := 37) (v := ?_) (by simp only [xa, xb, xc]; rfl) rfl (by kernel_rfl) (by kernel_rfl) (by kernel_rfl) (fun _ _ _ h => h) rfl ?_ (by assumption) ?_
       rotate_left
       ·intro w hSw
        go_simp
        try with_reducible rfl
       try simp only [xd, xe, xf]
       refine take_at (i := 11) (d := 38) (v := ?_) (by simp only [xa, xb, xc]; rfl) rfl (by kernel_rfl) (by kernel_rfl) (by kernel_rfl) (fun _ _ _ h => h) rfl ?_ (by assumption) ?_
       rotate_left
       ·intro w hSw
        go_simp
        try with_reducible rfl
       try simp only [xd, xe, xf]
       refine take_at (i := 12) (d := 39) (v := ?_) (by simp only [xa, xb, xc]; rfl) rfl (by kernel_rfl) (by kernel_rfl) (by kernel_rfl) (fun _ _ _ h => h) rfl ?_ (by assumption) ?_
       rotate_left
       ·intro w hSw
        go_simp
        try with_reducible rfl
       try simp only [xd, xe, xf]
       refine take_at (i := 13) (d := 40) (v := ?_) (by simp only [xa, xb, xc]; rfl) rfl (by kernel_rfl) (by kernel_rfl) (by kernel_rfl) (fun _ _ _ h => h) rfl ?_ (by assumption) ?_
       rotate_left
       ·intro w hSw
        go_simp
        try with_reducible rfl
       try simp only [xd, xe, xf]
       refine take_at (i := 14) (d := 41) (v := ?_) (by simp only [xa, xb, xc]; rfl) rfl (by kernel_rfl) (by kernel_rfl) (by kernel_rfl) (fun _ _ _ h => h) rfl ?_ (by assumption) ?_
       rotate_left
       ·intro w hSw
        go_simp
        try with_reducible rfl
       try simp only [xd, xe, xf]
       refine take_at (i := 15) (d := 42) (v := ?_) (by simp only [xa, xb, xc]; rfl) rfl (by kernel_rfl) (by kernel_rfl) (by kernel_rfl) (fun _ _ _ h => h) rfl ?_ (by assumption) ?_
       rotate_left
       ·intro w hSw
        go_simp
        try with_reducible rfl
       try simp only [xd, xe, xf]
       refine call_at (i := 16) (d := 43) (by simp only [xa, xb, xc]; rfl) rfl (by kernel_rfl) rfl (fun K hK => ?_)
       go_simp
       refine (order_any _ p1 p2 p3 e1 e2 e3).mono ?_
       rintro e y2 ⟨rfl, hy2⟩
       have hS2 : Kept u y2 := hS1.below (by have := HY1.out.size; simp at this; omega) hy2
       have HY2 := hide (HY1.out.trans (hy2.mono HY1.out.size))
       clear hy2
       go_wp2_with fail
       refine hK.out _ _ hS2 (fun hSn => ?_)
       clear hK K
       try simp only [xd, xe, xf]
       refine take_at (i := 17) (d := 44) (v := ?_) (by simp only [xa, xb, xc]; rfl) rfl (by kernel_rfl) (by kernel_rfl) (by kernel_rfl) (fun _ _ _ h => h) rfl ?_ (by assumption) ?_
       rotate_left
       ·intro w hSw
        go_simp
        try with_reducible rfl
       try simp only [xd, xe, xf]
       refine take_at (i := 18) (d := 45) (v := ?_) (by simp only [xa, xb, xc]; rfl) rfl (by kernel_rfl) (by kernel_rfl) (by kernel_rfl) (fun _ _ _ h => h) rfl ?_ (by assumption) ?_
       rotate_left
       ·intro w hSw
        go_simp
        try with_reducible rfl
       try simp only [xd, xe, xf]
       refine take_at (i := 19) (d := 46) (v := ?_) (by simp only [xa, xb, xc]; rfl) rfl (by kernel_rfl) (by kernel_rfl) (by kernel_rfl) (fun _ _ _ h => h) rfl ?_ (by assumption) ?_
       rotate_left
       ·intro w hSw
        go_simp
        try with_reducible rfl
       try simp only [xd, xe, xf]
       refine wpAnyH_done (by kernel_rfl) ?_ _
       have hgo := HLAST.out _ HY2.out
       have hst := HStep.out
       rw [HAt.out] at hst
       clear hS0 hSn
       by_cases hord : orderOf (p1, p2, p3) (e1, e2, e3) < 0
       ·have hord' : ¬ 0 ≤ orderOf (p1, p2, p3) (e1, e2, e3) := by omega
        rw [decide_eq_true hord, Bool.true_and] at hst
        have HST := hide hst
        clear hst
        go_wp2
        go_roundw
        case rel => exact ⟨k + 1 + 1, by omega, by go_num, hide (by rw [hok.out, HST.out]), hgo⟩
        case measure => simp [intOf]; omega
       ·have hord' : 0 ≤ orderOf (p1, p2, p3) (e1, e2, e3) := by omega
        rw [decide_eq_false hord, Bool.false_and] at hst
        have HST := hide hst
        clear hst
        go_wp2
        go_ret
        rw [HF.out, hok.out, HST.out]
        exact ⟨rfl, hgo.2.1⟩
     ·have hf' : fitsB e1 e2 e3 V = false := by simpa using hf
      refine wp_region_held_drew (S := Kept u) (by kernel_rfl) (Kept.drew u) (fun hS0 => ?_)
      refine take_at (i := 0) (d := 27) (v := ?_) (by simp only [xa, xb, xc]; rfl) rfl (by kernel_rfl) (by kernel_rfl) (by kernel_rfl) (fun _ _ _ h => h) rfl ?_ (by assumption) ?_
      rotate_left
      ·intro w hSw
       go_simp
       try with_reducible rfl
      try simp only [xd, xe, xf]
      refine take_at (i := 1) (d := 28) (v := ?_) (by simp only [xa, xb, xc]; rfl) rfl (by kernel_rfl) (by kernel_rfl) (by kernel_rfl) (fun _ _ _ h => h) rfl ?_ (by assumption) ?_
      rotate_left
      ·intro w hSw
       go_simp
       try with_reducible rfl
      try simp only [xd, xe, xf]
      refine take_at (i := 2) (d := 29) (v := ?_) (by simp only [xa, xb, xc]; rfl) rfl (by kernel_rfl) (by kernel_rfl) (by kernel_rfl) (fun _ _ _ h => h) rfl ?_ (by assumption) ?_
      rotate_left
      ·intro w hSw
       go_simp
       try with_reducible rfl
      try simp only [xd, xe, xf]
      refine call_at (i := 3) (d := 30) (by simp only [xa, xb, xc]; rfl) rfl (by kernel_rfl) rfl (fun K hK => ?_)
      go_simp
      refine (fits_any _ e1 e2 e3 V).mono ?_
      rintro e y1 ⟨rfl, hy1⟩
      rw [hf']
      have hS1 : Kept u y1 := hS0.below (by simp) hy1
      have HY1 := hide hy1
      clear hy1
      go_wp2_with fail
      refine hK.out _ _ hS1 (fun hSn => ?_)
      clear hK K
      try simp only [xd, xe, xf]
      refine take_at (i := 4) (d := 31) (v := ?_) (by simp only [xa, xb, xc]; rfl) rfl (by kernel_rfl) (by kernel_rfl) (by kernel_rfl) (fun _ _ _ h => h) rfl ?_ (by assumption) ?_
      rotate_left
      ·intro w hSw
       go_simp
       try with_reducible rfl
      try simp only [xd, xe, xf]
      refine take_at (i := 5) (d := 32) (v := ?_) (by simp only [xa, xb, xc]; rfl) rfl (by kernel_rfl) (by kernel_rfl) (by kernel_rfl) (fun _ _ _ h => h) rfl ?_ (by assumption) ?_
      rotate_left
      ·intro w hSw
       go_simp
       try with_reducible rfl
      try simp only [xd, xe, xf]
      refine sk 6 33 ?_; (try simp only [xd, xe, xf])
      refine sk 7 34 ?_; (try simp only [xd, xe, xf])
      refine sk 8 35 ?_; (try simp only [xd, xe, xf])
      refine sk 9 36 ?_; (try simp only [xd, xe, xf])
      refine sk 10 37 ?_; (try simp only [xd, xe, xf])
      refine sk 11 38 ?_; (try simp only [xd, xe, xf])
      refine sk 12 39 ?_; (try simp only [xd, xe, xf])
      refine sk 13 40 ?_; (try simp only [xd, xe, xf])
      refine sk 14 41 ?_; (try simp only [xd, xe, xf])
      refine sk 15 42 ?_; (try simp only [xd, xe, xf])
      refine sk 16 43 ?_; (try simp only [xd, xe, xf])
      refine sk 17 44 ?_; (try simp only [xd, xe, xf])
      refine sk 18 45 ?_; (try simp only [xd, xe, xf])
      refine take_at (i := 19) (d := 46) (v := ?_) (by simp only [xa, xb, xc]; rfl) rfl (by kernel_rfl) (by kernel_rfl) (by kernel_rfl) (fun _ _ _ h => h) rfl ?_ (by assumption) ?_
      rotate_left
      ·intro w hSw
       go_simp
       try with_reducible rfl
      try simp only [xd, xe, xf]
      refine wpAnyH_done (by kernel_rfl) ?_ _
      have hgo := HLAST.out _ HY1.out
      have hst := HStep.out
      have hat : okAt V es i = false := by
       rw [okAt, HEi.out]
       show (fitsB e1 e2 e3 V && _) = false
       rw [hf']; rfl
      rw [hat, Bool.false_and] at hst
      have HST := hide hst
      clear hst hS0 hSn
      go_wp2
      go_ret
      rw [HF.out, hok.out, HST.out]
      exact ⟨rfl, hgo.2.1⟩
    ·obtain rfl : i = L := by omega
     have ht : okFrom V es 0 = true := by rw [hok.out, ← HL.out]; exact okFrom_end _ _
     go_wp2
     go_ret
     rw [HF.out, if_pos ht]
     exact ⟨rfl, hbw⟩
end Go.Proofs.Ytihdpfjonkagaaa
namespace Go.Proofs.Ytihdpfjonkagaaa
open Go.RowKit
theorem rfits_any (w : World) (f t x V : Int) : Calls Try.prog 42 #[.agg #[.int .i64 f, .int .i64 t, .int .i64 x], .int .i64 V] w fun e w' => e = .returned (.bool (fitsB f t x V)) ∧ Below w.heap.size w w' := by
 have hb : Below w.heap.size w (w.alloc (.cells #[.int .i64 f, .int .i64 t, .int .i64 x] 44)) := (Below.refl _ _).alloc (Nat.le_refl _) _
 have HB := hide hb
 clear hb
 go_enter Try.func42, Try.ntmps42
 go_wp2
 all_goals
  go_ret
  exact ⟨ret_bool (by unfold fitsB; first | rfl | (rw [Bool.eq_iff_iff]; simp only [Bool.and_eq_true, decide_eq_true_eq, Bool.false_eq_true, eq_self_iff_true, true_iff, false_iff]; omega)), HB.out⟩
theorem order_neg (a1 a2 a3 b1 b2 b3 : Int) : (orderOf (a1, a2, a3) (b1, b2, b3) < 0) ↔ (a1 < b1 ∨ (a1 = b1 ∧ a2 < b2)) := by
 unfold orderOf orOf cmpOf
 dsimp only
 (repeat' split) <;> omega
theorem ahead_any (w : World) (a1 a2 a3 b1 b2 b3 : Int) : Calls Try.prog 43 #[.agg #[.int .i64 a1, .int .i64 a2, .int .i64 a3], .agg #[.int .i64 b1, .int .i64 b2, .int .i64 b3]] w fun e w' => e = .returned (.bool (decide (orderOf (a1, a2, a3) (b1, b2, b3) < 0))) ∧ Below w.heap.size w w' := by
 have hb : Below w.heap.size w ((w.alloc (.cells #[.int .i64 a1, .int .i64 a2, .int .i64 a3] 44)).alloc (.cells #[.int .i64 b1, .int .i64 b2, .int .i64 b3] 44)) := ((Below.refl _ _).alloc (Nat.le_refl _) _).alloc (by simp) _
 have HB := hide hb
 have HO := hide (order_neg a1 a2 a3 b1 b2 b3)
 clear hb
 by_cases h1 : a1 < b1
 ·have HF := hide (decide_eq_true (HO.out.2 (.inl h1)))
  go_enter Try.func43, Try.ntmps43
  go_wp2
  go_ret
  exact ⟨ret_bool (by rw [HF.out]), HB.out⟩
 ·by_cases h2 : a1 = b1
  ·subst h2
   by_cases h3 : a2 < b2
   ·have HF := hide (decide_eq_true (HO.out.2 (.inr ⟨rfl, h3⟩)))
    go_enter Try.func43, Try.ntmps43
    go_wp2
    go_ret
    exact ⟨ret_bool (by rw [HF.out]), HB.out⟩
   ·have HF := hide (decide_eq_false (fun h => by have h9 := HO.out.1 h; omega))
    go_enter Try.func43, Try.ntmps43
    go_wp2
    go_ret
    exact ⟨ret_bool (by rw [HF.out]), HB.out⟩
  ·have HF := hide (decide_eq_false (fun h => by have h9 := HO.out.1 h; omega))
   go_enter Try.func43, Try.ntmps43
   go_wp2
   go_ret
   exact ⟨ret_bool (by rw [HF.out]), HB.out⟩
theorem rcheck_any (w : World) (V : Int) (A : Option Addr) (es : List Ed) (L c : Nat) (hL : es.length = L) (hE : Eds w w.heap.size A es) (hc : L ≤ 9223372036854775807) :
  Calls Try.prog 24 #[.agg #[.int .i64 V, .slice A L c]] w fun e w' => e = .returned (.int .i64 (checkF V es)) ∧ Below w.heap.size w w' := by
 obtain ⟨v, hv⟩ : ∃ v, w.alloc (.cells #[.int .i64 V, .slice A L c] 30) = v := ⟨_, rfl⟩
 have hz : v.heap.size = w.heap.size + 1 := by rw [← hv]; simp
 have hb : Below w.heap.size w v := by rw [← hv]; exact (Below.refl _ _).alloc (Nat.le_refl _) _
 have cg : v.heap[w.heap.size]? = some (.cells #[.int .i64 V, .slice A L c] 30) := by rw [← hv]; exact heap_alloc_last w _
 have cg0 : v.cell? ⟨w.heap.size, 0, none⟩ = some (.int .i64 V) := cell_of_row _ _ 0 _ _ _ cg
 have cg1 : v.cell? ⟨w.heap.size, 1, none⟩ = some (.slice A L c) := cell_of_row _ _ 1 _ _ _ cg
 have hlg : w.heap.size < v.heap.size := by omega
 have HE := hide (Els.more (hE.below hb (Nat.le_refl _)) (Nat.le_of_lt hlg))
 have HV := hide hv
 have HB := hide hb
 have HL := hide hL
 have HZ := hide hz
 clear hv hb hz cg hE hL
 by_cases h1 : V > 512 ∨ L > 8192
 ·have hF : checkF V es = 3 := by rw [checkF, HL.out, if_pos h1]
  have HF := hide hF
  clear hF
  by_cases hV : 512 < V
  ·go_enter Try.func24, Try.ntmps24
   go_wp2
   go_ret
   rw [HV.out, HF.out]
   exact ⟨rfl, HB.out⟩
  ·have hV' : ¬ 512 < V := by omega
   have hL' : (8192 : Int) < (L : Int) := by omega
   go_enter Try.func24, Try.ntmps24
   go_wp2
   go_ret
   rw [HV.out, HF.out]
   exact ⟨rfl, HB.out⟩
 ·have hV : ¬ 512 < V := by omega
  have hL' : ¬ (8192 : Int) < (L : Int) := by omega
  have hF : checkF V es = if V < 1 then 40 else if okFrom V es 0 = true then 0 else 40 := by rw [checkF, HL.out, if_neg h1]
  have HF := hide hF
  clear hF h1
  have hL2 : L ≤ 8192 := by omega
  go_enter Try.func24, Try.ntmps24
  go_wp2
  rw [HV.out]
  go_loopw [3] (fun vi wr => ∃ i : Nat, i ≤ L ∧ vi = .int .i64 i ∧ Hid (okFrom V es 0 = okFrom V es i) ∧ Kept v wr ∧ Below w.heap.size w wr ∧ v.heap.size ≤ wr.heap.size) (fun vi _ => L - (intOf vi).toNat)
  case atStart => exact ⟨0, by omega, rfl, hide rfl, Kept.refl v, HB.out, Nat.le_refl _⟩
  case round =>
   obtain ⟨i, hi, rfl, hok, hk, hbw, hsz⟩ := hrel
   have hs := hbw.size
   by_cases hlt : i < L
   ·obtain ⟨e, he⟩ : ∃ e, es[i]? = some e := ⟨_, List.getElem?_eq_getElem (by rw [HL.out]; exact hlt)⟩
    obtain ⟨b, off, rfl, hbl, c0, c1, c2, _, _⟩ := Eds.get HE.out he
    have hI0 : (0 : Int) ≤ (i : Int) := by omega
    have hI1 : (i : Int) < (L : Int) := by omega
    have HStep := hide (okFrom_step V es i (by rw [HL.out]; exact hlt))
    have HEi := hide he
    clear he
    obtain ⟨e1, e2, e3⟩ := e
    dsimp only at c0 c1 c2
    have hlast : ∀ w', Below wr.drew.heap.size wr.drew w' → Kept v w' ∧ Below w.heap.size w w' ∧ v.heap.size ≤ w'.heap.size := fun w' h => ⟨hk.below hsz (below_undrew h), hbw.drew.trans (h.mono hbw.drew.size), by have := h.size; simp at this; omega⟩
    have HLAST := hide hlast
    clear hlast
    by_cases hf : fitsB e1 e2 e3 V = true
    ·rcases Nat.eq_zero_or_pos i with hi0 | hi0
     ·subst hi0
      have hat : okAt V es 0 = true := by
       rw [okAt, HEi.out]
       show (fitsB e1 e2 e3 V && true) = true
       rw [hf]; rfl
      have HST : Hid (okFrom V es 0 = okFrom V es 1) := hide (by rw [HStep.out, hat, Bool.true_and])
      clear hat
      rw [show ((0 : Nat) : Int) = 0 from rfl]
      simp only [Nat.zero_mul, Nat.add_zero] at c0 c1 c2
      go_wp2
      refine wp_region_held_drew (S := Kept v) (by kernel_rfl) (fun p hp => hk p hp) (fun hS0 => ?_)
      refine tk 0 20 ?_ ?_ ?_; rotate_left; (focus (intro w h; go_simp; (try with_reducible rfl))); (try simp only [xd, xe, xf])
      refine tk 1 21 ?_ ?_ ?_; rotate_left; (focus (intro w h; go_simp; (try with_reducible rfl))); (try simp only [xd, xe, xf])
      refine tk 2 22 ?_ ?_ ?_; rotate_left; (focus (intro w h; go_simp; (try with_reducible rfl))); (try simp only [xd, xe, xf])
      refine tk 3 23 ?_ ?_ ?_; rotate_left; (focus (intro w h; go_simp; (try with_reducible rfl))); (try simp only [xd, xe, xf])
      refine tk 4 24 ?_ ?_ ?_; rotate_left; (focus (intro w h; go_simp; (try with_reducible rfl))); (try simp only [xd, xe, xf])
      refine tk 5 25 ?_ ?_ ?_; rotate_left; (focus (intro w h; go_simp; (try with_reducible rfl))); (try simp only [xd, xe, xf])
      refine tk 6 26 ?_ ?_ ?_; rotate_left; (focus (intro w h; go_simp; (try with_reducible rfl))); (try simp only [xd, xe, xf])
      refine call_at (i := 7) (d := 27) (by simp only [xa, xb, xc]; rfl) rfl (by kernel_rfl) rfl (fun K hK => ?_)
      go_simp
      refine (rfits_any _ e1 e2 e3 V).mono ?_
      rintro e y1 ⟨rfl, hy1⟩
      rw [hf]
      have hS1 : Kept v y1 := hS0.below (by simp; omega) hy1
      have HY1 := hide hy1
      clear hy1
      go_wp2_with fail
      refine hK.out _ _ hS1 (fun hSn => ?_)
      clear hK K
      try simp only [xd, xe, xf]
      refine tk 8 28 ?_ ?_ ?_; rotate_left; (focus (intro w h; go_simp; (try with_reducible rfl))); (try simp only [xd, xe, xf])
      refine tk 9 29 ?_ ?_ ?_; rotate_left; (focus (intro w h; go_simp; (try with_reducible rfl))); (try simp only [xd, xe, xf])
      refine tk 10 30 ?_ ?_ ?_; rotate_left; (focus (intro w h; go_simp; (try with_reducible rfl))); (try simp only [xd, xe, xf])
      refine tk 11 31 ?_ ?_ ?_; rotate_left; (focus (intro w h; go_simp; (try with_reducible rfl))); (try simp only [xd, xe, xf])
      refine tk 12 32 ?_ ?_ ?_; rotate_left; (focus (intro w h; go_simp; (try with_reducible rfl))); (try simp only [xd, xe, xf])
      refine sk 13 33 ?_; (try simp only [xd, xe, xf])
      refine sk 14 34 ?_; (try simp only [xd, xe, xf])
      refine sk 15 35 ?_; (try simp only [xd, xe, xf])
      refine sk 16 36 ?_; (try simp only [xd, xe, xf])
      refine sk 17 37 ?_; (try simp only [xd, xe, xf])
      refine sk 18 38 ?_; (try simp only [xd, xe, xf])
      refine sk 19 39 ?_; (try simp only [xd, xe, xf])
      refine sk 20 40 ?_; (try simp only [xd, xe, xf])
      refine sk 21 41 ?_; (try simp only [xd, xe, xf])
      refine sk 22 42 ?_; (try simp only [xd, xe, xf])
      refine sk 23 43 ?_; (try simp only [xd, xe, xf])
      refine sk 24 44 ?_; (try simp only [xd, xe, xf])
      refine sk 25 45 ?_; (try simp only [xd, xe, xf])
      refine tk 26 46 ?_ ?_ ?_; rotate_left; (focus (intro w h; go_simp; (try with_reducible rfl))); (try simp only [xd, xe, xf])
      refine tk 27 47 ?_ ?_ ?_; rotate_left; (focus (intro w h; go_simp; (try with_reducible rfl))); (try simp only [xd, xe, xf])
      refine wpAnyH_done (by kernel_rfl) ?_ _
      have hgo := HLAST.out _ HY1.out
      clear hS0 hSn
      go_wp2
      go_roundw
      case rel => exact ⟨1, by omega, by go_num, HST, hgo⟩
      case measure => simp [intOf]; omega
     ·obtain ⟨k, rfl⟩ : ∃ k, i = k + 1 := ⟨i - 1, by omega⟩
      have hpos : (0 : Int) < ((k + 1 : Nat) : Int) := by omega
      have hsub : ((k + 1 : Nat) : Int) - 1 = (k : Int) := by omega
      have hk0 : (0 : Int) ≤ (k : Int) := by omega
      have hk9 : (0 : Int) ≤ (k : Int) + 1 := by omega
      have hk1 : (k : Int) < (L : Int) := by omega
      have hwk : IntKind.i64.wrap (k : Int) = (k : Int) := IntWalk.i64_in _ (by omega)
      obtain ⟨pe, hpe⟩ : ∃ pe, es[k]? = some pe := ⟨_, List.getElem?_eq_getElem (by have := HL.out; omega)⟩
      obtain ⟨p1, p2, p3⟩ := pe
      obtain ⟨b', off', hA', _, q0, q1, q2, _, _⟩ := Eds.get HE.out hpe
      injection hA' with hA'
      injection hA' with hA1 hA2
      subst hA1 hA2
      dsimp only at q0 q1 q2
      have hat : okAt V es (k + 1) = decide (orderOf (p1, p2, p3) (e1, e2, e3) < 0) := by
       rw [okAt, HEi.out]
       show (fitsB e1 e2 e3 V && _) = _
       rw [hf, if_neg (by omega), Nat.add_sub_cancel, hpe]; rfl
      have HAt := hide hat
      have HPe := hide hpe
      clear hat hpe
      by_cases hord : orderOf (p1, p2, p3) (e1, e2, e3) < 0
      ·have HST : Hid (okFrom V es 0 = okFrom V es (k + 1 + 1)) := hide (by rw [hok.out, HStep.out, HAt.out, decide_eq_true hord, Bool.true_and])
       have HD := hide (decide_eq_true hord)
       clear hord
       go_wp2
       refine wp_region_held_drew (S := Kept v) (by kernel_rfl) (fun p hp => hk p hp) (fun hS0 => ?_)
       refine tk 0 20 ?_ ?_ ?_; rotate_left; (focus (intro w h; go_simp; (try with_reducible rfl))); (try simp only [xd, xe, xf])
       refine tk 1 21 ?_ ?_ ?_; rotate_left; (focus (intro w h; go_simp; (try with_reducible rfl))); (try simp only [xd, xe, xf])
       refine tk 2 22 ?_ ?_ ?_; rotate_left; (focus (intro w h; go_simp; (try with_reducible rfl))); (try simp only [xd, xe, xf])
       refine tk 3 23 ?_ ?_ ?_; rotate_left; (focus (intro w h; go_simp; (try with_reducible rfl))); (try simp only [xd, xe, xf])
       refine tk 4 24 ?_ ?_ ?_; rotate_left; (focus (intro w h; go_simp; (try with_reducible rfl))); (try simp only [xd, xe, xf])
       refine tk 5 25 ?_ ?_ ?_; rotate_left; (focus (intro w h; go_simp; (try with_reducible rfl))); (try simp only [xd, xe, xf])
       refine tk 6 26 ?_ ?_ ?_; rotate_left; (focus (intro w h; go_simp; (try with_reducible rfl))); (try simp only [xd, xe, xf])
       refine call_at (i := 7) (d := 27) (by simp only [xa, xb, xc]; rfl) rfl (by kernel_rfl) rfl (fun K hK => ?_)
       go_simp
       refine (rfits_any _ e1 e2 e3 V).mono ?_
       rintro e y1 ⟨rfl, hy1⟩
       rw [hf]
       have hS1 : Kept v y1 := hS0.below (by simp; omega) hy1
       have HY1 := hide hy1
       clear hy1
       go_wp2_with fail
       refine hK.out _ _ hS1 (fun hSn => ?_)
       clear hK K
       try simp only [xd, xe, xf]
       refine tk 8 28 ?_ ?_ ?_; rotate_left; (focus (intro w h; go_simp; (try with_reducible rfl))); (try simp only [xd, xe, xf])
       refine tk 9 29 ?_ ?_ ?_; rotate_left; (focus (intro w h; go_simp; (try with_reducible rfl))); (try simp only [xd, xe, xf])
       refine tk 10 30 ?_ ?_ ?_; rotate_left; (focus (intro w h; go_simp; (try with_reducible rfl))); (try simp only [xd, xe, xf])
       refine tk 11 31 ?_ ?_ ?_; rotate_left; (focus (intro w h; go_simp; (try with_reducible rfl))); (try simp only [xd, xe, xf])
       refine tk 12 32 ?_ ?_ ?_; rotate_left; (focus (intro w h; go_simp; (try with_reducible rfl))); (try simp only [xd, xe, xf])
       refine tk 13 33 ?_ ?_ ?_; rotate_left; (focus (intro w h; go_simp; (try with_reducible rfl))); (try simp only [xd, xe, xf])
       refine tk 14 34 ?_ ?_ ?_; rotate_left; (focus (intro w h; go_simp; (try with_reducible rfl))); (try simp only [xd, xe, xf])
       refine tk 15 35 ?_ ?_ ?_; rotate_left; (focus (intro w h; go_simp; (try with_reducible rfl))); (try simp only [xd, xe, xf])
       refine tk 16 36 ?_ ?_ ?_; rotate_left; (focus (intro w h; go_simp; (try with_reducible rfl))); (try simp only [xd, xe, xf])
       refine tk 17 37 ?_ ?_ ?_; rotate_left; (focus (intro w h; go_simp; (try with_reducible rfl))); (try simp only [xd, xe, xf])
       refine tk 18 38 ?_ ?_ ?_; rotate_left; (focus (intro w h; go_simp; (try with_reducible rfl))); (try simp only [xd, xe, xf])
       refine tk 19 39 ?_ ?_ ?_; rotate_left; (focus (intro w h; go_simp; (try with_reducible rfl))); (try simp only [xd, xe, xf])
       refine tk 20 40 ?_ ?_ ?_; rotate_left; (focus (intro w h; go_simp; (try with_reducible rfl))); (try simp only [xd, xe, xf])
       refine tk 21 41 ?_ ?_ ?_; rotate_left; (focus (intro w h; go_simp; (try with_reducible rfl))); (try simp only [xd, xe, xf])
       refine tk 22 42 ?_ ?_ ?_; rotate_left; (focus (intro w h; go_simp; (try with_reducible rfl))); (try simp only [xd, xe, xf])
       refine tk 23 43 ?_ ?_ ?_; rotate_left; (focus (intro w h; go_simp; (try with_reducible rfl))); (try simp only [xd, xe, xf])
       refine call_at (i := 24) (d := 44) (by simp only [xa, xb, xc]; rfl) rfl (by kernel_rfl) rfl (fun K hK => ?_)
       go_simp
       refine (ahead_any _ p1 p2 p3 e1 e2 e3).mono ?_
       rintro e y2 ⟨rfl, hy2⟩
       rw [HD.out]
       have hS2 : Kept v y2 := hS1.below (by have := HY1.out.size; simp at this; omega) hy2
       have HY2 := hide (HY1.out.trans (hy2.mono HY1.out.size))
       clear hy2
       go_wp2_with fail
       refine hK.out _ _ hS2 (fun hSn => ?_)
       clear hK K
       try simp only [xd, xe, xf]
       refine tk 25 45 ?_ ?_ ?_; rotate_left; (focus (intro w h; go_simp; (try with_reducible rfl))); (try simp only [xd, xe, xf])
       refine tk 26 46 ?_ ?_ ?_; rotate_left; (focus (intro w h; go_simp; (try with_reducible rfl))); (try simp only [xd, xe, xf])
       refine tk 27 47 ?_ ?_ ?_; rotate_left; (focus (intro w h; go_simp; (try with_reducible rfl))); (try simp only [xd, xe, xf])
       refine wpAnyH_done (by kernel_rfl) ?_ _
       have hgo := HLAST.out _ HY2.out
       clear hS0 hSn
       go_wp2
       go_roundw
       case rel => exact ⟨k + 1 + 1, by omega, by go_num, HST, hgo⟩
       case measure => simp [intOf]; omega
      ·have HST : Hid (okFrom V es 0 = false) := hide (by rw [hok.out, HStep.out, HAt.out, decide_eq_false hord, Bool.false_and])
       have HD := hide (decide_eq_false hord)
       clear hord
       go_wp2
       refine wp_region_held_drew (S := Kept v) (by kernel_rfl) (fun p hp => hk p hp) (fun hS0 => ?_)
       refine tk 0 20 ?_ ?_ ?_; rotate_left; (focus (intro w h; go_simp; (try with_reducible rfl))); (try simp only [xd, xe, xf])
       refine tk 1 21 ?_ ?_ ?_; rotate_left; (focus (intro w h; go_simp; (try with_reducible rfl))); (try simp only [xd, xe, xf])
       refine tk 2 22 ?_ ?_ ?_; rotate_left; (focus (intro w h; go_simp; (try with_reducible rfl))); (try simp only [xd, xe, xf])
       refine tk 3 23 ?_ ?_ ?_; rotate_left; (focus (intro w h; go_simp; (try with_reducible rfl))); (try simp only [xd, xe, xf])
       refine tk 4 24 ?_ ?_ ?_; rotate_left; (focus (intro w h; go_simp; (try with_reducible rfl))); (try simp only [xd, xe, xf])
       refine tk 5 25 ?_ ?_ ?_; rotate_left; (focus (intro w h; go_simp; (try with_reducible rfl))); (try simp only [xd, xe, xf])
       refine tk 6 26 ?_ ?_ ?_; rotate_left; (focus (intro w h; go_simp; (try with_reducible rfl))); (try simp only [xd, xe, xf])
       refine call_at (i := 7) (d := 27) (by simp only [xa, xb, xc]; rfl) rfl (by kernel_rfl) rfl (fun K hK => ?_)
       go_simp
       refine (rfits_any _ e1 e2 e3 V).mono ?_
       rintro e y1 ⟨rfl, hy1⟩
       rw [hf]
       have hS1 : Kept v y1 := hS0.below (by simp; omega) hy1
       have HY1 := hide hy1
       clear hy1
       go_wp2_with fail
       refine hK.out _ _ hS1 (fun hSn => ?_)
       clear hK K
       try simp only [xd, xe, xf]
       refine tk 8 28 ?_ ?_ ?_; rotate_left; (focus (intro w h; go_simp; (try with_reducible rfl))); (try simp only [xd, xe, xf])
       refine tk 9 29 ?_ ?_ ?_; rotate_left; (focus (intro w h; go_simp; (try with_reducible rfl))); (try simp only [xd, xe, xf])
       refine tk 10 30 ?_ ?_ ?_; rotate_left; (focus (intro w h; go_simp; (try with_reducible rfl))); (try simp only [xd, xe, xf])
       refine tk 11 31 ?_ ?_ ?_; rotate_left; (focus (intro w h; go_simp; (try with_reducible rfl))); (try simp only [xd, xe, xf])
       refine tk 12 32 ?_ ?_ ?_; rotate_left; (focus (intro w h; go_simp; (try with_reducible rfl))); (try simp only [xd, xe, xf])
       refine tk 13 33 ?_ ?_ ?_; rotate_left; (focus (intro w h; go_simp; (try with_reducible rfl))); (try simp only [xd, xe, xf])
       refine tk 14 34 ?_ ?_ ?_; rotate_left; (focus (intro w h; go_simp; (try with_reducible rfl))); (try simp only [xd, xe, xf])
       refine tk 15 35 ?_ ?_ ?_; rotate_left; (focus (intro w h; go_simp; (try with_reducible rfl))); (try simp only [xd, xe, xf])
       refine tk 16 36 ?_ ?_ ?_; rotate_left; (focus (intro w h; go_simp; (try with_reducible rfl))); (try simp only [xd, xe, xf])
       refine tk 17 37 ?_ ?_ ?_; rotate_left; (focus (intro w h; go_simp; (try with_reducible rfl))); (try simp only [xd, xe, xf])
       refine tk 18 38 ?_ ?_ ?_; rotate_left; (focus (intro w h; go_simp; (try with_reducible rfl))); (try simp only [xd, xe, xf])
       refine tk 19 39 ?_ ?_ ?_; rotate_left; (focus (intro w h; go_simp; (try with_reducible rfl))); (try simp only [xd, xe, xf])
       refine tk 20 40 ?_ ?_ ?_; rotate_left; (focus (intro w h; go_simp; (try with_reducible rfl))); (try simp only [xd, xe, xf])
       refine tk 21 41 ?_ ?_ ?_; rotate_left; (focus (intro w h; go_simp; (try with_reducible rfl))); (try simp only [xd, xe, xf])
       refine tk 22 42 ?_ ?_ ?_; rotate_left; (focus (intro w h; go_simp; (try with_reducible rfl))); (try simp only [xd, xe, xf])
       refine tk 23 43 ?_ ?_ ?_; rotate_left; (focus (intro w h; go_simp; (try with_reducible rfl))); (try simp only [xd, xe, xf])
       refine call_at (i := 24) (d := 44) (by simp only [xa, xb, xc]; rfl) rfl (by kernel_rfl) rfl (fun K hK => ?_)
       go_simp
       refine (ahead_any _ p1 p2 p3 e1 e2 e3).mono ?_
       rintro e y2 ⟨rfl, hy2⟩
       rw [HD.out]
       have hS2 : Kept v y2 := hS1.below (by have := HY1.out.size; simp at this; omega) hy2
       have HY2 := hide (HY1.out.trans (hy2.mono HY1.out.size))
       clear hy2
       go_wp2_with fail
       refine hK.out _ _ hS2 (fun hSn => ?_)
       clear hK K
       try simp only [xd, xe, xf]
       refine tk 25 45 ?_ ?_ ?_; rotate_left; (focus (intro w h; go_simp; (try with_reducible rfl))); (try simp only [xd, xe, xf])
       refine tk 26 46 ?_ ?_ ?_; rotate_left; (focus (intro w h; go_simp; (try with_reducible rfl))); (try simp only [xd, xe, xf])
       refine tk 27 47 ?_ ?_ ?_; rotate_left; (focus (intro w h; go_simp; (try with_reducible rfl))); (try simp only [xd, xe, xf])
       refine wpAnyH_done (by kernel_rfl) ?_ _
       have hgo := HLAST.out _ HY2.out
       clear hS0 hSn
       go_wp2
       go_ret
       have hV1 : (if V < 1 then (40 : Int) else if okFrom V es 0 = true then 0 else 40) = 40 := by rw [HST.out]; split <;> rfl
       rw [HF.out, hV1]
       exact ⟨rfl, hgo.2.1⟩
    ·have hf' : fitsB e1 e2 e3 V = false := by simpa using hf
     have HST : Hid (okFrom V es 0 = false) := hide (by
      rw [hok.out, HStep.out, okAt, HEi.out]
      show ((fitsB e1 e2 e3 V && _) && _) = false
      rw [hf']; rfl)
     go_wp2
     refine wp_region_held_drew (S := Kept v) (by kernel_rfl) (fun p hp => hk p hp) (fun hS0 => ?_)
     refine tk 0 20 ?_ ?_ ?_; rotate_left; (focus (intro w h; go_simp; (try with_reducible rfl))); (try simp only [xd, xe, xf])
     refine tk 1 21 ?_ ?_ ?_; rotate_left; (focus (intro w h; go_simp; (try with_reducible rfl))); (try simp only [xd, xe, xf])
     refine tk 2 22 ?_ ?_ ?_; rotate_left; (focus (intro w h; go_simp; (try with_reducible rfl))); (try simp only [xd, xe, xf])
     refine tk 3 23 ?_ ?_ ?_; rotate_left; (focus (intro w h; go_simp; (try with_reducible rfl))); (try simp only [xd, xe, xf])
     refine tk 4 24 ?_ ?_ ?_; rotate_left; (focus (intro w h; go_simp; (try with_reducible rfl))); (try simp only [xd, xe, xf])
     refine tk 5 25 ?_ ?_ ?_; rotate_left; (focus (intro w h; go_simp; (try with_reducible rfl))); (try simp only [xd, xe, xf])
     refine tk 6 26 ?_ ?_ ?_; rotate_left; (focus (intro w h; go_simp; (try with_reducible rfl))); (try simp only [xd, xe, xf])
     refine call_at (i := 7) (d := 27) (by simp only [xa, xb, xc]; rfl) rfl (by kernel_rfl) rfl (fun K hK => ?_)
     go_simp
     refine (rfits_any _ e1 e2 e3 V).mono ?_
     rintro e y1 ⟨rfl, hy1⟩
     rw [hf']
     have hS1 : Kept v y1 := hS0.below (by simp; omega) hy1
     have HY1 := hide hy1
     clear hy1
     go_wp2_with fail
     refine hK.out _ _ hS1 (fun hSn => ?_)
     clear hK K
     try simp only [xd, xe, xf]
     refine tk 8 28 ?_ ?_ ?_; rotate_left; (focus (intro w h; go_simp; (try with_reducible rfl))); (try simp only [xd, xe, xf])
     refine tk 9 29 ?_ ?_ ?_; rotate_left; (focus (intro w h; go_simp; (try with_reducible rfl))); (try simp only [xd, xe, xf])
     refine sk 10 30 ?_; (try simp only [xd, xe, xf])
     refine sk 11 31 ?_; (try simp only [xd, xe, xf])
     refine sk 12 32 ?_; (try simp only [xd, xe, xf])
     refine sk 13 33 ?_; (try simp only [xd, xe, xf])
     refine sk 14 34 ?_; (try simp only [xd, xe, xf])
     refine sk 15 35 ?_; (try simp only [xd, xe, xf])
     refine sk 16 36 ?_; (try simp only [xd, xe, xf])
     refine sk 17 37 ?_; (try simp only [xd, xe, xf])
     refine sk 18 38 ?_; (try simp only [xd, xe, xf])
     refine sk 19 39 ?_; (try simp only [xd, xe, xf])
     refine sk 20 40 ?_; (try simp only [xd, xe, xf])
     refine sk 21 41 ?_; (try simp only [xd, xe, xf])
     refine sk 22 42 ?_; (try simp only [xd, xe, xf])
     refine sk 23 43 ?_; (try simp only [xd, xe, xf])
     refine sk 24 44 ?_; (try simp only [xd, xe, xf])
     refine sk 25 45 ?_; (try simp only [xd, xe, xf])
     refine sk 26 46 ?_; (try simp only [xd, xe, xf])
     refine tk 27 47 ?_ ?_ ?_; rotate_left; (focus (intro w h; go_simp; (try with_reducible rfl))); (try simp only [xd, xe, xf])
     refine wpAnyH_done (by kernel_rfl) ?_ _
     have hgo := HLAST.out _ HY1.out
     clear hS0 hSn
     go_wp2
     go_ret
     have hV1 : (if V < 1 then (40 : Int) else if okFrom V es 0 = true then 0 else 40) = 40 := by rw [HST.out]; split <;> rfl
     rw [HF.out, hV1]
     exact ⟨rfl, hgo.2.1⟩
   ·obtain rfl : i = L := by omega
    have ht : okFrom V es 0 = true := by rw [hok.out, ← HL.out]; exact okFrom_end _ _
    have kg0 := (hk ⟨w.heap.size, 0, none⟩ hlg).trans cg0
    by_cases h2 : V < 1
    ·have HF2 := hide (HF.out.trans (if_pos h2))
     go_wp2
     go_ret
     rw [HF2.out]
     exact ⟨rfl, hbw⟩
    ·have HF2 := hide (HF.out.trans ((if_neg h2).trans (if_pos ht)))
     clear ht
     go_wp2
     go_ret
     rw [HF2.out]
     exact ⟨rfl, hbw⟩
end Go.Proofs.Ytihdpfjonkagaaa
namespace Go.Proofs.Ytihdpfjonkagaaa
open Go.RowKit
theorem join1_any (w : World) (x y : Ed) : Calls Try.prog 40 #[.agg #[.int .i64 x.1, .int .i64 x.2.1, .int .i64 x.2.2], .agg #[.int .i64 y.1, .int .i64 y.2.1, .int .i64 y.2.2]] w fun e w' => e = .returned (.int .i64 (wrap64 (x.1 - y.1))) ∧ Below w.heap.size w w' := by
 obtain ⟨a1, a2, a3⟩ := x
 obtain ⟨b1, b2, b3⟩ := y
 obtain ⟨u, hu⟩ : ∃ u, (w.alloc (.cells #[.int .i64 a1, .int .i64 a2, .int .i64 a3] 44)).alloc (.cells #[.int .i64 b1, .int .i64 b2, .int .i64 b3] 44) = u := ⟨_, rfl⟩
 have hbu := hide (show Below w.heap.size w u by rw [← hu]; exact ((Below.refl _ _).alloc (Nat.le_refl _) _).alloc (by simp) _)
 have M0 : u.heap[w.heap.size]? = some (.cells #[.int .i64 a1, .int .i64 a2, .int .i64 a3] 44) := by rw [← hu]; exact (Below.heap_alloc _ _ _ (by simp)).trans (heap_alloc_last w _)
 have M1 : u.heap[w.heap.size + 1]? = some (.cells #[.int .i64 b1, .int .i64 b2, .int .i64 b3] 44) := by
  rw [← hu]
  have := heap_alloc_last (w.alloc (.cells #[.int .i64 a1, .int .i64 a2, .int .i64 a3] 44)) (.cells #[.int .i64 b1, .int .i64 b2, .int .i64 b3] 44)
  rw [World.size_alloc] at this
  exact this
 have HU := hide hu
 clear hu
 have c0 : u.cell? ⟨w.heap.size, 0, none⟩ = some (.int .i64 a1) := cell_of_row _ _ 0 _ _ _ M0
 have c1 : u.cell? ⟨w.heap.size + 1, 0, none⟩ = some (.int .i64 b1) := cell_of_row _ _ 0 _ _ _ M1
 clear M0 M1
 go_enter Try.func40, Try.ntmps40
 go_wp2_with fail
 rw [HU.out]
 go_wp2
 go_ret
 exact ⟨rfl, hbu.out⟩
end Go.Proofs.Ytihdpfjonkagaaa
