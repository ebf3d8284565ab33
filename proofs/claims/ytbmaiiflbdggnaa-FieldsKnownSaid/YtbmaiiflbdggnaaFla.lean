/- The walk of the statement FieldsOrdered. -/
import Derived.Test.YtbmaiiflbdggnaaFwk
import Derived.Test.YtbmaiiflbdggnaaFlw
import Derived.Test.YtbmaiiflbdggnaaReg
import Derived.Deep.RegionHeld3
import Derived.Deep.RegionLaw
namespace Go.Proofs.Ytbmaiiflbdggnaa
open Go.RowKit
set_option linter.unusedVariables false
set_option linter.unusedSimpArgs false

theorem two_new (w : World) : Wo ((w.alloc (.cells #[.pointer none, .int .i64 0] 28)).alloc (.cells #[.pointer none, .int .i64 0] 28)) w.heap.size (w.heap.size + 1) [] ∧ Wo ((w.alloc (.cells #[.pointer none, .int .i64 0] 28)).alloc (.cells #[.pointer none, .int .i64 0] 28)) (w.heap.size + 1) (w.heap.size + 1) [] := by
  have s1 : (w.alloc (.cells #[.pointer none, .int .i64 0] 28)).heap.size = w.heap.size + 1 := by simp
  have h1 := Wr.new w
  have h2 := Wr.new (w.alloc (.cells #[.pointer none, .int .i64 0] 28))
  rw [s1] at h2
  have h1' := h1.below ((Below.refl _ _).alloc (Nat.le_refl _) (.cells #[.pointer none, .int .i64 0] 28))
  exact ⟨⟨[], rfl, h1'.raise (by omega) (by simp)⟩, ⟨[], rfl, h2⟩⟩
theorem three_new (w : World) (w' : World) (hw : w' = (((w.alloc (.cells #[.pointer none, .int .i64 0] 28)).alloc (.cells #[.pointer none, .int .i64 0] 28)).alloc (.cells #[.pointer none, .int .i64 0] 28))) : Wo w' w.heap.size (w.heap.size + 2) [] ∧ Wo w' (w.heap.size + 1) (w.heap.size + 2) [] ∧ Wo w' (w.heap.size + 1 + 1) (w.heap.size + 2) [] ∧ Below w.heap.size w w' := by
  subst hw
  have s1 : (w.alloc (.cells #[.pointer none, .int .i64 0] 28)).heap.size = w.heap.size + 1 := by simp
  have s2 : ((w.alloc (.cells #[.pointer none, .int .i64 0] 28)).alloc (.cells #[.pointer none, .int .i64 0] 28)).heap.size = w.heap.size + 1 + 1 := by simp
  have b1 := (Below.refl (w.alloc (.cells #[.pointer none, .int .i64 0] 28)).heap.size (w.alloc (.cells #[.pointer none, .int .i64 0] 28))).alloc (Nat.le_refl _) (.cells #[.pointer none, .int .i64 0] 28)
  have b2 := (Below.refl ((w.alloc (.cells #[.pointer none, .int .i64 0] 28)).alloc (.cells #[.pointer none, .int .i64 0] 28)).heap.size ((w.alloc (.cells #[.pointer none, .int .i64 0] 28)).alloc (.cells #[.pointer none, .int .i64 0] 28))).alloc (Nat.le_refl _) (.cells #[.pointer none, .int .i64 0] 28)
  have h1 := ((Wr.new w).below b1).below b2
  have h2 := (Wr.new (w.alloc (.cells #[.pointer none, .int .i64 0] 28))).below b2
  have h3 := Wr.new ((w.alloc (.cells #[.pointer none, .int .i64 0] 28)).alloc (.cells #[.pointer none, .int .i64 0] 28))
  rw [s1] at h2
  rw [s2] at h3
  exact ⟨⟨[], rfl, h1.raise (by omega) (by simp)⟩, ⟨[], rfl, h2.raise (by omega) (by simp)⟩, ⟨[], rfl, h3⟩, (((Below.refl _ w).alloc (Nat.le_refl _) _).alloc (by simp) _).alloc (by simp; omega) _⟩

theorem out_len (w : World) (g : Nat) {lo : Nat} (out : List UInt8) (n : Nat) (hn : out.length = n) (hW : Wo w g lo out) (hl : n ≤ 1000000000000) :
    Calls Try.prog 12 #[.pointer (some ⟨g, 0, none⟩)] w fun e w' => e = .returned (.slice (some ⟨w.heap.size, 0, none⟩) n n) ∧ w'.heap[w.heap.size]? = some (.cells (u8s out).toArray 5) ∧ Below w.heap.size w w' := by
  subst hn
  exact out_any w g out hW hl
theorem Rd.part {w : World} {B b off : Nat} {xs : List Value} (h : Rd w B (some ⟨b, off, none⟩) xs) (k n : Nat) : Rd w B (some ⟨b, off + k, none⟩) ((xs.drop k).take n) := fun hn => by
  obtain ⟨b', off', e, hlt, hc⟩ := h (fun e => by subst e; simp at hn)
  injection e with e
  injection e with e1 e2
  subst e1 e2
  refine ⟨b, off + k, rfl, hlt, fun j u hu => ?_⟩
  rw [List.getElem?_take] at hu
  split at hu
  · rw [List.getElem?_drop] at hu
    rw [Nat.add_assoc]
    exact hc _ _ hu
  · cases hu
theorem str_at {P : Program} {w : World} {B : Nat} {A : Option Addr} {xs : List Value} {src dst e : TypeId} (hs : P.underlying src = some (.slice e)) (he : P.underlying e = some (.int .u8)) (hd : P.underlying dst = some .string) (n cap : Nat)
    (h : Rd w B A xs) (bs : List UInt8) (hx : xs = u8s bs) (hn : bs.length = n) : ∀ m, (convert src dst (.slice A n cap)).run P (w.drewN m) = .ok (.string ⟨bs.toArray⟩) (w.drewN m) := by
  subst hx
  subst hn
  intro m
  exact run_string_of (w.drewN m) src dst e A cap B bs hs he hd (h.drewN m)

set_option maxRecDepth 100000 in
set_option maxHeartbeats 8000000 in
theorem fieldsOrdered_walk (w : World) (a : Int) (ha1 : 0 ≤ a) (ha2 : a ≤ 18446744073709551615) (b : Int) (hb1 : 0 ≤ b) (hb2 : b ≤ 18446744073709551615) :
    Calls Try.prog 5 #[.int .u64 a, .int .u64 b] w fun e w' => e = .returned (.bool true) ∧ Below w.heap.size w w' := by
  obtain ⟨a, rfl⟩ := Int.eq_ofNat_of_zero_le ha1
  obtain ⟨b, rfl⟩ := Int.eq_ofNat_of_zero_le hb1
  have n1 := hide (two_new w)
  have hbw : Below w.heap.size w ((w.alloc (.cells #[.pointer none, .int .i64 0] 28)).alloc (.cells #[.pointer none, .int .i64 0] 28)) := ((Below.refl _ _).alloc (Nat.le_refl _) _).alloc (by simp) _
  go_enter Try.func5, Try.ntmps5
  go_wp2_with fail
  refine (put64 _ w.heap.size [] a (by omega) n1.out.1 (by decide)).mono ?_
  rintro e w1 ⟨rfl, V1, q1⟩
  have W1 := n1.out.2.other q1 (by omega) (by omega)
  have hb1 := hbw.trans (q1.below (Nat.le_refl _) (by simp; omega))
  clear n1 q1 hbw
  go_wp2_with fail
  refine (put64 _ (w.heap.size + 1) [] b (by omega) W1 (by decide)).mono ?_
  rintro e w2 ⟨rfl, W2, q2⟩
  have V2 := V1.other q2 (by omega) (by omega)
  have hb2 := hb1.trans (q2.below (by omega) hb1.size)
  clear V1 W1 q2 hb1
  have s2 := hb2.size
  obtain ⟨x0, hx0⟩ : ∃ x0, x0 = (((w2.alloc (.cells #[.pointer none, .int .i64 0] 28)).alloc (.cells #[.pointer none, .int .i64 0] 28)).alloc (.cells #[.pointer none, .int .i64 0] 28)) := ⟨_, rfl⟩
  obtain ⟨X0, Y0, Z0, hbx⟩ := three_new w2 x0 hx0
  have c8 := hide (show ((a : Int) % 256) = ((a % 256 : Nat) : Int) by omega)
  have c16 := hide (show IntKind.u16.wrap (a : Int) = ((a % 65536 : Nat) : Int) by rw [IntKind.wrap_u16]; omega)
  have c32 := hide (show ((a : Int) % 4294967296) = ((a % 4294967296 : Nat) : Int) by omega)
  have c32b := hide (show ((b : Int) % 4294967296) = ((b % 4294967296 : Nat) : Int) by omega)
  have HX0 := hide hx0
  clear hx0
  have hX := W2.lt
  have hsx := hbx.size
  go_wp2_with fail
  rw [← HX0.out, c8.out]
  refine (put8 _ w2.heap.size [] (a % 256) (by omega) X0 (by decide)).mono ?_
  rintro e w3 ⟨rfl, X1, q1⟩
  have Y1 := Y0.other q1 (by omega) (by omega)
  have Z1 := Z0.other q1 (by omega) (by omega)
  have hb3 := hbx.trans (q1.below (Nat.le_refl _) hsx)
  have s3 := hb3.size
  clear X0 Y0 Z0 q1 hbx hsx HX0
  go_wp2_with fail
  rw [c16.out]
  refine (put16 _ w2.heap.size _ (a % 65536) (by omega) X1 (by simp [be_len])).mono ?_
  rintro e w4 ⟨rfl, X2, q2⟩
  have Y2 := Y1.other q2 (by omega) (by omega)
  have Z2 := Z1.other q2 (by omega) (by omega)
  have hb4 := hb3.trans (q2.below (Nat.le_refl _) s3)
  have s4 := hb4.size
  clear X1 Y1 Z1 q2 hb3 s3
  go_wp2_with fail
  rw [c32.out]
  refine (put32 _ w2.heap.size _ (a % 4294967296) (by omega) X2 (by simp [be_len])).mono ?_
  rintro e w5 ⟨rfl, X3, q3⟩
  have Y3 := Y2.other q3 (by omega) (by omega)
  have Z3 := Z2.other q3 (by omega) (by omega)
  have hb5 := hb4.trans (q3.below (Nat.le_refl _) s4)
  have s5 := hb5.size
  clear X2 Y2 Z2 q3 hb4 s4
  go_wp2_with fail
  rw [c32.out]
  refine (put32 _ (w2.heap.size + 1) _ (a % 4294967296) (by omega) Y3 (by decide)).mono ?_
  rintro e w6 ⟨rfl, Y4, q4⟩
  have X4 := X3.other q4 (by omega) (by omega)
  have Z4 := Z3.other q4 (by omega) (by omega)
  have hb6 := hb5.trans (q4.below (by omega) s5)
  have s6 := hb6.size
  clear X3 Y3 Z3 q4 hb5 s5
  go_wp2_with fail
  rw [c32b.out]
  refine (put32 _ (w2.heap.size + 1 + 1) _ (b % 4294967296) (by omega) Z4 (by decide)).mono ?_
  rintro e w7 ⟨rfl, Z5, q5⟩
  have X5 := X4.other q5 (by omega) (by omega)
  have Y5 := Y4.other q5 (by omega) (by omega)
  have hb7 := hb6.trans (q5.below (by omega) s6)
  have s7 := hb7.size
  clear X4 Y4 Z4 q5 hb6 s6
  have V5 := V2.below hb7
  have W5 := W2.below hb7
  clear V2 W2
  have hb7w := hb2.trans (hb7.mono s2)
  have s7w := hb7w.size
  clear hb7 hb2
  rw [List.nil_append] at V5 W5 Y5 Z5 X5
  go_wp2_with fail
  refine (out_len _ w2.heap.size _ 7 (by simp [be_len]) X5 (by decide)).mono ?_
  rintro e w8 ⟨rfl, g8, b8⟩
  rw [be_mod 1 a 0, be_mod 2 a 0, be_mod 4 a 0] at g8
  have hs8 := b8.size
  go_wp2_with fail
  refine (out_len _ w.heap.size _ 8 (be_len _ _) (V5.below b8) (by decide)).mono ?_
  rintro e w9 ⟨rfl, g9, b9⟩
  have r8 := (Rd.of_block g8).below' b9 (Nat.le_refl _)
  have r9 := Rd.of_block g9
  have V9 := (V5.below b8).below b9
  have W9 := (W5.below b8).below b9
  have Y9 := (Y5.below b8).below b9
  have Z9 := (Z5.below b8).below b9
  have hb9w := hb7w.trans ((b8.trans (b9.mono hs8)).mono s7w)
  have hs9w := hb9w.size
  have k1 := str_at Try.underlying31 Try.underlying5 Try.underlying9 1 7 (r8.part 0 1) (be 1 a) rfl (be_len 1 a)
  have k2 := str_at Try.underlying31 Try.underlying5 Try.underlying9 2 6 (r8.part 1 2) (be 2 a) rfl (be_len 2 a)
  have k3 := str_at Try.underlying31 Try.underlying5 Try.underlying9 4 4 (r8.part 3 4) (be 4 a) rfl (be_len 4 a)
  have k4 := str_at Try.underlying31 Try.underlying5 Try.underlying9 1 1 (r9.part 7 1) (be 1 a) rfl (be_len 1 a)
  have k5 := str_at Try.underlying31 Try.underlying5 Try.underlying9 2 2 (r9.part 6 2) (be 2 a) rfl (be_len 2 a)
  have k6 := str_at Try.underlying31 Try.underlying5 Try.underlying9 4 4 (r9.part 4 4) (be 4 a) rfl (be_len 4 a)
  clear X5 V5 W5 Y5 Z5 g8 g9 r8 r9 b8 b9 hb7w
  go_wp2
  go_quiet (fail)
  clear k1 k2 k3 k4 k5 k6 c8 c16 c32 c32b
  obtain ⟨v0, hv0⟩ : ∃ v0, w9.drewN nq = v0 := ⟨_, rfl⟩
  have hbv : Below w9.heap.size w9 v0 := by rw [← hv0]; exact below_drewN (Below.refl _ _) _
  rw [hv0]
  clear hv0
  have hb0 := hb9w.trans (hbv.mono hs9w)
  have hs0 := hb0.size
  have V0 := hide (V9.below hbv)
  have W0 := hide (W9.below hbv)
  have Y0 := hide (Y9.below hbv)
  have Z0 := hide (Z9.below hbv)
  clear V9 W9 Y9 Z9 hbv hb9w hs9w
  obtain ⟨s, hs⟩ : ∃ s, decide (a < b) = s := ⟨_, rfl⟩
  have L1 : Op.bytesLess (be 8 a) (be 8 b) = s := (less_be (by omega) (by omega)).trans hs
  have L0 : decide ((a : Int) < (b : Int)) = s := by rw [← hs]; exact decide_eq_decide.2 (by omega)
  obtain ⟨s', hs'⟩ : ∃ s', decide (a % 4294967296 < b % 4294967296) = s' := ⟨_, rfl⟩
  have L2 : Op.bytesLess (be 4 (a % 4294967296)) (be 4 (b % 4294967296)) = s' := (less_be (by omega) (by omega)).trans hs'
  have L3 : decide (IntKind.u32.wrap (a : Int) < IntKind.u32.wrap (b : Int)) = s' := by rw [← hs', IntKind.wrap_u32, IntKind.wrap_u32]; exact decide_eq_decide.2 (by omega)
  go_wp2
  have Vd := hide (V0.out.below ((Below.refl v0.heap.size v0).drew))
  have hbd : Below w.heap.size w v0.drew := hb0.drew
  have hsd := hbd.size
  have E0 := hide (show v0.drew.heap.size = v0.heap.size by simp)
  refine wp_region_held_drew (S := fun _ => True) (by kernel_rfl) trivial (fun hS0 => ?_)
  refine take_at (i := 0) (d := 68) (v := ?_) (by simp only [List.getElem?_toArray, List.getElem?_cons_succ, List.getElem?_cons_zero]; rfl) rfl (by kernel_rfl) (by kernel_rfl) (by kernel_rfl) (fun _ _ _ h => h) rfl ?_ (by assumption) ?_
  rotate_left
  · intro w hSw
    go_simp
    try with_reducible rfl
  try simp only [List.setIfInBounds_toArray, List.set_cons_zero, List.set_cons_succ]
  refine take_at (i := 1) (d := 69) (v := ?_) (by simp only [List.getElem?_toArray, List.getElem?_cons_succ, List.getElem?_cons_zero]; rfl) rfl (by kernel_rfl) (by kernel_rfl) (by kernel_rfl) (fun _ _ _ h => h) rfl ?_ (by assumption) ?_
  rotate_left
  · intro w hSw
    go_simp
    try with_reducible rfl
  try simp only [List.setIfInBounds_toArray, List.set_cons_zero, List.set_cons_succ]
  refine take_at (i := 2) (d := 70) (v := ?_) (by simp only [List.getElem?_toArray, List.getElem?_cons_succ, List.getElem?_cons_zero]; rfl) rfl (by kernel_rfl) (by kernel_rfl) (by kernel_rfl) (fun _ _ _ h => h) rfl ?_ (by assumption) ?_
  rotate_left
  · intro w hSw
    go_simp
    try with_reducible rfl
  try simp only [List.setIfInBounds_toArray, List.set_cons_zero, List.set_cons_succ]
  refine call_at (i := 3) (d := 71) (by simp only [List.getElem?_toArray, List.getElem?_cons_succ, List.getElem?_cons_zero]; rfl) rfl (by kernel_rfl) rfl (fun K hK => ?_)
  go_simp
  refine (out_len _ w.heap.size (be 8 a) 8 (be_len _ _) Vd.out (by decide)).mono ?_
  rintro e y1 ⟨rfl, g1, p1⟩
  rw [E0.out] at g1
  have k1 := run_string_of (P := Try.prog) y1 31 9 5 (some ⟨v0.heap.size, 0, none⟩) 8 _ (be 8 a) Try.underlying31 Try.underlying5 Try.underlying9 (Rd.of_block g1)
  rw [be_len] at k1
  have p1' := hbd.trans (p1.mono hsd)
  go_wp2_with fail
  refine hK.out _ _ trivial (fun _ => ?_)
  clear hK K
  try simp only [List.setIfInBounds_toArray, List.set_cons_zero, List.set_cons_succ]
  refine wpAnyH_more (S' := fun w' => (convert 31 9 (.slice (some ⟨v0.heap.size, 0, none⟩) 8 8)).run Try.prog w' = .ok (.string ⟨(be 8 a).toArray⟩) w') (fun _ _ => trivial) _ _ _ _ ?_
  refine take_at (i := 4) (d := 72) (v := ?_) (by simp only [List.getElem?_toArray, List.getElem?_cons_succ, List.getElem?_cons_zero]; rfl) rfl (by kernel_rfl) (by kernel_rfl) (by kernel_rfl) (fun _ _ _ h => h) rfl ?_ (by assumption) ?_
  rotate_left
  · intro w hSw
    go_simp
    try with_reducible rfl
  try simp only [List.setIfInBounds_toArray, List.set_cons_zero, List.set_cons_succ]
  refine call_at (i := 5) (d := 73) (by simp only [List.getElem?_toArray, List.getElem?_cons_succ, List.getElem?_cons_zero]; rfl) rfl (by kernel_rfl) rfl (fun K hK => ?_)
  go_simp
  refine (out_len _ (w.heap.size + 1) (be 8 b) 8 (be_len _ _) ((W0.out.below ((Below.refl v0.heap.size v0).drew)).below p1) (by decide)).mono ?_
  rintro e y2 ⟨rfl, g2, p2⟩
  have p2' := p1'.trans (p2.mono p1'.size)
  have k2 := run_string_of (P := Try.prog) y2 31 9 5 (some ⟨y1.heap.size, 0, none⟩) 8 _ (be 8 b) Try.underlying31 Try.underlying5 Try.underlying9 (Rd.of_block g2)
  rw [be_len] at k2
  have k1b := run_string_of (P := Try.prog) y2 31 9 5 (some ⟨v0.heap.size, 0, none⟩) 8 _ (be 8 a) Try.underlying31 Try.underlying5 Try.underlying9 ((Rd.of_block g1).below' p2 (by have := (Array.getElem?_eq_some_iff.1 g1).1; omega))
  rw [be_len] at k1b
  go_wp2_with fail
  refine hK.out _ _ k1b (fun _ => ?_)
  clear hK K k1
  try simp only [List.setIfInBounds_toArray, List.set_cons_zero, List.set_cons_succ]
  have q2 : (convert 31 9 (.slice (some ⟨v0.heap.size, 0, none⟩) 8 8)).run Try.prog y2 = .ok (.string ⟨(be 8 a).toArray⟩) y2 ∧ (convert 31 9 (.slice (some ⟨y1.heap.size, 0, none⟩) 8 8)).run Try.prog y2 = .ok (.string ⟨(be 8 b).toArray⟩) y2 := ⟨k1b, k2⟩
  refine wpAnyH_more (S' := fun w' => (convert 31 9 (.slice (some ⟨v0.heap.size, 0, none⟩) 8 8)).run Try.prog w' = .ok (.string ⟨(be 8 a).toArray⟩) w' ∧ (convert 31 9 (.slice (some ⟨y1.heap.size, 0, none⟩) 8 8)).run Try.prog w' = .ok (.string ⟨(be 8 b).toArray⟩) w') (fun _ h => h.1) _ _ _ _ ?_
  refine take_at (i := 6) (d := 74) (v := ?_) (by simp only [List.getElem?_toArray, List.getElem?_cons_succ, List.getElem?_cons_zero]; rfl) rfl (by kernel_rfl) (by kernel_rfl) (by kernel_rfl) (fun _ _ _ h => h) rfl ?_ (by assumption) ?_
  rotate_left
  · intro w hSw
    go_simp
    try with_reducible rfl
  try simp only [List.setIfInBounds_toArray, List.set_cons_zero, List.set_cons_succ]
  refine take_at (i := 7) (d := 75) (v := ?_) (by simp only [List.getElem?_toArray, List.getElem?_cons_succ, List.getElem?_cons_zero]; rfl) rfl (by kernel_rfl) (by kernel_rfl) (by kernel_rfl) (fun _ _ _ h => h) rfl ?_ (by assumption) ?_
  rotate_left
  · intro w hSw
    go_simp
    try with_reducible rfl
  try simp only [List.setIfInBounds_toArray, List.set_cons_zero, List.set_cons_succ]
  refine take_at (i := 8) (d := 76) (v := ?_) (by simp only [List.getElem?_toArray, List.getElem?_cons_succ, List.getElem?_cons_zero]; rfl) rfl (by kernel_rfl) (by kernel_rfl) (by kernel_rfl) (fun _ _ _ h => h) rfl ?_ (by assumption) ?_
  rotate_left
  · intro w hSw
    go_simp
    try with_reducible rfl
  try simp only [List.setIfInBounds_toArray, List.set_cons_zero, List.set_cons_succ]
  refine take_at (i := 9) (d := 77) (v := ?_) (by simp only [List.getElem?_toArray, List.getElem?_cons_succ, List.getElem?_cons_zero]; rfl) rfl (by kernel_rfl) (by kernel_rfl) (by kernel_rfl) (fun _ _ _ h => h) rfl ?_ (by assumption) ?_
  rotate_left
  · intro w hSw
    go_simp
    try with_reducible rfl
  try simp only [List.setIfInBounds_toArray, List.set_cons_zero, List.set_cons_succ]
  refine take_at (i := 10) (d := 78) (v := ?_) (by simp only [List.getElem?_toArray, List.getElem?_cons_succ, List.getElem?_cons_zero]; rfl) rfl (by kernel_rfl) (by kernel_rfl) (by kernel_rfl) (fun _ _ _ h => h) rfl ?_ (by assumption) ?_
  rotate_left
  · intro w hSw
    go_simp
    try with_reducible rfl
  try simp only [List.setIfInBounds_toArray, List.set_cons_zero, List.set_cons_succ]
  refine take_at (i := 11) (d := 79) (v := ?_) (by simp only [List.getElem?_toArray, List.getElem?_cons_succ, List.getElem?_cons_zero]; rfl) rfl (by kernel_rfl) (by kernel_rfl) (by kernel_rfl) (fun _ _ _ h => h) rfl ?_ (by assumption) ?_
  rotate_left
  · intro w hSw
    go_simp
    try with_reducible rfl
  try simp only [List.setIfInBounds_toArray, List.set_cons_zero, List.set_cons_succ]
  refine take_at (i := 12) (d := 80) (v := ?_) (by simp only [List.getElem?_toArray, List.getElem?_cons_succ, List.getElem?_cons_zero]; rfl) rfl (by kernel_rfl) (by kernel_rfl) (by kernel_rfl) (fun _ _ _ h => h) rfl ?_ (by assumption) ?_
  rotate_left
  · intro w hSw
    go_simp
    try with_reducible rfl
  try simp only [List.setIfInBounds_toArray, List.set_cons_zero, List.set_cons_succ]
  refine take_at (i := 13) (d := 81) (v := ?_) (by simp only [List.getElem?_toArray, List.getElem?_cons_succ, List.getElem?_cons_zero]; rfl) rfl (by kernel_rfl) (by kernel_rfl) (by kernel_rfl) (fun _ _ _ h => h) rfl ?_ (by assumption) ?_
  rotate_left
  · intro w hSw
    go_simp
    try with_reducible rfl
  try simp only [List.setIfInBounds_toArray, List.set_cons_zero, List.set_cons_succ]
  refine take_at (i := 14) (d := 82) (v := ?_) (by simp only [List.getElem?_toArray, List.getElem?_cons_succ, List.getElem?_cons_zero]; rfl) rfl (by kernel_rfl) (by kernel_rfl) (by kernel_rfl) (fun _ _ _ h => h) rfl ?_ (by assumption) ?_
  rotate_left
  · intro w hSw
    go_simp
    try with_reducible rfl
  try simp only [List.setIfInBounds_toArray, List.set_cons_zero, List.set_cons_succ]
  refine call_at (i := 15) (d := 83) (by simp only [List.getElem?_toArray, List.getElem?_cons_succ, List.getElem?_cons_zero]; rfl) rfl (by kernel_rfl) rfl (fun K hK => ?_)
  clear q2
  go_simp
  refine (out_len _ (w2.heap.size + 1) (be 4 (a % 4294967296)) 4 (be_len _ _) (((Y0.out.below ((Below.refl v0.heap.size v0).drew)).below p1).below p2) (by decide)).mono ?_
  rintro e y3 ⟨rfl, g3, p3⟩
  have p3' := p2'.trans (p3.mono p2'.size)
  have k3 := run_string_of (P := Try.prog) y3 31 9 5 (some ⟨y2.heap.size, 0, none⟩) 4 _ (be 4 (a % 4294967296)) Try.underlying31 Try.underlying5 Try.underlying9 (Rd.of_block g3)
  rw [be_len] at k3
  have k2c := run_string_of (P := Try.prog) y3 31 9 5 (some ⟨y1.heap.size, 0, none⟩) 8 _ (be 8 b) Try.underlying31 Try.underlying5 Try.underlying9 ((Rd.of_block g2).below' p3 (by have := (Array.getElem?_eq_some_iff.1 g2).1; omega))
  rw [be_len] at k2c
  have k1c := run_string_of (P := Try.prog) y3 31 9 5 (some ⟨v0.heap.size, 0, none⟩) 8 _ (be 8 a) Try.underlying31 Try.underlying5 Try.underlying9 (((Rd.of_block g1).below' p2 (by have := (Array.getElem?_eq_some_iff.1 g1).1; omega)).below' p3 (by have := (Array.getElem?_eq_some_iff.1 g1).1; have := p2.size; omega))
  rw [be_len] at k1c
  go_wp2_with fail
  refine hK.out _ _ ⟨k1c, k2c⟩ (fun _ => ?_)
  clear hK K k2 k1b
  try simp only [List.setIfInBounds_toArray, List.set_cons_zero, List.set_cons_succ]
  have q3 : (convert 31 9 (.slice (some ⟨v0.heap.size, 0, none⟩) 8 8)).run Try.prog y3 = .ok (.string ⟨(be 8 a).toArray⟩) y3 ∧ (convert 31 9 (.slice (some ⟨y1.heap.size, 0, none⟩) 8 8)).run Try.prog y3 = .ok (.string ⟨(be 8 b).toArray⟩) y3 ∧ (convert 31 9 (.slice (some ⟨y2.heap.size, 0, none⟩) 4 4)).run Try.prog y3 = .ok (.string ⟨(be 4 (a % 4294967296)).toArray⟩) y3 := ⟨k1c, k2c, k3⟩
  refine wpAnyH_more (S' := fun w' => (convert 31 9 (.slice (some ⟨v0.heap.size, 0, none⟩) 8 8)).run Try.prog w' = .ok (.string ⟨(be 8 a).toArray⟩) w' ∧ (convert 31 9 (.slice (some ⟨y1.heap.size, 0, none⟩) 8 8)).run Try.prog w' = .ok (.string ⟨(be 8 b).toArray⟩) w' ∧ (convert 31 9 (.slice (some ⟨y2.heap.size, 0, none⟩) 4 4)).run Try.prog w' = .ok (.string ⟨(be 4 (a % 4294967296)).toArray⟩) w') (fun _ h => ⟨h.1, h.2.1⟩) _ _ _ _ ?_
  refine take_at (i := 16) (d := 84) (v := ?_) (by simp only [List.getElem?_toArray, List.getElem?_cons_succ, List.getElem?_cons_zero]; rfl) rfl (by kernel_rfl) (by kernel_rfl) (by kernel_rfl) (fun _ _ _ h => h) rfl ?_ (by assumption) ?_
  rotate_left
  · intro w hSw
    go_simp
    try with_reducible rfl
  try simp only [List.setIfInBounds_toArray, List.set_cons_zero, List.set_cons_succ]
  refine call_at (i := 17) (d := 85) (by simp only [List.getElem?_toArray, List.getElem?_cons_succ, List.getElem?_cons_zero]; rfl) rfl (by kernel_rfl) rfl (fun K hK => ?_)
  clear q3
  go_simp
  refine (out_len _ (w2.heap.size + 1 + 1) (be 4 (b % 4294967296)) 4 (be_len _ _) ((((Z0.out.below ((Below.refl v0.heap.size v0).drew)).below p1).below p2).below p3) (by decide)).mono ?_
  rintro e y4 ⟨rfl, g4, p4⟩
  have p4' := p3'.trans (p4.mono p3'.size)
  have k4 := run_string_of (P := Try.prog) y4 31 9 5 (some ⟨y3.heap.size, 0, none⟩) 4 _ (be 4 (b % 4294967296)) Try.underlying31 Try.underlying5 Try.underlying9 (Rd.of_block g4)
  rw [be_len] at k4
  have k3d := run_string_of (P := Try.prog) y4 31 9 5 (some ⟨y2.heap.size, 0, none⟩) 4 _ (be 4 (a % 4294967296)) Try.underlying31 Try.underlying5 Try.underlying9 ((Rd.of_block g3).below' p4 (by have := (Array.getElem?_eq_some_iff.1 g3).1; omega))
  rw [be_len] at k3d
  have k2d := run_string_of (P := Try.prog) y4 31 9 5 (some ⟨y1.heap.size, 0, none⟩) 8 _ (be 8 b) Try.underlying31 Try.underlying5 Try.underlying9 (((Rd.of_block g2).below' p3 (by have := (Array.getElem?_eq_some_iff.1 g2).1; omega)).below' p4 (by have := (Array.getElem?_eq_some_iff.1 g2).1; have := p3.size; omega))
  rw [be_len] at k2d
  have k1d := run_string_of (P := Try.prog) y4 31 9 5 (some ⟨v0.heap.size, 0, none⟩) 8 _ (be 8 a) Try.underlying31 Try.underlying5 Try.underlying9 ((((Rd.of_block g1).below' p2 (by have := (Array.getElem?_eq_some_iff.1 g1).1; omega)).below' p3 (by have := (Array.getElem?_eq_some_iff.1 g1).1; have := p2.size; omega)).below' p4 (by have := (Array.getElem?_eq_some_iff.1 g1).1; have := p2.size; have := p3.size; omega))
  rw [be_len] at k1d
  go_wp2_with fail
  refine hK.out _ _ ⟨k1d, k2d, k3d⟩ (fun _ => ?_)
  clear hK K k3 k2c k1c
  try simp only [List.setIfInBounds_toArray, List.set_cons_zero, List.set_cons_succ]
  have q4 : (convert 31 9 (.slice (some ⟨v0.heap.size, 0, none⟩) 8 8)).run Try.prog y4 = .ok (.string ⟨(be 8 a).toArray⟩) y4 ∧ (convert 31 9 (.slice (some ⟨y1.heap.size, 0, none⟩) 8 8)).run Try.prog y4 = .ok (.string ⟨(be 8 b).toArray⟩) y4 ∧ (convert 31 9 (.slice (some ⟨y2.heap.size, 0, none⟩) 4 4)).run Try.prog y4 = .ok (.string ⟨(be 4 (a % 4294967296)).toArray⟩) y4 ∧ (convert 31 9 (.slice (some ⟨y3.heap.size, 0, none⟩) 4 4)).run Try.prog y4 = .ok (.string ⟨(be 4 (b % 4294967296)).toArray⟩) y4 := ⟨k1d, k2d, k3d, k4⟩
  refine wpAnyH_more (S' := fun w' => (convert 31 9 (.slice (some ⟨v0.heap.size, 0, none⟩) 8 8)).run Try.prog w' = .ok (.string ⟨(be 8 a).toArray⟩) w' ∧ (convert 31 9 (.slice (some ⟨y1.heap.size, 0, none⟩) 8 8)).run Try.prog w' = .ok (.string ⟨(be 8 b).toArray⟩) w' ∧ (convert 31 9 (.slice (some ⟨y2.heap.size, 0, none⟩) 4 4)).run Try.prog w' = .ok (.string ⟨(be 4 (a % 4294967296)).toArray⟩) w' ∧ (convert 31 9 (.slice (some ⟨y3.heap.size, 0, none⟩) 4 4)).run Try.prog w' = .ok (.string ⟨(be 4 (b % 4294967296)).toArray⟩) w') (fun _ h => ⟨h.1, h.2.1, h.2.2.1⟩) _ _ _ _ ?_
  refine take_at (i := 18) (d := 86) (v := ?_) (by simp only [List.getElem?_toArray, List.getElem?_cons_succ, List.getElem?_cons_zero]; rfl) rfl (by kernel_rfl) (by kernel_rfl) (by kernel_rfl) (fun _ _ _ h => h) rfl ?_ (by assumption) ?_
  rotate_left
  · intro w hSw
    go_simp
    try with_reducible rfl
  try simp only [List.setIfInBounds_toArray, List.set_cons_zero, List.set_cons_succ]
  refine take_at (i := 19) (d := 87) (v := ?_) (by simp only [List.getElem?_toArray, List.getElem?_cons_succ, List.getElem?_cons_zero]; rfl) rfl (by kernel_rfl) (by kernel_rfl) (by kernel_rfl) (fun _ _ _ h => h) rfl ?_ (by assumption) ?_
  rotate_left
  · intro w hSw
    go_simp
    try with_reducible rfl
  try simp only [List.setIfInBounds_toArray, List.set_cons_zero, List.set_cons_succ]
  refine take_at (i := 20) (d := 88) (v := ?_) (by simp only [List.getElem?_toArray, List.getElem?_cons_succ, List.getElem?_cons_zero]; rfl) rfl (by kernel_rfl) (by kernel_rfl) (by kernel_rfl) (fun _ _ _ h => h) rfl ?_ (by assumption) ?_
  rotate_left
  · intro w hSw
    go_simp
    try with_reducible rfl
  try simp only [List.setIfInBounds_toArray, List.set_cons_zero, List.set_cons_succ]
  refine take_at (i := 21) (d := 89) (v := ?_) (by simp only [List.getElem?_toArray, List.getElem?_cons_succ, List.getElem?_cons_zero]; rfl) rfl (by kernel_rfl) (by kernel_rfl) (by kernel_rfl) (fun _ _ _ h => h) rfl ?_ (by assumption) ?_
  rotate_left
  · intro w hSw
    go_simp
    try with_reducible rfl
  try simp only [List.setIfInBounds_toArray, List.set_cons_zero, List.set_cons_succ]
  refine take_at (i := 22) (d := 90) (v := ?_) (by simp only [List.getElem?_toArray, List.getElem?_cons_succ, List.getElem?_cons_zero]; rfl) rfl (by kernel_rfl) (by kernel_rfl) (by kernel_rfl) (fun _ _ _ h => h) rfl ?_ (by assumption) ?_
  rotate_left
  · intro w hSw
    go_simp
    try with_reducible rfl
  try simp only [List.setIfInBounds_toArray, List.set_cons_zero, List.set_cons_succ]
  refine call_at (i := 23) (d := 91) (by simp only [List.getElem?_toArray, List.getElem?_cons_succ, List.getElem?_cons_zero]; rfl) rfl (by kernel_rfl) rfl (fun K hK => ?_)
  clear q4
  go_simp
  refine (works_any _).mono ?_
  rintro e y5 ⟨rfl, p5⟩
  have p5' := p4'.trans (p5.mono p4'.size)
  have k4e := run_string_of (P := Try.prog) y5 31 9 5 (some ⟨y3.heap.size, 0, none⟩) 4 _ (be 4 (b % 4294967296)) Try.underlying31 Try.underlying5 Try.underlying9 ((Rd.of_block g4).below' p5 (by have := (Array.getElem?_eq_some_iff.1 g4).1; omega))
  rw [be_len] at k4e
  have k3e := run_string_of (P := Try.prog) y5 31 9 5 (some ⟨y2.heap.size, 0, none⟩) 4 _ (be 4 (a % 4294967296)) Try.underlying31 Try.underlying5 Try.underlying9 (((Rd.of_block g3).below' p4 (by have := (Array.getElem?_eq_some_iff.1 g3).1; omega)).below' p5 (by have := (Array.getElem?_eq_some_iff.1 g3).1; have := p4.size; omega))
  rw [be_len] at k3e
  have k2e := run_string_of (P := Try.prog) y5 31 9 5 (some ⟨y1.heap.size, 0, none⟩) 8 _ (be 8 b) Try.underlying31 Try.underlying5 Try.underlying9 ((((Rd.of_block g2).below' p3 (by have := (Array.getElem?_eq_some_iff.1 g2).1; omega)).below' p4 (by have := (Array.getElem?_eq_some_iff.1 g2).1; have := p3.size; omega)).below' p5 (by have := (Array.getElem?_eq_some_iff.1 g2).1; have := p3.size; have := p4.size; omega))
  rw [be_len] at k2e
  have k1e := run_string_of (P := Try.prog) y5 31 9 5 (some ⟨v0.heap.size, 0, none⟩) 8 _ (be 8 a) Try.underlying31 Try.underlying5 Try.underlying9 (((((Rd.of_block g1).below' p2 (by have := (Array.getElem?_eq_some_iff.1 g1).1; omega)).below' p3 (by have := (Array.getElem?_eq_some_iff.1 g1).1; have := p2.size; omega)).below' p4 (by have := (Array.getElem?_eq_some_iff.1 g1).1; have := p2.size; have := p3.size; omega)).below' p5 (by have := (Array.getElem?_eq_some_iff.1 g1).1; have := p2.size; have := p3.size; have := p4.size; omega))
  rw [be_len] at k1e
  go_wp2_with fail
  refine hK.out _ _ ⟨k1e, k2e, k3e, k4e⟩ (fun hS5 => ?_)
  clear hK K
  try simp only [List.setIfInBounds_toArray, List.set_cons_zero, List.set_cons_succ]
  refine take_at (i := 24) (d := 92) (v := ?_) (by simp only [List.getElem?_toArray, List.getElem?_cons_succ, List.getElem?_cons_zero]; rfl) rfl (by kernel_rfl) (by kernel_rfl) (by kernel_rfl) (fun _ _ _ h => h) rfl ?_ (by assumption) ?_
  rotate_left
  · intro w hSw
    go_simp
    try with_reducible rfl
  try simp only [List.setIfInBounds_toArray, List.set_cons_zero, List.set_cons_succ]
  refine take_at (i := 25) (d := 4) (v := ?_) (by simp only [List.getElem?_toArray, List.getElem?_cons_succ, List.getElem?_cons_zero]; rfl) rfl (by kernel_rfl) (by kernel_rfl) (by kernel_rfl) (fun _ _ _ h => h) rfl ?_ (by assumption) ?_
  rotate_left
  · intro w hSw
    go_simp
    try with_reducible rfl
  try simp only [List.setIfInBounds_toArray, List.set_cons_zero, List.set_cons_succ]
  refine wpAnyH_done (by kernel_rfl) ?_ _
  go_wp2
  go_ret
  exact ⟨rfl, p5'⟩

end Go.Proofs.Ytbmaiiflbdggnaa
