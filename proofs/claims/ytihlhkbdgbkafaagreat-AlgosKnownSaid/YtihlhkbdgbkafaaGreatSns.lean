/- What a vertex of Rank sends along two edges. (printed by gen/sns.py) -/
import Derived.Test.YtihlhkbdgbkafaaGreatSen
import Derived.Test.YtihlhkbdgbkafaaGreatSso
import Derived.Test.YtihlhkbdgbkafaaGreatAlj
import Derived.Deep.DeepCutAuto
namespace Go.Proofs.YtihlhkbdgbkafaaGreat
open Go.RowKit
set_option linter.unusedVariables false
set_option linter.unusedSimpArgs false
def two : List Ed := [(0, 1, 0), (0, 2, 0)]
theorem rk_two (x : Int) : rkMs x two = [(1, evenF x 2), (2, evenF x 2)] := rfl
set_option maxRecDepth 100000 in
set_option maxHeartbeats 16000000 in
theorem send2_any (w : World) (j1 j2 j3 j4 v x : Int) (ch : Bool) (A : Option Addr) (c : Nat) (hE : Eds w w.heap.size A two) (hx : -9223372036854775808 ≤ x ∧ x ≤ 9223372036854775807) :
    Calls Tryz.prog 27 #[.agg #[.int .u8 1, .int .i64 j1, .int .i64 j2, .int .i64 j3, .int .i64 j4], .int .i64 v, .int .i64 x, .bool ch, .slice A 2 c, .slice none 0 0] w fun e w' => ∃ A' c', e = .returned (.slice A' 2 c') ∧ Mss w' w'.heap.size A' [(1, evenF x 2), (2, evenF x 2)] ∧ Below w.heap.size w w' := by
  obtain ⟨i0, hi0, hz0, hz1, hz2⟩ := info_parts (show (Tryz.prog.info? 60).map (fun i => (i.zero, i.size, i.bytes)) = some (some (.agg #[.int .i64 0, .int .i64 0]), 2, 16) by kernel_rfl)
  obtain ⟨u, hu⟩ : ∃ u, w.alloc (.cells #[.int .u8 1, .int .i64 j1, .int .i64 j2, .int .i64 j3, .int .i64 j4] 28) = u := ⟨_, rfl⟩
  have hzu : u.heap.size = w.heap.size + 1 := by rw [← hu]; simp
  have HBu : Hid (Below w.heap.size w u) := hide (by rw [← hu]; exact (Below.refl _ _).alloc (Nat.le_refl _) _)
  have M0 := hide (show u.heap[w.heap.size]? = some (.cells #[.int .u8 1, .int .i64 j1, .int .i64 j2, .int .i64 j3, .int .i64 j4] 28) by rw [← hu]; exact heap_alloc_last _ _)
  have HE := hide (hE.next HBu.out)
  have HU := hide hu
  clear hu hE
  have c0 : u.cell? ⟨w.heap.size, 0, none⟩ = some (.int .u8 1) := cell_of_row _ _ 0 _ _ _ M0.out
  have c1 : u.cell? ⟨w.heap.size, 1, none⟩ = some (.int .i64 j1) := cell_of_row _ _ 1 _ _ _ M0.out
  have c2 : u.cell? ⟨w.heap.size, 2, none⟩ = some (.int .i64 j2) := cell_of_row _ _ 2 _ _ _ M0.out
  have c3 : u.cell? ⟨w.heap.size, 3, none⟩ = some (.int .i64 j3) := cell_of_row _ _ 3 _ _ _ M0.out
  have c4 : u.cell? ⟨w.heap.size, 4, none⟩ = some (.int .i64 j4) := cell_of_row _ _ 4 _ _ _ M0.out
  go_enter Tryz.func27, Tryz.ntmps27
  go_wp2_with fail
  rw [HU.out]
  refine (of1 _ j1 j2 j3 j4).mono ?_
  rintro e w1 ⟨rfl, hb⟩
  have HE1 := hide (HE.out.next hb)
  have HB1 := hide (HBu.out.trans (hb.mono (by omega)))
  clear hb c0 c1 c2 c3 c4 HE
  go_wp2_with fail
  refine (rksend_any _ v x ch A two 2 c _ rfl HE1.out (by omega) hx).mono ?_
  rintro e w2 ⟨A2, c2, rfl, own2, hb2⟩
  rw [rk_two] at own2 ⊢
  obtain ⟨g, hg⟩ : ∃ g, evenF x 2 = g := ⟨_, rfl⟩
  rw [hg] at own2 ⊢
  have HG := hide hg
  clear hg
  have HM2 : Hid (Mss w2 w2.heap.size A2 [(1, g), (2, g)]) := hide (Mss.of_rd (Rd.of_own own2))
  have HB2 := hide (HB1.out.trans (hb2.mono HB1.out.size))
  clear own2 hb2
  go_wp2_with fail
  refine (sort2_any _ A2 c2 1 g 2 g HM2.out (by decide)).mono ?_
  rintro e w3 ⟨rfl, hb3⟩
  have HM := hide (HM2.out.next hb3)
  have HB3 := hide (HB2.out.trans (hb3.mono HB2.out.size))
  clear hb3 HM2
  go_wp2
  go_loopw [15, 34] (fun v15 v34 wr => ∃ (k : Nat) (Am : Option Addr) (cm : Nat), k ≤ 2 ∧ v34 = .int .i64 k ∧ v15 = .slice Am k cm ∧ Hid (wr.ownsRow w3.heap.size 60 2 (.slice Am k cm) k (msFlat (([(1, g), (2, g)] : List Ms).take k))) ∧ Hid (Below w3.heap.size w3 wr)) (fun _ v34 _ => 2 - (intOf v34).toNat)
  case atStart => exact ⟨0, none, 0, by omega, rfl, rfl, hide (World.ownsRow_nil _ _ _ _), hide (Below.refl _ _)⟩
  case round =>
    obtain ⟨k, Am, cm, hk, rfl, rfl, HOw, HBw⟩ := hrel
    have hsz : w3.heap.size ≤ wr.heap.size := HBw.out.size
    have HBr := hide HBw.out
    rcases (show k = 0 ∨ k = 1 ∨ k = 2 by omega) with h | h | h
    · subst h
      obtain ⟨u, hu⟩ : ∃ u, wr.alloc (.cells #[.int .i64 1, .int .i64 g] 60) = u := ⟨_, rfl⟩
      have hzu : u.heap.size = wr.heap.size + 1 := by rw [← hu]; simp
      have N0 := hide (show u.heap[wr.heap.size]? = some (.cells #[.int .i64 1, .int .i64 g] 60) by rw [← hu]; exact heap_alloc_last _ _)
      have HBU : Hid (Below w3.heap.size w3 u) := hide (by rw [← hu]; exact HBw.out.alloc hsz _)
      have HOU : Hid (u.ownsRow w3.heap.size 60 2 (.slice Am 0 cm) 0 (msFlat (([(1, g), (2, g)] : List Ms).take 0))) := hide (by rw [← hu]; exact HOw.out.alloc _)
      have HU := hide hu
      clear hu HOw HBw
      obtain ⟨b, off, hA3, hb3, p0, p1⟩ := HM.out.get (i := 0) rfl
      dsimp only at p0 p1
      subst hA3
      have p0 := (HBr.out.cell (p := ⟨b, off + 0 * 2, none⟩) hb3).trans p0
      have p1 := (HBr.out.cell (p := ⟨b, off + 0 * 2 + 1, none⟩) hb3).trans p1
      simp only [Nat.zero_mul, Nat.one_mul, Nat.add_zero] at p0 p1
      go_upto_region 11 with fail
      rw [HU.out]
      have c0 : u.cell? ⟨wr.heap.size, 0, none⟩ = some (.int .i64 1) := cell_of_row _ _ 0 _ _ _ N0.out
      have c1 : u.cell? ⟨wr.heap.size, 1, none⟩ = some (.int .i64 g) := cell_of_row _ _ 1 _ _ _ N0.out
      have hl2 : wr.heap.size < u.heap.size := by omega
      have hcap := own_cap HOU.out
      have hszu : w3.heap.size ≤ u.heap.size := by omega
      clear p0 p1 hzu
      refine wp_region_held_drew (S := Kept u) (by kernel_rfl) (Kept.drew u) (fun hS0 => ?_)
      refine take_at (i := 0) (d := 40) (v := ?_) (by simp only [List.getElem?_toArray, List.getElem?_cons_succ, List.getElem?_cons_zero]; rfl) rfl (by kernel_rfl) (by kernel_rfl) (by kernel_rfl) (fun _ _ _ h => h) rfl ?_ (by assumption) ?_
      rotate_left
      focus (intro w hSw; go_simp; (try with_reducible rfl); done)
      try simp only [List.setIfInBounds_toArray, List.set_cons_zero, List.set_cons_succ]
      refine take_at (i := 1) (d := 41) (v := ?_) (by simp only [List.getElem?_toArray, List.getElem?_cons_succ, List.getElem?_cons_zero]; rfl) rfl (by kernel_rfl) (by kernel_rfl) (by kernel_rfl) (fun _ _ _ h => h) rfl ?_ (by assumption) ?_
      rotate_left
      focus (intro w hSw; go_simp; (try with_reducible rfl); done)
      try simp only [List.setIfInBounds_toArray, List.set_cons_zero, List.set_cons_succ]
      refine take_at (i := 2) (d := 42) (v := ?_) (by simp only [List.getElem?_toArray, List.getElem?_cons_succ, List.getElem?_cons_zero]; rfl) rfl (by kernel_rfl) (by kernel_rfl) (by kernel_rfl) (fun _ _ _ h => h) rfl ?_ (by assumption) ?_
      rotate_left
      focus (intro w hSw; go_simp; (try with_reducible rfl); done)
      try simp only [List.setIfInBounds_toArray, List.set_cons_zero, List.set_cons_succ]
      refine skip_at (i := 3) (d := 43) (by simp only [List.getElem?_toArray, List.getElem?_cons_succ, List.getElem?_cons_zero]; rfl) rfl (by kernel_rfl) (by kernel_rfl) (by kernel_rfl) (fun _ _ _ h => h) rfl (by assumption) ?_
      try simp only [List.setIfInBounds_toArray, List.set_cons_zero, List.set_cons_succ]
      refine skip_at (i := 4) (d := 44) (by simp only [List.getElem?_toArray, List.getElem?_cons_succ, List.getElem?_cons_zero]; rfl) rfl (by kernel_rfl) (by kernel_rfl) (by kernel_rfl) (fun _ _ _ h => h) rfl (by assumption) ?_
      try simp only [List.setIfInBounds_toArray, List.set_cons_zero, List.set_cons_succ]
      refine skip_at (i := 5) (d := 45) (by simp only [List.getElem?_toArray, List.getElem?_cons_succ, List.getElem?_cons_zero]; rfl) rfl (by kernel_rfl) (by kernel_rfl) (by kernel_rfl) (fun _ _ _ h => h) rfl (by assumption) ?_
      try simp only [List.setIfInBounds_toArray, List.set_cons_zero, List.set_cons_succ]
      refine skip_at (i := 6) (d := 46) (by simp only [List.getElem?_toArray, List.getElem?_cons_succ, List.getElem?_cons_zero]; rfl) rfl (by kernel_rfl) (by kernel_rfl) (by kernel_rfl) (fun _ _ _ h => h) rfl (by assumption) ?_
      try simp only [List.setIfInBounds_toArray, List.set_cons_zero, List.set_cons_succ]
      refine skip_at (i := 7) (d := 47) (by simp only [List.getElem?_toArray, List.getElem?_cons_succ, List.getElem?_cons_zero]; rfl) rfl (by kernel_rfl) (by kernel_rfl) (by kernel_rfl) (fun _ _ _ h => h) rfl (by assumption) ?_
      try simp only [List.setIfInBounds_toArray, List.set_cons_zero, List.set_cons_succ]
      refine skip_at (i := 8) (d := 48) (by simp only [List.getElem?_toArray, List.getElem?_cons_succ, List.getElem?_cons_zero]; rfl) rfl (by kernel_rfl) (by kernel_rfl) (by kernel_rfl) (fun _ _ _ h => h) rfl (by assumption) ?_
      try simp only [List.setIfInBounds_toArray, List.set_cons_zero, List.set_cons_succ]
      refine skip_at (i := 9) (d := 49) (by simp only [List.getElem?_toArray, List.getElem?_cons_succ, List.getElem?_cons_zero]; rfl) rfl (by kernel_rfl) (by kernel_rfl) (by kernel_rfl) (fun _ _ _ h => h) rfl (by assumption) ?_
      try simp only [List.setIfInBounds_toArray, List.set_cons_zero, List.set_cons_succ]
      refine skip_at (i := 10) (d := 50) (by simp only [List.getElem?_toArray, List.getElem?_cons_succ, List.getElem?_cons_zero]; rfl) rfl (by kernel_rfl) (by kernel_rfl) (by kernel_rfl) (fun _ _ _ h => h) rfl (by assumption) ?_
      try simp only [List.setIfInBounds_toArray, List.set_cons_zero, List.set_cons_succ]
      refine skip_at (i := 11) (d := 51) (by simp only [List.getElem?_toArray, List.getElem?_cons_succ, List.getElem?_cons_zero]; rfl) rfl (by kernel_rfl) (by kernel_rfl) (by kernel_rfl) (fun _ _ _ h => h) rfl (by assumption) ?_
      try simp only [List.setIfInBounds_toArray, List.set_cons_zero, List.set_cons_succ]
      refine take_at (i := 12) (d := 52) (v := ?_) (by simp only [List.getElem?_toArray, List.getElem?_cons_succ, List.getElem?_cons_zero]; rfl) rfl (by kernel_rfl) (by kernel_rfl) (by kernel_rfl) (fun _ _ _ h => h) rfl ?_ (by assumption) ?_
      rotate_left
      focus (intro w hSw; go_simp; (try with_reducible rfl); done)
      try simp only [List.setIfInBounds_toArray, List.set_cons_zero, List.set_cons_succ]
      refine wpAnyH_done (by kernel_rfl) ?_ _
      clear hS0
      have c0 : u.drew.cell? ⟨wr.heap.size, 0, none⟩ = some (.int .i64 1) := c0
      have c1 : u.drew.cell? ⟨wr.heap.size, 1, none⟩ = some (.int .i64 g) := c1
      have HOD := hide (HOU.out.drew)
      have HBD := hide (HBU.out.drew)
      have hzd : wr.heap.size < u.drew.heap.size := hl2
      have hzd2 : w3.heap.size ≤ u.drew.heap.size := hszu
      obtain ⟨y, hy⟩ : ∃ y, u.drew = y := ⟨_, rfl⟩
      rw [hy] at c0 c1 HOD HBD hzd hzd2 ⊢
      clear hy
      go_wp2_with (at_builtin; refine wpList_app rfl (.tmp 71) (.tmp 73) 55 rfl w3.heap.size 60 i0 (.agg #[.int .i64 0, .int .i64 0]) 2 16 Tryz.underlying55 hi0 hz0 hz1 hz2 rfl (by decide) (.slice Am 0 cm) 0 _ rfl (HOD.out.alloc _) (y.heap.size + 1) (some ⟨y.heap.size, 0, none⟩) 1 1 [.int .i64 1, .int .i64 g] rfl rfl (Rd.new _ _ _ _) (by simp [Value.oneCell']) (by unfold maxLen; omega) (by omega) (by simp; omega) ?_; intro A' c' y3 own3 hg3 hat3)
      have HO3 : Hid (y3.ownsRow w3.heap.size 60 2 (.slice A' 1 c') 1 (msFlat (([(1, g), (2, g)] : List Ms).take 1))) := hide own3
      have HB3 := hide (app_below (HBD.out.alloc hzd2 _) (HOD.out.alloc _) hg3 (by simp; omega) (Nat.le_refl _))
      clear own3 hg3 hat3
      go_wp2
      go_roundw
      case rel => exact ⟨1, A', c', by omega, by rfl, by rfl, HO3, HB3⟩
      case measure => simp [intOf]
    · subst h
      obtain ⟨u, hu⟩ : ∃ u, wr.alloc (.cells #[.int .i64 2, .int .i64 g] 60) = u := ⟨_, rfl⟩
      have hzu : u.heap.size = wr.heap.size + 1 := by rw [← hu]; simp
      have N0 := hide (show u.heap[wr.heap.size]? = some (.cells #[.int .i64 2, .int .i64 g] 60) by rw [← hu]; exact heap_alloc_last _ _)
      have HBU : Hid (Below w3.heap.size w3 u) := hide (by rw [← hu]; exact HBw.out.alloc hsz _)
      have HOU : Hid (u.ownsRow w3.heap.size 60 2 (.slice Am 1 cm) 1 (msFlat (([(1, g), (2, g)] : List Ms).take 1))) := hide (by rw [← hu]; exact HOw.out.alloc _)
      have HU := hide hu
      clear hu HOw HBw
      obtain ⟨b, off, hA3, hb3, p0, p1⟩ := HM.out.get (i := 1) rfl
      dsimp only at p0 p1
      subst hA3
      have p0 := (HBr.out.cell (p := ⟨b, off + 1 * 2, none⟩) hb3).trans p0
      have p1 := (HBr.out.cell (p := ⟨b, off + 1 * 2 + 1, none⟩) hb3).trans p1
      simp only [Nat.zero_mul, Nat.one_mul, Nat.add_zero] at p0 p1
      go_upto_region 11 with fail
      rw [HU.out]
      have c0 : u.cell? ⟨wr.heap.size, 0, none⟩ = some (.int .i64 2) := cell_of_row _ _ 0 _ _ _ N0.out
      have c1 : u.cell? ⟨wr.heap.size, 1, none⟩ = some (.int .i64 g) := cell_of_row _ _ 1 _ _ _ N0.out
      have hl2 : wr.heap.size < u.heap.size := by omega
      have hcap := own_cap HOU.out
      have hszu : w3.heap.size ≤ u.heap.size := by omega
      clear p0 p1 hzu
      obtain ⟨g1, hA1, q1, q2, q3⟩ := own_addr HOU.out (by omega)
      subst hA1
      have d0 : u.cell? ⟨g1, 0, none⟩ = some (.int .i64 1) := HOU.out.cellAt 0 (by omega)
      have e0 : IntKind.i64.wrap 0 = 0 := by decide
      refine wp_region_held_drew (S := Kept u) (by kernel_rfl) (Kept.drew u) (fun hS0 => ?_)
      refine take_at (i := 0) (d := 40) (v := ?_) (by simp only [List.getElem?_toArray, List.getElem?_cons_succ, List.getElem?_cons_zero]; rfl) rfl (by kernel_rfl) (by kernel_rfl) (by kernel_rfl) (fun _ _ _ h => h) rfl ?_ (by assumption) ?_
      rotate_left
      focus (intro w hSw; go_simp; (try with_reducible rfl); done)
      try simp only [List.setIfInBounds_toArray, List.set_cons_zero, List.set_cons_succ]
      refine take_at (i := 1) (d := 41) (v := ?_) (by simp only [List.getElem?_toArray, List.getElem?_cons_succ, List.getElem?_cons_zero]; rfl) rfl (by kernel_rfl) (by kernel_rfl) (by kernel_rfl) (fun _ _ _ h => h) rfl ?_ (by assumption) ?_
      rotate_left
      focus (intro w hSw; go_simp; (try with_reducible rfl); done)
      try simp only [List.setIfInBounds_toArray, List.set_cons_zero, List.set_cons_succ]
      refine take_at (i := 2) (d := 42) (v := ?_) (by simp only [List.getElem?_toArray, List.getElem?_cons_succ, List.getElem?_cons_zero]; rfl) rfl (by kernel_rfl) (by kernel_rfl) (by kernel_rfl) (fun _ _ _ h => h) rfl ?_ (by assumption) ?_
      rotate_left
      focus (intro w hSw; go_simp; (try with_reducible rfl); done)
      try simp only [List.setIfInBounds_toArray, List.set_cons_zero, List.set_cons_succ]
      refine take_at (i := 3) (d := 43) (v := ?_) (by simp only [List.getElem?_toArray, List.getElem?_cons_succ, List.getElem?_cons_zero]; rfl) rfl (by kernel_rfl) (by kernel_rfl) (by kernel_rfl) (fun _ _ _ h => h) rfl ?_ (by assumption) ?_
      rotate_left
      focus (intro w hSw; go_simp; (try with_reducible rfl); done)
      try simp only [List.setIfInBounds_toArray, List.set_cons_zero, List.set_cons_succ]
      refine take_at (i := 4) (d := 44) (v := ?_) (by simp only [List.getElem?_toArray, List.getElem?_cons_succ, List.getElem?_cons_zero]; rfl) rfl (by kernel_rfl) (by kernel_rfl) (by kernel_rfl) (fun _ _ _ h => h) rfl ?_ (by assumption) ?_
      rotate_left
      focus (intro w hSw; go_simp; (try with_reducible rfl); done)
      try simp only [List.setIfInBounds_toArray, List.set_cons_zero, List.set_cons_succ]
      refine take_at (i := 5) (d := 45) (v := ?_) (by simp only [List.getElem?_toArray, List.getElem?_cons_succ, List.getElem?_cons_zero]; rfl) rfl (by kernel_rfl) (by kernel_rfl) (by kernel_rfl) (fun _ _ _ h => h) rfl ?_ (by assumption) ?_
      rotate_left
      focus (intro w hSw; go_simp; (try with_reducible rfl); done)
      try simp only [List.setIfInBounds_toArray, List.set_cons_zero, List.set_cons_succ]
      refine take_at (i := 6) (d := 46) (v := ?_) (by simp only [List.getElem?_toArray, List.getElem?_cons_succ, List.getElem?_cons_zero]; rfl) rfl (by kernel_rfl) (by kernel_rfl) (by kernel_rfl) (fun _ _ _ h => h) rfl ?_ (by assumption) ?_
      rotate_left
      focus (intro w hSw; go_simp; (try with_reducible rfl); done)
      try simp only [List.setIfInBounds_toArray, List.set_cons_zero, List.set_cons_succ]
      refine take_at (i := 7) (d := 47) (v := ?_) (by simp only [List.getElem?_toArray, List.getElem?_cons_succ, List.getElem?_cons_zero]; rfl) rfl (by kernel_rfl) (by kernel_rfl) (by kernel_rfl) (fun _ _ _ h => h) rfl ?_ (by assumption) ?_
      rotate_left
      focus (intro w hSw; go_simp; (try with_reducible rfl); done)
      try simp only [List.setIfInBounds_toArray, List.set_cons_zero, List.set_cons_succ]
      refine take_at (i := 8) (d := 48) (v := ?_) (by simp only [List.getElem?_toArray, List.getElem?_cons_succ, List.getElem?_cons_zero]; rfl) rfl (by kernel_rfl) (by kernel_rfl) (by kernel_rfl) (fun _ _ _ h => h) rfl ?_ (by assumption) ?_
      rotate_left
      focus (intro w hSw; go_simp; (try with_reducible rfl); done)
      try simp only [List.setIfInBounds_toArray, List.set_cons_zero, List.set_cons_succ]
      refine take_at (i := 9) (d := 49) (v := ?_) (by simp only [List.getElem?_toArray, List.getElem?_cons_succ, List.getElem?_cons_zero]; rfl) rfl (by kernel_rfl) (by kernel_rfl) (by kernel_rfl) (fun _ _ _ h => h) rfl ?_ (by assumption) ?_
      rotate_left
      focus (intro w hSw; go_simp; (try with_reducible rfl); done)
      try simp only [List.setIfInBounds_toArray, List.set_cons_zero, List.set_cons_succ]
      refine take_at (i := 10) (d := 50) (v := ?_) (by simp only [List.getElem?_toArray, List.getElem?_cons_succ, List.getElem?_cons_zero]; rfl) rfl (by kernel_rfl) (by kernel_rfl) (by kernel_rfl) (fun _ _ _ h => h) rfl ?_ (by assumption) ?_
      rotate_left
      focus (intro w hSw; go_simp; (try with_reducible rfl); done)
      try simp only [List.setIfInBounds_toArray, List.set_cons_zero, List.set_cons_succ]
      refine take_at (i := 11) (d := 51) (v := ?_) (by simp only [List.getElem?_toArray, List.getElem?_cons_succ, List.getElem?_cons_zero]; rfl) rfl (by kernel_rfl) (by kernel_rfl) (by kernel_rfl) (fun _ _ _ h => h) rfl ?_ (by assumption) ?_
      rotate_left
      focus (intro w hSw; go_simp; (try with_reducible rfl); done)
      try simp only [List.setIfInBounds_toArray, List.set_cons_zero, List.set_cons_succ]
      refine take_at (i := 12) (d := 52) (v := ?_) (by simp only [List.getElem?_toArray, List.getElem?_cons_succ, List.getElem?_cons_zero]; rfl) rfl (by kernel_rfl) (by kernel_rfl) (by kernel_rfl) (fun _ _ _ h => h) rfl ?_ (by assumption) ?_
      rotate_left
      focus (intro w hSw; go_simp; (try with_reducible rfl); done)
      try simp only [List.setIfInBounds_toArray, List.set_cons_zero, List.set_cons_succ]
      refine wpAnyH_done (by kernel_rfl) ?_ _
      clear hS0
      have c0 : u.drew.cell? ⟨wr.heap.size, 0, none⟩ = some (.int .i64 2) := c0
      have c1 : u.drew.cell? ⟨wr.heap.size, 1, none⟩ = some (.int .i64 g) := c1
      have HOD := hide (HOU.out.drew)
      have HBD := hide (HBU.out.drew)
      have hzd : wr.heap.size < u.drew.heap.size := hl2
      have hzd2 : w3.heap.size ≤ u.drew.heap.size := hszu
      clear d0
      obtain ⟨y, hy⟩ : ∃ y, u.drew = y := ⟨_, rfl⟩
      rw [hy] at c0 c1 HOD HBD hzd hzd2 ⊢
      clear hy
      go_wp2_with (at_builtin; refine wpList_app rfl (.tmp 71) (.tmp 73) 55 rfl w3.heap.size 60 i0 (.agg #[.int .i64 0, .int .i64 0]) 2 16 Tryz.underlying55 hi0 hz0 hz1 hz2 rfl (by decide) (.slice (some ⟨g1, 0, none⟩) 1 cm) 1 _ rfl (HOD.out.alloc _) (y.heap.size + 1) (some ⟨y.heap.size, 0, none⟩) 1 1 [.int .i64 2, .int .i64 g] rfl rfl (Rd.new _ _ _ _) (by simp [Value.oneCell']) (by unfold maxLen; omega) (by omega) (by simp; omega) ?_; intro A' c' y3 own3 hg3 hat3)
      have HO3 : Hid (y3.ownsRow w3.heap.size 60 2 (.slice A' 2 c') 2 (msFlat (([(1, g), (2, g)] : List Ms).take 2))) := hide own3
      have HB3 := hide (app_below (HBD.out.alloc hzd2 _) (HOD.out.alloc _) hg3 (by simp; omega) (Nat.le_refl _))
      clear own3 hg3 hat3
      go_wp2
      go_roundw
      case rel => exact ⟨2, A', c', by omega, by rfl, by rfl, HO3, HB3⟩
      case measure => simp [intOf]
    · subst h
      have HFin : Hid (∃ A' c', Ending.returned (.slice Am 2 cm) = .returned (.slice A' 2 c') ∧ Mss wr wr.heap.size A' [(1, evenF x 2), (2, evenF x 2)] ∧ Below w.heap.size w wr) := hide ⟨Am, cm, rfl, by rw [HG.out]; exact Mss.of_rd (Rd.of_own HOw.out), HB3.out.trans (HBw.out.mono HB3.out.size)⟩
      go_wp2
      go_ret
      exact HFin.out
end Go.Proofs.YtihlhkbdgbkafaaGreat
