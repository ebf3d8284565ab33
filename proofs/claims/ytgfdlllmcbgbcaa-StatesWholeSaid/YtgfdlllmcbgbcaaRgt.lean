/- Right: which parts may be. (printed by gen/rgt.py) -/
import Derived.Test.YtgfdlllmcbgbcaaProg
import Derived.Test.YtgfdlllmcbgbcaaSpv
import Derived.Lib.Hide
import Derived.WalkSpells
import Derived.WalkMore
import Derived.IntWalk
namespace Go.Proofs.Ytgfdlllmcbgbcaa
open Go.RowKit
set_option linter.unusedVariables false
set_option linter.unusedSimpArgs false
set_option maxRecDepth 100000 in
theorem within_any (w : World) (x : Int) : Calls Try.prog 32 #[.int .i64 x] w fun e w' => e = .returned (.bool (inB x)) ∧ w' = w := by
  go_enter Try.func32, Try.ntmps32
  go_wp2
  all_goals
    go_ret
    exact ⟨ret_b (by unfold inB; first | rfl | (rw [Bool.eq_iff_iff]; simp only [Bool.and_eq_true, decide_eq_true_eq, Bool.false_eq_true, eq_self_iff_true, true_iff, false_iff]; omega)), rfl⟩
set_option maxRecDepth 100000 in
theorem rin_any (w : World) (x : Int) : Calls Try.prog 33 #[.int .i64 x] w fun e w' => e = .returned (.bool (inB x)) ∧ w' = w := by
  go_enter Try.func33, Try.ntmps33
  go_wp2
  all_goals
    go_ret
    exact ⟨ret_b (by unfold inB; first | rfl | (rw [Bool.eq_iff_iff]; simp only [Bool.and_eq_true, decide_eq_true_eq, Bool.false_eq_true, eq_self_iff_true, true_iff, false_iff]; omega)), rfl⟩
set_option maxRecDepth 100000 in
set_option maxHeartbeats 8000000 in
theorem right_any (w : World) (p : SPart) (Ao Av Ac Ai : Option Addr) (n nv nc ni co cv cc ci : Nat) (hlen : SLen p n nv nc ni) (bn : n ≤ 9223372036854775807) (hin : SIn w p Ao Av Ac Ai) :
    Calls Try.prog 14 #[.agg #[.int .i64 p.step, .slice Ao n co, .slice Av nv cv, .slice Ac nc cc, .slice Ai ni ci]] w fun e w' => e = .returned (.bool (rightB p)) ∧ Below w.heap.size w w' := by
  have HRL := hide (right_lens hlen)
  have HFalse : ∀ (e : Ending) (w' : World), Hid (rightB p = false) → Hid (Below w.heap.size w w') → e = .returned (.bool false) → (e = .returned (.bool (rightB p)) ∧ Below w.heap.size w w') := fun e w' h1 h2 h3 => ⟨by rw [h3, h1.out], h2.out⟩
  have HFF := hide HFalse
  obtain ⟨u, hu⟩ : ∃ u, w.alloc (.cells #[.int .i64 p.step, .slice Ao n co, .slice Av nv cv, .slice Ac nc cc, .slice Ai ni ci] 27) = u := ⟨_, rfl⟩
  have hbu : Hid (Below w.heap.size w u) := hide (by rw [← hu]; exact (Below.refl _ _).alloc (Nat.le_refl _) _)
  have hcu : Hid (u.heap[w.heap.size]? = some (.cells #[.int .i64 p.step, .slice Ao n co, .slice Av nv cv, .slice Ac nc cc, .slice Ai ni ci] 27)) := hide (by rw [← hu]; exact heap_alloc_last _ _)
  have HB2 : Hid (Below w.heap.size w (w.alloc (.cells #[.int .i64 p.step, .slice Ao n co, .slice Av nv cv, .slice Ac nc cc, .slice Ai ni ci] 27))) := hide (by rw [hu]; exact hbu.out)
  have HI := hide (hin.next hbu.out)
  have HU := hide hu
  have HLen := hide hlen
  clear HFalse hu hin hlen
  by_cases k1 : p.step < 0
  · have HF : Hid (rightB p = false) := hide (by rw [HRL.out]; simp; omega)
    go_enter Try.func14, Try.ntmps14
    go_wp2
    go_ret
    exact HFF.out _ _ HF HB2 rfl
  have k1' : 0 ≤ p.step := by omega
  by_cases k2 : 2000 < p.step
  · have HF : Hid (rightB p = false) := hide (by rw [HRL.out]; simp; omega)
    go_enter Try.func14, Try.ntmps14
    go_wp2
    go_ret
    exact HFF.out _ _ HF HB2 rfl
  have k2' : p.step ≤ 2000 := by omega
  by_cases k3 : nv = n
  rotate_left
  · have HF : Hid (rightB p = false) := hide (by rw [HRL.out]; simp [k3])
    go_enter Try.func14, Try.ntmps14
    go_wp2
    go_ret
    exact HFF.out _ _ HF HB2 rfl
  obtain rfl := k3
  by_cases k4 : nc = nv
  rotate_left
  · have HF : Hid (rightB p = false) := hide (by rw [HRL.out]; simp [k4])
    go_enter Try.func14, Try.ntmps14
    go_wp2
    go_ret
    exact HFF.out _ _ HF HB2 rfl
  obtain rfl := k4
  by_cases k5 : ni = nc
  rotate_left
  · have HF : Hid (rightB p = false) := hide (by rw [HRL.out]; simp [k5])
    go_enter Try.func14, Try.ntmps14
    go_wp2
    go_ret
    exact HFF.out _ _ HF HB2 rfl
  obtain rfl := k5
  have HR : Hid (rightB p = rightL (-1) p.own p.vals p.inb) := hide (by rw [HRL.out]; simp [k1', k2'])
  have e0 : u.cell? ⟨w.heap.size, 0, none⟩ = some (.int .i64 p.step) := cell_of_row _ _ 0 _ _ _ hcu.out
  have e1 : u.cell? ⟨w.heap.size, 1, none⟩ = some (.slice Ao ni co) := cell_of_row _ _ 1 _ _ _ hcu.out
  have e2 : u.cell? ⟨w.heap.size, 2, none⟩ = some (.slice Av ni cv) := cell_of_row _ _ 2 _ _ _ hcu.out
  have e3 : u.cell? ⟨w.heap.size, 3, none⟩ = some (.slice Ac ni cc) := cell_of_row _ _ 3 _ _ _ hcu.out
  have e4 : u.cell? ⟨w.heap.size, 4, none⟩ = some (.slice Ai ni ci) := cell_of_row _ _ 4 _ _ _ hcu.out
  clear k1 k2 HRL
  go_enter Try.func14, Try.ntmps14
  go_wp2
  rw [HU.out]
  go_loop [4, 42] (fun v4 v42 => ∃ (i : Nat) (last : Int), i ≤ ni ∧ v42 = .int .i64 i ∧ v4 = .int .i64 last ∧ Hid (rightB p = rightL last (p.own.drop i) (p.vals.drop i) (p.inb.drop i))) (fun _ v42 => ni - (intOf v42).toNat)
  case atStart => exact ⟨0, -1, by omega, rfl, rfl, HR⟩
  case round =>
    obtain ⟨i, last, hi, rfl, rfl, hr⟩ := hrel
    by_cases hlt : i < ni
    · obtain ⟨v, hv⟩ : ∃ v, p.own[i]? = some v := ⟨_, List.getElem?_eq_getElem (by rw [HLen.out.1]; exact hlt)⟩
      obtain ⟨x, hx⟩ : ∃ x, p.vals[i]? = some x := ⟨_, List.getElem?_eq_getElem (by rw [HLen.out.2.1]; exact hlt)⟩
      obtain ⟨⟨h, y⟩, hm⟩ : ∃ m, p.inb[i]? = some m := ⟨_, List.getElem?_eq_getElem (by rw [HLen.out.2.2.2]; exact hlt)⟩
      have HST := hide (rightL_step (last := last) hv hx hm)
      obtain ⟨bo, oo, rfl, lo, dv⟩ := HI.out.own.at1 (i64s_get hv)
      obtain ⟨bv, ov, rfl, lv, dx⟩ := HI.out.vals.at1 (i64s_get hx)
      obtain ⟨bi, oi, rfl, li, dm, dy⟩ := HI.out.inb.ml hm
      dsimp only at dm dy
      have hI0 : (0 : Int) ≤ (i : Int) := by omega
      have hI1 : (i : Int) < (ni : Int) := by omega
      have HV := hide hv
      clear hv hx hm
      by_cases q1 : v ≤ last
      · have HF : Hid (rightB p = false) := hide (by rw [hr.out, HST.out]; rw [decide_eq_false (show ¬ last < v by omega)]; simp)
        go_wp2
        go_ret
        exact HFF.out _ _ HF hbu rfl
      have q1' : last < v := by omega
      by_cases q2 : 512 ≤ v
      · have HF : Hid (rightB p = false) := hide (by rw [hr.out, HST.out]; rw [decide_eq_false (show ¬ v < 512 by omega)]; simp)
        go_wp2
        go_ret
        exact HFF.out _ _ HF hbu rfl
      have q2' : v < 512 := by omega
      rcases qx : inB x with _ | _
      · have QX := hide qx
        clear qx
        have HF : Hid (rightB p = false) := hide (by rw [hr.out, HST.out]; rw [QX.out]; simp)
        go_wp2_with fail
        refine (within_any _ x).mono ?_
        rintro e w1 ⟨rfl, rfl⟩
        rw [QX.out]
        go_wp2
        go_ret
        exact HFF.out _ _ HF hbu rfl
      rcases h with _ | _
      · have QX := hide qx
        clear qx
        have HN : Hid (rightB p = rightL v (p.own.drop (i + 1)) (p.vals.drop (i + 1)) (p.inb.drop (i + 1))) := hide (by rw [hr.out, HST.out, decide_eq_true (show last < v by omega), decide_eq_true q2', QX.out]; simp)
        go_wp2_with fail
        refine (within_any _ x).mono ?_
        rintro e w1 ⟨rfl, rfl⟩
        rw [QX.out]
        go_wp2
        go_round
        case rel => exact ⟨i + 1, v, by omega, by go_num, rfl, HN⟩
        case measure => simp [intOf]; omega
      · rcases qy : inB y with _ | _
        · have QX := hide qx
          have QY := hide qy
          clear qx qy
          have HF : Hid (rightB p = false) := hide (by rw [hr.out, HST.out]; rw [QY.out]; simp)
          go_wp2_with fail
          refine (within_any _ x).mono ?_
          rintro e w1 ⟨rfl, rfl⟩
          rw [QX.out]
          go_wp2_with fail
          refine (within_any _ y).mono ?_
          rintro e w1 ⟨rfl, rfl⟩
          rw [QY.out]
          go_wp2
          go_ret
          exact HFF.out _ _ HF hbu rfl
        · have QY := hide qy
          clear qy
          have QX := hide qx
          clear qx
          have HN : Hid (rightB p = rightL v (p.own.drop (i + 1)) (p.vals.drop (i + 1)) (p.inb.drop (i + 1))) := hide (by rw [hr.out, HST.out, decide_eq_true (show last < v by omega), decide_eq_true q2', QX.out, QY.out]; simp)
          go_wp2_with fail
          refine (within_any _ x).mono ?_
          rintro e w1 ⟨rfl, rfl⟩
          rw [QX.out]
          go_wp2_with fail
          refine (within_any _ y).mono ?_
          rintro e w1 ⟨rfl, rfl⟩
          rw [QY.out]
          go_wp2
          go_round
          case rel => exact ⟨i + 1, v, by omega, by go_num, rfl, HN⟩
          case measure => simp [intOf]; omega
    · obtain rfl : i = ni := by omega
      have HT : Hid (rightB p = true) := hide (by rw [hr.out, List.drop_of_length_le (by rw [HLen.out.1]; exact Nat.le_refl _), rightL_nil])
      go_wp2
      go_ret
      exact ⟨ret_b HT.out.symm, hbu.out⟩
set_option maxRecDepth 100000 in
set_option maxHeartbeats 8000000 in
theorem rright_any (w : World) (p : SPart) (Ao Av Ac Ai : Option Addr) (n nv nc ni co cv cc ci : Nat) (hlen : SLen p n nv nc ni) (bn : n ≤ 9223372036854775807) (hin : SIn w p Ao Av Ac Ai) :
    Calls Try.prog 15 #[.agg #[.int .i64 p.step, .slice Ao n co, .slice Av nv cv, .slice Ac nc cc, .slice Ai ni ci]] w fun e w' => e = .returned (.bool (rightB p)) ∧ Below w.heap.size w w' := by
  have HRL := hide (right_lens hlen)
  have HFalse : ∀ (e : Ending) (w' : World), Hid (rightB p = false) → Hid (Below w.heap.size w w') → e = .returned (.bool false) → (e = .returned (.bool (rightB p)) ∧ Below w.heap.size w w') := fun e w' h1 h2 h3 => ⟨by rw [h3, h1.out], h2.out⟩
  have HFF := hide HFalse
  obtain ⟨u, hu⟩ : ∃ u, w.alloc (.cells #[.int .i64 p.step, .slice Ao n co, .slice Av nv cv, .slice Ac nc cc, .slice Ai ni ci] 35) = u := ⟨_, rfl⟩
  have hbu : Hid (Below w.heap.size w u) := hide (by rw [← hu]; exact (Below.refl _ _).alloc (Nat.le_refl _) _)
  have hcu : Hid (u.heap[w.heap.size]? = some (.cells #[.int .i64 p.step, .slice Ao n co, .slice Av nv cv, .slice Ac nc cc, .slice Ai ni ci] 35)) := hide (by rw [← hu]; exact heap_alloc_last _ _)
  have HB2 : Hid (Below w.heap.size w (w.alloc (.cells #[.int .i64 p.step, .slice Ao n co, .slice Av nv cv, .slice Ac nc cc, .slice Ai ni ci] 35))) := hide (by rw [hu]; exact hbu.out)
  have HI := hide (hin.next hbu.out)
  have HU := hide hu
  have HLen := hide hlen
  clear HFalse hu hin hlen
  by_cases k1 : p.step < 0
  · have HF : Hid (rightB p = false) := hide (by rw [HRL.out]; simp; omega)
    go_enter Try.func15, Try.ntmps15
    go_wp2
    go_ret
    exact HFF.out _ _ HF HB2 rfl
  have k1' : 0 ≤ p.step := by omega
  by_cases k2 : 2000 < p.step
  · have HF : Hid (rightB p = false) := hide (by rw [HRL.out]; simp; omega)
    go_enter Try.func15, Try.ntmps15
    go_wp2
    go_ret
    exact HFF.out _ _ HF HB2 rfl
  have k2' : p.step ≤ 2000 := by omega
  by_cases k3 : nv = n
  rotate_left
  · have HF : Hid (rightB p = false) := hide (by rw [HRL.out]; simp [k3])
    go_enter Try.func15, Try.ntmps15
    go_wp2
    go_ret
    exact HFF.out _ _ HF HB2 rfl
  obtain rfl := k3
  by_cases k4 : nc = nv
  rotate_left
  · have HF : Hid (rightB p = false) := hide (by rw [HRL.out]; simp [k4])
    go_enter Try.func15, Try.ntmps15
    go_wp2
    go_ret
    exact HFF.out _ _ HF HB2 rfl
  obtain rfl := k4
  by_cases k5 : ni = nc
  rotate_left
  · have HF : Hid (rightB p = false) := hide (by rw [HRL.out]; simp [k5])
    go_enter Try.func15, Try.ntmps15
    go_wp2
    go_ret
    exact HFF.out _ _ HF HB2 rfl
  obtain rfl := k5
  have HR : Hid (rightB p = rightL (-1) p.own p.vals p.inb) := hide (by rw [HRL.out]; simp [k1', k2'])
  have e0 : u.cell? ⟨w.heap.size, 0, none⟩ = some (.int .i64 p.step) := cell_of_row _ _ 0 _ _ _ hcu.out
  have e1 : u.cell? ⟨w.heap.size, 1, none⟩ = some (.slice Ao ni co) := cell_of_row _ _ 1 _ _ _ hcu.out
  have e2 : u.cell? ⟨w.heap.size, 2, none⟩ = some (.slice Av ni cv) := cell_of_row _ _ 2 _ _ _ hcu.out
  have e3 : u.cell? ⟨w.heap.size, 3, none⟩ = some (.slice Ac ni cc) := cell_of_row _ _ 3 _ _ _ hcu.out
  have e4 : u.cell? ⟨w.heap.size, 4, none⟩ = some (.slice Ai ni ci) := cell_of_row _ _ 4 _ _ _ hcu.out
  clear k1 k2 HRL
  go_enter Try.func15, Try.ntmps15
  go_wp2
  rw [HU.out]
  go_loop [4] (fun v4 => ∃ (i : Nat) (last : Int), i ≤ ni ∧ v4 = .int .i64 i ∧ -1 ≤ last ∧ Hid (i = 0 → last = -1) ∧ Hid (∀ j, i = j + 1 → p.own[j]? = some last) ∧ Hid (rightB p = rightL last (p.own.drop i) (p.vals.drop i) (p.inb.drop i))) (fun v4 => ni - (intOf v4).toNat)
  case atStart => exact ⟨0, -1, by omega, rfl, by omega, hide (fun _ => rfl), hide (fun j h => by omega), HR⟩
  case round =>
    obtain ⟨i, last, hi, rfl, hl, h0, hs, hr⟩ := hrel
    by_cases hlt : i < ni
    · obtain ⟨v, hv⟩ : ∃ v, p.own[i]? = some v := ⟨_, List.getElem?_eq_getElem (by rw [HLen.out.1]; exact hlt)⟩
      obtain ⟨x, hx⟩ : ∃ x, p.vals[i]? = some x := ⟨_, List.getElem?_eq_getElem (by rw [HLen.out.2.1]; exact hlt)⟩
      obtain ⟨⟨h, y⟩, hm⟩ : ∃ m, p.inb[i]? = some m := ⟨_, List.getElem?_eq_getElem (by rw [HLen.out.2.2.2]; exact hlt)⟩
      have HST := hide (rightL_step (last := last) hv hx hm)
      obtain ⟨bo, oo, rfl, lo, dv⟩ := HI.out.own.at1 (i64s_get hv)
      obtain ⟨bv, ov, rfl, lv, dx⟩ := HI.out.vals.at1 (i64s_get hx)
      obtain ⟨bi, oi, rfl, li, dm, dy⟩ := HI.out.inb.ml hm
      dsimp only at dm dy
      have hI0 : (0 : Int) ≤ (i : Int) := by omega
      have hI1 : (i : Int) < (ni : Int) := by omega
      have HV := hide hv
      clear hv hx hm
      rcases Nat.eq_zero_or_pos i with hz | hz
      · have hlast := hide (h0.out hz)
        have hz1 : ¬ 0 < i := by omega
        clear hz
        by_cases q0 : v < 0
        · have HF : Hid (rightB p = false) := hide (by rw [hr.out, HST.out]; rw [decide_eq_false (show ¬ last < v by omega)]; simp)
          go_wp2
          go_ret
          exact HFF.out _ _ HF hbu rfl
        have q0' : 0 ≤ v := by omega
        have q1' : last < v := by have := hlast.out; omega
        by_cases q2 : 512 ≤ v
        · have HF : Hid (rightB p = false) := hide (by rw [hr.out, HST.out]; rw [decide_eq_false (show ¬ v < 512 by omega)]; simp)
          go_wp2
          go_ret
          exact HFF.out _ _ HF hbu rfl
        have q2' : v < 512 := by omega
        rcases qx : inB x with _ | _
        · have QX := hide qx
          clear qx
          have HF : Hid (rightB p = false) := hide (by rw [hr.out, HST.out]; rw [QX.out]; simp)
          go_wp2_with fail
          refine (rin_any _ x).mono ?_
          rintro e w1 ⟨rfl, rfl⟩
          rw [QX.out]
          go_wp2
          go_ret
          exact HFF.out _ _ HF hbu rfl
        rcases h with _ | _
        · have QX := hide qx
          clear qx
          have HN : Hid (rightB p = rightL v (p.own.drop (i + 1)) (p.vals.drop (i + 1)) (p.inb.drop (i + 1))) := hide (by rw [hr.out, HST.out, decide_eq_true (show last < v by omega), decide_eq_true q2', QX.out]; simp)
          go_wp2_with fail
          refine (rin_any _ x).mono ?_
          rintro e w1 ⟨rfl, rfl⟩
          rw [QX.out]
          go_wp2
          go_round
          case rel => exact ⟨i + 1, v, by omega, by go_num, by omega, hide (fun h => by omega), hide (fun j h => by rw [show j = i by omega]; exact HV.out), HN⟩
          case measure => simp [intOf]; omega
        · rcases qy : inB y with _ | _
          · have QX := hide qx
            have QY := hide qy
            clear qx qy
            have HF : Hid (rightB p = false) := hide (by rw [hr.out, HST.out]; rw [QY.out]; simp)
            go_wp2_with fail
            refine (rin_any _ x).mono ?_
            rintro e w1 ⟨rfl, rfl⟩
            rw [QX.out]
            go_wp2_with fail
            refine (rin_any _ y).mono ?_
            rintro e w1 ⟨rfl, rfl⟩
            rw [QY.out]
            go_wp2
            go_ret
            exact HFF.out _ _ HF hbu rfl
          · have QY := hide qy
            clear qy
            have QX := hide qx
            clear qx
            have HN : Hid (rightB p = rightL v (p.own.drop (i + 1)) (p.vals.drop (i + 1)) (p.inb.drop (i + 1))) := hide (by rw [hr.out, HST.out, decide_eq_true (show last < v by omega), decide_eq_true q2', QX.out, QY.out]; simp)
            go_wp2_with fail
            refine (rin_any _ x).mono ?_
            rintro e w1 ⟨rfl, rfl⟩
            rw [QX.out]
            go_wp2_with fail
            refine (rin_any _ y).mono ?_
            rintro e w1 ⟨rfl, rfl⟩
            rw [QY.out]
            go_wp2
            go_round
            case rel => exact ⟨i + 1, v, by omega, by go_num, by omega, hide (fun h => by omega), hide (fun j h => by rw [show j = i by omega]; exact HV.out), HN⟩
            case measure => simp [intOf]; omega
      · obtain ⟨k, hk⟩ : ∃ k, i = k + 1 := ⟨i - 1, by omega⟩
        have hp := hs.out k hk
        obtain ⟨b9, o9, e9, l9, dp⟩ := HI.out.own.at1 (i64s_get hp)
        injection e9 with e9
        injection e9 with e91 e92
        subst e91 e92
        clear hp
        have hk2 : (i : Int) - 1 = (k : Int) := by omega
        have hkk : IntKind.i64.wrap ((i : Int) - 1) = (k : Int) := by rw [hk2]; exact IntWalk.i64_in _ (by omega)
        have hk3 : (k : Int) < (ni : Int) := by omega
        have hk0 : (0 : Int) ≤ (k : Int) := by omega
        clear hk
        by_cases q0 : v < 0
        · have HF : Hid (rightB p = false) := hide (by rw [hr.out, HST.out]; rw [decide_eq_false (show ¬ last < v by omega)]; simp)
          go_wp2
          go_ret
          exact HFF.out _ _ HF hbu rfl
        have q0' : 0 ≤ v := by omega
        by_cases q5 : 512 ≤ v
        · have HF : Hid (rightB p = false) := hide (by rw [hr.out, HST.out]; rw [decide_eq_false (show ¬ v < 512 by omega)]; simp)
          go_wp2
          go_ret
          exact HFF.out _ _ HF hbu rfl
        have q5' : v < 512 := by omega
        by_cases q1 : v ≤ last
        · have HF : Hid (rightB p = false) := hide (by rw [hr.out, HST.out]; rw [decide_eq_false (show ¬ last < v by omega)]; simp)
          go_wp2
          go_ret
          exact HFF.out _ _ HF hbu rfl
        have q1' : last < v := by omega
        have q2' := q5'
        rcases qx : inB x with _ | _
        · have QX := hide qx
          clear qx
          have HF : Hid (rightB p = false) := hide (by rw [hr.out, HST.out]; rw [QX.out]; simp)
          go_wp2_with fail
          refine (rin_any _ x).mono ?_
          rintro e w1 ⟨rfl, rfl⟩
          rw [QX.out]
          go_wp2
          go_ret
          exact HFF.out _ _ HF hbu rfl
        rcases h with _ | _
        · have QX := hide qx
          clear qx
          have HN : Hid (rightB p = rightL v (p.own.drop (i + 1)) (p.vals.drop (i + 1)) (p.inb.drop (i + 1))) := hide (by rw [hr.out, HST.out, decide_eq_true (show last < v by omega), decide_eq_true q2', QX.out]; simp)
          go_wp2_with fail
          refine (rin_any _ x).mono ?_
          rintro e w1 ⟨rfl, rfl⟩
          rw [QX.out]
          go_wp2
          go_round
          case rel => exact ⟨i + 1, v, by omega, by go_num, by omega, hide (fun h => by omega), hide (fun j h => by rw [show j = i by omega]; exact HV.out), HN⟩
          case measure => simp [intOf]; omega
        · rcases qy : inB y with _ | _
          · have QX := hide qx
            have QY := hide qy
            clear qx qy
            have HF : Hid (rightB p = false) := hide (by rw [hr.out, HST.out]; rw [QY.out]; simp)
            go_wp2_with fail
            refine (rin_any _ x).mono ?_
            rintro e w1 ⟨rfl, rfl⟩
            rw [QX.out]
            go_wp2_with fail
            refine (rin_any _ y).mono ?_
            rintro e w1 ⟨rfl, rfl⟩
            rw [QY.out]
            go_wp2
            go_ret
            exact HFF.out _ _ HF hbu rfl
          · have QY := hide qy
            clear qy
            have QX := hide qx
            clear qx
            have HN : Hid (rightB p = rightL v (p.own.drop (i + 1)) (p.vals.drop (i + 1)) (p.inb.drop (i + 1))) := hide (by rw [hr.out, HST.out, decide_eq_true (show last < v by omega), decide_eq_true q2', QX.out, QY.out]; simp)
            go_wp2_with fail
            refine (rin_any _ x).mono ?_
            rintro e w1 ⟨rfl, rfl⟩
            rw [QX.out]
            go_wp2_with fail
            refine (rin_any _ y).mono ?_
            rintro e w1 ⟨rfl, rfl⟩
            rw [QY.out]
            go_wp2
            go_round
            case rel => exact ⟨i + 1, v, by omega, by go_num, by omega, hide (fun h => by omega), hide (fun j h => by rw [show j = i by omega]; exact HV.out), HN⟩
            case measure => simp [intOf]; omega
    · obtain rfl : i = ni := by omega
      have HT : Hid (rightB p = true) := hide (by rw [hr.out, List.drop_of_length_le (by rw [HLen.out.1]; exact Nat.le_refl _), rightL_nil])
      go_wp2
      go_ret
      exact ⟨ret_b HT.out.symm, hbu.out⟩
end Go.Proofs.Ytgfdlllmcbgbcaa
