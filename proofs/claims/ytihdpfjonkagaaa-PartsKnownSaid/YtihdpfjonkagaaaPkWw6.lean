/- Lemmas: Mof, Pcf, Pla, Mpl, Lgt. -/
import Derived.Test.YtihdpfjonkagaaaProg
import Derived.Lib.Hide
import Derived.WalkSpells
import Derived.WalkMore
import Derived.IntWalk
import Derived.Test.YtihdpfjonkagaaaPkWw1
set_option linter.unusedVariables false
set_option linter.unusedSimpArgs false
set_option maxRecDepth 100000
set_option maxHeartbeats 16000000
namespace Go.Proofs.Ytihdpfjonkagaaa
open Go.RowKit
def mayB (n : Int) : Bool := decide (1 ≤ n) && decide (n ≤ 64)
theorem mayB_iff {n : Int} : mayB n = true ↔ 1 ≤ n ∧ n ≤ 64 := by simp [mayB]
def ofF (v n : Int) : Int := if v < 0 ∨ 512 ≤ v ∨ n < 1 ∨ 64 < n then -1 else 2654435761 * v % 4294967296 * n / 4294967296
theorem may_any (w : World) (n : Int) : Calls Try.prog 29 #[.int .i64 n] w fun e w' => e = .returned (.bool (mayB n)) ∧ w' = w := by
 go_enter Try.func29, Try.ntmps29
 go_wp2
 all_goals
  go_ret
  exact ⟨ret_b (by unfold mayB; first | rfl | (rw [Bool.eq_iff_iff]; simp only [Bool.and_eq_true, decide_eq_true_eq, Bool.false_eq_true, eq_self_iff_true, true_iff, false_iff]; omega)), rfl⟩
theorem of_bounds (v n : Int) (h : ¬ (v < 0 ∨ 512 ≤ v ∨ n < 1 ∨ 64 < n)) : 0 ≤ 2654435761 * v % 4294967296 * n / 4294967296 ∧ 2654435761 * v % 4294967296 * n / 4294967296 < n ∧ 0 ≤ 2654435761 * v % 4294967296 ∧ 2654435761 * v % 4294967296 < 4294967296 ∧ 0 ≤ 2654435761 * v % 4294967296 * n ∧ 2654435761 * v % 4294967296 * n < 4294967296 * n := by
 obtain ⟨m, hm⟩ : ∃ m, 2654435761 * v % 4294967296 = m := ⟨_, rfl⟩
 have h0 : 0 ≤ m ∧ m < 4294967296 := by omega
 rw [hm]
 have h1 : 0 ≤ m * n := Int.mul_nonneg h0.1 (by omega)
 have h2 : m * n < 4294967296 * n := Int.mul_lt_mul_of_pos_right h0.2 (by omega)
 obtain ⟨p, hp⟩ : ∃ p, m * n = p := ⟨_, rfl⟩
 rw [hp] at h1 h2 ⊢
 omega
theorem ofF_ok (v n : Int) (h0 : 0 ≤ v) (h1 : v < 512) (h2 : 1 ≤ n) (h3 : n ≤ 64) : 0 ≤ ofF v n ∧ ofF v n < n := by
 have hc : ¬ (v < 0 ∨ 512 ≤ v ∨ n < 1 ∨ 64 < n) := by omega
 unfold ofF
 rw [if_neg hc]
 exact ⟨(of_bounds v n hc).1, (of_bounds v n hc).2.1⟩
theorem rof_any (w : World) (v n : Int) : Calls Try.prog 9 #[.int .i64 v, .int .i64 n] w fun e w' => e = .returned (.int .i64 (ofF v n)) ∧ w' = w := by
 by_cases hc : v < 0 ∨ 512 ≤ v ∨ n < 1 ∨ 64 < n
 ·have hF : ofF v n = -1 := by unfold ofF; rw [if_pos hc]
  have HF := hide hF
  clear hF
  by_cases h1 : v < 0
  ·clear hc
   go_enter Try.func9, Try.ntmps9
   go_wp2
   go_ret
   exact ⟨ret_n (by rw [HF.out]), rfl⟩
  ·by_cases h2 : 512 ≤ v
   ·clear hc
    go_enter Try.func9, Try.ntmps9
    go_wp2
    go_ret
    exact ⟨ret_n (by rw [HF.out]), rfl⟩
   ·by_cases h3 : n < 1
    ·clear hc
     go_enter Try.func9, Try.ntmps9
     go_wp2
     go_ret
     exact ⟨ret_n (by rw [HF.out]), rfl⟩
    ·have h4 : 64 < n := by omega
     clear hc
     go_enter Try.func9, Try.ntmps9
     go_wp2
     go_ret
     exact ⟨ret_n (by rw [HF.out]), rfl⟩
 ·have hb := of_bounds v n hc
  have hF : ofF v n = 2654435761 * v % 4294967296 * n / 4294967296 := by unfold ofF; rw [if_neg hc]
  have HF := hide hF
  have h1 : ¬ v < 0 := by omega
  have h2 : ¬ 512 ≤ v := by omega
  have h3 : ¬ n < 1 := by omega
  have h4 : ¬ 64 < n := by omega
  have h5 : 0 ≤ v := by omega
  have e1 : IntKind.i64.wrap (2654435761 * v) = 2654435761 * v := IntWalk.i64_in _ (by omega)
  have e2 : (2654435761 * v).tmod 4294967296 = 2654435761 * v % 4294967296 := Int.tmod_eq_emod_of_nonneg (by omega)
  obtain ⟨m, hm⟩ : ∃ m, 2654435761 * v % 4294967296 = m := ⟨_, rfl⟩
  rw [hm] at hb HF e2
  have e3 : IntKind.i64.wrap m = m := IntWalk.i64_in _ (by omega)
  obtain ⟨p, hp⟩ : ∃ p, m * n = p := ⟨_, rfl⟩
  have e4 : IntKind.i64.wrap (m * n) = p := by rw [hp]; exact IntWalk.i64_in _ (by rw [hp] at hb; omega)
  rw [hp] at hb HF
  have HP := hide hp
  have HM := hide hm
  have hp0 : 0 ≤ p := hb.2.2.2.2.1
  have hp1 : p < 274877906944 := by omega
  have hm0 : 0 ≤ m := hb.2.2.1
  have hm1 : m < 4294967296 := hb.2.2.2.1
  have e5 : p.tdiv 4294967296 = p / 4294967296 := Int.tdiv_eq_ediv_of_nonneg hp0
  clear hF hc hp hm hb
  go_enter Try.func9, Try.ntmps9
  go_wp2
  go_ret
  exact ⟨ret_n (by rw [HF.out]), rfl⟩
theorem of_val (v n : Int) (hb : 0 ≤ 2654435761 * v % 4294967296 * n / 4294967296 ∧ 2654435761 * v % 4294967296 * n / 4294967296 < n ∧ 0 ≤ 2654435761 * v % 4294967296 ∧ 2654435761 * v % 4294967296 < 4294967296 ∧ 0 ≤ 2654435761 * v % 4294967296 * n ∧ 2654435761 * v % 4294967296 * n < 4294967296 * n) (h7 : n ≤ 64) :
  wrap64 (IntKind.u64.wrap (v * 2654435761 % 4294967296 * n) / 4294967296) = 2654435761 * v % 4294967296 * n / 4294967296 := by
 rw [Int.mul_comm v]
 obtain ⟨p, hp⟩ : ∃ p, 2654435761 * v % 4294967296 * n = p := ⟨_, rfl⟩
 rw [hp] at hb ⊢
 rw [IntWalk.u64_in p (by omega)]
 rw [IntWalk.wrap64_in (p / 4294967296) (by omega)]
theorem of_any (w : World) (v n : Int) : Calls Try.prog 8 #[.int .i64 v, .int .i64 n] w fun e w' => e = .returned (.int .i64 (ofF v n)) ∧ w' = w := by
 by_cases hc : v < 0 ∨ 512 ≤ v ∨ n < 1 ∨ 64 < n
 ·have hF : ofF v n = -1 := by unfold ofF; rw [if_pos hc]
  have HF := hide hF
  clear hF
  by_cases h1 : v < 0
  ·clear hc
   go_enter Try.func8, Try.ntmps8
   go_wp2
   go_ret
   exact ⟨ret_n (by rw [HF.out]), rfl⟩
  ·by_cases h2 : 512 ≤ v
   ·clear hc
    go_enter Try.func8, Try.ntmps8
    go_wp2
    go_ret
    exact ⟨ret_n (by rw [HF.out]), rfl⟩
   ·have hm : mayB n = false := by
     rw [Bool.eq_false_iff]; intro h; have := mayB_iff.1 h; omega
    clear hc
    go_enter Try.func8, Try.ntmps8
    go_wp2_with fail
    refine (may_any _ n).mono ?_
    rintro e w1 ⟨rfl, rfl⟩
    rw [hm]
    go_wp2
    go_ret
    exact ⟨ret_n (by rw [HF.out]), rfl⟩
 ·have hb := of_bounds v n hc
  have hF : ofF v n = 2654435761 * v % 4294967296 * n / 4294967296 := by unfold ofF; rw [if_neg hc]
  have HF := hide hF
  have h1 : ¬ v < 0 := by omega
  have h2 : ¬ 512 ≤ v := by omega
  have h5 : 0 ≤ v := by omega
  have h6 : 0 ≤ n := by omega
  have h7 : n ≤ 64 := by omega
  have hm9 : mayB n = true := mayB_iff.2 (by omega)
  clear hF hc
  go_enter Try.func8, Try.ntmps8
  go_wp2_with fail
  refine (may_any _ n).mono ?_
  rintro e w1 ⟨rfl, rfl⟩
  rw [hm9]
  go_wp2
  go_ret
  exact ⟨ret_n (by rw [HF.out]; exact of_val v n hb h7), rfl⟩
end Go.Proofs.Ytihdpfjonkagaaa
namespace Go.Proofs.Ytihdpfjonkagaaa
open Go.RowKit
theorem efrom_any (w : World) (x y z : Int) : Calls Try.prog 33 #[.agg #[.int .i64 x, .int .i64 y, .int .i64 z]] w fun e w' => e = .returned (.int .i64 x) ∧ Below w.heap.size w w' := by
 have hb : Below w.heap.size w (w.alloc (.cells #[.int .i64 x, .int .i64 y, .int .i64 z] 44)) := (Below.refl _ _).alloc (Nat.le_refl _) _
 go_enter Try.func33, Try.ntmps33
 go_wp2
 go_ret
 exact ⟨rfl, hb⟩
theorem eto_any (w : World) (x y z : Int) : Calls Try.prog 34 #[.agg #[.int .i64 x, .int .i64 y, .int .i64 z]] w fun e w' => e = .returned (.int .i64 y) ∧ Below w.heap.size w w' := by
 have hb : Below w.heap.size w (w.alloc (.cells #[.int .i64 x, .int .i64 y, .int .i64 z] 44)) := (Below.refl _ _).alloc (Nat.le_refl _) _
 go_enter Try.func34, Try.ntmps34
 go_wp2
 go_ret
 exact ⟨rfl, hb⟩
end Go.Proofs.Ytihdpfjonkagaaa
namespace Go.Proofs.Ytihdpfjonkagaaa
open Go.RowKit
theorem plain_any (w : World) (a b c : Int) (x y z : Value) (hx : ∃ A n k, x = .slice A n k) (hy : ∃ A n k, y = .slice A n k) (hz : ∃ A n k, z = .slice A n k) :
  Calls Try.prog 18 #[.agg #[.int .i64 a, .int .i64 b, .int .i64 c, x, y, z]] w fun e w' => e = .returned (.agg #[.int .i64 a, .int .i64 b, .int .i64 c, x, y, z]) ∧ Below w.heap.size w w' := by
 obtain ⟨A1, n1, k1, rfl⟩ := hx
 obtain ⟨A2, n2, k2, rfl⟩ := hy
 obtain ⟨A3, n3, k3, rfl⟩ := hz
 go_enter Try.func18, Try.ntmps18
 go_wp2
 exact bodyPost_ret (v := .agg #[.int .i64 a, .int .i64 b, .int .i64 c, .slice A1 n1 k1, .slice A2 n2 k2, .slice A3 n3 k3]) (by simp [results, Try.results18, go_sem]) rfl ⟨rfl, ((Below.refl _ _).alloc (Nat.le_refl _) _).alloc (by simp) _⟩
end Go.Proofs.Ytihdpfjonkagaaa
namespace Go.Proofs.Ytihdpfjonkagaaa
open Go.RowKit
def idxAt (xs : List Int) (x : Int) (i : Nat) : Int := match (xs.drop i).findIdx? (fun y => decide (x = y)) with
 | none => -1
 | some k => ((i + k : Nat) : Int)
def idxF (xs : List Int) (x : Int) : Int := idxAt xs x 0
theorem idx_end (xs : List Int) (x : Int) : idxAt xs x xs.length = -1 := by simp [idxAt]
theorem idx_hit {xs : List Int} {x : Int} {i : Nat} (h : i < xs.length) (he : x = xs[i]) : idxAt xs x i = (i : Int) := by
 unfold idxAt
 rw [List.drop_eq_getElem_cons h, List.findIdx?_cons, decide_eq_true he]
 rfl
theorem idx_miss {xs : List Int} {x : Int} {i : Nat} (h : i < xs.length) (he : ¬ x = xs[i]) : idxAt xs x i = idxAt xs x (i + 1) := by
 unfold idxAt
 rw [List.drop_eq_getElem_cons h, List.findIdx?_cons, decide_eq_false he]
 cases (xs.drop (i + 1)).findIdx? (fun y => decide (x = y)) with
 | none => rfl
 | some k => show (((i + (k + 1) : Nat)) : Int) = _; congr 1; omega
theorem index_any (w : World) (A : Option Addr) (xs : List Int) (n c : Nat) (x : Int) (hx : xs.length = n) (hn : n ≤ 9223372036854775807) (rx : Rd w w.heap.size A (xs.map (Value.int .i64))) :
  Calls Try.prog 44 #[.slice A n c, .int .i64 x] w fun e w' => e = .returned (.int .i64 (idxF xs x)) ∧ w' = w := by
 have HX := hide hx
 have RX := hide rx
 clear hx rx
 go_enter Try.func44, Try.ntmps44
 go_wp2
 go_loop [8] (fun vi => ∃ i : Nat, i ≤ n ∧ vi = .int .i64 i ∧ Hid (idxF xs x = idxAt xs x i)) (fun vi => n - (intOf vi).toNat)
 case atStart => exact ⟨0, by omega, rfl, hide rfl⟩
 case round =>
  obtain ⟨i, hi, rfl, heq⟩ := hrel
  by_cases hlt : i < n
  ·have hi1 : i < xs.length := by rw [HX.out]; exact hlt
   obtain ⟨b1, o1, rfl, l1, _⟩ := RX.out.at_ (k := i) (by rw [List.length_map]; exact hi1)
   have cx : w.cell? ⟨b1, o1 + i, none⟩ = some (.int .i64 xs[i]) := RX.out.cell (by rw [List.getElem?_map, List.getElem?_eq_getElem hi1]; rfl)
   have HH : Hid (x = xs[i] → idxF xs x = (i : Int)) := hide (fun h => by rw [heq.out, idx_hit hi1 h])
   have HM : Hid (¬ x = xs[i] → idxF xs x = idxAt xs x (i + 1)) := hide (fun h => by rw [heq.out, idx_miss hi1 h])
   obtain ⟨y, hy⟩ : ∃ y, xs[i] = y := ⟨_, rfl⟩
   rw [hy] at cx HH HM
   have hI0 : (0 : Int) ≤ (i : Int) := by omega
   have hI1 : (i : Int) < (n : Int) := by omega
   clear hy hi1
   by_cases hxy : x = y
   ·have HR := hide (HH.out hxy)
    subst hxy
    go_wp2
    go_ret
    exact ⟨ret_n (by rw [HR.out]), rfl⟩
   ·have HR := hide (HM.out hxy)
    go_wp2
    go_round
    case rel => exact ⟨i + 1, by omega, by go_num, HR⟩
    case measure => simp [intOf]; omega
  ·obtain rfl : i = n := by omega
   have HR : Hid (idxF xs x = -1) := hide (by rw [heq.out, ← HX.out, idx_end])
   go_wp2
   go_ret
   exact ⟨ret_n (by rw [HR.out]), rfl⟩
theorem place_any (w : World) (a b c : Int) (A O B : Option Addr) (xs : List Int) (n m on oc bn bc : Nat) (x : Int) (hx : xs.length = n) (hn : n ≤ 9223372036854775807) (rx : Rd w w.heap.size A (xs.map (Value.int .i64))) :
  Calls Try.prog 25 #[.agg #[.int .i64 a, .int .i64 b, .int .i64 c, .slice A n m, .slice O on oc, .slice B bn bc], .int .i64 x] w fun e w' => e = .returned (.int .i64 (idxF xs x)) ∧ Below w.heap.size w w' := by
 obtain ⟨v, hv⟩ : ∃ v, w.alloc (.cells #[.int .i64 a, .int .i64 b, .int .i64 c, .slice A n m, .slice O on oc, .slice B bn bc] 34) = v := ⟨_, rfl⟩
 have hb : Below w.heap.size w v := by rw [← hv]; exact (Below.refl _ _).alloc (Nat.le_refl _) _
 have HV := hide hv
 have HB := hide hb
 have RX := hide ((rx.below hb).more hb.size)
 clear hv hb rx
 go_enter Try.func25, Try.ntmps25
 go_wp2_with fail
 rw [HV.out]
 refine (index_any _ A xs n m x hx hn RX.out).mono ?_
 rintro e y ⟨rfl, rfl⟩
 go_wp2
 go_ret
 exact ⟨rfl, HB.out⟩
end Go.Proofs.Ytihdpfjonkagaaa
namespace Go.Proofs.Ytihdpfjonkagaaa
open Go.RowKit
theorem light_any (w : World) (V : Int) (A : Option Addr) (L c : Nat) (t : Int) : Calls Try.prog 14 #[.agg #[.int .i64 V, .slice A L c], .int .i64 t] w fun e w' => e = .returned (.bool (decide ((L : Int) ≤ t))) ∧ Below w.heap.size w w' := by
 have hb : Below w.heap.size w (w.alloc (.cells #[.int .i64 V, .slice A L c] 30)) := (Below.refl _ _).alloc (Nat.le_refl _) _
 go_enter Try.func14, Try.ntmps14
 go_wp2
 go_ret
 exact ⟨rfl, hb⟩
end Go.Proofs.Ytihdpfjonkagaaa
