/- The walk of the statement LabelKnown. (printed by gen/lkn.py) -/
import Derived.Test.YtelacdhlgeedmaaLlw
import Derived.Test.YtelacdhlgeedmaaLnw
import Derived.Test.YtelacdhlgeedmaaEml
namespace Go.Proofs.Ytelacdhlgeedmaa
open Go.ChangeShapes Go.WideShapes Go.ChangeAt Go.RowKit
set_option linter.unusedVariables false
set_option linter.unusedSimpArgs false
theorem wf64 {x : Int} (h1 : -9223372036854775808 ≤ x) (h2 : x ≤ 9223372036854775807) : (Lit.int .i64 x).wf = true := by
  simp [Lit.wf, IntKind.min, IntKind.max, IntKind.signed, IntKind.bits]
  omega
theorem marks4 (w : World) (a b c d : Int) (ha : -10000 ≤ a ∧ a ≤ 10000) (hb : -10000 ≤ b ∧ b ≤ 10000) (hc : -10000 ≤ c ∧ c ≤ 10000) (hd : -10000 ≤ d ∧ d ≤ 10000) :
    Calls Try.prog 5 #[.slice (some ⟨w.heap.size, 0, none⟩) 4 4] (w.alloc (.cells #[.int .i64 a, .int .i64 b, .int .i64 c, .int .i64 d] 2)) fun e w' => e = .returned (.bool true) ∧ Below w.heap.size w w' := by
  have h := labelMarks_walk (w.alloc (.cells #[.int .i64 a, .int .i64 b, .int .i64 c, .int .i64 d] 2)) (some ⟨w.heap.size, 0, none⟩) [a, b, c, d] 4 ((Rd.new w #[.int .i64 a, .int .i64 b, .int .i64 c, .int .i64 d] 2 (0, 0)).more (by simp)) (fun x hx => by
    simp only [List.mem_cons, List.not_mem_nil, or_false] at hx
    rcases hx with rfl | rfl | rfl | rfl <;> exact wf64 (by omega) (by omega))
  refine h.mono fun e w' g => ⟨g.1, ((Below.refl w.heap.size w).alloc (Nat.le_refl _) _).trans (g.2.mono (by simp))⟩
theorem marks0 (w : World) : Calls Try.prog 5 #[.slice none 0 0] w fun e w' => e = .returned (.bool true) ∧ Below w.heap.size w w' :=
  labelMarks_walk w none [] 0 Rd.nil_ (fun x hx => by cases hx)
def six : List Int := [0, 1, 5, -1, 9223372036854775807, -9223372036854775808]
theorem six_bound (k : Nat) : -9223372036854775808 ≤ atI six (k : Int) ∧ atI six (k : Int) ≤ 9223372036854775807 := by
  unfold atI
  rw [Int.toNat_natCast]
  rcases k with _ | _ | _ | _ | _ | _ | k <;> simp [six]
theorem Eds.cut {w : World} {B b off : Nat} {es : List Ed} (h : Eds w B (some ⟨b, off, none⟩) es) (k : Nat) : Eds w B (some ⟨b, off + k * 3, none⟩) (es.drop k) := fun hn => by
  obtain ⟨b', off', e, hb, hc⟩ := h (fun e => hn (by rw [e]; simp))
  injection e with e
  injection e with e1 e2
  subst e1 e2
  refine ⟨b, off + k * 3, rfl, hb, fun i x hx => ?_⟩
  rw [List.getElem?_drop] at hx
  obtain ⟨cs, h1, h2, h3⟩ := hc (k + i) x hx
  exact ⟨cs, h1, h2, fun j u hu => by rw [← h3 j u hu]; congr 2; omega⟩
theorem Eds.take_ {w : World} {B : Nat} {A : Option Addr} {es : List Ed} (h : Eds w B A es) (k : Nat) : Eds w B A (es.take k) := fun hn => by
  obtain ⟨b, off, rfl, hb, hc⟩ := h (fun e => hn (by rw [e]; simp))
  refine ⟨b, off, rfl, hb, fun i x hx => hc i x ?_⟩
  rw [List.getElem?_take] at hx
  split at hx
  · exact hx
  · cases hx
theorem near_t (w : World) (v : Int) (hv : -100 ≤ v ∧ v ≤ 100) (A1 A2 : Option Addr) (outs backs : List Ed) (n1 c1 n2 c2 : Nat) (h1 : outs.length = n1) (h2 : backs.length = n2) (e1 : Eds w w.heap.size A1 outs) (e2 : Eds w w.heap.size A2 backs) (k1 : n1 ≤ c1) (k2 : n2 ≤ c2) (m1 : c1 ≤ 9223372036854775807) (m2 : c2 ≤ 9223372036854775807) (b1 : ∀ e ∈ outs, edB e) (b2 : ∀ e ∈ backs, edB e) :
    Calls Try.prog 3 #[.int .i64 v, .slice A1 n1 c1, .slice A2 n2 c2] w fun e w' => e = .returned (.bool true) ∧ Below w.heap.size w w' := by
  subst h1 h2
  exact labelNear_walk w v (by omega) (by omega) A1 outs c1 e1 k1 m1 b1 A2 backs c2 e2 k2 m2 b2
theorem mill_edB : ∀ e ∈ millE, edB e := by
  intro e he
  simp only [millE, List.mem_cons, List.not_mem_nil, or_false] at he
  rcases he with rfl | rfl | rfl | rfl | rfl <;> simp [edB]
set_option maxRecDepth 100000 in
set_option maxHeartbeats 4000000 in
theorem labelKnown_walk (w : World) : Calls Try.prog 6 #[] w fun e w' => e = .returned (.bool true) ∧ Below w.heap.size w w' := by
  go_enter Try.func6, Try.ntmps6
  go_wp2
  go_loopw [1] (fun v1 wr => ∃ i : Nat, i ≤ 1296 ∧ v1 = .int .i64 i ∧ Below w.heap.size w wr) (fun v1 _ => 1296 - (intOf v1).toNat)
  case atStart => exact ⟨0, by omega, rfl, Below.refl _ _⟩
  case round =>
    obtain ⟨i, hi, rfl, hbw⟩ := hrel
    by_cases hlt : i < 1296
    · have h1 : (i : Int) < 1296 := by omega
      have h0 : (0 : Int) ≤ (i : Int) := by omega
      have HBW := hide hbw
      clear hbw
      go_wp2_with fail
      refine (marks4 _ _ _ _ _ (by omega) (by omega) (by omega) (by omega)).mono ?_
      rintro e y ⟨rfl, k⟩
      have K := HBW.out.trans (k.mono HBW.out.size)
      clear k
      go_wp2
      go_roundw
      case rel => exact ⟨i + 1, by omega, by go_num, K⟩
      case measure => simp [intOf]; omega
    · obtain rfl : i = 1296 := by omega
      rw [show ((1296 : Nat) : Int) = 1296 from rfl]
      have HBW := hide hbw
      clear hbw
      go_wp2
      obtain ⟨u, hu⟩ : ∃ u, wr.alloc (.cells #[.int .i64 0, .int .i64 1, .int .i64 5, .int .i64 (-1), .int .i64 9223372036854775807, .int .i64 (-9223372036854775808)] 2) = u := ⟨_, rfl⟩
      have hzu : u.heap.size = wr.heap.size + 1 := by rw [← hu]; simp
      have hbu : Below wr.heap.size wr u := by rw [← hu]; exact (Below.refl _ _).alloc (Nat.le_refl _) _
      have HC : Hid (∀ k : Nat, k < 6 → u.cell? ⟨wr.heap.size, k, none⟩ = some (.int .i64 (atI six (k : Int)))) := hide (fun k hk => by
        have h := rd_at (vals := six) (b := wr.heap.size) (off := 0) (k := k) (by have h := Rd.new wr #[.int .i64 0, .int .i64 1, .int .i64 5, .int .i64 (-1), .int .i64 9223372036854775807, .int .i64 (-9223372036854775808)] 2 (0, 0); rw [hu] at h; exact h) hk
        rw [Nat.zero_add] at h
        exact h)
      have HU := hide hu
      have HBU := hide (HBW.out.trans (hbu.mono HBW.out.size))
      have hlG : wr.heap.size < u.heap.size := by omega
      obtain ⟨G, hG⟩ : ∃ G, wr.heap.size = G := ⟨_, rfl⟩
      first | rw [HU.out] | skip
      rw [hG] at HC hlG ⊢
      clear hu hzu hbu hG
      go_loopw [3] (fun v3 wr => ∃ i : Nat, i ≤ 6 ∧ v3 = .int .i64 i ∧ Hid (Kept u wr) ∧ Hid (Below w.heap.size w wr) ∧ u.heap.size ≤ wr.heap.size) (fun v3 _ => 6 - (intOf v3).toNat)
      case atStart => exact ⟨0, by omega, rfl, hide (Kept.refl u), HBU, Nat.le_refl _⟩
      case round =>
        clear HBW
        obtain ⟨i, hi, rfl, hk1, hb1, hs1⟩ := hrel
        by_cases hlt2 : i < 6
        · have hi1 : (i : Int) < 6 := by omega
          go_wp2
          go_loopw [4] (fun v4 wr => ∃ k : Nat, k ≤ 6 ∧ v4 = .int .i64 k ∧ Hid (Kept u wr) ∧ Hid (Below w.heap.size w wr) ∧ u.heap.size ≤ wr.heap.size) (fun v4 _ => 6 - (intOf v4).toNat)
          case atStart => exact ⟨0, by omega, rfl, hk1, hb1, hs1⟩
          case round =>
            clear hk1 hb1 hs1
            obtain ⟨k, hk, rfl, hk1, hb1, hs1⟩ := hrel
            by_cases hlt3 : k < 6
            · have hk2 : (k : Int) < 6 := by omega
              have hi0 : (0 : Int) ≤ (i : Int) := by omega
              have hk0 : (0 : Int) ≤ (k : Int) := by omega
              have ci := HC.out i hlt2
              have ck := HC.out k hlt3
              obtain ⟨q, hq⟩ : ∃ q, (i + k) % 6 = q := ⟨_, rfl⟩
              have hq6 : q < 6 := by omega
              have cq := HC.out q hq6
              have hqI : ((i : Int) + (k : Int)) % 6 = (q : Int) := by omega
              have hqT : ((i : Int) + (k : Int)).tmod 6 = (q : Int) := by rw [Int.tmod_eq_emod_of_nonneg (by omega)]; exact hqI
              have e0 : IntKind.i64.wrap ((i : Int) + (k : Int)) = (i : Int) + (k : Int) := IntWalk.i64_in _ (by omega)
              have e1 : IntKind.i64.wrap (q : Int) = (q : Int) := IntWalk.i64_in _ (by omega)
              have e2 : (k : Int).tmod 2 = (k : Int) % 2 := Int.tmod_eq_emod_of_nonneg (by omega)
              have e3 : IntKind.i64.wrap ((k : Int) % 2) = (k : Int) % 2 := IntWalk.i64_in _ (by omega)
              have hq0 : (0 : Int) ≤ (q : Int) := by omega
              have hq7 : (q : Int) < 6 := by omega
              have bi := six_bound i
              have bk := six_bound k
              have bq := six_bound q
              obtain ⟨xi, hxi⟩ : ∃ x, atI six (i : Int) = x := ⟨_, rfl⟩
              obtain ⟨xk, hxk⟩ : ∃ x, atI six (k : Int) = x := ⟨_, rfl⟩
              obtain ⟨xq, hxq⟩ : ∃ x, atI six (q : Int) = x := ⟨_, rfl⟩
              rw [hxi] at ci bi
              rw [hxk] at ck bk
              rw [hxq] at cq bq
              obtain ⟨par, hpar⟩ : ∃ par, ((k : Int) % 2 == 0) = par := ⟨_, rfl⟩
              have HQ := hide hqI
              have hS00 : Hid (Kept u wr.drew) := hide (fun p hp => hk1.out p hp)
              clear hxi hxk hxq hq hqI
              go_wp2
              refine wp_region_held_drew (S := Kept u) (by kernel_rfl) hS00.out (fun hS0 => ?_)
              refine take_at (i := 0) (d := 41) (v := ?_) (by simp only [List.getElem?_toArray, List.getElem?_cons_succ, List.getElem?_cons_zero]; rfl) rfl (by kernel_rfl) (by kernel_rfl) (by kernel_rfl) (fun _ _ _ h => h) rfl ?_ (by assumption) ?_
              rotate_left
              focus (intro w hSw; go_simp; (try with_reducible rfl); done)
              try simp only [List.setIfInBounds_toArray, List.set_cons_zero, List.set_cons_succ]
              refine take_at (i := 1) (d := 42) (v := ?_) (by simp only [List.getElem?_toArray, List.getElem?_cons_succ, List.getElem?_cons_zero]; rfl) rfl (by kernel_rfl) (by kernel_rfl) (by kernel_rfl) (fun _ _ _ h => h) rfl ?_ (by assumption) ?_
              rotate_left
              focus (intro w hSw; go_simp; (try with_reducible rfl); done)
              try simp only [List.setIfInBounds_toArray, List.set_cons_zero, List.set_cons_succ]
              refine take_at (i := 2) (d := 43) (v := ?_) (by simp only [List.getElem?_toArray, List.getElem?_cons_succ, List.getElem?_cons_zero]; rfl) rfl (by kernel_rfl) (by kernel_rfl) (by kernel_rfl) (fun _ _ _ h => h) rfl ?_ (by assumption) ?_
              rotate_left
              focus (intro w hSw; go_simp; (try with_reducible rfl); done)
              try simp only [List.setIfInBounds_toArray, List.set_cons_zero, List.set_cons_succ]
              refine take_at (i := 3) (d := 44) (v := ?_) (by simp only [List.getElem?_toArray, List.getElem?_cons_succ, List.getElem?_cons_zero]; rfl) rfl (by kernel_rfl) (by kernel_rfl) (by kernel_rfl) (fun _ _ _ h => h) rfl ?_ (by assumption) ?_
              rotate_left
              focus (intro w hSw; go_simp; (try with_reducible rfl); done)
              try simp only [List.setIfInBounds_toArray, List.set_cons_zero, List.set_cons_succ]
              refine take_at (i := 4) (d := 45) (v := ?_) (by simp only [List.getElem?_toArray, List.getElem?_cons_succ, List.getElem?_cons_zero]; rfl) rfl (by kernel_rfl) (by kernel_rfl) (by kernel_rfl) (fun _ _ _ h => h) rfl ?_ (by assumption) ?_
              rotate_left
              focus (intro w hSw; go_simp; (try with_reducible rfl); done)
              try simp only [List.setIfInBounds_toArray, List.set_cons_zero, List.set_cons_succ]
              refine take_at (i := 5) (d := 46) (v := ?_) (by simp only [List.getElem?_toArray, List.getElem?_cons_succ, List.getElem?_cons_zero]; rfl) rfl (by kernel_rfl) (by kernel_rfl) (by kernel_rfl) (fun _ _ _ h => h) rfl ?_ (by assumption) ?_
              rotate_left
              focus (intro w hSw; go_simp; (try with_reducible rfl); done)
              try simp only [List.setIfInBounds_toArray, List.set_cons_zero, List.set_cons_succ]
              refine take_at (i := 6) (d := 47) (v := ?_) (by simp only [List.getElem?_toArray, List.getElem?_cons_succ, List.getElem?_cons_zero]; rfl) rfl (by kernel_rfl) (by kernel_rfl) (by kernel_rfl) (fun _ _ _ h => h) rfl ?_ (by assumption) ?_
              rotate_left
              focus (intro w hSw; go_simp; (try with_reducible rfl); done)
              try simp only [List.setIfInBounds_toArray, List.set_cons_zero, List.set_cons_succ]
              refine take_at (i := 7) (d := 48) (v := ?_) (by simp only [List.getElem?_toArray, List.getElem?_cons_succ, List.getElem?_cons_zero]; rfl) rfl (by kernel_rfl) (by kernel_rfl) (by kernel_rfl) (fun _ _ _ h => h) rfl ?_ (by assumption) ?_
              rotate_left
              focus (intro w hSw; go_simp; (try with_reducible rfl); done)
              try simp only [List.setIfInBounds_toArray, List.set_cons_zero, List.set_cons_succ]
              refine take_at (i := 8) (d := 49) (v := ?_) (by simp only [List.getElem?_toArray, List.getElem?_cons_succ, List.getElem?_cons_zero]; rfl) rfl (by kernel_rfl) (by kernel_rfl) (by kernel_rfl) (fun _ _ _ h => h) rfl ?_ (by assumption) ?_
              rotate_left
              focus (intro w hSw; go_simp; (try with_reducible rfl); done)
              try simp only [List.setIfInBounds_toArray, List.set_cons_zero, List.set_cons_succ]
              refine take_at (i := 9) (d := 50) (v := ?_) (by simp only [List.getElem?_toArray, List.getElem?_cons_succ, List.getElem?_cons_zero]; rfl) rfl (by kernel_rfl) (by kernel_rfl) (by kernel_rfl) (fun _ _ _ h => h) rfl ?_ (by assumption) ?_
              rotate_left
              focus (intro w hSw; go_simp; (try with_reducible rfl); done)
              try simp only [List.setIfInBounds_toArray, List.set_cons_zero, List.set_cons_succ]
              refine take_at (i := 10) (d := 51) (v := ?_) (by simp only [List.getElem?_toArray, List.getElem?_cons_succ, List.getElem?_cons_zero]; rfl) rfl (by kernel_rfl) (by kernel_rfl) (by kernel_rfl) (fun _ _ _ h => h) rfl ?_ (by assumption) ?_
              rotate_left
              focus (intro w hSw; go_simp; (try with_reducible rfl); done)
              try simp only [List.setIfInBounds_toArray, List.set_cons_zero, List.set_cons_succ]
              refine take_at (i := 11) (d := 52) (v := ?_) (by simp only [List.getElem?_toArray, List.getElem?_cons_succ, List.getElem?_cons_zero]; rfl) rfl (by kernel_rfl) (by kernel_rfl) (by kernel_rfl) (fun _ _ _ h => h) rfl ?_ (by assumption) ?_
              rotate_left
              focus (intro w hSw; go_simp; (try with_reducible rfl); done)
              try simp only [List.setIfInBounds_toArray, List.set_cons_zero, List.set_cons_succ]
              refine take_at (i := 12) (d := 53) (v := ?_) (by simp only [List.getElem?_toArray, List.getElem?_cons_succ, List.getElem?_cons_zero]; rfl) rfl (by kernel_rfl) (by kernel_rfl) (by kernel_rfl) (fun _ _ _ h => h) rfl ?_ (by assumption) ?_
              rotate_left
              focus (intro w hSw; go_simp; (try with_reducible rfl); done)
              try simp only [List.setIfInBounds_toArray, List.set_cons_zero, List.set_cons_succ]
              refine take_at (i := 13) (d := 54) (v := ?_) (by simp only [List.getElem?_toArray, List.getElem?_cons_succ, List.getElem?_cons_zero]; rfl) rfl (by kernel_rfl) (by kernel_rfl) (by kernel_rfl) (fun _ _ _ h => h) rfl ?_ (by assumption) ?_
              rotate_left
              focus (intro w hSw; go_simp; (try with_reducible rfl); done)
              try simp only [List.setIfInBounds_toArray, List.set_cons_zero, List.set_cons_succ]
              refine take_at (i := 14) (d := 55) (v := ?_) (by simp only [List.getElem?_toArray, List.getElem?_cons_succ, List.getElem?_cons_zero]; rfl) rfl (by kernel_rfl) (by kernel_rfl) (by kernel_rfl) (fun _ _ _ h => h) rfl ?_ (by assumption) ?_
              rotate_left
              focus (intro w hSw; go_simp; (try with_reducible rfl); done)
              try simp only [List.setIfInBounds_toArray, List.set_cons_zero, List.set_cons_succ]
              refine take_at (i := 15) (d := 56) (v := ?_) (by simp only [List.getElem?_toArray, List.getElem?_cons_succ, List.getElem?_cons_zero]; rfl) rfl (by kernel_rfl) (by kernel_rfl) (by kernel_rfl) (fun _ _ _ h => h) rfl ?_ (by assumption) ?_
              rotate_left
              focus (intro w hSw; go_simp; (try with_reducible rfl); done)
              try simp only [List.setIfInBounds_toArray, List.set_cons_zero, List.set_cons_succ]
              refine take_at (i := 16) (d := 57) (v := ?_) (by simp only [List.getElem?_toArray, List.getElem?_cons_succ, List.getElem?_cons_zero]; rfl) rfl (by kernel_rfl) (by kernel_rfl) (by kernel_rfl) (fun _ _ _ h => h) rfl ?_ (by assumption) ?_
              rotate_left
              focus (intro w hSw; go_simp; (try with_reducible rfl); done)
              try simp only [List.setIfInBounds_toArray, List.set_cons_zero, List.set_cons_succ]
              refine take_at (i := 17) (d := 58) (v := ?_) (by simp only [List.getElem?_toArray, List.getElem?_cons_succ, List.getElem?_cons_zero]; rfl) rfl (by kernel_rfl) (by kernel_rfl) (by kernel_rfl) (fun _ _ _ h => h) rfl ?_ (by assumption) ?_
              rotate_left
              focus (intro w hSw; go_simp; (try with_reducible rfl); done)
              try simp only [List.setIfInBounds_toArray, List.set_cons_zero, List.set_cons_succ]
              refine take_at (i := 18) (d := 59) (v := ?_) (by simp only [List.getElem?_toArray, List.getElem?_cons_succ, List.getElem?_cons_zero]; rfl) rfl (by kernel_rfl) (by kernel_rfl) (by kernel_rfl) (fun _ _ _ h => h) rfl ?_ (by assumption) ?_
              rotate_left
              focus (intro w hSw; go_simp; (try with_reducible rfl); done)
              try simp only [List.setIfInBounds_toArray, List.set_cons_zero, List.set_cons_succ]
              refine take_at (i := 19) (d := 60) (v := ?_) (by simp only [List.getElem?_toArray, List.getElem?_cons_succ, List.getElem?_cons_zero]; rfl) rfl (by kernel_rfl) (by kernel_rfl) (by kernel_rfl) (fun _ _ _ h => h) rfl ?_ (by assumption) ?_
              rotate_left
              focus (intro w hSw; go_simp; (try with_reducible rfl); done)
              try simp only [List.setIfInBounds_toArray, List.set_cons_zero, List.set_cons_succ]
              refine call_at (i := 20) (d := 61) (by simp only [List.getElem?_toArray, List.getElem?_cons_succ, List.getElem?_cons_zero]; rfl) rfl (by kernel_rfl) rfl (fun K hK => ?_)
              go_simp
              refine (labelTake_walk _ xi bi.1 bi.2 true xk bk.1 bk.2 par xq bq.1 bq.2).mono ?_
              rintro e z1 ⟨rfl, b1⟩
              have hS1 : Kept u z1 := hS0.below (by first | (simp; done) | (simp; omega)) b1
              have K1 := hide b1
              clear b1
              go_wp2_with fail
              refine hK.out _ _ hS1 (fun hSn => ?_)
              clear hK K
              try simp only [List.setIfInBounds_toArray, List.set_cons_zero, List.set_cons_succ]
              refine take_at (i := 21) (d := 62) (v := ?_) (by simp only [List.getElem?_toArray, List.getElem?_cons_succ, List.getElem?_cons_zero]; rfl) rfl (by kernel_rfl) (by kernel_rfl) (by kernel_rfl) (fun _ _ _ h => h) rfl ?_ (by assumption) ?_
              rotate_left
              focus (intro w hSw; go_simp; (try with_reducible rfl); done)
              try simp only [List.setIfInBounds_toArray, List.set_cons_zero, List.set_cons_succ]
              refine take_at (i := 22) (d := 63) (v := ?_) (by simp only [List.getElem?_toArray, List.getElem?_cons_succ, List.getElem?_cons_zero]; rfl) rfl (by kernel_rfl) (by kernel_rfl) (by kernel_rfl) (fun _ _ _ h => h) rfl ?_ (by assumption) ?_
              rotate_left
              focus (intro w hSw; go_simp; (try with_reducible rfl); done)
              try simp only [List.setIfInBounds_toArray, List.set_cons_zero, List.set_cons_succ]
              refine take_at (i := 23) (d := 64) (v := ?_) (by simp only [List.getElem?_toArray, List.getElem?_cons_succ, List.getElem?_cons_zero]; rfl) rfl (by kernel_rfl) (by kernel_rfl) (by kernel_rfl) (fun _ _ _ h => h) rfl ?_ (by assumption) ?_
              rotate_left
              focus (intro w hSw; go_simp; (try with_reducible rfl); done)
              try simp only [List.setIfInBounds_toArray, List.set_cons_zero, List.set_cons_succ]
              refine take_at (i := 24) (d := 65) (v := ?_) (by simp only [List.getElem?_toArray, List.getElem?_cons_succ, List.getElem?_cons_zero]; rfl) rfl (by kernel_rfl) (by kernel_rfl) (by kernel_rfl) (fun _ _ _ h => h) rfl ?_ (by assumption) ?_
              rotate_left
              focus (intro w hSw; go_simp; (try with_reducible rfl); done)
              try simp only [List.setIfInBounds_toArray, List.set_cons_zero, List.set_cons_succ]
              refine take_at (i := 25) (d := 66) (v := ?_) (by simp only [List.getElem?_toArray, List.getElem?_cons_succ, List.getElem?_cons_zero]; rfl) rfl (by kernel_rfl) (by kernel_rfl) (by kernel_rfl) (fun _ _ _ h => h) rfl ?_ (by assumption) ?_
              rotate_left
              focus (intro w hSw; go_simp; (try with_reducible rfl); done)
              try simp only [List.setIfInBounds_toArray, List.set_cons_zero, List.set_cons_succ]
              refine take_at (i := 26) (d := 67) (v := ?_) (by simp only [List.getElem?_toArray, List.getElem?_cons_succ, List.getElem?_cons_zero]; rfl) rfl (by kernel_rfl) (by kernel_rfl) (by kernel_rfl) (fun _ _ _ h => h) rfl ?_ (by assumption) ?_
              rotate_left
              focus (intro w hSw; go_simp; (try with_reducible rfl); done)
              try simp only [List.setIfInBounds_toArray, List.set_cons_zero, List.set_cons_succ]
              refine take_at (i := 27) (d := 68) (v := ?_) (by simp only [List.getElem?_toArray, List.getElem?_cons_succ, List.getElem?_cons_zero]; rfl) rfl (by kernel_rfl) (by kernel_rfl) (by kernel_rfl) (fun _ _ _ h => h) rfl ?_ (by assumption) ?_
              rotate_left
              focus (intro w hSw; go_simp; (try with_reducible rfl); done)
              try simp only [List.setIfInBounds_toArray, List.set_cons_zero, List.set_cons_succ]
              refine take_at (i := 28) (d := 69) (v := ?_) (by simp only [List.getElem?_toArray, List.getElem?_cons_succ, List.getElem?_cons_zero]; rfl) rfl (by kernel_rfl) (by kernel_rfl) (by kernel_rfl) (fun _ _ _ h => h) rfl ?_ (by assumption) ?_
              rotate_left
              focus (intro w hSw; go_simp; (try with_reducible rfl); done)
              try simp only [List.setIfInBounds_toArray, List.set_cons_zero, List.set_cons_succ]
              refine take_at (i := 29) (d := 70) (v := ?_) (by simp only [List.getElem?_toArray, List.getElem?_cons_succ, List.getElem?_cons_zero]; rfl) rfl (by kernel_rfl) (by kernel_rfl) (by kernel_rfl) (fun _ _ _ h => h) rfl ?_ (by assumption) ?_
              rotate_left
              focus (intro w hSw; go_simp; (try with_reducible rfl); done)
              try simp only [List.setIfInBounds_toArray, List.set_cons_zero, List.set_cons_succ]
              refine take_at (i := 30) (d := 71) (v := ?_) (by simp only [List.getElem?_toArray, List.getElem?_cons_succ, List.getElem?_cons_zero]; rfl) rfl (by kernel_rfl) (by kernel_rfl) (by kernel_rfl) (fun _ _ _ h => h) rfl ?_ (by assumption) ?_
              rotate_left
              focus (intro w hSw; go_simp; (try with_reducible rfl); done)
              try simp only [List.setIfInBounds_toArray, List.set_cons_zero, List.set_cons_succ]
              refine take_at (i := 31) (d := 72) (v := ?_) (by simp only [List.getElem?_toArray, List.getElem?_cons_succ, List.getElem?_cons_zero]; rfl) rfl (by kernel_rfl) (by kernel_rfl) (by kernel_rfl) (fun _ _ _ h => h) rfl ?_ (by assumption) ?_
              rotate_left
              focus (intro w hSw; go_simp; (try with_reducible rfl); done)
              try simp only [List.setIfInBounds_toArray, List.set_cons_zero, List.set_cons_succ]
              refine take_at (i := 32) (d := 73) (v := ?_) (by simp only [List.getElem?_toArray, List.getElem?_cons_succ, List.getElem?_cons_zero]; rfl) rfl (by kernel_rfl) (by kernel_rfl) (by kernel_rfl) (fun _ _ _ h => h) rfl ?_ (by assumption) ?_
              rotate_left
              focus (intro w hSw; go_simp; (try with_reducible rfl); done)
              try simp only [List.setIfInBounds_toArray, List.set_cons_zero, List.set_cons_succ]
              refine call_at (i := 33) (d := 74) (by simp only [List.getElem?_toArray, List.getElem?_cons_succ, List.getElem?_cons_zero]; rfl) rfl (by kernel_rfl) rfl (fun K hK => ?_)
              go_simp
              refine (labelTake_walk _ xi bi.1 bi.2 false xk bk.1 bk.2 false 0 (by decide) (by decide)).mono ?_
              rintro e z2 ⟨rfl, b2⟩
              have hS2 : Kept u z2 := hS1.below (by have := K1.out.size; simp at this; omega) b2
              have K2 := hide (K1.out.trans (b2.mono K1.out.size))
              clear b2
              go_wp2_with fail
              refine hK.out _ _ hS2 (fun hSn => ?_)
              clear hK K
              try simp only [List.setIfInBounds_toArray, List.set_cons_zero, List.set_cons_succ]
              refine take_at (i := 34) (d := 75) (v := ?_) (by simp only [List.getElem?_toArray, List.getElem?_cons_succ, List.getElem?_cons_zero]; rfl) rfl (by kernel_rfl) (by kernel_rfl) (by kernel_rfl) (fun _ _ _ h => h) rfl ?_ (by assumption) ?_
              rotate_left
              focus (intro w hSw; go_simp; (try with_reducible rfl); done)
              try simp only [List.setIfInBounds_toArray, List.set_cons_zero, List.set_cons_succ]
              refine take_at (i := 35) (d := 76) (v := ?_) (by simp only [List.getElem?_toArray, List.getElem?_cons_succ, List.getElem?_cons_zero]; rfl) rfl (by kernel_rfl) (by kernel_rfl) (by kernel_rfl) (fun _ _ _ h => h) rfl ?_ (by assumption) ?_
              rotate_left
              focus (intro w hSw; go_simp; (try with_reducible rfl); done)
              try simp only [List.setIfInBounds_toArray, List.set_cons_zero, List.set_cons_succ]
              refine wpAnyH_done (by kernel_rfl) ?_ _
              clear hS0 hSn hS1 hS2
              have hgo := hide (hb1.out.drew.trans (K2.out.mono hb1.out.drew.size))
              have hkk : Hid (Kept u z2) := hide (hk1.out.below hs1 (below_undrew K2.out))
              have hss : u.heap.size ≤ z2.heap.size := by have := K2.out.size; simp at this; omega
              go_wp2
              go_roundw
              case rel => exact ⟨k + 1, by omega, by go_num, hkk, hgo, hss⟩
              case measure => simp [intOf]; omega
            · obtain rfl : k = 6 := by omega
              go_wp2
              go_roundw
              case rel => exact ⟨i + 1, by omega, by go_num, hk1, hb1, hs1⟩
              case measure => simp [intOf]; omega
        · obtain rfl : i = 6 := by omega
          rw [show ((6 : Nat) : Int) = 6 from rfl]
          go_wp2_with fail
          refine (mill_any _).mono ?_
          rintro e y ⟨A, c, rfl, hE, hlc, hcm, k1⟩
          have HB1 := hide (hb1.out.trans (k1.mono hb1.out.size))
          rw [show millE.length = 5 from rfl] at hlc ⊢
          obtain ⟨b, off, rfl, hbl⟩ := Els.at_ hE (i := 0) (by decide)
          obtain ⟨t, ht⟩ : ∃ t, y.alloc (.cells #[.int .i64 6, .slice (some ⟨b, off, none⟩) 5 c] 39) = t := ⟨_, rfl⟩
          have hbt : Below y.heap.size y t := by rw [← ht]; exact (Below.refl _ _).alloc (Nat.le_refl _) _
          have ct : t.heap[y.heap.size]? = some (.cells #[.int .i64 6, .slice (some ⟨b, off, none⟩) 5 c] 39) := by rw [← ht]; exact heap_alloc_last y _
          have ct1 : t.cell? ⟨y.heap.size, 1, none⟩ = some (.slice (some ⟨b, off, none⟩) 5 c) := cell_of_row _ _ 1 _ _ _ ct
          have hlt9 : y.heap.size < t.heap.size := lt_of_block ct
          have ET : Hid (Eds t t.heap.size (some ⟨b, off, none⟩) millE) := hide (Eds.next hE hbt)
          have HB2 := hide (HB1.out.trans (hbt.mono HB1.out.size))
          have HT := hide ht
          have hc5 : (5 : Int) ≤ (c : Int) := by omega
          have hc1 : ¬ (c : Int) = 1 := by omega
          have hc4 : (4 : Int) ≤ (c : Int) := by omega
          have hc1n : ¬ c = 1 := by omega
          clear ht hbt ct hE k1 HC hk1 hb1 hs1 HBU HU hlG
          go_wp2
          rw [HT.out]
          go_loopw [6] (fun v6 wr => ∃ s : Int, -1 ≤ s ∧ s ≤ 7 ∧ v6 = .int .i64 s ∧ Hid (Kept t wr) ∧ Hid (Below w.heap.size w wr) ∧ t.heap.size ≤ wr.heap.size) (fun v6 _ => (7 - intOf v6).toNat)
          case atStart => exact ⟨-1, by omega, by omega, rfl, hide (Kept.refl t), HB2, Nat.le_refl _⟩
          case round =>
            clear HB1 HB2
            obtain ⟨s, hs0, hs7, rfl, hk1, hb1, hs1⟩ := hrel
            by_cases hlt7 : s < 7
            · have hS00 : Hid (Kept t wr.drew) := hide (fun p hp => hk1.out p hp)
              have E0 : Hid (Eds wr.drew wr.drew.heap.size (some ⟨b, off, none⟩) millE) := hide (Els.more (ET.out.kept' (Nat.le_refl _) (fun p hp => hk1.out p hp)) hs1)
              go_wp2
              refine wp_region_held_drew (S := Kept t) (by kernel_rfl) hS00.out (fun hS0 => ?_)
              refine take_at (i := 0) (d := 82) (v := ?_) (by simp only [List.getElem?_toArray, List.getElem?_cons_succ, List.getElem?_cons_zero]; rfl) rfl (by kernel_rfl) (by kernel_rfl) (by kernel_rfl) (fun _ _ _ h => h) rfl ?_ (by assumption) ?_
              rotate_left
              focus (intro w hSw; go_simp; (try with_reducible rfl); done)
              try simp only [List.setIfInBounds_toArray, List.set_cons_zero, List.set_cons_succ]
              refine take_at (i := 1) (d := 83) (v := ?_) (by simp only [List.getElem?_toArray, List.getElem?_cons_succ, List.getElem?_cons_zero]; rfl) rfl (by kernel_rfl) (by kernel_rfl) (by kernel_rfl) (fun _ _ _ h => h) rfl ?_ (by assumption) ?_
              rotate_left
              focus (intro w hSw; go_simp; (try with_reducible rfl); done)
              try simp only [List.setIfInBounds_toArray, List.set_cons_zero, List.set_cons_succ]
              refine take_at (i := 2) (d := 84) (v := ?_) (by simp only [List.getElem?_toArray, List.getElem?_cons_succ, List.getElem?_cons_zero]; rfl) rfl (by kernel_rfl) (by kernel_rfl) (by kernel_rfl) (fun _ _ _ h => h) rfl ?_ (by assumption) ?_
              rotate_left
              focus (intro w hSw; go_simp; (try with_reducible rfl); done)
              try simp only [List.setIfInBounds_toArray, List.set_cons_zero, List.set_cons_succ]
              refine call_at (i := 3) (d := 85) (by simp only [List.getElem?_toArray, List.getElem?_cons_succ, List.getElem?_cons_zero]; rfl) rfl (by kernel_rfl) rfl (fun K hK => ?_)
              go_simp
              refine (near_t _ s (by omega) _ none millE [] 5 c 0 0 rfl rfl E0.out Els.nil_ hlc (by omega) hcm (by omega) mill_edB (by intro e he; cases he)).mono ?_
              rintro e z1 ⟨rfl, b1⟩
              have hS1 : Kept t z1 := hS0.below (by first | (simp; done) | (simp; omega)) b1
              have K1 := hide b1
              have E1 : Hid (Eds z1 z1.heap.size (some ⟨b, off, none⟩) millE) := hide (E0.out.next b1)
              clear b1
              go_wp2_with fail
              refine hK.out _ _ hS1 (fun hSn => ?_)
              clear hK K
              try simp only [List.setIfInBounds_toArray, List.set_cons_zero, List.set_cons_succ]
              refine take_at (i := 4) (d := 86) (v := ?_) (by simp only [List.getElem?_toArray, List.getElem?_cons_succ, List.getElem?_cons_zero]; rfl) rfl (by kernel_rfl) (by kernel_rfl) (by kernel_rfl) (fun _ _ _ h => h) rfl ?_ (by assumption) ?_
              rotate_left
              focus (intro w hSw; go_simp; (try with_reducible rfl); done)
              try simp only [List.setIfInBounds_toArray, List.set_cons_zero, List.set_cons_succ]
              refine take_at (i := 5) (d := 87) (v := ?_) (by simp only [List.getElem?_toArray, List.getElem?_cons_succ, List.getElem?_cons_zero]; rfl) rfl (by kernel_rfl) (by kernel_rfl) (by kernel_rfl) (fun _ _ _ h => h) rfl ?_ (by assumption) ?_
              rotate_left
              focus (intro w hSw; go_simp; (try with_reducible rfl); done)
              try simp only [List.setIfInBounds_toArray, List.set_cons_zero, List.set_cons_succ]
              refine take_at (i := 6) (d := 88) (v := ?_) (by simp only [List.getElem?_toArray, List.getElem?_cons_succ, List.getElem?_cons_zero]; rfl) rfl (by kernel_rfl) (by kernel_rfl) (by kernel_rfl) (fun _ _ _ h => h) rfl ?_ (by assumption) ?_
              rotate_left
              focus (intro w hSw; go_simp; (try with_reducible rfl); done)
              try simp only [List.setIfInBounds_toArray, List.set_cons_zero, List.set_cons_succ]
              refine take_at (i := 7) (d := 89) (v := ?_) (by simp only [List.getElem?_toArray, List.getElem?_cons_succ, List.getElem?_cons_zero]; rfl) rfl (by kernel_rfl) (by kernel_rfl) (by kernel_rfl) (fun _ _ _ h => h) rfl ?_ (by assumption) ?_
              rotate_left
              focus (intro w hSw; go_simp; (try with_reducible rfl); done)
              try simp only [List.setIfInBounds_toArray, List.set_cons_zero, List.set_cons_succ]
              refine take_at (i := 8) (d := 90) (v := ?_) (by simp only [List.getElem?_toArray, List.getElem?_cons_succ, List.getElem?_cons_zero]; rfl) rfl (by kernel_rfl) (by kernel_rfl) (by kernel_rfl) (fun _ _ _ h => h) rfl ?_ (by assumption) ?_
              rotate_left
              focus (intro w hSw; go_simp; (try with_reducible rfl); done)
              try simp only [List.setIfInBounds_toArray, List.set_cons_zero, List.set_cons_succ]
              refine call_at (i := 9) (d := 91) (by simp only [List.getElem?_toArray, List.getElem?_cons_succ, List.getElem?_cons_zero]; rfl) rfl (by kernel_rfl) rfl (fun K hK => ?_)
              go_simp
              refine (near_t _ s (by omega) none _ [] millE 0 0 5 c rfl rfl Els.nil_ E1.out (by omega) hlc (by omega) hcm (by intro e he; cases he) mill_edB).mono ?_
              rintro e z2 ⟨rfl, b2⟩
              have hS2 : Kept t z2 := hS1.below (by have := K1.out.size; simp at this; omega) b2
              have K2 := hide (K1.out.trans (b2.mono K1.out.size))
              have E2 : Hid (Eds z2 z2.heap.size (some ⟨b, off, none⟩) millE) := hide (E1.out.next b2)
              clear b2
              go_wp2_with fail
              refine hK.out _ _ hS2 (fun hSn => ?_)
              clear hK K
              try simp only [List.setIfInBounds_toArray, List.set_cons_zero, List.set_cons_succ]
              refine take_at (i := 10) (d := 92) (v := ?_) (by simp only [List.getElem?_toArray, List.getElem?_cons_succ, List.getElem?_cons_zero]; rfl) rfl (by kernel_rfl) (by kernel_rfl) (by kernel_rfl) (fun _ _ _ h => h) rfl ?_ (by assumption) ?_
              rotate_left
              focus (intro w hSw; go_simp; (try with_reducible rfl); done)
              try simp only [List.setIfInBounds_toArray, List.set_cons_zero, List.set_cons_succ]
              refine take_at (i := 11) (d := 93) (v := ?_) (by simp only [List.getElem?_toArray, List.getElem?_cons_succ, List.getElem?_cons_zero]; rfl) rfl (by kernel_rfl) (by kernel_rfl) (by kernel_rfl) (fun _ _ _ h => h) rfl ?_ (by assumption) ?_
              rotate_left
              focus (intro w hSw; go_simp; (try with_reducible rfl); done)
              try simp only [List.setIfInBounds_toArray, List.set_cons_zero, List.set_cons_succ]
              refine take_at (i := 12) (d := 94) (v := ?_) (by simp only [List.getElem?_toArray, List.getElem?_cons_succ, List.getElem?_cons_zero]; rfl) rfl (by kernel_rfl) (by kernel_rfl) (by kernel_rfl) (fun _ _ _ h => h) rfl ?_ (by assumption) ?_
              rotate_left
              focus (intro w hSw; go_simp; (try with_reducible rfl); done)
              try simp only [List.setIfInBounds_toArray, List.set_cons_zero, List.set_cons_succ]
              refine take_at (i := 13) (d := 95) (v := ?_) (by simp only [List.getElem?_toArray, List.getElem?_cons_succ, List.getElem?_cons_zero]; rfl) rfl (by kernel_rfl) (by kernel_rfl) (by kernel_rfl) (fun _ _ _ h => h) rfl ?_ (by assumption) ?_
              rotate_left
              focus (intro w hSw; go_simp; (try with_reducible rfl); done)
              try simp only [List.setIfInBounds_toArray, List.set_cons_zero, List.set_cons_succ]
              refine take_at (i := 14) (d := 96) (v := ?_) (by simp only [List.getElem?_toArray, List.getElem?_cons_succ, List.getElem?_cons_zero]; rfl) rfl (by kernel_rfl) (by kernel_rfl) (by kernel_rfl) (fun _ _ _ h => h) rfl ?_ (by assumption) ?_
              rotate_left
              focus (intro w hSw; go_simp; (try with_reducible rfl); done)
              try simp only [List.setIfInBounds_toArray, List.set_cons_zero, List.set_cons_succ]
              refine take_at (i := 15) (d := 97) (v := ?_) (by simp only [List.getElem?_toArray, List.getElem?_cons_succ, List.getElem?_cons_zero]; rfl) rfl (by kernel_rfl) (by kernel_rfl) (by kernel_rfl) (fun _ _ _ h => h) rfl ?_ (by assumption) ?_
              rotate_left
              focus (intro w hSw; go_simp; (try with_reducible rfl); done)
              try simp only [List.setIfInBounds_toArray, List.set_cons_zero, List.set_cons_succ]
              refine take_at (i := 16) (d := 98) (v := ?_) (by simp only [List.getElem?_toArray, List.getElem?_cons_succ, List.getElem?_cons_zero]; rfl) rfl (by kernel_rfl) (by kernel_rfl) (by kernel_rfl) (fun _ _ _ h => h) rfl ?_ (by assumption) ?_
              rotate_left
              focus (intro w hSw; go_simp; (try with_reducible rfl); done)
              try simp only [List.setIfInBounds_toArray, List.set_cons_zero, List.set_cons_succ]
              refine take_at (i := 17) (d := 99) (v := ?_) (by simp only [List.getElem?_toArray, List.getElem?_cons_succ, List.getElem?_cons_zero]; rfl) rfl (by kernel_rfl) (by kernel_rfl) (by kernel_rfl) (fun _ _ _ h => h) rfl ?_ (by assumption) ?_
              rotate_left
              focus (intro w hSw; go_simp; (try with_reducible rfl); done)
              try simp only [List.setIfInBounds_toArray, List.set_cons_zero, List.set_cons_succ]
              refine take_at (i := 18) (d := 100) (v := ?_) (by simp only [List.getElem?_toArray, List.getElem?_cons_succ, List.getElem?_cons_zero]; rfl) rfl (by kernel_rfl) (by kernel_rfl) (by kernel_rfl) (fun _ _ _ h => h) rfl ?_ (by assumption) ?_
              rotate_left
              focus (intro w hSw; go_simp; (try with_reducible rfl); done)
              try simp only [List.setIfInBounds_toArray, List.set_cons_zero, List.set_cons_succ]
              refine take_at (i := 19) (d := 101) (v := ?_) (by simp only [List.getElem?_toArray, List.getElem?_cons_succ, List.getElem?_cons_zero]; rfl) rfl (by kernel_rfl) (by kernel_rfl) (by kernel_rfl) (fun _ _ _ h => h) rfl ?_ (by assumption) ?_
              rotate_left
              focus (intro w hSw; go_simp; (try with_reducible rfl); done)
              try simp only [List.setIfInBounds_toArray, List.set_cons_zero, List.set_cons_succ]
              refine call_at (i := 20) (d := 102) (by simp only [List.getElem?_toArray, List.getElem?_cons_succ, List.getElem?_cons_zero]; rfl) rfl (by kernel_rfl) rfl (fun K hK => ?_)
              go_simp
              refine (near_t _ s (by omega) _ _ (millE.drop 1) (millE.take 4) 4 (c - 1) 4 c rfl rfl (E2.out.cut 1) (E2.out.take_ 4) (by omega) (by omega) (by omega) hcm (fun e he => mill_edB e (List.mem_of_mem_drop he)) (fun e he => mill_edB e (List.mem_of_mem_take he))).mono ?_
              rintro e z3 ⟨rfl, b3⟩
              have hS3 : Kept t z3 := hS2.below (by have := K2.out.size; simp at this; omega) b3
              have K3 := hide (K2.out.trans (b3.mono K2.out.size))
              have E3 : Hid (Eds z3 z3.heap.size (some ⟨b, off, none⟩) millE) := hide (E2.out.next b3)
              clear b3
              go_wp2_with fail
              refine hK.out _ _ hS3 (fun hSn => ?_)
              clear hK K
              try simp only [List.setIfInBounds_toArray, List.set_cons_zero, List.set_cons_succ]
              refine take_at (i := 21) (d := 103) (v := ?_) (by simp only [List.getElem?_toArray, List.getElem?_cons_succ, List.getElem?_cons_zero]; rfl) rfl (by kernel_rfl) (by kernel_rfl) (by kernel_rfl) (fun _ _ _ h => h) rfl ?_ (by assumption) ?_
              rotate_left
              focus (intro w hSw; go_simp; (try with_reducible rfl); done)
              try simp only [List.setIfInBounds_toArray, List.set_cons_zero, List.set_cons_succ]
              refine take_at (i := 22) (d := 104) (v := ?_) (by simp only [List.getElem?_toArray, List.getElem?_cons_succ, List.getElem?_cons_zero]; rfl) rfl (by kernel_rfl) (by kernel_rfl) (by kernel_rfl) (fun _ _ _ h => h) rfl ?_ (by assumption) ?_
              rotate_left
              focus (intro w hSw; go_simp; (try with_reducible rfl); done)
              try simp only [List.setIfInBounds_toArray, List.set_cons_zero, List.set_cons_succ]
              refine wpAnyH_done (by kernel_rfl) ?_ _
              clear hS0 hSn hS1 hS2 hS3
              have hgo := hide (hb1.out.drew.trans (K3.out.mono hb1.out.drew.size))
              have hkk : Hid (Kept t z3) := hide (hk1.out.below hs1 (below_undrew K3.out))
              have hss : t.heap.size ≤ z3.heap.size := by have := K3.out.size; simp at this; omega
              go_wp2
              go_roundw
              case rel => exact ⟨s + 1, by omega, by omega, by go_num, hkk, hgo, hss⟩
              case measure => simp [intOf]; omega
            · have hlt7' : ¬ s < 7 := hlt7
              go_wp2_with fail
              refine (marks0 _).mono ?_
              rintro e y1 ⟨rfl, k1⟩
              have K1 := hide (hb1.out.trans (k1.mono hb1.out.size))
              clear k1
              go_wp2_with fail
              refine (works_any _).mono ?_
              rintro e y2 ⟨rfl, k2⟩
              have K2 := hide (K1.out.trans (k2.mono K1.out.size))
              clear k2
              go_wp2
              go_ret
              exact ⟨rfl, K2.out⟩
end Go.Proofs.Ytelacdhlgeedmaa
