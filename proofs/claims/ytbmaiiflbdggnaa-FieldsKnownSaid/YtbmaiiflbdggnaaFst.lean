/- The walk of the statement FieldsStand. -/
import Derived.Test.YtbmaiiflbdggnaaFdg
import Derived.Test.YtbmaiiflbdggnaaFwk
import Derived.Test.YtbmaiiflbdggnaaFla
namespace Go.Proofs.Ytbmaiiflbdggnaa
open Go.RowKit
set_option linter.unusedVariables false
set_option linter.unusedSimpArgs false

def flat (xs : List It) : List UInt8 := (xs.map It.bytes).flatten
theorem flat_snoc {xs : List It} {i : Nat} {x : It} (h : xs[i]? = some x) : flat (xs.take (i + 1)) = flat (xs.take i) ++ x.bytes := by
  rw [take_snoc h]; simp only [flat, List.map_append, List.flatten_append, List.map_cons, List.map_nil, List.flatten_cons, List.flatten_nil, List.append_nil]
theorem flat_len (xs : List It) : (flat xs).length ≤ total xs := by
  induction xs with
  | nil => simp [flat, total]
  | cons x xs ih =>
    have hx : x.bytes.length ≤ 8 + x.bs.length := by
      by_cases h : x.k % 5 = 4
      · rw [bytes_row h]; omega
      · rw [bytes_num h, be_len]
        have : x.k % 5 = 0 ∨ x.k % 5 = 1 ∨ x.k % 5 = 2 ∨ x.k % 5 = 3 := by omega
        rcases this with h | h | h | h <;> rw [h] <;> omega
    simp only [flat, total, List.map_cons, List.flatten_cons, List.length_append, List.sum_cons] at *
    omega
def halfOf (xs : List It) (L i : Nat) : List UInt8 := if L / 2 < i then flat (xs.take (L / 2 + 1)) else []

theorem half_hit {xs : List It} {L i : Nat} (h : i = L / 2) : halfOf xs L (i + 1) = flat (xs.take (i + 1)) := by
  rw [halfOf, if_pos (by omega), h]
theorem half_miss {xs : List It} {L i : Nat} (h : ¬ i = L / 2) : halfOf xs L (i + 1) = halfOf xs L i := by
  unfold halfOf
  by_cases h1 : L / 2 < i
  · rw [if_pos h1, if_pos (by omega)]
  · rw [if_neg h1, if_neg (by omega)]
theorem half_part (xs : List It) (L : Nat) : halfOf xs L L = (flat xs).take (halfOf xs L L).length := by
  unfold halfOf
  split
  · have h := congrArg flat (List.take_append_drop (L / 2 + 1) xs)
    simp only [flat, List.map_append, List.flatten_append] at h ⊢
    rw [← h]
    simp
  · simp

theorem flat_part {xs : List It} {j : Nat} {x : It} (hx : xs[j]? = some x) : ((flat xs).drop (flat (xs.take j)).length).take x.bytes.length = x.bytes ∧ (flat (xs.take j)).length + x.bytes.length ≤ (flat xs).length := by
  have h := congrArg flat (List.take_append_drop (j + 1) xs)
  have h2 : flat (xs.take (j + 1) ++ xs.drop (j + 1)) = flat (xs.take (j + 1)) ++ flat (xs.drop (j + 1)) := by simp only [flat, List.map_append, List.flatten_append]
  rw [h2, flat_snoc hx] at h
  rw [← h]
  constructor
  · simp
  · simp only [List.length_append]; omega

set_option maxRecDepth 100000 in
set_option maxHeartbeats 8000000 in
theorem fieldsStand_walk (w : World) (A : Option Addr) (xs : List It) (c : Nat) (hI : Its w w.heap.size A xs) (hc : xs.length ≤ c) (hc2 : c ≤ 9223372036854775807) :
    Calls Try.prog 3 #[.slice A xs.length c] w fun e w' => e = .returned (.bool true) ∧ Below w.heap.size w w' := by
  obtain ⟨L, hL⟩ : ∃ L, xs.length = L := ⟨_, rfl⟩
  rw [hL] at hc ⊢
  have HL := hide hL
  have HI := hide hI
  clear hL hI
  go_enter Try.func3, Try.ntmps3
  go_wp2_with fail
  refine (few_any _ A xs L c 60 HL.out HI.out (by omega) (by decide)).mono ?_
  rintro e w1 ⟨⟨r, rfl, hr⟩, rfl⟩
  rcases r with _ | _
  · clear hr
    go_wp2_with fail
    refine (works_any _).mono ?_
    rintro e w2 ⟨rfl, hb⟩
    go_wp2
    go_ret
    exact ⟨rfl, hb⟩
  · obtain ⟨hL60, hT⟩ := hr rfl
    clear hr
    have W0 := hide (Wo.new w1)
    have hb0 : Below w1.heap.size w1 (w1.alloc (.cells #[.pointer none, .int .i64 0] 28)) := (Below.refl _ _).alloc (Nat.le_refl _) _
    go_wp2
    go_loopw [5, 6, 7, 8] (fun vh vi vt vk wr => ∃ i : Nat, i ≤ L ∧ vi = .int .i64 i ∧ vh = .string ⟨(halfOf xs L i).toArray⟩ ∧ Wo wr w1.heap.size w1.heap.size (flat (xs.take i)) ∧ Below w1.heap.size w1 wr) (fun _ vi _ _ _ => L - (intOf vi).toNat)
    case atStart => exact ⟨0, by omega, rfl, rfl, W0.out, hb0⟩
    case round =>
      obtain ⟨i, hi, rfl, rfl, hW, hb⟩ := hrel
      clear hb0 W0
      have hs := hb.size
      by_cases hlt : i < L
      · have hil : i < xs.length := by rw [HL.out]; exact hlt
        obtain ⟨x, hx⟩ : ∃ x, xs[i]? = some x := ⟨_, List.getElem?_eq_getElem hil⟩
        obtain ⟨b, off, rfl, _, c0, c1, c2, hR, hok⟩ := Its.get (HI.out.below hb (Nat.le_refl _)) hx
        have hfl := flat_len (xs.take i)
        have htl := total_take_le xs i
        have hxl := item_le hx
        have HF := hide (flat_snoc hx)
        have HR := hide (hR.more hs)
        have HOK := hide hok
        have hI0 : (0 : Int) ≤ (i : Int) := by omega
        have hI1 : (i : Int) < (L : Int) := by omega
        clear hx hR hok hil
        go_wp2_with fail
        refine (put_it _ w1.heap.size _ x hW (by omega) HR.out HOK.out (by omega)).mono ?_
        rintro e w2 ⟨rfl, hW2, hb2⟩
        rw [← HF.out] at hW2
        have hb2' := hb.trans (hb2.below (Nat.le_refl _) hs)
        have hs2 := hb2'.size
        clear hW hb hb2 c0 c1 c2
        have hfl2 := flat_len (xs.take (i + 1))
        have htl2 := total_take_le xs (i + 1)
        have hsi : IntKind.i64.wrap ((i : Int) + 1) = (i : Int) + 1 := IntWalk.i64_in _ (by omega)
        by_cases hh : i = L / 2
        · have hhi : (L : Int) / 2 = (i : Int) := by omega
          have HH := hide hh
          clear hh
          go_wp2_with fail
          refine (out_any _ w1.heap.size _ hW2 (by omega)).mono ?_
          rintro e w3 ⟨rfl, hg3, hb3⟩
          have ks := run_string_of (P := Try.prog) w3 31 9 5 (some ⟨w2.heap.size, 0, none⟩) (flat (xs.take (i + 1))).length _ (flat (xs.take (i + 1))) Try.underlying31 Try.underlying5 Try.underlying9 (Rd.of_block hg3)
          obtain ⟨N, hN⟩ : ∃ N, (flat (xs.take (i + 1))).length = N := ⟨_, rfl⟩
          have HG : Hid (∃ C : Array Value, C.size = N ∧ w3.heap[w2.heap.size]? = some (.cells C 5)) := hide ⟨_, by simp [u8s, hN], hg3⟩
          have HB := hide hb3
          have HW2 := hide hW2
          rw [hN] at ks hfl2 ⊢
          clear hg3 hN hW2 hb3
          have hNle : N ≤ 3000 := by omega
          go_wp2
          clear ks
          obtain ⟨wo, hwo⟩ : ∃ wo, wr = wo := ⟨_, rfl⟩
          subst hwo
          go_loopw [8] (fun vk wq => ∃ k : Nat, k ≤ N ∧ vk = .int .i64 k ∧ Below w2.heap.size w2 wq ∧ Hid (∃ C : Array Value, C.size = N ∧ wq.heap[w2.heap.size]? = some (.cells C 5))) (fun vk _ => N - (intOf vk).toNat)
          case atStart => exact ⟨0, by omega, rfl, HB.out, HG⟩
          case round =>
            obtain ⟨k, hk, rfl, hbI, hgI⟩ := hrel
            clear HG HB
            by_cases hkN : k < N
            · obtain ⟨C, hC, hgC⟩ := hgI.out
              have hcc := cell_of_row _ _ k _ _ _ hgC
              obtain ⟨v, hv⟩ : ∃ v, C[k]? = some v := ⟨_, Array.getElem?_eq_getElem (by omega)⟩
              rw [hv] at hcc
              clear hv
              have hff := frozen_of_row _ _ k _ _ hgC
              have hI2 : (0 : Int) ≤ (k : Int) := by omega
              have hI3 : (k : Int) < (N : Int) := by omega
              have hbI2 := hide (hbI.setCell (p := ⟨w2.heap.size, k, none⟩) (Nat.le_refl _) (.int .u8 0))
              have hg2 := hide (heap_setCell_same _ _ k _ _ (.int .u8 0) hgC)
              have HC := hide hC
              clear hgI hbI hgC hC
              go_wp2
              go_roundw
              case rel => exact ⟨k + 1, by omega, by go_num, hbI2.out, hide ⟨_, by rw [Array.size_setIfInBounds]; exact HC.out, hg2.out⟩⟩
              case measure => simp [intOf]; omega
            · obtain rfl : k = N := by omega
              go_wp2
              go_roundw
              case rel => exact ⟨i + 1, by omega, by go_num, by rw [half_hit HH.out], HW2.out.below hbI, hb2'.trans (hbI.mono hs2)⟩
              case measure => simp [intOf]; omega
        · have hhi : ¬ (i : Int) = (L : Int) / 2 := by omega
          have HH := hide hh
          clear hh
          go_wp2
          go_roundw
          case rel => exact ⟨i + 1, by omega, by go_num, by rw [half_miss HH.out], hW2, hb2'⟩
          case measure => simp [intOf]; omega
      · obtain rfl : i = L := by omega
        rw [← HL.out, List.take_length] at hW
        have hfl := flat_len xs
        go_wp2_with fail
        refine (out_any _ w1.heap.size _ hW (by omega)).mono ?_
        rintro e w2 ⟨rfl, hg2, hb2⟩
        have hb2' := hb.trans (hb2.mono hs)
        have hs2 := hb2'.size
        clear hW hb2 hb
        obtain ⟨N, hN⟩ : ∃ N, (flat xs).length = N := ⟨_, rfl⟩
        have HN := hide hN
        have HR := hide (Rd.of_block hg2)
        have hG2 := lt_of_block hg2
        rw [hN] at hfl ⊢
        clear hN hg2
        go_wp2
        obtain ⟨wo, hwo⟩ : ∃ wo, wr = wo := ⟨_, rfl⟩
        subst hwo
        obtain ⟨G, hG⟩ : ∃ G, wr.heap.size = G := ⟨_, rfl⟩
        rw [hG] at HR hG2 hs ⊢
        go_loopw [4, 10, 11] (fun va vi vx wq => ∃ j : Nat, j ≤ i ∧ vi = .int .i64 j ∧ va = .int .i64 ((flat (xs.take j)).length : Nat) ∧ Below w2.heap.size w2 wq) (fun _ vi _ _ => i - (intOf vi).toNat)
        case atStart => exact ⟨0, by omega, rfl, by simp [flat], Below.refl _ _⟩
        case round =>
          obtain ⟨j, hj, rfl, rfl, hbq⟩ := hrel
          have hsq := hbq.size
          have hbq' := hb2'.trans (hbq.mono hs2)
          by_cases hlt2 : j < i
          · have hjl : j < xs.length := by rw [HL.out]; exact hlt2
            obtain ⟨x, hx⟩ : ∃ x, xs[j]? = some x := ⟨_, List.getElem?_eq_getElem hjl⟩
            obtain ⟨b, off, rfl, _, c0, c1, c2, hR, hok⟩ := Its.get (HI.out.below hbq' (Nat.le_refl _)) hx
            have HF := hide (flat_snoc hx)
            have hI0 : (0 : Int) ≤ (j : Int) := by omega
            have hI1 : (j : Int) < (i : Int) := by omega
            go_wp2_with fail
            refine (bytes_any _ x (hR.more (by have := hbq'.size; omega)) hok).mono ?_
            rintro e w4 ⟨⟨A', c', rfl, hR4, hc4, _⟩, hb4⟩
            obtain ⟨hp1, hp2⟩ := flat_part hx
            have hb4q := hbq.trans (hb4.mono hsq)
            have HR4 := (HR.out.below' hb4q (Nat.le_refl _))
            have hfl' := congrArg List.length HF.out
            rw [List.length_append] at hfl'
            rw [HN.out] at hp2
            obtain ⟨M, hM⟩ : ∃ M, x.bytes.length = M := ⟨_, rfl⟩
            obtain ⟨E, hE⟩ : ∃ E, (flat (xs.take j)).length = E := ⟨_, rfl⟩
            rw [hM] at hp1 hp2 hc4 hfl' ⊢
            rw [hE] at hp1 hp2 hfl' ⊢
            have k2 := str_at (dst := 9) Try.underlying31 Try.underlying5 Try.underlying9 M c' hR4 x.bytes rfl hM
            have HM := hide hM
            have HE := hide hE
            have HF' := hide hfl'
            have HB4 := hide hb4q
            clear hM hE hfl' hR hok c0 c1 c2 hx hjl hb4q hR4 hb4 hbq hbq'
            have hA0 : (0 : Int) ≤ (E : Int) := by omega
            have hA1 : (E : Int) ≤ (E : Int) + (M : Int) := by omega
            have hA2 : (E : Int) + (M : Int) ≤ (N : Int) := by omega
            have hA3 : IntKind.i64.wrap ((E : Int) + (M : Int)) = (E : Int) + (M : Int) := IntWalk.i64_in _ (by omega)
            have hA4 : decide ((N : Int) < (E : Int) + (M : Int)) = false := decide_eq_false (by omega)
            by_cases hEN : N = E
            · obtain rfl : M = 0 := by omega
              subst hEN
              have hxe : x.bytes = [] := List.eq_nil_of_length_eq_zero HM.out
              rw [hxe] at k2 hp1
              clear HR4
              have k1 : ∀ (A : Option Addr) (m : Nat), (convert 31 9 (.slice A 0 0)).run Try.prog (w4.drewN m) = .ok (.string ⟨([] : List UInt8).toArray⟩) (w4.drewN m) := fun A m => str_at (B := 0) (xs := []) Try.underlying31 Try.underlying5 Try.underlying9 0 0 Rd.nil_ [] rfl rfl m
              go_wp2
              go_quiet (fail)
              go_wp2
              go_roundw
              case rel => exact ⟨j + 1, by omega, by go_num, by rw [HF'.out]; go_num, below_drewN HB4.out _⟩
              case measure => simp [intOf]; omega
            · have k1 := str_at (dst := 9) Try.underlying31 Try.underlying5 Try.underlying9 M (N - E) (HR4.part E M) x.bytes (by rw [u8s_drop, u8s_take, hp1]) HM.out
              rw [Nat.zero_add] at k1
              clear HR4 hp1
              go_wp2
              go_quiet (fail)
              go_wp2
              go_roundw
              case rel => exact ⟨j + 1, by omega, by go_num, by rw [HF'.out]; go_num, below_drewN HB4.out _⟩
              case measure => simp [intOf]; omega
          · obtain rfl : j = i := by omega
            have HR5 := HR.out.below' hbq (Nat.le_refl _)
            rw [← HL.out, List.take_length]
            rw [HN.out]
            have hpart := half_part xs xs.length
            obtain ⟨ha, hha⟩ : ∃ ha, halfOf xs xs.length xs.length = ha := ⟨_, rfl⟩
            rw [hha] at hpart ⊢
            have hle := congrArg List.length hpart
            rw [List.length_take, HN.out] at hle
            have hB0 : (0 : Int) ≤ (ha.length : Int) := by omega
            have hB1 : (ha.length : Int) ≤ (N : Int) := by omega
            have k1 := run_string_of (P := Try.prog) wr 31 9 5 (some ⟨G, 0, none⟩) N _ ha Try.underlying31 Try.underlying5 Try.underlying9 (by
              have h := HR5.take ha.length
              rw [u8s_take, ← hpart] at h
              exact h)
            have HP := hide hpart
            clear hpart hle hha HR5
            have hbe := hb2'.trans (hbq.mono hs2)
            clear hbq hb2'
            go_wp2_with fail
            refine (works_any _).mono ?_
            rintro e w9 ⟨rfl, hb9⟩
            go_wp2
            go_ret
            exact ⟨rfl, hbe.trans (hb9.mono hbe.size)⟩
end Go.Proofs.Ytbmaiiflbdggnaa
