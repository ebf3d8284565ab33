/- The walk of the statement CrcJoins. -/
import Derived.Test.YtboljjmeicnklaaCrcl
import Derived.Test.YtboljjmeicnklaaCrcn
import Derived.Deep.RegionHeld3
namespace Go.Proofs.Ytboljjmeicnklaa
open Go.RowKit
set_option linter.unusedVariables false

def bytesL (rs : List Row) : List (List UInt8) := rs.map (·.2.1)
theorem bytesL_len (rs : List Row) : (bytesL rs).length = rs.length := by simp [bytesL]
theorem bytesL_get {rs : List Row} {i : Nat} (h : i < rs.length) : (bytesL rs)[i]'(by rw [bytesL_len]; exact h) = rs[i].2.1 := by simp [bytesL]

theorem info_u8 : (Try.prog.info? 5).map (fun i => (i.zero, i.size, i.bytes)) = some (some (.int .u8 0), 1, 1) := by kernel_rfl

theorem sum_len (bs : List UInt8) (n : Nat) (hn : bs.length = n) (A : Option Addr) (cap B : Nat) (w : World) (hr : Rd w B A (u8s bs)) (hB : B ≤ w.heap.size) (hl : n ≤ 9223372036854775807) :
    Calls Try.prog 11 #[.slice A n cap] w fun e w' => e = .returned (.int .u32 (crcm.sum bs : Nat)) ∧ Below w.heap.size w w' := by
  subst hn
  exact sum_any bs A cap B w hr hB hl
theorem tmod_low (a : Int) (n : Nat) (h : 0 < n) : -(n : Int) < a.tmod (n : Int) := by
  rcases Int.le_total 0 a with ha | ha
  · have := Int.tmod_nonneg (n : Int) ha
    omega
  · have h1 := Int.neg_tmod a (n : Int)
    have h2 := Int.tmod_lt_of_pos (-a) (show (0 : Int) < n by omega)
    omega
theorem tmod_high (a : Int) (n : Nat) (h : 0 < n) : a.tmod (n : Int) < (n : Int) := Int.tmod_lt_of_pos a (by omega)

set_option maxRecDepth 100000 in
set_option maxHeartbeats 1000000 in
theorem crcJoins_walk (w : World) (A : Option Addr) (rs : List Row) (c : Nat) (hr : Rows w w.heap.size A rs) (hl : rs.length ≤ 9223372036854775807) (hk : ∀ r ∈ rs, r.2.1.length ≤ 140737488351232)
    (at' : Int) (ha1 : -9223372036854775808 ≤ at') (ha2 : at' ≤ 9223372036854775807) :
    Calls Try.prog 8 #[.slice A rs.length c, .int .i64 at'] w fun e w' => e = .returned (.bool true) ∧ Below w.heap.size w w' := by
  have HK := hide hk
  clear hk
  by_cases hbig : 20 < rs.length
  · go_enter Try.func8, Try.ntmps8
    go_wp2
    go_loop [5, 6] (fun vn vi => ∃ (i : Nat) (z : Int), vi = .int .i64 i ∧ i ≤ rs.length ∧ vn = .int .i64 z) (fun _ vi => rs.length - (intOf vi).toNat)
    case atStart => exact ⟨0, 0, rfl, by omega, rfl⟩
    case round =>
      obtain ⟨i, z, rfl, hi, rfl⟩ := hrel
      by_cases hlt : i < rs.length
      · obtain ⟨b, o, rfl, hb⟩ := hr.at_ hlt
        have hc := hr.cell hlt
        go_wp2
        go_round
        case rel => exact ⟨i + 1, _, by go_num, by omega, rfl⟩
        case measure => simp [intOf]; omega
      · obtain rfl : i = rs.length := by omega
        go_wp2_with fail
        refine (works_any _).mono ?_
        rintro e w3 ⟨rfl, hb3⟩
        go_wp2_with fail
        go_ret
        exact ⟨rfl, hb3⟩
  · have hLm : Hid (∀ i, (crcm.flatTo (bytesL rs) i).length ≤ i * 140737488351232) := hide (crcm.flatTo_lt _ _ (fun b hb => by
      obtain ⟨r, hr, rfl⟩ := List.mem_map.1 hb
      exact HK.out r hr))
    go_enter Try.func8, Try.ntmps8
    go_wp2
    go_loop [5, 6] (fun vn vi => ∃ (i : Nat), vi = .int .i64 i ∧ i ≤ rs.length ∧ vn = .int .i64 ((crcm.flatTo (bytesL rs) i).length : Nat)) (fun _ vi => rs.length - (intOf vi).toNat)
    case atStart => exact ⟨0, rfl, by omega, rfl⟩
    case round =>
      obtain ⟨i, rfl, hi, rfl⟩ := hrel
      by_cases hlt : i < rs.length
      · obtain ⟨b, o, rfl, hb⟩ := hr.at_ hlt
        have hc := hr.cell hlt
        have h1 := hLm.out i
        have h2 := HK.out rs[i] (List.getElem_mem hlt)
        have hs : Hid ((crcm.flatTo (bytesL rs) (i + 1)).length = (crcm.flatTo (bytesL rs) i).length + rs[i].2.1.length) := hide (by
          rw [crcm.flatTo_succ (by rw [bytesL_len]; exact hlt), List.length_append, bytesL_get hlt])
        have h3 : (crcm.flatTo (bytesL rs) i).length ≤ 2814749767024640 := by omega
        clear h1
        generalize (crcm.flatTo (bytesL rs) i).length = F at h3 hs ⊢
        generalize rs[i].2.1.length = G at h2 hs hc ⊢
        go_wp2
        go_round
        case rel => exact ⟨i + 1, by go_num, by omega, by rw [hs.out]; go_num⟩
        case measure => simp [intOf]; omega
      · obtain rfl : i = rs.length := by omega
        by_cases hbytes : 4000 < (crcm.flatTo (bytesL rs) rs.length).length
        · go_wp2_with fail
          refine (works_any _).mono ?_
          rintro e w3 ⟨rfl, hb3⟩
          go_wp2_with fail
          go_ret
          exact ⟨rfl, hb3⟩
        · have hd1 : decide (20 < (rs.length : Int)) = false := decide_eq_false (by omega)
          obtain ⟨i0, hi0, hz0, hz1, hz2⟩ := info_parts info_u8
          obtain ⟨N, hN⟩ : ∃ N, (crcm.flatTo (bytesL rs) rs.length).length = N := ⟨_, rfl⟩
          rw [hN] at hbytes ⊢
          have HN := hide hN
          obtain ⟨m, hm⟩ : ∃ m, rs.length = m := ⟨_, rfl⟩
          have HM := hide hm
          rw [hm] at hd1 hbig hl ⊢
          clear hN hm hi hlt
          have hFl : Hid (∀ i, (crcm.flatTo (bytesL rs) i).length ≤ N) := hide (fun i => by
            rw [← HN.out]
            exact crcm.flatTo_all (bytesL rs) _ (by rw [bytesL_len]; exact Nat.le_refl _) i)
          go_wp2
          go_loopw [7, 8, 9] (fun va vf vi wr => ∃ (i : Nat) (A' : Option Addr) (c' : Nat), vi = .int .i64 i ∧ i ≤ m ∧ vf = .int .u32 (crcm.sum (crcm.flatTo (bytesL rs) i) : Nat) ∧ va = .slice A' (crcm.flatTo (bytesL rs) i).length c' ∧ wr.ownsRow w.heap.size 5 1 (.slice A' (crcm.flatTo (bytesL rs) i).length c') (crcm.flatTo (bytesL rs) i).length (u8s (crcm.flatTo (bytesL rs) i)) ∧ Below w.heap.size w wr) (fun _ _ vi _ => m - (intOf vi).toNat)
          case atStart => exact ⟨0, none, 0, rfl, by omega, by rw [show crcm.flatTo (bytesL rs) 0 = [] from rfl, sum_nil]; rfl, rfl, World.ownsRow_nil _ _ _ _, Below.refl _ _⟩
          case round =>
            obtain ⟨i, A', c', rfl, hi, rfl, rfl, hown, hbw⟩ := hrel
            have hs := hbw.size
            have hrW := hr.below hbw (Nat.le_refl _)
            have hFi := hFl.out i
            have hfl := crcm.sum_lt (crcm.flatTo (bytesL rs) i)
            by_cases hlt : i < m
            · have hil : i < rs.length := by rw [HM.out]; exact hlt
              obtain ⟨b, o, rfl, hbB⟩ := hrW.at_ hil
              have hc1 := hrW.cell hil
              have hrow := hrW.row hil
              have hg := hide (bytesL_get hil)
              have hsucc := hide (crcm.flatTo_succ (bl := bytesL rs) (i := i) (by rw [bytesL_len]; exact hil))
              have hsf := hide (crcm.sum_flat (bl := bytesL rs) (i := i) (by rw [bytesL_len]; exact hil))
              have hF1 := hFl.out (i + 1)
              have hrl := HK.out rs[i] (List.getElem_mem hil)
              rw [hg.out] at hsucc hsf
              rw [hsucc.out, List.length_append] at hF1
              have hF1' : rs[i].2.1.length ≤ N := by omega
              clear hF1 hg hrW
              generalize rs[i] = r at hc1 hrow hsucc hsf hrl hF1'
              obtain ⟨A1, bs, cc⟩ := r
              dsimp only at hc1 hrow hsucc hsf hrl hF1'
              generalize hF1e : crcm.flatTo (bytesL rs) (i + 1) = F1 at hsucc hsf
              have HF1 := hide hF1e
              clear hF1e
              generalize crcm.flatTo (bytesL rs) i = F at hsucc hsf hown hfl hFi ⊢
              have hI0 : (0 : Int) ≤ (i : Int) := by omega
              have hI1 : (i : Int) < (m : Int) := by omega
              go_wp2
              go_region_held3 (fun w' => w'.cell? ⟨b, o + i, none⟩ = some (.slice A1 bs.length cc)) (first | assumption | go_keep)
                (first
                  | (go_at_call 11; refine (sum_any bs A1 cc w.heap.size _ (by first | exact hrow | exact hrow.drew | exact hrow.drewN _) (by simp; omega) (by omega)).mono ?_; rintro e w1 ⟨rfl, hb1⟩; have hc2 := (hb1.cell (p := ⟨b, o + i, none⟩) (by simp; omega)).trans hc1)
                  | (go_at_call 18; refine (join_any _ _ _ hfl (crcm.sum_lt bs) (by omega) _).mono ?_; rintro e w2 ⟨rfl, rfl⟩))
              have hb1' : Below wr.heap.size wr w1 := below_undrew hb1
              have hown1 := own_below hown hb1' (fun g hg => (hown.lt g hg).2)
              have hrow1 := hrow.below' hb1' hs
              have hbw1 := hbw.trans (hb1'.mono hs)
              have hs1 := hbw1.size
              clear hown hrow hb1 hb1' hbw hc1
              go_wp2_with (at_builtin; refine wpList_app rfl (.tmp 54) (.tmp 58) 22 rfl w.heap.size 5 i0 (.int .u8 0) 1 1 Try.underlying22 hi0 hz0 hz1 hz2 rfl (by decide) (.slice A' F.length c') F.length _ rfl hown1 w.heap.size A1 bs.length cc (u8s bs) rfl (by rw [u8s_len]; omega) hrow1 (u8s_one bs) (by unfold maxLen; omega) (by omega) hs1 ?_; intro A2 c2 w2 hown2 hg2 hat2)
              have hb2 := app_below hbw1 hown1 hg2 hs1 (Nat.le_refl _)
              rw [u8s_append, ← List.length_append] at hown2
              have hl2 : Hid (Value.slice A2 (F.length + bs.length) c2 = Value.slice A2 F1.length c2) := hide (by rw [hsucc.out, List.length_append])
              rw [← hsucc.out] at hown2
              clear hown1 hat2 hg2
              go_wp2
              go_roundw
              case rel => exact ⟨i + 1, A2, c2, by go_num, by omega, by rw [HF1.out, hsf.out], by rw [HF1.out]; exact hl2.out, by rw [HF1.out]; exact hown2, hb2⟩
              case measure => simp [intOf]; omega
            · obtain rfl : i = m := by omega
              have hNN : (crcm.flatTo (bytesL rs) i).length = N := by rw [← HN.out, HM.out]
              have hlenL : Hid ((bytesL rs).length = i) := hide (by rw [bytesL_len]; exact HM.out)
              have hz : Hid (crcm.flatFrom (bytesL rs) i = []) := hide (by rw [← hlenL.out]; exact crcm.flatFrom_end _)
              rw [hNN] at hown ⊢
              have HNN := hide hNN
              clear hNN hlt hrW hFi hfl
              have hFlen : Hid (∀ j, (crcm.flatFrom (bytesL rs) j).length ≤ N) := hide (fun j => by
                have h1 := congrArg List.length (crcm.flatFrom_split (bytesL rs) j)
                rw [hlenL.out, HNN.out, List.length_append] at h1
                omega)
              go_wp2
              go_loopw [10, 11, 12] (fun vb vl vi wk => ∃ (j : Nat) (z : Int), vi = .int .i64 z ∧ -1 ≤ z ∧ z < i ∧ Hid (z + 1 = j) ∧ vb = .int .u32 (crcm.sum (crcm.flatFrom (bytesL rs) j) : Nat) ∧ vl = .int .i64 ((crcm.flatFrom (bytesL rs) j).length : Nat) ∧ wk.ownsRow w.heap.size 5 1 (.slice A' N c') N (u8s (crcm.flatTo (bytesL rs) i)) ∧ Below w.heap.size w wk) (fun _ _ vi _ => (intOf vi + 1).toNat)
              case atStart => exact ⟨i, (i : Int) - 1, rfl, by omega, by omega, hide (by omega), by rw [hz.out, sum_nil]; rfl, by rw [hz.out]; rfl, hown, hbw⟩
              case round =>
                obtain ⟨j, z, rfl, hz1', hz2', hzj, rfl, rfl, hown, hbw⟩ := hrel
                have hs := hbw.size
                have hjl := hFlen.out j
                have hjs := crcm.sum_lt (crcm.flatFrom (bytesL rs) j)
                by_cases hz0' : 0 ≤ z
                · obtain ⟨q, rfl⟩ := Int.eq_ofNat_of_zero_le hz0'
                  have hqi : q < i := by omega
                  have hil : q < rs.length := by rw [HM.out]; exact hqi
                  have hrW := hr.below hbw (Nat.le_refl _)
                  obtain ⟨b, o, rfl, hbB⟩ := hrW.at_ hil
                  have hc1 := hrW.cell hil
                  have hrow := hrW.row hil
                  have hg := hide (bytesL_get hil)
                  have hqj : q + 1 = j := by have := hzj.out; omega
                  have hsf := hide (crcm.sum_from (bl := bytesL rs) (i := q) (by rw [bytesL_len]; exact hil))
                  have hff := hide (crcm.flatFrom_succ (bl := bytesL rs) (i := q) (by rw [bytesL_len]; exact hil))
                  rw [hqj, hg.out] at hsf hff
                  have hrl := hFlen.out q
                  rw [hff.out, List.length_append] at hrl
                  clear hqj hg hrW hzj
                  generalize rs[q] = r at hc1 hrow hsf hff hrl
                  obtain ⟨A1, bs, cc⟩ := r
                  dsimp only at hc1 hrow hsf hff hrl
                  have HFF := hide (hff.out)
                  have HSF := hide (hsf.out)
                  clear hff hsf
                  generalize hLe : (crcm.flatFrom (bytesL rs) j).length = L at hrl hjl HSF ⊢
                  generalize hSe : crcm.sum (crcm.flatFrom (bytesL rs) j) = S at hjs HSF ⊢
                  have HL := hide hLe
                  clear hLe hSe
                  go_wp2_with fail
                  refine (sum_any bs A1 cc w.heap.size _ hrow hs (by omega)).mono ?_
                  rintro e w1 ⟨rfl, hb1⟩
                  have hc2 := (hb1.cell (p := ⟨b, o + q, none⟩) (by simp; omega)).trans hc1
                  go_wp2_with fail
                  refine (join_any _ _ (L : Int) (crcm.sum_lt bs) hjs (by omega) _).mono ?_
                  rintro e w2 ⟨rfl, rfl⟩
                  have hown1 := own_below hown hb1 (fun g hg => (hown.lt g hg).2)
                  have hbw1 := hbw.trans (hb1.mono hs)
                  clear hown hbw hrow hb1
                  go_wp2
                  go_roundw
                  case rel =>
                    refine ⟨q, (q : Int) - 1, by go_num, by omega, by omega, hide (by omega), ?_, ?_, hown1, hbw1⟩
                    · rw [HSF.out]
                    · rw [HFF.out, List.length_append, HL.out]; go_num
                  case measure => simp [intOf]
                · obtain rfl : z = -1 := by omega
                  obtain rfl : j = 0 := by have := hzj.out; omega
                  have hback : Hid (crcm.flatFrom (bytesL rs) 0 = crcm.flatTo (bytesL rs) i) := hide (by rw [crcm.flatFrom_zero, hlenL.out])
                  rw [hback.out]
                  have hFN : Hid ((crcm.flatTo (bytesL rs) i).length = N) := hide HNN.out
                  generalize crcm.flatTo (bytesL rs) i = F at hown hFN ⊢
                  have hFs := crcm.sum_lt F
                  clear hjl hjs hback hzj hFlen hz hFl hLm
                  by_cases hN0 : 0 < N
                  · have ht1 : -(N : Int) < at'.tmod (N : Int) := tmod_low at' N hN0
                    have ht2 : at'.tmod (N : Int) < (N : Int) := tmod_high at' N hN0
                    obtain ⟨K, hK, hKN⟩ : ∃ K : Nat, (at'.tmod (N : Int) + (N : Int)) % (N : Int) = (K : Int) ∧ K < N := by
                      have h1 := Int.emod_nonneg (at'.tmod (N : Int) + (N : Int)) (show (N : Int) ≠ 0 by omega)
                      have h2 := Int.emod_lt_of_pos (at'.tmod (N : Int) + (N : Int)) (show (0 : Int) < N by omega)
                      exact ⟨((at'.tmod (N : Int) + (N : Int)) % (N : Int)).toNat, by omega, by omega⟩
                    have hK2 : (at'.tmod (N : Int) + (N : Int)).tmod (N : Int) = (K : Int) := by rw [Int.tmod_eq_emod_of_nonneg (by omega)]; exact hK
                    have hNc := own_cap hown
                    obtain ⟨g, rfl, hg0, hg1, _⟩ := own_addr hown hN0
                    have hq1 : (0 : Int) ≤ (K : Int) := by omega
                    have hq2 : (K : Int) ≤ (N : Int) := by omega
                    have hq3 : (K : Int) ≤ (c' : Int) := by omega
                    have hq4 : (N : Int) ≤ (c' : Int) := by omega
                    go_wp2
                    have hF := Rd.of_own hown
                    have hR1 : Rd wr wr.heap.size (some ⟨g, 0, none⟩) (u8s (F.take K)) := by rw [← u8s_take]; exact hF.take K
                    have hR2 : Rd wr wr.heap.size (some ⟨g, K, none⟩) (u8s (F.drop K)) := by
                      have h := hF.cut (k := K) (cap := c') (by rw [u8s_len, hFN.out]; omega) (by rw [u8s_len, hFN.out]; omega)
                      rw [if_neg (by omega), u8s_drop, Option.map_some, add_plain, Nat.zero_add] at h
                      exact h
                    have hL1 : Hid ((F.take K).length = K) := hide (by rw [List.length_take, hFN.out]; omega)
                    have hL2 : Hid ((F.drop K).length = N - K) := hide (by rw [List.length_drop, hFN.out])
                    have hB1 : K ≤ 9223372036854775807 := by omega
                    have hB2 : N - K ≤ 9223372036854775807 := by omega
                    have hB3 : (N : Int) - (K : Int) ≤ 9223372036854775807 := by omega
                    have hws : IntKind.i64.wrap ((N : Int) - (K : Int)) = (N : Int) - (K : Int) := IntWalk.i64_in _ (by omega)
                    go_region_held3 (fun _ => True) (trivial)
                      (first
                        | ((with_reducible refine (sum_len (F.take K) K hL1.out (some ⟨g, 0, none⟩) c' wr.heap.size _ hR1.drew (by simp) hB1).mono ?_); rintro e w1 ⟨rfl, hb1⟩)
                        | (have hR3 := hR2.below (below_undrew hb1); (with_reducible refine (sum_len (F.drop K) (N - K) hL2.out (some ⟨g, K, none⟩) (c' - K) wr.heap.size _ hR3 (below_undrew hb1).size hB2).mono ?_); rintro e w2 ⟨rfl, hb2⟩)
                        | (go_at_call 18; refine (join_any _ _ _ (crcm.sum_lt _) (crcm.sum_lt _) hB3 _).mono ?_; rintro e w3 ⟨rfl, rfl⟩))
                    have hcut : Hid (crcm.upk (8 * (N - K)) (crcm.sum (F.take K)) ^^^ crcm.sum (F.drop K) = crcm.sum F) := hide (by rw [← hL2.out]; exact crcm.sum_cut F K)
                    have hbw2 := (hbw.trans ((below_undrew hb1).mono hs)).trans (hb2.mono (Nat.le_trans hs (below_undrew hb1).size))
                    have hs2 := hbw2.size
                    have hown2 := own_below (own_below hown (below_undrew hb1) (fun g hg => (hown.lt g hg).2)) hb2 (fun g hg => Nat.lt_of_lt_of_le (hown.lt g hg).2 (below_undrew hb1).size)
                    have hF2 := Rd.of_own hown2
                    rw [hcut.out]
                    clear hF hown hbw hb1 hb2 hR1 hR2 hws
                    go_wp2_with fail
                    refine (sum_len F N hFN.out _ c' w2.heap.size _ hF2 (Nat.le_refl _) (by omega)).mono ?_
                    rintro e w3 ⟨rfl, hb3⟩
                    go_wp2_with fail
                    refine (works_any _).mono ?_
                    rintro e w4 ⟨rfl, hb4⟩
                    go_wp2_with fail
                    go_ret
                    exact ⟨rfl, (hbw2.trans (hb3.mono hs2)).trans (hb4.mono (Nat.le_trans hs2 hb3.size))⟩
                  · obtain rfl : N = 0 := by omega
                    obtain rfl : F = [] := List.eq_nil_of_length_eq_zero hFN.out
                    have hNc := own_cap hown
                    have hq3 : (0 : Int) ≤ (c' : Int) := by omega
                    have hs0 := hide sum_nil
                    clear hbytes
                    go_wp2
                    have tok : True := trivial
                    go_region_held3 (fun _ => True) (trivial)
                      (first
                        | (have _t := tok; (with_reducible refine (sum_len [] 0 rfl _ _ 0 _ Rd.nil_ (Nat.zero_le _) (by decide)).mono ?_); rintro e w1 ⟨rfl, hb1⟩; clear tok)
                        | ((with_reducible refine (sum_len [] 0 rfl _ _ 0 _ Rd.nil_ (Nat.zero_le _) (by decide)).mono ?_); rintro e w2 ⟨rfl, hb2⟩)
                        | (go_at_call 18; refine (join_any _ _ _ (crcm.sum_lt _) (crcm.sum_lt _) (by decide) _).mono ?_; rintro e w3 ⟨rfl, rfl⟩))
                    have hcut : Hid (crcm.upk (8 * (IntKind.i64.wrap 0).toNat) (crcm.sum []) ^^^ crcm.sum [] = crcm.sum []) := hide (by rw [hs0.out]; rfl)
                    have hbw2 := (hbw.trans ((below_undrew hb1).mono hs)).trans (hb2.mono (Nat.le_trans hs (below_undrew hb1).size))
                    have hs2 := hbw2.size
                    rw [hcut.out]
                    clear hown hbw hb1 hb2
                    go_wp2_with fail
                    refine (sum_len [] 0 rfl _ c' 0 _ Rd.nil_ (Nat.zero_le _) (by decide)).mono ?_
                    rintro e w3 ⟨rfl, hb3⟩
                    go_wp2_with fail
                    refine (works_any _).mono ?_
                    rintro e w4 ⟨rfl, hb4⟩
                    go_wp2_with fail
                    go_ret
                    exact ⟨rfl, (hbw2.trans (hb3.mono hs2)).trans (hb4.mono (Nat.le_trans hs2 hb3.size))⟩

end Go.Proofs.Ytboljjmeicnklaa
