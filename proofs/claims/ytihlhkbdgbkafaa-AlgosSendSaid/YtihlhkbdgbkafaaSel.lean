/- What a vertex of Label sends. (printed by gen/sel.py) -/
import Derived.Test.YtihlhkbdgbkafaaSen
import Derived.Test.YtihlhkbdgbkafaaLnr
import Derived.Lib.RowBridge
namespace Go.Proofs.Ytihlhkbdgbkafaa
open Go.RowKit
set_option linter.unusedVariables false
set_option linter.unusedSimpArgs false
/-- what is sent by Label -/
def lbMs (ch : Bool) (v x : Int) (outs backs : List Ed) : List Ms := if ch = true then (nearF v outs backs).map fun u => (u, x) else []
theorem nearF_len (v : Int) (outs backs : List Ed) (n1 n2 : Nat) (h1 : outs.length = n1) (h2 : backs.length = n2) : (nearF v outs backs).length ≤ n1 + n2 := by
  unfold nearF
  refine Nat.le_trans (List.length_filter_le _ _) (Nat.le_trans (Lib.compact_length_le _) ?_)
  unfold sortI
  rw [List.length_mergeSort, List.length_append]
  simp only [tos, froms, List.length_map]
  omega
set_option maxRecDepth 100000 in
set_option maxHeartbeats 16000000 in
theorem lbsend_any (w : World) (v x : Int) (ch : Bool) (A1 A2 : Option Addr) (outs backs : List Ed) (n1 c1 n2 c2 : Nat) (h1 : outs.length = n1) (h2 : backs.length = n2) (hn1 : n1 ≤ 8192) (hn2 : n2 ≤ 8192) (e1 : Eds w w.heap.size A1 outs) (e2 : Eds w w.heap.size A2 backs) :
    Calls Try.prog 95 #[.agg #[], .int .i64 v, .int .i64 x, .bool ch, .slice A1 n1 c1, .slice A2 n2 c2] w (MsgPost w (lbMs ch v x outs backs)) := by
  obtain ⟨i0, hi0, hz0, hz1, hz2⟩ := info_parts (show (Try.prog.info? 44).map (fun i => (i.zero, i.size, i.bytes)) = some (some (.agg #[.int .i64 0, .int .i64 0]), 2, 16) by kernel_rfl)
  have hb0 := (Below.refl w.heap.size w).alloc (Nat.le_refl _) (.cells #[] 91)
  have HB := hide hb0
  have HE1 := hide (e1.next hb0)
  have HE2 := hide (e2.next hb0)
  cases ch
  · have HFin : Hid (MsgPost w (lbMs false v x outs backs) (.returned (.slice none 0 0)) (w.alloc (.cells #[] 91))) := hide ⟨none, 0, rfl, World.ownsRow_nil _ _ _ _, HB.out⟩
    clear hb0
    go_enter Try.func95, Try.ntmps95
    go_wp2
    go_ret
    exact HFin.out
  have hml := nearF_len v outs backs n1 n2 h1 h2
  have HH := hide (And.intro h1 h2)
  clear hb0 e1 e2 h1 h2
  go_enter Try.func95, Try.ntmps95
  go_wp2_with fail
  refine (near_any _ v A1 A2 outs backs n1 c1 n2 c2 HH.out.1 HH.out.2 (by omega) (by omega) HE1.out HE2.out).mono ?_
  rintro e w2 ⟨Al, cl, rfl, ho, hb⟩
  obtain ⟨l, hl⟩ : ∃ l, nearF v outs backs = l := ⟨_, rfl⟩
  rw [hl] at ho hml ⊢
  have HLl := hide hl
  obtain ⟨L, hL⟩ : ∃ L, l.length = L := ⟨_, rfl⟩
  rw [hL] at ho hml ⊢
  have HR : Hid (Rd w2 w2.heap.size Al (l.map (Value.int .i64))) := hide (Rd.of_own ho)
  have HLL := hide hL
  have HB2 := hide (HB.out.trans (hb.mono (by simp)))
  clear ho hb hl hL HE1 HE2
  go_wp2
  go_loopw [13, 23] (fun v13 v18 wr => ∃ (k : Nat) (Am : Option Addr) (cm : Nat), k ≤ L ∧ v18 = .int .i64 k ∧ v13 = .slice Am k cm ∧ Hid (wr.ownsRow w2.heap.size 44 2 (.slice Am k cm) k (msFlat ((l.map fun u => (u, x)).take k))) ∧ Hid (Below w2.heap.size w2 wr)) (fun _ v18 _ => L - (intOf v18).toNat)
  case atStart => exact ⟨0, none, 0, by omega, rfl, rfl, hide (World.ownsRow_nil _ _ _ _), hide (Below.refl _ _)⟩
  case round =>
    obtain ⟨k, Am, cm, hk, rfl, rfl, HOw, HBw⟩ := hrel
    have hsz : w2.heap.size ≤ wr.heap.size := HBw.out.size
    by_cases hlt : k < L
    · obtain ⟨y, hy⟩ : ∃ y, l[k]? = some y := ⟨_, List.getElem?_eq_getElem (by rw [HLL.out]; exact hlt)⟩
      obtain ⟨b, off, hA, hbl, hc⟩ := HR.out.at_ (k := k) (by rw [List.length_map, HLL.out]; exact hlt)
      subst hA
      have d0 : wr.cell? ⟨b, off + k, none⟩ = some (.int .i64 y) := (HBw.out.cell (p := ⟨b, off + k, none⟩) hbl).trans (hc k _ (by rw [List.getElem?_map, hy]; rfl))
      have HSN : Hid (msFlat ((l.map fun u => (u, x)).take k) ++ [.int .i64 y, .int .i64 x] = msFlat ((l.map fun u => (u, x)).take (k + 1))) := hide (by
        rw [List.take_add_one, List.getElem?_map, hy, ← msFlat_app]; rfl)
      have hI1 : (k : Int) < (L : Int) := by omega
      have hlb : b < wr.heap.size := by omega
      have hcap := own_cap HOw.out
      clear hy hc
      go_wp2_with (at_builtin; refine wpList_app rfl (.tmp 27) (.tmp 31) 39 rfl w2.heap.size 44 i0 (.agg #[.int .i64 0, .int .i64 0]) 2 16 Try.underlying39 hi0 hz0 hz1 hz2 rfl (by decide) (.slice Am k cm) k _ rfl (HOw.out.alloc _) (wr.heap.size + 1) (some ⟨wr.heap.size, 0, none⟩) 1 1 [.int .i64 y, .int .i64 x] rfl rfl (Rd.new _ _ _ _) (by simp [Value.oneCell']) (by unfold maxLen; omega) (by omega) (by simp; omega) ?_)
      intro A' c' y3 own3 hg3 hat3
      rw [HSN.out] at own3
      have HO3 := hide own3
      have HB3 := hide (app_below (HBw.out.alloc hsz _) (HOw.out.alloc _) hg3 (by simp; omega) (Nat.le_refl _))
      clear own3 hg3 hat3 HOw HBw d0
      go_wp2
      go_roundw
      case rel => exact ⟨k + 1, A', c', by omega, by go_num, rfl, HO3, HB3⟩
      case measure => simp [intOf]; omega
    · obtain rfl : k = L := by omega
      have HFin : Hid (MsgPost w (lbMs true v x outs backs) (.returned (.slice Am k cm)) wr) := hide (by
        have hl : (l.map fun u => (u, x)).length = k := by rw [List.length_map]; exact HLL.out
        have e9 : lbMs true v x outs backs = l.map fun u => (u, x) := by unfold lbMs; rw [if_pos rfl, HLl.out]
        refine ⟨Am, cm, by rw [e9, hl], ?_, HB2.out.trans (HBw.out.mono HB2.out.size)⟩
        rw [e9]
        have h := HOw.out
        rw [List.take_of_length_le (by rw [hl]; exact Nat.le_refl _)] at h
        rw [hl]
        exact own_base h HB2.out.size)
      go_wp2
      go_ret
      exact HFin.out
end Go.Proofs.Ytihlhkbdgbkafaa
