/- What a vertex of Label sends. (printed by gen/sel.py) Messages that are put together; a row of none is sorted. (printed by gen/snd.py) -/
import Derived.Test.YtihlhkbdgbkafaaGreatSen
import Derived.Test.YtihlhkbdgbkafaaGreatLnr
import Derived.Lib.RowBridge
import Derived.Test.YtihlhkbdgbkafaaGreatSss
import Derived.Test.YtihlhkbdgbkafaaGreatAlj
import Derived.Deep.DeepCutAuto
namespace Go.Proofs.YtihlhkbdgbkafaaGreat
open Go.RowKit
set_option linter.unusedVariables false
set_option linter.unusedSimpArgs false
/-- what is sent by Label -/
def lbMs (ch : Bool) (v x : Int) (outs backs : List Ed) : List Ms := if ch = true then (nearF v outs backs).map fun u => (u, x) else []
theorem nearF_len (v : Int) (outs backs : List Ed) (n1 n2 : Nat) (h1 : outs.length = n1) (h2 : backs.length = n2) : (nearF v outs backs).length ≤ n1 + n2 := by
  unfold nearF
  refine Nat.le_trans (List.length_filter_le _ _) (Nat.le_trans (Lib.compact_length_le _) ?_)
  unfold sortI
  rw [List.length_mergeSort, List.length_append]
  simp only [tos, froms, List.length_map]
  omega
set_option maxRecDepth 100000 in
set_option maxHeartbeats 16000000 in
theorem lbsend_any (w : World) (v x : Int) (ch : Bool) (A1 A2 : Option Addr) (outs backs : List Ed) (n1 c1 n2 c2 : Nat) (h1 : outs.length = n1) (h2 : backs.length = n2) (hn1 : n1 ≤ 8192) (hn2 : n2 ≤ 8192) (e1 : Eds w w.heap.size A1 outs) (e2 : Eds w w.heap.size A2 backs) :
    Calls Tryz.prog 96 #[.agg #[], .int .i64 v, .int .i64 x, .bool ch, .slice A1 n1 c1, .slice A2 n2 c2] w (MsgPost w (lbMs ch v x outs backs)) := by
  obtain ⟨i0, hi0, hz0, hz1, hz2⟩ := info_parts (show (Tryz.prog.info? 60).map (fun i => (i.zero, i.size, i.bytes)) = some (some (.agg #[.int .i64 0, .int .i64 0]), 2, 16) by kernel_rfl)
  have hb0 := (Below.refl w.heap.size w).alloc (Nat.le_refl _) (.cells #[] 92)
  have HB := hide hb0
  have HE1 := hide (e1.next hb0)
  have HE2 := hide (e2.next hb0)
  cases ch
  · have HFin : Hid (MsgPost w (lbMs false v x outs backs) (.returned (.slice none 0 0)) (w.alloc (.cells #[] 92))) := hide ⟨none, 0, rfl, World.ownsRow_nil _ _ _ _, HB.out⟩
    clear hb0
    go_enter Tryz.func96, Tryz.ntmps96
    go_wp2
    go_ret
    exact HFin.out
  have hml := nearF_len v outs backs n1 n2 h1 h2
  have HH := hide (And.intro h1 h2)
  clear hb0 e1 e2 h1 h2
  go_enter Tryz.func96, Tryz.ntmps96
  go_wp2_with fail
  refine (near_any _ v A1 A2 outs backs n1 c1 n2 c2 HH.out.1 HH.out.2 (by omega) (by omega) HE1.out HE2.out).mono ?_
  rintro e w2 ⟨Al, cl, rfl, ho, hb⟩
  obtain ⟨l, hl⟩ : ∃ l, nearF v outs backs = l := ⟨_, rfl⟩
  rw [hl] at ho hml ⊢
  have HLl := hide hl
  obtain ⟨L, hL⟩ : ∃ L, l.length = L := ⟨_, rfl⟩
  rw [hL] at ho hml ⊢
  have HR : Hid (Rd w2 w2.heap.size Al (l.map (Value.int .i64))) := hide (Rd.of_own ho)
  have HLL := hide hL
  have HB2 := hide (HB.out.trans (hb.mono (by simp)))
  clear ho hb hl hL HE1 HE2
  go_wp2
  go_loopw [13, 23] (fun v13 v18 wr => ∃ (k : Nat) (Am : Option Addr) (cm : Nat), k ≤ L ∧ v18 = .int .i64 k ∧ v13 = .slice Am k cm ∧ Hid (wr.ownsRow w2.heap.size 60 2 (.slice Am k cm) k (msFlat ((l.map fun u => (u, x)).take k))) ∧ Hid (Below w2.heap.size w2 wr)) (fun _ v18 _ => L - (intOf v18).toNat)
  case atStart => exact ⟨0, none, 0, by omega, rfl, rfl, hide (World.ownsRow_nil _ _ _ _), hide (Below.refl _ _)⟩
  case round =>
    obtain ⟨k, Am, cm, hk, rfl, rfl, HOw, HBw⟩ := hrel
    have hsz : w2.heap.size ≤ wr.heap.size := HBw.out.size
    by_cases hlt : k < L
    · obtain ⟨y, hy⟩ : ∃ y, l[k]? = some y := ⟨_, List.getElem?_eq_getElem (by rw [HLL.out]; exact hlt)⟩
      obtain ⟨b, off, hA, hbl, hc⟩ := HR.out.at_ (k := k) (by rw [List.length_map, HLL.out]; exact hlt)
      subst hA
      have d0 : wr.cell? ⟨b, off + k, none⟩ = some (.int .i64 y) := (HBw.out.cell (p := ⟨b, off + k, none⟩) hbl).trans (hc k _ (by rw [List.getElem?_map, hy]; rfl))
      have HSN : Hid (msFlat ((l.map fun u => (u, x)).take k) ++ [.int .i64 y, .int .i64 x] = msFlat ((l.map fun u => (u, x)).take (k + 1))) := hide (by
        rw [List.take_add_one, List.getElem?_map, hy, ← msFlat_app]; rfl)
      have hI1 : (k : Int) < (L : Int) := by omega
      have hlb : b < wr.heap.size := by omega
      have hcap := own_cap HOw.out
      clear hy hc
      go_wp2_with (at_builtin; refine wpList_app rfl (.tmp 27) (.tmp 31) 55 rfl w2.heap.size 60 i0 (.agg #[.int .i64 0, .int .i64 0]) 2 16 Tryz.underlying55 hi0 hz0 hz1 hz2 rfl (by decide) (.slice Am k cm) k _ rfl (HOw.out.alloc _) (wr.heap.size + 1) (some ⟨wr.heap.size, 0, none⟩) 1 1 [.int .i64 y, .int .i64 x] rfl rfl (Rd.new _ _ _ _) (by simp [Value.oneCell']) (by unfold maxLen; omega) (by omega) (by simp; omega) ?_)
      intro A' c' y3 own3 hg3 hat3
      rw [HSN.out] at own3
      have HO3 := hide own3
      have HB3 := hide (app_below (HBw.out.alloc hsz _) (HOw.out.alloc _) hg3 (by simp; omega) (Nat.le_refl _))
      clear own3 hg3 hat3 HOw HBw d0
      go_wp2
      go_roundw
      case rel => exact ⟨k + 1, A', c', by omega, by go_num, rfl, HO3, HB3⟩
      case measure => simp [intOf]; omega
    · obtain rfl : k = L := by omega
      have HFin : Hid (MsgPost w (lbMs true v x outs backs) (.returned (.slice Am k cm)) wr) := hide (by
        have hl : (l.map fun u => (u, x)).length = k := by rw [List.length_map]; exact HLL.out
        have e9 : lbMs true v x outs backs = l.map fun u => (u, x) := by unfold lbMs; rw [if_pos rfl, HLl.out]
        refine ⟨Am, cm, by rw [e9, hl], ?_, HB2.out.trans (HBw.out.mono HB2.out.size)⟩
        rw [e9]
        have h := HOw.out
        rw [List.take_of_length_le (by rw [hl]; exact Nat.le_refl _)] at h
        rw [hl]
        exact own_base h HB2.out.size)
      go_wp2
      go_ret
      exact HFin.out
end Go.Proofs.YtihlhkbdgbkafaaGreat
namespace Go.Proofs.YtihlhkbdgbkafaaGreat
open Go.RowKit
set_option linter.unusedVariables false
set_option linter.unusedSimpArgs false
/-- messages put together, those that are neighbours with one To -/
def putM (k : Int) (acc : List Ms) (m : Ms) : List Ms := match acc.getLast? with
  | some a => if a.1 = m.1 then acc.dropLast ++ [(a.1, combF k a.2 m.2)] else acc ++ [m]
  | none => [m]
def foldM (k : Int) (l : List Ms) : List Ms := l.foldl (putM k) []
theorem foldM_snoc (k : Int) (l : List Ms) (m : Ms) : foldM k (l ++ [m]) = putM k (foldM k l) m := by simp [foldM, List.foldl_append]
theorem foldM_take (k : Int) {d : List Ms} {i : Nat} {m : Ms} (h : d[i]? = some m) : foldM k (d.take (i + 1)) = putM k (foldM k (d.take i)) m := by
  rw [List.take_add_one, h]; exact foldM_snoc k _ m
theorem putM_none {k : Int} {acc : List Ms} {m : Ms} (h : acc.length = 0) : putM k acc m = acc ++ [m] := by
  obtain rfl := List.eq_nil_of_length_eq_zero h
  rfl
theorem putM_far {k : Int} {acc : List Ms} {m a : Ms} {q : Nat} (h : acc.length = q + 1) (ha : acc[q]? = some a) (hne : ¬ a.1 = m.1) : putM k acc m = acc ++ [m] := by
  have : acc.getLast? = some a := by rw [List.getLast?_eq_getElem?, h]; exact ha
  unfold putM
  rw [this]
  exact if_neg hne
theorem putM_same {k : Int} {acc : List Ms} {m a : Ms} {q : Nat} (h : acc.length = q + 1) (ha : acc[q]? = some a) (he : a.1 = m.1) : putM k acc m = acc.set q (a.1, combF k a.2 m.2) := by
  have h1 : acc.getLast? = some a := by rw [List.getLast?_eq_getElem?, h]; exact ha
  unfold putM
  rw [h1]
  show (if a.1 = m.1 then _ else _) = _
  rw [if_pos he]
  refine List.ext_getElem? fun t => ?_
  rw [List.getElem?_set, h]
  have hd : acc.dropLast.length = q := by simp [h]
  by_cases c1 : q = t
  · subst c1
    rw [if_pos rfl, if_pos (by omega), List.getElem?_append_right (by omega), hd]
    simp
  · rw [if_neg c1]
    by_cases c2 : t < q
    · rw [List.getElem?_append_left (by omega), List.getElem?_dropLast, if_pos (by omega)]
    · rw [List.getElem?_append_right (by omega), hd, List.getElem?_eq_none (by simp; omega), List.getElem?_eq_none (by omega)]
theorem key_to (d : List Ms) : KeyOn ltF (fun m : Ms => m.1) d := fun x y _ _ => by
  unfold ltF cmpI cmpOf
  by_cases h1 : x.1 < y.1
  · simp [h1]
  · by_cases h2 : y.1 < x.1
    · simp [h1, h2]
    · simp [h1, h2]
set_option maxRecDepth 100000 in
set_option maxHeartbeats 4000000 in
theorem ins0_any (w : World) (A : Option Addr) (c : Nat) : Calls Tryz.prog 62 #[.slice A 0 c, .int .i64 0, .int .i64 0, .func (.func 45) #[] #[]] w fun e w' => e = .returned (.tuple #[]) ∧ w = w' := by
  go_enter Tryz.func62, Tryz.ntmps62
  go_wp2
  go_loopw [8] (fun v8 wr => v8 = .int .i64 1 ∧ wr = w) (fun _ _ => 0)
  case atStart => exact ⟨rfl, rfl⟩
  case round =>
    obtain ⟨rfl, e⟩ := hrel
    go_wp2
    go_end0
    exact ⟨rfl, by first | rfl | exact e.symm⟩
set_option maxRecDepth 100000 in
set_option maxHeartbeats 4000000 in
theorem stb0_any (w : World) (A : Option Addr) (c : Nat) : Calls Tryz.prog 58 #[.slice A 0 c, .int .i64 0, .func (.func 45) #[] #[]] w fun e w' => e = .returned (.tuple #[]) ∧ w = w' := by
  go_enter Tryz.func58, Tryz.ntmps58
  go_wp2
  go_loopw [7, 8] (fun v7 v8 wr => v7 = .int .i64 0 ∧ v8 = .int .i64 20 ∧ wr = w) (fun _ _ _ => 0)
  case atStart => exact ⟨rfl, rfl, rfl⟩
  case round =>
    obtain ⟨rfl, rfl, rfl⟩ := hrel
    go_wp2_with fail
    refine (ins0_any _ A c).mono ?_
    rintro _ w1 ⟨rfl, rfl⟩
    go_wp2
    go_loopw [6] (fun v6 w2 => v6 = .int .i64 20 ∧ w2 = wr) (fun _ _ => 0)
    case atStart => exact ⟨rfl, rfl⟩
    case round =>
      obtain ⟨rfl, e⟩ := hrel
      go_wp2
      go_end0
      exact ⟨rfl, by first | rfl | exact e.symm⟩
set_option maxRecDepth 100000 in
set_option maxHeartbeats 4000000 in
theorem sort0_any (w : World) (A : Option Addr) (c : Nat) : Calls Tryz.prog 44 #[.slice A 0 c, .func (.func 45) #[] #[]] w fun e w' => e = .returned (.tuple #[]) ∧ w = w' := by
  go_enter Tryz.func44, Tryz.ntmps44
  go_wp2_with fail
  refine (stb0_any _ A c).mono ?_
  rintro _ w1 ⟨rfl, rfl⟩
  go_wp2
  go_end0
  exact ⟨rfl, rfl⟩
end Go.Proofs.YtihlhkbdgbkafaaGreat
