/- What is sent where there is no program. (printed by gen/sn0.py) What a vertex sends: of the program and of the document, for every kind. The walk of the statement AlgosSend. (printed by gen/sej.py) -/
import Derived.Test.YtihlhkbdgbkafaaGreatAlj
import Derived.Test.YtihlhkbdgbkafaaGreatSrd
import Derived.Test.YtihlhkbdgbkafaaGreatSnw
import Derived.Test.YtihlhkbdgbkafaaGreatAwk
import Derived.Test.YtihlhkbdgbkafaaGreatSmm
import Derived.Test.YtihlhkbdgbkafaaGreatSme
import Derived.Test.YtihlhkbdgbkafaaGreatOjb
namespace Go.Proofs.YtihlhkbdgbkafaaGreat
open Go.RowKit
set_option linter.unusedVariables false
set_option linter.unusedSimpArgs false
set_option maxRecDepth 100000 in
set_option maxHeartbeats 4000000 in
theorem snd0_any (w : World) (k j1 j2 j3 j4 v y : Int) (k1 : ¬ k = 1) (k2 : ¬ k = 2) (k3 : ¬ k = 3) (ch : Bool) (A B : Value) :
    Calls Tryz.prog 27 #[.agg #[.int .u8 k, .int .i64 j1, .int .i64 j2, .int .i64 j3, .int .i64 j4], .int .i64 v, .int .i64 y, .bool ch, A, B] w fun e w' => e = .returned (.slice none 0 0) ∧ Below w.heap.size w w' := by
  obtain ⟨u, hu⟩ : ∃ u, w.alloc (.cells #[.int .u8 k, .int .i64 j1, .int .i64 j2, .int .i64 j3, .int .i64 j4] 28) = u := ⟨_, rfl⟩
  have hzu : u.heap.size = w.heap.size + 1 := by rw [← hu]; simp
  have HBu : Hid (Below w.heap.size w u) := hide (by rw [← hu]; exact (Below.refl _ _).alloc (Nat.le_refl _) _)
  have M0 := hide (show u.heap[w.heap.size]? = some (.cells #[.int .u8 k, .int .i64 j1, .int .i64 j2, .int .i64 j3, .int .i64 j4] 28) by rw [← hu]; exact heap_alloc_last _ _)
  have HU := hide hu
  clear hu
  have c0 : u.cell? ⟨w.heap.size, 0, none⟩ = some (.int .u8 k) := cell_of_row _ _ 0 _ _ _ M0.out
  have c1 : u.cell? ⟨w.heap.size, 1, none⟩ = some (.int .i64 j1) := cell_of_row _ _ 1 _ _ _ M0.out
  have c2 : u.cell? ⟨w.heap.size, 2, none⟩ = some (.int .i64 j2) := cell_of_row _ _ 2 _ _ _ M0.out
  have c3 : u.cell? ⟨w.heap.size, 3, none⟩ = some (.int .i64 j3) := cell_of_row _ _ 3 _ _ _ M0.out
  have c4 : u.cell? ⟨w.heap.size, 4, none⟩ = some (.int .i64 j4) := cell_of_row _ _ 4 _ _ _ M0.out
  go_enter Tryz.func27, Tryz.ntmps27
  go_wp2_with fail
  rw [HU.out]
  refine (of0 _ k k1 k2 k3 j1 j2 j3 j4).mono ?_
  rintro _ w1 ⟨rfl, hb⟩
  have HB1 := hide (HBu.out.trans (hb.mono (by omega)))
  clear hb c0 c1 c2 c3 c4
  go_wp2
  go_ret
  exact ⟨rfl, HB1.out⟩
end Go.Proofs.YtihlhkbdgbkafaaGreat
namespace Go.Proofs.YtihlhkbdgbkafaaGreat
open Go.RowKit
set_option linter.unusedVariables false
set_option linter.unusedSimpArgs false
def sndL (k : Int) (ch : Bool) (v y : Int) (outs backs : List Ed) : List Ms := if k = 1 then rkMs y outs else if k = 2 then lbMs ch v y outs backs else if k = 3 then wyMs ch y outs else []
def sndD (k : Int) (ch : Bool) (v y : Int) (outs backs : List Ed) : List Ms := docM k (sndL k ch v y outs backs)
theorem docM_len (k : Int) (l : List Ms) : (docM k l).length ≤ l.length := by
  have h : ∀ (l acc : List Ms), (l.foldl (addM k) acc).length ≤ acc.length + l.length := by
    intro l
    induction l with
    | nil => intro acc; exact Nat.le_refl _
    | cons m l ih =>
      intro acc
      have h1 := ih (addM k acc m)
      have h2 := add_len k m acc
      rw [List.foldl_cons, List.length_cons]
      omega
  have := h l []
  simpa [docM] using this
theorem sndL_len (k : Int) (ch : Bool) (v y : Int) (outs backs : List Ed) : (sndL k ch v y outs backs).length ≤ outs.length + backs.length := by
  unfold sndL
  split
  · unfold rkMs; rw [List.length_map]; omega
  · split
    · unfold lbMs
      split
      · rw [List.length_map]; exact nearF_len v outs backs _ _ rfl rfl
      · exact Nat.zero_le _
    · split
      · unfold wyMs
        split
        · rw [List.length_map]; omega
        · exact Nat.zero_le _
      · exact Nat.zero_le _
theorem sndD_len (k : Int) (ch : Bool) (v y : Int) (outs backs : List Ed) : (sndD k ch v y outs backs).length ≤ outs.length + backs.length := Nat.le_trans (docM_len _ _) (sndL_len _ _ _ _ _ _)
theorem docM_rise (k : Int) (l : List Ms) : Rise (docM k l) := (doc_ok k l [] [] List.Pairwise.nil (holds_nil k)).1
theorem sndD_rise (k : Int) (ch : Bool) (v y : Int) (outs backs : List Ed) : Rise (sndD k ch v y outs backs) := docM_rise _ _
/-- a row of messages that is answered -/
def SdPost (w : World) (l : List Ms) (e : Ending) (w' : World) : Prop := ∃ A c, e = .returned (.slice A l.length c) ∧ Mss w' w'.heap.size A l ∧ Below w.heap.size w w'
theorem SndPost.doc {k : Int} {w : World} {l : List Ms} {e : Ending} {w' : World} (h : SndPost k w l e w') : SdPost w (docM k l) e w' := by
  obtain ⟨d, hd, A, c, he, hm, hb⟩ := h
  rw [snd_doc hd] at he hm
  exact ⟨A, c, he, hm, hb⟩
theorem RmPost.sd {w : World} {l : List Ms} {e : Ending} {w' : World} (h : RmPost w l e w') : SdPost w l e w' := by
  obtain ⟨A, c, he, hm, _, _, hb⟩ := h
  exact ⟨A, c, he, Mss.of_rd hm, hb⟩
theorem asend_any (w : World) (k j1 j2 j3 j4 v y : Int) (ch : Bool) (A A9 : Option Addr) (es fs : List Ed) (Le c Lf c9 : Nat) (hL : es.length = Le) (hF : fs.length = Lf) (hE : Eds w w.heap.size A es) (hE9 : Eds w w.heap.size A9 fs) (hLe : Le ≤ 200) (hLf : Lf ≤ 200) (hy : -9223372036854775808 ≤ y ∧ y ≤ 9223372036854775807) :
    Calls Tryz.prog 27 #[.agg #[.int .u8 k, .int .i64 j1, .int .i64 j2, .int .i64 j3, .int .i64 j4], .int .i64 v, .int .i64 y, .bool ch, .slice A Le c, .slice A9 Lf c9] w (SdPost w (sndD k ch v y es fs)) := by
  by_cases k1 : k = 1
  · subst k1
    exact (snd1_any w j1 j2 j3 j4 v y ch A es Le c _ hL hE (by omega) hy).mono fun e w' h => h.doc
  by_cases k2 : k = 2
  · subst k2
    exact (snd2_any w j1 j2 j3 j4 v y ch A A9 es fs Le c Lf c9 hL hF hE hE9 (by omega) hy).mono fun e w' h => h.doc
  by_cases k3 : k = 3
  · subst k3
    exact (snd3_any w j1 j2 j3 j4 v y ch A es Le c _ hL hE (by omega) hy).mono fun e w' h => h.doc
  refine (snd0_any w k j1 j2 j3 j4 v y k1 k2 k3 ch _ _).mono fun e w' h => ?_
  obtain ⟨rfl, hb⟩ := h
  have h0 : sndD k ch v y es fs = [] := by unfold sndD sndL; rw [if_neg k1, if_neg k2, if_neg k3]; rfl
  rw [h0]
  exact ⟨none, 0, rfl, fun h => absurd rfl h, hb⟩
theorem rsend_any (w : World) (k j1 j2 j3 j4 v y : Int) (ch : Bool) (A A9 : Option Addr) (es fs : List Ed) (Le c Lf c9 : Nat) (hL : es.length = Le) (hF : fs.length = Lf) (hE : Eds w w.heap.size A es) (hE9 : Eds w w.heap.size A9 fs) (hLe : Le ≤ 200) (hLf : Lf ≤ 200) (hy : -9223372036854775808 ≤ y ∧ y ≤ 9223372036854775807) :
    Calls Tryz.prog 29 #[.agg #[.int .u8 k, .int .i64 j1, .int .i64 j2, .int .i64 j3, .int .i64 j4], .int .i64 v, .int .i64 y, .bool ch, .slice A Le c, .slice A9 Lf c9] w (SdPost w (sndD k ch v y es fs)) := by
  by_cases k1 : k = 1
  · subst k1
    exact (rsend1_any w j1 j2 j3 j4 v y ch A es Le c _ hL hE (by omega) hy).mono fun e w' h => h.sd
  by_cases k2 : k = 2
  · subst k2
    have hd : sndD 2 ch v y es fs = lbMs ch v y es fs := lb_doc _ _ _ _ _
    rw [hd]
    cases ch
    · exact (rsend2f_any w j1 j2 j3 j4 v y A Le c _ (by omega)).mono fun e w' h => h.sd
    · exact (rsend2_any w j1 j2 j3 j4 v y A A9 es fs Le c Lf c9 hL hF (by omega) (by omega) hE hE9).mono fun e w' h => h.sd
  by_cases k3 : k = 3
  · subst k3
    cases ch
    · exact (rsend3f_any w j1 j2 j3 j4 v y A Le c _ (by omega)).mono fun e w' h => h.sd
    · exact (rsend3_any w j1 j2 j3 j4 v y A es Le c _ hL hE (by omega)).mono fun e w' h => h.sd
  have h0 : sndD k ch v y es fs = [] := by unfold sndD sndL; rw [if_neg k1, if_neg k2, if_neg k3]; rfl
  rw [h0]
  exact (rsend0_any w k j1 j2 j3 j4 v y ch A Le c _ (by omega) k1 k2 k3).mono fun e w' h => h.sd
end Go.Proofs.YtihlhkbdgbkafaaGreat
namespace Go.Proofs.YtihlhkbdgbkafaaGreat
open Go.ChangeShapes Go.WideShapes Go.ChangeAt Go.RowKit
set_option linter.unusedVariables false
set_option linter.unusedSimpArgs false
set_option maxRecDepth 100000 in
set_option maxHeartbeats 16000000 in
theorem algosSend_go (w : World) (k j1 j2 j3 j4 v y : Int) (hy : -9223372036854775808 ≤ y ∧ y ≤ 9223372036854775807) (ch : Bool) (A1 A2 : Option Addr) (outs backs : List Ed) (n1 c1 n2 c2 : Nat) (h1 : outs.length = n1) (h2 : backs.length = n2) (e1 : Eds w w.heap.size A1 outs) (e2 : Eds w w.heap.size A2 backs) :
    Calls Tryz.prog 9 #[.agg #[.int .u8 k, .int .i64 j1, .int .i64 j2, .int .i64 j3, .int .i64 j4], .int .i64 v, .int .i64 y, .bool ch, .slice A1 n1 c1, .slice A2 n2 c2] w fun e w' => e = .returned (.bool true) ∧ Below w.heap.size w w' := by
  obtain ⟨i0, hi0, hz0, hz1, hz2⟩ := info_parts (show (Tryz.prog.info? 39).map (fun i => (i.zero, i.size, i.bytes)) = some (some (.agg #[.int .i64 0, .int .i64 0, .int .i64 0]), 3, 24) by kernel_rfl)
  obtain ⟨u, hu⟩ : ∃ u, w.alloc (.cells #[.int .u8 k, .int .i64 j1, .int .i64 j2, .int .i64 j3, .int .i64 j4] 28) = u := ⟨_, rfl⟩
  have hzu : u.heap.size = w.heap.size + 1 := by rw [← hu]; simp
  have HBu : Hid (Below w.heap.size w u) := hide (by rw [← hu]; exact (Below.refl _ _).alloc (Nat.le_refl _) _)
  have M0 := hide (show u.heap[w.heap.size]? = some (.cells #[.int .u8 k, .int .i64 j1, .int .i64 j2, .int .i64 j3, .int .i64 j4] 28) by rw [← hu]; exact heap_alloc_last _ _)
  have HU := hide hu
  have HE1 := hide (e1.next HBu.out)
  have HE2 := hide (e2.next HBu.out)
  have HL1 := hide h1
  have HL2 := hide h2
  have hl0 : w.heap.size < u.heap.size := by omega
  have hsw : w.heap.size ≤ u.heap.size := by omega
  clear hu hzu e1 e2 h1 h2
  by_cases g1 : 100 < n1
  · have q1 : (100 : Int) < (n1 : Int) := by omega
    go_enter Tryz.func9, Tryz.ntmps9
    go_wp2_with fail
    rw [HU.out]
    refine (works_any _).mono ?_
    rintro e y2 ⟨rfl, k2⟩
    have K2 := hide (HBu.out.trans (k2.mono (by omega)))
    clear k2
    go_wp2
    go_ret
    exact ⟨rfl, K2.out⟩
  by_cases g2 : 100 < n2
  · have q1 : ¬ (100 : Int) < (n1 : Int) := by omega
    have q2 : (100 : Int) < (n2 : Int) := by omega
    go_enter Tryz.func9, Tryz.ntmps9
    go_wp2_with fail
    rw [HU.out]
    refine (works_any _).mono ?_
    rintro e y2 ⟨rfl, k2⟩
    have K2 := hide (HBu.out.trans (k2.mono (by omega)))
    clear k2
    go_wp2
    go_ret
    exact ⟨rfl, K2.out⟩
  have q1 : ¬ (100 : Int) < (n1 : Int) := by omega
  have q2 : ¬ (100 : Int) < (n2 : Int) := by omega
  have c0 : u.cell? ⟨w.heap.size, 0, none⟩ = some (.int .u8 k) := cell_of_row _ _ 0 _ _ _ M0.out
  have cc1 : u.cell? ⟨w.heap.size, 1, none⟩ = some (.int .i64 j1) := cell_of_row _ _ 1 _ _ _ M0.out
  have cc2 : u.cell? ⟨w.heap.size, 2, none⟩ = some (.int .i64 j2) := cell_of_row _ _ 2 _ _ _ M0.out
  have c3 : u.cell? ⟨w.heap.size, 3, none⟩ = some (.int .i64 j3) := cell_of_row _ _ 3 _ _ _ M0.out
  have c4 : u.cell? ⟨w.heap.size, 4, none⟩ = some (.int .i64 j4) := cell_of_row _ _ 4 _ _ _ M0.out
  have HRd1 := hide (Eds.rd HE1.out)
  have HRd2 := hide (Eds.rd HE2.out)
  have HW1 := hide (Eds.wt HE1.out)
  have HW2 := hide (Eds.wt HE2.out)
  have hsl := sndD_len k ch v y outs backs
  have HRise := hide (sndD_rise k ch v y outs backs)
  obtain ⟨l, hl⟩ : ∃ l, sndD k ch v y outs backs = l := ⟨_, rfl⟩
  rw [hl, HL1.out, HL2.out] at hsl
  rw [hl] at HRise
  have HLl := hide hl
  obtain ⟨L, hL⟩ : ∃ L, l.length = L := ⟨_, rfl⟩
  rw [hL] at hsl
  have HLL := hide hL
  clear hl hL
  go_enter Tryz.func9, Tryz.ntmps9
  go_upto_region 4 with fail
  rw [HU.out]
  go_upto_region 5 with (at_builtin; refine wpList_app rfl (.tmp 26) (.tmp 27) 22 rfl u.heap.size 39 i0 (.agg #[.int .i64 0, .int .i64 0, .int .i64 0]) 3 24 Tryz.underlying22 hi0 hz0 hz1 hz2 rfl (by decide) (.slice none 0 0) 0 [] rfl (World.ownsRow_nil _ _ _ _) u.heap.size A1 n1 _ (edFlat outs) rfl (by rw [edFlat_len, HL1.out]) HRd1.out (edFlat_one _) (by unfold maxLen; omega) (by omega) (Nat.le_refl _) ?_)
  intro B1 b1 w1 hown1 hg1 hat1
  try simp only [Nat.zero_add, List.nil_append] at hown1
  have HO1 := hide hown1
  have HB1 : Hid (Below u.heap.size u w1) := hide ((Below.refl _ u).grown hg1 (Nat.le_refl _) (fun k e => by cases e))
  have hs1 := HB1.out.size
  clear hown1 hg1 hat1
  go_upto_region 6 with (at_builtin; refine wpList_app rfl (.tmp 29) (.tmp 30) 22 rfl w1.heap.size 39 i0 (.agg #[.int .i64 0, .int .i64 0, .int .i64 0]) 3 24 Tryz.underlying22 hi0 hz0 hz1 hz2 rfl (by decide) (.slice none 0 0) 0 [] rfl (World.ownsRow_nil _ _ _ _) u.heap.size A2 n2 _ (edFlat backs) rfl (by rw [edFlat_len, HL2.out]) (HRd2.out.below HB1.out) (edFlat_one _) (by unfold maxLen; omega) (by omega) (Nat.le_refl _) ?_)
  intro B2 b2 w2 hown2 hg2 hat2
  try simp only [Nat.zero_add, List.nil_append] at hown2
  have HB12 : Hid (Below w1.heap.size w1 w2) := hide ((Below.refl _ w1).grown hg2 (Nat.le_refl _) (fun k e => by cases e))
  have HB2 : Hid (Below u.heap.size u w2) := hide (HB1.out.trans (HB12.out.mono hs1))
  have hs2 := HB2.out.size
  have HEa : Hid (Eds w2 w2.heap.size B1 outs) := hide (Eds.of_rd ((Rd.of_own HO1.out).next HB12.out) HW1.out)
  have HEb : Hid (Eds w2 w2.heap.size B2 backs) := hide (Eds.of_rd (Rd.of_own hown2) HW2.out)
  have HEo : Hid (Eds w2 w2.heap.size A1 outs) := hide ((HE1.out.next HB1.out).next HB12.out)
  have HEk : Hid (Eds w2 w2.heap.size A2 backs) := hide ((HE2.out.next HB1.out).next HB12.out)
  have c0 := (HB2.out.cell (p := ⟨w.heap.size, 0, none⟩) hl0).trans c0
  have cc1 := (HB2.out.cell (p := ⟨w.heap.size, 1, none⟩) hl0).trans cc1
  have cc2 := (HB2.out.cell (p := ⟨w.heap.size, 2, none⟩) hl0).trans cc2
  have c3 := (HB2.out.cell (p := ⟨w.heap.size, 3, none⟩) hl0).trans c3
  have c4 := (HB2.out.cell (p := ⟨w.heap.size, 4, none⟩) hl0).trans c4
  have hl2 : w.heap.size < w2.heap.size := by omega
  clear hown2 hg2 hat2 HO1
  go_wp2_with fail
  have hc := asend_any w2 k j1 j2 j3 j4 v y ch B1 B2 outs backs n1 b1 n2 b2 HL1.out HL2.out HEa.out HEb.out (by omega) (by omega) hy
  rw [HLl.out] at hc
  refine hc.mono ?_
  clear hc
  rintro e w3 ⟨Al, cl, rfl, hm3, hb3⟩
  rw [HLL.out]
  have HM3 := hide hm3
  have HB23 := hide hb3
  have HB3 : Hid (Below u.heap.size u w3) := hide (HB2.out.trans (hb3.mono hs2))
  have HEa := hide (HEa.out.next hb3)
  have HEb := hide (HEb.out.next hb3)
  have HEo := hide (HEo.out.next hb3)
  have HEk := hide (HEk.out.next hb3)
  have c0 := (hb3.cell (p := ⟨w.heap.size, 0, none⟩) hl2).trans c0
  have cc1 := (hb3.cell (p := ⟨w.heap.size, 1, none⟩) hl2).trans cc1
  have cc2 := (hb3.cell (p := ⟨w.heap.size, 2, none⟩) hl2).trans cc2
  have c3 := (hb3.cell (p := ⟨w.heap.size, 3, none⟩) hl2).trans c3
  have c4 := (hb3.cell (p := ⟨w.heap.size, 4, none⟩) hl2).trans c4
  have hs3 := HB3.out.size
  clear hm3 hb3
  go_wp2_with fail
  have hc := rsend_any w3 k j1 j2 j3 j4 v y ch A1 A2 outs backs n1 c1 n2 c2 HL1.out HL2.out HEo.out HEk.out (by omega) (by omega) hy
  rw [HLl.out] at hc
  refine hc.mono ?_
  clear hc
  rintro e w4 ⟨Ar, cr, rfl, hm4, hb4⟩
  rw [HLL.out]
  have HM4 := hide hm4
  have HM3 := hide (HM3.out.next hb4)
  have HB4 : Hid (Below u.heap.size u w4) := hide (HB3.out.trans (hb4.mono hs3))
  have HEa := hide (HEa.out.next hb4)
  have HEb := hide (HEb.out.next hb4)
  have HEo := hide (HEo.out.next hb4)
  have HEk := hide (HEk.out.next hb4)
  have hs4 := HB4.out.size
  clear hm4 hb4 c0 cc1 cc2 c3 c4
  go_wp2_with fail
  have hc := sameMsgs_any w4 Al Ar l l L L cl cr HLL.out HLL.out (by omega) HM3.out HM4.out
  rw [eqL_self] at hc
  refine hc.mono ?_
  clear hc
  rintro e w5 ⟨rfl, hb5⟩
  have HM5 := hide (HM3.out.next hb5)
  have HB5 : Hid (Below u.heap.size u w5) := hide (HB4.out.trans (hb5.mono hs4))
  have HEa := hide (HEa.out.next hb5)
  have HEb := hide (HEb.out.next hb5)
  have HEo := hide (HEo.out.next hb5)
  have HEk := hide (HEk.out.next hb5)
  have hs5 := HB5.out.size
  clear hb5 HM3 HM4
  go_wp2_with fail
  have hc := sameEdges_any w5 B1 A1 outs outs n1 n1 b1 c1 HL1.out HL1.out (by omega) HEa.out HEo.out
  rw [eqL_self] at hc
  refine hc.mono ?_
  clear hc
  rintro e w6 ⟨rfl, hb6⟩
  have HM6 := hide (HM5.out.next hb6)
  have HB6 : Hid (Below u.heap.size u w6) := hide (HB5.out.trans (hb6.mono hs5))
  have HEb := hide (HEb.out.next hb6)
  have HEk := hide (HEk.out.next hb6)
  have hs6 := HB6.out.size
  clear hb6 HM5 HEa HEo
  go_wp2_with fail
  have hc := sameEdges_any w6 B2 A2 backs backs n2 n2 b2 c2 HL2.out HL2.out (by omega) HEb.out HEk.out
  rw [eqL_self] at hc
  refine hc.mono ?_
  clear hc
  rintro e w7 ⟨rfl, hb7⟩
  have HM7 := hide (HM6.out.next hb7)
  have HB7 : Hid (Below u.heap.size u w7) := hide (HB6.out.trans (hb7.mono hs6))
  have hs7 := HB7.out.size
  clear hb7 HM6 HEb HEk
  go_wp2
  go_loopw [16] (fun v16 wr => ∃ i : Nat, 1 ≤ i ∧ (i ≤ L ∨ i = 1) ∧ v16 = .int .i64 i ∧ Hid (Below w7.heap.size w7 wr)) (fun v16 _ => L - (intOf v16).toNat)
  case atStart => exact ⟨1, by omega, by omega, rfl, hide (Below.refl _ _)⟩
  case round =>
    obtain ⟨i, hi1, hi, rfl, HBr⟩ := hrel
    have hsr := HBr.out.size
    by_cases hlt : i < L
    · obtain ⟨j, hj⟩ : ∃ j, i = j + 1 := ⟨i - 1, by omega⟩
      obtain ⟨⟨x1, x2⟩, hx⟩ : ∃ x, l[i]? = some x := ⟨_, List.getElem?_eq_getElem (by rw [HLL.out]; omega)⟩
      obtain ⟨⟨z1, z2⟩, hz⟩ : ∃ x, l[j]? = some x := ⟨_, List.getElem?_eq_getElem (by rw [HLL.out]; omega)⟩
      have hxz : ¬ x1 ≤ z1 := by
        have h1 := (List.getElem?_eq_some_iff.1 hx)
        have h2 := (List.getElem?_eq_some_iff.1 hz)
        obtain ⟨a1, a2⟩ := h1
        obtain ⟨b1', b2'⟩ := h2
        have := List.pairwise_iff_getElem.1 HRise.out j i b1' a1 (by omega)
        rw [a2, b2'] at this
        dsimp only at this
        omega
      obtain ⟨b, o, hA, hb, e0, _⟩ := HM7.out.get hx
      obtain ⟨b', o', hA', _, f0, _⟩ := HM7.out.get hz
      subst hA
      injection hA' with hA'
      injection hA' with ha1 ha2
      subst ha1 ha2
      have e0 := (HBr.out.cell (p := ⟨b, o + i * 2, none⟩) hb).trans e0
      have f0 := (HBr.out.cell (p := ⟨b, o + j * 2, none⟩) hb).trans f0
      dsimp only at e0 f0
      have hbr : b < wr.heap.size := by omega
      have hI0 : (0 : Int) ≤ (i : Int) := by omega
      have hI1 : (i : Int) < (L : Int) := by omega
      have hJ0 : (0 : Int) ≤ (j : Int) := by omega
      have hJ1 : (j : Int) < (L : Int) := by omega
      have hJ : IntKind.i64.wrap ((i : Int) - 1) = (j : Int) := by rw [IntWalk.i64_in _ (by omega)]; omega
      have HJ := hide hj
      clear hx hz hj
      go_upto_region 12 with fail
      refine wp_region_held_drew (S := Kept wr) (by kernel_rfl) (Kept.drew wr) (fun hS0 => ?_)
      refine take_at (i := 0) (d := 67) (v := ?_) (by simp only [List.getElem?_toArray, List.getElem?_cons_succ, List.getElem?_cons_zero]; rfl) rfl (by kernel_rfl) (by kernel_rfl) (by kernel_rfl) (fun _ _ _ h => h) rfl ?_ (by assumption) ?_
      rotate_left
      focus (intro w hSw; go_simp; (try with_reducible rfl); done)
      try simp only [List.setIfInBounds_toArray, List.set_cons_zero, List.set_cons_succ]
      refine take_at (i := 1) (d := 68) (v := ?_) (by simp only [List.getElem?_toArray, List.getElem?_cons_succ, List.getElem?_cons_zero]; rfl) rfl (by kernel_rfl) (by kernel_rfl) (by kernel_rfl) (fun _ _ _ h => h) rfl ?_ (by assumption) ?_
      rotate_left
      focus (intro w hSw; go_simp; (try with_reducible rfl); done)
      try simp only [List.setIfInBounds_toArray, List.set_cons_zero, List.set_cons_succ]
      refine take_at (i := 2) (d := 69) (v := ?_) (by simp only [List.getElem?_toArray, List.getElem?_cons_succ, List.getElem?_cons_zero]; rfl) rfl (by kernel_rfl) (by kernel_rfl) (by kernel_rfl) (fun _ _ _ h => h) rfl ?_ (by assumption) ?_
      rotate_left
      focus (intro w hSw; go_simp; (try with_reducible rfl); done)
      try simp only [List.setIfInBounds_toArray, List.set_cons_zero, List.set_cons_succ]
      refine take_at (i := 3) (d := 70) (v := ?_) (by simp only [List.getElem?_toArray, List.getElem?_cons_succ, List.getElem?_cons_zero]; rfl) rfl (by kernel_rfl) (by kernel_rfl) (by kernel_rfl) (fun _ _ _ h => h) rfl ?_ (by assumption) ?_
      rotate_left
      focus (intro w hSw; go_simp; (try with_reducible rfl); done)
      try simp only [List.setIfInBounds_toArray, List.set_cons_zero, List.set_cons_succ]
      refine take_at (i := 4) (d := 71) (v := ?_) (by simp only [List.getElem?_toArray, List.getElem?_cons_succ, List.getElem?_cons_zero]; rfl) rfl (by kernel_rfl) (by kernel_rfl) (by kernel_rfl) (fun _ _ _ h => h) rfl ?_ (by assumption) ?_
      rotate_left
      focus (intro w hSw; go_simp; (try with_reducible rfl); done)
      try simp only [List.setIfInBounds_toArray, List.set_cons_zero, List.set_cons_succ]
      refine take_at (i := 5) (d := 72) (v := ?_) (by simp only [List.getElem?_toArray, List.getElem?_cons_succ, List.getElem?_cons_zero]; rfl) rfl (by kernel_rfl) (by kernel_rfl) (by kernel_rfl) (fun _ _ _ h => h) rfl ?_ (by assumption) ?_
      rotate_left
      focus (intro w hSw; go_simp; (try with_reducible rfl); done)
      try simp only [List.setIfInBounds_toArray, List.set_cons_zero, List.set_cons_succ]
      refine take_at (i := 6) (d := 73) (v := ?_) (by simp only [List.getElem?_toArray, List.getElem?_cons_succ, List.getElem?_cons_zero]; rfl) rfl (by kernel_rfl) (by kernel_rfl) (by kernel_rfl) (fun _ _ _ h => h) rfl ?_ (by assumption) ?_
      rotate_left
      focus (intro w hSw; go_simp; (try with_reducible rfl); done)
      try simp only [List.setIfInBounds_toArray, List.set_cons_zero, List.set_cons_succ]
      refine take_at (i := 7) (d := 74) (v := ?_) (by simp only [List.getElem?_toArray, List.getElem?_cons_succ, List.getElem?_cons_zero]; rfl) rfl (by kernel_rfl) (by kernel_rfl) (by kernel_rfl) (fun _ _ _ h => h) rfl ?_ (by assumption) ?_
      rotate_left
      focus (intro w hSw; go_simp; (try with_reducible rfl); done)
      try simp only [List.setIfInBounds_toArray, List.set_cons_zero, List.set_cons_succ]
      refine take_at (i := 8) (d := 75) (v := ?_) (by simp only [List.getElem?_toArray, List.getElem?_cons_succ, List.getElem?_cons_zero]; rfl) rfl (by kernel_rfl) (by kernel_rfl) (by kernel_rfl) (fun _ _ _ h => h) rfl ?_ (by assumption) ?_
      rotate_left
      focus (intro w hSw; go_simp; (try with_reducible rfl); done)
      try simp only [List.setIfInBounds_toArray, List.set_cons_zero, List.set_cons_succ]
      refine take_at (i := 9) (d := 76) (v := ?_) (by simp only [List.getElem?_toArray, List.getElem?_cons_succ, List.getElem?_cons_zero]; rfl) rfl (by kernel_rfl) (by kernel_rfl) (by kernel_rfl) (fun _ _ _ h => h) rfl ?_ (by assumption) ?_
      rotate_left
      focus (intro w hSw; go_simp; (try with_reducible rfl); done)
      try simp only [List.setIfInBounds_toArray, List.set_cons_zero, List.set_cons_succ]
      refine take_at (i := 10) (d := 77) (v := ?_) (by simp only [List.getElem?_toArray, List.getElem?_cons_succ, List.getElem?_cons_zero]; rfl) rfl (by kernel_rfl) (by kernel_rfl) (by kernel_rfl) (fun _ _ _ h => h) rfl ?_ (by assumption) ?_
      rotate_left
      focus (intro w hSw; go_simp; (try with_reducible rfl); done)
      try simp only [List.setIfInBounds_toArray, List.set_cons_zero, List.set_cons_succ]
      refine take_at (i := 11) (d := 78) (v := ?_) (by simp only [List.getElem?_toArray, List.getElem?_cons_succ, List.getElem?_cons_zero]; rfl) rfl (by kernel_rfl) (by kernel_rfl) (by kernel_rfl) (fun _ _ _ h => h) rfl ?_ (by assumption) ?_
      rotate_left
      focus (intro w hSw; go_simp; (try with_reducible rfl); done)
      try simp only [List.setIfInBounds_toArray, List.set_cons_zero, List.set_cons_succ]
      refine wpAnyH_done (by kernel_rfl) ?_ _
      clear hS0 hJ
      go_wp2
      go_roundw
      case rel => exact ⟨i + 1, by omega, by omega, by go_num, hide HBr.out.drew⟩
      case measure => simp [intOf]; omega
    · have hI1 : ¬ (i : Int) < (L : Int) := by omega
      go_wp2_with fail
      refine (works_any _).mono ?_
      rintro e y2 ⟨rfl, k2⟩
      have K2 := hide (HBu.out.trans ((HB7.out.trans (HBr.out.mono hs7)).mono hsw |>.trans (k2.mono (by omega))))
      clear k2
      go_wp2
      go_ret
      exact ⟨rfl, K2.out⟩
theorem algosSend_walk (w : World) (k j1 j2 j3 j4 : Int) (hk : 0 ≤ k ∧ k ≤ 255) (hj1 : i64B j1) (hj2 : i64B j2) (hj3 : i64B j3) (hj4 : i64B j4) (v : Int) (h1 : -9223372036854775808 ≤ v) (h2 : v ≤ 9223372036854775807) (y : Int) (h3 : -9223372036854775808 ≤ y) (h4 : y ≤ 9223372036854775807) (ch : Bool)
    (A1 : Option Addr) (outs : List Ed) (c1 : Nat) (e1 : Eds w w.heap.size A1 outs) (hl1 : outs.length ≤ c1) (hc1 : c1 ≤ 9223372036854775807) (hB1 : ∀ e ∈ outs, edB e) (A2 : Option Addr) (backs : List Ed) (c2 : Nat) (e2 : Eds w w.heap.size A2 backs) (hl2 : backs.length ≤ c2) (hc2 : c2 ≤ 9223372036854775807) (hB2 : ∀ e ∈ backs, edB e) :
    Calls Tryz.prog 9 #[.agg #[.int .u8 k, .int .i64 j1, .int .i64 j2, .int .i64 j3, .int .i64 j4], .int .i64 v, .int .i64 y, .bool ch, .slice A1 outs.length c1, .slice A2 backs.length c2] w fun e w' => e = .returned (.bool true) ∧ Below w.heap.size w w' :=
  algosSend_go w k j1 j2 j3 j4 v y ⟨h3, h4⟩ ch A1 A2 outs backs outs.length c1 backs.length c2 rfl rfl e1 e2
end Go.Proofs.YtihlhkbdgbkafaaGreat
