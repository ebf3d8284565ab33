/- Lemmas: Pjh, Pjq, Pjn, Rjn, Pjk. -/
import Derived.Test.YtihdpfjonkagaaaProg
import Derived.Deep.DeepCutAuto
import Derived.Lib.Hide
import Derived.WalkSpells
import Derived.WalkMore
import Derived.IntWalk
import Derived.Deep.Strs
import Derived.Test.YtihdpfjonkagaaaPkWw14
import Derived.Test.YtihdpfjonkagaaaPkWw16
import Derived.Test.YtihdpfjonkagaaaPkWw18
set_option linter.unusedVariables false
set_option linter.unusedSimpArgs false
set_option maxRecDepth 100000
set_option maxHeartbeats 16000000
namespace Go.Proofs.Ytihdpfjonkagaaa
open Go.RowKit
theorem ins0_any (w : World) (A : Option Addr) (c : Nat) : Calls Try.prog 57 #[.slice A 0 c, .int .i64 0, .int .i64 0, .func (.func 40) #[] #[]] w fun e w' => e = .returned (.tuple #[]) ∧ w = w' := by
 go_enter Try.func57, Try.ntmps57
 go_wp2
 go_loopw [8] (fun v8 wr => v8 = .int .i64 1 ∧ wr = w) (fun _ _ => 0)
 case atStart => exact ⟨rfl, rfl⟩
 case round =>
  obtain ⟨rfl, e⟩ := hrel
  go_wp2
  go_end0
  exact ⟨rfl, by first | rfl | exact e.symm⟩
theorem stb0_any (w : World) (A : Option Addr) (c : Nat) : Calls Try.prog 49 #[.slice A 0 c, .int .i64 0, .func (.func 40) #[] #[]] w fun e w' => e = .returned (.tuple #[]) ∧ w = w' := by
 go_enter Try.func49, Try.ntmps49
 go_wp2
 go_loopw [7, 8] (fun v7 v8 wr => v7 = .int .i64 0 ∧ v8 = .int .i64 20 ∧ wr = w) (fun _ _ _ => 0)
 case atStart => exact ⟨rfl, rfl, rfl⟩
 case round =>
  obtain ⟨rfl, rfl, rfl⟩ := hrel
  go_wp2_with fail
  refine (ins0_any _ A c).mono ?_
  rintro _ w1 ⟨rfl, rfl⟩
  go_wp2
  go_loopw [6] (fun v6 w2 => v6 = .int .i64 20 ∧ w2 = wr) (fun _ _ => 0)
  case atStart => exact ⟨rfl, rfl⟩
  case round =>
   obtain ⟨rfl, e⟩ := hrel
   go_wp2
   go_end0
   exact ⟨rfl, by first | rfl | exact e.symm⟩
theorem sort0_any (w : World) (A : Option Addr) (c : Nat) : Calls Try.prog 39 #[.slice A 0 c, .func (.func 40) #[] #[]] w fun e w' => e = .returned (.tuple #[]) ∧ w = w' := by
 go_enter Try.func39, Try.ntmps39
 go_wp2_with fail
 refine (stb0_any _ A c).mono ?_
 rintro _ w1 ⟨rfl, rfl⟩
 go_wp2
 go_end0
 exact ⟨rfl, rfl⟩
theorem two_fin {w wf : World} {H : Nat} {T : TypeId} (z0 z1 v0 v1 : Value) (hw : w.heap.size ≤ H) (hz : wf.heap[H]? = some (.cells #[z0, z1] T)) (hb : Below w.heap.size w wf) :
  ∃ f, ((wf.setCell ⟨H, 0, none⟩ v0).setCell ⟨H, 1, none⟩ v1) = f ∧ Below w.heap.size w f ∧ f.heap[H]? = some (.cells #[v0, v1] T) ∧ f.heap.size = wf.heap.size ∧ ∀ b, b ≠ H → f.heap[b]? = wf.heap[b]? := by
 have h1 := heap_setCell_same _ H 0 _ _ v0 hz
 have h2 := heap_setCell_same _ H 1 _ _ v1 h1
 refine ⟨_, rfl, (hb.setCell (p := ⟨H, 0, none⟩) hw v0).setCell (p := ⟨H, 1, none⟩) hw v1, h2, by simp only [World.size_setCell], fun b hb' => ?_⟩
 iterate 2 rw [Below.heap_setCell _ _ _ _ hb']
def JG (v0 : World) (G : Nat) (V : Int) (acc : List Ed) (m : Nat) (A : Option Addr) (c : Nat) (w : World) : Prop := acc.length = m ∧ w.heap[G]? = some (.cells #[.int .i64 V, .slice A m c] 30) ∧ w.ownsRow v0.heap.size 44 3 (.slice A m c) m (edFlat acc) ∧ Below v0.heap.size v0 w ∧ v0.heap.size ≤ G
theorem edge_ne_graph : 44 ≠ 30 := by decide
section
variable {v0 w w' : World} {G m c : Nat} {V : Int} {acc : List Ed} {A : Option Addr}
theorem JG.glt (h : JG v0 G V acc m A c w) : G < w.heap.size := (Array.getElem?_eq_some_iff.1 h.2.1).1
theorem JG.ne (h : JG v0 G V acc m A c w) {g : Nat} (hg : (Value.slice A m c).ownBlock = some g) : g ≠ G := own_ne h.2.2.1 h.2.1 edge_ne_graph g hg
theorem JG.below (h : JG v0 G V acc m A c w) (hb : Below w.heap.size w w') : JG v0 G V acc m A c w' :=
 ⟨h.1, (hb.block _ h.glt).trans h.2.1, own_below h.2.2.1 hb (fun q hq => (h.2.2.1.lt q hq).2), h.2.2.2.1.trans (hb.mono h.2.2.2.1.size), h.2.2.2.2⟩
theorem JG.drew (h : JG v0 G V acc m A c w) : JG v0 G V acc m A c w.drew := ⟨h.1, h.2.1, h.2.2.1.drew, h.2.2.2.1.drew, h.2.2.2.2⟩
theorem JG.alloc (h : JG v0 G V acc m A c w) (o : Obj) : JG v0 G V acc m A c (w.alloc o) := h.below ((Below.refl _ _).alloc (Nat.le_refl _) o)
theorem JG.app (h : JG v0 G V acc m A c w) {r : List Ed} {q c' : Nat} {A' : Option Addr} (hr : r.length = q) (ho : w'.ownsRow v0.heap.size 44 3 (.slice A' (m + q) c') (m + q) (edFlat acc ++ edFlat r)) (hg : w.grownBy w' (Value.slice A m c).ownBlock)
  (hat : (Value.slice A' (m + q) c').ownBlock = (Value.slice A m c).ownBlock ∨ (Value.slice A' (m + q) c').ownBlock = some w.heap.size) :
  w'.heap[G]? = some (.cells #[.int .i64 V, .slice A m c] 30) ∧ JG v0 G V (acc ++ r) (m + q) A' c' (w'.setCell ⟨G, 1, none⟩ (.slice A' (m + q) c')) := by
 have hG : w'.heap[G]? = some (.cells #[.int .i64 V, .slice A m c] 30) := by
  rw [hg.block G h.glt (fun e => h.ne e.symm rfl)]
  exact h.2.1
 have hne : ∀ g, (Value.slice A' (m + q) c').ownBlock = some g → g ≠ G := own_ne ho hG edge_ne_graph
 refine ⟨hG, by rw [List.length_append, h.1, hr], heap_setCell_same _ G 1 _ _ _ hG, ?_, ?_, h.2.2.2.2⟩
 ·rw [edFlat_app] at ho
  exact ((KB.refl [G] w').setCell (p := ⟨G, 1, none⟩) (.inr (by simp)) _).own ho (fun g hg => by simpa using hne g hg)
 ·exact (app_below h.2.2.2.1 h.2.2.1 hg h.2.2.2.1.size (Nat.le_refl _)).setCell (p := ⟨G, 1, none⟩) h.2.2.2.2 _
end
def badG (e : Ending) : Prop := e = .returned (.tuple #[.agg #[.int .i64 0, .slice none 0 0], .int .i64 2])
def vsOf (ps : List PartV) : Int := (ps.getD 0 noPart).vs
def goodG (V : Int) (d : List Ed) (e : Ending) (w' : World) : Prop := ∃ A c, e = .returned (.tuple #[.agg #[.int .i64 V, .slice A d.length c], .int .i64 0]) ∧ Eds w' w'.heap.size A d ∧ d.length ≤ c ∧ c ≤ 9223372036854775807
def PJPost (w : World) (ps : List PartV) (e : Ending) (w' : World) : Prop := Below w.heap.size w w' ∧
 ((¬ (1 ≤ ps.length ∧ ps.length ≤ 64) ∧ badG e) ∨ ((1 ≤ ps.length ∧ ps.length ≤ 64) ∧ ∃ d, StS ltE (fun e : Ed => e.1) (allOut ps).length (allOut ps) d ∧ ((okG (vsOf ps) d ps ∧ goodG (vsOf ps) d e w') ∨ (¬ okG (vsOf ps) d ps ∧ badG e))))
theorem part_same (p q : PartV) : (decide (p.wk = q.wk) && decide (p.ws = q.ws) && decide (p.vs = q.vs) && eqL p.own q.own && eqL p.out q.out && eqL p.back q.back) = true ↔ p = q := by
 obtain ⟨a1, a2, a3, a4, a5, a6⟩ := p
 obtain ⟨b1, b2, b3, b4, b5, b6⟩ := q
 simp only [Bool.and_eq_true, decide_eq_true_eq, eqL_true, PartV.mk.injEq]
 constructor
 ·rintro ⟨⟨⟨⟨⟨h1, h2⟩, h3⟩, h4⟩, h5⟩, h6⟩; exact ⟨h1, h2, h3, h4, h5, h6⟩
 ·rintro ⟨h1, h2, h3, h4, h5, h6⟩; exact ⟨⟨⟨⟨⟨h1, h2⟩, h3⟩, h4⟩, h5⟩, h6⟩
theorem allOut_succ {ps : List PartV} {i : Nat} {p : PartV} (h : ps[i]? = some p) : allOut (ps.take (i + 1)) = allOut (ps.take i) ++ p.out.flatten := by
 unfold allOut
 rw [List.take_add_one, h, List.flatMap_append]
 simp
theorem flat_succ {rs : List (List Ed)} {k : Nat} {r : List Ed} (h : rs[k]? = some r) : (rs.take (k + 1)).flatten = (rs.take k).flatten ++ r := by
 rw [List.take_add_one, h, List.flatten_append]
 simp
theorem flat_len {rs : List (List Ed)} (k : Nat) : ((rs.take k).flatten).length ≤ rs.flatten.length := by
 have h : rs.flatten = (rs.take k).flatten ++ (rs.drop k).flatten := by rw [← List.flatten_append, List.take_append_drop]
 rw [h, List.length_append]
 omega
theorem allOut_len {ps : List PartV} {i : Nat} {p : PartV} (h : ps[i]? = some p) : (allOut (ps.take i)).length + p.out.flatten.length ≤ (allOut ps).length := by
 have h1 := allOut_succ h
 have h2 : allOut ps = allOut (ps.take (i + 1)) ++ allOut (ps.drop (i + 1)) := by unfold allOut; rw [← List.flatMap_append, List.take_append_drop]
 rw [h2, List.length_append, h1, List.length_append]
 omega
theorem ERows.wt {w : World} {B : Nat} {A : Option Addr} {rs : List (List Ed)} (h : ERows w B A rs) : wt rs.flatten := fun e he => by
 obtain ⟨r, hr, he⟩ := List.mem_flatten.1 he
 obtain ⟨i, hi⟩ := List.getElem?_of_mem hr
 obtain ⟨_, _, _, _, _, _, _, _, _, h1⟩ := h.get hi
 exact h1.wt e he
theorem PtRow.wt {w : World} {A : Option Addr} {ps : List PartV} (h : PtRow w A ps) : wt (allOut ps) := fun e he => by
 unfold allOut at he
 obtain ⟨p, hp, he⟩ := List.mem_flatMap.1 he
 obtain ⟨i, hi⟩ := List.getElem?_of_mem hp
 obtain ⟨_, _, _, _, _, _, _, _, _, _, _, _, _, _, _, _, _, _, _, _, h1, _⟩ := h.get hi
 exact h1.out.wt e he
end Go.Proofs.Ytihdpfjonkagaaa
namespace Go.Proofs.Ytihdpfjonkagaaa
open Go.RowKit
def FewPost (w : World) (p : PartV) (e : Ending) (w' : World) : Prop := ∃ fb, e = .returned (.bool fb) ∧ (fb = true → p.out.flatten.length ≤ 60) ∧ Below w.heap.size w w'
theorem few_any (w : World) (p : PartV) (Ao Au Ab : Option Addr) (no nu nb co cu cb : Nat) (hlen : PLen p no nu nb) (hin : PIn w p Ao Au Ab) (hbd : no ≤ 9223372036854775807 ∧ nu ≤ 9223372036854775807 ∧ nb ≤ 9223372036854775807) :
  Calls Try.prog 20 #[.agg #[.int .i64 p.wk, .int .i64 p.ws, .int .i64 p.vs, .slice Ao no co, .slice Au nu cu, .slice Ab nb cb]] w (FewPost w p) := by
 have HLen := hide hlen
 have HIn := hide (hin.kept (Kept.of_below ((Below.refl w.heap.size w).alloc (Nat.le_refl _) (.cells #[.int .i64 p.wk, .int .i64 p.ws, .int .i64 p.vs, .slice Ao no co, .slice Au nu cu, .slice Ab nb cb] 34))) (by simp))
 obtain ⟨v, hv⟩ : ∃ u, w.alloc (.cells #[.int .i64 p.wk, .int .i64 p.ws, .int .i64 p.vs, .slice Ao no co, .slice Au nu cu, .slice Ab nb cb] 34) = u := ⟨_, rfl⟩
 rw [hv] at HIn
 have HV := hide hv
 have M0 := hide (show v.heap[w.heap.size]? = some (.cells #[.int .i64 p.wk, .int .i64 p.ws, .int .i64 p.vs, .slice Ao no co, .slice Au nu cu, .slice Ab nb cb] 34) by rw [← hv]; exact heap_alloc_last _ _)
 have HB := hide (show Below w.heap.size w v by rw [← hv]; exact (Below.refl _ _).alloc (Nat.le_refl _) _)
 have hzl : w.heap.size < v.heap.size := by rw [← hv]; simp
 obtain ⟨hb1, hb2, hb3⟩ := hbd
 clear hv hin hlen
 have c3 : v.cell? ⟨w.heap.size, 3, none⟩ = some (.slice Ao no co) := cell_of_row _ _ 3 _ _ _ M0.out
 have c4 : v.cell? ⟨w.heap.size, 4, none⟩ = some (.slice Au nu cu) := cell_of_row _ _ 4 _ _ _ M0.out
 have c5 : v.cell? ⟨w.heap.size, 5, none⟩ = some (.slice Ab nb cb) := cell_of_row _ _ 5 _ _ _ M0.out
 by_cases h1 : 60 < no
 ·have i1 : (60 : Int) < (no : Int) := by omega
  have i1d : decide ((60 : Int) < (no : Int)) = true := decide_eq_true i1
  go_enter Try.func20, Try.ntmps20
  go_upto_region 1 with fail
  rw [HV.out]
  go_wp2
  go_ret
  exact ⟨false, rfl, fun h => (by cases h), HB.out⟩
 have i1 : ¬ (60 : Int) < (no : Int) := by omega
 have i1d : decide ((60 : Int) < (no : Int)) = false := decide_eq_false i1
 by_cases h2 : 60 < nu
 ·have i2 : (60 : Int) < (nu : Int) := by omega
  have i2d : decide ((60 : Int) < (nu : Int)) = true := decide_eq_true i2
  go_enter Try.func20, Try.ntmps20
  go_upto_region 1 with fail
  rw [HV.out]
  go_wp2
  go_ret
  exact ⟨false, rfl, fun h => (by cases h), HB.out⟩
 have i2 : ¬ (60 : Int) < (nu : Int) := by omega
 have i2d : decide ((60 : Int) < (nu : Int)) = false := decide_eq_false i2
 by_cases h3 : 60 < nb
 ·have i3 : (60 : Int) < (nb : Int) := by omega
  have i3d : decide ((60 : Int) < (nb : Int)) = true := decide_eq_true i3
  go_enter Try.func20, Try.ntmps20
  go_upto_region 1 with fail
  rw [HV.out]
  go_wp2
  go_ret
  exact ⟨false, rfl, fun h => (by cases h), HB.out⟩
 have i3 : ¬ (60 : Int) < (nb : Int) := by omega
 have i3d : decide ((60 : Int) < (nb : Int)) = false := decide_eq_false i3
 go_enter Try.func20, Try.ntmps20
 go_upto_region 1 with fail
 rw [HV.out]
 go_wp2
 go_loopw [4, 3] (fun v4 v3 wr => ∃ k : Nat, k ≤ nu ∧ v4 = .int .i64 (k : Int) ∧ v3 = .int .i64 (((p.out.take k).flatten.length : Nat) : Int) ∧ wr = v ∧ (p.out.take k).flatten.length ≤ 60) (fun v4 _ _ => nu - (intOf v4).toNat)
 case atStart => exact ⟨0, by omega, rfl, by simp, rfl, by simp⟩
 case round =>
  obtain ⟨k, hk, rfl, rfl, rfl, h60⟩ := hrel
  by_cases hlt : k < nu
  ·have hK1 : (k : Int) < (nu : Int) := by omega
   obtain ⟨r, hr⟩ : ∃ r, p.out[k]? = some r := ⟨_, List.getElem?_eq_getElem (by rw [HLen.out.2.1]; exact hlt)⟩
   obtain ⟨bu, ou, A2, c2, rfl, hbu, d0, hc2, hcm, hE⟩ := HIn.out.out.get hr
   obtain ⟨q, hq⟩ : ∃ q, r.length = q := ⟨_, rfl⟩
   rw [hq] at d0 hc2
   have hfs := congrArg List.length (flat_succ hr)
   rw [List.length_append, hq] at hfs
   obtain ⟨s, hs⟩ : ∃ s, (p.out.take k).flatten.length = s := ⟨_, rfl⟩
   rw [hs] at h60 hfs ⊢
   have HFS := hide hfs
   have hqm : q ≤ 9223372036854775807 := by omega
   clear hs hq hfs hE hr
   have s1 : IntKind.i64.wrap (60 - (s : Int)) = 60 - (s : Int) := IntWalk.i64_in _ (by omega)
   by_cases hqs : 60 - (s : Int) < (q : Int)
   ·go_wp2
    go_ret
    exact ⟨false, rfl, fun h => (by cases h), HB.out⟩
   have s2 : IntKind.i64.wrap ((s : Int) + (q : Int)) = (s : Int) + (q : Int) := IntWalk.i64_in _ (by omega)
   have s3 : s + q ≤ 60 := by omega
   go_wp2
   go_roundw
   case rel => exact ⟨k + 1, by omega, by go_num, by rw [HFS.out]; go_num, by first | rfl | trivial, by rw [HFS.out]; exact s3⟩
   case measure => simp [intOf]; omega
  ·obtain rfl : nu = k := by omega
   have H60 : Hid (p.out.flatten.length ≤ 60) := hide (by rw [List.take_of_length_le (by rw [HLen.out.2.1]; exact Nat.le_refl _)] at h60; exact h60)
   skip
   clear h60
   go_wp2
   go_loopw [5, 3] (fun v5 v3 wr2 => ∃ k : Nat, k ≤ nb ∧ v5 = .int .i64 (k : Int) ∧ v3 = .int .i64 (((p.back.take k).flatten.length : Nat) : Int) ∧ wr2 = wr ∧ (p.back.take k).flatten.length ≤ 60) (fun v5 _ _ => nb - (intOf v5).toNat)
   case atStart => exact ⟨0, by omega, rfl, by simp, rfl, by simp⟩
   case round =>
    obtain ⟨k, hk, rfl, rfl, rfl, h60⟩ := hrel
    by_cases hlt : k < nb
    ·have hK1 : (k : Int) < (nb : Int) := by omega
     obtain ⟨r, hr⟩ : ∃ r, p.back[k]? = some r := ⟨_, List.getElem?_eq_getElem (by rw [HLen.out.2.2]; exact hlt)⟩
     obtain ⟨bu, ou, A2, c2, rfl, hbu, d0, hc2, hcm, hE⟩ := HIn.out.back.get hr
     obtain ⟨q, hq⟩ : ∃ q, r.length = q := ⟨_, rfl⟩
     rw [hq] at d0 hc2
     have hfs := congrArg List.length (flat_succ hr)
     rw [List.length_append, hq] at hfs
     obtain ⟨s, hs⟩ : ∃ s, (p.back.take k).flatten.length = s := ⟨_, rfl⟩
     rw [hs] at h60 hfs ⊢
     have HFS := hide hfs
     have hqm : q ≤ 9223372036854775807 := by omega
     clear hs hq hfs hE hr
     have s1 : IntKind.i64.wrap (60 - (s : Int)) = 60 - (s : Int) := IntWalk.i64_in _ (by omega)
     by_cases hqs : 60 - (s : Int) < (q : Int)
     ·go_wp2
      go_ret
      exact ⟨false, rfl, fun h => (by cases h), HB.out⟩
     have s2 : IntKind.i64.wrap ((s : Int) + (q : Int)) = (s : Int) + (q : Int) := IntWalk.i64_in _ (by omega)
     have s3 : s + q ≤ 60 := by omega
     go_wp2
     go_roundw
     case rel => exact ⟨k + 1, by omega, by go_num, by rw [HFS.out]; go_num, by first | rfl | trivial, by rw [HFS.out]; exact s3⟩
     case measure => simp [intOf]; omega
    ·obtain rfl : nb = k := by omega
     go_wp2
     go_ret
     exact ⟨true, rfl, fun _ => H60.out, HB.out⟩
def MR (v0 : World) (xs : List Value) (ps : List PartV) (n : Nat) : Prop := ∀ (q : Nat) (p : PartV), q < n → ps[q]? = some p → ∃ cs : List Value, cs.length = 6 ∧ PtVal v0 cs p ∧ ∀ j u, cs[j]? = some u → xs[q * 6 + j]? = some u
def MRow (T : TypeId) (v0 w : World) (ps : List PartV) (A : Option Addr) (n c : Nat) : Prop := ∃ xs, w.ownsRow v0.heap.size T 6 (.slice A n c) n xs ∧ MR v0 xs ps n
section
variable {T : TypeId} {v0 w w' : World} {ps : List PartV} {A : Option Addr} {n c : Nat}
theorem MRow.zero (T : TypeId) (v0 w : World) (ps : List PartV) : MRow T v0 w ps none 0 0 := ⟨[], World.ownsRow_nil _ _ _ _, fun q p h => absurd h (by omega)⟩
theorem MRow.below (h : MRow T v0 w ps A n c) (hb : Below w.heap.size w w') : MRow T v0 w' ps A n c := by
 obtain ⟨xs, ho, hm⟩ := h
 exact ⟨xs, own_below ho hb (fun g hg => (ho.lt g hg).2), hm⟩
theorem MRow.get (h : MRow T v0 w ps A n c) (hk : Kept v0 w) (hs : v0.heap.size ≤ w.heap.size) {q : Nat} {p : PartV} (hq : q < n) (hp : ps[q]? = some p) :
  ∃ (g : Nat) (Ao Au Ab : Option Addr) (no nu nb co cu cb : Nat), A = some ⟨g, 0, none⟩ ∧ g < w.heap.size ∧
   w.cell? ⟨g, q * 6, none⟩ = some (.int .i64 p.wk) ∧ w.cell? ⟨g, q * 6 + 1, none⟩ = some (.int .i64 p.ws) ∧ w.cell? ⟨g, q * 6 + 2, none⟩ = some (.int .i64 p.vs) ∧ w.cell? ⟨g, q * 6 + 3, none⟩ = some (.slice Ao no co) ∧ w.cell? ⟨g, q * 6 + 4, none⟩ = some (.slice Au nu cu) ∧ w.cell? ⟨g, q * 6 + 5, none⟩ = some (.slice Ab nb cb) ∧
   PLen p no nu nb ∧ PIn w p Ao Au Ab ∧ (no ≤ 9223372036854775807 ∧ nu ≤ 9223372036854775807 ∧ nb ≤ 9223372036854775807) := by
 obtain ⟨xs, ho, hm⟩ := h
 obtain ⟨g, rfl, _, hlt, _⟩ := own_addr ho (by omega)
 obtain ⟨cs, hl, ⟨Ao, Au, Ab, no, nu, nb, co, cu, cb, rfl, h2, h3, h4⟩, hc⟩ := hm q p hq hp
 have hx := ho.1
 have ha : ∀ j u, ([.int .i64 p.wk, .int .i64 p.ws, .int .i64 p.vs, .slice Ao no co, .slice Au nu cu, .slice Ab nb cb] : List Value)[j]? = some u → w.cell? ⟨g, q * 6 + j, none⟩ = some u := fun j u hu => by
  have h1 := hc j u hu
  have h2 := (List.getElem?_eq_some_iff.1 h1).1
  rw [ho.cellAt (q * 6 + j) (by omega)]
  exact h1
 exact ⟨g, Ao, Au, Ab, no, nu, nb, co, cu, cb, rfl, hlt, ha 0 _ rfl, ha 1 _ rfl, ha 2 _ rfl, ha 3 _ rfl, ha 4 _ rfl, ha 5 _ rfl, h2, h3.kept hk hs, h4⟩
theorem MRow.row (h : MRow T v0 w ps A ps.length c) (hk : Kept v0 w) (hs : v0.heap.size ≤ w.heap.size) : PtRow w A ps := fun hn => by
 obtain ⟨xs, ho, hm⟩ := h
 have hpos : 0 < ps.length := List.length_pos_iff.2 hn
 obtain ⟨g, rfl, _, hlt, _⟩ := own_addr ho hpos
 refine ⟨g, 0, rfl, hlt, fun i x hx => ?_⟩
 obtain ⟨cs, hl, hv, hc⟩ := hm i x (List.getElem?_eq_some_iff.1 hx).1 hx
 refine ⟨cs, hl, hv.kept hk hs, fun j u hu => ?_⟩
 have h1 := hc j u hu
 have h2 := (List.getElem?_eq_some_iff.1 h1).1
 have h3 := ho.1
 rw [Nat.zero_add, ho.cellAt (i * 6 + j) (by omega)]
 exact h1
theorem MR.snoc {xs : List Value} (h : MR v0 xs ps n) (hx : xs.length = n * 6) {p : PartV} (hp : ps[n]? = some p) {cs : List Value} (hl : cs.length = 6) (hv : PtVal v0 cs p) : MR v0 (xs ++ cs) ps (n + 1) := fun q p' hq hp' => by
 rcases Nat.lt_or_ge q n with h1 | h1
 ·obtain ⟨cs', a1, a2, a3⟩ := h q p' h1 hp'
  refine ⟨cs', a1, a2, fun j u hu => ?_⟩
  have h2 := (List.getElem?_eq_some_iff.1 hu).1
  rw [List.getElem?_append_left (by omega)]
  exact a3 j u hu
 ·obtain rfl : q = n := by omega
  rw [hp] at hp'
  obtain rfl := Option.some.inj hp'
  refine ⟨cs, hl, hv, fun j u hu => ?_⟩
  rw [List.getElem?_append_right (by omega), hx, show q * 6 + j - q * 6 = j by omega]
  exact hu
end
end Go.Proofs.Ytihdpfjonkagaaa
namespace Go.Proofs.Ytihdpfjonkagaaa
open Go.RowKit
theorem pjoin_any (w : World) (A : Option Addr) (ps : List PartV) (L c : Nat) (hL : ps.length = L) (hP : PtRow w A ps) (hLm : L ≤ 9223372036854775807) (ht : (allOut ps).length ≤ 8192) :
  Calls Try.prog 21 #[.slice A L c] w (PJPost w ps) := by
 obtain ⟨a0, a0i, a0z, a0s, a0b⟩ := info_parts (show (Try.prog.info? 44).map (fun i => (i.zero, i.size, i.bytes)) = some (some (.agg #[.int .i64 0, .int .i64 0, .int .i64 0]), 3, 24) by kernel_rfl)
 obtain ⟨v0, hu⟩ : ∃ u, w.alloc (.cells #[.int .i64 0, .slice none 0 0] 30) = u := ⟨_, rfl⟩
 have hzu : v0.heap.size = w.heap.size + 1 := by rw [← hu]; simp
 have HB0 := hide (show Below w.heap.size w v0 by rw [← hu]; exact (Below.refl _ _).alloc (Nat.le_refl _) _)
 have M0 := hide (show v0.heap[w.heap.size]? = some (.cells #[.int .i64 0, .slice none 0 0] 30) by rw [← hu]; exact heap_alloc_last _ _)
 have HP := hide (hP.next HB0.out)
 have HU := hide hu
 have HL := hide hL
 have HT := hide ht
 clear hu hP hL ht
 have hmi : (1 ≤ (L : Int) ∧ (L : Int) ≤ 64) ↔ (1 ≤ L ∧ L ≤ 64) := by omega
 have HZU := hide hzu
 have hzl : w.heap.size < v0.heap.size := by omega
 clear hzu
 by_cases hL1 : 1 ≤ L ∧ L ≤ 64
 rotate_left
 ·have hm : mayB (L : Int) = false := by rw [Bool.eq_false_iff]; intro h; exact hL1 (hmi.1 (mayB_iff.1 h))
  have HN : Hid (∀ e w', badG e → Below w.heap.size w w' → PJPost w ps e w') := hide (fun e w' h1 h2 => ⟨h2, .inl ⟨by rw [HL.out]; exact hL1, h1⟩⟩)
  have HMB := hide hm
  clear hmi hL1 hm
  have ZW := M0
  have HBf := HB0
  go_enter Try.func21, Try.ntmps21
  go_upto_region 1 with fail
  rw [HU.out]
  go_wp2_with fail
  refine (may_any _ (L : Int)).mono ?_
  rintro e w1 ⟨rfl, rfl⟩
  rw [HMB.out]
  have zc0 : w1.cell? ⟨w.heap.size, 0, none⟩ = some (.int .i64 0) := cell_of_row _ _ 0 _ _ _ ZW.out
  have zcf0 : w1.frozen? ⟨w.heap.size, 0, none⟩ = false := frozen_of_row _ _ 0 _ _ ZW.out
  have zc1 : w1.cell? ⟨w.heap.size, 1, none⟩ = some (.slice none 0 0) := cell_of_row _ _ 1 _ _ _ ZW.out
  have zcf1 : w1.frozen? ⟨w.heap.size, 1, none⟩ = false := frozen_of_row _ _ 1 _ _ ZW.out
  have HFin := hide (two_fin (.int .i64 0) (.slice none 0 0) (.int .i64 0) (.slice none 0 0) (Nat.le_refl w.heap.size) ZW.out HBf.out)
  go_wp2
  obtain ⟨f, hf, hfB, h6, hfs, hfo⟩ := HFin.out
  rw [hf]
  have y0 : f.cell? ⟨w.heap.size, 0, none⟩ = some (.int .i64 0) := cell_of_row _ _ 0 _ _ _ h6
  have y1 : f.cell? ⟨w.heap.size, 1, none⟩ = some (.slice none 0 0) := cell_of_row _ _ 1 _ _ _ h6
  exact bodyPost_ret (v := .tuple #[.agg #[.int .i64 0, .slice none 0 0], .int .i64 2]) (by simp [results, Try.results21, go_sem, y0, y1]) rfl (HN.out _ _ rfl hfB)
 have hm : mayB (L : Int) = true := mayB_iff.2 (hmi.2 hL1)
 obtain ⟨hL0, hL6⟩ := hL1
 have HMB := hide hm
 clear hmi hm
 have hLI0 : (0 : Int) < (L : Int) := by omega
 obtain ⟨p0, hp0⟩ : ∃ p, ps[0]? = some p := ⟨_, List.getElem?_eq_getElem (by rw [HL.out]; omega)⟩
 obtain ⟨b, off, rfl, hbl, Ao, Au, Ab, no, nu, nb, co, cu, cb, -, -, d2, -, -, -, -, -, -⟩ := HP.out.get hp0
 obtain ⟨V, hV⟩ : ∃ V, vsOf ps = V := ⟨_, rfl⟩
 have hv0 : p0.vs = V := by rw [← hV]; unfold vsOf; rw [List.getD_eq_getElem?_getD, hp0]; rfl
 rw [hv0] at d2
 have HV := hide hV
 have c0 : v0.cell? ⟨b, off + 2, none⟩ = some (.int .i64 V) := by simpa using d2
 clear d2 hV hv0 hp0 Ao Au Ab no nu nb co cu cb p0
 obtain ⟨v1, hv1⟩ : ∃ u, v0.alloc (.cells #[.int .i64 V, .slice none 0 0] 30) = u := ⟨_, rfl⟩
 have HV1 := hide hv1
 have HJ0 : Hid (JG v0 v0.heap.size V [] 0 none 0 v1) := hide (by rw [← hv1]; exact ⟨rfl, heap_alloc_last _ _, World.ownsRow_nil _ _ _ _, (Below.refl _ _).alloc (Nat.le_refl _) _, Nat.le_refl _⟩)
 clear hv1
 go_enter Try.func21, Try.ntmps21
 go_upto_region 1 with fail
 rw [HU.out]
 go_wp2_with fail
 refine (may_any _ (L : Int)).mono ?_
 rintro e w1 ⟨rfl, rfl⟩
 rw [HMB.out]
 go_upto_region 4 with fail
 rw [HV1.out]
 clear HMB HV1 HU c0
 obtain ⟨G, hG⟩ : ∃ G, w1.heap.size = G := ⟨_, rfl⟩
 have HG := hide hG
 have HJ0 : Hid (JG w1 G V [] 0 none 0 v1) := hide (by rw [← hG]; exact HJ0.out)
 rw [HG.out]
 clear hG
 go_wp2
 go_loopw [25] (fun v25 wr => ∃ (i m : Nat) (Am : Option Addr) (cm : Nat), i ≤ L ∧ v25 = .int .i64 (i : Int) ∧ Hid (JG w1 G V (allOut (ps.take i)) m Am cm wr)) (fun v25 _ => L - (intOf v25).toNat)
 case atStart => exact ⟨0, 0, none, 0, by omega, rfl, by simpa [allOut] using HJ0⟩
 case round =>
  obtain ⟨i, m, Am, cm, hi, rfl, hJ⟩ := hrel
  have srw : w1.heap.size ≤ wr.heap.size := hJ.out.2.2.2.1.size
  by_cases hlt : i < L
  ·have hI1 : (i : Int) < (L : Int) := by omega
   obtain ⟨p, hp⟩ : ∃ p, ps[i]? = some p := ⟨_, List.getElem?_eq_getElem (by rw [HL.out]; exact hlt)⟩
   obtain ⟨b9, off9, hbe, -, Ao, Au, Ab, no, nu, nb, co, cu, cb, d0, d1, d2, d3, d4, d5, hlen, hin, hbd⟩ := HP.out.get hp
   injection hbe with hbe
   injection hbe with hb1 hb2
   subst hb1 hb2
   have HLen := hide hlen
   have HIn := hide hin
   have HAS := hide (allOut_succ hp)
   have HAL := hide (Nat.le_trans (allOut_len hp) HT.out)
   have e0 : wr.cell? ⟨b, off + i * 6, none⟩ = some (.int .i64 p.wk) := (hJ.out.2.2.2.1.cell (p := ⟨b, off + i * 6, none⟩) hbl).trans d0
   have e1 : wr.cell? ⟨b, off + i * 6 + 1, none⟩ = some (.int .i64 p.ws) := (hJ.out.2.2.2.1.cell (p := ⟨b, off + i * 6 + 1, none⟩) hbl).trans d1
   have e2 : wr.cell? ⟨b, off + i * 6 + 2, none⟩ = some (.int .i64 p.vs) := (hJ.out.2.2.2.1.cell (p := ⟨b, off + i * 6 + 2, none⟩) hbl).trans d2
   have e3 : wr.cell? ⟨b, off + i * 6 + 3, none⟩ = some (.slice Ao no co) := (hJ.out.2.2.2.1.cell (p := ⟨b, off + i * 6 + 3, none⟩) hbl).trans d3
   have e4 : wr.cell? ⟨b, off + i * 6 + 4, none⟩ = some (.slice Au nu cu) := (hJ.out.2.2.2.1.cell (p := ⟨b, off + i * 6 + 4, none⟩) hbl).trans d4
   have e5 : wr.cell? ⟨b, off + i * 6 + 5, none⟩ = some (.slice Ab nb cb) := (hJ.out.2.2.2.1.cell (p := ⟨b, off + i * 6 + 5, none⟩) hbl).trans d5
   have hlb : b < wr.heap.size := by omega
   obtain ⟨ws, hws⟩ : ∃ z, wr.alloc (.cells #[.int .i64 p.wk, .int .i64 p.ws, .int .i64 p.vs, .slice Ao no co, .slice Au nu cu, .slice Ab nb cb] 34) = z := ⟨_, rfl⟩
   have HJs : Hid (JG w1 G V (allOut (ps.take i)) m Am cm ws) := hide (by rw [← hws]; exact hJ.out.alloc _)
   have HWS := hide hws
   have x4 : ws.cell? ⟨wr.heap.size, 4, none⟩ = some (.slice Au nu cu) := by rw [← hws]; exact cell_of_row _ _ 4 _ _ _ (heap_alloc_last _ _)
   have hnu : nu ≤ 9223372036854775807 := hbd.2.1
   clear d0 d1 d2 d3 d4 d5 hlen hin hbd hp hws hJ
   go_upto_region 7 with fail
   rw [HWS.out]
   clear e0 e1 e2 e3 e4 e5 hlb HWS
   go_wp2
   obtain ⟨wo, rfl⟩ : ∃ z : World, z = wr := ⟨_, rfl⟩
   go_loopw [32] (fun v32 wr => ∃ (k m : Nat) (Am : Option Addr) (cm : Nat), k ≤ nu ∧ v32 = .int .i64 (k : Int) ∧ Hid (JG w1 G V (allOut (ps.take i) ++ (p.out.take k).flatten) m Am cm wr)) (fun v32 _ => nu - (intOf v32).toNat)
   case atStart => exact ⟨0, m, Am, cm, by omega, rfl, by simpa using HJs⟩
   case round =>
    clear HJs x4 srw
    obtain ⟨k, m, Am, cm, hk, rfl, hJ⟩ := hrel
    by_cases hltk : k < nu
    ·have hK1 : (k : Int) < (nu : Int) := by omega
     obtain ⟨r, hr⟩ : ∃ r, p.out[k]? = some r := ⟨_, List.getElem?_eq_getElem (by rw [HLen.out.2.1]; exact hltk)⟩
     obtain ⟨bu, ou, A2, c2, rfl, hbu, d0, hc2, hcm, hE⟩ := HIn.out.out.get hr
     obtain ⟨q, hq⟩ : ∃ q, r.length = q := ⟨_, rfl⟩
     rw [hq] at d0 hc2
     have HQ := hide hq
     have hJB := hJ.out.2.2.2.1
     have sr : w1.heap.size ≤ wr.heap.size := hJB.size
     have e0 : wr.cell? ⟨bu, ou + k, none⟩ = some (.slice A2 q c2) := (hJB.cell (p := ⟨bu, ou + k, none⟩) hbu).trans d0
     have hlbu : bu < wr.heap.size := by omega
     have HE := hide (hE.below hJB (Nat.le_refl _))
     have hml := hJ.out.1
     have hfs := flat_succ hr
     have hfl := flat_len (rs := p.out) (k + 1)
     have hall := HAL.out
     rw [hfs, List.length_append, hq] at hfl
     rw [List.length_append] at hml
     have hmq : m + q ≤ 8192 := by omega
     have HFS := hide hfs
     have g1 : wr.cell? ⟨G, 1, none⟩ = some (.slice Am m cm) := cell_of_row _ _ 1 _ _ _ hJ.out.2.1
     have hGl := hJ.out.glt
     have hefl : (edFlat r).length = q * 3 := by rw [edFlat_len, hq]
     clear d0 hE hJB hml hfs hfl hall hq hr
     go_upto_region 10 with fail
     go_wp2_with (at_builtin; refine wpList_app rfl (.tmp 37) (.tmp 38) 28 rfl w1.heap.size 44 a0 (.agg #[.int .i64 0, .int .i64 0, .int .i64 0]) 3 24 Try.underlying28 a0i a0z a0s a0b rfl (by decide) (.slice Am m cm) m _ rfl hJ.out.2.2.1 w1.heap.size A2 q c2 (edFlat r) rfl hefl HE.out.rd (edFlat_one r) (by unfold maxLen; omega) (by omega) sr ?_)
     intro A3 c3 y own3 hg3 hat3
     have HX := hJ.out.app HQ.out own3 hg3 hat3
     have z0 : y.cell? ⟨G, 1, none⟩ = some (.slice Am m cm) := cell_of_row _ _ 1 _ _ _ HX.1
     have zf : y.frozen? ⟨G, 1, none⟩ = false := frozen_of_row _ _ 1 _ _ HX.1
     have HJ2 := hide HX.2
     obtain ⟨y2, hy2⟩ : ∃ z, y.setCell ⟨G, 1, none⟩ (.slice A3 (m + q) c3) = z := ⟨_, rfl⟩
     rw [hy2] at HJ2
     have HY2 := hide hy2
     have gl2 : G < y.heap.size := (Array.getElem?_eq_some_iff.1 HX.1).1
     have z1 : y2.cell? ⟨G, 1, none⟩ = some (.slice A3 (m + q) c3) := cell_of_row _ _ 1 _ _ _ HJ2.out.2.1
     have gl3 := HJ2.out.glt
     have hno : ¬ ((m + q : Nat) : Int) > 8192 := by omega
     have hno2 : ¬ (8192 : Int) < ((m + q : Nat) : Int) := by omega
     clear HX hy2 own3 hg3 hat3
     go_upto_region 11 with fail
     rw [HY2.out]
     clear HY2 g1 z0 zf gl2 e0
     go_wp2
     go_roundw
     case rel => exact ⟨k + 1, m + q, A3, c3, by omega, by go_num, by have := HJ2.out; rw [List.append_assoc, ← HFS.out] at this; exact hide this⟩
     case measure => simp [intOf]; omega
    ·obtain rfl : nu = k := by omega
     have HJ3 : Hid (JG w1 G V (allOut (ps.take (i + 1))) m Am cm wr) := hide (by rw [HAS.out]; have := hJ.out; rw [List.take_of_length_le (l := p.out) (by rw [HLen.out.2.1]; exact Nat.le_refl _)] at this; exact this)
     clear hJ
     go_wp2
     go_roundw
     case rel => exact ⟨i + 1, m, Am, cm, by omega, by go_num, HJ3⟩
     case measure => simp [intOf]; omega
  ·obtain rfl : L = i := by omega
   have HJ3 : Hid (JG w1 G V (allOut ps) m Am cm wr) := hide (by have := hJ.out; rw [List.take_of_length_le (by rw [HL.out]; exact Nat.le_refl _)] at this; exact this)
   clear hJ hi hlt
   have g1 : wr.cell? ⟨G, 1, none⟩ = some (.slice Am m cm) := cell_of_row _ _ 1 _ _ _ HJ3.out.2.1
   have hGl := HJ3.out.glt
   have hm8 : m ≤ 8192 := by have h1 := HJ3.out.1; have h2 := HT.out; omega
   go_upto_region 15 with fail
   go_cut [] (fun wc => Hid (∃ d, StS ltE (fun e : Ed => e.1) m (allOut ps) d ∧ JG w1 G V d m Am cm wc))
   case first =>
    by_cases hm0 : m = 0
    ·subst hm0
     go_wp2_with fail
     refine (sort0_any _ Am cm).mono ?_
     rintro e z ⟨rfl, rfl⟩
     have HFin : Hid (∃ d, StS ltE (fun e : Ed => e.1) 0 (allOut ps) d ∧ JG w1 G V d 0 Am cm wr) := hide ⟨allOut ps, ⟨Mv.refl _ _ _, fun _ => ⟨fun i j x y h1 h2 h3 => by omega, Stb.refl _ _⟩⟩, HJ3.out⟩
     go_wp2
     go_meet
     case rel => exact HFin
    ·obtain ⟨g, hAm⟩ : ∃ g, Am = some ⟨g, 0, none⟩ := by
      rcases HJ3.out.2.2.1.2 with ⟨_, h0⟩ | ⟨g, cap, cur, hv, _⟩
      ·exact absurd h0 hm0
      ·injection hv with hv; exact ⟨g, hv⟩
     subst hAm
     have HSR : Hid (SR wr w1.heap.size g m cm (allOut ps) wr) := hide ⟨HJ3.out.1, HJ3.out.2.2.1, KB.refl _ _, Below.refl _ _⟩
     have hgG : g ≠ G := HJ3.out.ne rfl
     have hgl : w1.heap.size ≤ g := (HJ3.out.2.2.1.lt g rfl).1
     go_wp2_with fail
     refine (sort_any (fun e : Ed => e.1) wr _ w1.heap.size g m cm (allOut ps) HSR.out (by omega)).mono ?_
     rintro e z ⟨rfl, d, hS, hT⟩
     have HFin : Hid (∃ d, StS ltE (fun e : Ed => e.1) m (allOut ps) d ∧ JG w1 G V d m (some ⟨g, 0, none⟩) cm z) := hide ⟨d, hT, hS.1, (hS.2.2.1.2 G HJ3.out.glt (by simpa using hgG.symm)).trans HJ3.out.2.1, hS.2.1, HJ3.out.2.2.2.1.trans (hS.2.2.2.mono hgl), HJ3.out.2.2.2.2⟩
     clear hS hT
     go_wp2
     go_meet
     case rel => exact HFin
   case rest =>
    obtain ⟨d, hst, hJ⟩ := hcut.out
    obtain ⟨v2, rfl⟩ : ∃ z : World, z = wc := ⟨_, rfl⟩
    have HST := hide hst
    have HWT : Hid (wt d) := hide (fun e he => HP.out.wt e (hst.1.perm.mem_iff.1 he))
    have hsr2 : w1.heap.size ≤ v2.heap.size := hJ.2.2.2.1.size
    have HED : Hid (Eds v2 v2.heap.size Am d) := hide (Eds.of_rd (Rd.of_own hJ.2.2.1) HWT.out)
    have hmc : m ≤ cm := own_cap hJ.2.2.1
    have hcmx : cm ≤ 9223372036854775807 := own_max hJ.2.2.1
    have HJ4 := hide hJ
    have HDL := hide hJ.1
    have HG4 := hide hJ.2.1
    have hGl2 := hJ.glt
    have HPv : Hid (PtRow v2 (some ⟨b, off, none⟩) ps) := hide (HP.out.next hJ.2.2.2.1)
    have hbl2 : b < v2.heap.size := by omega
    clear hJ hst hcut HJ3 g1 hGl srw
    go_wp2
    go_loopw [53] (fun v53 wr => ∃ i : Nat, i ≤ L ∧ v53 = .int .i64 (i : Int) ∧ Hid (∀ (q : Nat) (p : PartV), q < i → ps[q]? = some p → cutErr V d (L : Int) (q : Int) = 0 ∧ p = partF V d (L : Int) (q : Int)) ∧ Hid (Below v2.heap.size v2 wr)) (fun v53 _ => L - (intOf v53).toNat)
    case atStart => exact ⟨0, by omega, rfl, hide (fun q p h => absurd h (by omega)), hide (Below.refl _ _)⟩
    case round =>
     obtain ⟨i, hi, rfl, hok, hbr⟩ := hrel
     have srw : v2.heap.size ≤ wr.heap.size := hbr.out.size
     by_cases hlt : i < L
     ·have hI1 : (i : Int) < (L : Int) := by omega
      obtain ⟨p, hp⟩ : ∃ p, ps[i]? = some p := ⟨_, List.getElem?_eq_getElem (by rw [HL.out]; exact hlt)⟩
      obtain ⟨b9, off9, hbe, -, Ao, Au, Ab, no, nu, nb, co, cu, cb, d0, d1, d2, d3, d4, d5, hlen, hin, hbd⟩ := HPv.out.get hp
      injection hbe with hbe
      injection hbe with hb1 hb2
      subst hb1 hb2
      have HLen := hide hlen
      have HIn := hide hin
      have HBd := hide hbd
      have HPp := hide hp
      have e0 : wr.cell? ⟨b, off + i * 6, none⟩ = some (.int .i64 p.wk) := (hbr.out.cell (p := ⟨b, off + i * 6, none⟩) hbl2).trans d0
      have e1 : wr.cell? ⟨b, off + i * 6 + 1, none⟩ = some (.int .i64 p.ws) := (hbr.out.cell (p := ⟨b, off + i * 6 + 1, none⟩) hbl2).trans d1
      have e2 : wr.cell? ⟨b, off + i * 6 + 2, none⟩ = some (.int .i64 p.vs) := (hbr.out.cell (p := ⟨b, off + i * 6 + 2, none⟩) hbl2).trans d2
      have e3 : wr.cell? ⟨b, off + i * 6 + 3, none⟩ = some (.slice Ao no co) := (hbr.out.cell (p := ⟨b, off + i * 6 + 3, none⟩) hbl2).trans d3
      have e4 : wr.cell? ⟨b, off + i * 6 + 4, none⟩ = some (.slice Au nu cu) := (hbr.out.cell (p := ⟨b, off + i * 6 + 4, none⟩) hbl2).trans d4
      have e5 : wr.cell? ⟨b, off + i * 6 + 5, none⟩ = some (.slice Ab nb cb) := (hbr.out.cell (p := ⟨b, off + i * 6 + 5, none⟩) hbl2).trans d5
      have hlb : b < wr.heap.size := by omega
      obtain ⟨ws, hws⟩ : ∃ z, wr.alloc (.cells #[.int .i64 p.wk, .int .i64 p.ws, .int .i64 p.vs, .slice Ao no co, .slice Au nu cu, .slice Ab nb cb] 34) = z := ⟨_, rfl⟩
      have hzs : ws.heap.size = wr.heap.size + 1 := by rw [← hws]; simp
      have HBs : Hid (Below v2.heap.size v2 ws) := hide (by rw [← hws]; exact hbr.out.alloc srw _)
      have HTp : Hid (ws.heap[wr.heap.size]? = some (.cells #[.int .i64 p.wk, .int .i64 p.ws, .int .i64 p.vs, .slice Ao no co, .slice Au nu cu, .slice Ab nb cb] 34)) := hide (by rw [← hws]; exact heap_alloc_last _ _)
      have HWS := hide hws
      clear d0 d1 d2 d3 d4 d5 hlen hin hbd hp hws hbr
      go_upto_region 19 with fail
      rw [HWS.out]
      clear e0 e1 e2 e3 e4 e5 hlb HWS
      obtain ⟨T, hT⟩ : ∃ T, wr.heap.size = T := ⟨_, rfl⟩
      rw [hT] at HTp srw hzs ⊢
      clear hT
      have hGs : G < ws.heap.size := by omega
      have g0 : ws.cell? ⟨G, 0, none⟩ = some (.int .i64 V) := (HBs.out.cell (p := ⟨G, 0, none⟩) hGl2).trans (cell_of_row _ _ 0 _ _ _ HG4.out)
      have g1 : ws.cell? ⟨G, 1, none⟩ = some (.slice Am m cm) := (HBs.out.cell (p := ⟨G, 1, none⟩) hGl2).trans (cell_of_row _ _ 1 _ _ _ HG4.out)
      have HEs := hide ((HED.out.below HBs.out (Nat.le_refl _) |> fun h => Els.more h HBs.out.size))
      go_wp2_with fail
      refine (pcut_any _ V Am d m cm (L : Int) (i : Int) HDL.out HEs.out (by omega)).mono ?_
      rintro e z ⟨no2, nu2, nb2, Ao2, co2, Au2, cu2, hu2, Ab2, cb2, hb2, k1, k2, k3, k4, k5, k6, rfl, ro2, ru2, rb2, hz⟩
      obtain ⟨q, hq⟩ : ∃ q, partF V d (L : Int) (i : Int) = q := ⟨_, rfl⟩
      obtain ⟨ce, hce⟩ : ∃ q, cutErr V d (L : Int) (i : Int) = q := ⟨_, rfl⟩
      rw [hq] at k1 k2 k3 ro2 ru2 rb2 ⊢
      rw [hce]
      have HQ := hide hq
      have HCE := hide hce
      have HK := hide (And.intro k1 (And.intro k2 k3))
      have RO := hide (Rd.of_own ro2)
      have RU := hide ru2.erows
      have RB := hide rb2.erows
      have HBz := hide (HBs.out.trans (hz.mono HBs.out.size))
      have HTz : Hid (z.heap[T]? = some (.cells #[.int .i64 p.wk, .int .i64 p.ws, .int .i64 p.vs, .slice Ao no co, .slice Au nu cu, .slice Ab nb cb] 34)) := hide ((hz.block _ (by omega)).trans HTp.out)
      have hzz : ws.heap.size ≤ z.heap.size := hz.size
      clear hq hce k1 k2 k3 ro2 ru2 rb2 hz g0 g1
      obtain ⟨z2, hz2⟩ : ∃ x, z.alloc (.cells #[.int .i64 q.wk, .int .i64 q.ws, .int .i64 q.vs, .slice Ao2 no2 co2, .slice Au2 nu2 cu2, .slice Ab2 nb2 cb2] 34) = x := ⟨_, rfl⟩
      have HZ2 := hide hz2
      have hz2s : z2.heap.size = z.heap.size + 1 := by rw [← hz2]; simp
      have HBy : Hid (Below v2.heap.size v2 z2) := hide (by rw [← hz2]; exact HBz.out.alloc HBz.out.size _)
      have HTy : Hid (z2.heap[T]? = some (.cells #[.int .i64 p.wk, .int .i64 p.ws, .int .i64 p.vs, .slice Ao no co, .slice Au nu cu, .slice Ab nb cb] 34)) := hide (by rw [← hz2]; exact (Below.heap_alloc _ _ _ (by omega)).trans HTz.out)
      have HZb : Hid (Below z.heap.size z z2) := hide (by rw [← hz2]; exact (Below.refl _ _).alloc (Nat.le_refl _) _)
      have HTq : Hid (z2.heap[z.heap.size]? = some (.cells #[.int .i64 q.wk, .int .i64 q.ws, .int .i64 q.vs, .slice Ao2 no2 co2, .slice Au2 nu2 cu2, .slice Ab2 nb2 cb2] 34)) := hide (by rw [← hz2]; exact heap_alloc_last _ _)
      clear hz2
      go_upto_region 20 with fail
      rw [HZ2.out]
      clear HZ2
      obtain ⟨U, hU⟩ : ∃ T, z.heap.size = T := ⟨_, rfl⟩
      rw [hU] at HTq ⊢
      have HUe := hide hU
      have hTl : T < z2.heap.size := by omega
      have hUl : U < z2.heap.size := by omega
      clear hU
      by_cases hce0 : ce = 0
      rotate_left
      ·have hcb : (ce == 0) = false := by simpa using hce0
       have hcn : (ce != 0) = true := by simpa using hce0
       have HN : Hid (∀ e w', badG e → Below w.heap.size w w' → PJPost w ps e w') := hide (fun e w' h1 h2 => ⟨h2, .inr ⟨by rw [HL.out]; exact ⟨hL0, hL6⟩, d, by rw [← HJ4.out.1] at HST; rw [show (allOut ps).length = d.length from HST.out.1.len.symm]; exact HST.out, .inr ⟨fun ho => hce0 (by have h9 := (ho i p HPp.out).1; rw [HL.out, HV.out, HCE.out] at h9; exact h9), h1⟩⟩⟩)
       clear hce0
       have ZW : Hid (z2.heap[w.heap.size]? = some (.cells #[.int .i64 0, .slice none 0 0] 30)) := hide ((HBy.out.block _ (by omega)).trans ((HJ4.out.2.2.2.1.block _ (by omega)).trans M0.out))
       have HBf : Hid (Below w.heap.size w z2) := hide (HB0.out.trans ((HJ4.out.2.2.2.1.trans (HBy.out.mono hsr2)).mono (by omega)))
       have zc0 : z2.cell? ⟨w.heap.size, 0, none⟩ = some (.int .i64 0) := cell_of_row _ _ 0 _ _ _ ZW.out
       have zcf0 : z2.frozen? ⟨w.heap.size, 0, none⟩ = false := frozen_of_row _ _ 0 _ _ ZW.out
       have zc1 : z2.cell? ⟨w.heap.size, 1, none⟩ = some (.slice none 0 0) := cell_of_row _ _ 1 _ _ _ ZW.out
       have zcf1 : z2.frozen? ⟨w.heap.size, 1, none⟩ = false := frozen_of_row _ _ 1 _ _ ZW.out
       have HFin := hide (two_fin (.int .i64 0) (.slice none 0 0) (.int .i64 0) (.slice none 0 0) (Nat.le_refl w.heap.size) ZW.out HBf.out)
       go_wp2
       obtain ⟨f, hf, hfB, h6, hfs, hfo⟩ := HFin.out
       rw [hf]
       have y0 : f.cell? ⟨w.heap.size, 0, none⟩ = some (.int .i64 0) := cell_of_row _ _ 0 _ _ _ h6
       have y1 : f.cell? ⟨w.heap.size, 1, none⟩ = some (.slice none 0 0) := cell_of_row _ _ 1 _ _ _ h6
       exact bodyPost_ret (v := .tuple #[.agg #[.int .i64 0, .slice none 0 0], .int .i64 2]) (by simp [results, Try.results21, go_sem, y0, y1]) rfl (HN.out _ _ rfl hfB)
      subst hce0
      have x0 : z2.cell? ⟨T, 0, none⟩ = some (.int .i64 p.wk) := cell_of_row _ _ 0 _ _ _ HTy.out
      have x1 : z2.cell? ⟨T, 1, none⟩ = some (.int .i64 p.ws) := cell_of_row _ _ 1 _ _ _ HTy.out
      have x2 : z2.cell? ⟨T, 2, none⟩ = some (.int .i64 p.vs) := cell_of_row _ _ 2 _ _ _ HTy.out
      have x3 : z2.cell? ⟨T, 3, none⟩ = some (.slice Ao no co) := cell_of_row _ _ 3 _ _ _ HTy.out
      have x4 : z2.cell? ⟨T, 4, none⟩ = some (.slice Au nu cu) := cell_of_row _ _ 4 _ _ _ HTy.out
      have x5 : z2.cell? ⟨T, 5, none⟩ = some (.slice Ab nb cb) := cell_of_row _ _ 5 _ _ _ HTy.out
      have y0 : z2.cell? ⟨U, 0, none⟩ = some (.int .i64 q.wk) := cell_of_row _ _ 0 _ _ _ HTq.out
      have y1 : z2.cell? ⟨U, 1, none⟩ = some (.int .i64 q.ws) := cell_of_row _ _ 1 _ _ _ HTq.out
      have y2 : z2.cell? ⟨U, 2, none⟩ = some (.int .i64 q.vs) := cell_of_row _ _ 2 _ _ _ HTq.out
      have y3 : z2.cell? ⟨U, 3, none⟩ = some (.slice Ao2 no2 co2) := cell_of_row _ _ 3 _ _ _ HTq.out
      have y4 : z2.cell? ⟨U, 4, none⟩ = some (.slice Au2 nu2 cu2) := cell_of_row _ _ 4 _ _ _ HTq.out
      have y5 : z2.cell? ⟨U, 5, none⟩ = some (.slice Ab2 nb2 cb2) := cell_of_row _ _ 5 _ _ _ HTq.out
      have HKp : Hid (Kept v2 z2) := hide (Kept.of_below HBy.out)
      have hsz2 : v2.heap.size ≤ z2.heap.size := HBy.out.size
      go_wp2_with fail
      refine (qsame_any _ p.wk p.ws p.vs Ao Au Ab p.own p.out p.back no co nu cu nb cb HLen.out.1 HLen.out.2.1 HLen.out.2.2 HBd.out.1 HBd.out.2.1 HBd.out.2.2 (HIn.out.kept HKp.out hsz2).own (HIn.out.kept HKp.out hsz2).out (HIn.out.kept HKp.out hsz2).back q.wk q.ws q.vs Ao2 Au2 Ab2 q.own q.out q.back no2 co2 nu2 cu2 nb2 cb2 HK.out.1 HK.out.2.1 HK.out.2.2 (by omega) (by omega) (by omega) (RO.out.next HZb.out) (RU.out.next HZb.out) (RB.out.next HZb.out)).mono ?_
      rintro e z3 ⟨rfl, h3⟩
      have HB3 := hide (HBy.out.trans (h3.mono hsz2))
      obtain ⟨sb, hsb⟩ : ∃ s, (decide (p.wk = q.wk) && decide (p.ws = q.ws) && decide (p.vs = q.vs) && eqL p.own q.own && eqL p.out q.out && eqL p.back q.back) = s := ⟨_, rfl⟩
      rw [hsb]
      have hsame := part_same p q
      rw [hsb] at hsame
      have HSM := hide hsame
      clear hsb hsame h3 x0 y0 x1 y1 x2 y2 x3 y3 x4 y4 x5 y5
      rcases sb with _ | _
      ·have HN : Hid (∀ e w', badG e → Below w.heap.size w w' → PJPost w ps e w') := hide (fun e w' h1 h2 => ⟨h2, .inr ⟨by rw [HL.out]; exact ⟨hL0, hL6⟩, d, by rw [← HJ4.out.1] at HST; rw [show (allOut ps).length = d.length from HST.out.1.len.symm]; exact HST.out, .inr ⟨fun ho => by have h9 := (ho i p HPp.out).2; rw [HL.out, HV.out, HQ.out] at h9; exact absurd (HSM.out.2 h9) (by decide), h1⟩⟩⟩)
       have ZW : Hid (z3.heap[w.heap.size]? = some (.cells #[.int .i64 0, .slice none 0 0] 30)) := hide ((HB3.out.block _ (by omega)).trans ((HJ4.out.2.2.2.1.block _ (by omega)).trans M0.out))
       have HBf : Hid (Below w.heap.size w z3) := hide (HB0.out.trans ((HJ4.out.2.2.2.1.trans (HB3.out.mono hsr2)).mono (by omega)))
       have zc0 : z3.cell? ⟨w.heap.size, 0, none⟩ = some (.int .i64 0) := cell_of_row _ _ 0 _ _ _ ZW.out
       have zcf0 : z3.frozen? ⟨w.heap.size, 0, none⟩ = false := frozen_of_row _ _ 0 _ _ ZW.out
       have zc1 : z3.cell? ⟨w.heap.size, 1, none⟩ = some (.slice none 0 0) := cell_of_row _ _ 1 _ _ _ ZW.out
       have zcf1 : z3.frozen? ⟨w.heap.size, 1, none⟩ = false := frozen_of_row _ _ 1 _ _ ZW.out
       have HFin := hide (two_fin (.int .i64 0) (.slice none 0 0) (.int .i64 0) (.slice none 0 0) (Nat.le_refl w.heap.size) ZW.out HBf.out)
       go_wp2
       obtain ⟨f, hf, hfB, h6, hfs, hfo⟩ := HFin.out
       rw [hf]
       have y0 : f.cell? ⟨w.heap.size, 0, none⟩ = some (.int .i64 0) := cell_of_row _ _ 0 _ _ _ h6
       have y1 : f.cell? ⟨w.heap.size, 1, none⟩ = some (.slice none 0 0) := cell_of_row _ _ 1 _ _ _ h6
       exact bodyPost_ret (v := .tuple #[.agg #[.int .i64 0, .slice none 0 0], .int .i64 2]) (by simp [results, Try.results21, go_sem, y0, y1]) rfl (HN.out _ _ rfl hfB)
      ·have HOK : Hid (∀ (q : Nat) (p : PartV), q < i + 1 → ps[q]? = some p → cutErr V d (L : Int) (q : Int) = 0 ∧ p = partF V d (L : Int) (q : Int)) := hide (fun j p' hj hp' => by
         by_cases h8 : j < i
         ·exact hok.out j p' h8 hp'
         ·obtain rfl : j = i := by omega
          have e9 := HPp.out
          rw [hp'] at e9
          injection e9 with e9
          subst e9
          exact ⟨HCE.out, by rw [HQ.out]; exact HSM.out.1 rfl⟩)
       clear hok
       go_wp2
       go_roundw
       case rel => exact ⟨i + 1, by omega, by go_num, HOK, HB3⟩
       case measure => simp [intOf]; omega
     ·obtain rfl : L = i := by omega
      have ZW : Hid (wr.heap[w.heap.size]? = some (.cells #[.int .i64 0, .slice none 0 0] 30)) := hide ((hbr.out.block _ (by omega)).trans ((HJ4.out.2.2.2.1.block _ (by omega)).trans M0.out))
      have HBf : Hid (Below w.heap.size w wr) := hide (HB0.out.trans ((HJ4.out.2.2.2.1.trans (hbr.out.mono hsr2)).mono (by omega)))
      have hGr : G < wr.heap.size := by omega
      have g0 : wr.cell? ⟨G, 0, none⟩ = some (.int .i64 V) := (hbr.out.cell (p := ⟨G, 0, none⟩) hGl2).trans (cell_of_row _ _ 0 _ _ _ HG4.out)
      have g1 : wr.cell? ⟨G, 1, none⟩ = some (.slice Am m cm) := (hbr.out.cell (p := ⟨G, 1, none⟩) hGl2).trans (cell_of_row _ _ 1 _ _ _ HG4.out)
      have HHG := hide (show w.heap.size ≠ G by have := HJ4.out.2.2.2.2; omega)
      have HOKG : Hid (okG V d ps) := hide (fun q p hp => by rw [HL.out]; exact hok.out q p (by have := (List.getElem?_eq_some_iff.1 hp).1; have := HL.out; omega) hp)
      clear hok
      have zc0 : wr.cell? ⟨w.heap.size, 0, none⟩ = some (.int .i64 0) := cell_of_row _ _ 0 _ _ _ ZW.out
      have zcf0 : wr.frozen? ⟨w.heap.size, 0, none⟩ = false := frozen_of_row _ _ 0 _ _ ZW.out
      have zc1 : wr.cell? ⟨w.heap.size, 1, none⟩ = some (.slice none 0 0) := cell_of_row _ _ 1 _ _ _ ZW.out
      have zcf1 : wr.frozen? ⟨w.heap.size, 1, none⟩ = false := frozen_of_row _ _ 1 _ _ ZW.out
      have HFin := hide (two_fin (.int .i64 0) (.slice none 0 0) (.int .i64 V) (.slice Am m cm) (Nat.le_refl w.heap.size) ZW.out HBf.out)
      go_wp2
      obtain ⟨f, hf, hfB, h6, hfs, hfo⟩ := HFin.out
      rw [hf]
      have y0 : f.cell? ⟨w.heap.size, 0, none⟩ = some (.int .i64 V) := cell_of_row _ _ 0 _ _ _ h6
      have y1 : f.cell? ⟨w.heap.size, 1, none⟩ = some (.slice Am m cm) := cell_of_row _ _ 1 _ _ _ h6
      have o1 := own_below HJ4.out.2.2.1 hbr.out (fun g hg => (HJ4.out.2.2.1.lt g hg).2)
      have hkb : KB [w.heap.size] wr f := ⟨by omega, fun b hb hx => hfo b (by simpa using hx)⟩
      have hEf : Eds f f.heap.size Am d := Eds.of_rd (Rd.of_own (hkb.own o1 (fun g hg => by have := (o1.lt g hg).1; simp; omega))) HWT.out
      exact bodyPost_ret (v := .tuple #[.agg #[.int .i64 V, .slice Am m cm], .int .i64 0]) (by simp [results, Try.results21, go_sem, y0, y1]) rfl ⟨hfB, .inr ⟨by rw [HL.out]; exact ⟨hL0, hL6⟩, d, by rw [show (allOut ps).length = m by rw [← HDL.out]; exact HST.out.1.len.symm]; exact HST.out, .inl ⟨by rw [HV.out]; exact HOKG.out, by rw [HV.out]; exact ⟨Am, cm, by rw [HDL.out], hEf, by rw [HDL.out]; exact hmc, hcmx⟩⟩⟩⟩
end Go.Proofs.Ytihdpfjonkagaaa
namespace Go.Proofs.Ytihdpfjonkagaaa
open Go.RowKit
def RJPost (w : World) (ps : List PartV) (e : Ending) (w' : World) : Prop := Below w.heap.size w w' ∧
 ((¬ (1 ≤ ps.length ∧ ps.length ≤ 64 ∧ 1 ≤ vsOf ps ∧ vsOf ps ≤ 512) ∧ badG e) ∨ ((1 ≤ ps.length ∧ ps.length ≤ 64 ∧ 1 ≤ vsOf ps ∧ vsOf ps ≤ 512) ∧ ((okG (vsOf ps) (refG (vsOf ps).toNat ps) ps ∧ goodG (vsOf ps) (refG (vsOf ps).toNat ps) e w') ∨ (¬ okG (vsOf ps) (refG (vsOf ps).toNat ps) ps ∧ badG e))))
theorem refG_succ (v : Nat) (ps : List PartV) : refG (v + 1) ps = limF (refG v ps) (rowsV (pw ps (v : Int)) (v : Int) (pw ps (v : Int)).own.length) := by
 unfold refG
 rw [List.range_succ, List.flatMap_append, lim_app]
 simp
theorem rowsV_succ {p : PartV} {v : Int} {i : Nat} {o : Int} {r : List Ed} (ho : p.own[i]? = some o) (hr : p.out[i]? = some r) : rowsV p v (i + 1) = rowsV p v i ++ (if o = v then [r] else []) := by
 unfold rowsV
 have hz : (p.own.zip p.out)[i]? = some (o, r) := by
  rw [List.getElem?_zip_eq_some]
  exact ⟨ho, hr⟩
 rw [List.take_add_one, hz, List.filterMap_append]
 congr 1
 by_cases h : o = v
 ·simp [h]
 ·simp [h]
theorem rowsV_all (p : PartV) (v : Int) {i : Nat} (h : p.own.length ≤ i ∨ p.out.length ≤ i) : rowsV p v i = rowsV p v p.own.length := by
 unfold rowsV
 rw [List.take_of_length_le (by rw [List.length_zip]; omega), List.take_of_length_le (by rw [List.length_zip]; omega)]
theorem row_le {rs : List (List Ed)} {i : Nat} {r : List Ed} (h : rs[i]? = some r) : r.length ≤ rs.flatten.length := by
 have h1 := flat_succ h
 have h2 := flat_len (rs := rs) (i + 1)
 rw [h1, List.length_append] at h2
 omega
theorem lim_sub {β : Type} : ∀ (rs : List (List β)) (acc : List β) {x : β}, x ∈ limF acc rs → x ∈ acc ∨ ∃ r ∈ rs, x ∈ r
 | [], acc, x, h => .inl h
 | r :: rs, acc, x, h => by
  have e : limF acc (r :: rs) = limF (if acc.length ≤ 8192 then acc ++ r else acc) rs := rfl
  rw [e] at h
  rcases lim_sub rs _ h with h1 | ⟨q, hq, hx⟩
  ·split at h1
   ·rcases List.mem_append.1 h1 with h2 | h2
    ·exact .inl h2
    ·exact .inr ⟨r, by simp, h2⟩
   ·exact .inl h1
  ·exact .inr ⟨q, by simp [hq], hx⟩
theorem refG_sub {v : Nat} {ps : List PartV} {e : Ed} (h : e ∈ refG v ps) : e ∈ allOut ps := by
 unfold refG at h
 rcases lim_sub _ _ h with h1 | ⟨r, hr, hx⟩
 ·cases h1
 ·obtain ⟨u, _, hr⟩ := List.mem_flatMap.1 hr
  unfold rowsV at hr
  obtain ⟨⟨o, r2⟩, hz, he⟩ := List.mem_filterMap.1 hr
  have hz := List.mem_of_mem_take hz
  have hro := (List.of_mem_zip hz).2
  dsimp only at he
  split at he
  ·injection he with he
   subst he
   have hp : pw ps (u : Int) ∈ ps ∨ pw ps (u : Int) = noPart := by
    unfold pw
    rw [List.getD_eq_getElem?_getD]
    cases hq : ps[(ofF (u : Int) (ps.length : Int)).toNat]? with
    | none => exact .inr rfl
    | some p => exact .inl (List.mem_of_getElem? hq)
   rcases hp with hp | hp
   ·unfold allOut
    exact List.mem_flatMap.2 ⟨_, hp, List.mem_flatten.2 ⟨_, hro, hx⟩⟩
   ·rw [hp] at hro
    cases hro
  ·cases he
theorem rjoin_any (w : World) (A : Option Addr) (ps : List PartV) (L c : Nat) (hL : ps.length = L) (hP : PtRow w A ps) (hLm : L ≤ 9223372036854775807) (ht : ∀ p ∈ ps, p.out.flatten.length ≤ 60) :
  Calls Try.prog 22 #[.slice A L c] w (RJPost w ps) := by
 obtain ⟨a0, a0i, a0z, a0s, a0b⟩ := info_parts (show (Try.prog.info? 44).map (fun i => (i.zero, i.size, i.bytes)) = some (some (.agg #[.int .i64 0, .int .i64 0, .int .i64 0]), 3, 24) by kernel_rfl)
 obtain ⟨v0, hu⟩ : ∃ u, w.alloc (.cells #[.int .i64 0, .slice none 0 0] 30) = u := ⟨_, rfl⟩
 have HZU := hide (show v0.heap.size = w.heap.size + 1 by rw [← hu]; simp)
 have hzl : w.heap.size < v0.heap.size := by have := HZU.out; omega
 have HB0 := hide (show Below w.heap.size w v0 by rw [← hu]; exact (Below.refl _ _).alloc (Nat.le_refl _) _)
 have M0 := hide (show v0.heap[w.heap.size]? = some (.cells #[.int .i64 0, .slice none 0 0] 30) by rw [← hu]; exact heap_alloc_last _ _)
 have HP := hide (hP.next HB0.out)
 have HU := hide hu
 have HL := hide hL
 have HT := hide ht
 clear hu hP hL ht
 by_cases hL1 : 1 ≤ L ∧ L ≤ 64
 rotate_left
 ·have HN : Hid (∀ e w', badG e → Below w.heap.size w w' → RJPost w ps e w') := hide (fun e w' h1 h2 => ⟨h2, .inl ⟨fun h => hL1 ⟨by rw [← HL.out]; exact h.1, by rw [← HL.out]; exact h.2.1⟩, h1⟩⟩)
  have ZW := M0
  have HBf := HB0
  by_cases hL0 : L < 1
  ·obtain rfl : L = 0 := by omega
   go_enter Try.func22, Try.ntmps22
   go_upto_region 1 with fail
   rw [HU.out]
   have zc0 : v0.cell? ⟨w.heap.size, 0, none⟩ = some (.int .i64 0) := cell_of_row _ _ 0 _ _ _ ZW.out
   have zcf0 : v0.frozen? ⟨w.heap.size, 0, none⟩ = false := frozen_of_row _ _ 0 _ _ ZW.out
   have zc1 : v0.cell? ⟨w.heap.size, 1, none⟩ = some (.slice none 0 0) := cell_of_row _ _ 1 _ _ _ ZW.out
   have zcf1 : v0.frozen? ⟨w.heap.size, 1, none⟩ = false := frozen_of_row _ _ 1 _ _ ZW.out
   have HFin := hide (two_fin (.int .i64 0) (.slice none 0 0) (.int .i64 0) (.slice none 0 0) (Nat.le_refl w.heap.size) ZW.out HBf.out)
   go_wp2
   obtain ⟨f, hf, hfB, h6, hfs, hfo⟩ := HFin.out
   rw [hf]
   have y0 : f.cell? ⟨w.heap.size, 0, none⟩ = some (.int .i64 0) := cell_of_row _ _ 0 _ _ _ h6
   have y1 : f.cell? ⟨w.heap.size, 1, none⟩ = some (.slice none 0 0) := cell_of_row _ _ 1 _ _ _ h6
   exact bodyPost_ret (v := .tuple #[.agg #[.int .i64 0, .slice none 0 0], .int .i64 2]) (by simp [results, Try.results22, go_sem, y0, y1]) rfl (HN.out _ _ rfl hfB)
  ·have h1 : ¬ (L : Int) < 1 := by omega
   have h2 : (64 : Int) < (L : Int) := by omega
   clear hL1
   go_enter Try.func22, Try.ntmps22
   go_upto_region 1 with fail
   rw [HU.out]
   have zc0 : v0.cell? ⟨w.heap.size, 0, none⟩ = some (.int .i64 0) := cell_of_row _ _ 0 _ _ _ ZW.out
   have zcf0 : v0.frozen? ⟨w.heap.size, 0, none⟩ = false := frozen_of_row _ _ 0 _ _ ZW.out
   have zc1 : v0.cell? ⟨w.heap.size, 1, none⟩ = some (.slice none 0 0) := cell_of_row _ _ 1 _ _ _ ZW.out
   have zcf1 : v0.frozen? ⟨w.heap.size, 1, none⟩ = false := frozen_of_row _ _ 1 _ _ ZW.out
   have HFin := hide (two_fin (.int .i64 0) (.slice none 0 0) (.int .i64 0) (.slice none 0 0) (Nat.le_refl w.heap.size) ZW.out HBf.out)
   go_wp2
   obtain ⟨f, hf, hfB, h6, hfs, hfo⟩ := HFin.out
   rw [hf]
   have y0 : f.cell? ⟨w.heap.size, 0, none⟩ = some (.int .i64 0) := cell_of_row _ _ 0 _ _ _ h6
   have y1 : f.cell? ⟨w.heap.size, 1, none⟩ = some (.slice none 0 0) := cell_of_row _ _ 1 _ _ _ h6
   exact bodyPost_ret (v := .tuple #[.agg #[.int .i64 0, .slice none 0 0], .int .i64 2]) (by simp [results, Try.results22, go_sem, y0, y1]) rfl (HN.out _ _ rfl hfB)
 obtain ⟨hL0, hL6⟩ := hL1
 have h1 : ¬ (L : Int) < 1 := by omega
 have h2 : ¬ (64 : Int) < (L : Int) := by omega
 have hLI0 : (0 : Int) < (L : Int) := by omega
 obtain ⟨p0, hp0⟩ : ∃ p, ps[0]? = some p := ⟨_, List.getElem?_eq_getElem (by rw [HL.out]; omega)⟩
 obtain ⟨b, off, rfl, hbl, Ao, Au, Ab, no, nu, nb, co, cu, cb, -, -, d2, -, -, -, -, -, -⟩ := HP.out.get hp0
 obtain ⟨V, hV⟩ : ∃ V, vsOf ps = V := ⟨_, rfl⟩
 have hv0 : p0.vs = V := by rw [← hV]; unfold vsOf; rw [List.getD_eq_getElem?_getD, hp0]; rfl
 rw [hv0] at d2
 have HV := hide hV
 have c0 : v0.cell? ⟨b, off + 2, none⟩ = some (.int .i64 V) := by simpa using d2
 clear d2 hV hv0 hp0 Ao Au Ab no nu nb co cu cb p0
 by_cases hV1 : V < 1
 ·have HN : Hid (∀ e w', badG e → Below w.heap.size w w' → RJPost w ps e w') := hide (fun e w' h1 h2 => ⟨h2, .inl ⟨fun h => by have h3 := h.2.2.1; rw [HV.out] at h3; omega, h1⟩⟩)
  have ZW := M0
  have HBf := HB0
  go_enter Try.func22, Try.ntmps22
  go_upto_region 1 with fail
  rw [HU.out]
  have zc0 : v0.cell? ⟨w.heap.size, 0, none⟩ = some (.int .i64 0) := cell_of_row _ _ 0 _ _ _ ZW.out
  have zcf0 : v0.frozen? ⟨w.heap.size, 0, none⟩ = false := frozen_of_row _ _ 0 _ _ ZW.out
  have zc1 : v0.cell? ⟨w.heap.size, 1, none⟩ = some (.slice none 0 0) := cell_of_row _ _ 1 _ _ _ ZW.out
  have zcf1 : v0.frozen? ⟨w.heap.size, 1, none⟩ = false := frozen_of_row _ _ 1 _ _ ZW.out
  have HFin := hide (two_fin (.int .i64 0) (.slice none 0 0) (.int .i64 0) (.slice none 0 0) (Nat.le_refl w.heap.size) ZW.out HBf.out)
  go_wp2
  obtain ⟨f, hf, hfB, h6, hfs, hfo⟩ := HFin.out
  rw [hf]
  have y0 : f.cell? ⟨w.heap.size, 0, none⟩ = some (.int .i64 0) := cell_of_row _ _ 0 _ _ _ h6
  have y1 : f.cell? ⟨w.heap.size, 1, none⟩ = some (.slice none 0 0) := cell_of_row _ _ 1 _ _ _ h6
  exact bodyPost_ret (v := .tuple #[.agg #[.int .i64 0, .slice none 0 0], .int .i64 2]) (by simp [results, Try.results22, go_sem, y0, y1]) rfl (HN.out _ _ rfl hfB)
 by_cases hV5 : 512 < V
 ·have HN : Hid (∀ e w', badG e → Below w.heap.size w w' → RJPost w ps e w') := hide (fun e w' h1 h2 => ⟨h2, .inl ⟨fun h => by have h3 := h.2.2.2; rw [HV.out] at h3; omega, h1⟩⟩)
  have ZW := M0
  have HBf := HB0
  go_enter Try.func22, Try.ntmps22
  go_upto_region 1 with fail
  rw [HU.out]
  have zc0 : v0.cell? ⟨w.heap.size, 0, none⟩ = some (.int .i64 0) := cell_of_row _ _ 0 _ _ _ ZW.out
  have zcf0 : v0.frozen? ⟨w.heap.size, 0, none⟩ = false := frozen_of_row _ _ 0 _ _ ZW.out
  have zc1 : v0.cell? ⟨w.heap.size, 1, none⟩ = some (.slice none 0 0) := cell_of_row _ _ 1 _ _ _ ZW.out
  have zcf1 : v0.frozen? ⟨w.heap.size, 1, none⟩ = false := frozen_of_row _ _ 1 _ _ ZW.out
  have HFin := hide (two_fin (.int .i64 0) (.slice none 0 0) (.int .i64 0) (.slice none 0 0) (Nat.le_refl w.heap.size) ZW.out HBf.out)
  go_wp2
  obtain ⟨f, hf, hfB, h6, hfs, hfo⟩ := HFin.out
  rw [hf]
  have y0 : f.cell? ⟨w.heap.size, 0, none⟩ = some (.int .i64 0) := cell_of_row _ _ 0 _ _ _ h6
  have y1 : f.cell? ⟨w.heap.size, 1, none⟩ = some (.slice none 0 0) := cell_of_row _ _ 1 _ _ _ h6
  exact bodyPost_ret (v := .tuple #[.agg #[.int .i64 0, .slice none 0 0], .int .i64 2]) (by simp [results, Try.results22, go_sem, y0, y1]) rfl (HN.out _ _ rfl hfB)
 obtain ⟨n, rfl⟩ : ∃ n : Nat, V = (n : Int) := ⟨V.toNat, by omega⟩
 have hn1 : 1 ≤ n := by omega
 have hn5 : n ≤ 512 := by omega
 obtain ⟨v1, hv1⟩ : ∃ u, v0.alloc (.cells #[.int .i64 (n : Int), .slice none 0 0] 30) = u := ⟨_, rfl⟩
 have HV1 := hide hv1
 have HJ0 : Hid (JG v0 v0.heap.size (n : Int) [] 0 none 0 v1) := hide (by rw [← hv1]; exact ⟨rfl, heap_alloc_last _ _, World.ownsRow_nil _ _ _ _, (Below.refl _ _).alloc (Nat.le_refl _) _, Nat.le_refl _⟩)
 clear hv1
 go_enter Try.func22, Try.ntmps22
 go_upto_region 1 with fail
 rw [HU.out]
 go_upto_region 4 with fail
 rw [HV1.out]
 clear HV1 HU c0
 obtain ⟨G, hG⟩ : ∃ G, v0.heap.size = G := ⟨_, rfl⟩
 have HG := hide hG
 have HJ0 : Hid (JG v0 G (n : Int) [] 0 none 0 v1) := hide (by rw [← hG]; exact HJ0.out)
 rw [HG.out]
 clear hG hV1 hV5
 go_wp2
 go_loopw [5] (fun v5 wr => ∃ (v m : Nat) (Am : Option Addr) (cm : Nat), v ≤ n ∧ v5 = .int .i64 (v : Int) ∧ Hid (JG v0 G (n : Int) (refG v ps) m Am cm wr) ∧ m ≤ 8252) (fun v5 _ => n - (intOf v5).toNat)
 case atStart => exact ⟨0, 0, none, 0, by omega, rfl, HJ0, by omega⟩
 case round =>
  obtain ⟨v, m, Am, cm, hv, rfl, hJ, hm8⟩ := hrel
  have srw : v0.heap.size ≤ wr.heap.size := hJ.out.2.2.2.1.size
  have g0 : wr.cell? ⟨G, 0, none⟩ = some (.int .i64 (n : Int)) := cell_of_row _ _ 0 _ _ _ hJ.out.2.1
  have hGl := hJ.out.glt
  by_cases hlt : v < n
  ·have hI1 : (v : Int) < (n : Int) := by omega
   obtain ⟨hk0, hk1⟩ := ofF_ok (v : Int) (L : Int) (by omega) (by omega) (by omega) (by omega)
   obtain ⟨k, hk⟩ : ∃ k : Nat, ofF (v : Int) (L : Int) = (k : Int) := ⟨_, (Int.toNat_of_nonneg hk0).symm⟩
   rw [hk] at hk0 hk1
   have HOf := hide hk
   obtain ⟨p, hp⟩ : ∃ p, ps[k]? = some p := ⟨_, List.getElem?_eq_getElem (by rw [HL.out]; omega)⟩
   obtain ⟨b9, off9, hbe, -, Ao, Au, Ab, no, nu, nb, co, cu, cb, d0, d1, d2, d3, d4, d5, hlen, hin, hbd⟩ := HP.out.get hp
   injection hbe with hbe
   injection hbe with hb1 hb2
   subst hb1 hb2
   have HLen := hide hlen
   have HIn := hide hin
   have hno : no ≤ 9223372036854775807 := hbd.1
   have hnu : nu ≤ 9223372036854775807 := hbd.2.1
   have HR6 := hide (HT.out p (List.mem_of_getElem? hp))
   have HPW : Hid (pw ps (v : Int) = p) := hide (by unfold pw; rw [HL.out, HOf.out, Int.toNat_natCast, List.getD_eq_getElem?_getD, hp]; rfl)
   have D3 := hide d3
   have D4 := hide d4
   clear d0 d1 d2 d3 d4 d5 hlen hin hbd hp hk
   go_upto_region 7 with fail
   go_wp2_with fail
   refine (rof_any _ (v : Int) (L : Int)).mono ?_
   rintro e w2 ⟨rfl, rfl⟩
   rw [HOf.out]
   have HJr := hJ
   clear hJ g0 hGl
   obtain ⟨wo, rfl⟩ : ∃ z : World, z = w2 := ⟨_, rfl⟩
   go_wp2
   go_loopw [7] (fun v7 wr => ∃ (i m : Nat) (Am : Option Addr) (cm : Nat), i ≤ no ∧ v7 = .int .i64 (i : Int) ∧ Hid (JG v0 G (n : Int) (limF (refG v ps) (rowsV p (v : Int) i)) m Am cm wr) ∧ m ≤ 8252) (fun v7 _ => no - (intOf v7).toNat)
   case atStart => exact ⟨0, m, Am, cm, by omega, rfl, by have := HJr.out; exact hide (by simpa [rowsV, limF] using this), hm8⟩
   case round =>
    clear HJr srw hm8
    obtain ⟨i, m, Am, cm, hi, rfl, hJ, hm8⟩ := hrel
    have hJB := hJ.out.2.2.2.1
    have srw : v0.heap.size ≤ wr.heap.size := hJB.size
    have e3 : wr.cell? ⟨b, off + k * 6 + 3, none⟩ = some (.slice Ao no co) := (hJB.cell (p := ⟨b, off + k * 6 + 3, none⟩) hbl).trans D3.out
    have e4 : wr.cell? ⟨b, off + k * 6 + 4, none⟩ = some (.slice Au nu cu) := (hJB.cell (p := ⟨b, off + k * 6 + 4, none⟩) hbl).trans D4.out
    have hlb : b < wr.heap.size := by omega
    have HJB := hide hJB
    clear hJB
    by_cases hin : i < no
    rotate_left
    ·have hni : ¬ (i : Int) < (no : Int) := by omega
     have HJ3 : Hid (JG v0 G (n : Int) (refG (v + 1) ps) m Am cm wr) := hide (by rw [refG_succ, HPW.out, ← rowsV_all p (v : Int) (i := i) (.inl (by have := HLen.out.1; omega))]; exact hJ.out)
     clear hJ
     go_wp2
     go_roundw
     case rel => exact ⟨v + 1, m, Am, cm, by omega, by go_num, HJ3, hm8⟩
     case measure => simp [intOf]; omega
    by_cases hinu : i < nu
    rotate_left
    ·have hii : (i : Int) < (no : Int) := by omega
     have hni : ¬ (i : Int) < (nu : Int) := by omega
     have HJ3 : Hid (JG v0 G (n : Int) (refG (v + 1) ps) m Am cm wr) := hide (by rw [refG_succ, HPW.out, ← rowsV_all p (v : Int) (i := i) (.inr (by have := HLen.out.2.1; omega))]; exact hJ.out)
     clear hJ
     go_wp2
     go_roundw
     case rel => exact ⟨v + 1, m, Am, cm, by omega, by go_num, HJ3, hm8⟩
     case measure => simp [intOf]; omega
    have hii : (i : Int) < (no : Int) := by omega
    have hiu : (i : Int) < (nu : Int) := by omega
    obtain ⟨o, ho⟩ : ∃ o, p.own[i]? = some o := ⟨_, List.getElem?_eq_getElem (by rw [HLen.out.1]; exact hin)⟩
    obtain ⟨r, hr⟩ : ∃ r, p.out[i]? = some r := ⟨_, List.getElem?_eq_getElem (by rw [HLen.out.2.1]; exact hinu)⟩
    obtain ⟨bo, oo, rfl, hbo, f0⟩ := HIn.out.own.at1 (ints_get ho)
    obtain ⟨bu, ou, A2, c2, rfl, hbu, d0, hc2, hcm, hE⟩ := HIn.out.out.get hr
    obtain ⟨q, hq⟩ : ∃ q, r.length = q := ⟨_, rfl⟩
    rw [hq] at d0 hc2
    have HQ := hide hq
    have f1 : wr.cell? ⟨bo, oo + i, none⟩ = some (.int .i64 o) := (HJB.out.cell (p := ⟨bo, oo + i, none⟩) hbo).trans f0
    have hlbo : bo < wr.heap.size := by omega
    have HRS := hide (rowsV_succ (v := (v : Int)) ho hr)
    have hq6 : q ≤ 60 := by have h9 := HR6.out; have h8 := row_le hr; omega
    have g1 : wr.cell? ⟨G, 1, none⟩ = some (.slice Am m cm) := cell_of_row _ _ 1 _ _ _ hJ.out.2.1
    have hGl := hJ.out.glt
    clear f0 ho hr
    by_cases hov : o = (v : Int)
    rotate_left
    ·have hov1 : (o == (v : Int)) = false := by simpa using hov
     have HJ3 : Hid (JG v0 G (n : Int) (limF (refG v ps) (rowsV p (v : Int) (i + 1))) m Am cm wr) := hide (by rw [HRS.out, if_neg hov, List.append_nil]; exact hJ.out)
     clear hJ hov d0 hE hq
     go_wp2
     go_roundw
     case rel => exact ⟨i + 1, m, Am, cm, by omega, by go_num, HJ3, hm8⟩
     case measure => simp [intOf]; omega
    subst hov
    have HRS2 : Hid (rowsV p (v : Int) (i + 1) = rowsV p (v : Int) i ++ [r]) := hide (by rw [HRS.out, if_pos rfl])
    by_cases hm1 : m ≤ 8192
    rotate_left
    ·have hmI : ¬ (m : Int) ≤ 8192 := by omega
     have HJ3 : Hid (JG v0 G (n : Int) (limF (refG v ps) (rowsV p (v : Int) (i + 1))) m Am cm wr) := hide (by rw [HRS2.out, lim_snoc, if_neg (by rw [hJ.out.1]; exact hm1)]; exact hJ.out)
     clear hJ d0 hE hq
     go_wp2
     go_roundw
     case rel => exact ⟨i + 1, m, Am, cm, by omega, by go_num, HJ3, hm8⟩
     case measure => simp [intOf]; omega
    have hmI : (m : Int) ≤ 8192 := by omega
    have e0 : wr.cell? ⟨bu, ou + i, none⟩ = some (.slice A2 q c2) := (HJB.out.cell (p := ⟨bu, ou + i, none⟩) hbu).trans d0
    have hlbu : bu < wr.heap.size := by omega
    have HE := hide (hE.below HJB.out (Nat.le_refl _))
    have hefl : (edFlat r).length = q * 3 := by rw [edFlat_len, hq]
    clear d0 hE hq
    go_upto_region 12 with fail
    clear f1 hlbo
    refine wpL_region (S := Kept wr) [10, 12] (by kernel_rfl) (Kept.drew wr) (fun hS0 => ?_)
    refine tw 0 85 ?_ ?_ ?_; rotate_left; (focus (intro w; go_simp; (try with_reducible rfl); done)); (try simp only [xd, xe, xf])
    refine tl 1 86 ?_ ?_ ?_; rotate_left; (focus (intro w h; go_simp; (try with_reducible rfl))); (try simp only [xd, xe, xf])
    refine tw 2 87 ?_ ?_ ?_; rotate_left; (focus (intro w; go_simp; (try with_reducible rfl); done)); (try simp only [xd, xe, xf])
    refine tw 3 88 ?_ ?_ ?_; rotate_left; (focus (intro w; go_simp; (try with_reducible rfl); done)); (try simp only [xd, xe, xf])
    refine tw 4 89 ?_ ?_ ?_; rotate_left; (focus (intro w; go_simp; (try with_reducible rfl); done)); (try simp only [xd, xe, xf])
    refine tw 5 90 ?_ ?_ ?_; rotate_left; (focus (intro w; go_simp; (try with_reducible rfl); done)); (try simp only [xd, xe, xf])
    refine takeU_at [6, 8, 9, 10, 11, 12] (i := 6) (d := 91) (v := ?_) (by simp only [xa, xb, xc]; rfl) rfl (by kernel_rfl) (by kernel_rfl) (by kernel_rfl) (by kernel_rfl) (by kernel_rfl) (by kernel_rfl) (fun _ _ _ h => h) rfl ?_ (by assumption) ?_
    rotate_left
    focus (intro w hSw; go_simp; (try with_reducible rfl); done)
    try simp only [xd, xe, xf]
    refine tw 7 92 ?_ ?_ ?_; rotate_left; (focus (intro w; go_simp; (try with_reducible rfl); done)); (try simp only [xd, xe, xf])
    refine tw 8 93 ?_ ?_ ?_; rotate_left; (focus (intro w; go_simp; (try with_reducible rfl); done)); (try simp only [xd, xe, xf])
    refine tl 9 94 ?_ ?_ ?_; rotate_left; (focus (intro w h; go_simp; (try with_reducible rfl))); (try simp only [xd, xe, xf])
    refine exL_at (i := 10) (by simp only [xa, xb, xc]; rfl) (by kernel_rfl) rfl (by kernel_rfl) (fun K hK => ?_)
    have own2 := hJ.out.2.2.1.drew
    refine op_app (.tmp 86) (.tmp 94) 28 rfl v0.heap.size 44 a0 (.agg #[.int .i64 0, .int .i64 0, .int .i64 0]) 3 24 Try.underlying28 a0i a0z a0s a0b rfl (by decide) (.slice Am m cm) m _ rfl own2 v0.heap.size A2 q c2 (edFlat r) rfl hefl (HE.out.rd.keep fun _ _ => rfl) (edFlat_one r) (by unfold maxLen; omega) (by omega) srw ?_
    intro A3 c3 y own3 hg3 hat3
    have HX := (hJ.out.drew).app HQ.out own3 hg3 hat3
    have z0 : y.cell? ⟨G, 1, none⟩ = some (.slice Am m cm) := cell_of_row _ _ 1 _ _ _ HX.1
    have zf : y.frozen? ⟨G, 1, none⟩ = false := frozen_of_row _ _ 1 _ _ HX.1
    have HJ2 := hide HX.2
    have gl2 : G < y.heap.size := (Array.getElem?_eq_some_iff.1 HX.1).1
    clear HX own3 hg3 hat3 own2
    refine hK.out _ _ ?_
    clear hK K
    simp only [Act.put]
    try simp only [xd, xe, xf]
    refine tw 11 96 ?_ ?_ ?_; rotate_left; (focus (intro w; go_simp; (try with_reducible rfl); done)); (try simp only [xd, xe, xf])
    refine exL_at (i := 12) (by simp only [xa, xb, xc]; rfl) (by kernel_rfl) rfl (by kernel_rfl) (fun K hK => ?_)
    go_wp2_with fail
    refine hK.out _ _ ?_
    clear hK K
    try simp only [xd, xe, xf]
    refine wpAnyL_done (by kernel_rfl) ?_ _
    skip
    have HJ3 : Hid (JG v0 G (n : Int) (limF (refG v ps) (rowsV p (v : Int) (i + 1))) (m + q) A3 c3 (y.setCell ⟨G, 1, none⟩ (.slice A3 (m + q) c3))) := hide (by rw [HRS2.out, lim_snoc, if_pos (by rw [hJ.out.1]; exact hm1)]; exact HJ2.out)
    clear HJ2 hJ g1 z0 zf e0 e3 e4
    go_wp2
    go_roundw
    case rel => exact ⟨i + 1, m + q, A3, c3, by omega, by go_num, HJ3, by omega⟩
    case measure => simp [intOf]; omega
  ·obtain rfl : n = v := by omega
   have hnI : ¬ (n : Int) < (n : Int) := by omega
   obtain ⟨v2, rfl⟩ : ∃ z : World, z = wr := ⟨_, rfl⟩
   obtain ⟨d, hd⟩ : ∃ d, refG n ps = d := ⟨_, rfl⟩
   rw [hd] at hJ
   have HD := hide hd
   have HWT : Hid (wt d) := hide (fun e he => by rw [← HD.out] at he; exact HP.out.wt e (refG_sub he))
   have HED : Hid (Eds v2 v2.heap.size Am d) := hide (Eds.of_rd (Rd.of_own hJ.out.2.2.1) HWT.out)
   have hmc : m ≤ cm := own_cap hJ.out.2.2.1
   have hcmx : cm ≤ 9223372036854775807 := own_max hJ.out.2.2.1
   have HJ4 := hJ
   have HDL := hide hJ.out.1
   have HG4 := hide hJ.out.2.1
   have HPv : Hid (PtRow v2 (some ⟨b, off, none⟩) ps) := hide (HP.out.next hJ.out.2.2.2.1)
   have hbl2 : b < v2.heap.size := by omega
   clear hd hJ hlt hv
   go_wp2
   go_loopw [8] (fun v8 wr => ∃ i : Nat, i ≤ L ∧ v8 = .int .i64 (i : Int) ∧ Hid (∀ (q : Nat) (p : PartV), q < i → ps[q]? = some p → cutErr (n : Int) d (L : Int) (q : Int) = 0 ∧ p = partF (n : Int) d (L : Int) (q : Int)) ∧ Hid (Below v2.heap.size v2 wr)) (fun v8 _ => L - (intOf v8).toNat)
   case atStart => exact ⟨0, by omega, rfl, hide (fun q p h => absurd h (by omega)), hide (Below.refl _ _)⟩
   case round =>
    clear g0
    obtain ⟨i, hi, rfl, hok, hbr⟩ := hrel
    have srw2 : v2.heap.size ≤ wr.heap.size := hbr.out.size
    by_cases hlt : i < L
    ·have hI1 : (i : Int) < (L : Int) := by omega
     obtain ⟨p, hp⟩ : ∃ p, ps[i]? = some p := ⟨_, List.getElem?_eq_getElem (by rw [HL.out]; exact hlt)⟩
     obtain ⟨b9, off9, hbe, -, Ao, Au, Ab, no, nu, nb, co, cu, cb, d0, d1, d2, d3, d4, d5, hlen, hin, hbd⟩ := HPv.out.get hp
     injection hbe with hbe
     injection hbe with hb1 hb2
     subst hb1 hb2
     have HLen := hide hlen
     have HIn := hide hin
     have HBd := hide hbd
     have HPp := hide hp
     have D0 := hide d0
     have D1 := hide d1
     have D2 := hide d2
     have D3 := hide d3
     have D4 := hide d4
     have D5 := hide d5
     have hGs : G < wr.heap.size := by omega
     have g0 : wr.cell? ⟨G, 0, none⟩ = some (.int .i64 (n : Int)) := (hbr.out.cell (p := ⟨G, 0, none⟩) hGl).trans (cell_of_row _ _ 0 _ _ _ HG4.out)
     have g1 : wr.cell? ⟨G, 1, none⟩ = some (.slice Am m cm) := (hbr.out.cell (p := ⟨G, 1, none⟩) hGl).trans (cell_of_row _ _ 1 _ _ _ HG4.out)
     have HEs := hide ((HED.out.below hbr.out (Nat.le_refl _) |> fun h => Els.more h hbr.out.size))
     clear d0 d1 d2 d3 d4 d5 hlen hin hbd hp
     go_upto_region 16 with fail
     go_wp2_with fail
     refine (rcut_any _ (n : Int) Am d m cm (L : Int) (i : Int) HDL.out HEs.out (by omega)).mono ?_
     rintro e z ⟨no2, nu2, nb2, Ao2, co2, Au2, cu2, hu2, Ab2, cb2, hb2, k1, k2, k3, k4, k5, k6, rfl, ro2, ru2, rb2, hz⟩
     obtain ⟨q, hq⟩ : ∃ q, partF (n : Int) d (L : Int) (i : Int) = q := ⟨_, rfl⟩
     obtain ⟨ce, hce⟩ : ∃ q, cutErr (n : Int) d (L : Int) (i : Int) = q := ⟨_, rfl⟩
     rw [hq] at k1 k2 k3 ro2 ru2 rb2 ⊢
     rw [hce]
     have HQ := hide hq
     have HCE := hide hce
     have HK := hide (And.intro k1 (And.intro k2 k3))
     have RO := hide (Rd.of_own ro2)
     have RU := hide ru2.erows
     have RB := hide rb2.erows
     have HBz := hide (hbr.out.trans (hz.mono hbr.out.size))
     clear hq hce k1 k2 k3 ro2 ru2 rb2 hz g0 g1 hbr
     obtain ⟨ws, hz2⟩ : ∃ x, z.alloc (.cells #[.int .i64 q.wk, .int .i64 q.ws, .int .i64 q.vs, .slice Ao2 no2 co2, .slice Au2 nu2 cu2, .slice Ab2 nb2 cb2] 38) = x := ⟨_, rfl⟩
     have HZ2 := hide hz2
     have HBy : Hid (Below v2.heap.size v2 ws) := hide (by rw [← hz2]; exact HBz.out.alloc HBz.out.size _)
     have HZb : Hid (Below z.heap.size z ws) := hide (by rw [← hz2]; exact (Below.refl _ _).alloc (Nat.le_refl _) _)
     have HTq : Hid (ws.heap[z.heap.size]? = some (.cells #[.int .i64 q.wk, .int .i64 q.ws, .int .i64 q.vs, .slice Ao2 no2 co2, .slice Au2 nu2 cu2, .slice Ab2 nb2 cb2] 38)) := hide (by rw [← hz2]; exact heap_alloc_last _ _)
     clear hz2
     go_upto_region 17 with fail
     rw [HZ2.out]
     clear HZ2
     obtain ⟨U, hU⟩ : ∃ T, z.heap.size = T := ⟨_, rfl⟩
     rw [hU] at HTq ⊢
     have HUe := hide hU
     have hUl : U < ws.heap.size := (Array.getElem?_eq_some_iff.1 HTq.out).1
     have hsz2 : v2.heap.size ≤ ws.heap.size := HBy.out.size
     have hlb : b < ws.heap.size := by omega
     clear hU
     by_cases hce0 : ce = 0
     rotate_left
     ·have hcb : (ce == 0) = false := by simpa using hce0
      have hcn : (ce != 0) = true := by simpa using hce0
      have HN : Hid (∀ e w', badG e → Below w.heap.size w w' → RJPost w ps e w') := hide (fun e w' h1 h2 => ⟨h2, .inr ⟨by rw [HL.out, HV.out]; exact ⟨hL0, hL6, by omega, by omega⟩, .inr ⟨fun ho => hce0 (by rw [HV.out, Int.toNat_natCast, HD.out] at ho; have h9 := (ho i p HPp.out).1; rw [HL.out, HCE.out] at h9; exact h9), h1⟩⟩⟩)
      clear hce0
      refine wp_region_held_drew (S := Kept ws) (by kernel_rfl) (Kept.drew ws) (fun hS0 => ?_)
      refine tk 0 111 ?_ ?_ ?_; rotate_left; (focus (intro w h; go_simp; (try with_reducible rfl))); (try simp only [xd, xe, xf])
      refine tk 1 112 ?_ ?_ ?_; rotate_left; (focus (intro w h; go_simp; (try with_reducible rfl))); (try simp only [xd, xe, xf])
      refine tk 2 113 ?_ ?_ ?_; rotate_left; (focus (intro w h; go_simp; (try with_reducible rfl))); (try simp only [xd, xe, xf])
      refine sk 3 114 ?_; (try simp only [xd, xe, xf])
      refine sk 4 115 ?_; (try simp only [xd, xe, xf])
      refine sk 5 116 ?_; (try simp only [xd, xe, xf])
      refine sk 6 117 ?_; (try simp only [xd, xe, xf])
      refine sk 7 118 ?_; (try simp only [xd, xe, xf])
      refine sk 8 119 ?_; (try simp only [xd, xe, xf])
      refine sk 9 120 ?_; (try simp only [xd, xe, xf])
      refine tk 10 121 ?_ ?_ ?_; rotate_left; (focus (intro w h; go_simp; (try with_reducible rfl))); (try simp only [xd, xe, xf])
      refine wpAnyH_done (by kernel_rfl) ?_ _
      obtain ⟨wd, hwd⟩ : ∃ z, ws.drew = z := ⟨_, rfl⟩
      have HBd2 : Hid (Below v2.heap.size v2 wd) := hide (by rw [← hwd]; exact HBy.out.drew)
      rw [hwd]
      clear hwd hS0
      have ZW : Hid (wd.heap[w.heap.size]? = some (.cells #[.int .i64 0, .slice none 0 0] 30)) := hide ((HBd2.out.block _ (by omega)).trans ((HJ4.out.2.2.2.1.block _ (by omega)).trans M0.out))
      have HBf : Hid (Below w.heap.size w wd) := hide (HB0.out.trans ((HJ4.out.2.2.2.1.trans (HBd2.out.mono srw)).mono (by omega)))
      have zc0 : wd.cell? ⟨w.heap.size, 0, none⟩ = some (.int .i64 0) := cell_of_row _ _ 0 _ _ _ ZW.out
      have zcf0 : wd.frozen? ⟨w.heap.size, 0, none⟩ = false := frozen_of_row _ _ 0 _ _ ZW.out
      have zc1 : wd.cell? ⟨w.heap.size, 1, none⟩ = some (.slice none 0 0) := cell_of_row _ _ 1 _ _ _ ZW.out
      have zcf1 : wd.frozen? ⟨w.heap.size, 1, none⟩ = false := frozen_of_row _ _ 1 _ _ ZW.out
      have HFin := hide (two_fin (.int .i64 0) (.slice none 0 0) (.int .i64 0) (.slice none 0 0) (Nat.le_refl w.heap.size) ZW.out HBf.out)
      go_wp2
      obtain ⟨f, hf, hfB, h6, hfs, hfo⟩ := HFin.out
      rw [hf]
      have y0 : f.cell? ⟨w.heap.size, 0, none⟩ = some (.int .i64 0) := cell_of_row _ _ 0 _ _ _ h6
      have y1 : f.cell? ⟨w.heap.size, 1, none⟩ = some (.slice none 0 0) := cell_of_row _ _ 1 _ _ _ h6
      exact bodyPost_ret (v := .tuple #[.agg #[.int .i64 0, .slice none 0 0], .int .i64 2]) (by simp [results, Try.results22, go_sem, y0, y1]) rfl (HN.out _ _ rfl hfB)
     subst hce0
     have x0 : ws.cell? ⟨b, off + i * 6, none⟩ = some (.int .i64 p.wk) := (HBy.out.cell (p := ⟨b, off + i * 6, none⟩) hbl2).trans D0.out
     have x1 : ws.cell? ⟨b, off + i * 6 + 1, none⟩ = some (.int .i64 p.ws) := (HBy.out.cell (p := ⟨b, off + i * 6 + 1, none⟩) hbl2).trans D1.out
     have x2 : ws.cell? ⟨b, off + i * 6 + 2, none⟩ = some (.int .i64 p.vs) := (HBy.out.cell (p := ⟨b, off + i * 6 + 2, none⟩) hbl2).trans D2.out
     have x3 : ws.cell? ⟨b, off + i * 6 + 3, none⟩ = some (.slice Ao no co) := (HBy.out.cell (p := ⟨b, off + i * 6 + 3, none⟩) hbl2).trans D3.out
     have x4 : ws.cell? ⟨b, off + i * 6 + 4, none⟩ = some (.slice Au nu cu) := (HBy.out.cell (p := ⟨b, off + i * 6 + 4, none⟩) hbl2).trans D4.out
     have x5 : ws.cell? ⟨b, off + i * 6 + 5, none⟩ = some (.slice Ab nb cb) := (HBy.out.cell (p := ⟨b, off + i * 6 + 5, none⟩) hbl2).trans D5.out
     have y0 : ws.cell? ⟨U, 0, none⟩ = some (.int .i64 q.wk) := cell_of_row _ _ 0 _ _ _ HTq.out
     have y1 : ws.cell? ⟨U, 1, none⟩ = some (.int .i64 q.ws) := cell_of_row _ _ 1 _ _ _ HTq.out
     have y2 : ws.cell? ⟨U, 2, none⟩ = some (.int .i64 q.vs) := cell_of_row _ _ 2 _ _ _ HTq.out
     have y3 : ws.cell? ⟨U, 3, none⟩ = some (.slice Ao2 no2 co2) := cell_of_row _ _ 3 _ _ _ HTq.out
     have y4 : ws.cell? ⟨U, 4, none⟩ = some (.slice Au2 nu2 cu2) := cell_of_row _ _ 4 _ _ _ HTq.out
     have y5 : ws.cell? ⟨U, 5, none⟩ = some (.slice Ab2 nb2 cb2) := cell_of_row _ _ 5 _ _ _ HTq.out
     have HKp : Hid (Kept v2 ws) := hide (Kept.of_below HBy.out)
     obtain ⟨sb, hsb⟩ : ∃ s, (decide (q.wk = p.wk) && decide (q.ws = p.ws) && decide (q.vs = p.vs) && eqL q.own p.own && eqL q.out p.out && eqL q.back p.back) = s := ⟨_, rfl⟩
     have hsame := part_same q p
     rw [hsb] at hsame
     have HSM := hide hsame
     have HSB := hide hsb
     clear hsb hsame
     rcases sb with _ | _
     ·refine wp_region_held_drew (S := Kept ws) (by kernel_rfl) (Kept.drew ws) (fun hS0 => ?_)
      refine tk 0 111 ?_ ?_ ?_; rotate_left; (focus (intro w h; go_simp; (try with_reducible rfl))); (try simp only [xd, xe, xf])
      refine tk 1 112 ?_ ?_ ?_; rotate_left; (focus (intro w h; go_simp; (try with_reducible rfl))); (try simp only [xd, xe, xf])
      refine tk 2 113 ?_ ?_ ?_; rotate_left; (focus (intro w h; go_simp; (try with_reducible rfl))); (try simp only [xd, xe, xf])
      refine tk 3 114 ?_ ?_ ?_; rotate_left; (focus (intro w h; go_simp; (try with_reducible rfl))); (try simp only [xd, xe, xf])
      refine tk 4 115 ?_ ?_ ?_; rotate_left; (focus (intro w h; go_simp; (try with_reducible rfl))); (try simp only [xd, xe, xf])
      refine tk 5 116 ?_ ?_ ?_; rotate_left; (focus (intro w h; go_simp; (try with_reducible rfl))); (try simp only [xd, xe, xf])
      refine tk 6 117 ?_ ?_ ?_; rotate_left; (focus (intro w h; go_simp; (try with_reducible rfl))); (try simp only [xd, xe, xf])
      refine tk 7 118 ?_ ?_ ?_; rotate_left; (focus (intro w h; go_simp; (try with_reducible rfl))); (try simp only [xd, xe, xf])
      refine call_at (i := 8) (d := 119) (by simp only [xa, xb, xc]; rfl) rfl (by kernel_rfl) rfl (fun K hK => ?_)
      go_simp
      refine (psame_any ws.drew q.wk q.ws q.vs Ao2 Au2 Ab2 q.own q.out q.back no2 co2 nu2 cu2 nb2 cb2 HK.out.1 HK.out.2.1 HK.out.2.2 (by omega) (by omega) (by omega) ((RO.out.next HZb.out).keep fun _ _ => rfl) ((RU.out.next HZb.out).keep fun _ _ => rfl) ((RB.out.next HZb.out).keep fun _ _ => rfl) p.wk p.ws p.vs Ao Au Ab p.own p.out p.back no co nu cu nb cb HLen.out.1 HLen.out.2.1 HLen.out.2.2 HBd.out.1 HBd.out.2.1 HBd.out.2.2 (HIn.out.kept (w := ws.drew) HKp.out hsz2).own (HIn.out.kept (w := ws.drew) HKp.out hsz2).out (HIn.out.kept (w := ws.drew) HKp.out hsz2).back).mono ?_
      rintro e z3 ⟨rfl, h3⟩
      have hS1 : Kept ws z3 := hS0.below (Nat.le_refl _) h3
      have HB3 := hide (HBy.out.drew.trans (h3.mono hsz2))
      clear h3
      rw [HSB.out]
      go_wp2_with fail
      refine hK.out _ _ hS1 (fun hSn => ?_)
      clear hK K
      try simp only [xd, xe, xf]
      refine tk 9 120 ?_ ?_ ?_; rotate_left; (focus (intro w h; go_simp; (try with_reducible rfl))); (try simp only [xd, xe, xf])
      refine tk 10 121 ?_ ?_ ?_; rotate_left; (focus (intro w h; go_simp; (try with_reducible rfl))); (try simp only [xd, xe, xf])
      refine wpAnyH_done (by kernel_rfl) ?_ _
      clear x0 y0 x1 y1 x2 y2 x3 y3 x4 y4 x5 y5
      have HN : Hid (∀ e w', badG e → Below w.heap.size w w' → RJPost w ps e w') := hide (fun e w' h1 h2 => ⟨h2, .inr ⟨by rw [HL.out, HV.out]; exact ⟨hL0, hL6, by omega, by omega⟩, .inr ⟨fun ho => by rw [HV.out, Int.toNat_natCast, HD.out] at ho; have h9 := (ho i p HPp.out).2; rw [HL.out, HQ.out] at h9; exact absurd (HSM.out.2 h9.symm) (by decide), h1⟩⟩⟩)
      have ZW : Hid (z3.heap[w.heap.size]? = some (.cells #[.int .i64 0, .slice none 0 0] 30)) := hide ((HB3.out.block _ (by omega)).trans ((HJ4.out.2.2.2.1.block _ (by omega)).trans M0.out))
      have HBf : Hid (Below w.heap.size w z3) := hide (HB0.out.trans ((HJ4.out.2.2.2.1.trans (HB3.out.mono srw)).mono (by omega)))
      have zc0 : z3.cell? ⟨w.heap.size, 0, none⟩ = some (.int .i64 0) := cell_of_row _ _ 0 _ _ _ ZW.out
      have zcf0 : z3.frozen? ⟨w.heap.size, 0, none⟩ = false := frozen_of_row _ _ 0 _ _ ZW.out
      have zc1 : z3.cell? ⟨w.heap.size, 1, none⟩ = some (.slice none 0 0) := cell_of_row _ _ 1 _ _ _ ZW.out
      have zcf1 : z3.frozen? ⟨w.heap.size, 1, none⟩ = false := frozen_of_row _ _ 1 _ _ ZW.out
      have HFin := hide (two_fin (.int .i64 0) (.slice none 0 0) (.int .i64 0) (.slice none 0 0) (Nat.le_refl w.heap.size) ZW.out HBf.out)
      go_wp2
      obtain ⟨f, hf, hfB, h6, hfs, hfo⟩ := HFin.out
      rw [hf]
      have y0 : f.cell? ⟨w.heap.size, 0, none⟩ = some (.int .i64 0) := cell_of_row _ _ 0 _ _ _ h6
      have y1 : f.cell? ⟨w.heap.size, 1, none⟩ = some (.slice none 0 0) := cell_of_row _ _ 1 _ _ _ h6
      exact bodyPost_ret (v := .tuple #[.agg #[.int .i64 0, .slice none 0 0], .int .i64 2]) (by simp [results, Try.results22, go_sem, y0, y1]) rfl (HN.out _ _ rfl hfB)
     ·refine wp_region_held_drew (S := Kept ws) (by kernel_rfl) (Kept.drew ws) (fun hS0 => ?_)
      refine tk 0 111 ?_ ?_ ?_; rotate_left; (focus (intro w h; go_simp; (try with_reducible rfl))); (try simp only [xd, xe, xf])
      refine tk 1 112 ?_ ?_ ?_; rotate_left; (focus (intro w h; go_simp; (try with_reducible rfl))); (try simp only [xd, xe, xf])
      refine tk 2 113 ?_ ?_ ?_; rotate_left; (focus (intro w h; go_simp; (try with_reducible rfl))); (try simp only [xd, xe, xf])
      refine tk 3 114 ?_ ?_ ?_; rotate_left; (focus (intro w h; go_simp; (try with_reducible rfl))); (try simp only [xd, xe, xf])
      refine tk 4 115 ?_ ?_ ?_; rotate_left; (focus (intro w h; go_simp; (try with_reducible rfl))); (try simp only [xd, xe, xf])
      refine tk 5 116 ?_ ?_ ?_; rotate_left; (focus (intro w h; go_simp; (try with_reducible rfl))); (try simp only [xd, xe, xf])
      refine tk 6 117 ?_ ?_ ?_; rotate_left; (focus (intro w h; go_simp; (try with_reducible rfl))); (try simp only [xd, xe, xf])
      refine tk 7 118 ?_ ?_ ?_; rotate_left; (focus (intro w h; go_simp; (try with_reducible rfl))); (try simp only [xd, xe, xf])
      refine call_at (i := 8) (d := 119) (by simp only [xa, xb, xc]; rfl) rfl (by kernel_rfl) rfl (fun K hK => ?_)
      go_simp
      refine (psame_any ws.drew q.wk q.ws q.vs Ao2 Au2 Ab2 q.own q.out q.back no2 co2 nu2 cu2 nb2 cb2 HK.out.1 HK.out.2.1 HK.out.2.2 (by omega) (by omega) (by omega) ((RO.out.next HZb.out).keep fun _ _ => rfl) ((RU.out.next HZb.out).keep fun _ _ => rfl) ((RB.out.next HZb.out).keep fun _ _ => rfl) p.wk p.ws p.vs Ao Au Ab p.own p.out p.back no co nu cu nb cb HLen.out.1 HLen.out.2.1 HLen.out.2.2 HBd.out.1 HBd.out.2.1 HBd.out.2.2 (HIn.out.kept (w := ws.drew) HKp.out hsz2).own (HIn.out.kept (w := ws.drew) HKp.out hsz2).out (HIn.out.kept (w := ws.drew) HKp.out hsz2).back).mono ?_
      rintro e z3 ⟨rfl, h3⟩
      have hS1 : Kept ws z3 := hS0.below (Nat.le_refl _) h3
      have HB3 := hide (HBy.out.drew.trans (h3.mono hsz2))
      clear h3
      rw [HSB.out]
      go_wp2_with fail
      refine hK.out _ _ hS1 (fun hSn => ?_)
      clear hK K
      try simp only [xd, xe, xf]
      refine tk 9 120 ?_ ?_ ?_; rotate_left; (focus (intro w h; go_simp; (try with_reducible rfl))); (try simp only [xd, xe, xf])
      refine tk 10 121 ?_ ?_ ?_; rotate_left; (focus (intro w h; go_simp; (try with_reducible rfl))); (try simp only [xd, xe, xf])
      refine wpAnyH_done (by kernel_rfl) ?_ _
      clear x0 y0 x1 y1 x2 y2 x3 y3 x4 y4 x5 y5
      have HOK : Hid (∀ (j : Nat) (p : PartV), j < i + 1 → ps[j]? = some p → cutErr (n : Int) d (L : Int) (j : Int) = 0 ∧ p = partF (n : Int) d (L : Int) (j : Int)) := hide (fun j p' hj hp' => by
        by_cases h8 : j < i
        ·exact hok.out j p' h8 hp'
        ·obtain rfl : j = i := by omega
         have e9 := HPp.out
         rw [hp'] at e9
         injection e9 with e9
         subst e9
         exact ⟨HCE.out, by rw [HQ.out]; exact (HSM.out.1 (by first | rfl | trivial)).symm⟩)
      clear hok
      go_wp2
      go_roundw
      case rel => exact ⟨i + 1, by omega, by go_num, HOK, HB3⟩
      case measure => simp [intOf]; omega
    ·obtain rfl : L = i := by omega
     have hLI9 : ¬ (L : Int) < (L : Int) := by omega
     have ZW : Hid (wr.heap[w.heap.size]? = some (.cells #[.int .i64 0, .slice none 0 0] 30)) := hide ((hbr.out.block _ (by omega)).trans ((HJ4.out.2.2.2.1.block _ (by omega)).trans M0.out))
     have HBf : Hid (Below w.heap.size w wr) := hide (HB0.out.trans ((HJ4.out.2.2.2.1.trans (hbr.out.mono srw)).mono (by omega)))
     have hGr : G < wr.heap.size := by omega
     have g0 : wr.cell? ⟨G, 0, none⟩ = some (.int .i64 (n : Int)) := (hbr.out.cell (p := ⟨G, 0, none⟩) hGl).trans (cell_of_row _ _ 0 _ _ _ HG4.out)
     have g1 : wr.cell? ⟨G, 1, none⟩ = some (.slice Am m cm) := (hbr.out.cell (p := ⟨G, 1, none⟩) hGl).trans (cell_of_row _ _ 1 _ _ _ HG4.out)
     have HOKG : Hid (okG (n : Int) d ps) := hide (fun q p hp => by rw [HL.out]; exact hok.out q p (by have := (List.getElem?_eq_some_iff.1 hp).1; have := HL.out; omega) hp)
     clear hok
     have zc0 : wr.cell? ⟨w.heap.size, 0, none⟩ = some (.int .i64 0) := cell_of_row _ _ 0 _ _ _ ZW.out
     have zcf0 : wr.frozen? ⟨w.heap.size, 0, none⟩ = false := frozen_of_row _ _ 0 _ _ ZW.out
     have zc1 : wr.cell? ⟨w.heap.size, 1, none⟩ = some (.slice none 0 0) := cell_of_row _ _ 1 _ _ _ ZW.out
     have zcf1 : wr.frozen? ⟨w.heap.size, 1, none⟩ = false := frozen_of_row _ _ 1 _ _ ZW.out
     have HFin := hide (two_fin (.int .i64 0) (.slice none 0 0) (.int .i64 (n : Int)) (.slice Am m cm) (Nat.le_refl w.heap.size) ZW.out HBf.out)
     go_wp2
     obtain ⟨f, hf, hfB, h6, hfs, hfo⟩ := HFin.out
     rw [hf]
     have y0 : f.cell? ⟨w.heap.size, 0, none⟩ = some (.int .i64 (n : Int)) := cell_of_row _ _ 0 _ _ _ h6
     have y1 : f.cell? ⟨w.heap.size, 1, none⟩ = some (.slice Am m cm) := cell_of_row _ _ 1 _ _ _ h6
     have o1 := own_below HJ4.out.2.2.1 hbr.out (fun g hg => (HJ4.out.2.2.1.lt g hg).2)
     have hkb : KB [w.heap.size] wr f := ⟨by omega, fun b hb hx => hfo b (by simpa using hx)⟩
     have hEf : Eds f f.heap.size Am d := Eds.of_rd (Rd.of_own (hkb.own o1 (fun g hg => by have := (o1.lt g hg).1; simp; omega))) HWT.out
     exact bodyPost_ret (v := .tuple #[.agg #[.int .i64 (n : Int), .slice Am m cm], .int .i64 0]) (by simp [results, Try.results22, go_sem, y0, y1]) rfl ⟨hfB, .inr ⟨by rw [HL.out, HV.out]; exact ⟨hL0, hL6, by omega, by omega⟩, .inl ⟨by rw [HV.out, Int.toNat_natCast, HD.out]; exact HOKG.out, by rw [HV.out, Int.toNat_natCast, HD.out]; exact ⟨Am, cm, by rw [HDL.out], hEf, by rw [HDL.out]; exact hmc, hcmx⟩⟩⟩⟩
end Go.Proofs.Ytihdpfjonkagaaa
namespace Go.Proofs.Ytihdpfjonkagaaa
open Go.RowKit
def okP (ps : List PartV) : Prop := (1 ≤ ps.length ∧ ps.length ≤ 64) ∧ okG (vsOf ps) (refG (vsOf ps).toNat ps) ps
def JOut (w : World) (ps : List PartV) (e : Ending) (w' : World) : Prop := Below w.heap.size w w' ∧ ((okP ps ∧ goodG (vsOf ps) (refG (vsOf ps).toNat ps) e w') ∨ (¬ okP ps ∧ badG e))
theorem pj_out {w w' : World} {ps : List PartV} {e : Ending} (h : PJPost w ps e w') : JOut w ps e w' := by
 obtain ⟨hb, h⟩ := h
 refine ⟨hb, ?_⟩
 rcases h with ⟨h1, h2⟩ | ⟨h1, d, hs, h2⟩
 ·exact .inr ⟨fun h => h1 h.1, h2⟩
 ·obtain ⟨l1, l2⟩ := join_law (V := vsOf ps) h1 hs
  rcases h2 with ⟨ho, hg⟩ | ⟨ho, hg⟩
  ·have e1 := l1 ho
   exact .inl ⟨⟨h1, by rw [e1]; exact ho⟩, by rw [e1]; exact hg⟩
  ·exact .inr ⟨fun h => ho (by have e1 := l2 h.2; rw [← e1]; exact h.2), hg⟩
theorem rj_out {w w' : World} {ps : List PartV} {e : Ending} (h : RJPost w ps e w') : JOut w ps e w' := by
 obtain ⟨hb, h⟩ := h
 refine ⟨hb, ?_⟩
 rcases h with ⟨h1, h2⟩ | ⟨h1, h2⟩
 ·refine .inr ⟨fun h => h1 ?_, h2⟩
  obtain ⟨a, b, _, _⟩ := checkF_ok (okG_chk h.2 h.1.1)
  exact ⟨h.1.1, h.1.2, a, b⟩
 ·rcases h2 with ⟨ho, hg⟩ | ⟨ho, hg⟩
  ·exact .inl ⟨⟨⟨h1.1, h1.2.1⟩, ho⟩, hg⟩
  ·exact .inr ⟨fun h => ho h.2, hg⟩
def GOut (w : World) (V : Int) (d : List Ed) (code : Int) (e : Ending) (w' : World) : Prop := ∃ A c, e = .returned (.tuple #[.agg #[.int .i64 V, .slice A d.length c], .int .i64 code]) ∧ Eds w' w'.heap.size A d ∧ d.length ≤ 9223372036854775807 ∧ Below w.heap.size w w'
theorem out_same (ps : List PartV) : ∃ V code d, ∀ w e w', JOut w ps e w' → GOut w V d code e w' := by
 by_cases h : okP ps
 ·refine ⟨vsOf ps, 0, refG (vsOf ps).toNat ps, fun w e w' ⟨hb, ho⟩ => ?_⟩
  rcases ho with ⟨_, A, c, h1, h2, h3, h4⟩ | ⟨h1, _⟩
  ·exact ⟨A, c, h1, h2, by omega, hb⟩
  ·exact absurd h h1
 ·refine ⟨0, 2, [], fun w e w' ⟨hb, ho⟩ => ?_⟩
  rcases ho with ⟨h1, _⟩ | ⟨_, h1⟩
  ·exact absurd h1 h
  ·exact ⟨none, 0, h1, Els.nil_, by simp, hb⟩
theorem all_len60 : ∀ {ps : List PartV}, (∀ p ∈ ps, p.out.flatten.length ≤ 60) → (allOut ps).length ≤ ps.length * 60
 | [], _ => by simp [allOut]
 | p :: ps, h => by
  have h1 := all_len60 (ps := ps) (fun q hq => h q (by simp [hq]))
  have h2 := h p (by simp)
  unfold allOut at h1 ⊢
  rw [List.flatMap_cons, List.length_append, List.length_cons]
  omega
theorem partsJoin_main (w : World) (A : Option Addr) (ps : List PartV) (L c : Nat) (hL : ps.length = L) (hP : PtRow w A ps) (hlc : L ≤ c) (hc : c ≤ 9223372036854775807) :
  Calls Try.prog 5 #[.slice A L c] w fun e w' => e = .returned (.bool true) ∧ Below w.heap.size w w' := by
 have HL := hide hL
 have HP := hide hP
 have hcm : c ≤ 9223372036854775807 := hc
 clear hL hP hc
 obtain ⟨V, code, d, hout⟩ := out_same ps
 have HO := hide hout
 clear hout
 by_cases h8 : 8 < L
 ·have h8' : (8 : Int) < (L : Int) := by omega
  go_enter Try.func5, Try.ntmps5
  go_wp2_with fail
  refine (works_any _).mono ?_
  rintro e wk ⟨rfl, hb⟩
  have HF := hide (hb)
  clear hb
  go_wp2
  go_ret
  exact ⟨rfl, HF.out⟩
 have h8' : ¬ (8 : Int) < (L : Int) := by omega
 obtain ⟨a1, a1i, a1z, a1s, a1b⟩ := info_parts (show (Try.prog.info? 38).map (fun i => (i.zero, i.size, i.bytes)) = some (some (.agg #[.int .i64 0, .int .i64 0, .int .i64 0, .slice none 0 0, .slice none 0 0, .slice none 0 0]), 6, 96) by kernel_rfl)
 go_enter Try.func5, Try.ntmps5
 go_wp2
 go_loopw [4, 3] (fun v4 v3 wr => ∃ (i : Nat) (Am : Option Addr) (cm : Nat), i ≤ L ∧ v4 = .int .i64 (i : Int) ∧ v3 = .slice Am i cm ∧ Hid (MRow 38 w wr ps Am i cm) ∧ Hid (∀ (q : Nat) (p : PartV), q < i → ps[q]? = some p → p.out.flatten.length ≤ 60) ∧ Hid (Below w.heap.size w wr)) (fun v4 _ _ => L - (intOf v4).toNat)
 case atStart => exact ⟨0, none, 0, by omega, rfl, rfl, hide (MRow.zero _ _ _ _), hide (fun q p h => absurd h (by omega)), hide (Below.refl _ _)⟩
 case round =>
  obtain ⟨i, Am, cm, hi, rfl, rfl, hM, h60, hbr⟩ := hrel
  have srw : w.heap.size ≤ wr.heap.size := hbr.out.size
  by_cases hlt : i < L
  ·have hI0 : (0 : Int) ≤ (i : Int) := by omega
   have hI1 : (i : Int) < (L : Int) := by omega
   obtain ⟨p, hp⟩ : ∃ p, ps[i]? = some p := ⟨_, List.getElem?_eq_getElem (by rw [HL.out]; exact hlt)⟩
   obtain ⟨b, off, rfl, hbl, Ao, Au, Ab, no, nu, nb, co, cu, cb, d0, d1, d2, d3, d4, d5, hlen, hin, hbd⟩ := HP.out.get hp
   have D0 := hide d0
   have D1 := hide d1
   have D2 := hide d2
   have D3 := hide d3
   have D4 := hide d4
   have D5 := hide d5
   have HLen := hide hlen
   have HIn := hide hin
   have HBd := hide hbd
   have HPl := hide hp
   clear hp d0 d1 d2 d3 d4 d5 hlen hin hbd
   have e0 : wr.cell? ⟨b, off + i * 6, none⟩ = some (.int .i64 p.wk) := (hbr.out.cell (p := ⟨b, off + i * 6, none⟩) hbl).trans D0.out
   have e1 : wr.cell? ⟨b, off + i * 6 + 1, none⟩ = some (.int .i64 p.ws) := (hbr.out.cell (p := ⟨b, off + i * 6 + 1, none⟩) hbl).trans D1.out
   have e2 : wr.cell? ⟨b, off + i * 6 + 2, none⟩ = some (.int .i64 p.vs) := (hbr.out.cell (p := ⟨b, off + i * 6 + 2, none⟩) hbl).trans D2.out
   have e3 : wr.cell? ⟨b, off + i * 6 + 3, none⟩ = some (.slice Ao no co) := (hbr.out.cell (p := ⟨b, off + i * 6 + 3, none⟩) hbl).trans D3.out
   have e4 : wr.cell? ⟨b, off + i * 6 + 4, none⟩ = some (.slice Au nu cu) := (hbr.out.cell (p := ⟨b, off + i * 6 + 4, none⟩) hbl).trans D4.out
   have e5 : wr.cell? ⟨b, off + i * 6 + 5, none⟩ = some (.slice Ab nb cb) := (hbr.out.cell (p := ⟨b, off + i * 6 + 5, none⟩) hbl).trans D5.out
   have hlb : b < wr.heap.size := by omega
   have HKr := hide (Kept.of_below hbr.out)
   go_wp2_with fail
   refine (few_any wr p Ao Au Ab no nu nb co cu cb HLen.out (HIn.out.kept HKr.out srw) HBd.out).mono ?_
   rintro e z ⟨fb, rfl, hfb, hz⟩
   have HFB := hide hfb
   have HZ := hide (hbr.out.trans (hz.mono srw))
   have HMz := hide (hM.out.below hz)
   have szz := HZ.out.size
   clear hz hfb hM hbr
   clear e0 e1 e2 e3 e4 e5
   rcases fb with _ | _
   ·go_wp2_with fail
    refine (works_any _).mono ?_
    rintro e wk ⟨rfl, hb⟩
    have HF := hide (HZ.out.trans (hb.mono szz))
    clear hb
    go_wp2
    go_ret
    exact ⟨rfl, HF.out⟩
   ·have e0 : z.cell? ⟨b, off + i * 6, none⟩ = some (.int .i64 p.wk) := (HZ.out.cell (p := ⟨b, off + i * 6, none⟩) hbl).trans D0.out
    have e1 : z.cell? ⟨b, off + i * 6 + 1, none⟩ = some (.int .i64 p.ws) := (HZ.out.cell (p := ⟨b, off + i * 6 + 1, none⟩) hbl).trans D1.out
    have e2 : z.cell? ⟨b, off + i * 6 + 2, none⟩ = some (.int .i64 p.vs) := (HZ.out.cell (p := ⟨b, off + i * 6 + 2, none⟩) hbl).trans D2.out
    have e3 : z.cell? ⟨b, off + i * 6 + 3, none⟩ = some (.slice Ao no co) := (HZ.out.cell (p := ⟨b, off + i * 6 + 3, none⟩) hbl).trans D3.out
    have e4 : z.cell? ⟨b, off + i * 6 + 4, none⟩ = some (.slice Au nu cu) := (HZ.out.cell (p := ⟨b, off + i * 6 + 4, none⟩) hbl).trans D4.out
    have e5 : z.cell? ⟨b, off + i * 6 + 5, none⟩ = some (.slice Ab nb cb) := (HZ.out.cell (p := ⟨b, off + i * 6 + 5, none⟩) hbl).trans D5.out
    have hlbz : b < z.heap.size := by omega
    have H6p : Hid (p.out.flatten.length ≤ 60) := hide (HFB.out rfl)
    clear HFB
    go_wp2_with fail
    refine (plain_any z p.wk p.ws p.vs (.slice Ao no co) (.slice Au nu cu) (.slice Ab nb cb) ⟨_, _, _, rfl⟩ ⟨_, _, _, rfl⟩ ⟨_, _, _, rfl⟩).mono ?_
    rintro e y ⟨rfl, hy⟩
    have HY := hide (HZ.out.trans (hy.mono szz))
    have HMy := hide (HMz.out.below hy)
    have syy := HY.out.size
    clear hy HMz HZ
    clear e0 e1 e2 e3 e4 e5
    obtain ⟨xs, ho, hm⟩ := HMy.out
    have HOw := hide ho
    have HM := hide hm
    clear ho hm HMy
    go_wp2_with (at_builtin; refine wpList_app rfl (.tmp 26) (.tmp 32) 48 rfl w.heap.size 38 a1 (.agg #[.int .i64 0, .int .i64 0, .int .i64 0, .slice none 0 0, .slice none 0 0, .slice none 0 0]) 6 96 Try.underlying48 a1i a1z a1s a1b rfl (by decide) (.slice Am i cm) i _ rfl (HOw.out.alloc _) (y.heap.size + 1) (some ⟨y.heap.size, 0, none⟩) 1 1 [.int .i64 p.wk, .int .i64 p.ws, .int .i64 p.vs, .slice Ao no co, .slice Au nu cu, .slice Ab nb cb] rfl rfl (Rd.new _ _ _ _) (by simp [Value.oneCell']) (by unfold maxLen; omega) (by omega) (by simp; omega) ?_)
    intro A' c' v own hg hat
    have HV := hide (app_below (HY.out.alloc syy (.cells #[.int .i64 p.wk, .int .i64 p.ws, .int .i64 p.vs, .slice Ao no co, .slice Au nu cu, .slice Ab nb cb] 38)) (HOw.out.alloc _) hg (by simp; omega) (Nat.le_refl _))
    have HMv : Hid (MRow 38 w v ps A' (i + 1) c') := hide ⟨_, own, HM.out.snoc HOw.out.1 HPl.out rfl ⟨Ao, Au, Ab, no, nu, nb, co, cu, cb, rfl, HLen.out, HIn.out, HBd.out⟩⟩
    have H60' : Hid (∀ (q : Nat) (p : PartV), q < i + 1 → ps[q]? = some p → p.out.flatten.length ≤ 60) := hide (fun q p hq hp => by
  rcases Nat.lt_or_ge q i with h | h
  ·exact h60.out q p h hp
  ·obtain rfl : q = i := by omega
   rw [HPl.out] at hp
   obtain rfl := Option.some.inj hp
   exact H6p.out)
    clear own hg hat HOw HM h60 HY
    go_wp2
    go_roundw
    case rel => exact ⟨i + 1, _, _, by omega, by go_num, rfl, HMv, H60', HV⟩
    case measure => simp [intOf]; omega
  ·obtain rfl : L = i := by omega
   obtain ⟨u0, rfl⟩ : ∃ z : World, z = wr := ⟨_, rfl⟩
   have HK0 := hide (Kept.of_below hbr.out)
   have HRow : Hid (PtRow u0 Am ps) := hide (by have h := hM.out; rw [← HL.out] at h; exact h.row HK0.out srw)
   have HP0 : Hid (PtRow u0 A ps) := hide (HP.out.next hbr.out)
   have H6 : Hid (∀ p ∈ ps, p.out.flatten.length ≤ 60) := hide (fun p hp => by obtain ⟨q, hq, rfl⟩ := List.getElem_of_mem hp; exact h60.out q _ (by rw [← HL.out]; exact hq) (List.getElem?_eq_getElem hq))
   have HT : Hid ((allOut ps).length ≤ 8192) := hide (by have := all_len60 H6.out; have := HL.out; omega)
   have HB0 := hbr
   clear hbr hM h60 hlt
   go_upto_region 10 with fail
   go_wp2_with fail
   refine (pjoin_any u0 A ps L c HL.out HP0.out (by omega) HT.out).mono ?_
   rintro e z hz
   obtain ⟨A1, c1, rfl, hE1, hd1, hz⟩ := HO.out _ _ _ (pj_out hz)
   obtain ⟨n, hn⟩ : ∃ n, d.length = n := ⟨_, rfl⟩
   rw [hn] at hd1 ⊢
   have HN := hide hn
   have HE1 := hide hE1
   have HZ := hide hz
   have szz : u0.heap.size ≤ z.heap.size := hz.size
   clear hz hE1 hn
   obtain ⟨u1, hu1⟩ : ∃ q, z.alloc (.cells #[.int .i64 V, .slice A1 n c1] 30) = q := ⟨_, rfl⟩
   have HG1 : Hid (u1.heap[z.heap.size]? = some (.cells #[.int .i64 V, .slice A1 n c1] 30)) := hide (by rw [← hu1]; exact heap_alloc_last _ _)
   have HZ1 : Hid (Below z.heap.size z u1) := hide (by rw [← hu1]; exact (Below.refl _ _).alloc (Nat.le_refl _) _)
   have HU1 := hide hu1
   clear hu1
   obtain ⟨G1, hG1⟩ : ∃ g, z.heap.size = g := ⟨_, rfl⟩
   have HGe := hide hG1
   rw [hG1] at HG1
   clear hG1
   go_upto_region 11 with fail
   rw [HU1.out]
   rw [HGe.out]
   clear HU1
   have hg1l : G1 < u1.heap.size := (Array.getElem?_eq_some_iff.1 HG1.out).1
   have szu : z.heap.size ≤ u1.heap.size := HZ1.out.size
   go_wp2_with fail
   refine (rjoin_any u1 Am ps L cm HL.out ((HRow.out.next HZ.out).next HZ1.out) (by omega) H6.out).mono ?_
   rintro e y hy
   obtain ⟨A2, c2, rfl, hE2, -, hy⟩ := HO.out _ _ _ (rj_out hy)
   rw [HN.out]
   have HE2 := hide hE2
   have HY := hide hy
   have syy : u1.heap.size ≤ y.heap.size := hy.size
   clear hy hE2
   obtain ⟨u2, hu2⟩ : ∃ q, y.alloc (.cells #[.int .i64 V, .slice A2 n c2] 30) = q := ⟨_, rfl⟩
   have HG2 : Hid (u2.heap[y.heap.size]? = some (.cells #[.int .i64 V, .slice A2 n c2] 30)) := hide (by rw [← hu2]; exact heap_alloc_last _ _)
   have HY1 : Hid (Below y.heap.size y u2) := hide (by rw [← hu2]; exact (Below.refl _ _).alloc (Nat.le_refl _) _)
   have HU2 := hide hu2
   clear hu2
   obtain ⟨G2, hG2⟩ : ∃ g, y.heap.size = g := ⟨_, rfl⟩
   have HGe2 := hide hG2
   rw [hG2] at HG2
   clear hG2
   go_upto_region 12 with fail
   rw [HU2.out]
   rw [HGe2.out]
   clear HU2
   have hg2l : G2 < u2.heap.size := (Array.getElem?_eq_some_iff.1 HG2.out).1
   have sy2 : y.heap.size ≤ u2.heap.size := HY1.out.size
   have hg1u : G1 < u2.heap.size := by omega
   have HG1' : Hid (u2.heap[G1]? = some (.cells #[.int .i64 V, .slice A1 n c1] 30)) := hide ((HY1.out.block _ (by omega)).trans ((HY.out.block _ hg1l).trans HG1.out))
   have x0 : u2.cell? ⟨G1, 0, none⟩ = some (.int .i64 V) := cell_of_row _ _ 0 _ _ _ HG1'.out
   have x1 : u2.cell? ⟨G1, 1, none⟩ = some (.slice A1 n c1) := cell_of_row _ _ 1 _ _ _ HG1'.out
   have y0 : u2.cell? ⟨G2, 0, none⟩ = some (.int .i64 V) := cell_of_row _ _ 0 _ _ _ HG2.out
   have y1 : u2.cell? ⟨G2, 1, none⟩ = some (.slice A2 n c2) := cell_of_row _ _ 1 _ _ _ HG2.out
   have hcc : (code == code) = true := by simp
   go_wp2_with fail
   refine (gsame_any u2 V V A1 A2 d d n c1 n c2 HN.out HN.out hd1 ((Eds.next (Eds.next (Eds.next HE1.out HZ1.out) HY.out) HY1.out)) (Eds.next HE2.out HY1.out)).mono ?_
   rintro e v ⟨rfl, hv⟩
   rw [show (decide (V = V) && eqL d d) = true by simp [eqL_self]]
   have HV := hide (HB0.out.trans ((HZ.out.trans ((HZ1.out.trans ((HY.out.trans ((HY1.out.trans (hv.mono sy2)).mono syy)).mono szu)).mono szz)).mono srw))
   have svv : w.heap.size ≤ v.heap.size := HV.out.size
   clear hv x0 x1 y0 y1
   go_wp2_with fail
   refine (works_any _).mono ?_
   rintro e wk ⟨rfl, hb⟩
   have HF := hide (HV.out.trans (hb.mono svv))
   clear hb
   go_wp2
   go_ret
   exact ⟨rfl, HF.out⟩
end Go.Proofs.Ytihdpfjonkagaaa
