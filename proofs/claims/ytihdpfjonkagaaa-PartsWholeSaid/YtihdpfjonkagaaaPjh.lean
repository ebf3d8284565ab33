/- What the joining of parts answers; the graph under way in memory; the sort of a row of none. (printed by gen/pjn.py) -/
import Derived.Test.YtihdpfjonkagaaaProg
import Derived.Test.YtihdpfjonkagaaaPpr
import Derived.Test.YtihdpfjonkagaaaPjw
import Derived.Test.YtihdpfjonkagaaaEss
import Derived.Deep.DeepCutAuto
import Derived.Lib.Hide
import Derived.WalkSpells
import Derived.WalkMore
import Derived.IntWalk
namespace Go.Proofs.Ytihdpfjonkagaaa
open Go.RowKit
set_option linter.unusedVariables false
set_option linter.unusedSimpArgs false
set_option maxRecDepth 100000 in
set_option maxHeartbeats 16000000 in
theorem ins0_any (w : World) (A : Option Addr) (c : Nat) : Calls Try.prog 57 #[.slice A 0 c, .int .i64 0, .int .i64 0, .func (.func 40) #[] #[]] w fun e w' => e = .returned (.tuple #[]) ∧ w = w' := by
  go_enter Try.func57, Try.ntmps57
  go_wp2
  go_loopw [8] (fun v8 wr => v8 = .int .i64 1 ∧ wr = w) (fun _ _ => 0)
  case atStart => exact ⟨rfl, rfl⟩
  case round =>
    obtain ⟨rfl, e⟩ := hrel
    go_wp2
    go_end0
    exact ⟨rfl, by first | rfl | exact e.symm⟩
set_option maxRecDepth 100000 in
set_option maxHeartbeats 16000000 in
theorem stb0_any (w : World) (A : Option Addr) (c : Nat) : Calls Try.prog 49 #[.slice A 0 c, .int .i64 0, .func (.func 40) #[] #[]] w fun e w' => e = .returned (.tuple #[]) ∧ w = w' := by
  go_enter Try.func49, Try.ntmps49
  go_wp2
  go_loopw [7, 8] (fun v7 v8 wr => v7 = .int .i64 0 ∧ v8 = .int .i64 20 ∧ wr = w) (fun _ _ _ => 0)
  case atStart => exact ⟨rfl, rfl, rfl⟩
  case round =>
    obtain ⟨rfl, rfl, rfl⟩ := hrel
    go_wp2_with fail
    refine (ins0_any _ A c).mono ?_
    rintro _ w1 ⟨rfl, rfl⟩
    go_wp2
    go_loopw [6] (fun v6 w2 => v6 = .int .i64 20 ∧ w2 = wr) (fun _ _ => 0)
    case atStart => exact ⟨rfl, rfl⟩
    case round =>
      obtain ⟨rfl, e⟩ := hrel
      go_wp2
      go_end0
      exact ⟨rfl, by first | rfl | exact e.symm⟩
set_option maxRecDepth 100000 in
set_option maxHeartbeats 16000000 in
theorem sort0_any (w : World) (A : Option Addr) (c : Nat) : Calls Try.prog 39 #[.slice A 0 c, .func (.func 40) #[] #[]] w fun e w' => e = .returned (.tuple #[]) ∧ w = w' := by
  go_enter Try.func39, Try.ntmps39
  go_wp2_with fail
  refine (stb0_any _ A c).mono ?_
  rintro _ w1 ⟨rfl, rfl⟩
  go_wp2
  go_end0
  exact ⟨rfl, rfl⟩
/-- a graph's two cells, stored -/
theorem two_fin {w wf : World} {H : Nat} {T : TypeId} (z0 z1 v0 v1 : Value) (hw : w.heap.size ≤ H) (hz : wf.heap[H]? = some (.cells #[z0, z1] T)) (hb : Below w.heap.size w wf) :
    ∃ f, ((wf.setCell ⟨H, 0, none⟩ v0).setCell ⟨H, 1, none⟩ v1) = f ∧ Below w.heap.size w f ∧ f.heap[H]? = some (.cells #[v0, v1] T) ∧ f.heap.size = wf.heap.size ∧ ∀ b, b ≠ H → f.heap[b]? = wf.heap[b]? := by
  have h1 := heap_setCell_same _ H 0 _ _ v0 hz
  have h2 := heap_setCell_same _ H 1 _ _ v1 h1
  refine ⟨_, rfl, (hb.setCell (p := ⟨H, 0, none⟩) hw v0).setCell (p := ⟨H, 1, none⟩) hw v1, h2, by simp only [World.size_setCell], fun b hb' => ?_⟩
  iterate 2 rw [Below.heap_setCell _ _ _ _ hb']
/-- the graph under way: its block, its row -/
def JG (v0 : World) (G : Nat) (V : Int) (acc : List Ed) (m : Nat) (A : Option Addr) (c : Nat) (w : World) : Prop := acc.length = m ∧ w.heap[G]? = some (.cells #[.int .i64 V, .slice A m c] 30) ∧ w.ownsRow v0.heap.size 44 3 (.slice A m c) m (edFlat acc) ∧ Below v0.heap.size v0 w ∧ v0.heap.size ≤ G
theorem edge_ne_graph : 44 ≠ 30 := by decide
section
variable {v0 w w' : World} {G m c : Nat} {V : Int} {acc : List Ed} {A : Option Addr}
theorem JG.glt (h : JG v0 G V acc m A c w) : G < w.heap.size := (Array.getElem?_eq_some_iff.1 h.2.1).1
theorem JG.ne (h : JG v0 G V acc m A c w) {g : Nat} (hg : (Value.slice A m c).ownBlock = some g) : g ≠ G := own_ne h.2.2.1 h.2.1 edge_ne_graph g hg
theorem JG.below (h : JG v0 G V acc m A c w) (hb : Below w.heap.size w w') : JG v0 G V acc m A c w' :=
  ⟨h.1, (hb.block _ h.glt).trans h.2.1, own_below h.2.2.1 hb (fun q hq => (h.2.2.1.lt q hq).2), h.2.2.2.1.trans (hb.mono h.2.2.2.1.size), h.2.2.2.2⟩
theorem JG.drew (h : JG v0 G V acc m A c w) : JG v0 G V acc m A c w.drew := ⟨h.1, h.2.1, h.2.2.1.drew, h.2.2.2.1.drew, h.2.2.2.2⟩
theorem JG.alloc (h : JG v0 G V acc m A c w) (o : Obj) : JG v0 G V acc m A c (w.alloc o) := h.below ((Below.refl _ _).alloc (Nat.le_refl _) o)
/-- a row is put behind it -/
theorem JG.app (h : JG v0 G V acc m A c w) {r : List Ed} {q c' : Nat} {A' : Option Addr} (hr : r.length = q) (ho : w'.ownsRow v0.heap.size 44 3 (.slice A' (m + q) c') (m + q) (edFlat acc ++ edFlat r)) (hg : w.grownBy w' (Value.slice A m c).ownBlock)
    (hat : (Value.slice A' (m + q) c').ownBlock = (Value.slice A m c).ownBlock ∨ (Value.slice A' (m + q) c').ownBlock = some w.heap.size) :
    w'.heap[G]? = some (.cells #[.int .i64 V, .slice A m c] 30) ∧ JG v0 G V (acc ++ r) (m + q) A' c' (w'.setCell ⟨G, 1, none⟩ (.slice A' (m + q) c')) := by
  have hG : w'.heap[G]? = some (.cells #[.int .i64 V, .slice A m c] 30) := by
    rw [hg.block G h.glt (fun e => h.ne e.symm rfl)]
    exact h.2.1
  have hne : ∀ g, (Value.slice A' (m + q) c').ownBlock = some g → g ≠ G := own_ne ho hG edge_ne_graph
  refine ⟨hG, by rw [List.length_append, h.1, hr], heap_setCell_same _ G 1 _ _ _ hG, ?_, ?_, h.2.2.2.2⟩
  · rw [edFlat_app] at ho
    exact ((KB.refl [G] w').setCell (p := ⟨G, 1, none⟩) (.inr (by simp)) _).own ho (fun g hg => by simpa using hne g hg)
  · exact (app_below h.2.2.2.1 h.2.2.1 hg h.2.2.2.1.size (Nat.le_refl _)).setCell (p := ⟨G, 1, none⟩) h.2.2.2.2 _
end
/-- what Join answers: the graph, or the refusal -/
def badG (e : Ending) : Prop := e = .returned (.tuple #[.agg #[.int .i64 0, .slice none 0 0], .int .i64 2])
def vsOf (ps : List PartV) : Int := (ps.getD 0 noPart).vs
def goodG (V : Int) (d : List Ed) (e : Ending) (w' : World) : Prop := ∃ A c, e = .returned (.tuple #[.agg #[.int .i64 V, .slice A d.length c], .int .i64 0]) ∧ Eds w' w'.heap.size A d ∧ d.length ≤ c ∧ c ≤ 9223372036854775807
def PJPost (w : World) (ps : List PartV) (e : Ending) (w' : World) : Prop := Below w.heap.size w w' ∧
  ((¬ (1 ≤ ps.length ∧ ps.length ≤ 64) ∧ badG e) ∨ ((1 ≤ ps.length ∧ ps.length ≤ 64) ∧ ∃ d, StS ltE (fun e : Ed => e.1) (allOut ps).length (allOut ps) d ∧ ((okG (vsOf ps) d ps ∧ goodG (vsOf ps) d e w') ∨ (¬ okG (vsOf ps) d ps ∧ badG e))))
theorem part_same (p q : PartV) : (decide (p.wk = q.wk) && decide (p.ws = q.ws) && decide (p.vs = q.vs) && eqL p.own q.own && eqL p.out q.out && eqL p.back q.back) = true ↔ p = q := by
  obtain ⟨a1, a2, a3, a4, a5, a6⟩ := p
  obtain ⟨b1, b2, b3, b4, b5, b6⟩ := q
  simp only [Bool.and_eq_true, decide_eq_true_eq, eqL_true, PartV.mk.injEq]
  constructor
  · rintro ⟨⟨⟨⟨⟨h1, h2⟩, h3⟩, h4⟩, h5⟩, h6⟩; exact ⟨h1, h2, h3, h4, h5, h6⟩
  · rintro ⟨h1, h2, h3, h4, h5, h6⟩; exact ⟨⟨⟨⟨⟨h1, h2⟩, h3⟩, h4⟩, h5⟩, h6⟩
theorem allOut_succ {ps : List PartV} {i : Nat} {p : PartV} (h : ps[i]? = some p) : allOut (ps.take (i + 1)) = allOut (ps.take i) ++ p.out.flatten := by
  unfold allOut
  rw [List.take_add_one, h, List.flatMap_append]
  simp
theorem flat_succ {rs : List (List Ed)} {k : Nat} {r : List Ed} (h : rs[k]? = some r) : (rs.take (k + 1)).flatten = (rs.take k).flatten ++ r := by
  rw [List.take_add_one, h, List.flatten_append]
  simp
theorem flat_len {rs : List (List Ed)} (k : Nat) : ((rs.take k).flatten).length ≤ rs.flatten.length := by
  have h : rs.flatten = (rs.take k).flatten ++ (rs.drop k).flatten := by rw [← List.flatten_append, List.take_append_drop]
  rw [h, List.length_append]
  omega
theorem allOut_len {ps : List PartV} {i : Nat} {p : PartV} (h : ps[i]? = some p) : (allOut (ps.take i)).length + p.out.flatten.length ≤ (allOut ps).length := by
  have h1 := allOut_succ h
  have h2 : allOut ps = allOut (ps.take (i + 1)) ++ allOut (ps.drop (i + 1)) := by unfold allOut; rw [← List.flatMap_append, List.take_append_drop]
  rw [h2, List.length_append, h1, List.length_append]
  omega
theorem ERows.wt {w : World} {B : Nat} {A : Option Addr} {rs : List (List Ed)} (h : ERows w B A rs) : wt rs.flatten := fun e he => by
  obtain ⟨r, hr, he⟩ := List.mem_flatten.1 he
  obtain ⟨i, hi⟩ := List.getElem?_of_mem hr
  obtain ⟨_, _, _, _, _, _, _, _, _, h1⟩ := h.get hi
  exact h1.wt e he
theorem PtRow.wt {w : World} {A : Option Addr} {ps : List PartV} (h : PtRow w A ps) : wt (allOut ps) := fun e he => by
  unfold allOut at he
  obtain ⟨p, hp, he⟩ := List.mem_flatMap.1 he
  obtain ⟨i, hi⟩ := List.getElem?_of_mem hp
  obtain ⟨_, _, _, _, _, _, _, _, _, _, _, _, _, _, _, _, _, _, _, _, h1, _⟩ := h.get hi
  exact h1.out.wt e he
end Go.Proofs.Ytihdpfjonkagaaa
