/- A part as a value; the contracts of both Cuts in one. -/
import Derived.Test.YtihdpfjonkagaaaPct
namespace Go.Proofs.Ytihdpfjonkagaaa
open Go.RowKit
set_option linter.unusedVariables false
structure PartV where
  wk : Int
  ws : Int
  vs : Int
  own : List Int
  out : List (List Ed)
  back : List (List Ed)
deriving DecidableEq
def noPart : PartV := ⟨0, 0, 0, [], [], []⟩
def partF (V : Int) (es : List Ed) (n k : Int) : PartV := if cutErr V es n k = 0 then ⟨k, n, V, ownedF V n k, (ownedF V n k).map (fromF es), (ownedF V n k).map (toF es)⟩ else noPart
/-- a part that a function has made -/
def PartPost (w : World) (P : PartV) (code : Int) (e : Ending) (w' : World) : Prop := ∃ (m mu mb : Nat) (Ao : Option Addr) (co : Nat) (Au : Option Addr) (cu : Nat) (hu : List Value) (Ab : Option Addr) (cb : Nat) (hb : List Value),
  P.own.length = m ∧ P.out.length = mu ∧ P.back.length = mb ∧ m ≤ 512 ∧ mu ≤ 512 ∧ mb ≤ 512 ∧ e = .returned (.tuple #[.agg #[.int .i64 P.wk, .int .i64 P.ws, .int .i64 P.vs, .slice Ao m co, .slice Au mu cu, .slice Ab mb cb], .int .i64 code]) ∧
  w'.ownsRow w.heap.size 3 1 (.slice Ao m co) m (P.own.map (Value.int .i64)) ∧ ORows w' w.heap.size Au cu hu P.out ∧ ORows w' w.heap.size Ab cb hb P.back ∧ Below w.heap.size w w'
theorem cut_post {w : World} {V : Int} {es : List Ed} {n k : Int} (h : cutErr V es n k = 0) {e : Ending} {w' : World} (hp : CutOK w V es n k e w') : PartPost w (partF V es n k) (cutErr V es n k) e w' := by
  obtain ⟨m, Ao, co, Au, cu, hu, Ab, cb, hb, h1, h2, h3, h4, h5, h6⟩ := hp
  have hm : m ≤ 512 := by rw [← h1]; exact owned_le V n k
  unfold partF
  rw [if_pos h, h]
  exact ⟨m, m, m, Ao, co, Au, cu, hu, Ab, cb, hb, h1, by rw [List.length_map]; exact h1, by rw [List.length_map]; exact h1, hm, hm, hm, h2, h3, h4, h5, h6⟩
theorem cut_post_bad {w : World} {V : Int} {es : List Ed} {n k : Int} (h : cutErr V es n k ≠ 0) {e : Ending} {w' : World} (hp : CutBad w (cutErr V es n k) e w') : PartPost w (partF V es n k) (cutErr V es n k) e w' := by
  obtain ⟨h1, h2⟩ := hp
  unfold partF
  rw [if_neg h]
  exact ⟨0, 0, 0, none, 0, none, 0, [], none, 0, [], rfl, rfl, rfl, by omega, by omega, by omega, h1, World.ownsRow_nil _ _ _ _, ORows.nil _ _, ORows.nil _ _, h2⟩
theorem pcut_any (w : World) (V : Int) (A : Option Addr) (es : List Ed) (L c : Nat) (n k : Int) (hL : es.length = L) (hE : Eds w w.heap.size A es) (hc : L ≤ 9223372036854775807) :
    Calls Try.prog 15 #[.agg #[.int .i64 V, .slice A L c], .int .i64 n, .int .i64 k] w (PartPost w (partF V es n k) (cutErr V es n k)) := by
  by_cases h : cutErr V es n k = 0
  · exact (pcut_ok w V A es L c n k hL hE h).mono fun e w' hp => cut_post h hp
  · exact (pcut_bad w V A es L c n k hL hE hc h).mono fun e w' hp => cut_post_bad h hp
theorem rcut_any (w : World) (V : Int) (A : Option Addr) (es : List Ed) (L c : Nat) (n k : Int) (hL : es.length = L) (hE : Eds w w.heap.size A es) (hc : L ≤ 9223372036854775807) :
    Calls Try.prog 16 #[.agg #[.int .i64 V, .slice A L c], .int .i64 n, .int .i64 k] w (PartPost w (partF V es n k) (cutErr V es n k)) := by
  by_cases h : cutErr V es n k = 0
  · have hl : L ≤ 8192 := by have := (checkF_ok (cutErr_zero h).1).2.2.1; omega
    exact (rcut_ok w V A es L c n k hL hE hl h).mono fun e w' hp => cut_post h hp
  · exact (rcut_bad w V A es L c n k hL hE hc h).mono fun e w' hp => cut_post_bad h hp
theorem part_out_le {V : Int} {es : List Ed} {n k : Int} {i m : Nat} (h : ((partF V es n k).out.map List.length)[i]? = some m) : m ≤ es.length := by
  rw [List.getElem?_map, Option.map_eq_some_iff] at h
  obtain ⟨r, hr, rfl⟩ := h
  have := List.mem_of_getElem? hr
  unfold partF at this
  split at this
  · obtain ⟨v, _, rfl⟩ := List.mem_map.1 this
    exact List.length_filter_le _ _
  · cases this
/-- rows whose cells may be written over -/
structure HRows (w : World) (b : Nat) (A : Option Addr) (c : Nat) (hs : List Value) (ls : List Nat) : Prop where
  own : w.ownsRow b 28 1 (.slice A ls.length c) ls.length hs
  row : ∀ (i : Nat) (h : Value) (n : Nat), hs[i]? = some h → ls[i]? = some n → ∃ (A : Option Addr) (c : Nat), h = .slice A n c ∧ n ≤ c ∧ c ≤ 9223372036854775807 ∧ (n = 0 ∨ ∃ (g : Nat) (cur : Array Value), A = some ⟨g, 0, none⟩ ∧ b ≤ g ∧ w.heap[g]? = some (.cells cur 44 (0, 0)) ∧ n * 3 ≤ cur.size)
theorem ORows.hrows {w : World} {b : Nat} {A : Option Addr} {c : Nat} {hs : List Value} {rs : List (List Ed)} (h : ORows w b A c hs rs) : HRows w b A c hs (rs.map List.length) := by
  refine ⟨by rw [List.length_map]; exact h.own, fun i x n h1 h2 => ?_⟩
  rw [List.getElem?_map, Option.map_eq_some_iff] at h2
  obtain ⟨r, hr, rfl⟩ := h2
  obtain ⟨⟨A2, c2, rfl⟩, k2, k3⟩ := h.row i x r h1 hr
  refine ⟨A2, c2, rfl, own_cap k2, own_max k2, ?_⟩
  rcases k2.2 with ⟨_, h0⟩ | ⟨g, cap, cur, hv, hb, hc, hn, hm, hs, _⟩
  · exact .inl h0
  · injection hv with e1 _ e3
    subst e1 e3
    exact .inr ⟨g, cur, rfl, hb, hc, by rw [hs]; exact Nat.mul_le_mul_right 3 hn⟩
theorem HRows.store {w : World} {b : Nat} {A : Option Addr} {c : Nat} {hs : List Value} {ls : List Nat} (h : HRows w b A c hs ls) {g : Nat} {cur : Array Value} (hg : w.heap[g]? = some (.cells cur 44 (0, 0))) (j : Nat) (u : Value) : HRows (w.setCell ⟨g, j, none⟩ u) b A c hs ls := by
  refine ⟨?_, fun i x n h1 h2 => ?_⟩
  · refine ⟨h.own.1, ?_⟩
    rcases h.own.2 with h0 | ⟨g2, cap, cur2, hv, hb, hc, hr⟩
    · exact .inl h0
    · refine .inr ⟨g2, cap, cur2, hv, hb, ?_, hr⟩
      rw [Below.heap_setCell _ _ _ _ (fun e => ?_)]
      · exact hc
      · have e : g2 = g := e
        subst e
        rw [hc] at hg
        injection hg with hg
        injection hg with _ e2
        exact absurd e2 (by decide)
  · obtain ⟨A2, c2, e1, e2, e3, e4⟩ := h.row i x n h1 h2
    refine ⟨A2, c2, e1, e2, e3, e4.imp id fun ⟨g2, cur2, k1, k2, k3, k4⟩ => ?_⟩
    by_cases hgg : g2 = g
    · subst hgg
      exact ⟨g2, _, k1, k2, heap_setCell_same w g2 j cur2 _ u k3, by simpa using k4⟩
    · exact ⟨g2, cur2, k1, k2, by rw [Below.heap_setCell _ _ _ _ hgg]; exact k3, k4⟩
end Go.Proofs.Ytihdpfjonkagaaa
