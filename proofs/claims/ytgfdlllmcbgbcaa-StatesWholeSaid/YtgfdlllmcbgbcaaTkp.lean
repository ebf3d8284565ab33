/- What is taken of a state. (printed by gen/tkp.py) -/
import Derived.Test.YtgfdlllmcbgbcaaProg
import Derived.Test.YtgfdlllmcbgbcaaSgt
import Derived.Test.YtgfdlllmcbgbcaaMow
namespace Go.Proofs.Ytgfdlllmcbgbcaa
open Go.RowKit
set_option linter.unusedVariables false
set_option linter.unusedSimpArgs false
def pv (vals : List Int) (l : List Int) : List Int := l.map fun v => vals.getD v.toNat 0
def pc (chg : List Bool) (l : List Int) : List Bool := l.map fun v => chg.getD v.toNat false
def pm (inb : List Ml) (l : List Int) : List Ml := l.map fun v => inb.getD v.toNat (false, 0)
def upto (V : Nat) : List Int := (List.range V).map fun (i : Nat) => (i : Int)
theorem upto_len (V : Nat) : (upto V).length = V := by simp [upto]
theorem upto_snoc (i : Nat) : upto (i + 1) = upto i ++ [(i : Int)] := by simp [upto, List.range_succ]
def wholeP (st : Int) (vals : List Int) (chg : List Bool) (inb : List Ml) : SPart := ⟨st, upto vals.length, vals, chg, inb⟩
def pickP (st : Int) (vals : List Int) (chg : List Bool) (inb : List Ml) (l : List Int) : SPart := ⟨st, l, pv vals l, pc chg l, pm inb l⟩
def takeE (st : Int) (vals : List Int) (chg : List Bool) (inb : List Ml) (n k : Int) : Int := if n < 1 ∨ 64 < n ∨ k < 0 ∨ n ≤ k then 2 else if vals.length = 0 ∨ rightB (wholeP st vals chg inb) = false then 4 else 0
def takeP (st : Int) (vals : List Int) (chg : List Bool) (inb : List Ml) (n k : Int) : SPart := if takeE st vals chg inb n k = 0 then pickP st vals chg inb (ownUpto n k vals.length) else ⟨0, [], [], [], []⟩
theorem owned_upto (V : Nat) (n k : Int) (hV : V ≤ 512) : ownedF (V : Int) n k = ownUpto n k V := by
  unfold ownedF
  congr 1
  omega
theorem ofF_one {v : Int} (h0 : 0 ≤ v) (h1 : v < 512) : ofF v 1 = 0 := by
  unfold ofF
  rw [if_neg (by omega)]
  omega
theorem own_all_ (V : Nat) (hV : V ≤ 512) : ownUpto 1 0 V = upto V := by
  unfold ownUpto upto
  rw [List.filter_eq_self]
  intro v hv
  obtain ⟨j, hj, rfl⟩ := List.mem_map.1 hv
  have := List.mem_range.1 hj
  unfold sel
  rw [ofF_one (by omega) (by omega)]
  rfl
theorem pv_snoc {vals : List Int} {l : List Int} {i : Nat} {x : Int} (h : vals[i]? = some x) : pv vals (l ++ [(i : Int)]) = pv vals l ++ [x] := by
  simp [pv, List.getD, h]
theorem pc_snoc {chg : List Bool} {l : List Int} {i : Nat} {x : Bool} (h : chg[i]? = some x) : pc chg (l ++ [(i : Int)]) = pc chg l ++ [x] := by
  simp [pc, List.getD, h]
theorem pm_snoc {inb : List Ml} {l : List Int} {i : Nat} {x : Ml} (h : inb[i]? = some x) : pm inb (l ++ [(i : Int)]) = pm inb l ++ [x] := by
  simp [pm, List.getD, h]
theorem own_snoc_in {n k : Int} {i : Nat} (h0 : 0 ≤ k) (h : ofF (i : Int) n = k) : ownUpto n k (i + 1) = ownUpto n k i ++ [(i : Int)] := by
  rw [own_snoc, if_pos (by unfold sel; simp [h0, h])]
theorem own_snoc_out {n k : Int} {i : Nat} (h : ¬ ofF (i : Int) n = k) : ownUpto n k (i + 1) = ownUpto n k i := by
  rw [own_snoc, if_neg (by unfold sel; simp [h]), List.append_nil]
theorem right_whole_lens {st : Int} {vals : List Int} {chg : List Bool} {inb : List Ml} (h : rightB (wholeP st vals chg inb) = true) : chg.length = vals.length ∧ inb.length = vals.length := by
  unfold rightB wholeP at h
  simp only [Bool.and_eq_true, decide_eq_true_eq, upto_len] at h
  omega
theorem take_ok {w f : World} {st : Int} {vals : List Int} {chg : List Bool} {inb : List Ml} {n k : Int} {q : Nat} {Ao : Option Addr} {co : Nat} {Av : Option Addr} {cv : Nat} {Ac : Option Addr} {cc : Nat} {Ai : Option Addr} {ci : Nat} (hE : takeE st vals chg inb n k = 0) (hq : (ownUpto n k vals.length).length = q) (hb60 : q ≤ 65535)
    (hi : SIn f (pickP st vals chg inb (ownUpto n k vals.length)) Ao Av Ac Ai) (hb : Below w.heap.size w f) : GetPost w (takeP st vals chg inb n k) (takeE st vals chg inb n k) (.returned (.tuple #[.agg #[.int .i64 st, .slice Ao q co, .slice Av q cv, .slice Ac q cc, .slice Ai q ci], .int .i64 0])) f := by
  unfold takeP
  rw [hE, if_pos rfl]
  exact ⟨q, q, q, q, Ao, co, Av, cv, Ac, cc, Ai, ci, ⟨hq, by simp [pickP, pv, hq], by simp [pickP, pc, hq], by simp [pickP, pm, hq]⟩, hb60, rfl, hi, hb⟩
theorem take_bad {w f : World} {st : Int} {vals : List Int} {chg : List Bool} {inb : List Ml} {n k c : Int} (hE : takeE st vals chg inb n k = c) (hc : c ≠ 0) (hb : Below w.heap.size w f) : GetPost w (takeP st vals chg inb n k) (takeE st vals chg inb n k) (.returned (.tuple #[.agg #[.int .i64 0, .slice none 0 0, .slice none 0 0, .slice none 0 0, .slice none 0 0], .int .i64 c])) f := by
  unfold takeP
  rw [hE, if_neg hc]
  exact ⟨0, 0, 0, 0, none, 0, none, 0, none, 0, none, 0, ⟨rfl, rfl, rfl, rfl⟩, by omega, rfl, ⟨Rd.nil_, Rd.nil_, Rd.nil_, Rd.nil_⟩, hb⟩
/-- five cells are stored -/
theorem five_fin {w wf : World} {H : Nat} {T : TypeId} (v0 v1 v2 v3 v4 : Value) (hw : w.heap.size ≤ H) (hz : wf.heap[H]? = some (.cells #[.int .i64 0, .slice none 0 0, .slice none 0 0, .slice none 0 0, .slice none 0 0] T)) (hb : Below w.heap.size w wf) : ∃ f, (((((wf.setCell ⟨H, 0, none⟩ (v0)).setCell ⟨H, 1, none⟩ (v1)).setCell ⟨H, 2, none⟩ (v2)).setCell ⟨H, 3, none⟩ (v3)).setCell ⟨H, 4, none⟩ (v4)) = f ∧ Below w.heap.size w f ∧ f.heap[H]? = some (.cells #[v0, v1, v2, v3, v4] T) := by
  have hF0 := hz
  have hF1 := heap_setCell_same _ H 0 _ _ v0 hF0
  have hF2 := heap_setCell_same _ H 1 _ _ v1 hF1
  have hF3 := heap_setCell_same _ H 2 _ _ v2 hF2
  have hF4 := heap_setCell_same _ H 3 _ _ v3 hF3
  have hF5 := heap_setCell_same _ H 4 _ _ v4 hF4
  exact ⟨_, rfl, (((((hb.setCell (p := ⟨H, 0, none⟩) hw v0).setCell (p := ⟨H, 1, none⟩) hw v1).setCell (p := ⟨H, 2, none⟩) hw v2).setCell (p := ⟨H, 3, none⟩) hw v3).setCell (p := ⟨H, 4, none⟩) hw v4), hF5⟩
theorem five_fin_rows {w wf : World} {H B : Nat} {T : TypeId} {own vals : List Int} {chg : List Bool} {inb : List Ml} {Ao : Option Addr} {co : Nat} {Av : Option Addr} {cv : Nat} {Ac : Option Addr} {cc : Nat} {Ai : Option Addr} {ci no nv nc ni : Nat} (v0 v1 v2 v3 v4 : Value) (hw : w.heap.size ≤ H) (hz : wf.heap[H]? = some (.cells #[.int .i64 0, .slice none 0 0, .slice none 0 0, .slice none 0 0, .slice none 0 0] T)) (hb : Below w.heap.size w wf) (hH : H < B) (hr : Rows4 B own vals chg inb Ao co Av cv Ac cc Ai ci no nv nc ni wf) :
    ∃ f, (((((wf.setCell ⟨H, 0, none⟩ (v0)).setCell ⟨H, 1, none⟩ (v1)).setCell ⟨H, 2, none⟩ (v2)).setCell ⟨H, 3, none⟩ (v3)).setCell ⟨H, 4, none⟩ (v4)) = f ∧ Below w.heap.size w f ∧ f.heap[H]? = some (.cells #[v0, v1, v2, v3, v4] T) ∧ Rows4 B own vals chg inb Ao co Av cv Ac cc Ai ci no nv nc ni f := by
  obtain ⟨f, h1, h2, h3⟩ := five_fin v0 v1 v2 v3 v4 hw hz hb
  refine ⟨f, h1, h2, h3, ?_⟩
  rw [← h1]
  exact ((((hr.set hH 0 _).set hH 1 _).set hH 2 _).set hH 3 _).set hH 4 _
theorem Rows4.sin {B : Nat} {st : Int} {own vals : List Int} {chg : List Bool} {inb : List Ml} {Ao : Option Addr} {co : Nat} {Av : Option Addr} {cv : Nat} {Ac : Option Addr} {cc : Nat} {Ai : Option Addr} {ci no nv nc ni : Nat} {w : World} (g : Rows4 B own vals chg inb Ao co Av cv Ac cc Ai ci no nv nc ni w) : SIn w ⟨st, own, vals, chg, inb⟩ Ao Av Ac Ai := ⟨Rd.of_own g.ho, Rd.of_own g.hv, Rd.of_own g.hc, Rd.of_own g.hi⟩
theorem GetSt.drew {X : List Nat} {v0 w0 w : World} {bp : Nat} {T : TypeId} {st : Int} {own vals : List Int} {chg : List Bool} {inb : List Ml} {Ao : Option Addr} {co : Nat} {Av : Option Addr} {cv : Nat} {Ac : Option Addr} {cc : Nat} {Ai : Option Addr} {ci no nv nc ni : Nat} (h : GetSt X v0 w0 bp T st own vals chg inb Ao co Av cv Ac cc Ai ci no nv nc ni w) : GetSt X v0 w0 bp T st own vals chg inb Ao co Av cv Ac cc Ai ci no nv nc ni w.drew := ⟨h.hp, h.ho.drew, h.hv.drew, h.hc.drew, h.hi.drew, h.kb.drew, h.bl.drew⟩
end Go.Proofs.Ytgfdlllmcbgbcaa
