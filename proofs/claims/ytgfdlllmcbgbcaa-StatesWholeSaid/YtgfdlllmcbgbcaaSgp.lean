/- Get: what bytes say; the state of its loops. (printed by gen/sgp.py) -/
import Derived.Test.YtgfdlllmcbgbcaaSpb
import Derived.Test.YtgfdlllmcbgbcaaKbl
import Derived.Test.YtgfdlllmcbgbcaaAp1
import Derived.Test.YtgfdlllmcbgbcaaRow2
import Derived.Test.YtgfdlllmcbgbcaaFrw
namespace Go.Proofs.Ytgfdlllmcbgbcaa
open Go.RowKit
set_option linter.unusedVariables false
abbrev VRow := Int × Int × Bool × Ml
def s64 (n : Nat) : Int := wrap64 (n : Int)
def rowP (l : List UInt8) : Option (VRow × List UInt8) :=
  if l.length < 11 then none
  else if 3 < rz.num ((l.drop 10).take 1) then none
  else if rz.num ((l.drop 10).take 1) < 2 then some (((rz.num (l.take 2) : Int), s64 (rz.num ((l.drop 2).take 8)), decide (rz.num ((l.drop 10).take 1) % 2 = 1), (false, 0)), l.drop 11)
  else if l.length < 19 then none
  else some (((rz.num (l.take 2) : Int), s64 (rz.num ((l.drop 2).take 8)), decide (rz.num ((l.drop 10).take 1) % 2 = 1), (true, s64 (rz.num ((l.drop 11).take 8)))), l.drop 19)
def rowsP : Nat → List UInt8 → Option (List VRow × List UInt8)
  | 0, l => some ([], l)
  | k + 1, l => (rowP l).bind fun q => (rowsP k q.2).map fun z => (q.1 :: z.1, z.2)
def partOf (st : Int) (rs : List VRow) : SPart := ⟨st, rs.map (·.1), rs.map (·.2.1), rs.map (·.2.2.1), rs.map (·.2.2.2)⟩
def noP : SPart := ⟨0, [], [], [], []⟩
def getF (bs : List UInt8) : Option SPart :=
  if bs.length < 6 then none
  else match rowsP (rz.num ((bs.drop 4).take 2)) (bs.drop 6) with
    | some (rs, []) => if rightB (partOf (rz.num (bs.take 4) : Int) rs) = true then some (partOf (rz.num (bs.take 4) : Int) rs) else none
    | _ => none
def getP (bs : List UInt8) : SPart := (getF bs).getD noP
def getE (bs : List UInt8) : Int := if (getF bs).isSome then 0 else 140
/-- what is still to be read, behind the rows rs -/
def Going (bs : List UInt8) (n k s : Nat) (rs : List VRow) : Prop := rs.length = k ∧ k ≤ n ∧ s ≤ bs.length ∧ rowsP n (bs.drop 6) = (rowsP (n - k) (bs.drop s)).map fun z => (rs ++ z.1, z.2)
theorem Going.start {bs : List UInt8} (n : Nat) (h : 6 ≤ bs.length) : Going bs n 0 6 [] := ⟨rfl, Nat.zero_le _, h, by cases rowsP n (bs.drop 6) <;> simp⟩
theorem Going.step {bs : List UInt8} {n k s d : Nat} {rs : List VRow} {r : VRow} (h : Going bs n k s rs) (hk : k < n) (hd : s + d ≤ bs.length) (hr : rowP (bs.drop s) = some (r, (bs.drop s).drop d)) : Going bs n (k + 1) (s + d) (rs ++ [r]) := by
  refine ⟨by simp [h.1], hk, hd, ?_⟩
  rw [h.2.2.2, show n - k = (n - (k + 1)) + 1 by omega]
  simp only [rowsP, hr, Option.bind_some, List.drop_drop]
  cases rowsP (n - (k + 1)) (bs.drop (s + d)) <;> simp
theorem Going.none_ {bs : List UInt8} {n k s : Nat} {rs : List VRow} (h : Going bs n k s rs) (hk : k < n) (hr : rowP (bs.drop s) = none) : rowsP n (bs.drop 6) = none := by
  rw [h.2.2.2, show n - k = (n - (k + 1)) + 1 by omega]
  simp [rowsP, hr]
theorem Going.done {bs : List UInt8} {n s : Nat} {rs : List VRow} (h : Going bs n n s rs) : rowsP n (bs.drop 6) = some (rs, bs.drop s) := by
  rw [h.2.2.2, Nat.sub_self]
  simp [rowsP]
theorem getF_short {bs : List UInt8} (h : bs.length < 6) : getF bs = none := by unfold getF; rw [if_pos h]
theorem getF_none {bs : List UInt8} {n : Nat} (hn : rz.num ((bs.drop 4).take 2) = n) (h : rowsP n (bs.drop 6) = none) : getF bs = none := by
  unfold getF
  split
  · rfl
  · rw [hn, h]
theorem getF_left {bs : List UInt8} {n s : Nat} {rs : List VRow} (hn : rz.num ((bs.drop 4).take 2) = n) (h : Going bs n n s rs) (hs : s ≠ bs.length) : getF bs = none := by
  unfold getF
  split
  · rfl
  · rw [hn, h.done]
    have h2 := h.2.2.1
    obtain ⟨x, l, hl⟩ : ∃ x l, bs.drop s = x :: l := by
      cases hd : bs.drop s with
      | nil => have := congrArg List.length hd; simp at this; omega
      | cons x l => exact ⟨x, l, rfl⟩
    rw [hl]
theorem getF_all {bs : List UInt8} {n : Nat} {rs : List VRow} (h6 : 6 ≤ bs.length) (hn : rz.num ((bs.drop 4).take 2) = n) (h : Going bs n n bs.length rs) : getF bs = if rightB (partOf (rz.num (bs.take 4) : Int) rs) = true then some (partOf (rz.num (bs.take 4) : Int) rs) else none := by
  unfold getF
  rw [if_neg (by omega), hn, h.done, List.drop_of_length_le (Nat.le_refl _)]
/-- the rows read so far, as lists -/
def PartsOf (rs : List VRow) (own vals : List Int) (chg : List Bool) (inb : List Ml) : Prop := own = rs.map (·.1) ∧ vals = rs.map (·.2.1) ∧ chg = rs.map (·.2.2.1) ∧ inb = rs.map (·.2.2.2)
/-- the part under way in block bp -/
structure GetSt (X : List Nat) (v0 w0 : World) (bp : Nat) (T : TypeId) (st : Int) (own vals : List Int) (chg : List Bool) (inb : List Ml) (Ao : Option Addr) (co : Nat) (Av : Option Addr) (cv : Nat) (Ac : Option Addr) (cc : Nat) (Ai : Option Addr) (ci no nv nc ni : Nat) (w : World) : Prop where
  hp : w.heap[bp]? = some (.cells #[.int .i64 st, .slice Ao no co, .slice Av nv cv, .slice Ac nc cc, .slice Ai ni ci] T)
  ho : w.ownsRow v0.heap.size 3 1 (.slice Ao no co) no (i64s own)
  hv : w.ownsRow v0.heap.size 2 1 (.slice Av nv cv) nv (i64s vals)
  hc : w.ownsRow v0.heap.size 4 1 (.slice Ac nc cc) nc (bools chg)
  hi : w.ownsRow v0.heap.size 61 2 (.slice Ai ni ci) ni (mlFlat inb)
  kb : KB X v0 w
  bl : Below w0.heap.size w0 w
theorem own_besides {g : Nat} {w w' : World} {base size n : Nat} {e : TypeId} {v : Value} {xs : List Value} (h : w.ownsRow base e size v n xs) (hb : Besides g w w') (hg : g < base) : w'.ownsRow base e size v n xs := by
  refine ⟨h.1, ?_⟩
  rcases h.2 with h0 | ⟨q, cap, cur, hv, hq, hc, hr⟩
  · exact .inl h0
  · exact .inr ⟨q, cap, cur, hv, hq, (hb.block q (lt_of_block hc) (by omega)).trans hc, hr⟩
theorem own_setFar {w : World} {base size n : Nat} {e : TypeId} {v : Value} {xs : List Value} (h : w.ownsRow base e size v n xs) (p : Addr) (u : Value) (hp : ∀ g, v.ownBlock = some g → g ≠ p.block) : (w.setCell p u).ownsRow base e size v n xs := by
  refine ⟨h.1, ?_⟩
  rcases h.2 with h0 | ⟨q, cap, cur, hv, hq, hc, hr⟩
  · exact .inl h0
  · exact .inr ⟨q, cap, cur, hv, hq, (Below.heap_setCell _ _ _ _ (hp q (by rw [hv]; rfl))).trans hc, hr⟩
section
variable {X : List Nat} {v0 w0 w w' : World} {bp : Nat} {T : TypeId} {st : Int} {own vals : List Int} {chg : List Bool} {inb : List Ml} {Ao : Option Addr} {co : Nat} {Av : Option Addr} {cv : Nat} {Ac : Option Addr} {cc : Nat} {Ai : Option Addr} {ci no nv nc ni : Nat}
theorem GetSt.besides (h : GetSt X v0 w0 bp T st own vals chg inb Ao co Av cv Ac cc Ai ci no nv nc ni w) {r : Nat} (hb : Besides r w w') (hX : r ∈ X) (hr : r < v0.heap.size) (hne : bp ≠ r) (hw : w0.heap.size ≤ r) : GetSt X v0 w0 bp T st own vals chg inb Ao co Av cv Ac cc Ai ci no nv nc ni w' :=
  ⟨(hb.block bp (lt_of_block h.hp) hne).trans h.hp, own_besides h.ho hb hr, own_besides h.hv hb hr, own_besides h.hc hb hr, own_besides h.hi hb hr,
    ⟨Nat.le_trans h.kb.1 hb.size, fun b hl hx => (hb.block b (Nat.lt_of_lt_of_le hl h.kb.1) (fun e => hx (e ▸ hX))).trans (h.kb.2 b hl hx)⟩, h.bl.trans (hb.below hw h.bl.size)⟩
theorem GetSt.alloc (h : GetSt X v0 w0 bp T st own vals chg inb Ao co Av cv Ac cc Ai ci no nv nc ni w) (o : Obj) : GetSt X v0 w0 bp T st own vals chg inb Ao co Av cv Ac cc Ai ci no nv nc ni (w.alloc o) :=
  ⟨(Below.heap_alloc _ _ _ (lt_of_block h.hp)).trans h.hp, h.ho.alloc o, h.hv.alloc o, h.hc.alloc o, h.hi.alloc o, h.kb.alloc o, h.bl.alloc h.bl.size o⟩
theorem GetSt.far (h : GetSt X v0 w0 bp T st own vals chg inb Ao co Av cv Ac cc Ai ci no nv nc ni w) (p : Addr) (u : Value) (hp : v0.heap.size ≤ p.block) (hb : bp < v0.heap.size) (hw : w0.heap.size ≤ p.block)
    (ho : ∀ g, (Value.slice Ao no co).ownBlock = some g → g ≠ p.block) (hv : ∀ g, (Value.slice Av nv cv).ownBlock = some g → g ≠ p.block) (hc : ∀ g, (Value.slice Ac nc cc).ownBlock = some g → g ≠ p.block) (hi : ∀ g, (Value.slice Ai ni ci).ownBlock = some g → g ≠ p.block) :
    GetSt X v0 w0 bp T st own vals chg inb Ao co Av cv Ac cc Ai ci no nv nc ni (w.setCell p u) :=
  ⟨(Below.heap_setCell _ _ _ _ (by omega)).trans h.hp, own_setFar h.ho p u ho, own_setFar h.hv p u hv, own_setFar h.hc p u hc, own_setFar h.hi p u hi, h.kb.setCell (.inl hp) u, h.bl.setCell hw u⟩
theorem GetSt.appOwn (h : GetSt X v0 w0 bp T st own vals chg inb Ao co Av cv Ac cc Ai ci no nv nc ni w) {cs : Array Value} {te : TypeId} {A' : Option Addr} {c' : Nat} {x : Int} (hb : bp < v0.heap.size) (hX : bp ∈ X) (hw : w0.heap.size ≤ bp) (hv0 : w0.heap.size ≤ v0.heap.size)
    (hown : w'.ownsRow v0.heap.size 3 1 (.slice A' (no + 1) c') (no + 1) (i64s own ++ [.int .i64 x])) (hg : (w.alloc (.cells cs te)).grownBy w' (Value.slice Ao no co).ownBlock) :
    w'.heap[bp]? = some (.cells #[.int .i64 st, .slice Ao no co, .slice Av nv cv, .slice Ac nc cc, .slice Ai ni ci] T) ∧ GetSt X v0 w0 bp T st (own ++ [x]) vals chg inb A' c' Av cv Ac cc Ai ci (no + 1) nv nc ni (w'.setCell ⟨bp, 1, none⟩ (.slice A' (no + 1) c')) := by
  have hown' : w'.ownsRow v0.heap.size 3 1 (.slice A' (no + 1) c') (no + 1) (i64s (own ++ [x])) := by rw [← i64s_app]; exact hown
  have hp1 : w'.heap[bp]? = some (.cells #[.int .i64 st, .slice Ao no co, .slice Av nv cv, .slice Ac nc cc, .slice Ai ni ci] T) := (hg.block bp (lt_of_block (h.alloc (.cells cs te)).hp) (fun e => by have := (h.ho.lt bp e.symm).1; omega)).trans (h.alloc (.cells cs te)).hp
  have hs := heap_setCell_same w' bp 1 _ _ (.slice A' (no + 1) c') hp1
  exact ⟨hp1, hs, ownsRow_setCell_below hown' (a := ⟨bp, 1, none⟩) hb _, ownsRow_setCell_below ((h.alloc (.cells cs te)).hv.kept hg (own_apart (h.alloc (.cells cs te)).hv (h.alloc (.cells cs te)).ho (by decide))) (a := ⟨bp, 1, none⟩) hb _, ownsRow_setCell_below ((h.alloc (.cells cs te)).hc.kept hg (own_apart (h.alloc (.cells cs te)).hc (h.alloc (.cells cs te)).ho (by decide))) (a := ⟨bp, 1, none⟩) hb _, ownsRow_setCell_below ((h.alloc (.cells cs te)).hi.kept hg (own_apart (h.alloc (.cells cs te)).hi (h.alloc (.cells cs te)).ho (by decide))) (a := ⟨bp, 1, none⟩) hb _, ((h.alloc (.cells cs te)).kb.grown hg (fun g e => .inl (h.ho.lt g e).1)).setCell (.inr hX) _, (app_below (h.alloc (.cells cs te)).bl (h.alloc (.cells cs te)).ho hg (h.alloc (.cells cs te)).bl.size hv0).setCell hw _⟩
theorem GetSt.appVals (h : GetSt X v0 w0 bp T st own vals chg inb Ao co Av cv Ac cc Ai ci no nv nc ni w) {cs : Array Value} {te : TypeId} {A' : Option Addr} {c' : Nat} {x : Int} (hb : bp < v0.heap.size) (hX : bp ∈ X) (hw : w0.heap.size ≤ bp) (hv0 : w0.heap.size ≤ v0.heap.size)
    (hown : w'.ownsRow v0.heap.size 2 1 (.slice A' (nv + 1) c') (nv + 1) (i64s vals ++ [.int .i64 x])) (hg : (w.alloc (.cells cs te)).grownBy w' (Value.slice Av nv cv).ownBlock) :
    w'.heap[bp]? = some (.cells #[.int .i64 st, .slice Ao no co, .slice Av nv cv, .slice Ac nc cc, .slice Ai ni ci] T) ∧ GetSt X v0 w0 bp T st own (vals ++ [x]) chg inb Ao co A' c' Ac cc Ai ci no (nv + 1) nc ni (w'.setCell ⟨bp, 2, none⟩ (.slice A' (nv + 1) c')) := by
  have hown' : w'.ownsRow v0.heap.size 2 1 (.slice A' (nv + 1) c') (nv + 1) (i64s (vals ++ [x])) := by rw [← i64s_app]; exact hown
  have hp1 : w'.heap[bp]? = some (.cells #[.int .i64 st, .slice Ao no co, .slice Av nv cv, .slice Ac nc cc, .slice Ai ni ci] T) := (hg.block bp (lt_of_block (h.alloc (.cells cs te)).hp) (fun e => by have := (h.hv.lt bp e.symm).1; omega)).trans (h.alloc (.cells cs te)).hp
  have hs := heap_setCell_same w' bp 2 _ _ (.slice A' (nv + 1) c') hp1
  exact ⟨hp1, hs, ownsRow_setCell_below ((h.alloc (.cells cs te)).ho.kept hg (own_apart (h.alloc (.cells cs te)).ho (h.alloc (.cells cs te)).hv (by decide))) (a := ⟨bp, 2, none⟩) hb _, ownsRow_setCell_below hown' (a := ⟨bp, 2, none⟩) hb _, ownsRow_setCell_below ((h.alloc (.cells cs te)).hc.kept hg (own_apart (h.alloc (.cells cs te)).hc (h.alloc (.cells cs te)).hv (by decide))) (a := ⟨bp, 2, none⟩) hb _, ownsRow_setCell_below ((h.alloc (.cells cs te)).hi.kept hg (own_apart (h.alloc (.cells cs te)).hi (h.alloc (.cells cs te)).hv (by decide))) (a := ⟨bp, 2, none⟩) hb _, ((h.alloc (.cells cs te)).kb.grown hg (fun g e => .inl (h.hv.lt g e).1)).setCell (.inr hX) _, (app_below (h.alloc (.cells cs te)).bl (h.alloc (.cells cs te)).hv hg (h.alloc (.cells cs te)).bl.size hv0).setCell hw _⟩
theorem GetSt.appChg (h : GetSt X v0 w0 bp T st own vals chg inb Ao co Av cv Ac cc Ai ci no nv nc ni w) {cs : Array Value} {te : TypeId} {A' : Option Addr} {c' : Nat} {x : Bool} (hb : bp < v0.heap.size) (hX : bp ∈ X) (hw : w0.heap.size ≤ bp) (hv0 : w0.heap.size ≤ v0.heap.size)
    (hown : w'.ownsRow v0.heap.size 4 1 (.slice A' (nc + 1) c') (nc + 1) (bools chg ++ [.bool x])) (hg : (w.alloc (.cells cs te)).grownBy w' (Value.slice Ac nc cc).ownBlock) :
    w'.heap[bp]? = some (.cells #[.int .i64 st, .slice Ao no co, .slice Av nv cv, .slice Ac nc cc, .slice Ai ni ci] T) ∧ GetSt X v0 w0 bp T st own vals (chg ++ [x]) inb Ao co Av cv A' c' Ai ci no nv (nc + 1) ni (w'.setCell ⟨bp, 3, none⟩ (.slice A' (nc + 1) c')) := by
  have hown' : w'.ownsRow v0.heap.size 4 1 (.slice A' (nc + 1) c') (nc + 1) (bools (chg ++ [x])) := by rw [← bools_append]; exact hown
  have hp1 : w'.heap[bp]? = some (.cells #[.int .i64 st, .slice Ao no co, .slice Av nv cv, .slice Ac nc cc, .slice Ai ni ci] T) := (hg.block bp (lt_of_block (h.alloc (.cells cs te)).hp) (fun e => by have := (h.hc.lt bp e.symm).1; omega)).trans (h.alloc (.cells cs te)).hp
  have hs := heap_setCell_same w' bp 3 _ _ (.slice A' (nc + 1) c') hp1
  exact ⟨hp1, hs, ownsRow_setCell_below ((h.alloc (.cells cs te)).ho.kept hg (own_apart (h.alloc (.cells cs te)).ho (h.alloc (.cells cs te)).hc (by decide))) (a := ⟨bp, 3, none⟩) hb _, ownsRow_setCell_below ((h.alloc (.cells cs te)).hv.kept hg (own_apart (h.alloc (.cells cs te)).hv (h.alloc (.cells cs te)).hc (by decide))) (a := ⟨bp, 3, none⟩) hb _, ownsRow_setCell_below hown' (a := ⟨bp, 3, none⟩) hb _, ownsRow_setCell_below ((h.alloc (.cells cs te)).hi.kept hg (own_apart (h.alloc (.cells cs te)).hi (h.alloc (.cells cs te)).hc (by decide))) (a := ⟨bp, 3, none⟩) hb _, ((h.alloc (.cells cs te)).kb.grown hg (fun g e => .inl (h.hc.lt g e).1)).setCell (.inr hX) _, (app_below (h.alloc (.cells cs te)).bl (h.alloc (.cells cs te)).hc hg (h.alloc (.cells cs te)).bl.size hv0).setCell hw _⟩
theorem GetSt.appInb (h : GetSt X v0 w0 bp T st own vals chg inb Ao co Av cv Ac cc Ai ci no nv nc ni w) {cs : Array Value} {te : TypeId} {A' : Option Addr} {c' : Nat} {x : Ml} (hb : bp < v0.heap.size) (hX : bp ∈ X) (hw : w0.heap.size ≤ bp) (hv0 : w0.heap.size ≤ v0.heap.size)
    (hown : w'.ownsRow v0.heap.size 61 2 (.slice A' (ni + 1) c') (ni + 1) (mlFlat inb ++ [.bool x.1, .int .i64 x.2])) (hg : (w.alloc (.cells cs te)).grownBy w' (Value.slice Ai ni ci).ownBlock) :
    w'.heap[bp]? = some (.cells #[.int .i64 st, .slice Ao no co, .slice Av nv cv, .slice Ac nc cc, .slice Ai ni ci] T) ∧ GetSt X v0 w0 bp T st own vals chg (inb ++ [x]) Ao co Av cv Ac cc A' c' no nv nc (ni + 1) (w'.setCell ⟨bp, 4, none⟩ (.slice A' (ni + 1) c')) := by
  have hown' : w'.ownsRow v0.heap.size 61 2 (.slice A' (ni + 1) c') (ni + 1) (mlFlat (inb ++ [x])) := by rw [← mlFlat_app]; exact hown
  have hp1 : w'.heap[bp]? = some (.cells #[.int .i64 st, .slice Ao no co, .slice Av nv cv, .slice Ac nc cc, .slice Ai ni ci] T) := (hg.block bp (lt_of_block (h.alloc (.cells cs te)).hp) (fun e => by have := (h.hi.lt bp e.symm).1; omega)).trans (h.alloc (.cells cs te)).hp
  have hs := heap_setCell_same w' bp 4 _ _ (.slice A' (ni + 1) c') hp1
  exact ⟨hp1, hs, ownsRow_setCell_below ((h.alloc (.cells cs te)).ho.kept hg (own_apart (h.alloc (.cells cs te)).ho (h.alloc (.cells cs te)).hi (by decide))) (a := ⟨bp, 4, none⟩) hb _, ownsRow_setCell_below ((h.alloc (.cells cs te)).hv.kept hg (own_apart (h.alloc (.cells cs te)).hv (h.alloc (.cells cs te)).hi (by decide))) (a := ⟨bp, 4, none⟩) hb _, ownsRow_setCell_below ((h.alloc (.cells cs te)).hc.kept hg (own_apart (h.alloc (.cells cs te)).hc (h.alloc (.cells cs te)).hi (by decide))) (a := ⟨bp, 4, none⟩) hb _, ownsRow_setCell_below hown' (a := ⟨bp, 4, none⟩) hb _, ((h.alloc (.cells cs te)).kb.grown hg (fun g e => .inl (h.hi.lt g e).1)).setCell (.inr hX) _, (app_below (h.alloc (.cells cs te)).bl (h.alloc (.cells cs te)).hi hg (h.alloc (.cells cs te)).bl.size hv0).setCell hw _⟩
end
end Go.Proofs.Ytgfdlllmcbgbcaa
