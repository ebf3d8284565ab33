/- Get: the part that bytes say. (printed by gen/sgt.py) -/
import Derived.Test.YtgfdlllmcbgbcaaProg
import Derived.Test.YtgfdlllmcbgbcaaSgp
import Derived.Test.YtgfdlllmcbgbcaaRgt
import Derived.ScopeJumps
import Derived.Lib.Hide
import Derived.WalkSpells
import Derived.WalkLawsBesides
import Derived.WalkMore
import Derived.IntWalk
import Derived.Deep.DeepCutAuto
import Derived.Deep.CutBlock
namespace Go.Proofs.Ytgfdlllmcbgbcaa
open Go.RowKit
open rz (Rz nx)
set_option linter.unusedVariables false
set_option linter.unusedSimpArgs false
def GetPost (w : World) (p : SPart) (code : Int) (e : Ending) (w' : World) : Prop := ∃ (no nv nc ni : Nat) (Ao : Option Addr) (co : Nat) (Av : Option Addr) (cv : Nat) (Ac : Option Addr) (cc : Nat) (Ai : Option Addr) (ci : Nat), SLen p no nv nc ni ∧ no ≤ 65535 ∧
  e = .returned (.tuple #[.agg #[.int .i64 p.step, .slice Ao no co, .slice Av nv cv, .slice Ac nc cc, .slice Ai ni ci], .int .i64 code]) ∧ SIn w' p Ao Av Ac Ai ∧ Below w.heap.size w w'
/-- the address is none of what was there -/
def NewA (B : Nat) (A : Option Addr) : Prop := ∀ b off, A = some ⟨b, off, none⟩ → B ≤ b
theorem own_new {w : World} {base B : Nat} {e : TypeId} {size n c : Nat} {A : Option Addr} {xs : List Value} (h : w.ownsRow base e size (.slice A n c) n xs) (hB : B ≤ base) : NewA B A := fun b off he => by
  subst he
  rcases h.2 with ⟨hv, _⟩ | ⟨g, cap, cur, hv, hb, _⟩
  · injection hv with h1
    cases h1
  · injection hv with h1
    injection h1 with h1
    injection h1 with h1
    subst h1
    exact Nat.le_trans hB hb
def GetPostN (w : World) (p : SPart) (code : Int) (e : Ending) (w' : World) : Prop := ∃ (no nv nc ni : Nat) (Ao : Option Addr) (co : Nat) (Av : Option Addr) (cv : Nat) (Ac : Option Addr) (cc : Nat) (Ai : Option Addr) (ci : Nat), SLen p no nv nc ni ∧ no ≤ 65535 ∧
  e = .returned (.tuple #[.agg #[.int .i64 p.step, .slice Ao no co, .slice Av nv cv, .slice Ac nc cc, .slice Ai ni ci], .int .i64 code]) ∧ SIn w' p Ao Av Ac Ai ∧ Below w.heap.size w w' ∧ NewA w.heap.size Ao ∧ NewA w.heap.size Av ∧ NewA w.heap.size Ac ∧ NewA w.heap.size Ai
theorem GetPostN.old {w w' : World} {p : SPart} {code : Int} {e : Ending} (h : GetPostN w p code e w') : GetPost w p code e w' := by
  obtain ⟨no, nv, nc, ni, Ao, co, Av, cv, Ac, cc, Ai, ci, h1, h2, h3, h4, h5, _⟩ := h
  exact ⟨no, nv, nc, ni, Ao, co, Av, cv, Ac, cc, Ai, ci, h1, h2, h3, h4, h5⟩
theorem nx_ok {bs : List UInt8} {s n : Nat} (h : s + n ≤ bs.length) : nx bs (s, false) (n : Int) = ((bs.drop s).take n, (s + n, false)) := by
  unfold nx
  have hc : ¬ ((s, false).2 = true ∨ (n : Int) < 0 ∨ (bs.length : Int) - (((s, false) : Nat × Bool).1 : Int) < (n : Int)) := by
    rintro (h1 | h1 | h1)
    · cases h1
    · omega
    · dsimp only at h1; omega
  rw [if_neg hc]
  simp
theorem num_lt_of {l : List UInt8} {k : Nat} (h : l.length ≤ k) : rz.num l < 256 ^ k := Nat.lt_of_lt_of_le (rz.num_lt _) (Nat.pow_le_pow_right (by decide) h)
theorem nx_bad {bs : List UInt8} {s : Nat × Bool} {n : Nat} (h : s.2 = true ∨ bs.length < s.1 + n) : nx bs s (n : Int) = ([], (bs.length, true)) := by
  unfold nx
  rw [if_pos (by rcases h with h | h; exact .inl h; exact .inr (.inr (by omega)))]
/-- three reads, where there are too few bytes -/
theorem nx_three {bs : List UInt8} {s : Nat} (h : bs.length < s + 11) : nx bs (nx bs (nx bs (s, false) 2).2 8).2 1 = ([], (bs.length, true)) := by
  by_cases h1 : s + 2 ≤ bs.length
  · rw [show nx bs (s, false) 2 = _ from nx_ok (n := 2) h1]
    dsimp only
    by_cases h2 : s + 2 + 8 ≤ bs.length
    · rw [show nx bs (s + 2, false) 8 = _ from nx_ok (n := 8) h2]
      exact nx_bad (n := 1) (.inr (by dsimp only; omega))
    · rw [show nx bs (s + 2, false) 8 = _ from nx_bad (n := 8) (.inr (by dsimp only; omega))]
      exact nx_bad (n := 1) (.inl rfl)
  · rw [show nx bs (s, false) 2 = _ from nx_bad (n := 2) (.inr (by dsimp only; omega))]
    rw [show nx bs ([], (bs.length, true)).2 8 = _ from nx_bad (n := 8) (.inl rfl)]
    exact nx_bad (n := 1) (.inl rfl)
theorem nx_two {bs : List UInt8} (h : bs.length < 6) : nx bs (nx bs (0, false) 4).2 2 = ([], (bs.length, true)) := by
  by_cases h1 : 4 ≤ bs.length
  · rw [show nx bs (0, false) 4 = _ from nx_ok (n := 4) (by omega)]
    exact nx_bad (n := 2) (.inr (by dsimp only; omega))
  · rw [show nx bs (0, false) 4 = _ from nx_bad (n := 4) (.inr (by dsimp only; omega))]
    exact nx_bad (n := 2) (.inl rfl)
/-- where the Reader's bytes lie -/
def Lies (v0 : World) (bp r : Nat) (A : Option Addr) (bs : List UInt8) : Prop := u8s bs ≠ [] → ∃ b off, A = some ⟨b, off, none⟩ ∧ b ≠ r ∧ b ≠ bp ∧ b < v0.heap.size ∧ ∀ j u, (u8s bs)[j]? = some u → v0.cell? ⟨b, off + j, none⟩ = some u
theorem rz_of {v0 w : World} {bp r k0 s : Nat} {A : Option Addr} {bs : List UInt8} {T : TypeId} (hA : Lies v0 bp r A bs) (hk : KB [bp, r] v0 w) (hr : w.heap[r]? = some (.cells #[.slice A bs.length k0, .int .i64 (s : Nat), .bool false] T)) (h1 : bs.length ≤ k0) (h2 : bs.length ≤ 140737488351232) (h3 : s ≤ bs.length) : Rz A k0 T w r bs (s, false) := by
  refine ⟨hr, fun hn => ?_, h1, h2, h3⟩
  obtain ⟨b, off, e, g1, g2, g3, g4⟩ := hA hn
  exact ⟨b, off, e, g1, Nat.lt_of_lt_of_le g3 hk.1, fun j u hu => (hk.cell (p := ⟨b, off + j, none⟩) g3 (by simp [g1, g2])).trans (g4 j u hu)⟩
theorem rz_of2 {v0 w : World} {bp r k0 : Nat} {s : Nat × Bool} {A : Option Addr} {bs : List UInt8} {T : TypeId} (hA : Lies v0 bp r A bs) (hk : KB [bp, r] v0 w) (hr : w.heap[r]? = some (.cells #[.slice A bs.length k0, .int .i64 (s.1 : Nat), .bool s.2] T)) (h1 : bs.length ≤ k0) (h2 : bs.length ≤ 140737488351232) (h3 : s.1 ≤ bs.length) : Rz A k0 T w r bs s := by
  refine ⟨hr, fun hn => ?_, h1, h2, h3⟩
  obtain ⟨b, off, e, g1, g2, g3, g4⟩ := hA hn
  exact ⟨b, off, e, g1, Nat.lt_of_lt_of_le g3 hk.1, fun j u hu => (hk.cell (p := ⟨b, off + j, none⟩) g3 (by simp [g1, g2])).trans (g4 j u hu)⟩
theorem bits_and_small (c d : Nat) (hc : c < 256) (hd : d < 256) : bits .and .u8 (c : Int) (d : Int) = ((c &&& d : Nat) : Int) := by
  have h : c < 2 ^ 8 := by omega
  have h2 : d < 2 ^ 8 := by omega
  have h3 : c &&& d < 2 ^ 8 := Nat.and_lt_two_pow _ h2
  have e1 : (BitVec.ofInt 8 (c : Int)).toNat = c := by
    rw [BitVec.ofInt_natCast, BitVec.toNat_ofNat]; exact Nat.mod_eq_of_lt h
  have e2 : (BitVec.ofInt 8 (d : Int)).toNat = d := by
    rw [BitVec.ofInt_natCast, BitVec.toNat_ofNat]; exact Nat.mod_eq_of_lt h2
  show IntKind.u8.wrap ((BitVec.ofInt 8 (c : Int) &&& BitVec.ofInt 8 (d : Int)).toNat : Int) = _
  rw [BitVec.toNat_and, e1, e2, IntKind.wrap_u8]
  omega
theorem and_two (c : Nat) : c &&& 2 = if c % 4 < 2 then 0 else 2 := by
  have h : (c &&& 2) = (c % 4) &&& 2 := by
    rw [show 4 = 2 ^ 2 by rfl, ← Nat.and_two_pow_sub_one_eq_mod, Nat.and_assoc]
    rfl
  rw [h]
  have : c % 4 < 4 := Nat.mod_lt _ (by decide)
  obtain ⟨d, hd⟩ : ∃ d, c % 4 = d := ⟨_, rfl⟩
  rw [hd] at this ⊢
  rcases (show d = 0 ∨ d = 1 ∨ d = 2 ∨ d = 3 by omega) with rfl | rfl | rfl | rfl <;> rfl
theorem and_one (c : Nat) : c &&& 1 = c % 2 := Nat.and_one_is_mod c
def GJF (A0 : Option Addr) (L c : Nat) (H : Nat) (u : Nat → Value) : Act := { tmps := #[.slice A0 L c, u 1, .pointer (some ⟨H, 0, none⟩), u 3, u 4, u 5, u 6, u 7, u 8, u 9, u 10, u 11, u 12, u 13, u 14, u 15, u 16, u 17, u 18, u 19, u 20, u 21, u 22, u 23, u 24, u 25, u 26, u 27, u 28, u 29, u 30, u 31, u 32, u 33, u 34, u 35, u 36, u 37, u 38, u 39, u 40, u 41, u 42, u 43, u 44, u 45, u 46, u 47, u 48, u 49, u 50, u 51, u 52, u 53, u 54, u 55, u 56, u 57, u 58, u 59, u 60, u 61, u 62, u 63, u 64, u 65, u 66, u 67, u 68, u 69, u 70, u 71, u 72, u 73, u 74, u 75, u 76, u 77, u 78, u 79, u 80, u 81, u 82, u 83, u 84, u 85, u 86], defers := [] }
def GJP (A0 : Option Addr) (L c : Nat) (w : World) (bs : List UInt8) (a' : Act) (w' : World) : Prop := ∃ u : Nat → Value, a' = GJF A0 L c w.heap.size u ∧ Hid (w'.heap[w.heap.size]? = some (.cells #[.int .i64 0, .slice none 0 0, .slice none 0 0, .slice none 0 0, .slice none 0 0] 27)) ∧ Hid (Below w.heap.size w w') ∧ Hid (getF bs = none)
theorem GJP.mk {A0 : Option Addr} {L c : Nat} {w : World} {bs : List UInt8} {a' : Act} {w' : World} (h : a' = GJF A0 L c w.heap.size (fun k => a'.tmps.getD k undef)) (h1 : Hid (w'.heap[w.heap.size]? = some (.cells #[.int .i64 0, .slice none 0 0, .slice none 0 0, .slice none 0 0, .slice none 0 0] 27))) (h2 : Hid (Below w.heap.size w w')) (h3 : Hid (getF bs = none)) : GJP A0 L c w bs a' w' := ⟨_, h, h1, h2, h3⟩
theorem own_ne {w : World} {b bp m : Nat} {v : Value} {xs : List Value} {C : Array Value} {T e : TypeId} {s : Nat} {fr : Nat × Nat} (h : w.ownsRow b e s v m xs) (hp : w.heap[bp]? = some (.cells C T fr)) (hT : e ≠ T) : ∀ g, v.ownBlock = some g → g ≠ bp := by
  intro g hg e
  subst e
  rcases h.2 with ⟨rfl, _⟩ | ⟨g2, cap, cur, rfl, _, hc, _⟩
  · cases hg
  · obtain rfl : g2 = g := by injection hg
    rw [hc] at hp
    injection hp with hp
    injection hp with _ h
    exact hT h
theorem slen_of {m : Int} {rs : List VRow} {own vals : List Int} {chg : List Bool} {inb : List Ml} {n : Nat} (h : PartsOf rs own vals chg inb) (hn : rs.length = n) : SLen (partOf m rs) n n n n := by
  unfold SLen partOf
  simp [hn]
theorem sin_of {X : List Nat} {v0 w0 w : World} {bp : Nat} {T : TypeId} {m : Int} {rs : List VRow} {own vals : List Int} {chg : List Bool} {inb : List Ml} {Ao : Option Addr} {co : Nat} {Av : Option Addr} {cv : Nat} {Ac : Option Addr} {cc : Nat} {Ai : Option Addr} {ci no nv nc ni : Nat} (h : PartsOf rs own vals chg inb) (g : GetSt X v0 w0 bp T m own vals chg inb Ao co Av cv Ac cc Ai ci no nv nc ni w) : SIn w (partOf m rs) Ao Av Ac Ai := by
  obtain ⟨rfl, rfl, rfl, rfl⟩ := h
  exact ⟨Rd.of_own g.ho, Rd.of_own g.hv, Rd.of_own g.hc, Rd.of_own g.hi⟩
theorem get_ok {w f : World} {bs : List UInt8} {p : SPart} {no nv nc ni : Nat} {Ao : Option Addr} {co : Nat} {Av : Option Addr} {cv : Nat} {Ac : Option Addr} {cc : Nat} {Ai : Option Addr} {ci : Nat} (hn : getF bs = some p) (hl : SLen p no nv nc ni) (hno : no ≤ 65535) (hi : SIn f p Ao Av Ac Ai) (hb : Below w.heap.size w f) (hw : NewA w.heap.size Ao ∧ NewA w.heap.size Av ∧ NewA w.heap.size Ac ∧ NewA w.heap.size Ai) : GetPostN w (getP bs) (getE bs) (.returned (.tuple #[.agg #[.int .i64 p.step, .slice Ao no co, .slice Av nv cv, .slice Ac nc cc, .slice Ai ni ci], .int .i64 0])) f := by
  unfold getP getE
  rw [hn]
  exact ⟨no, nv, nc, ni, Ao, co, Av, cv, Ac, cc, Ai, ci, hl, hno, rfl, hi, hb, hw⟩
theorem rowP_big {l : List UInt8} {c : Nat} (h : rz.num ((l.drop 10).take 1) = c) (hc : 3 < c) : rowP l = none := by
  unfold rowP
  split
  · rfl
  · rw [h, if_pos hc]
theorem rowP_bare {l : List UInt8} {v x c : Nat} {b : Bool} (hl : 11 ≤ l.length) (hv : rz.num (l.take 2) = v) (hx : rz.num ((l.drop 2).take 8) = x) (h : rz.num ((l.drop 10).take 1) = c) (hc : c < 2) (hb : decide (c % 2 = 1) = b) : rowP l = some (((v : Int), s64 x, b, (false, 0)), l.drop 11) := by
  unfold rowP
  rw [if_neg (by omega), h, if_neg (by omega), if_pos hc, hv, hx, hb]
theorem rowP_cut {l : List UInt8} {c : Nat} (h : rz.num ((l.drop 10).take 1) = c) (hc : 2 ≤ c) (hl : l.length < 19) : rowP l = none := by
  unfold rowP
  by_cases h1 : l.length < 11
  · rw [if_pos h1]
  · rw [if_neg h1, h]
    by_cases h2 : 3 < c
    · rw [if_pos h2]
    · rw [if_neg h2, if_neg (by omega), if_pos hl]
theorem rowP_mail {l : List UInt8} {v x c y : Nat} {b : Bool} (hl : 19 ≤ l.length) (hv : rz.num (l.take 2) = v) (hx : rz.num ((l.drop 2).take 8) = x) (h : rz.num ((l.drop 10).take 1) = c) (hc : c ≤ 3) (hc2 : 2 ≤ c) (hy : rz.num ((l.drop 11).take 8) = y) (hb : decide (c % 2 = 1) = b) : rowP l = some (((v : Int), s64 x, b, (true, s64 y)), l.drop 19) := by
  unfold rowP
  rw [if_neg (by omega), h, if_neg (by omega), if_neg (by omega), if_neg (by omega), hv, hx, hb, hy]
theorem PartsOf.snoc {rs : List VRow} {own vals : List Int} {chg : List Bool} {inb : List Ml} (h : PartsOf rs own vals chg inb) (v x : Int) (b : Bool) (m : Ml) : PartsOf (rs ++ [(v, x, b, m)]) (own ++ [v]) (vals ++ [x]) (chg ++ [b]) (inb ++ [m]) := by
  obtain ⟨rfl, rfl, rfl, rfl⟩ := h
  simp [PartsOf]
theorem get_bad {w f : World} {bs : List UInt8} (hn : getF bs = none) (hb : Below w.heap.size w f) : GetPostN w (getP bs) (getE bs) (.returned (.tuple #[.agg #[.int .i64 0, .slice none 0 0, .slice none 0 0, .slice none 0 0, .slice none 0 0], .int .i64 140])) f := by
  unfold getP getE
  rw [hn]
  exact ⟨0, 0, 0, 0, none, 0, none, 0, none, 0, none, 0, ⟨rfl, rfl, rfl, rfl⟩, by omega, rfl, ⟨Rd.nil_, Rd.nil_, Rd.nil_, Rd.nil_⟩, hb, (fun _ _ e => by cases e), (fun _ _ e => by cases e), (fun _ _ e => by cases e), (fun _ _ e => by cases e)⟩
theorem zero_fin {w wf : World} {T : TypeId} (hz : wf.heap[w.heap.size]? = some (.cells #[.int .i64 0, .slice none 0 0, .slice none 0 0, .slice none 0 0, .slice none 0 0] T)) (hb : Below w.heap.size w wf) : ∃ f, (((((wf.setCell ⟨w.heap.size, 0, none⟩ (.int .i64 0)).setCell ⟨w.heap.size, 1, none⟩ (.slice none 0 0)).setCell ⟨w.heap.size, 2, none⟩ (.slice none 0 0)).setCell ⟨w.heap.size, 3, none⟩ (.slice none 0 0)).setCell ⟨w.heap.size, 4, none⟩ (.slice none 0 0)) = f ∧ Below w.heap.size w f ∧ f.heap[w.heap.size]? = some (.cells #[.int .i64 0, .slice none 0 0, .slice none 0 0, .slice none 0 0, .slice none 0 0] T) := by
  have hF0 := hz
  have hF1 := heap_setCell_same _ w.heap.size 0 _ _ (.int .i64 0) hF0
  have hF2 := heap_setCell_same _ w.heap.size 1 _ _ (.slice none 0 0) hF1
  have hF3 := heap_setCell_same _ w.heap.size 2 _ _ (.slice none 0 0) hF2
  have hF4 := heap_setCell_same _ w.heap.size 3 _ _ (.slice none 0 0) hF3
  have hF5 := heap_setCell_same _ w.heap.size 4 _ _ (.slice none 0 0) hF4
  have hlW : w.heap.size ≤ w.heap.size := Nat.le_refl _
  exact ⟨_, rfl, (((((hb.setCell (p := ⟨w.heap.size, 0, none⟩) hlW (.int .i64 0)).setCell (p := ⟨w.heap.size, 1, none⟩) hlW (.slice none 0 0)).setCell (p := ⟨w.heap.size, 2, none⟩) hlW (.slice none 0 0)).setCell (p := ⟨w.heap.size, 3, none⟩) hlW (.slice none 0 0)).setCell (p := ⟨w.heap.size, 4, none⟩) hlW (.slice none 0 0)), hF5⟩
theorem GetSt.grown {X : List Nat} {v0 w0 w w' : World} {bp : Nat} {T : TypeId} {st : Int} {own vals : List Int} {chg : List Bool} {inb : List Ml} {Ao : Option Addr} {co : Nat} {Av : Option Addr} {cv : Nat} {Ac : Option Addr} {cc : Nat} {Ai : Option Addr} {ci no nv nc ni : Nat} (h : GetSt X v0 w0 bp T st own vals chg inb Ao co Av cv Ac cc Ai ci no nv nc ni w) (hb : Below w.heap.size w w') : GetSt X v0 w0 bp T st own vals chg inb Ao co Av cv Ac cc Ai ci no nv nc ni w' :=
  ⟨(hb.block bp (lt_of_block h.hp)).trans h.hp, own_all h.ho hb (Nat.le_refl _), own_all h.hv hb (Nat.le_refl _), own_all h.hc hb (Nat.le_refl _), own_all h.hi hb (Nat.le_refl _), h.kb.below hb h.kb.1, h.bl.trans (hb.mono h.bl.size)⟩
/-- the four rows alone -/
structure Rows4 (B : Nat) (own vals : List Int) (chg : List Bool) (inb : List Ml) (Ao : Option Addr) (co : Nat) (Av : Option Addr) (cv : Nat) (Ac : Option Addr) (cc : Nat) (Ai : Option Addr) (ci no nv nc ni : Nat) (w : World) : Prop where
  ho : w.ownsRow B 3 1 (.slice Ao no co) no (i64s own)
  hv : w.ownsRow B 2 1 (.slice Av nv cv) nv (i64s vals)
  hc : w.ownsRow B 4 1 (.slice Ac nc cc) nc (bools chg)
  hi : w.ownsRow B 61 2 (.slice Ai ni ci) ni (mlFlat inb)
section
variable {B : Nat} {own vals : List Int} {chg : List Bool} {inb : List Ml} {Ao : Option Addr} {co : Nat} {Av : Option Addr} {cv : Nat} {Ac : Option Addr} {cc : Nat} {Ai : Option Addr} {ci no nv nc ni : Nat} {w : World}
theorem rows_of {X : List Nat} {v0 w0 : World} {bp : Nat} {T : TypeId} {st : Int} (h : GetSt X v0 w0 bp T st own vals chg inb Ao co Av cv Ac cc Ai ci no nv nc ni w) : Rows4 v0.heap.size own vals chg inb Ao co Av cv Ac cc Ai ci no nv nc ni w := ⟨h.ho, h.hv, h.hc, h.hi⟩
theorem Rows4.set (h : Rows4 B own vals chg inb Ao co Av cv Ac cc Ai ci no nv nc ni w) {H : Nat} (hH : H < B) (j : Nat) (u : Value) : Rows4 B own vals chg inb Ao co Av cv Ac cc Ai ci no nv nc ni (w.setCell ⟨H, j, none⟩ u) :=
  ⟨ownsRow_setCell_below h.ho (a := ⟨H, j, none⟩) hH u, ownsRow_setCell_below h.hv (a := ⟨H, j, none⟩) hH u, ownsRow_setCell_below h.hc (a := ⟨H, j, none⟩) hH u, ownsRow_setCell_below h.hi (a := ⟨H, j, none⟩) hH u⟩
theorem rows_set (h : Rows4 B own vals chg inb Ao co Av cv Ac cc Ai ci no nv nc ni w) {H : Nat} (hH : H < B) (j : Nat) (u : Value) : Rows4 B own vals chg inb Ao co Av cv Ac cc Ai ci no nv nc ni (w.setCell ⟨H, j, none⟩ u) := h.set hH j u
theorem sin_rows {m : Int} {rs : List VRow} (h : PartsOf rs own vals chg inb) (g : Rows4 B own vals chg inb Ao co Av cv Ac cc Ai ci no nv nc ni w) : SIn w (partOf m rs) Ao Av Ac Ai := by
  obtain ⟨rfl, rfl, rfl, rfl⟩ := h
  exact ⟨Rd.of_own g.ho, Rd.of_own g.hv, Rd.of_own g.hc, Rd.of_own g.hi⟩
end
set_option maxRecDepth 100000 in
set_option maxHeartbeats 16000000 in
theorem sgetN_any (w : World) (A0 : Option Addr) (bs : List UInt8) (L c : Nat) (hL : bs.length = L) (hR : Rd w w.heap.size A0 (u8s bs)) (hl : L ≤ 1000000) :
    Calls Try.prog 16 #[.slice A0 L c] w (GetPostN w (getP bs) (getE bs)) := by
  obtain ⟨a0, a0i, a0z, a0s, a0b⟩ := info_parts (show (Try.prog.info? 3).map (fun i => (i.zero, i.size, i.bytes)) = some (some (.int .i64 0), 1, 8) by kernel_rfl)
  obtain ⟨a1, a1i, a1z, a1s, a1b⟩ := info_parts (show (Try.prog.info? 2).map (fun i => (i.zero, i.size, i.bytes)) = some (some (.int .i64 0), 1, 8) by kernel_rfl)
  obtain ⟨a2, a2i, a2z, a2s, a2b⟩ := info_parts (show (Try.prog.info? 4).map (fun i => (i.zero, i.size, i.bytes)) = some (some (.bool false), 1, 1) by kernel_rfl)
  obtain ⟨a3, a3i, a3z, a3s, a3b⟩ := info_parts (show (Try.prog.info? 61).map (fun i => (i.zero, i.size, i.bytes)) = some (some (.agg #[.bool false, .int .i64 0]), 2, 16) by kernel_rfl)
  obtain ⟨u0, hu0⟩ : ∃ u0, w.alloc (.cells #[.int .i64 0, .slice none 0 0, .slice none 0 0, .slice none 0 0, .slice none 0 0] 27) = u0 := ⟨_, rfl⟩
  have hzu : w.heap.size < u0.heap.size := by rw [← hu0]; simp
  have hbu : Hid (Below w.heap.size w u0) := hide (by rw [← hu0]; exact (Below.refl _ _).alloc (Nat.le_refl _) _)
  have hcu : Hid (u0.heap[w.heap.size]? = some (.cells #[.int .i64 0, .slice none 0 0, .slice none 0 0, .slice none 0 0, .slice none 0 0] 27)) := hide (by rw [← hu0]; exact heap_alloc_last w _)
  have HR0 := hide (hR.next hbu.out)
  have HU := hide hu0
  have HL := hide hL
  clear hu0 hR hL
  go_enter Try.func16, Try.ntmps16
  go_wp2
  refine wp_scope_jumps 0 (GJP A0 L c w bs) (fun _ _ => 0) rfl ?_ ?_
  · go_wp2_with fail
    rw [HU.out]
    have hop := rz.open_any u0 A0 bs c HR0.out (by rw [HL.out]; omega)
    rw [HL.out] at hop
    refine hop.mono ?_
    clear hop
    rintro e w1 ⟨⟨r, rfl, hr0, A, k0, hrz⟩, hb1⟩
    have HRz1 := hide hrz
    have hrl1 := hrz.lt
    have hw1 := hb1.size
    have HB1 := hide (hbu.out.trans (hb1.mono (by omega)))
    have HC1 := hide ((hb1.block w.heap.size hzu).trans hcu.out)
    clear hrz hb1
    go_wp2_with fail
    refine (rz.get32 _ r bs (0, false) HRz1.out).mono ?_
    rintro e w2 ⟨rfl, hr9, hb9⟩
    have hw2 := hb9.size
    have HAb := hide (show u8s bs ≠ [] → ∃ b off, A = some ⟨b, off, none⟩ ∧ b < w2.heap.size from fun hne => by
      obtain ⟨b, off, e, _, hlt, _⟩ := HRz1.out.2.1 hne
      exact ⟨b, off, e, by omega⟩)
    have HRz2 := hide hr9
    have HB2 := hide (HB1.out.trans (hb9.below (by omega) (by omega)))
    have HC2 := hide ((hb9.block w.heap.size (by omega) (by omega)).trans HC1.out)
    clear hr9 hb9
    obtain ⟨m, hm⟩ : ∃ m, rz.num (nx bs (0, false) 4).1 = m := ⟨_, rfl⟩
    have hm32 : m < 4294967296 := by rw [← hm]; exact num_lt_of (k := 4) (rz.nx_len bs (0, false) 4)
    have HM := hide hm
    rw [hm]
    clear hm
    go_upto_region 3 with fail
    obtain ⟨wp, hwp⟩ : ∃ z, w2.alloc (.cells #[.int .i64 (m : Int), .slice none 0 0, .slice none 0 0, .slice none 0 0, .slice none 0 0] 27) = z := ⟨_, rfl⟩
    rw [hwp]
    obtain ⟨bp, hbp⟩ : ∃ z, w2.heap.size = z := ⟨_, rfl⟩
    have hwps : bp < wp.heap.size := by rw [← hwp, ← hbp]; simp
    have HPb : Hid (wp.heap[bp]? = some (.cells #[.int .i64 (m : Int), .slice none 0 0, .slice none 0 0, .slice none 0 0, .slice none 0 0] 27)) := hide (by rw [← hwp, ← hbp]; exact heap_alloc_last _ _)
    have HRzp := hide (by have := HRz2.out.below (show Below w2.heap.size w2 wp by rw [← hwp]; exact (Below.refl _ _).alloc (Nat.le_refl _) _); exact this)
    have HBp : Hid (Below w.heap.size w wp) := hide (by rw [← hwp]; exact HB2.out.alloc HB2.out.size _)
    have HCp := hide ((show wp.heap[w.heap.size]? = w2.heap[w.heap.size]? by rw [← hwp]; exact Below.heap_alloc _ _ _ (by omega)).trans HC2.out)
    rw [hbp] at HAb
    rw [hbp]
    rw [hbp] at hw2
    clear hwp hbp HRz1 HRz2 HB1 HB2 HC1 HC2
    have hwr : w.heap.size ≤ r := by omega
    have hrbp' : r < bp := by omega
    go_wp2_with fail
    refine (rz.get16 _ r bs _ HRzp.out).mono ?_
    rintro e v0 ⟨rfl, hr9, hb9⟩
    have hv0s := hb9.size
    have HRv := hide hr9
    have HBv := hide (HBp.out.trans (hb9.below hwr HBp.out.size))
    have HCv := hide ((hb9.block w.heap.size (by omega) (by omega)).trans HCp.out)
    have HPv := hide ((hb9.block bp hwps (by omega)).trans HPb.out)
    clear hr9 hb9 HRzp HBp HCp HPb
    by_cases h6 : bs.length < 6
    · have HS := hide (nx_two h6)
      have HN := hide (getF_short h6)
      clear h6
      rw [show rz.num (nx bs (nx bs (0, false) 4).2 2).1 = 0 by rw [HS.out]; rfl]
      have hr2 := HRv.out
      rw [HS.out] at hr2
      dsimp only at hr2
      have HR2 := hide hr2
      clear hr2 HRv
      go_wp2
      go_loopw [6] (fun v6 wr => v6 = .int .u16 0 ∧ wr = v0) (fun v6 _ => 0)
      case atStart => exact ⟨rfl, rfl⟩
      case round =>
        obtain ⟨rfl, rfl⟩ := hrel
        obtain ⟨w9, rfl⟩ : ∃ z : World, z = wr := ⟨_, rfl⟩
        go_wp2_with fail
        refine (rz.bad_any _ r bs _ HR2.out).mono ?_
        rintro e w8 ⟨rfl, rfl⟩
        have ZW := HCv
        have HBf := HBv
        have z0 : w9.cell? ⟨w.heap.size, 0, none⟩ = some (.int .i64 0) := cell_of_row _ _ 0 _ _ _ ZW.out
        have zf0 : w9.frozen? ⟨w.heap.size, 0, none⟩ = false := frozen_of_row _ _ 0 _ _ ZW.out
        have z1 : w9.cell? ⟨w.heap.size, 1, none⟩ = some (.slice none 0 0) := cell_of_row _ _ 1 _ _ _ ZW.out
        have zf1 : w9.frozen? ⟨w.heap.size, 1, none⟩ = false := frozen_of_row _ _ 1 _ _ ZW.out
        have z2 : w9.cell? ⟨w.heap.size, 2, none⟩ = some (.slice none 0 0) := cell_of_row _ _ 2 _ _ _ ZW.out
        have zf2 : w9.frozen? ⟨w.heap.size, 2, none⟩ = false := frozen_of_row _ _ 2 _ _ ZW.out
        have z3 : w9.cell? ⟨w.heap.size, 3, none⟩ = some (.slice none 0 0) := cell_of_row _ _ 3 _ _ _ ZW.out
        have zf3 : w9.frozen? ⟨w.heap.size, 3, none⟩ = false := frozen_of_row _ _ 3 _ _ ZW.out
        have z4 : w9.cell? ⟨w.heap.size, 4, none⟩ = some (.slice none 0 0) := cell_of_row _ _ 4 _ _ _ ZW.out
        have zf4 : w9.frozen? ⟨w.heap.size, 4, none⟩ = false := frozen_of_row _ _ 4 _ _ ZW.out
        have HFin := hide (zero_fin ZW.out HBf.out)
        go_wp2
        go_step3
        go_wp2
        obtain ⟨f, hf, hfB, h6⟩ := HFin.out
        rw [hf]
        have y0 : f.cell? ⟨w.heap.size, 0, none⟩ = some (.int .i64 0) := cell_of_row _ _ 0 _ _ _ h6
        have y1 : f.cell? ⟨w.heap.size, 1, none⟩ = some (.slice none 0 0) := cell_of_row _ _ 1 _ _ _ h6
        have y2 : f.cell? ⟨w.heap.size, 2, none⟩ = some (.slice none 0 0) := cell_of_row _ _ 2 _ _ _ h6
        have y3 : f.cell? ⟨w.heap.size, 3, none⟩ = some (.slice none 0 0) := cell_of_row _ _ 3 _ _ _ h6
        have y4 : f.cell? ⟨w.heap.size, 4, none⟩ = some (.slice none 0 0) := cell_of_row _ _ 4 _ _ _ h6
        exact bodyPost_ret (v := .tuple #[.agg #[.int .i64 0, .slice none 0 0, .slice none 0 0, .slice none 0 0, .slice none 0 0], .int .i64 140]) (by simp [results, Try.results16, go_sem, y0, y1, y2, y3, y4]) rfl (get_bad HN.out hfB)
    · have h6' : 6 ≤ bs.length := by omega
      rw [show nx bs (0, false) 4 = _ from nx_ok (n := 4) (by omega)] at HM HRv ⊢
      dsimp only at HM HRv ⊢
      rw [show nx bs (0 + 4, false) 2 = _ from nx_ok (n := 2) (by omega)] at HRv ⊢
      dsimp only at HRv ⊢
      simp only [Nat.zero_add, List.drop_zero] at HM HRv ⊢
      obtain ⟨n, hn⟩ : ∃ n, rz.num ((bs.drop 4).take 2) = n := ⟨_, rfl⟩
      have hn16 : n < 65536 := by rw [← hn]; exact num_lt_of (k := 2) (by rw [List.length_take]; omega)
      have HNn := hide hn
      rw [hn]
      clear hn h6
      have HLies : Hid (Lies v0 bp r A bs) := hide (fun hne => by
      obtain ⟨b, off, e, g1, g2, g3⟩ := HRv.out.2.1 hne
      obtain ⟨b9, o9, e9, l9⟩ := HAb.out hne
      rw [e] at e9
      injection e9 with e9
      injection e9 with e91 e92
      subst e91
      exact ⟨b, off, e, g1, by omega, g2, g3⟩)
      have hk01 := HRv.out.2.2.1
      have hk02 := HRv.out.2.2.2.1
      have HGo := hide (Going.start n h6')
      have G0 : Hid (GetSt [bp, r] v0 w bp 27 (m : Int) [] [] [] [] none 0 none 0 none 0 none 0 0 0 0 0 v0) := hide ⟨HPv.out, World.ownsRow_nil _ _ _ _, World.ownsRow_nil _ _ _ _, World.ownsRow_nil _ _ _ _, World.ownsRow_nil _ _ _ _, KB.refl _ _, HBv.out⟩
      have RC0 : Hid (v0.heap[r]? = some (.cells #[.slice A bs.length k0, .int .i64 ((6 : Nat) : Int), .bool false] 101)) := hide HRv.out.1
      have HH6 := hide h6'
      have hHv : w.heap.size < v0.heap.size := by omega
      have hHX : w.heap.size ∉ [bp, r] := by simp; omega
      have HHX := hide hHX
      have HZ0 := HCv
      have hrv : r < v0.heap.size := by omega
      have hbv : bp < v0.heap.size := by omega
      have hne : bp ≠ r := by omega
      have hrbp : r ≠ bp := by omega
      have hwbp : w.heap.size ≤ bp := by omega
      have hwv : w.heap.size ≤ v0.heap.size := by omega
      clear HRv HPv HBv h6' hHX
      go_wp2
      go_loopw [6] (fun v6 wr => ∃ (k j s : Nat) (rs : List VRow) (own vals : List Int) (chg : List Bool) (inb : List Ml) (Ao : Option Addr) (co : Nat) (Av : Option Addr) (cv : Nat) (Ac : Option Addr) (cc : Nat) (Ai : Option Addr) (ci : Nat), j + k = n ∧ v6 = .int .u16 (j : Int) ∧ Hid (Going bs n k s rs) ∧ Hid (PartsOf rs own vals chg inb) ∧ Hid (GetSt [bp, r] v0 w bp 27 (m : Int) own vals chg inb Ao co Av cv Ac cc Ai ci k k k k wr) ∧ Hid (wr.heap[r]? = some (.cells #[.slice A bs.length k0, .int .i64 (s : Int), .bool false] 101))) (fun v6 _ => (intOf v6).toNat)
      case atStart => exact ⟨0, n, 6, [], [], [], [], [], none, 0, none, 0, none, 0, none, 0, by omega, rfl, HGo, hide ⟨rfl, rfl, rfl, rfl⟩, G0, RC0⟩
      case round =>
        clear HGo G0 RC0
        obtain ⟨k, j, s, rs, own, vals, chg, inb, Ao, co, Av, cv, Ac, cc, Ai, ci, hjk, rfl, HG, HPO, GR, RC⟩ := hrel
        have hsb := HG.out.2.2.1
        have srw : v0.heap.size ≤ wr.heap.size := GR.out.kb.1
        by_cases hj : 0 < j
        · obtain ⟨j, rfl⟩ : ∃ z, j = z + 1 := ⟨j - 1, by omega⟩
          have hkn : k < n := by omega
          have Rw := hide (rz_of HLies.out GR.out.kb RC.out hk01 hk02 hsb)
          have hHX := HHX.out
          by_cases h11 : bs.length < s + 11
          · have HT := hide (nx_three (s := s) h11)
            have HNone := hide (getF_none HNn.out (HG.out.none_ hkn (by unfold rowP; rw [if_pos (by rw [List.length_drop]; omega)])))
            go_wp2_with fail
            refine (rz.get16 _ r bs (s, false) Rw.out).mono ?_
            rintro e z1 ⟨rfl, hr9, hb9⟩
            have R_z1 := hide hr9
            have G_z1 := hide (GR.out.besides hb9 (by simp) hrv hne hwr)
            have s_z1 : v0.heap.size ≤ z1.heap.size := G_z1.out.kb.1
            have B_z1 := hide hb9
            clear hr9 hb9
            clear Rw
            go_wp2_with fail
            refine (rz.get64 _ r bs _ R_z1.out).mono ?_
            rintro e z2 ⟨rfl, hr9, hb9⟩
            have R_z2 := hide hr9
            have G_z2 := hide (G_z1.out.besides hb9 (by simp) hrv hne hwr)
            have s_z2 : v0.heap.size ≤ z2.heap.size := G_z2.out.kb.1
            have B_z2 := hide hb9
            clear hr9 hb9
            go_wp2_with fail
            refine (rz.get8 _ r bs _ R_z2.out).mono ?_
            rintro e z3 ⟨rfl, hr9, hb9⟩
            have R_z3 := hide hr9
            have G_z3 := hide (G_z2.out.besides hb9 (by simp) hrv hne hwr)
            have s_z3 : v0.heap.size ≤ z3.heap.size := G_z3.out.kb.1
            have B_z3 := hide hb9
            clear hr9 hb9
            have hr3 := R_z3.out
            rw [HT.out] at hr3 ⊢
            dsimp only at hr3 ⊢
            have HR3 := hide hr3
            clear hr3 R_z1 R_z2 R_z3 G_z1 G_z2 B_z1 B_z2 B_z3 RC GR
            rw [show rz.num [] = 0 from rfl]
            have GA := hide (G_z3.out.alloc (.cells #[.bool false, .int .i64 0] 61))
            have HR3a := hide (HR3.out.below ((Below.refl z3.heap.size z3).alloc (Nat.le_refl _) (.cells #[.bool false, .int .i64 0] 61)))
            go_wp2_with fail
            refine (rz.bad_any _ r bs _ HR3a.out).mono ?_
            rintro e w9 ⟨rfl, rfl⟩
            go_wp2
            go_step3
            exact ⟨rfl, GJP.mk rfl (hide ((GA.out.kb.2 _ hHv hHX).trans HZ0.out)) (hide GA.out.bl) HNone⟩
          · have h11' : s + 11 ≤ bs.length := by omega
            clear h11
            have E1 := hide (show nx bs (s, false) 2 = _ from nx_ok (n := 2) (by omega))
            have E2 := hide (show nx bs (s + 2, false) 8 = _ from nx_ok (n := 8) (by omega))
            have E3 := hide (show nx bs (s + 2 + 8, false) 1 = _ from nx_ok (n := 1) (by omega))
            go_wp2_with fail
            refine (rz.get16 _ r bs (s, false) Rw.out).mono ?_
            rintro e z1 ⟨rfl, hr9, hb9⟩
            have R_z1 := hide hr9
            have G_z1 := hide (GR.out.besides hb9 (by simp) hrv hne hwr)
            have s_z1 : v0.heap.size ≤ z1.heap.size := G_z1.out.kb.1
            have B_z1 := hide hb9
            clear hr9 hb9
            rw [E1.out] at R_z1 ⊢
            dsimp only at R_z1 ⊢
            obtain ⟨v, hv⟩ : ∃ v, rz.num ((bs.drop s).take 2) = v := ⟨_, rfl⟩
            have hv16 : v < 65536 := by rw [← hv]; exact num_lt_of (k := 2) (by rw [List.length_take]; omega)
            have HV := hide hv
            rw [hv]
            clear hv B_z1 Rw
            go_wp2_with fail
            refine (rz.get64 _ r bs (s + 2, false) R_z1.out).mono ?_
            rintro e z2 ⟨rfl, hr9, hb9⟩
            have R_z2 := hide hr9
            have G_z2 := hide (G_z1.out.besides hb9 (by simp) hrv hne hwr)
            have s_z2 : v0.heap.size ≤ z2.heap.size := G_z2.out.kb.1
            have B_z2 := hide hb9
            clear hr9 hb9
            rw [E2.out] at R_z2 ⊢
            dsimp only at R_z2 ⊢
            obtain ⟨x, hx⟩ : ∃ x, rz.num ((bs.drop (s + 2)).take 8) = x := ⟨_, rfl⟩
            have HX := hide (show rz.num (((bs.drop s).drop 2).take 8) = x by rw [List.drop_drop]; exact hx)
            rw [hx]
            clear hx B_z2 R_z1 G_z1
            go_wp2_with fail
            refine (rz.get8 _ r bs (s + 2 + 8, false) R_z2.out).mono ?_
            rintro e z3 ⟨rfl, hr9, hb9⟩
            have R_z3 := hide hr9
            have G_z3 := hide (G_z2.out.besides hb9 (by simp) hrv hne hwr)
            have s_z3 : v0.heap.size ≤ z3.heap.size := G_z3.out.kb.1
            have B_z3 := hide hb9
            clear hr9 hb9
            rw [E3.out] at R_z3 ⊢
            dsimp only at R_z3 ⊢
            obtain ⟨cb, hc⟩ : ∃ c, rz.num ((bs.drop (s + 2 + 8)).take 1) = c := ⟨_, rfl⟩
            have HC := hide (show rz.num (((bs.drop s).drop 10).take 1) = cb by rw [List.drop_drop]; exact hc)
            have hc8 : cb < 256 := by rw [← hc]; exact num_lt_of (k := 1) (by rw [List.length_take]; omega)
            rw [hc]
            clear hc B_z3 R_z2 G_z2 E1 E2 E3 RC GR
            rw [show s + 2 + 8 + 1 = s + 11 by omega] at R_z3
            have hba := bits_and_small cb 2 hc8 (by decide)
            rw [and_two] at hba
            obtain ⟨bm, hbm⟩ : ∃ z, z3.heap.size = z := ⟨_, rfl⟩
            have HLO := hide (fun g hg => (G_z3.out.ho.lt g hg).2)
            have HLV := hide (fun g hg => (G_z3.out.hv.lt g hg).2)
            have HLC := hide (fun g hg => (G_z3.out.hc.lt g hg).2)
            have HLI := hide (fun g hg => (G_z3.out.hi.lt g hg).2)
            have hlen := List.length_drop (i := s) (l := bs)
            have HLen := hide hlen
            clear hlen
            by_cases hcb : 3 < cb
            · have hcb' : (3 : Int) < (cb : Int) := by omega
              have HNone := hide (getF_none HNn.out (HG.out.none_ hkn (rowP_big HC.out hcb)))
              by_cases hq : cb % 4 < 2
              · have hb2 : bits .and .u8 (cb : Int) 2 = 0 := by rw [if_pos (by omega)] at hba; exact hba
                clear hba
                have GA := hide (G_z3.out.alloc (.cells #[.bool false, .int .i64 0] 61))
                have RA := hide (R_z3.out.below ((Below.refl z3.heap.size z3).alloc (Nat.le_refl _) (.cells #[.bool false, .int .i64 0] 61)))
                have MA := hide (heap_alloc_last z3 (.cells #[.bool false, .int .i64 0] 61))
                obtain ⟨za, hza⟩ : ∃ z, z3.alloc (.cells #[.bool false, .int .i64 0] 61) = z := ⟨_, rfl⟩
                rw [hza] at GA RA MA
                have hzas : bm < za.heap.size := by rw [← hza, ← hbm]; simp
                have HZA := hide hza
                rw [hbm] at MA HLO HLV HLC HLI s_z3
                have HBM := hide hbm
                clear hza hbm G_z3 R_z3
                go_upto_region 8 with fail
                rw [HZA.out, HBM.out]
                have hbmbp : bm ≠ bp := by omega
                have hbmr : bm ≠ r := by omega
                have n0 : za.cell? ⟨bm, 0, none⟩ = some (.bool false) := cell_of_row _ _ 0 _ _ _ MA.out
                go_wp2_with fail
                refine (rz.bad_any _ r bs (s + 11, false) RA.out).mono ?_
                rintro e w9 ⟨rfl, rfl⟩
                go_wp2
                go_step3
                exact ⟨rfl, GJP.mk rfl (hide ((GA.out.kb.2 _ hHv hHX).trans HZ0.out)) (hide GA.out.bl) HNone⟩
              · have hb2 : bits .and .u8 (cb : Int) 2 = 2 := by rw [if_neg (by omega)] at hba; exact hba
                clear hba
                have GA := hide (G_z3.out.alloc (.cells #[.bool true, .int .i64 0] 61))
                have RA := hide (R_z3.out.below ((Below.refl z3.heap.size z3).alloc (Nat.le_refl _) (.cells #[.bool true, .int .i64 0] 61)))
                have MA := hide (heap_alloc_last z3 (.cells #[.bool true, .int .i64 0] 61))
                obtain ⟨za, hza⟩ : ∃ z, z3.alloc (.cells #[.bool true, .int .i64 0] 61) = z := ⟨_, rfl⟩
                rw [hza] at GA RA MA
                have hzas : bm < za.heap.size := by rw [← hza, ← hbm]; simp
                have HZA := hide hza
                rw [hbm] at MA HLO HLV HLC HLI s_z3
                have HBM := hide hbm
                clear hza hbm G_z3 R_z3
                go_upto_region 8 with fail
                rw [HZA.out, HBM.out]
                have hbmbp : bm ≠ bp := by omega
                have hbmr : bm ≠ r := by omega
                have n0 : za.cell? ⟨bm, 0, none⟩ = some (.bool true) := cell_of_row _ _ 0 _ _ _ MA.out
                go_wp2_with fail
                refine (rz.get64 _ r bs (s + 11, false) RA.out).mono ?_
                rintro e z4 ⟨rfl, hr9, hb9⟩
                have R4 := hide hr9
                have G4 := hide (GA.out.besides hb9 (by simp) hrv hne hwr)
                have M4 := hide ((hb9.block bm hzas hbmr).trans MA.out)
                have s_z4 : v0.heap.size ≤ z4.heap.size := G4.out.kb.1
                have n0 : z4.cell? ⟨bm, 0, none⟩ = some (.bool true) := cell_of_row _ _ 0 _ _ _ M4.out
                have n1 : z4.cell? ⟨bm, 1, none⟩ = some (.int .i64 0) := cell_of_row _ _ 1 _ _ _ M4.out
                have nf1 : z4.frozen? ⟨bm, 1, none⟩ = false := frozen_of_row _ _ 1 _ _ M4.out
                have ln4 := lt_of_block M4.out
                clear hr9 hb9
                obtain ⟨y, hy⟩ : ∃ y, rz.num (nx bs (s + 11, false) 8).1 = y := ⟨_, rfl⟩
                rw [hy]
                obtain ⟨st4, hst4⟩ : ∃ z, (nx bs (s + 11, false) 8).2 = z := ⟨_, rfl⟩
                rw [hst4] at R4
                clear hst4 hy
                have hR4b := R4.out
                obtain ⟨wq, hwq⟩ : ∃ z, z4.setCell ⟨bm, 1, none⟩ (.int .i64 (wrap64 (y : Int))) = z := ⟨_, rfl⟩
                have G5 := hide (G4.out.far ⟨bm, 1, none⟩ (.int .i64 (wrap64 (y : Int))) (by show _ ≤ bm; omega) hbv (by show _ ≤ bm; omega) (fun g hg => by have := HLO.out g hg; show g ≠ bm; omega) (fun g hg => by have := HLV.out g hg; show g ≠ bm; omega) (fun g hg => by have := HLC.out g hg; show g ≠ bm; omega) (fun g hg => by have := HLI.out g hg; show g ≠ bm; omega))
                have M5 := hide (heap_setCell_same z4 bm 1 _ _ (.int .i64 (wrap64 (y : Int))) M4.out)
                have RC5 := hide ((Below.heap_setCell z4 ⟨bm, 1, none⟩ (.int .i64 (wrap64 (y : Int))) r (fun e => hbmr e.symm)).trans R4.out.1)
                rw [hwq] at G5 M5 RC5
                have HWQ := hide hwq
                clear hwq M4 G4 R4
                have R5 := hide (rz_of2 (s := st4) HLies.out G5.out.kb RC5.out hk01 hk02 hR4b.2.2.2.2)
                go_upto_region 10 with fail
                rw [HWQ.out]
                clear hR4b n0 n1 nf1
                go_wp2_with fail
                refine (rz.bad_any _ r bs st4 R5.out).mono ?_
                rintro e w9 ⟨rfl, rfl⟩
                obtain ⟨sa, sb⟩ := st4
                dsimp only at R5 ⊢
                rcases sb with _ | _
                · go_wp2
                  go_step3
                  exact ⟨rfl, GJP.mk rfl (hide ((G5.out.kb.2 _ hHv hHX).trans HZ0.out)) (hide G5.out.bl) HNone⟩
                · go_wp2
                  go_step3
                  exact ⟨rfl, GJP.mk rfl (hide ((G5.out.kb.2 _ hHv hHX).trans HZ0.out)) (hide G5.out.bl) HNone⟩
            · have hcb' : cb ≤ 3 := by omega
              by_cases hq : cb < 2
              · have hb2 : bits .and .u8 (cb : Int) 2 = 0 := by rw [if_pos (by omega)] at hba; exact hba
                clear hba
                rcases (show cb % 2 = 0 ∨ cb % 2 = 1 by omega) with hpar | hpar
                · have HRow := hide (rowP_bare (by rw [HLen.out]; omega) HV.out HX.out HC.out hq (by simp; omega) : rowP (bs.drop s) = some (((v : Int), s64 x, false, (false, 0)), (bs.drop s).drop 11))
                  have hb1 : bits .and .u8 (cb : Int) 1 = 0 := by have h := bits_and_small cb 1 hc8 (by decide); rw [and_one] at h; rw [show (1 : Int) = ((1 : Nat) : Int) from rfl, h]; omega
                  have GA := hide (G_z3.out.alloc (.cells #[.bool false, .int .i64 0] 61))
                  have RA := hide (R_z3.out.below ((Below.refl z3.heap.size z3).alloc (Nat.le_refl _) (.cells #[.bool false, .int .i64 0] 61)))
                  have MA := hide (heap_alloc_last z3 (.cells #[.bool false, .int .i64 0] 61))
                  obtain ⟨za, hza⟩ : ∃ z, z3.alloc (.cells #[.bool false, .int .i64 0] 61) = z := ⟨_, rfl⟩
                  rw [hza] at GA RA MA
                  have hzas : bm < za.heap.size := by rw [← hza, ← hbm]; simp
                  have HZA := hide hza
                  rw [hbm] at MA HLO HLV HLC HLI s_z3
                  have HBM := hide hbm
                  clear hza hbm G_z3 R_z3
                  go_upto_region 8 with fail
                  rw [HZA.out, HBM.out]
                  have hbmbp : bm ≠ bp := by omega
                  have hbmr : bm ≠ r := by omega
                  have n0 : za.cell? ⟨bm, 0, none⟩ = some (.bool false) := cell_of_row _ _ 0 _ _ _ MA.out
                  go_wp2_with fail
                  refine (rz.bad_any _ r bs (s + 11, false) RA.out).mono ?_
                  rintro e w9 ⟨rfl, rfl⟩
                  obtain ⟨wq, rfl⟩ : ∃ z : World, z = za := ⟨_, rfl⟩
                  have BM := MA
                  have RC := hide RA.out.1
                  have G0 := GA
                  have HE3 : Hid True := hide trivial
                  clear n0 MA RA GA
                  dsimp only at RC
                  have p1 : wq.cell? ⟨bp, 1, none⟩ = some (.slice Ao k co) := cell_of_row _ _ 1 _ _ _ G0.out.hp
                  have lbp := lt_of_block G0.out.hp
                  have sz0 : v0.heap.size ≤ wq.heap.size := G0.out.kb.1
                  go_wp2_with (at_builtin; refine wpList_app rfl (.tmp 46) (.tmp 49) 22 rfl v0.heap.size 3 a0 (.int .i64 0) 1 8 Try.underlying22 a0i a0z a0s a0b rfl (by decide) (.slice Ao k co) k _ rfl (G0.out.ho.alloc _) (wq.heap.size + 1) (some ⟨wq.heap.size, 0, none⟩) 1 1 [.int .i64 (v : Int)] rfl rfl (Rd.new _ _ _ _) (by simp [Value.oneCell']) (by unfold maxLen; omega) (by omega) (by simp; omega) ?_)
                  intro A0' c0' y0 own0 hg0 hat0
                  have AP := G0.out.appOwn (x := (v : Int)) hbv (by simp) hwbp hwv own0 hg0
                  have q1 : y0.cell? ⟨bp, 1, none⟩ = some (.slice Ao k co) := cell_of_row _ _ 1 _ _ _ AP.1
                  have qf1 : y0.frozen? ⟨bp, 1, none⟩ = false := frozen_of_row _ _ 1 _ _ AP.1
                  have BM1 := hide ((Below.heap_setCell _ ⟨bp, 1, none⟩ (.slice A0' (k + 1) c0') bm hbmbp).trans ((hg0.block bm (by have := lt_of_block BM.out; simp; omega) (fun e => own_ne (G0.out.ho) BM.out (by decide) bm e.symm rfl)).trans ((Below.heap_alloc _ _ _ (lt_of_block BM.out)).trans BM.out)))
                  have RC1 := hide ((Below.heap_setCell _ ⟨bp, 1, none⟩ (.slice A0' (k + 1) c0') r hrbp).trans ((hg0.block r (by simp; omega) (fun e => by have := (G0.out.ho.lt r e.symm).1; omega)).trans ((Below.heap_alloc _ _ _ (by omega)).trans RC.out)))
                  obtain ⟨wa1, hwa1⟩ : ∃ z, y0.setCell ⟨bp, 1, none⟩ (.slice A0' (k + 1) c0') = z := ⟨_, rfl⟩
                  have G1 := hide AP.2
                  rw [hwa1] at G1 BM1 RC1
                  have HE0 := hide hwa1
                  clear AP own0 hg0 hat0 hwa1 p1 lbp BM RC G0
                  have BM := BM1
                  have RC := RC1
                  clear BM1 RC1
                  go_upto_region 12 with fail
                  rw [HE0.out]
                  clear HE0 q1 qf1
                  have p2 : wa1.cell? ⟨bp, 2, none⟩ = some (.slice Av k cv) := cell_of_row _ _ 2 _ _ _ G1.out.hp
                  have lbp := lt_of_block G1.out.hp
                  have sz1 : v0.heap.size ≤ wa1.heap.size := G1.out.kb.1
                  go_wp2_with (at_builtin; refine wpList_app rfl (.tmp 53) (.tmp 56) 23 rfl v0.heap.size 2 a1 (.int .i64 0) 1 8 Try.underlying23 a1i a1z a1s a1b rfl (by decide) (.slice Av k cv) k _ rfl (G1.out.hv.alloc _) (wa1.heap.size + 1) (some ⟨wa1.heap.size, 0, none⟩) 1 1 [.int .i64 (wrap64 (x : Int))] rfl rfl (Rd.new _ _ _ _) (by simp [Value.oneCell']) (by unfold maxLen; omega) (by omega) (by simp; omega) ?_)
                  intro A1' c1' y1 own1 hg1 hat1
                  have AP := G1.out.appVals (x := (s64 x)) hbv (by simp) hwbp hwv own1 hg1
                  have q2 : y1.cell? ⟨bp, 2, none⟩ = some (.slice Av k cv) := cell_of_row _ _ 2 _ _ _ AP.1
                  have qf2 : y1.frozen? ⟨bp, 2, none⟩ = false := frozen_of_row _ _ 2 _ _ AP.1
                  have BM1 := hide ((Below.heap_setCell _ ⟨bp, 2, none⟩ (.slice A1' (k + 1) c1') bm hbmbp).trans ((hg1.block bm (by have := lt_of_block BM.out; simp; omega) (fun e => own_ne (G1.out.hv) BM.out (by decide) bm e.symm rfl)).trans ((Below.heap_alloc _ _ _ (lt_of_block BM.out)).trans BM.out)))
                  have RC1 := hide ((Below.heap_setCell _ ⟨bp, 2, none⟩ (.slice A1' (k + 1) c1') r hrbp).trans ((hg1.block r (by simp; omega) (fun e => by have := (G1.out.hv.lt r e.symm).1; omega)).trans ((Below.heap_alloc _ _ _ (by omega)).trans RC.out)))
                  obtain ⟨wa2, hwa2⟩ : ∃ z, y1.setCell ⟨bp, 2, none⟩ (.slice A1' (k + 1) c1') = z := ⟨_, rfl⟩
                  have G2 := hide AP.2
                  rw [hwa2] at G2 BM1 RC1
                  have HE1 := hide hwa2
                  clear AP own1 hg1 hat1 hwa2 p2 lbp BM RC G1
                  have BM := BM1
                  have RC := RC1
                  clear BM1 RC1
                  go_upto_region 13 with fail
                  rw [HE1.out]
                  clear HE1 q2 qf2
                  have p3 : wa2.cell? ⟨bp, 3, none⟩ = some (.slice Ac k cc) := cell_of_row _ _ 3 _ _ _ G2.out.hp
                  have lbp := lt_of_block G2.out.hp
                  have sz2 : v0.heap.size ≤ wa2.heap.size := G2.out.kb.1
                  go_wp2_with (at_builtin; refine wpList_app rfl (.tmp 60) (.tmp 64) 24 rfl v0.heap.size 4 a2 (.bool false) 1 1 Try.underlying24 a2i a2z a2s a2b rfl (by decide) (.slice Ac k cc) k _ rfl (G2.out.hc.alloc _) (wa2.heap.size + 1) (some ⟨wa2.heap.size, 0, none⟩) 1 1 [.bool false] rfl rfl (Rd.new _ _ _ _) (by simp [Value.oneCell']) (by unfold maxLen; omega) (by omega) (by simp; omega) ?_)
                  intro A2' c2' y2 own2 hg2 hat2
                  have AP := G2.out.appChg (x := false) hbv (by simp) hwbp hwv own2 hg2
                  have q3 : y2.cell? ⟨bp, 3, none⟩ = some (.slice Ac k cc) := cell_of_row _ _ 3 _ _ _ AP.1
                  have qf3 : y2.frozen? ⟨bp, 3, none⟩ = false := frozen_of_row _ _ 3 _ _ AP.1
                  have BM1 := hide ((Below.heap_setCell _ ⟨bp, 3, none⟩ (.slice A2' (k + 1) c2') bm hbmbp).trans ((hg2.block bm (by have := lt_of_block BM.out; simp; omega) (fun e => own_ne (G2.out.hc) BM.out (by decide) bm e.symm rfl)).trans ((Below.heap_alloc _ _ _ (lt_of_block BM.out)).trans BM.out)))
                  have RC1 := hide ((Below.heap_setCell _ ⟨bp, 3, none⟩ (.slice A2' (k + 1) c2') r hrbp).trans ((hg2.block r (by simp; omega) (fun e => by have := (G2.out.hc.lt r e.symm).1; omega)).trans ((Below.heap_alloc _ _ _ (by omega)).trans RC.out)))
                  obtain ⟨wa3, hwa3⟩ : ∃ z, y2.setCell ⟨bp, 3, none⟩ (.slice A2' (k + 1) c2') = z := ⟨_, rfl⟩
                  have G3 := hide AP.2
                  rw [hwa3] at G3 BM1 RC1
                  have HE2 := hide hwa3
                  clear AP own2 hg2 hat2 hwa3 p3 lbp BM RC G2
                  have BM := BM1
                  have RC := RC1
                  clear BM1 RC1
                  go_upto_region 14 with fail
                  rw [HE2.out]
                  clear HE2 q3 qf3
                  have p4 : wa3.cell? ⟨bp, 4, none⟩ = some (.slice Ai k ci) := cell_of_row _ _ 4 _ _ _ G3.out.hp
                  have n0 : wa3.cell? ⟨bm, 0, none⟩ = some (.bool false) := cell_of_row _ _ 0 _ _ _ BM.out
                  have n1 : wa3.cell? ⟨bm, 1, none⟩ = some (.int .i64 0) := cell_of_row _ _ 1 _ _ _ BM.out
                  have ln := lt_of_block BM.out
                  have lbp := lt_of_block G3.out.hp
                  have sz3 : v0.heap.size ≤ wa3.heap.size := G3.out.kb.1
                  go_wp2_with (at_builtin; refine wpList_app rfl (.tmp 68) (.tmp 70) 25 rfl v0.heap.size 61 a3 (.agg #[.bool false, .int .i64 0]) 2 16 Try.underlying25 a3i a3z a3s a3b rfl (by decide) (.slice Ai k ci) k _ rfl (G3.out.hi.alloc _) (wa3.heap.size + 1) (some ⟨wa3.heap.size, 0, none⟩) 1 1 [.bool false, .int .i64 0] rfl rfl (Rd.new _ _ _ _) (by simp [Value.oneCell']) (by unfold maxLen; omega) (by omega) (by simp; omega) ?_)
                  intro A3' c3' y3 own3 hg3 hat3
                  have AP := G3.out.appInb (x := (false, 0)) hbv (by simp) hwbp hwv own3 hg3
                  have q4 : y3.cell? ⟨bp, 4, none⟩ = some (.slice Ai k ci) := cell_of_row _ _ 4 _ _ _ AP.1
                  have qf4 : y3.frozen? ⟨bp, 4, none⟩ = false := frozen_of_row _ _ 4 _ _ AP.1
                  have BM1 := hide ((Below.heap_setCell _ ⟨bp, 4, none⟩ (.slice A3' (k + 1) c3') bm hbmbp).trans ((hg3.block bm (by have := lt_of_block BM.out; simp; omega) (fun e => by have := HLI.out bm e.symm; omega)).trans ((Below.heap_alloc _ _ _ (lt_of_block BM.out)).trans BM.out)))
                  have RC1 := hide ((Below.heap_setCell _ ⟨bp, 4, none⟩ (.slice A3' (k + 1) c3') r hrbp).trans ((hg3.block r (by simp; omega) (fun e => by have := (G3.out.hi.lt r e.symm).1; omega)).trans ((Below.heap_alloc _ _ _ (by omega)).trans RC.out)))
                  obtain ⟨wa4, hwa4⟩ : ∃ z, y3.setCell ⟨bp, 4, none⟩ (.slice A3' (k + 1) c3') = z := ⟨_, rfl⟩
                  have G4 := hide AP.2
                  rw [hwa4] at G4 BM1 RC1
                  have HE3 := hide hwa4
                  clear AP own3 hg3 hat3 hwa4 p4 lbp BM RC G3 n0 n1 ln
                  have BM := BM1
                  have RC := RC1
                  clear BM1 RC1
                  have HG2 := hide (HG.out.step (d := 11) (r := ((v : Int), s64 x, false, (false, 0))) hkn (by omega) HRow.out)
                  have HPO2 := hide (HPO.out.snoc (v : Int) (s64 x) false (false, 0))
                  skip
                  have RCf := RC
                  have Gf := G4
                  clear BM
                  go_wp2
                  first | rw [HE3.out] | skip
                  go_roundw
                  case rel => exact ⟨k + 1, j, s + 11, _, _, _, _, _, A0', c0', A1', c1', A2', c2', A3', c3', by omega, by first | rfl | go_num | (congr 1; omega), HG2, HPO2, Gf, RCf⟩
                  case measure => simp [intOf]
                · have HRow := hide (rowP_bare (by rw [HLen.out]; omega) HV.out HX.out HC.out hq (by simp; omega) : rowP (bs.drop s) = some (((v : Int), s64 x, true, (false, 0)), (bs.drop s).drop 11))
                  have hb1 : bits .and .u8 (cb : Int) 1 = 1 := by have h := bits_and_small cb 1 hc8 (by decide); rw [and_one] at h; rw [show (1 : Int) = ((1 : Nat) : Int) from rfl, h]; omega
                  have GA := hide (G_z3.out.alloc (.cells #[.bool false, .int .i64 0] 61))
                  have RA := hide (R_z3.out.below ((Below.refl z3.heap.size z3).alloc (Nat.le_refl _) (.cells #[.bool false, .int .i64 0] 61)))
                  have MA := hide (heap_alloc_last z3 (.cells #[.bool false, .int .i64 0] 61))
                  obtain ⟨za, hza⟩ : ∃ z, z3.alloc (.cells #[.bool false, .int .i64 0] 61) = z := ⟨_, rfl⟩
                  rw [hza] at GA RA MA
                  have hzas : bm < za.heap.size := by rw [← hza, ← hbm]; simp
                  have HZA := hide hza
                  rw [hbm] at MA HLO HLV HLC HLI s_z3
                  have HBM := hide hbm
                  clear hza hbm G_z3 R_z3
                  go_upto_region 8 with fail
                  rw [HZA.out, HBM.out]
                  have hbmbp : bm ≠ bp := by omega
                  have hbmr : bm ≠ r := by omega
                  have n0 : za.cell? ⟨bm, 0, none⟩ = some (.bool false) := cell_of_row _ _ 0 _ _ _ MA.out
                  go_wp2_with fail
                  refine (rz.bad_any _ r bs (s + 11, false) RA.out).mono ?_
                  rintro e w9 ⟨rfl, rfl⟩
                  obtain ⟨wq, rfl⟩ : ∃ z : World, z = za := ⟨_, rfl⟩
                  have BM := MA
                  have RC := hide RA.out.1
                  have G0 := GA
                  have HE3 : Hid True := hide trivial
                  clear n0 MA RA GA
                  dsimp only at RC
                  have p1 : wq.cell? ⟨bp, 1, none⟩ = some (.slice Ao k co) := cell_of_row _ _ 1 _ _ _ G0.out.hp
                  have lbp := lt_of_block G0.out.hp
                  have sz0 : v0.heap.size ≤ wq.heap.size := G0.out.kb.1
                  go_wp2_with (at_builtin; refine wpList_app rfl (.tmp 46) (.tmp 49) 22 rfl v0.heap.size 3 a0 (.int .i64 0) 1 8 Try.underlying22 a0i a0z a0s a0b rfl (by decide) (.slice Ao k co) k _ rfl (G0.out.ho.alloc _) (wq.heap.size + 1) (some ⟨wq.heap.size, 0, none⟩) 1 1 [.int .i64 (v : Int)] rfl rfl (Rd.new _ _ _ _) (by simp [Value.oneCell']) (by unfold maxLen; omega) (by omega) (by simp; omega) ?_)
                  intro A0' c0' y0 own0 hg0 hat0
                  have AP := G0.out.appOwn (x := (v : Int)) hbv (by simp) hwbp hwv own0 hg0
                  have q1 : y0.cell? ⟨bp, 1, none⟩ = some (.slice Ao k co) := cell_of_row _ _ 1 _ _ _ AP.1
                  have qf1 : y0.frozen? ⟨bp, 1, none⟩ = false := frozen_of_row _ _ 1 _ _ AP.1
                  have BM1 := hide ((Below.heap_setCell _ ⟨bp, 1, none⟩ (.slice A0' (k + 1) c0') bm hbmbp).trans ((hg0.block bm (by have := lt_of_block BM.out; simp; omega) (fun e => own_ne (G0.out.ho) BM.out (by decide) bm e.symm rfl)).trans ((Below.heap_alloc _ _ _ (lt_of_block BM.out)).trans BM.out)))
                  have RC1 := hide ((Below.heap_setCell _ ⟨bp, 1, none⟩ (.slice A0' (k + 1) c0') r hrbp).trans ((hg0.block r (by simp; omega) (fun e => by have := (G0.out.ho.lt r e.symm).1; omega)).trans ((Below.heap_alloc _ _ _ (by omega)).trans RC.out)))
                  obtain ⟨wa1, hwa1⟩ : ∃ z, y0.setCell ⟨bp, 1, none⟩ (.slice A0' (k + 1) c0') = z := ⟨_, rfl⟩
                  have G1 := hide AP.2
                  rw [hwa1] at G1 BM1 RC1
                  have HE0 := hide hwa1
                  clear AP own0 hg0 hat0 hwa1 p1 lbp BM RC G0
                  have BM := BM1
                  have RC := RC1
                  clear BM1 RC1
                  go_upto_region 12 with fail
                  rw [HE0.out]
                  clear HE0 q1 qf1
                  have p2 : wa1.cell? ⟨bp, 2, none⟩ = some (.slice Av k cv) := cell_of_row _ _ 2 _ _ _ G1.out.hp
                  have lbp := lt_of_block G1.out.hp
                  have sz1 : v0.heap.size ≤ wa1.heap.size := G1.out.kb.1
                  go_wp2_with (at_builtin; refine wpList_app rfl (.tmp 53) (.tmp 56) 23 rfl v0.heap.size 2 a1 (.int .i64 0) 1 8 Try.underlying23 a1i a1z a1s a1b rfl (by decide) (.slice Av k cv) k _ rfl (G1.out.hv.alloc _) (wa1.heap.size + 1) (some ⟨wa1.heap.size, 0, none⟩) 1 1 [.int .i64 (wrap64 (x : Int))] rfl rfl (Rd.new _ _ _ _) (by simp [Value.oneCell']) (by unfold maxLen; omega) (by omega) (by simp; omega) ?_)
                  intro A1' c1' y1 own1 hg1 hat1
                  have AP := G1.out.appVals (x := (s64 x)) hbv (by simp) hwbp hwv own1 hg1
                  have q2 : y1.cell? ⟨bp, 2, none⟩ = some (.slice Av k cv) := cell_of_row _ _ 2 _ _ _ AP.1
                  have qf2 : y1.frozen? ⟨bp, 2, none⟩ = false := frozen_of_row _ _ 2 _ _ AP.1
                  have BM1 := hide ((Below.heap_setCell _ ⟨bp, 2, none⟩ (.slice A1' (k + 1) c1') bm hbmbp).trans ((hg1.block bm (by have := lt_of_block BM.out; simp; omega) (fun e => own_ne (G1.out.hv) BM.out (by decide) bm e.symm rfl)).trans ((Below.heap_alloc _ _ _ (lt_of_block BM.out)).trans BM.out)))
                  have RC1 := hide ((Below.heap_setCell _ ⟨bp, 2, none⟩ (.slice A1' (k + 1) c1') r hrbp).trans ((hg1.block r (by simp; omega) (fun e => by have := (G1.out.hv.lt r e.symm).1; omega)).trans ((Below.heap_alloc _ _ _ (by omega)).trans RC.out)))
                  obtain ⟨wa2, hwa2⟩ : ∃ z, y1.setCell ⟨bp, 2, none⟩ (.slice A1' (k + 1) c1') = z := ⟨_, rfl⟩
                  have G2 := hide AP.2
                  rw [hwa2] at G2 BM1 RC1
                  have HE1 := hide hwa2
                  clear AP own1 hg1 hat1 hwa2 p2 lbp BM RC G1
                  have BM := BM1
                  have RC := RC1
                  clear BM1 RC1
                  go_upto_region 13 with fail
                  rw [HE1.out]
                  clear HE1 q2 qf2
                  have p3 : wa2.cell? ⟨bp, 3, none⟩ = some (.slice Ac k cc) := cell_of_row _ _ 3 _ _ _ G2.out.hp
                  have lbp := lt_of_block G2.out.hp
                  have sz2 : v0.heap.size ≤ wa2.heap.size := G2.out.kb.1
                  go_wp2_with (at_builtin; refine wpList_app rfl (.tmp 60) (.tmp 64) 24 rfl v0.heap.size 4 a2 (.bool false) 1 1 Try.underlying24 a2i a2z a2s a2b rfl (by decide) (.slice Ac k cc) k _ rfl (G2.out.hc.alloc _) (wa2.heap.size + 1) (some ⟨wa2.heap.size, 0, none⟩) 1 1 [.bool true] rfl rfl (Rd.new _ _ _ _) (by simp [Value.oneCell']) (by unfold maxLen; omega) (by omega) (by simp; omega) ?_)
                  intro A2' c2' y2 own2 hg2 hat2
                  have AP := G2.out.appChg (x := true) hbv (by simp) hwbp hwv own2 hg2
                  have q3 : y2.cell? ⟨bp, 3, none⟩ = some (.slice Ac k cc) := cell_of_row _ _ 3 _ _ _ AP.1
                  have qf3 : y2.frozen? ⟨bp, 3, none⟩ = false := frozen_of_row _ _ 3 _ _ AP.1
                  have BM1 := hide ((Below.heap_setCell _ ⟨bp, 3, none⟩ (.slice A2' (k + 1) c2') bm hbmbp).trans ((hg2.block bm (by have := lt_of_block BM.out; simp; omega) (fun e => own_ne (G2.out.hc) BM.out (by decide) bm e.symm rfl)).trans ((Below.heap_alloc _ _ _ (lt_of_block BM.out)).trans BM.out)))
                  have RC1 := hide ((Below.heap_setCell _ ⟨bp, 3, none⟩ (.slice A2' (k + 1) c2') r hrbp).trans ((hg2.block r (by simp; omega) (fun e => by have := (G2.out.hc.lt r e.symm).1; omega)).trans ((Below.heap_alloc _ _ _ (by omega)).trans RC.out)))
                  obtain ⟨wa3, hwa3⟩ : ∃ z, y2.setCell ⟨bp, 3, none⟩ (.slice A2' (k + 1) c2') = z := ⟨_, rfl⟩
                  have G3 := hide AP.2
                  rw [hwa3] at G3 BM1 RC1
                  have HE2 := hide hwa3
                  clear AP own2 hg2 hat2 hwa3 p3 lbp BM RC G2
                  have BM := BM1
                  have RC := RC1
                  clear BM1 RC1
                  go_upto_region 14 with fail
                  rw [HE2.out]
                  clear HE2 q3 qf3
                  have p4 : wa3.cell? ⟨bp, 4, none⟩ = some (.slice Ai k ci) := cell_of_row _ _ 4 _ _ _ G3.out.hp
                  have n0 : wa3.cell? ⟨bm, 0, none⟩ = some (.bool false) := cell_of_row _ _ 0 _ _ _ BM.out
                  have n1 : wa3.cell? ⟨bm, 1, none⟩ = some (.int .i64 0) := cell_of_row _ _ 1 _ _ _ BM.out
                  have ln := lt_of_block BM.out
                  have lbp := lt_of_block G3.out.hp
                  have sz3 : v0.heap.size ≤ wa3.heap.size := G3.out.kb.1
                  go_wp2_with (at_builtin; refine wpList_app rfl (.tmp 68) (.tmp 70) 25 rfl v0.heap.size 61 a3 (.agg #[.bool false, .int .i64 0]) 2 16 Try.underlying25 a3i a3z a3s a3b rfl (by decide) (.slice Ai k ci) k _ rfl (G3.out.hi.alloc _) (wa3.heap.size + 1) (some ⟨wa3.heap.size, 0, none⟩) 1 1 [.bool false, .int .i64 0] rfl rfl (Rd.new _ _ _ _) (by simp [Value.oneCell']) (by unfold maxLen; omega) (by omega) (by simp; omega) ?_)
                  intro A3' c3' y3 own3 hg3 hat3
                  have AP := G3.out.appInb (x := (false, 0)) hbv (by simp) hwbp hwv own3 hg3
                  have q4 : y3.cell? ⟨bp, 4, none⟩ = some (.slice Ai k ci) := cell_of_row _ _ 4 _ _ _ AP.1
                  have qf4 : y3.frozen? ⟨bp, 4, none⟩ = false := frozen_of_row _ _ 4 _ _ AP.1
                  have BM1 := hide ((Below.heap_setCell _ ⟨bp, 4, none⟩ (.slice A3' (k + 1) c3') bm hbmbp).trans ((hg3.block bm (by have := lt_of_block BM.out; simp; omega) (fun e => by have := HLI.out bm e.symm; omega)).trans ((Below.heap_alloc _ _ _ (lt_of_block BM.out)).trans BM.out)))
                  have RC1 := hide ((Below.heap_setCell _ ⟨bp, 4, none⟩ (.slice A3' (k + 1) c3') r hrbp).trans ((hg3.block r (by simp; omega) (fun e => by have := (G3.out.hi.lt r e.symm).1; omega)).trans ((Below.heap_alloc _ _ _ (by omega)).trans RC.out)))
                  obtain ⟨wa4, hwa4⟩ : ∃ z, y3.setCell ⟨bp, 4, none⟩ (.slice A3' (k + 1) c3') = z := ⟨_, rfl⟩
                  have G4 := hide AP.2
                  rw [hwa4] at G4 BM1 RC1
                  have HE3 := hide hwa4
                  clear AP own3 hg3 hat3 hwa4 p4 lbp BM RC G3 n0 n1 ln
                  have BM := BM1
                  have RC := RC1
                  clear BM1 RC1
                  have HG2 := hide (HG.out.step (d := 11) (r := ((v : Int), s64 x, true, (false, 0))) hkn (by omega) HRow.out)
                  have HPO2 := hide (HPO.out.snoc (v : Int) (s64 x) true (false, 0))
                  skip
                  have RCf := RC
                  have Gf := G4
                  clear BM
                  go_wp2
                  first | rw [HE3.out] | skip
                  go_roundw
                  case rel => exact ⟨k + 1, j, s + 11, _, _, _, _, _, A0', c0', A1', c1', A2', c2', A3', c3', by omega, by first | rfl | go_num | (congr 1; omega), HG2, HPO2, Gf, RCf⟩
                  case measure => simp [intOf]
              · have hb2 : bits .and .u8 (cb : Int) 2 = 2 := by rw [if_neg (by omega)] at hba; exact hba
                clear hba
                have GA := hide (G_z3.out.alloc (.cells #[.bool true, .int .i64 0] 61))
                have RA := hide (R_z3.out.below ((Below.refl z3.heap.size z3).alloc (Nat.le_refl _) (.cells #[.bool true, .int .i64 0] 61)))
                have MA := hide (heap_alloc_last z3 (.cells #[.bool true, .int .i64 0] 61))
                obtain ⟨za, hza⟩ : ∃ z, z3.alloc (.cells #[.bool true, .int .i64 0] 61) = z := ⟨_, rfl⟩
                rw [hza] at GA RA MA
                have hzas : bm < za.heap.size := by rw [← hza, ← hbm]; simp
                have HZA := hide hza
                rw [hbm] at MA HLO HLV HLC HLI s_z3
                have HBM := hide hbm
                clear hza hbm G_z3 R_z3
                go_upto_region 8 with fail
                rw [HZA.out, HBM.out]
                have hbmbp : bm ≠ bp := by omega
                have hbmr : bm ≠ r := by omega
                have n0 : za.cell? ⟨bm, 0, none⟩ = some (.bool true) := cell_of_row _ _ 0 _ _ _ MA.out
                go_wp2_with fail
                refine (rz.get64 _ r bs (s + 11, false) RA.out).mono ?_
                rintro e z4 ⟨rfl, hr9, hb9⟩
                have R4 := hide hr9
                have G4 := hide (GA.out.besides hb9 (by simp) hrv hne hwr)
                have M4 := hide ((hb9.block bm hzas hbmr).trans MA.out)
                have s_z4 : v0.heap.size ≤ z4.heap.size := G4.out.kb.1
                have n0 : z4.cell? ⟨bm, 0, none⟩ = some (.bool true) := cell_of_row _ _ 0 _ _ _ M4.out
                have n1 : z4.cell? ⟨bm, 1, none⟩ = some (.int .i64 0) := cell_of_row _ _ 1 _ _ _ M4.out
                have nf1 : z4.frozen? ⟨bm, 1, none⟩ = false := frozen_of_row _ _ 1 _ _ M4.out
                have ln4 := lt_of_block M4.out
                clear hr9 hb9
                by_cases h19 : bs.length < s + 19
                · have hst := hide (show (nx bs (s + 11, false) 8).2 = (bs.length, true) by rw [show nx bs (s + 11, false) 8 = _ from nx_bad (n := 8) (.inr (by dsimp only; omega))])
                  have HNone := hide (getF_none HNn.out (HG.out.none_ hkn (rowP_cut HC.out (by omega) (by rw [HLen.out]; omega))))
                  obtain ⟨y, hy⟩ : ∃ y, rz.num (nx bs (s + 11, false) 8).1 = y := ⟨_, rfl⟩
                  rw [hy]
                  rw [hst.out] at R4
                  clear hst hy
                  have hR4b := R4.out
                  obtain ⟨wq, hwq⟩ : ∃ z, z4.setCell ⟨bm, 1, none⟩ (.int .i64 (wrap64 (y : Int))) = z := ⟨_, rfl⟩
                  have G5 := hide (G4.out.far ⟨bm, 1, none⟩ (.int .i64 (wrap64 (y : Int))) (by show _ ≤ bm; omega) hbv (by show _ ≤ bm; omega) (fun g hg => by have := HLO.out g hg; show g ≠ bm; omega) (fun g hg => by have := HLV.out g hg; show g ≠ bm; omega) (fun g hg => by have := HLC.out g hg; show g ≠ bm; omega) (fun g hg => by have := HLI.out g hg; show g ≠ bm; omega))
                  have M5 := hide (heap_setCell_same z4 bm 1 _ _ (.int .i64 (wrap64 (y : Int))) M4.out)
                  have RC5 := hide ((Below.heap_setCell z4 ⟨bm, 1, none⟩ (.int .i64 (wrap64 (y : Int))) r (fun e => hbmr e.symm)).trans R4.out.1)
                  rw [hwq] at G5 M5 RC5
                  have HWQ := hide hwq
                  clear hwq M4 G4 R4
                  have R5 := hide (rz_of2 (s := (bs.length, true)) HLies.out G5.out.kb RC5.out hk01 hk02 (Nat.le_refl _))
                  go_upto_region 10 with fail
                  rw [HWQ.out]
                  clear hR4b n0 n1 nf1
                  go_wp2_with fail
                  refine (rz.bad_any _ r bs (bs.length, true) R5.out).mono ?_
                  rintro e w9 ⟨rfl, rfl⟩
                  go_wp2
                  go_step3
                  exact ⟨rfl, GJP.mk rfl (hide ((G5.out.kb.2 _ hHv hHX).trans HZ0.out)) (hide G5.out.bl) HNone⟩
                · have h19' : s + 19 ≤ bs.length := by omega
                  have E4 := hide (show nx bs (s + 11, false) 8 = _ from nx_ok (n := 8) (by omega))
                  rw [E4.out] at R4 ⊢
                  dsimp only at R4 ⊢
                  obtain ⟨y, hy⟩ : ∃ y, rz.num ((bs.drop (s + 11)).take 8) = y := ⟨_, rfl⟩
                  have HY := hide (show rz.num (((bs.drop s).drop 11).take 8) = y by rw [List.drop_drop]; exact hy)
                  rw [hy]
                  rw [show s + 11 + 8 = s + 19 by omega] at R4
                  clear hy E4
                  have hR4b := R4.out
                  obtain ⟨wq, hwq⟩ : ∃ z, z4.setCell ⟨bm, 1, none⟩ (.int .i64 (wrap64 (y : Int))) = z := ⟨_, rfl⟩
                  have G5 := hide (G4.out.far ⟨bm, 1, none⟩ (.int .i64 (wrap64 (y : Int))) (by show _ ≤ bm; omega) hbv (by show _ ≤ bm; omega) (fun g hg => by have := HLO.out g hg; show g ≠ bm; omega) (fun g hg => by have := HLV.out g hg; show g ≠ bm; omega) (fun g hg => by have := HLC.out g hg; show g ≠ bm; omega) (fun g hg => by have := HLI.out g hg; show g ≠ bm; omega))
                  have M5 := hide (heap_setCell_same z4 bm 1 _ _ (.int .i64 (wrap64 (y : Int))) M4.out)
                  have RC5 := hide ((Below.heap_setCell z4 ⟨bm, 1, none⟩ (.int .i64 (wrap64 (y : Int))) r (fun e => hbmr e.symm)).trans R4.out.1)
                  rw [hwq] at G5 M5 RC5
                  have HWQ := hide hwq
                  clear hwq M4 G4 R4
                  have R5 := hide (rz_of2 (s := (s + 19, false)) HLies.out G5.out.kb RC5.out hk01 hk02 h19')
                  go_upto_region 10 with fail
                  rw [HWQ.out]
                  clear hR4b n0 n1 nf1
                  go_wp2_with fail
                  refine (rz.bad_any _ r bs (s + 19, false) R5.out).mono ?_
                  rintro e w9 ⟨rfl, rfl⟩
                  obtain ⟨wq, rfl⟩ : ∃ z : World, z = wq := ⟨_, rfl⟩
                  clear HWQ
                  rcases (show cb % 2 = 0 ∨ cb % 2 = 1 by omega) with hpar | hpar
                  · have HRow := hide (rowP_mail (by rw [HLen.out]; omega) HV.out HX.out HC.out (by omega) (by omega) HY.out (by simp; omega) : rowP (bs.drop s) = some (((v : Int), s64 x, false, (true, s64 y)), (bs.drop s).drop 19))
                    have hb1 : bits .and .u8 (cb : Int) 1 = 0 := by have h := bits_and_small cb 1 hc8 (by decide); rw [and_one] at h; rw [show (1 : Int) = ((1 : Nat) : Int) from rfl, h]; omega
                    have BM := M5
                    have RC := RC5
                    have G0 := G5
                    have HE3 : Hid True := hide trivial
                    clear M5 RC5 G5
                    have p1 : wq.cell? ⟨bp, 1, none⟩ = some (.slice Ao k co) := cell_of_row _ _ 1 _ _ _ G0.out.hp
                    have lbp := lt_of_block G0.out.hp
                    have sz0 : v0.heap.size ≤ wq.heap.size := G0.out.kb.1
                    go_wp2_with (at_builtin; refine wpList_app rfl (.tmp 46) (.tmp 49) 22 rfl v0.heap.size 3 a0 (.int .i64 0) 1 8 Try.underlying22 a0i a0z a0s a0b rfl (by decide) (.slice Ao k co) k _ rfl (G0.out.ho.alloc _) (wq.heap.size + 1) (some ⟨wq.heap.size, 0, none⟩) 1 1 [.int .i64 (v : Int)] rfl rfl (Rd.new _ _ _ _) (by simp [Value.oneCell']) (by unfold maxLen; omega) (by omega) (by simp; omega) ?_)
                    intro A0' c0' y0 own0 hg0 hat0
                    have AP := G0.out.appOwn (x := (v : Int)) hbv (by simp) hwbp hwv own0 hg0
                    have q1 : y0.cell? ⟨bp, 1, none⟩ = some (.slice Ao k co) := cell_of_row _ _ 1 _ _ _ AP.1
                    have qf1 : y0.frozen? ⟨bp, 1, none⟩ = false := frozen_of_row _ _ 1 _ _ AP.1
                    have BM1 := hide ((Below.heap_setCell _ ⟨bp, 1, none⟩ (.slice A0' (k + 1) c0') bm hbmbp).trans ((hg0.block bm (by have := lt_of_block BM.out; simp; omega) (fun e => own_ne (G0.out.ho) BM.out (by decide) bm e.symm rfl)).trans ((Below.heap_alloc _ _ _ (lt_of_block BM.out)).trans BM.out)))
                    have RC1 := hide ((Below.heap_setCell _ ⟨bp, 1, none⟩ (.slice A0' (k + 1) c0') r hrbp).trans ((hg0.block r (by simp; omega) (fun e => by have := (G0.out.ho.lt r e.symm).1; omega)).trans ((Below.heap_alloc _ _ _ (by omega)).trans RC.out)))
                    obtain ⟨wa1, hwa1⟩ : ∃ z, y0.setCell ⟨bp, 1, none⟩ (.slice A0' (k + 1) c0') = z := ⟨_, rfl⟩
                    have G1 := hide AP.2
                    rw [hwa1] at G1 BM1 RC1
                    have HE0 := hide hwa1
                    clear AP own0 hg0 hat0 hwa1 p1 lbp BM RC G0
                    have BM := BM1
                    have RC := RC1
                    clear BM1 RC1
                    go_upto_region 12 with fail
                    rw [HE0.out]
                    clear HE0 q1 qf1
                    have p2 : wa1.cell? ⟨bp, 2, none⟩ = some (.slice Av k cv) := cell_of_row _ _ 2 _ _ _ G1.out.hp
                    have lbp := lt_of_block G1.out.hp
                    have sz1 : v0.heap.size ≤ wa1.heap.size := G1.out.kb.1
                    go_wp2_with (at_builtin; refine wpList_app rfl (.tmp 53) (.tmp 56) 23 rfl v0.heap.size 2 a1 (.int .i64 0) 1 8 Try.underlying23 a1i a1z a1s a1b rfl (by decide) (.slice Av k cv) k _ rfl (G1.out.hv.alloc _) (wa1.heap.size + 1) (some ⟨wa1.heap.size, 0, none⟩) 1 1 [.int .i64 (wrap64 (x : Int))] rfl rfl (Rd.new _ _ _ _) (by simp [Value.oneCell']) (by unfold maxLen; omega) (by omega) (by simp; omega) ?_)
                    intro A1' c1' y1 own1 hg1 hat1
                    have AP := G1.out.appVals (x := (s64 x)) hbv (by simp) hwbp hwv own1 hg1
                    have q2 : y1.cell? ⟨bp, 2, none⟩ = some (.slice Av k cv) := cell_of_row _ _ 2 _ _ _ AP.1
                    have qf2 : y1.frozen? ⟨bp, 2, none⟩ = false := frozen_of_row _ _ 2 _ _ AP.1
                    have BM1 := hide ((Below.heap_setCell _ ⟨bp, 2, none⟩ (.slice A1' (k + 1) c1') bm hbmbp).trans ((hg1.block bm (by have := lt_of_block BM.out; simp; omega) (fun e => own_ne (G1.out.hv) BM.out (by decide) bm e.symm rfl)).trans ((Below.heap_alloc _ _ _ (lt_of_block BM.out)).trans BM.out)))
                    have RC1 := hide ((Below.heap_setCell _ ⟨bp, 2, none⟩ (.slice A1' (k + 1) c1') r hrbp).trans ((hg1.block r (by simp; omega) (fun e => by have := (G1.out.hv.lt r e.symm).1; omega)).trans ((Below.heap_alloc _ _ _ (by omega)).trans RC.out)))
                    obtain ⟨wa2, hwa2⟩ : ∃ z, y1.setCell ⟨bp, 2, none⟩ (.slice A1' (k + 1) c1') = z := ⟨_, rfl⟩
                    have G2 := hide AP.2
                    rw [hwa2] at G2 BM1 RC1
                    have HE1 := hide hwa2
                    clear AP own1 hg1 hat1 hwa2 p2 lbp BM RC G1
                    have BM := BM1
                    have RC := RC1
                    clear BM1 RC1
                    go_upto_region 13 with fail
                    rw [HE1.out]
                    clear HE1 q2 qf2
                    have p3 : wa2.cell? ⟨bp, 3, none⟩ = some (.slice Ac k cc) := cell_of_row _ _ 3 _ _ _ G2.out.hp
                    have lbp := lt_of_block G2.out.hp
                    have sz2 : v0.heap.size ≤ wa2.heap.size := G2.out.kb.1
                    go_wp2_with (at_builtin; refine wpList_app rfl (.tmp 60) (.tmp 64) 24 rfl v0.heap.size 4 a2 (.bool false) 1 1 Try.underlying24 a2i a2z a2s a2b rfl (by decide) (.slice Ac k cc) k _ rfl (G2.out.hc.alloc _) (wa2.heap.size + 1) (some ⟨wa2.heap.size, 0, none⟩) 1 1 [.bool false] rfl rfl (Rd.new _ _ _ _) (by simp [Value.oneCell']) (by unfold maxLen; omega) (by omega) (by simp; omega) ?_)
                    intro A2' c2' y2 own2 hg2 hat2
                    have AP := G2.out.appChg (x := false) hbv (by simp) hwbp hwv own2 hg2
                    have q3 : y2.cell? ⟨bp, 3, none⟩ = some (.slice Ac k cc) := cell_of_row _ _ 3 _ _ _ AP.1
                    have qf3 : y2.frozen? ⟨bp, 3, none⟩ = false := frozen_of_row _ _ 3 _ _ AP.1
                    have BM1 := hide ((Below.heap_setCell _ ⟨bp, 3, none⟩ (.slice A2' (k + 1) c2') bm hbmbp).trans ((hg2.block bm (by have := lt_of_block BM.out; simp; omega) (fun e => own_ne (G2.out.hc) BM.out (by decide) bm e.symm rfl)).trans ((Below.heap_alloc _ _ _ (lt_of_block BM.out)).trans BM.out)))
                    have RC1 := hide ((Below.heap_setCell _ ⟨bp, 3, none⟩ (.slice A2' (k + 1) c2') r hrbp).trans ((hg2.block r (by simp; omega) (fun e => by have := (G2.out.hc.lt r e.symm).1; omega)).trans ((Below.heap_alloc _ _ _ (by omega)).trans RC.out)))
                    obtain ⟨wa3, hwa3⟩ : ∃ z, y2.setCell ⟨bp, 3, none⟩ (.slice A2' (k + 1) c2') = z := ⟨_, rfl⟩
                    have G3 := hide AP.2
                    rw [hwa3] at G3 BM1 RC1
                    have HE2 := hide hwa3
                    clear AP own2 hg2 hat2 hwa3 p3 lbp BM RC G2
                    have BM := BM1
                    have RC := RC1
                    clear BM1 RC1
                    go_upto_region 14 with fail
                    rw [HE2.out]
                    clear HE2 q3 qf3
                    have p4 : wa3.cell? ⟨bp, 4, none⟩ = some (.slice Ai k ci) := cell_of_row _ _ 4 _ _ _ G3.out.hp
                    have n0 : wa3.cell? ⟨bm, 0, none⟩ = some (.bool true) := cell_of_row _ _ 0 _ _ _ BM.out
                    have n1 : wa3.cell? ⟨bm, 1, none⟩ = some (.int .i64 (wrap64 (y : Int))) := cell_of_row _ _ 1 _ _ _ BM.out
                    have ln := lt_of_block BM.out
                    have lbp := lt_of_block G3.out.hp
                    have sz3 : v0.heap.size ≤ wa3.heap.size := G3.out.kb.1
                    go_wp2_with (at_builtin; refine wpList_app rfl (.tmp 68) (.tmp 70) 25 rfl v0.heap.size 61 a3 (.agg #[.bool false, .int .i64 0]) 2 16 Try.underlying25 a3i a3z a3s a3b rfl (by decide) (.slice Ai k ci) k _ rfl (G3.out.hi.alloc _) (wa3.heap.size + 1) (some ⟨wa3.heap.size, 0, none⟩) 1 1 [.bool true, .int .i64 (wrap64 (y : Int))] rfl rfl (Rd.new _ _ _ _) (by simp [Value.oneCell']) (by unfold maxLen; omega) (by omega) (by simp; omega) ?_)
                    intro A3' c3' y3 own3 hg3 hat3
                    have AP := G3.out.appInb (x := (true, s64 y)) hbv (by simp) hwbp hwv own3 hg3
                    have q4 : y3.cell? ⟨bp, 4, none⟩ = some (.slice Ai k ci) := cell_of_row _ _ 4 _ _ _ AP.1
                    have qf4 : y3.frozen? ⟨bp, 4, none⟩ = false := frozen_of_row _ _ 4 _ _ AP.1
                    have BM1 := hide ((Below.heap_setCell _ ⟨bp, 4, none⟩ (.slice A3' (k + 1) c3') bm hbmbp).trans ((hg3.block bm (by have := lt_of_block BM.out; simp; omega) (fun e => by have := HLI.out bm e.symm; omega)).trans ((Below.heap_alloc _ _ _ (lt_of_block BM.out)).trans BM.out)))
                    have RC1 := hide ((Below.heap_setCell _ ⟨bp, 4, none⟩ (.slice A3' (k + 1) c3') r hrbp).trans ((hg3.block r (by simp; omega) (fun e => by have := (G3.out.hi.lt r e.symm).1; omega)).trans ((Below.heap_alloc _ _ _ (by omega)).trans RC.out)))
                    obtain ⟨wa4, hwa4⟩ : ∃ z, y3.setCell ⟨bp, 4, none⟩ (.slice A3' (k + 1) c3') = z := ⟨_, rfl⟩
                    have G4 := hide AP.2
                    rw [hwa4] at G4 BM1 RC1
                    have HE3 := hide hwa4
                    clear AP own3 hg3 hat3 hwa4 p4 lbp BM RC G3 n0 n1 ln
                    have BM := BM1
                    have RC := RC1
                    clear BM1 RC1
                    have HG2 := hide (HG.out.step (d := 19) (r := ((v : Int), s64 x, false, (true, s64 y))) hkn (by omega) HRow.out)
                    have HPO2 := hide (HPO.out.snoc (v : Int) (s64 x) false (true, s64 y))
                    skip
                    have RCf := RC
                    have Gf := G4
                    clear BM
                    go_wp2
                    first | rw [HE3.out] | skip
                    go_roundw
                    case rel => exact ⟨k + 1, j, s + 19, _, _, _, _, _, A0', c0', A1', c1', A2', c2', A3', c3', by omega, by first | rfl | go_num | (congr 1; omega), HG2, HPO2, Gf, RCf⟩
                    case measure => simp [intOf]
                  · have HRow := hide (rowP_mail (by rw [HLen.out]; omega) HV.out HX.out HC.out (by omega) (by omega) HY.out (by simp; omega) : rowP (bs.drop s) = some (((v : Int), s64 x, true, (true, s64 y)), (bs.drop s).drop 19))
                    have hb1 : bits .and .u8 (cb : Int) 1 = 1 := by have h := bits_and_small cb 1 hc8 (by decide); rw [and_one] at h; rw [show (1 : Int) = ((1 : Nat) : Int) from rfl, h]; omega
                    have BM := M5
                    have RC := RC5
                    have G0 := G5
                    have HE3 : Hid True := hide trivial
                    clear M5 RC5 G5
                    have p1 : wq.cell? ⟨bp, 1, none⟩ = some (.slice Ao k co) := cell_of_row _ _ 1 _ _ _ G0.out.hp
                    have lbp := lt_of_block G0.out.hp
                    have sz0 : v0.heap.size ≤ wq.heap.size := G0.out.kb.1
                    go_wp2_with (at_builtin; refine wpList_app rfl (.tmp 46) (.tmp 49) 22 rfl v0.heap.size 3 a0 (.int .i64 0) 1 8 Try.underlying22 a0i a0z a0s a0b rfl (by decide) (.slice Ao k co) k _ rfl (G0.out.ho.alloc _) (wq.heap.size + 1) (some ⟨wq.heap.size, 0, none⟩) 1 1 [.int .i64 (v : Int)] rfl rfl (Rd.new _ _ _ _) (by simp [Value.oneCell']) (by unfold maxLen; omega) (by omega) (by simp; omega) ?_)
                    intro A0' c0' y0 own0 hg0 hat0
                    have AP := G0.out.appOwn (x := (v : Int)) hbv (by simp) hwbp hwv own0 hg0
                    have q1 : y0.cell? ⟨bp, 1, none⟩ = some (.slice Ao k co) := cell_of_row _ _ 1 _ _ _ AP.1
                    have qf1 : y0.frozen? ⟨bp, 1, none⟩ = false := frozen_of_row _ _ 1 _ _ AP.1
                    have BM1 := hide ((Below.heap_setCell _ ⟨bp, 1, none⟩ (.slice A0' (k + 1) c0') bm hbmbp).trans ((hg0.block bm (by have := lt_of_block BM.out; simp; omega) (fun e => own_ne (G0.out.ho) BM.out (by decide) bm e.symm rfl)).trans ((Below.heap_alloc _ _ _ (lt_of_block BM.out)).trans BM.out)))
                    have RC1 := hide ((Below.heap_setCell _ ⟨bp, 1, none⟩ (.slice A0' (k + 1) c0') r hrbp).trans ((hg0.block r (by simp; omega) (fun e => by have := (G0.out.ho.lt r e.symm).1; omega)).trans ((Below.heap_alloc _ _ _ (by omega)).trans RC.out)))
                    obtain ⟨wa1, hwa1⟩ : ∃ z, y0.setCell ⟨bp, 1, none⟩ (.slice A0' (k + 1) c0') = z := ⟨_, rfl⟩
                    have G1 := hide AP.2
                    rw [hwa1] at G1 BM1 RC1
                    have HE0 := hide hwa1
                    clear AP own0 hg0 hat0 hwa1 p1 lbp BM RC G0
                    have BM := BM1
                    have RC := RC1
                    clear BM1 RC1
                    go_upto_region 12 with fail
                    rw [HE0.out]
                    clear HE0 q1 qf1
                    have p2 : wa1.cell? ⟨bp, 2, none⟩ = some (.slice Av k cv) := cell_of_row _ _ 2 _ _ _ G1.out.hp
                    have lbp := lt_of_block G1.out.hp
                    have sz1 : v0.heap.size ≤ wa1.heap.size := G1.out.kb.1
                    go_wp2_with (at_builtin; refine wpList_app rfl (.tmp 53) (.tmp 56) 23 rfl v0.heap.size 2 a1 (.int .i64 0) 1 8 Try.underlying23 a1i a1z a1s a1b rfl (by decide) (.slice Av k cv) k _ rfl (G1.out.hv.alloc _) (wa1.heap.size + 1) (some ⟨wa1.heap.size, 0, none⟩) 1 1 [.int .i64 (wrap64 (x : Int))] rfl rfl (Rd.new _ _ _ _) (by simp [Value.oneCell']) (by unfold maxLen; omega) (by omega) (by simp; omega) ?_)
                    intro A1' c1' y1 own1 hg1 hat1
                    have AP := G1.out.appVals (x := (s64 x)) hbv (by simp) hwbp hwv own1 hg1
                    have q2 : y1.cell? ⟨bp, 2, none⟩ = some (.slice Av k cv) := cell_of_row _ _ 2 _ _ _ AP.1
                    have qf2 : y1.frozen? ⟨bp, 2, none⟩ = false := frozen_of_row _ _ 2 _ _ AP.1
                    have BM1 := hide ((Below.heap_setCell _ ⟨bp, 2, none⟩ (.slice A1' (k + 1) c1') bm hbmbp).trans ((hg1.block bm (by have := lt_of_block BM.out; simp; omega) (fun e => own_ne (G1.out.hv) BM.out (by decide) bm e.symm rfl)).trans ((Below.heap_alloc _ _ _ (lt_of_block BM.out)).trans BM.out)))
                    have RC1 := hide ((Below.heap_setCell _ ⟨bp, 2, none⟩ (.slice A1' (k + 1) c1') r hrbp).trans ((hg1.block r (by simp; omega) (fun e => by have := (G1.out.hv.lt r e.symm).1; omega)).trans ((Below.heap_alloc _ _ _ (by omega)).trans RC.out)))
                    obtain ⟨wa2, hwa2⟩ : ∃ z, y1.setCell ⟨bp, 2, none⟩ (.slice A1' (k + 1) c1') = z := ⟨_, rfl⟩
                    have G2 := hide AP.2
                    rw [hwa2] at G2 BM1 RC1
                    have HE1 := hide hwa2
                    clear AP own1 hg1 hat1 hwa2 p2 lbp BM RC G1
                    have BM := BM1
                    have RC := RC1
                    clear BM1 RC1
                    go_upto_region 13 with fail
                    rw [HE1.out]
                    clear HE1 q2 qf2
                    have p3 : wa2.cell? ⟨bp, 3, none⟩ = some (.slice Ac k cc) := cell_of_row _ _ 3 _ _ _ G2.out.hp
                    have lbp := lt_of_block G2.out.hp
                    have sz2 : v0.heap.size ≤ wa2.heap.size := G2.out.kb.1
                    go_wp2_with (at_builtin; refine wpList_app rfl (.tmp 60) (.tmp 64) 24 rfl v0.heap.size 4 a2 (.bool false) 1 1 Try.underlying24 a2i a2z a2s a2b rfl (by decide) (.slice Ac k cc) k _ rfl (G2.out.hc.alloc _) (wa2.heap.size + 1) (some ⟨wa2.heap.size, 0, none⟩) 1 1 [.bool true] rfl rfl (Rd.new _ _ _ _) (by simp [Value.oneCell']) (by unfold maxLen; omega) (by omega) (by simp; omega) ?_)
                    intro A2' c2' y2 own2 hg2 hat2
                    have AP := G2.out.appChg (x := true) hbv (by simp) hwbp hwv own2 hg2
                    have q3 : y2.cell? ⟨bp, 3, none⟩ = some (.slice Ac k cc) := cell_of_row _ _ 3 _ _ _ AP.1
                    have qf3 : y2.frozen? ⟨bp, 3, none⟩ = false := frozen_of_row _ _ 3 _ _ AP.1
                    have BM1 := hide ((Below.heap_setCell _ ⟨bp, 3, none⟩ (.slice A2' (k + 1) c2') bm hbmbp).trans ((hg2.block bm (by have := lt_of_block BM.out; simp; omega) (fun e => own_ne (G2.out.hc) BM.out (by decide) bm e.symm rfl)).trans ((Below.heap_alloc _ _ _ (lt_of_block BM.out)).trans BM.out)))
                    have RC1 := hide ((Below.heap_setCell _ ⟨bp, 3, none⟩ (.slice A2' (k + 1) c2') r hrbp).trans ((hg2.block r (by simp; omega) (fun e => by have := (G2.out.hc.lt r e.symm).1; omega)).trans ((Below.heap_alloc _ _ _ (by omega)).trans RC.out)))
                    obtain ⟨wa3, hwa3⟩ : ∃ z, y2.setCell ⟨bp, 3, none⟩ (.slice A2' (k + 1) c2') = z := ⟨_, rfl⟩
                    have G3 := hide AP.2
                    rw [hwa3] at G3 BM1 RC1
                    have HE2 := hide hwa3
                    clear AP own2 hg2 hat2 hwa3 p3 lbp BM RC G2
                    have BM := BM1
                    have RC := RC1
                    clear BM1 RC1
                    go_upto_region 14 with fail
                    rw [HE2.out]
                    clear HE2 q3 qf3
                    have p4 : wa3.cell? ⟨bp, 4, none⟩ = some (.slice Ai k ci) := cell_of_row _ _ 4 _ _ _ G3.out.hp
                    have n0 : wa3.cell? ⟨bm, 0, none⟩ = some (.bool true) := cell_of_row _ _ 0 _ _ _ BM.out
                    have n1 : wa3.cell? ⟨bm, 1, none⟩ = some (.int .i64 (wrap64 (y : Int))) := cell_of_row _ _ 1 _ _ _ BM.out
                    have ln := lt_of_block BM.out
                    have lbp := lt_of_block G3.out.hp
                    have sz3 : v0.heap.size ≤ wa3.heap.size := G3.out.kb.1
                    go_wp2_with (at_builtin; refine wpList_app rfl (.tmp 68) (.tmp 70) 25 rfl v0.heap.size 61 a3 (.agg #[.bool false, .int .i64 0]) 2 16 Try.underlying25 a3i a3z a3s a3b rfl (by decide) (.slice Ai k ci) k _ rfl (G3.out.hi.alloc _) (wa3.heap.size + 1) (some ⟨wa3.heap.size, 0, none⟩) 1 1 [.bool true, .int .i64 (wrap64 (y : Int))] rfl rfl (Rd.new _ _ _ _) (by simp [Value.oneCell']) (by unfold maxLen; omega) (by omega) (by simp; omega) ?_)
                    intro A3' c3' y3 own3 hg3 hat3
                    have AP := G3.out.appInb (x := (true, s64 y)) hbv (by simp) hwbp hwv own3 hg3
                    have q4 : y3.cell? ⟨bp, 4, none⟩ = some (.slice Ai k ci) := cell_of_row _ _ 4 _ _ _ AP.1
                    have qf4 : y3.frozen? ⟨bp, 4, none⟩ = false := frozen_of_row _ _ 4 _ _ AP.1
                    have BM1 := hide ((Below.heap_setCell _ ⟨bp, 4, none⟩ (.slice A3' (k + 1) c3') bm hbmbp).trans ((hg3.block bm (by have := lt_of_block BM.out; simp; omega) (fun e => by have := HLI.out bm e.symm; omega)).trans ((Below.heap_alloc _ _ _ (lt_of_block BM.out)).trans BM.out)))
                    have RC1 := hide ((Below.heap_setCell _ ⟨bp, 4, none⟩ (.slice A3' (k + 1) c3') r hrbp).trans ((hg3.block r (by simp; omega) (fun e => by have := (G3.out.hi.lt r e.symm).1; omega)).trans ((Below.heap_alloc _ _ _ (by omega)).trans RC.out)))
                    obtain ⟨wa4, hwa4⟩ : ∃ z, y3.setCell ⟨bp, 4, none⟩ (.slice A3' (k + 1) c3') = z := ⟨_, rfl⟩
                    have G4 := hide AP.2
                    rw [hwa4] at G4 BM1 RC1
                    have HE3 := hide hwa4
                    clear AP own3 hg3 hat3 hwa4 p4 lbp BM RC G3 n0 n1 ln
                    have BM := BM1
                    have RC := RC1
                    clear BM1 RC1
                    have HG2 := hide (HG.out.step (d := 19) (r := ((v : Int), s64 x, true, (true, s64 y))) hkn (by omega) HRow.out)
                    have HPO2 := hide (HPO.out.snoc (v : Int) (s64 x) true (true, s64 y))
                    skip
                    have RCf := RC
                    have Gf := G4
                    clear BM
                    go_wp2
                    first | rw [HE3.out] | skip
                    go_roundw
                    case rel => exact ⟨k + 1, j, s + 19, _, _, _, _, _, A0', c0', A1', c1', A2', c2', A3', c3', by omega, by first | rfl | go_num | (congr 1; omega), HG2, HPO2, Gf, RCf⟩
                    case measure => simp [intOf]
        · obtain rfl : j = 0 := by omega
          obtain rfl : k = n := by omega
          have Rw := hide (rz_of HLies.out GR.out.kb RC.out hk01 hk02 hsb)
          have hHX := HHX.out
          go_wp2_with fail
          refine (rz.bad_any _ r bs (s, false) Rw.out).mono ?_
          rintro e w9 ⟨rfl, rfl⟩
          go_wp2_with fail
          refine (rz.left_any _ r bs (s, false) Rw.out).mono ?_
          rintro e wl ⟨rfl, hbl⟩
          dsimp only
          have GL := hide (GetSt.grown GR.out hbl)
          clear hbl Rw GR RC
          have ZW := hide ((GL.out.kb.2 _ hHv hHX).trans HZ0.out)
          have HBf := hide GL.out.bl
          by_cases hs : s = bs.length
          · have hGo := HG.out
            rw [hs] at hGo
            have hGA := getF_all HH6.out HNn.out hGo
            rw [HM.out] at hGA
            have HGA := hide hGA
            have hz : (bs.length : Int) - (s : Int) = 0 := by omega
            clear hs hGo hGA
            have hrl := HG.out.1
            have HSL := hide (slen_of (m := (m : Int)) HPO.out hrl)
            have HSI := hide (sin_of HPO.out GL.out)
            have p0 : wl.cell? ⟨bp, 0, none⟩ = some (.int .i64 (m : Int)) := cell_of_row _ _ 0 _ _ _ GL.out.hp
            have p1 : wl.cell? ⟨bp, 1, none⟩ = some (.slice Ao k co) := cell_of_row _ _ 1 _ _ _ GL.out.hp
            have p2 : wl.cell? ⟨bp, 2, none⟩ = some (.slice Av k cv) := cell_of_row _ _ 2 _ _ _ GL.out.hp
            have p3 : wl.cell? ⟨bp, 3, none⟩ = some (.slice Ac k cc) := cell_of_row _ _ 3 _ _ _ GL.out.hp
            have p4 : wl.cell? ⟨bp, 4, none⟩ = some (.slice Ai k ci) := cell_of_row _ _ 4 _ _ _ GL.out.hp
            have lbp := lt_of_block GL.out.hp
            clear hrl
            obtain ⟨pp, hpp⟩ : ∃ z, partOf (m : Int) rs = z := ⟨_, rfl⟩
            have HStep : Hid (pp.step = (m : Int)) := hide (by rw [← hpp]; rfl)
            rw [hpp] at HSL HSI HGA
            go_wp2_with fail
            have hcall := right_any wl pp Ao Av Ac Ai k k k k co cv cc ci HSL.out (by omega) HSI.out
            rw [HStep.out] at hcall
            refine hcall.mono ?_
            clear hcall
            rintro e wr2 ⟨rfl, hb2⟩
            have GW := hide (GetSt.grown GL.out hb2)
            have HSI2 := hide (HSI.out.next hb2)
            have HNEW : Hid (NewA w.heap.size Ao ∧ NewA w.heap.size Av ∧ NewA w.heap.size Ac ∧ NewA w.heap.size Ai) := hide ⟨own_new GW.out.ho (by omega), own_new GW.out.hv (by omega), own_new GW.out.hc (by omega), own_new GW.out.hi (by omega)⟩
            clear hb2 HBf ZW p0 p1 p2 p3 p4
            have ZW := hide ((GW.out.kb.2 _ hHv hHX).trans HZ0.out)
            have HBf := hide GW.out.bl
            rcases hrb : rightB pp with _ | _
            · have HN : Hid (getF bs = none) := hide (by rw [HGA.out, hrb]; rfl)
              clear hrb
              have z0 : wr2.cell? ⟨w.heap.size, 0, none⟩ = some (.int .i64 0) := cell_of_row _ _ 0 _ _ _ ZW.out
              have zf0 : wr2.frozen? ⟨w.heap.size, 0, none⟩ = false := frozen_of_row _ _ 0 _ _ ZW.out
              have z1 : wr2.cell? ⟨w.heap.size, 1, none⟩ = some (.slice none 0 0) := cell_of_row _ _ 1 _ _ _ ZW.out
              have zf1 : wr2.frozen? ⟨w.heap.size, 1, none⟩ = false := frozen_of_row _ _ 1 _ _ ZW.out
              have z2 : wr2.cell? ⟨w.heap.size, 2, none⟩ = some (.slice none 0 0) := cell_of_row _ _ 2 _ _ _ ZW.out
              have zf2 : wr2.frozen? ⟨w.heap.size, 2, none⟩ = false := frozen_of_row _ _ 2 _ _ ZW.out
              have z3 : wr2.cell? ⟨w.heap.size, 3, none⟩ = some (.slice none 0 0) := cell_of_row _ _ 3 _ _ _ ZW.out
              have zf3 : wr2.frozen? ⟨w.heap.size, 3, none⟩ = false := frozen_of_row _ _ 3 _ _ ZW.out
              have z4 : wr2.cell? ⟨w.heap.size, 4, none⟩ = some (.slice none 0 0) := cell_of_row _ _ 4 _ _ _ ZW.out
              have zf4 : wr2.frozen? ⟨w.heap.size, 4, none⟩ = false := frozen_of_row _ _ 4 _ _ ZW.out
              have HFin := hide (zero_fin ZW.out HBf.out)
              go_wp2
              go_step3
              go_wp2
              obtain ⟨f, hf, hfB, h6⟩ := HFin.out
              rw [hf]
              have y0 : f.cell? ⟨w.heap.size, 0, none⟩ = some (.int .i64 0) := cell_of_row _ _ 0 _ _ _ h6
              have y1 : f.cell? ⟨w.heap.size, 1, none⟩ = some (.slice none 0 0) := cell_of_row _ _ 1 _ _ _ h6
              have y2 : f.cell? ⟨w.heap.size, 2, none⟩ = some (.slice none 0 0) := cell_of_row _ _ 2 _ _ _ h6
              have y3 : f.cell? ⟨w.heap.size, 3, none⟩ = some (.slice none 0 0) := cell_of_row _ _ 3 _ _ _ h6
              have y4 : f.cell? ⟨w.heap.size, 4, none⟩ = some (.slice none 0 0) := cell_of_row _ _ 4 _ _ _ h6
              exact bodyPost_ret (v := .tuple #[.agg #[.int .i64 0, .slice none 0 0, .slice none 0 0, .slice none 0 0, .slice none 0 0], .int .i64 140]) (by simp [results, Try.results16, go_sem, y0, y1, y2, y3, y4]) rfl (get_bad HN.out hfB)
            · have HN : Hid (getF bs = some pp) := hide (by rw [HGA.out, hrb]; rfl)
              clear hrb
              have p0 : wr2.cell? ⟨bp, 0, none⟩ = some (.int .i64 (m : Int)) := cell_of_row _ _ 0 _ _ _ GW.out.hp
              have p1 : wr2.cell? ⟨bp, 1, none⟩ = some (.slice Ao k co) := cell_of_row _ _ 1 _ _ _ GW.out.hp
              have p2 : wr2.cell? ⟨bp, 2, none⟩ = some (.slice Av k cv) := cell_of_row _ _ 2 _ _ _ GW.out.hp
              have p3 : wr2.cell? ⟨bp, 3, none⟩ = some (.slice Ac k cc) := cell_of_row _ _ 3 _ _ _ GW.out.hp
              have p4 : wr2.cell? ⟨bp, 4, none⟩ = some (.slice Ai k ci) := cell_of_row _ _ 4 _ _ _ GW.out.hp
              have lbp2 := lt_of_block GW.out.hp
              have z0 : wr2.cell? ⟨w.heap.size, 0, none⟩ = some (.int .i64 0) := cell_of_row _ _ 0 _ _ _ ZW.out
              have zf0 : wr2.frozen? ⟨w.heap.size, 0, none⟩ = false := frozen_of_row _ _ 0 _ _ ZW.out
              have z1 : wr2.cell? ⟨w.heap.size, 1, none⟩ = some (.slice none 0 0) := cell_of_row _ _ 1 _ _ _ ZW.out
              have zf1 : wr2.frozen? ⟨w.heap.size, 1, none⟩ = false := frozen_of_row _ _ 1 _ _ ZW.out
              have z2 : wr2.cell? ⟨w.heap.size, 2, none⟩ = some (.slice none 0 0) := cell_of_row _ _ 2 _ _ _ ZW.out
              have zf2 : wr2.frozen? ⟨w.heap.size, 2, none⟩ = false := frozen_of_row _ _ 2 _ _ ZW.out
              have z3 : wr2.cell? ⟨w.heap.size, 3, none⟩ = some (.slice none 0 0) := cell_of_row _ _ 3 _ _ _ ZW.out
              have zf3 : wr2.frozen? ⟨w.heap.size, 3, none⟩ = false := frozen_of_row _ _ 3 _ _ ZW.out
              have z4 : wr2.cell? ⟨w.heap.size, 4, none⟩ = some (.slice none 0 0) := cell_of_row _ _ 4 _ _ _ ZW.out
              have zf4 : wr2.frozen? ⟨w.heap.size, 4, none⟩ = false := frozen_of_row _ _ 4 _ _ ZW.out
              have hF0 := ZW.out
              have hF1 := heap_setCell_same _ w.heap.size 0 _ _ (.int .i64 (m : Int)) hF0
              have hF2 := heap_setCell_same _ w.heap.size 1 _ _ (.slice Ao k co) hF1
              have hF3 := heap_setCell_same _ w.heap.size 2 _ _ (.slice Av k cv) hF2
              have hF4 := heap_setCell_same _ w.heap.size 3 _ _ (.slice Ac k cc) hF3
              have hF5 := heap_setCell_same _ w.heap.size 4 _ _ (.slice Ai k ci) hF4
              have hlW : w.heap.size ≤ w.heap.size := Nat.le_refl _
              have fin : ∃ f, (((((wr2.setCell ⟨w.heap.size, 0, none⟩ (.int .i64 (m : Int))).setCell ⟨w.heap.size, 1, none⟩ (.slice Ao k co)).setCell ⟨w.heap.size, 2, none⟩ (.slice Av k cv)).setCell ⟨w.heap.size, 3, none⟩ (.slice Ac k cc)).setCell ⟨w.heap.size, 4, none⟩ (.slice Ai k ci)) = f ∧ Below w.heap.size w f ∧ f.heap[w.heap.size]? = some (.cells #[.int .i64 (m : Int), .slice Ao k co, .slice Av k cv, .slice Ac k cc, .slice Ai k ci] 27) ∧ SIn f pp Ao Av Ac Ai := ⟨_, rfl, (((((HBf.out.setCell (p := ⟨w.heap.size, 0, none⟩) hlW (.int .i64 (m : Int))).setCell (p := ⟨w.heap.size, 1, none⟩) hlW (.slice Ao k co)).setCell (p := ⟨w.heap.size, 2, none⟩) hlW (.slice Av k cv)).setCell (p := ⟨w.heap.size, 3, none⟩) hlW (.slice Ac k cc)).setCell (p := ⟨w.heap.size, 4, none⟩) hlW (.slice Ai k ci)), hF5, by rw [← hpp]; exact sin_rows HPO.out (((((rows_set (rows_of GW.out) hHv 0 _).set hHv 1 _).set hHv 2 _).set hHv 3 _).set hHv 4 _)⟩
              have FIN := hide fin
              clear fin hF0 hF1 hF2 hF3 hF4 hF5
              go_wp2
              obtain ⟨f, hf, hfB, h6, hfS⟩ := FIN.out
              rw [hf]
              have y0 : f.cell? ⟨w.heap.size, 0, none⟩ = some (.int .i64 (m : Int)) := cell_of_row _ _ 0 _ _ _ h6
              have y1 : f.cell? ⟨w.heap.size, 1, none⟩ = some (.slice Ao k co) := cell_of_row _ _ 1 _ _ _ h6
              have y2 : f.cell? ⟨w.heap.size, 2, none⟩ = some (.slice Av k cv) := cell_of_row _ _ 2 _ _ _ h6
              have y3 : f.cell? ⟨w.heap.size, 3, none⟩ = some (.slice Ac k cc) := cell_of_row _ _ 3 _ _ _ h6
              have y4 : f.cell? ⟨w.heap.size, 4, none⟩ = some (.slice Ai k ci) := cell_of_row _ _ 4 _ _ _ h6
              have hgo := get_ok (w := w) (co := co) (cv := cv) (cc := cc) (ci := ci) HN.out HSL.out (by omega) hfS hfB HNEW.out
              rw [HStep.out] at hgo
              exact bodyPost_ret (v := .tuple #[.agg #[.int .i64 (m : Int), .slice Ao k co, .slice Av k cv, .slice Ac k cc, .slice Ai k ci], .int .i64 0]) (by simp [results, Try.results16, go_sem, y0, y1, y2, y3, y4]) rfl hgo
          · have HN := hide (getF_left HNn.out HG.out hs)
            have hz : ((bs.length : Int) - (s : Int) == 0) = false := by simp only [beq_eq_false_iff_ne, ne_eq]; omega
            clear hs
            have z0 : wl.cell? ⟨w.heap.size, 0, none⟩ = some (.int .i64 0) := cell_of_row _ _ 0 _ _ _ ZW.out
            have zf0 : wl.frozen? ⟨w.heap.size, 0, none⟩ = false := frozen_of_row _ _ 0 _ _ ZW.out
            have z1 : wl.cell? ⟨w.heap.size, 1, none⟩ = some (.slice none 0 0) := cell_of_row _ _ 1 _ _ _ ZW.out
            have zf1 : wl.frozen? ⟨w.heap.size, 1, none⟩ = false := frozen_of_row _ _ 1 _ _ ZW.out
            have z2 : wl.cell? ⟨w.heap.size, 2, none⟩ = some (.slice none 0 0) := cell_of_row _ _ 2 _ _ _ ZW.out
            have zf2 : wl.frozen? ⟨w.heap.size, 2, none⟩ = false := frozen_of_row _ _ 2 _ _ ZW.out
            have z3 : wl.cell? ⟨w.heap.size, 3, none⟩ = some (.slice none 0 0) := cell_of_row _ _ 3 _ _ _ ZW.out
            have zf3 : wl.frozen? ⟨w.heap.size, 3, none⟩ = false := frozen_of_row _ _ 3 _ _ ZW.out
            have z4 : wl.cell? ⟨w.heap.size, 4, none⟩ = some (.slice none 0 0) := cell_of_row _ _ 4 _ _ _ ZW.out
            have zf4 : wl.frozen? ⟨w.heap.size, 4, none⟩ = false := frozen_of_row _ _ 4 _ _ ZW.out
            have HFin := hide (zero_fin ZW.out HBf.out)
            go_wp2
            go_step3
            go_wp2
            obtain ⟨f, hf, hfB, h6⟩ := HFin.out
            rw [hf]
            have y0 : f.cell? ⟨w.heap.size, 0, none⟩ = some (.int .i64 0) := cell_of_row _ _ 0 _ _ _ h6
            have y1 : f.cell? ⟨w.heap.size, 1, none⟩ = some (.slice none 0 0) := cell_of_row _ _ 1 _ _ _ h6
            have y2 : f.cell? ⟨w.heap.size, 2, none⟩ = some (.slice none 0 0) := cell_of_row _ _ 2 _ _ _ h6
            have y3 : f.cell? ⟨w.heap.size, 3, none⟩ = some (.slice none 0 0) := cell_of_row _ _ 3 _ _ _ h6
            have y4 : f.cell? ⟨w.heap.size, 4, none⟩ = some (.slice none 0 0) := cell_of_row _ _ 4 _ _ _ h6
            exact bodyPost_ret (v := .tuple #[.agg #[.int .i64 0, .slice none 0 0, .slice none 0 0, .slice none 0 0, .slice none 0 0], .int .i64 140]) (by simp [results, Try.results16, go_sem, y0, y1, y2, y3, y4]) rfl (get_bad HN.out hfB)
  · rintro a' w' ⟨u, rfl, ZW, HBf, HN⟩
    unfold GJF
    have z0 : w'.cell? ⟨w.heap.size, 0, none⟩ = some (.int .i64 0) := cell_of_row _ _ 0 _ _ _ ZW.out
    have zf0 : w'.frozen? ⟨w.heap.size, 0, none⟩ = false := frozen_of_row _ _ 0 _ _ ZW.out
    have z1 : w'.cell? ⟨w.heap.size, 1, none⟩ = some (.slice none 0 0) := cell_of_row _ _ 1 _ _ _ ZW.out
    have zf1 : w'.frozen? ⟨w.heap.size, 1, none⟩ = false := frozen_of_row _ _ 1 _ _ ZW.out
    have z2 : w'.cell? ⟨w.heap.size, 2, none⟩ = some (.slice none 0 0) := cell_of_row _ _ 2 _ _ _ ZW.out
    have zf2 : w'.frozen? ⟨w.heap.size, 2, none⟩ = false := frozen_of_row _ _ 2 _ _ ZW.out
    have z3 : w'.cell? ⟨w.heap.size, 3, none⟩ = some (.slice none 0 0) := cell_of_row _ _ 3 _ _ _ ZW.out
    have zf3 : w'.frozen? ⟨w.heap.size, 3, none⟩ = false := frozen_of_row _ _ 3 _ _ ZW.out
    have z4 : w'.cell? ⟨w.heap.size, 4, none⟩ = some (.slice none 0 0) := cell_of_row _ _ 4 _ _ _ ZW.out
    have zf4 : w'.frozen? ⟨w.heap.size, 4, none⟩ = false := frozen_of_row _ _ 4 _ _ ZW.out
    have HFin := hide (zero_fin ZW.out HBf.out)
    go_wp2
    obtain ⟨f, hf, hfB, h6⟩ := HFin.out
    rw [hf]
    have y0 : f.cell? ⟨w.heap.size, 0, none⟩ = some (.int .i64 0) := cell_of_row _ _ 0 _ _ _ h6
    have y1 : f.cell? ⟨w.heap.size, 1, none⟩ = some (.slice none 0 0) := cell_of_row _ _ 1 _ _ _ h6
    have y2 : f.cell? ⟨w.heap.size, 2, none⟩ = some (.slice none 0 0) := cell_of_row _ _ 2 _ _ _ h6
    have y3 : f.cell? ⟨w.heap.size, 3, none⟩ = some (.slice none 0 0) := cell_of_row _ _ 3 _ _ _ h6
    have y4 : f.cell? ⟨w.heap.size, 4, none⟩ = some (.slice none 0 0) := cell_of_row _ _ 4 _ _ _ h6
    exact bodyPost_ret (v := .tuple #[.agg #[.int .i64 0, .slice none 0 0, .slice none 0 0, .slice none 0 0, .slice none 0 0], .int .i64 140]) (by simp [results, Try.results16, go_sem, y0, y1, y2, y3, y4]) rfl (get_bad HN.out hfB)
theorem sget_any (w : World) (A0 : Option Addr) (bs : List UInt8) (L c : Nat) (hL : bs.length = L) (hR : Rd w w.heap.size A0 (u8s bs)) (hl : L ≤ 1000000) :
    Calls Try.prog 16 #[.slice A0 L c] w (GetPost w (getP bs) (getE bs)) := (sgetN_any w A0 bs L c hL hR hl).mono fun _ _ h => h.old
end Go.Proofs.Ytgfdlllmcbgbcaa
