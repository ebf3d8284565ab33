/- A part of a state, as a value; which parts are right. -/
import Derived.Test.YtgfdlllmcbgbcaaKep
import Derived.Lib.Hide
namespace Go.Proofs.Ytgfdlllmcbgbcaa
open Go.RowKit
set_option linter.unusedVariables false
abbrev Ml := Bool × Int
structure SPart where
  step : Int
  own : List Int
  vals : List Int
  chg : List Bool
  inb : List Ml
deriving DecidableEq
/-- mail, cell by cell -/
def mlFlat (l : List Ml) : List Value := l.flatMap fun m => [.bool m.1, .int .i64 m.2]
theorem mlFlat_len (l : List Ml) : (mlFlat l).length = l.length * 2 := by
  induction l with
  | nil => rfl
  | cons e l ih => unfold mlFlat at ih ⊢; rw [List.flatMap_cons, List.length_append, ih, List.length_cons]; simp; omega
theorem mlFlat_app (a b : List Ml) : mlFlat a ++ mlFlat b = mlFlat (a ++ b) := by simp [mlFlat]
theorem mlFlat_one (l : List Ml) : ∀ u ∈ mlFlat l, u.oneCell' = true := by
  intro u hu
  unfold mlFlat at hu
  rw [List.mem_flatMap] at hu
  obtain ⟨e, _, he⟩ := hu
  simp at he
  rcases he with rfl | rfl <;> rfl
theorem mlFlat_get {l : List Ml} : ∀ {i : Nat} {e : Ml}, l[i]? = some e → (mlFlat l)[i * 2]? = some (.bool e.1) ∧ (mlFlat l)[i * 2 + 1]? = some (.int .i64 e.2) := by
  induction l with
  | nil => intro i e h; simp at h
  | cons x l ih =>
    intro i e h
    unfold mlFlat
    rw [List.flatMap_cons]
    cases i with
    | zero =>
      simp only [List.getElem?_cons_zero, Option.some.injEq] at h
      subst h
      exact ⟨rfl, rfl⟩
    | succ i =>
      have := ih (i := i) (by simpa using h)
      unfold mlFlat at this
      rw [List.getElem?_append_right (by simp; omega), List.getElem?_append_right (by simp; omega)]
      refine ⟨?_, ?_⟩
      · rw [← this.1]; congr 1; simp; omega
      · rw [← this.2]; congr 1; simp; omega
def i64s (l : List Int) : List Value := l.map (Value.int .i64)
theorem i64s_len (l : List Int) : (i64s l).length = l.length := by simp [i64s]
theorem i64s_get {l : List Int} {i : Nat} {x : Int} (h : l[i]? = some x) : (i64s l)[i]? = some (.int .i64 x) := by simp [i64s, h]
theorem i64s_app (a b : List Int) : i64s a ++ i64s b = i64s (a ++ b) := by simp [i64s]
theorem i64s_one (l : List Int) : ∀ u ∈ i64s l, u.oneCell' = true := by
  intro u hu
  obtain ⟨e, _, rfl⟩ := List.mem_map.1 hu
  rfl
/-- the rows of a part lie in memory -/
structure SIn (w : World) (p : SPart) (Ao Av Ac Ai : Option Addr) : Prop where
  own : Rd w w.heap.size Ao (i64s p.own)
  vals : Rd w w.heap.size Av (i64s p.vals)
  chg : Rd w w.heap.size Ac (bools p.chg)
  inb : Rd w w.heap.size Ai (mlFlat p.inb)
theorem SIn.next {w w' : World} {p : SPart} {Ao Av Ac Ai : Option Addr} (h : SIn w p Ao Av Ac Ai) (hb : Below w.heap.size w w') : SIn w' p Ao Av Ac Ai := ⟨h.own.next hb, h.vals.next hb, h.chg.next hb, h.inb.next hb⟩
theorem SIn.drew {w : World} {p : SPart} {Ao Av Ac Ai : Option Addr} (h : SIn w p Ao Av Ac Ai) : SIn w.drew p Ao Av Ac Ai := ⟨h.own, h.vals, h.chg, h.inb⟩
/-- the lengths of a part's rows -/
def SLen (p : SPart) (no nv nc ni : Nat) : Prop := p.own.length = no ∧ p.vals.length = nv ∧ p.chg.length = nc ∧ p.inb.length = ni
theorem Rd.at1 {w : World} {A : Option Addr} {xs : List Value} {i : Nat} {u : Value} (h : Rd w w.heap.size A xs) (hu : xs[i]? = some u) : ∃ b off, A = some ⟨b, off, none⟩ ∧ b < w.heap.size ∧ w.cell? ⟨b, off + i, none⟩ = some u := by
  obtain ⟨b, off, e, hb, hc⟩ := h.at_ (List.getElem?_eq_some_iff.1 hu).1
  exact ⟨b, off, e, hb, hc i u hu⟩
theorem Rd.ml {w : World} {A : Option Addr} {l : List Ml} {i : Nat} {m : Ml} (h : Rd w w.heap.size A (mlFlat l)) (hm : l[i]? = some m) : ∃ b off, A = some ⟨b, off, none⟩ ∧ b < w.heap.size ∧ w.cell? ⟨b, off + i * 2, none⟩ = some (.bool m.1) ∧ w.cell? ⟨b, off + i * 2 + 1, none⟩ = some (.int .i64 m.2) := by
  obtain ⟨h0, h1⟩ := mlFlat_get hm
  obtain ⟨b, off, e, hb, hc⟩ := h.at_ (List.getElem?_eq_some_iff.1 h0).1
  exact ⟨b, off, e, hb, hc _ _ h0, by rw [Nat.add_assoc]; exact hc _ _ h1⟩

/-! ### which are right -/
def inB (x : Int) : Bool := decide (0 ≤ x) && decide (x ≤ 4611686018427387904)
theorem inB_iff {x : Int} : inB x = true ↔ 0 ≤ x ∧ x ≤ 4611686018427387904 := by simp [inB]
def rightL : Int → List Int → List Int → List Ml → Bool
  | last, v :: own, x :: vals, m :: inb => decide (last < v) && decide (v < 512) && inB x && (!m.1 || inB m.2) && rightL v own vals inb
  | _, _, _, _ => true
def rightB (p : SPart) : Bool := decide (0 ≤ p.step) && decide (p.step ≤ 2000) && decide (p.vals.length = p.own.length) && decide (p.chg.length = p.own.length) && decide (p.inb.length = p.own.length) && rightL (-1) p.own p.vals p.inb
theorem rightL_step {own vals : List Int} {inb : List Ml} {i : Nat} {last v x : Int} {m : Ml} (h1 : own[i]? = some v) (h2 : vals[i]? = some x) (h3 : inb[i]? = some m) :
    rightL last (own.drop i) (vals.drop i) (inb.drop i) = (decide (last < v) && decide (v < 512) && inB x && (!m.1 || inB m.2) && rightL v (own.drop (i + 1)) (vals.drop (i + 1)) (inb.drop (i + 1))) := by
  obtain ⟨a1, a2⟩ := List.getElem?_eq_some_iff.1 h1
  obtain ⟨b1, b2⟩ := List.getElem?_eq_some_iff.1 h2
  obtain ⟨c1, c2⟩ := List.getElem?_eq_some_iff.1 h3
  rw [List.drop_eq_getElem_cons a1, List.drop_eq_getElem_cons b1, List.drop_eq_getElem_cons c1, a2, b2, c2]
  rfl
theorem rightL_nil (last : Int) (vals : List Int) (inb : List Ml) : rightL last [] vals inb = true := by
  unfold rightL; rfl
theorem right_lens {p : SPart} {n nv nc ni : Nat} (h : SLen p n nv nc ni) : rightB p = (decide (0 ≤ p.step) && decide (p.step ≤ 2000) && decide (nv = n) && decide (nc = n) && decide (ni = n) && rightL (-1) p.own p.vals p.inb) := by
  unfold rightB
  rw [h.1, h.2.1, h.2.2.1, h.2.2.2]
end Go.Proofs.Ytgfdlllmcbgbcaa
