/- Rows of parts of states, in memory and as a value; what is put together out of them. -/
import Derived.Test.YtgfdlllmcbgbcaaOsp
import Derived.Test.YtgfdlllmcbgbcaaMwn
import Derived.Test.YtgfdlllmcbgbcaaRgt
import Derived.Test.YtgfdlllmcbgbcaaRsm
namespace Go.Proofs.Ytgfdlllmcbgbcaa
open Go.ChangeShapes Go.WideShapes Go.ChangeAt Go.RowKit
set_option linter.unusedVariables false
/-- these cells are that part -/
def PVal (w : World) (cs : List Value) (p : SPart) : Prop := ∃ (Ao Av Ac Ai : Option Addr) (no nv nc ni co cv cc ci : Nat), cs = [.int .i64 p.step, .slice Ao no co, .slice Av nv cv, .slice Ac nc cc, .slice Ai ni ci] ∧ SLen p no nv nc ni ∧ SIn w p Ao Av Ac Ai ∧
  (no ≤ 9223372036854775807 ∧ nv ≤ 9223372036854775807 ∧ nc ≤ 9223372036854775807 ∧ ni ≤ 9223372036854775807)
def PRow (w : World) (A : Option Addr) (ps : List SPart) : Prop := Els w w.heap.size 5 A ps (PVal w)
theorem SIn.kept {u w : World} {p : SPart} {Ao Av Ac Ai : Option Addr} (h : SIn u p Ao Av Ac Ai) (hk : Kept u w) (hs : u.heap.size ≤ w.heap.size) : SIn w p Ao Av Ac Ai :=
  ⟨(h.own.keep hk).more hs, (h.vals.keep hk).more hs, (h.chg.keep hk).more hs, (h.inb.keep hk).more hs⟩
theorem PVal.kept {u w : World} {cs : List Value} {p : SPart} (h : PVal u cs p) (hk : Kept u w) (hs : u.heap.size ≤ w.heap.size) : PVal w cs p := by
  obtain ⟨Ao, Av, Ac, Ai, no, nv, nc, ni, co, cv, cc, ci, h1, h2, h3, h4⟩ := h
  exact ⟨Ao, Av, Ac, Ai, no, nv, nc, ni, co, cv, cc, ci, h1, h2, h3.kept hk hs, h4⟩
theorem PRow.kept {u w : World} {A : Option Addr} {ps : List SPart} (h : PRow u A ps) (hk : Kept u w) (hs : u.heap.size ≤ w.heap.size) : PRow w A ps :=
  Els.more (Els.keep h hk fun _ _ hv => hv.kept hk hs) hs
theorem PRow.next {u w : World} {A : Option Addr} {ps : List SPart} (h : PRow u A ps) (hb : Below u.heap.size u w) : PRow w A ps := h.kept (Kept.of_below hb) hb.size
theorem PRow.nil (w : World) (A : Option Addr) : PRow w A [] := Els.nil_
/-- one of a row -/
theorem PRow.get {w : World} {A : Option Addr} {ps : List SPart} (h : PRow w A ps) {i : Nat} {p : SPart} (hp : ps[i]? = some p) :
    ∃ b off, A = some ⟨b, off, none⟩ ∧ b < w.heap.size ∧ ∃ (Ao Av Ac Ai : Option Addr) (no nv nc ni co cv cc ci : Nat),
      w.cell? ⟨b, off + i * 5, none⟩ = some (.int .i64 p.step) ∧ w.cell? ⟨b, off + i * 5 + 1, none⟩ = some (.slice Ao no co) ∧ w.cell? ⟨b, off + i * 5 + 2, none⟩ = some (.slice Av nv cv) ∧ w.cell? ⟨b, off + i * 5 + 3, none⟩ = some (.slice Ac nc cc) ∧ w.cell? ⟨b, off + i * 5 + 4, none⟩ = some (.slice Ai ni ci) ∧
      SLen p no nv nc ni ∧ SIn w p Ao Av Ac Ai ∧ (no ≤ 9223372036854775807 ∧ nv ≤ 9223372036854775807 ∧ nc ≤ 9223372036854775807 ∧ ni ≤ 9223372036854775807) := by
  obtain ⟨b, off, rfl, hb⟩ := Els.at_ h (List.getElem?_eq_some_iff.1 hp).1
  obtain ⟨cs, hl, ⟨Ao, Av, Ac, Ai, no, nv, nc, ni, co, cv, cc, ci, rfl, h2, h3, h4⟩, hc⟩ := Els.get h hp
  refine ⟨b, off, rfl, hb, Ao, Av, Ac, Ai, no, nv, nc, ni, co, cv, cc, ci, ?_, ?_, ?_, ?_, ?_, h2, h3, h4⟩
  · exact hc 0 _ rfl
  · exact hc 1 _ rfl
  · exact hc 2 _ rfl
  · exact hc 3 _ rfl
  · exact hc 4 _ rfl
section
variable {H : Type} {enc : TypeId × Value → H}
set_option maxRecDepth 100000 in
theorem open_sparts {t : TypeId} {W : World} {base : Nat} {r : Reach} {v : Value} {d : DataW H} {p : List MemPlace} (ht : Try.prog.underlying t = some (.slice 27))
    (hv : Value.okWide Try.prog W r base t v) (h : DataW.Trod enc Try.prog W 0 (fun _ => true) true t v d p) (hz : ∀ n ∈ d.weights Try.prog t, n ≤ reachBytes) :
    ∃ (A : Option Addr) (ps : List SPart) (c : Nat), v = .slice A ps.length c ∧ PRow W A ps ∧ ps.length ≤ c ∧ c ≤ 9223372036854775807 := by
  obtain ⟨a0, len, cap, rfl⟩ := okWide_slice ht hv
  obtain ⟨fuel, hf⟩ := h
  obtain ⟨A, ps, c, h1, h2, h3, _, h5⟩ := elems_of (X := SPart) ht (show Try.prog.cellsOf 27 = 5 by kernel_rfl) (by omega) hf hz (PVal W) (fun n cs y hy hw _ => by
    obtain ⟨p, Ao, Av, Ac, Ai, no, nv, nc, ni, co, cv, cc, ci, e, g1, g2, g3, _⟩ := spart_of hy hw
    exact ⟨p, Ao, Av, Ac, Ai, no, nv, nc, ni, co, cv, cc, ci, e, g1, g2, g3⟩)
  simp only [Value.cells, List.cons.injEq, and_true] at h1
  exact ⟨A, ps, c, by simpa using h1, h2, h3, h5⟩
end

/-! ### put together -/
/-- how many vertices the first i parts have -/
def sumOwn (ps : List SPart) (i : Nat) : Nat := ((ps.take i).map fun p => p.own.length).sum
theorem sumOwn_zero (ps : List SPart) : sumOwn ps 0 = 0 := by simp [sumOwn]
theorem sumOwn_succ {ps : List SPart} {i : Nat} {p : SPart} (h : ps[i]? = some p) : sumOwn ps (i + 1) = sumOwn ps i + p.own.length := by
  unfold sumOwn
  rw [List.take_add_one, h]
  simp
theorem sumOwn_le {ps : List SPart} (hl : ∀ p ∈ ps, p.own.length ≤ 60) (i : Nat) (hi : i ≤ ps.length) : sumOwn ps i ≤ i * 60 := by
  induction i with
  | zero => simp [sumOwn]
  | succ i ih =>
    have h : i < ps.length := by omega
    rw [sumOwn_succ (List.getElem?_eq_getElem h)]
    have := ih (by omega)
    have := hl _ (List.getElem_mem h)
    omega
def nAll (ps : List SPart) : Nat := sumOwn ps ps.length
/-- the first place of a number; -1: none -/
def plc (v : Int) : List Int → Nat → Int
  | [], _ => -1
  | x :: xs, i => if x = v then (i : Int) else plc v xs (i + 1)
theorem plc_end (v : Int) (i : Nat) : plc v [] i = -1 := rfl
theorem plc_step {xs : List Int} {i : Nat} {x v : Int} (h : xs[i]? = some x) : plc v (xs.drop i) i = if x = v then (i : Int) else plc v (xs.drop (i + 1)) (i + 1) := by
  obtain ⟨h1, rfl⟩ := List.getElem?_eq_some_iff.1 h
  rw [List.drop_eq_getElem_cons h1]
  rfl
theorem plc_spec (v : Int) : ∀ (xs : List Int) (i : Nat), (plc v xs i = -1 ∧ v ∉ xs) ∨ ∃ j : Nat, j < xs.length ∧ plc v xs i = ((i + j : Nat) : Int) ∧ xs[j]? = some v
  | [], i => .inl ⟨rfl, by simp⟩
  | x :: xs, i => by
    unfold plc
    by_cases h : x = v
    · rw [if_pos h]
      exact .inr ⟨0, by simp, by simp, by simp [h]⟩
    · rw [if_neg h]
      rcases plc_spec v xs (i + 1) with ⟨h1, h2⟩ | ⟨j, h1, h2, h3⟩
      · exact .inl ⟨h1, by simp [h2]; exact fun e => h e.symm⟩
      · exact .inr ⟨j + 1, by simp; omega, by rw [h2]; congr 1; omega, by simpa using h3⟩
/-- the worker of a vertex, and its place there -/
def wk (ps : List SPart) (v : Nat) : SPart := ps.getD (ofF (v : Int) (ps.length : Int)).toNat ⟨0, [], [], [], []⟩
def ix (ps : List SPart) (v : Nat) : Nat := (plc (v : Int) (wk ps v).own 0).toNat
def jV (ps : List SPart) (v : Nat) : Int := (wk ps v).vals.getD (ix ps v) 0
def jC (ps : List SPart) (v : Nat) : Bool := (wk ps v).chg.getD (ix ps v) false
def jM (ps : List SPart) (v : Nat) : Ml := (wk ps v).inb.getD (ix ps v) (false, 0)
def stepJ (ps : List SPart) : Int := (ps.getD 0 ⟨0, [], [], [], []⟩).step
/-- one part fits -/
def fitJ (ps : List SPart) (w : Nat) (p : SPart) : Bool := rightB p && decide (p.step = stepJ ps) && decide (nAll ps ≤ 512) && decide (p.own = ownUpto (ps.length : Int) (w : Int) (nAll ps))
def okJ (ps : List SPart) : Prop := 1 ≤ ps.length ∧ ps.length ≤ 64 ∧ 1 ≤ nAll ps ∧ ∀ (w : Nat) (p : SPart), ps[w]? = some p → fitJ ps w p = true
/-- what Join answers: a state, or the refusal -/
def JoinPost (w : World) (ps : List SPart) (e : Ending) (w' : World) : Prop :=
  (okJ ps ∧ ∃ (A1 A2 A3 : Option Addr) (c1 c2 c3 : Nat), e = .returned (.tuple #[.agg #[.int .i64 (stepJ ps), .slice A1 (nAll ps) c1, .slice A2 (nAll ps) c2, .slice A3 (nAll ps) c3, .int .i64 0, .int .i64 0], .int .i64 0]) ∧
    Rd w' w'.heap.size A1 (i64s ((List.range (nAll ps)).map (jV ps))) ∧ Rd w' w'.heap.size A2 (bools ((List.range (nAll ps)).map (jC ps))) ∧ Rd w' w'.heap.size A3 (mlFlat ((List.range (nAll ps)).map (jM ps))) ∧ Below w.heap.size w w')
  ∨ (¬ okJ ps ∧ e = .returned (.tuple #[.agg #[.int .i64 0, .slice none 0 0, .slice none 0 0, .slice none 0 0, .int .i64 0, .int .i64 0], .int .i64 4]) ∧ Below w.heap.size w w')
/-! ### a row that is filled place by place -/
def fillL {α : Type} (f : Nat → α) (z : α) (d : Nat → Bool) (n : Nat) : List α := (List.range n).map fun v => if d v = true then f v else z
theorem fill_len {α : Type} (f : Nat → α) (z : α) (d : Nat → Bool) (n : Nat) : (fillL f z d n).length = n := by simp [fillL]
theorem fill_set {α : Type} (f : Nat → α) (z : α) (d d' : Nat → Bool) (n v : Nat) (x : α) (hx : f v = x) (hd : ∀ u, u < n → d' u = (d u || u == v)) : (fillL f z d n).set v x = fillL f z d' n := by
  apply List.ext_getElem?
  intro u
  rw [List.getElem?_set]
  unfold fillL
  rw [List.length_map, List.length_range]
  by_cases hu : u < n
  · rw [List.getElem?_map, List.getElem?_map, List.getElem?_range hu]
    simp only [Option.map_some]
    rw [hd u hu]
    by_cases h : v = u
    · subst h
      rw [if_pos rfl, if_pos hu]
      simp [hx]
    · rw [if_neg h]
      simp [show ¬ u = v from fun e => h e.symm]
  · by_cases h : v = u
    · subst h
      rw [if_pos rfl, if_neg hu, List.getElem?_eq_none (by simp; omega)]
    · rw [if_neg h, List.getElem?_eq_none (by simp; omega), List.getElem?_eq_none (by simp; omega)]
theorem fill_none {α : Type} (f : Nat → α) (z : α) (d : Nat → Bool) (n : Nat) (h : ∀ u, u < n → d u = false) : fillL f z d n = List.replicate n z := by
  apply List.ext_getElem
  · simp [fillL]
  · intro i h1 h2
    simp only [fillL, List.getElem_map, List.getElem_range, List.getElem_replicate]
    rw [fill_len] at h1
    rw [h i h1]
    simp
theorem fill_all {α : Type} (f : Nat → α) (z : α) (d : Nat → Bool) (n : Nat) (h : ∀ u, u < n → d u = true) : fillL f z d n = (List.range n).map f := by
  unfold fillL
  apply List.map_congr_left
  intro v hv
  rw [h v (List.mem_range.1 hv), if_pos rfl]
theorem i64s_set (l : List Int) (v : Nat) (x : Int) : (i64s l).set v (.int .i64 x) = i64s (l.set v x) := by simp [i64s, List.map_set]
theorem mlFlat_set : ∀ (l : List Ml) (v : Nat) (m : Ml), ((mlFlat l).set (v * 2) (.bool m.1)).set (v * 2 + 1) (.int .i64 m.2) = mlFlat (l.set v m)
  | [], v, m => by simp [mlFlat]
  | a :: l, 0, m => by simp [mlFlat]
  | a :: l, v + 1, m => by
    have h := mlFlat_set l v m
    unfold mlFlat at h ⊢
    rw [List.flatMap_cons, List.set_cons_succ, List.flatMap_cons, ← h, show (v + 1) * 2 = (v * 2 + 1) + 1 by omega]
    simp
theorem made_i (n : Nat) : madeCells #[.int .i64 0] n = (i64s (List.replicate n 0)).toArray := by
  unfold madeCells i64s
  apply Array.ext
  · simp
  · intro i h1 h2; simp [Nat.mod_one]
theorem made_b (n : Nat) : madeCells #[.bool false] n = (bools (List.replicate n false)).toArray := by
  unfold madeCells bools
  apply Array.ext
  · simp
  · intro i h1 h2; simp [Nat.mod_one]
theorem mlFlat_rep (n : Nat) (j : Nat) (h : j < n * 2) : (mlFlat (List.replicate n ((false, 0) : Ml)))[j]? = some (if j % 2 = 0 then .bool false else .int .i64 0) := by
  have hj : j / 2 < n := by omega
  obtain ⟨h0, h1⟩ := mlFlat_get (l := List.replicate n ((false, 0) : Ml)) (i := j / 2) (e := (false, 0)) (by simp [hj])
  rcases (show j % 2 = 0 ∨ j % 2 = 1 by omega) with h2 | h2
  · rw [show j / 2 * 2 = j by omega] at h0
    rw [h0, if_pos h2]
  · rw [show j / 2 * 2 + 1 = j by omega] at h1
    rw [h1, if_neg (by omega)]
theorem made_m (n : Nat) : madeCells #[.bool false, .int .i64 0] (n * 2) = (mlFlat (List.replicate n ((false, 0) : Ml))).toArray := by
  apply Array.ext
  · simp [madeCells, mlFlat_len]
  · intro i h1 h2
    have hi : i < n * 2 := by simpa [madeCells] using h1
    have h := mlFlat_rep n i hi
    rw [List.getElem?_eq_getElem (by rw [mlFlat_len]; simpa using hi)] at h
    have h' := Option.some.inj h
    simp only [List.getElem_toArray]
    rw [h']
    unfold madeCells
    rcases (show i % 2 = 0 ∨ i % 2 = 1 by omega) with h2 | h2 <;> simp [h2]
end Go.Proofs.Ytgfdlllmcbgbcaa
