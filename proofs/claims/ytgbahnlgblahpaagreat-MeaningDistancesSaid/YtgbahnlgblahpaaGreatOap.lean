/- Append as one operation of a region; edges as a flat row. -/
import Derived.Test.YtgbahnlgblahpaaGreatEdg
import Derived.Test.YtgbahnlgblahpaaGreatRgl
namespace Go.Proofs.YtgbahnlgblahpaaGreat
open Go.RowKit
set_option linter.unusedVariables false
section
variable {P : Program} {w : World}
theorem op_app {o : Oper} {a : Act} {K : Act → World → Prop} {Q : Exit → Act → World → Prop} (s x : Operand) (t : TypeId)
    (ho : o.op = .call { callee := .builtin .append, args := #[s, x], argTypes := #[t, t] })
    (base : Nat) (e : TypeId) (i : TypeInfo) (z : Value) (size bytes : Nat) (ht : P.underlying t = some (.slice e)) (hi : P.info? e = some i) (hz : i.zero = some z)
    (hsize : i.size = size) (hby : i.bytes = bytes) (hzs : z.cells.size = size) (hsz : 0 < size)
    (v : Value) (n : Nat) (xs : List Value) (hs : a.eval s = v) (hown : w.ownsRow base e size v n xs)
    (B : Nat) (A : Option Addr) (m c : Nat) (news : List Value) (hx : a.eval x = .slice A m c) (hl : news.length = m * size) (hr : Rd w B A news) (h1 : ∀ u ∈ news, u.oneCell' = true)
    (h63 : n + m ≤ maxLen) (hbytes : (n + m) * bytes ≤ 140737488355328) (hbase : base ≤ w.heap.size)
    (h : ∀ A' c' w', w'.ownsRow base e size (.slice A' (n + m) c') (n + m) (xs ++ news) → w.grownBy w' v.ownBlock →
      ((Value.slice A' (n + m) c').ownBlock = v.ownBlock ∨ (Value.slice A' (n + m) c').ownBlock = some w.heap.size) → K (a.put o.dst (.slice A' (n + m) c')) w') : Oper.wp P o a w K Q := by
  obtain ⟨A', c', w', hrun, h2, h3, h4⟩ := run_app (P := P) (w := w) base t o.type e i z size bytes ht hi hz hsize hby hzs hsz v n xs hown B A m c news hl hr h1 h63 hbytes hbase
  unfold Oper.wp execOp
  simp only [ho, resolve, invoke, builtin, Sem.run_bind, Sem.run_pure, Result.andThen_ok, List.map_toArray, List.map_cons, List.map_nil, hs, hx, hrun]
  exact h A' c' w' h2 h3 h4
end
/-- edges, cell by cell -/
def edFlat (es : List Ed) : List Value := es.flatMap fun e => [.int .i64 e.1, .int .i64 e.2.1, .int .i64 e.2.2]
theorem edFlat_len (es : List Ed) : (edFlat es).length = es.length * 3 := by
  induction es with
  | nil => rfl
  | cons e es ih => unfold edFlat at ih ⊢; rw [List.flatMap_cons, List.length_append, ih, List.length_cons]; simp; omega
theorem edFlat_app (a b : List Ed) : edFlat a ++ edFlat b = edFlat (a ++ b) := by simp [edFlat]
theorem edFlat_one (es : List Ed) : ∀ u ∈ edFlat es, u.oneCell' = true := by
  intro u hu
  unfold edFlat at hu
  rw [List.mem_flatMap] at hu
  obtain ⟨e, _, he⟩ := hu
  simp at he
  rcases he with rfl | rfl | rfl <;> rfl
theorem edFlat_get {es : List Ed} : ∀ {i : Nat} {e : Ed}, es[i]? = some e → ∀ j u, ([.int .i64 e.1, .int .i64 e.2.1, .int .i64 e.2.2] : List Value)[j]? = some u → (edFlat es)[i * 3 + j]? = some u := by
  induction es with
  | nil => intro i e h; simp at h
  | cons x es ih =>
    intro i e h j u hu
    have hj : j < 3 := by
      rcases Nat.lt_or_ge j 3 with h | h
      · exact h
      · rw [List.getElem?_eq_none (by simpa using h)] at hu; cases hu
    unfold edFlat
    rw [List.flatMap_cons]
    cases i with
    | zero =>
      simp only [List.getElem?_cons_zero, Option.some.injEq] at h
      subst h
      rw [List.getElem?_append_left (by simp; omega), Nat.zero_mul, Nat.zero_add]
      exact hu
    | succ i =>
      rw [List.getElem?_append_right (by simp; omega)]
      have := ih (i := i) (by simpa using h) j u hu
      unfold edFlat at this
      rw [← this]
      congr 1
      simp
      omega
def wt (es : List Ed) : Prop := ∀ e ∈ es, -9223372036854775808 ≤ e.2.2 ∧ e.2.2 ≤ 9223372036854775807
theorem wt_of {es : List Ed} (h : (es.all fun e => decide (-9223372036854775808 ≤ e.2.2) && decide (e.2.2 ≤ 9223372036854775807)) = true) : wt es := fun e he => by
  have := List.all_eq_true.1 h e he
  simpa using this
theorem Eds.of_rd {w : World} {B : Nat} {A : Option Addr} {es : List Ed} (h : Rd w B A (edFlat es)) (hw : wt es) : Eds w B A es := fun hn => by
  obtain ⟨b, off, rfl, hb, hc⟩ := h (fun e => hn (List.eq_nil_of_length_eq_zero (by have := edFlat_len es; rw [e] at this; simp at this; omega)))
  refine ⟨b, off, rfl, hb, fun i x hx => ⟨[.int .i64 x.1, .int .i64 x.2.1, .int .i64 x.2.2], rfl, ⟨rfl, hw x (List.mem_of_getElem? hx)⟩, fun j u hu => hc _ _ (edFlat_get hx j u hu)⟩⟩
theorem Eds.rd {w : World} {B : Nat} {A : Option Addr} {es : List Ed} (h : Eds w B A es) : Rd w B A (edFlat es) := fun hn => by
  obtain ⟨b, off, rfl, hb, hc⟩ := h (fun e => by subst e; exact hn rfl)
  refine ⟨b, off, rfl, hb, fun j u hu => ?_⟩
  have hj := (List.getElem?_eq_some_iff.1 hu).1
  rw [edFlat_len] at hj
  have hi : j / 3 < es.length := by omega
  obtain ⟨cs, hl, ⟨rfl, _⟩, hcc⟩ := hc (j / 3) _ (List.getElem?_eq_getElem hi)
  have hjj : j / 3 * 3 + j % 3 = j := by omega
  have h3 : j % 3 < 3 := by omega
  obtain ⟨u', hu'⟩ : ∃ u', ([.int .i64 es[j / 3].1, .int .i64 es[j / 3].2.1, .int .i64 es[j / 3].2.2] : List Value)[j % 3]? = some u' := by
    rcases (show j % 3 = 0 ∨ j % 3 = 1 ∨ j % 3 = 2 by omega) with h | h | h <;> rw [h] <;> exact ⟨_, rfl⟩
  have h1 := edFlat_get (List.getElem?_eq_getElem hi) (j % 3) u' hu'
  rw [hjj, hu] at h1
  obtain rfl : u = u' := by simpa using h1
  have := hcc (j % 3) _ hu'
  rw [hjj] at this
  exact this
theorem Eds.wt {w : World} {B : Nat} {A : Option Addr} {es : List Ed} (h : Eds w B A es) : wt es := fun e he => by
  obtain ⟨i, hi⟩ := List.getElem?_of_mem he
  obtain ⟨b, off, rfl, hb⟩ := Els.at_ h (List.getElem?_eq_some_iff.1 hi).1
  obtain ⟨cs, hl, ⟨_, h1⟩, _⟩ := Els.get h hi
  exact h1
/-- a graph that a function has made -/
def GraphPost (w : World) (V : Int) (es : List Ed) (e : Ending) (w' : World) : Prop := ∃ A c, e = .returned (.agg #[.int .i64 V, .slice A es.length c]) ∧ Eds w' w'.heap.size A es ∧ es.length ≤ c ∧ c ≤ 9223372036854775807 ∧ Below w.heap.size w w'
end Go.Proofs.YtgbahnlgblahpaaGreat
