/- Slices that are read as lists of cells, and what keeps them. -/
import Derived.WalkKit
import Derived.Deep.Draws
import Derived.Deep.WholeRow
import Derived.Laws.IdiomStrings
import Derived.Lib.SlBytesConst
import Derived.Maps.AppendAt
namespace Go.Proofs.YtgbahnlgblahpaaGreat
open Go.RowKit

theorem hide {p : Prop} (h : p) : Hid p := h

/-- the slice value at A is read as the cells xs, which lie below block B; of an empty one nothing is asked -/
def Rd (w : World) (B : Nat) (A : Option Addr) (xs : List Value) : Prop :=
  xs ≠ [] → ∃ b off, A = some ⟨b, off, none⟩ ∧ b < B ∧ ∀ j u, xs[j]? = some u → w.cell? ⟨b, off + j, none⟩ = some u

section
variable {w w' : World} {B B' : Nat} {A : Option Addr} {xs : List Value}
theorem Rd.nil_ : Rd w B A [] := fun h => absurd rfl h
theorem Rd.at_ {k : Nat} (h : Rd w B A xs) (hk : k < xs.length) : ∃ b off, A = some ⟨b, off, none⟩ ∧ b < B ∧ ∀ j u, xs[j]? = some u → w.cell? ⟨b, off + j, none⟩ = some u :=
  h (fun e => by subst e; simp at hk)
theorem Rd.cell {b off : Nat} (h : Rd w B (some ⟨b, off, none⟩) xs) {j : Nat} {u : Value} (hu : xs[j]? = some u) : w.cell? ⟨b, off + j, none⟩ = some u := by
  obtain ⟨b', off', e, _, hc⟩ := h (fun e => by subst e; simp at hu)
  injection e with e
  injection e with e1 e2
  subst e1 e2
  exact hc j u hu
theorem Rd.keep (h : Rd w B A xs) (hk : ∀ p : Addr, p.block < B → w'.cell? p = w.cell? p) : Rd w' B A xs := fun hn => by
  obtain ⟨b, off, e, hb, hc⟩ := h hn
  exact ⟨b, off, e, hb, fun j u hu => (hk _ hb).trans (hc j u hu)⟩
theorem Rd.more (h : Rd w B A xs) (hB : B ≤ B') : Rd w B' A xs := fun hn => by
  obtain ⟨b, off, e, hb, hc⟩ := h hn
  exact ⟨b, off, e, by omega, hc⟩
theorem Rd.below (h : Rd w B A xs) (hb : Below B w w') : Rd w' B A xs := h.keep fun _ hp => hb.cell hp
theorem Rd.below' (h : Rd w B A xs) (hb : Below B' w w') (hB : B ≤ B') : Rd w' B A xs := h.keep fun _ hp => hb.cell (Nat.lt_of_lt_of_le hp hB)
theorem Rd.drewN (h : Rd w B A xs) (k : Nat) : Rd (w.drewN k) B A xs := h
theorem Rd.drew (h : Rd w B A xs) : Rd w.drew B A xs := h
theorem Rd.alloc (h : Rd w B A xs) (hB : B ≤ w.heap.size) (o : Obj) : Rd (w.alloc o) B A xs := h.keep fun p hp => World.cell?_alloc_lt w o p (by omega)
theorem Rd.cut (h : Rd w B A xs) {k cap : Nat} (hk : k ≤ xs.length) (hc : xs.length ≤ cap) :
    Rd w B (if cap = k then A else A.map (·.add k)) (xs.drop k) := fun hn => by
  have hlt : k < xs.length := by
    rcases Nat.lt_or_ge k xs.length with hlt | hge
    · exact hlt
    · exact absurd (List.drop_eq_nil_of_le hge) hn
  obtain ⟨b, off, rfl, hb, hcell⟩ := h (fun e => by subst e; simp at hlt)
  rw [if_neg (by omega)]
  refine ⟨b, off + k, by simp only [Option.map_some, Addr.add]; split <;> simp_all, hb, fun j u hu => ?_⟩
  rw [List.getElem?_drop] at hu
  rw [Nat.add_assoc]
  exact hcell _ u hu
theorem Rd.take (h : Rd w B A xs) (k : Nat) : Rd w B A (xs.take k) := fun hn => by
  obtain ⟨b, off, e, hb, hc⟩ := h (fun e => by subst e; simp at hn)
  refine ⟨b, off, e, hb, fun j u hu => hc j u ?_⟩
  rw [List.getElem?_take] at hu
  split at hu
  · exact hu
  · cases hu
end
theorem Rd.new (w : World) (C : Array Value) (t : TypeId) (fr : Nat × Nat) : Rd (w.alloc (.cells C t fr)) (w.heap.size + 1) (some ⟨w.heap.size, 0, none⟩) C.toList := fun _ =>
  ⟨w.heap.size, 0, rfl, by omega, fun j u hu => by rw [Nat.zero_add, World.cell?_alloc_mark, ← hu]; simp⟩

theorem add_plain (b o j : Nat) : (⟨b, o, none⟩ : Addr).add j = ⟨b, o + j, none⟩ := by unfold Addr.add; split <;> simp_all
section
variable {w w' : World} {B : Nat} {A : Option Addr} {xs : List Value}
theorem Rd.setCell (h : Rd w B A xs) {p : Addr} (hB : B ≤ p.block) (u : Value) : Rd (w.setCell p u) B A xs :=
  h.keep fun q hq => World.cell?_setCell_other w p q u (fun e => by subst e; omega)
theorem Rd.grown (h : Rd w B A xs) {row : Option Nat} (hg : w.grownBy w' row) (hB : B ≤ w.heap.size) (hr : ∀ g, row = some g → B ≤ g) : Rd w' B A xs :=
  h.keep fun p hp => World.cell?_of_block (hg.block p.block (by omega) (fun e => by have := hr _ e.symm; omega))
end

/-- what an owned value looks like -/
theorem own_form {w : World} {base : Nat} {e : TypeId} {size n : Nat} {v : Value} {xs : List Value} (h : w.ownsRow base e size v n xs) : ∃ A c, v = .slice A n c := by
  rcases h.2 with ⟨rfl, rfl⟩ | ⟨g, cap, cur, rfl, _⟩
  · exact ⟨_, _, rfl⟩
  · exact ⟨_, _, rfl⟩
/-- a row of the call's own that is not empty has an address -/
theorem own_addr {w : World} {base : Nat} {e : TypeId} {size n c : Nat} {A : Option Addr} {xs : List Value} (h : w.ownsRow base e size (.slice A n c) n xs) (hn : 0 < n) : ∃ g, A = some ⟨g, 0, none⟩ ∧ base ≤ g ∧ g < w.heap.size ∧ n ≤ c := by
  rcases h.2 with ⟨_, rfl⟩ | ⟨g, cap, cur, hv, hb, hg, hnc, _⟩
  · omega
  · injection hv with h1 _ h3
    subst h1 h3
    exact ⟨g, rfl, hb, lt_of_block hg, hnc⟩
theorem own_cap {w : World} {base : Nat} {e : TypeId} {size n c : Nat} {A : Option Addr} {xs : List Value} (h : w.ownsRow base e size (.slice A n c) n xs) : n ≤ c := by
  rcases h.2 with ⟨_, rfl⟩ | ⟨g, cap, cur, hv, hb, hg, hnc, _⟩
  · omega
  · injection hv with h1 _ h3
    subst h1 h3
    exact hnc
theorem own_block {A : Option Addr} {n c g : Nat} (h : A = some ⟨g, 0, none⟩) : (Value.slice A n c).ownBlock = some g := by subst h; rfl
theorem Rd.of_own {w : World} {base : Nat} {e : TypeId} {size n c : Nat} {A : Option Addr} {xs : List Value} (h : w.ownsRow base e size (.slice A n c) n xs) : Rd w w.heap.size A xs := fun hn => by
  have hlen := h.1
  have hpos : 0 < n := by
    rcases Nat.eq_zero_or_pos n with h0 | h0
    · subst h0
      rw [Nat.zero_mul] at hlen
      exact absurd (List.eq_nil_of_length_eq_zero hlen) hn
    · exact h0
  obtain ⟨g, rfl, _, hlt, _⟩ := own_addr h hpos
  refine ⟨g, 0, rfl, hlt, fun j u hu => ?_⟩
  rw [Nat.zero_add]
  have hj : j < xs.length := (List.getElem?_eq_some_iff.1 hu).1
  exact (h.cellAt j (by omega)).trans hu
theorem own_base {w : World} {base base' : Nat} {e : TypeId} {size n : Nat} {v : Value} {xs : List Value} (h : w.ownsRow base e size v n xs) (hb : base' ≤ base) : w.ownsRow base' e size v n xs := by
  refine ⟨h.1, ?_⟩
  rcases h.2 with h0 | ⟨g, cap, cur, hv, hg, hr⟩
  · exact .inl h0
  · exact .inr ⟨g, cap, cur, hv, Nat.le_trans hb hg, hr⟩
theorem own_below {w w' : World} {base B : Nat} {e : TypeId} {size n : Nat} {v : Value} {xs : List Value} (h : w.ownsRow base e size v n xs) (hb : Below B w w') (hB : ∀ g, v.ownBlock = some g → g < B) : w'.ownsRow base e size v n xs := by
  refine ⟨h.1, ?_⟩
  rcases h.2 with h0 | ⟨g, cap, cur, hv, hg, hc, hr⟩
  · exact .inl h0
  · exact .inr ⟨g, cap, cur, hv, hg, (hb.block g (hB g (by rw [hv]; rfl))).trans hc, hr⟩

section
variable {P : Program} {w : World}
theorem run_app_nil (base : Nat) (t ty e : TypeId) (i : TypeInfo) (size : Nat) (ht : P.underlying t = some (.slice e)) (hi : P.info? e = some i)
    (v : Value) (n : Nat) (xs : List Value) (hown : w.ownsRow base e size v n xs) (c : Nat) : (Builtin.append_ #[t, t] ty #[v, .slice none 0 c]).run P w = .ok v w := by
  rcases hown.2 with ⟨rfl, rfl⟩ | ⟨g, cap, cur, rfl, _, _, hnc, _⟩
  · simp [Builtin.append_, run_underlying ht, sizeOf, typeInfo, hi, Builtin.lenOf, Builtin.firstCells]
  · simp [Builtin.append_, run_underlying ht, sizeOf, typeInfo, hi, Builtin.lenOf, Builtin.firstCells, hnc, storeCells]

/-- append onto a row of the call's own, of whatever is read as a list -/
theorem run_app (base : Nat) (t ty e : TypeId) (i : TypeInfo) (z : Value) (size bytes : Nat) (ht : P.underlying t = some (.slice e)) (hi : P.info? e = some i) (hz : i.zero = some z)
    (hsize : i.size = size) (hby : i.bytes = bytes) (hzs : z.cells.size = size) (hsz : 0 < size)
    (v : Value) (n : Nat) (xs : List Value) (hown : w.ownsRow base e size v n xs)
    (B : Nat) (A : Option Addr) (m c : Nat) (news : List Value) (hl : news.length = m * size) (hr : Rd w B A news) (h1 : ∀ u ∈ news, u.oneCell' = true)
    (h63 : n + m ≤ maxLen) (hbytes : (n + m) * bytes ≤ 140737488355328) (hbase : base ≤ w.heap.size) :
    ∃ A' c' w', (Builtin.append_ #[t, t] ty #[v, .slice A m c]).run P w = .ok (.slice A' (n + m) c') w' ∧ w'.ownsRow base e size (.slice A' (n + m) c') (n + m) (xs ++ news) ∧ w.grownBy w' v.ownBlock ∧
      ((Value.slice A' (n + m) c').ownBlock = v.ownBlock ∨ (Value.slice A' (n + m) c').ownBlock = some w.heap.size) := by
  rcases A with _ | ad
  · have hn : news = [] := by
      rcases Classical.em (news = []) with h | h
      · exact h
      · obtain ⟨b, off, h, _⟩ := hr h
        cases h
    subst hn
    have hm : m = 0 := by
      rcases Nat.eq_zero_or_pos m with h0 | h0
      · exact h0
      · have := Nat.mul_pos h0 hsz
        simp at hl
        omega
    subst hm
    obtain ⟨A', c', rfl⟩ := own_form hown
    exact ⟨A', c', w, run_app_nil base t ty e i size ht hi _ n xs hown c, by simpa using hown, World.grownBy.refl w _, .inl rfl⟩
  · have hcells : ∀ j u, news[j]? = some u → w.cell? (ad.add j) = some u := by
      intro j u hu
      obtain ⟨b, off, h, _, hc⟩ := hr (fun e => by subst e; simp at hu)
      injection h with h
      subst h
      rw [add_plain]
      exact hc j u hu
    obtain ⟨v', w', hrun, h2, h3, _, h5⟩ := run_append_own_at (P := P) w base t ty e i z size bytes ht hi hz hsize hby hzs hsz v n xs hown ad m c news hl hcells h1 h63 hbytes hbase
    obtain ⟨A', c', rfl⟩ := own_form h2
    exact ⟨A', c', w', hrun, h2, h3, h5⟩

theorem wpList_app {ops : Array Oper} {rest : List Oper} {o : Oper} {a : Act} {Q : Exit → Act → World → Prop} (hgd : o.guard = none) (s x : Operand) (t : TypeId)
    (ho : o.op = .call { callee := .builtin .append, args := #[s, x], argTypes := #[t, t] })
    (base : Nat) (e : TypeId) (i : TypeInfo) (z : Value) (size bytes : Nat) (ht : P.underlying t = some (.slice e)) (hi : P.info? e = some i) (hz : i.zero = some z)
    (hsize : i.size = size) (hby : i.bytes = bytes) (hzs : z.cells.size = size) (hsz : 0 < size)
    (v : Value) (n : Nat) (xs : List Value) (hs : a.eval s = v) (hown : w.ownsRow base e size v n xs)
    (B : Nat) (A : Option Addr) (m c : Nat) (news : List Value) (hx : a.eval x = .slice A m c) (hl : news.length = m * size) (hr : Rd w B A news) (h1 : ∀ u ∈ news, u.oneCell' = true)
    (h63 : n + m ≤ maxLen) (hbytes : (n + m) * bytes ≤ 140737488355328) (hbase : base ≤ w.heap.size)
    (h : ∀ A' c' w', w'.ownsRow base e size (.slice A' (n + m) c') (n + m) (xs ++ news) → w.grownBy w' v.ownBlock →
      ((Value.slice A' (n + m) c').ownBlock = v.ownBlock ∨ (Value.slice A' (n + m) c').ownBlock = some w.heap.size) → wpList P ops Q rest (a.put o.dst (.slice A' (n + m) c')) w') : wpList P ops Q (o :: rest) a w := by
  refine wpList_plain hgd fun K hK => ?_
  obtain ⟨A', c', w', hrun, h2, h3, h4⟩ := run_app (P := P) (w := w) base t o.type e i z size bytes ht hi hz hsize hby hzs hsz v n xs hown B A m c news hl hr h1 h63 hbytes hbase
  unfold Oper.wp execOp
  simp only [ho, resolve, invoke, builtin, Sem.run_bind, Sem.run_pure, Result.andThen_ok, List.map_toArray, List.map_cons, List.map_nil, hs, hx, hrun]
  exact hK _ _ (h A' c' w' h2 h3 h4)
end
/-- behind such an append: what was below the row's base is as it was -/
theorem app_below {w w0 w' : World} {base B : Nat} {e : TypeId} {size n : Nat} {v : Value} {xs : List Value} (hb : Below B w0 w) (hown : w.ownsRow base e size v n xs) (hg : w.grownBy w' v.ownBlock) (hB : B ≤ w.heap.size) (hbase : B ≤ base) : Below B w0 w' :=
  hb.grown hg hB (fun k hk => Nat.le_trans hbase (hown.lt k hk).1)

theorem below_undrew {B : Nat} {a w : World} (h : Below B a.drew w) : Below B a w := ⟨h.os, h.tape, h.output, h.size, h.block⟩
theorem below_undrewN {B n : Nat} {a w : World} (h : Below B (a.drewN n) w) : Below B a w := ⟨h.os, h.tape, h.output, h.size, h.block⟩
theorem below_drewN {B : Nat} {a w : World} (h : Below B a w) (n : Nat) : Below B a (w.drewN n) := ⟨h.os, h.tape, h.output, h.size, h.block⟩

/-- bytes, as the cells that hold them -/
def u8s (bs : List UInt8) : List Value := bs.map fun c => .int .u8 (c.toNat : Int)
theorem u8s_len (bs : List UInt8) : (u8s bs).length = bs.length := by simp [u8s]
theorem u8s_get {bs : List UInt8} {k : Nat} (h : k < bs.length) : (u8s bs)[k]? = some (.int .u8 ((bs[k]).toNat : Int)) := by simp [u8s, h]
theorem u8s_drop (bs : List UInt8) (k : Nat) : (u8s bs).drop k = u8s (bs.drop k) := by simp [u8s]
theorem u8s_take (bs : List UInt8) (k : Nat) : (u8s bs).take k = u8s (bs.take k) := by simp [u8s]
theorem u8s_one (bs : List UInt8) : ∀ u ∈ u8s bs, u.oneCell' = true := by
  intro u hu
  simp only [u8s, List.mem_map] at hu
  obtain ⟨c, _, rfl⟩ := hu
  rfl
/-- truth values, as the cells that hold them -/
def bools (l : List Bool) : List Value := l.map Value.bool
theorem bools_len (l : List Bool) : (bools l).length = l.length := by simp [bools]
theorem bools_get {l : List Bool} {k : Nat} (h : k < l.length) : (bools l)[k]? = some (.bool l[k]) := by simp [bools, h]
theorem bools_append (a b : List Bool) : bools a ++ bools b = bools (a ++ b) := by simp [bools]
theorem bools_set (l : List Bool) (k : Nat) (b : Bool) : (bools l).set k (.bool b) = bools (l.set k b) := by simp [bools, List.map_set]
theorem bools_one (l : List Bool) : ∀ u ∈ bools l, u.oneCell' = true := by
  intro u hu
  simp only [bools, List.mem_map] at hu
  obtain ⟨c, _, rfl⟩ := hu
  rfl
theorem u8s_append (a b : List UInt8) : u8s a ++ u8s b = u8s (a ++ b) := by simp [u8s]

/-- a slice at A of elements of so many cells each: each element's cells are such that E holds of them; nothing is asked of an empty one -/
def Els {X : Type} (w : World) (B size : Nat) (A : Option Addr) (xs : List X) (E : List Value → X → Prop) : Prop :=
  xs ≠ [] → ∃ b off, A = some ⟨b, off, none⟩ ∧ b < B ∧ ∀ i x, xs[i]? = some x → ∃ cs, cs.length = size ∧ E cs x ∧ ∀ j u, cs[j]? = some u → w.cell? ⟨b, off + (i * size + j), none⟩ = some u
section
variable {X : Type} {w w' : World} {B B' size : Nat} {A : Option Addr} {xs : List X} {E E' : List Value → X → Prop}
theorem Els.nil_ : Els w B size A [] E := fun h => absurd rfl h
theorem Els.keep (h : Els w B size A xs E) (hk : ∀ p : Addr, p.block < B → w'.cell? p = w.cell? p) (hE : ∀ cs x, E cs x → E' cs x) : Els w' B size A xs E' := fun hn => by
  obtain ⟨b, off, e, hb, hc⟩ := h hn
  refine ⟨b, off, e, hb, fun i x hx => ?_⟩
  obtain ⟨cs, hl, h1, h2⟩ := hc i x hx
  exact ⟨cs, hl, hE _ _ h1, fun j u hu => (hk _ hb).trans (h2 j u hu)⟩
theorem Els.more (h : Els w B size A xs E) (hB : B ≤ B') : Els w B' size A xs E := fun hn => by
  obtain ⟨b, off, e, hb, hc⟩ := h hn
  exact ⟨b, off, e, by omega, hc⟩
theorem Els.at_ (h : Els w B size A xs E) {i : Nat} (hi : i < xs.length) : ∃ b off, A = some ⟨b, off, none⟩ ∧ b < B := by
  obtain ⟨b, off, e, hb, _⟩ := h (fun e => by subst e; simp at hi)
  exact ⟨b, off, e, hb⟩
theorem Els.get {b off : Nat} (h : Els w B size (some ⟨b, off, none⟩) xs E) {i : Nat} {x : X} (hx : xs[i]? = some x) : ∃ cs, cs.length = size ∧ E cs x ∧ ∀ j u, cs[j]? = some u → w.cell? ⟨b, off + (i * size + j), none⟩ = some u := by
  obtain ⟨b', off', e, _, hc⟩ := h (fun e => by subst e; simp at hx)
  injection e with e
  injection e with e1 e2
  subst e1 e2
  exact hc i x hx
end

theorem Els.rd {X : Type} {w : World} {B : Nat} {A : Option Addr} {xs : List X} {E : List Value → X → Prop} (h : Els w B 1 A xs E) (f : X → Value) (hf : ∀ cs x, E cs x → cs = [f x]) : Rd w B A (xs.map f) := fun hn => by
  obtain ⟨b, off, rfl, hb, hc⟩ := h (fun e => by subst e; simp at hn)
  refine ⟨b, off, rfl, hb, fun j u hu => ?_⟩
  rw [List.getElem?_map, Option.map_eq_some_iff] at hu
  obtain ⟨x, hx, rfl⟩ := hu
  obtain ⟨cs, _, h1, h2⟩ := hc j x hx
  have := h2 0 (f x) (by rw [hf _ _ h1]; rfl)
  simpa using this

/-- rows of bytes: each is told by its address, its bytes, its capacity -/
abbrev Row := Option Addr × List UInt8 × Nat
def rowCells (w : World) (B : Nat) (cs : List Value) (r : Row) : Prop := cs = [.slice r.1 r.2.1.length r.2.2] ∧ Rd w B r.1 (u8s r.2.1)
def Rows (w : World) (B : Nat) (A : Option Addr) (rs : List Row) : Prop := Els w B 1 A rs (rowCells w B)
section
variable {w w' : World} {B B' : Nat} {A : Option Addr} {rs : List Row}
theorem Rows.keep (h : Rows w B A rs) (hk : ∀ p : Addr, p.block < B → w'.cell? p = w.cell? p) : Rows w' B A rs :=
  Els.keep h hk fun _ _ hE => ⟨hE.1, hE.2.keep hk⟩
theorem Rows.below (h : Rows w B A rs) (hb : Below B' w w') (hB : B ≤ B') : Rows w' B A rs := h.keep fun _ hp => hb.cell (Nat.lt_of_lt_of_le hp hB)
theorem Rows.at_ (h : Rows w B A rs) {i : Nat} (hi : i < rs.length) : ∃ b off, A = some ⟨b, off, none⟩ ∧ b < B := Els.at_ h hi
theorem Rows.cell {b off : Nat} (h : Rows w B (some ⟨b, off, none⟩) rs) {i : Nat} (hi : i < rs.length) : w.cell? ⟨b, off + i, none⟩ = some (.slice rs[i].1 rs[i].2.1.length rs[i].2.2) := by
  obtain ⟨cs, _, ⟨rfl, _⟩, hc⟩ := Els.get h (List.getElem?_eq_getElem hi)
  have := hc 0 _ rfl
  simpa using this
theorem Rows.row (h : Rows w B A rs) {i : Nat} (hi : i < rs.length) : Rd w B rs[i].1 (u8s rs[i].2.1) := by
  obtain ⟨b, off, rfl, _⟩ := Rows.at_ h hi
  obtain ⟨cs, _, ⟨_, hr⟩, _⟩ := Els.get h (List.getElem?_eq_getElem hi)
  exact hr
end

/-- a row of n cells, the first k of them filled -/
def fillTo (f : Nat → Value) (z : Value) (n k : Nat) : Array Value := ((List.range n).map fun j => if j < k then f j else z).toArray
theorem fillTo_size (f : Nat → Value) (z : Value) (n k : Nat) : (fillTo f z n k).size = n := by simp [fillTo]
theorem fillTo_get (f : Nat → Value) (z : Value) (n k : Nat) {i : Nat} (h : i < n) : (fillTo f z n k)[i]? = some (if i < k then f i else z) := by
  simp [fillTo, h]
theorem fillTo_next (f : Nat → Value) (z : Value) (n k : Nat) (h : k < n) : (fillTo f z n k)[k]? = some z := by
  rw [fillTo_get f z n k h, if_neg (Nat.lt_irrefl _)]
theorem fillTo_set (f : Nat → Value) (z : Value) (n k : Nat) : (fillTo f z n k).setIfInBounds k (f k) = fillTo f z n (k + 1) := by
  apply Array.ext
  · simp [fillTo_size]
  · intro i h1 h2
    have hi : i < n := by simpa [fillTo_size] using h2
    have e2 := fillTo_get f z n (k + 1) hi
    have e1 := fillTo_get f z n k hi
    rw [Array.getElem?_eq_getElem h2] at e2
    rw [Array.getElem?_eq_getElem (by simpa [fillTo_size] using hi)] at e1
    simp only [Option.some.injEq] at e1 e2
    rw [Array.getElem_setIfInBounds (by simpa [fillTo_size] using hi), e1, e2]
    by_cases hk : k = i
    · subst hk; simp
    · rw [if_neg hk]
      by_cases hlt : i < k
      · rw [if_pos hlt, if_pos (by omega)]
      · rw [if_neg hlt, if_neg (by omega)]
theorem fillTo_all (f : Nat → Value) (z : Value) (n : Nat) : (fillTo f z n n).toList = (List.range n).map f := by
  unfold fillTo
  show ((List.range n).map _) = _
  exact List.map_congr_left fun j hj => by rw [if_pos (by simpa using hj)]
/-- a block that is known whole, as it is read -/
theorem Rd.of_block {w : World} {g : Nat} {cs : Array Value} {t : TypeId} {fr : Nat × Nat} (h : w.heap[g]? = some (.cells cs t fr)) : Rd w w.heap.size (some ⟨g, 0, none⟩) cs.toList := fun _ =>
  ⟨g, 0, rfl, lt_of_block h, fun j u hu => by rw [Nat.zero_add, cell_of_row w g j cs t fr h, ← hu]; simp⟩

/-! ### between bytes and strings -/
section
variable {P : Program}
theorem run_string_of (w : World) (src dst e : TypeId) (A : Option Addr) (cap B : Nat) (bs : List UInt8) (hs : P.underlying src = some (.slice e)) (he : P.underlying e = some (.int .u8)) (hd : P.underlying dst = some .string)
    (hr : Rd w B A (u8s bs)) : (convert src dst (.slice A bs.length cap)).run P w = .ok (.string ⟨bs.toArray⟩) w := by
  rcases A with _ | a
  · have hn : bs = [] := by
      rcases Classical.em (bs = []) with h | h
      · exact h
      · obtain ⟨b, off, h, _⟩ := hr (fun e => h (by simpa [u8s] using e))
        cases h
    subst hn
    rw [run_convert_bytes_string w src dst e none _ cap hs he hd]
    rfl
  · refine run_convert_bytes_back w src dst e a cap bs hs he hd (fun j hj => ?_)
    obtain ⟨b, off, h, _, hc⟩ := hr (fun e => by simp [u8s] at e; subst e; simp at hj)
    injection h with h
    subst h
    rw [add_plain]
    exact hc j _ (u8s_get hj)
/-- what '[]byte(s)' lays, as it is read -/
theorem Rd.bytesRow (w : World) (t : TypeId) (s : ByteArray) (cap : Nat) (fr : Nat × Nat) : Rd (w.alloc (.cells (bytesRow s cap) t fr)) (w.heap.size + 1) (some ⟨w.heap.size, 0, none⟩) (u8s s.data.toList) := fun _ =>
  ⟨w.heap.size, 0, rfl, by omega, fun j u hu => by
    have hj : j < s.data.size := by
      have := (List.getElem?_eq_some_iff.1 hu).1
      simpa [u8s] using this
    rw [Nat.zero_add, World.cell?_alloc_mark, bytesRow_at s cap j hj, ← hu]
    simp only [u8s, List.getElem?_map, Array.getElem?_toList, Array.getElem?_eq_getElem hj, Option.map_some]⟩
theorem bytes_frozen (w : World) (t : TypeId) (s : ByteArray) (cap j : Nat) (hj : j < s.size) :
    (w.alloc (.cells (Go.bytesRow s cap) t ((Go.bytesRow s cap).size, (Go.bytesRow s cap).size + 1))).frozen? ⟨w.heap.size, j, none⟩ = false := by
  rw [World.frozen?_alloc_mark]
  have h1 : (Go.bytesRow s cap).size ≥ s.size := by
    unfold Go.bytesRow
    have : s.data.size = s.size := rfl
    simp
  rw [decide_eq_false (by omega), Bool.false_and]
/-- the world behind '[]byte(s)' -/
def bytesWorld (w : World) (e : TypeId) (bs : List UInt8) : World :=
  (w.alloc (.cells (bytesRow ⟨bs.toArray⟩ (grownCap w bs.length 0 e)) e ((bytesRow ⟨bs.toArray⟩ (grownCap w bs.length 0 e)).size, (bytesRow ⟨bs.toArray⟩ (grownCap w bs.length 0 e)).size + 1))).drew
theorem run_bytes_of (w : World) (src dst e : TypeId) (bs : List UInt8) (hs : P.underlying src = some .string) (hd : P.underlying dst = some (.slice e)) (he : P.underlying e = some (.int .u8)) :
    (convert src dst (.string ⟨bs.toArray⟩)).run P w = .ok (.slice (some ⟨w.heap.size, 0, none⟩) bs.length (grownCap w bs.length 0 e)) (bytesWorld w e bs) :=
  run_bytes_of_string w src dst e ⟨bs.toArray⟩ hs hd he
theorem bytesWorld_size (w : World) (e : TypeId) (bs : List UInt8) : (bytesWorld w e bs).heap.size = w.heap.size + 1 := by
  unfold bytesWorld; simp
theorem bytesWorld_below (w : World) (e : TypeId) (bs : List UInt8) : Below w.heap.size w (bytesWorld w e bs) :=
  ((Below.refl _ _).alloc (Nat.le_refl _) _).drew
theorem bytesWorld_rd (w : World) (e : TypeId) (bs : List UInt8) : Rd (bytesWorld w e bs) (w.heap.size + 1) (some ⟨w.heap.size, 0, none⟩) (u8s bs) :=
  Rd.bytesRow w e ⟨bs.toArray⟩ _ _
theorem bytesWorld_frozen (w : World) (e : TypeId) (bs : List UInt8) {j : Nat} (hj : j < bs.length) : (bytesWorld w e bs).frozen? ⟨w.heap.size, j, none⟩ = false :=
  bytes_frozen w e ⟨bs.toArray⟩ _ j hj
end

end Go.Proofs.YtgbahnlgblahpaaGreat
