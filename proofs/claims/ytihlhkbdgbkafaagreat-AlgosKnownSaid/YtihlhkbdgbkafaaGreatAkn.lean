/- The walk of the statement AlgosKnown. (printed by gen/akn.py) -/
import Derived.Test.YtihlhkbdgbkafaaGreatAkw
import Derived.Test.YtihlhkbdgbkafaaGreatSej
import Derived.Test.YtihlhkbdgbkafaaGreatTg
import Derived.Deep.DeepCutAuto
import Derived.Deep.CutBlock
import Derived.Great.BuildSlice
namespace Go.Proofs.YtihlhkbdgbkafaaGreat
open Go.ChangeShapes Go.WideShapes Go.ChangeAt Go.RowKit
set_option linter.unusedVariables false
set_option linter.unusedSimpArgs false
def JobB (k j1 j2 j3 j4 : Int) : Prop := (0 ≤ k ∧ k ≤ 255) ∧ i64B j1 ∧ i64B j2 ∧ i64B j3 ∧ i64B j4
theorem ib (x : Int) (h1 : -9223372036854775808 ≤ x) (h2 : x ≤ 9223372036854775807) : i64B x := ⟨h1, h2⟩
theorem kCheck (w : World) (V : Int) (hV : -9223372036854775808 ≤ V ∧ V ≤ 9223372036854775807) (A : Option Addr) (es : List Ed) (n c : Nat) (hn : es.length = n) (hE : Eds w w.heap.size A es) (hl : n ≤ c) (hc : c ≤ 9223372036854775807) (hB : ∀ e ∈ es, edB e) (k j1 j2 j3 j4 : Int) (hj : JobB k j1 j2 j3 j4) (v st mo : Int) (hv : i64B v) (hst : i64B st) (hmo : i64B mo) :
    Calls Tryz.prog 5 #[.agg #[.int .i64 V, .slice A n c], .agg #[.int .u8 k, .int .i64 j1, .int .i64 j2, .int .i64 j3, .int .i64 j4], .int .i64 v, .int .i64 st, .int .i64 mo] w fun e w' => e = .returned (.bool true) ∧ Below w.heap.size w w' := by
  subst hn
  exact algosCheck_walk w V A es c hV.1 hV.2 hE hl hc hB k j1 j2 j3 j4 hj.1 hj.2.1 hj.2.2.1 hj.2.2.2.1 hj.2.2.2.2 v hv.1 hv.2 st hst.1 hst.2 mo hmo.1 hmo.2
theorem kCompute (w : World) (k j1 j2 j3 j4 : Int) (hj : JobB k j1 j2 j3 j4) (V v : Int) (has : Bool) (x su : Int) (hV : i64B V) (hv : i64B v) (hx : i64B x) (hs : i64B su) :
    Calls Tryz.prog 6 #[.agg #[.int .u8 k, .int .i64 j1, .int .i64 j2, .int .i64 j3, .int .i64 j4], .int .i64 V, .int .i64 v, .agg #[.bool has, .int .i64 x], .int .i64 su] w fun e w' => e = .returned (.bool true) ∧ Below w.heap.size w w' :=
  algosCompute_walk w k j1 j2 j3 j4 hj.1 hj.2.1 hj.2.2.1 hj.2.2.2.1 hj.2.2.2.2 V hV.1 hV.2 v hv.1 hv.2 has x hx.1 hx.2 su hs.1 hs.2
theorem kOrder (w : World) (k j1 j2 j3 j4 : Int) (hj : JobB k j1 j2 j3 j4) (a b c : Int) (ha : i64B a) (hb : i64B b) (hc : i64B c) :
    Calls Tryz.prog 7 #[.agg #[.int .u8 k, .int .i64 j1, .int .i64 j2, .int .i64 j3, .int .i64 j4], .int .i64 a, .int .i64 b, .int .i64 c] w fun e w' => e = .returned (.bool true) ∧ Below w.heap.size w w' :=
  algosOrder_walk w k j1 j2 j3 j4 hj.1 hj.2.1 hj.2.2.1 hj.2.2.2.1 hj.2.2.2.2 a ha.1 ha.2 b hb.1 hb.2 c hc.1 hc.2
theorem kPart (w : World) (k j1 j2 j3 j4 : Int) (hj : JobB k j1 j2 j3 j4) (was val : Int) (hw : i64B was) (hv : i64B val) (chg : Bool) (A : Option Addr) (es : List Ed) (n c : Nat) (hn : es.length = n) (hE : Eds w w.heap.size A es) (hl : n ≤ c) (hc : c ≤ 9223372036854775807) (hB : ∀ e ∈ es, edB e) (a1 a2 b1 b2 : Int) (ha1 : i64B a1) (ha2 : i64B a2) (hb1 : i64B b1) (hb2 : i64B b2) :
    Calls Tryz.prog 8 #[.agg #[.int .u8 k, .int .i64 j1, .int .i64 j2, .int .i64 j3, .int .i64 j4], .int .i64 was, .int .i64 val, .bool chg, .slice A n c, .agg #[.int .i64 a1, .int .i64 a2], .agg #[.int .i64 b1, .int .i64 b2]] w fun e w' => e = .returned (.bool true) ∧ Below w.heap.size w w' := by
  subst hn
  exact algosPart_walk w k j1 j2 j3 j4 hj.1 hj.2.1 hj.2.2.1 hj.2.2.2.1 hj.2.2.2.2 was hw.1 hw.2 val hv.1 hv.2 chg A es c hE hl hc hB a1 a2 ha1 ha2 b1 b2 hb1 hb2
theorem kSend (w : World) (k j1 j2 j3 j4 : Int) (hj : JobB k j1 j2 j3 j4) (v y : Int) (hv : i64B v) (hy : i64B y) (ch : Bool) (A1 : Option Addr) (outs : List Ed) (n1 c1 : Nat) (hn1 : outs.length = n1) (e1 : Eds w w.heap.size A1 outs) (hl1 : n1 ≤ c1) (hc1 : c1 ≤ 9223372036854775807) (hB1 : ∀ e ∈ outs, edB e)
    (A2 : Option Addr) (backs : List Ed) (n2 c2 : Nat) (hn2 : backs.length = n2) (e2 : Eds w w.heap.size A2 backs) (hl2 : n2 ≤ c2) (hc2 : c2 ≤ 9223372036854775807) (hB2 : ∀ e ∈ backs, edB e) :
    Calls Tryz.prog 9 #[.agg #[.int .u8 k, .int .i64 j1, .int .i64 j2, .int .i64 j3, .int .i64 j4], .int .i64 v, .int .i64 y, .bool ch, .slice A1 n1 c1, .slice A2 n2 c2] w fun e w' => e = .returned (.bool true) ∧ Below w.heap.size w w' := by
  subst hn1 hn2
  exact algosSend_walk w k j1 j2 j3 j4 hj.1 hj.2.1 hj.2.2.1 hj.2.2.2.1 hj.2.2.2.2 v hv.1 hv.2 y hy.1 hy.2 ch A1 outs c1 e1 hl1 hc1 hB1 A2 backs c2 e2 hl2 hc2 hB2
def ten : List Int := [0, 1, 5, 4294967296, 4294967297, 4611686018427387904, 4611686018427387905, -1, -9223372036854775808, 9223372036854775807]
def tenA (k : Nat) : Int := ten.getD k 0
theorem ten_bound (k : Nat) : i64B (tenA k) := by
  unfold tenA i64B
  rcases k with _ | _ | _ | _ | _ | _ | _ | _ | _ | _ | k <;> simp [ten]
theorem Eds.cut {w : World} {B b off : Nat} {es : List Ed} (h : Eds w B (some ⟨b, off, none⟩) es) (k : Nat) : Eds w B (some ⟨b, off + k * 3, none⟩) (es.drop k) := fun hn => by
  obtain ⟨b', off', e, hb, hc⟩ := h (fun e => hn (by rw [e]; simp))
  injection e with e
  injection e with e1 e2
  subst e1 e2
  refine ⟨b, off + k * 3, rfl, hb, fun i x hx => ?_⟩
  rw [List.getElem?_drop] at hx
  obtain ⟨cs, h1, h2, h3⟩ := hc (k + i) x hx
  exact ⟨cs, h1, h2, fun j u hu => by rw [← h3 j u hu]; congr 2; omega⟩
theorem Eds.take_ {w : World} {B : Nat} {A : Option Addr} {es : List Ed} (h : Eds w B A es) (k : Nat) : Eds w B A (es.take k) := fun hn => by
  obtain ⟨b, off, rfl, hb, hc⟩ := h (fun e => hn (by rw [e]; simp))
  refine ⟨b, off, rfl, hb, fun i x hx => hc i x ?_⟩
  rw [List.getElem?_take] at hx
  split at hx
  · exact hx
  · cases hx
theorem mill_edB : ∀ e ∈ millE, edB e := by
  intro e he
  simp only [millE, List.mem_cons, List.not_mem_nil, or_false] at he
  rcases he with rfl | rfl | rfl | rfl | rfl <;> simp [edB]
theorem mill_take (q : Nat) (hq : q < 2) : (millE.take q).length = q := by
  rcases q with _ | _ | q
  · rfl
  · rfl
  · omega
/-- the graph and the row of ten numbers stand in memory -/
structure AkB (w : World) (G b off c : Nat) : Prop where
  lt : G + 1 < w.heap.size
  g0 : w.cell? ⟨G, 0, none⟩ = some (.int .i64 6)
  g1 : w.cell? ⟨G, 1, none⟩ = some (.slice (some ⟨b, off, none⟩) 5 c)
  at_ : ∀ k, k < 10 → w.cell? ⟨G + 1, k, none⟩ = some (.int .i64 (tenA k))
  es : Eds w w.heap.size (some ⟨b, off, none⟩) millE
theorem AkB.kept {u w : World} {G b off c : Nat} (h : AkB u G b off c) (hk : Kept u w) (hs : u.heap.size ≤ w.heap.size) : AkB w G b off c :=
  ⟨by have := h.lt; omega, (hk _ (by have := h.lt; show G < _; omega)).trans h.g0, (hk _ (by have := h.lt; show G < _; omega)).trans h.g1, fun k hk' => (hk _ (by have := h.lt; show G + 1 < _; omega)).trans (h.at_ k hk'),
    Els.more (h.es.kept' (Nat.le_refl _) hk) hs⟩
theorem AkB.dr {u : World} {G b off c : Nat} (h : AkB u G b off c) : AkB u.drew G b off c := h.kept (Kept.drew u) (Nat.le_refl _)
/-- a job stands in memory -/
structure JobC (w : World) (J : Nat) (k j1 j2 j3 j4 : Int) : Prop where
  lt : J < w.heap.size
  c0 : w.cell? ⟨J, 0, none⟩ = some (.int .u8 k)
  c1 : w.cell? ⟨J, 1, none⟩ = some (.int .i64 j1)
  c2 : w.cell? ⟨J, 2, none⟩ = some (.int .i64 j2)
  c3 : w.cell? ⟨J, 3, none⟩ = some (.int .i64 j3)
  c4 : w.cell? ⟨J, 4, none⟩ = some (.int .i64 j4)
theorem JobC.kept {u w : World} {J : Nat} {k j1 j2 j3 j4 : Int} (h : JobC u J k j1 j2 j3 j4) (hk : Kept u w) (hs : u.heap.size ≤ w.heap.size) : JobC w J k j1 j2 j3 j4 :=
  ⟨Nat.lt_of_lt_of_le h.lt hs, (hk _ h.lt).trans h.c0, (hk _ h.lt).trans h.c1, (hk _ h.lt).trans h.c2, (hk _ h.lt).trans h.c3, (hk _ h.lt).trans h.c4⟩
theorem JobC.of {w : World} {J : Nat} {k j1 j2 j3 j4 : Int} (h : w.heap[J]? = some (.cells #[.int .u8 k, .int .i64 j1, .int .i64 j2, .int .i64 j3, .int .i64 j4] 28)) : JobC w J k j1 j2 j3 j4 :=
  ⟨(Array.getElem?_eq_some_iff.1 h).1, cell_of_row _ _ 0 _ _ _ h, cell_of_row _ _ 1 _ _ _ h, cell_of_row _ _ 2 _ _ _ h, cell_of_row _ _ 3 _ _ _ h, cell_of_row _ _ 4 _ _ _ h⟩
/-- behind the switch: the job that was turned -/
def AkMid (t wc : World) (K : Nat) (kd : Int) : Prop := ∃ j1 j2 j3 j4, i64B j1 ∧ i64B j2 ∧ i64B j3 ∧ i64B j4 ∧ JobC wc K kd j1 j2 j3 j4 ∧ Below t.heap.size t wc
theorem mid0 {t s : World} {K : Nat} {kd j1 j2 j3 j4 : Int} (h : s.heap[K]? = some (.cells #[.int .u8 kd, .int .i64 j1, .int .i64 j2, .int .i64 j3, .int .i64 j4] 28)) (h1 : i64B j1) (h2 : i64B j2) (h3 : i64B j3) (h4 : i64B j4) (hb : Below t.heap.size t s) : AkMid t s K kd := ⟨j1, j2, j3, j4, h1, h2, h3, h4, JobC.of h, hb⟩
theorem mid1 {t s : World} {K : Nat} {kd j1 j2 j3 j4 x : Int} (h : s.heap[K]? = some (.cells #[.int .u8 kd, .int .i64 j1, .int .i64 j2, .int .i64 j3, .int .i64 j4] 28)) (h1 : i64B j1) (h2 : i64B j2) (h3 : i64B j3) (h4 : i64B j4) (hb : Below t.heap.size t s) (hK : t.heap.size ≤ K) (hx : i64B x) : AkMid t (s.setCell ⟨K, 1, none⟩ (.int .i64 x)) K kd :=
  ⟨x, j2, j3, j4, hx, h2, h3, h4, JobC.of (heap_setCell_same s K 1 _ _ (.int .i64 x) h), hb.setCell (p := ⟨K, 1, none⟩) hK _⟩
theorem mid2 {t s : World} {K : Nat} {kd j1 j2 j3 j4 x : Int} (h : s.heap[K]? = some (.cells #[.int .u8 kd, .int .i64 j1, .int .i64 j2, .int .i64 j3, .int .i64 j4] 28)) (h1 : i64B j1) (h2 : i64B j2) (h3 : i64B j3) (h4 : i64B j4) (hb : Below t.heap.size t s) (hK : t.heap.size ≤ K) (hx : i64B x) : AkMid t (s.setCell ⟨K, 2, none⟩ (.int .i64 x)) K kd :=
  ⟨j1, x, j3, j4, h1, hx, h3, h4, JobC.of (heap_setCell_same s K 2 _ _ (.int .i64 x) h), hb.setCell (p := ⟨K, 2, none⟩) hK _⟩
theorem mid3 {t s : World} {K : Nat} {kd j1 j2 j3 j4 x : Int} (h : s.heap[K]? = some (.cells #[.int .u8 kd, .int .i64 j1, .int .i64 j2, .int .i64 j3, .int .i64 j4] 28)) (h1 : i64B j1) (h2 : i64B j2) (h3 : i64B j3) (h4 : i64B j4) (hb : Below t.heap.size t s) (hK : t.heap.size ≤ K) (hx : i64B x) : AkMid t (s.setCell ⟨K, 3, none⟩ (.int .i64 x)) K kd :=
  ⟨j1, j2, x, j4, h1, h2, hx, h4, JobC.of (heap_setCell_same s K 3 _ _ (.int .i64 x) h), hb.setCell (p := ⟨K, 3, none⟩) hK _⟩
theorem mid4 {t s : World} {K : Nat} {kd j1 j2 j3 j4 x : Int} (h : s.heap[K]? = some (.cells #[.int .u8 kd, .int .i64 j1, .int .i64 j2, .int .i64 j3, .int .i64 j4] 28)) (h1 : i64B j1) (h2 : i64B j2) (h3 : i64B j3) (h4 : i64B j4) (hb : Below t.heap.size t s) (hK : t.heap.size ≤ K) (hx : i64B x) : AkMid t (s.setCell ⟨K, 4, none⟩ (.int .i64 x)) K kd :=
  ⟨j1, j2, j3, x, h1, h2, h3, hx, JobC.of (heap_setCell_same s K 4 _ _ (.int .i64 x) h), hb.setCell (p := ⟨K, 4, none⟩) hK _⟩
theorem tri_fill (l : List (Nat × Value)) (h : l = [(0, .agg #[.int .i64 0, .int .i64 3, .int .i64 9]), (1, .agg #[.int .i64 0, .int .i64 1, .int .i64 1]), (2, .agg #[.int .i64 0, .int .i64 3, .int .i64 2])]) : Instr.fill (fun i => some (i * 3, 3)) ((Array.range (3 * 3)).map ((Value.agg #[.int .i64 0, .int .i64 0, .int .i64 0]).cells[· % (Value.agg #[.int .i64 0, .int .i64 0, .int .i64 0]).cells.size]!)) l = some #[.int .i64 0, .int .i64 3, .int .i64 9, .int .i64 0, .int .i64 1, .int .i64 1, .int .i64 0, .int .i64 3, .int .i64 2] := by
  subst h
  kernel_rfl
def triE : List Ed := [(0, 3, 9), (0, 1, 1), (0, 3, 2)]
theorem edB_of_all (es : List Ed) (h : es.all (fun e => decide (-9223372036854775808 ≤ e.1) && decide (e.1 ≤ 9223372036854775807) && decide (-9223372036854775808 ≤ e.2.1) && decide (e.2.1 ≤ 9223372036854775807)) = true) : ∀ e ∈ es, edB e := fun e he => by
  have := List.all_eq_true.1 h e he
  simp only [Bool.and_eq_true, decide_eq_true_eq] at this
  unfold edB
  omega
def AkF (v1 v2 v3 v4 v5 v6 v8 v11 : Value) (u : Nat → Value) : Act := { tmps := #[u 0, v1, v2, v3, v4, v5, v6, u 7, v8, u 9, u 10, v11, u 12, u 13, u 14, u 15, u 16, u 17, u 18, u 19, u 20, u 21, u 22, u 23, u 24, u 25, u 26, u 27, u 28, u 29, u 30, u 31, u 32, u 33, u 34, u 35, u 36, u 37, u 38, u 39, u 40, u 41, u 42, u 43, u 44, u 45, u 46, u 47, u 48, u 49, u 50, u 51, u 52, u 53, u 54, u 55, u 56, u 57, u 58, u 59, u 60, u 61, u 62, u 63, u 64, u 65, u 66, u 67, u 68, u 69, u 70, u 71, u 72, u 73, u 74, u 75, u 76, u 77, u 78, u 79, u 80, u 81, u 82, u 83, u 84, u 85, u 86, u 87, u 88, u 89, u 90, u 91, u 92, u 93, u 94, u 95, u 96, u 97, u 98, u 99, u 100, u 101, u 102, u 103, u 104, u 105, u 106, u 107, u 108, u 109, u 110, u 111, u 112, u 113, u 114, u 115, u 116, u 117, u 118, u 119, u 120, u 121, u 122, u 123, u 124, u 125, u 126, u 127, u 128, u 129, u 130, u 131, u 132, u 133, u 134, u 135, u 136, u 137, u 138, u 139, u 140, u 141, u 142, u 143, u 144, u 145, u 146, u 147, u 148, u 149, u 150, u 151, u 152, u 153, u 154, u 155, u 156, u 157, u 158, u 159, u 160, u 161, u 162, u 163, u 164, u 165, u 166, u 167, u 168, u 169, u 170, u 171, u 172, u 173, u 174, u 175, u 176, u 177, u 178, u 179, u 180, u 181, u 182, u 183, u 184, u 185, u 186, u 187, u 188, u 189, u 190, u 191, u 192, u 193, u 194, u 195, u 196, u 197, u 198, u 199, u 200, u 201, u 202, u 203, u 204, u 205, u 206, u 207, u 208, u 209, u 210, u 211, u 212, u 213, u 214, u 215, u 216, u 217, u 218, u 219, u 220, u 221, u 222, u 223, u 224, u 225, u 226, u 227, u 228, u 229, u 230, u 231, u 232, u 233, u 234, u 235, u 236, u 237, u 238, u 239, u 240, u 241], defers := [] }
def AkM (n s : Nat) (a' : Act) : Nat := n - (intOf (a'.tmps.getD s undef)).toNat
def AkMz (a' : Act) : Nat := (6 - intOf (a'.tmps.getD 11 undef)).toNat
def AkR3 (w u0 : World) (G : Nat) (a' : Act) (w' : World) : Prop := ∃ (kd : Nat) (x4 : Value) (x5 : Value) (x6 : Value) (x8 : Value) (x11 : Value) (u : Nat → Value), a' = AkF (.pointer (some ⟨G, 0, none⟩)) (.slice (some ⟨G + 1, 0, none⟩) 10 10) (.int .u8 (kd : Int)) x4 x5 x6 x8 x11 u ∧ (kd ≤ 5) ∧ Hid (Kept u0 w') ∧ Hid (Below w.heap.size w w') ∧ u0.heap.size ≤ w'.heap.size
theorem AkR3.mk {w u0 : World} {G : Nat} {a' : Act} {w' : World} (kd : Nat) {x4 : Value} {x5 : Value} {x6 : Value} {x8 : Value} {x11 : Value} (h : a' = AkF (.pointer (some ⟨G, 0, none⟩)) (.slice (some ⟨G + 1, 0, none⟩) 10 10) (.int .u8 (kd : Int)) x4 x5 x6 x8 x11 (fun k => a'.tmps.getD k undef)) (h1 : kd ≤ 5) (h2 : Hid (Kept u0 w')) (h3 : Hid (Below w.heap.size w w')) (h4 : u0.heap.size ≤ w'.heap.size) : AkR3 w u0 G a' w' := ⟨kd, x4, x5, x6, x8, x11, _, h, h1, h2, h3, h4⟩
def AkR4 (w u0 : World) (G kd : Nat) (a' : Act) (w' : World) : Prop := ∃ (i : Nat) (x5 : Value) (x6 : Value) (x8 : Value) (x11 : Value) (u : Nat → Value), a' = AkF (.pointer (some ⟨G, 0, none⟩)) (.slice (some ⟨G + 1, 0, none⟩) 10 10) (.int .u8 (kd : Int)) (.int .i64 (i : Int)) x5 x6 x8 x11 u ∧ (i ≤ 10) ∧ Hid (Kept u0 w') ∧ Hid (Below w.heap.size w w') ∧ u0.heap.size ≤ w'.heap.size
theorem AkR4.mk {w u0 : World} {G kd : Nat} {a' : Act} {w' : World} (i : Nat) {x5 : Value} {x6 : Value} {x8 : Value} {x11 : Value} (h : a' = AkF (.pointer (some ⟨G, 0, none⟩)) (.slice (some ⟨G + 1, 0, none⟩) 10 10) (.int .u8 (kd : Int)) (.int .i64 (i : Int)) x5 x6 x8 x11 (fun k => a'.tmps.getD k undef)) (h1 : i ≤ 10) (h2 : Hid (Kept u0 w')) (h3 : Hid (Below w.heap.size w w')) (h4 : u0.heap.size ≤ w'.heap.size) : AkR4 w u0 G kd a' w' := ⟨i, x5, x6, x8, x11, _, h, h1, h2, h3, h4⟩
def AkR6 (w u0 : World) (G kd i J : Nat) (a' : Act) (w' : World) : Prop := ∃ (k : Nat) (x8 : Value) (x11 : Value) (u : Nat → Value), a' = AkF (.pointer (some ⟨G, 0, none⟩)) (.slice (some ⟨G + 1, 0, none⟩) 10 10) (.int .u8 (kd : Int)) (.int .i64 (i : Int)) (.pointer (some ⟨J, 0, none⟩)) (.int .i64 (k : Int)) x8 x11 u ∧ (k ≤ 7) ∧ Hid (Kept u0 w') ∧ Hid (Below w.heap.size w w') ∧ u0.heap.size ≤ w'.heap.size
theorem AkR6.mk {w u0 : World} {G kd i J : Nat} {a' : Act} {w' : World} (k : Nat) {x8 : Value} {x11 : Value} (h : a' = AkF (.pointer (some ⟨G, 0, none⟩)) (.slice (some ⟨G + 1, 0, none⟩) 10 10) (.int .u8 (kd : Int)) (.int .i64 (i : Int)) (.pointer (some ⟨J, 0, none⟩)) (.int .i64 (k : Int)) x8 x11 (fun k => a'.tmps.getD k undef)) (h1 : k ≤ 7) (h2 : Hid (Kept u0 w')) (h3 : Hid (Below w.heap.size w w')) (h4 : u0.heap.size ≤ w'.heap.size) : AkR6 w u0 G kd i J a' w' := ⟨k, x8, x11, _, h, h1, h2, h3, h4⟩
def AkR8 (w u0 : World) (G kd i J : Nat) (a' : Act) (w' : World) : Prop := ∃ (n : Nat) (x6 : Value) (x11 : Value) (u : Nat → Value), a' = AkF (.pointer (some ⟨G, 0, none⟩)) (.slice (some ⟨G + 1, 0, none⟩) 10 10) (.int .u8 (kd : Int)) (.int .i64 (i : Int)) (.pointer (some ⟨J, 0, none⟩)) x6 (.int .i64 (n : Int)) x11 u ∧ (n ≤ 10) ∧ Hid (Kept u0 w') ∧ Hid (Below w.heap.size w w') ∧ u0.heap.size ≤ w'.heap.size
theorem AkR8.mk {w u0 : World} {G kd i J : Nat} {a' : Act} {w' : World} (n : Nat) {x6 : Value} {x11 : Value} (h : a' = AkF (.pointer (some ⟨G, 0, none⟩)) (.slice (some ⟨G + 1, 0, none⟩) 10 10) (.int .u8 (kd : Int)) (.int .i64 (i : Int)) (.pointer (some ⟨J, 0, none⟩)) x6 (.int .i64 (n : Int)) x11 (fun k => a'.tmps.getD k undef)) (h1 : n ≤ 10) (h2 : Hid (Kept u0 w')) (h3 : Hid (Below w.heap.size w w')) (h4 : u0.heap.size ≤ w'.heap.size) : AkR8 w u0 G kd i J a' w' := ⟨n, x6, x11, _, h, h1, h2, h3, h4⟩
def AkR11 (w u0 : World) (G kd i J : Nat) (a' : Act) (w' : World) : Prop := ∃ (s : Int) (x6 : Value) (x8 : Value) (u : Nat → Value), a' = AkF (.pointer (some ⟨G, 0, none⟩)) (.slice (some ⟨G + 1, 0, none⟩) 10 10) (.int .u8 (kd : Int)) (.int .i64 (i : Int)) (.pointer (some ⟨J, 0, none⟩)) x6 x8 (.int .i64 s) u ∧ (-1 ≤ s ∧ s ≤ 6) ∧ Hid (Kept u0 w') ∧ Hid (Below w.heap.size w w') ∧ u0.heap.size ≤ w'.heap.size
theorem AkR11.mk {w u0 : World} {G kd i J : Nat} {a' : Act} {w' : World} (s : Int) {x6 : Value} {x8 : Value} (h : a' = AkF (.pointer (some ⟨G, 0, none⟩)) (.slice (some ⟨G + 1, 0, none⟩) 10 10) (.int .u8 (kd : Int)) (.int .i64 (i : Int)) (.pointer (some ⟨J, 0, none⟩)) x6 x8 (.int .i64 s) (fun k => a'.tmps.getD k undef)) (h1 : -1 ≤ s ∧ s ≤ 6) (h2 : Hid (Kept u0 w')) (h3 : Hid (Below w.heap.size w w')) (h4 : u0.heap.size ≤ w'.heap.size) : AkR11 w u0 G kd i J a' w' := ⟨s, x6, x8, _, h, h1, h2, h3, h4⟩
set_option maxRecDepth 100000 in
set_option maxHeartbeats 16000000 in
theorem algosKnown_walk (w : World) : Calls Tryz.prog 3 #[] w fun e w' => e = .returned (.bool true) ∧ Below w.heap.size w w' := by
  obtain ⟨a9, a9i, a9z, a9s, a9b⟩ := info_parts (show (Tryz.prog.info? 39).map (fun i => (i.zero, i.size, i.bytes)) = some (some (.agg #[.int .i64 0, .int .i64 0, .int .i64 0]), 3, 24) by kernel_rfl)
  go_enter Tryz.func3, Tryz.ntmps3
  go_wp2_with fail
  refine (mill_any _).mono ?_
  rintro e y ⟨A, c, rfl, hE, hlc, hcm, k1⟩
  rw [show millE.length = 5 from rfl] at hlc ⊢
  obtain ⟨b, off, rfl, hbl⟩ := Els.at_ hE (i := 0) (by decide)
  obtain ⟨u, hu⟩ : ∃ u, (y.alloc (.cells #[.int .i64 6, .slice (some ⟨b, off, none⟩) 5 c] 24)).alloc (.cells #[.int .i64 0, .int .i64 1, .int .i64 5, .int .i64 4294967296, .int .i64 4294967297, .int .i64 4611686018427387904, .int .i64 4611686018427387905, .int .i64 (-1), .int .i64 (-9223372036854775808), .int .i64 9223372036854775807] 2) = u := ⟨_, rfl⟩
  have hzu : u.heap.size = y.heap.size + 2 := by rw [← hu]; simp
  have hbu : Below y.heap.size y u := by rw [← hu]; exact ((Below.refl _ _).alloc (Nat.le_refl _) _).alloc (by simp) _
  have m0 : u.heap[y.heap.size]? = some (.cells #[.int .i64 6, .slice (some ⟨b, off, none⟩) 5 c] 24) := by rw [← hu]; exact heap_alloc_keep (heap_alloc_last y _)
  have m1 : u.heap[y.heap.size + 1]? = some (.cells #[.int .i64 0, .int .i64 1, .int .i64 5, .int .i64 4294967296, .int .i64 4294967297, .int .i64 4611686018427387904, .int .i64 4611686018427387905, .int .i64 (-1), .int .i64 (-9223372036854775808), .int .i64 9223372036854775807] 2) := by rw [← hu]; have h := heap_alloc_last (y.alloc (.cells #[.int .i64 6, .slice (some ⟨b, off, none⟩) 5 c] 24)) (.cells #[.int .i64 0, .int .i64 1, .int .i64 5, .int .i64 4294967296, .int .i64 4294967297, .int .i64 4611686018427387904, .int .i64 4611686018427387905, .int .i64 (-1), .int .i64 (-9223372036854775808), .int .i64 9223372036854775807] 2); simpa using h
  have HA : Hid (AkB u y.heap.size b off c) := hide ⟨by omega, cell_of_row _ _ 0 _ _ _ m0, cell_of_row _ _ 1 _ _ _ m0, fun k hk => by
    rcases k with _ | _ | _ | _ | _ | _ | _ | _ | _ | _ | k
    all_goals first | exact cell_of_row _ _ _ _ _ _ m1 | omega, Eds.next hE hbu⟩
  have HB := hide (k1.trans (hbu.mono k1.size))
  have hc5 : (5 : Int) ≤ (c : Int) := by omega
  have hc5n : 5 ≤ c := hlc
  have hcmn : c ≤ 9223372036854775807 := hcm
  have hc0 : (0 : Int) ≤ (c : Int) := by omega
  have HU := hide hu
  obtain ⟨G, hG⟩ : ∃ G, y.heap.size = G := ⟨_, rfl⟩
  have HG := hide hG
  clear hu hzu hbu m0 m1 hE k1 hbl hlc hcm hG
  go_wp2
  rw [HU.out, HG.out]
  rw [HG.out] at HA
  clear HU HG
  refine wp_loop (AkR3 w u G) (fun a' _ => AkM 5 3 a') ?_ ?_
  · exact AkR3.mk 0 rfl (by omega) (hide (Kept.refl u)) HB (Nat.le_refl _)
  ·
    clear HB
    rintro a' wr ⟨kd, x4, x5, x6, x8, x11, uu, rfl, hkd, hk1, hb1, hs1⟩
    unfold AkF
    by_cases hlt : kd < 5
    · have hlt' : (kd : Int) < 5 := by omega
      go_wp2
      refine wp_loop (AkR4 w u G kd) (fun a' _ => AkM 10 4 a') ?_ ?_
      · exact AkR4.mk 0 rfl (by omega) hk1 hb1 hs1
      ·
        clear hk1 hb1 hs1
        rintro a' wr ⟨i, x5, x6, x8, x11, uu, rfl, hi, hk1, hb1, hs1⟩
        unfold AkF
        by_cases hlti : i < 10
        · have hi1 : (i : Int) < 10 := by omega
          have hi0 : (0 : Int) ≤ (i : Int) := by omega
          obtain ⟨t, ht⟩ : ∃ t, wr.alloc (.cells #[.int .u8 (kd : Int), .int .i64 5, .int .i64 0, .int .i64 0, .int .i64 0] 28) = t := ⟨_, rfl⟩
          have hbt : Below wr.heap.size wr t := by rw [← ht]; exact (Below.refl _ _).alloc (Nat.le_refl _) _
          have HJ : Hid (JobC t wr.heap.size (kd : Int) 5 0 0 0) := hide (JobC.of (by rw [← ht]; exact heap_alloc_last wr _))
          have HAt : Hid (AkB t G b off c) := hide (HA.out.kept (hk1.out.below hs1 hbt) (Nat.le_trans hs1 hbt.size))
          have HKt : Hid (Kept u t) := hide (hk1.out.below hs1 hbt)
          have HBt := hide (hb1.out.trans (hbt.mono hb1.out.size))
          have hst : u.heap.size ≤ t.heap.size := Nat.le_trans hs1 hbt.size
          have HT := hide ht
          obtain ⟨J, hJ⟩ : ∃ J, wr.heap.size = J := ⟨_, rfl⟩
          have HJe := hide hJ
          have HiB : Hid (i64B (i : Int)) := hide ⟨by omega, by omega⟩
          have HJ5 : Hid (JobB (kd : Int) 5 0 0 0) := hide ⟨by omega, ib _ (by omega) (by omega), ib _ (by omega) (by omega), ib _ (by omega) (by omega), ib _ (by omega) (by omega)⟩
          clear ht hbt hk1 hb1 hs1 hJ
          go_wp2
          rw [HT.out, HJe.out]
          rw [HJe.out] at HJ
          clear HT HJe
          refine wp_loop (AkR6 w t G kd i J) (fun a' _ => AkM 7 6 a') ?_ ?_
          · exact AkR6.mk 0 rfl (by omega) (hide (Kept.refl t)) HBt (Nat.le_refl _)
          ·
            clear HBt
            rintro a' wr ⟨k, x8, x11, uu, rfl, hk, hk1, hb1, hs1⟩
            unfold AkF
            by_cases hltk : k < 7
            · have hk7 : (k : Int) < 7 := by omega
              have hk0 : (0 : Int) ≤ (k : Int) := by omega
              have HJw : Hid (JobC wr J (kd : Int) 5 0 0 0) := hide (HJ.out.kept hk1.out hs1)
              obtain ⟨s, hs⟩ : ∃ s, wr.alloc (.cells #[.int .u8 (kd : Int), .int .i64 5, .int .i64 0, .int .i64 0, .int .i64 0] 28) = s := ⟨_, rfl⟩
              have hbs : Below wr.heap.size wr s := by rw [← hs]; exact (Below.refl _ _).alloc (Nat.le_refl _) _
              have HM : Hid (s.heap[wr.heap.size]? = some (.cells #[.int .u8 (kd : Int), .int .i64 5, .int .i64 0, .int .i64 0, .int .i64 0] 28)) := hide (by rw [← hs]; exact heap_alloc_last wr _)
              have hzs : s.heap.size = wr.heap.size + 1 := by rw [← hs]; simp
              have hlK : wr.heap.size < s.heap.size := by omega
              have HAs : Hid (AkB s G b off c) := hide (HAt.out.kept (hk1.out.below hs1 hbs) (Nat.le_trans hs1 hbs.size))
              have HBs : Hid (Below wr.heap.size wr s) := hide hbs
              have HS := hide hs
              have a0 := HJw.out.c0
              have a1 := HJw.out.c1
              have a2 := HJw.out.c2
              have a3 := HJw.out.c3
              have a4 := HJw.out.c4
              have aJ := HJw.out.lt
              clear hs hbs hzs
              go_upto_block 6 with fail
              rw [HS.out]
              clear a0 a1 a2 a3 a4 HS
              obtain ⟨K, hK⟩ : ∃ K, wr.heap.size = K := ⟨_, rfl⟩
              rw [hK] at HM hlK ⊢
              have HKe := hide hK
              have hKt : t.heap.size ≤ K := by omega
              clear hK
              obtain ⟨xi, hxi⟩ : ∃ x, tenA i = x := ⟨_, rfl⟩
              have HxiB : Hid (i64B xi) := hide (by rw [← hxi]; exact ten_bound _)
              have ci := HAs.out.at_ i hlti
              rw [hxi] at ci
              have HFrom : Hid (Below s.heap.size s s) := hide (Below.refl _ _)
              go_cut [7] (fun v7 wc => v7 = .pointer (some ⟨K, 0, none⟩) ∧ Hid (AkMid wr wc K (kd : Int)))
              case first =>
                as_aux_lemma =>
                  have hMf : Hid (wr.heap.size ≤ K) := hide (Nat.le_of_eq HKe.out)
                  have e9 : IntKind.i64.wrap (1999 + (i : Int)) = 1999 + (i : Int) := IntWalk.i64_in _ (by omega)
                  have hcs : k = 0 ∨ k = 1 ∨ k = 2 ∨ k = 3 ∨ k = 4 ∨ k = 5 ∨ k = 6 := by omega
                  have hl1 : G + 1 < s.heap.size := by have := HAs.out.lt; omega
                  have z0 : s.cell? ⟨K, 0, none⟩ = some (.int .u8 (kd : Int)) := cell_of_row _ _ 0 _ _ _ HM.out
                  have z1 : s.cell? ⟨K, 1, none⟩ = some (.int .i64 5) := cell_of_row _ _ 1 _ _ _ HM.out
                  have z2 : s.cell? ⟨K, 2, none⟩ = some (.int .i64 0) := cell_of_row _ _ 2 _ _ _ HM.out
                  have z3 : s.cell? ⟨K, 3, none⟩ = some (.int .i64 0) := cell_of_row _ _ 3 _ _ _ HM.out
                  have z4 : s.cell? ⟨K, 4, none⟩ = some (.int .i64 0) := cell_of_row _ _ 4 _ _ _ HM.out
                  have y1 : s.frozen? ⟨K, 1, none⟩ = false := frozen_of_row _ _ 1 _ _ HM.out
                  have y2 : s.frozen? ⟨K, 2, none⟩ = false := frozen_of_row _ _ 2 _ _ HM.out
                  have y3 : s.frozen? ⟨K, 3, none⟩ = false := frozen_of_row _ _ 3 _ _ HM.out
                  have y4 : s.frozen? ⟨K, 4, none⟩ = false := frozen_of_row _ _ 4 _ _ HM.out
                  have o5 : Hid (i64B 5) := hide (ib _ (by omega) (by omega))
                  have o0 : Hid (i64B 0) := hide (ib _ (by omega) (by omega))
                  have o9 : Hid (i64B (1999 + (i : Int))) := hide (ib _ (by omega) (by omega))
                  clear hk1 hb1 hs1
                  rcases hcs with rfl | rfl | rfl | rfl | rfl | rfl | rfl
                  · rw [show ((0 : Nat) : Int) = 0 from rfl]
                    go_wp2
                    go_meet
                    case rel => exact ⟨rfl, hide (mid1 HM.out o5.out o0.out o0.out o0.out HBs.out hMf.out HxiB.out)⟩
                  · rw [show ((1 : Nat) : Int) = 1 from rfl]
                    go_wp2
                    go_meet
                    case rel => exact ⟨rfl, hide (mid1 HM.out o5.out o0.out o0.out o0.out HBs.out hMf.out o9.out)⟩
                  · rw [show ((2 : Nat) : Int) = 2 from rfl]
                    go_wp2
                    go_meet
                    case rel => exact ⟨rfl, hide (mid2 HM.out o5.out o0.out o0.out o0.out HBs.out hMf.out HxiB.out)⟩
                  · rw [show ((3 : Nat) : Int) = 3 from rfl]
                    go_wp2
                    go_meet
                    case rel => exact ⟨rfl, hide (mid3 HM.out o5.out o0.out o0.out o0.out HBs.out hMf.out HxiB.out)⟩
                  · rw [show ((4 : Nat) : Int) = 4 from rfl]
                    go_wp2
                    go_meet
                    case rel => exact ⟨rfl, hide (mid4 HM.out o5.out o0.out o0.out o0.out HBs.out hMf.out HxiB.out)⟩
                  · rw [show ((5 : Nat) : Int) = 5 from rfl]
                    go_wp2
                    go_meet
                    case rel => exact ⟨rfl, hide (mid2 HM.out o5.out o0.out o0.out o0.out HBs.out hMf.out o5.out)⟩
                  · rw [show ((6 : Nat) : Int) = 6 from rfl]
                    go_wp2
                    go_meet
                    case rel => exact ⟨rfl, hide (mid0 HM.out o5.out o0.out o0.out o0.out HBs.out)⟩
              case rest =>
                as_aux_lemma =>
                  obtain ⟨rfl, hmid⟩ := hcut
                  obtain ⟨j1, j2, j3, j4, g1, g2, g3, g4, hjc, hbc⟩ := hmid.out
                  have HJB : Hid (JobB (kd : Int) j1 j2 j3 j4) := hide ⟨by omega, g1, g2, g3, g4⟩
                  have HKc : Hid (Kept t wc) := hide (hk1.out.below hs1 hbc)
                  have hsc : t.heap.size ≤ wc.heap.size := Nat.le_trans hs1 hbc.size
                  have HAc : Hid (AkB wc G b off c) := hide (HAt.out.kept HKc.out hsc)
                  have HBc := hide (hb1.out.trans (hbc.mono hb1.out.size))
                  have c0 := hjc.c0
                  have c1 := hjc.c1
                  have c2 := hjc.c2
                  have c3 := hjc.c3
                  have c4 := hjc.c4
                  have cl := hjc.lt
                  have g0 := HAc.out.g0
                  have g1' := HAc.out.g1
                  have gl : G < wc.heap.size := by have := HAc.out.lt; omega
                  have gl1 : G + 1 < wc.heap.size := HAc.out.lt
                  obtain ⟨m, hm⟩ : ∃ m, (i + k) % 10 = m := ⟨_, rfl⟩
                  have hm10 : m < 10 := by omega
                  obtain ⟨xm, hxm⟩ : ∃ x, tenA m = x := ⟨_, rfl⟩
                  have HxmB : Hid (i64B xm) := hide (by rw [← hxm]; exact ten_bound _)
                  have cm := HAc.out.at_ m hm10
                  rw [hxm] at cm
                  have hmT : ((i : Int) + (k : Int)).tmod 10 = (m : Int) := by rw [Int.tmod_eq_emod_of_nonneg (by omega)]; omega
                  have e0 : IntKind.i64.wrap ((i : Int) + (k : Int)) = (i : Int) + (k : Int) := IntWalk.i64_in _ (by omega)
                  have e1 : IntKind.i64.wrap (m : Int) = (m : Int) := IntWalk.i64_in _ (by omega)
                  have hm0 : (0 : Int) ≤ (m : Int) := by omega
                  have hm1 : (m : Int) < 10 := by omega
                  clear g1 g2 g3 g4 hjc hbc hmid hk1 hb1 hs1 hm hxm hxi ci HM HAs HBs HJw HFrom
                  go_upto_region 27 with fail
                  refine wp_region_held_drew (S := Kept wc) (by kernel_rfl) (Kept.drew wc) (fun hS0 => ?_)
                  refine take_at (i := 0) (d := 68) (v := ?_) (by simp only [List.getElem?_toArray, List.getElem?_cons_succ, List.getElem?_cons_zero]; rfl) rfl (by kernel_rfl) (by kernel_rfl) (by kernel_rfl) (fun _ _ _ h => h) rfl ?_ (by assumption) ?_
                  rotate_left
                  focus (intro w hSw; go_simp; (try with_reducible rfl); done)
                  try simp only [List.setIfInBounds_toArray, List.set_cons_zero, List.set_cons_succ]
                  refine take_at (i := 1) (d := 69) (v := ?_) (by simp only [List.getElem?_toArray, List.getElem?_cons_succ, List.getElem?_cons_zero]; rfl) rfl (by kernel_rfl) (by kernel_rfl) (by kernel_rfl) (fun _ _ _ h => h) rfl ?_ (by assumption) ?_
                  rotate_left
                  focus (intro w hSw; go_simp; (try with_reducible rfl); done)
                  try simp only [List.setIfInBounds_toArray, List.set_cons_zero, List.set_cons_succ]
                  refine take_at (i := 2) (d := 70) (v := ?_) (by simp only [List.getElem?_toArray, List.getElem?_cons_succ, List.getElem?_cons_zero]; rfl) rfl (by kernel_rfl) (by kernel_rfl) (by kernel_rfl) (fun _ _ _ h => h) rfl ?_ (by assumption) ?_
                  rotate_left
                  focus (intro w hSw; go_simp; (try with_reducible rfl); done)
                  try simp only [List.setIfInBounds_toArray, List.set_cons_zero, List.set_cons_succ]
                  refine take_at (i := 3) (d := 71) (v := ?_) (by simp only [List.getElem?_toArray, List.getElem?_cons_succ, List.getElem?_cons_zero]; rfl) rfl (by kernel_rfl) (by kernel_rfl) (by kernel_rfl) (fun _ _ _ h => h) rfl ?_ (by assumption) ?_
                  rotate_left
                  focus (intro w hSw; go_simp; (try with_reducible rfl); done)
                  try simp only [List.setIfInBounds_toArray, List.set_cons_zero, List.set_cons_succ]
                  refine take_at (i := 4) (d := 72) (v := ?_) (by simp only [List.getElem?_toArray, List.getElem?_cons_succ, List.getElem?_cons_zero]; rfl) rfl (by kernel_rfl) (by kernel_rfl) (by kernel_rfl) (fun _ _ _ h => h) rfl ?_ (by assumption) ?_
                  rotate_left
                  focus (intro w hSw; go_simp; (try with_reducible rfl); done)
                  try simp only [List.setIfInBounds_toArray, List.set_cons_zero, List.set_cons_succ]
                  refine take_at (i := 5) (d := 73) (v := ?_) (by simp only [List.getElem?_toArray, List.getElem?_cons_succ, List.getElem?_cons_zero]; rfl) rfl (by kernel_rfl) (by kernel_rfl) (by kernel_rfl) (fun _ _ _ h => h) rfl ?_ (by assumption) ?_
                  rotate_left
                  focus (intro w hSw; go_simp; (try with_reducible rfl); done)
                  try simp only [List.setIfInBounds_toArray, List.set_cons_zero, List.set_cons_succ]
                  refine take_at (i := 6) (d := 74) (v := ?_) (by simp only [List.getElem?_toArray, List.getElem?_cons_succ, List.getElem?_cons_zero]; rfl) rfl (by kernel_rfl) (by kernel_rfl) (by kernel_rfl) (fun _ _ _ h => h) rfl ?_ (by assumption) ?_
                  rotate_left
                  focus (intro w hSw; go_simp; (try with_reducible rfl); done)
                  try simp only [List.setIfInBounds_toArray, List.set_cons_zero, List.set_cons_succ]
                  refine take_at (i := 7) (d := 75) (v := ?_) (by simp only [List.getElem?_toArray, List.getElem?_cons_succ, List.getElem?_cons_zero]; rfl) rfl (by kernel_rfl) (by kernel_rfl) (by kernel_rfl) (fun _ _ _ h => h) rfl ?_ (by assumption) ?_
                  rotate_left
                  focus (intro w hSw; go_simp; (try with_reducible rfl); done)
                  try simp only [List.setIfInBounds_toArray, List.set_cons_zero, List.set_cons_succ]
                  refine take_at (i := 8) (d := 76) (v := ?_) (by simp only [List.getElem?_toArray, List.getElem?_cons_succ, List.getElem?_cons_zero]; rfl) rfl (by kernel_rfl) (by kernel_rfl) (by kernel_rfl) (fun _ _ _ h => h) rfl ?_ (by assumption) ?_
                  rotate_left
                  focus (intro w hSw; go_simp; (try with_reducible rfl); done)
                  try simp only [List.setIfInBounds_toArray, List.set_cons_zero, List.set_cons_succ]
                  refine take_at (i := 9) (d := 77) (v := ?_) (by simp only [List.getElem?_toArray, List.getElem?_cons_succ, List.getElem?_cons_zero]; rfl) rfl (by kernel_rfl) (by kernel_rfl) (by kernel_rfl) (fun _ _ _ h => h) rfl ?_ (by assumption) ?_
                  rotate_left
                  focus (intro w hSw; go_simp; (try with_reducible rfl); done)
                  try simp only [List.setIfInBounds_toArray, List.set_cons_zero, List.set_cons_succ]
                  refine take_at (i := 10) (d := 78) (v := ?_) (by simp only [List.getElem?_toArray, List.getElem?_cons_succ, List.getElem?_cons_zero]; rfl) rfl (by kernel_rfl) (by kernel_rfl) (by kernel_rfl) (fun _ _ _ h => h) rfl ?_ (by assumption) ?_
                  rotate_left
                  focus (intro w hSw; go_simp; (try with_reducible rfl); done)
                  try simp only [List.setIfInBounds_toArray, List.set_cons_zero, List.set_cons_succ]
                  refine take_at (i := 11) (d := 79) (v := ?_) (by simp only [List.getElem?_toArray, List.getElem?_cons_succ, List.getElem?_cons_zero]; rfl) rfl (by kernel_rfl) (by kernel_rfl) (by kernel_rfl) (fun _ _ _ h => h) rfl ?_ (by assumption) ?_
                  rotate_left
                  focus (intro w hSw; go_simp; (try with_reducible rfl); done)
                  try simp only [List.setIfInBounds_toArray, List.set_cons_zero, List.set_cons_succ]
                  refine take_at (i := 12) (d := 80) (v := ?_) (by simp only [List.getElem?_toArray, List.getElem?_cons_succ, List.getElem?_cons_zero]; rfl) rfl (by kernel_rfl) (by kernel_rfl) (by kernel_rfl) (fun _ _ _ h => h) rfl ?_ (by assumption) ?_
                  rotate_left
                  focus (intro w hSw; go_simp; (try with_reducible rfl); done)
                  try simp only [List.setIfInBounds_toArray, List.set_cons_zero, List.set_cons_succ]
                  refine call_at (i := 13) (d := 81) (by simp only [List.getElem?_toArray, List.getElem?_cons_succ, List.getElem?_cons_zero]; rfl) rfl (by kernel_rfl) rfl (fun K hK => ?_)
                  go_simp
                  refine (kCheck _ 6 (by omega) _ millE 5 c rfl (HAc.out.kept hS0 (Nat.le_refl _)).es hc5n hcmn mill_edB (kd : Int) j1 j2 j3 j4 HJB.out (i : Int) (i : Int) xm HiB.out HiB.out HxmB.out).mono ?_
                  rintro e z1 ⟨rfl, hz⟩
                  have hS1 : Kept wc z1 := hS0.below (Nat.le_refl _) hz
                  have q1 : wc.heap.size ≤ z1.heap.size := by have := hz.size; simpa using this
                  have B1 := hide ((Below.refl wc.heap.size wc).drew.trans (hz.mono (Nat.le_refl _)))
                  clear hz
                  go_wp2_with fail
                  refine hK.out _ _ hS1 (fun hSn => ?_)
                  clear hK K
                  try simp only [List.setIfInBounds_toArray, List.set_cons_zero, List.set_cons_succ]
                  refine take_at (i := 14) (d := 82) (v := ?_) (by simp only [List.getElem?_toArray, List.getElem?_cons_succ, List.getElem?_cons_zero]; rfl) rfl (by kernel_rfl) (by kernel_rfl) (by kernel_rfl) (fun _ _ _ h => h) rfl ?_ (by assumption) ?_
                  rotate_left
                  focus (intro w hSw; go_simp; (try with_reducible rfl); done)
                  try simp only [List.setIfInBounds_toArray, List.set_cons_zero, List.set_cons_succ]
                  refine take_at (i := 15) (d := 83) (v := ?_) (by simp only [List.getElem?_toArray, List.getElem?_cons_succ, List.getElem?_cons_zero]; rfl) rfl (by kernel_rfl) (by kernel_rfl) (by kernel_rfl) (fun _ _ _ h => h) rfl ?_ (by assumption) ?_
                  rotate_left
                  focus (intro w hSw; go_simp; (try with_reducible rfl); done)
                  try simp only [List.setIfInBounds_toArray, List.set_cons_zero, List.set_cons_succ]
                  refine take_at (i := 16) (d := 84) (v := ?_) (by simp only [List.getElem?_toArray, List.getElem?_cons_succ, List.getElem?_cons_zero]; rfl) rfl (by kernel_rfl) (by kernel_rfl) (by kernel_rfl) (fun _ _ _ h => h) rfl ?_ (by assumption) ?_
                  rotate_left
                  focus (intro w hSw; go_simp; (try with_reducible rfl); done)
                  try simp only [List.setIfInBounds_toArray, List.set_cons_zero, List.set_cons_succ]
                  refine take_at (i := 17) (d := 85) (v := ?_) (by simp only [List.getElem?_toArray, List.getElem?_cons_succ, List.getElem?_cons_zero]; rfl) rfl (by kernel_rfl) (by kernel_rfl) (by kernel_rfl) (fun _ _ _ h => h) rfl ?_ (by assumption) ?_
                  rotate_left
                  focus (intro w hSw; go_simp; (try with_reducible rfl); done)
                  try simp only [List.setIfInBounds_toArray, List.set_cons_zero, List.set_cons_succ]
                  refine call_at (i := 18) (d := 86) (by simp only [List.getElem?_toArray, List.getElem?_cons_succ, List.getElem?_cons_zero]; rfl) rfl (by kernel_rfl) rfl (fun K hK => ?_)
                  go_simp
                  refine (kCheck _ 0 (by omega) none [] 0 0 rfl Els.nil_ (by omega) (by omega) (by intro e he; cases he) (kd : Int) j1 j2 j3 j4 HJB.out 2 5 9 (ib _ (by omega) (by omega)) (ib _ (by omega) (by omega)) (ib _ (by omega) (by omega))).mono ?_
                  rintro e z2 ⟨rfl, hz⟩
                  have hS2 : Kept wc z2 := hS1.below (q1) hz
                  have q2 : wc.heap.size ≤ z2.heap.size := Nat.le_trans q1 hz.size
                  have B2 := hide (B1.out.trans (hz.mono q1))
                  clear hz
                  go_wp2_with fail
                  refine hK.out _ _ hS2 (fun hSn => ?_)
                  clear hK K
                  try simp only [List.setIfInBounds_toArray, List.set_cons_zero, List.set_cons_succ]
                  refine take_at (i := 19) (d := 87) (v := ?_) (by simp only [List.getElem?_toArray, List.getElem?_cons_succ, List.getElem?_cons_zero]; rfl) rfl (by kernel_rfl) (by kernel_rfl) (by kernel_rfl) (fun _ _ _ h => h) rfl ?_ (by assumption) ?_
                  rotate_left
                  focus (intro w hSw; go_simp; (try with_reducible rfl); done)
                  try simp only [List.setIfInBounds_toArray, List.set_cons_zero, List.set_cons_succ]
                  refine take_at (i := 20) (d := 88) (v := ?_) (by simp only [List.getElem?_toArray, List.getElem?_cons_succ, List.getElem?_cons_zero]; rfl) rfl (by kernel_rfl) (by kernel_rfl) (by kernel_rfl) (fun _ _ _ h => h) rfl ?_ (by assumption) ?_
                  rotate_left
                  focus (intro w hSw; go_simp; (try with_reducible rfl); done)
                  try simp only [List.setIfInBounds_toArray, List.set_cons_zero, List.set_cons_succ]
                  refine take_at (i := 21) (d := 89) (v := ?_) (by simp only [List.getElem?_toArray, List.getElem?_cons_succ, List.getElem?_cons_zero]; rfl) rfl (by kernel_rfl) (by kernel_rfl) (by kernel_rfl) (fun _ _ _ h => h) rfl ?_ (by assumption) ?_
                  rotate_left
                  focus (intro w hSw; go_simp; (try with_reducible rfl); done)
                  try simp only [List.setIfInBounds_toArray, List.set_cons_zero, List.set_cons_succ]
                  refine take_at (i := 22) (d := 90) (v := ?_) (by simp only [List.getElem?_toArray, List.getElem?_cons_succ, List.getElem?_cons_zero]; rfl) rfl (by kernel_rfl) (by kernel_rfl) (by kernel_rfl) (fun _ _ _ h => h) rfl ?_ (by assumption) ?_
                  rotate_left
                  focus (intro w hSw; go_simp; (try with_reducible rfl); done)
                  try simp only [List.setIfInBounds_toArray, List.set_cons_zero, List.set_cons_succ]
                  refine take_at (i := 23) (d := 91) (v := ?_) (by simp only [List.getElem?_toArray, List.getElem?_cons_succ, List.getElem?_cons_zero]; rfl) rfl (by kernel_rfl) (by kernel_rfl) (by kernel_rfl) (fun _ _ _ h => h) rfl ?_ (by assumption) ?_
                  rotate_left
                  focus (intro w hSw; go_simp; (try with_reducible rfl); done)
                  try simp only [List.setIfInBounds_toArray, List.set_cons_zero, List.set_cons_succ]
                  refine take_at (i := 24) (d := 92) (v := ?_) (by simp only [List.getElem?_toArray, List.getElem?_cons_succ, List.getElem?_cons_zero]; rfl) rfl (by kernel_rfl) (by kernel_rfl) (by kernel_rfl) (fun _ _ _ h => h) rfl ?_ (by assumption) ?_
                  rotate_left
                  focus (intro w hSw; go_simp; (try with_reducible rfl); done)
                  try simp only [List.setIfInBounds_toArray, List.set_cons_zero, List.set_cons_succ]
                  refine take_at (i := 25) (d := 93) (v := ?_) (by simp only [List.getElem?_toArray, List.getElem?_cons_succ, List.getElem?_cons_zero]; rfl) rfl (by kernel_rfl) (by kernel_rfl) (by kernel_rfl) (fun _ _ _ h => h) rfl ?_ (by assumption) ?_
                  rotate_left
                  focus (intro w hSw; go_simp; (try with_reducible rfl); done)
                  try simp only [List.setIfInBounds_toArray, List.set_cons_zero, List.set_cons_succ]
                  refine call_at (i := 26) (d := 94) (by simp only [List.getElem?_toArray, List.getElem?_cons_succ, List.getElem?_cons_zero]; rfl) rfl (by kernel_rfl) rfl (fun K hK => ?_)
                  go_simp
                  refine (kCheck _ 6 (by omega) _ millE 5 c rfl (HAc.out.kept hS2 q2).es hc5n hcmn mill_edB (kd : Int) j1 j2 j3 j4 HJB.out j2 0 0 HJB.out.2.2.1 (ib _ (by omega) (by omega)) (ib _ (by omega) (by omega))).mono ?_
                  rintro e z3 ⟨rfl, hz⟩
                  have hS3 : Kept wc z3 := hS2.below (q2) hz
                  have q3 : wc.heap.size ≤ z3.heap.size := Nat.le_trans q2 hz.size
                  have B3 := hide (B2.out.trans (hz.mono q2))
                  clear hz
                  go_wp2_with fail
                  refine hK.out _ _ hS3 (fun hSn => ?_)
                  clear hK K
                  try simp only [List.setIfInBounds_toArray, List.set_cons_zero, List.set_cons_succ]
                  refine take_at (i := 27) (d := 95) (v := ?_) (by simp only [List.getElem?_toArray, List.getElem?_cons_succ, List.getElem?_cons_zero]; rfl) rfl (by kernel_rfl) (by kernel_rfl) (by kernel_rfl) (fun _ _ _ h => h) rfl ?_ (by assumption) ?_
                  rotate_left
                  focus (intro w hSw; go_simp; (try with_reducible rfl); done)
                  try simp only [List.setIfInBounds_toArray, List.set_cons_zero, List.set_cons_succ]
                  refine take_at (i := 28) (d := 96) (v := ?_) (by simp only [List.getElem?_toArray, List.getElem?_cons_succ, List.getElem?_cons_zero]; rfl) rfl (by kernel_rfl) (by kernel_rfl) (by kernel_rfl) (fun _ _ _ h => h) rfl ?_ (by assumption) ?_
                  rotate_left
                  focus (intro w hSw; go_simp; (try with_reducible rfl); done)
                  try simp only [List.setIfInBounds_toArray, List.set_cons_zero, List.set_cons_succ]
                  refine take_at (i := 29) (d := 97) (v := ?_) (by simp only [List.getElem?_toArray, List.getElem?_cons_succ, List.getElem?_cons_zero]; rfl) rfl (by kernel_rfl) (by kernel_rfl) (by kernel_rfl) (fun _ _ _ h => h) rfl ?_ (by assumption) ?_
                  rotate_left
                  focus (intro w hSw; go_simp; (try with_reducible rfl); done)
                  try simp only [List.setIfInBounds_toArray, List.set_cons_zero, List.set_cons_succ]
                  refine take_at (i := 30) (d := 98) (v := ?_) (by simp only [List.getElem?_toArray, List.getElem?_cons_succ, List.getElem?_cons_zero]; rfl) rfl (by kernel_rfl) (by kernel_rfl) (by kernel_rfl) (fun _ _ _ h => h) rfl ?_ (by assumption) ?_
                  rotate_left
                  focus (intro w hSw; go_simp; (try with_reducible rfl); done)
                  try simp only [List.setIfInBounds_toArray, List.set_cons_zero, List.set_cons_succ]
                  refine take_at (i := 31) (d := 99) (v := ?_) (by simp only [List.getElem?_toArray, List.getElem?_cons_succ, List.getElem?_cons_zero]; rfl) rfl (by kernel_rfl) (by kernel_rfl) (by kernel_rfl) (fun _ _ _ h => h) rfl ?_ (by assumption) ?_
                  rotate_left
                  focus (intro w hSw; go_simp; (try with_reducible rfl); done)
                  try simp only [List.setIfInBounds_toArray, List.set_cons_zero, List.set_cons_succ]
                  refine call_at (i := 32) (d := 100) (by simp only [List.getElem?_toArray, List.getElem?_cons_succ, List.getElem?_cons_zero]; rfl) rfl (by kernel_rfl) rfl (fun K hK => ?_)
                  go_simp
                  refine (kCheck _ 6 (by omega) _ millE 5 c rfl (HAc.out.kept hS3 q3).es hc5n hcmn mill_edB (kd : Int) j1 j2 j3 j4 HJB.out 1 1 0 (ib _ (by omega) (by omega)) (ib _ (by omega) (by omega)) (ib _ (by omega) (by omega))).mono ?_
                  rintro e z4 ⟨rfl, hz⟩
                  have hS4 : Kept wc z4 := hS3.below (q3) hz
                  have q4 : wc.heap.size ≤ z4.heap.size := Nat.le_trans q3 hz.size
                  have B4 := hide (B3.out.trans (hz.mono q3))
                  clear hz
                  go_wp2_with fail
                  refine hK.out _ _ hS4 (fun hSn => ?_)
                  clear hK K
                  try simp only [List.setIfInBounds_toArray, List.set_cons_zero, List.set_cons_succ]
                  refine take_at (i := 33) (d := 101) (v := ?_) (by simp only [List.getElem?_toArray, List.getElem?_cons_succ, List.getElem?_cons_zero]; rfl) rfl (by kernel_rfl) (by kernel_rfl) (by kernel_rfl) (fun _ _ _ h => h) rfl ?_ (by assumption) ?_
                  rotate_left
                  focus (intro w hSw; go_simp; (try with_reducible rfl); done)
                  try simp only [List.setIfInBounds_toArray, List.set_cons_zero, List.set_cons_succ]
                  refine take_at (i := 34) (d := 102) (v := ?_) (by simp only [List.getElem?_toArray, List.getElem?_cons_succ, List.getElem?_cons_zero]; rfl) rfl (by kernel_rfl) (by kernel_rfl) (by kernel_rfl) (fun _ _ _ h => h) rfl ?_ (by assumption) ?_
                  rotate_left
                  focus (intro w hSw; go_simp; (try with_reducible rfl); done)
                  try simp only [List.setIfInBounds_toArray, List.set_cons_zero, List.set_cons_succ]
                  refine wpAnyH_done (by kernel_rfl) ?_ _
                  clear hS0 hSn hS1 hS2 hS3
                  have hgo := hide (HBc.out.trans (B4.out.mono HBc.out.size))
                  have hkk : Hid (Kept t z4) := hide (HKc.out.below hsc B4.out)
                  have hss : t.heap.size ≤ z4.heap.size := Nat.le_trans hsc q4
                  go_wp2
                  exact ⟨AkR6.mk (k + 1) (by rfl) (by omega) hkk hgo hss, by simp [AkM, intOf]; omega⟩
            · obtain rfl : k = 7 := by omega
              rw [show ((7 : Nat) : Int) = 7 from rfl]
              go_wp2
              refine wp_loop (AkR8 w t G kd i J) (fun a' _ => AkM 10 8 a') ?_ ?_
              · exact AkR8.mk 0 rfl (by omega) hk1 hb1 hs1
              ·
                clear hk1 hb1 hs1
                rintro a' wr ⟨n, x6, x11, uu, rfl, hn, hk1, hb1, hs1⟩
                unfold AkF
                by_cases hltn : n < 10
                · as_aux_lemma =>
                    have hn1 : (n : Int) < 10 := by omega
                    have hn0 : (0 : Int) ≤ (n : Int) := by omega
                    have HAw : Hid (AkB wr G b off c) := hide (HAt.out.kept hk1.out hs1)
                    have HJw : Hid (JobC wr J (kd : Int) 5 0 0 0) := hide (HJ.out.kept hk1.out hs1)
                    obtain ⟨par, hpar⟩ : ∃ par, ((n : Int) % 2 == 0) = par := ⟨_, rfl⟩
                    have cn := HAw.out.at_ n hltn
                    obtain ⟨xn, hxn⟩ : ∃ x, tenA n = x := ⟨_, rfl⟩
                    have HxnB : Hid (i64B xn) := hide (by rw [← hxn]; exact ten_bound _)
                    rw [hxn] at cn
                    have HXN := hide hxn
                    have gl1 : G + 1 < wr.heap.size := HAw.out.lt
                    have e2 : (n : Int).tmod 2 = (n : Int) % 2 := Int.tmod_eq_emod_of_nonneg (by omega)
                    have e3 : IntKind.i64.wrap ((n : Int) % 2) = (n : Int) % 2 := IntWalk.i64_in _ (by omega)
                    obtain ⟨v, hv⟩ : ∃ v, (wr.alloc (.cells #[.bool par, .int .i64 xn] 31)).alloc (.cells #[.int .u8 (kd : Int), .int .i64 0, .int .i64 0, .int .i64 2147483648, .int .i64 0] 28) = v := ⟨_, rfl⟩
                    have hbv : Below wr.heap.size wr v := by rw [← hv]; exact ((Below.refl _ _).alloc (Nat.le_refl _) _).alloc (by simp) _
                    have hzv : v.heap.size = wr.heap.size + 2 := by rw [← hv]; simp
                    have n0 : v.heap[wr.heap.size]? = some (.cells #[.bool par, .int .i64 xn] 31) := by rw [← hv]; exact heap_alloc_keep (heap_alloc_last wr _)
                    have n1 : v.heap[wr.heap.size + 1]? = some (.cells #[.int .u8 (kd : Int), .int .i64 0, .int .i64 0, .int .i64 2147483648, .int .i64 0] 28) := by rw [← hv]; have h := heap_alloc_last (wr.alloc (.cells #[.bool par, .int .i64 xn] 31)) (.cells #[.int .u8 (kd : Int), .int .i64 0, .int .i64 0, .int .i64 2147483648, .int .i64 0] 28); simpa using h
                    have HV := hide hv
                    have HBv : Hid (Below w.heap.size w v) := hide (hb1.out.trans (hbv.mono hb1.out.size))
                    have HKv : Hid (Kept t v) := hide (hk1.out.below hs1 hbv)
                    have hsv : t.heap.size ≤ v.heap.size := Nat.le_trans hs1 hbv.size
                    have HAu : Hid (AkB v G b off c) := hide (HAt.out.kept HKv.out hsv)
                    have HJv : Hid (JobC v J (kd : Int) 5 0 0 0) := hide (HJ.out.kept HKv.out hsv)
                    have HK2 := hide (JobC.of n1)
                    have p0 : v.cell? ⟨wr.heap.size, 0, none⟩ = some (.bool par) := cell_of_row _ _ 0 _ _ _ n0
                    have p1 : v.cell? ⟨wr.heap.size, 1, none⟩ = some (.int .i64 xn) := cell_of_row _ _ 1 _ _ _ n0
                    have pl : wr.heap.size < v.heap.size := by omega
                    clear hv hbv hzv n0 n1 hk1 hb1 hs1 hxn HJw
                    go_upto_region 34 with fail
                    rw [HV.out]
                    obtain ⟨M, hM⟩ : ∃ M, wr.heap.size = M := ⟨_, rfl⟩
                    rw [hM] at HK2 p0 p1 pl ⊢
                    clear HV cn gl1 HAw hM
                    have HJ2 : Hid (JobB (kd : Int) 0 0 2147483648 0) := hide ⟨by omega, ib _ (by omega) (by omega), ib _ (by omega) (by omega), ib _ (by omega) (by omega), ib _ (by omega) (by omega)⟩
                    have c0 := HJv.out.c0
                    have c1 := HJv.out.c1
                    have c2 := HJv.out.c2
                    have c3 := HJv.out.c3
                    have c4 := HJv.out.c4
                    have cl := HJv.out.lt
                    have d0 := HK2.out.c0
                    have d1 := HK2.out.c1
                    have d2 := HK2.out.c2
                    have d3 := HK2.out.c3
                    have d4 := HK2.out.c4
                    have dl := HK2.out.lt
                    have g1' := HAu.out.g1
                    have gl : G < v.heap.size := by have := HAu.out.lt; omega
                    have gl1 : G + 1 < v.heap.size := HAu.out.lt
                    obtain ⟨m, hm⟩ : ∃ m, (i + n) % 10 = m := ⟨_, rfl⟩
                    have hm10 : m < 10 := by omega
                    obtain ⟨xm, hxm⟩ : ∃ x, tenA m = x := ⟨_, rfl⟩
                    have HxmB : Hid (i64B xm) := hide (by rw [← hxm]; exact ten_bound _)
                    have cm := HAu.out.at_ m hm10
                    rw [hxm] at cm
                    obtain ⟨xi, hxi⟩ : ∃ x, tenA i = x := ⟨_, rfl⟩
                    have HxiB : Hid (i64B xi) := hide (by rw [← hxi]; exact ten_bound _)
                    have ci := HAu.out.at_ i hlti
                    rw [hxi] at ci
                    have cn := HAu.out.at_ n hltn
                    rw [HXN.out] at cn
                    have hmT : ((i : Int) + (n : Int)).tmod 10 = (m : Int) := by rw [Int.tmod_eq_emod_of_nonneg (by omega)]; omega
                    have e0 : IntKind.i64.wrap ((i : Int) + (n : Int)) = (i : Int) + (n : Int) := IntWalk.i64_in _ (by omega)
                    have e1 : IntKind.i64.wrap (m : Int) = (m : Int) := IntWalk.i64_in _ (by omega)
                    have hm0 : (0 : Int) ≤ (m : Int) := by omega
                    have hm1 : (m : Int) < 10 := by omega
                    obtain ⟨q, hq⟩ : ∃ q, n % 2 = q := ⟨_, rfl⟩
                    have HQ2 : Hid (q < 2) := hide (by omega)
                    have hqT : (n : Int) % 2 = (q : Int) := by omega
                    have hq0 : (0 : Int) ≤ (q : Int) := by omega
                    have hqc : q ≤ c := by omega
                    have hqc' : (q : Int) ≤ (c : Int) := by omega
                    clear hm hxm hxi hq
                    simp only [List.append]
                    refine wp_region_held_drew (S := Kept v) (by kernel_rfl) (Kept.drew v) (fun hS0 => ?_)
                    refine take_at (i := 0) (d := 119) (v := ?_) (by simp only [List.getElem?_toArray, List.getElem?_cons_succ, List.getElem?_cons_zero]; rfl) rfl (by kernel_rfl) (by kernel_rfl) (by kernel_rfl) (fun _ _ _ h => h) rfl ?_ (by assumption) ?_
                    rotate_left
                    focus (intro w hSw; go_simp; (try with_reducible rfl); done)
                    try simp only [List.setIfInBounds_toArray, List.set_cons_zero, List.set_cons_succ]
                    refine take_at (i := 1) (d := 120) (v := ?_) (by simp only [List.getElem?_toArray, List.getElem?_cons_succ, List.getElem?_cons_zero]; rfl) rfl (by kernel_rfl) (by kernel_rfl) (by kernel_rfl) (fun _ _ _ h => h) rfl ?_ (by assumption) ?_
                    rotate_left
                    focus (intro w hSw; go_simp; (try with_reducible rfl); done)
                    try simp only [List.setIfInBounds_toArray, List.set_cons_zero, List.set_cons_succ]
                    refine take_at (i := 2) (d := 121) (v := ?_) (by simp only [List.getElem?_toArray, List.getElem?_cons_succ, List.getElem?_cons_zero]; rfl) rfl (by kernel_rfl) (by kernel_rfl) (by kernel_rfl) (fun _ _ _ h => h) rfl ?_ (by assumption) ?_
                    rotate_left
                    focus (intro w hSw; go_simp; (try with_reducible rfl); done)
                    try simp only [List.setIfInBounds_toArray, List.set_cons_zero, List.set_cons_succ]
                    refine take_at (i := 3) (d := 122) (v := ?_) (by simp only [List.getElem?_toArray, List.getElem?_cons_succ, List.getElem?_cons_zero]; rfl) rfl (by kernel_rfl) (by kernel_rfl) (by kernel_rfl) (fun _ _ _ h => h) rfl ?_ (by assumption) ?_
                    rotate_left
                    focus (intro w hSw; go_simp; (try with_reducible rfl); done)
                    try simp only [List.setIfInBounds_toArray, List.set_cons_zero, List.set_cons_succ]
                    refine take_at (i := 4) (d := 123) (v := ?_) (by simp only [List.getElem?_toArray, List.getElem?_cons_succ, List.getElem?_cons_zero]; rfl) rfl (by kernel_rfl) (by kernel_rfl) (by kernel_rfl) (fun _ _ _ h => h) rfl ?_ (by assumption) ?_
                    rotate_left
                    focus (intro w hSw; go_simp; (try with_reducible rfl); done)
                    try simp only [List.setIfInBounds_toArray, List.set_cons_zero, List.set_cons_succ]
                    refine take_at (i := 5) (d := 124) (v := ?_) (by simp only [List.getElem?_toArray, List.getElem?_cons_succ, List.getElem?_cons_zero]; rfl) rfl (by kernel_rfl) (by kernel_rfl) (by kernel_rfl) (fun _ _ _ h => h) rfl ?_ (by assumption) ?_
                    rotate_left
                    focus (intro w hSw; go_simp; (try with_reducible rfl); done)
                    try simp only [List.setIfInBounds_toArray, List.set_cons_zero, List.set_cons_succ]
                    refine take_at (i := 6) (d := 125) (v := ?_) (by simp only [List.getElem?_toArray, List.getElem?_cons_succ, List.getElem?_cons_zero]; rfl) rfl (by kernel_rfl) (by kernel_rfl) (by kernel_rfl) (fun _ _ _ h => h) rfl ?_ (by assumption) ?_
                    rotate_left
                    focus (intro w hSw; go_simp; (try with_reducible rfl); done)
                    try simp only [List.setIfInBounds_toArray, List.set_cons_zero, List.set_cons_succ]
                    refine take_at (i := 7) (d := 126) (v := ?_) (by simp only [List.getElem?_toArray, List.getElem?_cons_succ, List.getElem?_cons_zero]; rfl) rfl (by kernel_rfl) (by kernel_rfl) (by kernel_rfl) (fun _ _ _ h => h) rfl ?_ (by assumption) ?_
                    rotate_left
                    focus (intro w hSw; go_simp; (try with_reducible rfl); done)
                    try simp only [List.setIfInBounds_toArray, List.set_cons_zero, List.set_cons_succ]
                    refine take_at (i := 8) (d := 127) (v := ?_) (by simp only [List.getElem?_toArray, List.getElem?_cons_succ, List.getElem?_cons_zero]; rfl) rfl (by kernel_rfl) (by kernel_rfl) (by kernel_rfl) (fun _ _ _ h => h) rfl ?_ (by assumption) ?_
                    rotate_left
                    focus (intro w hSw; go_simp; (try with_reducible rfl); done)
                    try simp only [List.setIfInBounds_toArray, List.set_cons_zero, List.set_cons_succ]
                    refine take_at (i := 9) (d := 128) (v := ?_) (by simp only [List.getElem?_toArray, List.getElem?_cons_succ, List.getElem?_cons_zero]; rfl) rfl (by kernel_rfl) (by kernel_rfl) (by kernel_rfl) (fun _ _ _ h => h) rfl ?_ (by assumption) ?_
                    rotate_left
                    focus (intro w hSw; go_simp; (try with_reducible rfl); done)
                    try simp only [List.setIfInBounds_toArray, List.set_cons_zero, List.set_cons_succ]
                    refine take_at (i := 10) (d := 129) (v := ?_) (by simp only [List.getElem?_toArray, List.getElem?_cons_succ, List.getElem?_cons_zero]; rfl) rfl (by kernel_rfl) (by kernel_rfl) (by kernel_rfl) (fun _ _ _ h => h) rfl ?_ (by assumption) ?_
                    rotate_left
                    focus (intro w hSw; go_simp; (try with_reducible rfl); done)
                    try simp only [List.setIfInBounds_toArray, List.set_cons_zero, List.set_cons_succ]
                    refine take_at (i := 11) (d := 130) (v := ?_) (by simp only [List.getElem?_toArray, List.getElem?_cons_succ, List.getElem?_cons_zero]; rfl) rfl (by kernel_rfl) (by kernel_rfl) (by kernel_rfl) (fun _ _ _ h => h) rfl ?_ (by assumption) ?_
                    rotate_left
                    focus (intro w hSw; go_simp; (try with_reducible rfl); done)
                    try simp only [List.setIfInBounds_toArray, List.set_cons_zero, List.set_cons_succ]
                    refine take_at (i := 12) (d := 131) (v := ?_) (by simp only [List.getElem?_toArray, List.getElem?_cons_succ, List.getElem?_cons_zero]; rfl) rfl (by kernel_rfl) (by kernel_rfl) (by kernel_rfl) (fun _ _ _ h => h) rfl ?_ (by assumption) ?_
                    rotate_left
                    focus (intro w hSw; go_simp; (try with_reducible rfl); done)
                    try simp only [List.setIfInBounds_toArray, List.set_cons_zero, List.set_cons_succ]
                    refine take_at (i := 13) (d := 132) (v := ?_) (by simp only [List.getElem?_toArray, List.getElem?_cons_succ, List.getElem?_cons_zero]; rfl) rfl (by kernel_rfl) (by kernel_rfl) (by kernel_rfl) (fun _ _ _ h => h) rfl ?_ (by assumption) ?_
                    rotate_left
                    focus (intro w hSw; go_simp; (try with_reducible rfl); done)
                    try simp only [List.setIfInBounds_toArray, List.set_cons_zero, List.set_cons_succ]
                    refine take_at (i := 14) (d := 133) (v := ?_) (by simp only [List.getElem?_toArray, List.getElem?_cons_succ, List.getElem?_cons_zero]; rfl) rfl (by kernel_rfl) (by kernel_rfl) (by kernel_rfl) (fun _ _ _ h => h) rfl ?_ (by assumption) ?_
                    rotate_left
                    focus (intro w hSw; go_simp; (try with_reducible rfl); done)
                    try simp only [List.setIfInBounds_toArray, List.set_cons_zero, List.set_cons_succ]
                    refine call_at (i := 15) (d := 134) (by simp only [List.getElem?_toArray, List.getElem?_cons_succ, List.getElem?_cons_zero]; rfl) rfl (by kernel_rfl) rfl (fun K hK => ?_)
                    go_simp
                    refine (kCompute _ (kd : Int) 0 0 2147483648 0 HJ2.out 4 xi par xn xm (ib _ (by omega) (by omega)) HxiB.out HxnB.out HxmB.out).mono ?_
                    rintro e z1 ⟨rfl, hz⟩
                    have hS1 : Kept v z1 := hS0.below (Nat.le_refl _) hz
                    have q1 : v.heap.size ≤ z1.heap.size := by have := hz.size; simpa using this
                    have B1 := hide ((Below.refl v.heap.size v).drew.trans (hz.mono (Nat.le_refl _)))
                    clear hz
                    go_wp2_with fail
                    refine hK.out _ _ hS1 (fun hSn => ?_)
                    clear hK K
                    try simp only [List.setIfInBounds_toArray, List.set_cons_zero, List.set_cons_succ]
                    refine take_at (i := 16) (d := 135) (v := ?_) (by simp only [List.getElem?_toArray, List.getElem?_cons_succ, List.getElem?_cons_zero]; rfl) rfl (by kernel_rfl) (by kernel_rfl) (by kernel_rfl) (fun _ _ _ h => h) rfl ?_ (by assumption) ?_
                    rotate_left
                    focus (intro w hSw; go_simp; (try with_reducible rfl); done)
                    try simp only [List.setIfInBounds_toArray, List.set_cons_zero, List.set_cons_succ]
                    refine take_at (i := 17) (d := 136) (v := ?_) (by simp only [List.getElem?_toArray, List.getElem?_cons_succ, List.getElem?_cons_zero]; rfl) rfl (by kernel_rfl) (by kernel_rfl) (by kernel_rfl) (fun _ _ _ h => h) rfl ?_ (by assumption) ?_
                    rotate_left
                    focus (intro w hSw; go_simp; (try with_reducible rfl); done)
                    try simp only [List.setIfInBounds_toArray, List.set_cons_zero, List.set_cons_succ]
                    refine take_at (i := 18) (d := 137) (v := ?_) (by simp only [List.getElem?_toArray, List.getElem?_cons_succ, List.getElem?_cons_zero]; rfl) rfl (by kernel_rfl) (by kernel_rfl) (by kernel_rfl) (fun _ _ _ h => h) rfl ?_ (by assumption) ?_
                    rotate_left
                    focus (intro w hSw; go_simp; (try with_reducible rfl); done)
                    try simp only [List.setIfInBounds_toArray, List.set_cons_zero, List.set_cons_succ]
                    refine take_at (i := 19) (d := 138) (v := ?_) (by simp only [List.getElem?_toArray, List.getElem?_cons_succ, List.getElem?_cons_zero]; rfl) rfl (by kernel_rfl) (by kernel_rfl) (by kernel_rfl) (fun _ _ _ h => h) rfl ?_ (by assumption) ?_
                    rotate_left
                    focus (intro w hSw; go_simp; (try with_reducible rfl); done)
                    try simp only [List.setIfInBounds_toArray, List.set_cons_zero, List.set_cons_succ]
                    refine take_at (i := 20) (d := 139) (v := ?_) (by simp only [List.getElem?_toArray, List.getElem?_cons_succ, List.getElem?_cons_zero]; rfl) rfl (by kernel_rfl) (by kernel_rfl) (by kernel_rfl) (fun _ _ _ h => h) rfl ?_ (by assumption) ?_
                    rotate_left
                    focus (intro w hSw; go_simp; (try with_reducible rfl); done)
                    try simp only [List.setIfInBounds_toArray, List.set_cons_zero, List.set_cons_succ]
                    refine take_at (i := 21) (d := 140) (v := ?_) (by simp only [List.getElem?_toArray, List.getElem?_cons_succ, List.getElem?_cons_zero]; rfl) rfl (by kernel_rfl) (by kernel_rfl) (by kernel_rfl) (fun _ _ _ h => h) rfl ?_ (by assumption) ?_
                    rotate_left
                    focus (intro w hSw; go_simp; (try with_reducible rfl); done)
                    try simp only [List.setIfInBounds_toArray, List.set_cons_zero, List.set_cons_succ]
                    refine take_at (i := 22) (d := 141) (v := ?_) (by simp only [List.getElem?_toArray, List.getElem?_cons_succ, List.getElem?_cons_zero]; rfl) rfl (by kernel_rfl) (by kernel_rfl) (by kernel_rfl) (fun _ _ _ h => h) rfl ?_ (by assumption) ?_
                    rotate_left
                    focus (intro w hSw; go_simp; (try with_reducible rfl); done)
                    try simp only [List.setIfInBounds_toArray, List.set_cons_zero, List.set_cons_succ]
                    refine take_at (i := 23) (d := 142) (v := ?_) (by simp only [List.getElem?_toArray, List.getElem?_cons_succ, List.getElem?_cons_zero]; rfl) rfl (by kernel_rfl) (by kernel_rfl) (by kernel_rfl) (fun _ _ _ h => h) rfl ?_ (by assumption) ?_
                    rotate_left
                    focus (intro w hSw; go_simp; (try with_reducible rfl); done)
                    try simp only [List.setIfInBounds_toArray, List.set_cons_zero, List.set_cons_succ]
                    refine take_at (i := 24) (d := 143) (v := ?_) (by simp only [List.getElem?_toArray, List.getElem?_cons_succ, List.getElem?_cons_zero]; rfl) rfl (by kernel_rfl) (by kernel_rfl) (by kernel_rfl) (fun _ _ _ h => h) rfl ?_ (by assumption) ?_
                    rotate_left
                    focus (intro w hSw; go_simp; (try with_reducible rfl); done)
                    try simp only [List.setIfInBounds_toArray, List.set_cons_zero, List.set_cons_succ]
                    refine take_at (i := 25) (d := 144) (v := ?_) (by simp only [List.getElem?_toArray, List.getElem?_cons_succ, List.getElem?_cons_zero]; rfl) rfl (by kernel_rfl) (by kernel_rfl) (by kernel_rfl) (fun _ _ _ h => h) rfl ?_ (by assumption) ?_
                    rotate_left
                    focus (intro w hSw; go_simp; (try with_reducible rfl); done)
                    try simp only [List.setIfInBounds_toArray, List.set_cons_zero, List.set_cons_succ]
                    refine take_at (i := 26) (d := 145) (v := ?_) (by simp only [List.getElem?_toArray, List.getElem?_cons_succ, List.getElem?_cons_zero]; rfl) rfl (by kernel_rfl) (by kernel_rfl) (by kernel_rfl) (fun _ _ _ h => h) rfl ?_ (by assumption) ?_
                    rotate_left
                    focus (intro w hSw; go_simp; (try with_reducible rfl); done)
                    try simp only [List.setIfInBounds_toArray, List.set_cons_zero, List.set_cons_succ]
                    refine take_at (i := 27) (d := 146) (v := ?_) (by simp only [List.getElem?_toArray, List.getElem?_cons_succ, List.getElem?_cons_zero]; rfl) rfl (by kernel_rfl) (by kernel_rfl) (by kernel_rfl) (fun _ _ _ h => h) rfl ?_ (by assumption) ?_
                    rotate_left
                    focus (intro w hSw; go_simp; (try with_reducible rfl); done)
                    try simp only [List.setIfInBounds_toArray, List.set_cons_zero, List.set_cons_succ]
                    refine take_at (i := 28) (d := 147) (v := ?_) (by simp only [List.getElem?_toArray, List.getElem?_cons_succ, List.getElem?_cons_zero]; rfl) rfl (by kernel_rfl) (by kernel_rfl) (by kernel_rfl) (fun _ _ _ h => h) rfl ?_ (by assumption) ?_
                    rotate_left
                    focus (intro w hSw; go_simp; (try with_reducible rfl); done)
                    try simp only [List.setIfInBounds_toArray, List.set_cons_zero, List.set_cons_succ]
                    refine take_at (i := 29) (d := 148) (v := ?_) (by simp only [List.getElem?_toArray, List.getElem?_cons_succ, List.getElem?_cons_zero]; rfl) rfl (by kernel_rfl) (by kernel_rfl) (by kernel_rfl) (fun _ _ _ h => h) rfl ?_ (by assumption) ?_
                    rotate_left
                    focus (intro w hSw; go_simp; (try with_reducible rfl); done)
                    try simp only [List.setIfInBounds_toArray, List.set_cons_zero, List.set_cons_succ]
                    refine take_at (i := 30) (d := 149) (v := ?_) (by simp only [List.getElem?_toArray, List.getElem?_cons_succ, List.getElem?_cons_zero]; rfl) rfl (by kernel_rfl) (by kernel_rfl) (by kernel_rfl) (fun _ _ _ h => h) rfl ?_ (by assumption) ?_
                    rotate_left
                    focus (intro w hSw; go_simp; (try with_reducible rfl); done)
                    try simp only [List.setIfInBounds_toArray, List.set_cons_zero, List.set_cons_succ]
                    refine take_at (i := 31) (d := 150) (v := ?_) (by simp only [List.getElem?_toArray, List.getElem?_cons_succ, List.getElem?_cons_zero]; rfl) rfl (by kernel_rfl) (by kernel_rfl) (by kernel_rfl) (fun _ _ _ h => h) rfl ?_ (by assumption) ?_
                    rotate_left
                    focus (intro w hSw; go_simp; (try with_reducible rfl); done)
                    try simp only [List.setIfInBounds_toArray, List.set_cons_zero, List.set_cons_succ]
                    refine take_at (i := 32) (d := 151) (v := ?_) (by simp only [List.getElem?_toArray, List.getElem?_cons_succ, List.getElem?_cons_zero]; rfl) rfl (by kernel_rfl) (by kernel_rfl) (by kernel_rfl) (fun _ _ _ h => h) rfl ?_ (by assumption) ?_
                    rotate_left
                    focus (intro w hSw; go_simp; (try with_reducible rfl); done)
                    try simp only [List.setIfInBounds_toArray, List.set_cons_zero, List.set_cons_succ]
                    refine take_at (i := 33) (d := 152) (v := ?_) (by simp only [List.getElem?_toArray, List.getElem?_cons_succ, List.getElem?_cons_zero]; rfl) rfl (by kernel_rfl) (by kernel_rfl) (by kernel_rfl) (fun _ _ _ h => h) rfl ?_ (by assumption) ?_
                    rotate_left
                    focus (intro w hSw; go_simp; (try with_reducible rfl); done)
                    try simp only [List.setIfInBounds_toArray, List.set_cons_zero, List.set_cons_succ]
                    refine take_at (i := 34) (d := 153) (v := ?_) (by simp only [List.getElem?_toArray, List.getElem?_cons_succ, List.getElem?_cons_zero]; rfl) rfl (by kernel_rfl) (by kernel_rfl) (by kernel_rfl) (fun _ _ _ h => h) rfl ?_ (by assumption) ?_
                    rotate_left
                    focus (intro w hSw; go_simp; (try with_reducible rfl); done)
                    try simp only [List.setIfInBounds_toArray, List.set_cons_zero, List.set_cons_succ]
                    refine take_at (i := 35) (d := 154) (v := ?_) (by simp only [List.getElem?_toArray, List.getElem?_cons_succ, List.getElem?_cons_zero]; rfl) rfl (by kernel_rfl) (by kernel_rfl) (by kernel_rfl) (fun _ _ _ h => h) rfl ?_ (by assumption) ?_
                    rotate_left
                    focus (intro w hSw; go_simp; (try with_reducible rfl); done)
                    try simp only [List.setIfInBounds_toArray, List.set_cons_zero, List.set_cons_succ]
                    refine call_at (i := 36) (d := 155) (by simp only [List.getElem?_toArray, List.getElem?_cons_succ, List.getElem?_cons_zero]; rfl) rfl (by kernel_rfl) rfl (fun K hK => ?_)
                    go_simp
                    refine (kOrder _ (kd : Int) 5 0 0 0 HJ5.out xi xn xm HxiB.out HxnB.out HxmB.out).mono ?_
                    rintro e z2 ⟨rfl, hz⟩
                    have hS2 : Kept v z2 := hS1.below (q1) hz
                    have q2 : v.heap.size ≤ z2.heap.size := Nat.le_trans q1 hz.size
                    have B2 := hide (B1.out.trans (hz.mono q1))
                    clear hz
                    go_wp2_with fail
                    refine hK.out _ _ hS2 (fun hSn => ?_)
                    clear hK K
                    try simp only [List.setIfInBounds_toArray, List.set_cons_zero, List.set_cons_succ]
                    refine take_at (i := 37) (d := 156) (v := ?_) (by simp only [List.getElem?_toArray, List.getElem?_cons_succ, List.getElem?_cons_zero]; rfl) rfl (by kernel_rfl) (by kernel_rfl) (by kernel_rfl) (fun _ _ _ h => h) rfl ?_ (by assumption) ?_
                    rotate_left
                    focus (intro w hSw; go_simp; (try with_reducible rfl); done)
                    try simp only [List.setIfInBounds_toArray, List.set_cons_zero, List.set_cons_succ]
                    refine take_at (i := 38) (d := 157) (v := ?_) (by simp only [List.getElem?_toArray, List.getElem?_cons_succ, List.getElem?_cons_zero]; rfl) rfl (by kernel_rfl) (by kernel_rfl) (by kernel_rfl) (fun _ _ _ h => h) rfl ?_ (by assumption) ?_
                    rotate_left
                    focus (intro w hSw; go_simp; (try with_reducible rfl); done)
                    try simp only [List.setIfInBounds_toArray, List.set_cons_zero, List.set_cons_succ]
                    refine take_at (i := 39) (d := 158) (v := ?_) (by simp only [List.getElem?_toArray, List.getElem?_cons_succ, List.getElem?_cons_zero]; rfl) rfl (by kernel_rfl) (by kernel_rfl) (by kernel_rfl) (fun _ _ _ h => h) rfl ?_ (by assumption) ?_
                    rotate_left
                    focus (intro w hSw; go_simp; (try with_reducible rfl); done)
                    try simp only [List.setIfInBounds_toArray, List.set_cons_zero, List.set_cons_succ]
                    refine take_at (i := 40) (d := 159) (v := ?_) (by simp only [List.getElem?_toArray, List.getElem?_cons_succ, List.getElem?_cons_zero]; rfl) rfl (by kernel_rfl) (by kernel_rfl) (by kernel_rfl) (fun _ _ _ h => h) rfl ?_ (by assumption) ?_
                    rotate_left
                    focus (intro w hSw; go_simp; (try with_reducible rfl); done)
                    try simp only [List.setIfInBounds_toArray, List.set_cons_zero, List.set_cons_succ]
                    refine take_at (i := 41) (d := 160) (v := ?_) (by simp only [List.getElem?_toArray, List.getElem?_cons_succ, List.getElem?_cons_zero]; rfl) rfl (by kernel_rfl) (by kernel_rfl) (by kernel_rfl) (fun _ _ _ h => h) rfl ?_ (by assumption) ?_
                    rotate_left
                    focus (intro w hSw; go_simp; (try with_reducible rfl); done)
                    try simp only [List.setIfInBounds_toArray, List.set_cons_zero, List.set_cons_succ]
                    refine take_at (i := 42) (d := 161) (v := ?_) (by simp only [List.getElem?_toArray, List.getElem?_cons_succ, List.getElem?_cons_zero]; rfl) rfl (by kernel_rfl) (by kernel_rfl) (by kernel_rfl) (fun _ _ _ h => h) rfl ?_ (by assumption) ?_
                    rotate_left
                    focus (intro w hSw; go_simp; (try with_reducible rfl); done)
                    try simp only [List.setIfInBounds_toArray, List.set_cons_zero, List.set_cons_succ]
                    refine take_at (i := 43) (d := 162) (v := ?_) (by simp only [List.getElem?_toArray, List.getElem?_cons_succ, List.getElem?_cons_zero]; rfl) rfl (by kernel_rfl) (by kernel_rfl) (by kernel_rfl) (fun _ _ _ h => h) rfl ?_ (by assumption) ?_
                    rotate_left
                    focus (intro w hSw; go_simp; (try with_reducible rfl); done)
                    try simp only [List.setIfInBounds_toArray, List.set_cons_zero, List.set_cons_succ]
                    refine take_at (i := 44) (d := 163) (v := ?_) (by simp only [List.getElem?_toArray, List.getElem?_cons_succ, List.getElem?_cons_zero]; rfl) rfl (by kernel_rfl) (by kernel_rfl) (by kernel_rfl) (fun _ _ _ h => h) rfl ?_ (by assumption) ?_
                    rotate_left
                    focus (intro w hSw; go_simp; (try with_reducible rfl); done)
                    try simp only [List.setIfInBounds_toArray, List.set_cons_zero, List.set_cons_succ]
                    refine take_at (i := 45) (d := 164) (v := ?_) (by simp only [List.getElem?_toArray, List.getElem?_cons_succ, List.getElem?_cons_zero]; rfl) rfl (by kernel_rfl) (by kernel_rfl) (by kernel_rfl) (fun _ _ _ h => h) rfl ?_ (by assumption) ?_
                    rotate_left
                    focus (intro w hSw; go_simp; (try with_reducible rfl); done)
                    try simp only [List.setIfInBounds_toArray, List.set_cons_zero, List.set_cons_succ]
                    refine take_at (i := 46) (d := 165) (v := ?_) (by simp only [List.getElem?_toArray, List.getElem?_cons_succ, List.getElem?_cons_zero]; rfl) rfl (by kernel_rfl) (by kernel_rfl) (by kernel_rfl) (fun _ _ _ h => h) rfl ?_ (by assumption) ?_
                    rotate_left
                    focus (intro w hSw; go_simp; (try with_reducible rfl); done)
                    try simp only [List.setIfInBounds_toArray, List.set_cons_zero, List.set_cons_succ]
                    refine take_at (i := 47) (d := 166) (v := ?_) (by simp only [List.getElem?_toArray, List.getElem?_cons_succ, List.getElem?_cons_zero]; rfl) rfl (by kernel_rfl) (by kernel_rfl) (by kernel_rfl) (fun _ _ _ h => h) rfl ?_ (by assumption) ?_
                    rotate_left
                    focus (intro w hSw; go_simp; (try with_reducible rfl); done)
                    try simp only [List.setIfInBounds_toArray, List.set_cons_zero, List.set_cons_succ]
                    refine take_at (i := 48) (d := 167) (v := ?_) (by simp only [List.getElem?_toArray, List.getElem?_cons_succ, List.getElem?_cons_zero]; rfl) rfl (by kernel_rfl) (by kernel_rfl) (by kernel_rfl) (fun _ _ _ h => h) rfl ?_ (by assumption) ?_
                    rotate_left
                    focus (intro w hSw; go_simp; (try with_reducible rfl); done)
                    try simp only [List.setIfInBounds_toArray, List.set_cons_zero, List.set_cons_succ]
                    refine take_at (i := 49) (d := 168) (v := ?_) (by simp only [List.getElem?_toArray, List.getElem?_cons_succ, List.getElem?_cons_zero]; rfl) rfl (by kernel_rfl) (by kernel_rfl) (by kernel_rfl) (fun _ _ _ h => h) rfl ?_ (by assumption) ?_
                    rotate_left
                    focus (intro w hSw; go_simp; (try with_reducible rfl); done)
                    try simp only [List.setIfInBounds_toArray, List.set_cons_zero, List.set_cons_succ]
                    refine take_at (i := 50) (d := 169) (v := ?_) (by simp only [List.getElem?_toArray, List.getElem?_cons_succ, List.getElem?_cons_zero]; rfl) rfl (by kernel_rfl) (by kernel_rfl) (by kernel_rfl) (fun _ _ _ h => h) rfl ?_ (by assumption) ?_
                    rotate_left
                    focus (intro w hSw; go_simp; (try with_reducible rfl); done)
                    try simp only [List.setIfInBounds_toArray, List.set_cons_zero, List.set_cons_succ]
                    refine take_at (i := 51) (d := 170) (v := ?_) (by simp only [List.getElem?_toArray, List.getElem?_cons_succ, List.getElem?_cons_zero]; rfl) rfl (by kernel_rfl) (by kernel_rfl) (by kernel_rfl) (fun _ _ _ h => h) rfl ?_ (by assumption) ?_
                    rotate_left
                    focus (intro w hSw; go_simp; (try with_reducible rfl); done)
                    try simp only [List.setIfInBounds_toArray, List.set_cons_zero, List.set_cons_succ]
                    refine take_at (i := 52) (d := 171) (v := ?_) (by simp only [List.getElem?_toArray, List.getElem?_cons_succ, List.getElem?_cons_zero]; rfl) rfl (by kernel_rfl) (by kernel_rfl) (by kernel_rfl) (fun _ _ _ h => h) rfl ?_ (by assumption) ?_
                    rotate_left
                    focus (intro w hSw; go_simp; (try with_reducible rfl); done)
                    try simp only [List.setIfInBounds_toArray, List.set_cons_zero, List.set_cons_succ]
                    refine take_at (i := 53) (d := 172) (v := ?_) (by simp only [List.getElem?_toArray, List.getElem?_cons_succ, List.getElem?_cons_zero]; rfl) rfl (by kernel_rfl) (by kernel_rfl) (by kernel_rfl) (fun _ _ _ h => h) rfl ?_ (by assumption) ?_
                    rotate_left
                    focus (intro w hSw; go_simp; (try with_reducible rfl); done)
                    try simp only [List.setIfInBounds_toArray, List.set_cons_zero, List.set_cons_succ]
                    refine take_at (i := 54) (d := 173) (v := ?_) (by simp only [List.getElem?_toArray, List.getElem?_cons_succ, List.getElem?_cons_zero]; rfl) rfl (by kernel_rfl) (by kernel_rfl) (by kernel_rfl) (fun _ _ _ h => h) rfl ?_ (by assumption) ?_
                    rotate_left
                    focus (intro w hSw; go_simp; (try with_reducible rfl); done)
                    try simp only [List.setIfInBounds_toArray, List.set_cons_zero, List.set_cons_succ]
                    refine take_at (i := 55) (d := 174) (v := ?_) (by simp only [List.getElem?_toArray, List.getElem?_cons_succ, List.getElem?_cons_zero]; rfl) rfl (by kernel_rfl) (by kernel_rfl) (by kernel_rfl) (fun _ _ _ h => h) rfl ?_ (by assumption) ?_
                    rotate_left
                    focus (intro w hSw; go_simp; (try with_reducible rfl); done)
                    try simp only [List.setIfInBounds_toArray, List.set_cons_zero, List.set_cons_succ]
                    refine take_at (i := 56) (d := 175) (v := ?_) (by simp only [List.getElem?_toArray, List.getElem?_cons_succ, List.getElem?_cons_zero]; rfl) rfl (by kernel_rfl) (by kernel_rfl) (by kernel_rfl) (fun _ _ _ h => h) rfl ?_ (by assumption) ?_
                    rotate_left
                    focus (intro w hSw; go_simp; (try with_reducible rfl); done)
                    try simp only [List.setIfInBounds_toArray, List.set_cons_zero, List.set_cons_succ]
                    refine take_at (i := 57) (d := 176) (v := ?_) (by simp only [List.getElem?_toArray, List.getElem?_cons_succ, List.getElem?_cons_zero]; rfl) rfl (by kernel_rfl) (by kernel_rfl) (by kernel_rfl) (fun _ _ _ h => h) rfl ?_ (by assumption) ?_
                    rotate_left
                    focus (intro w hSw; go_simp; (try with_reducible rfl); done)
                    try simp only [List.setIfInBounds_toArray, List.set_cons_zero, List.set_cons_succ]
                    refine take_at (i := 58) (d := 177) (v := ?_) (by simp only [List.getElem?_toArray, List.getElem?_cons_succ, List.getElem?_cons_zero]; rfl) rfl (by kernel_rfl) (by kernel_rfl) (by kernel_rfl) (fun _ _ _ h => h) rfl ?_ (by assumption) ?_
                    rotate_left
                    focus (intro w hSw; go_simp; (try with_reducible rfl); done)
                    try simp only [List.setIfInBounds_toArray, List.set_cons_zero, List.set_cons_succ]
                    refine take_at (i := 59) (d := 178) (v := ?_) (by simp only [List.getElem?_toArray, List.getElem?_cons_succ, List.getElem?_cons_zero]; rfl) rfl (by kernel_rfl) (by kernel_rfl) (by kernel_rfl) (fun _ _ _ h => h) rfl ?_ (by assumption) ?_
                    rotate_left
                    focus (intro w hSw; go_simp; (try with_reducible rfl); done)
                    try simp only [List.setIfInBounds_toArray, List.set_cons_zero, List.set_cons_succ]
                    refine take_at (i := 60) (d := 179) (v := ?_) (by simp only [List.getElem?_toArray, List.getElem?_cons_succ, List.getElem?_cons_zero]; rfl) rfl (by kernel_rfl) (by kernel_rfl) (by kernel_rfl) (fun _ _ _ h => h) rfl ?_ (by assumption) ?_
                    rotate_left
                    focus (intro w hSw; go_simp; (try with_reducible rfl); done)
                    try simp only [List.setIfInBounds_toArray, List.set_cons_zero, List.set_cons_succ]
                    refine take_at (i := 61) (d := 180) (v := ?_) (by simp only [List.getElem?_toArray, List.getElem?_cons_succ, List.getElem?_cons_zero]; rfl) rfl (by kernel_rfl) (by kernel_rfl) (by kernel_rfl) (fun _ _ _ h => h) rfl ?_ (by assumption) ?_
                    rotate_left
                    focus (intro w hSw; go_simp; (try with_reducible rfl); done)
                    try simp only [List.setIfInBounds_toArray, List.set_cons_zero, List.set_cons_succ]
                    refine take_at (i := 62) (d := 181) (v := ?_) (by simp only [List.getElem?_toArray, List.getElem?_cons_succ, List.getElem?_cons_zero]; rfl) rfl (by kernel_rfl) (by kernel_rfl) (by kernel_rfl) (fun _ _ _ h => h) rfl ?_ (by assumption) ?_
                    rotate_left
                    focus (intro w hSw; go_simp; (try with_reducible rfl); done)
                    try simp only [List.setIfInBounds_toArray, List.set_cons_zero, List.set_cons_succ]
                    refine take_at (i := 63) (d := 182) (v := ?_) (by simp only [List.getElem?_toArray, List.getElem?_cons_succ, List.getElem?_cons_zero]; rfl) rfl (by kernel_rfl) (by kernel_rfl) (by kernel_rfl) (fun _ _ _ h => h) rfl ?_ (by assumption) ?_
                    rotate_left
                    focus (intro w hSw; go_simp; (try with_reducible rfl); done)
                    try simp only [List.setIfInBounds_toArray, List.set_cons_zero, List.set_cons_succ]
                    refine take_at (i := 64) (d := 183) (v := ?_) (by simp only [List.getElem?_toArray, List.getElem?_cons_succ, List.getElem?_cons_zero]; rfl) rfl (by kernel_rfl) (by kernel_rfl) (by kernel_rfl) (fun _ _ _ h => h) rfl ?_ (by assumption) ?_
                    rotate_left
                    focus (intro w hSw; go_simp; (try with_reducible rfl); done)
                    try simp only [List.setIfInBounds_toArray, List.set_cons_zero, List.set_cons_succ]
                    refine take_at (i := 65) (d := 184) (v := ?_) (by simp only [List.getElem?_toArray, List.getElem?_cons_succ, List.getElem?_cons_zero]; rfl) rfl (by kernel_rfl) (by kernel_rfl) (by kernel_rfl) (fun _ _ _ h => h) rfl ?_ (by assumption) ?_
                    rotate_left
                    focus (intro w hSw; go_simp; (try with_reducible rfl); done)
                    try simp only [List.setIfInBounds_toArray, List.set_cons_zero, List.set_cons_succ]
                    refine take_at (i := 66) (d := 185) (v := ?_) (by simp only [List.getElem?_toArray, List.getElem?_cons_succ, List.getElem?_cons_zero]; rfl) rfl (by kernel_rfl) (by kernel_rfl) (by kernel_rfl) (fun _ _ _ h => h) rfl ?_ (by assumption) ?_
                    rotate_left
                    focus (intro w hSw; go_simp; (try with_reducible rfl); done)
                    try simp only [List.setIfInBounds_toArray, List.set_cons_zero, List.set_cons_succ]
                    refine take_at (i := 67) (d := 186) (v := ?_) (by simp only [List.getElem?_toArray, List.getElem?_cons_succ, List.getElem?_cons_zero]; rfl) rfl (by kernel_rfl) (by kernel_rfl) (by kernel_rfl) (fun _ _ _ h => h) rfl ?_ (by assumption) ?_
                    rotate_left
                    focus (intro w hSw; go_simp; (try with_reducible rfl); done)
                    try simp only [List.setIfInBounds_toArray, List.set_cons_zero, List.set_cons_succ]
                    refine take_at (i := 68) (d := 187) (v := ?_) (by simp only [List.getElem?_toArray, List.getElem?_cons_succ, List.getElem?_cons_zero]; rfl) rfl (by kernel_rfl) (by kernel_rfl) (by kernel_rfl) (fun _ _ _ h => h) rfl ?_ (by assumption) ?_
                    rotate_left
                    focus (intro w hSw; go_simp; (try with_reducible rfl); done)
                    try simp only [List.setIfInBounds_toArray, List.set_cons_zero, List.set_cons_succ]
                    refine take_at (i := 69) (d := 188) (v := ?_) (by simp only [List.getElem?_toArray, List.getElem?_cons_succ, List.getElem?_cons_zero]; rfl) rfl (by kernel_rfl) (by kernel_rfl) (by kernel_rfl) (fun _ _ _ h => h) rfl ?_ (by assumption) ?_
                    rotate_left
                    focus (intro w hSw; go_simp; (try with_reducible rfl); done)
                    try simp only [List.setIfInBounds_toArray, List.set_cons_zero, List.set_cons_succ]
                    refine take_at (i := 70) (d := 189) (v := ?_) (by simp only [List.getElem?_toArray, List.getElem?_cons_succ, List.getElem?_cons_zero]; rfl) rfl (by kernel_rfl) (by kernel_rfl) (by kernel_rfl) (fun _ _ _ h => h) rfl ?_ (by assumption) ?_
                    rotate_left
                    focus (intro w hSw; go_simp; (try with_reducible rfl); done)
                    try simp only [List.setIfInBounds_toArray, List.set_cons_zero, List.set_cons_succ]
                    refine take_at (i := 71) (d := 190) (v := ?_) (by simp only [List.getElem?_toArray, List.getElem?_cons_succ, List.getElem?_cons_zero]; rfl) rfl (by kernel_rfl) (by kernel_rfl) (by kernel_rfl) (fun _ _ _ h => h) rfl ?_ (by assumption) ?_
                    rotate_left
                    focus (intro w hSw; go_simp; (try with_reducible rfl); done)
                    try simp only [List.setIfInBounds_toArray, List.set_cons_zero, List.set_cons_succ]
                    refine take_at (i := 72) (d := 191) (v := ?_) (by simp only [List.getElem?_toArray, List.getElem?_cons_succ, List.getElem?_cons_zero]; rfl) rfl (by kernel_rfl) (by kernel_rfl) (by kernel_rfl) (fun _ _ _ h => h) rfl ?_ (by assumption) ?_
                    rotate_left
                    focus (intro w hSw; go_simp; (try with_reducible rfl); done)
                    try simp only [List.setIfInBounds_toArray, List.set_cons_zero, List.set_cons_succ]
                    refine take_at (i := 73) (d := 192) (v := ?_) (by simp only [List.getElem?_toArray, List.getElem?_cons_succ, List.getElem?_cons_zero]; rfl) rfl (by kernel_rfl) (by kernel_rfl) (by kernel_rfl) (fun _ _ _ h => h) rfl ?_ (by assumption) ?_
                    rotate_left
                    focus (intro w hSw; go_simp; (try with_reducible rfl); done)
                    try simp only [List.setIfInBounds_toArray, List.set_cons_zero, List.set_cons_succ]
                    refine take_at (i := 74) (d := 193) (v := ?_) (by simp only [List.getElem?_toArray, List.getElem?_cons_succ, List.getElem?_cons_zero]; rfl) rfl (by kernel_rfl) (by kernel_rfl) (by kernel_rfl) (fun _ _ _ h => h) rfl ?_ (by assumption) ?_
                    rotate_left
                    focus (intro w hSw; go_simp; (try with_reducible rfl); done)
                    try simp only [List.setIfInBounds_toArray, List.set_cons_zero, List.set_cons_succ]
                    refine call_at (i := 75) (d := 194) (by simp only [List.getElem?_toArray, List.getElem?_cons_succ, List.getElem?_cons_zero]; rfl) rfl (by kernel_rfl) rfl (fun K hK => ?_)
                    go_simp
                    refine (kPart _ (kd : Int) 5 0 0 0 HJ5.out xi xn HxiB.out HxnB.out ((q : Int) == 0) _ (millE.take q) q c (mill_take q HQ2.out) ((HAu.out.kept hS2 q2).es.take_ q) hqc hcmn (fun e he => mill_edB e (List.mem_of_mem_take he)) xi xn xn xi HxiB.out HxnB.out HxnB.out HxiB.out).mono ?_
                    rintro e z3 ⟨rfl, hz⟩
                    have hS3 : Kept v z3 := hS2.below (q2) hz
                    have q3 : v.heap.size ≤ z3.heap.size := Nat.le_trans q2 hz.size
                    have B3 := hide (B2.out.trans (hz.mono q2))
                    clear hz
                    go_wp2_with fail
                    refine hK.out _ _ hS3 (fun hSn => ?_)
                    clear hK K
                    try simp only [List.setIfInBounds_toArray, List.set_cons_zero, List.set_cons_succ]
                    refine take_at (i := 76) (d := 195) (v := ?_) (by simp only [List.getElem?_toArray, List.getElem?_cons_succ, List.getElem?_cons_zero]; rfl) rfl (by kernel_rfl) (by kernel_rfl) (by kernel_rfl) (fun _ _ _ h => h) rfl ?_ (by assumption) ?_
                    rotate_left
                    focus (intro w hSw; go_simp; (try with_reducible rfl); done)
                    try simp only [List.setIfInBounds_toArray, List.set_cons_zero, List.set_cons_succ]
                    refine take_at (i := 77) (d := 196) (v := ?_) (by simp only [List.getElem?_toArray, List.getElem?_cons_succ, List.getElem?_cons_zero]; rfl) rfl (by kernel_rfl) (by kernel_rfl) (by kernel_rfl) (fun _ _ _ h => h) rfl ?_ (by assumption) ?_
                    rotate_left
                    focus (intro w hSw; go_simp; (try with_reducible rfl); done)
                    try simp only [List.setIfInBounds_toArray, List.set_cons_zero, List.set_cons_succ]
                    refine wpAnyH_done (by kernel_rfl) ?_ _
                    clear hS0 hSn hS1 hS2
                    have hgo := hide (HBv.out.trans (B3.out.mono HBv.out.size))
                    have hkk : Hid (Kept t z3) := hide (HKv.out.below hsv B3.out)
                    have hss : t.heap.size ≤ z3.heap.size := Nat.le_trans hsv q3
                    go_wp2
                    exact ⟨AkR8.mk (n + 1) (by rfl) (by omega) hkk hgo hss, by simp [AkM, intOf]; omega⟩
                · obtain rfl : n = 10 := by omega
                  rw [show ((10 : Nat) : Int) = 10 from rfl]
                  go_wp2
                  refine wp_loop (AkR11 w t G kd i J) (fun a' _ => AkMz a') ?_ ?_
                  · exact AkR11.mk (-1) rfl (by omega) hk1 hb1 hs1
                  ·
                    clear hk1 hb1 hs1
                    rintro a' wr ⟨s, x6, x8, uu, rfl, ⟨hs0, hs6⟩, hk1, hb1, hs1⟩
                    unfold AkF
                    by_cases hlts : s < 6
                    · as_aux_lemma =>
                        have HAw : Hid (AkB wr G b off c) := hide (HAt.out.kept hk1.out hs1)
                        have HJw : Hid (JobC wr J (kd : Int) 5 0 0 0) := hide (HJ.out.kept hk1.out hs1)
                        have c0 := HJw.out.c0
                        have c1 := HJw.out.c1
                        have c2 := HJw.out.c2
                        have c3 := HJw.out.c3
                        have c4 := HJw.out.c4
                        have cl := HJw.out.lt
                        have g1' := HAw.out.g1
                        have gl : G < wr.heap.size := by have := HAw.out.lt; omega
                        have gl1 : G + 1 < wr.heap.size := HAw.out.lt
                        obtain ⟨xi, hxi⟩ : ∃ x, tenA i = x := ⟨_, rfl⟩
                        have HxiB : Hid (i64B xi) := hide (by rw [← hxi]; exact ten_bound _)
                        have ci := HAw.out.at_ i hlti
                        rw [hxi] at ci
                        have hc1 : ¬ (c : Int) = 1 := by omega
                        have hc1n : ¬ c = 1 := by omega
                        have hc2 : ¬ (c : Int) = 2 := by omega
                        have hc2n : ¬ c = 2 := by omega
                        have hc4 : (4 : Int) ≤ (c : Int) := by omega
                        clear hxi
                        go_upto_region 39 with fail
                        refine wp_region_held_drew (S := Kept wr) (by kernel_rfl) (Kept.drew wr) (fun hS0 => ?_)
                        refine take_at (i := 0) (d := 201) (v := ?_) (by simp only [List.getElem?_toArray, List.getElem?_cons_succ, List.getElem?_cons_zero]; rfl) rfl (by kernel_rfl) (by kernel_rfl) (by kernel_rfl) (fun _ _ _ h => h) rfl ?_ (by assumption) ?_
                        rotate_left
                        focus (intro w hSw; go_simp; (try with_reducible rfl); done)
                        try simp only [List.setIfInBounds_toArray, List.set_cons_zero, List.set_cons_succ]
                        refine take_at (i := 1) (d := 202) (v := ?_) (by simp only [List.getElem?_toArray, List.getElem?_cons_succ, List.getElem?_cons_zero]; rfl) rfl (by kernel_rfl) (by kernel_rfl) (by kernel_rfl) (fun _ _ _ h => h) rfl ?_ (by assumption) ?_
                        rotate_left
                        focus (intro w hSw; go_simp; (try with_reducible rfl); done)
                        try simp only [List.setIfInBounds_toArray, List.set_cons_zero, List.set_cons_succ]
                        refine take_at (i := 2) (d := 203) (v := ?_) (by simp only [List.getElem?_toArray, List.getElem?_cons_succ, List.getElem?_cons_zero]; rfl) rfl (by kernel_rfl) (by kernel_rfl) (by kernel_rfl) (fun _ _ _ h => h) rfl ?_ (by assumption) ?_
                        rotate_left
                        focus (intro w hSw; go_simp; (try with_reducible rfl); done)
                        try simp only [List.setIfInBounds_toArray, List.set_cons_zero, List.set_cons_succ]
                        refine take_at (i := 3) (d := 204) (v := ?_) (by simp only [List.getElem?_toArray, List.getElem?_cons_succ, List.getElem?_cons_zero]; rfl) rfl (by kernel_rfl) (by kernel_rfl) (by kernel_rfl) (fun _ _ _ h => h) rfl ?_ (by assumption) ?_
                        rotate_left
                        focus (intro w hSw; go_simp; (try with_reducible rfl); done)
                        try simp only [List.setIfInBounds_toArray, List.set_cons_zero, List.set_cons_succ]
                        refine take_at (i := 4) (d := 205) (v := ?_) (by simp only [List.getElem?_toArray, List.getElem?_cons_succ, List.getElem?_cons_zero]; rfl) rfl (by kernel_rfl) (by kernel_rfl) (by kernel_rfl) (fun _ _ _ h => h) rfl ?_ (by assumption) ?_
                        rotate_left
                        focus (intro w hSw; go_simp; (try with_reducible rfl); done)
                        try simp only [List.setIfInBounds_toArray, List.set_cons_zero, List.set_cons_succ]
                        refine take_at (i := 5) (d := 206) (v := ?_) (by simp only [List.getElem?_toArray, List.getElem?_cons_succ, List.getElem?_cons_zero]; rfl) rfl (by kernel_rfl) (by kernel_rfl) (by kernel_rfl) (fun _ _ _ h => h) rfl ?_ (by assumption) ?_
                        rotate_left
                        focus (intro w hSw; go_simp; (try with_reducible rfl); done)
                        try simp only [List.setIfInBounds_toArray, List.set_cons_zero, List.set_cons_succ]
                        refine take_at (i := 6) (d := 207) (v := ?_) (by simp only [List.getElem?_toArray, List.getElem?_cons_succ, List.getElem?_cons_zero]; rfl) rfl (by kernel_rfl) (by kernel_rfl) (by kernel_rfl) (fun _ _ _ h => h) rfl ?_ (by assumption) ?_
                        rotate_left
                        focus (intro w hSw; go_simp; (try with_reducible rfl); done)
                        try simp only [List.setIfInBounds_toArray, List.set_cons_zero, List.set_cons_succ]
                        refine take_at (i := 7) (d := 208) (v := ?_) (by simp only [List.getElem?_toArray, List.getElem?_cons_succ, List.getElem?_cons_zero]; rfl) rfl (by kernel_rfl) (by kernel_rfl) (by kernel_rfl) (fun _ _ _ h => h) rfl ?_ (by assumption) ?_
                        rotate_left
                        focus (intro w hSw; go_simp; (try with_reducible rfl); done)
                        try simp only [List.setIfInBounds_toArray, List.set_cons_zero, List.set_cons_succ]
                        refine take_at (i := 8) (d := 209) (v := ?_) (by simp only [List.getElem?_toArray, List.getElem?_cons_succ, List.getElem?_cons_zero]; rfl) rfl (by kernel_rfl) (by kernel_rfl) (by kernel_rfl) (fun _ _ _ h => h) rfl ?_ (by assumption) ?_
                        rotate_left
                        focus (intro w hSw; go_simp; (try with_reducible rfl); done)
                        try simp only [List.setIfInBounds_toArray, List.set_cons_zero, List.set_cons_succ]
                        refine take_at (i := 9) (d := 210) (v := ?_) (by simp only [List.getElem?_toArray, List.getElem?_cons_succ, List.getElem?_cons_zero]; rfl) rfl (by kernel_rfl) (by kernel_rfl) (by kernel_rfl) (fun _ _ _ h => h) rfl ?_ (by assumption) ?_
                        rotate_left
                        focus (intro w hSw; go_simp; (try with_reducible rfl); done)
                        try simp only [List.setIfInBounds_toArray, List.set_cons_zero, List.set_cons_succ]
                        refine take_at (i := 10) (d := 211) (v := ?_) (by simp only [List.getElem?_toArray, List.getElem?_cons_succ, List.getElem?_cons_zero]; rfl) rfl (by kernel_rfl) (by kernel_rfl) (by kernel_rfl) (fun _ _ _ h => h) rfl ?_ (by assumption) ?_
                        rotate_left
                        focus (intro w hSw; go_simp; (try with_reducible rfl); done)
                        try simp only [List.setIfInBounds_toArray, List.set_cons_zero, List.set_cons_succ]
                        refine call_at (i := 11) (d := 212) (by simp only [List.getElem?_toArray, List.getElem?_cons_succ, List.getElem?_cons_zero]; rfl) rfl (by kernel_rfl) rfl (fun K hK => ?_)
                        go_simp
                        refine (kSend _ (kd : Int) 5 0 0 0 HJ5.out s xi (ib _ (by omega) (by omega)) HxiB.out true _ millE 5 c rfl (HAw.out.kept hS0 (Nat.le_refl _)).es hc5n hcmn mill_edB _ (millE.drop 1) 4 (c - 1) rfl ((HAw.out.kept hS0 (Nat.le_refl _)).es.cut 1) (by omega) (by omega) (fun e he => mill_edB e (List.mem_of_mem_drop he))).mono ?_
                        rintro e z1 ⟨rfl, hz⟩
                        have hS1 : Kept wr z1 := hS0.below (Nat.le_refl _) hz
                        have q1 : wr.heap.size ≤ z1.heap.size := by have := hz.size; simpa using this
                        have B1 := hide ((Below.refl wr.heap.size wr).drew.trans (hz.mono (Nat.le_refl _)))
                        clear hz
                        go_wp2_with fail
                        refine hK.out _ _ hS1 (fun hSn => ?_)
                        clear hK K
                        try simp only [List.setIfInBounds_toArray, List.set_cons_zero, List.set_cons_succ]
                        refine take_at (i := 12) (d := 213) (v := ?_) (by simp only [List.getElem?_toArray, List.getElem?_cons_succ, List.getElem?_cons_zero]; rfl) rfl (by kernel_rfl) (by kernel_rfl) (by kernel_rfl) (fun _ _ _ h => h) rfl ?_ (by assumption) ?_
                        rotate_left
                        focus (intro w hSw; go_simp; (try with_reducible rfl); done)
                        try simp only [List.setIfInBounds_toArray, List.set_cons_zero, List.set_cons_succ]
                        refine take_at (i := 13) (d := 214) (v := ?_) (by simp only [List.getElem?_toArray, List.getElem?_cons_succ, List.getElem?_cons_zero]; rfl) rfl (by kernel_rfl) (by kernel_rfl) (by kernel_rfl) (fun _ _ _ h => h) rfl ?_ (by assumption) ?_
                        rotate_left
                        focus (intro w hSw; go_simp; (try with_reducible rfl); done)
                        try simp only [List.setIfInBounds_toArray, List.set_cons_zero, List.set_cons_succ]
                        refine take_at (i := 14) (d := 215) (v := ?_) (by simp only [List.getElem?_toArray, List.getElem?_cons_succ, List.getElem?_cons_zero]; rfl) rfl (by kernel_rfl) (by kernel_rfl) (by kernel_rfl) (fun _ _ _ h => h) rfl ?_ (by assumption) ?_
                        rotate_left
                        focus (intro w hSw; go_simp; (try with_reducible rfl); done)
                        try simp only [List.setIfInBounds_toArray, List.set_cons_zero, List.set_cons_succ]
                        refine take_at (i := 15) (d := 216) (v := ?_) (by simp only [List.getElem?_toArray, List.getElem?_cons_succ, List.getElem?_cons_zero]; rfl) rfl (by kernel_rfl) (by kernel_rfl) (by kernel_rfl) (fun _ _ _ h => h) rfl ?_ (by assumption) ?_
                        rotate_left
                        focus (intro w hSw; go_simp; (try with_reducible rfl); done)
                        try simp only [List.setIfInBounds_toArray, List.set_cons_zero, List.set_cons_succ]
                        refine take_at (i := 16) (d := 217) (v := ?_) (by simp only [List.getElem?_toArray, List.getElem?_cons_succ, List.getElem?_cons_zero]; rfl) rfl (by kernel_rfl) (by kernel_rfl) (by kernel_rfl) (fun _ _ _ h => h) rfl ?_ (by assumption) ?_
                        rotate_left
                        focus (intro w hSw; go_simp; (try with_reducible rfl); done)
                        try simp only [List.setIfInBounds_toArray, List.set_cons_zero, List.set_cons_succ]
                        refine take_at (i := 17) (d := 218) (v := ?_) (by simp only [List.getElem?_toArray, List.getElem?_cons_succ, List.getElem?_cons_zero]; rfl) rfl (by kernel_rfl) (by kernel_rfl) (by kernel_rfl) (fun _ _ _ h => h) rfl ?_ (by assumption) ?_
                        rotate_left
                        focus (intro w hSw; go_simp; (try with_reducible rfl); done)
                        try simp only [List.setIfInBounds_toArray, List.set_cons_zero, List.set_cons_succ]
                        refine take_at (i := 18) (d := 219) (v := ?_) (by simp only [List.getElem?_toArray, List.getElem?_cons_succ, List.getElem?_cons_zero]; rfl) rfl (by kernel_rfl) (by kernel_rfl) (by kernel_rfl) (fun _ _ _ h => h) rfl ?_ (by assumption) ?_
                        rotate_left
                        focus (intro w hSw; go_simp; (try with_reducible rfl); done)
                        try simp only [List.setIfInBounds_toArray, List.set_cons_zero, List.set_cons_succ]
                        refine take_at (i := 19) (d := 220) (v := ?_) (by simp only [List.getElem?_toArray, List.getElem?_cons_succ, List.getElem?_cons_zero]; rfl) rfl (by kernel_rfl) (by kernel_rfl) (by kernel_rfl) (fun _ _ _ h => h) rfl ?_ (by assumption) ?_
                        rotate_left
                        focus (intro w hSw; go_simp; (try with_reducible rfl); done)
                        try simp only [List.setIfInBounds_toArray, List.set_cons_zero, List.set_cons_succ]
                        refine take_at (i := 20) (d := 221) (v := ?_) (by simp only [List.getElem?_toArray, List.getElem?_cons_succ, List.getElem?_cons_zero]; rfl) rfl (by kernel_rfl) (by kernel_rfl) (by kernel_rfl) (fun _ _ _ h => h) rfl ?_ (by assumption) ?_
                        rotate_left
                        focus (intro w hSw; go_simp; (try with_reducible rfl); done)
                        try simp only [List.setIfInBounds_toArray, List.set_cons_zero, List.set_cons_succ]
                        refine take_at (i := 21) (d := 222) (v := ?_) (by simp only [List.getElem?_toArray, List.getElem?_cons_succ, List.getElem?_cons_zero]; rfl) rfl (by kernel_rfl) (by kernel_rfl) (by kernel_rfl) (fun _ _ _ h => h) rfl ?_ (by assumption) ?_
                        rotate_left
                        focus (intro w hSw; go_simp; (try with_reducible rfl); done)
                        try simp only [List.setIfInBounds_toArray, List.set_cons_zero, List.set_cons_succ]
                        refine take_at (i := 22) (d := 223) (v := ?_) (by simp only [List.getElem?_toArray, List.getElem?_cons_succ, List.getElem?_cons_zero]; rfl) rfl (by kernel_rfl) (by kernel_rfl) (by kernel_rfl) (fun _ _ _ h => h) rfl ?_ (by assumption) ?_
                        rotate_left
                        focus (intro w hSw; go_simp; (try with_reducible rfl); done)
                        try simp only [List.setIfInBounds_toArray, List.set_cons_zero, List.set_cons_succ]
                        refine call_at (i := 23) (d := 224) (by simp only [List.getElem?_toArray, List.getElem?_cons_succ, List.getElem?_cons_zero]; rfl) rfl (by kernel_rfl) rfl (fun K hK => ?_)
                        go_simp
                        refine (kSend _ (kd : Int) 5 0 0 0 HJ5.out s xi (ib _ (by omega) (by omega)) HxiB.out false _ (millE.drop 2) 3 (c - 2) rfl ((HAw.out.kept hS1 q1).es.cut 2) (by omega) (by omega) (fun e he => mill_edB e (List.mem_of_mem_drop he)) none [] 0 0 rfl Els.nil_ (by omega) (by omega) (by intro e he; cases he)).mono ?_
                        rintro e z2 ⟨rfl, hz⟩
                        have hS2 : Kept wr z2 := hS1.below (q1) hz
                        have q2 : wr.heap.size ≤ z2.heap.size := Nat.le_trans q1 hz.size
                        have B2 := hide (B1.out.trans (hz.mono q1))
                        clear hz
                        go_wp2_with fail
                        refine hK.out _ _ hS2 (fun hSn => ?_)
                        clear hK K
                        try simp only [List.setIfInBounds_toArray, List.set_cons_zero, List.set_cons_succ]
                        refine take_at (i := 24) (d := 225) (v := ?_) (by simp only [List.getElem?_toArray, List.getElem?_cons_succ, List.getElem?_cons_zero]; rfl) rfl (by kernel_rfl) (by kernel_rfl) (by kernel_rfl) (fun _ _ _ h => h) rfl ?_ (by assumption) ?_
                        rotate_left
                        focus (intro w hSw; go_simp; (try with_reducible rfl); done)
                        try simp only [List.setIfInBounds_toArray, List.set_cons_zero, List.set_cons_succ]
                        refine take_at (i := 25) (d := 226) (v := ?_) (by simp only [List.getElem?_toArray, List.getElem?_cons_succ, List.getElem?_cons_zero]; rfl) rfl (by kernel_rfl) (by kernel_rfl) (by kernel_rfl) (fun _ _ _ h => h) rfl ?_ (by assumption) ?_
                        rotate_left
                        focus (intro w hSw; go_simp; (try with_reducible rfl); done)
                        try simp only [List.setIfInBounds_toArray, List.set_cons_zero, List.set_cons_succ]
                        refine take_at (i := 26) (d := 227) (v := ?_) (by simp only [List.getElem?_toArray, List.getElem?_cons_succ, List.getElem?_cons_zero]; rfl) rfl (by kernel_rfl) (by kernel_rfl) (by kernel_rfl) (fun _ _ _ h => h) rfl ?_ (by assumption) ?_
                        rotate_left
                        focus (intro w hSw; go_simp; (try with_reducible rfl); done)
                        try simp only [List.setIfInBounds_toArray, List.set_cons_zero, List.set_cons_succ]
                        refine take_at (i := 27) (d := 228) (v := ?_) (by simp only [List.getElem?_toArray, List.getElem?_cons_succ, List.getElem?_cons_zero]; rfl) rfl (by kernel_rfl) (by kernel_rfl) (by kernel_rfl) (fun _ _ _ h => h) rfl ?_ (by assumption) ?_
                        rotate_left
                        focus (intro w hSw; go_simp; (try with_reducible rfl); done)
                        try simp only [List.setIfInBounds_toArray, List.set_cons_zero, List.set_cons_succ]
                        refine take_at (i := 28) (d := 229) (v := ?_) (by simp only [List.getElem?_toArray, List.getElem?_cons_succ, List.getElem?_cons_zero]; rfl) rfl (by kernel_rfl) (by kernel_rfl) (by kernel_rfl) (fun _ _ _ h => h) rfl ?_ (by assumption) ?_
                        rotate_left
                        focus (intro w hSw; go_simp; (try with_reducible rfl); done)
                        try simp only [List.setIfInBounds_toArray, List.set_cons_zero, List.set_cons_succ]
                        refine take_at (i := 29) (d := 230) (v := ?_) (by simp only [List.getElem?_toArray, List.getElem?_cons_succ, List.getElem?_cons_zero]; rfl) rfl (by kernel_rfl) (by kernel_rfl) (by kernel_rfl) (fun _ _ _ h => h) rfl ?_ (by assumption) ?_
                        rotate_left
                        focus (intro w hSw; go_simp; (try with_reducible rfl); done)
                        try simp only [List.setIfInBounds_toArray, List.set_cons_zero, List.set_cons_succ]
                        refine take_at (i := 30) (d := 231) (v := ?_) (by simp only [List.getElem?_toArray, List.getElem?_cons_succ, List.getElem?_cons_zero]; rfl) rfl (by kernel_rfl) (by kernel_rfl) (by kernel_rfl) (fun _ _ _ h => h) rfl ?_ (by assumption) ?_
                        rotate_left
                        focus (intro w hSw; go_simp; (try with_reducible rfl); done)
                        try simp only [List.setIfInBounds_toArray, List.set_cons_zero, List.set_cons_succ]
                        refine take_at (i := 31) (d := 232) (v := ?_) (by simp only [List.getElem?_toArray, List.getElem?_cons_succ, List.getElem?_cons_zero]; rfl) rfl (by kernel_rfl) (by kernel_rfl) (by kernel_rfl) (fun _ _ _ h => h) rfl ?_ (by assumption) ?_
                        rotate_left
                        focus (intro w hSw; go_simp; (try with_reducible rfl); done)
                        try simp only [List.setIfInBounds_toArray, List.set_cons_zero, List.set_cons_succ]
                        refine take_at (i := 32) (d := 233) (v := ?_) (by simp only [List.getElem?_toArray, List.getElem?_cons_succ, List.getElem?_cons_zero]; rfl) rfl (by kernel_rfl) (by kernel_rfl) (by kernel_rfl) (fun _ _ _ h => h) rfl ?_ (by assumption) ?_
                        rotate_left
                        focus (intro w hSw; go_simp; (try with_reducible rfl); done)
                        try simp only [List.setIfInBounds_toArray, List.set_cons_zero, List.set_cons_succ]
                        refine take_at (i := 33) (d := 234) (v := ?_) (by simp only [List.getElem?_toArray, List.getElem?_cons_succ, List.getElem?_cons_zero]; rfl) rfl (by kernel_rfl) (by kernel_rfl) (by kernel_rfl) (fun _ _ _ h => h) rfl ?_ (by assumption) ?_
                        rotate_left
                        focus (intro w hSw; go_simp; (try with_reducible rfl); done)
                        try simp only [List.setIfInBounds_toArray, List.set_cons_zero, List.set_cons_succ]
                        refine take_at (i := 34) (d := 235) (v := ?_) (by simp only [List.getElem?_toArray, List.getElem?_cons_succ, List.getElem?_cons_zero]; rfl) rfl (by kernel_rfl) (by kernel_rfl) (by kernel_rfl) (fun _ _ _ h => h) rfl ?_ (by assumption) ?_
                        rotate_left
                        focus (intro w hSw; go_simp; (try with_reducible rfl); done)
                        try simp only [List.setIfInBounds_toArray, List.set_cons_zero, List.set_cons_succ]
                        refine take_at (i := 35) (d := 236) (v := ?_) (by simp only [List.getElem?_toArray, List.getElem?_cons_succ, List.getElem?_cons_zero]; rfl) rfl (by kernel_rfl) (by kernel_rfl) (by kernel_rfl) (fun _ _ _ h => h) rfl ?_ (by assumption) ?_
                        rotate_left
                        focus (intro w hSw; go_simp; (try with_reducible rfl); done)
                        try simp only [List.setIfInBounds_toArray, List.set_cons_zero, List.set_cons_succ]
                        refine call_at (i := 36) (d := 237) (by simp only [List.getElem?_toArray, List.getElem?_cons_succ, List.getElem?_cons_zero]; rfl) rfl (by kernel_rfl) rfl (fun K hK => ?_)
                        refine wp_buildSlice 22 39 3 #[(0, .tmp 234), (1, .tmp 235), (2, .tmp 236)] rfl #[.int .i64 0, .int .i64 3, .int .i64 9, .int .i64 0, .int .i64 1, .int .i64 1, .int .i64 0, .int .i64 3, .int .i64 2] a9 _ Tryz.underlying22 a9i a9z (by rw [a9s]; decide) (by rw [a9s]; decide) (by rw [a9s, Array.toList_map]; exact tri_fill _ rfl) ?_
                        have hS3 : Kept wr (z2.alloc (.cells #[.int .i64 0, .int .i64 3, .int .i64 9, .int .i64 0, .int .i64 1, .int .i64 1, .int .i64 0, .int .i64 3, .int .i64 2] 39)) := fun p hp => (World.cell?_alloc_lt _ _ _ (Nat.lt_of_lt_of_le hp q2)).trans (hS2 p hp)
                        have q3 : wr.heap.size ≤ (z2.alloc (.cells #[.int .i64 0, .int .i64 3, .int .i64 9, .int .i64 0, .int .i64 1, .int .i64 1, .int .i64 0, .int .i64 3, .int .i64 2] 39)).heap.size := by simp; omega
                        have B3 : Hid (Below wr.heap.size wr (z2.alloc (.cells #[.int .i64 0, .int .i64 3, .int .i64 9, .int .i64 0, .int .i64 1, .int .i64 1, .int .i64 0, .int .i64 3, .int .i64 2] 39))) := hide (B2.out.alloc q2 _)
                        have HT : Hid (Eds (z2.alloc (.cells #[.int .i64 0, .int .i64 3, .int .i64 9, .int .i64 0, .int .i64 1, .int .i64 1, .int .i64 0, .int .i64 3, .int .i64 2] 39)) (z2.alloc (.cells #[.int .i64 0, .int .i64 3, .int .i64 9, .int .i64 0, .int .i64 1, .int .i64 1, .int .i64 0, .int .i64 3, .int .i64 2] 39)).heap.size (some ⟨z2.heap.size, 0, none⟩) triE) := hide (Eds.of_rd ((Rd.new z2 (edFlat triE).toArray 39 (0, 0)).more (by simp)) (wt_of (by decide)))
                        refine hK.out _ _ hS3 (fun hSn => ?_)
                        clear hK K
                        simp only [Act.put]
                        try simp only [List.setIfInBounds_toArray, List.set_cons_zero, List.set_cons_succ]
                        refine call_at (i := 37) (d := 238) (by simp only [List.getElem?_toArray, List.getElem?_cons_succ, List.getElem?_cons_zero]; rfl) rfl (by kernel_rfl) rfl (fun K hK => ?_)
                        go_simp
                        refine (kSend _ (kd : Int) 5 0 0 0 HJ5.out s xi (ib _ (by omega) (by omega)) HxiB.out true _ triE 3 3 rfl HT.out (by omega) (by omega) (edB_of_all triE (by decide)) none [] 0 0 rfl Els.nil_ (by omega) (by omega) (by intro e he; cases he)).mono ?_
                        rintro e z4 ⟨rfl, hz⟩
                        have hS4 : Kept wr z4 := hS3.below (q3) hz
                        have q4 : wr.heap.size ≤ z4.heap.size := Nat.le_trans q3 hz.size
                        have B4 := hide (B3.out.trans (hz.mono q3))
                        clear hz
                        go_wp2_with fail
                        refine hK.out _ _ hS4 (fun hSn => ?_)
                        clear hK K
                        try simp only [List.setIfInBounds_toArray, List.set_cons_zero, List.set_cons_succ]
                        refine take_at (i := 38) (d := 239) (v := ?_) (by simp only [List.getElem?_toArray, List.getElem?_cons_succ, List.getElem?_cons_zero]; rfl) rfl (by kernel_rfl) (by kernel_rfl) (by kernel_rfl) (fun _ _ _ h => h) rfl ?_ (by assumption) ?_
                        rotate_left
                        focus (intro w hSw; go_simp; (try with_reducible rfl); done)
                        try simp only [List.setIfInBounds_toArray, List.set_cons_zero, List.set_cons_succ]
                        refine take_at (i := 39) (d := 240) (v := ?_) (by simp only [List.getElem?_toArray, List.getElem?_cons_succ, List.getElem?_cons_zero]; rfl) rfl (by kernel_rfl) (by kernel_rfl) (by kernel_rfl) (fun _ _ _ h => h) rfl ?_ (by assumption) ?_
                        rotate_left
                        focus (intro w hSw; go_simp; (try with_reducible rfl); done)
                        try simp only [List.setIfInBounds_toArray, List.set_cons_zero, List.set_cons_succ]
                        refine wpAnyH_done (by kernel_rfl) ?_ _
                        clear hS0 hSn hS1 hS2 hS3 HT
                        have hgo := hide (hb1.out.trans (B4.out.mono hb1.out.size))
                        have hkk : Hid (Kept t z4) := hide (hk1.out.below hs1 B4.out)
                        have hss : t.heap.size ≤ z4.heap.size := Nat.le_trans hs1 q4
                        go_wp2
                        exact ⟨AkR11.mk (s + 1) (by rfl) (by omega) hkk hgo hss, by simp [AkMz, intOf]; omega⟩
                    · obtain rfl : s = 6 := by omega
                      have hkk : Hid (Kept u wr) := hide (fun p hp => (hk1.out p (Nat.lt_of_lt_of_le hp hst)).trans (HKt.out p hp))
                      have hss : u.heap.size ≤ wr.heap.size := Nat.le_trans hst hs1
                      go_wp2
                      exact ⟨AkR4.mk (i + 1) (by rfl) (by omega) hkk hb1 hss, by simp [AkM, intOf]; omega⟩
        · obtain rfl : i = 10 := by omega
          rw [show ((10 : Nat) : Int) = 10 from rfl]
          go_wp2
          exact ⟨AkR3.mk (kd + 1) (by rfl) (by omega) hk1 hb1 hs1, by simp [AkM, intOf]; omega⟩
    · obtain rfl : kd = 5 := by omega
      rw [show ((5 : Nat) : Int) = 5 from rfl]
      go_wp2_with fail
      refine (works_any _).mono ?_
      rintro e y2 ⟨rfl, k2⟩
      have K2 := hide (hb1.out.trans (k2.mono hb1.out.size))
      clear k2
      go_wp2
      go_ret
      exact ⟨rfl, K2.out⟩
end Go.Proofs.YtihlhkbdgbkafaaGreat
