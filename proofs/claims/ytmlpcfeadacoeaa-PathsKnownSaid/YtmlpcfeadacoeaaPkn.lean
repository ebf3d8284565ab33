/- The walk of the statement PathsKnown. (printed by gen/pkn.py) -/
import Derived.Test.YtmlpcfeadacoeaaPon
import Derived.Test.YtmlpcfeadacoeaaPlk
import Derived.Test.YtmlpcfeadacoeaaPlt
import Derived.Test.YtmlpcfeadacoeaaPlg
import Derived.Test.YtmlpcfeadacoeaaEml
import Derived.Test.YtmlpcfeadacoeaaEgr
namespace Go.Proofs.Ytmlpcfeadacoeaa
open Go.ChangeShapes Go.WideShapes Go.ChangeAt Go.RowKit
set_option linter.unusedVariables false
set_option linter.unusedSimpArgs false
def GOk (u : World) (V : Int) (A : Option Addr) (es : List Ed) (c : Nat) : Prop := Eds u u.heap.size A es ∧ es.length ≤ c ∧ c ≤ 9223372036854775807 ∧ (∀ e ∈ es, edB e) ∧ checkF V es = 0 ∧ 1 ≤ V ∧ V ≤ 6
def edb (e : Ed) : Bool := decide (-9223372036854775808 ≤ e.1) && decide (e.1 ≤ 9223372036854775807) && decide (-9223372036854775808 ≤ e.2.1) && decide (e.2.1 ≤ 9223372036854775807)
theorem edB_of {es : List Ed} (h : es.all edb = true) : ∀ e ∈ es, edB e := fun e he => by
  have := List.all_eq_true.1 h e he
  simp only [edb, Bool.and_eq_true, decide_eq_true_eq] at this
  unfold edB
  omega
def twoE : List Ed := [(0, 1, 0), (1, 0, 0)]
def threeE : List Ed := [(0, 0, 2147483647), (1, 2, 0), (2, 1, 0)]
def heldE : List Ed := [(1, 2, 0), (2, 1, 0)]
theorem all_of {l : List Int} (h : l.all (fun x => decide (-9223372036854775808 ≤ x) && decide (x ≤ 9223372036854775807)) = true) : ∀ x ∈ l, (Lit.int .i64 x).wf = true := fun x hx => by
  have := List.all_eq_true.1 h x hx
  simp only [Bool.and_eq_true, decide_eq_true_eq] at this
  simp [Lit.wf, IntKind.min, IntKind.max, IntKind.signed, IntKind.bits]
  omega
def nine : List Int := [0, 1, 2, 3, 9, -1, 4611686018427387904, 4611686018427387903, 4611686018427387905]
def six6 : List Int := [0, 5, 4611686018427387904, 4611686018427387909, 9223372036854775807, -9223372036854775808]
theorem nine_at (k : Nat) (h : k < 9) : ∃ x, nine[k]? = some x ∧ -9223372036854775808 ≤ x ∧ x ≤ 9223372036854775807 := by
  rcases k with _ | _ | _ | _ | _ | _ | _ | _ | _ | k
  all_goals first | (refine ⟨_, rfl, ?_, ?_⟩ <;> decide) | omega
theorem six6_at (k : Nat) (h : k < 6) : ∃ x, six6[k]? = some x ∧ -9223372036854775808 ≤ x ∧ x ≤ 9223372036854775807 := by
  rcases k with _ | _ | _ | _ | _ | _ | k
  all_goals first | (refine ⟨_, rfl, ?_, ?_⟩ <;> decide) | omega
theorem five_g (u : World) (G : Nat) (A1 A2 A3 A4 A5 : Option Addr) (c1 c2 c3 c4 c5 : Nat) (hR : Rd u u.heap.size (some ⟨G, 0, none⟩) [.int .i64 6, .slice A1 5 c1, .int .i64 5, .slice A2 5 c2, .int .i64 1, .slice A3 1 c3, .int .i64 2, .slice A4 2 c4, .int .i64 3, .slice A5 3 c5])
    (h1 : GOk u 6 A1 millE c1) (h2 : GOk u 5 A2 (ringE 5) c2) (h3 : GOk u 1 A3 (ringE 1) c3) (h4 : GOk u 2 A4 twoE c4) (h5 : GOk u 3 A5 threeE c5) (k : Nat) (hk : k < 5) :
    ∃ (V : Int) (A : Option Addr) (es : List Ed) (L c : Nat), es.length = L ∧ u.cell? ⟨G, k * 2, none⟩ = some (.int .i64 V) ∧ u.cell? ⟨G, k * 2 + 1, none⟩ = some (.slice A L c) ∧ GOk u V A es c := by
  have e (j : Nat) (v : Value) (hj : [Value.int .i64 6, .slice A1 5 c1, .int .i64 5, .slice A2 5 c2, .int .i64 1, .slice A3 1 c3, .int .i64 2, .slice A4 2 c4, .int .i64 3, .slice A5 3 c5][j]? = some v) : u.cell? ⟨G, j, none⟩ = some v := by have := hR.cell hj; rw [Nat.zero_add] at this; exact this
  rcases k with _ | _ | _ | _ | _ | k
  · exact ⟨6, A1, millE, 5, c1, rfl, e 0 _ rfl, e 1 _ rfl, h1⟩
  · exact ⟨5, A2, ringE 5, 5, c2, rfl, e 2 _ rfl, e 3 _ rfl, h2⟩
  · exact ⟨1, A3, ringE 1, 1, c3, rfl, e 4 _ rfl, e 5 _ rfl, h3⟩
  · exact ⟨2, A4, twoE, 2, c4, rfl, e 6 _ rfl, e 7 _ rfl, h4⟩
  · exact ⟨3, A5, threeE, 3, c5, rfl, e 8 _ rfl, e 9 _ rfl, h5⟩
  · omega
theorem Eds.to {w u : World} {A : Option Addr} {es : List Ed} (h : Eds w w.heap.size A es) (hb : Below w.heap.size w u) : Eds u u.heap.size A es := Eds.next h hb
theorem one_n (w : World) (V : Int) (A : Option Addr) (es : List Ed) (L c : Nat) (hL : es.length = L) (h : GOk w V A es c) (s at' x : Int) (hs : -9223372036854775808 ≤ s ∧ s ≤ 9223372036854775807) (ha : -9223372036854775808 ≤ at' ∧ at' ≤ 9223372036854775807) (hx : -9223372036854775808 ≤ x ∧ x ≤ 9223372036854775807) :
    Calls Try.prog 6 #[.agg #[.int .i64 V, .slice A L c], .int .i64 s, .int .i64 at', .int .i64 x] w fun e w' => e = .returned (.bool true) ∧ Below w.heap.size w w' := by
  subst hL
  obtain ⟨h1, h2, h3, h4, h5, h6, h7⟩ := h
  exact pathsOne_walk w V A es c (by omega) (by omega) h1 h2 h3 h4 s hs.1 hs.2 at' ha.1 ha.2 x hx.1 hx.2
theorem tight_g (w : World) (V : Int) (A : Option Addr) (es : List Ed) (L c : Nat) (hL : es.length = L) (h : GOk w V A es c) (s : Int) (hs : -9223372036854775808 ≤ s ∧ s ≤ 9223372036854775807) (A2 : Option Addr) (vals : List Int) (M c2 : Nat) (hM : vals.length = M) (hR : Rd w w.heap.size A2 (vals.map (Value.int .i64))) (hvb : all64 vals) :
    Calls Try.prog 5 #[.agg #[.int .i64 V, .slice A L c], .int .i64 s, .slice A2 M c2] w fun e w' => e = .returned (.bool true) ∧ Below w.heap.size w w' := by
  subst hL hM
  obtain ⟨h1, h2, h3, h4, h5, h6, h7⟩ := h
  exact pathsTight_walk w V A es c (by omega) (by omega) h1 h2 h3 h4 s hs.1 hs.2 A2 vals c2 hR (fun x hx => by
    have := hvb x hx
    simp [Lit.wf, IntKind.min, IntKind.max, IntKind.signed, IntKind.bits]
    omega)
theorem rd_drop1 {w : World} {B g : Nat} {l : List Int} (h : Rd w B (some ⟨g, 0, none⟩) (l.map (Value.int .i64))) : Rd w B (some ⟨g, 1, none⟩) ((l.drop 1).map (Value.int .i64)) := fun hn => by
  obtain ⟨b, off, e, hb, hc⟩ := h (fun e => hn (by rw [List.map_drop, e]; rfl))
  injection e with e
  injection e with e1 e2
  subst e1 e2
  refine ⟨g, 1, rfl, hb, fun j u hu => ?_⟩
  rw [List.map_drop, List.getElem?_drop] at hu
  rw [← hc (1 + j) u hu]
  congr 2
  omega
theorem all64_3 (a b c : Int) (ha : -9223372036854775808 ≤ a ∧ a ≤ 9223372036854775807) (hb : -9223372036854775808 ≤ b ∧ b ≤ 9223372036854775807) (hc : -9223372036854775808 ≤ c ∧ c ≤ 9223372036854775807) : all64 [a, b, c] := fun x hx => by
  simp only [List.mem_cons, List.not_mem_nil, or_false] at hx
  rcases hx with rfl | rfl | rfl <;> assumption
theorem GOk.next {w w' : World} {V : Int} {A : Option Addr} {es : List Ed} {c : Nat} (h : GOk w V A es c) (hb : Below w.heap.size w w') : GOk w' V A es c := ⟨Eds.next h.1 hb, h.2⟩
theorem GOk.kept {w w' : World} {V : Int} {A : Option Addr} {es : List Ed} {c : Nat} (h : GOk w V A es c) (hk : Kept w w') (hs : w.heap.size ≤ w'.heap.size) : GOk w' V A es c := ⟨Els.more (h.1.kept' (Nat.le_refl _) hk) hs, h.2⟩
set_option maxRecDepth 100000 in
set_option maxHeartbeats 4000000 in
theorem pathsKnown_walk (w : World) : Calls Try.prog 7 #[] w fun e w' => e = .returned (.bool true) ∧ Below w.heap.size w w' := by
  go_enter Try.func7, Try.ntmps7
  go_wp2_with fail
  refine (mill_any _).mono ?_
  rintro e y1 ⟨A1, c1, rfl, E1, l1, m1, b1⟩
  have B1 := hide b1
  go_wp2_with fail
  refine (ring_any _ 5 (by omega) (by omega)).mono ?_
  rintro e y2 ⟨A2, c2, rfl, E2, l2, m2, b2⟩
  have B2 := hide (B1.out.trans (b2.mono B1.out.size))
  have E1 := E1.to b2
  go_wp2_with fail
  refine (ring_any _ 1 (by omega) (by omega)).mono ?_
  rintro e y3 ⟨A3, c3, rfl, E3, l3, m3, b3⟩
  have B3 := hide (B2.out.trans (b3.mono B2.out.size))
  have E1 := E1.to b3
  have E2 := E2.to b3
  rw [show millE.length = 5 from rfl] at l1 ⊢
  rw [show (ringE 5).length = 5 from rfl] at l2 ⊢
  rw [show (ringE 1).length = 1 from rfl] at l3 ⊢
  have G1 := hide (And.intro E1 (And.intro l1 m1))
  have G2 := hide (And.intro E2 (And.intro l2 m2))
  have G3 := hide (And.intro E3 (And.intro l3 m3))
  clear E1 E2 E3 l1 l2 l3 m1 m2 m3 b1 b2 b3
  go_wp2
  obtain ⟨u, hu⟩ : ∃ u, ((y3.alloc (.cells #[.int .i64 0, .int .i64 1, .int .i64 0, .int .i64 1, .int .i64 0, .int .i64 0] 23)).alloc (.cells #[.int .i64 0, .int .i64 0, .int .i64 2147483647, .int .i64 1, .int .i64 2, .int .i64 0, .int .i64 2, .int .i64 1, .int .i64 0] 23)).alloc (.cells #[.int .i64 6, .slice A1 5 c1, .int .i64 5, .slice A2 5 c2, .int .i64 1, .slice A3 1 c3, .int .i64 2, .slice (some ⟨y3.heap.size, 0, none⟩) 2 2, .int .i64 3, .slice (some ⟨y3.heap.size + 1, 0, none⟩) 3 3] 35) = u := ⟨_, rfl⟩
  have hzu : u.heap.size = y3.heap.size + 3 := by rw [← hu]; simp
  have hbu : Below y3.heap.size y3 u := by rw [← hu]; exact ((((Below.refl y3.heap.size y3).alloc (Nat.le_refl _) _).alloc (by simp) _).alloc (by simp; omega) _)
  have r4 : Rd u u.heap.size (some ⟨y3.heap.size, 0, none⟩) (edFlat twoE) := by
    rw [← hu]
    exact (((Rd.new y3 (edFlat twoE).toArray 23 (0, 0)).alloc (by simp) _).alloc (by simp) _).more (by simp)
  have r5 : Rd u u.heap.size (some ⟨y3.heap.size + 1, 0, none⟩) (edFlat threeE) := by
    rw [← hu]
    have h := Rd.new (y3.alloc (.cells #[.int .i64 0, .int .i64 1, .int .i64 0, .int .i64 1, .int .i64 0, .int .i64 0] 23)) (edFlat threeE).toArray 23 (0, 0)
    have h2 := h.alloc (Nat.le_of_eq (by simp)) (.cells #[.int .i64 6, .slice A1 5 c1, .int .i64 5, .slice A2 5 c2, .int .i64 1, .slice A3 1 c3, .int .i64 2, .slice (some ⟨y3.heap.size, 0, none⟩) 2 2, .int .i64 3, .slice (some ⟨y3.heap.size + 1, 0, none⟩) 3 3] 35)
    rw [World.size_alloc] at h2
    exact h2.more (by simp)
  have r6 : Rd u u.heap.size (some ⟨y3.heap.size + 2, 0, none⟩) [.int .i64 6, .slice A1 5 c1, .int .i64 5, .slice A2 5 c2, .int .i64 1, .slice A3 1 c3, .int .i64 2, .slice (some ⟨y3.heap.size, 0, none⟩) 2 2, .int .i64 3, .slice (some ⟨y3.heap.size + 1, 0, none⟩) 3 3] := by
    rw [← hu]
    have h := Rd.new ((y3.alloc (.cells #[.int .i64 0, .int .i64 1, .int .i64 0, .int .i64 1, .int .i64 0, .int .i64 0] 23)).alloc (.cells #[.int .i64 0, .int .i64 0, .int .i64 2147483647, .int .i64 1, .int .i64 2, .int .i64 0, .int .i64 2, .int .i64 1, .int .i64 0] 23)) #[.int .i64 6, .slice A1 5 c1, .int .i64 5, .slice A2 5 c2, .int .i64 1, .slice A3 1 c3, .int .i64 2, .slice (some ⟨y3.heap.size, 0, none⟩) 2 2, .int .i64 3, .slice (some ⟨y3.heap.size + 1, 0, none⟩) 3 3] 35 (0, 0)
    rw [World.size_alloc, World.size_alloc] at h
    exact h.more (by simp)
  obtain ⟨G, hG⟩ : ∃ G, y3.heap.size + 2 = G := ⟨_, rfl⟩
  rw [hG] at r6
  have HG : Hid (∀ k : Nat, k < 5 → ∃ (V : Int) (A : Option Addr) (es : List Ed) (L c : Nat), es.length = L ∧ u.cell? ⟨G, k * 2, none⟩ = some (.int .i64 V) ∧ u.cell? ⟨G, k * 2 + 1, none⟩ = some (.slice A L c) ∧ GOk u V A es c) := hide (five_g u G A1 A2 A3 _ _ c1 c2 c3 2 3 r6
    ⟨G1.out.1.to hbu, G1.out.2.1, G1.out.2.2, edB_of (by decide), by decide, by decide, by decide⟩
    ⟨G2.out.1.to hbu, G2.out.2.1, G2.out.2.2, edB_of (by decide), by decide, by decide, by decide⟩
    ⟨G3.out.1.to hbu, G3.out.2.1, G3.out.2.2, edB_of (by decide), by decide, by decide, by decide⟩
    ⟨Eds.of_rd r4 (wt_of (by decide)), by decide, by decide, edB_of (by decide), by decide, by decide, by decide⟩
    ⟨Eds.of_rd r5 (wt_of (by decide)), by decide, by decide, edB_of (by decide), by decide, by decide, by decide⟩)
  have HB := hide (B3.out.trans (hbu.mono B3.out.size))
  have hGu : G < u.heap.size := by omega
  have HU := hide hu
  have HGe := hide hG
  clear hu hzu hbu r4 r5 r6 hG G1 G2 G3 B1 B2 B3
  rw [HU.out]
  first | rw [HGe.out] | skip
  clear HU HGe
  go_loopw [25] (fun v25 wr => ∃ i : Nat, i ≤ 5 ∧ v25 = .int .i64 i ∧ Hid (Kept u wr) ∧ Hid (Below w.heap.size w wr) ∧ u.heap.size ≤ wr.heap.size) (fun v25 _ => 5 - (intOf v25).toNat)
  case atStart => exact ⟨0, by omega, rfl, hide (Kept.refl u), HB, Nat.le_refl _⟩
  case round =>
    clear HB
    obtain ⟨i, hi, rfl, hk1, hb1, hs1⟩ := hrel
    by_cases hlt : i < 5
    · have hi1 : (i : Int) < 5 := by omega
      obtain ⟨V, A, es, L, c, hL, c0, c1, hgok⟩ := HG.out i hlt
      have c0 := (hk1.out ⟨G, i * 2, none⟩ hGu).trans c0
      have c1 := (hk1.out ⟨G, i * 2 + 1, none⟩ hGu).trans c1
      have HGo := hide (hgok.kept hk1.out hs1)
      have hV1 := hgok.2.2.2.2.2.1
      have hV2 := hgok.2.2.2.2.2.2
      have HL := hide hL
      clear hgok hL
      go_wp2
      obtain ⟨t, ht⟩ : ∃ t, wr.alloc (.cells #[.int .i64 V, .slice A L c] 35) = t := ⟨_, rfl⟩
      have hzt : t.heap.size = wr.heap.size + 1 := by rw [← ht]; simp
      have hbt : Below wr.heap.size wr t := by rw [← ht]; exact (Below.refl _ _).alloc (Nat.le_refl _) _
      have ct : t.heap[wr.heap.size]? = some (.cells #[.int .i64 V, .slice A L c] 35) := by rw [← ht]; exact heap_alloc_last wr _
      have ct0 : t.cell? ⟨wr.heap.size, 0, none⟩ = some (.int .i64 V) := cell_of_row _ _ 0 _ _ _ ct
      have ct1 : t.cell? ⟨wr.heap.size, 1, none⟩ = some (.slice A L c) := cell_of_row _ _ 1 _ _ _ ct
      have HGt := hide (HGo.out.next hbt)
      have HBt := hide (hb1.out.trans (hbt.mono hb1.out.size))
      have hst : u.heap.size ≤ t.heap.size := by omega
      have HKt : Hid (Kept u t) := hide (hk1.out.below hs1 hbt)
      have hlt9 : wr.heap.size < t.heap.size := by omega
      obtain ⟨T, hT⟩ : ∃ T, wr.heap.size = T := ⟨_, rfl⟩
      rw [ht]
      rw [hT] at ct0 ct1 hlt9 ⊢
      clear ht hzt hbt ct hT c0 c1 hk1 hb1 hs1 HGo
      go_loopw [3] (fun v3 wr => ∃ s : Int, -1 ≤ s ∧ s ≤ V + 1 ∧ v3 = .int .i64 s ∧ Hid (Kept t wr) ∧ Hid (Below w.heap.size w wr) ∧ t.heap.size ≤ wr.heap.size) (fun v3 _ => (V + 1 - intOf v3).toNat)
      case atStart => exact ⟨-1, by omega, by omega, rfl, hide (Kept.refl t), HBt, Nat.le_refl _⟩
      case round =>
        clear HBt
        obtain ⟨s, hs0, hs7, rfl, hk1, hb1, hs1⟩ := hrel
        have a0 := (hk1.out ⟨T, 0, none⟩ hlt9).trans ct0
        have a1 := (hk1.out ⟨T, 1, none⟩ hlt9).trans ct1
        by_cases hlt2 : s ≤ V
        · go_wp2
          go_loopw [4] (fun v4 wr => ∃ k : Nat, (k : Int) ≤ V ∧ v4 = .int .i64 k ∧ Hid (Kept t wr) ∧ Hid (Below w.heap.size w wr) ∧ t.heap.size ≤ wr.heap.size) (fun v4 _ => (V - intOf v4).toNat)
          case atStart => exact ⟨0, by omega, rfl, hk1, hb1, hs1⟩
          case round =>
            clear hk1 hb1 hs1 a0 a1
            obtain ⟨k, hk, rfl, hk1, hb1, hs1⟩ := hrel
            have a0 := (hk1.out ⟨T, 0, none⟩ hlt9).trans ct0
            have a1 := (hk1.out ⟨T, 1, none⟩ hlt9).trans ct1
            by_cases hlt3 : (k : Int) < V
            · go_wp2
              obtain ⟨x9, hx9⟩ : ∃ x9, wr.alloc (.cells #[.int .i64 0, .int .i64 1, .int .i64 2, .int .i64 3, .int .i64 9, .int .i64 (-1), .int .i64 4611686018427387904, .int .i64 4611686018427387903, .int .i64 4611686018427387905] 2) = x9 := ⟨_, rfl⟩
              have hzx : x9.heap.size = wr.heap.size + 1 := by rw [← hx9]; simp
              have hbx : Below wr.heap.size wr x9 := by rw [← hx9]; exact (Below.refl _ _).alloc (Nat.le_refl _) _
              have HC : Hid (∀ j x, nine[j]? = some x → x9.cell? ⟨wr.heap.size, j, none⟩ = some (.int .i64 x)) := hide (fun j x hj => by
                have h := (Rd.new wr (nine.map (Value.int .i64)).toArray 2 (0, 0)).cell (j := j) (u := .int .i64 x) (by simp [hj])
                rw [Nat.zero_add] at h
                rw [← hx9]
                exact h)
              have HKx : Hid (Kept t x9) := hide (hk1.out.below hs1 hbx)
              have HBx := hide (hb1.out.trans (hbx.mono hb1.out.size))
              have hsx : t.heap.size ≤ x9.heap.size := by omega
              have hXl : wr.heap.size < x9.heap.size := by omega
              obtain ⟨X, hX⟩ : ∃ X, wr.heap.size = X := ⟨_, rfl⟩
              rw [hx9]
              rw [hX] at HC hXl ⊢
              clear hx9 hzx hbx hX hk1 hb1 hs1 a0 a1
              go_loopw [43] (fun v43 wr => ∃ j : Nat, j ≤ 9 ∧ v43 = .int .i64 j ∧ Hid (Kept x9 wr) ∧ Hid (Below w.heap.size w wr) ∧ x9.heap.size ≤ wr.heap.size) (fun v43 _ => 9 - (intOf v43).toNat)
              case atStart => exact ⟨0, by omega, rfl, hide (Kept.refl x9), HBx, Nat.le_refl _⟩
              case round =>
                clear HBx
                obtain ⟨j, hj, rfl, hk1, hb1, hs1⟩ := hrel
                have a0 := (hk1.out ⟨T, 0, none⟩ (by show T < _; omega)).trans ((HKx.out ⟨T, 0, none⟩ hlt9).trans ct0)
                have a1 := (hk1.out ⟨T, 1, none⟩ (by show T < _; omega)).trans ((HKx.out ⟨T, 1, none⟩ hlt9).trans ct1)
                by_cases hlt4 : j < 9
                · have hj1 : (j : Int) < 9 := by omega
                  obtain ⟨x, hjx, hx1, hx2⟩ := nine_at j hlt4
                  have cx := (hk1.out ⟨X, j, none⟩ hXl).trans (HC.out j x hjx)
                  have hkk2 : Hid (Kept t wr) := hide (fun p hp => (hk1.out p (by omega)).trans (HKx.out p hp))
                  have hG1 := hide (HGt.out.kept hkk2.out (by omega))
                  clear hjx
                  go_wp2_with fail
                  refine (one_n _ V A es L c HL.out hG1.out s (k : Int) x (by omega) (by omega) ⟨hx1, hx2⟩).mono ?_
                  rintro e z1 ⟨rfl, b1⟩
                  have K1 := hide (hb1.out.trans (b1.mono hb1.out.size))
                  have KX1 : Hid (Kept x9 z1) := hide (hk1.out.below hs1 b1)
                  have hG2 := hide (hG1.out.next b1)
                  have hsz1 : x9.heap.size ≤ z1.heap.size := by have := b1.size; omega
                  have KT1 : Hid (Kept t z1) := hide (hkk2.out.below (by omega) b1)
                  clear b1 a0 a1
                  have a0 := (KT1.out ⟨T, 0, none⟩ hlt9).trans ct0
                  have a1 := (KT1.out ⟨T, 1, none⟩ hlt9).trans ct1
                  by_cases h1 : s < 0
                  · go_wp2
                    go_roundw
                    case rel => exact ⟨j + 1, by omega, by go_num, KX1, K1, hsz1⟩
                    case measure => simp [intOf]; omega
                  · by_cases h2 : s = V
                    · subst h2
                      go_wp2
                      go_roundw
                      case rel => exact ⟨j + 1, by omega, by go_num, KX1, K1, hsz1⟩
                      case measure => simp [intOf]; omega
                    · have h3 : (s == V) = false := by simp only [beq_eq_false_iff_ne, ne_eq]; exact h2
                      go_wp2_with fail
                      refine (relaxed_any _ V A es L c s HL.out hG2.out.1 (by have h := hG2.out.2.1; have h' := hG2.out.2.2.1; rw [HL.out] at h; omega) hG2.out.2.2.2.2.1).mono ?_
                      rintro e z2 ⟨g, c', rfl, hown, b2⟩
                      have hgl := hown.lt g rfl
                      obtain ⟨M, hM⟩ := Int.eq_ofNat_of_zero_le (show 0 ≤ V by omega)
                      have hlen : (relaxedF V es s).length = M := by rw [relaxed_len, hM, Int.toNat_natCast]
                      have hal : all64 (relaxedF V es s) := relaxed_64 V es s (within_of hG2.out.2.2.2.2.1)
                      obtain ⟨l, hl⟩ : ∃ l, relaxedF V es s = l := ⟨_, rfl⟩
                      rw [hl] at hown hlen hal
                      have hMe : V.toNat = M := by rw [hM, Int.toNat_natCast]
                      rw [hMe] at hown ⊢
                      have hkM : k < M := by omega
                      have hM1 : 1 ≤ M := by omega
                      have hM6 : M ≤ 6 := by omega
                      have HMV := hide hM
                      have K2 := hide (K1.out.trans (b2.mono K1.out.size))
                      have KT2 : Hid (Kept t z2) := hide (KT1.out.below (by omega) b2)
                      have KX2 : Hid (Kept x9 z2) := hide (KX1.out.below hsz1 b2)
                      have hG3 := hide (hG2.out.next b2)
                      have hsz2 : x9.heap.size ≤ z2.heap.size := by have := b2.size; omega
                      have hgz : z1.heap.size ≤ g := hgl.1
                      have hgz2 : g < z2.heap.size := hgl.2
                      have ck := own_int hown (j := k) (by rw [hlen]; exact hkM)
                      have cf := hown.frozenAt k
                      have hset := (hown.stored k (.int .i64 x)).1
                      rw [← List.map_set] at hset
                      have hal2 : Hid (all64 (l.set k x)) := hide (fun z hz => by
                        rcases List.mem_or_eq_of_mem_set hz with h | rfl
                        · exact hal z h
                        · exact ⟨hx1, hx2⟩)
                      have hlen2 : Hid ((l.set k x).length = M) := hide (by rw [List.length_set]; exact hlen)
                      obtain ⟨Z, hZ⟩ : ∃ Z, z2.setCell ⟨g, k, none⟩ (.int .i64 x) = Z := ⟨_, rfl⟩
                      have KZ : Hid (Below w.heap.size w Z) := hide (by rw [← hZ]; exact K2.out.setCell (p := ⟨g, k, none⟩) (by show _ ≤ g; have := K1.out.size; omega) (.int .i64 x))
                      have KTZ : Hid (Kept t Z) := hide (fun p hp => by rw [← hZ]; exact (World.cell?_setCell_far z2 ⟨g, k, none⟩ p _ (by first | (show p.block ≠ g; omega) | (show g ≠ p.block; omega))).trans (KT2.out p hp))
                      have KXZ : Hid (Kept x9 Z) := hide (fun p hp => by rw [← hZ]; exact (World.cell?_setCell_far z2 ⟨g, k, none⟩ p _ (by first | (show p.block ≠ g; omega) | (show g ≠ p.block; omega))).trans (KX2.out p hp))
                      have hzZ : Z.heap.size = z2.heap.size := by rw [← hZ, World.size_setCell]
                      have hGZ := hide (HGt.out.kept KTZ.out (by omega))
                      rw [hZ] at hset
                      have HRZ : Hid (Rd Z Z.heap.size (some ⟨g, 0, none⟩) ((l.set k x).map (Value.int .i64))) := hide (rd_own hset)
                      have cb0 := (KTZ.out ⟨T, 0, none⟩ hlt9).trans ct0
                      have cb1 := (KTZ.out ⟨T, 1, none⟩ hlt9).trans ct1
                      have hlZ : T < Z.heap.size := by omega
                      have hcM : M ≤ c' := own_cap hown
                      have hcm : c' ≤ 9223372036854775807 := own_max hown
                      have hzz : z2.drew.heap.size = z2.heap.size := rfl
                      have HZ9 := hide hZ
                      have e1 : IntKind.i64.wrap (s - 1) = s - 1 := IntWalk.i64_in _ (by omega)
                      have a0 := (KT2.out ⟨T, 0, none⟩ hlt9).trans ct0
                      have a1 := (KT2.out ⟨T, 1, none⟩ hlt9).trans ct1
                      have hne1 : g ≠ T := by omega
                      have hne2 : T ≠ g := by omega
                      have hkI : (k : Int) < (M : Int) := by omega
                      clear hown hl hlen hal hMe hM b2 hset hZ hgl
                      go_wp2
                      rw [HZ9.out]
                      have HG0 : Hid (GOk Z.drew V A es c) := hide hGZ.out
                      have HR0 : Hid (Rd Z.drew Z.drew.heap.size (some ⟨g, 0, none⟩) ((l.set k x).map (Value.int .i64))) := hide HRZ.out
                      have hsZ : x9.heap.size ≤ Z.heap.size := by omega
                      clear HZ9 a0 a1 ck cf hzz hzZ K1 KX1 hG2 hsz1 KT1 KT2 KX2 hG3 hgz hG1
                      by_cases hc1n : c' = 1
                      · subst hc1n
                        obtain rfl : M = 1 := by omega
                        refine wp_region_held_drew (S := Kept Z) (by kernel_rfl) (Kept.drew Z) (fun hS0 => ?_)
                        refine take_at (i := 0) (d := 68) (v := ?_) (by simp only [List.getElem?_toArray, List.getElem?_cons_succ, List.getElem?_cons_zero]; rfl) rfl (by kernel_rfl) (by kernel_rfl) (by kernel_rfl) (fun _ _ _ h => h) rfl ?_ (by assumption) ?_
                        rotate_left
                        focus (intro w hSw; go_simp; (try with_reducible rfl); done)
                        try simp only [List.setIfInBounds_toArray, List.set_cons_zero, List.set_cons_succ]
                        refine take_at (i := 1) (d := 69) (v := ?_) (by simp only [List.getElem?_toArray, List.getElem?_cons_succ, List.getElem?_cons_zero]; rfl) rfl (by kernel_rfl) (by kernel_rfl) (by kernel_rfl) (fun _ _ _ h => h) rfl ?_ (by assumption) ?_
                        rotate_left
                        focus (intro w hSw; go_simp; (try with_reducible rfl); done)
                        try simp only [List.setIfInBounds_toArray, List.set_cons_zero, List.set_cons_succ]
                        refine take_at (i := 2) (d := 70) (v := ?_) (by simp only [List.getElem?_toArray, List.getElem?_cons_succ, List.getElem?_cons_zero]; rfl) rfl (by kernel_rfl) (by kernel_rfl) (by kernel_rfl) (fun _ _ _ h => h) rfl ?_ (by assumption) ?_
                        rotate_left
                        focus (intro w hSw; go_simp; (try with_reducible rfl); done)
                        try simp only [List.setIfInBounds_toArray, List.set_cons_zero, List.set_cons_succ]
                        refine call_at (i := 3) (d := 71) (by simp only [List.getElem?_toArray, List.getElem?_cons_succ, List.getElem?_cons_zero]; rfl) rfl (by kernel_rfl) rfl (fun K hK => ?_)
                        go_simp
                        refine (tight_g _ V A es L c HL.out HG0.out s (by omega) _ (l.set k x) 1 1 hlen2.out HR0.out hal2.out).mono ?_
                        rintro e z1 ⟨rfl, b1⟩
                        have hS1 : Kept Z z1 := hS0.below (by first | (simp; done) | (simp; omega)) b1
                        have K1 := hide b1
                        have HG1 := hide (HG0.out.next b1)
                        have HR1 := hide (HR0.out.next b1)
                        clear b1
                        go_wp2_with fail
                        refine hK.out _ _ hS1 (fun hSn => ?_)
                        clear hK K
                        try simp only [List.setIfInBounds_toArray, List.set_cons_zero, List.set_cons_succ]
                        refine take_at (i := 4) (d := 72) (v := ?_) (by simp only [List.getElem?_toArray, List.getElem?_cons_succ, List.getElem?_cons_zero]; rfl) rfl (by kernel_rfl) (by kernel_rfl) (by kernel_rfl) (fun _ _ _ h => h) rfl ?_ (by assumption) ?_
                        rotate_left
                        focus (intro w hSw; go_simp; (try with_reducible rfl); done)
                        try simp only [List.setIfInBounds_toArray, List.set_cons_zero, List.set_cons_succ]
                        refine take_at (i := 5) (d := 73) (v := ?_) (by simp only [List.getElem?_toArray, List.getElem?_cons_succ, List.getElem?_cons_zero]; rfl) rfl (by kernel_rfl) (by kernel_rfl) (by kernel_rfl) (fun _ _ _ h => h) rfl ?_ (by assumption) ?_
                        rotate_left
                        focus (intro w hSw; go_simp; (try with_reducible rfl); done)
                        try simp only [List.setIfInBounds_toArray, List.set_cons_zero, List.set_cons_succ]
                        refine take_at (i := 6) (d := 74) (v := ?_) (by simp only [List.getElem?_toArray, List.getElem?_cons_succ, List.getElem?_cons_zero]; rfl) rfl (by kernel_rfl) (by kernel_rfl) (by kernel_rfl) (fun _ _ _ h => h) rfl ?_ (by assumption) ?_
                        rotate_left
                        focus (intro w hSw; go_simp; (try with_reducible rfl); done)
                        try simp only [List.setIfInBounds_toArray, List.set_cons_zero, List.set_cons_succ]
                        refine take_at (i := 7) (d := 75) (v := ?_) (by simp only [List.getElem?_toArray, List.getElem?_cons_succ, List.getElem?_cons_zero]; rfl) rfl (by kernel_rfl) (by kernel_rfl) (by kernel_rfl) (fun _ _ _ h => h) rfl ?_ (by assumption) ?_
                        rotate_left
                        focus (intro w hSw; go_simp; (try with_reducible rfl); done)
                        try simp only [List.setIfInBounds_toArray, List.set_cons_zero, List.set_cons_succ]
                        refine take_at (i := 8) (d := 76) (v := ?_) (by simp only [List.getElem?_toArray, List.getElem?_cons_succ, List.getElem?_cons_zero]; rfl) rfl (by kernel_rfl) (by kernel_rfl) (by kernel_rfl) (fun _ _ _ h => h) rfl ?_ (by assumption) ?_
                        rotate_left
                        focus (intro w hSw; go_simp; (try with_reducible rfl); done)
                        try simp only [List.setIfInBounds_toArray, List.set_cons_zero, List.set_cons_succ]
                        refine take_at (i := 9) (d := 77) (v := ?_) (by simp only [List.getElem?_toArray, List.getElem?_cons_succ, List.getElem?_cons_zero]; rfl) rfl (by kernel_rfl) (by kernel_rfl) (by kernel_rfl) (fun _ _ _ h => h) rfl ?_ (by assumption) ?_
                        rotate_left
                        focus (intro w hSw; go_simp; (try with_reducible rfl); done)
                        try simp only [List.setIfInBounds_toArray, List.set_cons_zero, List.set_cons_succ]
                        refine call_at (i := 10) (d := 78) (by simp only [List.getElem?_toArray, List.getElem?_cons_succ, List.getElem?_cons_zero]; rfl) rfl (by kernel_rfl) rfl (fun K hK => ?_)
                        go_simp
                        refine (tight_g _ V A es L c HL.out HG1.out s (by omega) _ [] 0 _ rfl Rd.nil_ (by intro x hx; cases hx)).mono ?_
                        rintro e z2 ⟨rfl, b2⟩
                        have hS2 : Kept Z z2 := hS1.below (by have := K1.out.size; simp at this; omega) b2
                        have K2 := hide (K1.out.trans (b2.mono K1.out.size))
                        have HG2 := hide (HG1.out.next b2)
                        have HR2 := hide (HR1.out.next b2)
                        clear b2
                        go_wp2_with fail
                        refine hK.out _ _ hS2 (fun hSn => ?_)
                        clear hK K
                        try simp only [List.setIfInBounds_toArray, List.set_cons_zero, List.set_cons_succ]
                        refine take_at (i := 11) (d := 79) (v := ?_) (by simp only [List.getElem?_toArray, List.getElem?_cons_succ, List.getElem?_cons_zero]; rfl) rfl (by kernel_rfl) (by kernel_rfl) (by kernel_rfl) (fun _ _ _ h => h) rfl ?_ (by assumption) ?_
                        rotate_left
                        focus (intro w hSw; go_simp; (try with_reducible rfl); done)
                        try simp only [List.setIfInBounds_toArray, List.set_cons_zero, List.set_cons_succ]
                        refine take_at (i := 12) (d := 80) (v := ?_) (by simp only [List.getElem?_toArray, List.getElem?_cons_succ, List.getElem?_cons_zero]; rfl) rfl (by kernel_rfl) (by kernel_rfl) (by kernel_rfl) (fun _ _ _ h => h) rfl ?_ (by assumption) ?_
                        rotate_left
                        focus (intro w hSw; go_simp; (try with_reducible rfl); done)
                        try simp only [List.setIfInBounds_toArray, List.set_cons_zero, List.set_cons_succ]
                        refine take_at (i := 13) (d := 81) (v := ?_) (by simp only [List.getElem?_toArray, List.getElem?_cons_succ, List.getElem?_cons_zero]; rfl) rfl (by kernel_rfl) (by kernel_rfl) (by kernel_rfl) (fun _ _ _ h => h) rfl ?_ (by assumption) ?_
                        rotate_left
                        focus (intro w hSw; go_simp; (try with_reducible rfl); done)
                        try simp only [List.setIfInBounds_toArray, List.set_cons_zero, List.set_cons_succ]
                        refine take_at (i := 14) (d := 82) (v := ?_) (by simp only [List.getElem?_toArray, List.getElem?_cons_succ, List.getElem?_cons_zero]; rfl) rfl (by kernel_rfl) (by kernel_rfl) (by kernel_rfl) (fun _ _ _ h => h) rfl ?_ (by assumption) ?_
                        rotate_left
                        focus (intro w hSw; go_simp; (try with_reducible rfl); done)
                        try simp only [List.setIfInBounds_toArray, List.set_cons_zero, List.set_cons_succ]
                        refine take_at (i := 15) (d := 83) (v := ?_) (by simp only [List.getElem?_toArray, List.getElem?_cons_succ, List.getElem?_cons_zero]; rfl) rfl (by kernel_rfl) (by kernel_rfl) (by kernel_rfl) (fun _ _ _ h => h) rfl ?_ (by assumption) ?_
                        rotate_left
                        focus (intro w hSw; go_simp; (try with_reducible rfl); done)
                        try simp only [List.setIfInBounds_toArray, List.set_cons_zero, List.set_cons_succ]
                        refine take_at (i := 16) (d := 84) (v := ?_) (by simp only [List.getElem?_toArray, List.getElem?_cons_succ, List.getElem?_cons_zero]; rfl) rfl (by kernel_rfl) (by kernel_rfl) (by kernel_rfl) (fun _ _ _ h => h) rfl ?_ (by assumption) ?_
                        rotate_left
                        focus (intro w hSw; go_simp; (try with_reducible rfl); done)
                        try simp only [List.setIfInBounds_toArray, List.set_cons_zero, List.set_cons_succ]
                        refine take_at (i := 17) (d := 85) (v := ?_) (by simp only [List.getElem?_toArray, List.getElem?_cons_succ, List.getElem?_cons_zero]; rfl) rfl (by kernel_rfl) (by kernel_rfl) (by kernel_rfl) (fun _ _ _ h => h) rfl ?_ (by assumption) ?_
                        rotate_left
                        focus (intro w hSw; go_simp; (try with_reducible rfl); done)
                        try simp only [List.setIfInBounds_toArray, List.set_cons_zero, List.set_cons_succ]
                        refine call_at (i := 18) (d := 86) (by simp only [List.getElem?_toArray, List.getElem?_cons_succ, List.getElem?_cons_zero]; rfl) rfl (by kernel_rfl) rfl (fun K hK => ?_)
                        go_simp
                        refine (tight_g _ V A es L c HL.out HG2.out (s - 1) (by omega) _ (l.set k x) 1 1 hlen2.out HR2.out hal2.out).mono ?_
                        rintro e z3 ⟨rfl, b3⟩
                        have hS3 : Kept Z z3 := hS2.below (by have := K2.out.size; simp at this; omega) b3
                        have K3 := hide (K2.out.trans (b3.mono K2.out.size))
                        have HG3 := hide (HG2.out.next b3)
                        have HR3 := hide (HR2.out.next b3)
                        clear b3
                        go_wp2_with fail
                        refine hK.out _ _ hS3 (fun hSn => ?_)
                        clear hK K
                        try simp only [List.setIfInBounds_toArray, List.set_cons_zero, List.set_cons_succ]
                        refine take_at (i := 19) (d := 87) (v := ?_) (by simp only [List.getElem?_toArray, List.getElem?_cons_succ, List.getElem?_cons_zero]; rfl) rfl (by kernel_rfl) (by kernel_rfl) (by kernel_rfl) (fun _ _ _ h => h) rfl ?_ (by assumption) ?_
                        rotate_left
                        focus (intro w hSw; go_simp; (try with_reducible rfl); done)
                        try simp only [List.setIfInBounds_toArray, List.set_cons_zero, List.set_cons_succ]
                        refine take_at (i := 20) (d := 88) (v := ?_) (by simp only [List.getElem?_toArray, List.getElem?_cons_succ, List.getElem?_cons_zero]; rfl) rfl (by kernel_rfl) (by kernel_rfl) (by kernel_rfl) (fun _ _ _ h => h) rfl ?_ (by assumption) ?_
                        rotate_left
                        focus (intro w hSw; go_simp; (try with_reducible rfl); done)
                        try simp only [List.setIfInBounds_toArray, List.set_cons_zero, List.set_cons_succ]
                        refine wpAnyH_done (by kernel_rfl) ?_ _
                        clear hS0 hS1 hS2 hS3 hSn
                        have hgo := hide (KZ.out.drew.trans (K3.out.mono KZ.out.drew.size))
                        have hkk : Hid (Kept x9 z3) := hide (KXZ.out.below (by omega) (below_undrew K3.out))
                        have hss : x9.heap.size ≤ z3.heap.size := by have := K3.out.size; simp at this; omega
                        clear HR0 HR1 HR2 HR3 HG0 HG1 HG2 HG3 HRZ hGZ
                        go_wp2
                        go_roundw
                        case rel => exact ⟨j + 1, by omega, by go_num, hkk, hgo, hss⟩
                        case measure => simp [intOf]; omega
                      · have hc1 : ¬ (c' : Int) = 1 := by omega
                        have hc2 : (1 : Int) ≤ (c' : Int) := by omega
                        have hM2 : (1 : Int) ≤ (M : Int) := by omega
                        refine wp_region_held_drew (S := Kept Z) (by kernel_rfl) (Kept.drew Z) (fun hS0 => ?_)
                        refine take_at (i := 0) (d := 68) (v := ?_) (by simp only [List.getElem?_toArray, List.getElem?_cons_succ, List.getElem?_cons_zero]; rfl) rfl (by kernel_rfl) (by kernel_rfl) (by kernel_rfl) (fun _ _ _ h => h) rfl ?_ (by assumption) ?_
                        rotate_left
                        focus (intro w hSw; go_simp; (try with_reducible rfl); done)
                        try simp only [List.setIfInBounds_toArray, List.set_cons_zero, List.set_cons_succ]
                        refine take_at (i := 1) (d := 69) (v := ?_) (by simp only [List.getElem?_toArray, List.getElem?_cons_succ, List.getElem?_cons_zero]; rfl) rfl (by kernel_rfl) (by kernel_rfl) (by kernel_rfl) (fun _ _ _ h => h) rfl ?_ (by assumption) ?_
                        rotate_left
                        focus (intro w hSw; go_simp; (try with_reducible rfl); done)
                        try simp only [List.setIfInBounds_toArray, List.set_cons_zero, List.set_cons_succ]
                        refine take_at (i := 2) (d := 70) (v := ?_) (by simp only [List.getElem?_toArray, List.getElem?_cons_succ, List.getElem?_cons_zero]; rfl) rfl (by kernel_rfl) (by kernel_rfl) (by kernel_rfl) (fun _ _ _ h => h) rfl ?_ (by assumption) ?_
                        rotate_left
                        focus (intro w hSw; go_simp; (try with_reducible rfl); done)
                        try simp only [List.setIfInBounds_toArray, List.set_cons_zero, List.set_cons_succ]
                        refine call_at (i := 3) (d := 71) (by simp only [List.getElem?_toArray, List.getElem?_cons_succ, List.getElem?_cons_zero]; rfl) rfl (by kernel_rfl) rfl (fun K hK => ?_)
                        go_simp
                        refine (tight_g _ V A es L c HL.out HG0.out s (by omega) _ (l.set k x) M c' hlen2.out HR0.out hal2.out).mono ?_
                        rintro e z1 ⟨rfl, b1⟩
                        have hS1 : Kept Z z1 := hS0.below (by first | (simp; done) | (simp; omega)) b1
                        have K1 := hide b1
                        have HG1 := hide (HG0.out.next b1)
                        have HR1 := hide (HR0.out.next b1)
                        clear b1
                        go_wp2_with fail
                        refine hK.out _ _ hS1 (fun hSn => ?_)
                        clear hK K
                        try simp only [List.setIfInBounds_toArray, List.set_cons_zero, List.set_cons_succ]
                        refine take_at (i := 4) (d := 72) (v := ?_) (by simp only [List.getElem?_toArray, List.getElem?_cons_succ, List.getElem?_cons_zero]; rfl) rfl (by kernel_rfl) (by kernel_rfl) (by kernel_rfl) (fun _ _ _ h => h) rfl ?_ (by assumption) ?_
                        rotate_left
                        focus (intro w hSw; go_simp; (try with_reducible rfl); done)
                        try simp only [List.setIfInBounds_toArray, List.set_cons_zero, List.set_cons_succ]
                        refine take_at (i := 5) (d := 73) (v := ?_) (by simp only [List.getElem?_toArray, List.getElem?_cons_succ, List.getElem?_cons_zero]; rfl) rfl (by kernel_rfl) (by kernel_rfl) (by kernel_rfl) (fun _ _ _ h => h) rfl ?_ (by assumption) ?_
                        rotate_left
                        focus (intro w hSw; go_simp; (try with_reducible rfl); done)
                        try simp only [List.setIfInBounds_toArray, List.set_cons_zero, List.set_cons_succ]
                        refine take_at (i := 6) (d := 74) (v := ?_) (by simp only [List.getElem?_toArray, List.getElem?_cons_succ, List.getElem?_cons_zero]; rfl) rfl (by kernel_rfl) (by kernel_rfl) (by kernel_rfl) (fun _ _ _ h => h) rfl ?_ (by assumption) ?_
                        rotate_left
                        focus (intro w hSw; go_simp; (try with_reducible rfl); done)
                        try simp only [List.setIfInBounds_toArray, List.set_cons_zero, List.set_cons_succ]
                        refine take_at (i := 7) (d := 75) (v := ?_) (by simp only [List.getElem?_toArray, List.getElem?_cons_succ, List.getElem?_cons_zero]; rfl) rfl (by kernel_rfl) (by kernel_rfl) (by kernel_rfl) (fun _ _ _ h => h) rfl ?_ (by assumption) ?_
                        rotate_left
                        focus (intro w hSw; go_simp; (try with_reducible rfl); done)
                        try simp only [List.setIfInBounds_toArray, List.set_cons_zero, List.set_cons_succ]
                        refine take_at (i := 8) (d := 76) (v := ?_) (by simp only [List.getElem?_toArray, List.getElem?_cons_succ, List.getElem?_cons_zero]; rfl) rfl (by kernel_rfl) (by kernel_rfl) (by kernel_rfl) (fun _ _ _ h => h) rfl ?_ (by assumption) ?_
                        rotate_left
                        focus (intro w hSw; go_simp; (try with_reducible rfl); done)
                        try simp only [List.setIfInBounds_toArray, List.set_cons_zero, List.set_cons_succ]
                        refine take_at (i := 9) (d := 77) (v := ?_) (by simp only [List.getElem?_toArray, List.getElem?_cons_succ, List.getElem?_cons_zero]; rfl) rfl (by kernel_rfl) (by kernel_rfl) (by kernel_rfl) (fun _ _ _ h => h) rfl ?_ (by assumption) ?_
                        rotate_left
                        focus (intro w hSw; go_simp; (try with_reducible rfl); done)
                        try simp only [List.setIfInBounds_toArray, List.set_cons_zero, List.set_cons_succ]
                        refine call_at (i := 10) (d := 78) (by simp only [List.getElem?_toArray, List.getElem?_cons_succ, List.getElem?_cons_zero]; rfl) rfl (by kernel_rfl) rfl (fun K hK => ?_)
                        go_simp
                        refine (tight_g _ V A es L c HL.out HG1.out s (by omega) (some ⟨g, 1, none⟩) ((l.set k x).drop 1) (M - 1) (c' - 1) (by rw [List.length_drop, hlen2.out]) (rd_drop1 HR1.out) (fun x hx => hal2.out x (List.mem_of_mem_drop hx))).mono ?_
                        rintro e z2 ⟨rfl, b2⟩
                        have hS2 : Kept Z z2 := hS1.below (by have := K1.out.size; simp at this; omega) b2
                        have K2 := hide (K1.out.trans (b2.mono K1.out.size))
                        have HG2 := hide (HG1.out.next b2)
                        have HR2 := hide (HR1.out.next b2)
                        clear b2
                        go_wp2_with fail
                        refine hK.out _ _ hS2 (fun hSn => ?_)
                        clear hK K
                        try simp only [List.setIfInBounds_toArray, List.set_cons_zero, List.set_cons_succ]
                        refine take_at (i := 11) (d := 79) (v := ?_) (by simp only [List.getElem?_toArray, List.getElem?_cons_succ, List.getElem?_cons_zero]; rfl) rfl (by kernel_rfl) (by kernel_rfl) (by kernel_rfl) (fun _ _ _ h => h) rfl ?_ (by assumption) ?_
                        rotate_left
                        focus (intro w hSw; go_simp; (try with_reducible rfl); done)
                        try simp only [List.setIfInBounds_toArray, List.set_cons_zero, List.set_cons_succ]
                        refine take_at (i := 12) (d := 80) (v := ?_) (by simp only [List.getElem?_toArray, List.getElem?_cons_succ, List.getElem?_cons_zero]; rfl) rfl (by kernel_rfl) (by kernel_rfl) (by kernel_rfl) (fun _ _ _ h => h) rfl ?_ (by assumption) ?_
                        rotate_left
                        focus (intro w hSw; go_simp; (try with_reducible rfl); done)
                        try simp only [List.setIfInBounds_toArray, List.set_cons_zero, List.set_cons_succ]
                        refine take_at (i := 13) (d := 81) (v := ?_) (by simp only [List.getElem?_toArray, List.getElem?_cons_succ, List.getElem?_cons_zero]; rfl) rfl (by kernel_rfl) (by kernel_rfl) (by kernel_rfl) (fun _ _ _ h => h) rfl ?_ (by assumption) ?_
                        rotate_left
                        focus (intro w hSw; go_simp; (try with_reducible rfl); done)
                        try simp only [List.setIfInBounds_toArray, List.set_cons_zero, List.set_cons_succ]
                        refine take_at (i := 14) (d := 82) (v := ?_) (by simp only [List.getElem?_toArray, List.getElem?_cons_succ, List.getElem?_cons_zero]; rfl) rfl (by kernel_rfl) (by kernel_rfl) (by kernel_rfl) (fun _ _ _ h => h) rfl ?_ (by assumption) ?_
                        rotate_left
                        focus (intro w hSw; go_simp; (try with_reducible rfl); done)
                        try simp only [List.setIfInBounds_toArray, List.set_cons_zero, List.set_cons_succ]
                        refine take_at (i := 15) (d := 83) (v := ?_) (by simp only [List.getElem?_toArray, List.getElem?_cons_succ, List.getElem?_cons_zero]; rfl) rfl (by kernel_rfl) (by kernel_rfl) (by kernel_rfl) (fun _ _ _ h => h) rfl ?_ (by assumption) ?_
                        rotate_left
                        focus (intro w hSw; go_simp; (try with_reducible rfl); done)
                        try simp only [List.setIfInBounds_toArray, List.set_cons_zero, List.set_cons_succ]
                        refine take_at (i := 16) (d := 84) (v := ?_) (by simp only [List.getElem?_toArray, List.getElem?_cons_succ, List.getElem?_cons_zero]; rfl) rfl (by kernel_rfl) (by kernel_rfl) (by kernel_rfl) (fun _ _ _ h => h) rfl ?_ (by assumption) ?_
                        rotate_left
                        focus (intro w hSw; go_simp; (try with_reducible rfl); done)
                        try simp only [List.setIfInBounds_toArray, List.set_cons_zero, List.set_cons_succ]
                        refine take_at (i := 17) (d := 85) (v := ?_) (by simp only [List.getElem?_toArray, List.getElem?_cons_succ, List.getElem?_cons_zero]; rfl) rfl (by kernel_rfl) (by kernel_rfl) (by kernel_rfl) (fun _ _ _ h => h) rfl ?_ (by assumption) ?_
                        rotate_left
                        focus (intro w hSw; go_simp; (try with_reducible rfl); done)
                        try simp only [List.setIfInBounds_toArray, List.set_cons_zero, List.set_cons_succ]
                        refine call_at (i := 18) (d := 86) (by simp only [List.getElem?_toArray, List.getElem?_cons_succ, List.getElem?_cons_zero]; rfl) rfl (by kernel_rfl) rfl (fun K hK => ?_)
                        go_simp
                        refine (tight_g _ V A es L c HL.out HG2.out (s - 1) (by omega) _ (l.set k x) M c' hlen2.out HR2.out hal2.out).mono ?_
                        rintro e z3 ⟨rfl, b3⟩
                        have hS3 : Kept Z z3 := hS2.below (by have := K2.out.size; simp at this; omega) b3
                        have K3 := hide (K2.out.trans (b3.mono K2.out.size))
                        have HG3 := hide (HG2.out.next b3)
                        have HR3 := hide (HR2.out.next b3)
                        clear b3
                        go_wp2_with fail
                        refine hK.out _ _ hS3 (fun hSn => ?_)
                        clear hK K
                        try simp only [List.setIfInBounds_toArray, List.set_cons_zero, List.set_cons_succ]
                        refine take_at (i := 19) (d := 87) (v := ?_) (by simp only [List.getElem?_toArray, List.getElem?_cons_succ, List.getElem?_cons_zero]; rfl) rfl (by kernel_rfl) (by kernel_rfl) (by kernel_rfl) (fun _ _ _ h => h) rfl ?_ (by assumption) ?_
                        rotate_left
                        focus (intro w hSw; go_simp; (try with_reducible rfl); done)
                        try simp only [List.setIfInBounds_toArray, List.set_cons_zero, List.set_cons_succ]
                        refine take_at (i := 20) (d := 88) (v := ?_) (by simp only [List.getElem?_toArray, List.getElem?_cons_succ, List.getElem?_cons_zero]; rfl) rfl (by kernel_rfl) (by kernel_rfl) (by kernel_rfl) (fun _ _ _ h => h) rfl ?_ (by assumption) ?_
                        rotate_left
                        focus (intro w hSw; go_simp; (try with_reducible rfl); done)
                        try simp only [List.setIfInBounds_toArray, List.set_cons_zero, List.set_cons_succ]
                        refine wpAnyH_done (by kernel_rfl) ?_ _
                        clear hS0 hS1 hS2 hS3 hSn
                        have hgo := hide (KZ.out.drew.trans (K3.out.mono KZ.out.drew.size))
                        have hkk : Hid (Kept x9 z3) := hide (KXZ.out.below (by omega) (below_undrew K3.out))
                        have hss : x9.heap.size ≤ z3.heap.size := by have := K3.out.size; simp at this; omega
                        clear HR0 HR1 HR2 HR3 HG0 HG1 HG2 HG3 HRZ hGZ
                        go_wp2
                        go_roundw
                        case rel => exact ⟨j + 1, by omega, by go_num, hkk, hgo, hss⟩
                        case measure => simp [intOf]; omega
                · obtain rfl : j = 9 := by omega
                  rw [show ((9 : Nat) : Int) = 9 from rfl]
                  have hkk2 : Hid (Kept t wr) := hide (fun p hp => (hk1.out p (by omega)).trans (HKx.out p hp))
                  go_wp2
                  go_roundw
                  case rel => exact ⟨k + 1, by omega, by go_num, hkk2, hb1, by omega⟩
                  case measure => simp [intOf]; omega
            · go_wp2
              go_roundw
              case rel => exact ⟨s + 1, by omega, by omega, by go_num, hk1, hb1, hs1⟩
              case measure => simp [intOf]; omega
        · go_wp2
          go_roundw
          case rel => exact ⟨i + 1, by omega, by go_num, hide (fun p hp => (hk1.out p (by omega)).trans (HKt.out p hp)), hb1, by omega⟩
          case measure => simp [intOf]; omega
    · obtain rfl : i = 5 := by omega
      rw [show ((5 : Nat) : Int) = 5 from rfl]
      have HB0 := hide hb1.out
      clear hk1 hb1 hs1 HG
      go_wp2
      obtain ⟨u2, hu⟩ : ∃ u2, ((wr.alloc (.cells #[.int .i64 1, .int .i64 2, .int .i64 0, .int .i64 2, .int .i64 1, .int .i64 0] 23)).alloc (.cells #[.int .i64 3, .slice (some ⟨wr.heap.size, 0, none⟩) 2 2] 35)).alloc (.cells #[.int .i64 0, .int .i64 5, .int .i64 4611686018427387904, .int .i64 4611686018427387909, .int .i64 9223372036854775807, .int .i64 (-9223372036854775808)] 2) = u2 := ⟨_, rfl⟩
      have hzu : u2.heap.size = wr.heap.size + 3 := by rw [← hu]; simp
      have hbu : Below wr.heap.size wr u2 := by rw [← hu]; exact ((((Below.refl wr.heap.size wr).alloc (Nat.le_refl _) _).alloc (by simp) _).alloc (by simp; omega) _)
      have r4 : Rd u2 u2.heap.size (some ⟨wr.heap.size, 0, none⟩) (edFlat heldE) := by
        rw [← hu]
        exact (((Rd.new wr (edFlat heldE).toArray 23 (0, 0)).alloc (by simp) _).alloc (by simp) _).more (by simp)
      have HC : Hid (∀ j x, six6[j]? = some x → u2.cell? ⟨wr.heap.size + 2, j, none⟩ = some (.int .i64 x)) := hide (fun j x hj => by
        have h := (Rd.new ((wr.alloc (.cells #[.int .i64 1, .int .i64 2, .int .i64 0, .int .i64 2, .int .i64 1, .int .i64 0] 23)).alloc (.cells #[.int .i64 3, .slice (some ⟨wr.heap.size, 0, none⟩) 2 2] 35)) (six6.map (Value.int .i64)).toArray 2 (0, 0)).cell (j := j) (u := .int .i64 x) (by simp [hj])
        rw [Nat.zero_add, World.size_alloc, World.size_alloc] at h
        rw [← hu]
        exact h)
      have rg : Rd u2 u2.heap.size (some ⟨wr.heap.size + 1, 0, none⟩) [.int .i64 3, .slice (some ⟨wr.heap.size, 0, none⟩) 2 2] := by
        rw [← hu]
        have h := Rd.new (wr.alloc (.cells #[.int .i64 1, .int .i64 2, .int .i64 0, .int .i64 2, .int .i64 1, .int .i64 0] 23)) #[.int .i64 3, .slice (some ⟨wr.heap.size, 0, none⟩) 2 2] 35 (0, 0)
        have h2 := h.alloc (Nat.le_of_eq (by simp)) (.cells #[.int .i64 0, .int .i64 5, .int .i64 4611686018427387904, .int .i64 4611686018427387909, .int .i64 9223372036854775807, .int .i64 (-9223372036854775808)] 2)
        rw [World.size_alloc] at h2
        exact h2.more (by simp)
      have ct0 : u2.cell? ⟨wr.heap.size + 1, 0, none⟩ = some (.int .i64 3) := by have := rg.cell (j := 0) rfl; rw [Nat.zero_add] at this; exact this
      have ct1 : u2.cell? ⟨wr.heap.size + 1, 1, none⟩ = some (.slice (some ⟨wr.heap.size, 0, none⟩) 2 2) := by have := rg.cell (j := 1) rfl; rw [Nat.zero_add] at this; exact this
      have HGo : Hid (GOk u2 3 (some ⟨wr.heap.size, 0, none⟩) heldE 2) := hide ⟨Eds.of_rd r4 (wt_of (by decide)), by decide, by decide, edB_of (by decide), by decide, by decide, by decide⟩
      have HB := hide (HB0.out.trans (hbu.mono HB0.out.size))
      have hX : wr.heap.size + 2 < u2.heap.size := by omega
      have hT : wr.heap.size + 1 < u2.heap.size := by omega
      have HU := hide hu
      obtain ⟨X, hXe⟩ : ∃ X, wr.heap.size + 2 = X := ⟨_, rfl⟩
      obtain ⟨T, hTe⟩ : ∃ T, wr.heap.size + 1 = T := ⟨_, rfl⟩
      obtain ⟨E, hEe⟩ : ∃ E, wr.heap.size = E := ⟨_, rfl⟩
      rw [hXe] at HC hX
      rw [hTe] at ct0 ct1 hT
      rw [hEe] at ct1 HGo
      rw [HU.out, hXe, hTe, hEe]
      clear hu hzu hbu r4 rg HB0 hXe hTe hEe HU
      go_loopw [97] (fun v97 wr => ∃ j : Nat, j ≤ 6 ∧ v97 = .int .i64 j ∧ Hid (Kept u2 wr) ∧ Hid (Below w.heap.size w wr) ∧ u2.heap.size ≤ wr.heap.size) (fun v97 _ => 6 - (intOf v97).toNat)
      case atStart => exact ⟨0, by omega, rfl, hide (Kept.refl u2), HB, Nat.le_refl _⟩
      case round =>
        clear HB
        obtain ⟨j, hj, rfl, hk1, hb1, hs1⟩ := hrel
        have a0 := (hk1.out ⟨T, 0, none⟩ hT).trans ct0
        have a1 := (hk1.out ⟨T, 1, none⟩ hT).trans ct1
        by_cases hlt5 : j < 6
        · have hj1 : (j : Int) < 6 := by omega
          obtain ⟨x, hjx, hx1, hx2⟩ := six6_at j hlt5
          have cx := (hk1.out ⟨X, j, none⟩ hX).trans (HC.out j x hjx)
          have HG1 := hide (HGo.out.kept hk1.out hs1)
          have hS00 : Hid (Kept u2 wr.drew) := hide (fun p hp => hk1.out p hp)
          clear hjx
          go_wp2_with fail
          have hS1 : Kept u2 (wr.alloc (.cells #[.int .i64 0, .int .i64 x, .int .i64 x] 2)) := fun p hp => (World.cell?_alloc_lt _ _ _ (by show p.block < wr.heap.size; omega)).trans (hk1.out p hp)
          have KW1 := hide ((hb1.out).alloc hb1.out.size (.cells #[.int .i64 0, .int .i64 x, .int .i64 x] 2))
          have hz1 : u2.heap.size ≤ (wr.alloc (.cells #[.int .i64 0, .int .i64 x, .int .i64 x] 2)).heap.size := by simp; omega
          have HG0 : Hid (GOk (wr.alloc (.cells #[.int .i64 0, .int .i64 x, .int .i64 x] 2)) 3 (some ⟨E, 0, none⟩) heldE 2) := hide (HG1.out.next ((Below.refl wr.heap.size wr).alloc (Nat.le_refl _) _))
          have HRn : Hid (Rd (wr.alloc (.cells #[.int .i64 0, .int .i64 x, .int .i64 x] 2)) (wr.alloc (.cells #[.int .i64 0, .int .i64 x, .int .i64 x] 2)).heap.size (some ⟨wr.heap.size, 0, none⟩) [.int .i64 0, .int .i64 x, .int .i64 x]) := hide ((Rd.new wr #[.int .i64 0, .int .i64 x, .int .i64 x] 2 (0, 0)).more (by simp))
          clear a0 a1
          refine (tight_g _ 3 _ heldE 2 2 rfl HG0.out 0 (by omega) _ [0, x, x] 3 3 rfl HRn.out (all64_3 0 x x (by omega) (by omega) (by omega))).mono ?_
          rintro e z2 ⟨rfl, b2⟩
          have hS2 : Kept u2 z2 := hS1.below hz1 b2
          have KW2 := hide (KW1.out.trans (b2.mono KW1.out.size))
          have hz2 : u2.heap.size ≤ z2.heap.size := Nat.le_trans hz1 b2.size
          clear b2
          go_wp2_with fail
          refine (pathsTake_walk _ x hx1 hx2 true 5 (by omega) (by omega)).mono ?_
          rintro e z3 ⟨rfl, b3⟩
          have hS3 : Kept u2 z3 := hS2.below hz2 b3
          have KW3 := hide (KW2.out.trans (b3.mono KW2.out.size))
          have hz3 : u2.heap.size ≤ z3.heap.size := Nat.le_trans hz2 b3.size
          clear b3
          go_wp2_with fail
          refine (pathsTake_walk _ 5 (by omega) (by omega) true x hx1 hx2).mono ?_
          rintro e z4 ⟨rfl, b4⟩
          have hS4 : Kept u2 z4 := hS3.below hz3 b4
          have KW4 := hide (KW3.out.trans (b4.mono KW3.out.size))
          have hz4 : u2.heap.size ≤ z4.heap.size := Nat.le_trans hz3 b4.size
          clear b4
          go_wp2_with fail
          refine (pathsTake_walk _ x hx1 hx2 false 1 (by omega) (by omega)).mono ?_
          rintro e z5 ⟨rfl, b5⟩
          have hS5 : Kept u2 z5 := hS4.below hz4 b5
          have KW5 := hide (KW4.out.trans (b5.mono KW4.out.size))
          have hz5 : u2.heap.size ≤ z5.heap.size := Nat.le_trans hz4 b5.size
          clear b5
          go_wp2_with fail
          refine (pathsGive_walk _ 1 (by omega) (by omega) 1 (by omega) (by omega) x hx1 hx2 0 0 x hx1 hx2).mono ?_
          rintro e z6 ⟨rfl, b6⟩
          have hS6 : Kept u2 z6 := hS5.below hz5 b6
          have KW6 := hide (KW5.out.trans (b6.mono KW5.out.size))
          have hz6 : u2.heap.size ≤ z6.heap.size := Nat.le_trans hz5 b6.size
          clear b6
          go_wp2_with fail
          refine (pathsGive_walk _ 0 (by omega) (by omega) 1 (by omega) (by omega) x hx1 hx2 0 0 3 (by omega) (by omega)).mono ?_
          rintro e z7 ⟨rfl, b7⟩
          have hS7 : Kept u2 z7 := hS6.below hz6 b7
          have KW7 := hide (KW6.out.trans (b7.mono KW6.out.size))
          have hz7 : u2.heap.size ≤ z7.heap.size := Nat.le_trans hz6 b7.size
          have HKF := hide hS7
          clear b7
          clear HG0 KW1 KW2 KW3 KW4 KW5 KW6 hz1 hz2 hz3 hz4 hz5 hz6 hS1 hS2 hS3 hS4 hS5 hS6 hS7
          go_wp2
          go_roundw
          case rel => exact ⟨j + 1, by omega, by go_num, HKF, KW7, hz7⟩
          case measure => simp [intOf]; omega
        · obtain rfl : j = 6 := by omega
          rw [show ((6 : Nat) : Int) = 6 from rfl]
          have HG1 := hide (HGo.out.kept hk1.out hs1)
          have hS00 : Hid (Kept u2 wr.drew) := hide (fun p hp => hk1.out p hp)
          go_wp2_with fail
          have hS1 : Kept u2 (wr.alloc (.cells #[.int .i64 0, .int .i64 5, .int .i64 5] 2)) := fun p hp => (World.cell?_alloc_lt _ _ _ (by show p.block < wr.heap.size; omega)).trans (hk1.out p hp)
          have KW1 := hide ((hb1.out).alloc hb1.out.size (.cells #[.int .i64 0, .int .i64 5, .int .i64 5] 2))
          have hz1 : u2.heap.size ≤ (wr.alloc (.cells #[.int .i64 0, .int .i64 5, .int .i64 5] 2)).heap.size := by simp; omega
          have HG0 : Hid (GOk (wr.alloc (.cells #[.int .i64 0, .int .i64 5, .int .i64 5] 2)) 3 (some ⟨E, 0, none⟩) heldE 2) := hide (HG1.out.next ((Below.refl wr.heap.size wr).alloc (Nat.le_refl _) _))
          have HRn : Hid (Rd (wr.alloc (.cells #[.int .i64 0, .int .i64 5, .int .i64 5] 2)) (wr.alloc (.cells #[.int .i64 0, .int .i64 5, .int .i64 5] 2)).heap.size (some ⟨wr.heap.size, 0, none⟩) [.int .i64 0, .int .i64 5, .int .i64 5]) := hide ((Rd.new wr #[.int .i64 0, .int .i64 5, .int .i64 5] 2 (0, 0)).more (by simp))
          clear a0 a1
          refine (tight_any _ 3 _ _ heldE [0, 5, 5] 2 2 3 3 0 rfl HG0.out.1 (by omega) rfl HRn.out (all64_3 0 5 5 (by omega) (by omega) (by omega))).mono ?_
          rintro e z2 ⟨rfl, b2⟩
          rw [show tightF 3 heldE 0 [0, 5, 5] = false by decide]
          have hS2 : Kept u2 z2 := hS1.below hz1 b2
          have KW2 := hide (KW1.out.trans (b2.mono KW1.out.size))
          have hz2 : u2.heap.size ≤ z2.heap.size := Nat.le_trans hz1 b2.size
          clear b2
          go_wp2_with fail
          refine (pathsTight_walk _ 0 none [] 0 (by omega) (by omega) Els.nil_ (by simp) (by omega) (by intro e he; cases he) 0 (by omega) (by omega) none [] 0 Rd.nil_ (by intro x hx; cases hx)).mono ?_
          rintro e z3 ⟨rfl, b3⟩
          have hS3 : Kept u2 z3 := hS2.below hz2 b3
          have KW3 := hide (KW2.out.trans (b3.mono KW2.out.size))
          have hz3 : u2.heap.size ≤ z3.heap.size := Nat.le_trans hz2 b3.size
          clear b3
          go_wp2_with fail
          refine (works_any _).mono ?_
          rintro e z4 ⟨rfl, b4⟩
          have hS4 : Kept u2 z4 := hS3.below hz3 b4
          have KW4 := hide (KW3.out.trans (b4.mono KW3.out.size))
          have hz4 : u2.heap.size ≤ z4.heap.size := Nat.le_trans hz3 b4.size
          clear b4
          go_wp2
          go_ret
          exact ⟨rfl, KW4.out⟩
end Go.Proofs.Ytmlpcfeadacoeaa
