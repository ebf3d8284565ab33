/- Lemmas: Ndo. -/
import Derived.Test.YtigmmikijjcdiaaProg
import Derived.Deep.DeepCutAuto
import Derived.Lib.Hide
import Derived.WalkSpells
import Derived.WalkMore
import Derived.IntWalk
import Derived.Test.YtigmmikijjcdiaaLnWw20
import Derived.Test.YtigmmikijjcdiaaLnWw22
set_option linter.unusedVariables false
set_option linter.unusedSimpArgs false
set_option maxRecDepth 100000
set_option maxHeartbeats 16000000
namespace Go.Proofs.Ytigmmikijjcdiaa
open Go.RowKit
def DoesPost (w : World) (L P Q i : Nat) (e : Ending) (w' : World) : Prop := e = .returned (.bool true) ∧ (∃ s', PairSt L P Q (i + 1) w' s' ∧ PairN (i + 1) s') ∧ Below L w w'
theorem pair_told {u y z x : World} {L P Q M k i n : Nat} {G G' : Option Nat} {own own2 : Nat → Option (Bool × Nat)} {s s' : LE} (hP : L ≤ P) (hM : L ≤ M) (hG : ∀ g, G = some g → L ≤ g) (ho : ∀ g, own g ≠ none → L ≤ g ∧ g < u.heap.size) (hL : L ≤ u.heap.size) (hk : k ≤ i)
  (hE : EndM y P M G own k s') (hky : KB [P] u y) (ho2 : ∀ g, own2 g ≠ none → u.heap.size ≤ g ∧ g < y.heap.size) (hR0 : REnd y L Q G' s) (hkz : KB [Q] y z) (hR : REnd z L Q G' s') (hsp : Spoilt (RowX z own2 (fun q => (true, q)) n) z x) :
  PairSt L P Q (i + 1) x s' ∧ Below L u x := by
 have hy := hky.1
 have hz := hkz.1
 have hB : Below L u x := ((hky.toBelow (by intro g hg; simp at hg; omega) hL).trans (hkz.toBelow (by intro g hg; simp at hg; rw [hg]; exact hR.2.1) (by omega))).trans (hsp.toBelow (fun g ⟨_, q, hq, he⟩ => by have := ho2 g (by rw [he]; simp); omega) (by omega))
 refine ⟨⟨M, G, own, k, G', by omega, (hR0.keepE hkz (by intro g hg; simp at hg; exact .inl hg) hE).spoil hsp fun g ⟨_, q, hq, he⟩ t ht => ?_, hR.spoil hsp, hP, hM, hG, fun g hg => (ho g hg).1, by have := hB.size; omega⟩, hB⟩
 have h1 := ho2 g (by rw [he]; simp)
 have h2 := ho g (by rw [ht]; simp)
 omega
theorem setCell_row8 {w : World} {g i : Nat} {cs : Array Value} {t : TypeId} {fr : Nat × Nat} (hg : w.heap[g]? = some (.cells cs t fr)) (v : Value) : (w.setCell ⟨g, i, none⟩ v).heap[g]? = some (.cells (cs.setIfInBounds i v) t fr) := by
 rw [setCell_eq_setRow w g i cs t fr v hg]
 exact setRow_heap w g cs _ t _ hg
def Bed8 (w : World) (g N : Nat) : Prop := ∃ (C : Array Value) (fr : Nat × Nat), w.heap[g]? = some (Obj.cells C 5 fr) ∧ N ≤ C.size ∧ N ≤ fr.1 ∧ fr ≠ (0, 0) ∧ ∀ j, j < N → ∃ y : Nat, C[j]? = some (.int .u8 (y : Int))
theorem bed8_new (w : World) (bs : BL) : Bed8 (bytesWorld w 5 bs) w.heap.size bs.length := by
 have h1 : (bytesRow ⟨bs.toArray⟩ (grownCap w bs.length 0 5)).size ≥ bs.length := by
  unfold Go.bytesRow
  have : (⟨bs.toArray⟩ : ByteArray).size = bs.length := by show bs.toArray.size = _; simp
  simp [this]
 have hl : (bytesWorld w 5 bs).heap[w.heap.size]? = some (Obj.cells (bytesRow ⟨bs.toArray⟩ (grownCap w bs.length 0 5)) 5 ((bytesRow ⟨bs.toArray⟩ (grownCap w bs.length 0 5)).size, (bytesRow ⟨bs.toArray⟩ (grownCap w bs.length 0 5)).size + 1)) := by unfold bytesWorld; exact heap_alloc_last w _
 refine ⟨_, _, hl, h1, h1, by simp, fun j hj => ?_⟩
 have hx : bs[j]? = some bs[j] := List.getElem?_eq_getElem hj
 have hu : (u8s bs)[j]? = some (.int .u8 (bs[j].toNat : Int)) := by unfold u8s; rw [List.getElem?_map, hx]; rfl
 obtain ⟨b, off, e1, e2, e3⟩ := bytesWorld_rd w 5 bs (by intro e; rw [e] at hu; simp at hu)
 injection e1 with e1
 injection e1 with e1 e4
 subst e1 e4
 have h9 := e3 j _ hu
 rw [Nat.zero_add] at h9
 exact ⟨_, (cell_of_row _ _ _ _ _ _ hl).symm.trans h9⟩
theorem Bed8.keep {w w' : World} {g N : Nat} (h : Bed8 w g N) (hb : w'.heap[g]? = w.heap[g]?) : Bed8 w' g N := by
 obtain ⟨C, fr, h1, h2⟩ := h
 exact ⟨C, fr, hb.trans h1, h2⟩
theorem Bed8.at_ {w : World} {g N k : Nat} (h : Bed8 w g N) (hk : k < N) : ∃ y : Nat, w.cell? ⟨g, k, none⟩ = some (.int .u8 (y : Int)) ∧ w.frozen? ⟨g, k, none⟩ = false ∧ ∀ z : Nat, Bed8 (w.setCell ⟨g, k, none⟩ (.int .u8 (z : Int))) g N := by
 obtain ⟨C, fr, h1, h2, h3, h4, h5⟩ := h
 obtain ⟨y, hy⟩ := h5 k hk
 refine ⟨y, (cell_of_row _ _ _ _ _ _ h1).trans hy, ?_, fun z => ⟨_, fr, setCell_row8 h1 _, by rw [Array.size_setIfInBounds]; exact h2, h3, h4, fun j hj => ?_⟩⟩
 ·simp only [World.frozen?, h1]
  rw [decide_eq_false (by omega), Bool.false_and]
 ·rw [Array.getElem?_setIfInBounds]
  by_cases hjk : k = j
  ·exact ⟨z, by rw [if_pos hjk, if_pos (by omega)]⟩
  ·rw [if_neg hjk]
   exact h5 j hj
theorem PairSt.set8 {w : World} {L P Q i g N k : Nat} {s : LE} (h : PairSt L P Q i w s) (hb : Bed8 w g N) (u : Value) : PairSt L P Q i (w.setCell ⟨g, k, none⟩ u) s := by
 obtain ⟨M, G, own, k0, G', h1, h2, h3, h4, h5, h6, h7, h8⟩ := h
 obtain ⟨C, fr, b1, b2, b3, b4, b5⟩ := hb
 have hk : ∀ q, q ≠ g → (w.setCell ⟨g, k, none⟩ u).heap[q]? = w.heap[q]? := fun q hq => Below.heap_setCell _ _ _ _ hq
 obtain ⟨_, _, _, _, _, _, p1, r1, _, ⟨⟨es1, cl1, m1, _⟩, _⟩, _⟩ := id h2
 refine ⟨M, G, own, k0, G', h1, h2.keepT (by rw [World.size_setCell]; exact Nat.le_refl _) fun q hl hc => hk q ?_, h3.keep fun q cur T hc hT => hk q (row_ne hc b1 (by rcases hT with rfl | rfl | rfl <;> decide)), h4, h5, h6, h7, by rw [World.size_setCell]; exact h8⟩
 rcases hc with rfl | rfl | hc | ⟨cur, hc⟩
 ·exact row_ne p1 b1 (by decide)
 ·rintro rfl; rw [b1] at m1; cases m1
 ·obtain ⟨cur, hc⟩ := r1.blk q hc
  exact row_ne hc b1 (by decide)
 ·rintro rfl
  rw [b1] at hc
  injection hc with hc
  injection hc with _ _ hc
  exact b4 hc
theorem frI_len (tag : Nat) (b : BL) (ep h n : Int) : (frI tag b ep h n).length ≤ 29 + b.length := by
 unfold frI
 split
 ·rw [fr_len]; simp
 ·rw [fr_len]; simp; omega
theorem does_out (w : World) {L P Q i : Nat} {s : LE} (h : PairSt L P Q i w s) (hN : PairN i s) (hi : i ≤ 1000) (hLw : L ≤ w.heap.size) (x : Cal5) (hx : x.ok) (hR : Rd w L x.A (u8s x.b)) (hb5 : x.b.length ≤ 5000) (hkk : x.k % 7 = 2) :
  Calls Try.prog 22 #[.pointer (some ⟨P, 0, none⟩), .pointer (some ⟨Q, 0, none⟩), .agg #[.int .u8 (x.k : Int), .slice x.A x.b.length x.c, .int .i64 x.ep, .int .i64 x.h, .int .i64 x.n]] w (DoesPost w L P Q i) := by
 obtain ⟨k8, A, b, c, ep, h0, n0⟩ := x
 obtain ⟨hk8, hbl, hep, hh0, hn0⟩ := hx
 dsimp only at hR hbl hk8 hep hh0 hn0 hkk hb5 ⊢
 obtain ⟨bl, hbl9⟩ : ∃ z, b.length = z := ⟨_, rfl⟩
 rw [hbl9] at hb5 ⊢
 have HBl := hide hbl9
 obtain ⟨u, hu⟩ : ∃ u, w.alloc (.cells #[.int .u8 (k8 : Int), .slice A bl c, .int .i64 ep, .int .i64 h0, .int .i64 n0] 56) = u := ⟨_, rfl⟩
 have HT := hide (show u.heap[w.heap.size]? = some (.cells #[.int .u8 (k8 : Int), .slice A bl c, .int .i64 ep, .int .i64 h0, .int .i64 n0] 56) by rw [← hu]; exact heap_alloc_last w _)
 have HBu := hide (show Below w.heap.size w u by rw [← hu]; exact (Below.refl _ _).alloc (Nat.le_refl _) _)
 have HU := hide hu
 obtain ⟨T, hT⟩ : ∃ x, w.heap.size = x := ⟨_, rfl⟩
 have HTe := hide hT
 rw [hT] at HT
 have HPu := hide (h.next HBu.out)
 have HRu : Hid (Rd u L A (u8s b)) := hide (hR.keep fun p hp => HBu.out.cell (by omega))
 have HN := hide hN
 clear hu hT h hR hN hbl9 hbl
 have t0 : u.cell? ⟨T, 0, none⟩ = some (.int .u8 (k8 : Int)) := cell_of_row _ _ 0 _ _ _ HT.out
 have t1 : u.cell? ⟨T, 1, none⟩ = some (.slice A bl c) := cell_of_row _ _ 1 _ _ _ HT.out
 have t2 : u.cell? ⟨T, 2, none⟩ = some (.int .i64 ep) := cell_of_row _ _ 2 _ _ _ HT.out
 have t3 : u.cell? ⟨T, 3, none⟩ = some (.int .i64 h0) := cell_of_row _ _ 3 _ _ _ HT.out
 have t4 : u.cell? ⟨T, 4, none⟩ = some (.int .i64 n0) := cell_of_row _ _ 4 _ _ _ HT.out
 have hTu : T < u.heap.size := lt_of_block HT.out
 have hk7 : (k8 : Int) % 7 = 2 := by omega
 obtain ⟨M, G, own, k, G', g1, g2, g3, g4, g5, g6, g7, g8⟩ := HPu.out
 have HE := hide g2
 have HR := hide g3
 have HOw := hide (fun g (hg : own g ≠ none) => And.intro (g7 g hg) (g2.2.1 g hg))
 have HFl := hide (from_lens (n := s.fresh) (ack := s.owes) g2.1 g2.1.fresh1)
 have HG := hide g6
 clear g2 g3 g6 g7
 go_enter Try.func22, Try.ntmps22
 go_upto_region 1 with fail
 rw [HU.out, HTe.out]
 go_wp2_with fail
 refine (lout_any u HE.out).mono ?_
 rintro e y ⟨v, own2, rfl, ha, ho, hb, hk⟩
 have HV := hide ha
 have HO2 := hide ho
 have HE1 := hide hb
 have HK1 := hide hk
 have HR1 := hide (HE.out.keepR hk (by intro x hx; simp at hx; exact .inl hx) HR.out)
 clear ha ho hb hk
 go_wp2_with fail
 refine (rlout_any y HR1.out).mono ?_
 rintro e z ⟨v2, rfl, ha, hb, hk⟩
 have HV2 := hide (HV.out.keepT fun g cur T hc hT => HR1.out.keepB hk (by intro x hx; simp at hx; exact .inl hx) hc (by rcases hT with rfl | rfl <;> decide) (by rcases hT with rfl | rfl <;> decide))
 have HS2 := hide ha
 have HR2 := hide hb
 have HK2 := hide hk
 clear ha hb hk
 have HRw := hide (rows_any z HV2.out HS2.out (by intro i j e; injection e with _ e) HFl.out.1 HFl.out.2)
 go_wp2_with fail
 refine HRw.out.mono ?_
 rintro e x ⟨rfl, hsp⟩
 have HFin : Hid (DoesPost w L P Q i (.returned (.bool true)) x) := hide (by have h9 := pair_told g4 g5 HG.out HOw.out g8 g1 HE1.out HK1.out HO2.out HR1.out HK2.out HR2.out hsp; exact ⟨rfl, ⟨_, h9.1, HN.out.from⟩, (HBu.out.mono (by omega)).trans h9.2⟩)
 clear hsp
 go_wp2
 go_ret
 exact HFin.out
theorem does_again (w : World) {L P Q i : Nat} {s : LE} (h : PairSt L P Q i w s) (hN : PairN i s) (hi : i ≤ 1000) (hLw : L ≤ w.heap.size) (x : Cal5) (hx : x.ok) (hR : Rd w L x.A (u8s x.b)) (hb5 : x.b.length ≤ 5000) (hkk : x.k % 7 = 3) :
  Calls Try.prog 22 #[.pointer (some ⟨P, 0, none⟩), .pointer (some ⟨Q, 0, none⟩), .agg #[.int .u8 (x.k : Int), .slice x.A x.b.length x.c, .int .i64 x.ep, .int .i64 x.h, .int .i64 x.n]] w (DoesPost w L P Q i) := by
 obtain ⟨k8, A, b, c, ep, h0, n0⟩ := x
 obtain ⟨hk8, hbl, hep, hh0, hn0⟩ := hx
 dsimp only at hR hbl hk8 hep hh0 hn0 hkk hb5 ⊢
 obtain ⟨bl, hbl9⟩ : ∃ z, b.length = z := ⟨_, rfl⟩
 rw [hbl9] at hb5 ⊢
 have HBl := hide hbl9
 obtain ⟨u, hu⟩ : ∃ u, w.alloc (.cells #[.int .u8 (k8 : Int), .slice A bl c, .int .i64 ep, .int .i64 h0, .int .i64 n0] 56) = u := ⟨_, rfl⟩
 have HT := hide (show u.heap[w.heap.size]? = some (.cells #[.int .u8 (k8 : Int), .slice A bl c, .int .i64 ep, .int .i64 h0, .int .i64 n0] 56) by rw [← hu]; exact heap_alloc_last w _)
 have HBu := hide (show Below w.heap.size w u by rw [← hu]; exact (Below.refl _ _).alloc (Nat.le_refl _) _)
 have HU := hide hu
 obtain ⟨T, hT⟩ : ∃ x, w.heap.size = x := ⟨_, rfl⟩
 have HTe := hide hT
 rw [hT] at HT
 have HPu := hide (h.next HBu.out)
 have HRu : Hid (Rd u L A (u8s b)) := hide (hR.keep fun p hp => HBu.out.cell (by omega))
 have HN := hide hN
 clear hu hT h hR hN hbl9 hbl
 have t0 : u.cell? ⟨T, 0, none⟩ = some (.int .u8 (k8 : Int)) := cell_of_row _ _ 0 _ _ _ HT.out
 have t1 : u.cell? ⟨T, 1, none⟩ = some (.slice A bl c) := cell_of_row _ _ 1 _ _ _ HT.out
 have t2 : u.cell? ⟨T, 2, none⟩ = some (.int .i64 ep) := cell_of_row _ _ 2 _ _ _ HT.out
 have t3 : u.cell? ⟨T, 3, none⟩ = some (.int .i64 h0) := cell_of_row _ _ 3 _ _ _ HT.out
 have t4 : u.cell? ⟨T, 4, none⟩ = some (.int .i64 n0) := cell_of_row _ _ 4 _ _ _ HT.out
 have hTu : T < u.heap.size := lt_of_block HT.out
 have hk7 : (k8 : Int) % 7 = 3 := by omega
 obtain ⟨M, G, own, k, G', g1, g2, g3, g4, g5, g6, g7, g8⟩ := HPu.out
 have HE := hide g2
 have HR := hide g3
 have HOw := hide (fun g (hg : own g ≠ none) => And.intro (g7 g hg) (g2.2.1 g hg))
 have HFl := hide (from_lens (n := s.first) (ack := true) g2.1 (Nat.le_refl _))
 have HG := hide g6
 clear g2 g3 g6 g7
 go_enter Try.func22, Try.ntmps22
 go_upto_region 1 with fail
 rw [HU.out, HTe.out]
 go_wp2_with fail
 refine (lagain_any u HE.out).mono ?_
 rintro e y ⟨v, own2, rfl, ha, ho, hb, hk⟩
 have HV := hide ha
 have HO2 := hide ho
 have HE1 := hide hb
 have HK1 := hide hk
 have HR1 := hide (HE.out.keepR hk (by intro x hx; simp at hx; exact .inl hx) HR.out)
 clear ha ho hb hk
 go_wp2_with fail
 refine (rlagain_any y HR1.out).mono ?_
 rintro e z ⟨v2, rfl, ha, hb, hk⟩
 have HV2 := hide (HV.out.keepT fun g cur T hc hT => HR1.out.keepB hk (by intro x hx; simp at hx; exact .inl hx) hc (by rcases hT with rfl | rfl <;> decide) (by rcases hT with rfl | rfl <;> decide))
 have HS2 := hide ha
 have HR2 := hide hb
 have HK2 := hide hk
 clear ha hb hk
 have HRw := hide (rows_any z HV2.out HS2.out (by intro i j e; injection e with _ e) HFl.out.1 HFl.out.2)
 go_wp2_with fail
 refine HRw.out.mono ?_
 rintro e x ⟨rfl, hsp⟩
 have HFin : Hid (DoesPost w L P Q i (.returned (.bool true)) x) := hide (by have h9 := pair_told g4 g5 HG.out HOw.out g8 g1 HE1.out HK1.out HO2.out HR1.out HK2.out HR2.out hsp; exact ⟨rfl, ⟨_, h9.1, HN.out.from⟩, (HBu.out.mono (by omega)).trans h9.2⟩)
 clear hsp
 go_wp2
 go_ret
 exact HFin.out
theorem does_hear (w : World) {L P Q i : Nat} {s : LE} (h : PairSt L P Q i w s) (hN : PairN i s) (hi : i ≤ 1000) (hLw : L ≤ w.heap.size) (x : Cal5) (hx : x.ok) (hR : Rd w L x.A (u8s x.b)) (hb5 : x.b.length ≤ 5000) (hkk : x.k % 7 = 4) :
  Calls Try.prog 22 #[.pointer (some ⟨P, 0, none⟩), .pointer (some ⟨Q, 0, none⟩), .agg #[.int .u8 (x.k : Int), .slice x.A x.b.length x.c, .int .i64 x.ep, .int .i64 x.h, .int .i64 x.n]] w (DoesPost w L P Q i) := by
 obtain ⟨k8, A, b, c, ep, h0, n0⟩ := x
 obtain ⟨hk8, hbl, hep, hh0, hn0⟩ := hx
 dsimp only at hR hbl hk8 hep hh0 hn0 hkk hb5 ⊢
 obtain ⟨bl, hbl9⟩ : ∃ z, b.length = z := ⟨_, rfl⟩
 rw [hbl9] at hb5 ⊢
 have HBl := hide hbl9
 obtain ⟨u, hu⟩ : ∃ u, w.alloc (.cells #[.int .u8 (k8 : Int), .slice A bl c, .int .i64 ep, .int .i64 h0, .int .i64 n0] 56) = u := ⟨_, rfl⟩
 have HT := hide (show u.heap[w.heap.size]? = some (.cells #[.int .u8 (k8 : Int), .slice A bl c, .int .i64 ep, .int .i64 h0, .int .i64 n0] 56) by rw [← hu]; exact heap_alloc_last w _)
 have HBu := hide (show Below w.heap.size w u by rw [← hu]; exact (Below.refl _ _).alloc (Nat.le_refl _) _)
 have HU := hide hu
 obtain ⟨T, hT⟩ : ∃ x, w.heap.size = x := ⟨_, rfl⟩
 have HTe := hide hT
 rw [hT] at HT
 have HPu := hide (h.next HBu.out)
 have HRu : Hid (Rd u L A (u8s b)) := hide (hR.keep fun p hp => HBu.out.cell (by omega))
 have HN := hide hN
 clear hu hT h hR hN hbl9 hbl
 have t0 : u.cell? ⟨T, 0, none⟩ = some (.int .u8 (k8 : Int)) := cell_of_row _ _ 0 _ _ _ HT.out
 have t1 : u.cell? ⟨T, 1, none⟩ = some (.slice A bl c) := cell_of_row _ _ 1 _ _ _ HT.out
 have t2 : u.cell? ⟨T, 2, none⟩ = some (.int .i64 ep) := cell_of_row _ _ 2 _ _ _ HT.out
 have t3 : u.cell? ⟨T, 3, none⟩ = some (.int .i64 h0) := cell_of_row _ _ 3 _ _ _ HT.out
 have t4 : u.cell? ⟨T, 4, none⟩ = some (.int .i64 n0) := cell_of_row _ _ 4 _ _ _ HT.out
 have hTu : T < u.heap.size := lt_of_block HT.out
 have hk7 : (k8 : Int) % 7 = 4 := by omega
 have HOk : Hid (LEok s) := hide (by obtain ⟨M, G, own, k, G', g1, g2, _⟩ := HPu.out; exact g2.1)
 have kc := run_string_of (P := Try.prog) u 23 9 5 A c L b Try.underlying23 Try.underlying5 Try.underlying9 HRu.out
 rw [HBl.out] at kc
 have kq := run_bytes_of (P := Try.prog) u 9 23 5 b Try.underlying9 Try.underlying23 Try.underlying5
 rw [HBl.out] at kq
 obtain ⟨cp1, hcp1⟩ : ∃ z, grownCap u bl 0 5 = z := ⟨_, rfl⟩
 have hcpa1 : bl ≤ cp1 := by rw [← hcp1]; exact grownCap_ge _ _ _ _
 have hcpb1 : cp1 ≤ 9223372036854775807 := by rw [← hcp1]; exact grownCap_le_maxLen _ _ _ _ (by unfold maxLen; omega)
 rw [hcp1] at kq
 have HC1 : Hid (Below u.heap.size u (bytesWorld u 5 b)) := hide (bytesWorld_below _ _ _)
 have HD1 := hide (RdC.new u b)
 have HBd1 := hide (bed8_new u b)
 obtain ⟨x1, hx1⟩ : ∃ z, bytesWorld u 5 b = z := ⟨_, rfl⟩
 rw [hx1] at kq HC1 HD1 HBd1
 clear hcp1 hx1
 go_enter Try.func22, Try.ntmps22
 go_upto_region 1 with fail
 rw [HU.out, HTe.out]
 have HHe := hide (heard_any x1 ((HPu.out).next HC1.out) HN.out hi (some ⟨u.heap.size, 0, none⟩) b cp1 HD1.out (by rw [HBl.out]; omega) (by rw [HBl.out]; exact hcpa1) hcpb1)
 rw [HBl.out] at HHe
 go_wp2_with fail
 refine HHe.out.mono ?_
 rintro e z ⟨rfl, h9, h10⟩
 have HFin : Hid (DoesPost w L P Q i (.returned (.bool true)) z) := hide ⟨rfl, ⟨_, h9, HN.out.hear HOk.out⟩, ((HBu.out.mono (by omega)).trans (HC1.out.mono (by have := HBu.out.size; omega))).trans h10⟩
 clear h9 h10
 go_wp2
 go_ret
 exact HFin.out
theorem does_ack5 (w : World) {L P Q i : Nat} {s : LE} (h : PairSt L P Q i w s) (hN : PairN i s) (hi : i ≤ 1000) (hLw : L ≤ w.heap.size) (x : Cal5) (hx : x.ok) (hR : Rd w L x.A (u8s x.b)) (hb5 : x.b.length ≤ 5000) (hkk : x.k % 7 = 5) (hnn : x.n = 0) :
  Calls Try.prog 22 #[.pointer (some ⟨P, 0, none⟩), .pointer (some ⟨Q, 0, none⟩), .agg #[.int .u8 (x.k : Int), .slice x.A x.b.length x.c, .int .i64 x.ep, .int .i64 x.h, .int .i64 x.n]] w (DoesPost w L P Q i) := by
 obtain ⟨k8, A, b, c, ep, h0, n0⟩ := x
 obtain ⟨hk8, hbl, hep, hh0, hn0⟩ := hx
 dsimp only at hR hbl hk8 hep hh0 hn0 hkk hb5 ⊢
 obtain ⟨bl, hbl9⟩ : ∃ z, b.length = z := ⟨_, rfl⟩
 rw [hbl9] at hb5 ⊢
 have HBl := hide hbl9
 obtain ⟨u, hu⟩ : ∃ u, w.alloc (.cells #[.int .u8 (k8 : Int), .slice A bl c, .int .i64 ep, .int .i64 h0, .int .i64 n0] 56) = u := ⟨_, rfl⟩
 have HT := hide (show u.heap[w.heap.size]? = some (.cells #[.int .u8 (k8 : Int), .slice A bl c, .int .i64 ep, .int .i64 h0, .int .i64 n0] 56) by rw [← hu]; exact heap_alloc_last w _)
 have HBu := hide (show Below w.heap.size w u by rw [← hu]; exact (Below.refl _ _).alloc (Nat.le_refl _) _)
 have HU := hide hu
 obtain ⟨T, hT⟩ : ∃ x, w.heap.size = x := ⟨_, rfl⟩
 have HTe := hide hT
 rw [hT] at HT
 have HPu := hide (h.next HBu.out)
 have HRu : Hid (Rd u L A (u8s b)) := hide (hR.keep fun p hp => HBu.out.cell (by omega))
 have HN := hide hN
 clear hu hT h hR hN hbl9 hbl
 have t0 : u.cell? ⟨T, 0, none⟩ = some (.int .u8 (k8 : Int)) := cell_of_row _ _ 0 _ _ _ HT.out
 have t1 : u.cell? ⟨T, 1, none⟩ = some (.slice A bl c) := cell_of_row _ _ 1 _ _ _ HT.out
 have t2 : u.cell? ⟨T, 2, none⟩ = some (.int .i64 ep) := cell_of_row _ _ 2 _ _ _ HT.out
 have t3 : u.cell? ⟨T, 3, none⟩ = some (.int .i64 h0) := cell_of_row _ _ 3 _ _ _ HT.out
 have t4 : u.cell? ⟨T, 4, none⟩ = some (.int .i64 n0) := cell_of_row _ _ 4 _ _ _ HT.out
 have hTu : T < u.heap.size := lt_of_block HT.out
 have hk7 : (k8 : Int) % 7 = 5 := by omega
 have HOk : Hid (LEok s) := hide (by obtain ⟨M, G, own, k, G', g1, g2, _⟩ := HPu.out; exact g2.1)
 have kc := run_string_of (P := Try.prog) u 23 9 5 A c L b Try.underlying23 Try.underlying5 Try.underlying9 HRu.out
 rw [HBl.out] at kc
 have hn9 : (n0 == 0) = true := by simp; exact hnn
 have HFr := hide (rframe_any u 2 (by decide) ep h0 n0 hep.1 hep.2 hh0.1 hh0.2 hn0.1 hn0.2 b (by rw [HBl.out]; omega))
 have hnn' := hide hnn
 clear hnn
 go_enter Try.func22, Try.ntmps22
 go_upto_region 1 with fail
 rw [HU.out, HTe.out]
 go_wp2_with fail
 refine HFr.out.mono ?_
 rintro e y ⟨rfl, hby⟩
 obtain ⟨f, hf⟩ : ∃ z, frI 2 b ep h0 n0 = z := ⟨_, rfl⟩
 obtain ⟨fl, hfl⟩ : ∃ z, f.length = z := ⟨_, rfl⟩
 have hfl2 : fl ≤ 29 + bl := by have h9 := frI_len 2 b ep h0 n0; rw [hf, hfl, HBl.out] at h9; exact h9
 rw [hf]
 have HFl := hide hfl
 have HBy := hide hby
 have HPy := hide (HPu.out.next hby)
 clear hf hfl hby HFr kc
 have kq := run_bytes_of (P := Try.prog) y 9 23 5 f Try.underlying9 Try.underlying23 Try.underlying5
 rw [HFl.out] at kq
 obtain ⟨cp1, hcp1⟩ : ∃ z, grownCap y fl 0 5 = z := ⟨_, rfl⟩
 have hcpa1 : fl ≤ cp1 := by rw [← hcp1]; exact grownCap_ge _ _ _ _
 have hcpb1 : cp1 ≤ 9223372036854775807 := by rw [← hcp1]; exact grownCap_le_maxLen _ _ _ _ (by unfold maxLen; omega)
 rw [hcp1] at kq
 have HC1 : Hid (Below y.heap.size y (bytesWorld y 5 f)) := hide (bytesWorld_below _ _ _)
 have HD1 := hide (RdC.new y f)
 have HBd1 := hide (bed8_new y f)
 obtain ⟨x1, hx1⟩ : ∃ z, bytesWorld y 5 f = z := ⟨_, rfl⟩
 rw [hx1] at kq HC1 HD1 HBd1
 clear hcp1 hx1
 have HHe := hide (heard_any x1 ((HPy.out).next HC1.out) HN.out hi (some ⟨y.heap.size, 0, none⟩) f cp1 HD1.out (by rw [HFl.out]; omega) (by rw [HFl.out]; exact hcpa1) hcpb1)
 rw [HFl.out] at HHe
 go_wp2_with fail
 refine HHe.out.mono ?_
 rintro e z ⟨rfl, h9, h10⟩
 have HFin : Hid (DoesPost w L P Q i (.returned (.bool true)) z) := hide ⟨rfl, ⟨_, h9, HN.out.hear HOk.out⟩, (((HBu.out.mono (by omega)).trans (HBy.out.mono (by have := HBu.out.size; omega))).trans (HC1.out.mono (by have := HBu.out.size; have := HBy.out.size; omega))).trans h10⟩
 clear h9 h10
 go_wp2
 go_ret
 exact HFin.out
theorem does_msg5 (w : World) {L P Q i : Nat} {s : LE} (h : PairSt L P Q i w s) (hN : PairN i s) (hi : i ≤ 1000) (hLw : L ≤ w.heap.size) (x : Cal5) (hx : x.ok) (hR : Rd w L x.A (u8s x.b)) (hb5 : x.b.length ≤ 5000) (hkk : x.k % 7 = 5) (hnn : x.n ≠ 0) :
  Calls Try.prog 22 #[.pointer (some ⟨P, 0, none⟩), .pointer (some ⟨Q, 0, none⟩), .agg #[.int .u8 (x.k : Int), .slice x.A x.b.length x.c, .int .i64 x.ep, .int .i64 x.h, .int .i64 x.n]] w (DoesPost w L P Q i) := by
 obtain ⟨k8, A, b, c, ep, h0, n0⟩ := x
 obtain ⟨hk8, hbl, hep, hh0, hn0⟩ := hx
 dsimp only at hR hbl hk8 hep hh0 hn0 hkk hb5 ⊢
 obtain ⟨bl, hbl9⟩ : ∃ z, b.length = z := ⟨_, rfl⟩
 rw [hbl9] at hb5 ⊢
 have HBl := hide hbl9
 obtain ⟨u, hu⟩ : ∃ u, w.alloc (.cells #[.int .u8 (k8 : Int), .slice A bl c, .int .i64 ep, .int .i64 h0, .int .i64 n0] 56) = u := ⟨_, rfl⟩
 have HT := hide (show u.heap[w.heap.size]? = some (.cells #[.int .u8 (k8 : Int), .slice A bl c, .int .i64 ep, .int .i64 h0, .int .i64 n0] 56) by rw [← hu]; exact heap_alloc_last w _)
 have HBu := hide (show Below w.heap.size w u by rw [← hu]; exact (Below.refl _ _).alloc (Nat.le_refl _) _)
 have HU := hide hu
 obtain ⟨T, hT⟩ : ∃ x, w.heap.size = x := ⟨_, rfl⟩
 have HTe := hide hT
 rw [hT] at HT
 have HPu := hide (h.next HBu.out)
 have HRu : Hid (Rd u L A (u8s b)) := hide (hR.keep fun p hp => HBu.out.cell (by omega))
 have HN := hide hN
 clear hu hT h hR hN hbl9 hbl
 have t0 : u.cell? ⟨T, 0, none⟩ = some (.int .u8 (k8 : Int)) := cell_of_row _ _ 0 _ _ _ HT.out
 have t1 : u.cell? ⟨T, 1, none⟩ = some (.slice A bl c) := cell_of_row _ _ 1 _ _ _ HT.out
 have t2 : u.cell? ⟨T, 2, none⟩ = some (.int .i64 ep) := cell_of_row _ _ 2 _ _ _ HT.out
 have t3 : u.cell? ⟨T, 3, none⟩ = some (.int .i64 h0) := cell_of_row _ _ 3 _ _ _ HT.out
 have t4 : u.cell? ⟨T, 4, none⟩ = some (.int .i64 n0) := cell_of_row _ _ 4 _ _ _ HT.out
 have hTu : T < u.heap.size := lt_of_block HT.out
 have hk7 : (k8 : Int) % 7 = 5 := by omega
 have HOk : Hid (LEok s) := hide (by obtain ⟨M, G, own, k, G', g1, g2, _⟩ := HPu.out; exact g2.1)
 have kc := run_string_of (P := Try.prog) u 23 9 5 A c L b Try.underlying23 Try.underlying5 Try.underlying9 HRu.out
 rw [HBl.out] at kc
 have hn9 : (n0 == 0) = false := by simp; exact hnn
 have HFr := hide (rframe_any u 1 (by decide) ep h0 n0 hep.1 hep.2 hh0.1 hh0.2 hn0.1 hn0.2 b (by rw [HBl.out]; omega))
 have hnn' := hide hnn
 clear hnn
 go_enter Try.func22, Try.ntmps22
 go_upto_region 1 with fail
 rw [HU.out, HTe.out]
 go_wp2_with fail
 refine HFr.out.mono ?_
 rintro e y ⟨rfl, hby⟩
 obtain ⟨f, hf⟩ : ∃ z, frI 1 b ep h0 n0 = z := ⟨_, rfl⟩
 obtain ⟨fl, hfl⟩ : ∃ z, f.length = z := ⟨_, rfl⟩
 have hfl2 : fl ≤ 29 + bl := by have h9 := frI_len 1 b ep h0 n0; rw [hf, hfl, HBl.out] at h9; exact h9
 rw [hf]
 have HFl := hide hfl
 have HBy := hide hby
 have HPy := hide (HPu.out.next hby)
 clear hf hfl hby HFr kc
 have kq := run_bytes_of (P := Try.prog) y 9 23 5 f Try.underlying9 Try.underlying23 Try.underlying5
 rw [HFl.out] at kq
 obtain ⟨cp1, hcp1⟩ : ∃ z, grownCap y fl 0 5 = z := ⟨_, rfl⟩
 have hcpa1 : fl ≤ cp1 := by rw [← hcp1]; exact grownCap_ge _ _ _ _
 have hcpb1 : cp1 ≤ 9223372036854775807 := by rw [← hcp1]; exact grownCap_le_maxLen _ _ _ _ (by unfold maxLen; omega)
 rw [hcp1] at kq
 have HC1 : Hid (Below y.heap.size y (bytesWorld y 5 f)) := hide (bytesWorld_below _ _ _)
 have HD1 := hide (RdC.new y f)
 have HBd1 := hide (bed8_new y f)
 obtain ⟨x1, hx1⟩ : ∃ z, bytesWorld y 5 f = z := ⟨_, rfl⟩
 rw [hx1] at kq HC1 HD1 HBd1
 clear hcp1 hx1
 have HHe := hide (heard_any x1 ((HPy.out).next HC1.out) HN.out hi (some ⟨y.heap.size, 0, none⟩) f cp1 HD1.out (by rw [HFl.out]; omega) (by rw [HFl.out]; exact hcpa1) hcpb1)
 rw [HFl.out] at HHe
 go_wp2_with fail
 refine HHe.out.mono ?_
 rintro e z ⟨rfl, h9, h10⟩
 have HFin : Hid (DoesPost w L P Q i (.returned (.bool true)) z) := hide ⟨rfl, ⟨_, h9, HN.out.hear HOk.out⟩, (((HBu.out.mono (by omega)).trans (HBy.out.mono (by have := HBu.out.size; omega))).trans (HC1.out.mono (by have := HBu.out.size; have := HBy.out.size; omega))).trans h10⟩
 clear h9 h10
 go_wp2
 go_ret
 exact HFin.out
theorem does_ack6 (w : World) {L P Q i : Nat} {s : LE} (h : PairSt L P Q i w s) (hN : PairN i s) (hi : i ≤ 1000) (hLw : L ≤ w.heap.size) (x : Cal5) (hx : x.ok) (hR : Rd w L x.A (u8s x.b)) (hb5 : x.b.length ≤ 5000) (hkk : x.k % 7 = 6) (hnn : x.n = 0) :
  Calls Try.prog 22 #[.pointer (some ⟨P, 0, none⟩), .pointer (some ⟨Q, 0, none⟩), .agg #[.int .u8 (x.k : Int), .slice x.A x.b.length x.c, .int .i64 x.ep, .int .i64 x.h, .int .i64 x.n]] w (DoesPost w L P Q i) := by
 obtain ⟨k8, A, b, c, ep, h0, n0⟩ := x
 obtain ⟨hk8, hbl, hep, hh0, hn0⟩ := hx
 dsimp only at hR hbl hk8 hep hh0 hn0 hkk hb5 ⊢
 obtain ⟨bl, hbl9⟩ : ∃ z, b.length = z := ⟨_, rfl⟩
 rw [hbl9] at hb5 ⊢
 have HBl := hide hbl9
 obtain ⟨u, hu⟩ : ∃ u, w.alloc (.cells #[.int .u8 (k8 : Int), .slice A bl c, .int .i64 ep, .int .i64 h0, .int .i64 n0] 56) = u := ⟨_, rfl⟩
 have HT := hide (show u.heap[w.heap.size]? = some (.cells #[.int .u8 (k8 : Int), .slice A bl c, .int .i64 ep, .int .i64 h0, .int .i64 n0] 56) by rw [← hu]; exact heap_alloc_last w _)
 have HBu := hide (show Below w.heap.size w u by rw [← hu]; exact (Below.refl _ _).alloc (Nat.le_refl _) _)
 have HU := hide hu
 obtain ⟨T, hT⟩ : ∃ x, w.heap.size = x := ⟨_, rfl⟩
 have HTe := hide hT
 rw [hT] at HT
 have HPu := hide (h.next HBu.out)
 have HRu : Hid (Rd u L A (u8s b)) := hide (hR.keep fun p hp => HBu.out.cell (by omega))
 have HN := hide hN
 clear hu hT h hR hN hbl9 hbl
 have t0 : u.cell? ⟨T, 0, none⟩ = some (.int .u8 (k8 : Int)) := cell_of_row _ _ 0 _ _ _ HT.out
 have t1 : u.cell? ⟨T, 1, none⟩ = some (.slice A bl c) := cell_of_row _ _ 1 _ _ _ HT.out
 have t2 : u.cell? ⟨T, 2, none⟩ = some (.int .i64 ep) := cell_of_row _ _ 2 _ _ _ HT.out
 have t3 : u.cell? ⟨T, 3, none⟩ = some (.int .i64 h0) := cell_of_row _ _ 3 _ _ _ HT.out
 have t4 : u.cell? ⟨T, 4, none⟩ = some (.int .i64 n0) := cell_of_row _ _ 4 _ _ _ HT.out
 have hTu : T < u.heap.size := lt_of_block HT.out
 have hk7 : (k8 : Int) % 7 = 6 := by omega
 have HOk : Hid (LEok s) := hide (by obtain ⟨M, G, own, k, G', g1, g2, _⟩ := HPu.out; exact g2.1)
 have kc := run_string_of (P := Try.prog) u 23 9 5 A c L b Try.underlying23 Try.underlying5 Try.underlying9 HRu.out
 rw [HBl.out] at kc
 have hn9 : (n0 == 0) = true := by simp; exact hnn
 have HFr := hide (rframe_any u 2 (by decide) ep h0 n0 hep.1 hep.2 hh0.1 hh0.2 hn0.1 hn0.2 b (by rw [HBl.out]; omega))
 have hnn' := hide hnn
 clear hnn
 go_enter Try.func22, Try.ntmps22
 go_upto_region 1 with fail
 rw [HU.out, HTe.out]
 go_wp2_with fail
 refine HFr.out.mono ?_
 rintro e y ⟨rfl, hby⟩
 obtain ⟨f, hf⟩ : ∃ z, frI 2 b ep h0 n0 = z := ⟨_, rfl⟩
 obtain ⟨fl, hfl⟩ : ∃ z, f.length = z := ⟨_, rfl⟩
 have hfl2 : fl ≤ 29 + bl := by have h9 := frI_len 2 b ep h0 n0; rw [hf, hfl, HBl.out] at h9; exact h9
 rw [hf]
 have HFl := hide hfl
 have HBy := hide hby
 have HPy := hide (HPu.out.next hby)
 clear hf hfl hby HFr kc
 have kq := run_bytes_of (P := Try.prog) y 9 23 5 f Try.underlying9 Try.underlying23 Try.underlying5
 rw [HFl.out] at kq
 obtain ⟨cp1, hcp1⟩ : ∃ z, grownCap y fl 0 5 = z := ⟨_, rfl⟩
 have hcpa1 : fl ≤ cp1 := by rw [← hcp1]; exact grownCap_ge _ _ _ _
 have hcpb1 : cp1 ≤ 9223372036854775807 := by rw [← hcp1]; exact grownCap_le_maxLen _ _ _ _ (by unfold maxLen; omega)
 rw [hcp1] at kq
 have HC1 : Hid (Below y.heap.size y (bytesWorld y 5 f)) := hide (bytesWorld_below _ _ _)
 have HD1 := hide (RdC.new y f)
 have HBd1 := hide (bed8_new y f)
 obtain ⟨x1, hx1⟩ : ∃ z, bytesWorld y 5 f = z := ⟨_, rfl⟩
 rw [hx1] at kq HC1 HD1 HBd1
 clear hcp1 hx1
 have HHe := hide (heard_any x1 ((HPy.out).next HC1.out) HN.out hi (some ⟨y.heap.size, 0, none⟩) f cp1 HD1.out (by rw [HFl.out]; omega) (by rw [HFl.out]; exact hcpa1) hcpb1)
 rw [HFl.out] at HHe
 go_wp2_with fail
 refine HHe.out.mono ?_
 rintro e z ⟨rfl, h9, h10⟩
 have HFin : Hid (DoesPost w L P Q i (.returned (.bool true)) z) := hide ⟨rfl, ⟨_, h9, HN.out.hear HOk.out⟩, (((HBu.out.mono (by omega)).trans (HBy.out.mono (by have := HBu.out.size; omega))).trans (HC1.out.mono (by have := HBu.out.size; have := HBy.out.size; omega))).trans h10⟩
 clear h9 h10
 go_wp2
 go_ret
 exact HFin.out
theorem does_msg6 (w : World) {L P Q i : Nat} {s : LE} (h : PairSt L P Q i w s) (hN : PairN i s) (hi : i ≤ 1000) (hLw : L ≤ w.heap.size) (x : Cal5) (hx : x.ok) (hR : Rd w L x.A (u8s x.b)) (hb5 : x.b.length ≤ 5000) (hkk : x.k % 7 = 6) (hnn : x.n ≠ 0) :
  Calls Try.prog 22 #[.pointer (some ⟨P, 0, none⟩), .pointer (some ⟨Q, 0, none⟩), .agg #[.int .u8 (x.k : Int), .slice x.A x.b.length x.c, .int .i64 x.ep, .int .i64 x.h, .int .i64 x.n]] w (DoesPost w L P Q i) := by
 obtain ⟨k8, A, b, c, ep, h0, n0⟩ := x
 obtain ⟨hk8, hbl, hep, hh0, hn0⟩ := hx
 dsimp only at hR hbl hk8 hep hh0 hn0 hkk hb5 ⊢
 obtain ⟨bl, hbl9⟩ : ∃ z, b.length = z := ⟨_, rfl⟩
 rw [hbl9] at hb5 ⊢
 have HBl := hide hbl9
 obtain ⟨u, hu⟩ : ∃ u, w.alloc (.cells #[.int .u8 (k8 : Int), .slice A bl c, .int .i64 ep, .int .i64 h0, .int .i64 n0] 56) = u := ⟨_, rfl⟩
 have HT := hide (show u.heap[w.heap.size]? = some (.cells #[.int .u8 (k8 : Int), .slice A bl c, .int .i64 ep, .int .i64 h0, .int .i64 n0] 56) by rw [← hu]; exact heap_alloc_last w _)
 have HBu := hide (show Below w.heap.size w u by rw [← hu]; exact (Below.refl _ _).alloc (Nat.le_refl _) _)
 have HU := hide hu
 obtain ⟨T, hT⟩ : ∃ x, w.heap.size = x := ⟨_, rfl⟩
 have HTe := hide hT
 rw [hT] at HT
 have HPu := hide (h.next HBu.out)
 have HRu : Hid (Rd u L A (u8s b)) := hide (hR.keep fun p hp => HBu.out.cell (by omega))
 have HN := hide hN
 clear hu hT h hR hN hbl9 hbl
 have t0 : u.cell? ⟨T, 0, none⟩ = some (.int .u8 (k8 : Int)) := cell_of_row _ _ 0 _ _ _ HT.out
 have t1 : u.cell? ⟨T, 1, none⟩ = some (.slice A bl c) := cell_of_row _ _ 1 _ _ _ HT.out
 have t2 : u.cell? ⟨T, 2, none⟩ = some (.int .i64 ep) := cell_of_row _ _ 2 _ _ _ HT.out
 have t3 : u.cell? ⟨T, 3, none⟩ = some (.int .i64 h0) := cell_of_row _ _ 3 _ _ _ HT.out
 have t4 : u.cell? ⟨T, 4, none⟩ = some (.int .i64 n0) := cell_of_row _ _ 4 _ _ _ HT.out
 have hTu : T < u.heap.size := lt_of_block HT.out
 have hk7 : (k8 : Int) % 7 = 6 := by omega
 have HOk : Hid (LEok s) := hide (by obtain ⟨M, G, own, k, G', g1, g2, _⟩ := HPu.out; exact g2.1)
 have kc := run_string_of (P := Try.prog) u 23 9 5 A c L b Try.underlying23 Try.underlying5 Try.underlying9 HRu.out
 rw [HBl.out] at kc
 have hn9 : (n0 == 0) = false := by simp; exact hnn
 have HFr := hide (rframe_any u 1 (by decide) ep h0 n0 hep.1 hep.2 hh0.1 hh0.2 hn0.1 hn0.2 b (by rw [HBl.out]; omega))
 have hnn' := hide hnn
 clear hnn
 go_enter Try.func22, Try.ntmps22
 go_upto_region 1 with fail
 rw [HU.out, HTe.out]
 go_wp2_with fail
 refine HFr.out.mono ?_
 rintro e y ⟨rfl, hby⟩
 obtain ⟨f, hf⟩ : ∃ z, frI 1 b ep h0 n0 = z := ⟨_, rfl⟩
 obtain ⟨fl, hfl⟩ : ∃ z, f.length = z := ⟨_, rfl⟩
 have hfl2 : fl ≤ 29 + bl := by have h9 := frI_len 1 b ep h0 n0; rw [hf, hfl, HBl.out] at h9; exact h9
 rw [hf]
 have HFl := hide hfl
 have HBy := hide hby
 have HPy := hide (HPu.out.next hby)
 clear hf hfl hby HFr kc
 have kq := run_bytes_of (P := Try.prog) y 9 23 5 f Try.underlying9 Try.underlying23 Try.underlying5
 rw [HFl.out] at kq
 obtain ⟨cp1, hcp1⟩ : ∃ z, grownCap y fl 0 5 = z := ⟨_, rfl⟩
 have hcpa1 : fl ≤ cp1 := by rw [← hcp1]; exact grownCap_ge _ _ _ _
 have hcpb1 : cp1 ≤ 9223372036854775807 := by rw [← hcp1]; exact grownCap_le_maxLen _ _ _ _ (by unfold maxLen; omega)
 rw [hcp1] at kq
 have HC1 : Hid (Below y.heap.size y (bytesWorld y 5 f)) := hide (bytesWorld_below _ _ _)
 have HD1 := hide (RdC.new y f)
 have HBd1 := hide (bed8_new y f)
 obtain ⟨x1, hx1⟩ : ∃ z, bytesWorld y 5 f = z := ⟨_, rfl⟩
 rw [hx1] at kq HC1 HD1 HBd1
 clear hcp1 hx1
 have HHe := hide (heard_any x1 ((HPy.out).next HC1.out) HN.out hi (some ⟨y.heap.size, 0, none⟩) f cp1 HD1.out (by rw [HFl.out]; omega) (by rw [HFl.out]; exact hcpa1) hcpb1)
 rw [HFl.out] at HHe
 go_wp2_with fail
 refine HHe.out.mono ?_
 rintro e z ⟨rfl, h9, h10⟩
 have HFin : Hid (DoesPost w L P Q i (.returned (.bool true)) z) := hide ⟨rfl, ⟨_, h9, HN.out.hear HOk.out⟩, (((HBu.out.mono (by omega)).trans (HBy.out.mono (by have := HBu.out.size; omega))).trans (HC1.out.mono (by have := HBu.out.size; have := HBy.out.size; omega))).trans h10⟩
 clear h9 h10
 go_wp2
 go_ret
 exact HFin.out
theorem does_send0 (w : World) {L P Q i : Nat} {s : LE} (h : PairSt L P Q i w s) (hN : PairN i s) (hi : i ≤ 1000) (hLw : L ≤ w.heap.size) (x : Cal5) (hx : x.ok) (hR : Rd w L x.A (u8s x.b)) (hb5 : x.b.length ≤ 5000) (hkk : x.k % 7 = 0) :
  Calls Try.prog 22 #[.pointer (some ⟨P, 0, none⟩), .pointer (some ⟨Q, 0, none⟩), .agg #[.int .u8 (x.k : Int), .slice x.A x.b.length x.c, .int .i64 x.ep, .int .i64 x.h, .int .i64 x.n]] w (DoesPost w L P Q i) := by
 obtain ⟨k8, A, b, c, ep, h0, n0⟩ := x
 obtain ⟨hk8, hbl, hep, hh0, hn0⟩ := hx
 dsimp only at hR hbl hk8 hep hh0 hn0 hkk hb5 ⊢
 obtain ⟨bl, hbl9⟩ : ∃ z, b.length = z := ⟨_, rfl⟩
 rw [hbl9] at hb5 ⊢
 have HBl := hide hbl9
 obtain ⟨u, hu⟩ : ∃ u, w.alloc (.cells #[.int .u8 (k8 : Int), .slice A bl c, .int .i64 ep, .int .i64 h0, .int .i64 n0] 56) = u := ⟨_, rfl⟩
 have HT := hide (show u.heap[w.heap.size]? = some (.cells #[.int .u8 (k8 : Int), .slice A bl c, .int .i64 ep, .int .i64 h0, .int .i64 n0] 56) by rw [← hu]; exact heap_alloc_last w _)
 have HBu := hide (show Below w.heap.size w u by rw [← hu]; exact (Below.refl _ _).alloc (Nat.le_refl _) _)
 have HU := hide hu
 obtain ⟨T, hT⟩ : ∃ x, w.heap.size = x := ⟨_, rfl⟩
 have HTe := hide hT
 rw [hT] at HT
 have HPu := hide (h.next HBu.out)
 have HRu : Hid (Rd u L A (u8s b)) := hide (hR.keep fun p hp => HBu.out.cell (by omega))
 have HN := hide hN
 clear hu hT h hR hN hbl9 hbl
 have t0 : u.cell? ⟨T, 0, none⟩ = some (.int .u8 (k8 : Int)) := cell_of_row _ _ 0 _ _ _ HT.out
 have t1 : u.cell? ⟨T, 1, none⟩ = some (.slice A bl c) := cell_of_row _ _ 1 _ _ _ HT.out
 have t2 : u.cell? ⟨T, 2, none⟩ = some (.int .i64 ep) := cell_of_row _ _ 2 _ _ _ HT.out
 have t3 : u.cell? ⟨T, 3, none⟩ = some (.int .i64 h0) := cell_of_row _ _ 3 _ _ _ HT.out
 have t4 : u.cell? ⟨T, 4, none⟩ = some (.int .i64 n0) := cell_of_row _ _ 4 _ _ _ HT.out
 have hTu : T < u.heap.size := lt_of_block HT.out
 have hk7 : (k8 : Int) % 7 = 0 := by omega
 have HOk : Hid (LEok s) := hide (by obtain ⟨M, G, own, k, G', g1, g2, _⟩ := HPu.out; exact g2.1)
 have kc := run_string_of (P := Try.prog) u 23 9 5 A c L b Try.underlying23 Try.underlying5 Try.underlying9 HRu.out
 rw [HBl.out] at kc
 have kq := run_bytes_of (P := Try.prog) u 9 23 5 b Try.underlying9 Try.underlying23 Try.underlying5
 rw [HBl.out] at kq
 obtain ⟨cp1, hcp1⟩ : ∃ z, grownCap u bl 0 5 = z := ⟨_, rfl⟩
 have hcpa1 : bl ≤ cp1 := by rw [← hcp1]; exact grownCap_ge _ _ _ _
 have hcpb1 : cp1 ≤ 9223372036854775807 := by rw [← hcp1]; exact grownCap_le_maxLen _ _ _ _ (by unfold maxLen; omega)
 rw [hcp1] at kq
 have HC1 : Hid (Below u.heap.size u (bytesWorld u 5 b)) := hide (bytesWorld_below _ _ _)
 have HD1 := hide (RdC.new u b)
 have HBd1 := hide (bed8_new u b)
 obtain ⟨x1, hx1⟩ : ∃ z, bytesWorld u 5 b = z := ⟨_, rfl⟩
 rw [hx1] at kq HC1 HD1 HBd1
 clear hcp1 hx1
 have hux : u.heap.size ≤ x1.heap.size := HC1.out.size
 have HT1 := hide ((HC1.out.block T hTu).trans HT.out)
 have HPx := hide (HPu.out.next HC1.out)
 have HRx : Hid (Rd x1 L A (u8s b)) := hide (HRu.out.keep fun p hp => HC1.out.cell (by have := HBu.out.size; omega))
 obtain ⟨gb, hgb⟩ : ∃ z, u.heap.size = z := ⟨_, rfl⟩
 rw [hgb] at kq HD1 HBd1
 have HGb := hide hgb
 clear hgb
 have kc9 : ∀ w9 : World, Rd w9 L A (u8s b) → (convert 23 9 (.slice A bl c)).run Try.prog w9 = .ok (.string ⟨b.toArray⟩) w9 := fun w9 h9 => by have h8 := run_string_of (P := Try.prog) w9 23 9 5 A c L b Try.underlying23 Try.underlying5 Try.underlying9 h9; rw [HBl.out] at h8; exact h8
 have HKc := hide kc9
 clear kc9
 obtain ⟨M, G, own, k, G', g1, g2, g3, g4, g5, g6, g7, g8⟩ := HPx.out
 have HE := hide g2
 have HR := hide g3
 have HG := hide g6
 have HOw := hide g7
 clear g2 g3 g6 g7
 go_enter Try.func22, Try.ntmps22
 go_upto_region 1 with fail
 rw [HU.out, HTe.out]
 go_upto_region 15 with fail
 refine wp_region_held_drew (S := (fun w9 : World => w9.cell? ⟨T, 1, none⟩ = some (.slice A bl c) ∧ Rd w9 L A (u8s b))) (by kernel_rfl) ⟨cell_of_row _ _ 1 _ _ _ HT1.out, HRx.out⟩ (fun hS0 => ?_)
 refine tk 0 63 ?_ ?_ ?_; rotate_left; (focus (intro w h; go_simp; (try with_reducible rfl))); (try simp only [zqd, zqe, zqf])
 refine tk 1 64 ?_ ?_ ?_; rotate_left; (focus (intro w h; go_simp; (try with_reducible rfl))); (try simp only [zqd, zqe, zqf])
 refine tk 3 66 ?_ ?_ ?_; rotate_left; (focus (intro w h; go_simp; (try with_reducible rfl))); (try simp only [zqd, zqe, zqf])
 refine tk 4 67 ?_ ?_ ?_; rotate_left; (focus (intro w h; go_simp; (try with_reducible rfl))); (try simp only [zqd, zqe, zqf])
 refine tk 5 68 ?_ ?_ ?_; rotate_left; (focus (intro w hSw; have hh := hSw.1; go_simp; (try with_reducible rfl); done)); (try simp only [zqd, zqe, zqf])
 refine tk 6 69 ?_ ?_ ?_; rotate_left; (focus (intro w hSw; have hh := HKc.out w hSw.2; go_simp; (try with_reducible rfl); done)); (try simp only [zqd, zqe, zqf])
 refine call_at (i := 2) (d := 65) (by simp only [zqa, zqb, zqc]; rfl) rfl (by kernel_rfl) rfl (fun K hK => ?_)
 go_simp
 have hsd := send_any x1.drew (HE.out.next (Below.refl _ _).drew) (some ⟨gb, 0, none⟩) b cp1 HD1.out.rd (by rw [HBl.out]; omega) (by have := HN.out.2.1; omega)
 rw [HBl.out] at hsd
 refine hsd.mono ?_
 clear hsd
 rintro e y ⟨rfl, G2, own2, ha, hk, hg, ho⟩
 obtain ⟨code, hcode⟩ : ∃ z, (sendL s b).1 = z := ⟨_, rfl⟩
 rw [hcode]
 have HCode := hide hcode
 have hk : KB (P :: G.toList) x1 y := ⟨hk.1, hk.2, ⟨hk.3.1, hk.3.2.1, hk.3.2.2⟩⟩
 have HE1 := hide ha
 have HG1 := hide hg
 have HO1 := hide ho
 have hXP : ∀ x ∈ P :: G.toList, x = P ∨ x = M ∨ G = some x := by intro x hx; simp at hx; rcases hx with h | h; exact .inl h; exact .inr (.inr h)
 have HR1 := hide (HE.out.keepR hk hXP HR.out)
 have HD2 := hide (HE.out.keepF hk hXP HD1.out)
 have HB2 : Hid (Below L x1 y) := hide (hk.toBelow (by intro x hx; rcases hXP x hx with h | h | h; rw [h]; exact g4; rw [h]; exact g5; exact HG.out x h) g8)
 have HX : Hid (∀ g cur T fr, x1.heap[g]? = some (Obj.cells cur T fr) → T ≠ 67 → T ≠ 23 → y.heap[g]? = x1.heap[g]?) := hide (fun g cur T' fr hc q1 q2 => hk.2 g (lt_of_block hc) fun hm => by
  obtain ⟨_, _, _, _, _, _, p1, r1, _, ⟨⟨es1, cl1, m1, _⟩, _⟩, _⟩ := HE.out
  rcases hXP g hm with rfl | rfl | e
  ·exact row_ne hc p1 q1 rfl
  ·rw [hc] at m1; cases m1
  ·obtain ⟨cur', h⟩ := r1.blk g e
   exact row_ne hc h q2 rfl)
 have HT2 := hide ((HX.out _ _ _ _ HT1.out (by decide) (by decide)).trans HT1.out)
 have HBd2 : Hid (Bed8 y gb bl) := hide (by have h9 := HBd1.out; rw [HBl.out] at h9; exact h9.keep (by obtain ⟨C, fr, z1, _⟩ := h9; exact HX.out _ _ _ _ z1 (by decide) (by decide)))
 have HS1 : Hid (y.cell? ⟨T, 1, none⟩ = some (.slice A bl c) ∧ Rd y L A (u8s b)) := hide ⟨cell_of_row _ _ 1 _ _ _ HT2.out, HRx.out.keep fun p hp => HB2.out.cell hp⟩
 have hS1 := HS1.out
 clear ha hk hg ho hcode hXP
 go_wp2_with fail
 refine hK.out _ _ hS1 (fun hSn => ?_)
 clear hK K
 try simp only [zqd, zqe, zqf]
 refine call_at (i := 7) (d := 70) (by simp only [zqa, zqb, zqc]; rfl) rfl (by kernel_rfl) rfl (fun K hK => ?_)
 go_simp
 have hsd := rsend_any y L Q G' s b HR1.out (Nat.le_trans g8 HB2.out.size) (by have := HN.out.2.1; omega) (by rw [HBl.out]; omega)
 refine hsd.mono ?_
 clear hsd
 rintro e z ⟨rfl, G3, hb, hk, hg3⟩
 rw [HCode.out]
 have hXQ : ∀ x ∈ Q :: G'.toList, x = Q ∨ G' = some x := by intro x hx; simp at hx; exact hx
 have HE3 := hide (HR1.out.keepE hk hXQ HE1.out)
 have HR3 := hide hb
 have HB3 : Hid (Below L y z) := hide (hk.toBelow (by intro x hx; rcases hXQ x hx with h | h; rw [h]; exact HR.out.2.1; exact HR.out.2.2.1 x h) (Nat.le_trans g8 HB2.out.size))
 have HBd3 : Hid (Bed8 z gb bl) := hide (HBd2.out.keep (by obtain ⟨C, fr, z1, _⟩ := HBd2.out; exact hk.2 gb (lt_of_block z1) fun hm => by obtain ⟨cur', T', hc', e⟩ := HR1.out.notR hXQ gb hm; rcases e with rfl | rfl <;> exact row_ne z1 hc' (by decide) rfl))
 have HT3 := hide ((hk.2 T (lt_of_block HT2.out) fun hm => by obtain ⟨cur', T', hc', e⟩ := HR1.out.notR hXQ T hm; rcases e with rfl | rfl <;> exact row_ne HT2.out hc' (by decide) rfl).trans HT2.out)
 have hS2 : z.cell? ⟨T, 1, none⟩ = some (.slice A bl c) ∧ Rd z L A (u8s b) := ⟨cell_of_row _ _ 1 _ _ _ HT3.out, HS1.out.2.keep fun p hp => HB3.out.cell hp⟩
 clear hb hk hXQ
 go_wp2_with fail
 refine hK.out _ _ hS2 (fun hSn => ?_)
 clear hK K
 try simp only [zqd, zqe, zqf]
 refine tk 8 9 ?_ ?_ ?_; rotate_left; (focus (intro w h; go_simp; (try with_reducible rfl))); (try simp only [zqd, zqe, zqf])
 refine tk 9 10 ?_ ?_ ?_; rotate_left; (focus (intro w h; go_simp; (try with_reducible rfl))); (try simp only [zqd, zqe, zqf])
 refine wpAnyH_done (by kernel_rfl) ?_ _
 clear hS0 hSn hS1 hS2
 have HP3 : Hid (PairSt L P Q (i + 1) z (sendL s b).2) := hide ⟨M, G2, own2, k, G3, by omega, HE3.out, HR3.out, g4, g5, fun g hg => by
  rcases HG1.out with rfl | ⟨g', rfl, hg'⟩
  ·exact HG.out g hg
  ·injection hg with hg; have h9 : x1.heap.size ≤ g' := hg'; omega, fun g hg => by
  rcases HO1.out g with h | h
  ·exact HOw.out g (by rw [← h]; exact hg)
  ·have h9 : x1.heap.size ≤ g := h; omega, by have := HB2.out.size; have := HB3.out.size; omega⟩
 have HB4 : Hid (Below L w z) := hide (((((HBu.out.mono (by omega)).trans (HC1.out.mono (by have := HBu.out.size; omega)))).trans HB2.out).trans HB3.out)
 have hgbL : L ≤ gb := by have := HGb.out; have := HBu.out.size; omega
 clear HE1 HG1 HO1 HR1 HD2 HB2 HX HT2 HBd2 HS1 HE3 HR3 HB3 HT3 t0 t1 t2 t3 t4
 go_wp2
 go_loopw [11] (fun v11 wr => ∃ q : Nat, q ≤ bl ∧ v11 = .int .i64 (q : Int) ∧ Hid (PairSt L P Q (i + 1) wr (sendL s b).2) ∧ Hid (Bed8 wr gb bl) ∧ Hid (Below L w wr)) (fun v11 _ => bl - (intOf v11).toNat)
 case atStart => exact ⟨0, by omega, rfl, HP3, HBd3, HB4⟩
 case round =>
  obtain ⟨q, hq, rfl, HP5, HBd5, HB5⟩ := hrel
  clear HP3 HBd3 HB4
  obtain ⟨wr, rfl⟩ : ∃ z : World, z = wr := ⟨_, rfl⟩
  by_cases hqn : q < bl
  ·have hJ0 : (0 : Int) ≤ (q : Int) := by omega
   have hJ1 : (q : Int) < (bl : Int) := by omega
   obtain ⟨y8, q1, q2, hst⟩ := HBd5.out.at_ hqn
   obtain ⟨z8, hz⟩ : ∃ z : Nat, IntKind.u8.wrap ((y8 : Int) + 1) = (z : Int) := ⟨(IntKind.u8.wrap ((y8 : Int) + 1)).toNat, by simp only [IntKind.wrap, IntKind.bits, IntKind.signed]; simp; omega⟩
   have HF := hide (hst z8)
   have HP6 := hide (HP5.out.set8 HBd5.out (k := q) (.int .u8 (z8 : Int)))
   have HB6 := hide (HB5.out.setCell (p := ⟨gb, q, none⟩) hgbL (.int .u8 (z8 : Int)))
   clear hst
   go_wp2
   go_roundw
   case rel => exact ⟨q + 1, by omega, by go_num, HP6, HF, HB6⟩
   case measure => simp [intOf]; omega
  have hJ1 : ¬ (q : Int) < (bl : Int) := by omega
  have kd : (code == code) = true := by simp
  have HFin : Hid (DoesPost w L P Q i (.returned (.bool true)) wr) := hide ⟨rfl, ⟨_, HP5.out, HN.out.send⟩, HB5.out⟩
  go_wp2
  go_ret
  exact HFin.out
theorem does_send1 (w : World) {L P Q i : Nat} {s : LE} (h : PairSt L P Q i w s) (hN : PairN i s) (hi : i ≤ 1000) (hLw : L ≤ w.heap.size) (x : Cal5) (hx : x.ok) (hR : Rd w L x.A (u8s x.b)) (hb5 : x.b.length ≤ 5000) (hkk : x.k % 7 = 1) :
  Calls Try.prog 22 #[.pointer (some ⟨P, 0, none⟩), .pointer (some ⟨Q, 0, none⟩), .agg #[.int .u8 (x.k : Int), .slice x.A x.b.length x.c, .int .i64 x.ep, .int .i64 x.h, .int .i64 x.n]] w (DoesPost w L P Q i) := by
 obtain ⟨k8, A, b, c, ep, h0, n0⟩ := x
 obtain ⟨hk8, hbl, hep, hh0, hn0⟩ := hx
 dsimp only at hR hbl hk8 hep hh0 hn0 hkk hb5 ⊢
 obtain ⟨bl, hbl9⟩ : ∃ z, b.length = z := ⟨_, rfl⟩
 rw [hbl9] at hb5 ⊢
 have HBl := hide hbl9
 obtain ⟨u, hu⟩ : ∃ u, w.alloc (.cells #[.int .u8 (k8 : Int), .slice A bl c, .int .i64 ep, .int .i64 h0, .int .i64 n0] 56) = u := ⟨_, rfl⟩
 have HT := hide (show u.heap[w.heap.size]? = some (.cells #[.int .u8 (k8 : Int), .slice A bl c, .int .i64 ep, .int .i64 h0, .int .i64 n0] 56) by rw [← hu]; exact heap_alloc_last w _)
 have HBu := hide (show Below w.heap.size w u by rw [← hu]; exact (Below.refl _ _).alloc (Nat.le_refl _) _)
 have HU := hide hu
 obtain ⟨T, hT⟩ : ∃ x, w.heap.size = x := ⟨_, rfl⟩
 have HTe := hide hT
 rw [hT] at HT
 have HPu := hide (h.next HBu.out)
 have HRu : Hid (Rd u L A (u8s b)) := hide (hR.keep fun p hp => HBu.out.cell (by omega))
 have HN := hide hN
 clear hu hT h hR hN hbl9 hbl
 have t0 : u.cell? ⟨T, 0, none⟩ = some (.int .u8 (k8 : Int)) := cell_of_row _ _ 0 _ _ _ HT.out
 have t1 : u.cell? ⟨T, 1, none⟩ = some (.slice A bl c) := cell_of_row _ _ 1 _ _ _ HT.out
 have t2 : u.cell? ⟨T, 2, none⟩ = some (.int .i64 ep) := cell_of_row _ _ 2 _ _ _ HT.out
 have t3 : u.cell? ⟨T, 3, none⟩ = some (.int .i64 h0) := cell_of_row _ _ 3 _ _ _ HT.out
 have t4 : u.cell? ⟨T, 4, none⟩ = some (.int .i64 n0) := cell_of_row _ _ 4 _ _ _ HT.out
 have hTu : T < u.heap.size := lt_of_block HT.out
 have hk7 : (k8 : Int) % 7 = 1 := by omega
 have HOk : Hid (LEok s) := hide (by obtain ⟨M, G, own, k, G', g1, g2, _⟩ := HPu.out; exact g2.1)
 have kc := run_string_of (P := Try.prog) u 23 9 5 A c L b Try.underlying23 Try.underlying5 Try.underlying9 HRu.out
 rw [HBl.out] at kc
 have kq := run_bytes_of (P := Try.prog) u 9 23 5 b Try.underlying9 Try.underlying23 Try.underlying5
 rw [HBl.out] at kq
 obtain ⟨cp1, hcp1⟩ : ∃ z, grownCap u bl 0 5 = z := ⟨_, rfl⟩
 have hcpa1 : bl ≤ cp1 := by rw [← hcp1]; exact grownCap_ge _ _ _ _
 have hcpb1 : cp1 ≤ 9223372036854775807 := by rw [← hcp1]; exact grownCap_le_maxLen _ _ _ _ (by unfold maxLen; omega)
 rw [hcp1] at kq
 have HC1 : Hid (Below u.heap.size u (bytesWorld u 5 b)) := hide (bytesWorld_below _ _ _)
 have HD1 := hide (RdC.new u b)
 have HBd1 := hide (bed8_new u b)
 obtain ⟨x1, hx1⟩ : ∃ z, bytesWorld u 5 b = z := ⟨_, rfl⟩
 rw [hx1] at kq HC1 HD1 HBd1
 clear hcp1 hx1
 have hux : u.heap.size ≤ x1.heap.size := HC1.out.size
 have HT1 := hide ((HC1.out.block T hTu).trans HT.out)
 have HPx := hide (HPu.out.next HC1.out)
 have HRx : Hid (Rd x1 L A (u8s b)) := hide (HRu.out.keep fun p hp => HC1.out.cell (by have := HBu.out.size; omega))
 obtain ⟨gb, hgb⟩ : ∃ z, u.heap.size = z := ⟨_, rfl⟩
 rw [hgb] at kq HD1 HBd1
 have HGb := hide hgb
 clear hgb
 have kc9 : ∀ w9 : World, Rd w9 L A (u8s b) → (convert 23 9 (.slice A bl c)).run Try.prog w9 = .ok (.string ⟨b.toArray⟩) w9 := fun w9 h9 => by have h8 := run_string_of (P := Try.prog) w9 23 9 5 A c L b Try.underlying23 Try.underlying5 Try.underlying9 h9; rw [HBl.out] at h8; exact h8
 have HKc := hide kc9
 clear kc9
 obtain ⟨M, G, own, k, G', g1, g2, g3, g4, g5, g6, g7, g8⟩ := HPx.out
 have HE := hide g2
 have HR := hide g3
 have HG := hide g6
 have HOw := hide g7
 clear g2 g3 g6 g7
 go_enter Try.func22, Try.ntmps22
 go_upto_region 1 with fail
 rw [HU.out, HTe.out]
 go_upto_region 15 with fail
 refine wp_region_held_drew (S := (fun w9 : World => w9.cell? ⟨T, 1, none⟩ = some (.slice A bl c) ∧ Rd w9 L A (u8s b))) (by kernel_rfl) ⟨cell_of_row _ _ 1 _ _ _ HT1.out, HRx.out⟩ (fun hS0 => ?_)
 refine tk 0 63 ?_ ?_ ?_; rotate_left; (focus (intro w h; go_simp; (try with_reducible rfl))); (try simp only [zqd, zqe, zqf])
 refine tk 1 64 ?_ ?_ ?_; rotate_left; (focus (intro w h; go_simp; (try with_reducible rfl))); (try simp only [zqd, zqe, zqf])
 refine tk 3 66 ?_ ?_ ?_; rotate_left; (focus (intro w h; go_simp; (try with_reducible rfl))); (try simp only [zqd, zqe, zqf])
 refine tk 4 67 ?_ ?_ ?_; rotate_left; (focus (intro w h; go_simp; (try with_reducible rfl))); (try simp only [zqd, zqe, zqf])
 refine tk 5 68 ?_ ?_ ?_; rotate_left; (focus (intro w hSw; have hh := hSw.1; go_simp; (try with_reducible rfl); done)); (try simp only [zqd, zqe, zqf])
 refine tk 6 69 ?_ ?_ ?_; rotate_left; (focus (intro w hSw; have hh := HKc.out w hSw.2; go_simp; (try with_reducible rfl); done)); (try simp only [zqd, zqe, zqf])
 refine call_at (i := 2) (d := 65) (by simp only [zqa, zqb, zqc]; rfl) rfl (by kernel_rfl) rfl (fun K hK => ?_)
 go_simp
 have hsd := send_any x1.drew (HE.out.next (Below.refl _ _).drew) (some ⟨gb, 0, none⟩) b cp1 HD1.out.rd (by rw [HBl.out]; omega) (by have := HN.out.2.1; omega)
 rw [HBl.out] at hsd
 refine hsd.mono ?_
 clear hsd
 rintro e y ⟨rfl, G2, own2, ha, hk, hg, ho⟩
 obtain ⟨code, hcode⟩ : ∃ z, (sendL s b).1 = z := ⟨_, rfl⟩
 rw [hcode]
 have HCode := hide hcode
 have hk : KB (P :: G.toList) x1 y := ⟨hk.1, hk.2, ⟨hk.3.1, hk.3.2.1, hk.3.2.2⟩⟩
 have HE1 := hide ha
 have HG1 := hide hg
 have HO1 := hide ho
 have hXP : ∀ x ∈ P :: G.toList, x = P ∨ x = M ∨ G = some x := by intro x hx; simp at hx; rcases hx with h | h; exact .inl h; exact .inr (.inr h)
 have HR1 := hide (HE.out.keepR hk hXP HR.out)
 have HD2 := hide (HE.out.keepF hk hXP HD1.out)
 have HB2 : Hid (Below L x1 y) := hide (hk.toBelow (by intro x hx; rcases hXP x hx with h | h | h; rw [h]; exact g4; rw [h]; exact g5; exact HG.out x h) g8)
 have HX : Hid (∀ g cur T fr, x1.heap[g]? = some (Obj.cells cur T fr) → T ≠ 67 → T ≠ 23 → y.heap[g]? = x1.heap[g]?) := hide (fun g cur T' fr hc q1 q2 => hk.2 g (lt_of_block hc) fun hm => by
  obtain ⟨_, _, _, _, _, _, p1, r1, _, ⟨⟨es1, cl1, m1, _⟩, _⟩, _⟩ := HE.out
  rcases hXP g hm with rfl | rfl | e
  ·exact row_ne hc p1 q1 rfl
  ·rw [hc] at m1; cases m1
  ·obtain ⟨cur', h⟩ := r1.blk g e
   exact row_ne hc h q2 rfl)
 have HT2 := hide ((HX.out _ _ _ _ HT1.out (by decide) (by decide)).trans HT1.out)
 have HBd2 : Hid (Bed8 y gb bl) := hide (by have h9 := HBd1.out; rw [HBl.out] at h9; exact h9.keep (by obtain ⟨C, fr, z1, _⟩ := h9; exact HX.out _ _ _ _ z1 (by decide) (by decide)))
 have HS1 : Hid (y.cell? ⟨T, 1, none⟩ = some (.slice A bl c) ∧ Rd y L A (u8s b)) := hide ⟨cell_of_row _ _ 1 _ _ _ HT2.out, HRx.out.keep fun p hp => HB2.out.cell hp⟩
 have hS1 := HS1.out
 clear ha hk hg ho hcode hXP
 go_wp2_with fail
 refine hK.out _ _ hS1 (fun hSn => ?_)
 clear hK K
 try simp only [zqd, zqe, zqf]
 refine call_at (i := 7) (d := 70) (by simp only [zqa, zqb, zqc]; rfl) rfl (by kernel_rfl) rfl (fun K hK => ?_)
 go_simp
 have hsd := rsend_any y L Q G' s b HR1.out (Nat.le_trans g8 HB2.out.size) (by have := HN.out.2.1; omega) (by rw [HBl.out]; omega)
 refine hsd.mono ?_
 clear hsd
 rintro e z ⟨rfl, G3, hb, hk, hg3⟩
 rw [HCode.out]
 have hXQ : ∀ x ∈ Q :: G'.toList, x = Q ∨ G' = some x := by intro x hx; simp at hx; exact hx
 have HE3 := hide (HR1.out.keepE hk hXQ HE1.out)
 have HR3 := hide hb
 have HB3 : Hid (Below L y z) := hide (hk.toBelow (by intro x hx; rcases hXQ x hx with h | h; rw [h]; exact HR.out.2.1; exact HR.out.2.2.1 x h) (Nat.le_trans g8 HB2.out.size))
 have HBd3 : Hid (Bed8 z gb bl) := hide (HBd2.out.keep (by obtain ⟨C, fr, z1, _⟩ := HBd2.out; exact hk.2 gb (lt_of_block z1) fun hm => by obtain ⟨cur', T', hc', e⟩ := HR1.out.notR hXQ gb hm; rcases e with rfl | rfl <;> exact row_ne z1 hc' (by decide) rfl))
 have HT3 := hide ((hk.2 T (lt_of_block HT2.out) fun hm => by obtain ⟨cur', T', hc', e⟩ := HR1.out.notR hXQ T hm; rcases e with rfl | rfl <;> exact row_ne HT2.out hc' (by decide) rfl).trans HT2.out)
 have hS2 : z.cell? ⟨T, 1, none⟩ = some (.slice A bl c) ∧ Rd z L A (u8s b) := ⟨cell_of_row _ _ 1 _ _ _ HT3.out, HS1.out.2.keep fun p hp => HB3.out.cell hp⟩
 clear hb hk hXQ
 go_wp2_with fail
 refine hK.out _ _ hS2 (fun hSn => ?_)
 clear hK K
 try simp only [zqd, zqe, zqf]
 refine tk 8 9 ?_ ?_ ?_; rotate_left; (focus (intro w h; go_simp; (try with_reducible rfl))); (try simp only [zqd, zqe, zqf])
 refine tk 9 10 ?_ ?_ ?_; rotate_left; (focus (intro w h; go_simp; (try with_reducible rfl))); (try simp only [zqd, zqe, zqf])
 refine wpAnyH_done (by kernel_rfl) ?_ _
 clear hS0 hSn hS1 hS2
 have HP3 : Hid (PairSt L P Q (i + 1) z (sendL s b).2) := hide ⟨M, G2, own2, k, G3, by omega, HE3.out, HR3.out, g4, g5, fun g hg => by
  rcases HG1.out with rfl | ⟨g', rfl, hg'⟩
  ·exact HG.out g hg
  ·injection hg with hg; have h9 : x1.heap.size ≤ g' := hg'; omega, fun g hg => by
  rcases HO1.out g with h | h
  ·exact HOw.out g (by rw [← h]; exact hg)
  ·have h9 : x1.heap.size ≤ g := h; omega, by have := HB2.out.size; have := HB3.out.size; omega⟩
 have HB4 : Hid (Below L w z) := hide (((((HBu.out.mono (by omega)).trans (HC1.out.mono (by have := HBu.out.size; omega)))).trans HB2.out).trans HB3.out)
 have hgbL : L ≤ gb := by have := HGb.out; have := HBu.out.size; omega
 clear HE1 HG1 HO1 HR1 HD2 HB2 HX HT2 HBd2 HS1 HE3 HR3 HB3 HT3 t0 t1 t2 t3 t4
 go_wp2
 go_loopw [11] (fun v11 wr => ∃ q : Nat, q ≤ bl ∧ v11 = .int .i64 (q : Int) ∧ Hid (PairSt L P Q (i + 1) wr (sendL s b).2) ∧ Hid (Bed8 wr gb bl) ∧ Hid (Below L w wr)) (fun v11 _ => bl - (intOf v11).toNat)
 case atStart => exact ⟨0, by omega, rfl, HP3, HBd3, HB4⟩
 case round =>
  obtain ⟨q, hq, rfl, HP5, HBd5, HB5⟩ := hrel
  clear HP3 HBd3 HB4
  obtain ⟨wr, rfl⟩ : ∃ z : World, z = wr := ⟨_, rfl⟩
  by_cases hqn : q < bl
  ·have hJ0 : (0 : Int) ≤ (q : Int) := by omega
   have hJ1 : (q : Int) < (bl : Int) := by omega
   obtain ⟨y8, q1, q2, hst⟩ := HBd5.out.at_ hqn
   obtain ⟨z8, hz⟩ : ∃ z : Nat, IntKind.u8.wrap ((y8 : Int) + 1) = (z : Int) := ⟨(IntKind.u8.wrap ((y8 : Int) + 1)).toNat, by simp only [IntKind.wrap, IntKind.bits, IntKind.signed]; simp; omega⟩
   have HF := hide (hst z8)
   have HP6 := hide (HP5.out.set8 HBd5.out (k := q) (.int .u8 (z8 : Int)))
   have HB6 := hide (HB5.out.setCell (p := ⟨gb, q, none⟩) hgbL (.int .u8 (z8 : Int)))
   clear hst
   go_wp2
   go_roundw
   case rel => exact ⟨q + 1, by omega, by go_num, HP6, HF, HB6⟩
   case measure => simp [intOf]; omega
  have hJ1 : ¬ (q : Int) < (bl : Int) := by omega
  have kd : (code == code) = true := by simp
  have HFin : Hid (DoesPost w L P Q i (.returned (.bool true)) wr) := hide ⟨rfl, ⟨_, HP5.out, HN.out.send⟩, HB5.out⟩
  go_wp2
  go_ret
  exact HFin.out
theorem does_any (w : World) {L P Q i : Nat} {s : LE} (h : PairSt L P Q i w s) (hN : PairN i s) (hi : i ≤ 1000) (hLw : L ≤ w.heap.size) (x : Cal5) (hx : x.ok) (hR : Rd w L x.A (u8s x.b)) (hb5 : x.b.length ≤ 5000) :
  Calls Try.prog 22 #[.pointer (some ⟨P, 0, none⟩), .pointer (some ⟨Q, 0, none⟩), .agg #[.int .u8 (x.k : Int), .slice x.A x.b.length x.c, .int .i64 x.ep, .int .i64 x.h, .int .i64 x.n]] w (DoesPost w L P Q i) := by
 have h7 : x.k % 7 < 7 := Nat.mod_lt _ (by decide)
 rcases hq : x.k % 7 with _ | _ | _ | _ | _ | _ | _ | q
 ·exact does_send0 w h hN hi hLw x hx hR hb5 hq
 ·exact does_send1 w h hN hi hLw x hx hR hb5 hq
 ·exact does_out w h hN hi hLw x hx hR hb5 hq
 ·exact does_again w h hN hi hLw x hx hR hb5 hq
 ·exact does_hear w h hN hi hLw x hx hR hb5 hq
 ·by_cases hn : x.n = 0
  ·exact does_ack5 w h hN hi hLw x hx hR hb5 hq hn
  ·exact does_msg5 w h hN hi hLw x hx hR hb5 hq hn
 ·by_cases hn : x.n = 0
  ·exact does_ack6 w h hN hi hLw x hx hR hb5 hq hn
  ·exact does_msg6 w h hN hi hLw x hx hR hb5 hq hn
 ·omega
end Go.Proofs.Ytigmmikijjcdiaa
