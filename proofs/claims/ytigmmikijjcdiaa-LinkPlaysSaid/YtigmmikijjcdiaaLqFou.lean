/- What a Writer's Out tells. -/
import Derived.Test.YtigmmikijjcdiaaLqFwr
import Derived.Deep.RegionLaw


namespace Go.Proofs.Ytigmmikijjcdiaa
open Go.RowKit
set_option linter.unusedVariables false

theorem Chain.same {w : World} {g : Nat} : ∀ {q : Option Addr} {ps ps' : List Piece}, Chain w g q ps → Chain w g q ps' → ps.length = ps'.length
  | _, [], [], _, _ => rfl
  | _, [], (_, _, _) :: _, h, ⟨b, _, e, _⟩ => by rw [show _ = none from h] at e; cases e
  | _, (_, _, _) :: _, [], ⟨b, _, e, _⟩, h => by rw [show _ = none from h] at e; cases e
  | _, (_, _, _) :: ps, (_, _, _) :: ps', ⟨b, q1, e, _, _, _, h1, _, ht⟩, ⟨b', q2, e', _, _, _, h2, _, ht'⟩ => by
    rw [e] at e'
    injection e' with e'
    injection e' with e'
    subst e'
    rw [h1] at h2
    injection h2 with h2
    injection h2 with h2
    subst h2
    simp [Chain.same ht ht']
open Classical in
noncomputable def leftOf (w : World) (g : Nat) (v : Value) : Nat := if h : ∃ ps q, v = .pointer q ∧ Chain w g q ps then (Classical.choose h).length else 0
theorem leftOf_eq {w : World} {g : Nat} {q : Option Addr} {ps : List Piece} (h : Chain w g q ps) : leftOf w g (.pointer q) = ps.length := by
  have hex : ∃ ps q', Value.pointer q = .pointer q' ∧ Chain w g q' ps := ⟨ps, q, rfl, h⟩
  unfold leftOf
  rw [dif_pos hex]
  obtain ⟨q', e, h'⟩ := Classical.choose_spec hex
  injection e with e
  subst e
  exact h'.same h

/-- the row while it is filled from behind -/
def outRow (e : Nat) (done : List UInt8) : List Value := List.replicate e (.int .u8 0) ++ u8s done
theorem outRow_len (e : Nat) (done : List UInt8) : (outRow e done).length = e + done.length := by simp [outRow, u8s]
theorem outRow_splice (e : Nat) (bs done : List UInt8) : splice (outRow (e + bs.length) done) e (u8s bs) = outRow e (bs ++ done) := by
  unfold splice outRow
  rw [u8s_len, List.take_append_of_le_length (by simp), List.take_replicate, List.drop_append_of_le_length (by simp), List.drop_replicate]
  simp [u8s]

theorem made_cells {w : World} {base g N : Nat} {xs : List Value} {t : TypeId} (h : w.ownsRow base t 1 (.slice (some ⟨g, 0, none⟩) N N) N xs) : w.heap[g]? = some (.cells xs.toArray t) := by
  rcases h.2 with ⟨e, _⟩ | ⟨g', cap, cur, e, _, hg, _, _, hs, ht⟩
  · cases e
  · injection e with e1 e2 e3
    injection e1 with e1
    injection e1 with e1
    subst e1 e3
    rw [hg, ← ht, List.take_of_length_le (by simp [hs])]
theorem made_zero (N : Nat) : (madeCells (Value.int .u8 0).cells (N * 1)).toList = outRow N [] := by
  rw [Nat.mul_one, show (Value.int .u8 0).cells = #[Value.int .u8 0] from rfl, toList_madeCells_one]
  simp [outRow, u8s]

set_option maxRecDepth 100000 in
set_option maxHeartbeats 1000000 in
theorem out_any (w : World) (g : Nat) {lo : Nat} (out : List UInt8) (hW : Wo w g lo out) (hl : out.length ≤ 1000000000000) :
    Calls Try.prog 57 #[.pointer (some ⟨g, 0, none⟩)] w fun e w' => e = .returned (.slice (some ⟨w.heap.size, 0, none⟩) out.length out.length) ∧ w'.heap[w.heap.size]? = some (.cells (u8s out).toArray 5) ∧ Below w.heap.size w w' := by
  obtain ⟨ps0, hout, hgl, hll, q0, hg, hc⟩ := hW
  rw [hout] at hg
  have c0 : w.cell? ⟨g, 0, none⟩ = some (.pointer q0) := cell_of_row _ _ 0 _ _ _ hg
  have c1 : w.cell? ⟨g, 1, none⟩ = some (.int .i64 (out.length : Nat)) := cell_of_row _ _ 1 _ _ _ hg
  have hlt := lt_of_block hg
  have HC := hide hc
  clear hg hc
  obtain ⟨N, hN⟩ : ∃ N, out.length = N := ⟨_, rfl⟩
  have HN := hide hN
  rw [hN] at c1 hl ⊢
  clear hN
  obtain ⟨i0, hi0, hz0, hz1, hz2⟩ := info_parts (show (Try.prog.info? 5).map (fun i => (i.zero, i.size, i.bytes)) = some (some (.int .u8 0), 1, 1) by kernel_rfl)
  have hb8 : i0.bytes * N ≤ 281474976710656 := by rw [hz2]; omega
  go_enter Try.func57, Try.ntmps57
  go_wp2_with (at_make; refine wpList_make_full _ rfl (.tmp 11) (.tmp 11) 23 rfl w.heap.size 5 i0 (.int .u8 0) 1 Try.underlying23 hi0 hz0 hz1 .i64 .i64 _ _ N rfl rfl (by omega) (by omega) hb8 (by unfold maxLen; omega) (Nat.le_refl _) ?_; intro w1 hown1 hg1; have hb1 : Below w.heap.size w w1 := (Below.refl _ w).grown hg1 (Nat.le_refl _) (fun k e => by cases e); have c0' := (hb1.cell (p := ⟨g, 0, none⟩) hlt).trans c0; have c1' := (hb1.cell (p := ⟨g, 1, none⟩) hlt).trans c1; have hm1 := made_cells hown1; rw [made_zero] at hm1; clear hown1 hg1)
  go_loopw [4, 5] (fun ve vp wr => ∃ (q : Option Addr) (ps : List Piece) (done : List UInt8), outOf ps ++ done = out ∧ vp = .pointer q ∧ ve = .int .i64 ((outOf ps).length : Nat) ∧ Chain w lo q ps ∧ wr.heap[w.heap.size]? = some (.cells (outRow (outOf ps).length done).toArray 5) ∧ Below w.heap.size w wr) (fun _ vp _ => leftOf w lo vp)
  case atStart => exact ⟨q0, ps0, [], by rw [List.append_nil]; exact hout, rfl, by rw [hout, HN.out], HC.out, by rw [hout, HN.out]; exact hm1, hb1⟩
  case round =>
    obtain ⟨q, ps, done, hcat, rfl, rfl, hch, hrow, hbw⟩ := hrel
    rcases ps with _ | ⟨⟨A, bs, c⟩, ps⟩
    · obtain rfl : q = none := hch
      have hd : done = out := hcat
      subst hd
      go_wp2
      go_ret
      refine ⟨rfl, ?_, hbw⟩
      rw [hrow]
      simp [outRow, outOf]
    · obtain ⟨b, q', rfl, hgb, hbl, k0, k1, hR, hch'⟩ := hch
      have hcat' := hcat
      have hle := congrArg List.length hcat
      have hoe : (outOf ((A, bs, c) :: ps)).length = (outOf ps).length + bs.length := by simp [outOf]
      rw [List.length_append, hoe, HN.out] at hle
      rw [hoe] at hrow ⊢
      have hm0 := leftOf_eq hch'
      have hm1' := leftOf_eq (w := w) (g := lo) (q := some ⟨b, 0, none⟩) (ps := (A, bs, c) :: ps) ⟨b, q', rfl, hgb, hbl, k0, k1, hR, hch'⟩
      have k0' := (hbw.cell (p := ⟨b, 0, none⟩) hbl).trans k0
      have k1' := (hbw.cell (p := ⟨b, 1, none⟩) hbl).trans k1
      have hR' := hR.rd.below' hbw (Nat.le_refl _)
      obtain ⟨E, hE⟩ : ∃ E, (outOf ps).length = E := ⟨_, rfl⟩
      obtain ⟨L, hL⟩ : ∃ L, bs.length = L := ⟨_, rfl⟩
      have HE := hide hE
      have HL := hide hL
      have HM := hide hm0
      have HM1 := hide hm1'
      have HCat := hide hcat
      have HCh := hide hch'
      have HRow := hide hrow
      have HR := hide hR'
      have K1 := hide k1
      rw [hE, hL] at hle
      rw [hL] at k0'
      rw [hE, hL]
      clear hE hL hm0 hm1' hcat hcat' hch' hrow hR' k0 k1 hoe hR
      have hI0 : (0 : Int) ≤ (E : Int) := by omega
      have hI1 : (E : Int) ≤ (N : Int) := by omega
      have hs1 : ((E + L : Nat) : Int) = (E : Int) + (L : Int) := by omega
      have hs2 : IntKind.i64.wrap ((E : Int) + (L : Int) - (L : Int)) = (E : Int) := by rw [show (E : Int) + (L : Int) - (L : Int) = (E : Int) by omega]; exact IntWalk.i64_in _ (by omega)
      rw [hs1]
      go_wp2
      have hsrc : ∀ W : World, W.heap = wr.heap → 0 < (u8s bs).length → ∃ ad, A = some ad ∧ ∀ j v, (u8s bs)[j]? = some v → W.cell? (ad.add j) = some v := by
        intro W hW hp
        obtain ⟨b1, off1, e, _, hcc⟩ := HR.out (fun e => by rw [e] at hp; simp at hp)
        exact ⟨_, e, fun j v hv => by rw [add_plain]; exact (World.cell?_of_block (by rw [hW])).trans (hcc j v hv)⟩
      have HS := hide hsrc
      have hrow1 : Hid (wr.heap[w.heap.size]? = some (.cells (outRow (E + bs.length) done).toArray 5)) := hide (by rw [HRow.out, HE.out])
      have hmin : Hid ((u8s bs).length = Nat.min L (N - E)) := hide (by rw [u8s_len, HL.out]; exact (Nat.min_eq_left (by omega)).symm)
      have hnE : Hid (0 < (u8s bs).length → N ≠ E) := hide (fun h => by rw [u8s_len, HL.out] at h; omega)
      have hfit : Hid (E + (u8s bs).length ≤ (outRow (E + bs.length) done).length) := hide (by rw [outRow_len, u8s_len]; omega)
      clear hsrc
      go_region_law (refine step_copy_splice rfl (.tmp 36) (.tmp 40) 23 23 rfl 5 Try.underlying23 (by kernel_rfl) (if N = E then some ⟨w.heap.size, 0, none⟩ else some ⟨w.heap.size, E, none⟩) A (N - E) (N - E) L c (by simp [Act.eval]) (by simp [Act.eval]) w.heap.size E (outRow (E + bs.length) done) 5 hrow1.out (u8s bs) hmin.out (fun hp => ⟨if_neg (hnE.out hp), HS.out _ rfl hp⟩) hfit.out (u8s_one bs) w.heap.size w ⟨hbw.os, hbw.tape, hbw.output, hbw.size, hbw.block⟩ (Nat.le_refl _) ?_; intro w4 hg4 hb4)
      have k4 := (hb4.cell (p := ⟨b, 1, none⟩) hbl).trans K1.out
      clear HS hrow1 hmin hnE hfit HRow HR hbw
      go_wp2
      go_roundw
      case rel =>
        refine ⟨q', ps, bs ++ done, ?_, rfl, by rw [HE.out], HCh.out, ?_, hb4⟩
        · rw [← HCat.out]; simp [outOf]
        · rw [HE.out, ← outRow_splice]; exact hg4.out
      case measure =>
        show leftOf w lo (.pointer q') < leftOf w lo (.pointer (some ⟨b, 0, none⟩))
        rw [HM.out, HM1.out]
        simp

end Go.Proofs.Ytigmmikijjcdiaa
