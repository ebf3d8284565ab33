/- The document's Send. (printed by gen/rsn.py) -/
import Derived.Test.YtigmmikijjcdiaaProg
import Derived.Test.YtigmmikijjcdiaaLqRso
import Derived.Test.YtigmmikijjcdiaaLqLks
import Derived.Deep.DeepCutAuto
import Derived.Lib.Hide
import Derived.WalkSpells
import Derived.WalkMore
import Derived.IntWalk








namespace Go.Proofs.Ytigmmikijjcdiaa
open Go.RowKit
set_option linter.unusedVariables false
set_option linter.unusedSimpArgs false
/-- behind the document's Send -/
def RSendPost (w : World) (L Q : Nat) (G : Option Nat) (s : LE) (b : BL) (e : Ending) (w' : World) : Prop :=
  e = .returned (.int .i64 (sendL s b).1) ∧ ∃ G', REnd w' L Q G' (sendL s b).2 ∧ KB (Q :: G.toList) w w' ∧ (G' = G ∨ ∃ g, G' = some g ∧ w.heap.size ≤ g)
theorem rsend_fin {w x y z : World} {L Q : Nat} {G G' : Option Nat} {s : LE} {b : BL} {v' av : Value} {xs : List (Nat × BL)}
    (h1 : LEok s) (h2 : L ≤ Q) (h3 : ∀ g, G = some g → L ≤ g) (hLw : L ≤ w.heap.size) (h6 : AhR w L av xs) (h7 : AhF xs s.ahead) (hQc : ∃ cur, w.heap[Q]? = some (.cells cur 78 (0, 0))) (hGc : ∀ g, G = some g → ∃ cur, w.heap[g]? = some (.cells cur 9 (0, 0)))
    (hb : b.length ≤ 1048576) (hn : s.next < 1000000) (hl : s.sent.length < 64) (hx : Below w.heap.size w x) (hT : TRow y G' v' (strs s.sent ++ [.string ⟨b.toArray⟩])) (hk : KB G.toList x y) (hG : G' = G ∨ ∃ g, G' = some g ∧ x.heap.size ≤ g) (hQG : G' ≠ some Q)
    (hz : z.heap[Q]? = some (.cells #[.int .i64 (s.ep : Int), .int .i64 ((s.next : Int) + 1), .int .i64 (s.heard : Int), .int .i64 (s.fresh : Int), .bool s.owes, v', av] 78 (0, 0))) (hzo : ∀ g, g ≠ Q → z.heap[g]? = y.heap[g]?) (hzs : z.heap.size = y.heap.size) (hze : Env y z) : RSendPost w L Q G s b (.returned (.int .i64 0)) z := by
  have hs : sendL s b = (0, { s with sent := s.sent ++ [b], next := s.next + 1 }) := by unfold sendL; rw [if_neg (by unfold mostL; omega), if_neg (by omega)]
  have hsx := hx.size
  have hsy := hk.1
  refine ⟨by rw [hs], G', ?_, ⟨by omega, fun g hg hm => ?_, ((Env.of_below hx).trans hk.3).trans hze⟩, hG.imp id fun ⟨g, e, h⟩ => ⟨g, e, by omega⟩⟩
  · rw [hs]
    refine ⟨?_, h2, fun g e => ?_, v', av, xs, by simpa using hz, ?_, h6.keep fun g cur hc => ?_, h7⟩
    · obtain ⟨q1, q2, q3, q4, q5, q6, q7, q8, q9⟩ := h1
      have e1 : (LE.first { s with sent := s.sent ++ [b], next := s.next + 1 }) = s.first := by unfold LE.first; simp
      refine ⟨q1, by simp; omega, by simp; omega, by rw [e1]; exact q4, by simp; omega, by simp; omega, q7, fun c hc => ?_, q9⟩
      rcases List.mem_append.1 hc with hc | hc
      · exact q8 c hc
      · simp at hc; subst hc; exact hb
    · rcases hG with rfl | ⟨g', rfl, hg'⟩
      · exact h3 g e
      · injection e with e; omega
    · have e : strs (s.sent ++ [b]) = strs s.sent ++ [.string ⟨b.toArray⟩] := by unfold strs; simp
      show TRow z G' v' (strs (s.sent ++ [b]))
      rw [e]
      exact hT.keep fun g e _ => hzo g fun e2 => hQG (by rw [e, e2])
    · have hlt := lt_of_block hc
      have n1 : g ≠ Q := by
        obtain ⟨cur', hc'⟩ := hQc
        exact row_ne hc hc' (by decide)
      rw [hzo g n1, hk.2 g (by omega) (fun hm => by obtain ⟨cur', hc'⟩ := hGc g (in_O hm); exact row_ne hc hc' (by decide) rfl), hx.block g hlt]
  · rw [hzo g (fun e => hm (by rw [e]; simp)), hk.2 g (by omega) (fun h => hm (by simp; right; exact in_O h)), hx.block g hg]
set_option maxRecDepth 100000 in
set_option maxHeartbeats 16000000 in
theorem rsend_any (w : World) (L Q : Nat) (G : Option Nat) (s : LE) (b : BL) (hE : REnd w L Q G s) (hLw : L ≤ w.heap.size) (hn : s.next < 1000000) (hbm : b.length ≤ 1000000000) :
    Calls Try.prog 36 #[.pointer (some ⟨Q, 0, none⟩), .string ⟨b.toArray⟩] w (RSendPost w L Q G s b) := by
  have HE := hide hE
  clear hE
  obtain ⟨A, c, B, d, m, e0, e1, e2, e3, e4, e5, e6, hQ⟩ := HE.out.cells
  by_cases c1 : (1048576 : Int) < (b.length : Int)
  · have HS : Hid (sendL s b = (3, s)) := hide (by unfold sendL; rw [if_pos (.inl (by omega))])
    go_enter Try.func36, Try.ntmps36
    go_wp2
    go_ret
    exact ⟨by rw [HS.out]; rfl, G, by rw [HS.out]; exact HE.out, KB.refl _ _, .inl rfl⟩
  have c2 : ¬ (4611686018427387904 : Int) ≤ (s.next : Int) := by omega
  obtain ⟨sl, hsl⟩ : ∃ z, s.sent.length = z := ⟨_, rfl⟩
  rw [hsl] at e5
  have HSl := hide hsl
  clear hsl
  by_cases c3 : (64 : Int) ≤ (sl : Int)
  · have HS : Hid (sendL s b = (161, s)) := hide (by unfold sendL; rw [if_neg (by unfold mostL; omega), if_pos (by rw [HSl.out]; omega)])
    go_enter Try.func36, Try.ntmps36
    go_wp2
    go_ret
    exact ⟨by rw [HS.out]; rfl, G, by rw [HS.out]; exact HE.out, KB.refl _ _, .inl rfl⟩
  obtain ⟨h1, h2, h3, sv, av, xs, h4, h5, h6, h7⟩ := HE.out
  have hsv : sv = .slice A sl c := by have h := cell_of_row _ _ 5 _ _ _ h4; rw [e5] at h; simpa using h.symm
  subst hsv
  obtain ⟨i0, hi0, hz0, hz1, hz2⟩ := info_parts (show (Try.prog.info? 9).map (fun i => (i.zero, i.size, i.bytes)) = some (some (.string ⟨#[]⟩), 1, 16) by kernel_rfl)
  have H1 := hide h1
  have H3 := hide h3
  have H4 := hide h4
  have H5 := hide h5
  have H6 := hide h6
  have H7 := hide h7
  clear h1 h3 h4 h5 h6 h7
  obtain ⟨x, hx⟩ : ∃ z, w.alloc (.cells #[.string ⟨b.toArray⟩] 9) = z := ⟨_, rfl⟩
  have HX := hide hx
  have HBx : Hid (Below w.heap.size w x) := hide (by rw [← hx]; exact (Below.refl _ _).alloc (Nat.le_refl _) _)
  have HT0 : Hid (TRow x G (.slice A sl c) (strs s.sent)) := hide (H5.out.keep fun g e hl => HBx.out.block g hl)
  have hcx : x.cell? ⟨w.heap.size, 0, none⟩ = some (.string ⟨b.toArray⟩) := by rw [← hx]; exact cell_of_row _ _ 0 _ _ _ (heap_alloc_last _ _)
  have hQx : x.heap[Q]? = some (.cells #[.int .i64 (s.ep : Int), .int .i64 (s.next : Int), .int .i64 (s.heard : Int), .int .i64 (s.fresh : Int), .bool s.owes, .slice A sl c, av] 78 (0, 0)) := (HBx.out.block Q hQ).trans H4.out
  have HQx := hide hQx
  clear hx hQx
  have kw : IntKind.i64.wrap ((s.next : Int) + 1) = (s.next : Int) + 1 := IntWalk.i64_in _ (by omega)
  go_enter Try.func36, Try.ntmps36
  go_upto_region 5 with fail
  go_wp2_with (at_builtin; go_loud (rw [HX.out]; refine wpList_plain rfl fun K hK => ?_; refine op_trow (.tmp 25) (.tmp 27) 48 rfl i0 (.string ⟨#[]⟩) Try.underlying48 hi0 hz0 hz1 hz2 rfl (.slice A sl c) G (strs s.sent) rfl HT0.out ⟨w.heap.size, 0, none⟩ 1 (.string ⟨b.toArray⟩) rfl hcx rfl (by rw [strs_len, HSl.out]; omega) ?_; intro v' y G' hT hk hG; refine hK _ _ ?_; obtain ⟨A2, n2, c2', rfl⟩ : ∃ A2 n2 c2', v' = .slice A2 n2 c2' := (by obtain ⟨A2, c2', hv, _⟩ := hT; exact ⟨A2, _, c2', hv⟩); have hyQ := (hk.2 Q (Nat.lt_of_lt_of_le hQ HBx.out.size) (fun hm => by obtain ⟨cur, hc⟩ := H5.out.blk Q (in_O hm); exact row_ne H4.out hc (by decide) rfl)).trans HQx.out; have hQG : G' ≠ some Q := (fun e => by obtain ⟨cur, hc⟩ := hT.blk Q e; exact row_ne hyQ hc (by decide) rfl); have y5 : y.cell? ⟨Q, 5, none⟩ = some (.slice A sl c) := cell_of_row _ _ 5 _ _ _ hyQ; have y5f : y.frozen? ⟨Q, 5, none⟩ = false := frozen_of_row _ _ 5 _ _ hyQ; have hzA := heap_setCell_same y Q 5 _ _ (.slice A2 n2 c2') hyQ; have y1 : (y.setCell ⟨Q, 5, none⟩ (.slice A2 n2 c2')).cell? ⟨Q, 1, none⟩ = some (.int .i64 (s.next : Int)) := cell_of_row _ _ 1 _ _ _ hzA; have y1f : (y.setCell ⟨Q, 5, none⟩ (.slice A2 n2 c2')).frozen? ⟨Q, 1, none⟩ = false := frozen_of_row _ _ 1 _ _ hzA; have hzB := heap_setCell_same (y.setCell ⟨Q, 5, none⟩ (.slice A2 n2 c2')) Q 1 _ _ (.int .i64 ((s.next : Int) + 1)) hzA; have HFin := hide (rsend_fin H1.out h2 H3.out hLw H6.out H7.out ⟨_, H4.out⟩ H5.out.blk (by omega) hn (by rw [HSl.out]; omega) HBx.out hT hk hG hQG hzB (fun g hg => by rw [Below.heap_setCell _ _ _ _ hg, Below.heap_setCell _ _ _ _ hg]) (by simp only [World.size_setCell]) (((Env.refl y).setCell _ _).setCell _ _)); clear hT hk hG hK hyQ hQG hzA hzB))
  go_wp2
  go_ret
  exact HFin.out
end Go.Proofs.Ytigmmikijjcdiaa
