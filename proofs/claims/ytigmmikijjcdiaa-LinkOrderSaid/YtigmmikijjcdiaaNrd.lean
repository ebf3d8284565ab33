/- The closing rounds of LinkOrder, in plain Lean and in memory. -/
import Derived.Test.YtigmmikijjcdiaaProg
import Derived.Test.YtigmmikijjcdiaaNq0
namespace Go.Proofs.Ytigmmikijjcdiaa
open Go.RowKit
set_option linter.unusedVariables false
set_option linter.unusedSimpArgs false
/-- behind a frame that says h: h is acked -/
theorem hear_acks {y : LE} {f : BL} {h n : Nat} {b : BL} (hok : LEok y) (hq : readL f = some (y.ep, h, n, b)) (hB : h < y.next) : (hearL y f).2.2.next = y.next ∧ (h + 1 = y.next → (hearL y f).2.2.sent = []) := by
  have hA : (ackL y h).next = y.next ∧ (h + 1 = y.next → (ackL y h).sent = []) := by
    refine ⟨(ackL_eqs y h).2.1, fun e => ?_⟩
    unfold ackL
    have hf : y.first + y.sent.length = y.next := by have := hok.first; unfold LE.first; omega
    by_cases hc : y.first ≤ h
    · rw [if_pos hc]
      exact List.drop_eq_nil_of_le (by omega)
    · rw [if_neg hc]
      exact List.eq_nil_of_length_eq_zero (by omega)
  have hT : ∀ k (s : LE), (tellL k s).2.next = s.next ∧ (tellL k s).2.sent = s.sent := fun k => by
    induction k with
    | zero => intro s; exact ⟨rfl, rfl⟩
    | succ k ih =>
      intro s
      rw [tellL]
      split
      · exact ⟨rfl, rfl⟩
      · exact ih _
  by_cases hn : n = 0
  · subst hn
    have hc : hearL y f = (0, [], ackL y h) := by
      unfold hearL
      rw [hq]
      dsimp only
      rw [if_neg (by simp), if_neg (by omega), if_pos rfl]
    rw [hc]
    exact hA
  · rw [hearL_ok hq hB hn]
    dsimp only
    obtain ⟨t1, t2⟩ := hT 65 (putL (ackL y h) n b)
    obtain ⟨b1, b2, b3, b4, b5, b6⟩ := putL_eqs (ackL y h) n b
    rw [t1, t2, b2, b3]
    exact hA
/-- the whole, while frames are heard again -/
def RSt (w : World) (L W P1 P2 a Q1 Q2 ep n : Nat) (C : LE → LE → List BL → List BL → List BL → List BL → Prop) : Prop :=
  ∃ E Y U T tag B ways puts gots s t ps pt gs gt, NetM w L W E Y U T P1 P2 tag ways puts gots false ∧ Two w L B n Q1 Q2 s t ∧ B ≤ w.heap.size ∧
    w.cell? ⟨E, a, none⟩ = some (.pointer (some ⟨Q1, 0, none⟩)) ∧ w.cell? ⟨E, 1 - a, none⟩ = some (.pointer (some ⟨Q2, 0, none⟩)) ∧
    (puts[a]? = some ps ∧ puts[1 - a]? = some pt) ∧ (gots[a]? = some gs ∧ gots[1 - a]? = some gt) ∧ (Dir s t ps gt ∧ Dir t s pt gs ∧ s.ep = ep ∧ t.ep = ep ∧ ps.length ≤ 1000 ∧ pt.length ≤ 1000) ∧ C s t ps pt gs gt
theorem RSt.swap {w : World} {L W P1 P2 a Q1 Q2 ep n : Nat} {C : LE → LE → List BL → List BL → List BL → List BL → Prop} (h : RSt w L W P1 P2 a Q1 Q2 ep n C) (ha : a < 2) : RSt w L W P1 P2 (1 - a) Q2 Q1 ep n (fun s t ps pt gs gt => C t s pt ps gt gs) := by
  obtain ⟨E, Y, U, T, tag, B, ways, puts, gots, s, t, ps, pt, gs, gt, h1, h2, h3, h4, h5, h6, h7, ⟨d1, d2, d3, d4, d5, d6⟩, h9⟩ := h
  have e : 1 - (1 - a) = a := by omega
  exact ⟨E, Y, U, T, tag, B, ways, puts, gots, t, s, pt, ps, gt, gs, h1, h2.symm, h3, h5, by rw [e]; exact h4, ⟨h6.2, by rw [e]; exact h6.1⟩, ⟨h7.2, by rw [e]; exact h7.1⟩, ⟨d2, d1, d4, d3, d6, d5⟩, h9⟩
theorem RSt.imp {w : World} {L W P1 P2 a Q1 Q2 ep n n' : Nat} {C C' : LE → LE → List BL → List BL → List BL → List BL → Prop} (h : RSt w L W P1 P2 a Q1 Q2 ep n C) (hn : n ≤ n') (hC : ∀ s t ps pt gs gt, C s t ps pt gs gt → C' s t ps pt gs gt) : RSt w L W P1 P2 a Q1 Q2 ep n' C' := by
  obtain ⟨E, Y, U, T, tag, B, ways, puts, gots, s, t, ps, pt, gs, gt, h1, h2, h3, h4, h5, h6, h7, h8, h9⟩ := h
  exact ⟨E, Y, U, T, tag, B, ways, puts, gots, s, t, ps, pt, gs, gt, h1, h2.mono (Nat.le_refl _) hn, h3, h4, h5, h6, h7, h8, hC _ _ _ _ _ _ h9⟩
theorem RSt.of_nst {w : World} {L W P1 P2 a Q1 Q2 ep m n : Nat} (h : NSt w L W P1 P2 a Q1 Q2 ep m n) (hm : m ≤ 1000) : RSt w L W P1 P2 a Q1 Q2 ep n (fun _ _ _ _ _ _ => True) := by
  obtain ⟨E, Y, U, T, tag, B, ways, puts, gots, s, t, ws, wt, ps, pt, gs, gt, h1, h2, h3, h4, h5, h6, h7, h8, h9⟩ := h
  exact ⟨E, Y, U, T, tag, B, ways, puts, gots, s, t, ps, pt, gs, gt, h1, h2, h3, h4, h5, h7, h8, ⟨h9.d1, h9.d2, h9.e1, h9.e2, Nat.le_trans h9.p1 hm, Nat.le_trans h9.p2 hm⟩, trivial⟩
/-- behind j frames of a round: s0 is the sender ahead of it -/
structure Rnd (s0 : LE) (t : LE) (ps pt gs gt : List BL) (j : Nat) : Prop where
  runs : Runs s0 t ps pt [] gs s0.first j gt
  ack : 0 < j → s0.heard = pt.length → t.sent = []
theorem Rnd.start {s0 t : LE} {ps pt gs gt : List BL} (h1 : Dir s0 t ps gt) (h2 : Dir t s0 pt gs) (he : s0.ep = t.ep) : Rnd s0 t ps pt gs gt 0 := ⟨⟨h1, h2, he, .inl (by have := h1.acked; omega), by have := h1.acked; omega⟩, fun h => absurd h (by decide)⟩
theorem Rnd.step {s0 t : LE} {ps pt gs gt : List BL} {j : Nat} (h : Rnd s0 t ps pt gs gt j) (hok : LEok s0) (hokt : LEok t) {f : BL} (hf : (fromL s0 s0.first true).1[j]? = some f) :
    (∃ k, (hearL t f).2.1 = (ps.drop gt.length).take k ∧ (hearL t f).2.1.length = k) ∧ (hearL t f).1 = 0 ∧ Rnd s0 (hearL t f).2.2 ps pt gs (gt ++ (hearL t f).2.1) (j + 1) ∧ f.length ≤ 1048605 := by
  obtain ⟨hd, hr, ⟨h1, n, b, hq⟩, hl1, hl2⟩ := h.runs.step hok (Nat.le_refl _) hf
  refine ⟨hd.told, hd.code, ⟨hr, fun _ hh => ?_⟩, hl2⟩
  have hnx := h.runs.bwd.next
  have hr2 : ∃ n b, readL f = some (s0.ep, s0.heard, n, b) := by
    rcases from_frame h.runs.fwd hok (Nat.le_refl _) hf with ⟨_, e, _⟩ | ⟨b, _, e, _⟩
    · exact ⟨_, _, e⟩
    · exact ⟨_, _, e⟩
  obtain ⟨n', b', hq'⟩ := hr2
  rw [h.runs.ep] at hq'
  exact (hear_acks hokt hq' (by omega)).2 (by omega)
theorem Rnd.fin {s0 t : LE} {ps pt gs gt : List BL} (h : Rnd s0 t ps pt gs gt (fromL s0 s0.first true).1.length) : gt = ps ∧ (s0.heard = pt.length → t.sent = []) := by
  refine ⟨(h.runs.all (fun _ => h.runs.low)).1, fun e => h.ack ?_ e⟩
  have hcase : (fromL s0 s0.first true).1 = if (framesL s0 s0.first).isEmpty && true then [fr 2 [] [s0.ep, s0.heard]] else framesL s0 s0.first := rfl
  rw [hcase]
  split
  · simp
  · rename_i hne
    rcases hq : framesL s0 s0.first with _ | ⟨x, l⟩
    · rw [hq] at hne; simp at hne
    · simp
end Go.Proofs.Ytigmmikijjcdiaa
