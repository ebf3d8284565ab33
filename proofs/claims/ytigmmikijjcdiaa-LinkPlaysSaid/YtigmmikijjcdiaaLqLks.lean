/- A message is sent: Send. (printed by gen/lks.py) -/
import Derived.Test.YtigmmikijjcdiaaProg
import Derived.Test.YtigmmikijjcdiaaLqLka
import Derived.Test.YtigmmikijjcdiaaLqFwr
import Derived.Test.YtigmmikijjcdiaaLqReg
import Derived.Test.YtigmmikijjcdiaaLqRgl
import Derived.Test.YtigmmikijjcdiaaLqOap
import Derived.Deep.DeepCutAuto
import Derived.Lib.Hide
import Derived.WalkSpells
import Derived.WalkMore
import Derived.IntWalk











namespace Go.Proofs.Ytigmmikijjcdiaa
open Go.RowKit
set_option linter.unusedVariables false
set_option linter.unusedSimpArgs false
theorem row_ne {w : World} {g h : Nat} {c d : Array Value} {T U : TypeId} {x y : Nat × Nat} (h1 : w.heap[g]? = some (.cells c T x)) (h2 : w.heap[h]? = some (.cells d U y)) (hT : T ≠ U) : g ≠ h := by
  rintro rfl
  rw [h1] at h2
  injection h2 with h2
  injection h2 with _ h2
  exact hT h2
theorem below_dr {B : Nat} {a w : World} (h : Below B a.drew w) : Below B a w := ⟨h.os, h.tape, h.output, h.size, h.block⟩
theorem not_inO {G : Option Nat} {g : Nat} (h : G ≠ some g) : g ∉ G.toList := by
  cases G with
  | none => simp
  | some x =>
    intro hm
    simp at hm
    exact h (by rw [hm])
theorem in_O {G : Option Nat} {g : Nat} (h : g ∈ G.toList) : G = some g := by
  cases G with
  | none => simp at h
  | some x =>
    simp at h
    rw [h]
theorem ByV.row {w : World} {own : Nat → Option (Bool × Nat)} {tg : Bool × Nat} {v : Value} {b : BL} (h : ByV w own tg v b) : Rd w w.heap.size (match v with | .slice A _ _ => A | _ => none) (u8s b) := by
  obtain ⟨⟨A, c, rfl⟩, h⟩ := h
  by_cases hb : b = []
  · subst hb
    exact Rd.nil_
  · exact Rd.of_own (h hb).1
/-- behind Send -/
def SendPost (w : World) (P M : Nat) (G : Option Nat) (own : Nat → Option (Bool × Nat)) (k : Nat) (s : LE) (b : BL) (e : Ending) (w' : World) : Prop :=
  e = .returned (.int .i64 (sendL s b).1) ∧ ∃ G' own', EndM w' P M G' own' k (sendL s b).2 ∧ KB (P :: G.toList) w w' ∧ (G' = G ∨ ∃ g, G' = some g ∧ w.heap.size ≤ g) ∧ ∀ g, own' g = own g ∨ w.heap.size ≤ g
theorem send_fin {w z y wf : World} {P M : Nat} {G G' : Option Nat} {own : Nat → Option (Bool × Nat)} {k : Nat} {s : LE} {b : BL} {sv v' : Value} {vs : List Value} {f : Nat → Option Value} {D : DataW Value} {A : Option Addr} {c : Nat}
    (h0 : LEok s) (h1 : ∀ g, own g ≠ none → g < w.heap.size) (h2 : w.heap[P]? = some (.cells #[.int .i64 (s.ep : Int), sv, .int .i64 (s.next : Int), .int .i64 (s.heard : Int), .int .i64 (s.fresh : Int), .bool s.owes, .map (some M)] 67 (0, 0))) (h3 : SRow w G sv vs) (h4 : vs.length = s.sent.length ∧ ∀ i v b, vs[i]? = some v → s.sent[i]? = some b → ByV w own (true, s.first + i) v b)
    (h6 : w.ownsMap Try.prog 2 heldElem M k D ∧ AhIs D f) (h8 : ∀ n, (f n).isSome = (s.ahead n).isSome) (h9 : ∀ n v b, f n = some v → s.ahead n = some b → ByV w own (false, n) v b)
    (hb : b.length ≤ 1048576) (hn : s.next < 1000000) (hl : s.sent.length < 64) (hz : Below w.heap.size w z) (hv : z.ownsRow w.heap.size 5 1 (.slice A b.length c) b.length (u8s b))
    (hy : SRow y G' v' (vs ++ [.slice A b.length c])) (hk : KB G.toList z y) (hG : G' = G ∨ ∃ g, G' = some g ∧ z.heap.size ≤ g)
    (hf : wf.heap[P]? = some (.cells #[.int .i64 (s.ep : Int), v', .int .i64 ((s.next : Int) + 1), .int .i64 (s.heard : Int), .int .i64 (s.fresh : Int), .bool s.owes, .map (some M)] 67 (0, 0))) (hfo : ∀ g, g ≠ P → wf.heap[g]? = y.heap[g]?) (hfs : wf.heap.size = y.heap.size) (hfe : Env y wf) :
    SendPost w P M G own k s b (.returned (.int .i64 0)) wf := by
  have hs : sendL s b = (0, { s with sent := s.sent ++ [b], next := s.next + 1 }) := by unfold sendL; rw [if_neg (by unfold mostL; omega), if_neg (by omega)]
  have hP := lt_of_block h2
  have hsz := hz.size
  have hsy := hk.1
  have hkp : ∀ g, g < w.heap.size → g ≠ P → G ≠ some g → wf.heap[g]? = w.heap[g]? := fun g hg hp hx => (hfo g hp).trans ((hk.2 g (by omega) (not_inO hx)).trans (hz.block g hg))
  have hvb : ∀ g, (Value.slice A b.length c).ownBlock = some g → w.heap.size ≤ g ∧ g < z.heap.size := fun g hg => hv.lt g hg
  have hpg : ∀ g, G = some g → g ≠ P ∧ g ≠ M := fun g hg => by
    obtain ⟨cur, hc⟩ := h3.blk g hg
    refine ⟨row_ne hc h2 (by decide), ?_⟩
    rintro rfl
    obtain ⟨es, clock, hm, _⟩ := h6.1
    rw [hc] at hm
    cases hm
  have hpm : M ≠ P := by
    rintro rfl
    obtain ⟨es, clock, hm, _⟩ := h6.1
    rw [h2] at hm
    cases hm
  have hby : ∀ tg v b', ByV w own tg v b' → ByV wf (fun g => if (Value.slice A b.length c).ownBlock = some g then some (true, s.next) else own g) tg v b' := fun tg v b' h => h.keep fun g cur hg hc => by
    have hgw := lt_of_block hc
    refine ⟨hkp g hgw (row_ne hc h2 (by decide)) (fun e => ?_), ?_⟩
    · obtain ⟨cur', hc'⟩ := h3.blk g e
      exact row_ne hc hc' (by decide) rfl
    · rw [if_neg (fun e => by have := hvb g e; omega)]
      exact hg
  unfold SendPost
  rw [hs]
  have hfirst : ({ s with sent := s.sent ++ [b], next := s.next + 1 } : LE).first = s.first := by unfold LE.first; simp
  have hft := h0.first
  refine ⟨rfl, G', fun g => if (Value.slice A b.length c).ownBlock = some g then some (true, s.next) else own g, ⟨⟨h0.ep, by simp; omega, by simp; omega, by rw [hfirst]; exact h0.fresh1, Nat.le_trans h0.fresh2 (Nat.le_succ _), by show s.next + 1 ≤ _; omega, h0.heard, fun x hx => ?_, h0.ahead⟩, fun g hg => ?_, v', vs ++ [.slice A b.length c], f, D, hf, ?_, ⟨by simp [h4.1], fun i v x hi hx => ?_⟩, ⟨map_keep h6.1 (hkp M (map_lt h6.1) hpm (fun e => (hpg M e).2 rfl)), h6.2⟩, h8, fun n v x hx hy => hby _ _ _ (h9 n v x hx hy)⟩, ⟨by omega, fun g hg hx => hkp g hg (fun e => hx (by rw [e]; exact List.mem_cons_self)) (fun e => hx (List.mem_cons_of_mem _ (by rw [e]; simp))), (Env.of_below hz).trans (hk.3.trans hfe)⟩, ?_, fun g => ?_⟩
  · rcases List.mem_append.1 hx with hx | hx
    · exact h0.bytes x hx
    · simp at hx; subst hx; exact hb
  · dsimp only at hg
    by_cases e : (Value.slice A b.length c).ownBlock = some g
    · have := (hvb g e).2; omega
    · rw [if_neg e] at hg
      have := h1 g hg
      omega
  · refine hy.keep fun g hg hl => hfo g ?_
    rintro rfl
    rcases hG with hG | ⟨g', hG, hl'⟩
    · exact (hpg g (by rw [← hG]; exact hg)).1 rfl
    · rw [hG] at hg
      injection hg with hg
      omega
  · rw [hfirst]
    rcases Nat.lt_or_ge i vs.length with hi' | hi'
    · rw [List.getElem?_append_left hi'] at hi
      rw [List.getElem?_append_left (by rw [← h4.1]; exact hi')] at hx
      exact hby _ _ _ (h4.2 i v x hi hx)
    · have hil := (List.getElem?_eq_some_iff.1 hi).1
      rw [List.length_append] at hil
      obtain rfl : i = vs.length := by simp at hil; omega
      rw [List.getElem?_append_right (Nat.le_refl _)] at hi
      rw [h4.1, List.getElem?_append_right (Nat.le_refl _)] at hx
      simp at hi hx
      subst hi hx
      refine ⟨⟨A, c, rfl⟩, fun _ => ⟨?_, fun g hg => ?_⟩⟩
      · refine own_same (own_base hv (Nat.zero_le _)) fun g hg => ?_
        have hg' := hvb g hg
        refine (hfo g (by omega)).trans (hk.2 g hg'.2 fun e => ?_)
        have hGg : G = some g := in_O e
        obtain ⟨cur, hc⟩ := h3.blk g hGg
        have := lt_of_block hc
        omega
      · dsimp only
        rw [if_pos hg, h4.1]
        have : s.first + s.sent.length = s.next := by unfold LE.first; omega
        rw [this]
  · rcases hG with hG | ⟨g', hG, hl'⟩
    · exact .inl hG
    · exact .inr ⟨g', hG, by omega⟩
  · dsimp only
    by_cases e : (Value.slice A b.length c).ownBlock = some g
    · exact .inr (hvb g e).1
    · rw [if_neg e]
      exact .inl rfl
set_option maxRecDepth 100000 in
set_option maxHeartbeats 16000000 in
theorem send_any (w : World) {P M : Nat} {G : Option Nat} {own : Nat → Option (Bool × Nat)} {k : Nat} {s : LE} (h : EndM w P M G own k s) (A : Option Addr) (b : BL) (c : Nat) (hR : Rd w w.heap.size A (u8s b)) (hb : b.length ≤ 100000000) (hn : s.next < 1000000) :
    Calls Try.prog 10 #[.pointer (some ⟨P, 0, none⟩), .slice A b.length c] w (SendPost w P M G own k s b) := by
  have HB := hide h
  obtain ⟨h0, h1, sv, vs, f, D, h2, h3, h4, h6, h8, h9⟩ := h
  obtain ⟨Av, cv, rfl, -⟩ := id h3
  obtain ⟨ns, hns⟩ : ∃ x, vs.length = x := ⟨_, rfl⟩
  rw [hns] at h2 h3
  have HNS := hide hns
  have e1 : w.cell? ⟨P, 1, none⟩ = some (.slice Av ns cv) := cell_of_row _ _ 1 _ _ _ h2
  have e2 : w.cell? ⟨P, 2, none⟩ = some (.int .i64 (s.next : Int)) := cell_of_row _ _ 2 _ _ _ h2
  have hsn : ns = s.sent.length := hns.symm.trans h4.1
  obtain ⟨m, hm⟩ : ∃ x, b.length = x := ⟨_, rfl⟩
  rw [hm] at hb ⊢
  have HM := hide hm
  have HR := hide hR
  have H0 := hide h0
  have H1 := hide h1
  have H2 := hide h2
  have H3 := hide h3
  have H4 := hide h4
  have H6 := hide h6
  have H8 := hide h8
  have H9 := hide h9
  have hP : P < w.heap.size := lt_of_block h2
  have hns64 : ns ≤ 64 := by rw [hsn]; exact h0.sent
  obtain ⟨nx0, hnx⟩ : ∃ x, s.next = x := ⟨_, rfl⟩
  rw [hnx] at e2 hn
  have HNX := hide hnx
  have HSN := hide hsn
  clear h0 h1 h2 h3 h4 h6 h8 h9 hR hm hns hsn hnx
  by_cases c1 : 1048576 < m
  · have HS : Hid (sendL s b = (3, s)) := hide (by unfold sendL; rw [if_pos (.inl (by rw [HM.out]; exact c1))])
    have d1 : (1048576 : Int) < (m : Int) := by omega
    go_enter Try.func10, Try.ntmps10
    go_wp2
    go_ret
    exact (show sendL s b = (3, s) → SendPost w P M G own k s b (.returned (.int .i64 3)) w from fun e9 => ⟨by rw [e9], by rw [e9]; exact ⟨G, own, HB.out, KB.refl _ _, .inl rfl, fun _ => .inl rfl⟩⟩) HS.out
  have d1 : ¬ (1048576 : Int) < (m : Int) := by omega
  have d2 : ¬ (4611686018427387904 : Int) ≤ (nx0 : Int) := by omega
  by_cases c2 : 64 ≤ ns
  · have HS : Hid (sendL s b = (161, s)) := hide (by unfold sendL; rw [if_neg (by rw [HM.out, HNX.out]; unfold mostL; omega), if_pos (by rw [← HSN.out]; exact c2)])
    have d3 : (64 : Int) ≤ (ns : Int) := by omega
    go_enter Try.func10, Try.ntmps10
    go_wp2
    go_ret
    exact (show sendL s b = (161, s) → SendPost w P M G own k s b (.returned (.int .i64 161)) w from fun e9 => ⟨by rw [e9], by rw [e9]; exact ⟨G, own, HB.out, KB.refl _ _, .inl rfl, fun _ => .inl rfl⟩⟩) HS.out
  have d3 : ¬ (64 : Int) ≤ (ns : Int) := by omega
  have hcl := clone_any w.drew A b c HR.out (by rw [HM.out]; omega)
  rw [HM.out] at hcl
  have HCl := hide hcl
  clear hcl
  obtain ⟨a3, a3i, a3z, a3s, a3b⟩ := info_parts (show (Try.prog.info? 23).map (fun i => (i.zero, i.size, i.bytes)) = some (some (.slice none 0 0), 1, 24) by kernel_rfl)
  go_enter Try.func10, Try.ntmps10
  go_upto_region 7 with fail
  refine wpL_region (S := Kept w) [8, 11] (by kernel_rfl) (Kept.drew w) (fun hS0 => ?_)
  refine takeW_at (i := 0) (d := 26) (v := ?_) (by simp only [List.getElem?_toArray, List.getElem?_cons_succ, List.getElem?_cons_zero]; rfl) rfl (by kernel_rfl) (by kernel_rfl) (by kernel_rfl) (fun _ _ _ h => h) rfl ?_ ?_
  rotate_left
  focus (intro w; go_simp; (try with_reducible rfl); done)
  try simp only [List.setIfInBounds_toArray, List.set_cons_zero, List.set_cons_succ]
  refine takeW_at (i := 1) (d := 27) (v := ?_) (by simp only [List.getElem?_toArray, List.getElem?_cons_succ, List.getElem?_cons_zero]; rfl) rfl (by kernel_rfl) (by kernel_rfl) (by kernel_rfl) (fun _ _ _ h => h) rfl ?_ ?_
  rotate_left
  focus (intro w; go_simp; (try with_reducible rfl); done)
  try simp only [List.setIfInBounds_toArray, List.set_cons_zero, List.set_cons_succ]
  refine takeW_at (i := 2) (d := 28) (v := ?_) (by simp only [List.getElem?_toArray, List.getElem?_cons_succ, List.getElem?_cons_zero]; rfl) rfl (by kernel_rfl) (by kernel_rfl) (by kernel_rfl) (fun _ _ _ h => h) rfl ?_ ?_
  rotate_left
  focus (intro w; go_simp; (try with_reducible rfl); done)
  try simp only [List.setIfInBounds_toArray, List.set_cons_zero, List.set_cons_succ]
  refine takeW_at (i := 3) (d := 29) (v := ?_) (by simp only [List.getElem?_toArray, List.getElem?_cons_succ, List.getElem?_cons_zero]; rfl) rfl (by kernel_rfl) (by kernel_rfl) (by kernel_rfl) (fun _ _ _ h => h) rfl ?_ ?_
  rotate_left
  focus (intro w; go_simp; (try with_reducible rfl); done)
  try simp only [List.setIfInBounds_toArray, List.set_cons_zero, List.set_cons_succ]
  refine takeL_at (i := 4) (d := 30) (v := ?_) (by simp only [List.getElem?_toArray, List.getElem?_cons_succ, List.getElem?_cons_zero]; rfl) rfl (by kernel_rfl) (by kernel_rfl) (by kernel_rfl) (by kernel_rfl) (fun _ _ _ h => h) rfl ?_ (by assumption) ?_
  rotate_left
  focus (intro w hSw; go_simp; (try with_reducible rfl); done)
  try simp only [List.setIfInBounds_toArray, List.set_cons_zero, List.set_cons_succ]
  refine takeW_at (i := 5) (d := 31) (v := ?_) (by simp only [List.getElem?_toArray, List.getElem?_cons_succ, List.getElem?_cons_zero]; rfl) rfl (by kernel_rfl) (by kernel_rfl) (by kernel_rfl) (fun _ _ _ h => h) rfl ?_ ?_
  rotate_left
  focus (intro w; go_simp; (try with_reducible rfl); done)
  try simp only [List.setIfInBounds_toArray, List.set_cons_zero, List.set_cons_succ]
  refine callL_at (i := 6) (d := 32) (by simp only [List.getElem?_toArray, List.getElem?_cons_succ, List.getElem?_cons_zero]; rfl) rfl (by kernel_rfl) rfl (fun K hK => ?_)
  go_simp
  refine HCl.out.mono ?_
  rintro e w1 ⟨⟨A1, c1, rfl, ho⟩, hb1⟩
  have HB1 := hide (show Below w.heap.size w w1 from (below_dr hb1))
  have HO1 := hide ho
  have hS1 : Kept w w1 := Kept.of_below HB1.out
  clear ho hb1
  go_wp2_with fail
  refine hK.out _ _ hS1 (fun hSn => ?_)
  clear hK K
  try simp only [List.setIfInBounds_toArray, List.set_cons_zero, List.set_cons_succ]
  refine callL_at (i := 7) (d := 33) (by simp only [List.getElem?_toArray, List.getElem?_cons_succ, List.getElem?_cons_zero]; rfl) rfl (by kernel_rfl) rfl (fun K hK => ?_)
  go_simp
  try rw [HM.out]
  obtain ⟨z, hz⟩ : ∃ z, w1.alloc (.cells #[.slice A1 m c1] 23) = z := ⟨_, rfl⟩
  have HZ : Hid (z.heap[w1.heap.size]? = some (.cells #[.slice A1 m c1] 23)) := hide (by rw [← hz]; exact heap_alloc_last _ _)
  have HBz := hide (show Below w.heap.size w z by rw [← hz]; exact HB1.out.alloc HB1.out.size _)
  have HOz : Hid (z.ownsRow w.heap.size 5 1 (.slice A1 m c1) m (u8s b)) := hide (by rw [← hz]; exact HO1.out.alloc _)
  have hS2 : Kept w z := Kept.of_below HBz.out
  rw [hz]
  clear hz
  refine hK.out _ _ hS2 (fun hSn => ?_)
  clear hK K
  try simp only [List.setIfInBounds_toArray, List.set_cons_zero, List.set_cons_succ]
  refine exL_at (i := 8) (by simp only [List.getElem?_toArray, List.getElem?_cons_succ, List.getElem?_cons_zero]; rfl) (by kernel_rfl) rfl (by kernel_rfl) (fun K hK => ?_)
  refine op_srow (.tmp 30) (.tmp 33) 22 rfl a3 (.slice none 0 0) Try.underlying22 a3i a3z a3s a3b rfl (.slice Av ns cv) G vs rfl (H3.out.keep fun g hg hl => HBz.out.block g hl) ⟨w1.heap.size, 0, none⟩ 1 (.slice A1 m c1) rfl (cell_of_row _ _ 0 _ _ _ HZ.out) (by simp [Value.oneCell']) (by rw [HNS.out]; omega) ?_
  intro v' y G' hy hk hg
  obtain ⟨Ax, cx, hv', -⟩ := id hy
  obtain ⟨nl, hnl⟩ : ∃ x, (vs ++ [Value.slice A1 m c1]).length = x := ⟨_, rfl⟩
  rw [hnl] at hv'
  subst hv'
  clear hnl
  have HY := hide hy
  have HK := hide hk
  have HG := hide hg
  have hPy : y.heap[P]? = z.heap[P]? := hk.2 P (Nat.lt_of_lt_of_le hP HBz.out.size) (not_inO (fun e => by obtain ⟨cur, hc⟩ := H3.out.blk P e; exact row_ne hc H2.out (by decide) rfl))
  have HPy := hide (hPy.trans ((HBz.out.block P hP).trans H2.out))
  have f1 : y.frozen? ⟨P, 1, none⟩ = false := frozen_of_row _ _ 1 _ _ HPy.out
  have g1 : y.cell? ⟨P, 1, none⟩ = some (.slice Av ns cv) := cell_of_row _ _ 1 _ _ _ HPy.out
  clear hy hk hg hPy
  refine hK.out _ _ ?_
  clear hK K
  simp only [Act.put]
  try simp only [List.setIfInBounds_toArray, List.set_cons_zero, List.set_cons_succ]
  refine takeW_at (i := 9) (d := 35) (v := ?_) (by simp only [List.getElem?_toArray, List.getElem?_cons_succ, List.getElem?_cons_zero]; rfl) rfl (by kernel_rfl) (by kernel_rfl) (by kernel_rfl) (fun _ _ _ h => h) rfl ?_ ?_
  rotate_left
  focus (intro w; go_simp; (try with_reducible rfl); done)
  try simp only [List.setIfInBounds_toArray, List.set_cons_zero, List.set_cons_succ]
  refine takeW_at (i := 10) (d := 36) (v := ?_) (by simp only [List.getElem?_toArray, List.getElem?_cons_succ, List.getElem?_cons_zero]; rfl) rfl (by kernel_rfl) (by kernel_rfl) (by kernel_rfl) (fun _ _ _ h => h) rfl ?_ ?_
  rotate_left
  focus (intro w; go_simp; (try with_reducible rfl); done)
  try simp only [List.setIfInBounds_toArray, List.set_cons_zero, List.set_cons_succ]
  refine exL_at (i := 11) (by simp only [List.getElem?_toArray, List.getElem?_cons_succ, List.getElem?_cons_zero]; rfl) (by kernel_rfl) rfl (by kernel_rfl) (fun K hK => ?_)
  go_wp2_with fail
  refine hK.out _ _ ?_
  clear hK K
  try simp only [List.setIfInBounds_toArray, List.set_cons_zero, List.set_cons_succ]
  refine wpAnyL_done (by kernel_rfl) ?_ _
  obtain ⟨u, hu⟩ : ∃ u, y.setCell ⟨P, 1, none⟩ (.slice Ax nl cx) = u := ⟨_, rfl⟩
  have HPu : Hid (u.heap[P]? = some (.cells #[.int .i64 (s.ep : Int), .slice Ax nl cx, .int .i64 (s.next : Int), .int .i64 (s.heard : Int), .int .i64 (s.fresh : Int), .bool s.owes, .map (some M)] 67)) := hide (by rw [← hu]; exact heap_setCell_same _ P 1 _ _ (.slice Ax nl cx) HPy.out)
  have HUo : Hid (∀ g, g ≠ P → u.heap[g]? = y.heap[g]?) := hide (fun g hg => by rw [← hu]; exact Below.heap_setCell _ _ _ _ hg)
  have HUs : Hid (u.heap.size = y.heap.size) := hide (by rw [← hu]; exact World.size_setCell _ _ _)
  have HUe : Hid (Env y u) := hide (by rw [← hu]; exact (Env.refl _).setCell _ _)
  rw [hu]
  clear hu f1 g1
  have f2 : u.frozen? ⟨P, 2, none⟩ = false := frozen_of_row _ _ 2 _ _ HPu.out
  have g2 : u.cell? ⟨P, 2, none⟩ = some (.int .i64 (nx0 : Int)) := by rw [← HNX.out]; exact cell_of_row _ _ 2 _ _ _ HPu.out
  have HFin : Hid (SendPost w P M G own k s b (.returned (.int .i64 0)) (u.setCell ⟨P, 2, none⟩ (.int .i64 ((nx0 : Int) + 1)))) := hide (send_fin H0.out H1.out H2.out H3.out H4.out H6.out H8.out H9.out (by rw [HM.out]; omega) (by rw [HNX.out]; exact hn) (by rw [← HSN.out]; omega) HBz.out (by rw [HM.out]; exact HOz.out) (by rw [HM.out]; exact HY.out) HK.out HG.out (by rw [← HNX.out]; exact heap_setCell_same _ P 2 _ _ _ HPu.out) (fun g hg => (Below.heap_setCell _ _ _ _ hg).trans (HUo.out g hg)) ((World.size_setCell _ _ _).trans HUs.out) (HUe.out.setCell _ _))
  go_wp2
  go_ret
  exact HFin.out
end Go.Proofs.Ytigmmikijjcdiaa
