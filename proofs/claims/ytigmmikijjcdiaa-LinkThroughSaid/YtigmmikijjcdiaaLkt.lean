/- A turn of LinkThrough, in plain Lean. -/
import Derived.Test.YtigmmikijjcdiaaProg
import Derived.Test.YtigmmikijjcdiaaLki
namespace Go.Proofs.Ytigmmikijjcdiaa
set_option linter.unusedVariables false
set_option linter.unusedSimpArgs false
/-- s0 messages have gone all the way, i more wait -/
structure TSt (bs : List BL) (s0 i : Nat) (x y : LE) : Prop where
  fwd : Dir x y (bs.take (s0 + i)) (bs.take s0)
  bwd : Dir y x [] []
  xo : x.owes = false
  yo : y.owes = false
  slen : x.sent.length = i
  fresh : x.fresh = s0 + 1
  ep : x.ep = y.ep
theorem TSt.start (ep : Nat) (bs : List BL) : TSt bs 0 0 (openL ep) (openL ep) := ⟨by simpa using Dir.open_ ep ep, Dir.open_ ep ep, rfl, rfl, rfl, rfl, rfl⟩
theorem take_len {bs : List BL} {k : Nat} (h : k ≤ bs.length) : (bs.take k).length = k := by rw [List.length_take]; omega
theorem TSt.send {bs : List BL} {s0 i : Nat} {x y : LE} (h : TSt bs s0 i x y) {b : BL} (hb : bs[s0 + i]? = some b) (hl : b.length ≤ 1048576) (hi : i < 64) (hn : bs.length ≤ 64) : (sendL x b).1 = 0 ∧ TSt bs s0 (i + 1) (sendL x b).2 y := by
  have hlt := (List.getElem?_eq_some_iff.1 hb).1
  have hnx := h.fwd.next
  rw [take_len (by omega)] at hnx
  have hs : sendL x b = (0, { x with sent := x.sent ++ [b], next := x.next + 1 }) := by
    unfold sendL
    rw [if_neg (by unfold mostL; omega), if_neg (by rw [h.slen]; omega)]
  rcases send_dir h.fwd b hl (by unfold mostL; omega) with ⟨h1, h2⟩ | ⟨h1, _⟩
  · refine ⟨h1, ⟨?_, send_back h.bwd b, by rw [hs]; exact h.xo, h.yo, by rw [hs]; simp [h.slen], by rw [hs]; exact h.fresh, by rw [hs]; exact h.ep⟩⟩
    have : bs.take (s0 + (i + 1)) = bs.take (s0 + i) ++ [b] := by
      rw [show s0 + (i + 1) = s0 + i + 1 by omega, List.take_add_one, hb]
      rfl
    rw [this]
    exact h2
  · rw [hs] at h1
    cases h1
theorem TSt.first {bs : List BL} {s0 i : Nat} {x y : LE} (h : TSt bs s0 i x y) (hl : s0 + i ≤ bs.length) : x.first = s0 + 1 ∧ x.next = s0 + i + 1 ∧ y.heard = s0 := by
  have h1 := h.fwd.first
  have h2 := h.fwd.next
  have h3 := h.fwd.heard
  rw [take_len hl] at h1 h2
  rw [take_len (by omega)] at h3
  have := h.slen
  exact ⟨by omega, h2, h3⟩
/-- behind j frames of the turn -/
structure TRun (bs : List BL) (s0 i : Nat) (x y : LE) (j : Nat) (gj : List BL) : Prop where
  runs : Runs x y (bs.take (s0 + i)) [] (bs.take s0) [] (s0 + 1) j gj
  owes : y.owes = decide (0 < j)
theorem TSt.run {bs : List BL} {s0 i : Nat} {x y : LE} (h : TSt bs s0 i x y) (hl : s0 + i ≤ bs.length) : TRun bs s0 i x y 0 (bs.take s0) := ⟨Runs.start h.fwd h.bwd h.ep (by have := (h.first hl).2.2; omega), h.yo⟩
theorem TRun.step {bs : List BL} {s0 i : Nat} {x y0 y : LE} {j : Nat} {gj : List BL} (h0 : TSt bs s0 i x y0) (hl : s0 + i ≤ bs.length) (hok : LEok x) (h : TRun bs s0 i x y j gj) {f : BL} (hf : (fromL x x.fresh x.owes).1[j]? = some f) :
    (hearL y f).1 = 0 ∧ TRun bs s0 i x (hearL y f).2.2 (j + 1) (gj ++ (hearL y f).2.1) ∧ (∀ k b, (hearL y f).2.1[k]? = some b → bs[gj.length + k]? = some b) ∧ f.length ≤ 3000000 ∧ f ≠ [] ∧ gj.length = y.heard := by
  rw [h0.fresh, h0.xo] at hf
  have hff := (h0.first hl).1
  obtain ⟨hd, hr, _, hl1, hl2⟩ := h.runs.step hok (by omega) hf
  refine ⟨hd.code, ⟨hr, ?_⟩, fun k b hk => ?_, by omega, by rintro rfl; simp at hl1, by rw [h.runs.fwd.heard]⟩
  · rw [decide_eq_true (by omega)]
    have hfr := from_frame h.runs.fwd hok (by omega) hf
    have hnack : ¬ (x.next ≤ s0 + 1 ∧ True) ∨ True := .inr trivial
    rcases hfr with ⟨e, hq, hn⟩ | ⟨b, e, hq, hn, h1, h2, hb⟩
    · exfalso
      have hcase : (fromL x (s0 + 1) false).1 = framesL x (s0 + 1) := by unfold fromL; simp
      rw [hcase] at hf
      have := (List.getElem?_eq_some_iff.1 hf).1
      unfold framesL at this
      rw [List.length_map, List.length_range'] at this
      omega
    · have hB : x.heard < y.next := by
        have h1 := h.runs.bwd.next
        have h2 := h.runs.bwd.heard
        simp at h1 h2
        omega
      have hc := hearL_ok (s := y) (f := f) (by rw [← h.runs.ep]; exact hq) hB (by omega)
      rw [hc]
      dsimp only
      obtain ⟨_, _, _, _, _, _, _, _, _, _, t10⟩ := tell_dir (p := bs.take (s0 + i)) 65 (putL (ackL y x.heard) (s0 + 1 + j) b) (by
        rw [(putL_eqs _ _ _).2.2.2.1, (ackL_eqs y x.heard).2.2.1, h.runs.fwd.heard]
        exact h.runs.fwd.glen) (fun m c hm => by
        rcases putL_ahead hm with h' | ⟨rfl, rfl⟩
        · rw [(ackL_eqs y x.heard).2.2.2.2] at h'
          exact h.runs.fwd.ahead m c h'
        · exact h2)
      rw [t10]
      exact (putL_eqs _ _ _).2.2.2.2.1
  · obtain ⟨n, e, _⟩ := hd.told
    rw [e, List.getElem?_take] at hk
    split at hk
    · rw [List.getElem?_drop, List.getElem?_take] at hk
      split at hk
      · exact hk
      · cases hk
    · cases hk
theorem TSt.frames {bs : List BL} {s0 i : Nat} {x y : LE} (h : TSt bs s0 i x y) (hl : s0 + i ≤ bs.length) : (fromL x x.fresh x.owes).1.length = i := by
  rw [h.fresh, h.xo]
  have hcase : (fromL x (s0 + 1) false).1 = framesL x (s0 + 1) := by unfold fromL; simp
  rw [hcase]
  unfold framesL
  rw [List.length_map, List.length_range']
  have := (h.first hl).2.1
  omega
/-- the turn's end: the ack -/
theorem TRun.fin {bs : List BL} {s0 i : Nat} {x y0 y : LE} {gj : List BL} (h0 : TSt bs s0 i x y0) (hl : s0 + i ≤ bs.length) (h : TRun bs s0 i x y i gj) (hok : LEok x) (hoky : LEok y) :
    gj.length = s0 + i ∧
    ((i = 0 ∧ (fromL y y.fresh y.owes).1 = [] ∧ TSt bs (s0 + i) 0 (fromL x x.fresh x.owes).2 (fromL y y.fresh y.owes).2) ∨
     (0 < i ∧ ∃ f, (fromL y y.fresh y.owes).1 = [f] ∧ f.length ≤ 3000000 ∧ f ≠ [] ∧ (hearL (fromL x x.fresh x.owes).2 f).1 = 0 ∧ (hearL (fromL x x.fresh x.owes).2 f).2.1 = [] ∧ TSt bs (s0 + i) 0 (hearL (fromL x x.fresh x.owes).2 f).2.2 (fromL y y.fresh y.owes).2)) := by
  obtain ⟨e1, e2, e3⟩ := h0.first hl
  have hall := Runs.all (ack := false) (by
    have h' := h.runs
    have hfl := h0.frames hl
    rw [h0.fresh, h0.xo] at hfl
    rw [hfl]
    exact h') (fun _ => h.runs.low)
  obtain ⟨rfl, hyh⟩ := hall
  rw [take_len hl] at hyh
  have hyn := h.runs.bwd.next
  have hys := h.runs.bwd.slen
  simp at hyn hys
  have hyf : y.first = 1 := by unfold LE.first; rw [hyn, hys]; rfl
  have hfr : y.fresh = 1 := by have := hoky.fresh1; have := hoky.fresh2; omega
  have hfs : framesL y 1 = [] := by unfold framesL; rw [hyn]; rfl
  refine ⟨take_len hl, ?_⟩
  rw [h.owes, hfr, h0.fresh, h0.xo]
  have hX : (fromL x (s0 + 1) false).2 = { x with owes := false, fresh := x.next } := by
    unfold fromL
    dsimp only
    rw [h0.xo]
    rfl
  rcases Nat.eq_zero_or_pos i with rfl | hi
  · refine .inl ⟨rfl, ?_, ?_⟩
    · unfold fromL; rw [hfs]; rfl
    · rw [hX]
      have hY : (fromL y 1 (decide (0 < 0))).2 = { y with owes := false, fresh := y.next } := by
        unfold fromL
        dsimp only
        rw [show y.owes = false by rw [h.owes]; rfl]
        rfl
      rw [hY]
      have hd := h.runs.fwd
      have hb := h.runs.bwd
      exact ⟨⟨hd.next, hd.slen, hd.sent, hd.heard, hd.glen, by simpa using hd.got, hd.ahead, hd.acked⟩, ⟨hb.next, hb.slen, hb.sent, hb.heard, hb.glen, hb.got, hb.ahead, hb.acked⟩, rfl, rfl, h0.slen, e2, h.runs.ep⟩
  · right
    refine ⟨hi, fr 2 [] [y.ep, y.heard], ?_, by rw [fr_len]; simp, ?_, ?_⟩
    · unfold fromL; rw [hfs, decide_eq_true hi]; rfl
    · intro e
      have := congrArg List.length e
      rw [fr_len] at this
      simp at this
    · have hq : readL (fr 2 [] [y.ep, y.heard]) = some (y.ep, y.heard, 0, []) := read_ack hoky.ep (by have := hoky.heard; unfold mostL; omega)
      have hX2 : (fromL x (s0 + 1) false).2.first = s0 + 1 := by rw [hX]; exact e1
      have hh : hearL (fromL x (s0 + 1) false).2 (fr 2 [] [y.ep, y.heard]) = (0, [], ackL (fromL x (s0 + 1) false).2 y.heard) := by
        unfold hearL
        rw [hq]
        dsimp only
        rw [if_neg (by rw [hX]; simp; exact h.runs.ep.symm), if_neg (by rw [hX]; dsimp only; omega), if_pos rfl]
      rw [hh]
      refine ⟨rfl, rfl, ?_⟩
      have hY : (fromL y 1 (decide (0 < i))).2 = { y with owes := false, fresh := y.next } := by
        unfold fromL
        dsimp only
        rw [hfs, decide_eq_true hi]
        simp
      have hA : ackL (fromL x (s0 + 1) false).2 y.heard = { x with owes := false, sent := [], fresh := x.next } := by
        unfold ackL
        rw [if_pos (by rw [hX2]; omega), hX2, hX]
        dsimp only
        rw [List.drop_eq_nil_of_le (by rw [h0.slen]; omega)]
        rw [show max x.next (y.heard + 1) = x.next by omega]
      rw [hA, hY]
      have hd := h.runs.fwd
      have hb := h.runs.bwd
      refine ⟨⟨hd.next, Nat.zero_le _, by dsimp only; rw [List.length_nil, Nat.sub_zero, List.drop_eq_nil_of_le (Nat.le_refl _)], hd.heard, hd.glen, by simpa using hd.got, hd.ahead, by unfold LE.first; dsimp only; simp; omega⟩, ⟨hb.next, hb.slen, hb.sent, hb.heard, hb.glen, hb.got, hb.ahead, hb.acked⟩, rfl, rfl, rfl, e2, h.runs.ep⟩
end Go.Proofs.Ytigmmikijjcdiaa
