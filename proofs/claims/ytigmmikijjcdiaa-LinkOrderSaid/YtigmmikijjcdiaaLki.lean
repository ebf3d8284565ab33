/- All frames of one end come through, in order: in plain Lean. -/
import Derived.Test.YtigmmikijjcdiaaProg
import Derived.Test.YtigmmikijjcdiaaLkm
namespace Go.Proofs.Ytigmmikijjcdiaa
set_option linter.unusedVariables false
set_option linter.unusedSimpArgs false
/-- an end behind j of these frames -/
def hearN (y : LE) (fs : List BL) (j : Nat) : LE := (fs.take j).foldl (fun t f => (hearL t f).2.2) y
theorem hearN_zero (y : LE) (fs : List BL) : hearN y fs 0 = y := rfl
theorem hearN_succ {y : LE} {fs : List BL} {j : Nat} {f : BL} (hf : fs[j]? = some f) : hearN y fs (j + 1) = (hearL (hearN y fs j) f).2.2 := by
  unfold hearN
  have hl := (List.getElem?_eq_some_iff.1 hf).1
  rw [List.take_succ_eq_append_getElem hl, List.foldl_append]
  rw [List.getElem?_eq_getElem hl] at hf
  injection hf with hf
  rw [hf]
  rfl
theorem from_len (x : LE) (m : Nat) (ack : Bool) : (fromL x m ack).1.length = x.next - m ∨ (x.next ≤ m ∧ (fromL x m ack).1.length ≤ 1) := by
  have hl : (framesL x m).length = x.next - m := by unfold framesL; rw [List.length_map, List.length_range']
  have hcase : (fromL x m ack).1 = if (framesL x m).isEmpty && ack then [fr 2 [] [x.ep, x.heard]] else framesL x m := rfl
  rw [hcase]
  split
  · rename_i he
    rw [Bool.and_eq_true, List.isEmpty_iff] at he
    rw [he.1] at hl
    right
    simp at hl
    exact ⟨by omega, by simp⟩
  · exact .inl hl
/-- what holds behind j frames -/
structure Runs (x y : LE) (p q g r : List BL) (m j : Nat) (gj : List BL) : Prop where
  fwd : Dir x y p gj
  bwd : Dir y x q r
  ep : x.ep = y.ep
  pos : m + j ≤ y.heard + 1 ∨ x.next ≤ m
  low : m ≤ y.heard + 1
theorem Runs.start {x y : LE} {p q g r : List BL} {m : Nat} (h1 : Dir x y p g) (h2 : Dir y x q r) (hep : x.ep = y.ep) (hm2 : m ≤ y.heard + 1) : Runs x y p q g r m 0 g := ⟨h1, h2, hep, .inl hm2, hm2⟩
/-- what the next frame does -/
theorem Runs.step {x y : LE} {p q g r : List BL} {m j : Nat} {gj : List BL} (h : Runs x y p q g r m j gj) (hok : LEok x) (hm : x.first ≤ m) {ack : Bool} {f : BL} (hf : (fromL x m ack).1[j]? = some f) :
    HearD x y p q gj r f ∧ Runs x (hearL y f).2.2 p q g r m (j + 1) (gj ++ (hearL y f).2.1) ∧ (∃ h n b, readL f = some (x.ep, h, n, b)) ∧ 21 ≤ f.length ∧ f.length ≤ 1048605 := by
  have hrd := from_rdf h.fwd hok hm hf
  rw [h.ep] at hrd
  have hd := hear_dir h.fwd h.bwd hrd
  have hr : ∃ h n b, readL f = some (x.ep, h, n, b) := by
    obtain ⟨h1, n, b, e, _⟩ := hrd
    exact ⟨h1, n, b, by rw [h.ep]; exact e⟩
  have hlen : 21 ≤ f.length ∧ f.length ≤ 1048605 := by
    rcases from_frame h.fwd hok hm hf with ⟨e, _⟩ | ⟨b, e, _, _, _, _, hb⟩
    · rw [e, fr_len]; simp
    · rw [e, fr_len]; simp; omega
  refine ⟨hd, ⟨hd.fwd, hd.bwd, by rw [hd.ep]; exact h.ep, ?_, by have := h.low; have := h.fwd.heard; have h9 := hd.fwd.heard; rw [List.length_append] at h9; omega⟩, hr, hlen⟩
  rcases h.pos with hp | hp
  · rcases from_frame h.fwd hok hm hf with ⟨_, _, hn⟩ | ⟨b, _, e, hn, h1, h2, hb⟩
    · exact .inr hn
    · left
      have := hear_upto h.fwd h.bwd (by rw [← h.ep]; exact e) (Nat.le_refl _) h1 hp
      omega
  · exact .inr hp
/-- all have come -/
theorem Runs.all {x y : LE} {p q g r : List BL} {m : Nat} {ack : Bool} {gj : List BL} (h : Runs x y p q g r m (fromL x m ack).1.length gj) (hm3 : x.next ≤ m → m ≤ y.heard + 1) : gj = p ∧ y.heard = p.length := by
  have h1 := h.fwd.next
  have h2 := h.fwd.heard
  have h3 := h.fwd.glen
  have hle : p.length ≤ y.heard := by
    rcases from_len x m ack with hl | ⟨hn, _⟩
    · rcases h.pos with hp | hp
      · rcases Nat.lt_or_ge x.next m with hc | hc
        · have := hm3 (by omega); omega
        · omega
      · have := hm3 hp
        omega
    · have := hm3 hn
      omega
  refine ⟨?_, by omega⟩
  rw [h.fwd.got, show gj.length = p.length by omega, List.take_length]
/-- an end that has sent these alone -/
def sentS (ep : Nat) (l : List BL) : LE := ⟨ep, l, l.length + 1, 0, 1, false, fun _ => none⟩
theorem sentS_send {ep : Nat} {l : List BL} {b : BL} (hl : l.length < 64) (hb : b.length ≤ 1048576) : sendL (sentS ep l) b = (0, sentS ep (l ++ [b])) := by
  unfold sendL sentS
  dsimp only
  rw [if_neg (by unfold mostL; omega), if_neg (by omega), List.length_append]
  rfl
theorem sentS_dir (ep e2 : Nat) (l : List BL) : Dir (sentS ep l) (openL e2) l [] := ⟨rfl, Nat.le_refl _, by unfold sentS; dsimp only; rw [Nat.sub_self]; rfl, rfl, Nat.zero_le _, rfl, fun n b h => by simp [openL] at h, by unfold sentS LE.first; dsimp only; omega⟩
theorem sentS_back (ep e2 : Nat) (l : List BL) : Dir (openL e2) (sentS ep l) [] [] := ⟨rfl, Nat.le_refl _, rfl, rfl, Nat.le_refl _, rfl, fun n b h => by simp [sentS] at h, by simp [openL, LE.first]⟩
theorem sentS_first (ep : Nat) (l : List BL) : (sentS ep l).first = 1 := by unfold sentS LE.first; dsimp only; omega
end Go.Proofs.Ytigmmikijjcdiaa
