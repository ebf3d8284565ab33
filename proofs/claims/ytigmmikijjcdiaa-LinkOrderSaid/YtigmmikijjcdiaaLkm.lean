/- What two ends of a link do together, in plain Lean. -/
import Derived.Test.YtigmmikijjcdiaaProg
import Derived.Test.YtigmmikijjcdiaaLkx
namespace Go.Proofs.Ytigmmikijjcdiaa
set_option linter.unusedVariables false
set_option linter.unusedSimpArgs false
/-- one of two ends sends, the other one hears: what was given to send, what was told -/
structure Dir (x y : LE) (p g : List BL) : Prop where
  next : x.next = p.length + 1
  slen : x.sent.length ≤ p.length
  sent : x.sent = p.drop (p.length - x.sent.length)
  heard : y.heard = g.length
  glen : g.length ≤ p.length
  got : g = p.take g.length
  ahead : ∀ n b, y.ahead n = some b → p[n - 1]? = some b
  acked : x.first ≤ y.heard + 1
theorem Dir.open_ (a b : Nat) : Dir (openL a) (openL b) [] [] := ⟨rfl, Nat.le_refl _, rfl, rfl, Nat.le_refl _, rfl, fun n b h => by simp [openL] at h, by simp [openL, LE.first]⟩
theorem Dir.first {x y : LE} {p g : List BL} (h : Dir x y p g) : x.first + x.sent.length = p.length + 1 := by
  have := h.next
  have := h.slen
  unfold LE.first
  omega
/-- what a frame says may be said -/
def RdF (ep hx : Nat) (p : List BL) (f : BL) : Prop := ∃ h n b, readL f = some (ep, h, n, b) ∧ h ≤ hx ∧ (n = 0 ∨ (1 ≤ n ∧ p[n - 1]? = some b))
theorem RdF.more {ep hx hx' : Nat} {p q : List BL} {f : BL} (h : RdF ep hx p f) (hh : hx ≤ hx') : RdF ep hx' (p ++ q) f := by
  obtain ⟨h1, n, b, e1, e2, e3⟩ := h
  refine ⟨h1, n, b, e1, Nat.le_trans e2 hh, e3.imp id fun ⟨q1, q2⟩ => ⟨q1, ?_⟩⟩
  have hl := (List.getElem?_eq_some_iff.1 q2).1
  rw [List.getElem?_append_left hl]
  exact q2
theorem tell_dir {p : List BL} : ∀ (k : Nat) (s : LE), s.heard ≤ p.length → (∀ n b, s.ahead n = some b → p[n - 1]? = some b) →
    ∃ j, (tellL k s).1 = (p.drop s.heard).take j ∧ (tellL k s).1.length = j ∧ (tellL k s).2.heard = s.heard + j ∧ s.heard + j ≤ p.length ∧ (∀ n b, (tellL k s).2.ahead n = some b → s.ahead n = some b) ∧ (tellL k s).2.ep = s.ep ∧ (tellL k s).2.sent = s.sent ∧ (tellL k s).2.next = s.next ∧ (tellL k s).2.fresh = s.fresh ∧ (tellL k s).2.owes = s.owes
  | 0, s, hs, ha => ⟨0, rfl, rfl, rfl, hs, fun n b h => h, rfl, rfl, rfl, rfl, rfl⟩
  | k + 1, s, hs, ha => by
    rcases hb : s.ahead (s.heard + 1) with _ | b
    · have e : tellL (k + 1) s = ([], s) := by rw [tellL, hb]
      rw [e]
      exact ⟨0, rfl, rfl, rfl, hs, fun n b h => h, rfl, rfl, rfl, rfl, rfl⟩
    · have e : tellL (k + 1) s = (b :: (tellL k { s with heard := s.heard + 1, ahead := fun n => if n = s.heard + 1 then none else s.ahead n }).1, (tellL k { s with heard := s.heard + 1, ahead := fun n => if n = s.heard + 1 then none else s.ahead n }).2) := by rw [tellL, hb]
      have hpb := ha _ _ hb
      have hl := (List.getElem?_eq_some_iff.1 hpb).1
      rw [Nat.add_sub_cancel] at hpb hl
      obtain ⟨j, h1, h2, h3, h4, h5, h6⟩ := tell_dir (p := p) k { s with heard := s.heard + 1, ahead := fun n => if n = s.heard + 1 then none else s.ahead n } (by dsimp only; omega) (fun n b hn => by
        dsimp only at hn
        split at hn
        · cases hn
        · exact ha n b hn)
      rw [e]
      dsimp only at h1 h3 h4 h5 ⊢
      have hd : p.drop s.heard = b :: p.drop (s.heard + 1) := by
        rw [List.drop_eq_getElem_cons hl]
        rw [List.getElem?_eq_getElem hl] at hpb
        injection hpb with hpb
        rw [hpb]
      refine ⟨j + 1, by rw [hd, List.take_succ_cons, h1], by simp [h2], by omega, by omega, fun n b hn => ?_, h6⟩
      have := h5 n b hn
      split at this
      · cases this
      · exact this
theorem tell_some {k : Nat} {s : LE} (h : s.ahead (s.heard + 1) ≠ none) : s.heard + 1 ≤ (tellL (k + 1) s).2.heard := by
  have hm : ∀ k (s : LE), s.heard ≤ (tellL k s).2.heard := fun k => by
    induction k with
    | zero => intro s; exact Nat.le_refl _
    | succ k ih =>
      intro s
      rw [tellL]
      split
      · exact Nat.le_refl _
      · have := ih { s with heard := s.heard + 1, ahead := fun n => if n = s.heard + 1 then none else s.ahead n }
        dsimp only at this ⊢
        omega
  rcases hb : s.ahead (s.heard + 1) with _ | b
  · exact absurd hb h
  · rw [tellL, hb]
    exact hm k { s with heard := s.heard + 1, ahead := fun n => if n = s.heard + 1 then none else s.ahead n }
theorem ackL_dir {x y : LE} {q r : List BL} {h : Nat} (hd : Dir y x q r) (hh : h ≤ x.heard) : Dir (ackL y h) x q r := by
  unfold ackL
  by_cases hc : y.first ≤ h
  · rw [if_pos hc]
    have h1 := hd.next
    have h2 := hd.slen
    have h3 := hd.sent
    have hf := hd.first
    have h4 := hd.glen
    have h5 := hd.heard
    have hl : (y.sent.drop (h + 1 - y.first)).length = y.sent.length - (h + 1 - y.first) := List.length_drop
    refine ⟨h1, by dsimp only; omega, ?_, hd.heard, hd.glen, hd.got, hd.ahead, ?_⟩
    · dsimp only
      rw [hl]
      conv => lhs; rw [h3]
      rw [List.drop_drop]
      congr 1
      omega
    · show y.next - (y.sent.drop (h + 1 - y.first)).length ≤ x.heard + 1
      rw [hl]
      omega
  · rw [if_neg hc]
    exact hd
theorem ackL_back {x y : LE} {p g : List BL} {h : Nat} (hd : Dir x y p g) : Dir x (ackL y h) p g := by
  obtain ⟨a1, a2, a3, a4, a5⟩ := ackL_eqs y h
  exact ⟨hd.next, hd.slen, hd.sent, by rw [a3]; exact hd.heard, hd.glen, hd.got, by rw [a5]; exact hd.ahead, by rw [a3]; exact hd.acked⟩
/-- the other way is not touched by what is told or put -/
theorem Dir.same {x y y' : LE} {q r : List BL} (hd : Dir y x q r) (h1 : y'.sent = y.sent) (h2 : y'.next = y.next) : Dir y' x q r := by
  have hf : y'.first = y.first := by unfold LE.first; rw [h1, h2]
  exact ⟨by rw [h2]; exact hd.next, by rw [h1]; exact hd.slen, by rw [h1]; exact hd.sent, hd.heard, hd.glen, hd.got, hd.ahead, by rw [hf]; exact hd.acked⟩
theorem putL_eqs (s : LE) (n : Nat) (b : BL) : (putL s n b).ep = s.ep ∧ (putL s n b).sent = s.sent ∧ (putL s n b).next = s.next ∧ (putL s n b).heard = s.heard ∧ (putL s n b).owes = true ∧ (putL s n b).fresh = s.fresh := by
  unfold putL
  split <;> exact ⟨rfl, rfl, rfl, rfl, rfl, rfl⟩
theorem putL_ahead {s : LE} {n m : Nat} {b c : BL} (h : (putL s n b).ahead m = some c) : s.ahead m = some c ∨ (m = n ∧ c = b) := by
  unfold putL at h
  split at h
  · dsimp only at h
    split at h
    · rename_i e
      injection h with h
      exact .inr ⟨e, h.symm⟩
    · exact .inl h
  · exact .inl h
/-- what an end does with a frame that may be -/
structure HearD (x y : LE) (p q g r : List BL) (f : BL) : Prop where
  code : (hearL y f).1 = 0
  told : ∃ j, (hearL y f).2.1 = (p.drop g.length).take j ∧ (hearL y f).2.1.length = j
  fwd : Dir x (hearL y f).2.2 p (g ++ (hearL y f).2.1)
  bwd : Dir (hearL y f).2.2 x q r
  ep : (hearL y f).2.2.ep = y.ep
theorem hear_dir {x y : LE} {p q g r : List BL} (h1 : Dir x y p g) (h2 : Dir y x q r) {f : BL} (hf : RdF y.ep x.heard p f) : HearD x y p q g r f := by
  obtain ⟨h, n, b, hq, hh, hn⟩ := hf
  have hB : h < y.next := by have := h2.next; have := h2.heard; have := h2.glen; omega
  have hA := ackL_dir h2 hh
  have hA2 := ackL_back (h := h) h1
  obtain ⟨a1, a2, a3, a4, a5⟩ := ackL_eqs y h
  rcases hn with rfl | ⟨hn1, hn2⟩
  · have hc : hearL y f = (0, [], ackL y h) := by
      unfold hearL
      rw [hq]
      dsimp only
      rw [if_neg (by simp), if_neg (by omega), if_pos rfl]
    refine ⟨by rw [hc], ⟨0, by rw [hc]; rfl, by rw [hc]; rfl⟩, by rw [hc]; simpa using hA2, by rw [hc]; exact hA, by rw [hc]; exact a1⟩
  · have hc := hearL_ok hq hB (by omega)
    obtain ⟨b1, b2, b3, b4, b5, b6⟩ := putL_eqs (ackL y h) n b
    obtain ⟨j, t1, t2, t3, t4, t5, t6, t7, t8, t9, t10⟩ := tell_dir (p := p) 65 (putL (ackL y h) n b) (by rw [b4, a3, h1.heard]; exact h1.glen) (fun m c hm => by
      rcases putL_ahead hm with h | ⟨rfl, rfl⟩
      · rw [a5] at h
        exact h1.ahead m c h
      · exact hn2)
    rw [b4, a3, h1.heard] at t1 t3 t4
    have hgl : (g ++ (p.drop g.length).take j) = p.take (g.length + j) := by
      rw [List.take_add]
      congr 1
      exact h1.got
    have ht2 : ((p.drop g.length).take j).length = j := by rw [← t1]; exact t2
    refine ⟨by rw [hc], ⟨j, by rw [hc]; exact t1, by rw [hc]; exact t2⟩, ?_, ?_, by rw [hc]; dsimp only; rw [t6, b1, a1]⟩
    · rw [hc]
      dsimp only
      rw [t1]
      refine ⟨h1.next, h1.slen, h1.sent, by rw [t3, List.length_append, ht2], by rw [List.length_append, ht2]; exact t4, by rw [List.length_append, ht2]; exact hgl, fun m c hm => ?_, by rw [t3]; have := h1.acked; have := h1.heard; omega⟩
      rcases putL_ahead (t5 m c hm) with h | ⟨rfl, rfl⟩
      · rw [a5] at h
        exact h1.ahead m c h
      · exact hn2
    · rw [hc]
      dsimp only
      exact hA.same (by rw [t7, b2]) (by rw [t8, b3])
/-- a frame of another epoch, or none -/
theorem hear_other {y : LE} {f : BL} (h : readL f = none ∨ ∃ ep h n b, readL f = some (ep, h, n, b) ∧ ep ≠ y.ep) : (hearL y f).1 ≠ 0 ∧ (hearL y f).2 = ([], y) := by
  unfold hearL
  rcases h with h | ⟨ep, h', n, b, h, he⟩
  · rw [h]
    exact ⟨by show (150 : Int) ≠ 0; decide, rfl⟩
  · rw [h]
    dsimp only
    rw [if_pos he]
    exact ⟨by show (4 : Int) ≠ 0; decide, rfl⟩
/-- behind a frame of number n that is next, or was heard -/
theorem hear_upto {x y : LE} {p q g r : List BL} (h1 : Dir x y p g) (h2 : Dir y x q r) {f : BL} {h n : Nat} {b : BL} (hq : readL f = some (y.ep, h, n, b)) (hh : h ≤ x.heard) (hn : 1 ≤ n) (hnh : n ≤ y.heard + 1) : n ≤ (hearL y f).2.2.heard := by
  have hB : h < y.next := by have := h2.next; have := h2.heard; have := h2.glen; omega
  have hc := hearL_ok hq hB (by omega)
  obtain ⟨a1, a2, a3, a4, a5⟩ := ackL_eqs y h
  obtain ⟨b1, b2, b3, b4, b5, b6⟩ := putL_eqs (ackL y h) n b
  rw [hc]
  dsimp only
  rcases Nat.lt_or_ge y.heard n with hl | hl
  · have hne : n = y.heard + 1 := by omega
    have := tell_some (k := 64) (s := putL (ackL y h) n b) (by
      rw [b4, a3, ← hne]
      unfold putL
      by_cases hc2 : (ackL y h).heard < n ∧ n ≤ (ackL y h).heard + 64 ∧ (ackL y h).ahead n = none
      · rw [if_pos hc2]
        simp
      · rw [if_neg hc2]
        intro e
        exact hc2 ⟨by rw [a3]; omega, by rw [a3]; omega, e⟩)
    rw [b4, a3] at this
    show n ≤ (tellL (64 + 1) (putL (ackL y h) n b)).2.heard
    omega
  · have hm : ∀ k (s : LE), s.heard ≤ (tellL k s).2.heard := fun k => by
      induction k with
      | zero => intro s; exact Nat.le_refl _
      | succ k ih =>
        intro s
        rw [tellL]
        split
        · exact Nat.le_refl _
        · have := ih { s with heard := s.heard + 1, ahead := fun n => if n = s.heard + 1 then none else s.ahead n }
          dsimp only at this ⊢
          omega
    have := hm 65 (putL (ackL y h) n b)
    rw [b4, a3] at this
    omega
/-- what is sent -/
theorem send_dir {x y : LE} {p g : List BL} (h : Dir x y p g) (b : BL) (hb : b.length ≤ 1048576) (hn : x.next < mostL) : ((sendL x b).1 = 0 ∧ Dir (sendL x b).2 y (p ++ [b]) g) ∨ ((sendL x b).1 = 161 ∧ 64 ≤ x.sent.length ∧ (sendL x b).2 = x) := by
  unfold sendL
  rw [if_neg (by omega)]
  by_cases hf : 64 ≤ x.sent.length
  · rw [if_pos hf]
    exact .inr ⟨rfl, hf, rfl⟩
  · rw [if_neg hf]
    refine .inl ⟨rfl, ?_⟩
    have h1 := h.next
    have h2 := h.slen
    refine ⟨by simp [h1], by simp; exact h2, ?_, h.heard, by have := h.glen; simp; omega, ?_, fun n c hc => ?_, ?_⟩
    · dsimp only
      rw [List.length_append, List.length_append, List.length_singleton, show p.length + 1 - (x.sent.length + 1) = p.length - x.sent.length by omega, List.drop_append_of_le_length (by omega), ← h.sent]
    · rw [List.take_append_of_le_length h.glen]
      exact h.got
    · have := h.ahead n c hc
      rw [List.getElem?_append_left (List.getElem?_eq_some_iff.1 this).1]
      exact this
    · have := h.acked
      have := h.first
      unfold LE.first at *
      simp
      omega
theorem send_back {x y : LE} {q r : List BL} (h : Dir y x q r) (b : BL) : Dir y (sendL x b).2 q r := by
  unfold sendL
  split
  · exact h
  · split
    · exact h
    · exact ⟨h.next, h.slen, h.sent, h.heard, h.glen, h.got, h.ahead, h.acked⟩
/-- the frames that go out, from a number on -/
theorem from_dir {x y : LE} {p g : List BL} (h : Dir x y p g) (m : Nat) (ack : Bool) : Dir (fromL x m ack).2 y p g := h.same rfl rfl
theorem from_back {x y : LE} {q r : List BL} (h : Dir y x q r) (m : Nat) (ack : Bool) : Dir y (fromL x m ack).2 q r := ⟨h.next, h.slen, h.sent, h.heard, h.glen, h.got, h.ahead, h.acked⟩
/-- each frame of an end: an ack, or the message of its number -/
theorem from_frame {x y : LE} {p g : List BL} (h : Dir x y p g) (hok : LEok x) {m : Nat} (hm : x.first ≤ m) {ack : Bool} {f : BL} {i : Nat} (hf : (fromL x m ack).1[i]? = some f) :
    (f = fr 2 [] [x.ep, x.heard] ∧ readL f = some (x.ep, x.heard, 0, []) ∧ x.next ≤ m) ∨ ∃ b, f = fr 1 b [x.ep, x.heard, m + i] ∧ readL f = some (x.ep, x.heard, m + i, b) ∧ m + i < x.next ∧ 1 ≤ m + i ∧ p[m + i - 1]? = some b ∧ b.length ≤ 1048576 := by
  have hme : x.heard ≤ mostL := by have := hok.heard; unfold mostL; omega
  have hff := h.first
  have hsl := hok.first
  have hnx := h.next
  have h1 : 1 ≤ x.first := by unfold LE.first; omega
  have hcase : (fromL x m ack).1 = if (framesL x m).isEmpty && ack then [fr 2 [] [x.ep, x.heard]] else framesL x m := rfl
  rw [hcase] at hf
  split at hf
  · rename_i he
    have hfe : f = fr 2 [] [x.ep, x.heard] := by
      rcases i with _ | i
      · simpa using hf.symm
      · simp at hf
    refine .inl ⟨hfe, by rw [hfe]; exact read_ack hok.ep hme, ?_⟩
    rw [Bool.and_eq_true, List.isEmpty_iff] at he
    have hl := congrArg List.length he.1
    unfold framesL at hl
    rw [List.length_map, List.length_range'] at hl
    simp at hl
    omega
  · right
    unfold framesL at hf
    rw [List.getElem?_map, Option.map_eq_some_iff] at hf
    obtain ⟨k, hk, rfl⟩ := hf
    have hlt : i < x.next - m := by
      have := (List.getElem?_eq_some_iff.1 hk).1
      rwa [List.length_range'] at this
    rw [List.getElem?_range' hlt, Nat.one_mul] at hk
    injection hk with hk
    subst hk
    obtain ⟨b, hb⟩ : ∃ b, x.sent[m + i - x.first]? = some b := ⟨_, List.getElem?_eq_getElem (by omega)⟩
    have hgb : x.sent.getD (m + i - x.first) [] = b := by rw [List.getD_eq_getElem?_getD, hb]; rfl
    have hbl := hok.bytes b (List.mem_of_getElem? hb)
    have hpb : p[m + i - 1]? = some b := by
      have hs := h.sent
      rw [hs, List.getElem?_drop] at hb
      rw [← hb]
      congr 1
      omega
    have hnm : m + i ≤ mostL := by have := hok.next; unfold mostL; omega
    exact ⟨b, by rw [hgb], by rw [hgb]; exact read_msg hok.ep hme (by omega) hnm hbl, by omega, by omega, hpb, hbl⟩
theorem from_rdf {x y : LE} {p g : List BL} (h : Dir x y p g) (hok : LEok x) {m : Nat} (hm : x.first ≤ m) {ack : Bool} {f : BL} {i : Nat} (hf : (fromL x m ack).1[i]? = some f) : RdF x.ep x.heard p f := by
  rcases from_frame h hok hm hf with ⟨_, h1, _⟩ | ⟨b, _, h1, _, h2, h3, _⟩
  · exact ⟨_, _, _, h1, Nat.le_refl _, .inl rfl⟩
  · exact ⟨_, _, _, h1, Nat.le_refl _, .inr ⟨h2, h3⟩⟩
end Go.Proofs.Ytigmmikijjcdiaa
