/- What holds of the net of LinkOrder, in plain Lean; a frame with a byte turned is none. -/
import Derived.Test.YtigmmikijjcdiaaProg
import Derived.Test.YtigmmikijjcdiaaLki
import Derived.Test.YtigmmikijjcdiaaLno
namespace Go.Proofs.Ytigmmikijjcdiaa
set_option linter.unusedVariables false
set_option linter.unusedSimpArgs false
theorem up_inj {a b : Nat} (ha : a < 4294967296) (hb : b < 4294967296) (h : crcm.up a = crcm.up b) : a = b := by
  have h0 : crcm.up (a ^^^ b) = 0 := by rw [crcm.up_xor, h, Nat.xor_self]
  have hx : a ^^^ b < 4294967296 := Nat.xor_lt_two_pow (n := 32) ha hb
  have hz : a ^^^ b = 0 := by
    generalize a ^^^ b = x at h0 hx
    unfold crcm.up at h0
    split at h0
    · exfalso
      have h1 : x / 2 = 2197175160 := by
        have h2 := congrArg (fun z => z ^^^ 2197175160) h0
        simpa [Nat.xor_assoc] using h2
      omega
    · omega
  have h3 := congrArg (fun z => z ^^^ b) hz
  simpa [Nat.xor_assoc] using h3
theorem upk_inj {a b : Nat} (ha : a < 4294967296) (hb : b < 4294967296) : ∀ k, crcm.upk k a = crcm.upk k b → a = b
  | 0, h => h
  | k + 1, h => upk_inj ha hb k (up_inj (crcm.upk_lt k a ha) (crcm.upk_lt k b hb) h)
theorem sumR_inj (bs : BL) : ∀ {a b : Nat}, a < 4294967296 → b < 4294967296 → crcm.sumR a bs = crcm.sumR b bs → a = b := by
  induction bs with
  | nil => intro a b ha hb h; exact h
  | cons c bs ih =>
    intro a b ha hb h
    have hc := crcm.byte_lt c
    have h1 : ∀ {x : Nat}, x < 4294967296 → x ^^^ c.toNat < 4294967296 := fun hx => Nat.xor_lt_two_pow (n := 32) hx (by omega)
    have h2 := ih (crcm.upk_lt 8 _ (h1 ha)) (crcm.upk_lt 8 _ (h1 hb)) h
    have h3 := upk_inj (h1 ha) (h1 hb) 8 h2
    have h4 := congrArg (fun z => z ^^^ c.toNat) h3
    simpa [Nat.xor_assoc] using h4
theorem xor_right_inj {a b c : Nat} (h : c ^^^ a = c ^^^ b) : a = b := by
  have h1 := congrArg (fun z => c ^^^ z) h
  simpa [← Nat.xor_assoc] using h1
/-- one byte turned: another check -/
theorem sum_turn (p t : BL) {c d : UInt8} (hcd : c ≠ d) : crcm.sum (p ++ c :: t) ≠ crcm.sum (p ++ d :: t) := by
  intro h
  unfold crcm.sum at h
  have h1 : crcm.sumR 4294967295 (p ++ c :: t) = crcm.sumR 4294967295 (p ++ d :: t) := by
    have h2 := congrArg (fun z => z ^^^ 4294967295) h
    simpa [Nat.xor_assoc] using h2
  have e : ∀ x : UInt8, crcm.sumR 4294967295 (p ++ x :: t) = crcm.sumR (crcm.upk 8 (crcm.sumR 4294967295 p ^^^ x.toNat)) t := fun x => by
    unfold crcm.sumR
    rw [List.foldl_append, List.foldl_cons]
  rw [e, e] at h1
  have hp : crcm.sumR 4294967295 p < 4294967296 := crcm.sumR_lt p _ (by decide)
  have hb : ∀ x : UInt8, crcm.sumR 4294967295 p ^^^ x.toNat < 4294967296 := fun x => Nat.xor_lt_two_pow (n := 32) hp (by have := crcm.byte_lt x; omega)
  have h3 := upk_inj (hb c) (hb d) 8 (sumR_inj t (crcm.upk_lt 8 _ (hb c)) (crcm.upk_lt 8 _ (hb d)) h1)
  exact hcd (UInt8.toNat_inj.1 (xor_right_inj h3))
theorem numA_eq (bs : BL) : ∀ a, bs.foldl (fun a (b : UInt8) => a * 256 + b.toNat) a = a * 256 ^ bs.length + num bs := by
  induction bs with
  | nil => intro a; simp [num]
  | cons c bs ih =>
    intro a
    have h0 := ih c.toNat
    rw [List.foldl_cons, ih]
    unfold num
    rw [List.foldl_cons, Nat.zero_mul, Nat.zero_add, h0, List.length_cons, Nat.pow_succ]
    rw [Nat.add_mul, Nat.add_assoc]
    congr 1
    rw [Nat.mul_assoc, Nat.mul_comm 256]
theorem num_turn (p t : BL) {c d : UInt8} (hcd : c ≠ d) : num (p ++ c :: t) ≠ num (p ++ d :: t) := by
  have e : ∀ x : UInt8, num (p ++ x :: t) = (num p * 256 + x.toNat) * 256 ^ t.length + num t := fun x => by
    show (p ++ x :: t).foldl _ 0 = _
    rw [List.foldl_append, List.foldl_cons, numA_eq]
    rfl
  rw [e, e]
  intro h
  have hp : 0 < 256 ^ t.length := Nat.pow_pos (by decide)
  have h1 : (num p * 256 + c.toNat) * 256 ^ t.length = (num p * 256 + d.toNat) * 256 ^ t.length := by omega
  have h2 := Nat.eq_of_mul_eq_mul_right hp h1
  exact hcd (UInt8.toNat_inj.1 (by omega))
theorem set_split {f : BL} {i : Nat} (hi : i < f.length) (d : UInt8) : f = f.take i ++ f[i] :: f.drop (i + 1) ∧ f.set i d = f.take i ++ d :: f.drop (i + 1) := by
  refine ⟨?_, ?_⟩
  · rw [← List.drop_eq_getElem_cons hi, List.take_append_drop]
  · rw [List.set_eq_take_append_cons_drop, if_pos hi]
/-- a frame with one byte turned is none -/
theorem read_turn {tag : Nat} {b : BL} {ns : List Nat} {i : Nat} (hi : i < (fr tag b ns).length) {d : UInt8} (hd : (fr tag b ns)[i] ≠ d) : readL ((fr tag b ns).set i d) = none := by
  have hsum : num ((fr tag b ns).drop ((fr tag b ns).length - 4)) = crcm.sum ((fr tag b ns).take ((fr tag b ns).length - 4)) := by
    rw [fr_take, fr_drop, num_be_lt (sum_lt _)]
  have hne : num (((fr tag b ns).set i d).drop ((fr tag b ns).length - 4)) ≠ crcm.sum (((fr tag b ns).set i d).take ((fr tag b ns).length - 4)) := by
    have hlen4 : 4 ≤ (fr tag b ns).length := by rw [fr_len]; omega
    generalize fr tag b ns = f at hi hd hsum hlen4
    obtain ⟨e1, e2⟩ := set_split hi d
    generalize hm : f.length - 4 = m at hsum
    rcases Nat.lt_or_ge i m with hc | hc
    · rw [List.drop_set_of_lt hc, hsum]
      have ht1 : f.take m = f.take i ++ f[i] :: (f.drop (i + 1)).take (m - (i + 1)) := by
        conv => lhs; rw [e1]
        rw [List.take_append, List.length_take, Nat.min_eq_left (by omega), List.take_of_length_le (by rw [List.length_take]; omega)]
        congr 1
        rw [show m - i = (m - (i + 1)) + 1 by omega, List.take_succ_cons]
      have ht2 : (f.set i d).take m = f.take i ++ d :: (f.drop (i + 1)).take (m - (i + 1)) := by
        rw [e2]
        rw [List.take_append, List.length_take, Nat.min_eq_left (by omega), List.take_of_length_le (by rw [List.length_take]; omega)]
        congr 1
        rw [show m - i = (m - (i + 1)) + 1 by omega, List.take_succ_cons]
      rw [ht1, ht2]
      exact sum_turn _ _ hd
    · rw [List.take_set_of_le hc, ← hsum]
      have hd1 : f.drop m = (f.take i).drop m ++ f[i] :: f.drop (i + 1) := by
        conv => lhs; rw [e1]
        rw [List.drop_append, List.length_take, Nat.min_eq_left (by omega), show m - i = 0 by omega]
        rfl
      have hd2 : (f.set i d).drop m = (f.take i).drop m ++ d :: f.drop (i + 1) := by
        rw [e2]
        rw [List.drop_append, List.length_take, Nat.min_eq_left (by omega), show m - i = 0 by omega]
        rfl
      rw [hd1, hd2]
      exact (num_turn _ _ hd).symm
  unfold readL
  rw [List.length_set]
  split
  · rfl
  dsimp only
  rw [if_pos (.inl hne)]
/-- what may be on its way to an end -/
def Wy (ep hx : Nat) (p : List BL) (f : BL) : Prop := (∃ tag b ns, f = fr tag b ns) ∧ f.length ≤ 1048605 ∧ (RdF ep hx p f ∨ ∃ e' h n b, readL f = some (e', h, n, b) ∧ e' ≠ ep)
theorem Wy.more {ep hx hx' : Nat} {p q : List BL} {f : BL} (h : Wy ep hx p f) (hh : hx ≤ hx') : Wy ep hx' (p ++ q) f := ⟨h.1, h.2.1, h.2.2.imp (fun h => h.more hh) id⟩
/-- what holds of two ends, and of what is on its way -/
structure NDir (ep : Nat) (s t : LE) (ws wt ps pt gs gt : List BL) (m : Nat) : Prop where
  d1 : Dir s t ps gt
  d2 : Dir t s pt gs
  e1 : s.ep = ep
  e2 : t.ep = ep
  w1 : ∀ f ∈ ws, Wy ep t.heard pt f
  w2 : ∀ f ∈ wt, Wy ep s.heard ps f
  l1 : ws.length ≤ 100
  l2 : wt.length ≤ 100
  p1 : ps.length ≤ m
  p2 : pt.length ≤ m
theorem NDir.swap {ep : Nat} {s t : LE} {ws wt ps pt gs gt : List BL} {m : Nat} (h : NDir ep s t ws wt ps pt gs gt m) : NDir ep t s wt ws pt ps gt gs m := ⟨h.d2, h.d1, h.e2, h.e1, h.w2, h.w1, h.l2, h.l1, h.p2, h.p1⟩
theorem NDir.mono {ep : Nat} {s t : LE} {ws wt ps pt gs gt : List BL} {m : Nat} (h : NDir ep s t ws wt ps pt gs gt m) : NDir ep s t ws wt ps pt gs gt (m + 1) := ⟨h.d1, h.d2, h.e1, h.e2, h.w1, h.w2, h.l1, h.l2, Nat.le_succ_of_le h.p1, Nat.le_succ_of_le h.p2⟩
theorem NDir.start (ep : Nat) : NDir ep (openL ep) (openL ep) [] [] [] [] [] [] 0 := ⟨Dir.open_ ep ep, Dir.open_ ep ep, rfl, rfl, fun f h => (by simp at h), fun f h => (by simp at h), Nat.zero_le _, Nat.zero_le _, Nat.le_refl _, Nat.le_refl _⟩
/-- an end sends -/
theorem NDir.send {ep : Nat} {s t : LE} {ws wt ps pt gs gt : List BL} {m : Nat} (h : NDir ep s t ws wt ps pt gs gt m) (b : BL) (hb : b.length ≤ 1048576) (hm : m ≤ 1000000) :
    ((sendL s b).1 = 0 ∧ NDir ep (sendL s b).2 t ws wt (ps ++ [b]) pt gs gt (m + 1)) ∨ ((sendL s b).1 ≠ 0 ∧ NDir ep (sendL s b).2 t ws wt ps pt gs gt (m + 1)) := by
  have hn := h.d1.next
  have hp := h.p1
  have hep : (sendL s b).2.ep = s.ep ∧ (sendL s b).2.heard = s.heard := by
    unfold sendL
    split
    · exact ⟨rfl, rfl⟩
    · split <;> exact ⟨rfl, rfl⟩
  rcases send_dir h.d1 b hb (by unfold mostL; omega) with ⟨h1, h2⟩ | ⟨h1, h2, h3⟩
  · refine .inl ⟨h1, ⟨h2, send_back h.d2 b, by rw [hep.1]; exact h.e1, h.e2, h.w1, fun f hf => (h.w2 f hf).more (by rw [hep.2]; exact Nat.le_refl _), h.l1, h.l2, by simp; exact h.p1, Nat.le_succ_of_le h.p2⟩⟩
  · refine .inr ⟨by rw [h1]; decide, ?_⟩
    rw [h3]
    exact h.mono
/-- frames of an end go on their way -/
theorem NDir.out {ep : Nat} {s t : LE} {ws wt ps pt gs gt : List BL} {m : Nat} (h : NDir ep s t ws wt ps pt gs gt m) (hok : LEok s) {k : Nat} (hk : s.first ≤ k) (ack : Bool) : NDir ep (fromL s k ack).2 t ws (goesF wt (fromL s k ack).1) ps pt gs gt (m + 1) := by
  refine ⟨from_dir h.d1 k ack, from_back h.d2 k ack, h.e1, h.e2, h.w1, fun f hf => ?_, h.l1, goesF_len h.l2 _, Nat.le_succ_of_le h.p1, Nat.le_succ_of_le h.p2⟩
  rcases goesF_mem hf with hf | hf
  · exact h.w2 f hf
  · obtain ⟨i, hi⟩ := List.getElem?_of_mem hf
    have hrd := from_rdf h.d1 hok hk hi
    rw [h.e1] at hrd
    rcases from_frame h.d1 hok hk hi with ⟨e, _⟩ | ⟨b, e, _, _, _, _, hb⟩
    · exact ⟨⟨_, _, _, e⟩, by rw [e, fr_len]; simp, .inl hrd⟩
    · exact ⟨⟨_, _, _, e⟩, by rw [e, fr_len]; simp; omega, .inl hrd⟩
/-- frames of another epoch go on their way -/
theorem NDir.far {ep : Nat} {s t : LE} {ws wt ps pt gs gt : List BL} {m : Nat} (h : NDir ep s t ws wt ps pt gs gt m) {x : LE} {p : List BL} (hx : Dir x (openL x.ep) p []) (hok : LEok x) (hne : x.ep ≠ ep) {k : Nat} (hk : x.first ≤ k) (ack : Bool) : NDir ep s t (goesF ws (fromL x k ack).1) wt ps pt gs gt (m + 1) := by
  refine ⟨h.d1, h.d2, h.e1, h.e2, fun f hf => ?_, h.w2, goesF_len h.l1 _, h.l2, Nat.le_succ_of_le h.p1, Nat.le_succ_of_le h.p2⟩
  rcases goesF_mem hf with hf | hf
  · exact h.w1 f hf
  · obtain ⟨i, hi⟩ := List.getElem?_of_mem hf
    rcases from_frame hx hok hk hi with ⟨e, hq, _⟩ | ⟨b, e, hq, _, _, _, hb⟩
    · exact ⟨⟨_, _, _, e⟩, by rw [e, fr_len]; simp, .inr ⟨_, _, _, _, hq, hne⟩⟩
    · exact ⟨⟨_, _, _, e⟩, by rw [e, fr_len]; simp; omega, .inr ⟨_, _, _, _, hq, hne⟩⟩
/-- some go away -/
theorem NDir.less {ep : Nat} {s t : LE} {ws ws' wt ps pt gs gt : List BL} {m : Nat} (h : NDir ep s t ws wt ps pt gs gt m) (hs : ∀ f ∈ ws', f ∈ ws) (hl : ws'.length ≤ ws.length) : NDir ep s t ws' wt ps pt gs gt (m + 1) := ⟨h.d1, h.d2, h.e1, h.e2, fun f hf => h.w1 f (hs f hf), h.w2, Nat.le_trans hl h.l1, h.l2, Nat.le_succ_of_le h.p1, Nat.le_succ_of_le h.p2⟩
/-- what the hearing of a frame needs, and leaves -/
structure Heard1 (ep : Nat) (s t : LE) (ws wt ps pt gs gt : List BL) (m : Nat) (f : BL) : Prop where
  told : ∃ j, (hearL s f).2.1 = (pt.drop gs.length).take j ∧ (hearL s f).2.1.length = j
  code : (hearL s f).1 ≠ 0 → (hearL s f).2.1 = []
  next : NDir ep (hearL s f).2.2 t ws wt ps pt (gs ++ (hearL s f).2.1) gt (m + 1)
theorem NDir.hear {ep : Nat} {s t : LE} {ws wt ps pt gs gt : List BL} {m : Nat} (h : NDir ep s t ws wt ps pt gs gt m) {f : BL} (hf : Wy ep t.heard pt f) : Heard1 ep s t ws wt ps pt gs gt m f := by
  rcases hf.2.2 with hr | ⟨e', h', n, b, hq, hne⟩
  · rw [← h.e1] at hr
    have hd := hear_dir h.d2 h.d1 hr
    refine ⟨hd.told, fun hc => absurd hd.code hc, ⟨hd.bwd, hd.fwd, by rw [hd.ep]; exact h.e1, h.e2, h.w1, fun g hg => ?_, h.l1, h.l2, Nat.le_succ_of_le h.p1, Nat.le_succ_of_le h.p2⟩⟩
    have h9 := hd.fwd.heard
    rw [List.length_append] at h9
    have h8 := h.d2.heard
    have := (h.w2 g hg).more (q := []) (hx' := (hearL s f).2.2.heard) (by omega)
    rwa [List.append_nil] at this
  · obtain ⟨h1, h2⟩ := hear_other (y := s) (f := f) (.inr ⟨_, _, _, _, hq, by rw [h.e1]; exact hne⟩)
    refine ⟨⟨0, by rw [h2]; rfl, by rw [h2]; rfl⟩, fun _ => by rw [h2], ?_⟩
    rw [h2]
    simpa using h.mono
/-- a frame that is none -/
theorem NDir.none {ep : Nat} {s t : LE} {ws wt ps pt gs gt : List BL} {m : Nat} (h : NDir ep s t ws wt ps pt gs gt m) {f : BL} (hf : readL f = .none) : Heard1 ep s t ws wt ps pt gs gt m f := by
  obtain ⟨h1, h2⟩ := hear_other (y := s) (f := f) (.inl hf)
  refine ⟨⟨0, by rw [h2]; rfl, by rw [h2]; rfl⟩, fun _ => by rw [h2], ?_⟩
  rw [h2]
  simpa using h.mono
/-- the whole: two ends in memory, and the net -/
def NSt (w : World) (L W P1 P2 a Q1 Q2 ep m n : Nat) : Prop :=
  ∃ E Y U T tag B ways puts gots s t ws wt ps pt gs gt, NetM w L W E Y U T P1 P2 tag ways puts gots false ∧ Two w L B n Q1 Q2 s t ∧ B ≤ w.heap.size ∧
    w.cell? ⟨E, a, none⟩ = some (.pointer (some ⟨Q1, 0, none⟩)) ∧ w.cell? ⟨E, 1 - a, none⟩ = some (.pointer (some ⟨Q2, 0, none⟩)) ∧
    (ways[a]? = some ws ∧ ways[1 - a]? = some wt) ∧ (puts[a]? = some ps ∧ puts[1 - a]? = some pt) ∧ (gots[a]? = some gs ∧ gots[1 - a]? = some gt) ∧ NDir ep s t ws wt ps pt gs gt m
theorem NSt.swap {w : World} {L W P1 P2 a Q1 Q2 ep m n : Nat} (h : NSt w L W P1 P2 a Q1 Q2 ep m n) (ha : a < 2) : NSt w L W P1 P2 (1 - a) Q2 Q1 ep m n := by
  obtain ⟨E, Y, U, T, tag, B, ways, puts, gots, s, t, ws, wt, ps, pt, gs, gt, h1, h2, h3, h4, h5, h6, h7, h8, h9⟩ := h
  have e : 1 - (1 - a) = a := by omega
  exact ⟨E, Y, U, T, tag, B, ways, puts, gots, t, s, wt, ws, pt, ps, gt, gs, h1, h2.symm, h3, h5, by rw [e]; exact h4, ⟨h6.2, by rw [e]; exact h6.1⟩, ⟨h7.2, by rw [e]; exact h7.1⟩, ⟨h8.2, by rw [e]; exact h8.1⟩, h9.swap⟩
end Go.Proofs.Ytigmmikijjcdiaa
