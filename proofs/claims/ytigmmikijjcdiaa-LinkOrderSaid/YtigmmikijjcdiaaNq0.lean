/- The net's methods: a step of a script. (printed by gen/lnp.py) -/
import Derived.Test.YtigmmikijjcdiaaProg
import Derived.Test.YtigmmikijjcdiaaLns
import Derived.Test.YtigmmikijjcdiaaLnh
import Derived.Deep.DeepCutAuto
import Derived.Lib.Hide
import Derived.WalkSpells
import Derived.WalkMore
import Derived.IntWalk
namespace Go.Proofs.Ytigmmikijjcdiaa
open Go.RowKit
set_option linter.unusedVariables false
set_option linter.unusedSimpArgs false
def StepPost (w : World) (L W P1 P2 a Q1 Q2 ep m n : Nat) (e : Ending) (w' : World) : Prop := e = .returned (.tuple #[]) ∧ NSt w' L W P1 P2 a Q1 Q2 ep (m + 1) (n + 1) ∧ Below L w w'
theorem NetM.ptr {w w' : World} {L L' W E Y U T P1 P2 W' Y' U' T' : Nat} {tag tag' : Nat → Option (Nat × Nat)} {ways puts gots ways' puts' gots' : List (List BL)} {bad bad' : Bool} (h' : NetM w' L W E Y U T P1 P2 tag' ways' puts' gots' bad') (h : NetM w L' W' E Y' U' T' P1 P2 tag ways puts gots bad) (i : Nat) : w'.cell? ⟨E, i, none⟩ = w.cell? ⟨E, i, none⟩ :=
  (cell_of_row _ _ i _ _ _ h'.en).trans (cell_of_row _ _ i _ _ _ h.en).symm
theorem heard_less {ep : Nat} {s t : LE} {ws ws' wt ps pt gs gt : List BL} {m : Nat} (h : NDir ep s t ws wt ps pt gs gt m) {f : BL} (hf : Wy ep t.heard pt f) (hs : ∀ f ∈ ws', f ∈ ws) (hl : ws'.length ≤ ws.length) : Heard1 ep s t ws' wt ps pt gs gt m f := by
  have h1 : NDir ep s t ws' wt ps pt gs gt m := ⟨h.d1, h.d2, h.e1, h.e2, fun f hf => h.w1 f (hs f hf), h.w2, Nat.le_trans hl h.l1, h.l2, h.p1, h.p2⟩
  exact h1.hear hf
theorem none_less {ep : Nat} {s t : LE} {ws ws' wt ps pt gs gt : List BL} {m : Nat} (h : NDir ep s t ws wt ps pt gs gt m) {f : BL} (hf : readL f = none) (hs : ∀ f ∈ ws', f ∈ ws) (hl : ws'.length ≤ ws.length) : Heard1 ep s t ws' wt ps pt gs gt m f := by
  have h1 : NDir ep s t ws' wt ps pt gs gt m := ⟨h.d1, h.d2, h.e1, h.e2, fun f hf => h.w1 f (hs f hf), h.w2, Nat.le_trans hl h.l1, h.l2, h.p1, h.p2⟩
  exact h1.none hf
/-- behind the hearing of a frame -/
theorem nst_heard {y w' : World} {L B W E Y U T P1 P2 n Q1 Q2 a ep m : Nat} {tag : Nat → Option (Nat × Nat)} {ways puts gots : List (List BL)} {s t : LE} {ws wt ps pt gs gt : List BL} {f : BL} {e : Ending} (hN : NetM y L W E Y U T P1 P2 tag ways puts gots false) (hE1 : y.cell? ⟨E, a, none⟩ = some (.pointer (some ⟨Q1, 0, none⟩))) (hE2 : y.cell? ⟨E, 1 - a, none⟩ = some (.pointer (some ⟨Q2, 0, none⟩)))
    (hW : ways[a]? = some ws ∧ ways[1 - a]? = some wt) (hP : puts[a]? = some ps ∧ puts[1 - a]? = some pt) (hG : gots[a]? = some gs ∧ gots[1 - a]? = some gt) (hH : Heard1 ep s t ws wt ps pt gs gt m f) (hp : HearsPost y L B W E Y U T P1 P2 n Q1 Q2 a ways puts gots s t f e w') : NSt w' L W P1 P2 a Q1 Q2 ep (m + 1) (n + 1) ∧ Below L y w' := by
  obtain ⟨-, ⟨tag', h1, h2, h3⟩, h4, -⟩ := hp
  have hgd : gots.getD a [] = gs := by rw [List.getD_eq_getElem?_getD, hG.1]; rfl
  rw [hgd] at h1
  have hal : a < gots.length := (List.getElem?_eq_some_iff.1 hG.1).1
  have hbl : 1 - a < gots.length := (List.getElem?_eq_some_iff.1 hG.2).1
  have hne : a ≠ 1 - a := by have := hN.len.2.2; omega
  exact ⟨⟨E, Y, U, T, tag', B, ways, puts, _, _, t, ws, wt, ps, pt, _, gt, h1, h2.symm, h3, (h1.ptr hN a).trans hE1, (h1.ptr hN (1 - a)).trans hE2, hW, hP, ⟨by rw [List.getElem?_set_self hal], by rw [List.getElem?_set_ne hne]; exact hG.2⟩, hH.next⟩, h4⟩
theorem rd_conv {w : World} {B : Nat} {A : Option Addr} {f : BL} {n c : Nat} (h : Rd w B A (u8s f)) (hn : f.length = n) : (convert 23 9 (.slice A n c)).run Try.prog w = .ok (.string ⟨f.toArray⟩) w := by
  subst hn
  exact run_string_of w 23 9 5 A c B f Try.underlying23 Try.underlying5 Try.underlying9 h
theorem wy_len {ep hx : Nat} {p : List BL} {f : BL} (h : Wy ep hx p f) : 21 ≤ f.length := by
  have hn : readL f ≠ none := by
    rcases h.2.2 with ⟨_, _, _, e, _⟩ | ⟨_, _, _, _, e, _⟩ <;> (rw [e]; simp)
  rcases Nat.lt_or_ge f.length 21 with hl | hl
  · exact absurd (by unfold readL; rw [if_pos hl]) hn
  · exact hl
theorem u8_wrap (n : Int) : IntKind.u8.wrap n = n % 256 := by simp [IntKind.wrap, IntKind.bits, IntKind.signed]
theorem u8_xor_nat (a b : Nat) (ha : a < 256) (hb : b < 256) : bits .xor .u8 (a : Int) (b : Int) = ((a ^^^ b : Nat) : Int) := by
  have hx : a ^^^ b < 2 ^ 8 := Nat.xor_lt_two_pow (by omega) (by omega)
  have h1 : (BitVec.ofInt 8 (a : Int)).toNat = a := by
    rw [BitVec.ofInt_natCast, BitVec.toNat_ofNat]; exact Nat.mod_eq_of_lt (by omega)
  have h2 : (BitVec.ofInt 8 (b : Int)).toNat = b := by
    rw [BitVec.ofInt_natCast, BitVec.toNat_ofNat]; exact Nat.mod_eq_of_lt (by omega)
  show IntKind.u8.wrap ((BitVec.ofInt 8 (a : Int) ^^^ BitVec.ofInt 8 (b : Int)).toNat : Int) = _
  rw [BitVec.toNat_xor, h1, h2, u8_wrap]
  omega
theorem u8_pow {r : Nat} (hr : r < 8) : IntKind.u8.wrap ((2 : Int) ^ r) = ((2 ^ r : Nat) : Int) := by
  have h : 2 ^ r < 2 ^ 8 := Nat.pow_lt_pow_right (by decide) hr
  rw [u8_wrap, show ((2 : Int) ^ r) = ((2 ^ r : Nat) : Int) by push_cast; rfl]
  generalize 2 ^ r = z at h
  omega
theorem xor_ne {r c : Nat} (hr : r < 8) : c ≠ c ^^^ 2 ^ r := fun h => by
  have h1 : c ^^^ 0 = c ^^^ 2 ^ r := by rw [Nat.xor_zero]; exact h
  have h2 := xor_right_inj h1
  have h3 : 0 < 2 ^ r := Nat.pow_pos (by decide)
  omega
/-- a byte is stored -/
theorem Rd.set8 {w : World} {B g i : Nat} {f : BL} {u : Value} (h : Rd w B (some ⟨g, 0, none⟩) (u8s f)) (hi : i < f.length) (hc : w.cell? ⟨g, i, none⟩ = some u) (d : UInt8) : Rd (w.setCell ⟨g, i, none⟩ (.int .u8 (d.toNat : Int))) B (some ⟨g, 0, none⟩) (u8s (f.set i d)) := fun _ => by
  obtain ⟨b, off, e, hb, hcc⟩ := h.at_ (k := i) (by rw [u8s_len]; exact hi)
  injection e with e
  injection e with e1 e2
  subst e1 e2
  refine ⟨g, 0, rfl, hb, fun j v hv => ?_⟩
  rw [Nat.zero_add]
  unfold u8s at hv
  rw [List.getElem?_map, Option.map_eq_some_iff] at hv
  obtain ⟨c, hv1, rfl⟩ := hv
  by_cases hj : j = i
  · subst hj
    rw [List.getElem?_set_self hi] at hv1
    injection hv1 with hv1
    subst hv1
    exact World.cell?_setCell_same _ _ _ hc
  · rw [List.getElem?_set_ne (Ne.symm hj)] at hv1
    rw [World.cell?_setCell_other _ _ _ _ (fun e => hj (by injection e with _ e; first | exact e | exact e.symm))]
    have h9 := hcc j (.int .u8 (c.toNat : Int)) (by unfold u8s; rw [List.getElem?_map, hv1]; rfl)
    rwa [Nat.zero_add] at h9
/-- frames went on their way to the other one -/
theorem nst_way {y w' : World} {L W E Y U T P1 P2 n Q1 Q2 a b1 ep m B : Nat} {tag tag' : Nat → Option (Nat × Nat)} {ways puts gots : List (List BL)} {s t : LE} {ws wt ps pt gs gt fs : List BL} (h : NetM w' L W E Y U T P1 P2 tag' (ways.set b1 (goesF (ways.getD b1 []) fs)) puts gots false) (hm : ModN L y w') (hN : NetM y L W E Y U T P1 P2 tag ways puts gots false) (hT : Two y L B n Q1 Q2 s t) (hB : B ≤ y.heap.size) (hE1 : y.cell? ⟨E, a, none⟩ = some (.pointer (some ⟨Q1, 0, none⟩))) (hE2 : y.cell? ⟨E, 1 - a, none⟩ = some (.pointer (some ⟨Q2, 0, none⟩)))
    (ha : a < 2) (hb : 1 - a = b1) (hW : ways[a]? = some ws ∧ ways[1 - a]? = some wt) (hP : puts[a]? = some ps ∧ puts[1 - a]? = some pt) (hG : gots[a]? = some gs ∧ gots[1 - a]? = some gt) (hD : NDir ep s t ws (goesF wt fs) ps pt gs gt (m + 1)) : NSt w' L W P1 P2 a Q1 Q2 ep (m + 1) (n + 1) := by
  subst hb
  have hgd : ways.getD (1 - a) [] = wt := by rw [List.getD_eq_getElem?_getD, hW.2]; rfl
  rw [hgd] at h
  have hbl : 1 - a < ways.length := (List.getElem?_eq_some_iff.1 hW.2).1
  exact ⟨E, Y, U, T, tag', B, _, puts, gots, s, t, ws, _, ps, pt, gs, gt, h, (hT.modn hm).mono (Nat.le_refl _) (Nat.le_succ _), Nat.le_trans hB hm.size, (h.ptr hN a).trans hE1, (h.ptr hN (1 - a)).trans hE2, ⟨by rw [List.getElem?_set_ne (by omega)]; exact hW.1, List.getElem?_set_self hbl⟩, hP, hG, hD⟩
theorem nst_way1 {y w' : World} {L W E Y U T P1 P2 n Q1 Q2 a ep m B : Nat} {tag tag' : Nat → Option (Nat × Nat)} {ways puts gots : List (List BL)} {s t : LE} {ws wt ps pt gs gt fs : List BL} (h : NetM w' L W E Y U T P1 P2 tag' (ways.set a (goesF (ways.getD a []) fs)) puts gots false) (hm : ModN L y w') (hN : NetM y L W E Y U T P1 P2 tag ways puts gots false) (hT : Two y L B n Q1 Q2 s t) (hB : B ≤ y.heap.size) (hE1 : y.cell? ⟨E, a, none⟩ = some (.pointer (some ⟨Q1, 0, none⟩))) (hE2 : y.cell? ⟨E, 1 - a, none⟩ = some (.pointer (some ⟨Q2, 0, none⟩)))
    (ha : a < 2) (hW : ways[a]? = some ws ∧ ways[1 - a]? = some wt) (hP : puts[a]? = some ps ∧ puts[1 - a]? = some pt) (hG : gots[a]? = some gs ∧ gots[1 - a]? = some gt) (hD : NDir ep s t (goesF ws fs) wt ps pt gs gt (m + 1)) : NSt w' L W P1 P2 a Q1 Q2 ep (m + 1) (n + 1) := by
  have hgd : ways.getD a [] = ws := by rw [List.getD_eq_getElem?_getD, hW.1]; rfl
  rw [hgd] at h
  have hbl : a < ways.length := (List.getElem?_eq_some_iff.1 hW.1).1
  exact ⟨E, Y, U, T, tag', B, _, puts, gots, s, t, _, wt, ps, pt, gs, gt, h, (hT.modn hm).mono (Nat.le_refl _) (Nat.le_succ _), Nat.le_trans hB hm.size, (h.ptr hN a).trans hE1, (h.ptr hN (1 - a)).trans hE2, ⟨List.getElem?_set_self hbl, by rw [List.getElem?_set_ne (by omega)]; exact hW.2⟩, hP, hG, hD⟩
theorem strs_one (xs : List BL) : ∀ u ∈ strs xs, u.oneCell' = true := fun u hu => by
  unfold strs at hu
  obtain ⟨b, _, rfl⟩ := List.mem_map.1 hu
  rfl
end Go.Proofs.Ytigmmikijjcdiaa
