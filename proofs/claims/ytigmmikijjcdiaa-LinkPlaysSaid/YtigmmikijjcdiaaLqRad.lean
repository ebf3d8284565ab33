/- The document's ahead: a message is put among those that were heard ahead. (printed by gen/rad.py) -/
import Derived.Test.YtigmmikijjcdiaaProg
import Derived.Test.YtigmmikijjcdiaaLqRen
import Derived.Test.YtigmmikijjcdiaaLqRso
import Derived.Test.YtigmmikijjcdiaaLqLko
import Derived.Test.YtigmmikijjcdiaaLqRfm
import Derived.Deep.DeepCutAuto
import Derived.Lib.Hide
import Derived.WalkSpells
import Derived.WalkMore
import Derived.IntWalk


namespace Go.Proofs.Ytigmmikijjcdiaa
set_option linter.unusedVariables false
/-- where a number belongs -/
theorem ah_split (n : Nat) : ∀ xs : List (Nat × BL), xs.Pairwise (fun a b => a.1 < b.1) → ∃ lo hi, xs = lo ++ hi ∧ (∀ x ∈ lo, x.1 < n) ∧ (∀ x ∈ hi, n ≤ x.1)
  | [], _ => ⟨[], [], rfl, (fun x h => by cases h), (fun x h => by cases h)⟩
  | y :: xs, h => by
    obtain ⟨h1, h2⟩ := List.pairwise_cons.1 h
    by_cases hy : y.1 < n
    · obtain ⟨lo, hi, e, hlo, hhi⟩ := ah_split n xs h2
      refine ⟨y :: lo, hi, by rw [e]; rfl, fun x hx => ?_, hhi⟩
      rcases List.mem_cons.1 hx with rfl | hx
      · exact hy
      · exact hlo x hx
    · refine ⟨[], y :: xs, rfl, fun x hx => by (cases hx), fun x hx => ?_⟩
      rcases List.mem_cons.1 hx with rfl | hx
      · omega
      · have := h1 x hx; omega
theorem AhF.none_iff {xs : List (Nat × BL)} {f : Nat → Option BL} (h : AhF xs f) (n : Nat) : f n = none ↔ ∀ x ∈ xs, x.1 ≠ n := by
  constructor
  · rintro hn x hx rfl
    have := (h.2 x.1 x.2).2 hx
    rw [hn] at this
    cases this
  · intro hx
    cases hf : f n with
    | none => rfl
    | some b => exact absurd rfl (hx _ ((h.2 n b).1 hf))
/-- a message is put in its place -/
theorem AhF.put {lo hi : List (Nat × BL)} {f : Nat → Option BL} (h : AhF (lo ++ hi) f) {n : Nat} (b : BL) (hlo : ∀ x ∈ lo, x.1 < n) (hhi : ∀ x ∈ hi, n ≤ x.1) (hn : f n = none) : AhF (lo ++ (n, b) :: hi) (fun m => if m = n then some b else f m) := by
  have hne := (h.none_iff n).1 hn
  have hhi' : ∀ x ∈ hi, n < x.1 := fun x hx => by have h1 := hhi x hx; have h2 := hne x (List.mem_append.2 (.inr hx)); omega
  obtain ⟨p1, p2, p3⟩ := List.pairwise_append.1 h.1
  refine ⟨List.pairwise_append.2 ⟨p1, List.pairwise_cons.2 ⟨fun x hx => hhi' x hx, p2⟩, fun x hx y hy => ?_⟩, fun m c => ?_⟩
  · rcases List.mem_cons.1 hy with rfl | hy
    · exact hlo x hx
    · exact p3 x hx y hy
  · show (if m = n then some b else f m) = some c ↔ _
    rw [List.mem_append, List.mem_cons]
    by_cases hm : m = n
    · subst hm
      rw [if_pos rfl]
      constructor
      · intro e
        injection e with e
        subst e
        exact .inr (.inl rfl)
      · rintro (hx | hx | hx)
        · exact absurd rfl (hne _ (List.mem_append.2 (.inl hx)))
        · injection hx with _ hx
          rw [hx]
        · exact absurd rfl (hne _ (List.mem_append.2 (.inr hx)))
    · rw [if_neg hm, h.2 m c, List.mem_append]
      constructor
      · rintro (hx | hx)
        · exact .inl hx
        · exact .inr (.inr hx)
      · rintro (hx | hx | hx)
        · exact .inl hx
        · injection hx with hx _
          exact absurd hx hm
        · exact .inr hx
/-- the first one is told -/
theorem AhF.tail {x : Nat × BL} {xs : List (Nat × BL)} {f : Nat → Option BL} (h : AhF (x :: xs) f) : AhF xs (fun m => if m = x.1 then none else f m) := by
  obtain ⟨h1, h2⟩ := List.pairwise_cons.1 h.1
  refine ⟨h2, fun m c => ?_⟩
  show (if m = x.1 then none else f m) = some c ↔ _
  by_cases hm : m = x.1
  · subst hm
    rw [if_pos rfl]
    constructor
    · intro e
      cases e
    · intro hx
      have := h1 _ hx
      omega
  · rw [if_neg hm, h.2 m c, List.mem_cons]
    constructor
    · rintro (rfl | hx)
      · exact absurd rfl hm
      · exact hx
    · exact .inr
theorem AhF.at_nil {f : Nat → Option BL} (h : AhF [] f) (n : Nat) : f n = none := (h.none_iff n).2 fun x hx => by (cases hx)
/-- is the next one there? it is the first -/
theorem AhF.first {x : Nat × BL} {xs : List (Nat × BL)} {f : Nat → Option BL} {H : Nat} (h : AhF (x :: xs) f) (hall : ∀ n b, f n = some b → H < n) : (x.1 = H + 1 → f (H + 1) = some x.2) ∧ (x.1 ≠ H + 1 → f (H + 1) = none) := by
  obtain ⟨h1, h2⟩ := List.pairwise_cons.1 h.1
  refine ⟨fun e => ?_, fun e => (h.none_iff _).2 fun y hy => ?_⟩
  · rw [← e]
    exact (h.2 x.1 x.2).2 List.mem_cons_self
  · have hx := hall x.1 x.2 ((h.2 x.1 x.2).2 List.mem_cons_self)
    rcases List.mem_cons.1 hy with rfl | hy
    · exact e
    · have := h1 y hy
      omega
/-- behind the telling nothing is left to tell -/
theorem tell_none : ∀ (k : Nat) (s : LE), (∀ n b, s.ahead n = some b → s.heard < n ∧ n < s.heard + k) → (tellL k s).2.ahead ((tellL k s).2.heard + 1) = none
  | 0, s, h => by
    cases hf : s.ahead (s.heard + 1) with
    | none => exact hf
    | some b => have := h _ _ hf; omega
  | k + 1, s, h => by
    unfold tellL
    cases hf : s.ahead (s.heard + 1) with
    | none => exact hf
    | some b =>
      dsimp only
      refine tell_none k _ fun n c hc => ?_
      dsimp only at hc ⊢
      split at hc
      · cases hc
      · rename_i hn
        have := h n c hc
        omega
end Go.Proofs.Ytigmmikijjcdiaa










namespace Go.Proofs.Ytigmmikijjcdiaa
open Go.RowKit
set_option linter.unusedVariables false
set_option linter.unusedSimpArgs false
abbrev AhL := List (Nat × BL)
def midI (n : Nat) (b : BL) (st : AhL × Bool) (x : Nat × BL) : AhL × Bool := if st.2 = false ∧ n < x.1 then (st.1 ++ [(n, b)], true) else st
def insI (n : Nat) (b : BL) (st : AhL × Bool) (x : Nat × BL) : AhL × Bool := ((midI n b st x).1 ++ [x], (midI n b st x).2)
def insF (n : Nat) (b : BL) (xs : AhL) : AhL × Bool := xs.foldl (insI n b) ([], false)
def insE (n : Nat) (b : BL) (xs : AhL) : AhL := if (insF n b xs).2 then (insF n b xs).1 else (insF n b xs).1 ++ [(n, b)]
theorem insF_snoc (n : Nat) (b : BL) (xs : AhL) (x : Nat × BL) : insF n b (xs ++ [x]) = insI n b (insF n b xs) x := by unfold insF; rw [List.foldl_append]; rfl
theorem ins_lo (n : Nat) (b : BL) : ∀ (lo acc : AhL), (∀ x ∈ lo, x.1 < n) → lo.foldl (insI n b) (acc, false) = (acc ++ lo, false)
  | [], acc, _ => by simp
  | x :: lo, acc, h => by
    have hx := h x List.mem_cons_self
    have e : insI n b (acc, false) x = (acc ++ [x], false) := by unfold insI midI; rw [if_neg (by simp; omega)]
    rw [List.foldl_cons, e, ins_lo n b lo _ fun y hy => h y (List.mem_cons_of_mem _ hy)]
    simp
theorem ins_hi (n : Nat) (b : BL) : ∀ (hi acc : AhL), hi.foldl (insI n b) (acc, true) = (acc ++ hi, true)
  | [], acc => by simp
  | x :: hi, acc => by
    have e : insI n b (acc, true) x = (acc ++ [x], true) := by unfold insI midI; rw [if_neg (by simp)]
    rw [List.foldl_cons, e, ins_hi n b hi]
    simp
theorem ins_end {xs : AhL} (n : Nat) (b : BL) (hp : xs.Pairwise (fun a b => a.1 < b.1)) (hn : ∀ x ∈ xs, x.1 ≠ n) : ∃ lo hi, xs = lo ++ hi ∧ (∀ x ∈ lo, x.1 < n) ∧ (∀ x ∈ hi, n ≤ x.1) ∧ insE n b xs = lo ++ (n, b) :: hi := by
  obtain ⟨lo, hi, rfl, h1, h2⟩ := ah_split n xs hp
  refine ⟨lo, hi, rfl, h1, h2, ?_⟩
  have e1 : insF n b (lo ++ hi) = hi.foldl (insI n b) (lo, false) := by unfold insF; rw [List.foldl_append, ins_lo n b lo [] h1]; rfl
  cases hi with
  | nil => unfold insE; rw [e1]; rfl
  | cons y hi =>
    have hy : n < y.1 := by have a := h2 y List.mem_cons_self; have c := hn y (by simp); omega
    have e : insI n b (lo, false) y = (lo ++ [(n, b)] ++ [y], true) := by unfold insI midI; rw [if_pos ⟨rfl, hy⟩]
    rw [List.foldl_cons, e, ins_hi] at e1
    unfold insE
    rw [e1]
    simp
theorem insF_len (n : Nat) (b : BL) (xs : AhL) : (insF n b xs).1.length = xs.length + (insF n b xs).2.toNat := by
  have h : ∀ (ys : AhL) (st : AhL × Bool), (ys.foldl (insI n b) st).1.length + st.2.toNat = st.1.length + ys.length + (ys.foldl (insI n b) st).2.toNat := by
    intro ys
    induction ys with
    | nil => intro st; simp
    | cons y ys ih =>
      intro st
      rw [List.foldl_cons]
      have h1 := ih (insI n b st y)
      have h2 : (insI n b st y).1.length + st.2.toNat = st.1.length + 1 + (insI n b st y).2.toNat := by
        unfold insI midI
        split
        · rename_i hc; rw [hc.1]; simp
        · simp
      rw [List.length_cons]
      omega
  have := h xs ([], false)
  simpa [insF] using this
/-- numbers in order, in a row of k: k at most -/
theorem ah_le : ∀ (xs : AhL) (h k : Nat), xs.Pairwise (fun a b => a.1 < b.1) → (∀ x ∈ xs, h < x.1 ∧ x.1 ≤ h + k) → xs.length ≤ k
  | [], _, _, _, _ => by simp
  | x :: xs, h, k, hp, hx => by
    obtain ⟨p1, p2⟩ := List.pairwise_cons.1 hp
    have h0 := hx x List.mem_cons_self
    have := ah_le xs x.1 (h + k - x.1) p2 fun y hy => ⟨p1 y hy, by have := (hx y (List.mem_cons_of_mem _ hy)).2; omega⟩
    rw [List.length_cons]
    omega
theorem AhF.le {xs : AhL} {s : LE} (h : AhF xs s.ahead) (hok : LEok s) : xs.length ≤ 64 := ah_le xs s.heard 64 h.1 fun x hx => (hok.ahead x.1 x.2 ((h.2 x.1 x.2).2 hx)).2
theorem AhR.at_ {w : World} {lo m d : Nat} {B : Option Addr} {xs : AhL} (h : AhR w lo (.slice B m d) xs) {i : Nat} {x : Nat × BL} (hx : xs[i]? = some x) : ∃ g off, B = some ⟨g, off, none⟩ ∧ m = xs.length ∧ g < w.heap.size ∧ w.cell? ⟨g, off + i * 2, none⟩ = some (.int .i64 (x.1 : Int)) ∧ w.cell? ⟨g, off + i * 2 + 1, none⟩ = some (.string ⟨x.2.toArray⟩) := by
  obtain ⟨A, c, h1, h2, h3, h4⟩ := h
  injection h1 with e1 e2 e3
  have hl := (List.getElem?_eq_some_iff.1 hx).1
  obtain ⟨g, off, cur, f1, f2, f3, f4⟩ := h4 (by omega)
  obtain ⟨c1, c2⟩ := ahC_num xs i x hx
  exact ⟨g, off, e1.trans f1, e2, lt_of_block f3, (cell_of_row _ _ _ _ _ _ f3).trans (f4 _ _ c1), (cell_of_row _ _ _ _ _ _ f3).trans (by rw [Nat.add_assoc]; exact f4 _ _ c2)⟩
def putA (s : LE) (n : Nat) (b : BL) : LE := if s.ahead n = none then { s with ahead := fun m => if m = n then some b else s.ahead m } else s
def RAhPost (w : World) (L Q : Nat) (G : Option Nat) (s : LE) (n : Nat) (b : BL) (e : Ending) (w' : World) : Prop :=
  e = .returned (.tuple #[]) ∧ REnd w' L Q G (putA s n b) ∧ KB [Q] w w'
theorem rah_same {w y : World} {L Q : Nat} {G : Option Nat} {s : LE} {n : Nat} {b : BL} (hE : REnd w L Q G s) (hb : Below w.heap.size w y) (hn : s.ahead n ≠ none) : RAhPost w L Q G s n b (.returned (.tuple #[])) y := by
  unfold RAhPost putA
  rw [if_neg hn]
  exact ⟨rfl, hE.next hb, (KB.refl _ _).below hb (Nat.le_refl _)⟩
/-- a row of those, made by the call -/
theorem AhR.of_own {w : World} {lo B k c : Nat} {A : Option Addr} {ls : AhL} (h : w.ownsRow B 118 2 (.slice A k c) k (ahC ls)) (hB : lo ≤ B) (hk : ls.length = k) : AhR w lo (.slice A k c) ls := by
  subst hk
  rcases h.2 with ⟨h1, h0⟩ | ⟨g, cap, cur, e1, e2, e3, e4, e5, e6, e7⟩
  · injection h1 with q1 q2 q3
    subst q1 q3
    exact ⟨none, 0, by rw [← q2], by omega, by decide, fun h => by omega⟩
  · injection e1 with q1 _ q3
    subst q1 q3
    exact ⟨_, _, rfl, by omega, e5, fun _ => ⟨g, 0, cur, rfl, by omega, e3, fun j u hu => by rw [Nat.zero_add]; rw [← e7, List.getElem?_take] at hu; split at hu; simpa using hu; cases hu⟩⟩
theorem REnd.setA {y : World} {L Q : Nat} {G : Option Nat} {s : LE} {k c B : Nat} {A : Option Addr} {ls : AhL} {f : Nat → Option BL} (hE : REnd y L Q G s) (hrow : y.ownsRow B 118 2 (.slice A k c) k (ahC ls)) (hk : ls.length = k) (hL : L ≤ B) (hQ : Q < B) (hf : AhF ls f) (hok : LEok { s with ahead := f }) :
    REnd (y.setCell ⟨Q, 6, none⟩ (.slice A k c)) L Q G { s with ahead := f } := by
  obtain ⟨h1, h2, h3, sv, av, xs, h4, h5, h6, h7⟩ := hE
  have hk2 : ∀ g, g ≠ Q → (y.setCell ⟨Q, 6, none⟩ (.slice A k c)).heap[g]? = y.heap[g]? := fun g hg => Below.heap_setCell _ _ _ _ hg
  refine ⟨hok, h2, h3, sv, _, ls, heap_setCell_same _ Q 6 _ _ _ h4, h5.keep fun g e _ => hk2 g fun e2 => ?_, AhR.of_own (own_same hrow fun g hg => hk2 g (by have := (hrow.lt g hg).1; omega)) hL hk, hf⟩
  obtain ⟨cur, hc⟩ := h5.blk g e
  exact row_ne hc h4 (by decide) e2
theorem rah_put {w y : World} {L Q : Nat} {G : Option Nat} {s : LE} {k c n : Nat} {A : Option Addr} {b : BL} {xs ls : AhL} (hE : REnd w L Q G s) (hx : AhF xs s.ahead) (hb : Below w.heap.size w y) (hL : L ≤ w.heap.size) (hQ : Q < w.heap.size) (hn : s.ahead n = none) (hn1 : s.heard < n) (hn2 : n ≤ s.heard + 64) (hbl : b.length ≤ 1048576)
    (hrow : y.ownsRow w.heap.size 118 2 (.slice A k c) k (ahC ls)) (hk : ls.length = k) (hl : ls = insE n b xs) : RAhPost w L Q G s n b (.returned (.tuple #[])) (y.setCell ⟨Q, 6, none⟩ (.slice A k c)) := by
  have hok := hE.1
  obtain ⟨lo, hi, rfl, h1, h2, h3⟩ := ins_end n b hx.1 ((hx.none_iff n).1 hn)
  have hF := hx.put b h1 h2 hn
  rw [← h3, ← hl] at hF
  unfold RAhPost putA
  rw [if_pos hn]
  refine ⟨rfl, (hE.next hb).setA hrow hk hL hQ hF ?_, ((KB.refl _ _).below hb (Nat.le_refl _)).setCell (.inr (by simp)) _⟩
  refine ⟨hok.ep, hok.sent, hok.first, hok.fresh1, hok.fresh2, hok.next, hok.heard, hok.bytes, fun m c hc => ?_⟩
  dsimp only at hc
  split at hc
  · rename_i e
    injection hc with hc
    subst e hc
    exact ⟨hbl, hn1, hn2⟩
  · exact hok.ahead m c hc
theorem mid_yes {n : Nat} {b : BL} {xs : AhL} {x : Nat × BL} (hd : (insF n b xs).2 = false) (hx : n < x.1) : midI n b (insF n b xs) x = ((insF n b xs).1 ++ [(n, b)], true) := by unfold midI; rw [if_pos ⟨hd, hx⟩]
theorem mid_no {n : Nat} {b : BL} {xs : AhL} {x : Nat × BL} (h : (insF n b xs).2 = true ∨ ¬ n < x.1) : midI n b (insF n b xs) x = insF n b xs := by unfold midI; rw [if_neg (by rintro ⟨h1, h2⟩; rcases h with h | h; rw [h] at h1; cases h1; exact h h2)]
theorem ahC_app (xs ys : AhL) : ahC (xs ++ ys) = ahC xs ++ ahC ys := by unfold ahC; simp
set_option maxRecDepth 100000 in
set_option maxHeartbeats 16000000 in
theorem rahead_any (w : World) {L Q : Nat} {G : Option Nat} {s : LE} (h : REnd w L Q G s) (hLw : L ≤ w.heap.size) (n : Nat) (b : BL) (hn1 : s.heard < n) (hn2 : n ≤ s.heard + 64) (hbl : b.length ≤ 1048576) :
    Calls Try.prog 64 #[.pointer (some ⟨Q, 0, none⟩), .int .i64 (n : Int), .string ⟨b.toArray⟩] w (RAhPost w L Q G s n b) := by
  have hok := h.1
  have HE := hide h
  obtain ⟨-, -, -, sv, av, xs, h4, -, h6, h7⟩ := h
  obtain ⟨B, d, rfl, hd1, hd2, -⟩ := id h6
  obtain ⟨m, hm⟩ : ∃ z, xs.length = z := ⟨_, rfl⟩
  have hm64 : m ≤ 64 := by rw [← hm]; exact h7.le hok
  rw [hm] at h4 h6 hd1
  have hQ := lt_of_block h4
  have e6 := cell_of_row _ _ 6 _ _ _ h4
  have H6 := hide h6
  have H7 := hide h7
  have HM := hide hm
  have e6f : w.frozen? ⟨Q, 6, none⟩ = false := frozen_of_row _ _ 6 _ _ h4
  have e6 : w.cell? ⟨Q, 6, none⟩ = some (.slice B m d) := by simpa using e6
  clear h4 h6 h7 hm hd1 hd2
  obtain ⟨i3, a3i, a3z, a3s, a3b⟩ := info_parts (show (Try.prog.info? 118).map (fun i => (i.zero, i.size, i.bytes)) = some (some (.agg #[.int .i64 0, .string ⟨#[]⟩]), 2, 24) by kernel_rfl)
  have HOk := hide hok
  clear hok
  have hnI : (n : Int) ≤ 9223372036854775807 := by have := HOk.out.heard; omega
  have HN2 := hide hn2
  have HN1 := hide hn1
  have HBL := hide hbl
  clear hn1 hn2 hbl
  go_enter Try.func64, Try.ntmps64
  go_wp2
  go_loopw [6, 7, 8] (fun v6 v7 v8 wr => ∃ (i j : Nat) (A6 : Option Addr) (c6 : Nat) (dn : Bool), i ≤ m ∧ j ≤ i + 1 ∧ v8 = .int .i64 (i : Int) ∧ v7 = .bool dn ∧ v6 = .slice A6 j c6 ∧ Hid ((insF n b (xs.take i)).1.length = j) ∧ Hid ((insF n b (xs.take i)).2 = dn) ∧ Hid (wr.ownsRow w.heap.size 118 2 (.slice A6 j c6) j (ahC (insF n b (xs.take i)).1)) ∧ Hid (∀ x ∈ xs.take i, x.1 ≠ n) ∧ Hid (Below w.heap.size w wr)) (fun _ _ v8 _ => m - (intOf v8).toNat)
  case atStart => exact ⟨0, 0, none, 0, false, by omega, by omega, rfl, rfl, rfl, hide rfl, hide rfl, hide (World.ownsRow_nil _ _ _ _), hide (fun x hx => by simp at hx), hide (Below.refl _ _)⟩
  case round =>
    obtain ⟨i, j, A6, c6, dn, hi, hj, rfl, rfl, rfl, HJ, HD, HO, HNe, HBr⟩ := hrel
    obtain ⟨wr, rfl⟩ : ∃ z : World, z = wr := ⟨_, rfl⟩
    have swr : w.heap.size ≤ wr.heap.size := HBr.out.size
    have hQr : Q < wr.heap.size := by omega
    have r6 := (HBr.out.cell (p := ⟨Q, 6, none⟩) hQ).trans e6
    by_cases hlt : i < m
    · have hI1 : (i : Int) < (m : Int) := by omega
      obtain ⟨x, hx⟩ : ∃ x, xs[i]? = some x := ⟨_, List.getElem?_eq_getElem (by rw [HM.out]; exact hlt)⟩
      obtain ⟨g, off, rfl, -, hgl, q0, q1⟩ := H6.out.at_ hx
      have r0 := (HBr.out.cell (p := ⟨g, off + i * 2, none⟩) hgl).trans q0
      have r1 := (HBr.out.cell (p := ⟨g, off + i * 2 + 1, none⟩) hgl).trans q1
      clear q0 q1
      have HX := hide hx
      obtain ⟨xn, hxn⟩ : ∃ z, x.1 = z := ⟨_, rfl⟩
      obtain ⟨xb, hxb⟩ : ∃ z, x.2 = z := ⟨_, rfl⟩
      rw [hxn] at r0
      rw [hxb] at r1
      have HXe : Hid (x = (xn, xb)) := hide (by rw [← hxn, ← hxb])
      clear hx
      skip
      by_cases cn : xn = n
      · have hne : s.ahead n ≠ none := fun e => (H7.out.none_iff n).1 e x (List.mem_of_getElem? HX.out) (by rw [hxn, cn])
        have HFin := hide (rah_same (b := b) HE.out HBr.out hne)
        have cnI : ((xn : Int) == (n : Int)) = true := by simp; omega
        clear hne hxn hxb cn
        go_wp2
        refine bodyPost_ret (results_none rfl _ _ _) rfl ?_
        exact HFin.out
      have cnI : ((xn : Int) == (n : Int)) = false := by simp; omega
      have HNe2 : Hid (∀ x ∈ xs.take (i + 1), x.1 ≠ n) := hide (fun y hy => by rw [List.take_add_one, HX.out] at hy; rcases List.mem_append.1 hy with hy | hy; exact HNe.out y hy; simp at hy; subst hy; rw [hxn]; exact cn)
      have HT : Hid (insF n b (xs.take (i + 1)) = insI n b (insF n b (xs.take i)) x) := hide (by rw [List.take_add_one, HX.out]; exact insF_snoc n b _ x)
      have HXn : Hid (x.1 = xn) := hide hxn
      clear hxn hxb cn HNe
      obtain ⟨t, ht⟩ : ∃ t, (!dn && decide (n < xn)) = t := ⟨_, rfl⟩
      have HTt := hide ht
      clear ht
      go_upto_region 6 with fail
      go_cut [41] (fun v41 wc => v41 = .bool t ∧ wr = wc)
      case first =>
        rcases dn with _ | _
        · by_cases cx : (n : Int) < (xn : Int)
          · have HT3 : Hid (true = t) := hide (by rw [← HTt.out]; simp; omega)
            go_wp2
            go_meet
            case rel => exact ⟨by rw [← HT3.out], rfl⟩
          · have HT3 : Hid (false = t) := hide (by rw [← HTt.out]; simp; omega)
            go_wp2
            go_meet
            case rel => exact ⟨by rw [← HT3.out], rfl⟩
        · have HT3 : Hid (false = t) := hide (by rw [← HTt.out]; simp)
          go_wp2
          go_meet
          case rel => exact ⟨by rw [← HT3.out], rfl⟩
      case rest =>
        obtain ⟨rfl, rfl⟩ := hcut
        go_upto_if 41 with fail
        go_cut [6, 7] (fun v6 v7 wc => ∃ (j1 : Nat) (A1 : Option Addr) (c1 : Nat) (d1 : Bool), j1 ≤ j + 1 ∧ v7 = .bool d1 ∧ v6 = .slice A1 j1 c1 ∧ Hid ((midI n b (insF n b (xs.take i)) x).1.length = j1) ∧ Hid ((midI n b (insF n b (xs.take i)) x).2 = d1) ∧ Hid (wc.ownsRow w.heap.size 118 2 (.slice A1 j1 c1) j1 (ahC (midI n b (insF n b (xs.take i)) x).1)) ∧ Hid (Below w.heap.size w wc))
        case first =>
          rcases t with _ | _
          rotate_left
          · have HMi : Hid (midI n b (insF n b (xs.take i)) x = ((insF n b (xs.take i)).1 ++ [(n, b)], true)) := hide (mid_yes (by rw [HD.out]; have h9 := HTt.out; cases dn <;> simp at h9 ⊢) (by rw [HXn.out]; have h9 := HTt.out; cases dn <;> simp at h9; exact h9))
            go_wp2_with (at_builtin; refine wpList_app rfl (.tmp 42) (.tmp 46) 76 rfl w.heap.size 118 i3 (.agg #[.int .i64 0, .string ⟨#[]⟩]) 2 24 Try.underlying76 a3i a3z a3s a3b rfl (by decide) (.slice A6 j c6) j (ahC (insF n b (xs.take i)).1) rfl (HO.out.alloc _) (wr.heap.size + 1) (some ⟨wr.heap.size, 0, none⟩) 1 1 [.int .i64 (n : Int), .string ⟨(b).toArray⟩] rfl rfl (Rd.new _ _ _ _) (by simp [Value.oneCell']) (by unfold maxLen; omega) (by omega) (by simp; omega) ?_; intro A8 c8 y2 own8 hg8 hat8)
            have HBy : Hid (Below w.heap.size w y2) := hide (app_below1 (HBr.out.alloc HBr.out.size _) HO.out hg8)
            have HO2 : Hid (y2.ownsRow w.heap.size 118 2 (.slice A8 (j + 1) c8) (j + 1) (ahC (midI n b (insF n b (xs.take i)) x).1)) := hide (by rw [HMi.out, ahC_app]; exact own8)
            clear own8 hg8 hat8
            go_wp2
            go_meet
            case rel => exact ⟨j + 1, A8, c8, true, by omega, rfl, rfl, hide (by rw [HMi.out, List.length_append, HJ.out]; rfl), hide (by rw [HMi.out]), HO2, HBy⟩
          have HMi : Hid (midI n b (insF n b (xs.take i)) x = insF n b (xs.take i)) := hide (mid_no (by rw [HD.out, HXn.out]; have h9 := HTt.out; cases dn <;> simp at h9 ⊢; omega))
          go_wp2
          go_meet
          case rel => exact ⟨j, A6, c6, dn, by omega, rfl, rfl, hide (by rw [HMi.out]; exact HJ.out), hide (by rw [HMi.out]; exact HD.out), hide (by rw [HMi.out]; exact HO.out), HBr⟩
        case rest =>
          obtain ⟨j1, A1, c1, d1, hj1, rfl, rfl, HJ1, HD1, HO1, HB1⟩ := hcut
          clear HJ HD HO HBr
          obtain ⟨wc, rfl⟩ : ∃ z : World, z = wc := ⟨_, rfl⟩
          have swc : w.heap.size ≤ wc.heap.size := HB1.out.size
          have hQc : Q < wc.heap.size := by omega
          have hgc : g < wc.heap.size := by omega
          have s6 := (HB1.out.cell (p := ⟨Q, 6, none⟩) hQ).trans e6
          obtain ⟨g2, off2, he2, -, -, q0, q1⟩ := H6.out.at_ HX.out
          injection he2 with he2
          injection he2 with he2 he3 _
          subst he2 he3
          rw [HXe.out] at q0 q1
          have s0 := (HB1.out.cell (p := ⟨g, off + i * 2, none⟩) hgl).trans q0
          have s1 := (HB1.out.cell (p := ⟨g, off + i * 2 + 1, none⟩) hgl).trans q1
          clear q0 q1 r0 r1 r6
          go_upto_region 9 with fail
          go_wp2_with (at_builtin; refine wpList_app rfl (.tmp 48) (.tmp 56) 76 rfl w.heap.size 118 i3 (.agg #[.int .i64 0, .string ⟨#[]⟩]) 2 24 Try.underlying76 a3i a3z a3s a3b rfl (by decide) (.slice A1 j1 c1) j1 (ahC (midI n b (insF n b (xs.take i)) x).1) rfl (HO1.out.alloc _) (wc.heap.size + 1) (some ⟨wc.heap.size, 0, none⟩) 1 1 [.int .i64 (xn : Int), .string ⟨(xb).toArray⟩] rfl rfl (Rd.new _ _ _ _) (by simp [Value.oneCell']) (by unfold maxLen; omega) (by omega) (by simp; omega) ?_; intro A8 c8 y2 own8 hg8 hat8)
          have HBy : Hid (Below w.heap.size w y2) := hide (app_below1 (HB1.out.alloc HB1.out.size _) HO1.out hg8)
          have hJ9 : (insF n b (xs.take (i + 1))).1.length = j1 + 1 := by rw [HT.out]; unfold insI; rw [List.length_append, HJ1.out]; rfl
          have hj9 : j1 + 1 ≤ i + 1 + 1 := by have h9 := insF_len n b (xs.take (i + 1)); rw [hJ9, List.length_take] at h9; have := Bool.toNat_le (insF n b (xs.take (i + 1))).2; omega
          have HJ9 := hide hJ9
          clear hJ9
          have HO2 : Hid (y2.ownsRow w.heap.size 118 2 (.slice A8 (j1 + 1) c8) (j1 + 1) (ahC (insF n b (xs.take (i + 1))).1)) := hide (by have e9 : ahC (insF n b (xs.take (i + 1))).1 = ahC (midI n b (insF n b (xs.take i)) x).1 ++ [.int .i64 (xn : Int), .string ⟨xb.toArray⟩] := (by rw [HT.out]; unfold insI; rw [ahC_app]; congr 1; rw [HXe.out]; rfl); rw [e9]; exact own8)
          clear own8 hg8 hat8
          go_wp2
          go_roundw
          case rel => exact ⟨i + 1, j1 + 1, A8, c8, d1, by omega, hj9, by go_num, rfl, rfl, HJ9, hide (by rw [HT.out]; unfold insI; exact HD1.out), HO2, HNe2, HBy⟩
          case measure => simp [intOf]; omega
    have hI1 : ¬ (i : Int) < (m : Int) := by omega
    have hin : xs.take i = xs := List.take_of_length_le (by rw [HM.out]; omega)
    rw [hin] at HJ HD HO HNe
    have hnone : s.ahead n = none := (H7.out.none_iff n).2 HNe.out
    have HNo := hide hnone
    clear hin hnone
    rcases dn with _ | _
    · go_upto_region 12 with (at_builtin; refine wpList_app rfl (.tmp 60) (.tmp 64) 76 rfl w.heap.size 118 i3 (.agg #[.int .i64 0, .string ⟨#[]⟩]) 2 24 Try.underlying76 a3i a3z a3s a3b rfl (by decide) (.slice A6 j c6) j (ahC (insF n b xs).1) rfl (HO.out.alloc _) (wr.heap.size + 1) (some ⟨wr.heap.size, 0, none⟩) 1 1 [.int .i64 (n : Int), .string ⟨(b).toArray⟩] rfl rfl (Rd.new _ _ _ _) (by simp [Value.oneCell']) (by unfold maxLen; omega) (by omega) (by simp; omega) ?_; intro A8 c8 y2 own8 hg8 hat8)
      have HBy : Hid (Below w.heap.size w y2) := hide (app_below1 (HBr.out.alloc HBr.out.size _) HO.out hg8)
      have HO2 : Hid (y2.ownsRow w.heap.size 118 2 (.slice A8 (j + 1) c8) (j + 1) (ahC ((insF n b xs).1 ++ [(n, b)]))) := hide (by rw [ahC_app]; exact own8)
      clear own8 hg8 hat8
      have HFin := hide (rah_put HE.out H7.out HBy.out hLw hQ HNo.out HN1.out HN2.out HBL.out HO2.out (by rw [List.length_append, HJ.out]; rfl) (by unfold insE; rw [HD.out]; rfl))
      have s6 := (HBy.out.cell (p := ⟨Q, 6, none⟩) hQ).trans e6
      have s6f := (HBy.out.frozen (p := ⟨Q, 6, none⟩) hQ).trans e6f
      clear r6
      go_wp2
      go_end0
      exact HFin.out
    have HFin := hide (rah_put HE.out H7.out HBr.out hLw hQ HNo.out HN1.out HN2.out HBL.out HO.out HJ.out (by unfold insE; rw [HD.out]; rfl))
    have s6f := (HBr.out.frozen (p := ⟨Q, 6, none⟩) hQ).trans e6f
    go_wp2
    go_end0
    exact HFin.out
end Go.Proofs.Ytigmmikijjcdiaa
