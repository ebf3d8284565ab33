/- Lemmas: Nsm, Lki, Lno, Lns, Lnh, Nq0. -/
import Derived.Test.YtigmmikijjcdiaaProg
import Derived.Deep.DeepCutAuto
import Derived.Lib.Hide
import Derived.WalkSpells
import Derived.WalkMore
import Derived.IntWalk
import Derived.Test.YtigmmikijjcdiaaLnWw22
set_option linter.unusedVariables false
set_option linter.unusedSimpArgs false
set_option maxRecDepth 100000
set_option maxHeartbeats 16000000
namespace Go.Proofs.Ytigmmikijjcdiaa
open Go.RowKit
theorem same_any (w : World) (P M : Nat) (G : Option Nat) (own : Nat → Option (Bool × Nat)) (k L Q : Nat) (G' : Option Nat) (s : LE) (hE : EndM w P M G own k s) (hR : REnd w L Q G' s) :
  Calls Try.prog 23 #[.pointer (some ⟨P, 0, none⟩), .pointer (some ⟨Q, 0, none⟩)] w fun e w' => e = .returned (.bool true) ∧ w' = w.drew := by
 obtain ⟨A, c, B, d, m, e0, e1, e2, e3, e4, e5, e6, hQ⟩ := hR.cells
 have HEd := hide (hE.next (Below.refl _ _).drew)
 obtain ⟨sl, hsl⟩ : ∃ z, s.sent.length = z := ⟨_, rfl⟩
 rw [hsl] at e5
 have HSl := hide hsl
 clear hsl hE hR
 go_enter Try.func23, Try.ntmps23
 go_upto_region 1 with fail
 refine wp_region_held_drew (S := Kept w) (by kernel_rfl) (Kept.drew w) (fun hS0 => ?_)
 refine tk 0 5 ?_ ?_ ?_; rotate_left; (focus (intro w h; go_simp; (try with_reducible rfl))); (try simp only [zqd, zqe, zqf])
 refine tk 2 7 ?_ ?_ ?_; rotate_left; (focus (intro w h; go_simp; (try with_reducible rfl))); (try simp only [zqd, zqe, zqf])
 refine tk 3 8 ?_ ?_ ?_; rotate_left; (focus (intro w h; go_simp; (try with_reducible rfl))); (try simp only [zqd, zqe, zqf])
 refine tk 4 9 ?_ ?_ ?_; rotate_left; (focus (intro w h; go_simp; (try with_reducible rfl))); (try simp only [zqd, zqe, zqf])
 refine tk 5 10 ?_ ?_ ?_; rotate_left; (focus (intro w h; go_simp; (try with_reducible rfl))); (try simp only [zqd, zqe, zqf])
 refine call_at (i := 1) (d := 6) (by simp only [zqa, zqb, zqc]; rfl) rfl (by kernel_rfl) rfl (fun K hK => ?_)
 go_simp
 refine (lepoch_any HEd.out).mono ?_
 rintro e y1 ⟨rfl, rfl⟩
 have hS1 : Kept w w.drew := Kept.drew w
 go_wp2_with fail
 refine hK.out _ _ hS1 (fun hSn => ?_)
 clear hK K
 try simp only [zqd, zqe, zqf]
 refine tk 6 11 ?_ ?_ ?_; rotate_left; (focus (intro w h; go_simp; (try with_reducible rfl))); (try simp only [zqd, zqe, zqf])
 refine tk 7 12 ?_ ?_ ?_; rotate_left; (focus (intro w h; go_simp; (try with_reducible rfl))); (try simp only [zqd, zqe, zqf])
 refine tk 8 13 ?_ ?_ ?_; rotate_left; (focus (intro w h; go_simp; (try with_reducible rfl))); (try simp only [zqd, zqe, zqf])
 refine tk 10 15 ?_ ?_ ?_; rotate_left; (focus (intro w h; go_simp; (try with_reducible rfl))); (try simp only [zqd, zqe, zqf])
 refine tk 11 16 ?_ ?_ ?_; rotate_left; (focus (intro w h; go_simp; (try with_reducible rfl))); (try simp only [zqd, zqe, zqf])
 refine tk 12 17 ?_ ?_ ?_; rotate_left; (focus (intro w h; go_simp; (try with_reducible rfl))); (try simp only [zqd, zqe, zqf])
 refine tk 13 18 ?_ ?_ ?_; rotate_left; (focus (intro w h; go_simp; (try with_reducible rfl))); (try simp only [zqd, zqe, zqf])
 refine tk 14 19 ?_ ?_ ?_; rotate_left; (focus (intro w h; go_simp; (try with_reducible rfl))); (try simp only [zqd, zqe, zqf])
 refine call_at (i := 9) (d := 14) (by simp only [zqa, zqb, zqc]; rfl) rfl (by kernel_rfl) rfl (fun K hK => ?_)
 go_simp
 refine (lwaits_any HEd.out).mono ?_
 rintro e y2 ⟨rfl, rfl⟩
 rw [HSl.out]
 have hS2 : Kept w w.drew := Kept.drew w
 go_wp2_with fail
 refine hK.out _ _ hS2 (fun hSn => ?_)
 clear hK K
 try simp only [zqd, zqe, zqf]
 refine tk 15 20 ?_ ?_ ?_; rotate_left; (focus (intro w h; go_simp; (try with_reducible rfl))); (try simp only [zqd, zqe, zqf])
 refine tk 16 21 ?_ ?_ ?_; rotate_left; (focus (intro w h; go_simp; (try with_reducible rfl))); (try simp only [zqd, zqe, zqf])
 refine tk 17 22 ?_ ?_ ?_; rotate_left; (focus (intro w h; go_simp; (try with_reducible rfl))); (try simp only [zqd, zqe, zqf])
 refine tk 18 23 ?_ ?_ ?_; rotate_left; (focus (intro w h; go_simp; (try with_reducible rfl))); (try simp only [zqd, zqe, zqf])
 refine tk 20 25 ?_ ?_ ?_; rotate_left; (focus (intro w h; go_simp; (try with_reducible rfl))); (try simp only [zqd, zqe, zqf])
 refine tk 21 26 ?_ ?_ ?_; rotate_left; (focus (intro w h; go_simp; (try with_reducible rfl))); (try simp only [zqd, zqe, zqf])
 refine tk 22 27 ?_ ?_ ?_; rotate_left; (focus (intro w h; go_simp; (try with_reducible rfl))); (try simp only [zqd, zqe, zqf])
 refine tk 23 28 ?_ ?_ ?_; rotate_left; (focus (intro w h; go_simp; (try with_reducible rfl))); (try simp only [zqd, zqe, zqf])
 refine call_at (i := 19) (d := 24) (by simp only [zqa, zqb, zqc]; rfl) rfl (by kernel_rfl) rfl (fun K hK => ?_)
 go_simp
 refine (lheard_any HEd.out).mono ?_
 rintro e y3 ⟨rfl, rfl⟩
 have hS3 : Kept w w.drew := Kept.drew w
 go_wp2_with fail
 refine hK.out _ _ hS3 (fun hSn => ?_)
 clear hK K
 try simp only [zqd, zqe, zqf]
 refine tk 24 29 ?_ ?_ ?_; rotate_left; (focus (intro w h; go_simp; (try with_reducible rfl))); (try simp only [zqd, zqe, zqf])
 refine tk 25 30 ?_ ?_ ?_; rotate_left; (focus (intro w h; go_simp; (try with_reducible rfl))); (try simp only [zqd, zqe, zqf])
 refine tk 26 31 ?_ ?_ ?_; rotate_left; (focus (intro w h; go_simp; (try with_reducible rfl))); (try simp only [zqd, zqe, zqf])
 refine tk 27 32 ?_ ?_ ?_; rotate_left; (focus (intro w h; go_simp; (try with_reducible rfl))); (try simp only [zqd, zqe, zqf])
 refine tk 29 34 ?_ ?_ ?_; rotate_left; (focus (intro w h; go_simp; (try with_reducible rfl))); (try simp only [zqd, zqe, zqf])
 refine tk 30 35 ?_ ?_ ?_; rotate_left; (focus (intro w h; go_simp; (try with_reducible rfl))); (try simp only [zqd, zqe, zqf])
 refine tk 31 36 ?_ ?_ ?_; rotate_left; (focus (intro w h; go_simp; (try with_reducible rfl))); (try simp only [zqd, zqe, zqf])
 refine tk 32 37 ?_ ?_ ?_; rotate_left; (focus (intro w h; go_simp; (try with_reducible rfl))); (try simp only [zqd, zqe, zqf])
 refine call_at (i := 28) (d := 33) (by simp only [zqa, zqb, zqc]; rfl) rfl (by kernel_rfl) rfl (fun K hK => ?_)
 go_simp
 refine (lnext_any HEd.out).mono ?_
 rintro e y4 ⟨rfl, rfl⟩
 have hS4 : Kept w w.drew := Kept.drew w
 go_wp2_with fail
 refine hK.out _ _ hS4 (fun hSn => ?_)
 clear hK K
 try simp only [zqd, zqe, zqf]
 refine tk 33 38 ?_ ?_ ?_; rotate_left; (focus (intro w h; go_simp; (try with_reducible rfl))); (try simp only [zqd, zqe, zqf])
 refine tk 34 39 ?_ ?_ ?_; rotate_left; (focus (intro w h; go_simp; (try with_reducible rfl))); (try simp only [zqd, zqe, zqf])
 refine tk 35 4 ?_ ?_ ?_; rotate_left; (focus (intro w h; go_simp; (try with_reducible rfl))); (try simp only [zqd, zqe, zqf])
 refine wpAnyH_done (by kernel_rfl) ?_ _
 clear hS0 hS1 hS2 hS3 hS4
 go_wp2
 go_ret
 exact ⟨rfl, rfl⟩
end Go.Proofs.Ytigmmikijjcdiaa
namespace Go.Proofs.Ytigmmikijjcdiaa
theorem from_len (x : LE) (m : Nat) (ack : Bool) : (fromL x m ack).1.length = x.next - m ∨ (x.next ≤ m ∧ (fromL x m ack).1.length ≤ 1) := by
 have hl : (framesL x m).length = x.next - m := by unfold framesL; rw [List.length_map, List.length_range']
 have hcase : (fromL x m ack).1 = if (framesL x m).isEmpty && ack then [fr 2 [] [x.ep, x.heard]] else framesL x m := rfl
 rw [hcase]
 split
 ·rename_i he
  rw [Bool.and_eq_true, List.isEmpty_iff] at he
  rw [he.1] at hl
  right
  simp at hl
  exact ⟨by omega, by simp⟩
 ·exact .inl hl
structure Runs (x y : LE) (p q g r : List BL) (m j : Nat) (gj : List BL) : Prop where
 fwd : Dir x y p gj
 bwd : Dir y x q r
 ep : x.ep = y.ep
 pos : m + j ≤ y.heard + 1 ∨ x.next ≤ m
 low : m ≤ y.heard + 1
theorem Runs.start {x y : LE} {p q g r : List BL} {m : Nat} (h1 : Dir x y p g) (h2 : Dir y x q r) (hep : x.ep = y.ep) (hm2 : m ≤ y.heard + 1) : Runs x y p q g r m 0 g := ⟨h1, h2, hep, .inl hm2, hm2⟩
theorem Runs.step {x y : LE} {p q g r : List BL} {m j : Nat} {gj : List BL} (h : Runs x y p q g r m j gj) (hok : LEok x) (hm : x.first ≤ m) {ack : Bool} {f : BL} (hf : (fromL x m ack).1[j]? = some f) :
  HearD x y p q gj r f ∧ Runs x (hearL y f).2.2 p q g r m (j + 1) (gj ++ (hearL y f).2.1) ∧ (∃ h n b, readL f = some (x.ep, h, n, b)) ∧ 21 ≤ f.length ∧ f.length ≤ 1048605 := by
 have hrd := from_rdf h.fwd hok hm hf
 rw [h.ep] at hrd
 have hd := hear_dir h.fwd h.bwd hrd
 have hr : ∃ h n b, readL f = some (x.ep, h, n, b) := by
  obtain ⟨h1, n, b, e, _⟩ := hrd
  exact ⟨h1, n, b, by rw [h.ep]; exact e⟩
 have hlen : 21 ≤ f.length ∧ f.length ≤ 1048605 := by
  rcases from_frame h.fwd hok hm hf with ⟨e, _⟩ | ⟨b, e, _, _, _, _, hb⟩
  ·rw [e, fr_len]; simp
  ·rw [e, fr_len]; simp; omega
 refine ⟨hd, ⟨hd.fwd, hd.bwd, by rw [hd.ep]; exact h.ep, ?_, by have := h.low; have := h.fwd.heard; have h9 := hd.fwd.heard; rw [List.length_append] at h9; omega⟩, hr, hlen⟩
 rcases h.pos with hp | hp
 ·rcases from_frame h.fwd hok hm hf with ⟨_, _, hn⟩ | ⟨b, _, e, hn, h1, h2, hb⟩
  ·exact .inr hn
  ·left
   have := hear_upto h.fwd h.bwd (by rw [← h.ep]; exact e) (Nat.le_refl _) h1 hp
   omega
 ·exact .inr hp
theorem Runs.all {x y : LE} {p q g r : List BL} {m : Nat} {ack : Bool} {gj : List BL} (h : Runs x y p q g r m (fromL x m ack).1.length gj) (hm3 : x.next ≤ m → m ≤ y.heard + 1) : gj = p ∧ y.heard = p.length := by
 have h1 := h.fwd.next
 have h2 := h.fwd.heard
 have h3 := h.fwd.glen
 have hle : p.length ≤ y.heard := by
  rcases from_len x m ack with hl | ⟨hn, _⟩
  ·rcases h.pos with hp | hp
   ·rcases Nat.lt_or_ge x.next m with hc | hc
    ·have := hm3 (by omega); omega
    ·omega
   ·have := hm3 hp
    omega
  ·have := hm3 hn
   omega
 refine ⟨?_, by omega⟩
 rw [h.fwd.got, show gj.length = p.length by omega, List.take_length]
end Go.Proofs.Ytigmmikijjcdiaa
namespace Go.Proofs.Ytigmmikijjcdiaa
open Go.RowKit
theorem FRw.get {w : World} {B : Nat} {A : Option Addr} {n c : Nat} {fs : List BL} (h : FRw w B (.slice A n c) fs) {i : Nat} {f : BL} (hf : fs[i]? = some f) : n = fs.length ∧ ∃ g Af cf cur, A = some ⟨g, 0, none⟩ ∧ w.heap[g]? = some (.cells cur 23 (0, 0)) ∧ cur[i]? = some (.slice Af f.length cf) ∧ RdT w Af f ∧ (f ≠ [] → f.length ≤ cf ∧ cf ≤ 9223372036854775807) := by
 obtain ⟨own, tg, A', c', vs, h1, ⟨hlen, h2⟩, h3, h4⟩ := h
 injection h1 with e1 e2 e3
 subst e1 e3
 have hlf := (List.getElem?_eq_some_iff.1 hf).1
 obtain ⟨u, hu⟩ : ∃ u, vs[i]? = some u := ⟨_, List.getElem?_eq_getElem (by omega)⟩
 have hby := h3 i u f hu hf
 obtain ⟨Af, cf, rfl, _, hc⟩ := hby.rd
 refine ⟨e2, ?_⟩
 rcases h2 with ⟨_, h0⟩ | ⟨g, cap, cur, hv, hg, hcg, hn, hm, hs, ht⟩
 ·omega
 ·injection hv with hA _ hv
  refine ⟨g, Af, cf, cur, hA, hcg, ?_, fun hne => ?_, hc⟩
  ·rw [← ht, List.getElem?_take, if_pos (by omega)] at hu
   simpa using hu
  ·obtain ⟨⟨q1, q2⟩, _⟩ := hby.2 hne
   rcases q2 with ⟨q0, _⟩ | ⟨g', cap', cur', hv', hg', hcg', hn', hm', hs', ht'⟩
   ·injection q0 with _ q0 _
    exact absurd (List.eq_nil_of_length_eq_zero q0) hne
   ·injection hv' with hA' _ _
    refine ⟨g', 0, cur', hA', hcg', fun j u hu => ?_⟩
    rw [← ht', List.getElem?_take] at hu
    split at hu
    ·simpa using hu
    ·cases hu
theorem frozen_at {x y : World} {L k a B : Nat} {tag : Nat → Option (Nat × Nat)} {v : Value} {xs : List BL} {ls : List (List BL)} (hs : ∀ g, g < x.heap.size → v.ownBlock ≠ some g → y.heap[g]? = x.heap[g]?) (h : SRows x L tag k B ls) (hold : StrRow x L tag (k, a) v xs) (i : Nat) : y.frozen? ⟨B, i, none⟩ = false := by
 obtain ⟨vs, q1, _⟩ := h
 refine frozen_of_row _ _ i vs.toArray 48 ((hs B (lt_of_block q1) fun e => ?_).trans q1)
 obtain ⟨cur, hc⟩ := own_type hold.2.1 B e
 exact row_ne hc q1 (by decide) rfl
theorem cell_at {x y : World} {L k a g : Nat} {tag : Nat → Option (Nat × Nat)} {v : Value} {xs : List BL} {cur : Array Value} {T : TypeId} (hs : ∀ g, g < x.heap.size → v.ownBlock ≠ some g → y.heap[g]? = x.heap[g]?) (hold : StrRow x L tag (k, a) v xs) (hc : x.heap[g]? = some (.cells cur T (0, 0))) (hT : T ≠ 9) : y.heap[g]? = x.heap[g]? := by
 refine hs g (lt_of_block hc) fun e => ?_
 obtain ⟨cur', hc'⟩ := own_type hold.2.1 g e
 exact row_ne hc hc' hT rfl
def goesF (way : List BL) (fs : List BL) : List BL := fs.foldl (fun wy f => if wy.length < 100 then wy ++ [f] else wy) way
def GoesPost (w : World) (L W E Y U T P1 P2 a : Nat) (ways puts gots : List (List BL)) (fs : List BL) (e : Ending) (w' : World) : Prop := e = .returned (.tuple #[]) ∧ (∃ tag', NetM w' L W E Y U T P1 P2 tag' (ways.set a (goesF (ways.getD a []) fs)) puts gots false) ∧ ModN L w w'
theorem goesF_snoc (way fs : List BL) (f : BL) : goesF way (fs ++ [f]) = if (goesF way fs).length < 100 then goesF way fs ++ [f] else goesF way fs := by
 unfold goesF
 rw [List.foldl_append]
 rfl
theorem goesF_len {way : List BL} (h : way.length ≤ 100) : ∀ fs, (goesF way fs).length ≤ 100 := by
 intro fs
 unfold goesF
 induction fs generalizing way with
 | nil => exact h
 | cons f fs ih =>
  rw [List.foldl_cons]
  apply ih
  split
  ·simp; omega
  ·exact h
theorem goesF_mem {way fs : List BL} {f : BL} (h : f ∈ goesF way fs) : f ∈ way ∨ f ∈ fs := by
 unfold goesF at h
 induction fs generalizing way with
 | nil => exact .inl h
 | cons g fs ih =>
  rw [List.foldl_cons] at h
  rcases ih h with h | h
  ·split at h
   ·rcases List.mem_append.1 h with h | h
    ·exact .inl h
    ·simp at h; subst h; exact .inr (by simp)
   ·exact .inl h
  ·exact .inr (List.mem_cons_of_mem _ h)
theorem set_same {ways : List (List BL)} {a : Nat} {way : List BL} {fs : List BL} (h : ways[a]? = some way) : ways.set a (goesF way (fs.take 0)) = ways := by
 obtain ⟨hl, he⟩ := List.getElem?_eq_some_iff.1 h
 rw [List.take_zero]
 show ways.set a way = ways
 rw [← he, List.set_getElem_self]
theorem goes_any (w : World) {L W E Y U T P1 P2 : Nat} {tag : Nat → Option (Nat × Nat)} {ways puts gots : List (List BL)} (hN : NetM w L W E Y U T P1 P2 tag ways puts gots false) (a : Nat) (ha : a < 2) (hw : ∀ wy, ways[a]? = some wy → wy.length ≤ 100) (B : Nat) (v : Value) (fs : List BL) (hF : FRw w B v fs) (hfl : fs.length ≤ 1000000) :
  Calls Try.prog 33 #[.pointer (some ⟨W, 0, none⟩), .int .i64 (a : Int), v] w (GoesPost w L W E Y U T P1 P2 a ways puts gots fs) := by
 have hlen := hN.len.1
 obtain ⟨way, hway⟩ : ∃ z, ways[a]? = some z := ⟨_, List.getElem?_eq_getElem (by omega)⟩
 have hwl := hw way hway
 obtain ⟨Af, cf, rfl⟩ := hF.rd.form
 obtain ⟨n, hn⟩ : ∃ z, fs.length = z := ⟨_, rfl⟩
 rw [hn] at hF hfl ⊢
 have HN := hide hn
 have HW0 := hide hway
 have HA0 := hide ha
 have ha0 : (0 : Int) ≤ (a : Int) := by omega
 have ha1 : (a : Int) < 2 := by omega
 have HNM0 : Hid (NetM w L W E Y U T P1 P2 tag (ways.set a (goesF way (fs.take 0))) puts gots false) := hide (by rw [set_same hway]; exact hN)
 have HF0 := hide hF
 clear hn hway hN hF hw
 go_enter Try.func33, Try.ntmps33
 go_wp2
 go_loopw [6] (fun v6 wr => ∃ (i : Nat) (tag0 : Nat → Option (Nat × Nat)), i ≤ n ∧ v6 = .int .i64 (i : Int) ∧ Hid (NetM wr L W E Y U T P1 P2 tag0 (ways.set a (goesF way (fs.take i))) puts gots false) ∧ Hid (ModN L w wr) ∧ Hid (FRw wr B (.slice Af n cf) fs)) (fun v6 _ => n - (intOf v6).toNat)
 case atStart => exact ⟨0, tag, by omega, rfl, HNM0, hide (ModN.of_below (Below.refl _ _)), HF0⟩
 case round =>
  clear HNM0 HF0
  obtain ⟨i, tag0, hi, rfl, hM, hMod, hF⟩ := hrel
  obtain ⟨x, rfl⟩ : ∃ z : World, z = wr := ⟨_, rfl⟩
  by_cases hlt : i < n
  ·have hI1 : (i : Int) < (n : Int) := by omega
   have hI0 : (0 : Int) ≤ (i : Int) := by omega
   obtain ⟨f, hf⟩ : ∃ f, fs[i]? = some f := ⟨_, List.getElem?_eq_getElem (by rw [HN.out]; exact hlt)⟩
   obtain ⟨-, g, Ar, cr, cur, rfl, hg, hci, hrt, -⟩ := hF.out.get hf
   obtain ⟨xs, hxs⟩ : ∃ z, goesF way (fs.take i) = z := ⟨_, rfl⟩
   have hxl : xs.length ≤ 100 := by rw [← hxs]; exact goesF_len hwl _
   rw [hxs] at hM
   have hax : (ways.set a xs)[a]? = some xs := by rw [List.getElem?_set_self (by omega)]
   obtain ⟨v0, hv0, hR0⟩ := hM.out.way.at_ hax
   obtain ⟨A0, c0, rfl, -, -, -⟩ := hR0.rd
   obtain ⟨n0, hn0⟩ : ∃ z, xs.length = z := ⟨_, rfl⟩
   rw [hn0] at hv0 hxl
   have HR0 : Hid (StrRow x L tag0 (0, a) (.slice A0 n0 c0) xs) := hide (by rw [← hn0]; exact hR0)
   have HN0 := hide hn0
   have HRo : Hid (x.ownsRow L 9 1 (.slice A0 n0 c0) n0 (strs xs)) := hide (by have h := HR0.out.2.1; rwa [hn0] at h)
   obtain ⟨fl, hfl2⟩ : ∃ z, f.length = z := ⟨_, rfl⟩
   rw [hfl2] at hci
   have HFl := hide hfl2
   have HXs := hide hxs
   have HFi := hide hf
   have HG := hide hg
   have HCi := hide hci
   have HRt := hide hrt
   have e1 : x.cell? ⟨W, 1, none⟩ = some (.slice (some ⟨Y, 0, none⟩) 2 2) := cell_of_row _ _ 1 _ _ _ hM.out.wd
   have e2 : x.cell? ⟨g, i, none⟩ = some (.slice Ar fl cr) := (cell_of_row _ _ i _ _ _ hg).trans hci
   have hWx : W < x.heap.size := lt_of_block hM.out.wd
   have hYx : Y < x.heap.size := hM.out.way.lt
   have hgx : g < x.heap.size := lt_of_block hg
   clear hR0 hn0 hfl2 hxs hf hg hci hrt
   by_cases hfull : n0 < 100
   ·have q1 : (n0 : Int) < 100 := by omega
    go_upto_region 4 with fail
    have hLx : L ≤ x.heap.size := by have := hM.out.lo; have := hM.out.way.lt; omega
    obtain ⟨i3, a3i, a3z, a3s, a3b⟩ := info_parts (show (Try.prog.info? 9).map (fun i => (i.zero, i.size, i.bytes)) = some (some (.string ⟨#[]⟩), 1, 16) by kernel_rfl)
    refine wpL_region (S := (fun w9 : World => w9.cell? ⟨W, 1, none⟩ = some (.slice (some ⟨Y, 0, none⟩) 2 2) ∧ w9.cell? ⟨Y, a, none⟩ = some (.slice A0 n0 c0) ∧ w9.cell? ⟨g, i, none⟩ = some (.slice Ar fl cr) ∧ RdT w9 Ar f)) [20] (by kernel_rfl) ⟨e1, hv0, e2, HRt.out⟩ (fun hS0 => ?_)
    refine tl 0 22 ?_ ?_ ?_; rotate_left; (focus (intro w h; go_simp; (try with_reducible rfl))); (try simp only [zqd, zqe, zqf])
    refine tl 1 23 ?_ ?_ ?_; rotate_left; (focus (intro w h; go_simp; (try with_reducible rfl))); (try simp only [zqd, zqe, zqf])
    refine tl 2 24 ?_ ?_ ?_; rotate_left; (focus (intro w h; go_simp; (try with_reducible rfl))); (try simp only [zqd, zqe, zqf])
    refine tl 3 25 ?_ ?_ ?_; rotate_left; (focus (intro w h; go_simp; (try with_reducible rfl))); (try simp only [zqd, zqe, zqf])
    refine tl 4 26 ?_ ?_ ?_; rotate_left; (focus (intro w h; go_simp; (try with_reducible rfl))); (try simp only [zqd, zqe, zqf])
    refine tl 5 27 ?_ ?_ ?_; rotate_left; (focus (intro w h; go_simp; (try with_reducible rfl))); (try simp only [zqd, zqe, zqf])
    refine tl 6 28 ?_ ?_ ?_; rotate_left; (focus (intro w h; go_simp; (try with_reducible rfl))); (try simp only [zqd, zqe, zqf])
    refine tl 7 29 ?_ ?_ ?_; rotate_left; (focus (intro w h; go_simp; (try with_reducible rfl))); (try simp only [zqd, zqe, zqf])
    refine tl 8 30 ?_ ?_ ?_; rotate_left; (focus (intro w h; go_simp; (try with_reducible rfl))); (try simp only [zqd, zqe, zqf])
    refine tl 9 31 ?_ ?_ ?_; rotate_left; (focus (intro w h; go_simp; (try with_reducible rfl))); (try simp only [zqd, zqe, zqf])
    refine tl 10 32 ?_ ?_ ?_; rotate_left; (focus (intro w h; go_simp; (try with_reducible rfl))); (try simp only [zqd, zqe, zqf])
    refine tl 11 33 ?_ ?_ ?_; rotate_left; (focus (intro w h; go_simp; (try with_reducible rfl))); (try simp only [zqd, zqe, zqf])
    refine tl 12 34 ?_ ?_ ?_; rotate_left; (focus (intro w h; go_simp; (try with_reducible rfl))); (try simp only [zqd, zqe, zqf])
    refine tl 13 35 ?_ ?_ ?_; rotate_left; (focus (intro w h; go_simp; (try with_reducible rfl))); (try simp only [zqd, zqe, zqf])
    refine tl 14 36 ?_ ?_ ?_; rotate_left; (focus (intro w h; go_simp; (try with_reducible rfl))); (try simp only [zqd, zqe, zqf])
    refine tl 15 37 ?_ ?_ ?_; rotate_left; (focus (intro w h; go_simp; (try with_reducible rfl))); (try simp only [zqd, zqe, zqf])
    refine tl 16 38 ?_ ?_ ?_; rotate_left; (focus (intro w hSw; have hh := hSw.2.2.2.conv (c := cr) HFl.out; go_simp; (try with_reducible rfl); done)); (try simp only [zqd, zqe, zqf])
    refine callL_at (i := 17) (d := 39) (by simp only [zqa, zqb, zqc]; rfl) rfl (by kernel_rfl) rfl (fun K hK => ?_)
    go_simp
    obtain ⟨y4, hy⟩ : ∃ z, (x.alloc (.cells #[.string ⟨(f).toArray⟩] 9)).drew = z := ⟨_, rfl⟩
    have HY4 : Hid (Below x.heap.size x y4) := hide (by rw [← hy]; exact ((Below.refl _ _).alloc (Nat.le_refl _) _).drew)
    have HO1 : Hid (y4.heap[x.heap.size]? = some (.cells #[.string ⟨(f).toArray⟩] 9)) := hide (by rw [← hy]; exact heap_alloc_last x _)
    rw [hy]
    clear hy
    have hS4 : y4.cell? ⟨W, 1, none⟩ = some (.slice (some ⟨Y, 0, none⟩) 2 2) ∧ y4.cell? ⟨Y, a, none⟩ = some (.slice A0 n0 c0) ∧ y4.cell? ⟨g, i, none⟩ = some (.slice Ar fl cr) ∧ RdT y4 Ar f := ⟨(HY4.out.cell (p := ⟨W, 1, none⟩) hWx).trans e1, (HY4.out.cell (p := ⟨Y, a, none⟩) hYx).trans hv0, (HY4.out.cell (p := ⟨g, i, none⟩) hgx).trans e2, HRt.out.keep fun g' cur' hc' => HY4.out.block g' (lt_of_block hc')⟩
    refine hK.out _ _ hS4 (fun hSn => ?_)
    clear hK K
    try simp only [zqd, zqe, zqf]
    refine callL_at (i := 18) (d := 40) (by simp only [zqa, zqb, zqc]; rfl) rfl (by kernel_rfl) rfl (fun K hK => ?_)
    refine op_app (.tmp 33) (.tmp 39) 48 rfl L 9 i3 (.string ⟨#[]⟩) 1 16 Try.underlying48 a3i a3z a3s a3b rfl (by decide) (.slice A0 n0 c0) n0 (strs xs) rfl (own_below HRo.out HY4.out (fun g hg => (HRo.out.lt g hg).2)) y4.heap.size (some ⟨x.heap.size, 0, none⟩) 1 1 [.string ⟨(f).toArray⟩] rfl rfl (rd_cells HO1.out) (by simp [Value.oneCell']) (by unfold maxLen; omega) (by omega) (Nat.le_trans hLx HY4.out.size) ?_
    intro A8 c8 y5 own5 hg5 hat5
    have HOwn : Hid (y5.ownsRow L 9 1 (.slice A8 (n0 + 1) c8) (n0 + 1) (strs (xs ++ [f]))) := hide (by rw [strs_app]; exact own5)
    have HG5 := hide hg5
    have HA5 := hide hat5
    have HSm : Hid (∀ g, g < x.heap.size → (Value.slice A0 n0 c0).ownBlock ≠ some g → y5.heap[g]? = x.heap[g]?) := hide (fun g hl hne => (HG5.out.block g (Nat.lt_of_lt_of_le hl HY4.out.size) (fun e => hne e.symm)).trans (HY4.out.block g hl))
    have HNw : Hid (∀ g, (Value.slice A8 (n0 + 1) c8).ownBlock = some g → (Value.slice A0 n0 c0).ownBlock = some g ∨ x.heap.size ≤ g) := hide (fun g hg => by rcases HA5.out with h | h; exact .inl (by rw [← h]; exact hg); right; rw [h] at hg; injection hg with hg; rw [← hg]; exact HY4.out.size)
    have HSz : Hid (x.heap.size ≤ y5.heap.size ∧ Env x y5) := hide ⟨Nat.le_trans HY4.out.size HG5.out.size, (Env.of_below HY4.out).grown HG5.out⟩
    have hS5 : y5.cell? ⟨W, 1, none⟩ = some (.slice (some ⟨Y, 0, none⟩) 2 2) ∧ y5.cell? ⟨Y, a, none⟩ = some (.slice A0 n0 c0) ∧ y5.cell? ⟨g, i, none⟩ = some (.slice Ar fl cr) ∧ RdT y5 Ar f := by
     obtain ⟨vs, q1, _⟩ := hM.out.way
     exact ⟨(World.cell?_of_block (cell_at HSm.out HR0.out hM.out.wd (by decide))).trans e1, (World.cell?_of_block (cell_at HSm.out HR0.out q1 (by decide))).trans hv0, (World.cell?_of_block (cell_at HSm.out HR0.out HG.out (by decide))).trans e2, HRt.out.keep fun g' cur' hc' => cell_at HSm.out HR0.out hc' (by decide)⟩
    clear own5 hg5 hat5
    refine hK.out _ _ hS5 (fun hSn => ?_)
    clear hK K
    simp only [Act.put]
    try simp only [zqd, zqe, zqf]
    refine tl 19 41 ?_ ?_ ?_; rotate_left; (focus (intro w h; go_simp; (try with_reducible rfl))); (try simp only [zqd, zqe, zqf])
    refine exL_at (i := 20) (by simp only [zqa, zqb, zqc]; rfl) (by kernel_rfl) rfl (by kernel_rfl) (fun K hK => ?_)
    have z5 : y5.frozen? ⟨Y, a, none⟩ = false := frozen_at HSm.out hM.out.way HR0.out _
    go_wp2_with fail
    refine hK.out _ _ ?_
    clear hK K
    try simp only [zqd, zqe, zqf]
    refine wpAnyL_done (by kernel_rfl) ?_ _
    clear hS0 hSn hS4 hS5
    skip
    have HSm1 := HSm
    have HNew : Hid (NetM (y5.setCell ⟨Y, a, none⟩ (.slice A8 (n0 + 1) c8)) L W E Y U T P1 P2 (tagN tag0 (.slice A8 (n0 + 1) c8) (0, a)) (ways.set a (goesF way (fs.take (i + 1)))) puts gots false) := hide (by
     have h := hM.out.updWay hax HR0.out HSz.out.1 HSm.out HNw.out (xs' := xs ++ [f]) ⟨A8, c8, by simp [HN0.out]⟩ (by rw [List.length_append, HN0.out]; exact HOwn.out)
     rw [List.set_set] at h
     have e : goesF way (fs.take (i + 1)) = xs ++ [f] := by rw [List.take_add_one, HFi.out]; show goesF way (fs.take i ++ [f]) = _; rw [goesF_snoc, HXs.out, if_pos (by rw [HN0.out]; exact hfull)]
     rw [e]
     exact h)
    have HMd : Hid (ModN L x (y5.setCell ⟨Y, a, none⟩ (.slice A8 (n0 + 1) c8))) := hide (modn_upd HR0.out hM.out.blkT.1 hM.out.lo.2.1 HSz.out.1 HSz.out.2 HSm.out)
    have HMd2 := hide (hMod.out.trans HMd.out)
    have HF2 := hide (hF.out.modn HMd.out)
    go_wp2
    go_roundw
    case rel => exact ⟨i + 1, _, by omega, by go_num, HNew, HMd2, HF2⟩
    case measure => simp [intOf]; omega
   have q1 : ¬ (n0 : Int) < 100 := by omega
   have HNew : Hid (NetM x L W E Y U T P1 P2 tag0 (ways.set a (goesF way (fs.take (i + 1)))) puts gots false) := hide (by
    have e : goesF way (fs.take (i + 1)) = xs := by rw [List.take_add_one, HFi.out]; show goesF way (fs.take i ++ [f]) = _; rw [goesF_snoc, HXs.out, if_neg (by rw [HN0.out]; exact hfull)]
    rw [e]
    exact hM.out)
   go_wp2
   go_roundw
   case rel => exact ⟨i + 1, tag0, by omega, by go_num, HNew, hMod, hF⟩
   case measure => simp [intOf]; omega
  have hI1 : ¬ (i : Int) < (n : Int) := by omega
  obtain rfl : i = n := by omega
  have HFin : Hid (NetM x L W E Y U T P1 P2 tag0 (ways.set a (goesF way fs)) puts gots false) := hide (by have h := hM.out; rwa [List.take_of_length_le (by rw [HN.out]; exact Nat.le_refl _)] at h)
  have HEx : Hid (∃ tag', NetM x L W E Y U T P1 P2 tag' (ways.set a (goesF (ways.getD a []) fs)) puts gots false) := hide ⟨tag0, by rw [List.getD_eq_getElem?_getD, HW0.out]; exact HFin.out⟩
  go_wp2
  go_end0
  exact ⟨rfl, HEx.out, hMod.out⟩
end Go.Proofs.Ytigmmikijjcdiaa
namespace Go.Proofs.Ytigmmikijjcdiaa
theorem up_inj {a b : Nat} (ha : a < 4294967296) (hb : b < 4294967296) (h : crcm.up a = crcm.up b) : a = b := by
 have h0 : crcm.up (a ^^^ b) = 0 := by rw [crcm.up_xor, h, Nat.xor_self]
 have hx : a ^^^ b < 4294967296 := Nat.xor_lt_two_pow (n := 32) ha hb
 have hz : a ^^^ b = 0 := by
  generalize a ^^^ b = x at h0 hx
  unfold crcm.up at h0
  split at h0
  ·exfalso
   have h1 : x / 2 = 2197175160 := by
    have h2 := congrArg (fun z => z ^^^ 2197175160) h0
    simpa [Nat.xor_assoc] using h2
   omega
  ·omega
 have h3 := congrArg (fun z => z ^^^ b) hz
 simpa [Nat.xor_assoc] using h3
theorem upk_inj {a b : Nat} (ha : a < 4294967296) (hb : b < 4294967296) : ∀ k, crcm.upk k a = crcm.upk k b → a = b
 | 0, h => h
 | k + 1, h => upk_inj ha hb k (up_inj (crcm.upk_lt k a ha) (crcm.upk_lt k b hb) h)
theorem sumR_inj (bs : BL) : ∀ {a b : Nat}, a < 4294967296 → b < 4294967296 → crcm.sumR a bs = crcm.sumR b bs → a = b := by
 induction bs with
 | nil => intro a b ha hb h; exact h
 | cons c bs ih =>
  intro a b ha hb h
  have hc := crcm.byte_lt c
  have h1 : ∀ {x : Nat}, x < 4294967296 → x ^^^ c.toNat < 4294967296 := fun hx => Nat.xor_lt_two_pow (n := 32) hx (by omega)
  have h2 := ih (crcm.upk_lt 8 _ (h1 ha)) (crcm.upk_lt 8 _ (h1 hb)) h
  have h3 := upk_inj (h1 ha) (h1 hb) 8 h2
  have h4 := congrArg (fun z => z ^^^ c.toNat) h3
  simpa [Nat.xor_assoc] using h4
theorem xor_right_inj {a b c : Nat} (h : c ^^^ a = c ^^^ b) : a = b := by
 have h1 := congrArg (fun z => c ^^^ z) h
 simpa [← Nat.xor_assoc] using h1
theorem sum_turn (p t : BL) {c d : UInt8} (hcd : c ≠ d) : crcm.sum (p ++ c :: t) ≠ crcm.sum (p ++ d :: t) := by
 intro h
 unfold crcm.sum at h
 have h1 : crcm.sumR 4294967295 (p ++ c :: t) = crcm.sumR 4294967295 (p ++ d :: t) := by
  have h2 := congrArg (fun z => z ^^^ 4294967295) h
  simpa [Nat.xor_assoc] using h2
 have e : ∀ x : UInt8, crcm.sumR 4294967295 (p ++ x :: t) = crcm.sumR (crcm.upk 8 (crcm.sumR 4294967295 p ^^^ x.toNat)) t := fun x => by
  unfold crcm.sumR
  rw [List.foldl_append, List.foldl_cons]
 rw [e, e] at h1
 have hp : crcm.sumR 4294967295 p < 4294967296 := crcm.sumR_lt p _ (by decide)
 have hb : ∀ x : UInt8, crcm.sumR 4294967295 p ^^^ x.toNat < 4294967296 := fun x => Nat.xor_lt_two_pow (n := 32) hp (by have := crcm.byte_lt x; omega)
 have h3 := upk_inj (hb c) (hb d) 8 (sumR_inj t (crcm.upk_lt 8 _ (hb c)) (crcm.upk_lt 8 _ (hb d)) h1)
 exact hcd (UInt8.toNat_inj.1 (xor_right_inj h3))
theorem numA_eq (bs : BL) : ∀ a, bs.foldl (fun a (b : UInt8) => a * 256 + b.toNat) a = a * 256 ^ bs.length + num bs := by
 induction bs with
 | nil => intro a; simp [num]
 | cons c bs ih =>
  intro a
  have h0 := ih c.toNat
  rw [List.foldl_cons, ih]
  unfold num
  rw [List.foldl_cons, Nat.zero_mul, Nat.zero_add, h0, List.length_cons, Nat.pow_succ]
  rw [Nat.add_mul, Nat.add_assoc]
  congr 1
  rw [Nat.mul_assoc, Nat.mul_comm 256]
theorem num_turn (p t : BL) {c d : UInt8} (hcd : c ≠ d) : num (p ++ c :: t) ≠ num (p ++ d :: t) := by
 have e : ∀ x : UInt8, num (p ++ x :: t) = (num p * 256 + x.toNat) * 256 ^ t.length + num t := fun x => by
  show (p ++ x :: t).foldl _ 0 = _
  rw [List.foldl_append, List.foldl_cons, numA_eq]
  rfl
 rw [e, e]
 intro h
 have hp : 0 < 256 ^ t.length := Nat.pow_pos (by decide)
 have h1 : (num p * 256 + c.toNat) * 256 ^ t.length = (num p * 256 + d.toNat) * 256 ^ t.length := by omega
 have h2 := Nat.eq_of_mul_eq_mul_right hp h1
 exact hcd (UInt8.toNat_inj.1 (by omega))
theorem set_split {f : BL} {i : Nat} (hi : i < f.length) (d : UInt8) : f = f.take i ++ f[i] :: f.drop (i + 1) ∧ f.set i d = f.take i ++ d :: f.drop (i + 1) := by
 refine ⟨?_, ?_⟩
 ·rw [← List.drop_eq_getElem_cons hi, List.take_append_drop]
 ·rw [List.set_eq_take_append_cons_drop, if_pos hi]
theorem read_turn {tag : Nat} {b : BL} {ns : List Nat} {i : Nat} (hi : i < (fr tag b ns).length) {d : UInt8} (hd : (fr tag b ns)[i] ≠ d) : readL ((fr tag b ns).set i d) = none := by
 have hsum : num ((fr tag b ns).drop ((fr tag b ns).length - 4)) = crcm.sum ((fr tag b ns).take ((fr tag b ns).length - 4)) := by
  rw [fr_take, fr_drop, num_be_lt (sum_lt _)]
 have hne : num (((fr tag b ns).set i d).drop ((fr tag b ns).length - 4)) ≠ crcm.sum (((fr tag b ns).set i d).take ((fr tag b ns).length - 4)) := by
  have hlen4 : 4 ≤ (fr tag b ns).length := by rw [fr_len]; omega
  generalize fr tag b ns = f at hi hd hsum hlen4
  obtain ⟨e1, e2⟩ := set_split hi d
  generalize hm : f.length - 4 = m at hsum
  rcases Nat.lt_or_ge i m with hc | hc
  ·rw [List.drop_set_of_lt hc, hsum]
   have ht1 : f.take m = f.take i ++ f[i] :: (f.drop (i + 1)).take (m - (i + 1)) := by
    conv => lhs; rw [e1]
    rw [List.take_append, List.length_take, Nat.min_eq_left (by omega), List.take_of_length_le (by rw [List.length_take]; omega)]
    congr 1
    rw [show m - i = (m - (i + 1)) + 1 by omega, List.take_succ_cons]
   have ht2 : (f.set i d).take m = f.take i ++ d :: (f.drop (i + 1)).take (m - (i + 1)) := by
    rw [e2]
    rw [List.take_append, List.length_take, Nat.min_eq_left (by omega), List.take_of_length_le (by rw [List.length_take]; omega)]
    congr 1
    rw [show m - i = (m - (i + 1)) + 1 by omega, List.take_succ_cons]
   rw [ht1, ht2]
   exact sum_turn _ _ hd
  ·rw [List.take_set_of_le hc, ← hsum]
   have hd1 : f.drop m = (f.take i).drop m ++ f[i] :: f.drop (i + 1) := by
    conv => lhs; rw [e1]
    rw [List.drop_append, List.length_take, Nat.min_eq_left (by omega), show m - i = 0 by omega]
    rfl
   have hd2 : (f.set i d).drop m = (f.take i).drop m ++ d :: f.drop (i + 1) := by
    rw [e2]
    rw [List.drop_append, List.length_take, Nat.min_eq_left (by omega), show m - i = 0 by omega]
    rfl
   rw [hd1, hd2]
   exact (num_turn _ _ hd).symm
 unfold readL
 rw [List.length_set]
 split
 ·rfl
 dsimp only
 rw [if_pos (.inl hne)]
def Wy (ep hx : Nat) (p : List BL) (f : BL) : Prop := (∃ tag b ns, f = fr tag b ns) ∧ f.length ≤ 1048605 ∧ (RdF ep hx p f ∨ ∃ e' h n b, readL f = some (e', h, n, b) ∧ e' ≠ ep)
theorem Wy.more {ep hx hx' : Nat} {p q : List BL} {f : BL} (h : Wy ep hx p f) (hh : hx ≤ hx') : Wy ep hx' (p ++ q) f := ⟨h.1, h.2.1, h.2.2.imp (fun h => h.more hh) id⟩
structure NDir (ep : Nat) (s t : LE) (ws wt ps pt gs gt : List BL) (m : Nat) : Prop where
 d1 : Dir s t ps gt
 d2 : Dir t s pt gs
 e1 : s.ep = ep
 e2 : t.ep = ep
 w1 : ∀ f ∈ ws, Wy ep t.heard pt f
 w2 : ∀ f ∈ wt, Wy ep s.heard ps f
 l1 : ws.length ≤ 100
 l2 : wt.length ≤ 100
 p1 : ps.length ≤ m
 p2 : pt.length ≤ m
theorem NDir.swap {ep : Nat} {s t : LE} {ws wt ps pt gs gt : List BL} {m : Nat} (h : NDir ep s t ws wt ps pt gs gt m) : NDir ep t s wt ws pt ps gt gs m := ⟨h.d2, h.d1, h.e2, h.e1, h.w2, h.w1, h.l2, h.l1, h.p2, h.p1⟩
theorem NDir.mono {ep : Nat} {s t : LE} {ws wt ps pt gs gt : List BL} {m : Nat} (h : NDir ep s t ws wt ps pt gs gt m) : NDir ep s t ws wt ps pt gs gt (m + 1) := ⟨h.d1, h.d2, h.e1, h.e2, h.w1, h.w2, h.l1, h.l2, Nat.le_succ_of_le h.p1, Nat.le_succ_of_le h.p2⟩
theorem NDir.start (ep : Nat) : NDir ep (openL ep) (openL ep) [] [] [] [] [] [] 0 := ⟨Dir.open_ ep ep, Dir.open_ ep ep, rfl, rfl, fun f h => (by simp at h), fun f h => (by simp at h), Nat.zero_le _, Nat.zero_le _, Nat.le_refl _, Nat.le_refl _⟩
theorem NDir.send {ep : Nat} {s t : LE} {ws wt ps pt gs gt : List BL} {m : Nat} (h : NDir ep s t ws wt ps pt gs gt m) (b : BL) (hb : b.length ≤ 1048576) (hm : m ≤ 1000000) :
  ((sendL s b).1 = 0 ∧ NDir ep (sendL s b).2 t ws wt (ps ++ [b]) pt gs gt (m + 1)) ∨ ((sendL s b).1 ≠ 0 ∧ NDir ep (sendL s b).2 t ws wt ps pt gs gt (m + 1)) := by
 have hn := h.d1.next
 have hp := h.p1
 have hep : (sendL s b).2.ep = s.ep ∧ (sendL s b).2.heard = s.heard := by
  unfold sendL
  split
  ·exact ⟨rfl, rfl⟩
  ·split <;> exact ⟨rfl, rfl⟩
 rcases send_dir h.d1 b hb (by unfold mostL; omega) with ⟨h1, h2⟩ | ⟨h1, h2, h3⟩
 ·refine .inl ⟨h1, ⟨h2, send_back h.d2 b, by rw [hep.1]; exact h.e1, h.e2, h.w1, fun f hf => (h.w2 f hf).more (by rw [hep.2]; exact Nat.le_refl _), h.l1, h.l2, by simp; exact h.p1, Nat.le_succ_of_le h.p2⟩⟩
 ·refine .inr ⟨by rw [h1]; decide, ?_⟩
  rw [h3]
  exact h.mono
theorem NDir.out {ep : Nat} {s t : LE} {ws wt ps pt gs gt : List BL} {m : Nat} (h : NDir ep s t ws wt ps pt gs gt m) (hok : LEok s) {k : Nat} (hk : s.first ≤ k) (ack : Bool) : NDir ep (fromL s k ack).2 t ws (goesF wt (fromL s k ack).1) ps pt gs gt (m + 1) := by
 refine ⟨from_dir h.d1 k ack, from_back h.d2 k ack, h.e1, h.e2, h.w1, fun f hf => ?_, h.l1, goesF_len h.l2 _, Nat.le_succ_of_le h.p1, Nat.le_succ_of_le h.p2⟩
 rcases goesF_mem hf with hf | hf
 ·exact h.w2 f hf
 ·obtain ⟨i, hi⟩ := List.getElem?_of_mem hf
  have hrd := from_rdf h.d1 hok hk hi
  rw [h.e1] at hrd
  rcases from_frame h.d1 hok hk hi with ⟨e, _⟩ | ⟨b, e, _, _, _, _, hb⟩
  ·exact ⟨⟨_, _, _, e⟩, by rw [e, fr_len]; simp, .inl hrd⟩
  ·exact ⟨⟨_, _, _, e⟩, by rw [e, fr_len]; simp; omega, .inl hrd⟩
theorem NDir.far {ep : Nat} {s t : LE} {ws wt ps pt gs gt : List BL} {m : Nat} (h : NDir ep s t ws wt ps pt gs gt m) {x : LE} {p : List BL} (hx : Dir x (openL x.ep) p []) (hok : LEok x) (hne : x.ep ≠ ep) {k : Nat} (hk : x.first ≤ k) (ack : Bool) : NDir ep s t (goesF ws (fromL x k ack).1) wt ps pt gs gt (m + 1) := by
 refine ⟨h.d1, h.d2, h.e1, h.e2, fun f hf => ?_, h.w2, goesF_len h.l1 _, h.l2, Nat.le_succ_of_le h.p1, Nat.le_succ_of_le h.p2⟩
 rcases goesF_mem hf with hf | hf
 ·exact h.w1 f hf
 ·obtain ⟨i, hi⟩ := List.getElem?_of_mem hf
  rcases from_frame hx hok hk hi with ⟨e, hq, _⟩ | ⟨b, e, hq, _, _, _, hb⟩
  ·exact ⟨⟨_, _, _, e⟩, by rw [e, fr_len]; simp, .inr ⟨_, _, _, _, hq, hne⟩⟩
  ·exact ⟨⟨_, _, _, e⟩, by rw [e, fr_len]; simp; omega, .inr ⟨_, _, _, _, hq, hne⟩⟩
theorem NDir.less {ep : Nat} {s t : LE} {ws ws' wt ps pt gs gt : List BL} {m : Nat} (h : NDir ep s t ws wt ps pt gs gt m) (hs : ∀ f ∈ ws', f ∈ ws) (hl : ws'.length ≤ ws.length) : NDir ep s t ws' wt ps pt gs gt (m + 1) := ⟨h.d1, h.d2, h.e1, h.e2, fun f hf => h.w1 f (hs f hf), h.w2, Nat.le_trans hl h.l1, h.l2, Nat.le_succ_of_le h.p1, Nat.le_succ_of_le h.p2⟩
structure Heard1 (ep : Nat) (s t : LE) (ws wt ps pt gs gt : List BL) (m : Nat) (f : BL) : Prop where
 told : ∃ j, (hearL s f).2.1 = (pt.drop gs.length).take j ∧ (hearL s f).2.1.length = j
 code : (hearL s f).1 ≠ 0 → (hearL s f).2.1 = []
 next : NDir ep (hearL s f).2.2 t ws wt ps pt (gs ++ (hearL s f).2.1) gt (m + 1)
theorem NDir.hear {ep : Nat} {s t : LE} {ws wt ps pt gs gt : List BL} {m : Nat} (h : NDir ep s t ws wt ps pt gs gt m) {f : BL} (hf : Wy ep t.heard pt f) : Heard1 ep s t ws wt ps pt gs gt m f := by
 rcases hf.2.2 with hr | ⟨e', h', n, b, hq, hne⟩
 ·rw [← h.e1] at hr
  have hd := hear_dir h.d2 h.d1 hr
  refine ⟨hd.told, fun hc => absurd hd.code hc, ⟨hd.bwd, hd.fwd, by rw [hd.ep]; exact h.e1, h.e2, h.w1, fun g hg => ?_, h.l1, h.l2, Nat.le_succ_of_le h.p1, Nat.le_succ_of_le h.p2⟩⟩
  have h9 := hd.fwd.heard
  rw [List.length_append] at h9
  have h8 := h.d2.heard
  have := (h.w2 g hg).more (q := []) (hx' := (hearL s f).2.2.heard) (by omega)
  rwa [List.append_nil] at this
 ·obtain ⟨h1, h2⟩ := hear_other (y := s) (f := f) (.inr ⟨_, _, _, _, hq, by rw [h.e1]; exact hne⟩)
  refine ⟨⟨0, by rw [h2]; rfl, by rw [h2]; rfl⟩, fun _ => by rw [h2], ?_⟩
  rw [h2]
  simpa using h.mono
theorem NDir.none {ep : Nat} {s t : LE} {ws wt ps pt gs gt : List BL} {m : Nat} (h : NDir ep s t ws wt ps pt gs gt m) {f : BL} (hf : readL f = .none) : Heard1 ep s t ws wt ps pt gs gt m f := by
 obtain ⟨h1, h2⟩ := hear_other (y := s) (f := f) (.inl hf)
 refine ⟨⟨0, by rw [h2]; rfl, by rw [h2]; rfl⟩, fun _ => by rw [h2], ?_⟩
 rw [h2]
 simpa using h.mono
def NSt (w : World) (L W P1 P2 a Q1 Q2 ep m n : Nat) : Prop :=
 ∃ E Y U T tag B ways puts gots s t ws wt ps pt gs gt, NetM w L W E Y U T P1 P2 tag ways puts gots false ∧ Two w L B n Q1 Q2 s t ∧ B ≤ w.heap.size ∧
  w.cell? ⟨E, a, none⟩ = some (.pointer (some ⟨Q1, 0, none⟩)) ∧ w.cell? ⟨E, 1 - a, none⟩ = some (.pointer (some ⟨Q2, 0, none⟩)) ∧
  (ways[a]? = some ws ∧ ways[1 - a]? = some wt) ∧ (puts[a]? = some ps ∧ puts[1 - a]? = some pt) ∧ (gots[a]? = some gs ∧ gots[1 - a]? = some gt) ∧ NDir ep s t ws wt ps pt gs gt m
theorem NSt.swap {w : World} {L W P1 P2 a Q1 Q2 ep m n : Nat} (h : NSt w L W P1 P2 a Q1 Q2 ep m n) (ha : a < 2) : NSt w L W P1 P2 (1 - a) Q2 Q1 ep m n := by
 obtain ⟨E, Y, U, T, tag, B, ways, puts, gots, s, t, ws, wt, ps, pt, gs, gt, h1, h2, h3, h4, h5, h6, h7, h8, h9⟩ := h
 have e : 1 - (1 - a) = a := by omega
 exact ⟨E, Y, U, T, tag, B, ways, puts, gots, t, s, wt, ws, pt, ps, gt, gs, h1, h2.symm, h3, h5, by rw [e]; exact h4, ⟨h6.2, by rw [e]; exact h6.1⟩, ⟨h7.2, by rw [e]; exact h7.1⟩, ⟨h8.2, by rw [e]; exact h8.1⟩, h9.swap⟩
end Go.Proofs.Ytigmmikijjcdiaa
namespace Go.Proofs.Ytigmmikijjcdiaa
open Go.RowKit
def HearsPost (w : World) (L B W E Y U T P1 P2 n Q1 Q2 a : Nat) (ways puts gots : List (List BL)) (s t : LE) (f : BL) (e : Ending) (w' : World) : Prop :=
 e = .returned (.tuple #[]) ∧ (∃ tag', NetM w' L W E Y U T P1 P2 tag' ways puts (gots.set a (gots.getD a [] ++ (hearL s f).2.1)) false ∧ Two w' L B (n + 1) Q2 Q1 t (hearL s f).2.2 ∧ B ≤ w'.heap.size) ∧ Below L w w' ∧ ∀ (Bf : Nat) (v : Value) (fs : List BL), B ≤ Bf → FRw w Bf v fs → FRw w' Bf v fs
theorem StrRow.get {w : World} {L : Nat} {tag : Nat → Option (Nat × Nat)} {t : Nat × Nat} {A : Option Addr} {n c : Nat} {xs : List BL} (h : StrRow w L tag t (.slice A n c) xs) {i : Nat} {b : BL} (hi : xs[i]? = some b) : ∃ g off, A = some ⟨g, off, none⟩ ∧ g < w.heap.size ∧ w.cell? ⟨g, off + i, none⟩ = some (.string ⟨b.toArray⟩) := by
 obtain ⟨A', c', e, hr, -⟩ := h.rd
 injection e with e1 e2 e3
 subst e1
 have hl := (List.getElem?_eq_some_iff.1 hi).1
 have hs : (strs xs)[i]? = some (.string ⟨b.toArray⟩) := by unfold strs; rw [List.getElem?_map, hi]; rfl
 obtain ⟨g, off, rfl, hg, hc⟩ := hr.at_ (k := i) (by rw [strs_len]; exact hl)
 exact ⟨g, off, rfl, hg, hc i _ hs⟩
theorem set_self {X : Type} {l : List X} {a : Nat} {x : X} (h : l[a]? = some x) : l.set a x = l := by
 obtain ⟨hl, he⟩ := List.getElem?_eq_some_iff.1 h
 rw [← he, List.set_getElem_self]
theorem cell_new {x y : World} {L k a B : Nat} {tag : Nat → Option (Nat × Nat)} {v v' : Value} {xs : List BL} {ls : List (List BL)} (hs : ∀ g, g < x.heap.size → v.ownBlock ≠ some g → y.heap[g]? = x.heap[g]?) (h : SRows x L tag k B ls) (hold : StrRow x L tag (k, a) v xs) (ha : a < ls.length) : (y.setCell ⟨B, a, none⟩ v').cell? ⟨B, a, none⟩ = some v' := by
 obtain ⟨vs, q1, q2, _⟩ := h
 have h9 := (cell_at hs hold q1 (by decide)).trans q1
 have h8 := heap_setCell_same _ B a _ _ v' h9
 refine (cell_of_row _ _ a _ _ _ h8).trans ?_
 rw [Array.getElem?_setIfInBounds, if_pos rfl, if_pos (by simp; omega)]
theorem str_kept {v : World} {A : Option Addr} {bs : List UInt8} {n c : Nat} (h : Rd v v.heap.size A (u8s bs)) (hn : bs.length = n) : ∀ w, Kept v w → (convert 23 9 (.slice A n c)).run Try.prog w = .ok (.string ⟨bs.toArray⟩) w := by
 subst hn
 intro w hk
 exact run_string_of w 23 9 5 A c _ bs Try.underlying23 Try.underlying5 Try.underlying9 (h.keep hk)
theorem hears_any (w : World) {L W E Y U T P1 P2 : Nat} {tag : Nat → Option (Nat × Nat)} {ways puts gots : List (List BL)} (hN : NetM w L W E Y U T P1 P2 tag ways puts gots false) (a : Nat) (ha : a < 2) {B n Q1 Q2 : Nat} {s t : LE} (hT : Two w L B n Q2 Q1 t s) (hBw : B ≤ w.heap.size) (hE : w.cell? ⟨E, a, none⟩ = some (.pointer (some ⟨Q1, 0, none⟩))) (f : BL) (hf : f.length ≤ 3000000) (hn : n < 1000000) (hs : s.heard + 65 ≤ 1000000)
  (htold : ∀ g p, gots[a]? = some g → puts[1 - a]? = some p → ∃ j, (hearL s f).2.1 = (p.drop g.length).take j ∧ (hearL s f).2.1.length = j) (hcode : (hearL s f).1 ≠ 0 → (hearL s f).2.1 = []) (hg1 : ∀ g, gots[a]? = some g → g.length ≤ 10000) (hp1 : ∀ p, puts[1 - a]? = some p → p.length ≤ 10000) :
  Calls Try.prog 19 #[.pointer (some ⟨W, 0, none⟩), .int .i64 (a : Int), .string ⟨f.toArray⟩] w (HearsPost w L B W E Y U T P1 P2 n Q1 Q2 a ways puts gots s t f) := by
 have hlen := hN.len
 obtain ⟨gw, hgw⟩ : ∃ z, gots[a]? = some z := ⟨_, List.getElem?_eq_getElem (by omega)⟩
 obtain ⟨b, hb⟩ : ∃ z, 1 - a = z := ⟨_, rfl⟩
 obtain ⟨p, hp⟩ : ∃ z, puts[b]? = some z := ⟨_, List.getElem?_eq_getElem (by omega)⟩
 have hgl := hg1 gw hgw
 have hpl := hp1 p (by rw [hb]; exact hp)
 obtain ⟨j, hj1, hj2⟩ := htold gw p hgw (by rw [hb]; exact hp)
 obtain ⟨fl, hfl⟩ : ∃ z, f.length = z := ⟨_, rfl⟩
 have kq := run_bytes_of (P := Try.prog) w 9 23 5 f Try.underlying9 Try.underlying23 Try.underlying5
 rw [hfl] at kq hf
 obtain ⟨cp, hcp⟩ : ∃ z, grownCap w fl 0 5 = z := ⟨_, rfl⟩
 have hcp1 : fl ≤ cp := by rw [← hcp]; exact grownCap_ge _ _ _ _
 have hcp2 : cp ≤ 9223372036854775807 := by rw [← hcp]; exact grownCap_le_maxLen _ _ _ _ (by unfold maxLen; omega)
 rw [hcp] at kq
 have HBx : Hid (Below w.heap.size w (bytesWorld w 5 f)) := hide (bytesWorld_below _ _ _)
 have HRx : Hid (Rd (bytesWorld w 5 f) (bytesWorld w 5 f).heap.size (some ⟨w.heap.size, 0, none⟩) (u8s f)) := hide (by rw [bytesWorld_size]; exact bytesWorld_rd _ _ _)
 obtain ⟨x1, hx1⟩ : ∃ z, bytesWorld w 5 f = z := ⟨_, rfl⟩
 rw [hx1] at kq HBx HRx
 have HN := hide hN
 have HT := hide hT
 have HG0 := hide hgw
 have HP0 := hide hp
 have HJ1 := hide hj1
 have HJ2 := hide hj2
 have HFl := hide hfl
 have HLx0 : Hid (L < w.heap.size) := hide hT.low
 have e0 : w.cell? ⟨W, 0, none⟩ = some (.slice (some ⟨E, 0, none⟩) 2 2) := cell_of_row _ _ 0 _ _ _ hN.wd
 have hW : W < w.heap.size := lt_of_block hN.wd
 have hE0 : E < w.heap.size := lt_of_block hN.en
 have ha0 : (0 : Int) ≤ (a : Int) := by omega
 have ha1 : (a : Int) < 2 := by omega
 have hb2 : b < 2 := by omega
 have hb0 : (0 : Int) ≤ (b : Int) := by omega
 have hb1 : (b : Int) < 2 := by omega
 have kw : IntKind.i64.wrap (1 - (a : Int)) = (b : Int) := by rw [IntWalk.i64_in _ (by omega)]; omega
 have HAb := hide hb
 clear hcp hx1 hN hT hgw hp hj1 hj2 hfl hb hg1 hp1 htold
 have HHr := hide (by have h := two_hear (HT.out.next HBx.out) (some ⟨w.heap.size, 0, none⟩) f cp HRx.out (by rw [HFl.out]; omega) (by rw [HFl.out]; exact hcp1) hcp2 hn hs; rw [HFl.out] at h; exact h)
 go_enter Try.func19, Try.ntmps19
 go_wp2_with fail
 refine HHr.out.mono ?_
 rintro e y1 ⟨v1, rfl, ht, hf, hm⟩
 obtain ⟨ms, hms⟩ : ∃ z, (hearL s f).2.1 = z := ⟨_, rfl⟩
 obtain ⟨s', hs'⟩ : ∃ z, (hearL s f).2.2 = z := ⟨_, rfl⟩
 obtain ⟨cd, hcd⟩ : ∃ z, (hearL s f).1 = z := ⟨_, rfl⟩
 rw [hms] at hf hcode
 rw [hs'] at ht
 rw [hcd] at hcode ⊢
 have HMs := hide hms
 have HS' := hide hs'
 have HT1 := hide ht
 have HF1 := hide hf
 have HN1 := hide ((HN.out.next HBx.out).mid hm)
 have HB1 : Hid (Below L w y1) := hide ((HBx.out.mono (Nat.le_of_lt HLx0.out)).trans (hm.toBelow (Nat.le_trans (Nat.le_of_lt HLx0.out) HBx.out.size)))
 have HFk : Hid (∀ (Bf : Nat) (v : Value) (fs : List BL), B ≤ Bf → FRw w Bf v fs → FRw y1 Bf v fs) := hide (fun Bf v fs hb h => (h.next HBx.out).mid hm hb)
 have HBl : Hid (B ≤ y1.heap.size) := hide (Nat.le_trans hBw (Nat.le_trans HBx.out.size hm.1))
 obtain ⟨Am, cm, rfl⟩ := hf.rd.form
 obtain ⟨ml, hml⟩ : ∃ z, ms.length = z := ⟨_, rfl⟩
 rw [hml]
 have HMl := hide hml
 have HCode := hide hcode
 clear hms hs' ht hf hm hcode e0 kq
 have HJ3 : Hid (ms = (p.drop gw.length).take j ∧ ms.length = j) := hide (by rw [← HMs.out]; exact ⟨HJ1.out, HJ2.out⟩)
 go_upto_region 1 with fail
 go_cut [29] (fun v29 wc => v29 = .bool false ∧ y1 = wc)
 case first =>
  by_cases hc0 : cd = 0
  ·subst hc0
   go_wp2
   go_meet
   case rel => exact ⟨rfl, rfl⟩
  ·have hq : (cd != 0) = true := by simp [hc0]
   have hq2 : ¬ (0 : Int) < (ml : Int) := by have hml0 : ml = 0 := (by rw [← HMl.out, HCode.out hc0]; rfl); omega
   have hq3 : ¬ 0 < ml := by omega
   go_wp2
   go_meet
   case rel => exact ⟨rfl, rfl⟩
 case rest =>
  obtain ⟨rfl, rfl⟩ := hcut
  go_wp2
  have HN2 : Hid (NetM y1 L W E Y U T P1 P2 tag ways puts (gots.set a (gw ++ ms.take 0)) false) := hide (by rw [List.take_zero, List.append_nil, set_self HG0.out]; exact HN1.out)
  have HF2 : Hid (FRw y1 (x1.heap.size) (.slice Am ml cm) ms) := hide (by have h := HF1.out; rwa [HMl.out] at h)
  go_loopw [8] (fun v8 wr => ∃ (i : Nat) (tag0 : Nat → Option (Nat × Nat)), i ≤ ml ∧ v8 = .int .i64 (i : Int) ∧ Hid (NetM wr L W E Y U T P1 P2 tag0 ways puts (gots.set a (gw ++ ms.take i)) false) ∧ Hid (ModN L y1 wr) ∧ Hid (FRw wr x1.heap.size (.slice Am ml cm) ms)) (fun v8 _ => ml - (intOf v8).toNat)
  case atStart => exact ⟨0, tag, by omega, rfl, HN2, hide (ModN.of_below (Below.refl _ _)), HF2⟩
  case round =>
   clear HN2 HF2
   obtain ⟨i, tag0, hi, rfl, hM, hMod, hF⟩ := hrel
   obtain ⟨x, rfl⟩ : ∃ z : World, z = wr := ⟨_, rfl⟩
   have hmlb : ml ≤ 10000 := by rw [← HMl.out, HJ3.out.1, List.length_take, List.length_drop]; omega
   by_cases hlt : i < ml
   ·have hI1 : (i : Int) < (ml : Int) := by omega
    have hI0 : (0 : Int) ≤ (i : Int) := by omega
    obtain ⟨m, hm⟩ : ∃ m, ms[i]? = some m := ⟨_, List.getElem?_eq_getElem (by rw [HMl.out]; exact hlt)⟩
    obtain ⟨-, g, Ar, cr, cur, rfl, hg, hci, hrt, -⟩ := hF.out.get hm
    obtain ⟨xs, hxs⟩ : ∃ z, gw ++ ms.take i = z := ⟨_, rfl⟩
    obtain ⟨n0, hn0⟩ : ∃ z, xs.length = z := ⟨_, rfl⟩
    have hn0' : n0 = gw.length + i := by rw [← hn0, ← hxs, List.length_append, List.length_take, HMl.out]; omega
    have hpm : p[n0]? = some m := by have h := hm; rw [HJ3.out.1, List.getElem?_take] at h; split at h; rw [List.getElem?_drop] at h; rw [hn0']; exact h; cases h
    have hnp : n0 < p.length := (List.getElem?_eq_some_iff.1 hpm).1
    have HN0' := hide hn0'
    rw [hxs] at hM
    have hax : (gots.set a xs)[a]? = some xs := by rw [List.getElem?_set_self (by omega)]
    obtain ⟨v0, hv0, hR0⟩ := hM.out.got.at_ hax
    obtain ⟨A0, c0, rfl, -, -, -⟩ := hR0.rd
    rw [hn0] at hv0
    have HR0 : Hid (StrRow x L tag0 (2, a) (.slice A0 n0 c0) xs) := hide (by rw [← hn0]; exact hR0)
    have HRo : Hid (x.ownsRow L 9 1 (.slice A0 n0 c0) n0 (strs xs)) := hide (by have h := HR0.out.2.1; rwa [hn0] at h)
    have HN0 := hide hn0
    obtain ⟨fl2, hfl2⟩ : ∃ z, m.length = z := ⟨_, rfl⟩
    rw [hfl2] at hci
    have HFl2 := hide hfl2
    have HXs := hide hxs
    have HMi := hide hm
    have HG := hide hg
    have HRt := hide hrt
    have HPm := hide hpm
    have e1 : x.cell? ⟨W, 3, none⟩ = some (.slice (some ⟨T, 0, none⟩) 2 2) := cell_of_row _ _ 3 _ _ _ hM.out.wd
    have e2 : x.cell? ⟨g, i, none⟩ = some (.slice Ar fl2 cr) := (cell_of_row _ _ i _ _ _ hg).trans hci
    have HE2 := hide e2
    have hWx : W < x.heap.size := lt_of_block hM.out.wd
    have hYx : T < x.heap.size := hM.out.got.lt
    have hgx : g < x.heap.size := lt_of_block hg
    clear hR0 hn0 hn0' hfl2 hxs hm hg hci hrt hpm
    go_upto_region 6 with fail
    have hLx : L ≤ x.heap.size := by have := hM.out.lo; have := hM.out.got.lt; omega
    obtain ⟨i3, a3i, a3z, a3s, a3b⟩ := info_parts (show (Try.prog.info? 9).map (fun i => (i.zero, i.size, i.bytes)) = some (some (.string ⟨#[]⟩), 1, 16) by kernel_rfl)
    refine wpL_region (S := (fun w9 : World => w9.cell? ⟨W, 3, none⟩ = some (.slice (some ⟨T, 0, none⟩) 2 2) ∧ w9.cell? ⟨T, a, none⟩ = some (.slice A0 n0 c0) ∧ w9.cell? ⟨g, i, none⟩ = some (.slice Ar fl2 cr) ∧ RdT w9 Ar m)) [20] (by kernel_rfl) ⟨e1, hv0, e2, HRt.out⟩ (fun hS0 => ?_)
    refine tl 0 39 ?_ ?_ ?_; rotate_left; (focus (intro w h; go_simp; (try with_reducible rfl))); (try simp only [zqd, zqe, zqf])
    refine tl 1 40 ?_ ?_ ?_; rotate_left; (focus (intro w h; go_simp; (try with_reducible rfl))); (try simp only [zqd, zqe, zqf])
    refine tl 2 41 ?_ ?_ ?_; rotate_left; (focus (intro w h; go_simp; (try with_reducible rfl))); (try simp only [zqd, zqe, zqf])
    refine tl 3 42 ?_ ?_ ?_; rotate_left; (focus (intro w h; go_simp; (try with_reducible rfl))); (try simp only [zqd, zqe, zqf])
    refine tl 4 43 ?_ ?_ ?_; rotate_left; (focus (intro w h; go_simp; (try with_reducible rfl))); (try simp only [zqd, zqe, zqf])
    refine tl 5 44 ?_ ?_ ?_; rotate_left; (focus (intro w h; go_simp; (try with_reducible rfl))); (try simp only [zqd, zqe, zqf])
    refine tl 6 45 ?_ ?_ ?_; rotate_left; (focus (intro w h; go_simp; (try with_reducible rfl))); (try simp only [zqd, zqe, zqf])
    refine tl 7 46 ?_ ?_ ?_; rotate_left; (focus (intro w h; go_simp; (try with_reducible rfl))); (try simp only [zqd, zqe, zqf])
    refine tl 8 47 ?_ ?_ ?_; rotate_left; (focus (intro w h; go_simp; (try with_reducible rfl))); (try simp only [zqd, zqe, zqf])
    refine tl 9 48 ?_ ?_ ?_; rotate_left; (focus (intro w h; go_simp; (try with_reducible rfl))); (try simp only [zqd, zqe, zqf])
    refine tl 10 49 ?_ ?_ ?_; rotate_left; (focus (intro w h; go_simp; (try with_reducible rfl))); (try simp only [zqd, zqe, zqf])
    refine tl 11 50 ?_ ?_ ?_; rotate_left; (focus (intro w h; go_simp; (try with_reducible rfl))); (try simp only [zqd, zqe, zqf])
    refine tl 12 51 ?_ ?_ ?_; rotate_left; (focus (intro w h; go_simp; (try with_reducible rfl))); (try simp only [zqd, zqe, zqf])
    refine tl 13 52 ?_ ?_ ?_; rotate_left; (focus (intro w h; go_simp; (try with_reducible rfl))); (try simp only [zqd, zqe, zqf])
    refine tl 14 53 ?_ ?_ ?_; rotate_left; (focus (intro w h; go_simp; (try with_reducible rfl))); (try simp only [zqd, zqe, zqf])
    refine tl 15 54 ?_ ?_ ?_; rotate_left; (focus (intro w h; go_simp; (try with_reducible rfl))); (try simp only [zqd, zqe, zqf])
    refine tl 16 55 ?_ ?_ ?_; rotate_left; (focus (intro w hSw; have hh := hSw.2.2.2.conv (c := cr) HFl2.out; go_simp; (try with_reducible rfl); done)); (try simp only [zqd, zqe, zqf])
    refine callL_at (i := 17) (d := 56) (by simp only [zqa, zqb, zqc]; rfl) rfl (by kernel_rfl) rfl (fun K hK => ?_)
    go_simp
    obtain ⟨y4, hy⟩ : ∃ z, (x.alloc (.cells #[.string ⟨(m).toArray⟩] 9)).drew = z := ⟨_, rfl⟩
    have HY4 : Hid (Below x.heap.size x y4) := hide (by rw [← hy]; exact ((Below.refl _ _).alloc (Nat.le_refl _) _).drew)
    have HO1 : Hid (y4.heap[x.heap.size]? = some (.cells #[.string ⟨(m).toArray⟩] 9)) := hide (by rw [← hy]; exact heap_alloc_last x _)
    rw [hy]
    clear hy
    have hS4 : y4.cell? ⟨W, 3, none⟩ = some (.slice (some ⟨T, 0, none⟩) 2 2) ∧ y4.cell? ⟨T, a, none⟩ = some (.slice A0 n0 c0) ∧ y4.cell? ⟨g, i, none⟩ = some (.slice Ar fl2 cr) ∧ RdT y4 Ar m := ⟨(HY4.out.cell (p := ⟨W, 3, none⟩) hWx).trans e1, (HY4.out.cell (p := ⟨T, a, none⟩) hYx).trans hv0, (HY4.out.cell (p := ⟨g, i, none⟩) hgx).trans e2, HRt.out.keep fun g' cur' hc' => HY4.out.block g' (lt_of_block hc')⟩
    refine hK.out _ _ hS4 (fun hSn => ?_)
    clear hK K
    try simp only [zqd, zqe, zqf]
    refine callL_at (i := 18) (d := 57) (by simp only [zqa, zqb, zqc]; rfl) rfl (by kernel_rfl) rfl (fun K hK => ?_)
    refine op_app (.tmp 50) (.tmp 56) 48 rfl L 9 i3 (.string ⟨#[]⟩) 1 16 Try.underlying48 a3i a3z a3s a3b rfl (by decide) (.slice A0 n0 c0) n0 (strs xs) rfl (own_below HRo.out HY4.out (fun g hg => (HRo.out.lt g hg).2)) y4.heap.size (some ⟨x.heap.size, 0, none⟩) 1 1 [.string ⟨(m).toArray⟩] rfl rfl (rd_cells HO1.out) (by simp [Value.oneCell']) (by unfold maxLen; omega) (by omega) (Nat.le_trans hLx HY4.out.size) ?_
    intro A8 c8 y5 own5 hg5 hat5
    have HOwn : Hid (y5.ownsRow L 9 1 (.slice A8 (n0 + 1) c8) (n0 + 1) (strs (xs ++ [m]))) := hide (by rw [strs_app]; exact own5)
    have HG5 := hide hg5
    have HA5 := hide hat5
    have HSm : Hid (∀ g, g < x.heap.size → (Value.slice A0 n0 c0).ownBlock ≠ some g → y5.heap[g]? = x.heap[g]?) := hide (fun g hl hne => (HG5.out.block g (Nat.lt_of_lt_of_le hl HY4.out.size) (fun e => hne e.symm)).trans (HY4.out.block g hl))
    have HNw : Hid (∀ g, (Value.slice A8 (n0 + 1) c8).ownBlock = some g → (Value.slice A0 n0 c0).ownBlock = some g ∨ x.heap.size ≤ g) := hide (fun g hg => by rcases HA5.out with h | h; exact .inl (by rw [← h]; exact hg); right; rw [h] at hg; injection hg with hg; rw [← hg]; exact HY4.out.size)
    have HSz : Hid (x.heap.size ≤ y5.heap.size ∧ Env x y5) := hide ⟨Nat.le_trans HY4.out.size HG5.out.size, (Env.of_below HY4.out).grown HG5.out⟩
    have hS5 : y5.cell? ⟨W, 3, none⟩ = some (.slice (some ⟨T, 0, none⟩) 2 2) ∧ y5.cell? ⟨T, a, none⟩ = some (.slice A0 n0 c0) ∧ y5.cell? ⟨g, i, none⟩ = some (.slice Ar fl2 cr) ∧ RdT y5 Ar m := by
     obtain ⟨vs, q1, _⟩ := hM.out.got
     exact ⟨(World.cell?_of_block (cell_at HSm.out HR0.out hM.out.wd (by decide))).trans e1, (World.cell?_of_block (cell_at HSm.out HR0.out q1 (by decide))).trans hv0, (World.cell?_of_block (cell_at HSm.out HR0.out HG.out (by decide))).trans e2, HRt.out.keep fun g' cur' hc' => cell_at HSm.out HR0.out hc' (by decide)⟩
    clear own5 hg5 hat5
    refine hK.out _ _ hS5 (fun hSn => ?_)
    clear hK K
    simp only [Act.put]
    try simp only [zqd, zqe, zqf]
    refine tl 19 58 ?_ ?_ ?_; rotate_left; (focus (intro w h; go_simp; (try with_reducible rfl))); (try simp only [zqd, zqe, zqf])
    refine exL_at (i := 20) (by simp only [zqa, zqb, zqc]; rfl) (by kernel_rfl) rfl (by kernel_rfl) (fun K hK => ?_)
    have z5 : y5.frozen? ⟨T, a, none⟩ = false := frozen_at HSm.out hM.out.got HR0.out _
    go_wp2_with fail
    refine hK.out _ _ ?_
    clear hK K
    try simp only [zqd, zqe, zqf]
    refine wpAnyL_done (by kernel_rfl) ?_ _
    clear hS0 hSn hS4 hS5
    skip
    have HNew : Hid (NetM (y5.setCell ⟨T, a, none⟩ (.slice A8 (n0 + 1) c8)) L W E Y U T P1 P2 (tagN tag0 (.slice A8 (n0 + 1) c8) (2, a)) ways puts (gots.set a (gw ++ ms.take (i + 1))) false) := hide (by
     have h := hM.out.updGot hax HR0.out HSz.out.1 HSm.out HNw.out (xs' := xs ++ [m]) ⟨A8, c8, by simp [HN0.out]⟩ (by rw [List.length_append, HN0.out]; exact HOwn.out)
     rw [List.set_set] at h
     have e : gw ++ ms.take (i + 1) = xs ++ [m] := by rw [List.take_add_one, HMi.out]; show gw ++ (ms.take i ++ [m]) = _; rw [← List.append_assoc, HXs.out]
     rw [e]
     exact h)
    have HMd : Hid (ModN L x (y5.setCell ⟨T, a, none⟩ (.slice A8 (n0 + 1) c8))) := hide (modn_upd HR0.out hM.out.blkT.2.2 hM.out.lo.2.2.2 HSz.out.1 HSz.out.2 HSm.out)
    have HMd2 := hide (hMod.out.trans HMd.out)
    have HF2 := hide (hF.out.modn HMd.out)
    obtain ⟨y6, hy6⟩ : ∃ z, (y5.setCell ⟨T, a, none⟩ (.slice A8 (n0 + 1) c8)) = z := ⟨_, rfl⟩
    have q2 : y6.cell? ⟨T, a, none⟩ = some (.slice A8 (n0 + 1) c8) := by rw [← hy6]; exact cell_new HSm.out hM.out.got HR0.out (by simp [hlen.2.2]; exact ha)
    rw [hy6] at HNew HMd HMd2 HF2 ⊢
    clear hy6 e1 e2 hv0 hWx hYx hgx
    have hW6 : W < y6.heap.size := lt_of_block HNew.out.wd
    have q1 : y6.cell? ⟨W, 3, none⟩ = some (.slice (some ⟨T, 0, none⟩) 2 2) := cell_of_row _ _ 3 _ _ _ HNew.out.wd
    have q3 : y6.cell? ⟨W, 2, none⟩ = some (.slice (some ⟨U, 0, none⟩) 2 2) := cell_of_row _ _ 2 _ _ _ HNew.out.wd
    obtain ⟨vp, q4, hRp⟩ := HNew.out.put.at_ HP0.out
    obtain ⟨Ap, cpp, rfl, -, -, -⟩ := hRp.rd
    obtain ⟨np, hnp2⟩ : ∃ z, p.length = z := ⟨_, rfl⟩
    rw [hnp2] at q4 hRp hnp hpl
    obtain ⟨gp, op, rfl, hgp, q5⟩ := hRp.get HPm.out
    obtain ⟨-, g', Ar', cr', cur', hA', hg', hci', hrt', -⟩ := HF2.out.get HMi.out
    injection hA' with hA'
    injection hA' with hA' _
    subst hA'
    rw [HFl2.out] at hci'
    have q6 : y6.cell? ⟨g, i, none⟩ = some (.slice Ar' fl2 cr') := (cell_of_row _ _ i _ _ _ hg').trans hci'
    have HRt2 := hide hrt'
    have HK2 := hide (str_kept (c := cr') hrt'.rd HFl2.out)
    have kn : IntKind.i64.wrap (n0 : Int) = (n0 : Int) := IntWalk.i64_in _ (by omega)
    have hq0 : ¬ (np : Int) < (n0 : Int) + 1 := by omega
    have hq1 : (n0 : Int) < (np : Int) := by omega
    have hq2 : (0 : Int) ≤ (n0 : Int) := by omega
    have hg6 : g < y6.heap.size := lt_of_block hg'
    have hU6 : U < y6.heap.size := HNew.out.put.lt
    have hT6 : T < y6.heap.size := HNew.out.got.lt
    clear hRp hg' hci' hrt'
    go_upto_region 8 with fail
    refine wp_region_held_drew (S := Kept y6) (by kernel_rfl) (Kept.drew y6) (fun hS0 => ?_)
    refine tk 0 67 ?_ ?_ ?_; rotate_left; (focus (intro w h; go_simp; (try with_reducible rfl))); (try simp only [zqd, zqe, zqf])
    refine tk 1 68 ?_ ?_ ?_; rotate_left; (focus (intro w h; go_simp; (try with_reducible rfl))); (try simp only [zqd, zqe, zqf])
    refine tk 2 69 ?_ ?_ ?_; rotate_left; (focus (intro w h; go_simp; (try with_reducible rfl))); (try simp only [zqd, zqe, zqf])
    refine tk 3 70 ?_ ?_ ?_; rotate_left; (focus (intro w h; go_simp; (try with_reducible rfl))); (try simp only [zqd, zqe, zqf])
    refine tk 4 71 ?_ ?_ ?_; rotate_left; (focus (intro w h; go_simp; (try with_reducible rfl))); (try simp only [zqd, zqe, zqf])
    refine tk 5 72 ?_ ?_ ?_; rotate_left; (focus (intro w h; go_simp; (try with_reducible rfl))); (try simp only [zqd, zqe, zqf])
    refine tk 6 73 ?_ ?_ ?_; rotate_left; (focus (intro w h; go_simp; (try with_reducible rfl))); (try simp only [zqd, zqe, zqf])
    refine tk 7 74 ?_ ?_ ?_; rotate_left; (focus (intro w h; go_simp; (try with_reducible rfl))); (try simp only [zqd, zqe, zqf])
    refine tk 8 75 ?_ ?_ ?_; rotate_left; (focus (intro w h; go_simp; (try with_reducible rfl))); (try simp only [zqd, zqe, zqf])
    refine tk 9 76 ?_ ?_ ?_; rotate_left; (focus (intro w h; go_simp; (try with_reducible rfl))); (try simp only [zqd, zqe, zqf])
    refine tk 10 77 ?_ ?_ ?_; rotate_left; (focus (intro w h; go_simp; (try with_reducible rfl))); (try simp only [zqd, zqe, zqf])
    refine tk 11 78 ?_ ?_ ?_; rotate_left; (focus (intro w h; go_simp; (try with_reducible rfl))); (try simp only [zqd, zqe, zqf])
    refine tk 12 79 ?_ ?_ ?_; rotate_left; (focus (intro w h; go_simp; (try with_reducible rfl))); (try simp only [zqd, zqe, zqf])
    refine tk 13 80 ?_ ?_ ?_; rotate_left; (focus (intro w h; go_simp; (try with_reducible rfl))); (try simp only [zqd, zqe, zqf])
    refine tk 14 81 ?_ ?_ ?_; rotate_left; (focus (intro w h; go_simp; (try with_reducible rfl))); (try simp only [zqd, zqe, zqf])
    refine tk 15 82 ?_ ?_ ?_; rotate_left; (focus (intro w h; go_simp; (try with_reducible rfl))); (try simp only [zqd, zqe, zqf])
    refine tk 16 83 ?_ ?_ ?_; rotate_left; (focus (intro w h; go_simp; (try with_reducible rfl))); (try simp only [zqd, zqe, zqf])
    refine tk 17 84 ?_ ?_ ?_; rotate_left; (focus (intro w h; go_simp; (try with_reducible rfl))); (try simp only [zqd, zqe, zqf])
    refine tk 18 85 ?_ ?_ ?_; rotate_left; (focus (intro w h; go_simp; (try with_reducible rfl))); (try simp only [zqd, zqe, zqf])
    refine tk 19 86 ?_ ?_ ?_; rotate_left; (focus (intro w h; go_simp; (try with_reducible rfl))); (try simp only [zqd, zqe, zqf])
    refine tk 20 87 ?_ ?_ ?_; rotate_left; (focus (intro w h; go_simp; (try with_reducible rfl))); (try simp only [zqd, zqe, zqf])
    refine tk 21 88 ?_ ?_ ?_; rotate_left; (focus (intro w h; go_simp; (try with_reducible rfl))); (try simp only [zqd, zqe, zqf])
    refine tk 22 89 ?_ ?_ ?_; rotate_left; (focus (intro w h; go_simp; (try with_reducible rfl))); (try simp only [zqd, zqe, zqf])
    refine tk 23 90 ?_ ?_ ?_; rotate_left; (focus (intro w h; go_simp; (try with_reducible rfl))); (try simp only [zqd, zqe, zqf])
    refine tk 24 91 ?_ ?_ ?_; rotate_left; (focus (intro w h; go_simp; (try with_reducible rfl))); (try simp only [zqd, zqe, zqf])
    refine tk 25 92 ?_ ?_ ?_; rotate_left; (focus (intro w h; go_simp; (try with_reducible rfl))); (try simp only [zqd, zqe, zqf])
    refine tk 26 93 ?_ ?_ ?_; rotate_left; (focus (intro w h; go_simp; (try with_reducible rfl))); (try simp only [zqd, zqe, zqf])
    refine tk 27 94 ?_ ?_ ?_; rotate_left; (focus (intro w h; go_simp; (try with_reducible rfl))); (try simp only [zqd, zqe, zqf])
    refine tk 28 95 ?_ ?_ ?_; rotate_left; (focus (intro w hSw; have hh := HK2.out w hSw; go_simp; (try with_reducible rfl); done)); (try simp only [zqd, zqe, zqf])
    refine tk 29 96 ?_ ?_ ?_; rotate_left; (focus (intro w h; go_simp; (try with_reducible rfl))); (try simp only [zqd, zqe, zqf])
    refine tk 30 97 ?_ ?_ ?_; rotate_left; (focus (intro w h; go_simp; (try with_reducible rfl))); (try simp only [zqd, zqe, zqf])
    refine wpAnyH_done (by kernel_rfl) ?_ _
    clear hS0 q1 q2 q3 q4 q5 q6
    have HNd : Hid (NetM y6.drew L W E Y U T P1 P2 (tagN tag0 (.slice A8 (n0 + 1) c8) (2, a)) ways puts (gots.set a (gw ++ ms.take (i + 1))) false) := hide (HNew.out.next (Below.refl _ _).drew)
    have HMd3 := hide (HMd2.out.trans (ModN.of_below (Below.refl _ _).drew))
    have HF3 := hide (HF2.out.next (Below.refl _ _).drew)
    go_wp2
    go_roundw
    case rel => exact ⟨i + 1, _, by omega, by go_num, HNd, HMd3, HF3⟩
    case measure => simp [intOf]; omega
   have hI1 : ¬ (i : Int) < (ml : Int) := by omega
   obtain rfl : i = ml := by omega
   have HEx : Hid (∃ tag', NetM x L W E Y U T P1 P2 tag' ways puts (gots.set a (gots.getD a [] ++ (hearL s f).2.1)) false ∧ Two x L B (n + 1) Q2 Q1 t (hearL s f).2.2 ∧ B ≤ x.heap.size) := hide ⟨tag0, by (rw [List.getD_eq_getElem?_getD, HG0.out, HMs.out]; have h := hM.out; rwa [List.take_of_length_le (by rw [HMl.out]; exact Nat.le_refl _)] at h), by rw [HS'.out]; exact HT1.out.modn hMod.out, Nat.le_trans HBl.out hMod.out.size⟩
   have HFin := hide (HB1.out.trans (hMod.out.toBelow (Nat.le_trans (Nat.le_of_lt HLx0.out) HB1.out.size)))
   go_wp2
   go_end0
   exact ⟨rfl, HEx.out, HFin.out, fun Bf v fs hb h => (HFk.out Bf v fs hb h).modn hMod.out⟩
end Go.Proofs.Ytigmmikijjcdiaa
namespace Go.Proofs.Ytigmmikijjcdiaa
open Go.RowKit
def StepPost (w : World) (L W P1 P2 a Q1 Q2 ep m n : Nat) (e : Ending) (w' : World) : Prop := e = .returned (.tuple #[]) ∧ NSt w' L W P1 P2 a Q1 Q2 ep (m + 1) (n + 1) ∧ Below L w w'
theorem NetM.ptr {w w' : World} {L L' W E Y U T P1 P2 W' Y' U' T' : Nat} {tag tag' : Nat → Option (Nat × Nat)} {ways puts gots ways' puts' gots' : List (List BL)} {bad bad' : Bool} (h' : NetM w' L W E Y U T P1 P2 tag' ways' puts' gots' bad') (h : NetM w L' W' E Y' U' T' P1 P2 tag ways puts gots bad) (i : Nat) : w'.cell? ⟨E, i, none⟩ = w.cell? ⟨E, i, none⟩ :=
 (cell_of_row _ _ i _ _ _ h'.en).trans (cell_of_row _ _ i _ _ _ h.en).symm
theorem heard_less {ep : Nat} {s t : LE} {ws ws' wt ps pt gs gt : List BL} {m : Nat} (h : NDir ep s t ws wt ps pt gs gt m) {f : BL} (hf : Wy ep t.heard pt f) (hs : ∀ f ∈ ws', f ∈ ws) (hl : ws'.length ≤ ws.length) : Heard1 ep s t ws' wt ps pt gs gt m f := by
 have h1 : NDir ep s t ws' wt ps pt gs gt m := ⟨h.d1, h.d2, h.e1, h.e2, fun f hf => h.w1 f (hs f hf), h.w2, Nat.le_trans hl h.l1, h.l2, h.p1, h.p2⟩
 exact h1.hear hf
theorem none_less {ep : Nat} {s t : LE} {ws ws' wt ps pt gs gt : List BL} {m : Nat} (h : NDir ep s t ws wt ps pt gs gt m) {f : BL} (hf : readL f = none) (hs : ∀ f ∈ ws', f ∈ ws) (hl : ws'.length ≤ ws.length) : Heard1 ep s t ws' wt ps pt gs gt m f := by
 have h1 : NDir ep s t ws' wt ps pt gs gt m := ⟨h.d1, h.d2, h.e1, h.e2, fun f hf => h.w1 f (hs f hf), h.w2, Nat.le_trans hl h.l1, h.l2, h.p1, h.p2⟩
 exact h1.none hf
theorem nst_heard {y w' : World} {L B W E Y U T P1 P2 n Q1 Q2 a ep m : Nat} {tag : Nat → Option (Nat × Nat)} {ways puts gots : List (List BL)} {s t : LE} {ws wt ps pt gs gt : List BL} {f : BL} {e : Ending} (hN : NetM y L W E Y U T P1 P2 tag ways puts gots false) (hE1 : y.cell? ⟨E, a, none⟩ = some (.pointer (some ⟨Q1, 0, none⟩))) (hE2 : y.cell? ⟨E, 1 - a, none⟩ = some (.pointer (some ⟨Q2, 0, none⟩)))
  (hW : ways[a]? = some ws ∧ ways[1 - a]? = some wt) (hP : puts[a]? = some ps ∧ puts[1 - a]? = some pt) (hG : gots[a]? = some gs ∧ gots[1 - a]? = some gt) (hH : Heard1 ep s t ws wt ps pt gs gt m f) (hp : HearsPost y L B W E Y U T P1 P2 n Q1 Q2 a ways puts gots s t f e w') : NSt w' L W P1 P2 a Q1 Q2 ep (m + 1) (n + 1) ∧ Below L y w' := by
 obtain ⟨-, ⟨tag', h1, h2, h3⟩, h4, -⟩ := hp
 have hgd : gots.getD a [] = gs := by rw [List.getD_eq_getElem?_getD, hG.1]; rfl
 rw [hgd] at h1
 have hal : a < gots.length := (List.getElem?_eq_some_iff.1 hG.1).1
 have hbl : 1 - a < gots.length := (List.getElem?_eq_some_iff.1 hG.2).1
 have hne : a ≠ 1 - a := by have := hN.len.2.2; omega
 exact ⟨⟨E, Y, U, T, tag', B, ways, puts, _, _, t, ws, wt, ps, pt, _, gt, h1, h2.symm, h3, (h1.ptr hN a).trans hE1, (h1.ptr hN (1 - a)).trans hE2, hW, hP, ⟨by rw [List.getElem?_set_self hal], by rw [List.getElem?_set_ne hne]; exact hG.2⟩, hH.next⟩, h4⟩
theorem rd_conv {w : World} {B : Nat} {A : Option Addr} {f : BL} {n c : Nat} (h : Rd w B A (u8s f)) (hn : f.length = n) : (convert 23 9 (.slice A n c)).run Try.prog w = .ok (.string ⟨f.toArray⟩) w := by
 subst hn
 exact run_string_of w 23 9 5 A c B f Try.underlying23 Try.underlying5 Try.underlying9 h
theorem wy_len {ep hx : Nat} {p : List BL} {f : BL} (h : Wy ep hx p f) : 21 ≤ f.length := by
 have hn : readL f ≠ none := by
  rcases h.2.2 with ⟨_, _, _, e, _⟩ | ⟨_, _, _, _, e, _⟩ <;> (rw [e]; simp)
 rcases Nat.lt_or_ge f.length 21 with hl | hl
 ·exact absurd (by unfold readL; rw [if_pos hl]) hn
 ·exact hl
theorem u8_wrap (n : Int) : IntKind.u8.wrap n = n % 256 := by simp [IntKind.wrap, IntKind.bits, IntKind.signed]
theorem u8_xor_nat (a b : Nat) (ha : a < 256) (hb : b < 256) : bits .xor .u8 (a : Int) (b : Int) = ((a ^^^ b : Nat) : Int) := by
 have hx : a ^^^ b < 2 ^ 8 := Nat.xor_lt_two_pow (by omega) (by omega)
 have h1 : (BitVec.ofInt 8 (a : Int)).toNat = a := by
  rw [BitVec.ofInt_natCast, BitVec.toNat_ofNat]; exact Nat.mod_eq_of_lt (by omega)
 have h2 : (BitVec.ofInt 8 (b : Int)).toNat = b := by
  rw [BitVec.ofInt_natCast, BitVec.toNat_ofNat]; exact Nat.mod_eq_of_lt (by omega)
 show IntKind.u8.wrap ((BitVec.ofInt 8 (a : Int) ^^^ BitVec.ofInt 8 (b : Int)).toNat : Int) = _
 rw [BitVec.toNat_xor, h1, h2, u8_wrap]
 omega
theorem u8_pow {r : Nat} (hr : r < 8) : IntKind.u8.wrap ((2 : Int) ^ r) = ((2 ^ r : Nat) : Int) := by
 have h : 2 ^ r < 2 ^ 8 := Nat.pow_lt_pow_right (by decide) hr
 rw [u8_wrap, show ((2 : Int) ^ r) = ((2 ^ r : Nat) : Int) by push_cast; rfl]
 generalize 2 ^ r = z at h
 omega
theorem xor_ne {r c : Nat} (hr : r < 8) : c ≠ c ^^^ 2 ^ r := fun h => by
 have h1 : c ^^^ 0 = c ^^^ 2 ^ r := by rw [Nat.xor_zero]; exact h
 have h2 := xor_right_inj h1
 have h3 : 0 < 2 ^ r := Nat.pow_pos (by decide)
 omega
theorem Rd.set8 {w : World} {B g i : Nat} {f : BL} {u : Value} (h : Rd w B (some ⟨g, 0, none⟩) (u8s f)) (hi : i < f.length) (hc : w.cell? ⟨g, i, none⟩ = some u) (d : UInt8) : Rd (w.setCell ⟨g, i, none⟩ (.int .u8 (d.toNat : Int))) B (some ⟨g, 0, none⟩) (u8s (f.set i d)) := fun _ => by
 obtain ⟨b, off, e, hb, hcc⟩ := h.at_ (k := i) (by rw [u8s_len]; exact hi)
 injection e with e
 injection e with e1 e2
 subst e1 e2
 refine ⟨g, 0, rfl, hb, fun j v hv => ?_⟩
 rw [Nat.zero_add]
 unfold u8s at hv
 rw [List.getElem?_map, Option.map_eq_some_iff] at hv
 obtain ⟨c, hv1, rfl⟩ := hv
 by_cases hj : j = i
 ·subst hj
  rw [List.getElem?_set_self hi] at hv1
  injection hv1 with hv1
  subst hv1
  exact World.cell?_setCell_same _ _ _ hc
 ·rw [List.getElem?_set_ne (Ne.symm hj)] at hv1
  rw [World.cell?_setCell_other _ _ _ _ (fun e => hj (by injection e with _ e; first | exact e | exact e.symm))]
  have h9 := hcc j (.int .u8 (c.toNat : Int)) (by unfold u8s; rw [List.getElem?_map, hv1]; rfl)
  rwa [Nat.zero_add] at h9
theorem nst_way {y w' : World} {L W E Y U T P1 P2 n Q1 Q2 a b1 ep m B : Nat} {tag tag' : Nat → Option (Nat × Nat)} {ways puts gots : List (List BL)} {s t : LE} {ws wt ps pt gs gt fs : List BL} (h : NetM w' L W E Y U T P1 P2 tag' (ways.set b1 (goesF (ways.getD b1 []) fs)) puts gots false) (hm : ModN L y w') (hN : NetM y L W E Y U T P1 P2 tag ways puts gots false) (hT : Two y L B n Q1 Q2 s t) (hB : B ≤ y.heap.size) (hE1 : y.cell? ⟨E, a, none⟩ = some (.pointer (some ⟨Q1, 0, none⟩))) (hE2 : y.cell? ⟨E, 1 - a, none⟩ = some (.pointer (some ⟨Q2, 0, none⟩)))
  (ha : a < 2) (hb : 1 - a = b1) (hW : ways[a]? = some ws ∧ ways[1 - a]? = some wt) (hP : puts[a]? = some ps ∧ puts[1 - a]? = some pt) (hG : gots[a]? = some gs ∧ gots[1 - a]? = some gt) (hD : NDir ep s t ws (goesF wt fs) ps pt gs gt (m + 1)) : NSt w' L W P1 P2 a Q1 Q2 ep (m + 1) (n + 1) := by
 subst hb
 have hgd : ways.getD (1 - a) [] = wt := by rw [List.getD_eq_getElem?_getD, hW.2]; rfl
 rw [hgd] at h
 have hbl : 1 - a < ways.length := (List.getElem?_eq_some_iff.1 hW.2).1
 exact ⟨E, Y, U, T, tag', B, _, puts, gots, s, t, ws, _, ps, pt, gs, gt, h, (hT.modn hm).mono (Nat.le_refl _) (Nat.le_succ _), Nat.le_trans hB hm.size, (h.ptr hN a).trans hE1, (h.ptr hN (1 - a)).trans hE2, ⟨by rw [List.getElem?_set_ne (by omega)]; exact hW.1, List.getElem?_set_self hbl⟩, hP, hG, hD⟩
theorem nst_way1 {y w' : World} {L W E Y U T P1 P2 n Q1 Q2 a ep m B : Nat} {tag tag' : Nat → Option (Nat × Nat)} {ways puts gots : List (List BL)} {s t : LE} {ws wt ps pt gs gt fs : List BL} (h : NetM w' L W E Y U T P1 P2 tag' (ways.set a (goesF (ways.getD a []) fs)) puts gots false) (hm : ModN L y w') (hN : NetM y L W E Y U T P1 P2 tag ways puts gots false) (hT : Two y L B n Q1 Q2 s t) (hB : B ≤ y.heap.size) (hE1 : y.cell? ⟨E, a, none⟩ = some (.pointer (some ⟨Q1, 0, none⟩))) (hE2 : y.cell? ⟨E, 1 - a, none⟩ = some (.pointer (some ⟨Q2, 0, none⟩)))
  (ha : a < 2) (hW : ways[a]? = some ws ∧ ways[1 - a]? = some wt) (hP : puts[a]? = some ps ∧ puts[1 - a]? = some pt) (hG : gots[a]? = some gs ∧ gots[1 - a]? = some gt) (hD : NDir ep s t (goesF ws fs) wt ps pt gs gt (m + 1)) : NSt w' L W P1 P2 a Q1 Q2 ep (m + 1) (n + 1) := by
 have hgd : ways.getD a [] = ws := by rw [List.getD_eq_getElem?_getD, hW.1]; rfl
 rw [hgd] at h
 have hbl : a < ways.length := (List.getElem?_eq_some_iff.1 hW.1).1
 exact ⟨E, Y, U, T, tag', B, _, puts, gots, s, t, _, wt, ps, pt, gs, gt, h, (hT.modn hm).mono (Nat.le_refl _) (Nat.le_succ _), Nat.le_trans hB hm.size, (h.ptr hN a).trans hE1, (h.ptr hN (1 - a)).trans hE2, ⟨List.getElem?_set_self hbl, by rw [List.getElem?_set_ne (by omega)]; exact hW.2⟩, hP, hG, hD⟩
theorem strs_one (xs : List BL) : ∀ u ∈ strs xs, u.oneCell' = true := fun u hu => by
 unfold strs at hu
 obtain ⟨b, _, rfl⟩ := List.mem_map.1 hu
 rfl
end Go.Proofs.Ytigmmikijjcdiaa
