/- Lemmas: Pwl, Pwh, Pkp, Pcw. -/
import Derived.Test.YtihdpfjonkagaaaProg
import Derived.Deep.Strs
import Derived.Deep.DeepCutAuto
import Derived.Lib.Hide
import Derived.WalkSpells
import Derived.WalkMore
import Derived.IntWalk
import Derived.Test.YtihdpfjonkagaaaPkWw19
set_option linter.unusedVariables false
set_option linter.unusedSimpArgs false
set_option maxRecDepth 100000
set_option maxHeartbeats 16000000
namespace Go.Proofs.Ytihdpfjonkagaaa
open Go.RowKit
theorem cnt_nd {β : Type} (f : β → Int) (es : List β) : ∀ (l : List Int), l.Nodup → (l.flatMap fun v => es.filter fun e => f e == v).length = (es.filter fun e => decide (f e ∈ l)).length
 | [], _ => by
  rw [show (es.filter fun e => decide (f e ∈ ([] : List Int))) = [] from List.filter_eq_nil_iff.2 (by simp)]
  rfl
 | a :: l, h => by
  have ih := cnt_nd f es l (List.nodup_cons.1 h).2
  have hn := (List.nodup_cons.1 h).1
  rw [List.flatMap_cons, List.length_append, ih]
  clear ih
  induction es with
  | nil => rfl
  | cons e es ih =>
   by_cases h1 : f e = a
   ·have h2 : f e ∉ l := by rw [h1]; exact hn
    simp [h1, hn] at ih ⊢
    omega
   ·by_cases h2 : f e ∈ l
    ·simp [h1, h2] at ih ⊢
     omega
    ·simp [h1, h2] at ih ⊢
     omega
def cuts (V : Int) (es : List Ed) (k : Nat) : List PartV := (List.range k).map fun (w : Nat) => partF V es k w
theorem cuts_len (V : Int) (es : List Ed) (k : Nat) : (cuts V es k).length = k := by simp [cuts]
theorem cuts_get {V : Int} {es : List Ed} {k w : Nat} (h : w < k) : (cuts V es k)[w]? = some (partF V es k w) := by
 unfold cuts
 rw [List.getElem?_map, List.getElem?_range h]
 rfl
section
variable {V : Int} {es : List Ed} {k : Nat}
theorem cut_ok (h : checkF V es = 0) (hk : k ≤ 64) {w : Nat} (hw : w < k) : cutErr V es k w = 0 := by
 unfold cutErr
 rw [if_neg (by simp [h]), if_neg (by omega)]
theorem cut_is (h : checkF V es = 0) (hk : k ≤ 64) {w : Nat} (hw : w < k) : partF V es k w = ⟨w, k, V, ownedF V k w, (ownedF V k w).map (fromF es), (ownedF V k w).map (toF es)⟩ := by
 unfold partF
 rw [if_pos (cut_ok h hk hw)]
theorem whole_ok (h : checkF V es = 0) (hk : k ≤ 64) : okG V es (cuts V es k) := fun w p hp => by
 have hw := (List.getElem?_eq_some_iff.1 hp).1
 rw [cuts_len] at hw ⊢
 rw [cuts_get hw] at hp
 injection hp with hp
 exact ⟨cut_ok h hk hw, hp.symm⟩
theorem ok_rise (h : okFrom V es 0 = true) : ∀ (j i : Nat) {x y : Ed}, i < j → es[i]? = some x → es[j]? = some y → x.1 ≤ y.1
 | 0, i, x, y, hi, _, _ => by omega
 | j + 1, i, x, y, hi, hx, hy => by
  have hl := (List.getElem?_eq_some_iff.1 hy).1
  obtain ⟨z, hz⟩ : ∃ z, es[j]? = some z := ⟨_, List.getElem?_eq_getElem (by omega)⟩
  unfold okFrom at h
  have h1 := List.all_eq_true.1 h (j + 1) (by rw [List.mem_range]; omega)
  rw [Nat.zero_add] at h1
  unfold okAt at h1
  rw [hy] at h1
  dsimp only at h1
  rw [if_neg (by omega), Nat.add_sub_cancel, hz] at h1
  simp only [Bool.and_eq_true, decide_eq_true_eq] at h1
  have h2 := h1.2
  have h3 : z.1 ≤ y.1 := by
   unfold orderOf orOf cmpOf at h2
   by_cases c1 : z.1 < y.1
   ·omega
   ·by_cases c2 : y.1 < z.1
    ·rw [if_neg c1, if_pos c2] at h2
     simp at h2
    ·omega
  by_cases hij : i = j
  ·subst hij
   rw [hx] at hz
   injection hz with hz
   rw [hz]
   exact h3
  ·exact Int.le_trans (ok_rise h j i (by omega) hx hz) h3
theorem es_sorted (h : checkF V es = 0) : es.Pairwise (fun x y => x.1 ≤ y.1) := by
 rw [List.pairwise_iff_getElem]
 intro i j hi hj hij
 exact ok_rise (checkF_ok h).2.2.2 j i hij (List.getElem?_eq_getElem hi) (List.getElem?_eq_getElem hj)
theorem whole_flat (h : checkF V es = 0) (hk1 : 1 ≤ k) (hk : k ≤ 64) : (List.range V.toNat).flatMap (fun (v : Nat) => fromF es (v : Int)) = es := by
 refine uniq_sorted (fun e : Ed => e.1) _ _ (flat_sorted es _) (es_sorted h) fun c => ?_
 rw [flat_filt (ps := cuts V es k) (whole_ok h hk) (by rw [cuts_len]; exact hk1)]
 rfl
theorem whole_d (h : checkF V es = 0) (hk1 : 1 ≤ k) (hk : k ≤ 64) {d : List Ed} (hs : StS ltE (fun e : Ed => e.1) (allOut (cuts V es k)).length (allOut (cuts V es k)) d) : d = es := by
 rw [sort_flat (by rw [cuts_len]; exact ⟨hk1, hk⟩) hs (whole_ok h hk), whole_flat h hk1 hk]
theorem whole_vs (h : checkF V es = 0) (hk1 : 1 ≤ k) (hk : k ≤ 64) : vsOf (cuts V es k) = V := by
 unfold vsOf
 rw [List.getD_eq_getElem?_getD, cuts_get hk1, cut_is h hk hk1]
 rfl
def ownUp (V : Int) (k w : Nat) : List Int := (List.range w).flatMap fun (j : Nat) => ownedF V k j
theorem ownUp_succ (V : Int) (k w : Nat) : ownUp V k (w + 1) = ownUp V k w ++ ownedF V k w := by
 unfold ownUp
 rw [List.range_succ, List.flatMap_append]
 simp
theorem ownUp_nodup (hV : 1 ≤ V ∧ V ≤ 512) (w : Nat) : (ownUp V k w).Nodup := by
 unfold ownUp
 show List.Pairwise (· ≠ ·) _
 rw [List.pairwise_flatMap]
 refine ⟨fun j _ => owned_nodup _ _ _, List.pairwise_lt_range.imp fun {a b} hab x hx y hy e => ?_⟩
 have h1 := ((mem_own hV (by omega)).1 hx).2.2
 have h2 := ((mem_own hV (by omega)).1 hy).2.2
 rw [e] at h1
 omega
theorem ownUp_take (hV : 1 ≤ V ∧ V ≤ 512) (w i : Nat) : (ownUp V k w ++ (ownedF V k w).take i).Nodup := by
 have h := ownUp_nodup (k := k) hV (w + 1)
 rw [ownUp_succ] at h
 exact ((List.Sublist.refl _).append (List.take_sublist _ _)).nodup h
theorem ownUp_len (V : Int) (k : Nat) : ∀ w : Nat, (ownUp V k w).length ≤ w * 512
 | 0 => by simp [ownUp]
 | w + 1 => by
  have h := ownUp_len V k w
  have h2 := owned_le V k w
  rw [ownUp_succ, List.length_append]
  omega
theorem ownUp_mem (hV : 1 ≤ V ∧ V ≤ 512) (hk1 : 1 ≤ k) (hk : k ≤ 64) (c : Int) : c ∈ ownUp V k k ↔ 0 ≤ c ∧ c < V := by
 unfold ownUp
 rw [List.mem_flatMap]
 constructor
 ·rintro ⟨j, _, hc⟩
  have := (mem_own hV (by omega)).1 hc
  omega
 ·intro hc
  obtain ⟨a, b⟩ := ofF_ok c k hc.1 (by omega) (by omega) (by omega)
  exact ⟨(ofF c k).toNat, by rw [List.mem_range]; omega, (mem_own hV (by omega)).2 ⟨hc.1, hc.2, by omega⟩⟩
theorem whole_own (hV : 1 ≤ V ∧ V ≤ 512) (hk1 : 1 ≤ k) (hk : k ≤ 64) : ((ownUp V k k).length : Int) = V := by
 have hp : (ownUp V k k).Perm ((List.range V.toNat).map fun (j : Nat) => (j : Int)) := by
  rw [List.perm_ext_iff_of_nodup (ownUp_nodup hV k) ((List.pairwise_map).2 (List.nodup_range.imp (fun h e => h (by omega))))]
  intro c
  rw [ownUp_mem hV hk1 hk, List.mem_map]
  constructor
  ·intro hc
   exact ⟨c.toNat, by rw [List.mem_range]; omega, by omega⟩
  ·rintro ⟨j, hj, rfl⟩
   rw [List.mem_range] at hj
   omega
 rw [hp.length_eq, List.length_map, List.length_range]
 omega
def cntE (f : Ed → Int) (es : List Ed) (l : List Int) : Nat := (l.flatMap fun v => es.filter fun e => f e == v).length
theorem cntE_le (f : Ed → Int) (es : List Ed) {l : List Int} (h : l.Nodup) : cntE f es l ≤ es.length := by
 unfold cntE
 rw [cnt_nd f es l h]
 exact List.length_filter_le _ _
theorem cntE_all (f : Ed → Int) (es : List Ed) {l : List Int} (h : l.Nodup) (hm : ∀ e ∈ es, f e ∈ l) : cntE f es l = es.length := by
 unfold cntE
 rw [cnt_nd f es l h, List.filter_eq_self.2 (fun e he => by simpa using hm e he)]
theorem cntE_snoc (f : Ed → Int) (es : List Ed) (l : List Int) (v : Int) : cntE f es (l ++ [v]) = cntE f es l + (es.filter fun e => f e == v).length := by
 unfold cntE
 rw [List.flatMap_append, List.length_append]
 simp
theorem whole_from (h : checkF V es = 0) (hk1 : 1 ≤ k) (hk : k ≤ 64) : cntE (fun e : Ed => e.1) es (ownUp V k k) = es.length := by
 obtain ⟨h1, h2, _, h4⟩ := checkF_ok h
 exact cntE_all _ _ (ownUp_nodup ⟨h1, h2⟩ k) fun e he => (ownUp_mem ⟨h1, h2⟩ hk1 hk _).2 (by have := okFrom_all h4 he; omega)
theorem whole_to (h : checkF V es = 0) (hk1 : 1 ≤ k) (hk : k ≤ 64) : cntE (fun e : Ed => e.2.1) es (ownUp V k k) = es.length := by
 obtain ⟨h1, h2, _, h4⟩ := checkF_ok h
 exact cntE_all _ _ (ownUp_nodup ⟨h1, h2⟩ k) fun e he => (ownUp_mem ⟨h1, h2⟩ hk1 hk _).2 (by have := okFrom_all h4 he; omega)
theorem cuts_all (h : checkF V es = 0) (hk1 : 1 ≤ k) (hk : k ≤ 64) : (allOut (cuts V es k)).length = es.length := by
 obtain ⟨h1, h2, _, h4⟩ := checkF_ok h
 have e1 : allOut (cuts V es k) = (ownUp V k k).flatMap (fromF es) := by
  unfold allOut cuts ownUp
  rw [List.flatMap_map, List.flatMap_assoc]
  apply fm_congr
  intro w hw
  rw [List.mem_range] at hw
  rw [cut_is h hk hw]
  dsimp only
  rw [← List.flatMap_def]
 rw [e1]
 exact whole_from h hk1 hk
end
theorem idx_go {xs : List Int} (hn : xs.Nodup) {j : Nat} {x : Int} (hj : xs[j]? = some x) : ∀ (d i : Nat), i + d = j → idxAt xs x i = (j : Int)
 | 0, i, h => by
  obtain rfl : i = j := by omega
  obtain ⟨h1, h2⟩ := List.getElem?_eq_some_iff.1 hj
  exact idx_hit h1 h2.symm
 | d + 1, i, h => by
  obtain ⟨h1, h2⟩ := List.getElem?_eq_some_iff.1 hj
  rw [idx_miss (show i < xs.length by omega) (fun e => by
   have hp := (List.pairwise_iff_getElem.1 hn) i j (by omega) h1 (by omega)
   exact hp (by rw [h2]; exact e.symm))]
  exact idx_go hn hj d (i + 1) (by omega)
theorem idx_at {xs : List Int} (hn : xs.Nodup) {j : Nat} {x : Int} (hj : xs[j]? = some x) : idxF xs x = (j : Int) := idx_go hn hj j 0 (by omega)
end Go.Proofs.Ytihdpfjonkagaaa
namespace Go.Proofs.Ytihdpfjonkagaaa
open Go.RowKit
theorem int_ne_pt : 3 ≠ 34 := by decide
theorem row_ne_pt : 28 ≠ 34 := by decide
theorem edge_ne_pt : 44 ≠ 34 := by decide
def PtOwn (w : World) (b : Nat) (cs : List Value) (p : PartV) : Prop := ∃ (Ao Au Ab : Option Addr) (no nu nb co cu cb : Nat) (hu hb : List Value), cs = [.int .i64 p.wk, .int .i64 p.ws, .int .i64 p.vs, .slice Ao no co, .slice Au nu cu, .slice Ab nb cb] ∧ PLen p no nu nb ∧
 w.ownsRow b 3 1 (.slice Ao no co) no (p.own.map (Value.int .i64)) ∧ ORows w b Au cu hu p.out ∧ ORows w b Ab cb hb p.back ∧ (no ≤ 9223372036854775807 ∧ nu ≤ 9223372036854775807 ∧ nb ≤ 9223372036854775807)
theorem PtOwn.below {w w' : World} {b : Nat} {cs : List Value} {p : PartV} (h : PtOwn w b cs p) (hb : Below w.heap.size w w') : PtOwn w' b cs p := by
 obtain ⟨Ao, Au, Ab, no, nu, nb, co, cu, cb, hu, hb2, h1, h2, h3, h4, h5, h6⟩ := h
 exact ⟨Ao, Au, Ab, no, nu, nb, co, cu, cb, hu, hb2, h1, h2, own_all h3 hb (Nat.le_refl _), h4.below hb (Nat.le_refl _), h5.below hb (Nat.le_refl _), h6⟩
theorem PtOwn.grown {w w' : World} {b b2 n : Nat} {cs : List Value} {p : PartV} {v : Value} {xs : List Value} (h : PtOwn w b cs p) (hv : w.ownsRow b2 34 6 v n xs) (hg : w.grownBy w' v.ownBlock) : PtOwn w' b cs p := by
 obtain ⟨Ao, Au, Ab, no, nu, nb, co, cu, cb, hu, hb2, h1, h2, h3, h4, h5, h6⟩ := h
 exact ⟨Ao, Au, Ab, no, nu, nb, co, cu, cb, hu, hb2, h1, h2, h3.kept hg (own_apart h3 hv int_ne_pt), h4.lift (h4.own.kept hg (own_apart h4.own hv row_ne_pt)) (fun u n xs hu => hu.kept hg (own_apart hu hv edge_ne_pt)), h5.lift (h5.own.kept hg (own_apart h5.own hv row_ne_pt)) (fun u n xs hu => hu.kept hg (own_apart hu hv edge_ne_pt)), h6⟩
theorem PtOwn.pin {w : World} {b : Nat} {p : PartV} {Ao Au Ab : Option Addr} {no nu nb co cu cb : Nat} (h : PtOwn w b [.int .i64 p.wk, .int .i64 p.ws, .int .i64 p.vs, .slice Ao no co, .slice Au nu cu, .slice Ab nb cb] p) : PIn w p Ao Au Ab := by
 obtain ⟨Ao', Au', Ab', no', nu', nb', co', cu', cb', hu, hb2, h1, h2, h3, h4, h5, h6⟩ := h
 simp only [List.cons.injEq, Value.slice.injEq, true_and, and_true] at h1
 obtain ⟨⟨rfl, rfl, rfl⟩, ⟨rfl, rfl, rfl⟩, ⟨rfl, rfl, rfl⟩⟩ := h1
 exact ⟨Rd.of_own h3, h4.erows, h5.erows⟩
theorem PtOwn.val {w : World} {b : Nat} {cs : List Value} {p : PartV} (h : PtOwn w b cs p) : PtVal w cs p := by
 obtain ⟨Ao, Au, Ab, no, nu, nb, co, cu, cb, hu, hb2, h1, h2, h3, h4, h5, h6⟩ := h
 exact ⟨Ao, Au, Ab, no, nu, nb, co, cu, cb, h1, h2, ⟨Rd.of_own h3, h4.erows, h5.erows⟩, h6⟩
def MWr (b : Nat) (w : World) (xs : List Value) (ps : List PartV) (n : Nat) : Prop := ∀ (q : Nat) (p : PartV), q < n → ps[q]? = some p → ∃ cs : List Value, cs.length = 6 ∧ PtOwn w b cs p ∧ ∀ j u, cs[j]? = some u → xs[q * 6 + j]? = some u
def MW (b : Nat) (w : World) (ps : List PartV) (A : Option Addr) (n c : Nat) : Prop := ∃ xs, w.ownsRow b 34 6 (.slice A n c) n xs ∧ MWr b w xs ps n
section
variable {b : Nat} {w w' : World} {ps : List PartV} {A : Option Addr} {n c : Nat}
theorem MW.zero (b : Nat) (w : World) (ps : List PartV) : MW b w ps none 0 0 := ⟨[], World.ownsRow_nil _ _ _ _, fun q p h => absurd h (by omega)⟩
theorem MW.below (h : MW b w ps A n c) (hb : Below w.heap.size w w') : MW b w' ps A n c := by
 obtain ⟨xs, ho, hm⟩ := h
 exact ⟨xs, own_all ho hb (Nat.le_refl _), fun q p hq hp => by obtain ⟨cs, a1, a2, a3⟩ := hm q p hq hp; exact ⟨cs, a1, a2.below hb, a3⟩⟩
theorem MWr.app {xs : List Value} (hm : MWr b w xs ps n) (ho : w.ownsRow b 34 6 (.slice A n c) n xs) {p : PartV} (hp : ps[n]? = some p) {cs : List Value} (hl : cs.length = 6) (hv : PtOwn w b cs p) {A' : Option Addr} {c' : Nat} (own : w'.ownsRow b 34 6 (.slice A' (n + 1) c') (n + 1) (xs ++ cs)) (hg : w.grownBy w' (Value.slice A n c).ownBlock) : MW b w' ps A' (n + 1) c' := by
 refine ⟨_, own, fun q p' hq hp' => ?_⟩
 have hx := ho.1
 rcases Nat.lt_or_ge q n with h1 | h1
 ·obtain ⟨cs', a1, a2, a3⟩ := hm q p' h1 hp'
  refine ⟨cs', a1, a2.grown ho hg, fun j u hu => ?_⟩
  have h2 := (List.getElem?_eq_some_iff.1 hu).1
  rw [List.getElem?_append_left (by omega)]
  exact a3 j u hu
 ·obtain rfl : q = n := by omega
  rw [hp] at hp'
  obtain rfl := Option.some.inj hp'
  refine ⟨cs, hl, hv.grown ho hg, fun j u hu => ?_⟩
  rw [List.getElem?_append_right (by omega), hx, show q * 6 + j - q * 6 = j by omega]
  exact hu
theorem MW.row (h : MW b w ps A ps.length c) : PtRow w A ps := fun hn => by
 obtain ⟨xs, ho, hm⟩ := h
 have hpos : 0 < ps.length := List.length_pos_iff.2 hn
 obtain ⟨g, rfl, _, hlt, _⟩ := own_addr ho hpos
 refine ⟨g, 0, rfl, hlt, fun i x hx => ?_⟩
 obtain ⟨cs, hl, hv, hc⟩ := hm i x (List.getElem?_eq_some_iff.1 hx).1 hx
 refine ⟨cs, hl, hv.val, fun j u hu => ?_⟩
 have h1 := hc j u hu
 have h2 := (List.getElem?_eq_some_iff.1 h1).1
 have h3 := ho.1
 rw [Nat.zero_add, ho.cellAt (i * 6 + j) (by omega)]
 exact h1
end
theorem part_own {w w' : World} {P : PartV} {code : Int} {e : Ending} {B : Nat} (hB : B ≤ w.heap.size) (h : PartPost w P code e w') : ∃ (Ao Au Ab : Option Addr) (no nu nb co cu cb : Nat), e = .returned (.tuple #[.agg #[.int .i64 P.wk, .int .i64 P.ws, .int .i64 P.vs, .slice Ao no co, .slice Au nu cu, .slice Ab nb cb], .int .i64 code]) ∧ (no ≤ 512 ∧ nu ≤ 512 ∧ nb ≤ 512) ∧ PLen P no nu nb ∧
  PtOwn w' B [.int .i64 P.wk, .int .i64 P.ws, .int .i64 P.vs, .slice Ao no co, .slice Au nu cu, .slice Ab nb cb] P ∧ PIn w' P Ao Au Ab ∧ Below w.heap.size w w' := by
 obtain ⟨m, mu, mb, Ao, co, Au, cu, hu, Ab, cb, hb, h1, h2, h3, h4, h5, h6, h7, h8, h9, h10, h11⟩ := h
 exact ⟨Ao, Au, Ab, m, mu, mb, co, cu, cb, h7, ⟨h4, h5, h6⟩, ⟨h1, h2, h3⟩, ⟨Ao, Au, Ab, m, mu, mb, co, cu, cb, hu, hb, rfl, ⟨h1, h2, h3⟩, own_base h8 hB, h9.lower hB, h10.lower hB, ⟨by omega, by omega, by omega⟩⟩, ⟨Rd.of_own h8, h9.erows, h10.erows⟩, h11⟩
theorem whole_post {w w' : World} {V : Int} {es : List Ed} {k : Nat} {e : Ending} (h : checkF V es = 0) (hk1 : 1 ≤ k) (hk : k ≤ 64) (hp : PJPost w (cuts V es k) e w') : goodG V es e w' ∧ Below w.heap.size w w' := by
 obtain ⟨hb, hp⟩ := hp
 refine ⟨?_, hb⟩
 have hl := cuts_len V es k
 have hv := whole_vs h hk1 hk
 rcases hp with ⟨h1, _⟩ | ⟨_, d, hs, h2⟩
 ·exact absurd ⟨by omega, by omega⟩ h1
 ·have hd := whole_d h hk1 hk hs
  subst hd
  rw [hv] at h2
  rcases h2 with ⟨_, hg⟩ | ⟨ho, _⟩
  ·exact hg
  ·exact absurd (whole_ok h hk) ho
theorem nat_rem (n : Nat) (h : n ≤ 255) : IntKind.i64.wrap (Int.tmod (n : Int) 64) = ((n % 64 : Nat) : Int) := by
 rw [Int.tmod_eq_emod_of_nonneg (by omega)]
 exact IntWalk.i64_in _ (by omega)
theorem partsWhole_main (w : World) (V : Int) (A : Option Addr) (es : List Ed) (c : Nat) (hV1 : -9223372036854775808 ≤ V) (hV2 : V ≤ 9223372036854775807) (hE : Eds w w.heap.size A es) (hc1 : es.length ≤ c) (hc2 : c ≤ 9223372036854775807) (n : Nat) (hn : n ≤ 255) :
  Calls Try.prog 6 #[.agg #[.int .i64 V, .slice A es.length c], .int .u8 (n : Int)] w fun e W' => e = .returned (.bool true) ∧ Below w.heap.size w W' := by
 obtain ⟨L, hL⟩ : ∃ L, es.length = L := ⟨_, rfl⟩
 rw [hL] at hc1 ⊢
 have HL := hide hL
 obtain ⟨u, hu⟩ : ∃ u, w.alloc (.cells #[.int .i64 V, .slice A L c] 30) = u := ⟨_, rfl⟩
 have hzl : w.heap.size < u.heap.size := by rw [← hu]; simp
 have HB := hide (show Below w.heap.size w u by rw [← hu]; exact (Below.refl _ _).alloc (Nat.le_refl _) _)
 have M0 := hide (show u.heap[w.heap.size]? = some (.cells #[.int .i64 V, .slice A L c] 30) by rw [← hu]; exact heap_alloc_last _ _)
 have HE := hide (Eds.next hE HB.out)
 have HU := hide hu
 have x0 : u.cell? ⟨w.heap.size, 0, none⟩ = some (.int .i64 V) := cell_of_row _ _ 0 _ _ _ M0.out
 have x1 : u.cell? ⟨w.heap.size, 1, none⟩ = some (.slice A L c) := cell_of_row _ _ 1 _ _ _ M0.out
 clear hu hE hL
 by_cases hlight : (L : Int) ≤ 200
 rotate_left
 ·have HLi := hide (show decide ((L : Int) ≤ 200) = false from decide_eq_false hlight)
  clear hlight
  go_enter Try.func6, Try.ntmps6
  go_upto_region 1 with fail
  rw [HU.out]
  go_wp2_with fail
  refine (light_any _ V A L c 200).mono ?_
  rintro e y1 ⟨rfl, b1⟩
  rw [show decide ((L : Int) ≤ 200) = false from HLi.out]
  have B1 := hide b1
  have hy1 : u.heap.size ≤ y1.heap.size := b1.size
  clear b1
  go_wp2_with fail
  refine (works_any _).mono ?_
  rintro e wk ⟨rfl, hb⟩
  have HF := hide (HB.out.trans ((B1.out.trans (hb.mono hy1)).mono (by omega)))
  clear hb
  go_wp2
  go_ret
  exact ⟨rfl, HF.out⟩
 have HLi := hide (show decide ((L : Int) ≤ 200) = true from decide_eq_true hlight)
 have hL200 : L ≤ 200 := by omega
 clear hlight
 obtain ⟨ck, hck⟩ : ∃ q, checkF V es = q := ⟨_, rfl⟩
 have HCk := hide hck
 clear hck
 by_cases hck0 : ck = 0
 rotate_left
 ·have hckb : (ck != 0) = true := by simpa using hck0
  have hckc : (ck == 0) = false := by simpa using hck0
  clear hck0
  go_enter Try.func6, Try.ntmps6
  go_upto_region 1 with fail
  rw [HU.out]
  go_wp2_with fail
  refine (light_any _ V A L c 200).mono ?_
  rintro e y1 ⟨rfl, b1⟩
  rw [show decide ((L : Int) ≤ 200) = true from HLi.out]
  have B1 := hide b1
  have hy1 : u.heap.size ≤ y1.heap.size := b1.size
  clear b1
  have z0 : y1.cell? ⟨w.heap.size, 0, none⟩ = some (.int .i64 V) := (B1.out.cell (p := ⟨w.heap.size, 0, none⟩) hzl).trans x0
  have z1 : y1.cell? ⟨w.heap.size, 1, none⟩ = some (.slice A L c) := (B1.out.cell (p := ⟨w.heap.size, 1, none⟩) hzl).trans x1
  have hzy : w.heap.size < y1.heap.size := by omega
  go_wp2_with fail
  refine (rcheck_any _ V A es L c HL.out (Eds.next HE.out B1.out) (by omega)).mono ?_
  rintro e y2 ⟨rfl, b2⟩
  rw [HCk.out]
  have B2 := hide (B1.out.trans (b2.mono hy1))
  have hy2 : u.heap.size ≤ y2.heap.size := Nat.le_trans hy1 b2.size
  clear b2 z0 z1 hzy
  go_wp2_with fail
  refine (works_any _).mono ?_
  rintro e wk ⟨rfl, hb⟩
  have HF := hide (HB.out.trans ((B2.out.trans (hb.mono hy2)).mono (by omega)))
  clear hb
  go_wp2
  go_ret
  exact ⟨rfl, HF.out⟩
 subst hck0
 obtain ⟨k, hk⟩ : ∃ k, 1 + n % 64 = k := ⟨_, rfl⟩
 have hk1 : 1 ≤ k := by omega
 have hk6 : k ≤ 64 := by omega
 have hk0 : n % 64 + 1 = k := by omega
 have hn5 : n ≤ 255 := hn
 have k1 := nat_rem n hn5
 obtain ⟨r, hr⟩ : ∃ r, n % 64 = r := ⟨_, rfl⟩
 rw [hr] at k1
 have k2 : (1 : Int) + (r : Int) = (k : Int) := by omega
 have k3 : IntKind.i64.wrap (k : Int) = (k : Int) := IntWalk.i64_in _ (by omega)
 have k0 : IntKind.i64.wrap (n : Int) = (n : Int) := IntWalk.i64_in _ (by omega)
 have k5 : Int.tmod (n : Int) 64 = (r : Int) := by rw [Int.tmod_eq_emod_of_nonneg (by omega)]; omega
 obtain ⟨hV1, hV5, -, -⟩ := checkF_ok HCk.out
 have HVV := hide (show 1 ≤ V ∧ V ≤ 512 from ⟨hV1, hV5⟩)
 clear hk hk0 hr
 obtain ⟨a1, a1i, a1z, a1s, a1b⟩ := info_parts (show (Try.prog.info? 34).map (fun i => (i.zero, i.size, i.bytes)) = some (some (.agg #[.int .i64 0, .int .i64 0, .int .i64 0, .slice none 0 0, .slice none 0 0, .slice none 0 0]), 6, 96) by kernel_rfl)
 go_enter Try.func6, Try.ntmps6
 go_upto_region 1 with fail
 rw [HU.out]
 go_wp2_with fail
 refine (light_any _ V A L c 200).mono ?_
 rintro e y1 ⟨rfl, b1⟩
 rw [show decide ((L : Int) ≤ 200) = true from HLi.out]
 have B1 := hide b1
 have hy1 : u.heap.size ≤ y1.heap.size := b1.size
 clear b1
 have z0 : y1.cell? ⟨w.heap.size, 0, none⟩ = some (.int .i64 V) := (B1.out.cell (p := ⟨w.heap.size, 0, none⟩) hzl).trans x0
 have z1 : y1.cell? ⟨w.heap.size, 1, none⟩ = some (.slice A L c) := (B1.out.cell (p := ⟨w.heap.size, 1, none⟩) hzl).trans x1
 have hzy : w.heap.size < y1.heap.size := by omega
 go_wp2_with fail
 refine (rcheck_any _ V A es L c HL.out (Eds.next HE.out B1.out) (by omega)).mono ?_
 rintro e y2 ⟨rfl, b2⟩
 rw [HCk.out]
 have B2 := hide (B1.out.trans (b2.mono hy1))
 have hy2 : u.heap.size ≤ y2.heap.size := Nat.le_trans hy1 b2.size
 clear b2 z0 z1 hzy
 obtain ⟨v, rfl⟩ : ∃ z : World, z = y2 := ⟨_, rfl⟩
 clear x0 x1
 go_wp2
 go_loopw [10, 6, 7, 8, 9] (fun v10 v6 v7 v8 v9 wr => ∃ (q : Nat) (Am : Option Addr) (cm : Nat), q ≤ k ∧ v10 = .int .i64 (q : Int) ∧ v6 = .slice Am q cm ∧ v7 = .int .i64 ((ownUp V k q).length : Int) ∧ v8 = .int .i64 (cntE (fun e : Ed => e.1) es (ownUp V k q) : Int) ∧ v9 = .int .i64 (cntE (fun e : Ed => e.2.1) es (ownUp V k q) : Int) ∧ Hid (MW v.heap.size wr (cuts V es k) Am q cm) ∧ Hid (Below v.heap.size v wr)) (fun v10 _ _ _ _ _ => k - (intOf v10).toNat)
 case atStart => exact ⟨0, none, 0, by omega, rfl, rfl, rfl, rfl, rfl, hide (MW.zero _ _ _), hide (Below.refl _ _)⟩
 case round =>
  obtain ⟨q, Am, cm, hq, rfl, rfl, rfl, rfl, rfl, hM, hbr⟩ := hrel
  have hUb := ownUp_len V k q
  have hc1b := cntE_le (fun e : Ed => e.1) es (ownUp_nodup (k := k) HVV.out q)
  have hc2b := cntE_le (fun e : Ed => e.2.1) es (ownUp_nodup (k := k) HVV.out q)
  rw [HL.out] at hc1b hc2b
  obtain ⟨so, hso⟩ : ∃ s, (ownUp V k q).length = s := ⟨_, rfl⟩
  obtain ⟨s1, hs1⟩ : ∃ s, cntE (fun e : Ed => e.1) es (ownUp V k q) = s := ⟨_, rfl⟩
  obtain ⟨s2, hs2⟩ : ∃ s, cntE (fun e : Ed => e.2.1) es (ownUp V k q) = s := ⟨_, rfl⟩
  rw [hso] at hUb ⊢
  rw [hs1] at hc1b ⊢
  rw [hs2] at hc2b ⊢
  have HSo := hide hso
  have HS1 := hide hs1
  have HS2 := hide hs2
  clear hso hs1 hs2
  have svr : v.heap.size ≤ wr.heap.size := hbr.out.size
  have HBr := hide (B2.out.trans (hbr.out.mono hy2))
  have sur : u.heap.size ≤ wr.heap.size := by omega
  have MG : Hid (wr.heap[w.heap.size]? = some (.cells #[.int .i64 V, .slice A L c] 30)) := hide ((HBr.out.block _ hzl).trans M0.out)
  have g0 : wr.cell? ⟨w.heap.size, 0, none⟩ = some (.int .i64 V) := cell_of_row _ _ 0 _ _ _ MG.out
  have g1 : wr.cell? ⟨w.heap.size, 1, none⟩ = some (.slice A L c) := cell_of_row _ _ 1 _ _ _ MG.out
  have hgl : w.heap.size < wr.heap.size := by omega
  have HEr := hide (Eds.next HE.out HBr.out)
  by_cases hlt : q < k
  ·have hI1 : (q : Int) < (k : Int) := by omega
   go_upto_region 9 with fail
   go_wp2_with fail
   refine (pcut_any _ V A es L c (k : Int) (q : Int) HL.out HEr.out (by omega)).mono ?_
   rintro e z hz
   obtain ⟨Ao, Au, Ab, no, nu, nb, co, cu, cb, rfl, ⟨hno, hnu, hnb⟩, hlen, hpo, hpi, hz⟩ := part_own svr hz
   rw [cut_ok HCk.out hk6 hlt]
   have HPe : Hid ((partF V es (k : Int) (q : Int)).own = ownedF V k q ∧ (partF V es (k : Int) (q : Int)).out = (ownedF V k q).map (fromF es) ∧ (partF V es (k : Int) (q : Int)).back = (ownedF V k q).map (toF es)) := hide (by rw [cut_is HCk.out hk6 hlt]; exact ⟨rfl, rfl, rfl⟩)
   obtain ⟨p, hp⟩ : ∃ p, partF V es (k : Int) (q : Int) = p := ⟨_, rfl⟩
   have HCu : Hid ((cuts V es k)[q]? = some p) := hide (by rw [cuts_get hlt, hp])
   rw [hp] at hlen hpo hpi HPe ⊢
   have HLen := hide hlen
   have HPO := hide hpo
   have HPI := hide hpi
   have HBz := hide (hbr.out.trans (hz.mono svr))
   have szz : wr.heap.size ≤ z.heap.size := hz.size
   have HMz := hide (hM.out.below hz)
   clear hp hlen hpo hpi hz g0 g1 hM hbr
   obtain ⟨t, ht⟩ : ∃ x, z.alloc (.cells #[.int .i64 p.wk, .int .i64 p.ws, .int .i64 p.vs, .slice Ao no co, .slice Au nu cu, .slice Ab nb cb] 34) = x := ⟨_, rfl⟩
   have HT : Hid (t.heap[z.heap.size]? = some (.cells #[.int .i64 p.wk, .int .i64 p.ws, .int .i64 p.vs, .slice Ao no co, .slice Au nu cu, .slice Ab nb cb] 34)) := hide (by rw [← ht]; exact heap_alloc_last _ _)
   have HZt : Hid (Below z.heap.size z t) := hide (by rw [← ht]; exact (Below.refl _ _).alloc (Nat.le_refl _) _)
   have HTe := hide ht
   clear ht
   obtain ⟨T, hT⟩ : ∃ T, z.heap.size = T := ⟨_, rfl⟩
   have HTz := hide hT
   rw [hT] at HT
   clear hT
   go_upto_region 10 with fail
   rw [HTe.out, HTz.out]
   clear HTe
   have hTt : T < t.heap.size := (Array.getElem?_eq_some_iff.1 HT.out).1
   have c0 : t.cell? ⟨T, 0, none⟩ = some (.int .i64 p.wk) := cell_of_row _ _ 0 _ _ _ HT.out
   have c1 : t.cell? ⟨T, 1, none⟩ = some (.int .i64 p.ws) := cell_of_row _ _ 1 _ _ _ HT.out
   have c2 : t.cell? ⟨T, 2, none⟩ = some (.int .i64 p.vs) := cell_of_row _ _ 2 _ _ _ HT.out
   have c3 : t.cell? ⟨T, 3, none⟩ = some (.slice Ao no co) := cell_of_row _ _ 3 _ _ _ HT.out
   have c4 : t.cell? ⟨T, 4, none⟩ = some (.slice Au nu cu) := cell_of_row _ _ 4 _ _ _ HT.out
   have c5 : t.cell? ⟨T, 5, none⟩ = some (.slice Ab nb cb) := cell_of_row _ _ 5 _ _ _ HT.out
   have HPt := hide (HPO.out.below HZt.out)
   have HBt := hide (HBz.out.trans (HZt.out.mono (Nat.le_trans svr szz)))
   have svt : v.heap.size ≤ t.heap.size := HBt.out.size
   obtain ⟨xs, ho, hm⟩ := HMz.out
   have HOz := hide ho
   have HOw := hide (own_all ho HZt.out (Nat.le_refl _))
   have HMr : Hid (MWr v.heap.size t xs (cuts V es k) q) := hide (fun q p hq hp => by obtain ⟨cs, a1, a2, a3⟩ := hm q p hq hp; exact ⟨cs, a1, a2.below HZt.out, a3⟩)
   clear ho hm HMz
   go_wp2_with (at_builtin; refine wpList_app rfl (.tmp 43) (.tmp 45) 47 rfl v.heap.size 34 a1 (.agg #[.int .i64 0, .int .i64 0, .int .i64 0, .slice none 0 0, .slice none 0 0, .slice none 0 0]) 6 96 Try.underlying47 a1i a1z a1s a1b rfl (by decide) (.slice Am q cm) q _ rfl (own_all HOw.out ((Below.refl _ _).alloc (Nat.le_refl _) _) (Nat.le_refl _)) (t.heap.size + 1) (some ⟨t.heap.size, 0, none⟩) 1 1 [.int .i64 p.wk, .int .i64 p.ws, .int .i64 p.vs, .slice Ao no co, .slice Au nu cu, .slice Ab nb cb] rfl rfl (Rd.new _ _ _ _) (by simp [Value.oneCell']) (by unfold maxLen; omega) (by omega) (by simp; omega) ?_)
   intro A' c' y own hg hat
   have hbt1 : Below t.heap.size t (t.alloc (.cells #[.int .i64 p.wk, .int .i64 p.ws, .int .i64 p.vs, .slice Ao no co, .slice Au nu cu, .slice Ab nb cb] 34)) := (Below.refl _ _).alloc (Nat.le_refl _) _
   have HMy : Hid (MW v.heap.size y (cuts V es k) A' (q + 1) c') := hide (MWr.app (fun q p hq hp => by obtain ⟨cs, a1, a2, a3⟩ := HMr.out q p hq hp; exact ⟨cs, a1, a2.below hbt1, a3⟩) (own_all HOw.out hbt1 (Nat.le_refl _)) HCu.out rfl (HPt.out.below hbt1) own hg)
   have HPy := hide ((HPt.out.below hbt1).grown (own_all HOw.out hbt1 (Nat.le_refl _)) hg).pin
   have HY := hide (app_below (HBt.out.alloc svt _) (own_all HOw.out hbt1 (Nat.le_refl _)) hg (by simp; omega) (Nat.le_refl _))
   have HTy : Hid (y.heap[T]? = some (.cells #[.int .i64 p.wk, .int .i64 p.ws, .int .i64 p.vs, .slice Ao no co, .slice Au nu cu, .slice Ab nb cb] 34)) := hide (by rw [hg.block T (by simp; omega) (fun e => by have h9 := (HOz.out.lt T e.symm).2; have := HTz.out; omega)]; exact (Below.heap_alloc _ _ _ hTt).trans HT.out)
   have svy : v.heap.size ≤ y.heap.size := HY.out.size
   clear own hg hat hbt1 HOw HOz HMr HPt HBt HT HBz HPI HPO HZt c0 c1 c2 c3 c4 c5
   have hTy : T < y.heap.size := (Array.getElem?_eq_some_iff.1 HTy.out).1
   have c0 : y.cell? ⟨T, 0, none⟩ = some (.int .i64 p.wk) := cell_of_row _ _ 0 _ _ _ HTy.out
   have c1 : y.cell? ⟨T, 1, none⟩ = some (.int .i64 p.ws) := cell_of_row _ _ 1 _ _ _ HTy.out
   have c2 : y.cell? ⟨T, 2, none⟩ = some (.int .i64 p.vs) := cell_of_row _ _ 2 _ _ _ HTy.out
   have c3 : y.cell? ⟨T, 3, none⟩ = some (.slice Ao no co) := cell_of_row _ _ 3 _ _ _ HTy.out
   have c4 : y.cell? ⟨T, 4, none⟩ = some (.slice Au nu cu) := cell_of_row _ _ 4 _ _ _ HTy.out
   have c5 : y.cell? ⟨T, 5, none⟩ = some (.slice Ab nb cb) := cell_of_row _ _ 5 _ _ _ HTy.out
   have hlo := HLen.out.1
   have k9 : IntKind.i64.wrap ((so : Int) + (no : Int)) = (so : Int) + (no : Int) := IntWalk.i64_in _ (by omega)
   go_wp2
   go_loopw [13, 8, 9] (fun v13 v8 v9 wr => ∃ i : Nat, i ≤ no ∧ v13 = .int .i64 (i : Int) ∧ v8 = .int .i64 (cntE (fun e : Ed => e.1) es (ownUp V k q ++ (ownedF V k q).take i) : Int) ∧ v9 = .int .i64 (cntE (fun e : Ed => e.2.1) es (ownUp V k q ++ (ownedF V k q).take i) : Int) ∧ Hid (Below y.heap.size y wr)) (fun v13 _ _ _ => no - (intOf v13).toNat)
   case atStart => exact ⟨0, by omega, rfl, by rw [List.take_zero, List.append_nil, HS1.out], by rw [List.take_zero, List.append_nil, HS2.out], hide (Below.refl _ _)⟩
   case round =>
    clear c0 c1 c2 c3 c4 c5
    obtain ⟨i, hi, rfl, rfl, rfl, hby⟩ := hrel
    have hd1 := cntE_le (fun e : Ed => e.1) es (ownUp_take (k := k) HVV.out q i)
    have hd2 := cntE_le (fun e : Ed => e.2.1) es (ownUp_take (k := k) HVV.out q i)
    rw [HL.out] at hd1 hd2
    obtain ⟨z1, hz1⟩ : ∃ s, cntE (fun e : Ed => e.1) es (ownUp V k q ++ (ownedF V k q).take i) = s := ⟨_, rfl⟩
    obtain ⟨z2, hz2⟩ : ∃ s, cntE (fun e : Ed => e.2.1) es (ownUp V k q ++ (ownedF V k q).take i) = s := ⟨_, rfl⟩
    rw [hz1] at hd1 ⊢
    rw [hz2] at hd2 ⊢
    have HZ1 := hide hz1
    have HZ2 := hide hz2
    clear hz1 hz2
    have HTw : Hid (wr.heap[T]? = some (.cells #[.int .i64 p.wk, .int .i64 p.ws, .int .i64 p.vs, .slice Ao no co, .slice Au nu cu, .slice Ab nb cb] 34)) := hide ((hby.out.block _ hTy).trans HTy.out)
    have hTw : T < wr.heap.size := (Array.getElem?_eq_some_iff.1 HTw.out).1
    have c0 : wr.cell? ⟨T, 0, none⟩ = some (.int .i64 p.wk) := cell_of_row _ _ 0 _ _ _ HTw.out
    have c1 : wr.cell? ⟨T, 1, none⟩ = some (.int .i64 p.ws) := cell_of_row _ _ 1 _ _ _ HTw.out
    have c2 : wr.cell? ⟨T, 2, none⟩ = some (.int .i64 p.vs) := cell_of_row _ _ 2 _ _ _ HTw.out
    have c3 : wr.cell? ⟨T, 3, none⟩ = some (.slice Ao no co) := cell_of_row _ _ 3 _ _ _ HTw.out
    have c4 : wr.cell? ⟨T, 4, none⟩ = some (.slice Au nu cu) := cell_of_row _ _ 4 _ _ _ HTw.out
    have c5 : wr.cell? ⟨T, 5, none⟩ = some (.slice Ab nb cb) := cell_of_row _ _ 5 _ _ _ HTw.out
    by_cases hlti : i < no
    ·have hI2 : (i : Int) < (no : Int) := by omega
     obtain ⟨x, hx⟩ : ∃ x, p.own[i]? = some x := ⟨_, List.getElem?_eq_getElem (by rw [hlo]; exact hlti)⟩
     have hx2 : (ownedF V k q)[i]? = some x := by rw [← HPe.out.1]; exact hx
     have hof := ((mem_own HVV.out (by omega)).1 (List.mem_of_getElem? hx2)).2.2
     have HOf := hide hof
     have HIx : Hid (idxF p.own x = (i : Int)) := hide (idx_at (by rw [HPe.out.1]; exact owned_nodup _ _ _) hx)
     have hr1 : p.out[i]? = some (fromF es x) := by rw [HPe.out.2.1, List.getElem?_map, hx2]; rfl
     have hr2 : p.back[i]? = some (toF es x) := by rw [HPe.out.2.2, List.getElem?_map, hx2]; rfl
     have hlu : nu = no := by have := HLen.out.2.1; rw [HPe.out.2.1, List.length_map, ← HPe.out.1, hlo] at this; omega
     have hlb : nb = no := by have := HLen.out.2.2; rw [HPe.out.2.2, List.length_map, ← HPe.out.1, hlo] at this; omega
     obtain ⟨bo, oo, rfl, hbo, f0⟩ := HPy.out.own.at1 (ints_get hx)
     obtain ⟨bu, ou, A2, c2, rfl, hbu, f1, -, -, -⟩ := HPy.out.out.get hr1
     obtain ⟨bb, ob, A3, c3, rfl, hbb, f2, -, -, -⟩ := HPy.out.back.get hr2
     obtain ⟨l1, hl1⟩ : ∃ l, (fromF es x).length = l := ⟨_, rfl⟩
     obtain ⟨l2, hl2⟩ : ∃ l, (toF es x).length = l := ⟨_, rfl⟩
     rw [hl1] at f1
     rw [hl2] at f2
     have e0 : wr.cell? ⟨bo, oo + i, none⟩ = some (.int .i64 x) := (hby.out.cell (p := ⟨bo, oo + i, none⟩) hbo).trans f0
     have e1 : wr.cell? ⟨bu, ou + i, none⟩ = some (.slice A2 l1 c2) := (hby.out.cell (p := ⟨bu, ou + i, none⟩) hbu).trans f1
     have e2 : wr.cell? ⟨bb, ob + i, none⟩ = some (.slice A3 l2 c3) := (hby.out.cell (p := ⟨bb, ob + i, none⟩) hbb).trans f2
     have syw : y.heap.size ≤ wr.heap.size := hby.out.size
     have m0 : bo < wr.heap.size := by omega
     have m1 : bu < wr.heap.size := by omega
     have m2 : bb < wr.heap.size := by omega
     have HT1 : Hid (ownUp V k q ++ (ownedF V k q).take (i + 1) = (ownUp V k q ++ (ownedF V k q).take i) ++ [x]) := hide (by rw [List.take_add_one, hx2, Option.toList_some, List.append_assoc])
     have HN1 : Hid (cntE (fun e : Ed => e.1) es (ownUp V k q ++ (ownedF V k q).take (i + 1)) = z1 + l1) := hide (by rw [HT1.out, cntE_snoc, HZ1.out, ← hl1]; rfl)
     have HN2 : Hid (cntE (fun e : Ed => e.2.1) es (ownUp V k q ++ (ownedF V k q).take (i + 1)) = z2 + l2) := hide (by rw [HT1.out, cntE_snoc, HZ2.out, ← hl2]; rfl)
     have hq1 := cntE_le (fun e : Ed => e.1) es (ownUp_take (k := k) HVV.out q (i + 1))
     have hq2 := cntE_le (fun e : Ed => e.2.1) es (ownUp_take (k := k) HVV.out q (i + 1))
     rw [HN1.out, HL.out] at hq1
     rw [HN2.out, HL.out] at hq2
     have w1 : IntKind.i64.wrap ((z1 : Int) + (l1 : Int)) = (z1 : Int) + (l1 : Int) := IntWalk.i64_in _ (by omega)
     have w2 : IntKind.i64.wrap ((z2 : Int) + (l2 : Int)) = (z2 : Int) + (l2 : Int) := IntWalk.i64_in _ (by omega)
     have HROw := hide (((HPy.out.own.keep fun p hp => hby.out.cell hp).more syw))
     have hii : i < nu := by omega
     have hib : i < nb := by omega
     have hiu : (i : Int) < (nu : Int) := by omega
     have hibI : (i : Int) < (nb : Int) := by omega
     clear hx hx2 hof hr1 hr2 hl1 hl2 f0 f1 f2 hlu hlb
     obtain ⟨ws, rfl⟩ : ∃ z : World, z = wr := ⟨_, rfl⟩
     go_upto_region 19 with fail
     refine wp_region_held_drew (S := Kept ws) (by kernel_rfl) (Kept.drew ws) (fun hS0 => ?_)
     refine tk 0 75 ?_ ?_ ?_; rotate_left; (focus (intro w h; go_simp; (try with_reducible rfl))); (try simp only [xd, xe, xf])
     refine tk 1 76 ?_ ?_ ?_; rotate_left; (focus (intro w h; go_simp; (try with_reducible rfl))); (try simp only [xd, xe, xf])
     refine tk 2 77 ?_ ?_ ?_; rotate_left; (focus (intro w h; go_simp; (try with_reducible rfl))); (try simp only [xd, xe, xf])
     refine tk 3 78 ?_ ?_ ?_; rotate_left; (focus (intro w h; go_simp; (try with_reducible rfl))); (try simp only [xd, xe, xf])
     refine tk 4 79 ?_ ?_ ?_; rotate_left; (focus (intro w h; go_simp; (try with_reducible rfl))); (try simp only [xd, xe, xf])
     refine tk 5 80 ?_ ?_ ?_; rotate_left; (focus (intro w h; go_simp; (try with_reducible rfl))); (try simp only [xd, xe, xf])
     refine tk 7 82 ?_ ?_ ?_; rotate_left; (focus (intro w h; go_simp; (try with_reducible rfl))); (try simp only [xd, xe, xf])
     refine call_at (i := 6) (d := 81) (by simp only [xa, xb, xc]; rfl) rfl (by kernel_rfl) rfl (fun K hK => ?_)
     go_simp
     refine (of_any _ x (k : Int)).mono ?_
     rintro e y1 ⟨rfl, he1⟩
     have hS1 : Kept ws y1 := by rw [he1]; exact hS0
     rw [HOf.out]
     have E1 := hide he1
     clear he1
     go_wp2_with fail
     refine hK.out _ _ hS1 (fun hSn => ?_)
     clear hK K
     try simp only [xd, xe, xf]
     refine tk 8 83 ?_ ?_ ?_; rotate_left; (focus (intro w h; go_simp; (try with_reducible rfl))); (try simp only [xd, xe, xf])
     refine tk 9 84 ?_ ?_ ?_; rotate_left; (focus (intro w h; go_simp; (try with_reducible rfl))); (try simp only [xd, xe, xf])
     refine tk 10 85 ?_ ?_ ?_; rotate_left; (focus (intro w h; go_simp; (try with_reducible rfl))); (try simp only [xd, xe, xf])
     refine tk 11 86 ?_ ?_ ?_; rotate_left; (focus (intro w h; go_simp; (try with_reducible rfl))); (try simp only [xd, xe, xf])
     refine tk 12 87 ?_ ?_ ?_; rotate_left; (focus (intro w h; go_simp; (try with_reducible rfl))); (try simp only [xd, xe, xf])
     refine tk 13 88 ?_ ?_ ?_; rotate_left; (focus (intro w h; go_simp; (try with_reducible rfl))); (try simp only [xd, xe, xf])
     refine tk 14 89 ?_ ?_ ?_; rotate_left; (focus (intro w h; go_simp; (try with_reducible rfl))); (try simp only [xd, xe, xf])
     refine tk 15 90 ?_ ?_ ?_; rotate_left; (focus (intro w h; go_simp; (try with_reducible rfl))); (try simp only [xd, xe, xf])
     refine tk 17 92 ?_ ?_ ?_; rotate_left; (focus (intro w h; go_simp; (try with_reducible rfl))); (try simp only [xd, xe, xf])
     refine call_at (i := 16) (d := 91) (by simp only [xa, xb, xc]; rfl) rfl (by kernel_rfl) rfl (fun K hK => ?_)
     go_simp
     refine (place_any y1 p.wk p.ws p.vs (some ⟨bo, oo, none⟩) (some ⟨bu, ou, none⟩) (some ⟨bb, ob, none⟩) p.own no co _ cu _ cb x hlo (by omega) (by rw [E1.out]; exact HROw.out)).mono ?_
     rintro e y2 ⟨rfl, hz⟩
     rw [HIx.out]
     have hS2 : Kept ws y2 := hS1.below (by rw [E1.out]; exact Nat.le_refl _) hz
     have HBy2 := hide (hby.out.drew.trans ((by rw [E1.out] at hz; exact hz : Below ws.drew.heap.size ws.drew y2).mono syw))
     clear hz
     go_wp2_with fail
     refine hK.out _ _ hS2 (fun hSn => ?_)
     clear hK K
     try simp only [xd, xe, xf]
     refine tk 18 93 ?_ ?_ ?_; rotate_left; (focus (intro w h; go_simp; (try with_reducible rfl))); (try simp only [xd, xe, xf])
     refine tk 19 94 ?_ ?_ ?_; rotate_left; (focus (intro w h; go_simp; (try with_reducible rfl))); (try simp only [xd, xe, xf])
     refine wpAnyH_done (by kernel_rfl) ?_ _
     clear hS0 hS1 hS2 c0 c1 c2 c3 c4 c5
     go_wp2
     go_roundw
     case rel => first | exact ⟨i + 1, by omega, by go_num, by rw [HN1.out]; go_num, by rw [HN2.out]; go_num, HBy2⟩ | ((repeat apply Exists.intro); exact ⟨⟨i + 1, by omega, by go_num, by rw [HN1.out]; go_num, by rw [HN2.out]; go_num, HBy2⟩, rfl⟩)
     case measure => simp [intOf]; omega
    ·obtain rfl : no = i := by omega
     have HF1 : Hid (cntE (fun e : Ed => e.1) es (ownUp V k (q + 1)) = z1) := hide (by rw [← HZ1.out, ownUp_succ, List.take_of_length_le (by rw [← HPe.out.1, hlo]; exact Nat.le_refl _)])
     have HF2 : Hid (cntE (fun e : Ed => e.2.1) es (ownUp V k (q + 1)) = z2) := hide (by rw [← HZ2.out, ownUp_succ, List.take_of_length_le (by rw [← HPe.out.1, hlo]; exact Nat.le_refl _)])
     have HFo : Hid ((ownUp V k (q + 1)).length = so + no) := hide (by rw [ownUp_succ, List.length_append, HSo.out, ← HPe.out.1, hlo])
     have HMw := hide (HMy.out.below hby.out)
     have HBw := hide (HY.out.trans (hby.out.mono svy))
     go_wp2
     go_roundw
     case rel => exact ⟨q + 1, A', c', by omega, by go_num, rfl, by rw [HFo.out]; go_num, by rw [HF1.out], by rw [HF2.out], HMw, HBw⟩
     case measure => simp [intOf]; omega
  ·obtain rfl : k = q := by omega
   obtain ⟨u0, rfl⟩ : ∃ z : World, z = wr := ⟨_, rfl⟩
   have HRow : Hid (PtRow u0 Am (cuts V es k)) := hide (by have h := hM.out; rw [← cuts_len V es k] at h; exact MW.row (by rw [cuts_len] at h ⊢; exact hM.out))
   have HSo2 : Hid ((so : Int) = V) := hide (by rw [← HSo.out]; exact whole_own HVV.out hk1 hk6)
   have HS12 : Hid (s1 = L) := hide (by rw [← HS1.out, whole_from HCk.out hk1 hk6, HL.out])
   have HS22 : Hid (s2 = L) := hide (by rw [← HS2.out, whole_to HCk.out hk1 hk6, HL.out])
   clear hM hlt
   go_upto_region 21 with fail
   go_wp2_with fail
   refine (pjoin_any u0 Am (cuts V es k) k cm (cuts_len V es k) HRow.out (by omega) (by rw [cuts_all HCk.out hk1 hk6, HL.out]; omega)).mono ?_
   rintro e z hz
   obtain ⟨⟨A1, c1, rfl, hE1, -, -⟩, hz9⟩ := whole_post HCk.out hk1 hk6 hz
   rw [HL.out]
   have HE1 := hide hE1
   have HZ := hide (HBr.out.trans (hz9.mono sur))
   have szz : u0.heap.size ≤ z.heap.size := hz9.size
   clear hz hz9 hE1 g0 g1
   obtain ⟨u1, hu1⟩ : ∃ q, z.alloc (.cells #[.int .i64 V, .slice A1 L c1] 30) = q := ⟨_, rfl⟩
   have HG1 : Hid (u1.heap[z.heap.size]? = some (.cells #[.int .i64 V, .slice A1 L c1] 30)) := hide (by rw [← hu1]; exact heap_alloc_last _ _)
   have HZ1 : Hid (Below z.heap.size z u1) := hide (by rw [← hu1]; exact (Below.refl _ _).alloc (Nat.le_refl _) _)
   have HU1 := hide hu1
   clear hu1
   obtain ⟨G1, hG1⟩ : ∃ g, z.heap.size = g := ⟨_, rfl⟩
   have HGe := hide hG1
   rw [hG1] at HG1
   clear hG1
   go_upto_region 22 with fail
   rw [HU1.out, HGe.out]
   clear HU1
   have hg1l : G1 < u1.heap.size := (Array.getElem?_eq_some_iff.1 HG1.out).1
   have szu : z.heap.size ≤ u1.heap.size := HZ1.out.size
   have HBu := hide (HZ.out.trans (HZ1.out.mono (Nat.le_trans sur szz)))
   have suu : u.heap.size ≤ u1.heap.size := HBu.out.size
   have MG1 : Hid (u1.heap[w.heap.size]? = some (.cells #[.int .i64 V, .slice A L c] 30)) := hide ((HBu.out.block _ hzl).trans M0.out)
   have g0 : u1.cell? ⟨w.heap.size, 0, none⟩ = some (.int .i64 V) := cell_of_row _ _ 0 _ _ _ MG1.out
   have g1 : u1.cell? ⟨w.heap.size, 1, none⟩ = some (.slice A L c) := cell_of_row _ _ 1 _ _ _ MG1.out
   have hgl2 : w.heap.size < u1.heap.size := by omega
   have x0 : u1.cell? ⟨G1, 0, none⟩ = some (.int .i64 V) := cell_of_row _ _ 0 _ _ _ HG1.out
   have x1 : u1.cell? ⟨G1, 1, none⟩ = some (.slice A1 L c1) := cell_of_row _ _ 1 _ _ _ HG1.out
   go_wp2_with fail
   refine (gsame_any u1 V V A1 A es es L c1 L c HL.out HL.out (by omega) (Eds.next HE1.out HZ1.out) (Eds.next HE.out HBu.out)).mono ?_
   rintro e v9 ⟨rfl, hv⟩
   rw [show (decide (V = V) && eqL es es) = true by simp [eqL_self]]
   have HV9 := hide (HBu.out.trans (hv.mono suu))
   have MG9 := hide ((hv.block _ hgl2).trans MG1.out)
   have sv9 : u.heap.size ≤ v9.heap.size := HV9.out.size
   have hgl9 : w.heap.size < v9.heap.size := by omega
   clear hv x0 x1 g0 g1
   have g0 : v9.cell? ⟨w.heap.size, 0, none⟩ = some (.int .i64 V) := cell_of_row _ _ 0 _ _ _ MG9.out
   have g1 : v9.cell? ⟨w.heap.size, 1, none⟩ = some (.slice A L c) := cell_of_row _ _ 1 _ _ _ MG9.out
   have q1 : ((so : Int) == V) = true := by rw [HSo2.out]; simp
   have q2 : ((s1 : Int) == (L : Int)) = true := by rw [HS12.out]; simp
   have q3 : ((s2 : Int) == (s1 : Int)) = true := by rw [HS12.out, HS22.out]; simp
   go_wp2_with fail
   refine (works_any _).mono ?_
   rintro e wk ⟨rfl, hb⟩
   have HF := hide (HB.out.trans ((HV9.out.trans (hb.mono sv9)).mono (by omega)))
   clear hb
   go_wp2
   go_ret
   exact ⟨rfl, HF.out⟩
theorem partsWhole_walk (w : World) (V : Int) (A : Option Addr) (es : List Ed) (c : Nat) (hV1 : -9223372036854775808 ≤ V) (hV2 : V ≤ 9223372036854775807) (hE : Eds w w.heap.size A es) (hc1 : es.length ≤ c) (hc2 : c ≤ 9223372036854775807) (hB : ∀ e ∈ es, edB e) (n : Int) (hn0 : 0 ≤ n) (hn : n ≤ 255) :
  Calls Try.prog 6 #[.agg #[.int .i64 V, .slice A es.length c], .int .u8 n] w fun e W' => e = .returned (.bool true) ∧ Below w.heap.size w W' := by
 obtain ⟨m, rfl⟩ : ∃ m : Nat, n = (m : Int) := ⟨n.toNat, by omega⟩
 exact partsWhole_main w V A es c hV1 hV2 hE hc1 hc2 m (by omega)
end Go.Proofs.Ytihdpfjonkagaaa
namespace Go.Proofs.Ytihdpfjonkagaaa
open Go.RowKit
theorem rplaceI_any (w : World) (A : Option Addr) (xs : List Int) (n c : Nat) (x : Int) (hx : xs.length = n) (hn : n ≤ 9223372036854775807) (rx : Rd w w.heap.size A (xs.map (Value.int .i64))) :
  Calls Try.prog 54 #[.slice A n c, .int .i64 x] w fun e w' => e = .returned (.int .i64 (idxF xs x)) ∧ w' = w := by
 have HX := hide hx
 have RX := hide rx
 clear hx rx
 go_enter Try.func54, Try.ntmps54
 go_wp2
 go_loopw [5] (fun vi wr => ∃ i : Nat, i ≤ n ∧ vi = .int .i64 i ∧ Hid (idxF xs x = idxAt xs x i) ∧ wr = w) (fun vi _ => n - (intOf vi).toNat)
 case atStart => exact ⟨0, by omega, rfl, hide rfl, rfl⟩
 case round =>
  obtain ⟨i, hi, rfl, heq, rfl⟩ := hrel
  by_cases hlt : i < n
  ·have hi1 : i < xs.length := by rw [HX.out]; exact hlt
   obtain ⟨b1, o1, rfl, l1, cx⟩ := RX.out.at1 (i := i) (ints_get (List.getElem?_eq_getElem hi1))
   obtain ⟨y, hy⟩ : ∃ y, xs[i] = y := ⟨_, rfl⟩
   rw [hy] at cx
   have hI0 : (0 : Int) ≤ (i : Int) := by omega
   have hI1 : (i : Int) < (n : Int) := by omega
   by_cases hxy : y = x
   ·have HE : Hid (idxF xs x = (i : Int)) := hide (by rw [heq.out]; exact idx_hit hi1 (by rw [hy, hxy]))
    have hq : (y == x) = true := by simp [hxy]
    clear hy hi1 heq hxy
    go_wp2
    go_ret
    exact ⟨ret_n (by rw [HE.out]), rfl⟩
   ·have HE : Hid (idxF xs x = idxAt xs x (i + 1)) := hide (by rw [heq.out]; exact idx_miss hi1 (by rw [hy]; exact fun e => hxy e.symm))
    have hq : (y == x) = false := by simp [hxy]
    clear hy hi1 heq hxy
    go_wp2
    go_roundw
    case rel => exact ⟨i + 1, by omega, by go_num, HE, by first | rfl | trivial⟩
    case measure => simp [intOf]; omega
  ·obtain rfl : i = n := by omega
   have HE : Hid (idxF xs x = -1) := hide (by rw [heq.out, ← HX.out, idx_end])
   go_wp2
   go_ret
   exact ⟨ret_n (by rw [HE.out]), rfl⟩
theorem pplace_any (w : World) (p : PartV) (Ao Au Ab : Option Addr) (no nu nb co cu cb : Nat) (x : Int) (hlen : PLen p no nu nb) (hin : PIn w p Ao Au Ab) (hbd : no ≤ 9223372036854775807 ∧ nu ≤ 9223372036854775807 ∧ nb ≤ 9223372036854775807) :
  Calls Try.prog 45 #[.agg #[.int .i64 p.wk, .int .i64 p.ws, .int .i64 p.vs, .slice Ao no co, .slice Au nu cu, .slice Ab nb cb], .int .i64 x] w fun e w' => e = .returned (.bool true) ∧ Below w.heap.size w w' := by
 obtain ⟨ws, hv⟩ : ∃ u, w.alloc (.cells #[.int .i64 p.wk, .int .i64 p.ws, .int .i64 p.vs, .slice Ao no co, .slice Au nu cu, .slice Ab nb cb] 34) = u := ⟨_, rfl⟩
 have HIn := hide (hin.kept (Kept.of_below (show Below w.heap.size w ws by rw [← hv]; exact (Below.refl _ _).alloc (Nat.le_refl _) _)) (by rw [← hv]; simp))
 have HV := hide hv
 have M0 := hide (show ws.heap[w.heap.size]? = some (.cells #[.int .i64 p.wk, .int .i64 p.ws, .int .i64 p.vs, .slice Ao no co, .slice Au nu cu, .slice Ab nb cb] 34) by rw [← hv]; exact heap_alloc_last _ _)
 have HB := hide (show Below w.heap.size w ws by rw [← hv]; exact (Below.refl _ _).alloc (Nat.le_refl _) _)
 have hzl : w.heap.size < ws.heap.size := by rw [← hv]; simp
 have hzw : w.heap.size ≤ ws.heap.size := by omega
 have HLen := hide hlen
 obtain ⟨hb1, hb2, hb3⟩ := hbd
 clear hv hin hlen
 have c0 : ws.cell? ⟨w.heap.size, 0, none⟩ = some (.int .i64 p.wk) := cell_of_row _ _ 0 _ _ _ M0.out
 have c1 : ws.cell? ⟨w.heap.size, 1, none⟩ = some (.int .i64 p.ws) := cell_of_row _ _ 1 _ _ _ M0.out
 have c2 : ws.cell? ⟨w.heap.size, 2, none⟩ = some (.int .i64 p.vs) := cell_of_row _ _ 2 _ _ _ M0.out
 have c3 : ws.cell? ⟨w.heap.size, 3, none⟩ = some (.slice Ao no co) := cell_of_row _ _ 3 _ _ _ M0.out
 have c4 : ws.cell? ⟨w.heap.size, 4, none⟩ = some (.slice Au nu cu) := cell_of_row _ _ 4 _ _ _ M0.out
 have c5 : ws.cell? ⟨w.heap.size, 5, none⟩ = some (.slice Ab nb cb) := cell_of_row _ _ 5 _ _ _ M0.out
 by_cases h6 : 60 < no
 ·have i6 : (60 : Int) < (no : Int) := by omega
  have i6d : decide ((60 : Int) < (no : Int)) = true := decide_eq_true i6
  go_enter Try.func45, Try.ntmps45
  go_upto_region 1 with fail
  rw [HV.out]
  refine wp_region_held_drew (S := Kept ws) (by kernel_rfl) (Kept.drew ws) (fun hS0 => ?_)
  refine tk 0 5 ?_ ?_ ?_; rotate_left; (focus (intro w h; go_simp; (try with_reducible rfl))); (try simp only [xd, xe, xf])
  refine tk 1 6 ?_ ?_ ?_; rotate_left; (focus (intro w h; go_simp; (try with_reducible rfl))); (try simp only [xd, xe, xf])
  refine tk 2 7 ?_ ?_ ?_; rotate_left; (focus (intro w h; go_simp; (try with_reducible rfl))); (try simp only [xd, xe, xf])
  refine tk 3 8 ?_ ?_ ?_; rotate_left; (focus (intro w h; go_simp; (try with_reducible rfl))); (try simp only [xd, xe, xf])
  refine tk 4 9 ?_ ?_ ?_; rotate_left; (focus (intro w h; go_simp; (try with_reducible rfl))); (try simp only [xd, xe, xf])
  refine sk 5 10 ?_; (try simp only [xd, xe, xf])
  refine sk 6 11 ?_; (try simp only [xd, xe, xf])
  refine sk 7 12 ?_; (try simp only [xd, xe, xf])
  refine sk 8 13 ?_; (try simp only [xd, xe, xf])
  refine sk 9 14 ?_; (try simp only [xd, xe, xf])
  refine sk 10 15 ?_; (try simp only [xd, xe, xf])
  refine sk 11 16 ?_; (try simp only [xd, xe, xf])
  refine sk 12 17 ?_; (try simp only [xd, xe, xf])
  refine tk 13 18 ?_ ?_ ?_; rotate_left; (focus (intro w h; go_simp; (try with_reducible rfl))); (try simp only [xd, xe, xf])
  refine tk 14 19 ?_ ?_ ?_; rotate_left; (focus (intro w h; go_simp; (try with_reducible rfl))); (try simp only [xd, xe, xf])
  refine call_at (i := 15) (d := 20) (by simp only [xa, xb, xc]; rfl) rfl (by kernel_rfl) rfl (fun K hK => ?_)
  go_simp
  refine (works_any _).mono ?_
  rintro e y3 ⟨rfl, hz⟩
  have hS3 : Kept ws y3 := hS0.below (Nat.le_refl _) hz
  have HB3 := hide ((Below.refl ws.heap.size ws).drew.trans (hz.mono (Nat.le_refl _)))
  clear hz
  go_wp2_with fail
  refine hK.out _ _ hS3 (fun hSn => ?_)
  clear hK K
  try simp only [xd, xe, xf]
  refine tk 16 21 ?_ ?_ ?_; rotate_left; (focus (intro w h; go_simp; (try with_reducible rfl))); (try simp only [xd, xe, xf])
  refine tk 17 4 ?_ ?_ ?_; rotate_left; (focus (intro w h; go_simp; (try with_reducible rfl))); (try simp only [xd, xe, xf])
  refine wpAnyH_done (by kernel_rfl) ?_ _
  clear hS0
  go_wp2
  go_ret
  exact ⟨rfl, HB.out.trans (HB3.out.mono hzw)⟩
 have i6 : ¬ (60 : Int) < (no : Int) := by omega
 have i6d : decide ((60 : Int) < (no : Int)) = false := decide_eq_false i6
 go_enter Try.func45, Try.ntmps45
 go_upto_region 1 with fail
 rw [HV.out]
 refine wp_region_held_drew (S := Kept ws) (by kernel_rfl) (Kept.drew ws) (fun hS0 => ?_)
 refine tk 0 5 ?_ ?_ ?_; rotate_left; (focus (intro w h; go_simp; (try with_reducible rfl))); (try simp only [xd, xe, xf])
 refine tk 1 6 ?_ ?_ ?_; rotate_left; (focus (intro w h; go_simp; (try with_reducible rfl))); (try simp only [xd, xe, xf])
 refine tk 2 7 ?_ ?_ ?_; rotate_left; (focus (intro w h; go_simp; (try with_reducible rfl))); (try simp only [xd, xe, xf])
 refine tk 3 8 ?_ ?_ ?_; rotate_left; (focus (intro w h; go_simp; (try with_reducible rfl))); (try simp only [xd, xe, xf])
 refine tk 4 9 ?_ ?_ ?_; rotate_left; (focus (intro w h; go_simp; (try with_reducible rfl))); (try simp only [xd, xe, xf])
 refine tk 5 10 ?_ ?_ ?_; rotate_left; (focus (intro w h; go_simp; (try with_reducible rfl))); (try simp only [xd, xe, xf])
 refine tk 6 11 ?_ ?_ ?_; rotate_left; (focus (intro w h; go_simp; (try with_reducible rfl))); (try simp only [xd, xe, xf])
 refine tk 8 13 ?_ ?_ ?_; rotate_left; (focus (intro w h; go_simp; (try with_reducible rfl))); (try simp only [xd, xe, xf])
 refine tk 9 14 ?_ ?_ ?_; rotate_left; (focus (intro w h; go_simp; (try with_reducible rfl))); (try simp only [xd, xe, xf])
 refine tk 10 15 ?_ ?_ ?_; rotate_left; (focus (intro w h; go_simp; (try with_reducible rfl))); (try simp only [xd, xe, xf])
 refine call_at (i := 7) (d := 12) (by simp only [xa, xb, xc]; rfl) rfl (by kernel_rfl) rfl (fun K hK => ?_)
 go_simp
 refine (place_any ws.drew p.wk p.ws p.vs Ao Au Ab p.own no co nu cu nb cb x HLen.out.1 hb1 (HIn.out.own.keep fun _ _ => rfl)).mono ?_
 rintro e y1 ⟨rfl, hz⟩
 have hS1 : Kept ws y1 := hS0.below (Nat.le_refl _) hz
 have hy1 : ws.heap.size ≤ y1.heap.size := hz.size
 have HB1 := hide ((Below.refl ws.heap.size ws).drew.trans (hz.mono (Nat.le_refl _)))
 clear hz
 go_wp2_with fail
 refine hK.out _ _ hS1 (fun hSn => ?_)
 clear hK K
 try simp only [xd, xe, xf]
 refine call_at (i := 11) (d := 16) (by simp only [xa, xb, xc]; rfl) rfl (by kernel_rfl) rfl (fun K hK => ?_)
 go_simp
 refine (rplaceI_any _ Ao p.own no co x HLen.out.1 hb1 ((HIn.out.own.keep hS1).more hy1)).mono ?_
 rintro e y2 ⟨rfl, he2⟩
 have hS2 : Kept ws y2 := by rw [he2]; exact hS1
 have E2 := hide he2
 clear he2
 go_wp2_with fail
 refine hK.out _ _ hS2 (fun hSn => ?_)
 clear hK K
 try simp only [xd, xe, xf]
 refine tk 12 17 ?_ ?_ ?_; rotate_left; (focus (intro w h; go_simp; (try with_reducible rfl))); (try simp only [xd, xe, xf])
 refine tk 13 18 ?_ ?_ ?_; rotate_left; (focus (intro w h; go_simp; (try with_reducible rfl))); (try simp only [xd, xe, xf])
 refine tk 14 19 ?_ ?_ ?_; rotate_left; (focus (intro w h; go_simp; (try with_reducible rfl))); (try simp only [xd, xe, xf])
 refine call_at (i := 15) (d := 20) (by simp only [xa, xb, xc]; rfl) rfl (by kernel_rfl) rfl (fun K hK => ?_)
 go_simp
 refine (works_any _).mono ?_
 rintro e y3 ⟨rfl, hz⟩
 have hS3 : Kept ws y3 := hS2.below (by rw [E2.out]; exact hy1) hz
 have HB3 := hide (HB1.out.trans ((by rw [E2.out] at hz; exact hz : Below y1.heap.size y1 y3).mono hy1))
 clear hz
 go_wp2_with fail
 refine hK.out _ _ hS3 (fun hSn => ?_)
 clear hK K
 try simp only [xd, xe, xf]
 refine tk 16 21 ?_ ?_ ?_; rotate_left; (focus (intro w h; go_simp; (try with_reducible rfl))); (try simp only [xd, xe, xf])
 refine tk 17 4 ?_ ?_ ?_; rotate_left; (focus (intro w h; go_simp; (try with_reducible rfl))); (try simp only [xd, xe, xf])
 refine wpAnyH_done (by kernel_rfl) ?_ _
 clear hS0
 go_wp2
 go_ret
 exact ⟨rfl, HB.out.trans (HB3.out.mono hzw)⟩
theorem own_empty (w : World) (T : TypeId) (size : Nat) : (w.alloc (.cells #[] T)).ownsRow w.heap.size T size (.slice (some ⟨w.heap.size, 0, none⟩) 0 0) 0 [] :=
 ⟨by simp, .inr ⟨w.heap.size, 0, #[], rfl, Nat.le_refl _, heap_alloc_last _ _, Nat.le_refl _, Nat.zero_le _, by simp, by simp⟩⟩
theorem erows_own {w : World} {b : Nat} {A : Option Addr} {n c : Nat} {hs : List Value} {rs : List (List Ed)} (hl : rs.length = n) (ho : w.ownsRow b 28 1 (.slice A n c) n hs)
  (hr : ∀ (i : Nat) (h : Value) (r : List Ed), hs[i]? = some h → rs[i]? = some r → ∃ A c, h = .slice A r.length c ∧ r.length ≤ c ∧ c ≤ 9223372036854775807 ∧ Eds w w.heap.size A r) : ERows w w.heap.size A rs := fun hn => by
 have hpos : 0 < rs.length := List.length_pos_iff.2 hn
 obtain ⟨g, rfl, hb, hg, _⟩ := own_addr ho (by omega)
 refine ⟨g, 0, rfl, hg, fun i r hr2 => ?_⟩
 have hi := (List.getElem?_eq_some_iff.1 hr2).1
 have h1 := ho.1
 have hi2 : i < hs.length := by omega
 obtain ⟨A2, c2, k1, k2, k3, k4⟩ := hr i _ r (List.getElem?_eq_getElem hi2) hr2
 refine ⟨[hs[i]], rfl, ⟨A2, c2, by rw [k1], k2, k3, k4⟩, fun j u hu => ?_⟩
 rcases j with _ | j
 ·simp only [List.getElem?_cons_zero, Option.some.injEq] at hu
  subst hu
  have := ho.cellAt i (by omega)
  simp only [Nat.mul_one, Nat.add_zero, Nat.zero_add]
  rw [this]
  exact List.getElem?_eq_getElem hi2
 ·simp at hu
def Same1 (g : Nat) (w w' : World) : Prop := w.heap.size ≤ w'.heap.size ∧ ∀ b, b ≠ g → b < w.heap.size → w'.heap[b]? = w.heap[b]?
theorem Same1.own {g : Nat} {w w' : World} (h : Same1 g w w') {b size n : Nat} {e : TypeId} {v : Value} {xs : List Value} (ho : w.ownsRow b e size v n xs) (hg : g < b) : w'.ownsRow b e size v n xs := by
 refine ⟨ho.1, ho.2.imp id ?_⟩
 rintro ⟨k, cap, cur, h1, h2, h3, h4⟩
 exact ⟨k, cap, cur, h1, h2, by rw [h.2 k (by omega) (Array.getElem?_eq_some_iff.1 h3).1]; exact h3, h4⟩
theorem Same1.kept {g : Nat} {v w w' : World} (h : Same1 g w w') (hk : Below v.heap.size v w) (hg : v.heap.size ≤ g) : Kept v w' := fun p hp => by
 rw [World.cell?_of_block (h.2 p.block (by omega) (by have := hk.size; omega))]
 exact hk.cell hp
theorem Same1.refl (g : Nat) (w : World) : Same1 g w w := ⟨Nat.le_refl _, fun _ _ _ => rfl⟩
def PkMid (y : World) (T g : Nat) (wc : World) : Prop := ∃ (C : Array Value) (p : PartV), C.size = 6 ∧ wc.heap[T]? = some (.cells C 34) ∧ (∀ w', Same1 g wc w' → PtVal w' C.toList p) ∧ Below y.heap.size y wc
end Go.Proofs.Ytihdpfjonkagaaa
namespace Go.Proofs.Ytihdpfjonkagaaa
open Go.ChangeShapes Go.WideShapes Go.ChangeAt Go.RowKit
theorem rd_next {w w' : World} {A : Option Addr} {xs : List Value} (h : Rd w w.heap.size A xs) (hb : Below w.heap.size w w') : Rd w' w'.heap.size A xs := h.next hb
theorem er_next {w w' : World} {A : Option Addr} {rs : List (List Ed)} (h : ERows w w.heap.size A rs) (hb : Below w.heap.size w w') : ERows w' w'.heap.size A rs := h.next hb
theorem partsCut_walk (w : World) (V : Int) (A : Option Addr) (es : List Ed) (c : Nat) (_ : -9223372036854775808 ≤ V) (_ : V ≤ 9223372036854775807) (hE : Eds w w.heap.size A es) (hc1 : es.length ≤ c) (hc2 : c ≤ 9223372036854775807) (_ : ∀ e ∈ es, edB e) (n : Int) (_ : -9223372036854775808 ≤ n) (_ : n ≤ 9223372036854775807) (k : Int) (_ : -9223372036854775808 ≤ k) (_ : k ≤ 9223372036854775807) :
  Calls Try.prog 4 #[.agg #[.int .i64 V, .slice A es.length c], .int .i64 n, .int .i64 k] w fun e W' => e = .returned (.bool true) ∧ Below w.heap.size w W' := by
 obtain ⟨L, hL⟩ : ∃ L, es.length = L := ⟨_, rfl⟩
 rw [hL] at hc1 ⊢
 have HL := hide hL
 obtain ⟨i1, hi1, hy0, hy1, hy2⟩ := info_parts (show (Try.prog.info? 44).map (fun i => (i.zero, i.size, i.bytes)) = some (some (.agg #[.int .i64 0, .int .i64 0, .int .i64 0]), 3, 24) by kernel_rfl)
 obtain ⟨u, hu⟩ : ∃ u, w.alloc (.cells #[.int .i64 V, .slice A L c] 30) = u := ⟨_, rfl⟩
 have hzu : u.heap.size = w.heap.size + 1 := by rw [← hu]; simp
 have hbu : Below w.heap.size w u := by rw [← hu]; exact (Below.refl _ _).alloc (Nat.le_refl _) _
 have GU : Hid (u.heap[w.heap.size]? = some (.cells #[.int .i64 V, .slice A L c] 30)) := hide (by rw [← hu]; exact heap_alloc_last w _)
 have EU := hide (Eds.next hE hbu)
 have HB := hide hbu
 have HU := hide hu
 clear hu hbu hE hL
 by_cases hlight : (L : Int) ≤ 200
 ·have hl2 : decide ((L : Int) ≤ 200) = true := decide_eq_true hlight
  go_enter Try.func4, Try.ntmps4
  go_wp2_with fail
  rw [HU.out]
  refine (light_any _ V A L c 200).mono ?_
  rintro e y1 ⟨rfl, k1⟩
  rw [hl2]
  have hy1s := k1.size
  have g0 : y1.cell? ⟨w.heap.size, 0, none⟩ = some (.int .i64 V) := (k1.cell (p := ⟨w.heap.size, 0, none⟩) (by show w.heap.size < _; omega)).trans (cell_of_row _ _ 0 _ _ _ GU.out)
  have g1 : y1.cell? ⟨w.heap.size, 1, none⟩ = some (.slice A L c) := (k1.cell (p := ⟨w.heap.size, 1, none⟩) (by show w.heap.size < _; omega)).trans (cell_of_row _ _ 1 _ _ _ GU.out)
  have E1 := hide (EU.out.next k1)
  have RE := hide (EU.out.next k1).rd
  have HB1 := hide (HB.out.trans (k1.mono (by omega)))
  have hefl := edFlat_len es
  rw [HL.out] at hefl
  have GU1 := hide ((k1.block w.heap.size (by omega)).trans GU.out)
  have hL3 : L ≤ 200 := by omega
  clear k1
  go_wp2_with (at_builtin; refine wpList_app rfl (.tmp 18) (.tmp 20) 28 rfl y1.heap.size 44 i1 (.agg #[.int .i64 0, .int .i64 0, .int .i64 0]) 3 24 Try.underlying28 hi1 hy0 hy1 hy2 rfl (by decide) (.slice none 0 0) 0 [] rfl (World.ownsRow_nil _ _ _ _) y1.heap.size A L c (edFlat es) rfl hefl RE.out (edFlat_one es) (by unfold maxLen; omega) (by omega) (Nat.le_refl _) ?_)
  intro Ac cc y2 own2 hg2 hat2
  have hk2 : Below y1.heap.size y1 y2 := (Below.refl _ y1).grown hg2 (Nat.le_refl _) (fun g e => by cases e)
  have hy2s := hk2.size
  have OW2 := hide (Eds.of_rd (Rd.of_own own2) E1.out.wt)
  have g0 : y2.cell? ⟨w.heap.size, 0, none⟩ = some (.int .i64 V) := (hk2.cell (p := ⟨w.heap.size, 0, none⟩) (by show w.heap.size < _; omega)).trans g0
  have g1 : y2.cell? ⟨w.heap.size, 1, none⟩ = some (.slice A L c) := (hk2.cell (p := ⟨w.heap.size, 1, none⟩) (by show w.heap.size < _; omega)).trans g1
  have E2 := hide (E1.out.next hk2)
  have HB2 := hide (HB1.out.trans (hk2.mono (by omega)))
  have GU2 := hide ((hk2.block w.heap.size (by omega)).trans GU1.out)
  have hcc := own_cap own2
  clear own2 hg2 hat2 hk2 RE E1 HB1 GU1
  obtain ⟨P, hP⟩ : ∃ P, partF V es n k = P := ⟨_, rfl⟩
  obtain ⟨q, hq⟩ : ∃ q, cutErr V es n k = q := ⟨_, rfl⟩
  go_wp2_with fail
  refine (pcut_any y2 V A es L c n k HL.out E2.out (by omega)).mono ?_
  rw [hP, hq]
  rintro e y3 ⟨m, mu, mb, Ao, co, Au, cu, hu, Ab, cb, hb, hm1, hm2, hm3, lm1, lm2, lm3, rfl, ho, hru, hrb, hk3⟩
  have hy3s := hk3.size
  have HM := hide (And.intro hm1 (And.intro hm2 hm3))
  have OWN := hide ho; have ORU := hide hru; have ORB := hide hrb; have K3 := hide hk3
  have g0 : y3.cell? ⟨w.heap.size, 0, none⟩ = some (.int .i64 V) := (hk3.cell (p := ⟨w.heap.size, 0, none⟩) (by show w.heap.size < _; omega)).trans g0
  have g1 : y3.cell? ⟨w.heap.size, 1, none⟩ = some (.slice A L c) := (hk3.cell (p := ⟨w.heap.size, 1, none⟩) (by show w.heap.size < _; omega)).trans g1
  have hl3 : w.heap.size < y3.heap.size := by omega
  have HP := hide hP; have HQ := hide hq
  clear hm1 hm2 hm3 ho hru hrb hk3 hP hq
  go_wp2_with fail
  obtain ⟨y, hy⟩ : ∃ y, y3.alloc (.cells #[.int .i64 P.wk, .int .i64 P.ws, .int .i64 P.vs, .slice Ao m co, .slice Au mu cu, .slice Ab mb cb] 34) = y := ⟨_, rfl⟩
  have hys : y.heap.size = y3.heap.size + 1 := by rw [← hy]; simp
  have hky : Below y3.heap.size y3 y := by rw [← hy]; exact (Below.refl _ _).alloc (Nat.le_refl _) _
  have cP : y.heap[y3.heap.size]? = some (.cells #[.int .i64 P.wk, .int .i64 P.ws, .int .i64 P.vs, .slice Ao m co, .slice Au mu cu, .slice Ab mb cb] 34) := by rw [← hy]; exact heap_alloc_last _ _
  rw [hy]
  have HY := hide hy
  have CP := hide cP
  have KY := hide hky
  have E3 := hide ((E2.out.next K3.out).next hky)
  clear hy cP hky
  have hmm1 := hc2
  refine (rcut_any y V A es L c n k HL.out E3.out (by omega)).mono ?_
  rw [HP.out, HQ.out]
  rintro e y4 ⟨m', mu', mb', Ap, cp, Av, cv, hv, Aw, cw, hw, hm1, hm2, hm3, _, _, _, rfl, ho, hrv, hrw, hk4⟩
  obtain rfl : m' = m := by have := HM.out.1; omega
  obtain rfl : mu' = mu := by have := HM.out.2.1; omega
  obtain rfl : mb' = mb := by have := HM.out.2.2; omega
  have hy4s := hk4.size
  have OWN' := hide ho; have ORV := hide hrv; have ORW := hide hrw; have K4 := hide hk4
  have CP4 := hide ((hk4.block y3.heap.size (by omega)).trans CP.out)
  clear hm1 hm2 hm3 ho hrv hrw hk4 CP g0 g1
  go_upto_region 7 with fail
  obtain ⟨ws, hws⟩ : ∃ ws, y4.alloc (.cells #[.int .i64 P.wk, .int .i64 P.ws, .int .i64 P.vs, .slice Ap m' cp, .slice Av mu' cv, .slice Aw mb' cw] 38) = ws := ⟨_, rfl⟩
  rw [hws]
  have hwss : ws.heap.size = y4.heap.size + 1 := by rw [← hws]; simp
  have hkw : Below y4.heap.size y4 ws := by rw [← hws]; exact (Below.refl _ _).alloc (Nat.le_refl _) _
  have cQ : ws.heap[y4.heap.size]? = some (.cells #[.int .i64 P.wk, .int .i64 P.ws, .int .i64 P.vs, .slice Ap m' cp, .slice Av mu' cv, .slice Aw mb' cw] 38) := by rw [← hws]; exact heap_alloc_last _ _
  have cPw : ws.heap[y3.heap.size]? = some (.cells #[.int .i64 P.wk, .int .i64 P.ws, .int .i64 P.vs, .slice Ao m' co, .slice Au mu' cu, .slice Ab mb' cb] 34) := (hkw.block _ (by omega)).trans CP4.out
  obtain ⟨bp, hbp⟩ : ∃ bp, y3.heap.size = bp := ⟨_, rfl⟩
  obtain ⟨bq, hbq⟩ : ∃ bq, y4.heap.size = bq := ⟨_, rfl⟩
  rw [hbp] at cPw
  rw [hbq] at cQ
  rw [hbp, hbq]
  have p0 : ws.cell? ⟨bp, 0, none⟩ = some (.int .i64 P.wk) := cell_of_row _ _ 0 _ _ _ cPw
  have p1 : ws.cell? ⟨bp, 1, none⟩ = some (.int .i64 P.ws) := cell_of_row _ _ 1 _ _ _ cPw
  have p2 : ws.cell? ⟨bp, 2, none⟩ = some (.int .i64 P.vs) := cell_of_row _ _ 2 _ _ _ cPw
  have p3 : ws.cell? ⟨bp, 3, none⟩ = some (.slice Ao m' co) := cell_of_row _ _ 3 _ _ _ cPw
  have p4 : ws.cell? ⟨bp, 4, none⟩ = some (.slice Au mu' cu) := cell_of_row _ _ 4 _ _ _ cPw
  have p5 : ws.cell? ⟨bp, 5, none⟩ = some (.slice Ab mb' cb) := cell_of_row _ _ 5 _ _ _ cPw
  have q0 : ws.cell? ⟨bq, 0, none⟩ = some (.int .i64 P.wk) := cell_of_row _ _ 0 _ _ _ cQ
  have q1 : ws.cell? ⟨bq, 1, none⟩ = some (.int .i64 P.ws) := cell_of_row _ _ 1 _ _ _ cQ
  have q2 : ws.cell? ⟨bq, 2, none⟩ = some (.int .i64 P.vs) := cell_of_row _ _ 2 _ _ _ cQ
  have q3 : ws.cell? ⟨bq, 3, none⟩ = some (.slice Ap m' cp) := cell_of_row _ _ 3 _ _ _ cQ
  have q4 : ws.cell? ⟨bq, 4, none⟩ = some (.slice Av mu' cv) := cell_of_row _ _ 4 _ _ _ cQ
  have q5 : ws.cell? ⟨bq, 5, none⟩ = some (.slice Aw mb' cw) := cell_of_row _ _ 5 _ _ _ cQ
  have hlp : bp < ws.heap.size := by omega
  have hlq : bq < ws.heap.size := by omega
  have hk34 : Below y3.heap.size y3 ws := (KY.out.trans (K4.out.mono (by omega))).trans (hkw.mono (by omega))
  have RO := hide ((Rd.of_own OWN.out).next hk34)
  have RU := hide (ORU.out.erows.next hk34)
  have RB := hide (ORB.out.erows.next hk34)
  have SO := hide ((Rd.of_own OWN'.out).next hkw)
  have SU := hide (ORV.out.erows.next hkw)
  have SB := hide (ORW.out.erows.next hkw)
  have K34 := hide hk34
  have CPW := hide cPw
  have HBP := hide hbp
  have hwss2 : y4.heap.size + 1 ≤ ws.heap.size := by omega
  have hys2 : y3.heap.size + 1 ≤ y.heap.size := by omega
  have hzu2 : w.heap.size + 1 ≤ u.heap.size := by omega
  clear hws hwss hys hzu hkw cQ cPw hbp hbq hk34 OWN OWN' ORV ORW HY KY K4 CP4
  refine wp_region_held_drew (S := Kept ws) (by kernel_rfl) (Kept.drew ws) (fun hS0 => ?_)
  refine tk 0 36 ?_ ?_ ?_; rotate_left; (focus (intro w h; go_simp; (try with_reducible rfl))); (try simp only [xd, xe, xf])
  refine tk 1 37 ?_ ?_ ?_; rotate_left; (focus (intro w h; go_simp; (try with_reducible rfl))); (try simp only [xd, xe, xf])
  refine tk 2 38 ?_ ?_ ?_; rotate_left; (focus (intro w h; go_simp; (try with_reducible rfl))); (try simp only [xd, xe, xf])
  refine tk 3 39 ?_ ?_ ?_; rotate_left; (focus (intro w h; go_simp; (try with_reducible rfl))); (try simp only [xd, xe, xf])
  refine tk 4 40 ?_ ?_ ?_; rotate_left; (focus (intro w h; go_simp; (try with_reducible rfl))); (try simp only [xd, xe, xf])
  refine tk 6 42 ?_ ?_ ?_; rotate_left; (focus (intro w h; go_simp; (try with_reducible rfl))); (try simp only [xd, xe, xf])
  refine call_at (i := 5) (d := 41) (by simp only [xa, xb, xc]; rfl) rfl (by kernel_rfl) rfl (fun K hK => ?_)
  go_simp
  refine (plain_any _ P.wk P.ws P.vs (.slice Ao m' co) (.slice Au mu' cu) (.slice Ab mb' cb) ⟨_, _, _, rfl⟩ ⟨_, _, _, rfl⟩ ⟨_, _, _, rfl⟩).mono ?_
  rintro e y5 ⟨rfl, k5⟩
  have hS1 : Kept ws y5 := hS0.below (by simp) k5
  have K5 := hide (below_start k5)
  clear k5
  go_wp2_with fail
  refine hK.out _ _ hS1 (fun hSn => ?_)
  clear hK K
  try simp only [xd, xe, xf]
  refine call_at (i := 7) (d := 43) (by simp only [xa, xb, xc]; rfl) rfl (by kernel_rfl) rfl (fun K hK => ?_)
  go_simp
  refine (psame_any _ P.wk P.ws P.vs Ao Au Ab P.own P.out P.back m' co mu' cu mb' cb HM.out.1 HM.out.2.1 HM.out.2.2 (by omega) (by omega) (by omega) (rd_next RO.out K5.out) (er_next RU.out K5.out) (er_next RB.out K5.out) P.wk P.ws P.vs Ap Av Aw P.own P.out P.back m' cp mu' cv mb' cw HM.out.1 HM.out.2.1 HM.out.2.2 (by omega) (by omega) (by omega) (rd_next SO.out K5.out) (er_next SU.out K5.out) (er_next SB.out K5.out)).mono ?_
  rintro e y6 ⟨rfl, k6⟩
  rw [show (decide (P.wk = P.wk) && decide (P.ws = P.ws) && decide (P.vs = P.vs) && eqL P.own P.own && eqL P.out P.out && eqL P.back P.back) = true by simp [eqL_self]]
  have hS2 : Kept ws y6 := hS1.below K5.out.size k6
  have K6 := hide (K5.out.trans (k6.mono K5.out.size))
  clear k6
  go_wp2_with fail
  refine hK.out _ _ hS2 (fun hSn => ?_)
  clear hK K
  try simp only [xd, xe, xf]
  refine tk 8 44 ?_ ?_ ?_; rotate_left; (focus (intro w h; go_simp; (try with_reducible rfl))); (try simp only [xd, xe, xf])
  refine tk 9 45 ?_ ?_ ?_; rotate_left; (focus (intro w h; go_simp; (try with_reducible rfl))); (try simp only [xd, xe, xf])
  refine wpAnyH_done (by kernel_rfl) ?_ _
  clear hS0 hS1 hS2 hSn p0 q0 p1 q1 p2 q2 p3 q3 p4 q4 p5 q5 RO RU RB SO SU SB
  have hk36 : Below y3.heap.size y3 y6 := K34.out.trans (K6.out.mono K34.out.size)
  have hk26 : Hid (Below y2.heap.size y2 y6) := hide (K3.out.trans (hk36.mono (by omega)))
  have HR6 : Hid (HRows y6 y2.heap.size Au cu hu (P.out.map List.length)) := hide ((ORU.out.below hk36 (Nat.le_refl _)).hrows)
  have CP6 : Hid (y6.heap[bp]? = some (.cells #[.int .i64 P.wk, .int .i64 P.ws, .int .i64 P.vs, .slice Ao m' co, .slice Au mu' cu, .slice Ab mb' cb] 34)) := hide ((K6.out.block bp hlp).trans CPW.out)
  have hbp2 : y2.heap.size ≤ bp := by have h1 := HBP.out; rw [← h1]; exact hy3s
  clear hk36 K34 K6 CPW ORU ORB K3 HBP hlp hlq
  obtain ⟨ls, hls⟩ : ∃ ls, P.out.map List.length = ls := ⟨_, rfl⟩
  rw [hls] at HR6
  have HLS : Hid (ls.length = mu') := hide (by rw [← hls, List.length_map]; exact HM.out.2.1)
  have hsum : Hid (∀ i n, ls[i]? = some n → n ≤ 200) := hide (fun i n hn => by
   rw [← hls, ← HP.out] at hn
   exact Nat.le_trans (part_out_le hn) (by rw [HL.out]; exact hL3))
  clear hls
  go_wp2
  go_loopw [12] (fun v12 wr => ∃ i : Nat, i ≤ mu' ∧ v12 = .int .i64 i ∧ Hid (Below y2.heap.size y2 wr) ∧ Hid (HRows wr y2.heap.size Au cu hu ls) ∧ Hid (wr.heap[bp]? = some (.cells #[.int .i64 P.wk, .int .i64 P.ws, .int .i64 P.vs, .slice Ao m' co, .slice Au mu' cu, .slice Ab mb' cb] 34))) (fun v12 _ => mu' - (intOf v12).toNat)
  case atStart => exact ⟨0, by omega, rfl, hk26, HR6, CP6⟩
  case round =>
   clear hk26 HR6 CP6
   obtain ⟨i, hi, rfl, HBr, HRr, HCr⟩ := hrel
   obtain ⟨wo, rfl⟩ : ∃ x : World, x = wr := ⟨_, rfl⟩
   have g4 : wo.cell? ⟨bp, 4, none⟩ = some (.slice Au mu' cu) := cell_of_row _ _ 4 _ _ _ HCr.out
   by_cases hlt : i < mu'
   ·obtain ⟨nn, hnn⟩ : ∃ nn, ls[i]? = some nn := ⟨_, List.getElem?_eq_getElem (by rw [HLS.out]; exact hlt)⟩
    have HN := hide hnn
    have hn2 := hsum.out i nn hnn
    clear hnn
    go_wp2_with fail
    clear g4
    go_loopw [13] (fun v13 wr => ∃ j : Nat, j ≤ nn ∧ v13 = .int .i64 j ∧ Hid (Below y2.heap.size y2 wr) ∧ Hid (HRows wr y2.heap.size Au cu hu ls) ∧ Hid (wr.heap[bp]? = some (.cells #[.int .i64 P.wk, .int .i64 P.ws, .int .i64 P.vs, .slice Ao m' co, .slice Au mu' cu, .slice Ab mb' cb] 34))) (fun v13 _ => nn - (intOf v13).toNat)
    case atStart => exact ⟨0, by omega, rfl, HBr, HRr, HCr⟩
    case round =>
     clear HBr HRr HCr
     obtain ⟨j, hj, rfl, HBr, HRr, HCr⟩ := hrel
     have g4 : wr.cell? ⟨bp, 4, none⟩ = some (.slice Au mu' cu) := cell_of_row _ _ 4 _ _ _ HCr.out
     have hown := HRr.out.own
     rw [HLS.out] at hown
     obtain ⟨gu, hgu, _, hgl, hmc⟩ := own_addr hown (by omega)
     subst hgu
     have hil : i < hu.length := by have := hown.1; omega
     obtain ⟨A2, c2, he, hc3, hc4, hrow⟩ := HRr.out.row i _ nn (List.getElem?_eq_getElem hil) HN.out
     have gi : wr.cell? ⟨gu, i, none⟩ = some (.slice A2 nn c2) := (hown.cellAt i (by omega)).trans (by rw [List.getElem?_eq_getElem hil, he])
     have hI0 : (0 : Int) ≤ (i : Int) := by omega
     have hI1 : (i : Int) < (mu' : Int) := by omega
     have hlbp := lt_of_block HCr.out
     clear hown he
     by_cases hlt2 : j < nn
     ·rcases hrow with h0 | ⟨g2, cur, rfl, hg2, hcur, hcs⟩
      ·exact absurd h0 (by omega)
      obtain ⟨cv, q1⟩ : ∃ cv, wr.cell? ⟨g2, j * 3 + 1, none⟩ = some cv := ⟨_, by rw [cell_of_row _ _ _ _ _ _ hcur]; exact Array.getElem?_eq_getElem (by omega)⟩
      have qf : wr.frozen? ⟨g2, j * 3 + 1, none⟩ = false := frozen_of_row _ _ _ _ _ hcur
      have hJ0 : (0 : Int) ≤ (j : Int) := by omega
      have hJ1 : (j : Int) < (nn : Int) := by omega
      have HR2 := hide (HRr.out.store hcur (j * 3 + 1) (.int .i64 (-9)))
      have HB2' := hide (HBr.out.setCell (p := ⟨g2, j * 3 + 1, none⟩) hg2 (.int .i64 (-9)))
      have hne : bp ≠ g2 := fun e => by
       subst e
       have := hcur.symm.trans HCr.out
       injection this with this
       injection this with _ e2
       exact absurd e2 (by decide)
      have HC2 := hide ((Below.heap_setCell wr ⟨g2, j * 3 + 1, none⟩ (.int .i64 (-9)) bp hne).trans HCr.out)
      have hlg2 := lt_of_block hcur
      clear hcur hcs HRr HBr HCr hne
      go_wp2
      go_roundw
      case rel => exact ⟨j + 1, by omega, by go_num, HB2', HR2, HC2⟩
      case measure => simp [intOf]; omega
     ·obtain rfl : j = nn := by omega
      clear hrow
      go_wp2
      go_roundw
      case rel => exact ⟨i + 1, by omega, by go_num, HBr, HRr, HCr⟩
      case measure => simp [intOf]; omega
   ·obtain rfl : i = mu' := by omega
    have g1 : wo.cell? ⟨w.heap.size, 1, none⟩ = some (.slice A L c) := (HBr.out.cell (p := ⟨w.heap.size, 1, none⟩) (by show w.heap.size < _; omega)).trans (cell_of_row _ _ 1 _ _ _ GU2.out)
    have EA := hide (OW2.out.next HBr.out)
    have EB := hide (E2.out.next HBr.out)
    have hB := hide (HB2.out.trans (HBr.out.mono (by omega)))
    have hlw : w.heap.size < wo.heap.size := by have := HBr.out.size; omega
    go_wp2_with fail
    refine (sameEdges_any wo Ac A es es L L cc c HL.out HL.out (by omega) EA.out EB.out).mono ?_
    rintro e y7 ⟨rfl, k7⟩
    rw [eqL_self]
    have hB7 := hide (hB.out.trans (k7.mono (by omega)))
    clear k7 g1 g4
    go_wp2_with fail
    refine (works_any _).mono ?_
    rintro e y8 ⟨rfl, k8⟩
    have hB8 := hide (hB7.out.trans (k8.mono hB7.out.size))
    clear k8
    go_wp2
    go_ret
    exact ⟨rfl, hB8.out⟩
 ·have hl2 : decide ((L : Int) ≤ 200) = false := decide_eq_false hlight
  go_enter Try.func4, Try.ntmps4
  go_wp2_with fail
  rw [HU.out]
  refine (light_any _ V A L c 200).mono ?_
  rintro e y1 ⟨rfl, k1⟩
  rw [hl2]
  have HB1 := hide (HB.out.trans (k1.mono (by omega)))
  clear k1
  go_wp2_with fail
  refine (works_any _).mono ?_
  rintro e y2 ⟨rfl, k2⟩
  have HB2 := hide (HB1.out.trans (k2.mono HB1.out.size))
  clear k2
  go_wp2
  go_ret
  exact ⟨rfl, HB2.out⟩
end Go.Proofs.Ytihdpfjonkagaaa
