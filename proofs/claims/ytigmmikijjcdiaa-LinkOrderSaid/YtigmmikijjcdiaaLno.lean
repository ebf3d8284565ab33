/- The net's methods: what goes on its way. (printed by gen/lno.py) -/
import Derived.Test.YtigmmikijjcdiaaProg
import Derived.Test.YtigmmikijjcdiaaLnt
import Derived.Test.YtigmmikijjcdiaaLkz
import Derived.Test.YtigmmikijjcdiaaRgl
import Derived.Test.YtigmmikijjcdiaaRg2
import Derived.Deep.DeepCutAuto
import Derived.Lib.Hide
import Derived.WalkSpells
import Derived.WalkMore
import Derived.IntWalk
namespace Go.Proofs.Ytigmmikijjcdiaa
open Go.RowKit
set_option linter.unusedVariables false
set_option linter.unusedSimpArgs false
/-- bytes in a block of their own kind -/
def RdT (w : World) (A : Option Addr) (f : BL) : Prop := f ≠ [] → ∃ b off cur, A = some ⟨b, off, none⟩ ∧ w.heap[b]? = some (.cells cur 5 (0, 0)) ∧ ∀ j u, (u8s f)[j]? = some u → cur[off + j]? = some u
theorem RdT.rd {w : World} {A : Option Addr} {f : BL} (h : RdT w A f) : Rd w w.heap.size A (u8s f) := fun hn => by
  obtain ⟨b, off, cur, h1, h2, h3⟩ := h (by rintro rfl; exact hn rfl)
  exact ⟨b, off, h1, lt_of_block h2, fun j u hu => (cell_of_row _ _ _ _ _ _ h2).trans (h3 j u hu)⟩
theorem RdT.keep {w w' : World} {A : Option Addr} {f : BL} (h : RdT w A f) (hk : ∀ (g : Nat) (cur : Array Value), w.heap[g]? = some (.cells cur 5 (0, 0)) → w'.heap[g]? = w.heap[g]?) : RdT w' A f := fun hn => by
  obtain ⟨b, off, cur, h1, h2, h3⟩ := h hn
  exact ⟨b, off, cur, h1, (hk b cur h2).trans h2, h3⟩
theorem RdT.conv {w : World} {A : Option Addr} {f : BL} {n c : Nat} (h : RdT w A f) (hn : f.length = n) : (convert 23 9 (.slice A n c)).run Try.prog w = .ok (.string ⟨f.toArray⟩) w := by
  subst hn
  exact run_string_of w 23 9 5 A c _ f Try.underlying23 Try.underlying5 Try.underlying9 h.rd
/-- a row of rows of bytes, with the kinds of its blocks -/
theorem FRw.get {w : World} {B : Nat} {A : Option Addr} {n c : Nat} {fs : List BL} (h : FRw w B (.slice A n c) fs) {i : Nat} {f : BL} (hf : fs[i]? = some f) : n = fs.length ∧ ∃ g Af cf cur, A = some ⟨g, 0, none⟩ ∧ w.heap[g]? = some (.cells cur 23 (0, 0)) ∧ cur[i]? = some (.slice Af f.length cf) ∧ RdT w Af f ∧ (f ≠ [] → f.length ≤ cf ∧ cf ≤ 9223372036854775807) := by
  obtain ⟨own, tg, A', c', vs, h1, ⟨hlen, h2⟩, h3, h4⟩ := h
  injection h1 with e1 e2 e3
  subst e1 e3
  have hlf := (List.getElem?_eq_some_iff.1 hf).1
  obtain ⟨u, hu⟩ : ∃ u, vs[i]? = some u := ⟨_, List.getElem?_eq_getElem (by omega)⟩
  have hby := h3 i u f hu hf
  obtain ⟨Af, cf, rfl, _, hc⟩ := hby.rd
  refine ⟨e2, ?_⟩
  rcases h2 with ⟨_, h0⟩ | ⟨g, cap, cur, hv, hg, hcg, hn, hm, hs, ht⟩
  · omega
  · injection hv with hA _ hv
    refine ⟨g, Af, cf, cur, hA, hcg, ?_, fun hne => ?_, hc⟩
    · rw [← ht, List.getElem?_take, if_pos (by omega)] at hu
      simpa using hu
    · obtain ⟨⟨q1, q2⟩, _⟩ := hby.2 hne
      rcases q2 with ⟨q0, _⟩ | ⟨g', cap', cur', hv', hg', hcg', hn', hm', hs', ht'⟩
      · injection q0 with _ q0 _
        exact absurd (List.eq_nil_of_length_eq_zero q0) hne
      · injection hv' with hA' _ _
        refine ⟨g', 0, cur', hA', hcg', fun j u hu => ?_⟩
        rw [← ht', List.getElem?_take] at hu
        split at hu
        · simpa using hu
        · cases hu
theorem frozen_at {x y : World} {L k a B : Nat} {tag : Nat → Option (Nat × Nat)} {v : Value} {xs : List BL} {ls : List (List BL)} (hs : ∀ g, g < x.heap.size → v.ownBlock ≠ some g → y.heap[g]? = x.heap[g]?) (h : SRows x L tag k B ls) (hold : StrRow x L tag (k, a) v xs) (i : Nat) : y.frozen? ⟨B, i, none⟩ = false := by
  obtain ⟨vs, q1, _⟩ := h
  refine frozen_of_row _ _ i vs.toArray 48 ((hs B (lt_of_block q1) fun e => ?_).trans q1)
  obtain ⟨cur, hc⟩ := own_type hold.2.1 B e
  exact row_ne hc q1 (by decide) rfl
/-- a cell of another kind of block stays -/
theorem cell_at {x y : World} {L k a g : Nat} {tag : Nat → Option (Nat × Nat)} {v : Value} {xs : List BL} {cur : Array Value} {T : TypeId} (hs : ∀ g, g < x.heap.size → v.ownBlock ≠ some g → y.heap[g]? = x.heap[g]?) (hold : StrRow x L tag (k, a) v xs) (hc : x.heap[g]? = some (.cells cur T (0, 0))) (hT : T ≠ 9) : y.heap[g]? = x.heap[g]? := by
  refine hs g (lt_of_block hc) fun e => ?_
  obtain ⟨cur', hc'⟩ := own_type hold.2.1 g e
  exact row_ne hc hc' hT rfl
def goesF (way : List BL) (fs : List BL) : List BL := fs.foldl (fun wy f => if wy.length < 100 then wy ++ [f] else wy) way
def GoesPost (w : World) (L W E Y U T P1 P2 a : Nat) (ways puts gots : List (List BL)) (fs : List BL) (e : Ending) (w' : World) : Prop := e = .returned (.tuple #[]) ∧ (∃ tag', NetM w' L W E Y U T P1 P2 tag' (ways.set a (goesF (ways.getD a []) fs)) puts gots false) ∧ ModN L w w'
theorem goesF_snoc (way fs : List BL) (f : BL) : goesF way (fs ++ [f]) = if (goesF way fs).length < 100 then goesF way fs ++ [f] else goesF way fs := by
  unfold goesF
  rw [List.foldl_append]
  rfl
theorem goesF_len {way : List BL} (h : way.length ≤ 100) : ∀ fs, (goesF way fs).length ≤ 100 := by
  intro fs
  unfold goesF
  induction fs generalizing way with
  | nil => exact h
  | cons f fs ih =>
    rw [List.foldl_cons]
    apply ih
    split
    · simp; omega
    · exact h
theorem goesF_mem {way fs : List BL} {f : BL} (h : f ∈ goesF way fs) : f ∈ way ∨ f ∈ fs := by
  unfold goesF at h
  induction fs generalizing way with
  | nil => exact .inl h
  | cons g fs ih =>
    rw [List.foldl_cons] at h
    rcases ih h with h | h
    · split at h
      · rcases List.mem_append.1 h with h | h
        · exact .inl h
        · simp at h; subst h; exact .inr (by simp)
      · exact .inl h
    · exact .inr (List.mem_cons_of_mem _ h)
theorem set_same {ways : List (List BL)} {a : Nat} {way : List BL} {fs : List BL} (h : ways[a]? = some way) : ways.set a (goesF way (fs.take 0)) = ways := by
  obtain ⟨hl, he⟩ := List.getElem?_eq_some_iff.1 h
  rw [List.take_zero]
  show ways.set a way = ways
  rw [← he, List.set_getElem_self]
set_option maxRecDepth 100000 in
set_option maxHeartbeats 16000000 in
theorem goes_any (w : World) {L W E Y U T P1 P2 : Nat} {tag : Nat → Option (Nat × Nat)} {ways puts gots : List (List BL)} (hN : NetM w L W E Y U T P1 P2 tag ways puts gots false) (a : Nat) (ha : a < 2) (hw : ∀ wy, ways[a]? = some wy → wy.length ≤ 100) (B : Nat) (v : Value) (fs : List BL) (hF : FRw w B v fs) (hfl : fs.length ≤ 1000000) :
    Calls Try.prog 33 #[.pointer (some ⟨W, 0, none⟩), .int .i64 (a : Int), v] w (GoesPost w L W E Y U T P1 P2 a ways puts gots fs) := by
  have hlen := hN.len.1
  obtain ⟨way, hway⟩ : ∃ z, ways[a]? = some z := ⟨_, List.getElem?_eq_getElem (by omega)⟩
  have hwl := hw way hway
  obtain ⟨Af, cf, rfl⟩ := hF.rd.form
  obtain ⟨n, hn⟩ : ∃ z, fs.length = z := ⟨_, rfl⟩
  rw [hn] at hF hfl ⊢
  have HN := hide hn
  have HW0 := hide hway
  have HA0 := hide ha
  have ha0 : (0 : Int) ≤ (a : Int) := by omega
  have ha1 : (a : Int) < 2 := by omega
  have HNM0 : Hid (NetM w L W E Y U T P1 P2 tag (ways.set a (goesF way (fs.take 0))) puts gots false) := hide (by rw [set_same hway]; exact hN)
  have HF0 := hide hF
  clear hn hway hN hF hw
  go_enter Try.func33, Try.ntmps33
  go_wp2
  go_loopw [6] (fun v6 wr => ∃ (i : Nat) (tag0 : Nat → Option (Nat × Nat)), i ≤ n ∧ v6 = .int .i64 (i : Int) ∧ Hid (NetM wr L W E Y U T P1 P2 tag0 (ways.set a (goesF way (fs.take i))) puts gots false) ∧ Hid (ModN L w wr) ∧ Hid (FRw wr B (.slice Af n cf) fs)) (fun v6 _ => n - (intOf v6).toNat)
  case atStart => exact ⟨0, tag, by omega, rfl, HNM0, hide (ModN.of_below (Below.refl _ _)), HF0⟩
  case round =>
    clear HNM0 HF0
    obtain ⟨i, tag0, hi, rfl, hM, hMod, hF⟩ := hrel
    obtain ⟨x, rfl⟩ : ∃ z : World, z = wr := ⟨_, rfl⟩
    by_cases hlt : i < n
    · have hI1 : (i : Int) < (n : Int) := by omega
      have hI0 : (0 : Int) ≤ (i : Int) := by omega
      obtain ⟨f, hf⟩ : ∃ f, fs[i]? = some f := ⟨_, List.getElem?_eq_getElem (by rw [HN.out]; exact hlt)⟩
      obtain ⟨-, g, Ar, cr, cur, rfl, hg, hci, hrt, -⟩ := hF.out.get hf
      obtain ⟨xs, hxs⟩ : ∃ z, goesF way (fs.take i) = z := ⟨_, rfl⟩
      have hxl : xs.length ≤ 100 := by rw [← hxs]; exact goesF_len hwl _
      rw [hxs] at hM
      have hax : (ways.set a xs)[a]? = some xs := by rw [List.getElem?_set_self (by omega)]
      obtain ⟨v0, hv0, hR0⟩ := hM.out.way.at_ hax
      obtain ⟨A0, c0, rfl, -, -, -⟩ := hR0.rd
      obtain ⟨n0, hn0⟩ : ∃ z, xs.length = z := ⟨_, rfl⟩
      rw [hn0] at hv0 hxl
      have HR0 : Hid (StrRow x L tag0 (0, a) (.slice A0 n0 c0) xs) := hide (by rw [← hn0]; exact hR0)
      have HN0 := hide hn0
      have HRo : Hid (x.ownsRow L 9 1 (.slice A0 n0 c0) n0 (strs xs)) := hide (by have h := HR0.out.2.1; rwa [hn0] at h)
      obtain ⟨fl, hfl2⟩ : ∃ z, f.length = z := ⟨_, rfl⟩
      rw [hfl2] at hci
      have HFl := hide hfl2
      have HXs := hide hxs
      have HFi := hide hf
      have HG := hide hg
      have HCi := hide hci
      have HRt := hide hrt
      have e1 : x.cell? ⟨W, 1, none⟩ = some (.slice (some ⟨Y, 0, none⟩) 2 2) := cell_of_row _ _ 1 _ _ _ hM.out.wd
      have e2 : x.cell? ⟨g, i, none⟩ = some (.slice Ar fl cr) := (cell_of_row _ _ i _ _ _ hg).trans hci
      have hWx : W < x.heap.size := lt_of_block hM.out.wd
      have hYx : Y < x.heap.size := hM.out.way.lt
      have hgx : g < x.heap.size := lt_of_block hg
      clear hR0 hn0 hfl2 hxs hf hg hci hrt
      by_cases hfull : n0 < 100
      · have q1 : (n0 : Int) < 100 := by omega
        go_upto_region 4 with fail
        have hLx : L ≤ x.heap.size := by have := hM.out.lo; have := hM.out.way.lt; omega
        obtain ⟨i3, a3i, a3z, a3s, a3b⟩ := info_parts (show (Try.prog.info? 9).map (fun i => (i.zero, i.size, i.bytes)) = some (some (.string ⟨#[]⟩), 1, 16) by kernel_rfl)
        refine wpL_region (S := (fun w9 : World => w9.cell? ⟨W, 1, none⟩ = some (.slice (some ⟨Y, 0, none⟩) 2 2) ∧ w9.cell? ⟨Y, a, none⟩ = some (.slice A0 n0 c0) ∧ w9.cell? ⟨g, i, none⟩ = some (.slice Ar fl cr) ∧ RdT w9 Ar f)) [20] (by kernel_rfl) ⟨e1, hv0, e2, HRt.out⟩ (fun hS0 => ?_)
        refine takeL_at (i := 0) (d := 22) (v := ?_) (by simp only [List.getElem?_toArray, List.getElem?_cons_succ, List.getElem?_cons_zero]; rfl) rfl (by kernel_rfl) (by kernel_rfl) (by kernel_rfl) (by kernel_rfl) (fun _ _ _ h => h) rfl ?_ (by assumption) ?_
        rotate_left
        focus (intro w hSw; go_simp; (try with_reducible rfl); done)
        try simp only [List.setIfInBounds_toArray, List.set_cons_zero, List.set_cons_succ]
        refine takeL_at (i := 1) (d := 23) (v := ?_) (by simp only [List.getElem?_toArray, List.getElem?_cons_succ, List.getElem?_cons_zero]; rfl) rfl (by kernel_rfl) (by kernel_rfl) (by kernel_rfl) (by kernel_rfl) (fun _ _ _ h => h) rfl ?_ (by assumption) ?_
        rotate_left
        focus (intro w hSw; go_simp; (try with_reducible rfl); done)
        try simp only [List.setIfInBounds_toArray, List.set_cons_zero, List.set_cons_succ]
        refine takeL_at (i := 2) (d := 24) (v := ?_) (by simp only [List.getElem?_toArray, List.getElem?_cons_succ, List.getElem?_cons_zero]; rfl) rfl (by kernel_rfl) (by kernel_rfl) (by kernel_rfl) (by kernel_rfl) (fun _ _ _ h => h) rfl ?_ (by assumption) ?_
        rotate_left
        focus (intro w hSw; go_simp; (try with_reducible rfl); done)
        try simp only [List.setIfInBounds_toArray, List.set_cons_zero, List.set_cons_succ]
        refine takeL_at (i := 3) (d := 25) (v := ?_) (by simp only [List.getElem?_toArray, List.getElem?_cons_succ, List.getElem?_cons_zero]; rfl) rfl (by kernel_rfl) (by kernel_rfl) (by kernel_rfl) (by kernel_rfl) (fun _ _ _ h => h) rfl ?_ (by assumption) ?_
        rotate_left
        focus (intro w hSw; go_simp; (try with_reducible rfl); done)
        try simp only [List.setIfInBounds_toArray, List.set_cons_zero, List.set_cons_succ]
        refine takeL_at (i := 4) (d := 26) (v := ?_) (by simp only [List.getElem?_toArray, List.getElem?_cons_succ, List.getElem?_cons_zero]; rfl) rfl (by kernel_rfl) (by kernel_rfl) (by kernel_rfl) (by kernel_rfl) (fun _ _ _ h => h) rfl ?_ (by assumption) ?_
        rotate_left
        focus (intro w hSw; go_simp; (try with_reducible rfl); done)
        try simp only [List.setIfInBounds_toArray, List.set_cons_zero, List.set_cons_succ]
        refine takeL_at (i := 5) (d := 27) (v := ?_) (by simp only [List.getElem?_toArray, List.getElem?_cons_succ, List.getElem?_cons_zero]; rfl) rfl (by kernel_rfl) (by kernel_rfl) (by kernel_rfl) (by kernel_rfl) (fun _ _ _ h => h) rfl ?_ (by assumption) ?_
        rotate_left
        focus (intro w hSw; go_simp; (try with_reducible rfl); done)
        try simp only [List.setIfInBounds_toArray, List.set_cons_zero, List.set_cons_succ]
        refine takeL_at (i := 6) (d := 28) (v := ?_) (by simp only [List.getElem?_toArray, List.getElem?_cons_succ, List.getElem?_cons_zero]; rfl) rfl (by kernel_rfl) (by kernel_rfl) (by kernel_rfl) (by kernel_rfl) (fun _ _ _ h => h) rfl ?_ (by assumption) ?_
        rotate_left
        focus (intro w hSw; go_simp; (try with_reducible rfl); done)
        try simp only [List.setIfInBounds_toArray, List.set_cons_zero, List.set_cons_succ]
        refine takeL_at (i := 7) (d := 29) (v := ?_) (by simp only [List.getElem?_toArray, List.getElem?_cons_succ, List.getElem?_cons_zero]; rfl) rfl (by kernel_rfl) (by kernel_rfl) (by kernel_rfl) (by kernel_rfl) (fun _ _ _ h => h) rfl ?_ (by assumption) ?_
        rotate_left
        focus (intro w hSw; go_simp; (try with_reducible rfl); done)
        try simp only [List.setIfInBounds_toArray, List.set_cons_zero, List.set_cons_succ]
        refine takeL_at (i := 8) (d := 30) (v := ?_) (by simp only [List.getElem?_toArray, List.getElem?_cons_succ, List.getElem?_cons_zero]; rfl) rfl (by kernel_rfl) (by kernel_rfl) (by kernel_rfl) (by kernel_rfl) (fun _ _ _ h => h) rfl ?_ (by assumption) ?_
        rotate_left
        focus (intro w hSw; go_simp; (try with_reducible rfl); done)
        try simp only [List.setIfInBounds_toArray, List.set_cons_zero, List.set_cons_succ]
        refine takeL_at (i := 9) (d := 31) (v := ?_) (by simp only [List.getElem?_toArray, List.getElem?_cons_succ, List.getElem?_cons_zero]; rfl) rfl (by kernel_rfl) (by kernel_rfl) (by kernel_rfl) (by kernel_rfl) (fun _ _ _ h => h) rfl ?_ (by assumption) ?_
        rotate_left
        focus (intro w hSw; go_simp; (try with_reducible rfl); done)
        try simp only [List.setIfInBounds_toArray, List.set_cons_zero, List.set_cons_succ]
        refine takeL_at (i := 10) (d := 32) (v := ?_) (by simp only [List.getElem?_toArray, List.getElem?_cons_succ, List.getElem?_cons_zero]; rfl) rfl (by kernel_rfl) (by kernel_rfl) (by kernel_rfl) (by kernel_rfl) (fun _ _ _ h => h) rfl ?_ (by assumption) ?_
        rotate_left
        focus (intro w hSw; go_simp; (try with_reducible rfl); done)
        try simp only [List.setIfInBounds_toArray, List.set_cons_zero, List.set_cons_succ]
        refine takeL_at (i := 11) (d := 33) (v := ?_) (by simp only [List.getElem?_toArray, List.getElem?_cons_succ, List.getElem?_cons_zero]; rfl) rfl (by kernel_rfl) (by kernel_rfl) (by kernel_rfl) (by kernel_rfl) (fun _ _ _ h => h) rfl ?_ (by assumption) ?_
        rotate_left
        focus (intro w hSw; go_simp; (try with_reducible rfl); done)
        try simp only [List.setIfInBounds_toArray, List.set_cons_zero, List.set_cons_succ]
        refine takeL_at (i := 12) (d := 34) (v := ?_) (by simp only [List.getElem?_toArray, List.getElem?_cons_succ, List.getElem?_cons_zero]; rfl) rfl (by kernel_rfl) (by kernel_rfl) (by kernel_rfl) (by kernel_rfl) (fun _ _ _ h => h) rfl ?_ (by assumption) ?_
        rotate_left
        focus (intro w hSw; go_simp; (try with_reducible rfl); done)
        try simp only [List.setIfInBounds_toArray, List.set_cons_zero, List.set_cons_succ]
        refine takeL_at (i := 13) (d := 35) (v := ?_) (by simp only [List.getElem?_toArray, List.getElem?_cons_succ, List.getElem?_cons_zero]; rfl) rfl (by kernel_rfl) (by kernel_rfl) (by kernel_rfl) (by kernel_rfl) (fun _ _ _ h => h) rfl ?_ (by assumption) ?_
        rotate_left
        focus (intro w hSw; go_simp; (try with_reducible rfl); done)
        try simp only [List.setIfInBounds_toArray, List.set_cons_zero, List.set_cons_succ]
        refine takeL_at (i := 14) (d := 36) (v := ?_) (by simp only [List.getElem?_toArray, List.getElem?_cons_succ, List.getElem?_cons_zero]; rfl) rfl (by kernel_rfl) (by kernel_rfl) (by kernel_rfl) (by kernel_rfl) (fun _ _ _ h => h) rfl ?_ (by assumption) ?_
        rotate_left
        focus (intro w hSw; go_simp; (try with_reducible rfl); done)
        try simp only [List.setIfInBounds_toArray, List.set_cons_zero, List.set_cons_succ]
        refine takeL_at (i := 15) (d := 37) (v := ?_) (by simp only [List.getElem?_toArray, List.getElem?_cons_succ, List.getElem?_cons_zero]; rfl) rfl (by kernel_rfl) (by kernel_rfl) (by kernel_rfl) (by kernel_rfl) (fun _ _ _ h => h) rfl ?_ (by assumption) ?_
        rotate_left
        focus (intro w hSw; go_simp; (try with_reducible rfl); done)
        try simp only [List.setIfInBounds_toArray, List.set_cons_zero, List.set_cons_succ]
        refine takeL_at (i := 16) (d := 38) (v := ?_) (by simp only [List.getElem?_toArray, List.getElem?_cons_succ, List.getElem?_cons_zero]; rfl) rfl (by kernel_rfl) (by kernel_rfl) (by kernel_rfl) (by kernel_rfl) (fun _ _ _ h => h) rfl ?_ (by assumption) ?_
        rotate_left
        focus (intro w hSw; have hh := hSw.2.2.2.conv (c := cr) HFl.out; go_simp; (try with_reducible rfl); done)
        try simp only [List.setIfInBounds_toArray, List.set_cons_zero, List.set_cons_succ]
        refine callL_at (i := 17) (d := 39) (by simp only [List.getElem?_toArray, List.getElem?_cons_succ, List.getElem?_cons_zero]; rfl) rfl (by kernel_rfl) rfl (fun K hK => ?_)
        go_simp
        obtain ⟨y4, hy⟩ : ∃ z, (x.alloc (.cells #[.string ⟨(f).toArray⟩] 9)).drew = z := ⟨_, rfl⟩
        have HY4 : Hid (Below x.heap.size x y4) := hide (by rw [← hy]; exact ((Below.refl _ _).alloc (Nat.le_refl _) _).drew)
        have HO1 : Hid (y4.heap[x.heap.size]? = some (.cells #[.string ⟨(f).toArray⟩] 9)) := hide (by rw [← hy]; exact heap_alloc_last x _)
        rw [hy]
        clear hy
        have hS4 : y4.cell? ⟨W, 1, none⟩ = some (.slice (some ⟨Y, 0, none⟩) 2 2) ∧ y4.cell? ⟨Y, a, none⟩ = some (.slice A0 n0 c0) ∧ y4.cell? ⟨g, i, none⟩ = some (.slice Ar fl cr) ∧ RdT y4 Ar f := ⟨(HY4.out.cell (p := ⟨W, 1, none⟩) hWx).trans e1, (HY4.out.cell (p := ⟨Y, a, none⟩) hYx).trans hv0, (HY4.out.cell (p := ⟨g, i, none⟩) hgx).trans e2, HRt.out.keep fun g' cur' hc' => HY4.out.block g' (lt_of_block hc')⟩
        refine hK.out _ _ hS4 (fun hSn => ?_)
        clear hK K
        try simp only [List.setIfInBounds_toArray, List.set_cons_zero, List.set_cons_succ]
        refine callL_at (i := 18) (d := 40) (by simp only [List.getElem?_toArray, List.getElem?_cons_succ, List.getElem?_cons_zero]; rfl) rfl (by kernel_rfl) rfl (fun K hK => ?_)
        refine op_app (.tmp 33) (.tmp 39) 48 rfl L 9 i3 (.string ⟨#[]⟩) 1 16 Try.underlying48 a3i a3z a3s a3b rfl (by decide) (.slice A0 n0 c0) n0 (strs xs) rfl (own_below HRo.out HY4.out (fun g hg => (HRo.out.lt g hg).2)) y4.heap.size (some ⟨x.heap.size, 0, none⟩) 1 1 [.string ⟨(f).toArray⟩] rfl rfl (rd_cells HO1.out) (by simp [Value.oneCell']) (by unfold maxLen; omega) (by omega) (Nat.le_trans hLx HY4.out.size) ?_
        intro A8 c8 y5 own5 hg5 hat5
        have HOwn : Hid (y5.ownsRow L 9 1 (.slice A8 (n0 + 1) c8) (n0 + 1) (strs (xs ++ [f]))) := hide (by rw [strs_app]; exact own5)
        have HG5 := hide hg5
        have HA5 := hide hat5
        have HSm : Hid (∀ g, g < x.heap.size → (Value.slice A0 n0 c0).ownBlock ≠ some g → y5.heap[g]? = x.heap[g]?) := hide (fun g hl hne => (HG5.out.block g (Nat.lt_of_lt_of_le hl HY4.out.size) (fun e => hne e.symm)).trans (HY4.out.block g hl))
        have HNw : Hid (∀ g, (Value.slice A8 (n0 + 1) c8).ownBlock = some g → (Value.slice A0 n0 c0).ownBlock = some g ∨ x.heap.size ≤ g) := hide (fun g hg => by rcases HA5.out with h | h; exact .inl (by rw [← h]; exact hg); right; rw [h] at hg; injection hg with hg; rw [← hg]; exact HY4.out.size)
        have HSz : Hid (x.heap.size ≤ y5.heap.size ∧ Env x y5) := hide ⟨Nat.le_trans HY4.out.size HG5.out.size, (Env.of_below HY4.out).grown HG5.out⟩
        have hS5 : y5.cell? ⟨W, 1, none⟩ = some (.slice (some ⟨Y, 0, none⟩) 2 2) ∧ y5.cell? ⟨Y, a, none⟩ = some (.slice A0 n0 c0) ∧ y5.cell? ⟨g, i, none⟩ = some (.slice Ar fl cr) ∧ RdT y5 Ar f := by
          obtain ⟨vs, q1, _⟩ := hM.out.way
          exact ⟨(World.cell?_of_block (cell_at HSm.out HR0.out hM.out.wd (by decide))).trans e1, (World.cell?_of_block (cell_at HSm.out HR0.out q1 (by decide))).trans hv0, (World.cell?_of_block (cell_at HSm.out HR0.out HG.out (by decide))).trans e2, HRt.out.keep fun g' cur' hc' => cell_at HSm.out HR0.out hc' (by decide)⟩
        clear own5 hg5 hat5
        refine hK.out _ _ hS5 (fun hSn => ?_)
        clear hK K
        simp only [Act.put]
        try simp only [List.setIfInBounds_toArray, List.set_cons_zero, List.set_cons_succ]
        refine takeL_at (i := 19) (d := 41) (v := ?_) (by simp only [List.getElem?_toArray, List.getElem?_cons_succ, List.getElem?_cons_zero]; rfl) rfl (by kernel_rfl) (by kernel_rfl) (by kernel_rfl) (by kernel_rfl) (fun _ _ _ h => h) rfl ?_ (by assumption) ?_
        rotate_left
        focus (intro w hSw; go_simp; (try with_reducible rfl); done)
        try simp only [List.setIfInBounds_toArray, List.set_cons_zero, List.set_cons_succ]
        refine exL_at (i := 20) (by simp only [List.getElem?_toArray, List.getElem?_cons_succ, List.getElem?_cons_zero]; rfl) (by kernel_rfl) rfl (by kernel_rfl) (fun K hK => ?_)
        have z5 : y5.frozen? ⟨Y, a, none⟩ = false := frozen_at HSm.out hM.out.way HR0.out _
        go_wp2_with fail
        refine hK.out _ _ ?_
        clear hK K
        try simp only [List.setIfInBounds_toArray, List.set_cons_zero, List.set_cons_succ]
        refine wpAnyL_done (by kernel_rfl) ?_ _
        clear hS0 hSn hS4 hS5
        skip
        have HSm1 := HSm
        have HNew : Hid (NetM (y5.setCell ⟨Y, a, none⟩ (.slice A8 (n0 + 1) c8)) L W E Y U T P1 P2 (tagN tag0 (.slice A8 (n0 + 1) c8) (0, a)) (ways.set a (goesF way (fs.take (i + 1)))) puts gots false) := hide (by
          have h := hM.out.updWay hax HR0.out HSz.out.1 HSm.out HNw.out (xs' := xs ++ [f]) ⟨A8, c8, by simp [HN0.out]⟩ (by rw [List.length_append, HN0.out]; exact HOwn.out)
          rw [List.set_set] at h
          have e : goesF way (fs.take (i + 1)) = xs ++ [f] := by rw [List.take_add_one, HFi.out]; show goesF way (fs.take i ++ [f]) = _; rw [goesF_snoc, HXs.out, if_pos (by rw [HN0.out]; exact hfull)]
          rw [e]
          exact h)
        have HMd : Hid (ModN L x (y5.setCell ⟨Y, a, none⟩ (.slice A8 (n0 + 1) c8))) := hide (modn_upd HR0.out hM.out.blkT.1 hM.out.lo.2.1 HSz.out.1 HSz.out.2 HSm.out)
        have HMd2 := hide (hMod.out.trans HMd.out)
        have HF2 := hide (hF.out.modn HMd.out)
        go_wp2
        go_roundw
        case rel => exact ⟨i + 1, _, by omega, by go_num, HNew, HMd2, HF2⟩
        case measure => simp [intOf]; omega
      have q1 : ¬ (n0 : Int) < 100 := by omega
      have HNew : Hid (NetM x L W E Y U T P1 P2 tag0 (ways.set a (goesF way (fs.take (i + 1)))) puts gots false) := hide (by
        have e : goesF way (fs.take (i + 1)) = xs := by rw [List.take_add_one, HFi.out]; show goesF way (fs.take i ++ [f]) = _; rw [goesF_snoc, HXs.out, if_neg (by rw [HN0.out]; exact hfull)]
        rw [e]
        exact hM.out)
      go_wp2
      go_roundw
      case rel => exact ⟨i + 1, tag0, by omega, by go_num, HNew, hMod, hF⟩
      case measure => simp [intOf]; omega
    have hI1 : ¬ (i : Int) < (n : Int) := by omega
    obtain rfl : i = n := by omega
    have HFin : Hid (NetM x L W E Y U T P1 P2 tag0 (ways.set a (goesF way fs)) puts gots false) := hide (by have h := hM.out; rwa [List.take_of_length_le (by rw [HN.out]; exact Nat.le_refl _)] at h)
    have HEx : Hid (∃ tag', NetM x L W E Y U T P1 P2 tag' (ways.set a (goesF (ways.getD a []) fs)) puts gots false) := hide ⟨tag0, by rw [List.getD_eq_getElem?_getD, HW0.out]; exact HFin.out⟩
    go_wp2
    go_end0
    exact ⟨rfl, HEx.out, hMod.out⟩
end Go.Proofs.Ytigmmikijjcdiaa
