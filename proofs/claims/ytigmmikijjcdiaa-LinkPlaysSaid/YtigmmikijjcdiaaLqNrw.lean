/- Rows that are told are compared, then spoilt: law18.rows. (printed by gen/nrw.py) -/
import Derived.Test.YtigmmikijjcdiaaProg
import Derived.Test.YtigmmikijjcdiaaLqRfm
import Derived.Deep.DeepCutAuto
import Derived.Lib.Hide
import Derived.WalkSpells
import Derived.WalkMore
import Derived.IntWalk







namespace Go.Proofs.Ytigmmikijjcdiaa
open Go.RowKit
set_option linter.unusedVariables false
set_option linter.unusedSimpArgs false
/-- all stays, but for the blocks X -/
structure Spoilt (X : Nat → Prop) (w w' : World) : Prop where
  size : w.heap.size ≤ w'.heap.size
  env : Env w w'
  blk : ∀ g, g < w.heap.size → ¬ X g → w'.heap[g]? = w.heap[g]?
theorem Spoilt.refl (X : Nat → Prop) (w : World) : Spoilt X w w := ⟨Nat.le_refl _, Env.refl _, fun _ _ _ => rfl⟩
theorem Spoilt.drew {X : Nat → Prop} {w w' : World} (h : Spoilt X w w') : Spoilt X w w'.drew := ⟨h.size, ⟨h.env.1, h.env.2.1, h.env.2.2⟩, h.blk⟩
theorem Spoilt.mono {X Y : Nat → Prop} {w w' : World} (h : Spoilt X w w') (hx : ∀ g, X g → Y g) : Spoilt Y w w' := ⟨h.size, h.env, fun g hg hn => h.blk g hg fun x => hn (hx g x)⟩
theorem Spoilt.set {X : Nat → Prop} {w w' : World} (h : Spoilt X w w') {g i : Nat} (hx : X g) (u : Value) : Spoilt X w (w'.setCell ⟨g, i, none⟩ u) := ⟨by rw [World.size_setCell]; exact h.size, h.env.setCell _ _, fun q hq hn => (Below.heap_setCell _ _ _ _ (show q ≠ g from fun e => hn (e ▸ hx))).trans (h.blk q hq hn)⟩
/-- the blocks of the first n rows -/
def RowX (w : World) (own : Nat → Option (Bool × Nat)) (tg : Nat → Bool × Nat) (n : Nat) (g : Nat) : Prop := (∃ cur, w.heap[g]? = some (Obj.cells cur 5 (0, 0))) ∧ ∃ i, i < n ∧ own g = some (tg i)
/-- a row's bytes, whatever they are -/
def SpI (w wq : World) (own : Nat → Option (Bool × Nat)) (tg : Nat → Bool × Nat) (i N : Nat) (A : Option Addr) : Prop :=
  Spoilt (RowX w own tg (i + 1)) w wq ∧ (0 < N → ∃ g C, A = some ⟨g, 0, none⟩ ∧ wq.heap[g]? = some (Obj.cells C 5 (0, 0)) ∧ N ≤ C.size ∧ (∀ j, j < N → ∃ y : Nat, C[j]? = some (.int .u8 (y : Int))) ∧ RowX w own tg (i + 1) g)
theorem SpI.step {w wq : World} {own : Nat → Option (Bool × Nat)} {tg : Nat → Bool × Nat} {i N k : Nat} {A : Option Addr} (h : SpI w wq own tg i N A) (hk : k < N) : ∃ g, ∃ y : Nat, A = some ⟨g, 0, none⟩ ∧ wq.cell? ⟨g, k, none⟩ = some (.int .u8 (y : Int)) ∧ wq.frozen? ⟨g, k, none⟩ = false ∧ ∀ z : Nat, SpI w (wq.setCell ⟨g, k, none⟩ (.int .u8 (z : Int))) own tg i N A := by
  obtain ⟨h1, h2⟩ := h
  obtain ⟨g, C, e1, e2, e3, e4, e5⟩ := h2 (by omega)
  obtain ⟨y, hy⟩ := e4 k hk
  refine ⟨g, y, e1, (cell_of_row _ _ k _ _ _ e2).trans hy, frozen_of_row _ _ k _ _ e2, fun z => ⟨h1.set e5 _, fun _ => ⟨g, _, e1, heap_setCell_same _ _ k _ _ _ e2, by rw [Array.size_setIfInBounds]; exact e3, fun j hj => ?_, e5⟩⟩⟩
  rw [Array.getElem?_setIfInBounds]
  by_cases hjk : k = j
  · exact ⟨z, by rw [if_pos hjk, if_pos (by omega)]⟩
  · rw [if_neg hjk]
    exact e4 j hj
/-- the row i, as it is reached -/
theorem SpI.start {w wr : World} {own : Nat → Option (Bool × Nat)} {tg : Nat → Bool × Nat} {i N : Nat} {A : Option Addr} {c : Nat} {f : BL} (hinj : ∀ i j, tg i = tg j → i = j) (h : Spoilt (RowX w own tg i) w wr) (hb : ByV w own (tg i) (.slice A N c) f) (hN : f.length = N) :
    SpI w wr.drew own tg i N A ∧ Rd wr wr.heap.size A (u8s f) := by
  subst hN
  have hX : ∀ g, RowX w own tg i g → RowX w own tg (i + 1) g := fun g ⟨h1, j, h2, h3⟩ => ⟨h1, j, by omega, h3⟩
  have hsame : ∀ g, g < w.heap.size → own g = some (tg i) → wr.heap[g]? = w.heap[g]? := fun g hg ho => h.blk g hg fun ⟨_, j, hj, ho'⟩ => by
    rw [ho] at ho'
    injection ho' with ho'
    have := hinj _ _ ho'
    omega
  have hb' : ByV wr own (tg i) (.slice A f.length c) f := hb.keep fun g cur ho hc => ⟨hsame g (lt_of_block hc) ho, ho⟩
  refine ⟨⟨(h.mono hX).drew, fun hn => ?_⟩, hb'.row⟩
  have hne : f ≠ [] := by rintro rfl; simp at hn
  obtain ⟨⟨_, q2⟩, q3⟩ := hb.2 hne
  rcases q2 with ⟨q0, q1⟩ | ⟨g', cap', cur', hv', hg', hcg', hn', hm', hs', ht'⟩
  · omega
  · injection hv' with hA _ _
    have ho := q3 g' (by rw [hA]; rfl)
    refine ⟨g', cur', hA, (hsame g' (lt_of_block hcg') ho).trans hcg', by omega, fun j hj => ?_, ⟨cur', hcg'⟩, i, by omega, ho⟩
    have hx : f[j]? = some f[j] := List.getElem?_eq_getElem hj
    refine ⟨f[j].toNat, ?_⟩
    have hu : (u8s f)[j]? = some (.int .u8 (f[j].toNat : Int)) := by unfold u8s; rw [List.getElem?_map, hx]; rfl
    rw [← ht', List.getElem?_take, if_pos (by omega)] at hu
    simpa using hu
theorem rows_cell {w : World} {own : Nat → Option (Bool × Nat)} {tg : Nat → Bool × Nat} {B n c : Nat} {A : Option Addr} {fs : List BL} (h : BRows B w own tg (.slice A n c) fs) {i : Nat} {f : BL} (hf : fs[i]? = some f) : ∃ g Af cf, A = some ⟨g, 0, none⟩ ∧ g < w.heap.size ∧ (∃ cur, w.heap[g]? = some (Obj.cells cur 23 (0, 0))) ∧ w.cell? ⟨g, i, none⟩ = some (.slice Af f.length cf) ∧ ByV w own (tg i) (.slice Af f.length cf) f := by
  obtain ⟨A', c', vs, h1, ⟨hlen, h2⟩, h3, h4⟩ := h
  injection h1 with e1 e2 e3
  subst e1 e3
  have hlf := (List.getElem?_eq_some_iff.1 hf).1
  obtain ⟨u, hu⟩ : ∃ u, vs[i]? = some u := ⟨_, List.getElem?_eq_getElem (by omega)⟩
  have hby := h3 i u f hu hf
  obtain ⟨⟨Af, cf, rfl⟩, _⟩ := id hby
  rcases h2 with ⟨_, h0⟩ | ⟨g, cap, cur, hv, hg, hcg, hn, hm, hs, ht⟩
  · omega
  · injection hv with hA _ hv
    refine ⟨g, Af, cf, hA, lt_of_block hcg, ⟨cur, hcg⟩, ?_, hby⟩
    rw [← ht, List.getElem?_take, if_pos (by omega)] at hu
    exact (cell_of_row _ _ i _ _ _ hcg).trans (by simpa using hu)
theorem str_cell {w : World} {B n c : Nat} {A : Option Addr} {fs : List BL} (h : StrO B w (.slice A n c) fs) {i : Nat} {f : BL} (hf : fs[i]? = some f) : n = fs.length ∧ ∃ g, A = some ⟨g, 0, none⟩ ∧ g < w.heap.size ∧ (∃ cur, w.heap[g]? = some (Obj.cells cur 9 (0, 0))) ∧ w.cell? ⟨g, i, none⟩ = some (.string ⟨f.toArray⟩) := by
  obtain ⟨A', c', h1, ⟨hlen, h2⟩⟩ := h
  injection h1 with e1 e2 e3
  subst e1 e3
  have hlf := (List.getElem?_eq_some_iff.1 hf).1
  refine ⟨e2, ?_⟩
  rcases h2 with ⟨_, h0⟩ | ⟨g, cap, cur, hv, hg, hcg, hn, hm, hs, ht⟩
  · omega
  · injection hv with hA _ hv
    have hu : (strs fs)[i]? = some (.string ⟨f.toArray⟩) := by unfold strs; rw [List.getElem?_map, hf]; rfl
    rw [← ht, List.getElem?_take, if_pos (by omega)] at hu
    exact ⟨g, hA, lt_of_block hcg, ⟨cur, hcg⟩, (cell_of_row _ _ i _ _ _ hcg).trans (by simpa using hu)⟩
theorem conv_at {w w9 : World} {A : Option Addr} {f : BL} {n c : Nat} (h : Rd w w.heap.size A (u8s f)) (hk : Kept w w9) (hn : f.length = n) : (convert 23 9 (.slice A n c)).run Try.prog w9 = .ok (.string ⟨f.toArray⟩) w9 := by
  subst hn
  exact run_string_of w9 23 9 5 A c w.heap.size f Try.underlying23 Try.underlying5 Try.underlying9 (h.keep fun p hp => hk p hp)
theorem Spoilt.other {w wr : World} {own : Nat → Option (Bool × Nat)} {tg : Nat → Bool × Nat} {i g : Nat} {cur : Array Value} {T : TypeId} (h : Spoilt (RowX w own tg i) w wr) (hg : w.heap[g]? = some (Obj.cells cur T (0, 0))) (hT : T ≠ 5) : wr.heap[g]? = w.heap[g]? := h.blk g (lt_of_block hg) fun ⟨⟨c, hc⟩, _⟩ => row_ne hg hc hT rfl
set_option maxRecDepth 100000 in
set_option maxHeartbeats 16000000 in
theorem rows_any (w : World) {own : Nat → Option (Bool × Nat)} {tg : Nat → Bool × Nat} {B Bs : Nat} {u v : Value} {fs : List BL} (hA : BRows B w own tg v fs) (hS : StrO Bs w u fs) (hinj : ∀ i j, tg i = tg j → i = j) (hl : fs.length ≤ 1000000) (hb : ∀ f ∈ fs, f.length ≤ 100000000) :
    Calls Try.prog 24 #[v, u] w fun e w' => e = .returned (.bool true) ∧ Spoilt (RowX w own tg fs.length) w w' := by
  obtain ⟨A, c, vs, rfl, hvs⟩ := id hA
  obtain ⟨As, cs, rfl, hss⟩ := id hS
  clear hvs hss vs
  obtain ⟨n, hn⟩ : ∃ z, fs.length = z := ⟨_, rfl⟩
  rw [hn] at hA hS hl ⊢
  have HN := hide hn
  have HA := hide hA
  have HS := hide hS
  have HI := hide hinj
  have HB := hide hb
  clear hn hA hS hinj hb
  go_enter Try.func24, Try.ntmps24
  go_wp2
  go_loopw [5] (fun v5 wr => ∃ i : Nat, i ≤ n ∧ v5 = .int .i64 (i : Int) ∧ Hid (Spoilt (RowX w own tg i) w wr)) (fun v5 _ => n - (intOf v5).toNat)
  case atStart => exact ⟨0, by omega, rfl, hide (Spoilt.refl _ _)⟩
  case round =>
    obtain ⟨i, hi, rfl, HSp⟩ := hrel
    obtain ⟨wr, rfl⟩ : ∃ z : World, z = wr := ⟨_, rfl⟩
    by_cases hlt : i < n
    · have hI1 : (i : Int) < (n : Int) := by omega
      have hI0 : (0 : Int) ≤ (i : Int) := by omega
      obtain ⟨f, hf⟩ : ∃ f, fs[i]? = some f := ⟨_, List.getElem?_eq_getElem (by rw [HN.out]; exact hlt)⟩
      obtain ⟨g, Af, cf, rfl, hgl, ⟨cur, hcur⟩, c0, hby⟩ := rows_cell HA.out hf
      obtain ⟨-, g2, rfl, hgl2, ⟨cur2, hcur2⟩, c2⟩ := str_cell HS.out hf
      have hfl := HB.out f (List.mem_of_getElem? hf)
      obtain ⟨N, hN⟩ : ∃ z, f.length = z := ⟨_, rfl⟩
      rw [hN] at c0 hby hfl
      have r0 := (World.cell?_of_block (a := ⟨g, i, none⟩) (HSp.out.other hcur (by decide))).trans c0
      have r2 := (World.cell?_of_block (a := ⟨g2, i, none⟩) (HSp.out.other hcur2 (by decide))).trans c2
      have hg2r : g2 < wr.heap.size := Nat.lt_of_lt_of_le hgl2 HSp.out.size
      have hgr : g < wr.heap.size := Nat.lt_of_lt_of_le hgl HSp.out.size
      obtain ⟨hsp, hrd⟩ := SpI.start HI.out HSp.out hby hN
      have HSI := hide hsp
      have HR := hide hrd
      have HN2 := hide hN
      clear hsp hrd hby c0 c2 hcur hcur2 hf hN
      go_upto_region 7 with fail
      refine wp_region_held_drew (S := Kept wr) (by kernel_rfl) (Kept.drew wr) (fun hS0 => ?_)
      refine take_at (i := 0) (d := 23) (v := ?_) (by simp only [List.getElem?_toArray, List.getElem?_cons_succ, List.getElem?_cons_zero]; rfl) rfl (by kernel_rfl) (by kernel_rfl) (by kernel_rfl) (fun _ _ _ h => h) rfl ?_ (by assumption) ?_
      rotate_left
      focus (intro w hSw; go_simp; (try with_reducible rfl); done)
      try simp only [List.setIfInBounds_toArray, List.set_cons_zero, List.set_cons_succ]
      refine take_at (i := 1) (d := 24) (v := ?_) (by simp only [List.getElem?_toArray, List.getElem?_cons_succ, List.getElem?_cons_zero]; rfl) rfl (by kernel_rfl) (by kernel_rfl) (by kernel_rfl) (fun _ _ _ h => h) rfl ?_ (by assumption) ?_
      rotate_left
      focus (intro w hSw; have hh := conv_at HR.out hSw HN2.out (c := cf); go_simp; (try with_reducible rfl); done)
      try simp only [List.setIfInBounds_toArray, List.set_cons_zero, List.set_cons_succ]
      refine take_at (i := 2) (d := 25) (v := ?_) (by simp only [List.getElem?_toArray, List.getElem?_cons_succ, List.getElem?_cons_zero]; rfl) rfl (by kernel_rfl) (by kernel_rfl) (by kernel_rfl) (fun _ _ _ h => h) rfl ?_ (by assumption) ?_
      rotate_left
      focus (intro w hSw; go_simp; (try with_reducible rfl); done)
      try simp only [List.setIfInBounds_toArray, List.set_cons_zero, List.set_cons_succ]
      refine take_at (i := 3) (d := 26) (v := ?_) (by simp only [List.getElem?_toArray, List.getElem?_cons_succ, List.getElem?_cons_zero]; rfl) rfl (by kernel_rfl) (by kernel_rfl) (by kernel_rfl) (fun _ _ _ h => h) rfl ?_ (by assumption) ?_
      rotate_left
      focus (intro w hSw; go_simp; (try with_reducible rfl); done)
      try simp only [List.setIfInBounds_toArray, List.set_cons_zero, List.set_cons_succ]
      refine take_at (i := 4) (d := 27) (v := ?_) (by simp only [List.getElem?_toArray, List.getElem?_cons_succ, List.getElem?_cons_zero]; rfl) rfl (by kernel_rfl) (by kernel_rfl) (by kernel_rfl) (fun _ _ _ h => h) rfl ?_ (by assumption) ?_
      rotate_left
      focus (intro w hSw; go_simp; (try with_reducible rfl); done)
      try simp only [List.setIfInBounds_toArray, List.set_cons_zero, List.set_cons_succ]
      refine take_at (i := 5) (d := 28) (v := ?_) (by simp only [List.getElem?_toArray, List.getElem?_cons_succ, List.getElem?_cons_zero]; rfl) rfl (by kernel_rfl) (by kernel_rfl) (by kernel_rfl) (fun _ _ _ h => h) rfl ?_ (by assumption) ?_
      rotate_left
      focus (intro w hSw; go_simp; (try with_reducible rfl); done)
      try simp only [List.setIfInBounds_toArray, List.set_cons_zero, List.set_cons_succ]
      refine take_at (i := 6) (d := 29) (v := ?_) (by simp only [List.getElem?_toArray, List.getElem?_cons_succ, List.getElem?_cons_zero]; rfl) rfl (by kernel_rfl) (by kernel_rfl) (by kernel_rfl) (fun _ _ _ h => h) rfl ?_ (by assumption) ?_
      rotate_left
      focus (intro w hSw; go_simp; (try with_reducible rfl); done)
      try simp only [List.setIfInBounds_toArray, List.set_cons_zero, List.set_cons_succ]
      refine wpAnyH_done (by kernel_rfl) ?_ _
      clear hS0
      go_wp2
      go_loopw [7] (fun v7 wq => ∃ k : Nat, k ≤ N ∧ v7 = .int .i64 (k : Int) ∧ Hid (SpI w wq own tg i N Af)) (fun v7 _ => N - (intOf v7).toNat)
      case atStart => exact ⟨0, by omega, rfl, HSI⟩
      case round =>
        obtain ⟨k, hk, rfl, HQ⟩ := hrel
        clear HSI
        by_cases hkN : k < N
        · have hJ0 : (0 : Int) ≤ (k : Int) := by omega
          have hJ1 : (k : Int) < (N : Int) := by omega
          obtain ⟨gb, y, hAf, q1, q2, hst⟩ := HQ.out.step hkN
          subst hAf
          obtain ⟨z, hz⟩ : ∃ z : Nat, IntKind.u8.wrap ((y : Int) + 1) = (z : Int) := ⟨(IntKind.u8.wrap ((y : Int) + 1)).toNat, by simp only [IntKind.wrap, IntKind.bits, IntKind.signed]; simp; omega⟩
          have HF := hide (hst z)
          clear hst HQ
          go_wp2
          go_roundw
          case rel => exact ⟨k + 1, by omega, by go_num, HF⟩
          case measure => simp [intOf]; omega
        have hJ1 : ¬ (k : Int) < (N : Int) := by omega
        have HF := hide HQ.out.1
        clear HQ
        go_wp2
        go_roundw
        case rel => exact ⟨i + 1, by omega, by go_num, HF⟩
        case measure => simp [intOf]; omega
    have hI1 : ¬ (i : Int) < (n : Int) := by omega
    obtain rfl : i = n := by omega
    go_wp2
    go_ret
    exact ⟨rfl, HSp.out⟩
end Go.Proofs.Ytigmmikijjcdiaa
