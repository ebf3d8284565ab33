/- Lemmas: Knm. -/
import Derived.Test.YtigmmikijjcdiaaProg
import Derived.Laws.MakeOwn
import Derived.Test.YtigmmikijjcdiaaLnWw14
import Derived.Test.YtigmmikijjcdiaaLnWw20
set_option linter.unusedVariables false
set_option linter.unusedSimpArgs false
set_option maxRecDepth 100000
set_option maxHeartbeats 16000000
namespace Go.Proofs.Ytigmmikijjcdiaa
open Go.RowKit
def RdA (w : World) (A : Option Addr) (f : BL) : Prop := f ≠ [] → ∃ (b off : Nat) (cur : Array Value) (fr : Nat × Nat), A = some ⟨b, off, none⟩ ∧ w.heap[b]? = some (Obj.cells cur 5 fr) ∧ ∀ (j : Nat) (u : Value), (u8s f)[j]? = some u → cur[off + j]? = some u
section
variable {w w' : World} {A : Option Addr} {f : BL}
theorem RdA.rd (h : RdA w A f) : Rd w w.heap.size A (u8s f) := fun hn => by
 obtain ⟨b, off, cur, fr, h1, h2, h3⟩ := h (by rintro rfl; exact hn rfl)
 exact ⟨b, off, h1, lt_of_block h2, fun j u hu => (cell_of_row _ _ _ _ _ _ h2).trans (h3 j u hu)⟩
theorem RdA.keep (h : RdA w A f) (hk : ∀ (g : Nat) (cur : Array Value) (fr : Nat × Nat), w.heap[g]? = some (Obj.cells cur 5 fr) → w'.heap[g]? = w.heap[g]?) : RdA w' A f := fun hn => by
 obtain ⟨b, off, cur, fr, h1, h2, h3⟩ := h hn
 exact ⟨b, off, cur, fr, h1, (hk b cur fr h2).trans h2, h3⟩
theorem RdA.next (h : RdA w A f) (hb : Below w.heap.size w w') : RdA w' A f := h.keep fun g cur fr hc => hb.block g (lt_of_block hc)
theorem RdA.none_ : RdA w A [] := fun h => absurd rfl h
theorem RdA.new (w : World) (cs : Array Value) (fr : Nat × Nat) (f : BL) (h : cs.toList = u8s f) : RdA (w.alloc (.cells cs 5 fr)) (some ⟨w.heap.size, 0, none⟩) f := fun _ => by
 refine ⟨w.heap.size, 0, cs, fr, rfl, heap_alloc_last _ _, fun j u hu => ?_⟩
 rw [← h] at hu
 rw [Nat.zero_add]
 simpa using hu
theorem RdA.made (w : World) (f : BL) : RdA (bytesWorld w 5 f) (some ⟨w.heap.size, 0, none⟩) f := fun hn => by
 have hl : ∃ cur fr, (bytesWorld w 5 f).heap[w.heap.size]? = some (Obj.cells cur 5 fr) := ⟨_, _, by unfold bytesWorld; exact heap_alloc_last w _⟩
 obtain ⟨cur, fr, hl⟩ := hl
 refine ⟨w.heap.size, 0, cur, fr, rfl, hl, fun j u hu => ?_⟩
 obtain ⟨b, off, e1, e2, e3⟩ := bytesWorld_rd w 5 f (by intro e; rw [e] at hu; simp at hu)
 injection e1 with e1
 injection e1 with e1 e4
 subst e1 e4
 have h9 := e3 j u hu
 exact (cell_of_row _ _ _ _ _ _ hl).symm.trans h9
end
theorem RdA.set8 {w : World} {g i : Nat} {f : BL} (h : RdA w (some ⟨g, 0, none⟩) f) (hi : i < f.length) : ∃ cn : Nat, cn < 256 ∧ w.cell? ⟨g, i, none⟩ = some (.int .u8 (cn : Int)) ∧ ∀ dn : Nat, dn < 256 → RdA (w.setCell ⟨g, i, none⟩ (.int .u8 (dn : Int))) (some ⟨g, 0, none⟩) (f.set i (UInt8.ofNat dn)) := by
 obtain ⟨b, off, cur, fr, e, h1, h2⟩ := h (by rintro rfl; simp at hi)
 injection e with e
 injection e with e1 e2
 subst e1 e2
 have hx : (u8s f)[i]? = some (.int .u8 (f[i].toNat : Int)) := by unfold u8s; rw [List.getElem?_map, List.getElem?_eq_getElem hi]; rfl
 have hc := h2 i _ hx
 rw [Nat.zero_add] at hc
 refine ⟨f[i].toNat, f[i].toNat_lt, (cell_of_row _ _ _ _ _ _ h1).trans hc, fun dn hd _ => ⟨g, 0, cur.setIfInBounds i (.int .u8 (dn : Int)), fr, rfl, ?_, fun j u hu => ?_⟩⟩
 ·rw [setCell_eq_setRow w g i cur _ fr _ h1]
  exact setRow_heap w g cur _ _ _ h1
 ·have hd8 : (UInt8.ofNat dn).toNat = dn := by rw [UInt8.toNat_ofNat']; omega
  have e : u8s (f.set i (UInt8.ofNat dn)) = (u8s f).set i (.int .u8 (dn : Int)) := by unfold u8s; rw [List.map_set, hd8]
  rw [e, List.getElem?_set] at hu
  rw [Nat.zero_add, Array.getElem?_setIfInBounds]
  by_cases hji : i = j
  ·subst hji
   rw [if_pos rfl] at hu
   rw [if_pos rfl, if_pos (Array.getElem?_eq_some_iff.1 hc).1]
   split at hu
   ·exact hu
   ·cases hu
  ·rw [if_neg hji] at hu ⊢
   have h9 := h2 j u hu
   rwa [Nat.zero_add] at h9
theorem RdA.take {w : World} {g : Nat} {f : BL} (h : RdA w (some ⟨g, 0, none⟩) f) (k : Nat) : RdA w (some ⟨g, 0, none⟩) (f.take k) := fun hn => by
 obtain ⟨b, off, cur, fr, e, h1, h2⟩ := h (by rintro rfl; simp at hn)
 refine ⟨b, off, cur, fr, e, h1, fun j u hu => h2 j u ?_⟩
 rw [← u8s_take, List.getElem?_take] at hu
 split at hu
 ·exact hu
 ·cases hu
theorem RdA.conv {w : World} {A : Option Addr} {f : BL} {n c : Nat} (h : RdA w A f) (hn : f.length = n) : (convert 23 9 (.slice A n c)).run Try.prog w = .ok (.string ⟨f.toArray⟩) w := by
 subst hn
 exact run_string_of w 23 9 5 A c _ f Try.underlying23 Try.underlying5 Try.underlying9 h.rd
theorem mk8_run (w : World) (n : Nat) (hn : n ≤ 2000000) :
  (Instr.makeSlice 23 (.int .i64 (n : Int)) (.int .i64 (n : Int))).run Try.prog w = .ok (.slice (some ⟨w.heap.size, 0, none⟩) n n) (w.alloc (.cells (madeCells #[.int .u8 0] n) 5)) := by
 obtain ⟨i, hi, hz, hs, hb⟩ := info_parts (show (Try.prog.info? 5).map (fun i => (i.zero, i.size, i.bytes)) = some (some (.int .u8 0), 1, 1) by kernel_rfl)
 have hr := run_make (P := Try.prog) w 23 5 i _ Try.underlying23 hi hz .i64 .i64 n n (by omega) (Int.le_refl _) (by rw [hb]; omega) (by omega)
 simp only [Int.toNat_natCast, hs, Nat.mul_one] at hr
 exact hr
theorem mk8_rd (w : World) (n : Nat) : RdA (w.alloc (.cells (madeCells #[.int .u8 0] n) 5)) (some ⟨w.heap.size, 0, none⟩) (List.replicate n 0) := fun _ => by
 refine ⟨w.heap.size, 0, _, _, rfl, heap_alloc_last _ _, fun j u hu => ?_⟩
 unfold u8s at hu
 rw [List.map_replicate, List.getElem?_replicate] at hu
 split at hu
 ·rename_i hj
  injection hu with hu
  subst hu
  unfold madeCells
  rw [Nat.zero_add, Array.getElem?_map, Array.getElem?_range, if_pos hj]
  simp [Nat.mod_one]
 ·cases hu
def calC (x : Cal5) : List Value := [.int .u8 (x.k : Int), .slice x.A x.b.length x.c, .int .i64 x.ep, .int .i64 x.h, .int .i64 x.n]
def calF (xs : List Cal5) : List Value := xs.flatMap calC
theorem calF_app (xs ys : List Cal5) : calF (xs ++ ys) = calF xs ++ calF ys := by unfold calF; simp
theorem calF_len (xs : List Cal5) : (calF xs).length = xs.length * 5 := by
 unfold calF
 induction xs with
 | nil => rfl
 | cons x xs ih => rw [List.flatMap_cons, List.length_append, ih, List.length_cons]; simp [calC]; omega
theorem flat_get {α : Type} {n : Nat} (f : α → List Value) (hf : ∀ x, (f x).length = n) : ∀ (xs : List α) (i : Nat) (x : α) (j : Nat) (u : Value), xs[i]? = some x → (f x)[j]? = some u → (xs.flatMap f)[i * n + j]? = some u
 | [], i, x, j, u, h, _ => by simp at h
 | y :: xs, 0, x, j, u, h, hu => by
  simp at h
  subst h
  have hl := (List.getElem?_eq_some_iff.1 hu).1
  rw [List.flatMap_cons, Nat.zero_mul, Nat.zero_add, List.getElem?_append_left hl]
  exact hu
 | y :: xs, i + 1, x, j, u, h, hu => by
  rw [List.flatMap_cons, List.getElem?_append_right (by rw [hf, Nat.succ_mul]; omega), hf, show (i + 1) * n + j - n = i * n + j by rw [Nat.succ_mul]; omega]
  exact flat_get f hf xs i x j u (by simpa using h) hu
theorem calF_get {xs : List Cal5} {i j : Nat} {x : Cal5} {u : Value} (h : xs[i]? = some x) (hu : (calC x)[j]? = some u) : (calF xs)[i * 5 + j]? = some u := flat_get calC (fun x => rfl) xs i x j u h hu
def CalO (B : Nat) (w : World) (v : Value) (xs : List Cal5) : Prop := ∃ A c, v = .slice A xs.length c ∧ w.ownsRow B 56 5 v xs.length (calF xs) ∧ ∀ x ∈ xs, RdA w x.A x.b ∧ x.ok
theorem CalO.nil (B : Nat) (w : World) : CalO B w (.slice none 0 0) [] := ⟨none, 0, rfl, World.ownsRow_nil _ _ _ _, fun x h => by cases h⟩
theorem CalO.next {B : Nat} {w w' : World} {v : Value} {xs : List Cal5} (h : CalO B w v xs) (hb : Below w.heap.size w w') : CalO B w' v xs := by
 obtain ⟨A, c, h1, h2, h3⟩ := h
 exact ⟨A, c, h1, own_below h2 hb (fun g hg => (h2.lt g hg).2), fun x hx => ⟨(h3 x hx).1.next hb, (h3 x hx).2⟩⟩
theorem CalO.cals {B : Nat} {w : World} {A : Option Addr} {n c : Nat} {xs : List Cal5} (h : CalO B w (.slice A n c) xs) : n = xs.length ∧ Cals w w.heap.size A xs ∧ xs.length ≤ c ∧ c ≤ 9223372036854775807 := by
 obtain ⟨A', c', h1, h2, h3⟩ := h
 injection h1 with e1 e2 e3
 subst e1 e2 e3
 refine ⟨rfl, fun hn => ?_, own_cap h2, own_max h2⟩
 have hp : 0 < xs.length := List.length_pos_iff.2 hn
 obtain ⟨b, off, e1, e2, e3⟩ := Rd.of_own h2 (by intro e; have := calF_len xs; rw [e] at this; simp at this; omega)
 refine ⟨b, off, e1, e2, fun i x hx => ⟨calC x, rfl, ⟨rfl, (h3 x (List.mem_of_getElem? hx)).1.rd, (h3 x (List.mem_of_getElem? hx)).2⟩, fun j u hu => e3 _ _ (calF_get hx hu)⟩⟩
theorem CalO.more {B : Nat} {w w1 w2 : World} {A A' : Option Addr} {n c m c' : Nat} {xs ys : List Cal5} (h : CalO B w (.slice A n c) xs) (hb : Below w.heap.size w w1) (hg : w1.grownBy w2 (Value.slice A n c).ownBlock)
  (ho : w2.ownsRow B 56 5 (.slice A' (n + m) c') (n + m) (calF xs ++ calF ys)) (hm : ys.length = m) (hy : ∀ y ∈ ys, RdA w1 y.A y.b ∧ y.ok) : CalO B w2 (.slice A' (n + m) c') (xs ++ ys) := by
 have h' := h.next hb
 obtain ⟨A0, c0, h1, h2, h3⟩ := h'
 injection h1 with e1 e2 e3
 subst e1 e3
 have hk : ∀ (g : Nat) (cur : Array Value) (fr : Nat × Nat), w1.heap[g]? = some (Obj.cells cur 5 fr) → w2.heap[g]? = w1.heap[g]? := fun g cur fr hc => hg.block g (lt_of_block hc) fun e => by
  obtain ⟨cur', hc'⟩ := own_type h2 g e.symm
  exact row_ne hc hc' (by decide) rfl
 have hl : n + m = (xs ++ ys).length := by rw [List.length_append, e2, hm]
 refine ⟨A', c', by rw [hl], by rw [← hl, calF_app]; exact ho, fun x hx => ?_⟩
 rcases List.mem_append.1 hx with hx | hx
 ·exact ⟨(h3 x hx).1.keep hk, (h3 x hx).2⟩
 ·exact ⟨(hy x hx).1.keep hk, (hy x hx).2⟩
theorem cals_lit {w : World} {g : Nat} {ys : List Cal5} {fr : Nat × Nat} {cs : Array Value} (h : w.heap[g]? = some (Obj.cells cs 56 fr)) (hc : cs.toList = calF ys) (hy : ∀ y ∈ ys, RdA w y.A y.b ∧ y.ok) : Cals w w.heap.size (some ⟨g, 0, none⟩) ys := fun _ => by
 refine ⟨g, 0, rfl, lt_of_block h, fun i x hx => ⟨calC x, rfl, ⟨rfl, (hy x (List.mem_of_getElem? hx)).1.rd, (hy x (List.mem_of_getElem? hx)).2⟩, fun j u hu => ?_⟩⟩
 have h9 := calF_get hx hu
 rw [← hc] at h9
 rw [Nat.zero_add]
 exact (cell_of_row _ _ _ _ _ _ h).trans (by simpa using h9)
def stpC (x : Stp4) : List Value := [.int .u8 (x.k : Int), .int .u8 (x.a : Int), .int .u8 (x.n : Int), .slice x.A x.b.length x.c]
theorem stps_lit {w : World} {g : Nat} {ys : List Stp4} {fr : Nat × Nat} {cs : Array Value} (h : w.heap[g]? = some (Obj.cells cs 40 fr)) (hc : cs.toList = ys.flatMap stpC) (hy : ∀ y ∈ ys, RdA w y.A y.b ∧ y.ok) : Stps w w.heap.size (some ⟨g, 0, none⟩) ys := fun _ => by
 refine ⟨g, 0, rfl, lt_of_block h, fun i x hx => ⟨stpC x, rfl, ⟨rfl, (hy x (List.mem_of_getElem? hx)).1.rd, (hy x (List.mem_of_getElem? hx)).2⟩, fun j u hu => ?_⟩⟩
 have h9 := flat_get (n := 4) stpC (fun x => rfl) ys i x j u hx hu
 rw [← hc] at h9
 rw [Nat.zero_add]
 exact (cell_of_row _ _ _ _ _ _ h).trans (by simpa using h9)
end Go.Proofs.Ytigmmikijjcdiaa
