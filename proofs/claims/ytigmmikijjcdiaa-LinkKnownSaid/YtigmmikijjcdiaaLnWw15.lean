/- Lemmas: Lkh, Lkq, Lkw. -/
import Derived.Test.YtigmmikijjcdiaaProg
import Derived.Deep.DeepCutAuto
import Derived.Lib.Hide
import Derived.WalkSpells
import Derived.WalkMore
import Derived.IntWalk
import Derived.Test.YtigmmikijjcdiaaLnWw14
set_option linter.unusedVariables false
set_option linter.unusedSimpArgs false
set_option maxRecDepth 100000
set_option maxHeartbeats 16000000
namespace Go.Proofs.Ytigmmikijjcdiaa
open Go.RowKit
theorem EndM.rest {y wf : World} {P M : Nat} {G : Option Nat} {own : Nat → Option (Bool × Nat)} {tg : Bool × Nat} {v : Value} {b : BL} {cs : Array Value} (h2 : y.heap[P]? = some (.cells cs 67 (0, 0))) (hfo : ∀ g, g ≠ P → wf.heap[g]? = y.heap[g]?) (h : ByV y own tg v b) : ByV wf own tg v b :=
 h.keep fun g cur hg hc => ⟨hfo g (row_ne hc h2 (by decide)), hg⟩
theorem EndM.ack {y wf : World} {P M : Nat} {G : Option Nat} {own : Nat → Option (Bool × Nat)} {k : Nat} {s : LE} {A A' : Option Addr} {c hh kk : Nat} (h : EndM y P M G own k s) (h1 : s.first ≤ hh) (h2 : hh < s.next) (hkk : hh + 1 - s.first = kk) (hA : y.cell? ⟨P, 1, none⟩ = some (.slice A s.sent.length c))
  (hA' : kk < c → ∀ g off, A = some ⟨g, off, none⟩ → A' = some ⟨g, off + kk, none⟩)
  (hf : wf.heap[P]? = some (.cells #[.int .i64 s.ep, .slice A' (s.sent.length - kk) (c - kk), .int .i64 s.next, .int .i64 s.heard, .int .i64 ((max s.fresh (hh + 1) : Nat) : Int), .bool s.owes, .map (some M)] 67 (0, 0))) (hfo : ∀ g, g ≠ P → wf.heap[g]? = y.heap[g]?) (hfs : wf.heap.size = y.heap.size) :
  EndM wf P M G own k (ackL s hh) := by
 obtain ⟨h0, hb, sv, vs, f, D, hP, h3, ⟨h4, h5⟩, ⟨h6, h7⟩, h8, h9⟩ := h
 have hsv : sv = .slice A s.sent.length c := by
  have h9 := (cell_of_row _ _ 1 _ _ _ hP).symm.trans hA
  injection h9
 subst hsv
 have hm : M ≠ P := by
  rintro rfl
  obtain ⟨es, clock, hm, _⟩ := h6
  rw [hP] at hm
  cases hm
 have hft := h0.first
 have hfi : s.first + s.sent.length = s.next := by unfold LE.first; omega
 have hkl : kk ≤ s.sent.length := by omega
 have hak : ackL s hh = { s with sent := s.sent.drop kk, fresh := max s.fresh (hh + 1) } := by unfold ackL; rw [if_pos h1, hkk]
 have hf2 : ({ s with sent := s.sent.drop kk, fresh := max s.fresh (hh + 1) } : LE).first = s.first + kk := by
  unfold LE.first at hfi ⊢
  dsimp only
  rw [List.length_drop]
  omega
 have hm2 := h0.fresh2
 rw [hak]
 refine ⟨⟨h0.ep, by dsimp only; rw [List.length_drop]; have := h0.sent; omega, by dsimp only; rw [List.length_drop]; omega, by rw [hf2]; dsimp only; omega, by dsimp only; omega, h0.next, h0.heard, fun b hb => h0.bytes b (List.mem_of_mem_drop hb), h0.ahead⟩, fun g hg => by rw [hfs]; exact hb g hg, .slice A' (s.sent.length - kk) (c - kk), vs.drop kk, f, D, hf, (h3.drop (by omega) A' hA').keep fun g hg hl => hfo g ?_, ⟨by simp [h4], fun i v b hv hb' => ?_⟩, ⟨map_keep h6 (hfo M hm), h7⟩, h8, fun n v b hv hb' => EndM.rest (P := P) (M := M) (G := G) hP hfo (h9 n v b hv hb')⟩
 ·obtain ⟨cur, hc⟩ := h3.blk g hg
  exact row_ne hc hP (by decide)
 ·rw [hf2]
  rw [List.getElem?_drop] at hv
  dsimp only at hb'
  rw [List.getElem?_drop] at hb'
  have h := EndM.rest (P := P) (M := M) (G := G) hP hfo (h5 _ v b hv hb')
  rwa [show s.first + kk + i = s.first + (kk + i) by omega]
theorem EndM.mapOf {y : World} {P M : Nat} {G : Option Nat} {own : Nat → Option (Bool × Nat)} {k : Nat} {s : LE} (h : EndM y P M G own k s) : ∃ D f, y.ownsMap Try.prog 2 heldElem M k D ∧ AhIs D f ∧ (∀ n, (f n).isSome = (s.ahead n).isSome) ∧ ∀ n v b, f n = some v → s.ahead n = some b → ByV y own (false, n) v b := by
 obtain ⟨h0, hb, sv, vs, f, D, hP, h3, ⟨h4, h5⟩, ⟨h6, h7⟩, h8, h9⟩ := h
 exact ⟨D, f, h6, h7, h8, h9⟩
theorem EndM.put {y z wf : World} {P M : Nat} {G : Option Nat} {own : Nat → Option (Bool × Nat)} {k n : Nat} {s : LE} {D : DataW Value} {f : Nat → Option Value} {b : BL} {A : Option Addr} {c : Nat} (h : EndM y P M G own k s) (hD : AhIs D f) (h8 : ∀ n, (f n).isSome = (s.ahead n).isSome) (h9 : ∀ n v b, f n = some v → s.ahead n = some b → ByV y own (false, n) v b)
  (hz : Below y.heap.size y z) (hv : z.ownsRow y.heap.size 5 1 (.slice A b.length c) b.length (u8s b)) (hm : wf.ownsMap Try.prog 2 heldElem M (k + 1) (D.put (lk n) (.held (.slice A b.length c)))) (hg : z.grownBy wf (some M)) (hn : s.heard < n ∧ n ≤ s.heard + 64) (hb : b.length ≤ 1048576) :
  ∃ own', EndM wf P M G own' (k + 1) { s with ahead := fun m => if m = n then some b else s.ahead m } ∧ KB [M] y wf ∧ ∀ g, own' g = own g ∨ y.heap.size ≤ g := by
 obtain ⟨h0, h1, sv, vs, _, _, hP, h3, ⟨h4, h5⟩, ⟨h6, _⟩, _, _⟩ := h
 obtain ⟨es, clock, hM, _⟩ := h6
 have hMl := lt_of_block hM
 have hs := hz.size
 have hs2 := hg.size
 have hk : ∀ g, g < y.heap.size → g ≠ M → wf.heap[g]? = y.heap[g]? := fun g hl hne => (hg.block g (by omega) (fun e => hne (by injection e))).trans (hz.block g hl)
 have hne : ∀ g cs T, y.heap[g]? = some (.cells cs T (0, 0)) → g ≠ M := fun g cs T hc e => by subst e; rw [hc] at hM; cases hM
 have hvb : ∀ g, (Value.slice A b.length c).ownBlock = some g → y.heap.size ≤ g ∧ g < z.heap.size := fun g hg => hv.lt g hg
 have hby : ∀ tg v b', ByV y own tg v b' → ByV wf (fun g => if (Value.slice A b.length c).ownBlock = some g then some (false, n) else own g) tg v b' := fun tg v b' h => h.keep fun g cur hg hc => by
  refine ⟨hk g (lt_of_block hc) (hne g _ _ hc), ?_⟩
  rw [if_neg (fun e => by have := hvb g e; have := lt_of_block hc; omega)]
  exact hg
 refine ⟨fun g => if (Value.slice A b.length c).ownBlock = some g then some (false, n) else own g, ⟨⟨h0.ep, h0.sent, h0.first, h0.fresh1, h0.fresh2, h0.next, h0.heard, h0.bytes, fun m b' hm' => ?_⟩, fun g hg' => ?_, sv, vs, fun m => if m = n then some (.slice A b.length c) else f m, _, (hk P (lt_of_block hP) (hne P _ _ hP)).trans hP, h3.keep fun g hg' hl => hk g hl ?_, ⟨h4, fun i v b hv hb => hby _ _ _ (h5 i v b hv hb)⟩, ⟨hm, hD.put n _⟩, fun m => ?_, fun m v b' hm1 hm2 => ?_⟩, ⟨by omega, fun g hl hx => hk g hl (by simpa using hx), (Env.of_below hz).grown hg⟩, fun g => ?_⟩
 ·dsimp only at hm'
  by_cases e : m = n
  ·subst e
   rw [if_pos rfl] at hm'
   injection hm' with hm'
   subst hm'
   exact ⟨hb, hn⟩
  ·rw [if_neg e] at hm'
   exact h0.ahead m b' hm'
 ·dsimp only at hg'
  by_cases e : (Value.slice A b.length c).ownBlock = some g
  ·have := hvb g e; omega
  ·rw [if_neg e] at hg'
   have := h1 g hg'; omega
 ·obtain ⟨cur, hc⟩ := h3.blk g hg'
  exact hne g _ _ hc
 ·dsimp only
  by_cases e : m = n
  ·rw [if_pos e, if_pos e]; rfl
  ·rw [if_neg e, if_neg e]; exact h8 m
 ·dsimp only at hm1 hm2
  by_cases e : m = n
  ·subst e
   rw [if_pos rfl] at hm1 hm2
   injection hm1 with hm1
   injection hm2 with hm2
   subst hm1 hm2
   exact ⟨⟨A, c, rfl⟩, fun _ => ⟨own_same (own_base hv (Nat.zero_le _)) fun g hg' => hg.block g (hvb g hg').2 (fun e => by injection e with e; have := hvb g hg'; omega), fun g hg' => if_pos hg'⟩⟩
  ·rw [if_neg e] at hm1 hm2
   exact hby _ _ _ (h9 m v b' hm1 hm2)
 ·dsimp only
  by_cases e : (Value.slice A b.length c).ownBlock = some g
  ·exact .inr (hvb g e).1
  ·rw [if_neg e]; exact .inl rfl
theorem EndM.tell {y wf : World} {P M : Nat} {G : Option Nat} {own : Nat → Option (Bool × Nat)} {k : Nat} {s : LE} {D : DataW Value} {f : Nat → Option Value} {sv : Value} (h : EndM y P M G own k s) (hD : AhIs D f) (h8 : ∀ n, (f n).isSome = (s.ahead n).isSome) (h9 : ∀ n v b, f n = some v → s.ahead n = some b → ByV y own (false, n) v b) (hn : s.heard < 1000000)
  (hc1 : y.cell? ⟨P, 1, none⟩ = some sv) (hf : wf.heap[P]? = some (.cells #[.int .i64 s.ep, sv, .int .i64 s.next, .int .i64 ((s.heard + 1 : Nat) : Int), .int .i64 s.fresh, .bool s.owes, .map (some M)] 67 (0, 0)))
  (hm : wf.ownsMap Try.prog 2 heldElem M k (D.del (lk (s.heard + 1 : Nat)))) (hfo : ∀ g, g < y.heap.size → g ≠ P → g ≠ M → wf.heap[g]? = y.heap[g]?) (hfs : wf.heap.size = y.heap.size) :
  EndM wf P M G own k { s with heard := s.heard + 1, ahead := fun n => if n = s.heard + 1 then none else s.ahead n } := by
 obtain ⟨h0, h1, sv', vs, _, _, hP, h3, ⟨h4, h5⟩, ⟨h6, _⟩, _, _⟩ := h
 have hsv : sv' = sv := by
  have h9 := (cell_of_row _ _ 1 _ _ _ hP).symm.trans hc1
  injection h9
 subst hsv
 obtain ⟨es, clock, hM, _⟩ := h6
 have hne : ∀ g cs T, y.heap[g]? = some (.cells cs T (0, 0)) → g ≠ M := fun g cs T hc e => by subst e; rw [hc] at hM; cases hM
 have hby : ∀ tg v b', ByV y own tg v b' → ByV wf own tg v b' := fun tg v b' h => h.keep fun g cur hg hc => ⟨hfo g (lt_of_block hc) (row_ne hc hP (by decide)) (hne g _ _ hc), hg⟩
 refine ⟨⟨h0.ep, h0.sent, h0.first, h0.fresh1, h0.fresh2, h0.next, hn, h0.bytes, fun m b' hm' => ?_⟩, fun g hg => by rw [hfs]; exact h1 g hg, sv', vs, fun m => if m = s.heard + 1 then none else f m, _, hf, h3.keep fun g hg' hl => ?_, ⟨h4, fun i v b hv hb => hby _ _ _ (h5 i v b hv hb)⟩, ⟨hm, hD.del (s.heard + 1)⟩, fun m => ?_, fun m v b' hm1 hm2 => ?_⟩
 ·dsimp only at hm' ⊢
  by_cases e : m = s.heard + 1
  ·rw [if_pos e] at hm'; cases hm'
  ·rw [if_neg e] at hm'
   have := h0.ahead m b' hm'
   exact ⟨this.1, by omega, by omega⟩
 ·obtain ⟨cur, hc⟩ := h3.blk g hg'
  exact hfo g hl (row_ne hc hP (by decide)) (hne g _ _ hc)
 ·dsimp only
  by_cases e : m = s.heard + 1
  ·rw [if_pos e, if_pos e]; rfl
  ·rw [if_neg e, if_neg e]; exact h8 m
 ·dsimp only at hm1 hm2
  by_cases e : m = s.heard + 1
  ·rw [if_pos e] at hm1; cases hm1
  ·rw [if_neg e] at hm1 hm2
   exact hby _ _ _ (h9 m v b' hm1 hm2)
end Go.Proofs.Ytigmmikijjcdiaa
namespace Go.Proofs.Ytigmmikijjcdiaa
open Go.RowKit
theorem EndM.owe {y : World} {P M : Nat} {G : Option Nat} {own : Nat → Option (Bool × Nat)} {k : Nat} {s : LE} (h : EndM y P M G own k s) (o : Bool) : EndM (y.setCell ⟨P, 5, none⟩ (.bool o)) P M G own k { s with owes := o } := by
 obtain ⟨h0, h1, sv, vs, f, D, h2, h3, ⟨h4, h5⟩, ⟨h6, h7⟩, h8, h9⟩ := h
 have hk : ∀ g, g ≠ P → (y.setCell ⟨P, 5, none⟩ (.bool o)).heap[g]? = y.heap[g]? := fun g hg => Below.heap_setCell _ _ _ _ hg
 have hB : ∀ tg v b, ByV y own tg v b → ByV (y.setCell ⟨P, 5, none⟩ (.bool o)) own tg v b := fun tg v b hb => EndM.rest (P := P) (M := M) (G := G) h2 hk hb
 have hm : M ≠ P := by
  rintro rfl
  obtain ⟨es, clock, hm, _⟩ := h6
  rw [h2] at hm
  cases hm
 refine ⟨⟨h0.ep, h0.sent, h0.first, h0.fresh1, h0.fresh2, h0.next, h0.heard, h0.bytes, h0.ahead⟩, fun g hg => by rw [World.size_setCell]; exact h1 g hg, sv, vs, f, D, heap_setCell_same _ P 5 _ _ _ h2, h3.keep fun g hg hl => hk g ?_, ⟨h4, fun i v b hv hb => hB _ _ _ (h5 i v b hv hb)⟩, ⟨map_keep h6 (hk M hm), h7⟩, h8, fun n v b hv hb => hB _ _ _ (h9 n v b hv hb)⟩
 obtain ⟨cur, hc⟩ := h3.blk g hg
 exact row_ne hc h2 (by decide)
theorem lfirst_cells (w : World) (P : Nat) (A : Option Addr) (ns c nx0 : Nat) (e1 : w.cell? ⟨P, 1, none⟩ = some (.slice A ns c)) (e2 : w.cell? ⟨P, 2, none⟩ = some (.int .i64 (nx0 : Int))) (hf : ns ≤ nx0) (hn : nx0 ≤ 1000000) (hP : P < w.heap.size) :
  Calls Try.prog 32 #[.pointer (some ⟨P, 0, none⟩)] w fun e w' => e = .returned (.int .i64 ((nx0 - ns : Nat) : Int)) ∧ Below w.heap.size w w' ∧ w'.heap = w.heap := by
 have HF : Hid (((nx0 - ns : Nat) : Int) = (nx0 : Int) - (ns : Int)) := hide (by omega)
 have k2 : IntKind.i64.wrap ((nx0 : Int) - (ns : Int)) = (nx0 : Int) - (ns : Int) := IntWalk.i64_in _ (by omega)
 go_enter Try.func32, Try.ntmps32
 go_upto_region 1 with fail
 refine wp_region_held_drew (S := Kept w) (by kernel_rfl) (Kept.drew w) (fun hS0 => ?_)
 refine tk 0 3 ?_ ?_ ?_; rotate_left; (focus (intro w h; go_simp; (try with_reducible rfl))); (try simp only [zqd, zqe, zqf])
 refine tk 1 4 ?_ ?_ ?_; rotate_left; (focus (intro w h; go_simp; (try with_reducible rfl))); (try simp only [zqd, zqe, zqf])
 refine tk 2 5 ?_ ?_ ?_; rotate_left; (focus (intro w h; go_simp; (try with_reducible rfl))); (try simp only [zqd, zqe, zqf])
 refine tk 3 6 ?_ ?_ ?_; rotate_left; (focus (intro w h; go_simp; (try with_reducible rfl))); (try simp only [zqd, zqe, zqf])
 refine tk 4 7 ?_ ?_ ?_; rotate_left; (focus (intro w h; go_simp; (try with_reducible rfl))); (try simp only [zqd, zqe, zqf])
 refine tk 5 8 ?_ ?_ ?_; rotate_left; (focus (intro w h; go_simp; (try with_reducible rfl))); (try simp only [zqd, zqe, zqf])
 refine tk 6 9 ?_ ?_ ?_; rotate_left; (focus (intro w h; go_simp; (try with_reducible rfl))); (try simp only [zqd, zqe, zqf])
 refine tk 7 10 ?_ ?_ ?_; rotate_left; (focus (intro w h; go_simp; (try with_reducible rfl))); (try simp only [zqd, zqe, zqf])
 refine tk 8 11 ?_ ?_ ?_; rotate_left; (focus (intro w h; go_simp; (try with_reducible rfl))); (try simp only [zqd, zqe, zqf])
 refine tk 9 12 ?_ ?_ ?_; rotate_left; (focus (intro w h; go_simp; (try with_reducible rfl))); (try simp only [zqd, zqe, zqf])
 refine tk 10 2 ?_ ?_ ?_; rotate_left; (focus (intro w h; go_simp; (try with_reducible rfl))); (try simp only [zqd, zqe, zqf])
 refine wpAnyH_done (by kernel_rfl) ?_ _
 go_wp2
 go_ret
 exact ⟨by rw [HF.out]; try simp [k2], (Below.refl _ _).drew, rfl⟩
end Go.Proofs.Ytigmmikijjcdiaa
namespace Go.Proofs.Ytigmmikijjcdiaa
open Go.RowKit Go.MapKept Go.ChangeMaps
set_option maxRecDepth 100000
theorem lk_keyOf {n : Nat} (h : n ≤ 9223372036854775807) : keyOf Try.prog 2 (.int .i64 (n : Int)) = some (lk n) := by
 have e1 : IntKind.i64.min = -9223372036854775808 := by decide
 have e2 : IntKind.i64.max = 9223372036854775807 := by decide
 refine Maps.keyOf_int_mk Try.underlying2 ?_
 simp [Lit.wf, e1, e2]
 omega
theorem lk_keyed : Maps.Keyed Try.prog 2 := Maps.int_keyed Try.underlying2
section
variable {w y : World} {M k n : Nat} {D : DataW Value} {f : Nat → Option Value}
theorem look_exec (hm : y.ownsMap Try.prog 2 heldElem M k D) (hD : AhIs D f) (hw : w.heap[M]? = y.heap[M]?) (hn : n ≤ 9223372036854775807) {a : Act} {o : Oper} {m x : Operand} (ho : o.op = .lookup 65 m x true) (h1 : a.eval m = .map (some M)) (h2 : a.eval x = .int .i64 (n : Int)) :
  (execOp a.eval o).run Try.prog w = .ok (.value (.tuple #[(f n).getD (.slice none 0 0), .bool (f n).isSome])) w := by
 obtain ⟨v, ps, hrun, hv⟩ := (map_keep hm hw).look_ok lk_keyed Try.underlying65 (z := .slice none 0 0) (by kernel_rfl) (zd := .held (.slice none 0 0)) (zp := []) rfl (lk_keyOf hn)
 rw [hD.has] at hrun
 rw [hD.at_] at hv
 have hv2 : v = (f n).getD (.slice none 0 0) := by
  cases hf : f n with
  | none => rw [hf] at hv; unfold heldElem at hv; injection hv with hv; injection hv with hv; injection hv
  | some u => rw [hf] at hv; unfold heldElem at hv; injection hv with hv; injection hv with hv; injection hv
 subst hv2
 simp [execOp, ho, h1, h2, hrun, Result.andThen]
theorem op_del (hm : y.ownsMap Try.prog 2 heldElem M k D) (hn : n ≤ 9223372036854775807) {a : Act} {o : Oper} {m x : Operand} {K : Act → World → Prop} {Q : Exit → Act → World → Prop} (ho : o.op = .call { callee := .builtin .delete, args := #[m, x], argTypes := #[65, 2] }) (h1 : a.eval m = .map (some M)) (h2 : a.eval x = .int .i64 (n : Int))
  (hK : ∀ w', w'.ownsMap Try.prog 2 heldElem M k (D.del (lk n)) → y.mapTurned w' M → K (a.put o.dst (.tuple #[])) w') : Oper.wp Try.prog o a y K Q := by
 obtain ⟨w', hrun, r1, r2⟩ := hm.drop lk_keyed Try.underlying65 (lk_keyOf hn) o.type
 unfold Oper.wp
 simp [execOp, ho, resolve, invoke, builtin, h1, h2, hrun, Result.andThen]
 exact hK _ r1 r2
theorem op_mput (hm : y.ownsMap Try.prog 2 heldElem M k D) (hk : k < 1000000) (hn : n ≤ 9223372036854775807) {a : Act} {o : Oper} {m x z : Operand} {v : Value} {K : Act → World → Prop} {Q : Exit → Act → World → Prop} (ho : o.op = .mapUpdate 65 m x z) (h1 : a.eval m = .map (some M)) (h2 : a.eval x = .int .i64 (n : Int)) (h3 : a.eval z = v)
  (hK : ∀ w', w'.ownsMap Try.prog 2 heldElem M (k + 1) (D.put (lk n) (.held v)) → y.mapTurned w' M → K (a.put o.dst undef) w') : Oper.wp Try.prog o a y K Q := by
 obtain ⟨w', hrun, r1, r2⟩ := hm.store lk_keyed Try.underlying65 (by unfold maxLen; omega) (lk_keyOf hn) (val := v) (d := .held v) (ps := []) rfl
 unfold Oper.wp
 simp [execOp, ho, h1, h2, h3, hrun, Result.andThen]
 exact hK _ r1 r2
end
theorem EndM.keepT {w w' : World} {P M : Nat} {G : Option Nat} {own : Nat → Option (Bool × Nat)} {k : Nat} {s : LE} (h : EndM w P M G own k s) (hs : w.heap.size ≤ w'.heap.size) (hk : ∀ g, g < w.heap.size → (g = P ∨ g = M ∨ G = some g ∨ ∃ cur, w.heap[g]? = some (.cells cur 5 (0, 0))) → w'.heap[g]? = w.heap[g]?) : EndM w' P M G own k s := by
 obtain ⟨h0, h1, sv, vs, f, D, h2, h3, ⟨h4, h5⟩, ⟨h6, h7⟩, h8, h9⟩ := h
 have hB : ∀ tg v b, ByV w own tg v b → ByV w' own tg v b := fun tg v b hb => hb.keep fun g cur hg hc => ⟨hk g (lt_of_block hc) (.inr (.inr (.inr ⟨cur, hc⟩))), hg⟩
 exact ⟨h0, fun g hg => Nat.lt_of_lt_of_le (h1 g hg) hs, sv, vs, f, D, (hk P (lt_of_block h2) (.inl rfl)).trans h2, h3.keep fun g hg hl => hk g hl (.inr (.inr (.inl hg))),
  ⟨h4, fun i v b hv hb => hB _ _ _ (h5 i v b hv hb)⟩, ⟨map_keep h6 (hk M (map_lt h6) (.inr (.inl rfl))), h7⟩, h8, fun n v b hv hb => hB _ _ _ (h9 n v b hv hb)⟩
def HearPost (w : World) (P M : Nat) (G : Option Nat) (own : Nat → Option (Bool × Nat)) (k : Nat) (s : LE) (f : BL) (e : Ending) (w' : World) : Prop :=
 ∃ v own', e = .returned (.tuple #[v, .int .i64 (hearL s f).1]) ∧ EndM w' P M G own' (k + 1) (hearL s f).2.2 ∧ BRows w.heap.size w' own' (fun q => (false, s.heard + 1 + q)) v (hearL s f).2.1 ∧ KB (P :: M :: G.toList) w w' ∧ ∀ g, own' g = own g ∨ w.heap.size ≤ g
theorem EndM.mono {w : World} {P M : Nat} {G : Option Nat} {own : Nat → Option (Bool × Nat)} {k : Nat} {s : LE} (h : EndM w P M G own k s) : EndM w P M G own (k + 1) s := by
 obtain ⟨h0, h1, sv, vs, f, D, h2, h3, h4, ⟨h6, h7⟩, h8, h9⟩ := h
 exact ⟨h0, h1, sv, vs, f, D, h2, h3, h4, ⟨h6.mono (Nat.le_succ _), h7⟩, h8, h9⟩
theorem hear_no {w y : World} {P M : Nat} {G : Option Nat} {own : Nat → Option (Bool × Nat)} {k : Nat} {s : LE} {f : BL} {c : Int} (h : EndM w P M G own k s) (hb : Below w.heap.size w y) (hc : hearL s f = (c, [], s)) : HearPost w P M G own k s f (.returned (.tuple #[.slice none 0 0, .int .i64 c])) y := by
 unfold HearPost
 rw [hc]
 exact ⟨_, own, rfl, (h.next hb).mono, BRows.nil _ _ _ _, ⟨hb.size, fun g hg _ => hb.block g hg, Env.of_below hb⟩, fun g => .inl rfl⟩
def TellSt (w x : World) (P M : Nat) (G : Option Nat) (own : Nat → Option (Bool × Nat)) (k : Nat) (s0 : LE) (j : Nat) (v : Value) (s : LE) : Prop :=
 ∃ own' bs, bs.length = j ∧ EndM x P M G own' (k + 1) s ∧ s.heard = s0.heard + j ∧ BRows w.heap.size x own' (fun q => (false, s0.heard + 1 + q)) v bs ∧ j ≤ 64 ∧ tellL 65 s0 = (bs ++ (tellL (65 - j) s).1, (tellL (65 - j) s).2) ∧ (∀ n, s.ahead n ≠ none → n ≤ s0.heard + 64) ∧ KB (P :: M :: G.toList) w x ∧ ∀ g, own' g = own g ∨ w.heap.size ≤ g
theorem TellSt.start {w x : World} {P M : Nat} {G : Option Nat} {own own' : Nat → Option (Bool × Nat)} {k : Nat} {s0 : LE} (h : EndM x P M G own' (k + 1) s0) (hk : KB (P :: M :: G.toList) w x) (ho : ∀ g, own' g = own g ∨ w.heap.size ≤ g) : TellSt w x P M G own k s0 0 (.slice none 0 0) s0 := by
 refine ⟨own', [], rfl, h, rfl, BRows.nil _ _ _ _, by omega, by simp, fun n hn => ?_, hk, ho⟩
 rcases hb : s0.ahead n with _ | b
 ·exact absurd hb hn
 ·exact (h.1.ahead n b hb).2.2
theorem TellSt.fin {w x y : World} {P M : Nat} {G : Option Nat} {own : Nat → Option (Bool × Nat)} {k j : Nat} {s s0 s1 : LE} {v : Value} {f : BL} (h : TellSt w x P M G own k s0 j v s1) (hn : s1.ahead (s1.heard + 1) = none) (hb : Below x.heap.size x y) (hh : hearL s f = (0, (tellL 65 s0).1, (tellL 65 s0).2)) (he : s0.heard = s.heard) : HearPost w P M G own k s f (.returned (.tuple #[v, .int .i64 0])) y := by
 obtain ⟨own', bs, h1, h2, h3, h4, h5, h6, h7, h8, h9⟩ := h
 have ht : tellL (65 - j) s1 = ([], s1) := by
  rw [show 65 - j = (64 - j) + 1 by omega]
  unfold tellL
  rw [hn]
 rw [ht, List.append_nil] at h6
 refine ⟨v, own', by rw [hh], by rw [hh, h6]; exact h2.next hb, ?_, h8.below hb h8.1, h9⟩
 rw [hh, h6, ← he]
 obtain ⟨A, c, vs, g1, g2, g3, g4⟩ := h4
 exact ⟨A, c, vs, g1, own_same g2 fun g hg => hb.block g (g2.lt g hg).2, fun i u b hu hb' => (g3 i u b hu hb').keep fun g cur hg hc => ⟨hb.block g (lt_of_block hc), hg⟩, g4⟩
theorem tell_le {s0 s : LE} {j : Nat} (h3 : s.heard = s0.heard + j) (h7 : ∀ n, s.ahead n ≠ none → n ≤ s0.heard + 64) (h : (s.ahead (s.heard + 1)).isSome = true) : j ≤ 63 := by
 have := h7 (s.heard + 1) (by intro e; rw [e] at h; cases h)
 omega
theorem turned_block {w w' : World} {b g : Nat} (h : w.mapTurned w' b) (hg : g ≠ b) : w'.heap[g]? = w.heap[g]? := by
 rcases Nat.lt_or_ge g w.heap.size with hl | hl
 ·exact h.grown.block g hl (fun e => hg (by injection e))
 ·have hs : w'.heap.size = w.heap.size := by
   obtain ⟨es, clock, es', clock', _, rfl⟩ := h
   simp [setBlock]
  rw [Array.getElem?_eq_none hl, Array.getElem?_eq_none (by omega)]
theorem turned_size {w w' : World} {b : Nat} (h : w.mapTurned w' b) : w'.heap.size = w.heap.size := by
 obtain ⟨es, clock, es', clock', _, rfl⟩ := h
 simp [setBlock]
theorem TellSt.step {w x x1 x2 x3 x4 : World} {P M : Nat} {G : Option Nat} {own own' : Nat → Option (Bool × Nat)} {k j : Nat} {s0 s : LE} {D : DataW Value} {f : Nat → Option Value} {sv u : Value} {A A' : Option Addr} {c c' : Nat} {vs : List Value} {bs : List BL} {b : BL}
  (hP : P < w.heap.size) (hM : M < w.heap.size) (hG : ∀ g, G = some g → g < w.heap.size)
  (h1 : bs.length = j) (h2 : EndM x P M G own' (k + 1) s) (h3 : s.heard = s0.heard + j)
  (g2 : x.ownsRow w.heap.size 23 1 (.slice A j c) j vs) (g3 : ∀ i u b, vs[i]? = some u → bs[i]? = some b → ByV x own' (false, s0.heard + 1 + i) u b) (g4 : ∀ u ∈ vs, u.oneCell' = true)
  (h5 : j ≤ 63) (h6 : tellL 65 s0 = (bs ++ (tellL (65 - j) s).1, (tellL (65 - j) s).2)) (h7 : ∀ n, s.ahead n ≠ none → n ≤ s0.heard + 64) (h8 : KB (P :: M :: G.toList) w x) (h9 : ∀ g, own' g = own g ∨ w.heap.size ≤ g)
  (hD : AhIs D f) (hf8 : ∀ n, (f n).isSome = (s.ahead n).isSome) (hf9 : ∀ n v b, f n = some v → s.ahead n = some b → ByV x own' (false, n) v b) (hn : s.heard < 1000000)
  (hu : f (s.heard + 1) = some u) (hb : s.ahead (s.heard + 1) = some b)
  (hc1 : x.cell? ⟨P, 1, none⟩ = some sv) (hP1 : x1.heap[P]? = some (.cells #[.int .i64 s.ep, sv, .int .i64 s.next, .int .i64 ((s.heard + 1 : Nat) : Int), .int .i64 s.fresh, .bool s.owes, .map (some M)] 67 (0, 0))) (hx1 : ∀ g, g ≠ P → x1.heap[g]? = x.heap[g]?) (hs1 : x1.heap.size = x.heap.size) (he1 : Env x x1)
  (hm : x2.ownsMap Try.prog 2 heldElem M (k + 1) (D.del (lk (s.heard + 1 : Nat)))) (ht : x1.mapTurned x2 M) (hb3 : Below x2.heap.size x2 x3) (ho : x4.ownsRow w.heap.size 23 1 (.slice A' (j + 1) c') (j + 1) (vs ++ [u])) (hg : x3.grownBy x4 (Value.slice A j c).ownBlock) :
  TellSt w x4 P M G own k s0 (j + 1) (.slice A' (j + 1) c') { s with heard := s.heard + 1, ahead := fun n => if n = s.heard + 1 then none else s.ahead n } := by
 have hPM : P ≠ M := by
  obtain ⟨_, _, _, _, _, _, hp, _, _, ⟨⟨es, clock, hm', _⟩, _⟩, _⟩ := h2
  rintro rfl
  rw [hm'] at hp
  cases hp
 have hs2 := turned_size ht
 have hP2 := (turned_block ht hPM).trans hP1
 have hfo : ∀ g, g ≠ P → g ≠ M → x2.heap[g]? = x.heap[g]? := fun g ha hb => (turned_block ht hb).trans (hx1 g ha)
 have hE2 := h2.tell hD hf8 hf9 hn hc1 hP2 hm (fun g _ ha hb => hfo g ha hb) (by omega)
 have s3 := hb3.size
 have s4 := hg.size
 have hk4 : ∀ g, g < x2.heap.size → (Value.slice A j c).ownBlock ≠ some g → x4.heap[g]? = x2.heap[g]? := fun g hl hne => (hg.block g (by omega) (fun e => hne e.symm)).trans (hb3.block g hl)
 have hne : ∀ g cur, x.heap[g]? = some (.cells cur 5 (0, 0)) → (Value.slice A j c).ownBlock ≠ some g := fun g cur hc e => by
  obtain ⟨cur', hc'⟩ := own_type g2 g e
  exact row_ne hc hc' (by decide) rfl
 obtain ⟨_, _, _, _, _, _, hxP, _, _, ⟨⟨es, clock, hxM, _⟩, _⟩, _⟩ := id h2
 have hby : ∀ tg v b, ByV x own' tg v b → ByV x4 own' tg v b := fun tg v b h => h.keep fun g cur hg hc => by
  have hl := lt_of_block hc
  exact ⟨(hk4 g (by omega) (hne g cur hc)).trans (hfo g (row_ne hc hxP (by decide)) (by rintro rfl; rw [hc] at hxM; cases hxM)), hg⟩
 refine ⟨own', bs ++ [b], by simp [h1], hE2.keepT (by omega) fun g hl hcase => hk4 g hl fun e => ?_, by dsimp only; omega, ?_, by omega, ?_, fun n hn' => ?_, ⟨by have := h8.1; omega, fun g hl hx => ?_, h8.3.trans (((he1.grown ht.grown).below hb3).grown hg)⟩, h9⟩
 ·have hgb := (g2.lt g e).1
  rcases hcase with rfl | rfl | hc | ⟨cur, hc⟩
  ·omega
  ·omega
  ·have := hG g hc; omega
  ·by_cases hgP : g = P
   ·omega
   ·by_cases hgM : g = M
    ·omega
    ·exact hne g cur ((hfo g hgP hgM).symm.trans hc) e
 ·have hlen : vs.length = j := by have := g2.1; omega
  have hmore := BRows.more (B := w.heap.size) (w' := x4) (own' := own') (v' := .slice A' (j + 1) c') (u := u) (b := b) (A' := A') (c' := c') g3 g4 (hlen.trans h1.symm) (by rw [h1]) (by rw [h1]; exact ho) (fun i u b h => hby _ _ _ h) (by
   have h := hby _ _ _ (hf9 _ u b hu hb)
   rw [h1]
   rwa [show s.heard + 1 = s0.heard + 1 + j by omega] at h)
  exact hmore
 ·rw [h6]
  have ht : tellL (65 - j) s = (b :: (tellL (64 - j) { s with heard := s.heard + 1, ahead := fun n => if n = s.heard + 1 then none else s.ahead n }).1, (tellL (64 - j) { s with heard := s.heard + 1, ahead := fun n => if n = s.heard + 1 then none else s.ahead n }).2) := by
   rw [show 65 - j = (64 - j) + 1 by omega]
   rw [tellL, hb]
  rw [ht, show 65 - (j + 1) = 64 - j by omega]
  simp
 ·refine h7 n fun e => hn' ?_
  dsimp only
  rw [e]
  split <;> rfl
 ·have hgb : (Value.slice A j c).ownBlock ≠ some g := fun e => by have := (g2.lt g e).1; omega
  have hxs := h8.1
  exact (hk4 g (by omega) hgb).trans ((hfo g (by rintro rfl; simp at hx) (by rintro rfl; simp at hx)).trans (h8.2 g hl hx))
end Go.Proofs.Ytigmmikijjcdiaa
