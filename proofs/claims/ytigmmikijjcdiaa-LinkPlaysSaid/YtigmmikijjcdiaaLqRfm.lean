/- The document's from, Out and Again. (printed by gen/rfm.py) -/
import Derived.Test.YtigmmikijjcdiaaProg
import Derived.Test.YtigmmikijjcdiaaLqRso
import Derived.Test.YtigmmikijjcdiaaLqRfr
import Derived.Test.YtigmmikijjcdiaaLqRrx
import Derived.Test.YtigmmikijjcdiaaLqLko
import Derived.Test.YtigmmikijjcdiaaLqReg
import Derived.Test.YtigmmikijjcdiaaLqRgl
import Derived.Deep.DeepCutAuto
import Derived.Lib.Hide
import Derived.WalkSpells
import Derived.WalkMore
import Derived.IntWalk












namespace Go.Proofs.Ytigmmikijjcdiaa
open Go.RowKit
set_option linter.unusedVariables false
set_option linter.unusedSimpArgs false
/-- strings that are told: a row of the caller's own -/
def StrO (B : Nat) (w : World) (v : Value) (l : List BL) : Prop := ∃ A c, v = .slice A l.length c ∧ w.ownsRow B 9 1 v l.length (strs l)
def RFromPost (w : World) (L Q : Nat) (G : Option Nat) (s : LE) (n : Nat) (ack : Bool) (e : Ending) (w' : World) : Prop :=
  ∃ v, e = .returned v ∧ StrO w.heap.size w' v (fromL s n ack).1 ∧ REnd w' L Q G (fromL s n ack).2 ∧ KB [Q] w w'
theorem REnd.updF {w : World} {L Q : Nat} {G : Option Nat} {s : LE} (h : REnd w L Q G s) : REnd (w.setCell ⟨Q, 3, none⟩ (.int .i64 (s.next : Int))) L Q G { s with fresh := s.next } := by
  obtain ⟨h1, h2, h3, sv, av, xs, h4, h5, h6, h7⟩ := h
  have hk : ∀ g, g ≠ Q → (w.setCell ⟨Q, 3, none⟩ (.int .i64 (s.next : Int))).heap[g]? = w.heap[g]? := fun g hg => Below.heap_setCell _ _ _ _ hg
  have hff : s.first ≤ s.next := by unfold LE.first; omega
  refine ⟨⟨h1.ep, h1.sent, h1.first, hff, Nat.le_refl _, h1.next, h1.heard, h1.bytes, h1.ahead⟩, h2, h3, sv, av, xs, heap_setCell_same _ Q 3 _ _ _ h4, h5.keep fun g e _ => hk g fun e2 => ?_, h6.keep fun g cur hc => hk g (row_ne hc h4 (by decide)), h7⟩
  obtain ⟨cur, hc⟩ := h5.blk g e
  exact row_ne hc h4 (by decide) e2
theorem REnd.updO {w : World} {L Q : Nat} {G : Option Nat} {s : LE} (h : REnd w L Q G s) (o : Bool) : REnd (w.setCell ⟨Q, 4, none⟩ (.bool o)) L Q G { s with owes := o } := by
  obtain ⟨h1, h2, h3, sv, av, xs, h4, h5, h6, h7⟩ := h
  have hk : ∀ g, g ≠ Q → (w.setCell ⟨Q, 4, none⟩ (.bool o)).heap[g]? = w.heap[g]? := fun g hg => Below.heap_setCell _ _ _ _ hg
  refine ⟨⟨h1.ep, h1.sent, h1.first, h1.fresh1, h1.fresh2, h1.next, h1.heard, h1.bytes, h1.ahead⟩, h2, h3, sv, av, xs, heap_setCell_same _ Q 4 _ _ _ h4, h5.keep fun g e _ => hk g fun e2 => ?_, h6.keep fun g cur hc => hk g (row_ne hc h4 (by decide)), h7⟩
  obtain ⟨cur, hc⟩ := h5.blk g e
  exact row_ne hc h4 (by decide) e2
theorem strO_set {w : World} {B Q i : Nat} {v u : Value} {l : List BL} (h : StrO B w v l) (hQ : Q < B) : StrO B (w.setCell ⟨Q, i, none⟩ u) v l := by
  obtain ⟨A, c, h1, h2⟩ := h
  exact ⟨A, c, h1, own_same h2 fun g hg => Below.heap_setCell _ _ _ _ (by have := (h2.lt g hg).1; show g ≠ Q; omega)⟩
theorem rfrom_none {w y : World} {L Q : Nat} {G : Option Nat} {s : LE} {n : Nat} {ack : Bool} {v : Value} (hE : REnd y L Q G s) (hb : Below w.heap.size w y) (hQ : Q < w.heap.size) (hl : (fromL s n ack).1 = []) (hv : StrO w.heap.size y v []) :
    RFromPost w L Q G s n ack (.returned v) (y.setCell ⟨Q, 3, none⟩ (.int .i64 (s.next : Int))) := by
  have he : (fromL s n ack).2 = { s with owes := s.owes && ((fromL s n ack).1).isEmpty, fresh := s.next } := rfl
  rw [hl] at he
  refine ⟨v, rfl, by rw [hl]; exact strO_set hv hQ, ?_, (KB.refl _ _).below hb (Nat.le_refl _) |>.setCell (.inr (by simp)) _⟩
  rw [he]
  simpa using hE.updF
theorem rfrom_some {w y : World} {L Q : Nat} {G : Option Nat} {s : LE} {n : Nat} {ack : Bool} {v : Value} {l : List BL} (hE : REnd y L Q G s) (hb : Below w.heap.size w y) (hQ : Q < w.heap.size) (hl : (fromL s n ack).1 = l) (hne : l.isEmpty = false) (hv : StrO w.heap.size y v l) :
    RFromPost w L Q G s n ack (.returned v) ((y.setCell ⟨Q, 4, none⟩ (.bool false)).setCell ⟨Q, 3, none⟩ (.int .i64 (s.next : Int))) := by
  have he : (fromL s n ack).2 = { s with owes := s.owes && ((fromL s n ack).1).isEmpty, fresh := s.next } := rfl
  rw [hl, hne] at he
  refine ⟨v, rfl, by rw [hl]; exact strO_set (strO_set hv hQ) hQ, ?_, ((KB.refl _ _).below hb (Nat.le_refl _) |>.setCell (.inr (by simp)) _).setCell (.inr (by simp)) _⟩
  rw [he]
  simpa using (hE.updO false).updF
set_option maxRecDepth 100000 in
set_option maxHeartbeats 16000000 in
theorem rfrom_any (w : World) {L Q : Nat} {G : Option Nat} {s : LE} (h : REnd w L Q G s) (n m : Nat) (hm : m = max n s.first) (hm2 : m ≤ s.next) (ack : Bool) :
    Calls Try.prog 37 #[.pointer (some ⟨Q, 0, none⟩), .int .i64 (n : Int), .bool ack] w (RFromPost w L Q G s m ack) := by
  have hok := h.1
  obtain ⟨A, c, B, d, m6, e0, e1, e2, e3, e4, e5, e6, hQ⟩ := h.cells
  have HE := hide h
  obtain ⟨-, -, -, sv, av, xs, h4, h5, -, -⟩ := h
  have hsv : sv = .slice A s.sent.length c := by have h := cell_of_row _ _ 5 _ _ _ h4; rw [e5] at h; simpa using h.symm
  subst hsv
  obtain ⟨ns, hns⟩ : ∃ x, s.sent.length = x := ⟨_, rfl⟩
  obtain ⟨nx0, hnx⟩ : ∃ x, s.next = x := ⟨_, rfl⟩
  obtain ⟨ep, hep⟩ : ∃ x, s.ep = x := ⟨_, rfl⟩
  obtain ⟨hd, hhd⟩ : ∃ x, s.heard = x := ⟨_, rfl⟩
  obtain ⟨fs, hfs⟩ : ∃ x, s.first = x := ⟨_, rfl⟩
  have b1 : ns ≤ 64 := by rw [← hns]; exact hok.sent
  have b2 : nx0 ≤ 1000000 := by rw [← hnx]; exact hok.next
  have b3' : ep ≤ 4611686018427387904 := by rw [← hep]; exact hok.ep
  have b4 : hd ≤ 1000000 := by rw [← hhd]; exact hok.heard
  have HS : Hid (s.sent.length = ns ∧ s.next = nx0 ∧ s.ep = ep ∧ s.heard = hd ∧ s.first = fs ∧ fs + ns = nx0) := hide ⟨hns, hnx, hep, hhd, hfs, by have := hok.first; rw [← hfs, ← hns, ← hnx]; unfold LE.first; omega⟩
  have HBy := hide hok.bytes
  rw [hns] at e5 h5
  rw [hnx] at e1 hm2
  rw [hep] at e0
  rw [hhd] at e2
  rw [hfs] at hm
  have H5 := hide h5
  have kfs : IntKind.i64.wrap ((nx0 : Int) - (ns : Int)) = (fs : Int) := by rw [IntWalk.i64_in _ (by omega)]; have := HS.out; omega
  clear hok h4 h5 hns hnx hep hhd hfs
  obtain ⟨i3, a3i, a3z, a3s, a3b⟩ := info_parts (show (Try.prog.info? 9).map (fun i => (i.zero, i.size, i.bytes)) = some (some (.string ⟨#[]⟩), 1, 16) by kernel_rfl)
  have HM := hide hm
  obtain ⟨mi, hmi⟩ : ∃ z : Int, (if (fs : Int) ≤ (n : Int) then (n : Int) else (fs : Int)) = z := ⟨_, rfl⟩
  skip
  clear hm
  go_enter Try.func37, Try.ntmps37
  go_upto_region 2 with fail
  refine wp_region_held_drew (S := Kept w) (by kernel_rfl) (Kept.drew w) (fun hS0 => ?_)
  refine take_at (i := 0) (d := 10) (v := ?_) (by simp only [List.getElem?_toArray, List.getElem?_cons_succ, List.getElem?_cons_zero]; rfl) rfl (by kernel_rfl) (by kernel_rfl) (by kernel_rfl) (fun _ _ _ h => h) rfl ?_ (by assumption) ?_
  rotate_left
  focus (intro w hSw; go_simp; (try with_reducible rfl); done)
  try simp only [List.setIfInBounds_toArray, List.set_cons_zero, List.set_cons_succ]
  refine take_at (i := 1) (d := 11) (v := ?_) (by simp only [List.getElem?_toArray, List.getElem?_cons_succ, List.getElem?_cons_zero]; rfl) rfl (by kernel_rfl) (by kernel_rfl) (by kernel_rfl) (fun _ _ _ h => h) rfl ?_ (by assumption) ?_
  rotate_left
  focus (intro w hSw; go_simp; (try with_reducible rfl); done)
  try simp only [List.setIfInBounds_toArray, List.set_cons_zero, List.set_cons_succ]
  refine take_at (i := 2) (d := 12) (v := ?_) (by simp only [List.getElem?_toArray, List.getElem?_cons_succ, List.getElem?_cons_zero]; rfl) rfl (by kernel_rfl) (by kernel_rfl) (by kernel_rfl) (fun _ _ _ h => h) rfl ?_ (by assumption) ?_
  rotate_left
  focus (intro w hSw; go_simp; (try with_reducible rfl); done)
  try simp only [List.setIfInBounds_toArray, List.set_cons_zero, List.set_cons_succ]
  refine take_at (i := 3) (d := 13) (v := ?_) (by simp only [List.getElem?_toArray, List.getElem?_cons_succ, List.getElem?_cons_zero]; rfl) rfl (by kernel_rfl) (by kernel_rfl) (by kernel_rfl) (fun _ _ _ h => h) rfl ?_ (by assumption) ?_
  rotate_left
  focus (intro w hSw; go_simp; (try with_reducible rfl); done)
  try simp only [List.setIfInBounds_toArray, List.set_cons_zero, List.set_cons_succ]
  refine take_at (i := 4) (d := 14) (v := ?_) (by simp only [List.getElem?_toArray, List.getElem?_cons_succ, List.getElem?_cons_zero]; rfl) rfl (by kernel_rfl) (by kernel_rfl) (by kernel_rfl) (fun _ _ _ h => h) rfl ?_ (by assumption) ?_
  rotate_left
  focus (intro w hSw; go_simp; (try with_reducible rfl); done)
  try simp only [List.setIfInBounds_toArray, List.set_cons_zero, List.set_cons_succ]
  refine take_at (i := 5) (d := 15) (v := ?_) (by simp only [List.getElem?_toArray, List.getElem?_cons_succ, List.getElem?_cons_zero]; rfl) rfl (by kernel_rfl) (by kernel_rfl) (by kernel_rfl) (fun _ _ _ h => h) rfl ?_ (by assumption) ?_
  rotate_left
  focus (intro w hSw; go_simp; (try with_reducible rfl); done)
  try simp only [List.setIfInBounds_toArray, List.set_cons_zero, List.set_cons_succ]
  refine take_at (i := 6) (d := 16) (v := ?_) (by simp only [List.getElem?_toArray, List.getElem?_cons_succ, List.getElem?_cons_zero]; rfl) rfl (by kernel_rfl) (by kernel_rfl) (by kernel_rfl) (fun _ _ _ h => h) rfl ?_ (by assumption) ?_
  rotate_left
  focus (intro w hSw; go_simp; (try with_reducible rfl); done)
  try simp only [List.setIfInBounds_toArray, List.set_cons_zero, List.set_cons_succ]
  refine take_at (i := 7) (d := 17) (v := ?_) (by simp only [List.getElem?_toArray, List.getElem?_cons_succ, List.getElem?_cons_zero]; rfl) rfl (by kernel_rfl) (by kernel_rfl) (by kernel_rfl) (fun _ _ _ h => h) rfl ?_ (by assumption) ?_
  rotate_left
  focus (intro w hSw; go_simp; (try with_reducible rfl); done)
  try simp only [List.setIfInBounds_toArray, List.set_cons_zero, List.set_cons_succ]
  refine take_at (i := 8) (d := 18) (v := ?_) (by simp only [List.getElem?_toArray, List.getElem?_cons_succ, List.getElem?_cons_zero]; rfl) rfl (by kernel_rfl) (by kernel_rfl) (by kernel_rfl) (fun _ _ _ h => h) rfl ?_ (by assumption) ?_
  rotate_left
  focus (intro w hSw; go_simp; (try with_reducible rfl); done)
  try simp only [List.setIfInBounds_toArray, List.set_cons_zero, List.set_cons_succ]
  refine take_at (i := 9) (d := 19) (v := ?_) (by simp only [List.getElem?_toArray, List.getElem?_cons_succ, List.getElem?_cons_zero]; rfl) rfl (by kernel_rfl) (by kernel_rfl) (by kernel_rfl) (fun _ _ _ h => h) rfl ?_ (by assumption) ?_
  rotate_left
  focus (intro w hSw; go_simp; (try rw [kfs]); (try with_reducible rfl); done)
  try simp only [List.setIfInBounds_toArray, List.set_cons_zero, List.set_cons_succ]
  refine take_at (i := 10) (d := 8) (v := ?_) (by simp only [List.getElem?_toArray, List.getElem?_cons_succ, List.getElem?_cons_zero]; rfl) rfl (by kernel_rfl) (by kernel_rfl) (by kernel_rfl) (fun _ _ _ h => h) rfl ?_ (by assumption) ?_
  rotate_left
  focus (intro w hSw; go_simp; (try with_reducible rfl); done)
  try simp only [List.setIfInBounds_toArray, List.set_cons_zero, List.set_cons_succ]
  refine wpAnyH_done (by kernel_rfl) ?_ _
  clear hS0
  go_upto_region 3 with fail
  go_cut [9] (fun v9 wc => v9 = .int .i64 (m : Int) ∧ w.drew = wc)
  case first =>
    by_cases cm : (n : Int) < (fs : Int)
    · have HC : Hid ((fs : Int) = (m : Int)) := hide (by have := HM.out; omega)
      have cm2 : ¬ (fs : Int) < (n : Int) := by omega
      go_wp2
      go_meet
      case rel => exact ⟨by rw [HC.out], rfl⟩
    · have HC : Hid ((n : Int) = (m : Int)) := hide (by have := HM.out; omega)
      go_wp2
      go_meet
      case rel => exact ⟨by rw [HC.out], rfl⟩
  case rest =>
    obtain ⟨rfl, rfl⟩ := hcut
    have hmf : fs ≤ m := by have := HM.out; omega
    go_wp2
    go_loopw [7, 9] (fun v7 v9 wr => ∃ (i j : Nat) (A7 : Option Addr) (c7 : Nat), i ≤ nx0 ∧ v9 = .int .i64 (i : Int) ∧ v7 = .slice A7 j c7 ∧ Hid (i = m + j) ∧ Hid (wr.ownsRow w.heap.size 9 1 (.slice A7 j c7) j (strs ((List.range' m j).map (frOf s)))) ∧ Hid (Below w.heap.size w wr)) (fun _ v9 _ => nx0 - (intOf v9).toNat)
    case atStart => exact ⟨m, 0, none, 0, hm2, rfl, rfl, hide rfl, hide (World.ownsRow_nil _ _ _ _), hide (Below.refl _ _).drew⟩
    case round =>
      obtain ⟨i, j, A7, c7, hi, rfl, rfl, HI, HO7, HBr⟩ := hrel
      obtain ⟨wr, rfl⟩ : ∃ z : World, z = wr := ⟨_, rfl⟩
      have swr : w.heap.size ≤ wr.heap.size := HBr.out.size
      have hQr : Q < wr.heap.size := by omega
      have r0 := (HBr.out.cell (p := ⟨Q, 0, none⟩) hQ).trans e0
      have r1 := (HBr.out.cell (p := ⟨Q, 1, none⟩) hQ).trans e1
      have r2 := (HBr.out.cell (p := ⟨Q, 2, none⟩) hQ).trans e2
      have r5 := (HBr.out.cell (p := ⟨Q, 5, none⟩) hQ).trans e5
      have HEr := hide (HE.out.next HBr.out)
      have hj : j ≤ 1000000 := by have := HI.out; omega
      by_cases hlt : i < nx0
      · have hI1 : (i : Int) < (nx0 : Int) := by omega
        obtain ⟨kk, hkk⟩ : ∃ x, i - fs = x := ⟨_, rfl⟩
        have hfi : fs ≤ i := by have := HI.out; omega
        have hkn : kk < ns := by have := HS.out; omega
        have HKK : Hid (IntKind.i64.wrap ((i : Int) - (fs : Int)) = (kk : Int)) := hide (by rw [IntWalk.i64_in _ (by omega)]; omega)
        have HK2 := hide hkk
        clear hkk
        obtain ⟨b, hb⟩ : ∃ b, s.sent[kk]? = some b := ⟨_, List.getElem?_eq_getElem (by rw [HS.out.1]; exact hkn)⟩
        have hu : (strs s.sent)[kk]? = some (.string ⟨b.toArray⟩) := by unfold strs; rw [List.getElem?_map, hb]; rfl
        obtain ⟨g, off, rfl, -, hgl, -, hc0⟩ := H5.out.at_ hu
        have hgr : g < wr.heap.size := by omega
        have hbl2 : b.length ≤ 1048576 := HBy.out b (List.mem_of_getElem? hb)
        have HBl := hide hbl2
        have HFr : Hid (frOf s i = frI 1 b (ep : Int) (hd : Int) (i : Int)) := hide (by obtain ⟨_, _, k3, k4, k5, _⟩ := HS.out; unfold frOf frI; rw [if_pos rfl, most_u (by unfold mostL; omega), most_u (by unfold mostL; omega), most_u (by unfold mostL; omega), k3, k4, k5, HK2.out, List.getD_eq_getElem?_getD, hb]; rfl)
        obtain ⟨F, hF⟩ : ∃ z, frOf s i = z := ⟨_, rfl⟩
        have HF := hide hF
        rw [hF] at HFr
        have HTk : Hid (strs ((List.range' m (j + 1)).map (frOf s)) = strs ((List.range' m j).map (frOf s)) ++ [.string ⟨F.toArray⟩]) := hide (by rw [List.range'_1_concat, List.map_append, strs_app, ← HI.out]; show _ ++ strs [frOf s i] = _; rw [HF.out]; rfl)
        clear hb hu hbl2 hF
        go_upto_region 6 with fail
        refine wp_region_held_drew (S := Kept w) (by kernel_rfl) (Kept.of_below HBr.out.drew) (fun hS0 => ?_)
        refine take_at (i := 0) (d := 31) (v := ?_) (by simp only [List.getElem?_toArray, List.getElem?_cons_succ, List.getElem?_cons_zero]; rfl) rfl (by kernel_rfl) (by kernel_rfl) (by kernel_rfl) (fun _ _ _ h => h) rfl ?_ (by assumption) ?_
        rotate_left
        focus (intro w hSw; go_simp; (try with_reducible rfl); done)
        try simp only [List.setIfInBounds_toArray, List.set_cons_zero, List.set_cons_succ]
        refine take_at (i := 1) (d := 32) (v := ?_) (by simp only [List.getElem?_toArray, List.getElem?_cons_succ, List.getElem?_cons_zero]; rfl) rfl (by kernel_rfl) (by kernel_rfl) (by kernel_rfl) (fun _ _ _ h => h) rfl ?_ (by assumption) ?_
        rotate_left
        focus (intro w hSw; go_simp; (try with_reducible rfl); done)
        try simp only [List.setIfInBounds_toArray, List.set_cons_zero, List.set_cons_succ]
        refine take_at (i := 2) (d := 33) (v := ?_) (by simp only [List.getElem?_toArray, List.getElem?_cons_succ, List.getElem?_cons_zero]; rfl) rfl (by kernel_rfl) (by kernel_rfl) (by kernel_rfl) (fun _ _ _ h => h) rfl ?_ (by assumption) ?_
        rotate_left
        focus (intro w hSw; go_simp; (try with_reducible rfl); done)
        try simp only [List.setIfInBounds_toArray, List.set_cons_zero, List.set_cons_succ]
        refine take_at (i := 3) (d := 34) (v := ?_) (by simp only [List.getElem?_toArray, List.getElem?_cons_succ, List.getElem?_cons_zero]; rfl) rfl (by kernel_rfl) (by kernel_rfl) (by kernel_rfl) (fun _ _ _ h => h) rfl ?_ (by assumption) ?_
        rotate_left
        focus (intro w hSw; go_simp; (try with_reducible rfl); done)
        try simp only [List.setIfInBounds_toArray, List.set_cons_zero, List.set_cons_succ]
        refine take_at (i := 4) (d := 35) (v := ?_) (by simp only [List.getElem?_toArray, List.getElem?_cons_succ, List.getElem?_cons_zero]; rfl) rfl (by kernel_rfl) (by kernel_rfl) (by kernel_rfl) (fun _ _ _ h => h) rfl ?_ (by assumption) ?_
        rotate_left
        focus (intro w hSw; go_simp; (try with_reducible rfl); done)
        try simp only [List.setIfInBounds_toArray, List.set_cons_zero, List.set_cons_succ]
        refine take_at (i := 5) (d := 36) (v := ?_) (by simp only [List.getElem?_toArray, List.getElem?_cons_succ, List.getElem?_cons_zero]; rfl) rfl (by kernel_rfl) (by kernel_rfl) (by kernel_rfl) (fun _ _ _ h => h) rfl ?_ (by assumption) ?_
        rotate_left
        focus (intro w hSw; go_simp; (try with_reducible rfl); done)
        try simp only [List.setIfInBounds_toArray, List.set_cons_zero, List.set_cons_succ]
        refine take_at (i := 6) (d := 37) (v := ?_) (by simp only [List.getElem?_toArray, List.getElem?_cons_succ, List.getElem?_cons_zero]; rfl) rfl (by kernel_rfl) (by kernel_rfl) (by kernel_rfl) (fun _ _ _ h => h) rfl ?_ (by assumption) ?_
        rotate_left
        focus (intro w hSw; go_simp; (try with_reducible rfl); done)
        try simp only [List.setIfInBounds_toArray, List.set_cons_zero, List.set_cons_succ]
        refine take_at (i := 7) (d := 38) (v := ?_) (by simp only [List.getElem?_toArray, List.getElem?_cons_succ, List.getElem?_cons_zero]; rfl) rfl (by kernel_rfl) (by kernel_rfl) (by kernel_rfl) (fun _ _ _ h => h) rfl ?_ (by assumption) ?_
        rotate_left
        focus (intro w hSw; go_simp; (try with_reducible rfl); done)
        try simp only [List.setIfInBounds_toArray, List.set_cons_zero, List.set_cons_succ]
        refine take_at (i := 8) (d := 39) (v := ?_) (by simp only [List.getElem?_toArray, List.getElem?_cons_succ, List.getElem?_cons_zero]; rfl) rfl (by kernel_rfl) (by kernel_rfl) (by kernel_rfl) (fun _ _ _ h => h) rfl ?_ (by assumption) ?_
        rotate_left
        focus (intro w hSw; go_simp; (try with_reducible rfl); done)
        try simp only [List.setIfInBounds_toArray, List.set_cons_zero, List.set_cons_succ]
        refine take_at (i := 9) (d := 40) (v := ?_) (by simp only [List.getElem?_toArray, List.getElem?_cons_succ, List.getElem?_cons_zero]; rfl) rfl (by kernel_rfl) (by kernel_rfl) (by kernel_rfl) (fun _ _ _ h => h) rfl ?_ (by assumption) ?_
        rotate_left
        focus (intro w hSw; go_simp; (try with_reducible rfl); done)
        try simp only [List.setIfInBounds_toArray, List.set_cons_zero, List.set_cons_succ]
        refine take_at (i := 10) (d := 41) (v := ?_) (by simp only [List.getElem?_toArray, List.getElem?_cons_succ, List.getElem?_cons_zero]; rfl) rfl (by kernel_rfl) (by kernel_rfl) (by kernel_rfl) (fun _ _ _ h => h) rfl ?_ (by assumption) ?_
        rotate_left
        focus (intro w hSw; go_simp; (try with_reducible rfl); done)
        try simp only [List.setIfInBounds_toArray, List.set_cons_zero, List.set_cons_succ]
        refine take_at (i := 11) (d := 42) (v := ?_) (by simp only [List.getElem?_toArray, List.getElem?_cons_succ, List.getElem?_cons_zero]; rfl) rfl (by kernel_rfl) (by kernel_rfl) (by kernel_rfl) (fun _ _ _ h => h) rfl ?_ (by assumption) ?_
        rotate_left
        focus (intro w hSw; go_simp; (try with_reducible rfl); done)
        try simp only [List.setIfInBounds_toArray, List.set_cons_zero, List.set_cons_succ]
        refine take_at (i := 12) (d := 43) (v := ?_) (by simp only [List.getElem?_toArray, List.getElem?_cons_succ, List.getElem?_cons_zero]; rfl) rfl (by kernel_rfl) (by kernel_rfl) (by kernel_rfl) (fun _ _ _ h => h) rfl ?_ (by assumption) ?_
        rotate_left
        focus (intro w hSw; go_simp; (try with_reducible rfl); done)
        try simp only [List.setIfInBounds_toArray, List.set_cons_zero, List.set_cons_succ]
        refine take_at (i := 13) (d := 44) (v := ?_) (by simp only [List.getElem?_toArray, List.getElem?_cons_succ, List.getElem?_cons_zero]; rfl) rfl (by kernel_rfl) (by kernel_rfl) (by kernel_rfl) (fun _ _ _ h => h) rfl ?_ (by assumption) ?_
        rotate_left
        focus (intro w hSw; go_simp; (try with_reducible rfl); done)
        try simp only [List.setIfInBounds_toArray, List.set_cons_zero, List.set_cons_succ]
        refine take_at (i := 14) (d := 45) (v := ?_) (by simp only [List.getElem?_toArray, List.getElem?_cons_succ, List.getElem?_cons_zero]; rfl) rfl (by kernel_rfl) (by kernel_rfl) (by kernel_rfl) (fun _ _ _ h => h) rfl ?_ (by assumption) ?_
        rotate_left
        focus (intro w hSw; go_simp; (try with_reducible rfl); done)
        try simp only [List.setIfInBounds_toArray, List.set_cons_zero, List.set_cons_succ]
        refine take_at (i := 15) (d := 46) (v := ?_) (by simp only [List.getElem?_toArray, List.getElem?_cons_succ, List.getElem?_cons_zero]; rfl) rfl (by kernel_rfl) (by kernel_rfl) (by kernel_rfl) (fun _ _ _ h => h) rfl ?_ (by assumption) ?_
        rotate_left
        focus (intro w hSw; go_simp; (try with_reducible rfl); done)
        try simp only [List.setIfInBounds_toArray, List.set_cons_zero, List.set_cons_succ]
        refine take_at (i := 16) (d := 47) (v := ?_) (by simp only [List.getElem?_toArray, List.getElem?_cons_succ, List.getElem?_cons_zero]; rfl) rfl (by kernel_rfl) (by kernel_rfl) (by kernel_rfl) (fun _ _ _ h => h) rfl ?_ (by assumption) ?_
        rotate_left
        focus (intro w hSw; go_simp; (try rw [HKK.out]); (try with_reducible rfl); done)
        try simp only [List.setIfInBounds_toArray, List.set_cons_zero, List.set_cons_succ]
        refine take_at (i := 17) (d := 48) (v := ?_) (by simp only [List.getElem?_toArray, List.getElem?_cons_succ, List.getElem?_cons_zero]; rfl) rfl (by kernel_rfl) (by kernel_rfl) (by kernel_rfl) (fun _ _ _ h => h) rfl ?_ (by assumption) ?_
        rotate_left
        focus (intro w hSw; go_simp; (try with_reducible rfl); done)
        try simp only [List.setIfInBounds_toArray, List.set_cons_zero, List.set_cons_succ]
        refine take_at (i := 18) (d := 49) (v := ?_) (by simp only [List.getElem?_toArray, List.getElem?_cons_succ, List.getElem?_cons_zero]; rfl) rfl (by kernel_rfl) (by kernel_rfl) (by kernel_rfl) (fun _ _ _ h => h) rfl ?_ (by assumption) ?_
        rotate_left
        focus (intro w hSw; go_simp; (try with_reducible rfl); done)
        try simp only [List.setIfInBounds_toArray, List.set_cons_zero, List.set_cons_succ]
        refine call_at (i := 19) (d := 50) (by simp only [List.getElem?_toArray, List.getElem?_cons_succ, List.getElem?_cons_zero]; rfl) rfl (by kernel_rfl) rfl (fun K hK => ?_)
        go_simp
        refine (rframe_any wr.drew 1 (by decide) (ep : Int) (hd : Int) (i : Int) (by omega) (by omega) (by omega) (by omega) (by omega) (by omega) b (by have := HBl.out; omega)).mono ?_
        rintro e y1 ⟨rfl, hz⟩
        rw [← HFr.out]
        have HY1 : Hid (Below wr.heap.size wr y1) := hide ((Below.refl _ _).drew.trans hz)
        have hS1 : Kept w y1 := Kept.of_below (HBr.out.trans (HY1.out.mono swr))
        clear hz
        go_wp2_with fail
        refine hK.out _ _ hS1 (fun hSn => ?_)
        clear hK K
        try simp only [List.setIfInBounds_toArray, List.set_cons_zero, List.set_cons_succ]
        refine call_at (i := 20) (d := 51) (by simp only [List.getElem?_toArray, List.getElem?_cons_succ, List.getElem?_cons_zero]; rfl) rfl (by kernel_rfl) rfl (fun K hK => ?_)
        go_simp
        obtain ⟨y4, hy⟩ : ∃ z, y1.alloc (.cells #[.string ⟨F.toArray⟩] 9) = z := ⟨_, rfl⟩
        have HY4 : Hid (Below wr.heap.size wr y4) := hide (by rw [← hy]; exact HY1.out.alloc HY1.out.size _)
        have HO1 : Hid (y4.heap[y1.heap.size]? = some (.cells #[.string ⟨F.toArray⟩] 9)) := hide (by rw [← hy]; exact heap_alloc_last y1 _)
        rw [hy]
        clear hy
        have hS4 : Kept w y4 := Kept.of_below (HBr.out.trans (HY4.out.mono swr))
        refine hK.out _ _ hS4 (fun hSn => ?_)
        clear hK K
        try simp only [List.setIfInBounds_toArray, List.set_cons_zero, List.set_cons_succ]
        refine call_at (i := 21) (d := 52) (by simp only [List.getElem?_toArray, List.getElem?_cons_succ, List.getElem?_cons_zero]; rfl) rfl (by kernel_rfl) rfl (fun K hK => ?_)
        refine op_app (.tmp 31) (.tmp 51) 48 rfl w.heap.size 9 i3 (.string ⟨#[]⟩) 1 16 Try.underlying48 a3i a3z a3s a3b rfl (by decide) (.slice A7 j c7) j (strs ((List.range' m j).map (frOf s))) rfl (own_below HO7.out HY4.out (fun g hg => (HO7.out.lt g hg).2)) y4.heap.size (some ⟨y1.heap.size, 0, none⟩) 1 1 [.string ⟨F.toArray⟩] rfl rfl (rd_cells HO1.out) (by simp [Value.oneCell']) (by unfold maxLen; omega) (by omega) (Nat.le_trans swr HY4.out.size) ?_
        intro A8 c8 y5 own5 hg5 hat5
        have HBf : Hid (Below w.heap.size w y5) := hide (app_below1 (HBr.out.trans (HY4.out.mono swr)) HO7.out hg5)
        have HO5 := hide own5
        have hS5 : Kept w y5 := Kept.of_below HBf.out
        clear own5 hg5 hat5
        refine hK.out _ _ hS5 (fun hSn => ?_)
        clear hK K
        simp only [Act.put]
        try simp only [List.setIfInBounds_toArray, List.set_cons_zero, List.set_cons_succ]
        refine take_at (i := 22) (d := 7) (v := ?_) (by simp only [List.getElem?_toArray, List.getElem?_cons_succ, List.getElem?_cons_zero]; rfl) rfl (by kernel_rfl) (by kernel_rfl) (by kernel_rfl) (fun _ _ _ h => h) rfl ?_ (by assumption) ?_
        rotate_left
        focus (intro w hSw; go_simp; (try with_reducible rfl); done)
        try simp only [List.setIfInBounds_toArray, List.set_cons_zero, List.set_cons_succ]
        refine wpAnyH_done (by kernel_rfl) ?_ _
        have HFin : Hid (y5.ownsRow w.heap.size 9 1 (.slice A8 (j + 1) c8) (j + 1) (strs ((List.range' m (j + 1)).map (frOf s)))) := hide (by rw [HTk.out]; exact HO5.out)
        clear hS0 hSn hS1 hS4 hS5
        go_wp2
        go_roundw
        case rel => exact ⟨i + 1, j + 1, A8, c8, by omega, by go_num, rfl, hide (by have := HI.out; omega), HFin, HBf⟩
        case measure => simp [intOf]; omega
      have hI1 : ¬ (i : Int) < (nx0 : Int) := by omega
      have hin : i = nx0 := by omega
      have HLn : Hid (framesL s m = (List.range' m j).map (frOf s)) := hide (by have h9 := HI.out; have h8 := HS.out.2.1; unfold framesL; rw [show s.next - m = j by omega]; rfl)
      have HB9 := HBr
      have HE9 := HEr
      clear hin
      by_cases hj0 : j = 0
      rotate_left
      · have k1 : ((j : Int) == 0) = false := by simp; omega
        have k2 : (0 : Int) < (j : Int) := by omega
        have hLe : ((List.range' m j).map (frOf s)).isEmpty = false := by cases hj9 : j with | zero => omega | succ q => rfl
        have HL : Hid ((fromL s m ack).1 = (List.range' m j).map (frOf s)) := hide (by unfold fromL; dsimp only; rw [HLn.out, hLe]; rfl)
        have HFin := hide (rfrom_some (v := .slice A7 j c7) HEr.out HBr.out hQ HL.out hLe ⟨A7, c7, by rw [List.length_map, List.length_range'], by rw [List.length_map, List.length_range']; exact HO7.out⟩)
        clear hLe hj0
        have e1y := (HB9.out.cell (p := ⟨Q, 1, none⟩) hQ).trans e1
        have z4 : wr.frozen? ⟨Q, 4, none⟩ = false := by obtain ⟨_, _, _, _, _, _, h2, _⟩ := HE9.out; exact frozen_of_row _ _ 4 _ _ h2
        have z3 : wr.frozen? ⟨Q, 3, none⟩ = false := by obtain ⟨_, _, _, _, _, _, h2, _⟩ := HE9.out; exact frozen_of_row _ _ 3 _ _ h2
        skip
        have e3y := (HB9.out.cell (p := ⟨Q, 3, none⟩) hQ).trans e3
        have e4y := (HB9.out.cell (p := ⟨Q, 4, none⟩) hQ).trans e4
        rw [HS.out.2.1] at HFin
        clear r0 r1 r2 r5
        go_wp2
        go_ret
        exact HFin.out
      subst hj0
      rcases ack with _ | _
      · have HL : Hid ((fromL s m false).1 = []) := hide (by unfold fromL; dsimp only; rw [HLn.out]; rfl)
        have HFin := hide (rfrom_none (v := .slice A7 0 c7) HEr.out HBr.out hQ HL.out ⟨A7, c7, rfl, HO7.out⟩)
        have e1y := (HB9.out.cell (p := ⟨Q, 1, none⟩) hQ).trans e1
        have z4 : wr.frozen? ⟨Q, 4, none⟩ = false := by obtain ⟨_, _, _, _, _, _, h2, _⟩ := HE9.out; exact frozen_of_row _ _ 4 _ _ h2
        have z3 : wr.frozen? ⟨Q, 3, none⟩ = false := by obtain ⟨_, _, _, _, _, _, h2, _⟩ := HE9.out; exact frozen_of_row _ _ 3 _ _ h2
        skip
        have e3y := (HB9.out.cell (p := ⟨Q, 3, none⟩) hQ).trans e3
        have e4y := (HB9.out.cell (p := ⟨Q, 4, none⟩) hQ).trans e4
        rw [HS.out.2.1] at HFin
        clear r0 r1 r2 r5
        go_wp2
        go_ret
        exact HFin.out
      obtain ⟨F, hF⟩ : ∃ z, fr 2 [] [ep, hd] = z := ⟨_, rfl⟩
      have HFr : Hid (F = frI 2 [] (ep : Int) (hd : Int) 0) := hide (by rw [← hF]; unfold frI; rw [if_neg (by decide), most_u (by unfold mostL; omega), most_u (by unfold mostL; omega)])
      have HL : Hid ((fromL s m true).1 = [F]) := hide (by unfold fromL; dsimp only; rw [HLn.out, HS.out.2.2.1, HS.out.2.2.2.1, hF]; rfl)
      clear hF
      go_upto_region 8 with fail
      refine wp_region_held_drew (S := Kept w) (by kernel_rfl) (Kept.of_below HBr.out.drew) (fun hS0 => ?_)
      refine take_at (i := 0) (d := 59) (v := ?_) (by simp only [List.getElem?_toArray, List.getElem?_cons_succ, List.getElem?_cons_zero]; rfl) rfl (by kernel_rfl) (by kernel_rfl) (by kernel_rfl) (fun _ _ _ h => h) rfl ?_ (by assumption) ?_
      rotate_left
      focus (intro w hSw; go_simp; (try with_reducible rfl); done)
      try simp only [List.setIfInBounds_toArray, List.set_cons_zero, List.set_cons_succ]
      refine take_at (i := 1) (d := 60) (v := ?_) (by simp only [List.getElem?_toArray, List.getElem?_cons_succ, List.getElem?_cons_zero]; rfl) rfl (by kernel_rfl) (by kernel_rfl) (by kernel_rfl) (fun _ _ _ h => h) rfl ?_ (by assumption) ?_
      rotate_left
      focus (intro w hSw; go_simp; (try with_reducible rfl); done)
      try simp only [List.setIfInBounds_toArray, List.set_cons_zero, List.set_cons_succ]
      refine take_at (i := 2) (d := 61) (v := ?_) (by simp only [List.getElem?_toArray, List.getElem?_cons_succ, List.getElem?_cons_zero]; rfl) rfl (by kernel_rfl) (by kernel_rfl) (by kernel_rfl) (fun _ _ _ h => h) rfl ?_ (by assumption) ?_
      rotate_left
      focus (intro w hSw; go_simp; (try with_reducible rfl); done)
      try simp only [List.setIfInBounds_toArray, List.set_cons_zero, List.set_cons_succ]
      refine take_at (i := 3) (d := 62) (v := ?_) (by simp only [List.getElem?_toArray, List.getElem?_cons_succ, List.getElem?_cons_zero]; rfl) rfl (by kernel_rfl) (by kernel_rfl) (by kernel_rfl) (fun _ _ _ h => h) rfl ?_ (by assumption) ?_
      rotate_left
      focus (intro w hSw; go_simp; (try with_reducible rfl); done)
      try simp only [List.setIfInBounds_toArray, List.set_cons_zero, List.set_cons_succ]
      refine take_at (i := 4) (d := 63) (v := ?_) (by simp only [List.getElem?_toArray, List.getElem?_cons_succ, List.getElem?_cons_zero]; rfl) rfl (by kernel_rfl) (by kernel_rfl) (by kernel_rfl) (fun _ _ _ h => h) rfl ?_ (by assumption) ?_
      rotate_left
      focus (intro w hSw; go_simp; (try with_reducible rfl); done)
      try simp only [List.setIfInBounds_toArray, List.set_cons_zero, List.set_cons_succ]
      refine take_at (i := 5) (d := 64) (v := ?_) (by simp only [List.getElem?_toArray, List.getElem?_cons_succ, List.getElem?_cons_zero]; rfl) rfl (by kernel_rfl) (by kernel_rfl) (by kernel_rfl) (fun _ _ _ h => h) rfl ?_ (by assumption) ?_
      rotate_left
      focus (intro w hSw; go_simp; (try with_reducible rfl); done)
      try simp only [List.setIfInBounds_toArray, List.set_cons_zero, List.set_cons_succ]
      refine take_at (i := 6) (d := 65) (v := ?_) (by simp only [List.getElem?_toArray, List.getElem?_cons_succ, List.getElem?_cons_zero]; rfl) rfl (by kernel_rfl) (by kernel_rfl) (by kernel_rfl) (fun _ _ _ h => h) rfl ?_ (by assumption) ?_
      rotate_left
      focus (intro w hSw; go_simp; (try with_reducible rfl); done)
      try simp only [List.setIfInBounds_toArray, List.set_cons_zero, List.set_cons_succ]
      refine take_at (i := 7) (d := 66) (v := ?_) (by simp only [List.getElem?_toArray, List.getElem?_cons_succ, List.getElem?_cons_zero]; rfl) rfl (by kernel_rfl) (by kernel_rfl) (by kernel_rfl) (fun _ _ _ h => h) rfl ?_ (by assumption) ?_
      rotate_left
      focus (intro w hSw; go_simp; (try with_reducible rfl); done)
      try simp only [List.setIfInBounds_toArray, List.set_cons_zero, List.set_cons_succ]
      refine take_at (i := 8) (d := 67) (v := ?_) (by simp only [List.getElem?_toArray, List.getElem?_cons_succ, List.getElem?_cons_zero]; rfl) rfl (by kernel_rfl) (by kernel_rfl) (by kernel_rfl) (fun _ _ _ h => h) rfl ?_ (by assumption) ?_
      rotate_left
      focus (intro w hSw; go_simp; (try with_reducible rfl); done)
      try simp only [List.setIfInBounds_toArray, List.set_cons_zero, List.set_cons_succ]
      refine call_at (i := 9) (d := 68) (by simp only [List.getElem?_toArray, List.getElem?_cons_succ, List.getElem?_cons_zero]; rfl) rfl (by kernel_rfl) rfl (fun K hK => ?_)
      go_simp
      refine (rframe_any wr.drew 2 (by decide) (ep : Int) (hd : Int) 0 (by omega) (by omega) (by omega) (by omega) (by omega) (by omega) [] (by decide)).mono ?_
      rintro e y1 ⟨rfl, hz⟩
      rw [← HFr.out]
      have HY1 : Hid (Below wr.heap.size wr y1) := hide ((Below.refl _ _).drew.trans hz)
      have hS1 : Kept w y1 := Kept.of_below (HBr.out.trans (HY1.out.mono swr))
      clear hz
      go_wp2_with fail
      refine hK.out _ _ hS1 (fun hSn => ?_)
      clear hK K
      try simp only [List.setIfInBounds_toArray, List.set_cons_zero, List.set_cons_succ]
      refine call_at (i := 10) (d := 69) (by simp only [List.getElem?_toArray, List.getElem?_cons_succ, List.getElem?_cons_zero]; rfl) rfl (by kernel_rfl) rfl (fun K hK => ?_)
      go_simp
      obtain ⟨y4, hy⟩ : ∃ z, y1.alloc (.cells #[.string ⟨F.toArray⟩] 9) = z := ⟨_, rfl⟩
      have HY4 : Hid (Below wr.heap.size wr y4) := hide (by rw [← hy]; exact HY1.out.alloc HY1.out.size _)
      have HO1 : Hid (y4.heap[y1.heap.size]? = some (.cells #[.string ⟨F.toArray⟩] 9)) := hide (by rw [← hy]; exact heap_alloc_last y1 _)
      rw [hy]
      clear hy
      have hS4 : Kept w y4 := Kept.of_below (HBr.out.trans (HY4.out.mono swr))
      refine hK.out _ _ hS4 (fun hSn => ?_)
      clear hK K
      try simp only [List.setIfInBounds_toArray, List.set_cons_zero, List.set_cons_succ]
      refine call_at (i := 11) (d := 70) (by simp only [List.getElem?_toArray, List.getElem?_cons_succ, List.getElem?_cons_zero]; rfl) rfl (by kernel_rfl) rfl (fun K hK => ?_)
      refine op_app (.tmp 59) (.tmp 69) 48 rfl w.heap.size 9 i3 (.string ⟨#[]⟩) 1 16 Try.underlying48 a3i a3z a3s a3b rfl (by decide) (.slice A7 0 c7) 0 (strs ((List.range' m 0).map (frOf s))) rfl (own_below HO7.out HY4.out (fun g hg => (HO7.out.lt g hg).2)) y4.heap.size (some ⟨y1.heap.size, 0, none⟩) 1 1 [.string ⟨F.toArray⟩] rfl rfl (rd_cells HO1.out) (by simp [Value.oneCell']) (by unfold maxLen; omega) (by omega) (Nat.le_trans swr HY4.out.size) ?_
      intro A8 c8 y5 own5 hg5 hat5
      have HBf : Hid (Below w.heap.size w y5) := hide (app_below1 (HBr.out.trans (HY4.out.mono swr)) HO7.out hg5)
      have HO5 := hide own5
      have hS5 : Kept w y5 := Kept.of_below HBf.out
      clear own5 hg5 hat5
      refine hK.out _ _ hS5 (fun hSn => ?_)
      clear hK K
      simp only [Act.put]
      try simp only [List.setIfInBounds_toArray, List.set_cons_zero, List.set_cons_succ]
      refine take_at (i := 12) (d := 7) (v := ?_) (by simp only [List.getElem?_toArray, List.getElem?_cons_succ, List.getElem?_cons_zero]; rfl) rfl (by kernel_rfl) (by kernel_rfl) (by kernel_rfl) (fun _ _ _ h => h) rfl ?_ (by assumption) ?_
      rotate_left
      focus (intro w hSw; go_simp; (try with_reducible rfl); done)
      try simp only [List.setIfInBounds_toArray, List.set_cons_zero, List.set_cons_succ]
      refine wpAnyH_done (by kernel_rfl) ?_ _
      have HE9 := hide (HE.out.next HBf.out)
      have HB9 := HBf
      have HFin := hide (rfrom_some (v := .slice A8 (0 + 1) c8) HE9.out HB9.out hQ HL.out rfl ⟨A8, c8, rfl, HO5.out⟩)
      clear hS0 hSn hS1 hS4 hS5
      have e1y := (HB9.out.cell (p := ⟨Q, 1, none⟩) hQ).trans e1
      have z4 : y5.frozen? ⟨Q, 4, none⟩ = false := by obtain ⟨_, _, _, _, _, _, h2, _⟩ := HE9.out; exact frozen_of_row _ _ 4 _ _ h2
      have z3 : y5.frozen? ⟨Q, 3, none⟩ = false := by obtain ⟨_, _, _, _, _, _, h2, _⟩ := HE9.out; exact frozen_of_row _ _ 3 _ _ h2
      skip
      have e3y := (HB9.out.cell (p := ⟨Q, 3, none⟩) hQ).trans e3
      have e4y := (HB9.out.cell (p := ⟨Q, 4, none⟩) hQ).trans e4
      rw [HS.out.2.1] at HFin
      clear r0 r1 r2 r5
      go_wp2
      go_ret
      exact HFin.out
theorem RFromPost.drew {w : World} {L Q n : Nat} {G : Option Nat} {s : LE} {ack : Bool} {e : Ending} {w' : World} (h : RFromPost w.drew L Q G s n ack e w') : RFromPost w L Q G s n ack e w' := by
  obtain ⟨v, h1, h2, h7, h8⟩ := h
  exact ⟨v, h1, h2, h7, ⟨h8.1, h8.2, h8.3⟩⟩
set_option maxRecDepth 100000 in
set_option maxHeartbeats 16000000 in
theorem rlout_any (w : World) {L Q : Nat} {G : Option Nat} {s : LE} (h : REnd w L Q G s) : Calls Try.prog 34 #[.pointer (some ⟨Q, 0, none⟩)] w (RFromPost w L Q G s s.fresh s.owes) := by
  have hok := h.1
  obtain ⟨A, c, B, d, m6, e0, e1, e2, e3, e4, e5, e6, hQ⟩ := h.cells
  have hfr := rfrom_any w.drew (h.next (Below.refl _ _).drew) s.fresh s.fresh (by have := hok.fresh1; omega) hok.fresh2 s.owes
  have HFr := hide hfr
  clear h hok hfr
  go_enter Try.func34, Try.ntmps34
  go_upto_region 1 with fail
  refine wpL_region (S := Kept w) [9] (by kernel_rfl) (Kept.drew w) (fun hS0 => ?_)
  refine takeL_at (i := 0) (d := 3) (v := ?_) (by simp only [List.getElem?_toArray, List.getElem?_cons_succ, List.getElem?_cons_zero]; rfl) rfl (by kernel_rfl) (by kernel_rfl) (by kernel_rfl) (by kernel_rfl) (fun _ _ _ h => h) rfl ?_ (by assumption) ?_
  rotate_left
  focus (intro w hSw; go_simp; (try with_reducible rfl); done)
  try simp only [List.setIfInBounds_toArray, List.set_cons_zero, List.set_cons_succ]
  refine takeW_at (i := 1) (d := 4) (v := ?_) (by simp only [List.getElem?_toArray, List.getElem?_cons_succ, List.getElem?_cons_zero]; rfl) rfl (by kernel_rfl) (by kernel_rfl) (by kernel_rfl) (fun _ _ _ h => h) rfl ?_ ?_
  rotate_left
  focus (intro w; go_simp; (try with_reducible rfl); done)
  try simp only [List.setIfInBounds_toArray, List.set_cons_zero, List.set_cons_succ]
  refine takeW_at (i := 2) (d := 5) (v := ?_) (by simp only [List.getElem?_toArray, List.getElem?_cons_succ, List.getElem?_cons_zero]; rfl) rfl (by kernel_rfl) (by kernel_rfl) (by kernel_rfl) (fun _ _ _ h => h) rfl ?_ ?_
  rotate_left
  focus (intro w; go_simp; (try with_reducible rfl); done)
  try simp only [List.setIfInBounds_toArray, List.set_cons_zero, List.set_cons_succ]
  refine takeW_at (i := 3) (d := 6) (v := ?_) (by simp only [List.getElem?_toArray, List.getElem?_cons_succ, List.getElem?_cons_zero]; rfl) rfl (by kernel_rfl) (by kernel_rfl) (by kernel_rfl) (fun _ _ _ h => h) rfl ?_ ?_
  rotate_left
  focus (intro w; go_simp; (try with_reducible rfl); done)
  try simp only [List.setIfInBounds_toArray, List.set_cons_zero, List.set_cons_succ]
  refine takeL_at (i := 4) (d := 7) (v := ?_) (by simp only [List.getElem?_toArray, List.getElem?_cons_succ, List.getElem?_cons_zero]; rfl) rfl (by kernel_rfl) (by kernel_rfl) (by kernel_rfl) (by kernel_rfl) (fun _ _ _ h => h) rfl ?_ (by assumption) ?_
  rotate_left
  focus (intro w hSw; go_simp; (try with_reducible rfl); done)
  try simp only [List.setIfInBounds_toArray, List.set_cons_zero, List.set_cons_succ]
  refine takeW_at (i := 5) (d := 8) (v := ?_) (by simp only [List.getElem?_toArray, List.getElem?_cons_succ, List.getElem?_cons_zero]; rfl) rfl (by kernel_rfl) (by kernel_rfl) (by kernel_rfl) (fun _ _ _ h => h) rfl ?_ ?_
  rotate_left
  focus (intro w; go_simp; (try with_reducible rfl); done)
  try simp only [List.setIfInBounds_toArray, List.set_cons_zero, List.set_cons_succ]
  refine takeW_at (i := 6) (d := 9) (v := ?_) (by simp only [List.getElem?_toArray, List.getElem?_cons_succ, List.getElem?_cons_zero]; rfl) rfl (by kernel_rfl) (by kernel_rfl) (by kernel_rfl) (fun _ _ _ h => h) rfl ?_ ?_
  rotate_left
  focus (intro w; go_simp; (try with_reducible rfl); done)
  try simp only [List.setIfInBounds_toArray, List.set_cons_zero, List.set_cons_succ]
  refine takeW_at (i := 7) (d := 10) (v := ?_) (by simp only [List.getElem?_toArray, List.getElem?_cons_succ, List.getElem?_cons_zero]; rfl) rfl (by kernel_rfl) (by kernel_rfl) (by kernel_rfl) (fun _ _ _ h => h) rfl ?_ ?_
  rotate_left
  focus (intro w; go_simp; (try with_reducible rfl); done)
  try simp only [List.setIfInBounds_toArray, List.set_cons_zero, List.set_cons_succ]
  refine takeL_at (i := 8) (d := 11) (v := ?_) (by simp only [List.getElem?_toArray, List.getElem?_cons_succ, List.getElem?_cons_zero]; rfl) rfl (by kernel_rfl) (by kernel_rfl) (by kernel_rfl) (by kernel_rfl) (fun _ _ _ h => h) rfl ?_ (by assumption) ?_
  rotate_left
  focus (intro w hSw; go_simp; (try with_reducible rfl); done)
  try simp only [List.setIfInBounds_toArray, List.set_cons_zero, List.set_cons_succ]
  refine exL_at (i := 9) (by simp only [List.getElem?_toArray, List.getElem?_cons_succ, List.getElem?_cons_zero]; rfl) (by kernel_rfl) rfl (by kernel_rfl) (fun K hK => ?_)
  go_wp2_with fail
  refine HFr.out.mono ?_
  rintro _ z1 ⟨v, rfl, hrest⟩
  have HFin : Hid (RFromPost w L Q G s s.fresh s.owes (.returned v) z1) := hide (RFromPost.drew ⟨v, rfl, hrest⟩)
  clear hrest
  go_wp2_with fail
  refine hK.out _ _ ?_
  clear hK K
  try simp only [List.setIfInBounds_toArray, List.set_cons_zero, List.set_cons_succ]
  refine takeW_at (i := 10) (d := 2) (v := ?_) (by simp only [List.getElem?_toArray, List.getElem?_cons_succ, List.getElem?_cons_zero]; rfl) rfl (by kernel_rfl) (by kernel_rfl) (by kernel_rfl) (fun _ _ _ h => h) rfl ?_ ?_
  rotate_left
  focus (intro w; go_simp; (try with_reducible rfl); done)
  try simp only [List.setIfInBounds_toArray, List.set_cons_zero, List.set_cons_succ]
  refine wpAnyL_done (by kernel_rfl) ?_ _
  go_wp2
  go_ret
  exact HFin.out
set_option maxRecDepth 100000 in
set_option maxHeartbeats 16000000 in
theorem rlagain_any (w : World) {L Q : Nat} {G : Option Nat} {s : LE} (h : REnd w L Q G s) : Calls Try.prog 25 #[.pointer (some ⟨Q, 0, none⟩)] w (RFromPost w L Q G s s.first true) := by
  have hok := h.1
  have hfr := rfrom_any w h 0 s.first (by omega) (by unfold LE.first; omega) true
  have HFr := hide hfr
  clear h hok hfr
  go_enter Try.func25, Try.ntmps25
  go_wp2_with fail
  refine HFr.out.mono ?_
  rintro _ z1 ⟨v, rfl, hrest⟩
  have HFin : Hid (RFromPost w L Q G s s.first true (.returned v) z1) := hide ⟨v, rfl, hrest⟩
  clear hrest
  go_wp2
  go_ret
  exact HFin.out
end Go.Proofs.Ytigmmikijjcdiaa
