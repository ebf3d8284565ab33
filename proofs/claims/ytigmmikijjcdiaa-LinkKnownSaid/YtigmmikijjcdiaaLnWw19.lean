/- Lemmas: Rfm, Nrw, Knt, Rah, Rad, Rhp. -/
import Derived.Test.YtigmmikijjcdiaaProg
import Derived.Deep.DeepCutAuto
import Derived.Lib.Hide
import Derived.WalkSpells
import Derived.WalkMore
import Derived.IntWalk
import Derived.Test.YtigmmikijjcdiaaLnWw18
set_option linter.unusedVariables false
set_option linter.unusedSimpArgs false
set_option maxRecDepth 100000
set_option maxHeartbeats 16000000
namespace Go.Proofs.Ytigmmikijjcdiaa
open Go.RowKit
def StrO (B : Nat) (w : World) (v : Value) (l : List BL) : Prop := ∃ A c, v = .slice A l.length c ∧ w.ownsRow B 9 1 v l.length (strs l)
def RFromPost (w : World) (L Q : Nat) (G : Option Nat) (s : LE) (n : Nat) (ack : Bool) (e : Ending) (w' : World) : Prop :=
 ∃ v, e = .returned v ∧ StrO w.heap.size w' v (fromL s n ack).1 ∧ REnd w' L Q G (fromL s n ack).2 ∧ KB [Q] w w'
theorem REnd.updF {w : World} {L Q : Nat} {G : Option Nat} {s : LE} (h : REnd w L Q G s) : REnd (w.setCell ⟨Q, 3, none⟩ (.int .i64 (s.next : Int))) L Q G { s with fresh := s.next } := by
 obtain ⟨h1, h2, h3, sv, av, xs, h4, h5, h6, h7⟩ := h
 have hk : ∀ g, g ≠ Q → (w.setCell ⟨Q, 3, none⟩ (.int .i64 (s.next : Int))).heap[g]? = w.heap[g]? := fun g hg => Below.heap_setCell _ _ _ _ hg
 have hff : s.first ≤ s.next := by unfold LE.first; omega
 refine ⟨⟨h1.ep, h1.sent, h1.first, hff, Nat.le_refl _, h1.next, h1.heard, h1.bytes, h1.ahead⟩, h2, h3, sv, av, xs, heap_setCell_same _ Q 3 _ _ _ h4, h5.keep fun g e _ => hk g fun e2 => ?_, h6.keep fun g cur hc => hk g (row_ne hc h4 (by decide)), h7⟩
 obtain ⟨cur, hc⟩ := h5.blk g e
 exact row_ne hc h4 (by decide) e2
theorem REnd.updO {w : World} {L Q : Nat} {G : Option Nat} {s : LE} (h : REnd w L Q G s) (o : Bool) : REnd (w.setCell ⟨Q, 4, none⟩ (.bool o)) L Q G { s with owes := o } := by
 obtain ⟨h1, h2, h3, sv, av, xs, h4, h5, h6, h7⟩ := h
 have hk : ∀ g, g ≠ Q → (w.setCell ⟨Q, 4, none⟩ (.bool o)).heap[g]? = w.heap[g]? := fun g hg => Below.heap_setCell _ _ _ _ hg
 refine ⟨⟨h1.ep, h1.sent, h1.first, h1.fresh1, h1.fresh2, h1.next, h1.heard, h1.bytes, h1.ahead⟩, h2, h3, sv, av, xs, heap_setCell_same _ Q 4 _ _ _ h4, h5.keep fun g e _ => hk g fun e2 => ?_, h6.keep fun g cur hc => hk g (row_ne hc h4 (by decide)), h7⟩
 obtain ⟨cur, hc⟩ := h5.blk g e
 exact row_ne hc h4 (by decide) e2
theorem strO_set {w : World} {B Q i : Nat} {v u : Value} {l : List BL} (h : StrO B w v l) (hQ : Q < B) : StrO B (w.setCell ⟨Q, i, none⟩ u) v l := by
 obtain ⟨A, c, h1, h2⟩ := h
 exact ⟨A, c, h1, own_same h2 fun g hg => Below.heap_setCell _ _ _ _ (by have := (h2.lt g hg).1; show g ≠ Q; omega)⟩
theorem rfrom_none {w y : World} {L Q : Nat} {G : Option Nat} {s : LE} {n : Nat} {ack : Bool} {v : Value} (hE : REnd y L Q G s) (hb : Below w.heap.size w y) (hQ : Q < w.heap.size) (hl : (fromL s n ack).1 = []) (hv : StrO w.heap.size y v []) :
  RFromPost w L Q G s n ack (.returned v) (y.setCell ⟨Q, 3, none⟩ (.int .i64 (s.next : Int))) := by
 have he : (fromL s n ack).2 = { s with owes := s.owes && ((fromL s n ack).1).isEmpty, fresh := s.next } := rfl
 rw [hl] at he
 refine ⟨v, rfl, by rw [hl]; exact strO_set hv hQ, ?_, (KB.refl _ _).below hb (Nat.le_refl _) |>.setCell (.inr (by simp)) _⟩
 rw [he]
 simpa using hE.updF
theorem rfrom_some {w y : World} {L Q : Nat} {G : Option Nat} {s : LE} {n : Nat} {ack : Bool} {v : Value} {l : List BL} (hE : REnd y L Q G s) (hb : Below w.heap.size w y) (hQ : Q < w.heap.size) (hl : (fromL s n ack).1 = l) (hne : l.isEmpty = false) (hv : StrO w.heap.size y v l) :
  RFromPost w L Q G s n ack (.returned v) ((y.setCell ⟨Q, 4, none⟩ (.bool false)).setCell ⟨Q, 3, none⟩ (.int .i64 (s.next : Int))) := by
 have he : (fromL s n ack).2 = { s with owes := s.owes && ((fromL s n ack).1).isEmpty, fresh := s.next } := rfl
 rw [hl, hne] at he
 refine ⟨v, rfl, by rw [hl]; exact strO_set (strO_set hv hQ) hQ, ?_, ((KB.refl _ _).below hb (Nat.le_refl _) |>.setCell (.inr (by simp)) _).setCell (.inr (by simp)) _⟩
 rw [he]
 simpa using (hE.updO false).updF
theorem rfrom_any (w : World) {L Q : Nat} {G : Option Nat} {s : LE} (h : REnd w L Q G s) (n m : Nat) (hm : m = max n s.first) (hm2 : m ≤ s.next) (ack : Bool) :
  Calls Try.prog 37 #[.pointer (some ⟨Q, 0, none⟩), .int .i64 (n : Int), .bool ack] w (RFromPost w L Q G s m ack) := by
 have hok := h.1
 obtain ⟨A, c, B, d, m6, e0, e1, e2, e3, e4, e5, e6, hQ⟩ := h.cells
 have HE := hide h
 obtain ⟨-, -, -, sv, av, xs, h4, h5, -, -⟩ := h
 have hsv : sv = .slice A s.sent.length c := by have h := cell_of_row _ _ 5 _ _ _ h4; rw [e5] at h; simpa using h.symm
 subst hsv
 obtain ⟨ns, hns⟩ : ∃ x, s.sent.length = x := ⟨_, rfl⟩
 obtain ⟨nx0, hnx⟩ : ∃ x, s.next = x := ⟨_, rfl⟩
 obtain ⟨ep, hep⟩ : ∃ x, s.ep = x := ⟨_, rfl⟩
 obtain ⟨hd, hhd⟩ : ∃ x, s.heard = x := ⟨_, rfl⟩
 obtain ⟨fs, hfs⟩ : ∃ x, s.first = x := ⟨_, rfl⟩
 have b1 : ns ≤ 64 := by rw [← hns]; exact hok.sent
 have b2 : nx0 ≤ 1000000 := by rw [← hnx]; exact hok.next
 have b3' : ep ≤ 4611686018427387904 := by rw [← hep]; exact hok.ep
 have b4 : hd ≤ 1000000 := by rw [← hhd]; exact hok.heard
 have HS : Hid (s.sent.length = ns ∧ s.next = nx0 ∧ s.ep = ep ∧ s.heard = hd ∧ s.first = fs ∧ fs + ns = nx0) := hide ⟨hns, hnx, hep, hhd, hfs, by have := hok.first; rw [← hfs, ← hns, ← hnx]; unfold LE.first; omega⟩
 have HBy := hide hok.bytes
 rw [hns] at e5 h5
 rw [hnx] at e1 hm2
 rw [hep] at e0
 rw [hhd] at e2
 rw [hfs] at hm
 have H5 := hide h5
 have kfs : IntKind.i64.wrap ((nx0 : Int) - (ns : Int)) = (fs : Int) := by rw [IntWalk.i64_in _ (by omega)]; have := HS.out; omega
 clear hok h4 h5 hns hnx hep hhd hfs
 obtain ⟨i3, a3i, a3z, a3s, a3b⟩ := info_parts (show (Try.prog.info? 9).map (fun i => (i.zero, i.size, i.bytes)) = some (some (.string ⟨#[]⟩), 1, 16) by kernel_rfl)
 have HM := hide hm
 obtain ⟨mi, hmi⟩ : ∃ z : Int, (if (fs : Int) ≤ (n : Int) then (n : Int) else (fs : Int)) = z := ⟨_, rfl⟩
 skip
 clear hm
 go_enter Try.func37, Try.ntmps37
 go_upto_region 2 with fail
 refine wp_region_held_drew (S := Kept w) (by kernel_rfl) (Kept.drew w) (fun hS0 => ?_)
 refine tk 0 10 ?_ ?_ ?_; rotate_left; (focus (intro w h; go_simp; (try with_reducible rfl))); (try simp only [zqd, zqe, zqf])
 refine tk 1 11 ?_ ?_ ?_; rotate_left; (focus (intro w h; go_simp; (try with_reducible rfl))); (try simp only [zqd, zqe, zqf])
 refine tk 2 12 ?_ ?_ ?_; rotate_left; (focus (intro w h; go_simp; (try with_reducible rfl))); (try simp only [zqd, zqe, zqf])
 refine tk 3 13 ?_ ?_ ?_; rotate_left; (focus (intro w h; go_simp; (try with_reducible rfl))); (try simp only [zqd, zqe, zqf])
 refine tk 4 14 ?_ ?_ ?_; rotate_left; (focus (intro w h; go_simp; (try with_reducible rfl))); (try simp only [zqd, zqe, zqf])
 refine tk 5 15 ?_ ?_ ?_; rotate_left; (focus (intro w h; go_simp; (try with_reducible rfl))); (try simp only [zqd, zqe, zqf])
 refine tk 6 16 ?_ ?_ ?_; rotate_left; (focus (intro w h; go_simp; (try with_reducible rfl))); (try simp only [zqd, zqe, zqf])
 refine tk 7 17 ?_ ?_ ?_; rotate_left; (focus (intro w h; go_simp; (try with_reducible rfl))); (try simp only [zqd, zqe, zqf])
 refine tk 8 18 ?_ ?_ ?_; rotate_left; (focus (intro w h; go_simp; (try with_reducible rfl))); (try simp only [zqd, zqe, zqf])
 refine tk 9 19 ?_ ?_ ?_; rotate_left; (focus (intro w hSw; go_simp; (try rw [kfs]); (try with_reducible rfl); done)); (try simp only [zqd, zqe, zqf])
 refine tk 10 8 ?_ ?_ ?_; rotate_left; (focus (intro w h; go_simp; (try with_reducible rfl))); (try simp only [zqd, zqe, zqf])
 refine wpAnyH_done (by kernel_rfl) ?_ _
 clear hS0
 go_upto_region 3 with fail
 go_cut [9] (fun v9 wc => v9 = .int .i64 (m : Int) ∧ w.drew = wc)
 case first =>
  by_cases cm : (n : Int) < (fs : Int)
  ·have HC : Hid ((fs : Int) = (m : Int)) := hide (by have := HM.out; omega)
   have cm2 : ¬ (fs : Int) < (n : Int) := by omega
   go_wp2
   go_meet
   case rel => exact ⟨by rw [HC.out], rfl⟩
  ·have HC : Hid ((n : Int) = (m : Int)) := hide (by have := HM.out; omega)
   go_wp2
   go_meet
   case rel => exact ⟨by rw [HC.out], rfl⟩
 case rest =>
  obtain ⟨rfl, rfl⟩ := hcut
  have hmf : fs ≤ m := by have := HM.out; omega
  go_wp2
  go_loopw [7, 9] (fun v7 v9 wr => ∃ (i j : Nat) (A7 : Option Addr) (c7 : Nat), i ≤ nx0 ∧ v9 = .int .i64 (i : Int) ∧ v7 = .slice A7 j c7 ∧ Hid (i = m + j) ∧ Hid (wr.ownsRow w.heap.size 9 1 (.slice A7 j c7) j (strs ((List.range' m j).map (frOf s)))) ∧ Hid (Below w.heap.size w wr)) (fun _ v9 _ => nx0 - (intOf v9).toNat)
  case atStart => exact ⟨m, 0, none, 0, hm2, rfl, rfl, hide rfl, hide (World.ownsRow_nil _ _ _ _), hide (Below.refl _ _).drew⟩
  case round =>
   obtain ⟨i, j, A7, c7, hi, rfl, rfl, HI, HO7, HBr⟩ := hrel
   obtain ⟨wr, rfl⟩ : ∃ z : World, z = wr := ⟨_, rfl⟩
   have swr : w.heap.size ≤ wr.heap.size := HBr.out.size
   have hQr : Q < wr.heap.size := by omega
   have r0 := (HBr.out.cell (p := ⟨Q, 0, none⟩) hQ).trans e0
   have r1 := (HBr.out.cell (p := ⟨Q, 1, none⟩) hQ).trans e1
   have r2 := (HBr.out.cell (p := ⟨Q, 2, none⟩) hQ).trans e2
   have r5 := (HBr.out.cell (p := ⟨Q, 5, none⟩) hQ).trans e5
   have HEr := hide (HE.out.next HBr.out)
   have hj : j ≤ 1000000 := by have := HI.out; omega
   by_cases hlt : i < nx0
   ·have hI1 : (i : Int) < (nx0 : Int) := by omega
    obtain ⟨kk, hkk⟩ : ∃ x, i - fs = x := ⟨_, rfl⟩
    have hfi : fs ≤ i := by have := HI.out; omega
    have hkn : kk < ns := by have := HS.out; omega
    have HKK : Hid (IntKind.i64.wrap ((i : Int) - (fs : Int)) = (kk : Int)) := hide (by rw [IntWalk.i64_in _ (by omega)]; omega)
    have HK2 := hide hkk
    clear hkk
    obtain ⟨b, hb⟩ : ∃ b, s.sent[kk]? = some b := ⟨_, List.getElem?_eq_getElem (by rw [HS.out.1]; exact hkn)⟩
    have hu : (strs s.sent)[kk]? = some (.string ⟨b.toArray⟩) := by unfold strs; rw [List.getElem?_map, hb]; rfl
    obtain ⟨g, off, rfl, -, hgl, -, hc0⟩ := H5.out.at_ hu
    have hgr : g < wr.heap.size := by omega
    have hbl2 : b.length ≤ 1048576 := HBy.out b (List.mem_of_getElem? hb)
    have HBl := hide hbl2
    have HFr : Hid (frOf s i = frI 1 b (ep : Int) (hd : Int) (i : Int)) := hide (by obtain ⟨_, _, k3, k4, k5, _⟩ := HS.out; unfold frOf frI; rw [if_pos rfl, most_u (by unfold mostL; omega), most_u (by unfold mostL; omega), most_u (by unfold mostL; omega), k3, k4, k5, HK2.out, List.getD_eq_getElem?_getD, hb]; rfl)
    obtain ⟨F, hF⟩ : ∃ z, frOf s i = z := ⟨_, rfl⟩
    have HF := hide hF
    rw [hF] at HFr
    have HTk : Hid (strs ((List.range' m (j + 1)).map (frOf s)) = strs ((List.range' m j).map (frOf s)) ++ [.string ⟨F.toArray⟩]) := hide (by rw [List.range'_1_concat, List.map_append, strs_app, ← HI.out]; show _ ++ strs [frOf s i] = _; rw [HF.out]; rfl)
    clear hb hu hbl2 hF
    go_upto_region 6 with fail
    refine wp_region_held_drew (S := Kept w) (by kernel_rfl) (Kept.of_below HBr.out.drew) (fun hS0 => ?_)
    refine tk 0 31 ?_ ?_ ?_; rotate_left; (focus (intro w h; go_simp; (try with_reducible rfl))); (try simp only [zqd, zqe, zqf])
    refine tk 1 32 ?_ ?_ ?_; rotate_left; (focus (intro w h; go_simp; (try with_reducible rfl))); (try simp only [zqd, zqe, zqf])
    refine tk 2 33 ?_ ?_ ?_; rotate_left; (focus (intro w h; go_simp; (try with_reducible rfl))); (try simp only [zqd, zqe, zqf])
    refine tk 3 34 ?_ ?_ ?_; rotate_left; (focus (intro w h; go_simp; (try with_reducible rfl))); (try simp only [zqd, zqe, zqf])
    refine tk 4 35 ?_ ?_ ?_; rotate_left; (focus (intro w h; go_simp; (try with_reducible rfl))); (try simp only [zqd, zqe, zqf])
    refine tk 5 36 ?_ ?_ ?_; rotate_left; (focus (intro w h; go_simp; (try with_reducible rfl))); (try simp only [zqd, zqe, zqf])
    refine tk 6 37 ?_ ?_ ?_; rotate_left; (focus (intro w h; go_simp; (try with_reducible rfl))); (try simp only [zqd, zqe, zqf])
    refine tk 7 38 ?_ ?_ ?_; rotate_left; (focus (intro w h; go_simp; (try with_reducible rfl))); (try simp only [zqd, zqe, zqf])
    refine tk 8 39 ?_ ?_ ?_; rotate_left; (focus (intro w h; go_simp; (try with_reducible rfl))); (try simp only [zqd, zqe, zqf])
    refine tk 9 40 ?_ ?_ ?_; rotate_left; (focus (intro w h; go_simp; (try with_reducible rfl))); (try simp only [zqd, zqe, zqf])
    refine tk 10 41 ?_ ?_ ?_; rotate_left; (focus (intro w h; go_simp; (try with_reducible rfl))); (try simp only [zqd, zqe, zqf])
    refine tk 11 42 ?_ ?_ ?_; rotate_left; (focus (intro w h; go_simp; (try with_reducible rfl))); (try simp only [zqd, zqe, zqf])
    refine tk 12 43 ?_ ?_ ?_; rotate_left; (focus (intro w h; go_simp; (try with_reducible rfl))); (try simp only [zqd, zqe, zqf])
    refine tk 13 44 ?_ ?_ ?_; rotate_left; (focus (intro w h; go_simp; (try with_reducible rfl))); (try simp only [zqd, zqe, zqf])
    refine tk 14 45 ?_ ?_ ?_; rotate_left; (focus (intro w h; go_simp; (try with_reducible rfl))); (try simp only [zqd, zqe, zqf])
    refine tk 15 46 ?_ ?_ ?_; rotate_left; (focus (intro w h; go_simp; (try with_reducible rfl))); (try simp only [zqd, zqe, zqf])
    refine tk 16 47 ?_ ?_ ?_; rotate_left; (focus (intro w hSw; go_simp; (try rw [HKK.out]); (try with_reducible rfl); done)); (try simp only [zqd, zqe, zqf])
    refine tk 17 48 ?_ ?_ ?_; rotate_left; (focus (intro w h; go_simp; (try with_reducible rfl))); (try simp only [zqd, zqe, zqf])
    refine tk 18 49 ?_ ?_ ?_; rotate_left; (focus (intro w h; go_simp; (try with_reducible rfl))); (try simp only [zqd, zqe, zqf])
    refine call_at (i := 19) (d := 50) (by simp only [zqa, zqb, zqc]; rfl) rfl (by kernel_rfl) rfl (fun K hK => ?_)
    go_simp
    refine (rframe_any wr.drew 1 (by decide) (ep : Int) (hd : Int) (i : Int) (by omega) (by omega) (by omega) (by omega) (by omega) (by omega) b (by have := HBl.out; omega)).mono ?_
    rintro e y1 ⟨rfl, hz⟩
    rw [← HFr.out]
    have HY1 : Hid (Below wr.heap.size wr y1) := hide ((Below.refl _ _).drew.trans hz)
    have hS1 : Kept w y1 := Kept.of_below (HBr.out.trans (HY1.out.mono swr))
    clear hz
    go_wp2_with fail
    refine hK.out _ _ hS1 (fun hSn => ?_)
    clear hK K
    try simp only [zqd, zqe, zqf]
    refine call_at (i := 20) (d := 51) (by simp only [zqa, zqb, zqc]; rfl) rfl (by kernel_rfl) rfl (fun K hK => ?_)
    go_simp
    obtain ⟨y4, hy⟩ : ∃ z, y1.alloc (.cells #[.string ⟨F.toArray⟩] 9) = z := ⟨_, rfl⟩
    have HY4 : Hid (Below wr.heap.size wr y4) := hide (by rw [← hy]; exact HY1.out.alloc HY1.out.size _)
    have HO1 : Hid (y4.heap[y1.heap.size]? = some (.cells #[.string ⟨F.toArray⟩] 9)) := hide (by rw [← hy]; exact heap_alloc_last y1 _)
    rw [hy]
    clear hy
    have hS4 : Kept w y4 := Kept.of_below (HBr.out.trans (HY4.out.mono swr))
    refine hK.out _ _ hS4 (fun hSn => ?_)
    clear hK K
    try simp only [zqd, zqe, zqf]
    refine call_at (i := 21) (d := 52) (by simp only [zqa, zqb, zqc]; rfl) rfl (by kernel_rfl) rfl (fun K hK => ?_)
    refine op_app (.tmp 31) (.tmp 51) 48 rfl w.heap.size 9 i3 (.string ⟨#[]⟩) 1 16 Try.underlying48 a3i a3z a3s a3b rfl (by decide) (.slice A7 j c7) j (strs ((List.range' m j).map (frOf s))) rfl (own_below HO7.out HY4.out (fun g hg => (HO7.out.lt g hg).2)) y4.heap.size (some ⟨y1.heap.size, 0, none⟩) 1 1 [.string ⟨F.toArray⟩] rfl rfl (rd_cells HO1.out) (by simp [Value.oneCell']) (by unfold maxLen; omega) (by omega) (Nat.le_trans swr HY4.out.size) ?_
    intro A8 c8 y5 own5 hg5 hat5
    have HBf : Hid (Below w.heap.size w y5) := hide (app_below1 (HBr.out.trans (HY4.out.mono swr)) HO7.out hg5)
    have HO5 := hide own5
    have hS5 : Kept w y5 := Kept.of_below HBf.out
    clear own5 hg5 hat5
    refine hK.out _ _ hS5 (fun hSn => ?_)
    clear hK K
    simp only [Act.put]
    try simp only [zqd, zqe, zqf]
    refine tk 22 7 ?_ ?_ ?_; rotate_left; (focus (intro w h; go_simp; (try with_reducible rfl))); (try simp only [zqd, zqe, zqf])
    refine wpAnyH_done (by kernel_rfl) ?_ _
    have HFin : Hid (y5.ownsRow w.heap.size 9 1 (.slice A8 (j + 1) c8) (j + 1) (strs ((List.range' m (j + 1)).map (frOf s)))) := hide (by rw [HTk.out]; exact HO5.out)
    clear hS0 hSn hS1 hS4 hS5
    go_wp2
    go_roundw
    case rel => exact ⟨i + 1, j + 1, A8, c8, by omega, by go_num, rfl, hide (by have := HI.out; omega), HFin, HBf⟩
    case measure => simp [intOf]; omega
   have hI1 : ¬ (i : Int) < (nx0 : Int) := by omega
   have hin : i = nx0 := by omega
   have HLn : Hid (framesL s m = (List.range' m j).map (frOf s)) := hide (by have h9 := HI.out; have h8 := HS.out.2.1; unfold framesL; rw [show s.next - m = j by omega]; rfl)
   have HB9 := HBr
   have HE9 := HEr
   clear hin
   by_cases hj0 : j = 0
   rotate_left
   ·have k1 : ((j : Int) == 0) = false := by simp; omega
    have k2 : (0 : Int) < (j : Int) := by omega
    have hLe : ((List.range' m j).map (frOf s)).isEmpty = false := by cases hj9 : j with | zero => omega | succ q => rfl
    have HL : Hid ((fromL s m ack).1 = (List.range' m j).map (frOf s)) := hide (by unfold fromL; dsimp only; rw [HLn.out, hLe]; rfl)
    have HFin := hide (rfrom_some (v := .slice A7 j c7) HEr.out HBr.out hQ HL.out hLe ⟨A7, c7, by rw [List.length_map, List.length_range'], by rw [List.length_map, List.length_range']; exact HO7.out⟩)
    clear hLe hj0
    have e1y := (HB9.out.cell (p := ⟨Q, 1, none⟩) hQ).trans e1
    have z4 : wr.frozen? ⟨Q, 4, none⟩ = false := by obtain ⟨_, _, _, _, _, _, h2, _⟩ := HE9.out; exact frozen_of_row _ _ 4 _ _ h2
    have z3 : wr.frozen? ⟨Q, 3, none⟩ = false := by obtain ⟨_, _, _, _, _, _, h2, _⟩ := HE9.out; exact frozen_of_row _ _ 3 _ _ h2
    skip
    have e3y := (HB9.out.cell (p := ⟨Q, 3, none⟩) hQ).trans e3
    have e4y := (HB9.out.cell (p := ⟨Q, 4, none⟩) hQ).trans e4
    rw [HS.out.2.1] at HFin
    clear r0 r1 r2 r5
    go_wp2
    go_ret
    exact HFin.out
   subst hj0
   rcases ack with _ | _
   ·have HL : Hid ((fromL s m false).1 = []) := hide (by unfold fromL; dsimp only; rw [HLn.out]; rfl)
    have HFin := hide (rfrom_none (v := .slice A7 0 c7) HEr.out HBr.out hQ HL.out ⟨A7, c7, rfl, HO7.out⟩)
    have e1y := (HB9.out.cell (p := ⟨Q, 1, none⟩) hQ).trans e1
    have z4 : wr.frozen? ⟨Q, 4, none⟩ = false := by obtain ⟨_, _, _, _, _, _, h2, _⟩ := HE9.out; exact frozen_of_row _ _ 4 _ _ h2
    have z3 : wr.frozen? ⟨Q, 3, none⟩ = false := by obtain ⟨_, _, _, _, _, _, h2, _⟩ := HE9.out; exact frozen_of_row _ _ 3 _ _ h2
    skip
    have e3y := (HB9.out.cell (p := ⟨Q, 3, none⟩) hQ).trans e3
    have e4y := (HB9.out.cell (p := ⟨Q, 4, none⟩) hQ).trans e4
    rw [HS.out.2.1] at HFin
    clear r0 r1 r2 r5
    go_wp2
    go_ret
    exact HFin.out
   obtain ⟨F, hF⟩ : ∃ z, fr 2 [] [ep, hd] = z := ⟨_, rfl⟩
   have HFr : Hid (F = frI 2 [] (ep : Int) (hd : Int) 0) := hide (by rw [← hF]; unfold frI; rw [if_neg (by decide), most_u (by unfold mostL; omega), most_u (by unfold mostL; omega)])
   have HL : Hid ((fromL s m true).1 = [F]) := hide (by unfold fromL; dsimp only; rw [HLn.out, HS.out.2.2.1, HS.out.2.2.2.1, hF]; rfl)
   clear hF
   go_upto_region 8 with fail
   refine wp_region_held_drew (S := Kept w) (by kernel_rfl) (Kept.of_below HBr.out.drew) (fun hS0 => ?_)
   refine tk 0 59 ?_ ?_ ?_; rotate_left; (focus (intro w h; go_simp; (try with_reducible rfl))); (try simp only [zqd, zqe, zqf])
   refine tk 1 60 ?_ ?_ ?_; rotate_left; (focus (intro w h; go_simp; (try with_reducible rfl))); (try simp only [zqd, zqe, zqf])
   refine tk 2 61 ?_ ?_ ?_; rotate_left; (focus (intro w h; go_simp; (try with_reducible rfl))); (try simp only [zqd, zqe, zqf])
   refine tk 3 62 ?_ ?_ ?_; rotate_left; (focus (intro w h; go_simp; (try with_reducible rfl))); (try simp only [zqd, zqe, zqf])
   refine tk 4 63 ?_ ?_ ?_; rotate_left; (focus (intro w h; go_simp; (try with_reducible rfl))); (try simp only [zqd, zqe, zqf])
   refine tk 5 64 ?_ ?_ ?_; rotate_left; (focus (intro w h; go_simp; (try with_reducible rfl))); (try simp only [zqd, zqe, zqf])
   refine tk 6 65 ?_ ?_ ?_; rotate_left; (focus (intro w h; go_simp; (try with_reducible rfl))); (try simp only [zqd, zqe, zqf])
   refine tk 7 66 ?_ ?_ ?_; rotate_left; (focus (intro w h; go_simp; (try with_reducible rfl))); (try simp only [zqd, zqe, zqf])
   refine tk 8 67 ?_ ?_ ?_; rotate_left; (focus (intro w h; go_simp; (try with_reducible rfl))); (try simp only [zqd, zqe, zqf])
   refine call_at (i := 9) (d := 68) (by simp only [zqa, zqb, zqc]; rfl) rfl (by kernel_rfl) rfl (fun K hK => ?_)
   go_simp
   refine (rframe_any wr.drew 2 (by decide) (ep : Int) (hd : Int) 0 (by omega) (by omega) (by omega) (by omega) (by omega) (by omega) [] (by decide)).mono ?_
   rintro e y1 ⟨rfl, hz⟩
   rw [← HFr.out]
   have HY1 : Hid (Below wr.heap.size wr y1) := hide ((Below.refl _ _).drew.trans hz)
   have hS1 : Kept w y1 := Kept.of_below (HBr.out.trans (HY1.out.mono swr))
   clear hz
   go_wp2_with fail
   refine hK.out _ _ hS1 (fun hSn => ?_)
   clear hK K
   try simp only [zqd, zqe, zqf]
   refine call_at (i := 10) (d := 69) (by simp only [zqa, zqb, zqc]; rfl) rfl (by kernel_rfl) rfl (fun K hK => ?_)
   go_simp
   obtain ⟨y4, hy⟩ : ∃ z, y1.alloc (.cells #[.string ⟨F.toArray⟩] 9) = z := ⟨_, rfl⟩
   have HY4 : Hid (Below wr.heap.size wr y4) := hide (by rw [← hy]; exact HY1.out.alloc HY1.out.size _)
   have HO1 : Hid (y4.heap[y1.heap.size]? = some (.cells #[.string ⟨F.toArray⟩] 9)) := hide (by rw [← hy]; exact heap_alloc_last y1 _)
   rw [hy]
   clear hy
   have hS4 : Kept w y4 := Kept.of_below (HBr.out.trans (HY4.out.mono swr))
   refine hK.out _ _ hS4 (fun hSn => ?_)
   clear hK K
   try simp only [zqd, zqe, zqf]
   refine call_at (i := 11) (d := 70) (by simp only [zqa, zqb, zqc]; rfl) rfl (by kernel_rfl) rfl (fun K hK => ?_)
   refine op_app (.tmp 59) (.tmp 69) 48 rfl w.heap.size 9 i3 (.string ⟨#[]⟩) 1 16 Try.underlying48 a3i a3z a3s a3b rfl (by decide) (.slice A7 0 c7) 0 (strs ((List.range' m 0).map (frOf s))) rfl (own_below HO7.out HY4.out (fun g hg => (HO7.out.lt g hg).2)) y4.heap.size (some ⟨y1.heap.size, 0, none⟩) 1 1 [.string ⟨F.toArray⟩] rfl rfl (rd_cells HO1.out) (by simp [Value.oneCell']) (by unfold maxLen; omega) (by omega) (Nat.le_trans swr HY4.out.size) ?_
   intro A8 c8 y5 own5 hg5 hat5
   have HBf : Hid (Below w.heap.size w y5) := hide (app_below1 (HBr.out.trans (HY4.out.mono swr)) HO7.out hg5)
   have HO5 := hide own5
   have hS5 : Kept w y5 := Kept.of_below HBf.out
   clear own5 hg5 hat5
   refine hK.out _ _ hS5 (fun hSn => ?_)
   clear hK K
   simp only [Act.put]
   try simp only [zqd, zqe, zqf]
   refine tk 12 7 ?_ ?_ ?_; rotate_left; (focus (intro w h; go_simp; (try with_reducible rfl))); (try simp only [zqd, zqe, zqf])
   refine wpAnyH_done (by kernel_rfl) ?_ _
   have HE9 := hide (HE.out.next HBf.out)
   have HB9 := HBf
   have HFin := hide (rfrom_some (v := .slice A8 (0 + 1) c8) HE9.out HB9.out hQ HL.out rfl ⟨A8, c8, rfl, HO5.out⟩)
   clear hS0 hSn hS1 hS4 hS5
   have e1y := (HB9.out.cell (p := ⟨Q, 1, none⟩) hQ).trans e1
   have z4 : y5.frozen? ⟨Q, 4, none⟩ = false := by obtain ⟨_, _, _, _, _, _, h2, _⟩ := HE9.out; exact frozen_of_row _ _ 4 _ _ h2
   have z3 : y5.frozen? ⟨Q, 3, none⟩ = false := by obtain ⟨_, _, _, _, _, _, h2, _⟩ := HE9.out; exact frozen_of_row _ _ 3 _ _ h2
   skip
   have e3y := (HB9.out.cell (p := ⟨Q, 3, none⟩) hQ).trans e3
   have e4y := (HB9.out.cell (p := ⟨Q, 4, none⟩) hQ).trans e4
   rw [HS.out.2.1] at HFin
   clear r0 r1 r2 r5
   go_wp2
   go_ret
   exact HFin.out
theorem RFromPost.drew {w : World} {L Q n : Nat} {G : Option Nat} {s : LE} {ack : Bool} {e : Ending} {w' : World} (h : RFromPost w.drew L Q G s n ack e w') : RFromPost w L Q G s n ack e w' := by
 obtain ⟨v, h1, h2, h7, h8⟩ := h
 exact ⟨v, h1, h2, h7, ⟨h8.1, h8.2, h8.3⟩⟩
theorem rlout_any (w : World) {L Q : Nat} {G : Option Nat} {s : LE} (h : REnd w L Q G s) : Calls Try.prog 34 #[.pointer (some ⟨Q, 0, none⟩)] w (RFromPost w L Q G s s.fresh s.owes) := by
 have hok := h.1
 obtain ⟨A, c, B, d, m6, e0, e1, e2, e3, e4, e5, e6, hQ⟩ := h.cells
 have hfr := rfrom_any w.drew (h.next (Below.refl _ _).drew) s.fresh s.fresh (by have := hok.fresh1; omega) hok.fresh2 s.owes
 have HFr := hide hfr
 clear h hok hfr
 go_enter Try.func34, Try.ntmps34
 go_upto_region 1 with fail
 refine wpL_region (S := Kept w) [9] (by kernel_rfl) (Kept.drew w) (fun hS0 => ?_)
 refine tl 0 3 ?_ ?_ ?_; rotate_left; (focus (intro w h; go_simp; (try with_reducible rfl))); (try simp only [zqd, zqe, zqf])
 refine tw 1 4 ?_ ?_ ?_; rotate_left; (focus (intro w; go_simp; (try with_reducible rfl); done)); (try simp only [zqd, zqe, zqf])
 refine tw 2 5 ?_ ?_ ?_; rotate_left; (focus (intro w; go_simp; (try with_reducible rfl); done)); (try simp only [zqd, zqe, zqf])
 refine tw 3 6 ?_ ?_ ?_; rotate_left; (focus (intro w; go_simp; (try with_reducible rfl); done)); (try simp only [zqd, zqe, zqf])
 refine tl 4 7 ?_ ?_ ?_; rotate_left; (focus (intro w h; go_simp; (try with_reducible rfl))); (try simp only [zqd, zqe, zqf])
 refine tw 5 8 ?_ ?_ ?_; rotate_left; (focus (intro w; go_simp; (try with_reducible rfl); done)); (try simp only [zqd, zqe, zqf])
 refine tw 6 9 ?_ ?_ ?_; rotate_left; (focus (intro w; go_simp; (try with_reducible rfl); done)); (try simp only [zqd, zqe, zqf])
 refine tw 7 10 ?_ ?_ ?_; rotate_left; (focus (intro w; go_simp; (try with_reducible rfl); done)); (try simp only [zqd, zqe, zqf])
 refine tl 8 11 ?_ ?_ ?_; rotate_left; (focus (intro w h; go_simp; (try with_reducible rfl))); (try simp only [zqd, zqe, zqf])
 refine exL_at (i := 9) (by simp only [zqa, zqb, zqc]; rfl) (by kernel_rfl) rfl (by kernel_rfl) (fun K hK => ?_)
 go_wp2_with fail
 refine HFr.out.mono ?_
 rintro _ z1 ⟨v, rfl, hrest⟩
 have HFin : Hid (RFromPost w L Q G s s.fresh s.owes (.returned v) z1) := hide (RFromPost.drew ⟨v, rfl, hrest⟩)
 clear hrest
 go_wp2_with fail
 refine hK.out _ _ ?_
 clear hK K
 try simp only [zqd, zqe, zqf]
 refine tw 10 2 ?_ ?_ ?_; rotate_left; (focus (intro w; go_simp; (try with_reducible rfl); done)); (try simp only [zqd, zqe, zqf])
 refine wpAnyL_done (by kernel_rfl) ?_ _
 go_wp2
 go_ret
 exact HFin.out
theorem rlagain_any (w : World) {L Q : Nat} {G : Option Nat} {s : LE} (h : REnd w L Q G s) : Calls Try.prog 25 #[.pointer (some ⟨Q, 0, none⟩)] w (RFromPost w L Q G s s.first true) := by
 have hok := h.1
 have hfr := rfrom_any w h 0 s.first (by omega) (by unfold LE.first; omega) true
 have HFr := hide hfr
 clear h hok hfr
 go_enter Try.func25, Try.ntmps25
 go_wp2_with fail
 refine HFr.out.mono ?_
 rintro _ z1 ⟨v, rfl, hrest⟩
 have HFin : Hid (RFromPost w L Q G s s.first true (.returned v) z1) := hide ⟨v, rfl, hrest⟩
 clear hrest
 go_wp2
 go_ret
 exact HFin.out
end Go.Proofs.Ytigmmikijjcdiaa
namespace Go.Proofs.Ytigmmikijjcdiaa
open Go.RowKit
structure Spoilt (X : Nat → Prop) (w w' : World) : Prop where
 size : w.heap.size ≤ w'.heap.size
 env : Env w w'
 blk : ∀ g, g < w.heap.size → ¬ X g → w'.heap[g]? = w.heap[g]?
theorem Spoilt.refl (X : Nat → Prop) (w : World) : Spoilt X w w := ⟨Nat.le_refl _, Env.refl _, fun _ _ _ => rfl⟩
theorem Spoilt.drew {X : Nat → Prop} {w w' : World} (h : Spoilt X w w') : Spoilt X w w'.drew := ⟨h.size, ⟨h.env.1, h.env.2.1, h.env.2.2⟩, h.blk⟩
theorem Spoilt.mono {X Y : Nat → Prop} {w w' : World} (h : Spoilt X w w') (hx : ∀ g, X g → Y g) : Spoilt Y w w' := ⟨h.size, h.env, fun g hg hn => h.blk g hg fun x => hn (hx g x)⟩
theorem Spoilt.set {X : Nat → Prop} {w w' : World} (h : Spoilt X w w') {g i : Nat} (hx : X g) (u : Value) : Spoilt X w (w'.setCell ⟨g, i, none⟩ u) := ⟨by rw [World.size_setCell]; exact h.size, h.env.setCell _ _, fun q hq hn => (Below.heap_setCell _ _ _ _ (show q ≠ g from fun e => hn (e ▸ hx))).trans (h.blk q hq hn)⟩
def RowX (w : World) (own : Nat → Option (Bool × Nat)) (tg : Nat → Bool × Nat) (n : Nat) (g : Nat) : Prop := (∃ cur, w.heap[g]? = some (Obj.cells cur 5 (0, 0))) ∧ ∃ i, i < n ∧ own g = some (tg i)
def SpI (w wq : World) (own : Nat → Option (Bool × Nat)) (tg : Nat → Bool × Nat) (i N : Nat) (A : Option Addr) : Prop :=
 Spoilt (RowX w own tg (i + 1)) w wq ∧ (0 < N → ∃ g C, A = some ⟨g, 0, none⟩ ∧ wq.heap[g]? = some (Obj.cells C 5 (0, 0)) ∧ N ≤ C.size ∧ (∀ j, j < N → ∃ y : Nat, C[j]? = some (.int .u8 (y : Int))) ∧ RowX w own tg (i + 1) g)
theorem SpI.step {w wq : World} {own : Nat → Option (Bool × Nat)} {tg : Nat → Bool × Nat} {i N k : Nat} {A : Option Addr} (h : SpI w wq own tg i N A) (hk : k < N) : ∃ g, ∃ y : Nat, A = some ⟨g, 0, none⟩ ∧ wq.cell? ⟨g, k, none⟩ = some (.int .u8 (y : Int)) ∧ wq.frozen? ⟨g, k, none⟩ = false ∧ ∀ z : Nat, SpI w (wq.setCell ⟨g, k, none⟩ (.int .u8 (z : Int))) own tg i N A := by
 obtain ⟨h1, h2⟩ := h
 obtain ⟨g, C, e1, e2, e3, e4, e5⟩ := h2 (by omega)
 obtain ⟨y, hy⟩ := e4 k hk
 refine ⟨g, y, e1, (cell_of_row _ _ k _ _ _ e2).trans hy, frozen_of_row _ _ k _ _ e2, fun z => ⟨h1.set e5 _, fun _ => ⟨g, _, e1, heap_setCell_same _ _ k _ _ _ e2, by rw [Array.size_setIfInBounds]; exact e3, fun j hj => ?_, e5⟩⟩⟩
 rw [Array.getElem?_setIfInBounds]
 by_cases hjk : k = j
 ·exact ⟨z, by rw [if_pos hjk, if_pos (by omega)]⟩
 ·rw [if_neg hjk]
  exact e4 j hj
theorem SpI.start {w wr : World} {own : Nat → Option (Bool × Nat)} {tg : Nat → Bool × Nat} {i N : Nat} {A : Option Addr} {c : Nat} {f : BL} (hinj : ∀ i j, tg i = tg j → i = j) (h : Spoilt (RowX w own tg i) w wr) (hb : ByV w own (tg i) (.slice A N c) f) (hN : f.length = N) :
  SpI w wr.drew own tg i N A ∧ Rd wr wr.heap.size A (u8s f) := by
 subst hN
 have hX : ∀ g, RowX w own tg i g → RowX w own tg (i + 1) g := fun g ⟨h1, j, h2, h3⟩ => ⟨h1, j, by omega, h3⟩
 have hsame : ∀ g, g < w.heap.size → own g = some (tg i) → wr.heap[g]? = w.heap[g]? := fun g hg ho => h.blk g hg fun ⟨_, j, hj, ho'⟩ => by
  rw [ho] at ho'
  injection ho' with ho'
  have := hinj _ _ ho'
  omega
 have hb' : ByV wr own (tg i) (.slice A f.length c) f := hb.keep fun g cur ho hc => ⟨hsame g (lt_of_block hc) ho, ho⟩
 refine ⟨⟨(h.mono hX).drew, fun hn => ?_⟩, hb'.row⟩
 have hne : f ≠ [] := by rintro rfl; simp at hn
 obtain ⟨⟨_, q2⟩, q3⟩ := hb.2 hne
 rcases q2 with ⟨q0, q1⟩ | ⟨g', cap', cur', hv', hg', hcg', hn', hm', hs', ht'⟩
 ·omega
 ·injection hv' with hA _ _
  have ho := q3 g' (by rw [hA]; rfl)
  refine ⟨g', cur', hA, (hsame g' (lt_of_block hcg') ho).trans hcg', by omega, fun j hj => ?_, ⟨cur', hcg'⟩, i, by omega, ho⟩
  have hx : f[j]? = some f[j] := List.getElem?_eq_getElem hj
  refine ⟨f[j].toNat, ?_⟩
  have hu : (u8s f)[j]? = some (.int .u8 (f[j].toNat : Int)) := by unfold u8s; rw [List.getElem?_map, hx]; rfl
  rw [← ht', List.getElem?_take, if_pos (by omega)] at hu
  simpa using hu
theorem rows_cell {w : World} {own : Nat → Option (Bool × Nat)} {tg : Nat → Bool × Nat} {B n c : Nat} {A : Option Addr} {fs : List BL} (h : BRows B w own tg (.slice A n c) fs) {i : Nat} {f : BL} (hf : fs[i]? = some f) : ∃ g Af cf, A = some ⟨g, 0, none⟩ ∧ g < w.heap.size ∧ (∃ cur, w.heap[g]? = some (Obj.cells cur 23 (0, 0))) ∧ w.cell? ⟨g, i, none⟩ = some (.slice Af f.length cf) ∧ ByV w own (tg i) (.slice Af f.length cf) f := by
 obtain ⟨A', c', vs, h1, ⟨hlen, h2⟩, h3, h4⟩ := h
 injection h1 with e1 e2 e3
 subst e1 e3
 have hlf := (List.getElem?_eq_some_iff.1 hf).1
 obtain ⟨u, hu⟩ : ∃ u, vs[i]? = some u := ⟨_, List.getElem?_eq_getElem (by omega)⟩
 have hby := h3 i u f hu hf
 obtain ⟨⟨Af, cf, rfl⟩, _⟩ := id hby
 rcases h2 with ⟨_, h0⟩ | ⟨g, cap, cur, hv, hg, hcg, hn, hm, hs, ht⟩
 ·omega
 ·injection hv with hA _ hv
  refine ⟨g, Af, cf, hA, lt_of_block hcg, ⟨cur, hcg⟩, ?_, hby⟩
  rw [← ht, List.getElem?_take, if_pos (by omega)] at hu
  exact (cell_of_row _ _ i _ _ _ hcg).trans (by simpa using hu)
theorem str_cell {w : World} {B n c : Nat} {A : Option Addr} {fs : List BL} (h : StrO B w (.slice A n c) fs) {i : Nat} {f : BL} (hf : fs[i]? = some f) : n = fs.length ∧ ∃ g, A = some ⟨g, 0, none⟩ ∧ g < w.heap.size ∧ (∃ cur, w.heap[g]? = some (Obj.cells cur 9 (0, 0))) ∧ w.cell? ⟨g, i, none⟩ = some (.string ⟨f.toArray⟩) := by
 obtain ⟨A', c', h1, ⟨hlen, h2⟩⟩ := h
 injection h1 with e1 e2 e3
 subst e1 e3
 have hlf := (List.getElem?_eq_some_iff.1 hf).1
 refine ⟨e2, ?_⟩
 rcases h2 with ⟨_, h0⟩ | ⟨g, cap, cur, hv, hg, hcg, hn, hm, hs, ht⟩
 ·omega
 ·injection hv with hA _ hv
  have hu : (strs fs)[i]? = some (.string ⟨f.toArray⟩) := by unfold strs; rw [List.getElem?_map, hf]; rfl
  rw [← ht, List.getElem?_take, if_pos (by omega)] at hu
  exact ⟨g, hA, lt_of_block hcg, ⟨cur, hcg⟩, (cell_of_row _ _ i _ _ _ hcg).trans (by simpa using hu)⟩
theorem conv_at {w w9 : World} {A : Option Addr} {f : BL} {n c : Nat} (h : Rd w w.heap.size A (u8s f)) (hk : Kept w w9) (hn : f.length = n) : (convert 23 9 (.slice A n c)).run Try.prog w9 = .ok (.string ⟨f.toArray⟩) w9 := by
 subst hn
 exact run_string_of w9 23 9 5 A c w.heap.size f Try.underlying23 Try.underlying5 Try.underlying9 (h.keep fun p hp => hk p hp)
theorem Spoilt.other {w wr : World} {own : Nat → Option (Bool × Nat)} {tg : Nat → Bool × Nat} {i g : Nat} {cur : Array Value} {T : TypeId} (h : Spoilt (RowX w own tg i) w wr) (hg : w.heap[g]? = some (Obj.cells cur T (0, 0))) (hT : T ≠ 5) : wr.heap[g]? = w.heap[g]? := h.blk g (lt_of_block hg) fun ⟨⟨c, hc⟩, _⟩ => row_ne hg hc hT rfl
theorem rows_any (w : World) {own : Nat → Option (Bool × Nat)} {tg : Nat → Bool × Nat} {B Bs : Nat} {u v : Value} {fs : List BL} (hA : BRows B w own tg v fs) (hS : StrO Bs w u fs) (hinj : ∀ i j, tg i = tg j → i = j) (hl : fs.length ≤ 1000000) (hb : ∀ f ∈ fs, f.length ≤ 100000000) :
  Calls Try.prog 24 #[v, u] w fun e w' => e = .returned (.bool true) ∧ Spoilt (RowX w own tg fs.length) w w' := by
 obtain ⟨A, c, vs, rfl, hvs⟩ := id hA
 obtain ⟨As, cs, rfl, hss⟩ := id hS
 clear hvs hss vs
 obtain ⟨n, hn⟩ : ∃ z, fs.length = z := ⟨_, rfl⟩
 rw [hn] at hA hS hl ⊢
 have HN := hide hn
 have HA := hide hA
 have HS := hide hS
 have HI := hide hinj
 have HB := hide hb
 clear hn hA hS hinj hb
 go_enter Try.func24, Try.ntmps24
 go_wp2
 go_loopw [5] (fun v5 wr => ∃ i : Nat, i ≤ n ∧ v5 = .int .i64 (i : Int) ∧ Hid (Spoilt (RowX w own tg i) w wr)) (fun v5 _ => n - (intOf v5).toNat)
 case atStart => exact ⟨0, by omega, rfl, hide (Spoilt.refl _ _)⟩
 case round =>
  obtain ⟨i, hi, rfl, HSp⟩ := hrel
  obtain ⟨wr, rfl⟩ : ∃ z : World, z = wr := ⟨_, rfl⟩
  by_cases hlt : i < n
  ·have hI1 : (i : Int) < (n : Int) := by omega
   have hI0 : (0 : Int) ≤ (i : Int) := by omega
   obtain ⟨f, hf⟩ : ∃ f, fs[i]? = some f := ⟨_, List.getElem?_eq_getElem (by rw [HN.out]; exact hlt)⟩
   obtain ⟨g, Af, cf, rfl, hgl, ⟨cur, hcur⟩, c0, hby⟩ := rows_cell HA.out hf
   obtain ⟨-, g2, rfl, hgl2, ⟨cur2, hcur2⟩, c2⟩ := str_cell HS.out hf
   have hfl := HB.out f (List.mem_of_getElem? hf)
   obtain ⟨N, hN⟩ : ∃ z, f.length = z := ⟨_, rfl⟩
   rw [hN] at c0 hby hfl
   have r0 := (World.cell?_of_block (a := ⟨g, i, none⟩) (HSp.out.other hcur (by decide))).trans c0
   have r2 := (World.cell?_of_block (a := ⟨g2, i, none⟩) (HSp.out.other hcur2 (by decide))).trans c2
   have hg2r : g2 < wr.heap.size := Nat.lt_of_lt_of_le hgl2 HSp.out.size
   have hgr : g < wr.heap.size := Nat.lt_of_lt_of_le hgl HSp.out.size
   obtain ⟨hsp, hrd⟩ := SpI.start HI.out HSp.out hby hN
   have HSI := hide hsp
   have HR := hide hrd
   have HN2 := hide hN
   clear hsp hrd hby c0 c2 hcur hcur2 hf hN
   go_upto_region 7 with fail
   refine wp_region_held_drew (S := Kept wr) (by kernel_rfl) (Kept.drew wr) (fun hS0 => ?_)
   refine tk 0 23 ?_ ?_ ?_; rotate_left; (focus (intro w h; go_simp; (try with_reducible rfl))); (try simp only [zqd, zqe, zqf])
   refine tk 1 24 ?_ ?_ ?_; rotate_left; (focus (intro w hSw; have hh := conv_at HR.out hSw HN2.out (c := cf); go_simp; (try with_reducible rfl); done)); (try simp only [zqd, zqe, zqf])
   refine tk 2 25 ?_ ?_ ?_; rotate_left; (focus (intro w h; go_simp; (try with_reducible rfl))); (try simp only [zqd, zqe, zqf])
   refine tk 3 26 ?_ ?_ ?_; rotate_left; (focus (intro w h; go_simp; (try with_reducible rfl))); (try simp only [zqd, zqe, zqf])
   refine tk 4 27 ?_ ?_ ?_; rotate_left; (focus (intro w h; go_simp; (try with_reducible rfl))); (try simp only [zqd, zqe, zqf])
   refine tk 5 28 ?_ ?_ ?_; rotate_left; (focus (intro w h; go_simp; (try with_reducible rfl))); (try simp only [zqd, zqe, zqf])
   refine tk 6 29 ?_ ?_ ?_; rotate_left; (focus (intro w h; go_simp; (try with_reducible rfl))); (try simp only [zqd, zqe, zqf])
   refine wpAnyH_done (by kernel_rfl) ?_ _
   clear hS0
   go_wp2
   go_loopw [7] (fun v7 wq => ∃ k : Nat, k ≤ N ∧ v7 = .int .i64 (k : Int) ∧ Hid (SpI w wq own tg i N Af)) (fun v7 _ => N - (intOf v7).toNat)
   case atStart => exact ⟨0, by omega, rfl, HSI⟩
   case round =>
    obtain ⟨k, hk, rfl, HQ⟩ := hrel
    clear HSI
    by_cases hkN : k < N
    ·have hJ0 : (0 : Int) ≤ (k : Int) := by omega
     have hJ1 : (k : Int) < (N : Int) := by omega
     obtain ⟨gb, y, hAf, q1, q2, hst⟩ := HQ.out.step hkN
     subst hAf
     obtain ⟨z, hz⟩ : ∃ z : Nat, IntKind.u8.wrap ((y : Int) + 1) = (z : Int) := ⟨(IntKind.u8.wrap ((y : Int) + 1)).toNat, by simp only [IntKind.wrap, IntKind.bits, IntKind.signed]; simp; omega⟩
     have HF := hide (hst z)
     clear hst HQ
     go_wp2
     go_roundw
     case rel => exact ⟨k + 1, by omega, by go_num, HF⟩
     case measure => simp [intOf]; omega
    have hJ1 : ¬ (k : Int) < (N : Int) := by omega
    have HF := hide HQ.out.1
    clear HQ
    go_wp2
    go_roundw
    case rel => exact ⟨i + 1, by omega, by go_num, HF⟩
    case measure => simp [intOf]; omega
  have hI1 : ¬ (i : Int) < (n : Int) := by omega
  obtain rfl : i = n := by omega
  go_wp2
  go_ret
  exact ⟨rfl, HSp.out⟩
end Go.Proofs.Ytigmmikijjcdiaa
namespace Go.Proofs.Ytigmmikijjcdiaa
open Go.RowKit
def ktF : BL := fr 1 [7] [7, 0, 1]
def ktB : Nat := 1091006939
theorem KB.toBelow9 {X : List Nat} {L : Nat} {w w' : World} (h : KB X w w') (hX : ∀ x ∈ X, L ≤ x) (hL : L ≤ w.heap.size) : Below L w w' := ⟨h.3.1, h.3.2.1, h.3.2.2, h.1, fun g hg => h.2 g (by omega) (fun hm => by have := hX g hm; omega)⟩
def ktG : Nat → BL
 | 0 => ktF
 | i + 1 => if ktB / 2 ^ i % 2 = 1 then (ktG i).set ((175 + i) / 8) (UInt8.ofNat (((ktG i).getD ((175 + i) / 8) 0).toNat ^^^ 2 ^ ((175 + i) % 8))) else ktG i
theorem kt_len : ∀ i, (ktG i).length = 30
 | 0 => by kernel_rfl
 | i + 1 => by unfold ktG; split; rw [List.length_set]; exact kt_len i; exact kt_len i
theorem kt_len0 : ktF.length = 30 := kt_len 0
theorem kt_none : readL (ktG 32) = none := by kernel_rfl
def KtB (w : World) (gb : Nat) (f : BL) : Prop := ∃ C : Array Value, w.heap[gb]? = some (Obj.cells C 5 (0, 0)) ∧ 30 ≤ C.size ∧ ∀ (j : Nat) (u : Value), (u8s f)[j]? = some u → C[j]? = some u
theorem KtB.rd {w : World} {gb : Nat} {f : BL} (h : KtB w gb f) : Rd w w.heap.size (some ⟨gb, 0, none⟩) (u8s f) := fun _ => by
 obtain ⟨C, h1, h2, h3⟩ := h
 exact ⟨gb, 0, rfl, lt_of_block h1, fun j u hu => (cell_of_row _ _ _ _ _ _ h1).trans (by rw [Nat.zero_add]; exact h3 j u hu)⟩
theorem KtB.next {w w' : World} {gb : Nat} {f : BL} (h : KtB w gb f) (hb : Below w.heap.size w w') : KtB w' gb f := by
 obtain ⟨C, h1, h2⟩ := h
 exact ⟨C, (hb.block gb (lt_of_block h1)).trans h1, h2⟩
theorem of_none {w w' : World} {f : BL} {e : Ending} (h : OfPost w f e w') (hn : readL f = none) : e = .returned (.tuple #[.int .i64 0, .bool false]) ∧ Below w.heap.size w w' := by
 obtain ⟨h1, h2⟩ := h
 rw [hn] at h2
 exact ⟨h2, h1⟩
theorem KtB.set {w : World} {gb q : Nat} {f : BL} (h : KtB w gb f) (y : UInt8) : KtB (w.setCell ⟨gb, q, none⟩ (.int .u8 (y.toNat : Int))).drew gb (f.set q y) := by
 obtain ⟨C, h1, h2, h3⟩ := h
 refine ⟨C.setIfInBounds q (.int .u8 (y.toNat : Int)), heap_setCell_same _ gb q _ _ _ h1, by rw [Array.size_setIfInBounds]; exact h2, fun j u hu => ?_⟩
 have e : u8s (f.set q y) = (u8s f).set q (.int .u8 (y.toNat : Int)) := by unfold u8s; rw [List.map_set]
 rw [e, List.getElem?_set] at hu
 rw [Array.getElem?_setIfInBounds]
 by_cases hjq : q = j
 ·rw [if_pos hjq] at hu ⊢
  split at hu
  ·rename_i hl
   have h9 := h3 q (u8s f)[q] (List.getElem?_eq_getElem hl)
   rw [if_pos (Array.getElem?_eq_some_iff.1 h9).1]
   exact hu
  ·cases hu
 ·rw [if_neg hjq] at hu ⊢
  exact h3 j u hu
theorem KtB.at_ {w : World} {gb q : Nat} {f : BL} (h : KtB w gb f) (hq : q < f.length) : w.cell? ⟨gb, q, none⟩ = some (.int .u8 ((f.getD q 0).toNat : Int)) ∧ w.frozen? ⟨gb, q, none⟩ = false ∧ gb < w.heap.size := by
 obtain ⟨C, h1, h2, h3⟩ := h
 refine ⟨(cell_of_row _ _ q _ _ _ h1).trans (h3 q _ ?_), frozen_of_row _ _ q _ _ h1, lt_of_block h1⟩
 unfold u8s
 rw [List.getElem?_map, List.getD_eq_getElem?_getD, List.getElem?_eq_getElem hq]
 rfl
theorem k8_wrap (n : Int) : IntKind.u8.wrap n = n % 256 := by simp [IntKind.wrap, IntKind.bits, IntKind.signed]
theorem k8_xor (a b : Nat) (ha : a < 256) (hb : b < 256) : bits .xor .u8 (a : Int) (b : Int) = ((a ^^^ b : Nat) : Int) := by
 have hx : a ^^^ b < 2 ^ 8 := Nat.xor_lt_two_pow (by omega) (by omega)
 have h1 : (BitVec.ofInt 8 (a : Int)).toNat = a := by
  rw [BitVec.ofInt_natCast, BitVec.toNat_ofNat]; exact Nat.mod_eq_of_lt (by omega)
 have h2 : (BitVec.ofInt 8 (b : Int)).toNat = b := by
  rw [BitVec.ofInt_natCast, BitVec.toNat_ofNat]; exact Nat.mod_eq_of_lt (by omega)
 show IntKind.u8.wrap ((BitVec.ofInt 8 (a : Int) ^^^ BitVec.ofInt 8 (b : Int)).toNat : Int) = _
 rw [BitVec.toNat_xor, h1, h2, k8_wrap]
 omega
theorem k8_pow {r : Nat} (hr : r < 8) : IntKind.u8.wrap ((2 : Int) ^ r) = ((2 ^ r : Nat) : Int) := by
 have h : 2 ^ r < 2 ^ 8 := Nat.pow_lt_pow_right (by decide) hr
 rw [k8_wrap, show ((2 : Int) ^ r) = ((2 ^ r : Nat) : Int) by push_cast; rfl]
 generalize 2 ^ r = z at h
 omega
theorem kt_bit : ∀ i, i < 32 → bits BinOp.and IntKind.u32 (1091006939 / 2 ^ i) 1 = if ktB / 2 ^ i % 2 = 1 then 1 else 0 := by decide +kernel
theorem kt_take {w : World} {B : Nat} {A : Option Addr} {f : BL} (h : Rd w B A (u8s f)) (k : Nat) : Rd w B A (u8s (f.take k)) := by
 have e : u8s (f.take k) = (u8s f).take k := by unfold u8s; rw [List.map_take]
 rw [e]
 exact h.take k
theorem kt_short : readL (ktF.take 3) = none := by kernel_rfl
theorem turned_known (w : World) (A : Option Addr) (c : Nat) (hR : Rd w w.heap.size A (u8s [7])) :
  Calls Try.prog 28 #[.int .i64 7, .slice A 1 c, .int .u16 175, .int .u32 1091006939, .int .u16 3] w fun e w' => e = .returned (.bool true) ∧ Below w.heap.size w w' := by
 have hR9 := hide hR
 clear hR
 go_enter Try.func28, Try.ntmps28
 go_wp2_with fail
 refine (lopen_any w 7).mono ?_
 rintro e w1 ⟨P, M, rfl, hE, hp, hm, hb⟩
 rw [show epN 7 = 7 from rfl] at hE
 have HB1 := hide hb
 have HSd := hide (send_any w1 hE A [7] c ((hR9.out.below hb).more hb.size) (by decide) (by decide))
 clear hb hE
 go_wp2_with fail
 refine HSd.out.mono ?_
 rintro e w2 ⟨rfl, G, own, hE, hk, hg, ho⟩
 rw [show (sendL (openL 7) [7]).1 = 0 from rfl]
 have HE2 := hide hE
 have HK2 := hide hk
 have HB2 : Hid (Below w.heap.size w w2) := hide (HB1.out.trans (hk.toBelow9 (by intro x hx; simp at hx; rw [hx]; exact hp) HB1.out.size))
 clear hE hk hg ho HSd
 have HOt := hide (lout_any w2 HE2.out)
 go_wp2_with fail
 refine HOt.out.mono ?_
 rintro e w3 ⟨v, own2, rfl, ha, ho, hb, hk⟩
 have HB3 : Hid (Below w.heap.size w w3) := hide (HB2.out.trans (hk.toBelow9 (by intro x hx; simp at hx; rw [hx]; exact hp) HB2.out.size))
 have hv : BRows w2.heap.size w3 own2 (fun q => (true, q)) v [ktF] := ha
 obtain ⟨A3, c3, vs, rfl, -⟩ := id hv
 rw [show ([ktF] : List BL).length = 1 from rfl] at hv ⊢
 obtain ⟨g, Af, cf, rfl, hgl, -, hc0, hby⟩ := rows_cell hv (i := 0) rfl
 rw [kt_len0] at hc0 hby
 obtain ⟨⟨q1, q2⟩, q3⟩ := hby.2 (by decide)
 rcases q2 with ⟨q0, q9⟩ | ⟨gb, cap, cur, hvb, hgb, hcb, hnb, hmb, hsb, htb⟩
 ·cases q9
 injection hvb with hAf hn9 hcf
 subst hAf hcf
 have HBl := hide hcb
 have HTb := hide htb
 have hcap : 30 ≤ cf := hnb
 have hcapm : cf ≤ 9223372036854775807 := Nat.le_trans hmb (by decide)
 have HSz : Hid (30 ≤ cur.size) := hide (by rw [hsb]; omega)
 have hgbw : w.heap.size ≤ gb := by have := (ho gb (by rw [q3 gb rfl]; simp)).1; have := HB2.out.size; omega
 have HOw := hide (ho gb (by rw [q3 gb rfl]; simp))
 clear ha hb hk ho hv hby q1 q3 HOt hgb hcb hnb hmb hsb htb hn9
 have HK0 : Hid (KtB w3 gb ktF) := hide ⟨cur, HBl.out, HSz.out, fun j u hu => by have h9 := hu; rw [← HTb.out, List.getElem?_take] at h9; split at h9; simpa using h9; cases h9⟩
 clear HBl HTb HSz
 have HOf := hide (lof_any w3 (some ⟨gb, 0, none⟩) (ktF.take 3) cf (kt_take HK0.out.rd 3) (by rw [List.length_take, kt_len0]; decide) (by rw [List.length_take, kt_len0]; omega) hcapm)
 rw [show (ktF.take 3).length = 3 by rw [List.length_take, kt_len0]; rfl] at HOf
 go_wp2_with fail
 refine HOf.out.mono ?_
 rintro e y hof
 obtain ⟨rfl, hb⟩ := of_none hof kt_short
 clear hof
 have HBy : Hid (Below w.heap.size w y) := hide (HB3.out.trans (hb.mono HB3.out.size))
 have HKy : Hid (KtB y gb ktF) := hide (HK0.out.next hb)
 clear hb HOf HK0
 go_wp2
 go_loopw [18, 19] (fun v18 v19 wr => ∃ (i : Nat) (t : Bool), i ≤ 32 ∧ v19 = .int .i64 (i : Int) ∧ v18 = .bool t ∧ Hid (0 < i → t = true) ∧ Hid (KtB wr gb (ktG i)) ∧ Hid (Below w.heap.size w wr)) (fun _ v19 _ => 32 - (intOf v19).toNat)
 case atStart => exact ⟨0, false, by omega, rfl, rfl, hide (fun h => by omega), HKy, HBy⟩
 case round =>
  obtain ⟨i, t, hi, rfl, rfl, HT, HKr, HBr⟩ := hrel
  clear HKy HBy
  obtain ⟨wr, rfl⟩ : ∃ z : World, z = wr := ⟨_, rfl⟩
  by_cases hlt : i < 32
  ·have hI1 : (i : Int) < 32 := by omega
   have hI0 : (0 : Int) ≤ (i : Int) := by omega
   obtain ⟨k, hk⟩ : ∃ z, 175 + i = z := ⟨_, rfl⟩
   obtain ⟨q, hq⟩ : ∃ z, k / 8 = z := ⟨_, rfl⟩
   obtain ⟨r, hr⟩ : ∃ z, k % 8 = z := ⟨_, rfl⟩
   have hq30 : q < 30 := by omega
   have hr8 : r < 8 := by omega
   have kI : IntKind.i64.wrap (175 + (i : Int)) = (k : Int) := by rw [IntWalk.i64_in _ (by omega)]; omega
   have kq : (k : Int) / 8 = (q : Int) := by omega
   have kq2 : (k : Int).tdiv 8 = (q : Int) := by rw [Int.tdiv_eq_ediv_of_nonneg (by omega)]; omega
   have kwq : IntKind.i64.wrap (q : Int) = (q : Int) := IntWalk.i64_in _ (by omega)
   have hq0 : (0 : Int) ≤ (q : Int) := by omega
   have hq1 : (q : Int) < 30 := by omega
   have kr : (k : Int) % 8 = (r : Int) := by omega
   have kr2 : (k : Int).tmod 8 = (r : Int) := by rw [Int.tmod_eq_emod_of_nonneg (by omega)]; omega
   have k208 : (k : Int) < 208 := by omega
   have hbit := kt_bit i hlt
   have HG1 : Hid (ktG (i + 1) = if ktB / 2 ^ i % 2 = 1 then (ktG i).set q (UInt8.ofNat (((ktG i).getD q 0).toNat ^^^ 2 ^ r)) else ktG i) := hide (by rw [← hr, ← hq, ← hk]; rfl)
   have HKq := hide (And.intro hk (And.intro hq hr))
   clear hk hq hr
   by_cases hb : ktB / 2 ^ i % 2 = 1
   rotate_left
   ·have HNb := hide hb
    rw [if_neg hb] at hbit
    have hb0 : ¬ bits BinOp.and IntKind.u32 (1091006939 / 2 ^ i) 1 = 1 := by rw [hbit]; decide
    have HK2 : Hid (KtB wr gb (ktG (i + 1))) := hide (by rw [HG1.out, if_neg hb]; exact HKr.out)
    clear hbit hb
    go_wp2
    go_roundw
    case rel => exact ⟨i + 1, t, by omega, by go_num, rfl, hide (fun h9 => by rcases Nat.eq_zero_or_pos i with h8 | h8; exact absurd (by rw [h8]; rfl) HNb.out; exact HT.out h8), HK2, HBr⟩
    case measure => simp [intOf]; omega
   rw [if_pos hb] at hbit
   obtain ⟨f, hf⟩ : ∃ z, ktG i = z := ⟨_, rfl⟩
   have hfl : f.length = 30 := by rw [← hf]; exact kt_len i
   obtain ⟨cn, hcn⟩ : ∃ z, (f.getD q 0).toNat = z := ⟨_, rfl⟩
   have hcn8 : cn < 256 := by rw [← hcn]; exact (f.getD q 0).toNat_lt
   rw [hf] at HKr HG1
   obtain ⟨hcc, hfz, hgbl⟩ := HKr.out.at_ (q := q) (by omega)
   rw [hcn] at hcc
   obtain ⟨dn, hdn⟩ : ∃ z, cn ^^^ 2 ^ r = z := ⟨_, rfl⟩
   have hp8 : 2 ^ r < 256 := Nat.pow_lt_pow_right (a := 2) (by decide) (show r < 8 from hr8)
   have hdn8 : dn < 256 := by rw [← hdn]; exact Nat.xor_lt_two_pow (n := 8) hcn8 hp8
   have HXor : Hid (bits BinOp.xor IntKind.u8 (cn : Int) (IntKind.u8.wrap (2 ^ r)) = (dn : Int)) := hide (by rw [k8_pow hr8, k8_xor _ _ hcn8 hp8, hdn])
   have hd8 : (UInt8.ofNat dn).toNat = dn := by rw [UInt8.toNat_ofNat']; omega
   have HK2 : Hid (KtB (wr.setCell ⟨gb, q, none⟩ (.int .u8 (dn : Int))).drew gb (ktG (i + 1))) := hide (by rw [HG1.out, if_pos hb, hcn, hdn]; have h9 := HKr.out.set (q := q) (UInt8.ofNat dn); rw [hd8] at h9; exact h9)
   have HB2 : Hid (Below w.heap.size w (wr.setCell ⟨gb, q, none⟩ (.int .u8 (dn : Int))).drew) := hide (HBr.out.setCell (p := ⟨gb, q, none⟩) hgbw _).drew
   clear hb hf hfl hcn hdn hp8 hd8
   go_upto_region 21 with fail
   refine wpL_region (S := Kept wr) [13] (by kernel_rfl) (Kept.drew wr) (fun hS0 => ?_)
   refine tl 0 91 ?_ ?_ ?_; rotate_left; (focus (intro w h; go_simp; (try with_reducible rfl))); (try simp only [zqd, zqe, zqf])
   refine tl 1 92 ?_ ?_ ?_; rotate_left; (focus (intro w h; go_simp; (try with_reducible rfl))); (try simp only [zqd, zqe, zqf])
   refine tl 2 93 ?_ ?_ ?_; rotate_left; (focus (intro w h; go_simp; (try with_reducible rfl))); (try simp only [zqd, zqe, zqf])
   refine tl 3 94 ?_ ?_ ?_; rotate_left; (focus (intro w h; go_simp; (try with_reducible rfl))); (try simp only [zqd, zqe, zqf])
   refine tl 4 95 ?_ ?_ ?_; rotate_left; (focus (intro w h; go_simp; (try with_reducible rfl))); (try simp only [zqd, zqe, zqf])
   refine tl 5 96 ?_ ?_ ?_; rotate_left; (focus (intro w h; go_simp; (try with_reducible rfl))); (try simp only [zqd, zqe, zqf])
   refine tl 6 97 ?_ ?_ ?_; rotate_left; (focus (intro w h; go_simp; (try with_reducible rfl))); (try simp only [zqd, zqe, zqf])
   refine tl 7 98 ?_ ?_ ?_; rotate_left; (focus (intro w h; go_simp; (try with_reducible rfl))); (try simp only [zqd, zqe, zqf])
   refine tl 8 99 ?_ ?_ ?_; rotate_left; (focus (intro w h; go_simp; (try with_reducible rfl))); (try simp only [zqd, zqe, zqf])
   refine tl 9 100 ?_ ?_ ?_; rotate_left; (focus (intro w h; go_simp; (try with_reducible rfl))); (try simp only [zqd, zqe, zqf])
   refine tl 10 101 ?_ ?_ ?_; rotate_left; (focus (intro w h; go_simp; (try with_reducible rfl))); (try simp only [zqd, zqe, zqf])
   refine tl 11 102 ?_ ?_ ?_; rotate_left; (focus (intro w hSw; go_simp; rw [HXor.out]; done)); (try simp only [zqd, zqe, zqf])
   refine tl 12 103 ?_ ?_ ?_; rotate_left; (focus (intro w h; go_simp; (try with_reducible rfl))); (try simp only [zqd, zqe, zqf])
   refine exL_at (i := 13) (by simp only [zqa, zqb, zqc]; rfl) (by kernel_rfl) rfl (by kernel_rfl) (fun K hK => ?_)
   go_wp2_with fail
   refine hK.out _ _ ?_
   clear hK K
   try simp only [zqd, zqe, zqf]
   refine wpAnyL_done (by kernel_rfl) ?_ _
   clear hS0
   go_wp2
   go_roundw
   case rel => exact ⟨i + 1, true, by omega, by go_num, rfl, hide (fun _ => rfl), HK2, HB2⟩
   case measure => simp [intOf]; omega
  have hI1 : ¬ (i : Int) < 32 := by omega
  obtain rfl : i = 32 := by omega
  obtain rfl : t = true := HT.out (by decide)
  have HOf := hide (lof_any wr (some ⟨gb, 0, none⟩) (ktG 32) cf HKr.out.rd (by rw [kt_len]; omega) (by rw [kt_len]; exact hcap) hcapm)
  rw [kt_len 32] at HOf
  go_wp2_with fail
  refine HOf.out.mono ?_
  rintro e y9 hof
  obtain ⟨rfl, hb⟩ := of_none hof kt_none
  have HB9 : Hid (Below w.heap.size w y9) := hide (HBr.out.trans (hb.mono HBr.out.size))
  clear hof hb HOf
  go_wp2_with fail
  refine (works_any y9).mono ?_
  rintro e z ⟨rfl, hb⟩
  have HBz := hide (HB9.out.trans (hb.mono HB9.out.size))
  clear hb
  go_wp2
  go_ret
  exact ⟨rfl, HBz.out⟩
end Go.Proofs.Ytigmmikijjcdiaa
namespace Go.Proofs.Ytigmmikijjcdiaa
theorem ah_split (n : Nat) : ∀ xs : List (Nat × BL), xs.Pairwise (fun a b => a.1 < b.1) → ∃ lo hi, xs = lo ++ hi ∧ (∀ x ∈ lo, x.1 < n) ∧ (∀ x ∈ hi, n ≤ x.1)
 | [], _ => ⟨[], [], rfl, (fun x h => by cases h), (fun x h => by cases h)⟩
 | y :: xs, h => by
  obtain ⟨h1, h2⟩ := List.pairwise_cons.1 h
  by_cases hy : y.1 < n
  ·obtain ⟨lo, hi, e, hlo, hhi⟩ := ah_split n xs h2
   refine ⟨y :: lo, hi, by rw [e]; rfl, fun x hx => ?_, hhi⟩
   rcases List.mem_cons.1 hx with rfl | hx
   ·exact hy
   ·exact hlo x hx
  ·refine ⟨[], y :: xs, rfl, fun x hx => by (cases hx), fun x hx => ?_⟩
   rcases List.mem_cons.1 hx with rfl | hx
   ·omega
   ·have := h1 x hx; omega
theorem AhF.none_iff {xs : List (Nat × BL)} {f : Nat → Option BL} (h : AhF xs f) (n : Nat) : f n = none ↔ ∀ x ∈ xs, x.1 ≠ n := by
 constructor
 ·rintro hn x hx rfl
  have := (h.2 x.1 x.2).2 hx
  rw [hn] at this
  cases this
 ·intro hx
  cases hf : f n with
  | none => rfl
  | some b => exact absurd rfl (hx _ ((h.2 n b).1 hf))
theorem AhF.put {lo hi : List (Nat × BL)} {f : Nat → Option BL} (h : AhF (lo ++ hi) f) {n : Nat} (b : BL) (hlo : ∀ x ∈ lo, x.1 < n) (hhi : ∀ x ∈ hi, n ≤ x.1) (hn : f n = none) : AhF (lo ++ (n, b) :: hi) (fun m => if m = n then some b else f m) := by
 have hne := (h.none_iff n).1 hn
 have hhi' : ∀ x ∈ hi, n < x.1 := fun x hx => by have h1 := hhi x hx; have h2 := hne x (List.mem_append.2 (.inr hx)); omega
 obtain ⟨p1, p2, p3⟩ := List.pairwise_append.1 h.1
 refine ⟨List.pairwise_append.2 ⟨p1, List.pairwise_cons.2 ⟨fun x hx => hhi' x hx, p2⟩, fun x hx y hy => ?_⟩, fun m c => ?_⟩
 ·rcases List.mem_cons.1 hy with rfl | hy
  ·exact hlo x hx
  ·exact p3 x hx y hy
 ·show (if m = n then some b else f m) = some c ↔ _
  rw [List.mem_append, List.mem_cons]
  by_cases hm : m = n
  ·subst hm
   rw [if_pos rfl]
   constructor
   ·intro e
    injection e with e
    subst e
    exact .inr (.inl rfl)
   ·rintro (hx | hx | hx)
    ·exact absurd rfl (hne _ (List.mem_append.2 (.inl hx)))
    ·injection hx with _ hx
     rw [hx]
    ·exact absurd rfl (hne _ (List.mem_append.2 (.inr hx)))
  ·rw [if_neg hm, h.2 m c, List.mem_append]
   constructor
   ·rintro (hx | hx)
    ·exact .inl hx
    ·exact .inr (.inr hx)
   ·rintro (hx | hx | hx)
    ·exact .inl hx
    ·injection hx with hx _
     exact absurd hx hm
    ·exact .inr hx
theorem AhF.tail {x : Nat × BL} {xs : List (Nat × BL)} {f : Nat → Option BL} (h : AhF (x :: xs) f) : AhF xs (fun m => if m = x.1 then none else f m) := by
 obtain ⟨h1, h2⟩ := List.pairwise_cons.1 h.1
 refine ⟨h2, fun m c => ?_⟩
 show (if m = x.1 then none else f m) = some c ↔ _
 by_cases hm : m = x.1
 ·subst hm
  rw [if_pos rfl]
  constructor
  ·intro e
   cases e
  ·intro hx
   have := h1 _ hx
   omega
 ·rw [if_neg hm, h.2 m c, List.mem_cons]
  constructor
  ·rintro (rfl | hx)
   ·exact absurd rfl hm
   ·exact hx
  ·exact .inr
theorem AhF.at_nil {f : Nat → Option BL} (h : AhF [] f) (n : Nat) : f n = none := (h.none_iff n).2 fun x hx => by (cases hx)
theorem AhF.first {x : Nat × BL} {xs : List (Nat × BL)} {f : Nat → Option BL} {H : Nat} (h : AhF (x :: xs) f) (hall : ∀ n b, f n = some b → H < n) : (x.1 = H + 1 → f (H + 1) = some x.2) ∧ (x.1 ≠ H + 1 → f (H + 1) = none) := by
 obtain ⟨h1, h2⟩ := List.pairwise_cons.1 h.1
 refine ⟨fun e => ?_, fun e => (h.none_iff _).2 fun y hy => ?_⟩
 ·rw [← e]
  exact (h.2 x.1 x.2).2 List.mem_cons_self
 ·have hx := hall x.1 x.2 ((h.2 x.1 x.2).2 List.mem_cons_self)
  rcases List.mem_cons.1 hy with rfl | hy
  ·exact e
  ·have := h1 y hy
   omega
theorem tell_none : ∀ (k : Nat) (s : LE), (∀ n b, s.ahead n = some b → s.heard < n ∧ n < s.heard + k) → (tellL k s).2.ahead ((tellL k s).2.heard + 1) = none
 | 0, s, h => by
  cases hf : s.ahead (s.heard + 1) with
  | none => exact hf
  | some b => have := h _ _ hf; omega
 | k + 1, s, h => by
  unfold tellL
  cases hf : s.ahead (s.heard + 1) with
  | none => exact hf
  | some b =>
   dsimp only
   refine tell_none k _ fun n c hc => ?_
   dsimp only at hc ⊢
   split at hc
   ·cases hc
   ·rename_i hn
    have := h n c hc
    omega
end Go.Proofs.Ytigmmikijjcdiaa
namespace Go.Proofs.Ytigmmikijjcdiaa
open Go.RowKit
abbrev AhL := List (Nat × BL)
def midI (n : Nat) (b : BL) (st : AhL × Bool) (x : Nat × BL) : AhL × Bool := if st.2 = false ∧ n < x.1 then (st.1 ++ [(n, b)], true) else st
def insI (n : Nat) (b : BL) (st : AhL × Bool) (x : Nat × BL) : AhL × Bool := ((midI n b st x).1 ++ [x], (midI n b st x).2)
def insF (n : Nat) (b : BL) (xs : AhL) : AhL × Bool := xs.foldl (insI n b) ([], false)
def insE (n : Nat) (b : BL) (xs : AhL) : AhL := if (insF n b xs).2 then (insF n b xs).1 else (insF n b xs).1 ++ [(n, b)]
theorem insF_snoc (n : Nat) (b : BL) (xs : AhL) (x : Nat × BL) : insF n b (xs ++ [x]) = insI n b (insF n b xs) x := by unfold insF; rw [List.foldl_append]; rfl
theorem ins_lo (n : Nat) (b : BL) : ∀ (lo acc : AhL), (∀ x ∈ lo, x.1 < n) → lo.foldl (insI n b) (acc, false) = (acc ++ lo, false)
 | [], acc, _ => by simp
 | x :: lo, acc, h => by
  have hx := h x List.mem_cons_self
  have e : insI n b (acc, false) x = (acc ++ [x], false) := by unfold insI midI; rw [if_neg (by simp; omega)]
  rw [List.foldl_cons, e, ins_lo n b lo _ fun y hy => h y (List.mem_cons_of_mem _ hy)]
  simp
theorem ins_hi (n : Nat) (b : BL) : ∀ (hi acc : AhL), hi.foldl (insI n b) (acc, true) = (acc ++ hi, true)
 | [], acc => by simp
 | x :: hi, acc => by
  have e : insI n b (acc, true) x = (acc ++ [x], true) := by unfold insI midI; rw [if_neg (by simp)]
  rw [List.foldl_cons, e, ins_hi n b hi]
  simp
theorem ins_end {xs : AhL} (n : Nat) (b : BL) (hp : xs.Pairwise (fun a b => a.1 < b.1)) (hn : ∀ x ∈ xs, x.1 ≠ n) : ∃ lo hi, xs = lo ++ hi ∧ (∀ x ∈ lo, x.1 < n) ∧ (∀ x ∈ hi, n ≤ x.1) ∧ insE n b xs = lo ++ (n, b) :: hi := by
 obtain ⟨lo, hi, rfl, h1, h2⟩ := ah_split n xs hp
 refine ⟨lo, hi, rfl, h1, h2, ?_⟩
 have e1 : insF n b (lo ++ hi) = hi.foldl (insI n b) (lo, false) := by unfold insF; rw [List.foldl_append, ins_lo n b lo [] h1]; rfl
 cases hi with
 | nil => unfold insE; rw [e1]; rfl
 | cons y hi =>
  have hy : n < y.1 := by have a := h2 y List.mem_cons_self; have c := hn y (by simp); omega
  have e : insI n b (lo, false) y = (lo ++ [(n, b)] ++ [y], true) := by unfold insI midI; rw [if_pos ⟨rfl, hy⟩]
  rw [List.foldl_cons, e, ins_hi] at e1
  unfold insE
  rw [e1]
  simp
theorem insF_len (n : Nat) (b : BL) (xs : AhL) : (insF n b xs).1.length = xs.length + (insF n b xs).2.toNat := by
 have h : ∀ (ys : AhL) (st : AhL × Bool), (ys.foldl (insI n b) st).1.length + st.2.toNat = st.1.length + ys.length + (ys.foldl (insI n b) st).2.toNat := by
  intro ys
  induction ys with
  | nil => intro st; simp
  | cons y ys ih =>
   intro st
   rw [List.foldl_cons]
   have h1 := ih (insI n b st y)
   have h2 : (insI n b st y).1.length + st.2.toNat = st.1.length + 1 + (insI n b st y).2.toNat := by
    unfold insI midI
    split
    ·rename_i hc; rw [hc.1]; simp
    ·simp
   rw [List.length_cons]
   omega
 have := h xs ([], false)
 simpa [insF] using this
theorem ah_le : ∀ (xs : AhL) (h k : Nat), xs.Pairwise (fun a b => a.1 < b.1) → (∀ x ∈ xs, h < x.1 ∧ x.1 ≤ h + k) → xs.length ≤ k
 | [], _, _, _, _ => by simp
 | x :: xs, h, k, hp, hx => by
  obtain ⟨p1, p2⟩ := List.pairwise_cons.1 hp
  have h0 := hx x List.mem_cons_self
  have := ah_le xs x.1 (h + k - x.1) p2 fun y hy => ⟨p1 y hy, by have := (hx y (List.mem_cons_of_mem _ hy)).2; omega⟩
  rw [List.length_cons]
  omega
theorem AhF.le {xs : AhL} {s : LE} (h : AhF xs s.ahead) (hok : LEok s) : xs.length ≤ 64 := ah_le xs s.heard 64 h.1 fun x hx => (hok.ahead x.1 x.2 ((h.2 x.1 x.2).2 hx)).2
theorem AhR.at_ {w : World} {lo m d : Nat} {B : Option Addr} {xs : AhL} (h : AhR w lo (.slice B m d) xs) {i : Nat} {x : Nat × BL} (hx : xs[i]? = some x) : ∃ g off, B = some ⟨g, off, none⟩ ∧ m = xs.length ∧ g < w.heap.size ∧ w.cell? ⟨g, off + i * 2, none⟩ = some (.int .i64 (x.1 : Int)) ∧ w.cell? ⟨g, off + i * 2 + 1, none⟩ = some (.string ⟨x.2.toArray⟩) := by
 obtain ⟨A, c, h1, h2, h3, h4⟩ := h
 injection h1 with e1 e2 e3
 have hl := (List.getElem?_eq_some_iff.1 hx).1
 obtain ⟨g, off, cur, f1, f2, f3, f4⟩ := h4 (by omega)
 obtain ⟨c1, c2⟩ := ahC_num xs i x hx
 exact ⟨g, off, e1.trans f1, e2, lt_of_block f3, (cell_of_row _ _ _ _ _ _ f3).trans (f4 _ _ c1), (cell_of_row _ _ _ _ _ _ f3).trans (by rw [Nat.add_assoc]; exact f4 _ _ c2)⟩
def putA (s : LE) (n : Nat) (b : BL) : LE := if s.ahead n = none then { s with ahead := fun m => if m = n then some b else s.ahead m } else s
def RAhPost (w : World) (L Q : Nat) (G : Option Nat) (s : LE) (n : Nat) (b : BL) (e : Ending) (w' : World) : Prop :=
 e = .returned (.tuple #[]) ∧ REnd w' L Q G (putA s n b) ∧ KB [Q] w w'
theorem rah_same {w y : World} {L Q : Nat} {G : Option Nat} {s : LE} {n : Nat} {b : BL} (hE : REnd w L Q G s) (hb : Below w.heap.size w y) (hn : s.ahead n ≠ none) : RAhPost w L Q G s n b (.returned (.tuple #[])) y := by
 unfold RAhPost putA
 rw [if_neg hn]
 exact ⟨rfl, hE.next hb, (KB.refl _ _).below hb (Nat.le_refl _)⟩
theorem AhR.of_own {w : World} {lo B k c : Nat} {A : Option Addr} {ls : AhL} (h : w.ownsRow B 118 2 (.slice A k c) k (ahC ls)) (hB : lo ≤ B) (hk : ls.length = k) : AhR w lo (.slice A k c) ls := by
 subst hk
 rcases h.2 with ⟨h1, h0⟩ | ⟨g, cap, cur, e1, e2, e3, e4, e5, e6, e7⟩
 ·injection h1 with q1 q2 q3
  subst q1 q3
  exact ⟨none, 0, by rw [← q2], by omega, by decide, fun h => by omega⟩
 ·injection e1 with q1 _ q3
  subst q1 q3
  exact ⟨_, _, rfl, by omega, e5, fun _ => ⟨g, 0, cur, rfl, by omega, e3, fun j u hu => by rw [Nat.zero_add]; rw [← e7, List.getElem?_take] at hu; split at hu; simpa using hu; cases hu⟩⟩
theorem REnd.setA {y : World} {L Q : Nat} {G : Option Nat} {s : LE} {k c B : Nat} {A : Option Addr} {ls : AhL} {f : Nat → Option BL} (hE : REnd y L Q G s) (hrow : y.ownsRow B 118 2 (.slice A k c) k (ahC ls)) (hk : ls.length = k) (hL : L ≤ B) (hQ : Q < B) (hf : AhF ls f) (hok : LEok { s with ahead := f }) :
  REnd (y.setCell ⟨Q, 6, none⟩ (.slice A k c)) L Q G { s with ahead := f } := by
 obtain ⟨h1, h2, h3, sv, av, xs, h4, h5, h6, h7⟩ := hE
 have hk2 : ∀ g, g ≠ Q → (y.setCell ⟨Q, 6, none⟩ (.slice A k c)).heap[g]? = y.heap[g]? := fun g hg => Below.heap_setCell _ _ _ _ hg
 refine ⟨hok, h2, h3, sv, _, ls, heap_setCell_same _ Q 6 _ _ _ h4, h5.keep fun g e _ => hk2 g fun e2 => ?_, AhR.of_own (own_same hrow fun g hg => hk2 g (by have := (hrow.lt g hg).1; omega)) hL hk, hf⟩
 obtain ⟨cur, hc⟩ := h5.blk g e
 exact row_ne hc h4 (by decide) e2
theorem rah_put {w y : World} {L Q : Nat} {G : Option Nat} {s : LE} {k c n : Nat} {A : Option Addr} {b : BL} {xs ls : AhL} (hE : REnd w L Q G s) (hx : AhF xs s.ahead) (hb : Below w.heap.size w y) (hL : L ≤ w.heap.size) (hQ : Q < w.heap.size) (hn : s.ahead n = none) (hn1 : s.heard < n) (hn2 : n ≤ s.heard + 64) (hbl : b.length ≤ 1048576)
  (hrow : y.ownsRow w.heap.size 118 2 (.slice A k c) k (ahC ls)) (hk : ls.length = k) (hl : ls = insE n b xs) : RAhPost w L Q G s n b (.returned (.tuple #[])) (y.setCell ⟨Q, 6, none⟩ (.slice A k c)) := by
 have hok := hE.1
 obtain ⟨lo, hi, rfl, h1, h2, h3⟩ := ins_end n b hx.1 ((hx.none_iff n).1 hn)
 have hF := hx.put b h1 h2 hn
 rw [← h3, ← hl] at hF
 unfold RAhPost putA
 rw [if_pos hn]
 refine ⟨rfl, (hE.next hb).setA hrow hk hL hQ hF ?_, ((KB.refl _ _).below hb (Nat.le_refl _)).setCell (.inr (by simp)) _⟩
 refine ⟨hok.ep, hok.sent, hok.first, hok.fresh1, hok.fresh2, hok.next, hok.heard, hok.bytes, fun m c hc => ?_⟩
 dsimp only at hc
 split at hc
 ·rename_i e
  injection hc with hc
  subst e hc
  exact ⟨hbl, hn1, hn2⟩
 ·exact hok.ahead m c hc
theorem mid_yes {n : Nat} {b : BL} {xs : AhL} {x : Nat × BL} (hd : (insF n b xs).2 = false) (hx : n < x.1) : midI n b (insF n b xs) x = ((insF n b xs).1 ++ [(n, b)], true) := by unfold midI; rw [if_pos ⟨hd, hx⟩]
theorem mid_no {n : Nat} {b : BL} {xs : AhL} {x : Nat × BL} (h : (insF n b xs).2 = true ∨ ¬ n < x.1) : midI n b (insF n b xs) x = insF n b xs := by unfold midI; rw [if_neg (by rintro ⟨h1, h2⟩; rcases h with h | h; rw [h] at h1; cases h1; exact h h2)]
theorem ahC_app (xs ys : AhL) : ahC (xs ++ ys) = ahC xs ++ ahC ys := by unfold ahC; simp
theorem rahead_any (w : World) {L Q : Nat} {G : Option Nat} {s : LE} (h : REnd w L Q G s) (hLw : L ≤ w.heap.size) (n : Nat) (b : BL) (hn1 : s.heard < n) (hn2 : n ≤ s.heard + 64) (hbl : b.length ≤ 1048576) :
  Calls Try.prog 64 #[.pointer (some ⟨Q, 0, none⟩), .int .i64 (n : Int), .string ⟨b.toArray⟩] w (RAhPost w L Q G s n b) := by
 have hok := h.1
 have HE := hide h
 obtain ⟨-, -, -, sv, av, xs, h4, -, h6, h7⟩ := h
 obtain ⟨B, d, rfl, hd1, hd2, -⟩ := id h6
 obtain ⟨m, hm⟩ : ∃ z, xs.length = z := ⟨_, rfl⟩
 have hm64 : m ≤ 64 := by rw [← hm]; exact h7.le hok
 rw [hm] at h4 h6 hd1
 have hQ := lt_of_block h4
 have e6 := cell_of_row _ _ 6 _ _ _ h4
 have H6 := hide h6
 have H7 := hide h7
 have HM := hide hm
 have e6f : w.frozen? ⟨Q, 6, none⟩ = false := frozen_of_row _ _ 6 _ _ h4
 have e6 : w.cell? ⟨Q, 6, none⟩ = some (.slice B m d) := by simpa using e6
 clear h4 h6 h7 hm hd1 hd2
 obtain ⟨i3, a3i, a3z, a3s, a3b⟩ := info_parts (show (Try.prog.info? 118).map (fun i => (i.zero, i.size, i.bytes)) = some (some (.agg #[.int .i64 0, .string ⟨#[]⟩]), 2, 24) by kernel_rfl)
 have HOk := hide hok
 clear hok
 have hnI : (n : Int) ≤ 9223372036854775807 := by have := HOk.out.heard; omega
 have HN2 := hide hn2
 have HN1 := hide hn1
 have HBL := hide hbl
 clear hn1 hn2 hbl
 go_enter Try.func64, Try.ntmps64
 go_wp2
 go_loopw [6, 7, 8] (fun v6 v7 v8 wr => ∃ (i j : Nat) (A6 : Option Addr) (c6 : Nat) (dn : Bool), i ≤ m ∧ j ≤ i + 1 ∧ v8 = .int .i64 (i : Int) ∧ v7 = .bool dn ∧ v6 = .slice A6 j c6 ∧ Hid ((insF n b (xs.take i)).1.length = j) ∧ Hid ((insF n b (xs.take i)).2 = dn) ∧ Hid (wr.ownsRow w.heap.size 118 2 (.slice A6 j c6) j (ahC (insF n b (xs.take i)).1)) ∧ Hid (∀ x ∈ xs.take i, x.1 ≠ n) ∧ Hid (Below w.heap.size w wr)) (fun _ _ v8 _ => m - (intOf v8).toNat)
 case atStart => exact ⟨0, 0, none, 0, false, by omega, by omega, rfl, rfl, rfl, hide rfl, hide rfl, hide (World.ownsRow_nil _ _ _ _), hide (fun x hx => by simp at hx), hide (Below.refl _ _)⟩
 case round =>
  obtain ⟨i, j, A6, c6, dn, hi, hj, rfl, rfl, rfl, HJ, HD, HO, HNe, HBr⟩ := hrel
  obtain ⟨wr, rfl⟩ : ∃ z : World, z = wr := ⟨_, rfl⟩
  have swr : w.heap.size ≤ wr.heap.size := HBr.out.size
  have hQr : Q < wr.heap.size := by omega
  have r6 := (HBr.out.cell (p := ⟨Q, 6, none⟩) hQ).trans e6
  by_cases hlt : i < m
  ·have hI1 : (i : Int) < (m : Int) := by omega
   obtain ⟨x, hx⟩ : ∃ x, xs[i]? = some x := ⟨_, List.getElem?_eq_getElem (by rw [HM.out]; exact hlt)⟩
   obtain ⟨g, off, rfl, -, hgl, q0, q1⟩ := H6.out.at_ hx
   have r0 := (HBr.out.cell (p := ⟨g, off + i * 2, none⟩) hgl).trans q0
   have r1 := (HBr.out.cell (p := ⟨g, off + i * 2 + 1, none⟩) hgl).trans q1
   clear q0 q1
   have HX := hide hx
   obtain ⟨xn, hxn⟩ : ∃ z, x.1 = z := ⟨_, rfl⟩
   obtain ⟨xb, hxb⟩ : ∃ z, x.2 = z := ⟨_, rfl⟩
   rw [hxn] at r0
   rw [hxb] at r1
   have HXe : Hid (x = (xn, xb)) := hide (by rw [← hxn, ← hxb])
   clear hx
   skip
   by_cases cn : xn = n
   ·have hne : s.ahead n ≠ none := fun e => (H7.out.none_iff n).1 e x (List.mem_of_getElem? HX.out) (by rw [hxn, cn])
    have HFin := hide (rah_same (b := b) HE.out HBr.out hne)
    have cnI : ((xn : Int) == (n : Int)) = true := by simp; omega
    clear hne hxn hxb cn
    go_wp2
    refine bodyPost_ret (results_none rfl _ _ _) rfl ?_
    exact HFin.out
   have cnI : ((xn : Int) == (n : Int)) = false := by simp; omega
   have HNe2 : Hid (∀ x ∈ xs.take (i + 1), x.1 ≠ n) := hide (fun y hy => by rw [List.take_add_one, HX.out] at hy; rcases List.mem_append.1 hy with hy | hy; exact HNe.out y hy; simp at hy; subst hy; rw [hxn]; exact cn)
   have HT : Hid (insF n b (xs.take (i + 1)) = insI n b (insF n b (xs.take i)) x) := hide (by rw [List.take_add_one, HX.out]; exact insF_snoc n b _ x)
   have HXn : Hid (x.1 = xn) := hide hxn
   clear hxn hxb cn HNe
   obtain ⟨t, ht⟩ : ∃ t, (!dn && decide (n < xn)) = t := ⟨_, rfl⟩
   have HTt := hide ht
   clear ht
   go_upto_region 6 with fail
   go_cut [41] (fun v41 wc => v41 = .bool t ∧ wr = wc)
   case first =>
    rcases dn with _ | _
    ·by_cases cx : (n : Int) < (xn : Int)
     ·have HT3 : Hid (true = t) := hide (by rw [← HTt.out]; simp; omega)
      go_wp2
      go_meet
      case rel => exact ⟨by rw [← HT3.out], rfl⟩
     ·have HT3 : Hid (false = t) := hide (by rw [← HTt.out]; simp; omega)
      go_wp2
      go_meet
      case rel => exact ⟨by rw [← HT3.out], rfl⟩
    ·have HT3 : Hid (false = t) := hide (by rw [← HTt.out]; simp)
     go_wp2
     go_meet
     case rel => exact ⟨by rw [← HT3.out], rfl⟩
   case rest =>
    obtain ⟨rfl, rfl⟩ := hcut
    go_upto_if 41 with fail
    go_cut [6, 7] (fun v6 v7 wc => ∃ (j1 : Nat) (A1 : Option Addr) (c1 : Nat) (d1 : Bool), j1 ≤ j + 1 ∧ v7 = .bool d1 ∧ v6 = .slice A1 j1 c1 ∧ Hid ((midI n b (insF n b (xs.take i)) x).1.length = j1) ∧ Hid ((midI n b (insF n b (xs.take i)) x).2 = d1) ∧ Hid (wc.ownsRow w.heap.size 118 2 (.slice A1 j1 c1) j1 (ahC (midI n b (insF n b (xs.take i)) x).1)) ∧ Hid (Below w.heap.size w wc))
    case first =>
     rcases t with _ | _
     rotate_left
     ·have HMi : Hid (midI n b (insF n b (xs.take i)) x = ((insF n b (xs.take i)).1 ++ [(n, b)], true)) := hide (mid_yes (by rw [HD.out]; have h9 := HTt.out; cases dn <;> simp at h9 ⊢) (by rw [HXn.out]; have h9 := HTt.out; cases dn <;> simp at h9; exact h9))
      go_wp2_with (at_builtin; refine wpList_app rfl (.tmp 42) (.tmp 46) 76 rfl w.heap.size 118 i3 (.agg #[.int .i64 0, .string ⟨#[]⟩]) 2 24 Try.underlying76 a3i a3z a3s a3b rfl (by decide) (.slice A6 j c6) j (ahC (insF n b (xs.take i)).1) rfl (HO.out.alloc _) (wr.heap.size + 1) (some ⟨wr.heap.size, 0, none⟩) 1 1 [.int .i64 (n : Int), .string ⟨(b).toArray⟩] rfl rfl (Rd.new _ _ _ _) (by simp [Value.oneCell']) (by unfold maxLen; omega) (by omega) (by simp; omega) ?_; intro A8 c8 y2 own8 hg8 hat8)
      have HBy : Hid (Below w.heap.size w y2) := hide (app_below1 (HBr.out.alloc HBr.out.size _) HO.out hg8)
      have HO2 : Hid (y2.ownsRow w.heap.size 118 2 (.slice A8 (j + 1) c8) (j + 1) (ahC (midI n b (insF n b (xs.take i)) x).1)) := hide (by rw [HMi.out, ahC_app]; exact own8)
      clear own8 hg8 hat8
      go_wp2
      go_meet
      case rel => exact ⟨j + 1, A8, c8, true, by omega, rfl, rfl, hide (by rw [HMi.out, List.length_append, HJ.out]; rfl), hide (by rw [HMi.out]), HO2, HBy⟩
     have HMi : Hid (midI n b (insF n b (xs.take i)) x = insF n b (xs.take i)) := hide (mid_no (by rw [HD.out, HXn.out]; have h9 := HTt.out; cases dn <;> simp at h9 ⊢; omega))
     go_wp2
     go_meet
     case rel => exact ⟨j, A6, c6, dn, by omega, rfl, rfl, hide (by rw [HMi.out]; exact HJ.out), hide (by rw [HMi.out]; exact HD.out), hide (by rw [HMi.out]; exact HO.out), HBr⟩
    case rest =>
     obtain ⟨j1, A1, c1, d1, hj1, rfl, rfl, HJ1, HD1, HO1, HB1⟩ := hcut
     clear HJ HD HO HBr
     obtain ⟨wc, rfl⟩ : ∃ z : World, z = wc := ⟨_, rfl⟩
     have swc : w.heap.size ≤ wc.heap.size := HB1.out.size
     have hQc : Q < wc.heap.size := by omega
     have hgc : g < wc.heap.size := by omega
     have s6 := (HB1.out.cell (p := ⟨Q, 6, none⟩) hQ).trans e6
     obtain ⟨g2, off2, he2, -, -, q0, q1⟩ := H6.out.at_ HX.out
     injection he2 with he2
     injection he2 with he2 he3 _
     subst he2 he3
     rw [HXe.out] at q0 q1
     have s0 := (HB1.out.cell (p := ⟨g, off + i * 2, none⟩) hgl).trans q0
     have s1 := (HB1.out.cell (p := ⟨g, off + i * 2 + 1, none⟩) hgl).trans q1
     clear q0 q1 r0 r1 r6
     go_upto_region 9 with fail
     go_wp2_with (at_builtin; refine wpList_app rfl (.tmp 48) (.tmp 56) 76 rfl w.heap.size 118 i3 (.agg #[.int .i64 0, .string ⟨#[]⟩]) 2 24 Try.underlying76 a3i a3z a3s a3b rfl (by decide) (.slice A1 j1 c1) j1 (ahC (midI n b (insF n b (xs.take i)) x).1) rfl (HO1.out.alloc _) (wc.heap.size + 1) (some ⟨wc.heap.size, 0, none⟩) 1 1 [.int .i64 (xn : Int), .string ⟨(xb).toArray⟩] rfl rfl (Rd.new _ _ _ _) (by simp [Value.oneCell']) (by unfold maxLen; omega) (by omega) (by simp; omega) ?_; intro A8 c8 y2 own8 hg8 hat8)
     have HBy : Hid (Below w.heap.size w y2) := hide (app_below1 (HB1.out.alloc HB1.out.size _) HO1.out hg8)
     have hJ9 : (insF n b (xs.take (i + 1))).1.length = j1 + 1 := by rw [HT.out]; unfold insI; rw [List.length_append, HJ1.out]; rfl
     have hj9 : j1 + 1 ≤ i + 1 + 1 := by have h9 := insF_len n b (xs.take (i + 1)); rw [hJ9, List.length_take] at h9; have := Bool.toNat_le (insF n b (xs.take (i + 1))).2; omega
     have HJ9 := hide hJ9
     clear hJ9
     have HO2 : Hid (y2.ownsRow w.heap.size 118 2 (.slice A8 (j1 + 1) c8) (j1 + 1) (ahC (insF n b (xs.take (i + 1))).1)) := hide (by have e9 : ahC (insF n b (xs.take (i + 1))).1 = ahC (midI n b (insF n b (xs.take i)) x).1 ++ [.int .i64 (xn : Int), .string ⟨xb.toArray⟩] := (by rw [HT.out]; unfold insI; rw [ahC_app]; congr 1; rw [HXe.out]; rfl); rw [e9]; exact own8)
     clear own8 hg8 hat8
     go_wp2
     go_roundw
     case rel => exact ⟨i + 1, j1 + 1, A8, c8, d1, by omega, hj9, by go_num, rfl, rfl, HJ9, hide (by rw [HT.out]; unfold insI; exact HD1.out), HO2, HNe2, HBy⟩
     case measure => simp [intOf]; omega
  have hI1 : ¬ (i : Int) < (m : Int) := by omega
  have hin : xs.take i = xs := List.take_of_length_le (by rw [HM.out]; omega)
  rw [hin] at HJ HD HO HNe
  have hnone : s.ahead n = none := (H7.out.none_iff n).2 HNe.out
  have HNo := hide hnone
  clear hin hnone
  rcases dn with _ | _
  ·go_upto_region 12 with (at_builtin; refine wpList_app rfl (.tmp 60) (.tmp 64) 76 rfl w.heap.size 118 i3 (.agg #[.int .i64 0, .string ⟨#[]⟩]) 2 24 Try.underlying76 a3i a3z a3s a3b rfl (by decide) (.slice A6 j c6) j (ahC (insF n b xs).1) rfl (HO.out.alloc _) (wr.heap.size + 1) (some ⟨wr.heap.size, 0, none⟩) 1 1 [.int .i64 (n : Int), .string ⟨(b).toArray⟩] rfl rfl (Rd.new _ _ _ _) (by simp [Value.oneCell']) (by unfold maxLen; omega) (by omega) (by simp; omega) ?_; intro A8 c8 y2 own8 hg8 hat8)
   have HBy : Hid (Below w.heap.size w y2) := hide (app_below1 (HBr.out.alloc HBr.out.size _) HO.out hg8)
   have HO2 : Hid (y2.ownsRow w.heap.size 118 2 (.slice A8 (j + 1) c8) (j + 1) (ahC ((insF n b xs).1 ++ [(n, b)]))) := hide (by rw [ahC_app]; exact own8)
   clear own8 hg8 hat8
   have HFin := hide (rah_put HE.out H7.out HBy.out hLw hQ HNo.out HN1.out HN2.out HBL.out HO2.out (by rw [List.length_append, HJ.out]; rfl) (by unfold insE; rw [HD.out]; rfl))
   have s6 := (HBy.out.cell (p := ⟨Q, 6, none⟩) hQ).trans e6
   have s6f := (HBy.out.frozen (p := ⟨Q, 6, none⟩) hQ).trans e6f
   clear r6
   go_wp2
   go_end0
   exact HFin.out
  have HFin := hide (rah_put HE.out H7.out HBr.out hLw hQ HNo.out HN1.out HN2.out HBL.out HO.out HJ.out (by unfold insE; rw [HD.out]; rfl))
  have s6f := (HBr.out.frozen (p := ⟨Q, 6, none⟩) hQ).trans e6f
  go_wp2
  go_end0
  exact HFin.out
end Go.Proofs.Ytigmmikijjcdiaa
namespace Go.Proofs.Ytigmmikijjcdiaa
open Go.RowKit
def RMem (w : World) (L Q : Nat) (G : Option Nat) (s : LE) : Prop :=
 L ≤ Q ∧ (∀ g, G = some g → L ≤ g) ∧
 ∃ sv av xs, w.heap[Q]? = some (.cells #[.int .i64 s.ep, .int .i64 s.next, .int .i64 s.heard, .int .i64 s.fresh, .bool s.owes, sv, av] 78 (0, 0)) ∧
  TRow w G sv (strs s.sent) ∧ AhR w L av xs ∧ AhF xs s.ahead
section
variable {w w' : World} {L Q : Nat} {G : Option Nat} {s : LE}
theorem REnd.mem (h : REnd w L Q G s) : RMem w L Q G s := h.2
theorem RMem.fin (h : RMem w L Q G s) (hok : LEok s) : REnd w L Q G s := ⟨hok, h⟩
theorem RMem.keep (h : RMem w L Q G s) (hQ : w'.heap[Q]? = w.heap[Q]?) (hG : ∀ g, G = some g → w'.heap[g]? = w.heap[g]?) (hA : ∀ (g : Nat) (cur : Array Value), w.heap[g]? = some (Obj.cells cur 118 (0, 0)) → w'.heap[g]? = w.heap[g]?) : RMem w' L Q G s := by
 obtain ⟨h2, h3, sv, av, xs, h4, h5, h6, h7⟩ := h
 exact ⟨h2, h3, sv, av, xs, hQ.trans h4, h5.keep fun g e _ => hG g e, h6.keep hA, h7⟩
theorem RMem.below (h : RMem w L Q G s) (hb : Below w.heap.size w w') : RMem w' L Q G s := by
 have h' := h
 obtain ⟨h2, h3, sv, av, xs, h4, h5, h6, h7⟩ := h'
 exact h.keep (hb.block Q (lt_of_block h4)) (fun g e => by obtain ⟨cur, hc⟩ := h5.blk g e; exact hb.block g (lt_of_block hc)) fun g cur hc => hb.block g (lt_of_block hc)
theorem RMem.row (h : RMem w L Q G s) : ∃ A c B m d, w.heap[Q]? = some (.cells #[.int .i64 s.ep, .int .i64 s.next, .int .i64 s.heard, .int .i64 s.fresh, .bool s.owes, .slice A s.sent.length c, .slice B m d] 78 (0, 0)) ∧ s.sent.length ≤ c ∧ c ≤ maxLen ∧ (0 < c → ∃ g off, A = some ⟨g, off, none⟩) ∧ ∀ g, G = some g → g < w.heap.size := by
 obtain ⟨h2, h3, sv, av, xs, h4, h5, h6, h7⟩ := h
 have hb := h5.blk
 obtain ⟨A, c, rfl, q1, q2, q3, q4, q5⟩ := h5
 obtain ⟨B, d, rfl, _⟩ := h6
 rw [strs_len] at h4 q1
 exact ⟨A, c, B, _, d, h4, q1, q2, fun hc => by obtain ⟨g, off, cur, _, e, _⟩ := q5 hc; exact ⟨g, off, e⟩, fun g e => by obtain ⟨cur, hc⟩ := hb g e; exact lt_of_block hc⟩
theorem RMem.store (h : RMem w L Q G s) (i : Nat) (u : Value) : (∀ g, g ≠ Q → (w.setCell ⟨Q, i, none⟩ u).heap[g]? = w.heap[g]?) ∧ (∀ g, G = some g → g ≠ Q) ∧ (∀ (g : Nat) (cur : Array Value), w.heap[g]? = some (Obj.cells cur 118 (0, 0)) → g ≠ Q) := by
 obtain ⟨h2, h3, sv, av, xs, h4, h5, h6, h7⟩ := h
 refine ⟨fun g hg => Below.heap_setCell _ _ _ _ hg, fun g e => ?_, fun g cur hc => row_ne hc h4 (by decide)⟩
 obtain ⟨cur, hc⟩ := h5.blk g e
 exact row_ne hc h4 (by decide)
theorem RMem.setF (h : RMem w L Q G s) (x : Nat) : RMem (w.setCell ⟨Q, 3, none⟩ (.int .i64 (x : Int))) L Q G { s with fresh := x } := by
 obtain ⟨e1, e2, e3⟩ := h.store 3 (.int .i64 (x : Int))
 obtain ⟨h2, h3, sv, av, xs, h4, h5, h6, h7⟩ := h
 exact ⟨h2, h3, sv, av, xs, heap_setCell_same _ Q 3 _ _ _ h4, h5.keep fun g e _ => e1 g (e2 g e), h6.keep fun g cur hc => e1 g (e3 g cur hc), h7⟩
theorem RMem.setO (h : RMem w L Q G s) (x : Bool) : RMem (w.setCell ⟨Q, 4, none⟩ (.bool x)) L Q G { s with owes := x } := by
 obtain ⟨e1, e2, e3⟩ := h.store 4 (.bool x)
 obtain ⟨h2, h3, sv, av, xs, h4, h5, h6, h7⟩ := h
 exact ⟨h2, h3, sv, av, xs, heap_setCell_same _ Q 4 _ _ _ h4, h5.keep fun g e _ => e1 g (e2 g e), h6.keep fun g cur hc => e1 g (e3 g cur hc), h7⟩
theorem RMem.setH (h : RMem w L Q G s) (x : Nat) : RMem (w.setCell ⟨Q, 2, none⟩ (.int .i64 (x : Int))) L Q G { s with heard := x } := by
 obtain ⟨e1, e2, e3⟩ := h.store 2 (.int .i64 (x : Int))
 obtain ⟨h2, h3, sv, av, xs, h4, h5, h6, h7⟩ := h
 exact ⟨h2, h3, sv, av, xs, heap_setCell_same _ Q 2 _ _ _ h4, h5.keep fun g e _ => e1 g (e2 g e), h6.keep fun g cur hc => e1 g (e3 g cur hc), h7⟩
theorem RMem.drop1 (h : RMem w L Q G s) {A A' : Option Addr} {n c : Nat} (hA : w.cell? ⟨Q, 5, none⟩ = some (.slice A n c)) (hn : 0 < s.sent.length) (hA' : 1 < c → ∀ g off, A = some ⟨g, off, none⟩ → A' = some ⟨g, off + 1, none⟩) :
  RMem (w.setCell ⟨Q, 5, none⟩ (.slice A' (n - 1) (c - 1))) L Q G { s with sent := s.sent.drop 1 } := by
 obtain ⟨e1, e2, e3⟩ := h.store 5 (.slice A' (n - 1) (c - 1))
 obtain ⟨h2, h3, sv, av, xs, h4, h5, h6, h7⟩ := h
 have hsv : sv = .slice A n c := by have h := (cell_of_row _ _ 5 _ _ _ h4).symm.trans hA; injection h
 subst hsv
 refine ⟨h2, h3, _, av, xs, heap_setCell_same _ Q 5 _ _ _ h4, ?_, h6.keep fun g cur hc => e1 g (e3 g cur hc), h7⟩
 have h9 := (h5.drop (k := 1) (by rw [strs_len]; exact hn) A' hA')
 have e : strs (s.sent.drop 1) = (strs s.sent).drop 1 := by unfold strs; rw [List.map_drop]
 show TRow _ G _ (strs (s.sent.drop 1))
 rw [e]
 exact h9.keep fun g e _ => e1 g (e2 g e)
end
theorem ackL_ok {s : LE} {h : Nat} (hok : LEok s) (hh : h < s.next) : LEok (ackL s h) := by
 unfold ackL
 split
 ·rename_i h1
  have hft := hok.first
  have hfi : s.first + s.sent.length = s.next := by unfold LE.first; omega
  have hf2 : ({ s with sent := s.sent.drop (h + 1 - s.first), fresh := max s.fresh (h + 1) } : LE).first = h + 1 := by
   unfold LE.first at hfi h1 ⊢
   dsimp only
   rw [List.length_drop]
   omega
  have hm2 := hok.fresh2
  exact ⟨hok.ep, by dsimp only; rw [List.length_drop]; have := hok.sent; omega, by dsimp only; rw [List.length_drop]; omega, by rw [hf2]; dsimp only; omega, by dsimp only; omega, hok.next, hok.heard, fun b hb => hok.bytes b (List.mem_of_mem_drop hb), hok.ahead⟩
 ·exact hok
def ackD (s : LE) (h : Nat) : Nat := if s.first ≤ h then h + 1 - s.first else 0
theorem ackL_eq {s : LE} {h : Nat} (hok : LEok s) (hh : h < s.next) : ackL s h = { s with sent := s.sent.drop (ackD s h), fresh := max s.fresh (s.next - (s.sent.length - ackD s h)) } := by
 have hft := hok.first
 have hfi : s.first + s.sent.length = s.next := by unfold LE.first; omega
 have hf1 := hok.fresh1
 unfold ackL ackD
 split
 ·rw [show s.next - (s.sent.length - (h + 1 - s.first)) = h + 1 by omega]
 ·rw [List.drop_zero, show max s.fresh (s.next - (s.sent.length - 0)) = s.fresh by omega]
theorem ackD_le {s : LE} {h : Nat} (hok : LEok s) (hh : h < s.next) : ackD s h ≤ s.sent.length := by
 have hft := hok.first
 have hfi : s.first + s.sent.length = s.next := by unfold LE.first; omega
 unfold ackD
 split <;> omega
theorem ackD_more {s : LE} {h d : Nat} (hok : LEok s) (hh : h < s.next) (hd : d ≤ ackD s h) : (d < s.sent.length ∧ s.first + d ≤ h) ↔ d < ackD s h := by
 have hft := hok.first
 have hfi : s.first + s.sent.length = s.next := by unfold LE.first; omega
 unfold ackD at hd ⊢
 split at hd
 ·rename_i h1
  rw [if_pos h1]
  omega
 ·rename_i h1
  rw [if_neg h1]
  omega
def RHearPost (w : World) (L Q : Nat) (G : Option Nat) (s : LE) (f : BL) (e : Ending) (w' : World) : Prop :=
 ∃ v, e = .returned (.tuple #[v, .int .i64 (hearL s f).1]) ∧ StrO w.heap.size w' v (hearL s f).2.1 ∧ REnd w' L Q G (hearL s f).2.2 ∧ KB [Q] w w'
theorem StrO.nil (B : Nat) (w : World) : StrO B w (.slice none 0 0) [] := ⟨none, 0, rfl, World.ownsRow_nil _ _ _ _⟩
theorem rhear_no {w y : World} {L Q : Nat} {G : Option Nat} {s : LE} {f : BL} {c : Int} (h : REnd w L Q G s) (hb : Below w.heap.size w y) (hc : hearL s f = (c, [], s)) : RHearPost w L Q G s f (.returned (.tuple #[.slice none 0 0, .int .i64 c])) y := by
 unfold RHearPost
 rw [hc]
 exact ⟨_, rfl, StrO.nil _ _, h.next hb, (KB.refl _ _).below hb (Nat.le_refl _)⟩
theorem rhear_is {w y : World} {L Q : Nat} {G : Option Nat} {s s' : LE} {f : BL} (h : REnd y L Q G s') (hk : KB [Q] w y) (hc : hearL s f = (0, [], s')) : RHearPost w L Q G s f (.returned (.tuple #[.slice none 0 0, .int .i64 0])) y := by
 unfold RHearPost
 rw [hc]
 exact ⟨_, rfl, StrO.nil _ _, h, hk⟩
def RTell (w x : World) (L Q : Nat) (G : Option Nat) (s0 : LE) (j : Nat) (v : Value) (s : LE) : Prop :=
 ∃ bs, bs.length = j ∧ REnd x L Q G s ∧ s.heard = s0.heard + j ∧ StrO w.heap.size x v bs ∧ j ≤ 64 ∧ tellL 65 s0 = (bs ++ (tellL (65 - j) s).1, (tellL (65 - j) s).2) ∧ (∀ n, s.ahead n ≠ none → n ≤ s0.heard + 64) ∧ KB [Q] w x
theorem RTell.start {w x : World} {L Q : Nat} {G : Option Nat} {s0 : LE} (h : REnd x L Q G s0) (hk : KB [Q] w x) : RTell w x L Q G s0 0 (.slice none 0 0) s0 := by
 refine ⟨[], rfl, h, rfl, StrO.nil _ _, by omega, by simp, fun n hn => ?_, hk⟩
 rcases hb : s0.ahead n with _ | b
 ·exact absurd hb hn
 ·exact (h.1.ahead n b hb).2.2
theorem RTell.fin {w x y : World} {L Q : Nat} {G : Option Nat} {j : Nat} {s s0 s1 : LE} {v : Value} {f : BL} (h : RTell w x L Q G s0 j v s1) (hn : s1.ahead (s1.heard + 1) = none) (hb : Below x.heap.size x y) (hh : hearL s f = (0, (tellL 65 s0).1, (tellL 65 s0).2)) : RHearPost w L Q G s f (.returned (.tuple #[v, .int .i64 0])) y := by
 obtain ⟨bs, h1, h2, h3, h4, h5, h6, h7, h8⟩ := h
 have ht : tellL (65 - j) s1 = ([], s1) := by
  rw [show 65 - j = (64 - j) + 1 by omega]
  unfold tellL
  rw [hn]
 rw [ht, List.append_nil] at h6
 unfold RHearPost
 rw [hh, h6]
 obtain ⟨A, c, g1, g2⟩ := h4
 exact ⟨v, rfl, ⟨A, c, g1, own_below g2 hb (fun g hg => (g2.lt g hg).2)⟩, h2.next hb, h8.below hb h8.1⟩
theorem AhR.tail {w : World} {lo n c : Nat} {A A' : Option Addr} {x : Nat × BL} {xs : AhL} (h : AhR w lo (.slice A n c) (x :: xs)) (hA' : 1 < c → ∀ g off, A = some ⟨g, off, none⟩ → A' = some ⟨g, off + 2, none⟩) : AhR w lo (.slice A' (n - 1) (c - 1)) xs := by
 obtain ⟨A0, c0, h1, h2, h3, h4⟩ := h
 injection h1 with e1 e2 e3
 subst e1 e3
 rw [List.length_cons] at e2 h2
 refine ⟨A', c - 1, by rw [e2]; rfl, by omega, by omega, fun hc => ?_⟩
 obtain ⟨g, off, cur, f1, f2, f3, f4⟩ := h4 (by omega)
 refine ⟨g, off + 2, cur, hA' (by omega) g off f1, f2, f3, fun j u hu => ?_⟩
 have e : ahC (x :: xs) = .int .i64 (x.1 : Int) :: .string ⟨x.2.toArray⟩ :: ahC xs := rfl
 have := f4 (j + 1 + 1) u (by rw [e]; exact hu)
 rwa [show off + (j + 1 + 1) = off + 2 + j by omega] at this
theorem RTell.step {w x x1 x2 : World} {L Q : Nat} {G : Option Nat} {s0 s : LE} {A A' B B' : Option Addr} {j c c' q d : Nat} {bs : List BL} {b : BL} {y : Nat × BL} {xs : AhL}
  (hQ : Q < w.heap.size) (hG : ∀ g, G = some g → g < w.heap.size)
  (h1 : bs.length = j) (h2 : REnd x L Q G s) (h3 : s.heard = s0.heard + j) (h4 : x.ownsRow w.heap.size 9 1 (.slice A j c) j (strs bs)) (h5 : j ≤ 64) (h6 : tellL 65 s0 = (bs ++ (tellL (65 - j) s).1, (tellL (65 - j) s).2)) (h7 : ∀ n, s.ahead n ≠ none → n ≤ s0.heard + 64) (h8 : KB [Q] w x)
  (hB : x.cell? ⟨Q, 6, none⟩ = some (.slice B q d)) (hR : AhR x L (.slice B q d) (y :: xs)) (hF : AhF (y :: xs) s.ahead) (hy : y = (s.heard + 1, b)) (hn : s.heard < 1000000)
  (hb1 : Below x.heap.size x x1) (hg : x1.grownBy x2 (Value.slice A j c).ownBlock) (ho : x2.ownsRow w.heap.size 9 1 (.slice A' (j + 1) c') (j + 1) (strs bs ++ [.string ⟨b.toArray⟩]))
  (hB' : 1 < d → ∀ g off, B = some ⟨g, off, none⟩ → B' = some ⟨g, off + 2, none⟩) :
  j ≤ 63 ∧ RTell w ((x2.setCell ⟨Q, 6, none⟩ (.slice B' (q - 1) (d - 1))).setCell ⟨Q, 2, none⟩ (.int .i64 ((s.heard + 1 : Nat) : Int))) L Q G s0 (j + 1) (.slice A' (j + 1) c') { s with heard := s.heard + 1, ahead := fun n => if n = s.heard + 1 then none else s.ahead n } := by
 subst hy
 have hsb : s.ahead (s.heard + 1) = some b := (hF.2 _ _).2 List.mem_cons_self
 have hj63 : j ≤ 63 := by have := h7 (s.heard + 1) (by rw [hsb]; simp); omega
 have sx := h8.1
 have s1 := hb1.size
 have s2 := hg.size
 have hne : ∀ g, g < w.heap.size → (Value.slice A j c).ownBlock ≠ some g := fun g hl e => by have := (h4.lt g e).1; omega
 have hsame : ∀ g, g < x.heap.size → (Value.slice A j c).ownBlock ≠ some g → x2.heap[g]? = x.heap[g]? := fun g hl e => (hg.block g (by omega) (fun h => e h.symm)).trans (hb1.block g hl)
 have hM2 : RMem x2 L Q G s := h2.mem.keep (hsame Q (by omega) (hne Q hQ)) (fun g e => hsame g (by have := hG g e; omega) (hne g (hG g e))) fun g cur hc => hsame g (lt_of_block hc) fun e => by
  obtain ⟨cur', hc'⟩ := own_type h4 g e
  exact row_ne hc hc' (by decide) rfl
 have hR2 : AhR x2 L (.slice B q d) ((s.heard + 1, b) :: xs) := hR.keep fun g cur hc => hsame g (lt_of_block hc) fun e => by
  obtain ⟨cur', hc'⟩ := own_type h4 g e
  exact row_ne hc hc' (by decide) rfl
 refine ⟨hj63, ?_⟩
 have hM3 : RMem (x2.setCell ⟨Q, 6, none⟩ (.slice B' (q - 1) (d - 1))) L Q G { s with ahead := fun n => if n = s.heard + 1 then none else s.ahead n } := by
  obtain ⟨e1, e2, e3⟩ := hM2.store 6 (.slice B' (q - 1) (d - 1))
  obtain ⟨k2, k3, sv, av, xs', k4, k5, k6, k7⟩ := hM2
  exact ⟨k2, k3, sv, _, xs, heap_setCell_same _ Q 6 _ _ _ k4, k5.keep fun g e _ => e1 g (e2 g e), (hR2.tail hB').keep fun g cur hc => e1 g (e3 g cur hc), hF.tail⟩
 have hok := h2.1
 have hM4 := hM3.setH (s.heard + 1)
 have ht : tellL (65 - j) s = (b :: (tellL (64 - j) { s with heard := s.heard + 1, ahead := fun n => if n = s.heard + 1 then none else s.ahead n }).1, (tellL (64 - j) { s with heard := s.heard + 1, ahead := fun n => if n = s.heard + 1 then none else s.ahead n }).2) := by
  rw [show 65 - j = (64 - j) + 1 by omega]
  rw [tellL, hsb]
 refine ⟨bs ++ [b], by simp [h1], hM4.fin ?_, by dsimp only; omega, ?_, by omega, ?_, fun n hn' => ?_, ?_⟩
 ·refine ⟨hok.ep, hok.sent, hok.first, hok.fresh1, hok.fresh2, hok.next, by dsimp only; omega, hok.bytes, fun n c' hc => ?_⟩
  dsimp only at hc ⊢
  split at hc
  ·cases hc
  ·rename_i hnn
   have := hok.ahead n c' hc
   have h9 : n ≠ s.heard + 1 := hnn
   refine ⟨this.1, by omega, by omega⟩
 ·refine ⟨A', c', by simp [h1], ?_⟩
  have e : strs (bs ++ [b]) = strs bs ++ [.string ⟨b.toArray⟩] := by unfold strs; simp
  rw [e, List.length_append, h1]
  exact own_same ho fun g hg' => by
   have hgw := (ho.lt g hg').1
   rw [Below.heap_setCell _ _ _ _ (show g ≠ Q by omega), Below.heap_setCell _ _ _ _ (show g ≠ Q by omega)]
 ·rw [h6, ht, show 65 - (j + 1) = 64 - j by omega]
  simp
 ·refine h7 n fun e => hn' ?_
  dsimp only
  rw [e]
  split <;> rfl
 ·have hk2 : KB [Q] w x2 := ⟨by omega, fun g hl hx => (hsame g (by omega) (hne g hl)).trans (h8.2 g hl hx), (h8.3.below hb1).grown hg⟩
  exact (hk2.setCell (.inr (by simp)) _).setCell (.inr (by simp)) _
theorem putL_in {s : LE} {n : Nat} {b : BL} (h1 : s.heard < n) (h2 : n ≤ s.heard + 64) : putL s n b = putA { s with owes := true } n b := by
 unfold putL putA
 by_cases h : s.ahead n = none
 ·rw [if_pos ⟨h1, h2, h⟩, if_pos h]
 ·rw [if_neg (by rintro ⟨_, _, h3⟩; exact h h3), if_neg h]
theorem tell_zero {s : LE} (h : s.ahead (s.heard + 1) = none) : tellL 65 s = ([], s) := by
 rw [tellL, h]
theorem setO_ok {s : LE} (h : LEok s) (o : Bool) : LEok { s with owes := o } := ⟨h.ep, h.sent, h.first, h.fresh1, h.fresh2, h.next, h.heard, h.bytes, h.ahead⟩
theorem putA_heard (s : LE) (n : Nat) (b : BL) : (putA s n b).heard = s.heard := by unfold putA; split <;> rfl
end Go.Proofs.Ytigmmikijjcdiaa
