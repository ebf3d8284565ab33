/- Lemmas: Rhe, Rdt, Npr, Nhe, Rsn. -/
import Derived.Test.YtigmmikijjcdiaaProg
import Derived.Deep.DeepCutAuto
import Derived.Lib.Hide
import Derived.WalkSpells
import Derived.WalkMore
import Derived.IntWalk
import Derived.Test.YtigmmikijjcdiaaLnWw19
set_option linter.unusedVariables false
set_option linter.unusedSimpArgs false
set_option maxRecDepth 100000
set_option maxHeartbeats 16000000
namespace Go.Proofs.Ytigmmikijjcdiaa
open Go.RowKit
def lenAt (w : World) (Q i : Nat) : Nat := match w.cell? ⟨Q, i, none⟩ with | some (.slice _ n _) => n | _ => 0
theorem lenAt_is {w : World} {Q i n c : Nat} {A : Option Addr} (h : w.cell? ⟨Q, i, none⟩ = some (.slice A n c)) : lenAt w Q i = n := by unfold lenAt; rw [h]
theorem lenAt_set {w : World} {Q i n c : Nat} {A : Option Addr} {u : Value} (h : w.cell? ⟨Q, i, none⟩ = some u) : lenAt (w.setCell ⟨Q, i, none⟩ (.slice A n c)).drew Q i = n := lenAt_is (w := (w.setCell ⟨Q, i, none⟩ (.slice A n c)).drew) (show (w.setCell ⟨Q, i, none⟩ (.slice A n c)).cell? ⟨Q, i, none⟩ = _ from World.cell?_setCell_same' _ _ _ (by rw [h]; rfl))
theorem lenAt_set2 {w : World} {Q i j n c : Nat} {A : Option Addr} {u v : Value} (hij : i ≠ j) (h : w.cell? ⟨Q, i, none⟩ = some u) : lenAt ((w.setCell ⟨Q, i, none⟩ (.slice A n c)).setCell ⟨Q, j, none⟩ v) Q i = n := lenAt_is (by rw [World.cell?_setCell_other _ _ _ _ (by intro e; injection e with _ e; exact hij e.symm)]; exact World.cell?_setCell_same' _ _ _ (by rw [h]; rfl))
def DropSt (w x : World) (L Q : Nat) (G : Option Nat) (s : LE) (d : Nat) : Prop := RMem x L Q G { s with sent := s.sent.drop d } ∧ KB [Q] w x
theorem DropSt.step {w x : World} {L Q : Nat} {G : Option Nat} {s : LE} {d g off q c : Nat} (h : DropSt w x L Q G s d) (hA : x.cell? ⟨Q, 5, none⟩ = some (.slice (some ⟨g, off, none⟩) q c)) (hn : d < s.sent.length) :
  DropSt w (x.setCell ⟨Q, 5, none⟩ (.slice (if c = 1 then some ⟨g, off, none⟩ else some ⟨g, off + 1, none⟩) (q - 1) (c - 1))).drew L Q G s (d + 1) := by
 obtain ⟨h1, h2⟩ := h
 have h3 := h1.drop1 (A' := if c = 1 then some ⟨g, off, none⟩ else some ⟨g, off + 1, none⟩) hA (by dsimp only; rw [List.length_drop]; omega) (fun hc g' off' e => by injection e with e; injection e with e1 e2; subst e1 e2; rw [if_neg (by omega)])
 dsimp only at h3
 rw [List.drop_drop] at h3
 exact ⟨h3.keep rfl (fun _ _ => rfl) fun _ _ _ => rfl, (h2.setCell (.inr (by simp)) _).drew⟩
theorem rhear_any (w : World) {L Q : Nat} {G : Option Nat} {s : LE} (h : REnd w L Q G s) (hLw : L ≤ w.heap.size) (A : Option Addr) (f : BL) (c : Nat) (hR : Rd w w.heap.size A (u8s f)) (hf : f.length ≤ 3000000) (hlc : f.length ≤ c) (hc : c ≤ 9223372036854775807) (hh : s.heard ≤ 900000) (hn0 : s.ahead (s.heard + 1) = none) :
  Calls Try.prog 50 #[.pointer (some ⟨Q, 0, none⟩), .slice A f.length c] w (RHearPost w L Q G s f) := by
 have HE := hide h
 have hok := h.1
 obtain ⟨A0, c0, B0, m0, d0, hrow, hc1, hc2, hA0, hGl⟩ := h.mem.row
 have hQ := lt_of_block hrow
 have HRow := hide hrow
 have HOk := hide hok
 have hrd := rread_any w A f c hR hf hlc hc
 obtain ⟨fl, hfl⟩ : ∃ z, f.length = z := ⟨_, rfl⟩
 rw [hfl] at hrd ⊢
 have HRd := hide hrd
 clear hrd hfl hR hf hlc h
 obtain ⟨ns, hns⟩ : ∃ x, s.sent.length = x := ⟨_, rfl⟩
 obtain ⟨nx0, hnx⟩ : ∃ x, s.next = x := ⟨_, rfl⟩
 obtain ⟨sep, hep⟩ : ∃ x, s.ep = x := ⟨_, rfl⟩
 obtain ⟨hs0, hhd⟩ : ∃ x, s.heard = x := ⟨_, rfl⟩
 obtain ⟨fr0, hfr⟩ : ∃ x, s.fresh = x := ⟨_, rfl⟩
 obtain ⟨fs, hfs⟩ : ∃ x, s.first = x := ⟨_, rfl⟩
 obtain ⟨ow0, how⟩ : ∃ x, s.owes = x := ⟨_, rfl⟩
 have b1 : ns ≤ 64 := by rw [← hns]; exact hok.sent
 have b2 : nx0 ≤ 1000000 := by rw [← hnx]; exact hok.next
 have b3' : sep ≤ 4611686018427387904 := by rw [← hep]; exact hok.ep
 have b4 : hs0 ≤ 900000 := by rw [← hhd]; exact hh
 have b5 : fs + ns = nx0 := by have := hok.first; rw [← hfs, ← hns, ← hnx]; unfold LE.first; omega
 have b6 : fr0 ≤ nx0 := by rw [← hfr, ← hnx]; exact hok.fresh2
 have HS : Hid (s.sent.length = ns ∧ s.next = nx0 ∧ s.ep = sep ∧ s.heard = hs0 ∧ s.first = fs ∧ s.fresh = fr0 ∧ s.owes = ow0) := hide ⟨hns, hnx, hep, hhd, hfs, hfr, how⟩
 rw [hns, hnx, hep, hhd, hfr, how] at hrow
 clear hns hnx hep hhd hfs hfr how hok
 obtain ⟨i3, a3i, a3z, a3s, a3b⟩ := info_parts (show (Try.prog.info? 9).map (fun i => (i.zero, i.size, i.bytes)) = some (some (.string ⟨#[]⟩), 1, 16) by kernel_rfl)
 rcases hq : readL f with _ | ⟨ep, hd, n, b⟩
 ·have HFin : ∀ y, Below w.heap.size w y → Hid (RHearPost w L Q G s f (.returned (.tuple #[.slice none 0 0, .int .i64 150])) y) := fun y hb => hide (rhear_no HE.out hb (by unfold hearL; rw [hq]))
  have HQ := hide hq
  clear hq
  go_enter Try.func50, Try.ntmps50
  go_wp2_with fail
  refine HRd.out.mono ?_
  rintro e y ⟨hb, he⟩
  rw [HQ.out] at he
  dsimp only at he
  subst he
  have HFin := HFin y hb
  clear hb
  go_wp2
  exact bodyPost_ret (v := .tuple #[.slice none 0 0, .int .i64 150]) (by simp [results, Try.results50, go_sem]) rfl HFin.out
 obtain ⟨hb1, hb2, hb3, hb4⟩ := readL_bd hq
 unfold mostL at hb1 hb2 hb3
 have HQ := hide hq
 clear hq
 by_cases ce : ep = sep
 rotate_left
 ·have HFin : ∀ y, Below w.heap.size w y → Hid (RHearPost w L Q G s f (.returned (.tuple #[.slice none 0 0, .int .i64 4])) y) := fun y hb => hide (rhear_no HE.out hb (by unfold hearL; rw [HQ.out]; dsimp only; rw [if_pos (by rw [HS.out.2.2.1]; exact ce)]))
  have ceI : ((ep : Int) != (sep : Int)) = true := by simp; omega
  go_enter Try.func50, Try.ntmps50
  go_wp2_with fail
  refine HRd.out.mono ?_
  rintro e y ⟨hb, he⟩
  rw [HQ.out] at he
  dsimp only at he
  subst he
  have HB := hide hb
  have p0 : y.cell? ⟨Q, 0, none⟩ = some (.int .i64 (sep : Int)) := cell_of_row _ _ 0 _ _ _ ((hb.block Q hQ).trans hrow)
  have p1 : y.cell? ⟨Q, 1, none⟩ = some (.int .i64 (nx0 : Int)) := cell_of_row _ _ 1 _ _ _ ((hb.block Q hQ).trans hrow)
  have p2 : y.cell? ⟨Q, 2, none⟩ = some (.int .i64 (hs0 : Int)) := cell_of_row _ _ 2 _ _ _ ((hb.block Q hQ).trans hrow)
  have p3 : y.cell? ⟨Q, 3, none⟩ = some (.int .i64 (fr0 : Int)) := cell_of_row _ _ 3 _ _ _ ((hb.block Q hQ).trans hrow)
  have p4 : y.cell? ⟨Q, 4, none⟩ = some (.bool ow0) := cell_of_row _ _ 4 _ _ _ ((hb.block Q hQ).trans hrow)
  have p5 : y.cell? ⟨Q, 5, none⟩ = some (.slice A0 ns c0) := cell_of_row _ _ 5 _ _ _ ((hb.block Q hQ).trans hrow)
  have p6 : y.cell? ⟨Q, 6, none⟩ = some (.slice B0 m0 d0) := cell_of_row _ _ 6 _ _ _ ((hb.block Q hQ).trans hrow)
  clear hb hrow
  have HFin := HFin y HB.out
  go_wp2
  exact bodyPost_ret (v := .tuple #[.slice none 0 0, .int .i64 4]) (by simp [results, Try.results50, go_sem]) rfl HFin.out
 subst ce
 have ceI : ((ep : Int) != (ep : Int)) = false := by simp
 by_cases cn : nx0 ≤ hd
 ·have HFin : ∀ y, Below w.heap.size w y → Hid (RHearPost w L Q G s f (.returned (.tuple #[.slice none 0 0, .int .i64 2])) y) := fun y hb => hide (rhear_no HE.out hb (by unfold hearL; rw [HQ.out]; dsimp only; rw [if_neg (by rw [HS.out.2.2.1]; simp), if_pos (by rw [HS.out.2.1]; exact cn)]))
  have cnI : (nx0 : Int) ≤ (hd : Int) := by omega
  go_enter Try.func50, Try.ntmps50
  go_wp2_with fail
  refine HRd.out.mono ?_
  rintro e y ⟨hb, he⟩
  rw [HQ.out] at he
  dsimp only at he
  subst he
  have HB := hide hb
  have p0 : y.cell? ⟨Q, 0, none⟩ = some (.int .i64 (ep : Int)) := cell_of_row _ _ 0 _ _ _ ((hb.block Q hQ).trans hrow)
  have p1 : y.cell? ⟨Q, 1, none⟩ = some (.int .i64 (nx0 : Int)) := cell_of_row _ _ 1 _ _ _ ((hb.block Q hQ).trans hrow)
  have p2 : y.cell? ⟨Q, 2, none⟩ = some (.int .i64 (hs0 : Int)) := cell_of_row _ _ 2 _ _ _ ((hb.block Q hQ).trans hrow)
  have p3 : y.cell? ⟨Q, 3, none⟩ = some (.int .i64 (fr0 : Int)) := cell_of_row _ _ 3 _ _ _ ((hb.block Q hQ).trans hrow)
  have p4 : y.cell? ⟨Q, 4, none⟩ = some (.bool ow0) := cell_of_row _ _ 4 _ _ _ ((hb.block Q hQ).trans hrow)
  have p5 : y.cell? ⟨Q, 5, none⟩ = some (.slice A0 ns c0) := cell_of_row _ _ 5 _ _ _ ((hb.block Q hQ).trans hrow)
  have p6 : y.cell? ⟨Q, 6, none⟩ = some (.slice B0 m0 d0) := cell_of_row _ _ 6 _ _ _ ((hb.block Q hQ).trans hrow)
  clear hb hrow
  have HFin := HFin y HB.out
  go_wp2
  exact bodyPost_ret (v := .tuple #[.slice none 0 0, .int .i64 2]) (by simp [results, Try.results50, go_sem]) rfl HFin.out
 have cnI : ¬ (nx0 : Int) ≤ (hd : Int) := by omega
 have HNx : Hid (hd < s.next) := hide (by rw [HS.out.2.1]; omega)
 obtain ⟨D, hD⟩ : ∃ z, ackD s hd = z := ⟨_, rfl⟩
 have HD := hide hD
 have hDn : D ≤ ns := by rw [← hD, ← HS.out.1]; exact ackD_le HOk.out HNx.out
 clear hD
 go_enter Try.func50, Try.ntmps50
 go_wp2_with fail
 refine HRd.out.mono ?_
 rintro e y ⟨hb, he⟩
 rw [HQ.out] at he
 dsimp only at he
 subst he
 have HB := hide hb
 have p0 : y.cell? ⟨Q, 0, none⟩ = some (.int .i64 (ep : Int)) := cell_of_row _ _ 0 _ _ _ ((hb.block Q hQ).trans hrow)
 have p1 : y.cell? ⟨Q, 1, none⟩ = some (.int .i64 (nx0 : Int)) := cell_of_row _ _ 1 _ _ _ ((hb.block Q hQ).trans hrow)
 have p2 : y.cell? ⟨Q, 2, none⟩ = some (.int .i64 (hs0 : Int)) := cell_of_row _ _ 2 _ _ _ ((hb.block Q hQ).trans hrow)
 have p3 : y.cell? ⟨Q, 3, none⟩ = some (.int .i64 (fr0 : Int)) := cell_of_row _ _ 3 _ _ _ ((hb.block Q hQ).trans hrow)
 have p4 : y.cell? ⟨Q, 4, none⟩ = some (.bool ow0) := cell_of_row _ _ 4 _ _ _ ((hb.block Q hQ).trans hrow)
 have p5 : y.cell? ⟨Q, 5, none⟩ = some (.slice A0 ns c0) := cell_of_row _ _ 5 _ _ _ ((hb.block Q hQ).trans hrow)
 have p6 : y.cell? ⟨Q, 6, none⟩ = some (.slice B0 m0 d0) := cell_of_row _ _ 6 _ _ _ ((hb.block Q hQ).trans hrow)
 clear hb hrow
 go_wp2
 go_loopw [] (fun wr => ∃ d : Nat, d ≤ D ∧ Hid (DropSt w wr L Q G s d)) (fun wr => lenAt wr Q 5)
 case atStart => exact ⟨0, by omega, hide ⟨HE.out.mem.below HB.out, (KB.refl _ _).below HB.out (Nat.le_refl _)⟩⟩
 case round =>
  obtain ⟨d, hdD, HSt⟩ := hrel
  obtain ⟨wr, rfl⟩ : ∃ z : World, z = wr := ⟨_, rfl⟩
  clear p0 p1 p2 p3 p4 p5 p6
  obtain ⟨A5, c5, B5, m5, d5, hr5, hq1, hq2, hA5, -⟩ := HSt.out.1.row
  dsimp only at hr5 hq1
  rw [List.length_drop, HS.out.1, HS.out.2.1, HS.out.2.2.1, HS.out.2.2.2.1, HS.out.2.2.2.2.2.1, HS.out.2.2.2.2.2.2] at hr5
  rw [List.length_drop, HS.out.1] at hq1
  obtain ⟨q, hqd⟩ : ∃ z, ns - d = z := ⟨_, rfl⟩
  rw [hqd] at hr5 hq1
  have HMore := hide (ackD_more HOk.out HNx.out (show d ≤ ackD s hd by rw [HD.out]; exact hdD))
  rw [HS.out.1, HS.out.2.2.2.2.1, HD.out] at HMore
  have HQd := hide hqd
  clear hqd
  have HR5 := hide hr5
  have hQr := lt_of_block hr5
  have r1 : wr.cell? ⟨Q, 1, none⟩ = some (.int .i64 (nx0 : Int)) := cell_of_row _ _ 1 _ _ _ (hr5)
  have r3 : wr.cell? ⟨Q, 3, none⟩ = some (.int .i64 (fr0 : Int)) := cell_of_row _ _ 3 _ _ _ (hr5)
  have r5 : wr.cell? ⟨Q, 5, none⟩ = some (.slice A5 q c5) := cell_of_row _ _ 5 _ _ _ (hr5)
  clear hr5
  have swr : w.heap.size ≤ wr.heap.size := HSt.out.2.1
  by_cases hmore : d < D
  ·have hm := HMore.out.2 hmore
   have k1 : decide (0 < q) = true := decide_eq_true (by have := HQd.out; omega)
   obtain ⟨fd, hfd⟩ : ∃ z, fs + d = z := ⟨_, rfl⟩
   have k2 : (fd : Int) ≤ (hd : Int) := by have := hm.2; omega
   have hd9 : d < ns := hm.1
   have HFd := hide hfd
   clear hm hfd
   have kfs : IntKind.i64.wrap ((nx0 : Int) - (q : Int)) = (fd : Int) := by have h9 := HQd.out; have h8 := HFd.out; rw [IntWalk.i64_in _ (by omega)]; omega
   have kc : 0 < c5 := by have := HQd.out; omega
   obtain ⟨g, off, rfl⟩ := hA5 kc
   go_upto_region 8 with fail
   refine wp_region_held_drew (S := Kept wr) (by kernel_rfl) (Kept.drew wr) (fun hS0 => ?_)
   refine tk 0 37 ?_ ?_ ?_; rotate_left; (focus (intro w h; go_simp; (try with_reducible rfl))); (try simp only [zqd, zqe, zqf])
   refine tk 1 38 ?_ ?_ ?_; rotate_left; (focus (intro w h; go_simp; (try with_reducible rfl))); (try simp only [zqd, zqe, zqf])
   refine tk 2 39 ?_ ?_ ?_; rotate_left; (focus (intro w h; go_simp; (try with_reducible rfl))); (try simp only [zqd, zqe, zqf])
   refine tk 3 40 ?_ ?_ ?_; rotate_left; (focus (intro w h; go_simp; (try with_reducible rfl))); (try simp only [zqd, zqe, zqf])
   refine tk 4 41 ?_ ?_ ?_; rotate_left; (focus (intro w h; go_simp; (try with_reducible rfl))); (try simp only [zqd, zqe, zqf])
   refine tk 5 42 ?_ ?_ ?_; rotate_left; (focus (intro w hSw; go_simp; (try rw [k1]); (try with_reducible rfl); done)); (try simp only [zqd, zqe, zqf])
   refine tk 6 43 ?_ ?_ ?_; rotate_left; (focus (intro w h; go_simp; (try with_reducible rfl))); (try simp only [zqd, zqe, zqf])
   refine tk 7 44 ?_ ?_ ?_; rotate_left; (focus (intro w h; go_simp; (try with_reducible rfl))); (try simp only [zqd, zqe, zqf])
   refine tk 8 45 ?_ ?_ ?_; rotate_left; (focus (intro w h; go_simp; (try with_reducible rfl))); (try simp only [zqd, zqe, zqf])
   refine tk 9 46 ?_ ?_ ?_; rotate_left; (focus (intro w h; go_simp; (try with_reducible rfl))); (try simp only [zqd, zqe, zqf])
   refine tk 10 47 ?_ ?_ ?_; rotate_left; (focus (intro w h; go_simp; (try with_reducible rfl))); (try simp only [zqd, zqe, zqf])
   refine tk 11 48 ?_ ?_ ?_; rotate_left; (focus (intro w h; go_simp; (try with_reducible rfl))); (try simp only [zqd, zqe, zqf])
   refine tk 12 49 ?_ ?_ ?_; rotate_left; (focus (intro w h; go_simp; (try with_reducible rfl))); (try simp only [zqd, zqe, zqf])
   refine tk 13 50 ?_ ?_ ?_; rotate_left; (focus (intro w h; go_simp; (try with_reducible rfl))); (try simp only [zqd, zqe, zqf])
   refine tk 14 51 ?_ ?_ ?_; rotate_left; (focus (intro w h; go_simp; (try with_reducible rfl))); (try simp only [zqd, zqe, zqf])
   refine tk 15 52 ?_ ?_ ?_; rotate_left; (focus (intro w h; go_simp; (try with_reducible rfl))); (try simp only [zqd, zqe, zqf])
   refine tk 16 53 ?_ ?_ ?_; rotate_left; (focus (intro w hSw; go_simp; (try rw [kfs]); (try with_reducible rfl); done)); (try simp only [zqd, zqe, zqf])
   refine tk 17 54 ?_ ?_ ?_; rotate_left; (focus (intro w h; go_simp; (try with_reducible rfl))); (try simp only [zqd, zqe, zqf])
   refine tk 18 55 ?_ ?_ ?_; rotate_left; (focus (intro w hSw; go_simp; (try rw [k2]); (try with_reducible rfl); done)); (try simp only [zqd, zqe, zqf])
   refine tk 19 56 ?_ ?_ ?_; rotate_left; (focus (intro w h; go_simp; (try with_reducible rfl))); (try simp only [zqd, zqe, zqf])
   refine wpAnyH_done (by kernel_rfl) ?_ _
   clear hS0
   have z5 : wr.frozen? ⟨Q, 5, none⟩ = false := frozen_of_row _ _ 5 _ _ HR5.out
   have hq9 : 1 ≤ q := by have := HQd.out; omega
   have kI1 : (1 : Int) ≤ (q : Int) := by omega
   have kI2 : (1 : Int) ≤ (c5 : Int) := by omega
   have HP5 := hide r5
   have HFin := hide (DropSt.step HSt.out r5 (by rw [HS.out.1]; exact hd9))
   clear hq9
   go_wp2
   all_goals go_roundw
   case rel => exact ⟨d + 1, by omega, HFin⟩
   case measure => rw [lenAt_is HP5.out, lenAt_set HP5.out]; omega
  have hdd : d = D := by omega
  have HDD := hide hdd
  clear hdd hmore
  go_upto_region 8 with fail
  go_cut [56] (fun v56 wc => v56 = .bool false ∧ wr.drew = wc)
  case first =>
   by_cases hq0 : 0 < q
   ·have k1 : decide (0 < q) = true := decide_eq_true hq0
    obtain ⟨fd, hfd⟩ : ∃ z, fs + d = z := ⟨_, rfl⟩
    have k2 : ¬ (fd : Int) ≤ (hd : Int) := (fun h9 => by have h8 := HMore.out.1 ⟨by have := HQd.out; omega, by omega⟩; have := HDD.out; omega)
    have HFd := hide hfd
    clear hfd
    have kfs : IntKind.i64.wrap ((nx0 : Int) - (q : Int)) = (fd : Int) := by have h9 := HQd.out; have h8 := HFd.out; rw [IntWalk.i64_in _ (by omega)]; omega
    refine wp_region_held_drew (S := Kept wr) (by kernel_rfl) (Kept.drew wr) (fun hS0 => ?_)
    refine tk 0 37 ?_ ?_ ?_; rotate_left; (focus (intro w h; go_simp; (try with_reducible rfl))); (try simp only [zqd, zqe, zqf])
    refine tk 1 38 ?_ ?_ ?_; rotate_left; (focus (intro w h; go_simp; (try with_reducible rfl))); (try simp only [zqd, zqe, zqf])
    refine tk 2 39 ?_ ?_ ?_; rotate_left; (focus (intro w h; go_simp; (try with_reducible rfl))); (try simp only [zqd, zqe, zqf])
    refine tk 3 40 ?_ ?_ ?_; rotate_left; (focus (intro w h; go_simp; (try with_reducible rfl))); (try simp only [zqd, zqe, zqf])
    refine tk 4 41 ?_ ?_ ?_; rotate_left; (focus (intro w h; go_simp; (try with_reducible rfl))); (try simp only [zqd, zqe, zqf])
    refine tk 5 42 ?_ ?_ ?_; rotate_left; (focus (intro w hSw; go_simp; (try rw [k1]); (try with_reducible rfl); done)); (try simp only [zqd, zqe, zqf])
    refine tk 6 43 ?_ ?_ ?_; rotate_left; (focus (intro w h; go_simp; (try with_reducible rfl))); (try simp only [zqd, zqe, zqf])
    refine tk 7 44 ?_ ?_ ?_; rotate_left; (focus (intro w h; go_simp; (try with_reducible rfl))); (try simp only [zqd, zqe, zqf])
    refine tk 8 45 ?_ ?_ ?_; rotate_left; (focus (intro w h; go_simp; (try with_reducible rfl))); (try simp only [zqd, zqe, zqf])
    refine tk 9 46 ?_ ?_ ?_; rotate_left; (focus (intro w h; go_simp; (try with_reducible rfl))); (try simp only [zqd, zqe, zqf])
    refine tk 10 47 ?_ ?_ ?_; rotate_left; (focus (intro w h; go_simp; (try with_reducible rfl))); (try simp only [zqd, zqe, zqf])
    refine tk 11 48 ?_ ?_ ?_; rotate_left; (focus (intro w h; go_simp; (try with_reducible rfl))); (try simp only [zqd, zqe, zqf])
    refine tk 12 49 ?_ ?_ ?_; rotate_left; (focus (intro w h; go_simp; (try with_reducible rfl))); (try simp only [zqd, zqe, zqf])
    refine tk 13 50 ?_ ?_ ?_; rotate_left; (focus (intro w h; go_simp; (try with_reducible rfl))); (try simp only [zqd, zqe, zqf])
    refine tk 14 51 ?_ ?_ ?_; rotate_left; (focus (intro w h; go_simp; (try with_reducible rfl))); (try simp only [zqd, zqe, zqf])
    refine tk 15 52 ?_ ?_ ?_; rotate_left; (focus (intro w h; go_simp; (try with_reducible rfl))); (try simp only [zqd, zqe, zqf])
    refine tk 16 53 ?_ ?_ ?_; rotate_left; (focus (intro w hSw; go_simp; (try rw [kfs]); (try with_reducible rfl); done)); (try simp only [zqd, zqe, zqf])
    refine tk 17 54 ?_ ?_ ?_; rotate_left; (focus (intro w h; go_simp; (try with_reducible rfl))); (try simp only [zqd, zqe, zqf])
    refine tk 18 55 ?_ ?_ ?_; rotate_left; (focus (intro w hSw; go_simp; (try rw [k2]); (try with_reducible rfl); done)); (try simp only [zqd, zqe, zqf])
    refine tk 19 56 ?_ ?_ ?_; rotate_left; (focus (intro w h; go_simp; (try with_reducible rfl))); (try simp only [zqd, zqe, zqf])
    refine wpAnyH_done (by kernel_rfl) ?_ _
    clear hS0
    go_wp2
    go_meet
    case rel => exact ⟨rfl, rfl⟩
   have k1 : decide (0 < q) = false := decide_eq_false hq0
   refine wp_region_held_drew (S := Kept wr) (by kernel_rfl) (Kept.drew wr) (fun hS0 => ?_)
   refine tk 0 37 ?_ ?_ ?_; rotate_left; (focus (intro w h; go_simp; (try with_reducible rfl))); (try simp only [zqd, zqe, zqf])
   refine tk 1 38 ?_ ?_ ?_; rotate_left; (focus (intro w h; go_simp; (try with_reducible rfl))); (try simp only [zqd, zqe, zqf])
   refine tk 2 39 ?_ ?_ ?_; rotate_left; (focus (intro w h; go_simp; (try with_reducible rfl))); (try simp only [zqd, zqe, zqf])
   refine tk 3 40 ?_ ?_ ?_; rotate_left; (focus (intro w h; go_simp; (try with_reducible rfl))); (try simp only [zqd, zqe, zqf])
   refine tk 4 41 ?_ ?_ ?_; rotate_left; (focus (intro w h; go_simp; (try with_reducible rfl))); (try simp only [zqd, zqe, zqf])
   refine tk 5 42 ?_ ?_ ?_; rotate_left; (focus (intro w hSw; go_simp; (try rw [k1]); (try with_reducible rfl); done)); (try simp only [zqd, zqe, zqf])
   refine tk 6 43 ?_ ?_ ?_; rotate_left; (focus (intro w h; go_simp; (try with_reducible rfl))); (try simp only [zqd, zqe, zqf])
   refine sk 7 44 ?_; (try simp only [zqd, zqe, zqf])
   refine sk 8 45 ?_; (try simp only [zqd, zqe, zqf])
   refine sk 9 46 ?_; (try simp only [zqd, zqe, zqf])
   refine sk 10 47 ?_; (try simp only [zqd, zqe, zqf])
   refine sk 11 48 ?_; (try simp only [zqd, zqe, zqf])
   refine sk 12 49 ?_; (try simp only [zqd, zqe, zqf])
   refine sk 13 50 ?_; (try simp only [zqd, zqe, zqf])
   refine sk 14 51 ?_; (try simp only [zqd, zqe, zqf])
   refine sk 15 52 ?_; (try simp only [zqd, zqe, zqf])
   refine sk 16 53 ?_; (try simp only [zqd, zqe, zqf])
   refine sk 17 54 ?_; (try simp only [zqd, zqe, zqf])
   refine sk 18 55 ?_; (try simp only [zqd, zqe, zqf])
   refine tk 19 56 ?_ ?_ ?_; rotate_left; (focus (intro w h; go_simp; (try with_reducible rfl))); (try simp only [zqd, zqe, zqf])
   refine wpAnyH_done (by kernel_rfl) ?_ _
   clear hS0
   go_wp2
   go_meet
   case rel => exact ⟨rfl, rfl⟩
  case rest =>
   obtain ⟨rfl, rfl⟩ := hcut
   have HM0 : Hid (RMem wr L Q G { s with sent := s.sent.drop (ackD s hd) } ∧ KB [Q] w wr) := hide (by have h9 := HSt.out; rw [HDD.out, ← HD.out] at h9; exact h9)
   have HX : Hid (nx0 - q = fs + D) := hide (by have := HQd.out; have := HDD.out; omega)
   obtain ⟨fn, hfn⟩ : ∃ z, fs + D = z := ⟨_, rfl⟩
   rw [hfn] at HX
   have hfn1 : fn ≤ nx0 := by omega
   clear HSt HMore
   have HAL : Hid (ackL s hd = { s with sent := s.sent.drop (ackD s hd), fresh := max fr0 fn }) := hide (by rw [ackL_eq HOk.out HNx.out, HS.out.1, HS.out.2.1, HS.out.2.2.2.2.2.1, HD.out, show nx0 - (ns - D) = fn by have := HQd.out; have := HDD.out; omega])
   obtain ⟨mx, hmx⟩ : ∃ z, max fr0 fn = z := ⟨_, rfl⟩
   have HMx := hide hmx
   rw [hmx] at HAL
   have hmx1 : mx ≤ nx0 := by omega
   have HMI : Hid ((if fr0 < fn then (fn : Int) else (fr0 : Int)) = (mx : Int)) := hide (by rw [← hmx]; split <;> omega)
   have kfs : IntKind.i64.wrap ((nx0 : Int) - (q : Int)) = (fn : Int) := by have h9 := HX.out; have h8 := HQd.out; rw [IntWalk.i64_in _ (by omega)]; omega
   clear hmx
   have z3 : wr.frozen? ⟨Q, 3, none⟩ = false := frozen_of_row _ _ 3 _ _ HR5.out
   go_upto_region 10 with fail
   refine wpL_region (S := Kept wr) [18] (by kernel_rfl) (Kept.drew wr) (fun hS0 => ?_)
   refine tl 0 65 ?_ ?_ ?_; rotate_left; (focus (intro w h; go_simp; (try with_reducible rfl))); (try simp only [zqd, zqe, zqf])
   refine tl 1 66 ?_ ?_ ?_; rotate_left; (focus (intro w h; go_simp; (try with_reducible rfl))); (try simp only [zqd, zqe, zqf])
   refine tl 2 67 ?_ ?_ ?_; rotate_left; (focus (intro w h; go_simp; (try with_reducible rfl))); (try simp only [zqd, zqe, zqf])
   refine tl 3 68 ?_ ?_ ?_; rotate_left; (focus (intro w h; go_simp; (try with_reducible rfl))); (try simp only [zqd, zqe, zqf])
   refine tl 4 69 ?_ ?_ ?_; rotate_left; (focus (intro w h; go_simp; (try with_reducible rfl))); (try simp only [zqd, zqe, zqf])
   refine tl 5 70 ?_ ?_ ?_; rotate_left; (focus (intro w h; go_simp; (try with_reducible rfl))); (try simp only [zqd, zqe, zqf])
   refine tl 6 71 ?_ ?_ ?_; rotate_left; (focus (intro w h; go_simp; (try with_reducible rfl))); (try simp only [zqd, zqe, zqf])
   refine tl 7 72 ?_ ?_ ?_; rotate_left; (focus (intro w h; go_simp; (try with_reducible rfl))); (try simp only [zqd, zqe, zqf])
   refine tl 8 73 ?_ ?_ ?_; rotate_left; (focus (intro w h; go_simp; (try with_reducible rfl))); (try simp only [zqd, zqe, zqf])
   refine tl 9 74 ?_ ?_ ?_; rotate_left; (focus (intro w h; go_simp; (try with_reducible rfl))); (try simp only [zqd, zqe, zqf])
   refine tl 10 75 ?_ ?_ ?_; rotate_left; (focus (intro w h; go_simp; (try with_reducible rfl))); (try simp only [zqd, zqe, zqf])
   refine tl 11 76 ?_ ?_ ?_; rotate_left; (focus (intro w h; go_simp; (try with_reducible rfl))); (try simp only [zqd, zqe, zqf])
   refine tl 12 77 ?_ ?_ ?_; rotate_left; (focus (intro w h; go_simp; (try with_reducible rfl))); (try simp only [zqd, zqe, zqf])
   refine tl 13 78 ?_ ?_ ?_; rotate_left; (focus (intro w h; go_simp; (try with_reducible rfl))); (try simp only [zqd, zqe, zqf])
   refine tl 14 79 ?_ ?_ ?_; rotate_left; (focus (intro w hSw; go_simp; (try rw [kfs]); (try with_reducible rfl); done)); (try simp only [zqd, zqe, zqf])
   refine tl 15 80 ?_ ?_ ?_; rotate_left; (focus (intro w hSw; go_simp; (try rw [HMI.out]); trace_state; (try with_reducible rfl); done)); (try simp only [zqd, zqe, zqf])
   refine tw 16 81 ?_ ?_ ?_; rotate_left; (focus (intro w; go_simp; (try with_reducible rfl); done)); (try simp only [zqd, zqe, zqf])
   refine tl 17 82 ?_ ?_ ?_; rotate_left; (focus (intro w h; go_simp; (try with_reducible rfl))); (try simp only [zqd, zqe, zqf])
   refine exL_at (i := 18) (by simp only [zqa, zqb, zqc]; rfl) (by kernel_rfl) rfl (by kernel_rfl) (fun K hK => ?_)
   go_wp2_with fail
   refine hK.out _ _ ?_
   clear hK K
   try simp only [zqd, zqe, zqf]
   refine wpAnyL_done (by kernel_rfl) ?_ _
   clear hS0
   obtain ⟨x, hx⟩ : ∃ z, (wr.setCell ⟨Q, 3, none⟩ (.int .i64 (mx : Int))).drew.drew = z := ⟨_, rfl⟩
   have HEx : Hid (REnd x L Q G (ackL s hd)) := hide (by rw [← hx]; refine RMem.fin ?_ (ackL_ok HOk.out HNx.out); rw [HAL.out]; exact (HM0.out.1.setF mx).keep rfl (fun _ _ => rfl) fun _ _ _ => rfl)
   have HKx : Hid (KB [Q] w x) := hide (by rw [← hx]; exact (HM0.out.2.setCell (.inr (by simp)) _).drew.drew)
   rw [hx]
   clear hx HM0 HMI HMx HAL HX HDD HQd HR5 r1 r3 r5 z3 kfs hq1 hq2 hA5 hQr swr hfn hfn1 hmx1
   by_cases cn0 : n = 0
   ·subst cn0
    have HFin := hide (rhear_is (f := f) HEx.out HKx.out (by unfold hearL; rw [HQ.out]; dsimp only; rw [if_neg (by rw [HS.out.2.2.1]; simp), if_neg (by rw [HS.out.2.1]; omega), if_pos rfl]))
    go_wp2
    exact bodyPost_ret (v := .tuple #[.slice none 0 0, .int .i64 0]) (by simp [results, Try.results50, go_sem]) rfl HFin.out
   have cnI0 : ((n : Int) == 0) = false := by simp; omega
   obtain ⟨e1, e2, e3, e4, e5⟩ := ackL_eqs s hd
   have HAe := hide (show (ackL s hd).heard = s.heard ∧ (ackL s hd).ahead = s.ahead from ⟨e3, e5⟩)
   clear e1 e2 e3 e4 e5
   obtain ⟨A6, c6, B6, m6, d6, hx6, -, -, -, -⟩ := HEx.out.mem.row
   have hQx := lt_of_block hx6
   have x2 := cell_of_row _ _ 2 _ _ _ hx6
   have x4 := cell_of_row _ _ 4 _ _ _ hx6
   have z4 : x.frozen? ⟨Q, 4, none⟩ = false := frozen_of_row _ _ 4 _ _ hx6
   clear hx6
   obtain ⟨y, hy⟩ : ∃ z, x.setCell ⟨Q, 4, none⟩ (.bool true) = z := ⟨_, rfl⟩
   have HEy : Hid (REnd y L Q G { ackL s hd with owes := true }) := hide (by rw [← hy]; exact (HEx.out.mem.setO true).fin (setO_ok HEx.out.1 true))
   have HKy : Hid (KB [Q] w y) := hide (by rw [← hy]; exact HKx.out.setCell (.inr (by simp)) _)
   have y2 : y.cell? ⟨Q, 2, none⟩ = some (.int .i64 (hs0 : Int)) := by rw [← hy, World.cell?_setCell_other _ _ _ _ (by intro e; injection e with _ e; cases e), ← HS.out.2.2.2.1, ← HAe.out.1]; simpa using x2
   have HYe := hide hy
   clear hy x2 HEx HKx
   have kw6 : IntKind.i64.wrap ((hs0 : Int) + 64) = ((hs0 + 64 : Nat) : Int) := by rw [IntWalk.i64_in _ (by omega)]; omega
   obtain ⟨h64, hh64⟩ : ∃ z, hs0 + 64 = z := ⟨_, rfl⟩
   rw [hh64] at kw6
   have HN : Hid (hearL s f = (0, (tellL 65 (putL (ackL s hd) n b)).1, (tellL 65 (putL (ackL s hd) n b)).2)) := hide (hearL_ok (by rw [HQ.out, HS.out.2.2.1]) HNx.out cn0)
   go_upto_region 14 with fail
   rw [HYe.out]
   by_cases cr : n ≤ hs0
   ·have crI : (n : Int) ≤ (hs0 : Int) := by omega
    have HFin : Hid (RHearPost w L Q G s f (.returned (.tuple #[.slice none 0 0, .int .i64 0])) y) := hide (rhear_is HEy.out HKy.out (by rw [HN.out, putL_not (by rw [HAe.out.1, HS.out.2.2.2.1]; omega), tell_zero (by show (ackL s hd).ahead ((ackL s hd).heard + 1) = none; rw [HAe.out.1, HAe.out.2]; exact hn0)]))
    clear hh64 cr cn0
    go_wp2
    exact bodyPost_ret (v := .tuple #[.slice none 0 0, .int .i64 0]) (by simp [results, Try.results50, go_sem]) rfl HFin.out
   have crI : ¬ (n : Int) ≤ (hs0 : Int) := by omega
   by_cases cs : h64 < n
   ·have csI : (h64 : Int) < (n : Int) := by omega
    have HFin : Hid (RHearPost w L Q G s f (.returned (.tuple #[.slice none 0 0, .int .i64 0])) y) := hide (rhear_is HEy.out HKy.out (by rw [HN.out, putL_not (by rw [HAe.out.1, HS.out.2.2.2.1]; omega), tell_zero (by show (ackL s hd).ahead ((ackL s hd).heard + 1) = none; rw [HAe.out.1, HAe.out.2]; exact hn0)]))
    clear hh64 cr cs cn0
    go_wp2
    exact bodyPost_ret (v := .tuple #[.slice none 0 0, .int .i64 0]) (by simp [results, Try.results50, go_sem]) rfl HFin.out
   have csI : ¬ (h64 : Int) < (n : Int) := by omega
   have HAh := hide (rahead_any y HEy.out (Nat.le_trans hLw HKy.out.1) n b (by show (ackL s hd).heard < n; rw [HAe.out.1, HS.out.2.2.2.1]; omega) (by show n ≤ (ackL s hd).heard + 64; rw [HAe.out.1, HS.out.2.2.2.1]; omega) hb4)
   have HS0 : Hid (hearL s f = (0, (tellL 65 (putA { ackL s hd with owes := true } n b)).1, (tellL 65 (putA { ackL s hd with owes := true } n b)).2)) := hide (by rw [HN.out, putL_in (by rw [HAe.out.1, HS.out.2.2.2.1]; omega) (by rw [HAe.out.1, HS.out.2.2.2.1]; omega)])
   have HHd : Hid ((putA { ackL s hd with owes := true } n b).heard = s.heard) := hide (by rw [putA_heard]; exact HAe.out.1)
   obtain ⟨S0, hS0⟩ : ∃ z, putA { ackL s hd with owes := true } n b = z := ⟨_, rfl⟩
   rw [hS0] at HS0 HHd
   have HSe := hide hS0
   clear hh64 cr cs cn0 hS0 HN
   go_wp2_with fail
   refine HAh.out.mono ?_
   rintro e z ⟨rfl, hz1, hz2⟩
   rw [HSe.out] at hz1
   have HT0 := hide (RTell.start hz1 (HKy.out.trans hz2))
   clear hz1 hz2 HAh HEy HKy HYe y2 x4 z4 kw6 hQx
   go_wp2
   obtain ⟨wa, rfl⟩ : ∃ u : World, u = wr := ⟨_, rfl⟩
   go_loopw [11] (fun v11 wr => ∃ (j : Nat) (A : Option Addr) (c : Nat) (s1 : LE), v11 = .slice A j c ∧ Hid (RTell w wr L Q G S0 j (.slice A j c) s1)) (fun _ wr => lenAt wr Q 6)
   case atStart => exact ⟨0, none, 0, S0, rfl, HT0⟩
   case round =>
    obtain ⟨j, A8, c8, s1, rfl, HT⟩ := hrel
    obtain ⟨wr, rfl⟩ : ∃ u : World, u = wr := ⟨_, rfl⟩
    clear HT0
    obtain ⟨bs, t1, t2, t3, t4, t5, t6, t7, t8⟩ := HT.out
    obtain ⟨-, -, sv, av, xs, h4, h5, h6, h7⟩ := t2.mem
    obtain ⟨B, d7, rfl, g1, g2, g3⟩ := id h6
    obtain ⟨h1, hh1⟩ : ∃ u, s1.heard = u := ⟨_, rfl⟩
    have hh1b : h1 ≤ 1000000 := by have := t2.1.heard; omega
    have hh1c : h1 ≤ 900064 := by have := HHd.out; omega
    rw [hh1] at h4
    have HH1 := hide hh1
    have r2 := cell_of_row _ _ 2 _ _ _ h4
    have r6 := cell_of_row _ _ 6 _ _ _ h4
    have r2 : wr.cell? ⟨Q, 2, none⟩ = some (.int .i64 (h1 : Int)) := by simpa using r2
    have r6 : wr.cell? ⟨Q, 6, none⟩ = some (.slice B xs.length d7) := by simpa using r6
    have hQr := lt_of_block h4
    have swr : w.heap.size ≤ wr.heap.size := t8.1
    have kw : IntKind.i64.wrap ((h1 : Int) + 1) = ((h1 + 1 : Nat) : Int) := by rw [IntWalk.i64_in _ (by omega)]; omega
    obtain ⟨h1s, hh1s⟩ : ∃ u, h1 + 1 = u := ⟨_, rfl⟩
    rw [hh1s] at kw
    have HH1s := hide hh1s
    have H6 := hide h6
    have H7 := hide h7
    have z6 : wr.frozen? ⟨Q, 6, none⟩ = false := frozen_of_row _ _ 6 _ _ h4
    have z2 : wr.frozen? ⟨Q, 2, none⟩ = false := frozen_of_row _ _ 2 _ _ h4
    have HAl : Hid (∀ n b, s1.ahead n = some b → s1.heard < n) := hide (fun n b hb => (t2.1.ahead n b hb).2.1)
    have HTs := hide (And.intro t1 (And.intro t2 (And.intro t3 (And.intro t6 (And.intro t7 t8)))))
    have HT4 := hide t4
    have hj64 : j ≤ 64 := t5
    clear hh1 hh1s h4 h5 h6 h7 t1 t2 t3 t4 t6 t7 t8 g1 g2
    rcases xs with _ | ⟨y0, xs⟩
    ·have HNone : Hid (s1.ahead (s1.heard + 1) = none) := hide (H7.out.at_nil _)
     simp only [List.length_nil] at r6
     go_upto_region 18 with fail
     refine wp_region_held_drew (S := Kept wr) (by kernel_rfl) (Kept.drew wr) (fun hS0 => ?_)
     refine tk 0 107 ?_ ?_ ?_; rotate_left; (focus (intro w h; go_simp; (try with_reducible rfl))); (try simp only [zqd, zqe, zqf])
     refine tk 1 108 ?_ ?_ ?_; rotate_left; (focus (intro w h; go_simp; (try with_reducible rfl))); (try simp only [zqd, zqe, zqf])
     refine tk 2 109 ?_ ?_ ?_; rotate_left; (focus (intro w h; go_simp; (try with_reducible rfl))); (try simp only [zqd, zqe, zqf])
     refine tk 3 110 ?_ ?_ ?_; rotate_left; (focus (intro w h; go_simp; (try with_reducible rfl))); (try simp only [zqd, zqe, zqf])
     refine tk 4 111 ?_ ?_ ?_; rotate_left; (focus (intro w h; go_simp; (try with_reducible rfl))); (try simp only [zqd, zqe, zqf])
     refine tk 5 112 ?_ ?_ ?_; rotate_left; (focus (intro w h; go_simp; (try with_reducible rfl))); (try simp only [zqd, zqe, zqf])
     refine tk 6 113 ?_ ?_ ?_; rotate_left; (focus (intro w h; go_simp; (try with_reducible rfl))); (try simp only [zqd, zqe, zqf])
     refine sk 7 114 ?_; (try simp only [zqd, zqe, zqf])
     refine sk 8 115 ?_; (try simp only [zqd, zqe, zqf])
     refine sk 9 116 ?_; (try simp only [zqd, zqe, zqf])
     refine sk 10 117 ?_; (try simp only [zqd, zqe, zqf])
     refine sk 11 118 ?_; (try simp only [zqd, zqe, zqf])
     refine sk 12 119 ?_; (try simp only [zqd, zqe, zqf])
     refine sk 13 120 ?_; (try simp only [zqd, zqe, zqf])
     refine sk 14 121 ?_; (try simp only [zqd, zqe, zqf])
     refine sk 15 122 ?_; (try simp only [zqd, zqe, zqf])
     refine sk 16 123 ?_; (try simp only [zqd, zqe, zqf])
     refine sk 17 124 ?_; (try simp only [zqd, zqe, zqf])
     refine sk 18 125 ?_; (try simp only [zqd, zqe, zqf])
     refine sk 19 126 ?_; (try simp only [zqd, zqe, zqf])
     refine tk 20 127 ?_ ?_ ?_; rotate_left; (focus (intro w h; go_simp; (try with_reducible rfl))); (try simp only [zqd, zqe, zqf])
     refine wpAnyH_done (by kernel_rfl) ?_ _
     clear hS0
     have HFin : Hid (RHearPost w L Q G s f (.returned (.tuple #[.slice A8 j c8, .int .i64 0])) wr.drew) := hide (RTell.fin HT.out HNone.out (Below.refl _ _).drew HS0.out)
     go_wp2
     exact bodyPost_ret (v := .tuple #[.slice A8 j c8, .int .i64 0]) (by simp [results, Try.results50, go_sem]) rfl HFin.out
    obtain ⟨q, hq⟩ : ∃ u, (y0 :: xs).length = u := ⟨_, rfl⟩
    have hq1 : 1 ≤ q := by rw [← hq]; simp
    rw [hq] at r6
    have HQq := hide hq
    obtain ⟨g, off, hB, -, hgl, c0, c1⟩ := H6.out.at_ (i := 0) (x := y0) rfl
    subst hB
    have c0 : wr.cell? ⟨g, off, none⟩ = some (.int .i64 (y0.1 : Int)) := by simpa using c0
    have c1 : wr.cell? ⟨g, off + 1, none⟩ = some (.string ⟨y0.2.toArray⟩) := by simpa using c1
    obtain ⟨n0, hn0'⟩ : ∃ u, y0.1 = u := ⟨_, rfl⟩
    obtain ⟨b0, hb0⟩ : ∃ u, y0.2 = u := ⟨_, rfl⟩
    rw [hn0'] at c0
    rw [hb0] at c1
    have HY0 : Hid (y0 = (n0, b0)) := hide (by rw [← hn0', ← hb0])
    have k1 : decide (0 < q) = true := decide_eq_true hq1
    have kI2 : (0 : Int) < (q : Int) := by omega
    clear hq hn0' hb0
    by_cases cx : n0 = h1s
    rotate_left
    ·have cxI : ((n0 : Int) == (h1s : Int)) = false := by simp; omega
     have HNone : Hid (s1.ahead (s1.heard + 1) = none) := hide ((H7.out.first HAl.out).2 (by rw [HY0.out, HH1.out, HH1s.out]; exact cx))
     go_upto_region 18 with fail
     refine wp_region_held_drew (S := Kept wr) (by kernel_rfl) (Kept.drew wr) (fun hS0 => ?_)
     refine tk 0 107 ?_ ?_ ?_; rotate_left; (focus (intro w h; go_simp; (try with_reducible rfl))); (try simp only [zqd, zqe, zqf])
     refine tk 1 108 ?_ ?_ ?_; rotate_left; (focus (intro w h; go_simp; (try with_reducible rfl))); (try simp only [zqd, zqe, zqf])
     refine tk 2 109 ?_ ?_ ?_; rotate_left; (focus (intro w h; go_simp; (try with_reducible rfl))); (try simp only [zqd, zqe, zqf])
     refine tk 3 110 ?_ ?_ ?_; rotate_left; (focus (intro w h; go_simp; (try with_reducible rfl))); (try simp only [zqd, zqe, zqf])
     refine tk 4 111 ?_ ?_ ?_; rotate_left; (focus (intro w h; go_simp; (try with_reducible rfl))); (try simp only [zqd, zqe, zqf])
     refine tk 5 112 ?_ ?_ ?_; rotate_left; (focus (intro w hSw; go_simp; (try rw [k1]); (try with_reducible rfl); done)); (try simp only [zqd, zqe, zqf])
     refine tk 6 113 ?_ ?_ ?_; rotate_left; (focus (intro w h; go_simp; (try with_reducible rfl))); (try simp only [zqd, zqe, zqf])
     refine tk 7 114 ?_ ?_ ?_; rotate_left; (focus (intro w h; go_simp; (try with_reducible rfl))); (try simp only [zqd, zqe, zqf])
     refine tk 8 115 ?_ ?_ ?_; rotate_left; (focus (intro w h; go_simp; (try with_reducible rfl))); (try simp only [zqd, zqe, zqf])
     refine tk 9 116 ?_ ?_ ?_; rotate_left; (focus (intro w h; go_simp; (try with_reducible rfl))); (try simp only [zqd, zqe, zqf])
     refine tk 10 117 ?_ ?_ ?_; rotate_left; (focus (intro w h; go_simp; (try with_reducible rfl))); (try simp only [zqd, zqe, zqf])
     refine tk 11 118 ?_ ?_ ?_; rotate_left; (focus (intro w h; go_simp; (try with_reducible rfl))); (try simp only [zqd, zqe, zqf])
     refine tk 12 119 ?_ ?_ ?_; rotate_left; (focus (intro w h; go_simp; (try with_reducible rfl))); (try simp only [zqd, zqe, zqf])
     refine tk 13 120 ?_ ?_ ?_; rotate_left; (focus (intro w h; go_simp; (try with_reducible rfl))); (try simp only [zqd, zqe, zqf])
     refine tk 14 121 ?_ ?_ ?_; rotate_left; (focus (intro w h; go_simp; (try with_reducible rfl))); (try simp only [zqd, zqe, zqf])
     refine tk 15 122 ?_ ?_ ?_; rotate_left; (focus (intro w h; go_simp; (try with_reducible rfl))); (try simp only [zqd, zqe, zqf])
     refine tk 16 123 ?_ ?_ ?_; rotate_left; (focus (intro w h; go_simp; (try with_reducible rfl))); (try simp only [zqd, zqe, zqf])
     refine tk 17 124 ?_ ?_ ?_; rotate_left; (focus (intro w h; go_simp; (try with_reducible rfl))); (try simp only [zqd, zqe, zqf])
     refine tk 18 125 ?_ ?_ ?_; rotate_left; (focus (intro w h; go_simp; (try with_reducible rfl))); (try simp only [zqd, zqe, zqf])
     refine tk 19 126 ?_ ?_ ?_; rotate_left; (focus (intro w h; go_simp; (try with_reducible rfl))); (try simp only [zqd, zqe, zqf])
     refine tk 20 127 ?_ ?_ ?_; rotate_left; (focus (intro w h; go_simp; (try with_reducible rfl))); (try simp only [zqd, zqe, zqf])
     refine wpAnyH_done (by kernel_rfl) ?_ _
     clear hS0
     have HFin : Hid (RHearPost w L Q G s f (.returned (.tuple #[.slice A8 j c8, .int .i64 0])) wr.drew) := hide (RTell.fin HT.out HNone.out (Below.refl _ _).drew HS0.out)
     go_wp2
     exact bodyPost_ret (v := .tuple #[.slice A8 j c8, .int .i64 0]) (by simp [results, Try.results50, go_sem]) rfl HFin.out
    subst cx
    have cxI : ((n0 : Int) == (n0 : Int)) = true := by simp
    go_upto_region 18 with fail
    refine wp_region_held_drew (S := Kept wr) (by kernel_rfl) (Kept.drew wr) (fun hS0 => ?_)
    refine tk 0 107 ?_ ?_ ?_; rotate_left; (focus (intro w h; go_simp; (try with_reducible rfl))); (try simp only [zqd, zqe, zqf])
    refine tk 1 108 ?_ ?_ ?_; rotate_left; (focus (intro w h; go_simp; (try with_reducible rfl))); (try simp only [zqd, zqe, zqf])
    refine tk 2 109 ?_ ?_ ?_; rotate_left; (focus (intro w h; go_simp; (try with_reducible rfl))); (try simp only [zqd, zqe, zqf])
    refine tk 3 110 ?_ ?_ ?_; rotate_left; (focus (intro w h; go_simp; (try with_reducible rfl))); (try simp only [zqd, zqe, zqf])
    refine tk 4 111 ?_ ?_ ?_; rotate_left; (focus (intro w h; go_simp; (try with_reducible rfl))); (try simp only [zqd, zqe, zqf])
    refine tk 5 112 ?_ ?_ ?_; rotate_left; (focus (intro w hSw; go_simp; (try rw [k1]); (try with_reducible rfl); done)); (try simp only [zqd, zqe, zqf])
    refine tk 6 113 ?_ ?_ ?_; rotate_left; (focus (intro w h; go_simp; (try with_reducible rfl))); (try simp only [zqd, zqe, zqf])
    refine tk 7 114 ?_ ?_ ?_; rotate_left; (focus (intro w h; go_simp; (try with_reducible rfl))); (try simp only [zqd, zqe, zqf])
    refine tk 8 115 ?_ ?_ ?_; rotate_left; (focus (intro w h; go_simp; (try with_reducible rfl))); (try simp only [zqd, zqe, zqf])
    refine tk 9 116 ?_ ?_ ?_; rotate_left; (focus (intro w h; go_simp; (try with_reducible rfl))); (try simp only [zqd, zqe, zqf])
    refine tk 10 117 ?_ ?_ ?_; rotate_left; (focus (intro w h; go_simp; (try with_reducible rfl))); (try simp only [zqd, zqe, zqf])
    refine tk 11 118 ?_ ?_ ?_; rotate_left; (focus (intro w h; go_simp; (try with_reducible rfl))); (try simp only [zqd, zqe, zqf])
    refine tk 12 119 ?_ ?_ ?_; rotate_left; (focus (intro w h; go_simp; (try with_reducible rfl))); (try simp only [zqd, zqe, zqf])
    refine tk 13 120 ?_ ?_ ?_; rotate_left; (focus (intro w h; go_simp; (try with_reducible rfl))); (try simp only [zqd, zqe, zqf])
    refine tk 14 121 ?_ ?_ ?_; rotate_left; (focus (intro w h; go_simp; (try with_reducible rfl))); (try simp only [zqd, zqe, zqf])
    refine tk 15 122 ?_ ?_ ?_; rotate_left; (focus (intro w h; go_simp; (try with_reducible rfl))); (try simp only [zqd, zqe, zqf])
    refine tk 16 123 ?_ ?_ ?_; rotate_left; (focus (intro w h; go_simp; (try with_reducible rfl))); (try simp only [zqd, zqe, zqf])
    refine tk 17 124 ?_ ?_ ?_; rotate_left; (focus (intro w h; go_simp; (try with_reducible rfl))); (try simp only [zqd, zqe, zqf])
    refine tk 18 125 ?_ ?_ ?_; rotate_left; (focus (intro w h; go_simp; (try with_reducible rfl))); (try simp only [zqd, zqe, zqf])
    refine tk 19 126 ?_ ?_ ?_; rotate_left; (focus (intro w h; go_simp; (try with_reducible rfl))); (try simp only [zqd, zqe, zqf])
    refine tk 20 127 ?_ ?_ ?_; rotate_left; (focus (intro w h; go_simp; (try with_reducible rfl))); (try simp only [zqd, zqe, zqf])
    refine wpAnyH_done (by kernel_rfl) ?_ _
    clear hS0
    obtain ⟨wd, hwd⟩ : ∃ u, wr.drew = u := ⟨_, rfl⟩
    rw [hwd]
    have HBd : Hid (Below wr.heap.size wr wd) := hide (by rw [← hwd]; exact (Below.refl _ _).drew)
    have HOd : Hid (wd.ownsRow w.heap.size 9 1 (.slice A8 j c8) j (strs bs)) := hide (by have h9 := HT4.out; obtain ⟨A9, c9, e9, h9⟩ := h9; injection e9 with q1 q2 q3; subst q1 q2 q3; rw [← hwd]; exact h9)
    have c1d : wd.cell? ⟨g, off + 1, none⟩ = some (.string ⟨b0.toArray⟩) := (HBd.out.cell (p := ⟨g, off + 1, none⟩) hgl).trans c1
    have r6d : wd.cell? ⟨Q, 6, none⟩ = some (.slice (some ⟨g, off, none⟩) q d7) := (HBd.out.cell (p := ⟨Q, 6, none⟩) hQr).trans r6
    clear c1
    go_upto_region 20 with (at_builtin; refine wpList_app rfl (.tmp 128) (.tmp 136) 48 rfl w.heap.size 9 i3 (.string ⟨#[]⟩) 1 16 Try.underlying48 a3i a3z a3s a3b rfl (by decide) (.slice A8 j c8) j (strs bs) rfl (HOd.out.alloc _) (wd.heap.size + 1) (some ⟨wd.heap.size, 0, none⟩) 1 1 [.string ⟨b0.toArray⟩] rfl rfl (Rd.new _ _ _ _) (by simp [Value.oneCell']) (by unfold maxLen; omega) (by omega) (by have := HBd.out.size; simp; omega) ?_; intro A9 c9 x2 own9 hg9 hat9)
    have HBx : Hid (Below wr.heap.size wr (wd.alloc (.cells #[.string ⟨b0.toArray⟩] 9))) := hide (HBd.out.alloc HBd.out.size _)
    have hQx2 : ∀ (i : Nat), x2.cell? ⟨Q, i, none⟩ = wr.cell? ⟨Q, i, none⟩ ∧ x2.frozen? ⟨Q, i, none⟩ = wr.frozen? ⟨Q, i, none⟩ := fun i => by have hb9 : x2.heap[Q]? = wr.heap[Q]? := (hg9.block Q (Nat.lt_of_lt_of_le hQr HBx.out.size) (fun e => by have := (HOd.out.lt Q e.symm).1; omega)).trans (HBx.out.block Q hQr); exact ⟨World.cell?_of_block hb9, World.frozen?_of_block hb9⟩
    have x6 := (hQx2 6).1.trans r6
    have x6f := (hQx2 6).2.trans z6
    have x2c := (hQx2 2).1.trans r2
    have x2f := (hQx2 2).2.trans z2
    have hstep := RTell.step (w := w) (x := wr) (x2 := x2) (B' := if d7 = 1 then some ⟨g, off, none⟩ else some ⟨g, off + 2, none⟩) hQ hGl HTs.out.1 HTs.out.2.1 HTs.out.2.2.1 (by have h9 := HT4.out; obtain ⟨A7, c7, e7, h9⟩ := h9; injection e7 with q1 q2 q3; subst q1 q3; rw [← q2] at h9; exact h9) hj64 HTs.out.2.2.2.1 HTs.out.2.2.2.2.1 HTs.out.2.2.2.2.2 r6 (by have h9 := H6.out; rw [HQq.out] at h9; exact h9) H7.out (b := b0) (by rw [HY0.out, HH1.out, HH1s.out]) (by rw [HH1.out]; omega) HBx.out hg9 own9 (fun h g9 off9 e => by injection e with e; injection e with e1 e2; subst e1 e2; rw [if_neg (by omega)])
    obtain ⟨hj63, HSt9⟩ := hstep
    rw [HH1.out, HH1s.out] at HSt9
    have HFin := hide HSt9
    have HX6 := hide x6
    have HR6 := hide r6
    have kq1 : (1 : Int) ≤ (q : Int) := by omega
    have hd7 : 1 ≤ d7 := by obtain ⟨A7, c7, e7, h9, _⟩ := H6.out; injection e7 with q1 q2 q3; have := HQq.out; omega
    have kq2 : (1 : Int) ≤ (d7 : Int) := by omega
    clear HSt9 own9 hg9 hat9 hQx2 r2 r6 z2 z6
    go_wp2
    all_goals go_roundw
    case rel => exact ⟨j + 1, A9, c9, _, rfl, HFin⟩
    case measure => rw [lenAt_is HR6.out, lenAt_set2 (by decide) HX6.out]; omega
end Go.Proofs.Ytigmmikijjcdiaa
namespace Go.Proofs.Ytigmmikijjcdiaa
open Go.RowKit
def RdT (w : World) (A : Option Addr) (f : BL) : Prop := f ≠ [] → ∃ b off cur, A = some ⟨b, off, none⟩ ∧ w.heap[b]? = some (.cells cur 5 (0, 0)) ∧ ∀ j u, (u8s f)[j]? = some u → cur[off + j]? = some u
theorem RdT.rd {w : World} {A : Option Addr} {f : BL} (h : RdT w A f) : Rd w w.heap.size A (u8s f) := fun hn => by
 obtain ⟨b, off, cur, h1, h2, h3⟩ := h (by rintro rfl; exact hn rfl)
 exact ⟨b, off, h1, lt_of_block h2, fun j u hu => (cell_of_row _ _ _ _ _ _ h2).trans (h3 j u hu)⟩
theorem RdT.keep {w w' : World} {A : Option Addr} {f : BL} (h : RdT w A f) (hk : ∀ (g : Nat) (cur : Array Value), w.heap[g]? = some (.cells cur 5 (0, 0)) → w'.heap[g]? = w.heap[g]?) : RdT w' A f := fun hn => by
 obtain ⟨b, off, cur, h1, h2, h3⟩ := h hn
 exact ⟨b, off, cur, h1, (hk b cur h2).trans h2, h3⟩
theorem RdT.conv {w : World} {A : Option Addr} {f : BL} {n c : Nat} (h : RdT w A f) (hn : f.length = n) : (convert 23 9 (.slice A n c)).run Try.prog w = .ok (.string ⟨f.toArray⟩) w := by
 subst hn
 exact run_string_of w 23 9 5 A c _ f Try.underlying23 Try.underlying5 Try.underlying9 h.rd
end Go.Proofs.Ytigmmikijjcdiaa
namespace Go.Proofs.Ytigmmikijjcdiaa
open Go.RowKit
theorem KB.more {X Y : List Nat} {v w : World} (h : KB X v w) (hx : ∀ g ∈ X, g ∈ Y) : KB Y v w := ⟨h.1, fun b hb hn => h.2 b hb (fun hm => hn (hx b hm)), h.3⟩
theorem KB.toBelow {X : List Nat} {L : Nat} {w w' : World} (h : KB X w w') (hX : ∀ x ∈ X, L ≤ x) (hL : L ≤ w.heap.size) : Below L w w' := ⟨h.3.1, h.3.2.1, h.3.2.2, h.1, fun g hg => h.2 g (by omega) (fun hm => by have := hX g hm; omega)⟩
theorem Spoilt.toBelow {X : Nat → Prop} {L : Nat} {w w' : World} (h : Spoilt X w w') (hX : ∀ x, X x → L ≤ x) (hL : L ≤ w.heap.size) : Below L w w' := ⟨h.env.1, h.env.2.1, h.env.2.2, h.size, fun g hg => h.blk g (by omega) (fun hm => by have := hX g hm; omega)⟩
section
variable {w y : World} {P M L Q k : Nat} {G G' : Option Nat} {own : Nat → Option (Bool × Nat)} {s t : LE} {X : List Nat}
theorem REnd.notR (h : REnd w L Q G' s) (hX : ∀ x ∈ X, x = Q ∨ G' = some x) : ∀ x ∈ X, ∃ cur T, w.heap[x]? = some (.cells cur T (0, 0)) ∧ (T = 78 ∨ T = 9) := fun x hx => by
 obtain ⟨h1, h2, h3, sv, av, xs, h4, h5, h6, h7⟩ := h
 rcases hX x hx with rfl | e
 ·exact ⟨_, _, h4, .inl rfl⟩
 ·obtain ⟨cur, hc⟩ := h5.blk x e
  exact ⟨_, _, hc, .inr rfl⟩
theorem EndM.keepR (h : EndM w P M G own k s) (hk : KB X w y) (hX : ∀ x ∈ X, x = P ∨ x = M ∨ G = some x) (hr : REnd w L Q G' t) : REnd y L Q G' t := hr.keep fun g cur T hc hT => hk.2 g (lt_of_block hc) fun hm => by
 have e := h.not8 hX g hm cur T hc
 rcases hT with rfl | rfl | rfl <;> revert e <;> decide
theorem REnd.keepB (hr : REnd w L Q G' t) (hk : KB X w y) (hX : ∀ x ∈ X, x = Q ∨ G' = some x) {g : Nat} {cur : Array Value} {T : TypeId} (hc : w.heap[g]? = some (.cells cur T (0, 0))) (h1 : T ≠ 78) (h2 : T ≠ 9) : y.heap[g]? = w.heap[g]? := hk.2 g (lt_of_block hc) fun hm => by
 obtain ⟨cur', T', hc', e⟩ := hr.notR hX g hm
 rcases e with rfl | rfl
 ·exact row_ne hc hc' h1 rfl
 ·exact row_ne hc hc' h2 rfl
theorem REnd.keepE (hr : REnd w L Q G' t) (hk : KB X w y) (hX : ∀ x ∈ X, x = Q ∨ G' = some x) (h : EndM w P M G own k s) : EndM y P M G own k s := by
 obtain ⟨_, _, _, _, _, _, p1, r1, _, ⟨⟨es1, cl1, m1, _⟩, _⟩, _⟩ := id h
 refine h.keepT hk.1 fun g hl hc => ?_
 rcases hc with rfl | rfl | hc | ⟨cur, hc⟩
 ·exact hr.keepB hk hX p1 (by decide) (by decide)
 ·exact hk.2 g hl fun hm => by
   obtain ⟨cur', T', hc', e⟩ := hr.notR hX g hm
   rw [hc'] at m1
   cases m1
 ·obtain ⟨cur, h⟩ := r1.blk g hc
  exact hr.keepB hk hX h (by decide) (by decide)
 ·exact hr.keepB hk hX hc (by decide) (by decide)
end
theorem BRows.keepT {B : Nat} {w w' : World} {own : Nat → Option (Bool × Nat)} {tg : Nat → Bool × Nat} {v : Value} {fs : List BL} (h : BRows B w own tg v fs) (hk : ∀ (g : Nat) (cur : Array Value) (T : TypeId), w.heap[g]? = some (.cells cur T (0, 0)) → (T = 23 ∨ T = 5) → w'.heap[g]? = w.heap[g]?) : BRows B w' own tg v fs := by
 obtain ⟨A, c, vs, h1, h2, h3, h4⟩ := h
 exact ⟨A, c, vs, h1, own_same h2 fun g hg => by obtain ⟨cur, hc⟩ := own_type h2 g hg; exact hk g cur _ hc (.inl rfl), fun i u b hu hb => (h3 i u b hu hb).keep fun g cur hg hc => ⟨hk g cur _ hc (.inr rfl), hg⟩, h4⟩
theorem BRows.next {B : Nat} {w w' : World} {own : Nat → Option (Bool × Nat)} {tg : Nat → Bool × Nat} {v : Value} {fs : List BL} (h : BRows B w own tg v fs) (hb : Below w.heap.size w w') : BRows B w' own tg v fs := h.keepT fun g cur T hc _ => hb.block g (lt_of_block hc)
theorem StrO.next {B : Nat} {w w' : World} {v : Value} {l : List BL} (h : StrO B w v l) (hb : Below w.heap.size w w') : StrO B w' v l := by
 obtain ⟨A, c, h1, h2⟩ := h
 exact ⟨A, c, h1, own_below h2 hb (fun g hg => (h2.lt g hg).2)⟩
theorem EndM.spoil {w w' : World} {P M n : Nat} {G : Option Nat} {own own2 : Nat → Option (Bool × Nat)} {tg : Nat → Bool × Nat} {k : Nat} {s : LE} (h : EndM w P M G own k s) (hs : Spoilt (RowX w own2 tg n) w w')
  (hno : ∀ g, RowX w own2 tg n g → ∀ t, own g = some t → (∀ i, i < s.sent.length → t ≠ (true, s.first + i)) ∧ ∀ m, s.ahead m ≠ none → t ≠ (false, m)) : EndM w' P M G own k s := by
 obtain ⟨h0, h1, sv, vs, f, D, h2, h3, ⟨h4, h5⟩, ⟨h6, h7⟩, h8, h9⟩ := h
 have hB : ∀ tg' v b, (∀ g, RowX w own2 tg n g → own g ≠ some tg') → ByV w own tg' v b → ByV w' own tg' v b := fun tg' v b hn hb => hb.keep fun g cur hg hc => ⟨hs.blk g (lt_of_block hc) (fun hx => hn g hx hg), hg⟩
 refine ⟨h0, fun g hg => Nat.lt_of_lt_of_le (h1 g hg) hs.size, sv, vs, f, D, (hs.other h2 (by decide)).trans h2, h3.keep fun g hg hl => ?_, ⟨h4, fun i v b hv hb => hB _ _ _ (fun g hx e => ?_) (h5 i v b hv hb)⟩, ⟨map_keep h6 ?_, h7⟩, h8, fun m v b hv hb => hB _ _ _ (fun g hx e => ?_) (h9 m v b hv hb)⟩
 ·obtain ⟨cur, hc⟩ := h3.blk g hg
  exact hs.other hc (by decide)
 ·exact (hno g hx _ e).1 i (List.getElem?_eq_some_iff.1 hb).1 rfl
 ·obtain ⟨es, cl, hm, _⟩ := h6
  exact hs.blk M (lt_of_block hm) fun ⟨⟨c, hc⟩, _⟩ => by rw [hm] at hc; cases hc
 ·exact (hno g hx _ e).2 m (by rw [hb]; simp) rfl
theorem REnd.spoil {w w' : World} {L Q n : Nat} {G : Option Nat} {own2 : Nat → Option (Bool × Nat)} {tg : Nat → Bool × Nat} {s : LE} (h : REnd w L Q G s) (hs : Spoilt (RowX w own2 tg n) w w') : REnd w' L Q G s := h.keep fun g cur T hc hT => hs.other hc (by rcases hT with rfl | rfl | rfl <;> decide)
theorem tell_nums : ∀ (k : Nat) (s : LE), (tellL k s).2.heard = s.heard + (tellL k s).1.length ∧ (tellL k s).1.length ≤ k ∧ (tellL k s).2.next = s.next ∧ ∀ b ∈ (tellL k s).1, ∃ n, s.ahead n = some b
 | 0, s => ⟨rfl, by simp [tellL], rfl, by simp [tellL]⟩
 | k + 1, s => by
  rcases hb : s.ahead (s.heard + 1) with _ | b
  ·have e : tellL (k + 1) s = ([], s) := by rw [tellL, hb]
   rw [e]
   exact ⟨rfl, by simp, rfl, by simp⟩
  ·have e : tellL (k + 1) s = (b :: (tellL k { s with heard := s.heard + 1, ahead := fun n => if n = s.heard + 1 then none else s.ahead n }).1, (tellL k { s with heard := s.heard + 1, ahead := fun n => if n = s.heard + 1 then none else s.ahead n }).2) := by rw [tellL, hb]
   obtain ⟨h1, h2, h3, h4⟩ := tell_nums k { s with heard := s.heard + 1, ahead := fun n => if n = s.heard + 1 then none else s.ahead n }
   rw [e]
   refine ⟨by rw [h1]; simp; omega, by simp; omega, h3, fun c hc => ?_⟩
   rcases List.mem_cons.1 hc with rfl | hc
   ·exact ⟨_, hb⟩
   ·obtain ⟨n, hn⟩ := h4 c hc
    dsimp only at hn
    split at hn
    ·cases hn
    ·exact ⟨n, hn⟩
theorem putL_eqn (s : LE) (n : Nat) (b : BL) : (putL s n b).next = s.next ∧ (putL s n b).heard = s.heard ∧ ∀ m c, (putL s n b).ahead m = some c → c = b ∨ s.ahead m = some c := by
 unfold putL
 split
 ·refine ⟨rfl, rfl, fun m c hc => ?_⟩
  dsimp only at hc
  split at hc
  ·injection hc with hc; exact .inl hc.symm
  ·exact .inr hc
 ·exact ⟨rfl, rfl, fun m c hc => .inr hc⟩
theorem hear_nums {s : LE} {f : BL} (hok : LEok s) (h0 : s.ahead (s.heard + 1) = none) : (hearL s f).2.2.heard = s.heard + (hearL s f).2.1.length ∧ (hearL s f).2.1.length ≤ 65 ∧ (hearL s f).2.2.next = s.next ∧ (∀ b ∈ (hearL s f).2.1, b.length ≤ 1048576) ∧ (hearL s f).2.2.ahead ((hearL s f).2.2.heard + 1) = none := by
 unfold hearL
 rcases hq : readL f with _ | ⟨ep, h, n, b⟩
 ·exact ⟨rfl, by simp, rfl, by simp, h0⟩
 dsimp only
 obtain ⟨e1, e2, e3, e4, e5⟩ := ackL_eqs s h
 split
 ·exact ⟨rfl, by simp, rfl, by simp, h0⟩
 split
 ·exact ⟨rfl, by simp, rfl, by simp, h0⟩
 split
 ·exact ⟨by simp [e3], by simp, e2, by simp, by dsimp only; rw [e5, e3]; exact h0⟩
 ·obtain ⟨p1, p2, p3⟩ := putL_eqn (ackL s h) n b
  obtain ⟨t1, t2, t3, t4⟩ := tell_nums 65 (putL (ackL s h) n b)
  have hb4 := (readL_bd hq).2.2.2
  refine ⟨by dsimp only; rw [t1, p2, e3], t2, by dsimp only; rw [t3, p1, e2], fun c hc => ?_, tell_none 65 _ fun m c hc => ?_⟩
  ·obtain ⟨m, hm⟩ := t4 c hc
   rcases p3 m c hm with rfl | hm
   ·exact hb4
   ·rw [e5] at hm
    exact (hok.ahead m c hm).1
  ·rw [p2, e3]
   have hc' := hc
   unfold putL at hc'
   split at hc'
   ·rename_i hp
    rw [e3] at hp
    dsimp only at hc'
    split at hc'
    ·rename_i hm; subst hm; omega
    ·rw [e5] at hc'
     have := (hok.ahead m c hc').2
     omega
   ·dsimp only at hc'
    rw [e5] at hc'
    have := (hok.ahead m c hc').2
    omega
def PairSt (L P Q i : Nat) (w : World) (s : LE) : Prop := ∃ M G own k G', k ≤ i ∧ EndM w P M G own k s ∧ REnd w L Q G' s ∧ L ≤ P ∧ L ≤ M ∧ (∀ g, G = some g → L ≤ g) ∧ (∀ g, own g ≠ none → L ≤ g) ∧ L ≤ w.heap.size
def PairN (i : Nat) (s : LE) : Prop := s.ahead (s.heard + 1) = none ∧ s.next ≤ i + 1 ∧ s.heard ≤ 65 * i
theorem PairSt.next {L P Q i : Nat} {w w' : World} {s : LE} (h : PairSt L P Q i w s) (hb : Below w.heap.size w w') : PairSt L P Q i w' s := by
 obtain ⟨M, G, own, k, G', h1, h2, h3, h4, h5, h6, h7, h8⟩ := h
 exact ⟨M, G, own, k, G', h1, h2.next hb, h3.next hb, h4, h5, h6, h7, Nat.le_trans h8 hb.size⟩
theorem PairN.hear {i : Nat} {s : LE} {f : BL} (h : PairN i s) (hok : LEok s) : PairN (i + 1) (hearL s f).2.2 := by
 obtain ⟨h1, h2, h3⟩ := h
 obtain ⟨e1, e2, e3, e4, e5⟩ := hear_nums (f := f) hok h1
 exact ⟨e5, by rw [e3]; omega, by rw [e1]; omega⟩
theorem PairN.from {i n : Nat} {s : LE} {ack : Bool} (h : PairN i s) : PairN (i + 1) (fromL s n ack).2 := by
 obtain ⟨h1, h2, h3⟩ := h
 exact ⟨h1, by show s.next ≤ _; omega, by show s.heard ≤ _; omega⟩
theorem PairN.send {i : Nat} {s : LE} {b : BL} (h : PairN i s) : PairN (i + 1) (sendL s b).2 := by
 obtain ⟨h1, h2, h3⟩ := h
 unfold sendL
 split
 ·exact ⟨h1, by dsimp only; omega, by dsimp only; omega⟩
 split
 ·exact ⟨h1, by dsimp only; omega, by dsimp only; omega⟩
 ·exact ⟨h1, by dsimp only; omega, by dsimp only; omega⟩
theorem from_lens {s : LE} {n : Nat} {ack : Bool} (hok : LEok s) (hn : s.first ≤ n) : (fromL s n ack).1.length ≤ 1000000 ∧ ∀ f ∈ (fromL s n ack).1, f.length ≤ 100000000 := by
 have hx := hok.next
 have hs : ∀ j, (s.sent.getD j []).length ≤ 1048576 := fun j => by
  rw [List.getD_eq_getElem?_getD]
  cases hj : s.sent[j]? with
  | none => simp
  | some b => exact hok.bytes b (List.mem_of_getElem? hj)
 unfold fromL framesL
 dsimp only
 split
 ·refine ⟨by simp, fun f hf => ?_⟩
  simp at hf
  subst hf
  rw [fr_len]
  simp
 ·refine ⟨by rw [List.length_map, List.length_range']; omega, fun f hf => ?_⟩
  obtain ⟨j, _, rfl⟩ := List.mem_map.1 hf
  rw [fr_len]
  have := hs (j - s.first)
  simp only [List.length_cons, List.length_nil]
  omega
end Go.Proofs.Ytigmmikijjcdiaa
namespace Go.Proofs.Ytigmmikijjcdiaa
open Go.RowKit
def RdC (w : World) (A : Option Addr) (f : BL) : Prop := f ≠ [] → ∃ (b : Nat) (cur : Array Value) (fr : Nat × Nat), A = some ⟨b, 0, none⟩ ∧ w.heap[b]? = some (Obj.cells cur 5 fr) ∧ fr ≠ (0, 0) ∧ ∀ (j : Nat) (u : Value), (u8s f)[j]? = some u → cur[j]? = some u
theorem RdC.rd {w : World} {A : Option Addr} {f : BL} (h : RdC w A f) : Rd w w.heap.size A (u8s f) := fun hn => by
 obtain ⟨b, cur, fr, h1, h2, h3, h4⟩ := h (by rintro rfl; exact hn rfl)
 exact ⟨b, 0, h1, lt_of_block h2, fun j u hu => (cell_of_row _ _ _ _ _ _ h2).trans (by rw [Nat.zero_add]; exact h4 j u hu)⟩
theorem RdC.keep {w w' : World} {A : Option Addr} {f : BL} (h : RdC w A f) (hk : ∀ (g : Nat) (cur : Array Value) (fr : Nat × Nat), w.heap[g]? = some (Obj.cells cur 5 fr) → fr ≠ (0, 0) → w'.heap[g]? = w.heap[g]?) : RdC w' A f := fun hn => by
 obtain ⟨b, cur, fr, h1, h2, h3, h4⟩ := h hn
 exact ⟨b, cur, fr, h1, (hk b cur fr h2 h3).trans h2, h3, h4⟩
theorem RdC.next {w w' : World} {A : Option Addr} {f : BL} (h : RdC w A f) (hb : Below w.heap.size w w') : RdC w' A f := h.keep fun g cur fr hc _ => hb.block g (lt_of_block hc)
theorem RdC.conv {w : World} {A : Option Addr} {f : BL} {n c : Nat} (h : RdC w A f) (hn : f.length = n) : (convert 23 9 (.slice A n c)).run Try.prog w = .ok (.string ⟨f.toArray⟩) w := by
 subst hn
 exact run_string_of w 23 9 5 A c _ f Try.underlying23 Try.underlying5 Try.underlying9 h.rd
theorem RdC.new (w : World) (f : BL) : RdC (bytesWorld w 5 f) (some ⟨w.heap.size, 0, none⟩) f := fun hn => by
 refine ⟨w.heap.size, _, _, rfl, (by unfold bytesWorld; exact heap_alloc_last w _), by simp, fun j u hu => ?_⟩
 obtain ⟨b, off, e1, e2, e3⟩ := bytesWorld_rd w 5 f (by unfold u8s; simpa using hn)
 injection e1 with e1
 injection e1 with e1 e4
 subst e1 e4
 have h9 := e3 j u hu
 rw [Nat.zero_add] at h9
 have h8 := (cell_of_row (bytesWorld w 5 f) w.heap.size j _ _ _ (by unfold bytesWorld; exact heap_alloc_last w _)).symm.trans h9
 exact h8
theorem EndM.keepF {w y : World} {P M k : Nat} {G : Option Nat} {own : Nat → Option (Bool × Nat)} {s : LE} {X : List Nat} {A : Option Addr} {f : BL} (h : EndM w P M G own k s) (hk : KB X w y) (hX : ∀ x ∈ X, x = P ∨ x = M ∨ G = some x) (hf : RdC w A f) : RdC y A f := hf.keep fun g cur fr hc hne => hk.2 g (lt_of_block hc) fun hm => by
 obtain ⟨_, _, _, _, _, _, p1, r1, _, ⟨⟨es1, cl1, m1, _⟩, _⟩, _⟩ := h
 rcases hX g hm with rfl | rfl | e
 ·exact row_ne hc p1 (by decide) rfl
 ·rw [hc] at m1; cases m1
 ·obtain ⟨cur', h⟩ := r1.blk g e
  exact row_ne hc h (by decide) rfl
theorem REnd.keepF {w y : World} {L Q : Nat} {G' : Option Nat} {t : LE} {X : List Nat} {A : Option Addr} {f : BL} (hr : REnd w L Q G' t) (hk : KB X w y) (hX : ∀ x ∈ X, x = Q ∨ G' = some x) (hf : RdC w A f) : RdC y A f := hf.keep fun g cur fr hc hne => hk.2 g (lt_of_block hc) fun hm => by
 obtain ⟨cur', T', hc', e⟩ := hr.notR hX g hm
 rcases e with rfl | rfl
 ·exact row_ne hc hc' (by decide) rfl
 ·exact row_ne hc hc' (by decide) rfl
theorem RdC.spoil {w y : World} {n : Nat} {own : Nat → Option (Bool × Nat)} {tg : Nat → Bool × Nat} {A : Option Addr} {f : BL} (hf : RdC w A f) (hs : Spoilt (RowX w own tg n) w y) : RdC y A f := hf.keep fun g cur fr hc hne => hs.blk g (lt_of_block hc) fun ⟨⟨c, hc'⟩, _⟩ => by
 rw [hc] at hc'
 injection hc' with hc'
 injection hc' with _ _ hc'
 exact hne hc'
def ofV (f : BL) : Int × Bool := match readL f with | none => (0, false) | some (ep, _, _, _) => ((ep : Int), true)
theorem of_is {w w' : World} {f : BL} {e : Ending} (h : OfPost w f e w') : e = .returned (.tuple #[.int .i64 (ofV f).1, .bool (ofV f).2]) ∧ Below w.heap.size w w' := by
 obtain ⟨h1, h2⟩ := h
 refine ⟨?_, h1⟩
 rw [h2]
 unfold ofV
 rcases readL f with _ | ⟨ep, h, n, b⟩ <;> rfl
theorem rof_is {w w' : World} {f : BL} {e : Ending} (h : ROfPost w f e w') : e = .returned (.tuple #[.int .i64 (ofV f).1, .bool (ofV f).2]) ∧ Below w.heap.size w w' := by
 obtain ⟨h1, h2⟩ := h
 refine ⟨?_, h1⟩
 unfold ofV
 revert h2
 rcases readL f with _ | ⟨ep, h, n, b⟩ <;> exact id
theorem heard_any (w : World) {L P Q i : Nat} {s : LE} (h : PairSt L P Q i w s) (hN : PairN i s) (hi : i ≤ 1000) (A : Option Addr) (f : BL) (c : Nat) (hF : RdC w A f) (hf : f.length ≤ 100000) (hlc : f.length ≤ c) (hc : c ≤ 9223372036854775807) :
  Calls Try.prog 35 #[.pointer (some ⟨P, 0, none⟩), .pointer (some ⟨Q, 0, none⟩), .slice A f.length c] w fun e w' => e = .returned (.bool true) ∧ PairSt L P Q (i + 1) w' (hearL s f).2.2 ∧ Below L w w' := by
 obtain ⟨M, G, own, k, G', h1, h2, h3, h4, h5, h6, h7, h8⟩ := h
 have hok := h2.1
 obtain ⟨u1, u2, u3, u4, u5⟩ := hear_nums (f := f) hok hN.1
 have HU := hide (And.intro u1 (And.intro u3 u4))
 have hmsl : (hearL s f).2.1.length ≤ 65 := u2
 clear u1 u2 u3 u4 u5
 have hhb : s.heard ≤ 65000 := by have := hN.2.2; omega
 have HHr := hide (hear_any w h2 A f c hF.rd (by omega) hlc hc (by omega) (by omega))
 have HF := hide hF
 have HE := hide h2
 have HR := hide h3
 have HG := hide h6
 have HOw := hide h7
 have HN := hide hN
 obtain ⟨fl, hfl⟩ : ∃ z, f.length = z := ⟨_, rfl⟩
 rw [hfl] at HHr hlc hf ⊢
 have HFl := hide hfl
 have kc0 := hF.conv (c := c) hfl
 have hn0 := hN.1
 have HN0 := hide hn0
 clear h2 h3 h6 h7 hF hN hfl hok hn0
 go_enter Try.func35, Try.ntmps35
 go_wp2_with fail
 refine HHr.out.mono ?_
 rintro e y ⟨v, own', rfl, ha, hb, hk, ho⟩
 obtain ⟨cd, hcd⟩ : ∃ z, (hearL s f).1 = z := ⟨_, rfl⟩
 rw [hcd]
 have HCd := hide hcd
 clear hcd kc0
 have HE1 := hide ha
 have HV1 := hide hb
 have HK1 := hide hk
 have HO1 := hide ho
 have HR1 := hide (HE.out.keepR hk (by intro x hx; simp at hx; rcases hx with h | h | h; exact .inl h; exact .inr (.inl h); exact .inr (.inr h)) HR.out)
 have HF1 := hide (HE.out.keepF hk (by intro x hx; simp at hx; rcases hx with h | h | h; exact .inl h; exact .inr (.inl h); exact .inr (.inr h)) HF.out)
 have HB1 : Hid (Below L w y) := hide (hk.toBelow (by intro x hx; simp at hx; rcases hx with h | h | h; rw [h]; exact h4; rw [h]; exact h5; exact HG.out x h) h8)
 clear ha hb hk ho HHr
 have kq := run_bytes_of (P := Try.prog) y 9 23 5 f Try.underlying9 Try.underlying23 Try.underlying5
 rw [HFl.out] at kq
 obtain ⟨cp1, hcp1⟩ : ∃ z, grownCap y fl 0 5 = z := ⟨_, rfl⟩
 have hcpa1 : fl ≤ cp1 := by rw [← hcp1]; exact grownCap_ge _ _ _ _
 have hcpb1 : cp1 ≤ 9223372036854775807 := by rw [← hcp1]; exact grownCap_le_maxLen _ _ _ _ (by unfold maxLen; omega)
 rw [hcp1] at kq
 have HC1 : Hid (Below y.heap.size y (bytesWorld y 5 f)) := hide (bytesWorld_below _ _ _)
 have HD1 := hide (RdC.new y f)
 obtain ⟨x1, hx1⟩ : ∃ z, bytesWorld y 5 f = z := ⟨_, rfl⟩
 rw [hx1] at kq HC1 HD1
 clear hcp1 hx1
 have HH2 := hide (rhear_any x1 (HR1.out.next HC1.out) (by have := HC1.out.size; have := HB1.out.size; omega) (some ⟨y.heap.size, 0, none⟩) f cp1 HD1.out.rd (by rw [HFl.out]; omega) (by rw [HFl.out]; exact hcpa1) hcpb1 (by omega) HN0.out)
 rw [HFl.out] at HH2
 go_wp2_with fail
 refine HH2.out.mono ?_
 rintro e y2 ⟨u, rfl, ha, hb, hk⟩
 rw [HCd.out]
 have HV2 : Hid (BRows w.heap.size y2 own' (fun q => (false, s.heard + 1 + q)) v (hearL s f).2.1) := hide ((HV1.out.next HC1.out).keepT fun g cur T hc hT => (HR1.out.next HC1.out).keepB hk (by intro x hx; simp at hx; exact .inl hx) hc (by rcases hT with rfl | rfl <;> decide) (by rcases hT with rfl | rfl <;> decide))
 have HE2 := hide ((HR1.out.next HC1.out).keepE hk (by intro x hx; simp at hx; exact .inl hx) (HE1.out.next HC1.out))
 have HF2 := hide ((HR1.out.next HC1.out).keepF hk (by intro x hx; simp at hx; exact .inl hx) (HF1.out.next HC1.out))
 have HR2 := hide hb
 have HU2 := hide ha
 have HB2 : Hid (Below L w y2) := hide ((HB1.out.trans (HC1.out.mono (by have := HB1.out.size; omega))).trans (hk.toBelow (by intro x hx; simp at hx; rw [hx]; exact HR.out.2.1) (by have := HC1.out.size; have := HB1.out.size; omega)))
 clear ha hb hk HH2 kq HV1 HE1 HF1 HR1 HB1
 have HO2 := hide (lof_any y2 A f c HF2.out.rd (by rw [HFl.out]; omega) (by rw [HFl.out]; exact hlc) hc)
 rw [HFl.out] at HO2
 go_wp2_with fail
 refine HO2.out.mono ?_
 rintro e y3 hof
 obtain ⟨rfl, hb3⟩ := of_is hof
 clear hof HO2
 obtain ⟨d1, hd1⟩ : ∃ z, (ofV f).1 = z := ⟨_, rfl⟩
 obtain ⟨d2, hd2⟩ : ∃ z, (ofV f).2 = z := ⟨_, rfl⟩
 rw [hd1, hd2]
 have HDd := hide (And.intro hd1 hd2)
 have HC2 := hide hb3
 clear hb3 hd1 hd2
 have kq := run_bytes_of (P := Try.prog) y3 9 23 5 f Try.underlying9 Try.underlying23 Try.underlying5
 rw [HFl.out] at kq
 obtain ⟨cp3, hcp3⟩ : ∃ z, grownCap y3 fl 0 5 = z := ⟨_, rfl⟩
 have hcpa3 : fl ≤ cp3 := by rw [← hcp3]; exact grownCap_ge _ _ _ _
 have hcpb3 : cp3 ≤ 9223372036854775807 := by rw [← hcp3]; exact grownCap_le_maxLen _ _ _ _ (by unfold maxLen; omega)
 rw [hcp3] at kq
 have HC3 : Hid (Below y3.heap.size y3 (bytesWorld y3 5 f)) := hide (bytesWorld_below _ _ _)
 have HD3 := hide (RdC.new y3 f)
 obtain ⟨x3, hx3⟩ : ∃ z, bytesWorld y3 5 f = z := ⟨_, rfl⟩
 rw [hx3] at kq HC3 HD3
 clear hcp3 hx3
 have HO3 := hide (rof_any x3 (some ⟨y3.heap.size, 0, none⟩) f cp3 HD3.out.rd (by rw [HFl.out]; omega) (by rw [HFl.out]; exact hcpa3) hcpb3)
 rw [HFl.out] at HO3
 have HC4 := hide (HC2.out.trans (HC3.out.mono HC2.out.size))
 go_wp2_with fail
 refine HO3.out.mono ?_
 rintro e y4 hof
 obtain ⟨rfl, hb4⟩ := rof_is hof
 rw [HDd.out.1, HDd.out.2]
 have HC5 : Hid (Below y2.heap.size y2 y4) := hide (HC4.out.trans (hb4.mono HC4.out.size))
 clear hof HO3 hb4 kq HC2 HC3 HC4
 have HV4 := hide (HV2.out.next HC5.out)
 have HU4 := hide (HU2.out.next HC5.out)
 have HE4 := hide (HE2.out.next HC5.out)
 have HR4 := hide (HR2.out.next HC5.out)
 have HF4 := hide (HF2.out.next HC5.out)
 have HB4 : Hid (Below L w y4) := hide (HB2.out.trans (HC5.out.mono (by have := HB2.out.size; omega)))
 have kc1 := HF4.out.conv (c := c) HFl.out
 clear HV2 HU2 HE2 HR2 HF2 HB2 HC5
 have HRw := hide (rows_any y4 HV4.out HU4.out (by intro i j e; injection e with _ e; omega) (by omega) (fun b hb => by have := HU.out.2.2 b hb; omega))
 have kd : (cd == cd) = true := by simp
 have kd1 : (d1 == d1) = true := by simp
 go_wp2_with fail
 refine HRw.out.mono ?_
 rintro e z ⟨rfl, hsp⟩
 have HSp := hide hsp
 have kc2 := (HF4.out.spoil hsp).conv (c := c) HFl.out
 have HE5 : Hid (EndM z P M G own' (k + 1) (hearL s f).2.2) := hide (HE4.out.spoil hsp fun g ⟨_, q, hq, ho⟩ t ht => by
  rw [ho] at ht
  injection ht with ht
  subst ht
  refine ⟨fun i _ e => by (injection e with e; cases e), fun m hm e => ?_⟩
  injection e with _ e
  rcases hb : (hearL s f).2.2.ahead m with _ | b
  ·exact hm hb
  ·have h9 := (HE4.out.1.ahead m b hb).2.1
   rw [HU.out.1] at h9
   omega)
 have HR5 := hide (HR4.out.spoil hsp)
 have HB5 : Hid (Below L w z) := hide (HB4.out.trans (hsp.toBelow (fun g ⟨_, q, hq, ho⟩ => by
  rcases HO1.out g with h | h
  ·exact HOw.out g (by rw [← h, ho]; simp)
  ·omega) (by have := HB4.out.size; omega)))
 have HFin : Hid (PairSt L P Q (i + 1) z (hearL s f).2.2 ∧ Below L w z) := hide ⟨⟨M, G, own', k + 1, G', by omega, HE5.out, HR5.out, h4, h5, HG.out, fun g hg => by
  rcases HO1.out g with h | h
  ·exact HOw.out g (by rw [← h]; exact hg)
  ·omega, by have := HB5.out.size; omega⟩, HB5.out⟩
 clear hsp kc1
 go_wp2
 go_ret
 exact ⟨rfl, HFin.out⟩
end Go.Proofs.Ytigmmikijjcdiaa
namespace Go.Proofs.Ytigmmikijjcdiaa
open Go.RowKit
def RSendPost (w : World) (L Q : Nat) (G : Option Nat) (s : LE) (b : BL) (e : Ending) (w' : World) : Prop :=
 e = .returned (.int .i64 (sendL s b).1) ∧ ∃ G', REnd w' L Q G' (sendL s b).2 ∧ KB (Q :: G.toList) w w' ∧ (G' = G ∨ ∃ g, G' = some g ∧ w.heap.size ≤ g)
theorem rsend_fin {w x y z : World} {L Q : Nat} {G G' : Option Nat} {s : LE} {b : BL} {v' av : Value} {xs : List (Nat × BL)}
  (h1 : LEok s) (h2 : L ≤ Q) (h3 : ∀ g, G = some g → L ≤ g) (hLw : L ≤ w.heap.size) (h6 : AhR w L av xs) (h7 : AhF xs s.ahead) (hQc : ∃ cur, w.heap[Q]? = some (.cells cur 78 (0, 0))) (hGc : ∀ g, G = some g → ∃ cur, w.heap[g]? = some (.cells cur 9 (0, 0)))
  (hb : b.length ≤ 1048576) (hn : s.next < 1000000) (hl : s.sent.length < 64) (hx : Below w.heap.size w x) (hT : TRow y G' v' (strs s.sent ++ [.string ⟨b.toArray⟩])) (hk : KB G.toList x y) (hG : G' = G ∨ ∃ g, G' = some g ∧ x.heap.size ≤ g) (hQG : G' ≠ some Q)
  (hz : z.heap[Q]? = some (.cells #[.int .i64 (s.ep : Int), .int .i64 ((s.next : Int) + 1), .int .i64 (s.heard : Int), .int .i64 (s.fresh : Int), .bool s.owes, v', av] 78 (0, 0))) (hzo : ∀ g, g ≠ Q → z.heap[g]? = y.heap[g]?) (hzs : z.heap.size = y.heap.size) (hze : Env y z) : RSendPost w L Q G s b (.returned (.int .i64 0)) z := by
 have hs : sendL s b = (0, { s with sent := s.sent ++ [b], next := s.next + 1 }) := by unfold sendL; rw [if_neg (by unfold mostL; omega), if_neg (by omega)]
 have hsx := hx.size
 have hsy := hk.1
 refine ⟨by rw [hs], G', ?_, ⟨by omega, fun g hg hm => ?_, ((Env.of_below hx).trans hk.3).trans hze⟩, hG.imp id fun ⟨g, e, h⟩ => ⟨g, e, by omega⟩⟩
 ·rw [hs]
  refine ⟨?_, h2, fun g e => ?_, v', av, xs, by simpa using hz, ?_, h6.keep fun g cur hc => ?_, h7⟩
  ·obtain ⟨q1, q2, q3, q4, q5, q6, q7, q8, q9⟩ := h1
   have e1 : (LE.first { s with sent := s.sent ++ [b], next := s.next + 1 }) = s.first := by unfold LE.first; simp
   refine ⟨q1, by simp; omega, by simp; omega, by rw [e1]; exact q4, by simp; omega, by simp; omega, q7, fun c hc => ?_, q9⟩
   rcases List.mem_append.1 hc with hc | hc
   ·exact q8 c hc
   ·simp at hc; subst hc; exact hb
  ·rcases hG with rfl | ⟨g', rfl, hg'⟩
   ·exact h3 g e
   ·injection e with e; omega
  ·have e : strs (s.sent ++ [b]) = strs s.sent ++ [.string ⟨b.toArray⟩] := by unfold strs; simp
   show TRow z G' v' (strs (s.sent ++ [b]))
   rw [e]
   exact hT.keep fun g e _ => hzo g fun e2 => hQG (by rw [e, e2])
  ·have hlt := lt_of_block hc
   have n1 : g ≠ Q := by
    obtain ⟨cur', hc'⟩ := hQc
    exact row_ne hc hc' (by decide)
   rw [hzo g n1, hk.2 g (by omega) (fun hm => by obtain ⟨cur', hc'⟩ := hGc g (in_O hm); exact row_ne hc hc' (by decide) rfl), hx.block g hlt]
 ·rw [hzo g (fun e => hm (by rw [e]; simp)), hk.2 g (by omega) (fun h => hm (by simp; right; exact in_O h)), hx.block g hg]
theorem rsend_any (w : World) (L Q : Nat) (G : Option Nat) (s : LE) (b : BL) (hE : REnd w L Q G s) (hLw : L ≤ w.heap.size) (hn : s.next < 1000000) (hbm : b.length ≤ 1000000000) :
  Calls Try.prog 36 #[.pointer (some ⟨Q, 0, none⟩), .string ⟨b.toArray⟩] w (RSendPost w L Q G s b) := by
 have HE := hide hE
 clear hE
 obtain ⟨A, c, B, d, m, e0, e1, e2, e3, e4, e5, e6, hQ⟩ := HE.out.cells
 by_cases c1 : (1048576 : Int) < (b.length : Int)
 ·have HS : Hid (sendL s b = (3, s)) := hide (by unfold sendL; rw [if_pos (.inl (by omega))])
  go_enter Try.func36, Try.ntmps36
  go_wp2
  go_ret
  exact ⟨by rw [HS.out]; rfl, G, by rw [HS.out]; exact HE.out, KB.refl _ _, .inl rfl⟩
 have c2 : ¬ (4611686018427387904 : Int) ≤ (s.next : Int) := by omega
 obtain ⟨sl, hsl⟩ : ∃ z, s.sent.length = z := ⟨_, rfl⟩
 rw [hsl] at e5
 have HSl := hide hsl
 clear hsl
 by_cases c3 : (64 : Int) ≤ (sl : Int)
 ·have HS : Hid (sendL s b = (161, s)) := hide (by unfold sendL; rw [if_neg (by unfold mostL; omega), if_pos (by rw [HSl.out]; omega)])
  go_enter Try.func36, Try.ntmps36
  go_wp2
  go_ret
  exact ⟨by rw [HS.out]; rfl, G, by rw [HS.out]; exact HE.out, KB.refl _ _, .inl rfl⟩
 obtain ⟨h1, h2, h3, sv, av, xs, h4, h5, h6, h7⟩ := HE.out
 have hsv : sv = .slice A sl c := by have h := cell_of_row _ _ 5 _ _ _ h4; rw [e5] at h; simpa using h.symm
 subst hsv
 obtain ⟨i0, hi0, hz0, hz1, hz2⟩ := info_parts (show (Try.prog.info? 9).map (fun i => (i.zero, i.size, i.bytes)) = some (some (.string ⟨#[]⟩), 1, 16) by kernel_rfl)
 have H1 := hide h1
 have H3 := hide h3
 have H4 := hide h4
 have H5 := hide h5
 have H6 := hide h6
 have H7 := hide h7
 clear h1 h3 h4 h5 h6 h7
 obtain ⟨x, hx⟩ : ∃ z, w.alloc (.cells #[.string ⟨b.toArray⟩] 9) = z := ⟨_, rfl⟩
 have HX := hide hx
 have HBx : Hid (Below w.heap.size w x) := hide (by rw [← hx]; exact (Below.refl _ _).alloc (Nat.le_refl _) _)
 have HT0 : Hid (TRow x G (.slice A sl c) (strs s.sent)) := hide (H5.out.keep fun g e hl => HBx.out.block g hl)
 have hcx : x.cell? ⟨w.heap.size, 0, none⟩ = some (.string ⟨b.toArray⟩) := by rw [← hx]; exact cell_of_row _ _ 0 _ _ _ (heap_alloc_last _ _)
 have hQx : x.heap[Q]? = some (.cells #[.int .i64 (s.ep : Int), .int .i64 (s.next : Int), .int .i64 (s.heard : Int), .int .i64 (s.fresh : Int), .bool s.owes, .slice A sl c, av] 78 (0, 0)) := (HBx.out.block Q hQ).trans H4.out
 have HQx := hide hQx
 clear hx hQx
 have kw : IntKind.i64.wrap ((s.next : Int) + 1) = (s.next : Int) + 1 := IntWalk.i64_in _ (by omega)
 go_enter Try.func36, Try.ntmps36
 go_upto_region 5 with fail
 go_wp2_with (at_builtin; go_loud (rw [HX.out]; refine wpList_plain rfl fun K hK => ?_; refine op_trow (.tmp 25) (.tmp 27) 48 rfl i0 (.string ⟨#[]⟩) Try.underlying48 hi0 hz0 hz1 hz2 rfl (.slice A sl c) G (strs s.sent) rfl HT0.out ⟨w.heap.size, 0, none⟩ 1 (.string ⟨b.toArray⟩) rfl hcx rfl (by rw [strs_len, HSl.out]; omega) ?_; intro v' y G' hT hk hG; refine hK _ _ ?_; obtain ⟨A2, n2, c2', rfl⟩ : ∃ A2 n2 c2', v' = .slice A2 n2 c2' := (by obtain ⟨A2, c2', hv, _⟩ := hT; exact ⟨A2, _, c2', hv⟩); have hyQ := (hk.2 Q (Nat.lt_of_lt_of_le hQ HBx.out.size) (fun hm => by obtain ⟨cur, hc⟩ := H5.out.blk Q (in_O hm); exact row_ne H4.out hc (by decide) rfl)).trans HQx.out; have hQG : G' ≠ some Q := (fun e => by obtain ⟨cur, hc⟩ := hT.blk Q e; exact row_ne hyQ hc (by decide) rfl); have y5 : y.cell? ⟨Q, 5, none⟩ = some (.slice A sl c) := cell_of_row _ _ 5 _ _ _ hyQ; have y5f : y.frozen? ⟨Q, 5, none⟩ = false := frozen_of_row _ _ 5 _ _ hyQ; have hzA := heap_setCell_same y Q 5 _ _ (.slice A2 n2 c2') hyQ; have y1 : (y.setCell ⟨Q, 5, none⟩ (.slice A2 n2 c2')).cell? ⟨Q, 1, none⟩ = some (.int .i64 (s.next : Int)) := cell_of_row _ _ 1 _ _ _ hzA; have y1f : (y.setCell ⟨Q, 5, none⟩ (.slice A2 n2 c2')).frozen? ⟨Q, 1, none⟩ = false := frozen_of_row _ _ 1 _ _ hzA; have hzB := heap_setCell_same (y.setCell ⟨Q, 5, none⟩ (.slice A2 n2 c2')) Q 1 _ _ (.int .i64 ((s.next : Int) + 1)) hzA; have HFin := hide (rsend_fin H1.out h2 H3.out hLw H6.out H7.out ⟨_, H4.out⟩ H5.out.blk (by omega) hn (by rw [HSl.out]; omega) HBx.out hT hk hG hQG hzB (fun g hg => by rw [Below.heap_setCell _ _ _ _ hg, Below.heap_setCell _ _ _ _ hg]) (by simp only [World.size_setCell]) (((Env.refl y).setCell _ _).setCell _ _)); clear hT hk hG hK hyQ hQG hzA hzB))
 go_wp2
 go_ret
 exact HFin.out
end Go.Proofs.Ytigmmikijjcdiaa
