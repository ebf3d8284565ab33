/- What has come is told: Hear. (printed by gen/lkv.py) -/
import Derived.Test.YtigmmikijjcdiaaProg
import Derived.Test.YtigmmikijjcdiaaLqLkx
import Derived.Deep.DeepCutAuto
import Derived.Lib.Hide
import Derived.WalkSpells
import Derived.WalkMore
import Derived.IntWalk
import Derived.ScopeJumps








namespace Go.Proofs.Ytigmmikijjcdiaa
open Go.RowKit Go.MapKept Go.ChangeMaps
set_option linter.unusedVariables false
set_option linter.unusedSimpArgs false
set_option maxRecDepth 100000 in
set_option maxHeartbeats 16000000 in
theorem hear_any (w : World) {P M : Nat} {G : Option Nat} {own : Nat → Option (Bool × Nat)} {k : Nat} {s : LE} (h : EndM w P M G own k s) (A : Option Addr) (f : BL) (c : Nat) (hR : Rd w w.heap.size A (u8s f)) (hf : f.length ≤ 3000000) (hlc : f.length ≤ c) (hc : c ≤ 9223372036854775807) (hk : k < 1000000) (hh : s.heard + 65 ≤ 1000000) :
    Calls Try.prog 12 #[.pointer (some ⟨P, 0, none⟩), .slice A f.length c] w (HearPost w P M G own k s f) := by
  have HE := hide h
  obtain ⟨A0, c0, e0, e1, e2, e3, e4, e5, hP⟩ := h.cells
  have hrd := read_any w A f c hR hf hlc hc
  obtain ⟨m, hm⟩ : ∃ m, f.length = m := ⟨_, rfl⟩
  rw [hm] at hrd hf hlc ⊢
  have HRd := hide hrd
  have HM9 := hide hm
  clear hrd hm h
  rcases hq : readL f with _ | ⟨ep, hd, n, b⟩
  · have HQ := hide hq
    clear hq
    go_enter Try.func12, Try.ntmps12
    go_wp2
    go_step3
    go_wp2_with fail
    refine HRd.out.mono ?_
    rintro e y ⟨hb, he⟩
    rw [HQ.out] at he
    obtain rfl := he
    have HFin : Hid (HearPost w P M G own k s f (.returned (.tuple #[.slice none 0 0, .int .i64 150])) (y.alloc (.cells #[.int .i64 0, .int .i64 0, .int .i64 0, .slice none 0 0] 71))) := hide (hear_no HE.out (hb.alloc hb.size _) (by unfold hearL; rw [HQ.out]))
    clear hb HRd
    go_wp2
    exact bodyPost_ret (v := .tuple #[.slice none 0 0, .int .i64 150]) (by simp [results, Try.results12, go_sem]) rfl HFin.out
  have HQ := hide hq
  clear hq
  obtain ⟨sep, hsep⟩ : ∃ x, s.ep = x := ⟨_, rfl⟩
  obtain ⟨nx0, hnx⟩ : ∃ x, s.next = x := ⟨_, rfl⟩
  by_cases hgo : ep = sep ∧ hd < nx0
  · exact HM9.out ▸ hear_go w HE.out A f c hR (by rw [HM9.out]; exact hf) (by rw [HM9.out]; exact hlc) hc hk hh (by rw [HQ.out, hsep, hgo.1]) (by rw [hnx]; exact hgo.2)
  rw [hsep] at e0
  rw [hnx] at e2
  have HSe := hide hsep
  have HSn := hide hnx
  have HGo := hide hgo
  clear hsep hnx hgo
  go_enter Try.func12, Try.ntmps12
  go_wp2
  go_step3
  go_wp2_with fail
  refine HRd.out.mono ?_
  rintro e y ⟨hb, he⟩
  rw [HQ.out] at he
  obtain ⟨A1, c1, rfl, hown⟩ := he
  obtain ⟨bl, hbl⟩ : ∃ x, b.length = x := ⟨_, rfl⟩
  rw [hbl] at hown ⊢
  have HBl := hide hbl
  have HOb := hide hown
  clear hown hbl HRd
  obtain ⟨u, hu⟩ : ∃ u, y.alloc (.cells #[.int .i64 (ep : Int), .int .i64 (hd : Int), .int .i64 (n : Int), .slice A1 bl c1] 71) = u := ⟨_, rfl⟩
  have HT := hide (show u.heap[y.heap.size]? = some (.cells #[.int .i64 (ep : Int), .int .i64 (hd : Int), .int .i64 (n : Int), .slice A1 bl c1] 71) by rw [← hu]; exact heap_alloc_last y _)
  have HBu := hide (show Below w.heap.size w u by rw [← hu]; exact hb.alloc hb.size _)
  have HU := hide hu
  obtain ⟨T, hT⟩ : ∃ x, y.heap.size = x := ⟨_, rfl⟩
  rw [hT] at HT
  have HTw : Hid (w.heap.size ≤ T) := hide (by rw [← hT]; exact hb.size)
  have HTe := hide hT
  clear hb hu hT
  have t0 : u.cell? ⟨T, 0, none⟩ = some (.int .i64 (ep : Int)) := cell_of_row _ _ 0 _ _ _ HT.out
  have t1 : u.cell? ⟨T, 1, none⟩ = some (.int .i64 (hd : Int)) := cell_of_row _ _ 1 _ _ _ HT.out
  have t2 : u.cell? ⟨T, 2, none⟩ = some (.int .i64 (n : Int)) := cell_of_row _ _ 2 _ _ _ HT.out
  have t3 : u.cell? ⟨T, 3, none⟩ = some (.slice A1 bl c1) := cell_of_row _ _ 3 _ _ _ HT.out
  have p0 := (HBu.out.cell (p := ⟨P, 0, none⟩) hP).trans e0
  have p1 := (HBu.out.cell (p := ⟨P, 1, none⟩) hP).trans e1
  have p2 := (HBu.out.cell (p := ⟨P, 2, none⟩) hP).trans e2
  have p3 := (HBu.out.cell (p := ⟨P, 3, none⟩) hP).trans e3
  have p4 := (HBu.out.cell (p := ⟨P, 4, none⟩) hP).trans e4
  have p5 := (HBu.out.cell (p := ⟨P, 5, none⟩) hP).trans e5
  have hTu : T < u.heap.size := lt_of_block HT.out
  have hPu : P < u.heap.size := by have := HBu.out.size; omega
  go_upto_region 6 with fail
  rw [HU.out, HTe.out]
  by_cases cE : ep = sep
  rotate_left
  · have k1 : ((ep : Int) != (sep : Int)) = true := by simp; omega
    have HFin : Hid (HearPost w P M G own k s f (.returned (.tuple #[.slice none 0 0, .int .i64 4])) u.drew) := hide (hear_no HE.out HBu.out.drew (by unfold hearL; rw [HQ.out]; dsimp only; rw [if_pos (by rw [HSe.out]; exact cE)]))
    clear cE
    refine wp_region_held_drew (S := Kept u) (by kernel_rfl) (Kept.drew u) (fun hS0 => ?_)
    refine take_at (i := 0) (d := 25) (v := ?_) (by simp only [List.getElem?_toArray, List.getElem?_cons_succ, List.getElem?_cons_zero]; rfl) rfl (by kernel_rfl) (by kernel_rfl) (by kernel_rfl) (fun _ _ _ h => h) rfl ?_ (by assumption) ?_
    rotate_left
    focus (intro w hSw; go_simp; (try with_reducible rfl); done)
    try simp only [List.setIfInBounds_toArray, List.set_cons_zero, List.set_cons_succ]
    refine take_at (i := 1) (d := 26) (v := ?_) (by simp only [List.getElem?_toArray, List.getElem?_cons_succ, List.getElem?_cons_zero]; rfl) rfl (by kernel_rfl) (by kernel_rfl) (by kernel_rfl) (fun _ _ _ h => h) rfl ?_ (by assumption) ?_
    rotate_left
    focus (intro w hSw; go_simp; (try with_reducible rfl); done)
    try simp only [List.setIfInBounds_toArray, List.set_cons_zero, List.set_cons_succ]
    refine take_at (i := 2) (d := 27) (v := ?_) (by simp only [List.getElem?_toArray, List.getElem?_cons_succ, List.getElem?_cons_zero]; rfl) rfl (by kernel_rfl) (by kernel_rfl) (by kernel_rfl) (fun _ _ _ h => h) rfl ?_ (by assumption) ?_
    rotate_left
    focus (intro w hSw; go_simp; (try with_reducible rfl); done)
    try simp only [List.setIfInBounds_toArray, List.set_cons_zero, List.set_cons_succ]
    refine take_at (i := 3) (d := 28) (v := ?_) (by simp only [List.getElem?_toArray, List.getElem?_cons_succ, List.getElem?_cons_zero]; rfl) rfl (by kernel_rfl) (by kernel_rfl) (by kernel_rfl) (fun _ _ _ h => h) rfl ?_ (by assumption) ?_
    rotate_left
    focus (intro w hSw; go_simp; (try with_reducible rfl); done)
    try simp only [List.setIfInBounds_toArray, List.set_cons_zero, List.set_cons_succ]
    refine take_at (i := 4) (d := 29) (v := ?_) (by simp only [List.getElem?_toArray, List.getElem?_cons_succ, List.getElem?_cons_zero]; rfl) rfl (by kernel_rfl) (by kernel_rfl) (by kernel_rfl) (fun _ _ _ h => h) rfl ?_ (by assumption) ?_
    rotate_left
    focus (intro w hSw; go_simp; (try with_reducible rfl); done)
    try simp only [List.setIfInBounds_toArray, List.set_cons_zero, List.set_cons_succ]
    refine take_at (i := 5) (d := 30) (v := ?_) (by simp only [List.getElem?_toArray, List.getElem?_cons_succ, List.getElem?_cons_zero]; rfl) rfl (by kernel_rfl) (by kernel_rfl) (by kernel_rfl) (fun _ _ _ h => h) rfl ?_ (by assumption) ?_
    rotate_left
    focus (intro w hSw; go_simp; (try with_reducible rfl); done)
    try simp only [List.setIfInBounds_toArray, List.set_cons_zero, List.set_cons_succ]
    refine take_at (i := 6) (d := 31) (v := ?_) (by simp only [List.getElem?_toArray, List.getElem?_cons_succ, List.getElem?_cons_zero]; rfl) rfl (by kernel_rfl) (by kernel_rfl) (by kernel_rfl) (fun _ _ _ h => h) rfl ?_ (by assumption) ?_
    rotate_left
    focus (intro w hSw; go_simp; (try with_reducible rfl); done)
    try simp only [List.setIfInBounds_toArray, List.set_cons_zero, List.set_cons_succ]
    refine take_at (i := 7) (d := 24) (v := ?_) (by simp only [List.getElem?_toArray, List.getElem?_cons_succ, List.getElem?_cons_zero]; rfl) rfl (by kernel_rfl) (by kernel_rfl) (by kernel_rfl) (fun _ _ _ h => h) rfl ?_ (by assumption) ?_
    rotate_left
    focus (intro w hSw; go_simp; (try with_reducible rfl); done)
    try simp only [List.setIfInBounds_toArray, List.set_cons_zero, List.set_cons_succ]
    refine wpAnyH_done (by kernel_rfl) ?_ _
    go_wp2
    exact bodyPost_ret (v := .tuple #[.slice none 0 0, .int .i64 4]) (by simp [results, Try.results12, go_sem]) rfl HFin.out
  have cB : nx0 ≤ hd := by have := HGo.out; omega
  have k1 : ((ep : Int) != (sep : Int)) = false := by simp; omega
  have HCE := hide cE
  clear cE
  have k2 : (nx0 : Int) ≤ (hd : Int) := by omega
  have HFin : Hid (HearPost w P M G own k s f (.returned (.tuple #[.slice none 0 0, .int .i64 2])) u.drew.drew) := hide (hear_no HE.out HBu.out.drew.drew (by unfold hearL; rw [HQ.out]; dsimp only; rw [if_neg (by rw [HSe.out, HCE.out]; simp), if_pos (by rw [HSn.out]; exact cB)]))
  clear cB
  refine wp_region_held_drew (S := Kept u) (by kernel_rfl) (Kept.drew u) (fun hS0 => ?_)
  refine take_at (i := 0) (d := 25) (v := ?_) (by simp only [List.getElem?_toArray, List.getElem?_cons_succ, List.getElem?_cons_zero]; rfl) rfl (by kernel_rfl) (by kernel_rfl) (by kernel_rfl) (fun _ _ _ h => h) rfl ?_ (by assumption) ?_
  rotate_left
  focus (intro w hSw; go_simp; (try with_reducible rfl); done)
  try simp only [List.setIfInBounds_toArray, List.set_cons_zero, List.set_cons_succ]
  refine take_at (i := 1) (d := 26) (v := ?_) (by simp only [List.getElem?_toArray, List.getElem?_cons_succ, List.getElem?_cons_zero]; rfl) rfl (by kernel_rfl) (by kernel_rfl) (by kernel_rfl) (fun _ _ _ h => h) rfl ?_ (by assumption) ?_
  rotate_left
  focus (intro w hSw; go_simp; (try with_reducible rfl); done)
  try simp only [List.setIfInBounds_toArray, List.set_cons_zero, List.set_cons_succ]
  refine take_at (i := 2) (d := 27) (v := ?_) (by simp only [List.getElem?_toArray, List.getElem?_cons_succ, List.getElem?_cons_zero]; rfl) rfl (by kernel_rfl) (by kernel_rfl) (by kernel_rfl) (fun _ _ _ h => h) rfl ?_ (by assumption) ?_
  rotate_left
  focus (intro w hSw; go_simp; (try with_reducible rfl); done)
  try simp only [List.setIfInBounds_toArray, List.set_cons_zero, List.set_cons_succ]
  refine take_at (i := 3) (d := 28) (v := ?_) (by simp only [List.getElem?_toArray, List.getElem?_cons_succ, List.getElem?_cons_zero]; rfl) rfl (by kernel_rfl) (by kernel_rfl) (by kernel_rfl) (fun _ _ _ h => h) rfl ?_ (by assumption) ?_
  rotate_left
  focus (intro w hSw; go_simp; (try with_reducible rfl); done)
  try simp only [List.setIfInBounds_toArray, List.set_cons_zero, List.set_cons_succ]
  refine take_at (i := 4) (d := 29) (v := ?_) (by simp only [List.getElem?_toArray, List.getElem?_cons_succ, List.getElem?_cons_zero]; rfl) rfl (by kernel_rfl) (by kernel_rfl) (by kernel_rfl) (fun _ _ _ h => h) rfl ?_ (by assumption) ?_
  rotate_left
  focus (intro w hSw; go_simp; (try with_reducible rfl); done)
  try simp only [List.setIfInBounds_toArray, List.set_cons_zero, List.set_cons_succ]
  refine take_at (i := 5) (d := 30) (v := ?_) (by simp only [List.getElem?_toArray, List.getElem?_cons_succ, List.getElem?_cons_zero]; rfl) rfl (by kernel_rfl) (by kernel_rfl) (by kernel_rfl) (fun _ _ _ h => h) rfl ?_ (by assumption) ?_
  rotate_left
  focus (intro w hSw; go_simp; (try with_reducible rfl); done)
  try simp only [List.setIfInBounds_toArray, List.set_cons_zero, List.set_cons_succ]
  refine take_at (i := 6) (d := 31) (v := ?_) (by simp only [List.getElem?_toArray, List.getElem?_cons_succ, List.getElem?_cons_zero]; rfl) rfl (by kernel_rfl) (by kernel_rfl) (by kernel_rfl) (fun _ _ _ h => h) rfl ?_ (by assumption) ?_
  rotate_left
  focus (intro w hSw; go_simp; (try with_reducible rfl); done)
  try simp only [List.setIfInBounds_toArray, List.set_cons_zero, List.set_cons_succ]
  refine take_at (i := 7) (d := 24) (v := ?_) (by simp only [List.getElem?_toArray, List.getElem?_cons_succ, List.getElem?_cons_zero]; rfl) rfl (by kernel_rfl) (by kernel_rfl) (by kernel_rfl) (fun _ _ _ h => h) rfl ?_ (by assumption) ?_
  rotate_left
  focus (intro w hSw; go_simp; (try with_reducible rfl); done)
  try simp only [List.setIfInBounds_toArray, List.set_cons_zero, List.set_cons_succ]
  refine wpAnyH_done (by kernel_rfl) ?_ _
  clear hS0
  go_upto_region 8 with fail
  refine wp_region_held_drew (S := (fun w9 : World => w9.cell? ⟨T, 1, none⟩ = some (.int .i64 (hd : Int)) ∧ w9.cell? ⟨P, 2, none⟩ = some (.int .i64 (nx0 : Int)))) (by kernel_rfl) ⟨t1, p2⟩ (fun hS0 => ?_)
  refine take_at (i := 0) (d := 33) (v := ?_) (by simp only [List.getElem?_toArray, List.getElem?_cons_succ, List.getElem?_cons_zero]; rfl) rfl (by kernel_rfl) (by kernel_rfl) (by kernel_rfl) (fun _ _ _ h => h) rfl ?_ (by assumption) ?_
  rotate_left
  focus (intro w hSw; go_simp; (try with_reducible rfl); done)
  try simp only [List.setIfInBounds_toArray, List.set_cons_zero, List.set_cons_succ]
  refine take_at (i := 1) (d := 34) (v := ?_) (by simp only [List.getElem?_toArray, List.getElem?_cons_succ, List.getElem?_cons_zero]; rfl) rfl (by kernel_rfl) (by kernel_rfl) (by kernel_rfl) (fun _ _ _ h => h) rfl ?_ (by assumption) ?_
  rotate_left
  focus (intro w hSw; go_simp; (try with_reducible rfl); done)
  try simp only [List.setIfInBounds_toArray, List.set_cons_zero, List.set_cons_succ]
  refine take_at (i := 2) (d := 35) (v := ?_) (by simp only [List.getElem?_toArray, List.getElem?_cons_succ, List.getElem?_cons_zero]; rfl) rfl (by kernel_rfl) (by kernel_rfl) (by kernel_rfl) (fun _ _ _ h => h) rfl ?_ (by assumption) ?_
  rotate_left
  focus (intro w hSw; go_simp; (try with_reducible rfl); done)
  try simp only [List.setIfInBounds_toArray, List.set_cons_zero, List.set_cons_succ]
  refine take_at (i := 3) (d := 36) (v := ?_) (by simp only [List.getElem?_toArray, List.getElem?_cons_succ, List.getElem?_cons_zero]; rfl) rfl (by kernel_rfl) (by kernel_rfl) (by kernel_rfl) (fun _ _ _ h => h) rfl ?_ (by assumption) ?_
  rotate_left
  focus (intro w hSw; go_simp; (try with_reducible rfl); done)
  try simp only [List.setIfInBounds_toArray, List.set_cons_zero, List.set_cons_succ]
  refine take_at (i := 4) (d := 37) (v := ?_) (by simp only [List.getElem?_toArray, List.getElem?_cons_succ, List.getElem?_cons_zero]; rfl) rfl (by kernel_rfl) (by kernel_rfl) (by kernel_rfl) (fun _ _ _ h => h) rfl ?_ (by assumption) ?_
  rotate_left
  focus (intro w hSw; go_simp; (try with_reducible rfl); done)
  try simp only [List.setIfInBounds_toArray, List.set_cons_zero, List.set_cons_succ]
  refine take_at (i := 5) (d := 38) (v := ?_) (by simp only [List.getElem?_toArray, List.getElem?_cons_succ, List.getElem?_cons_zero]; rfl) rfl (by kernel_rfl) (by kernel_rfl) (by kernel_rfl) (fun _ _ _ h => h) rfl ?_ (by assumption) ?_
  rotate_left
  focus (intro w hSw; go_simp; (try with_reducible rfl); done)
  try simp only [List.setIfInBounds_toArray, List.set_cons_zero, List.set_cons_succ]
  refine take_at (i := 6) (d := 39) (v := ?_) (by simp only [List.getElem?_toArray, List.getElem?_cons_succ, List.getElem?_cons_zero]; rfl) rfl (by kernel_rfl) (by kernel_rfl) (by kernel_rfl) (fun _ _ _ h => h) rfl ?_ (by assumption) ?_
  rotate_left
  focus (intro w hSw; go_simp; (try with_reducible rfl); done)
  try simp only [List.setIfInBounds_toArray, List.set_cons_zero, List.set_cons_succ]
  refine take_at (i := 7) (d := 32) (v := ?_) (by simp only [List.getElem?_toArray, List.getElem?_cons_succ, List.getElem?_cons_zero]; rfl) rfl (by kernel_rfl) (by kernel_rfl) (by kernel_rfl) (fun _ _ _ h => h) rfl ?_ (by assumption) ?_
  rotate_left
  focus (intro w hSw; go_simp; (try with_reducible rfl); done)
  try simp only [List.setIfInBounds_toArray, List.set_cons_zero, List.set_cons_succ]
  refine wpAnyH_done (by kernel_rfl) ?_ _
  go_wp2
  exact bodyPost_ret (v := .tuple #[.slice none 0 0, .int .i64 2]) (by simp [results, Try.results12, go_sem]) rfl HFin.out
end Go.Proofs.Ytigmmikijjcdiaa
