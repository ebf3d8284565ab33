/- Tight. (printed by gen/ptg.py) -/
import Derived.Test.YtgbahnlgblahpaaGreatPfx
import Derived.Test.YtgbahnlgblahpaaGreatPck
import Derived.ScopeJumps
namespace Go.Proofs.YtgbahnlgblahpaaGreat
open Go.RowKit
set_option linter.unusedVariables false
set_option linter.unusedSimpArgs false

def at_ (vals : List Int) (i : Int) : Int := (vals[i.toNat]?).getD 0
def bat (r : List Bool) (i : Int) : Bool := (r[i.toNat]?).getD false
def scan (vals : List Int) : List Ed → List Bool → Option (Option Nat)
  | [], _ => some none
  | e :: es, r => if dadd (at_ vals e.1) e.2.2 < at_ vals e.2.1 then none else if bat r e.1 = true ∧ bat r e.2.1 = false ∧ at_ vals e.2.1 = dadd (at_ vals e.1) e.2.2 then some (some e.2.1.toNat) else scan vals es r
def close (vals : List Int) (es : List Ed) : Nat → List Bool → Option (List Bool)
  | 0, r => some r
  | n + 1, r => match scan vals es r with
    | none => none
    | some none => some r
    | some (some t) => close vals es n (r.set t true)
def cnt (r : List Bool) : Nat := r.countP (fun b => !b)
def lastOk (vals : List Int) (r : List Bool) (i : Nat) : Bool := (List.range (vals.length - i)).all fun k => decide (0 ≤ at_ vals ((i + k : Nat) : Int)) && decide (at_ vals ((i + k : Nat) : Int) ≤ 4611686018427387904) && (!decide (at_ vals ((i + k : Nat) : Int) < 4611686018427387904) || bat r ((i + k : Nat) : Int))
def tightF (V : Int) (es : List Ed) (s : Int) (vals : List Int) : Bool :=
  if checkF V es = 0 ∧ 0 ≤ s ∧ s < V ∧ (vals.length : Int) = V ∧ at_ vals s = 0 then
    match close vals es V.toNat ((List.replicate V.toNat false).set s.toNat true) with
    | none => false
    | some r => lastOk vals r 0
  else false
def isNo : Value → Bool | .bool b => !b | _ => false
def cntIn (w : World) (g : Nat) : Nat := match w.heap[g]? with | some (.cells cs _ _) => cs.toList.countP isNo | _ => 0
def blockOf : Value → Nat | .slice (some a) _ _ => a.block | _ => 0
theorem checkF_zero {V : Int} {es : List Ed} (h : checkF V es = 0) : 1 ≤ V ∧ V ≤ 512 ∧ okFrom V es 0 = true := by
  unfold checkF at h
  split at h
  · cases h
  · split at h
    · cases h
    · split at h
      · exact ⟨by omega, by omega, ‹_›⟩
      · cases h
theorem at_cell {w : World} {B b off : Nat} {vals : List Int} (h : Rd w B (some ⟨b, off, none⟩) (vals.map (Value.int .i64))) {k : Nat} (hk : k < vals.length) : w.cell? ⟨b, off + k, none⟩ = some (.int .i64 (at_ vals (k : Int))) := by
  have := h.cell (j := k) (u := .int .i64 vals[k]) (by simp [hk])
  rw [this, at_]
  simp [hk]
theorem cntIn_row {w : World} {g : Nat} {r : List Bool} {t : TypeId} {fr : Nat × Nat} (h : w.heap[g]? = some (.cells (bools r).toArray t fr)) : cntIn w g = cnt r := by
  unfold cntIn cnt
  rw [h]
  show (bools r).countP isNo = _
  unfold bools
  rw [List.countP_map]
  rfl
theorem ok_all {V : Int} {es : List Ed} (h : okFrom V es 0 = true) {i : Nat} {e : Ed} (he : es[i]? = some e) : fitsE e V = true := by
  unfold okFrom at h
  have hi := (List.getElem?_eq_some_iff.1 he).1
  have := List.all_eq_true.1 h i (by simpa using hi)
  rw [Nat.zero_add, okAt, he] at this
  dsimp only at this
  rw [Bool.and_eq_true] at this
  exact this.1
theorem fits_bounds {e : Ed} {V : Int} (h : fitsE e V = true) : 0 ≤ e.1 ∧ e.1 < V ∧ 0 ≤ e.2.1 ∧ e.2.1 < V := by
  unfold fitsE fitsB at h
  simp only [Bool.and_eq_true, decide_eq_true_eq] at h
  omega
theorem scan_step {vals : List Int} {es : List Ed} {r : List Bool} {i : Nat} {e : Ed} (he : es[i]? = some e) : scan vals (es.drop i) r = if dadd (at_ vals e.1) e.2.2 < at_ vals e.2.1 then none else if bat r e.1 = true ∧ bat r e.2.1 = false ∧ at_ vals e.2.1 = dadd (at_ vals e.1) e.2.2 then some (some e.2.1.toNat) else scan vals (es.drop (i + 1)) r := by
  obtain ⟨hi, rfl⟩ := List.getElem?_eq_some_iff.1 he
  rw [List.drop_eq_getElem_cons hi, scan]
theorem scan_end (vals : List Int) (es : List Ed) (r : List Bool) : scan vals (es.drop es.length) r = some none := by rw [List.drop_length]; rfl
theorem cnt_set {r : List Bool} {t : Nat} (h : r[t]? = some false) : cnt (r.set t true) + 1 = cnt r := by
  obtain ⟨hi, h⟩ := List.getElem?_eq_some_iff.1 h
  unfold cnt
  rw [List.countP_set hi, h]
  have : 0 < r.countP (fun b => !b) := List.countP_pos_iff.2 ⟨r[t], List.getElem_mem hi, by rw [h]; rfl⟩
  simp
  omega
theorem close_mark {vals : List Int} {es : List Ed} {r : List Bool} {t : Nat} (h : scan vals es r = some (some t)) (hr : r[t]? = some false) : close vals es (cnt (r.set t true) + 1) (r.set t true) = close vals es (cnt r + 1) r := by
  rw [cnt_set hr]
  rw [show close vals es (cnt r + 1) r = (match scan vals es r with | none => none | some none => some r | some (some t) => close vals es (cnt r) (r.set t true)) from rfl, h]
theorem close_none {vals : List Int} {es : List Ed} {r : List Bool} (n : Nat) (h : scan vals es r = none) : close vals es (n + 1) r = none := by
  rw [close, h]
theorem close_done {vals : List Int} {es : List Ed} {r : List Bool} (n : Nat) (h : scan vals es r = some none) : close vals es (n + 1) r = some r := by
  rw [close, h]
def lastAt (vals : List Int) (r : List Bool) (i : Nat) : Bool := decide (0 ≤ at_ vals (i : Int)) && decide (at_ vals (i : Int) ≤ 4611686018427387904) && (!decide (at_ vals (i : Int) < 4611686018427387904) || bat r (i : Int))
theorem last_end (vals : List Int) (r : List Bool) : lastOk vals r vals.length = true := by simp [lastOk]
theorem last_step (vals : List Int) (r : List Bool) (i : Nat) (h : i < vals.length) : lastOk vals r i = (lastAt vals r i && lastOk vals r (i + 1)) := by
  unfold lastOk
  rw [show vals.length - i = (vals.length - (i + 1)) + 1 by omega, List.range_succ_eq_map, List.all_cons, List.all_map]
  congr 2
  funext k
  simp only [Function.comp]
  rw [show i + Nat.succ k = i + 1 + k by omega]
theorem bat_get {r : List Bool} {k : Nat} (h : k < r.length) : r[k]? = some (bat r (k : Int)) := by
  rw [bat, Int.toNat_natCast, List.getElem?_eq_getElem h]; rfl
theorem row_bat {w : World} {G : Nat} {r : List Bool} {t : TypeId} {fr : Nat × Nat} (h : w.heap[G]? = some (.cells (bools r).toArray t fr)) {k : Nat} (hk : k < r.length) : w.cell? ⟨G, k, none⟩ = some (.bool (bat r (k : Int))) := by
  rw [cell_of_row _ _ _ _ _ _ h, List.getElem?_toArray]
  rw [bools_get hk, bat, Int.toNat_natCast, List.getElem?_eq_getElem hk]; rfl
theorem made_cells {w : World} {base g N : Nat} {xs : List Value} {t : TypeId} (h : w.ownsRow base t 1 (.slice (some ⟨g, 0, none⟩) N N) N xs) : w.heap[g]? = some (.cells xs.toArray t) := by
  rcases h.2 with ⟨e, _⟩ | ⟨g', cap, cur, e, _, hg, _, _, hs, ht⟩
  · cases e
  · injection e with e1 e2 e3
    injection e1 with e1
    injection e1 with e1
    subst e1 e3
    rw [hg, ← ht, List.take_of_length_le (by simp [hs])]
theorem made_no (N : Nat) : (madeCells (Value.bool false).cells (N * 1)).toList = bools (List.replicate N false) := by
  rw [Nat.mul_one, show (Value.bool false).cells = #[Value.bool false] from rfl, toList_madeCells_one]
  simp [bools]

def JF (M q L c b2 off2 c2 : Nat) (A : Option Addr) (w : World) (G : Nat) (u : Nat → Value) : Act := { tmps := #[.agg #[.int .i64 (M : Int), .slice A L c], .int .i64 (q : Int), .slice (some ⟨b2, off2, none⟩) M c2, .pointer (some ⟨w.heap.size, 0, none⟩), undef, undef, u 6, .slice (some ⟨G, 0, none⟩) M M, undef, u 9, u 10, undef, undef, .agg #[.int .i64 (M : Int), .slice A L c], .int .i64 0, .bool false, .bool false, .int .i64 (q : Int), .bool false, .bool false, .bool false, .int .i64 (q : Int), .pointer (some ⟨w.heap.size, 0, none⟩), .int .i64 (M : Int), .bool false, .bool false, .bool false, .slice (some ⟨b2, off2, none⟩) M c2, .int .i64 (M : Int), .pointer (some ⟨w.heap.size, 0, none⟩), .int .i64 (M : Int), .bool false, .bool false, .bool false, .slice (some ⟨b2, off2, none⟩) M c2, .int .i64 (q : Int), .pointer (some ⟨b2, off2 + q, none⟩), .int .i64 0, .bool false, .bool false, .pointer (some ⟨w.heap.size, 0, none⟩), .int .i64 (M : Int), .slice (some ⟨G, 0, none⟩) M M, .slice (some ⟨G, 0, none⟩) M M, .int .i64 (q : Int), .pointer (some ⟨G, q, none⟩), .pointer (some ⟨w.heap.size, 1, none⟩), .slice A L c, .int .i64 (L : Int), u 49, u 50, u 51, u 52, u 53, u 54, u 55, u 56, u 57, u 58, u 59, u 60, u 61, u 62, u 63, u 64, u 65, u 66, u 67, u 68, u 69, u 70, u 71, u 72, u 73, u 74, u 75, u 76, u 77, u 78, u 79, u 80, u 81, u 82, u 83, u 84, u 85, u 86, u 87, u 88, u 89, u 90, u 91, u 92, u 93, undef, undef, undef, undef, undef, undef, undef, undef, undef, undef, undef, undef, undef, undef, undef, undef, undef, undef, undef, undef, undef, undef, undef, undef, undef], defers := [] }
def JP (M q L c b2 off2 c2 : Nat) (A : Option Addr) (w v : World) (vals : List Int) (es : List Ed) (r0 : List Bool) (a' : Act) (w' : World) : Prop :=
  ∃ (G : Nat) (r : List Bool) (u : Nat → Value), a' = JF M q L c b2 off2 c2 A w G u ∧ r.length = M ∧ v.heap.size ≤ G ∧ Hid (close vals es (cnt r + 1) r = close vals es M r0) ∧ w'.heap[G]? = some (.cells (bools r).toArray 4) ∧ Hid (Kept v w') ∧ Hid (Below w.heap.size w w')
theorem JP.mk {M q L c b2 off2 c2 : Nat} {A : Option Addr} {w v : World} {vals : List Int} {es : List Ed} {r0 : List Bool} {a' : Act} {w' : World} (G : Nat) (r : List Bool) (h : a' = JF M q L c b2 off2 c2 A w G (fun k => a'.tmps.getD k undef)) (h1 : r.length = M) (h2 : v.heap.size ≤ G) (h3 : Hid (close vals es (cnt r + 1) r = close vals es M r0)) (h4 : w'.heap[G]? = some (.cells (bools r).toArray 4)) (h5 : Hid (Kept v w')) (h6 : Hid (Below w.heap.size w w')) : JP M q L c b2 off2 c2 A w v vals es r0 a' w' :=
  ⟨G, r, _, h, h1, h2, h3, h4, h5, h6⟩

set_option maxRecDepth 100000 in
set_option maxHeartbeats 16000000 in
theorem tight_any (w : World) (V : Int) (A A2 : Option Addr) (es : List Ed) (vals : List Int) (L c M c2 : Nat) (s : Int) (hL : es.length = L) (hE : Eds w w.heap.size A es) (hc : L ≤ 9223372036854775807) (hM : vals.length = M) (hR : Rd w w.heap.size A2 (vals.map (Value.int .i64))) (hvb : ∀ x ∈ vals, -9223372036854775808 ≤ x ∧ x ≤ 9223372036854775807) :
    Calls Tryz.prog 19 #[.agg #[.int .i64 V, .slice A L c], .int .i64 s, .slice A2 M c2] w fun e w' => e = .returned (.bool (tightF V es s vals)) ∧ Below w.heap.size w w' := by
  obtain ⟨v, hv⟩ : ∃ v, w.alloc (.cells #[.int .i64 V, .slice A L c] 24) = v := ⟨_, rfl⟩
  have hz : v.heap.size = w.heap.size + 1 := by rw [← hv]; simp
  have hb : Below w.heap.size w v := by rw [← hv]; exact (Below.refl _ _).alloc (Nat.le_refl _) _
  have cg : v.heap[w.heap.size]? = some (.cells #[.int .i64 V, .slice A L c] 24) := by rw [← hv]; exact heap_alloc_last w _
  have hlg : w.heap.size < v.heap.size := by omega
  have HE := hide (hE.below hb (Nat.le_refl _))
  have HR := hide (hR.below hb)
  have HV := hide hv
  have HB := hide hb
  have HL := hide hL
  have HM := hide hM
  have HZ := hide hz
  have HCG := hide cg
  have HVB := hide hvb
  clear hv hb hz cg hE hL hR hM hvb
  by_cases hgood : checkF V es = 0 ∧ 0 ≤ s ∧ s < V ∧ (vals.length : Int) = V ∧ at_ vals s = 0
  · have HT : Hid (tightF V es s vals = match close vals es V.toNat ((List.replicate V.toNat false).set s.toNat true) with | none => false | some r => lastOk vals r 0) := hide (by rw [tightF, if_pos hgood])
    obtain ⟨hchk, hs0, hsV, hlen, hat⟩ := hgood
    obtain ⟨hV1, hV2, hok⟩ := checkF_zero hchk
    obtain ⟨N, rfl⟩ := Int.eq_ofNat_of_zero_le (show 0 ≤ V by omega)
    obtain ⟨q, rfl⟩ := Int.eq_ofNat_of_zero_le hs0
    rw [HM.out] at hlen
    obtain rfl : M = N := by omega
    rw [Int.toNat_natCast, Int.toNat_natCast] at HT
    obtain ⟨b2, off2, rfl, hb2, _⟩ := HR.out.at_ (k := q) (by rw [List.length_map, HM.out]; omega)
    have cs0 := at_cell HR.out (k := q) (by rw [HM.out]; omega)
    rw [hat] at cs0
    have HChk := hide hchk
    have HOk := hide hok
    obtain ⟨r0, hr0⟩ : ∃ r0, (List.replicate M false).set q true = r0 := ⟨_, rfl⟩
    have HR0 := hide hr0
    rw [hr0] at HT
    clear hat hchk hok hr0 hlen
    obtain ⟨i0, hi0, hz0, hz1, hz2⟩ := info_parts (show (Tryz.prog.info? 4).map (fun i => (i.zero, i.size, i.bytes)) = some (some (.bool false), 1, 1) by kernel_rfl)
    have hb8 : i0.bytes * M ≤ 281474976710656 := by rw [hz2]; omega
    have hI0 : (0 : Int) ≤ (q : Int) := by omega
    have hI1 : (q : Int) < (M : Int) := by omega
    have dq1 : decide ((q : Int) < 0) = false := decide_eq_false (by omega)
    have dq2 : decide (M ≤ q) = false := decide_eq_false (by omega)
    have hrow0 : Hid ((bools (List.replicate M false)).toArray[q]? = some (.bool false)) := hide (by rw [List.getElem?_toArray, bools_get (by rw [List.length_replicate]; omega)]; simp)
    have cg0 : v.cell? ⟨w.heap.size, 0, none⟩ = some (.int .i64 (M : Int)) := cell_of_row _ _ 0 _ _ _ HCG.out
    have cg1 : v.cell? ⟨w.heap.size, 1, none⟩ = some (.slice A L c) := cell_of_row _ _ 1 _ _ _ HCG.out
    go_enter Tryz.func19, Tryz.ntmps19
    go_wp2
    rw [HV.out]
    refine wp_scope_jumps 0 (JP M q L c b2 off2 c2 A w v vals es r0) (fun a' w' => cntIn w' (blockOf (a'.tmps.getD 7 undef))) rfl ?_ ?_
    · go_wp2_with fail
      refine (check_any _ _ A es L c HL.out (HE.out.more (Nat.le_of_lt hlg)) hc).mono ?_
      rintro e w1 ⟨rfl, hb1⟩
      rw [HChk.out]
      have g0 := (hb1.cell (p := ⟨w.heap.size, 0, none⟩) hlg).trans cg0
      have g1 := (hb1.cell (p := ⟨w.heap.size, 1, none⟩) hlg).trans cg1
      have g2 := (hb1.cell (p := ⟨b2, off2 + q, none⟩) (by show b2 < _; omega)).trans cs0
      have HB1 := hide hb1
      have hs1 := hb1.size
      clear hb1 cs0 cg0 cg1
      go_wp2_with (at_make; refine wpList_make_full _ rfl (.tmp 41) (.tmp 41) 32 rfl w1.heap.size 4 i0 (.bool false) 1 Tryz.underlying32 hi0 hz0 hz1 .i64 .i64 _ _ M rfl rfl ?_ ?_ hb8 (by unfold maxLen; omega) (Nat.le_refl _) ?_; rfl; rfl; intro w2 hown2 hg2; have hb2w : Below w1.heap.size w1 w2 := (Below.refl _ w1).grown hg2 (Nat.le_refl _) (fun k e => by cases e); have hm0 := made_cells hown2; rw [made_no] at hm0; have hc0 := cell_of_row _ _ q _ _ _ hm0; have hf0 := frozen_of_row _ _ q _ _ hm0; have HM0 := hide hm0; have HBW := hide hb2w; rw [hrow0.out] at hc0; clear hown2 hg2 hm0 hb2w)
      have hrow := heap_setCell_same _ _ q _ _ (.bool true) HM0.out
      rw [List.setIfInBounds_toArray, bools_set, HR0.out] at hrow
      have hbq : Hid (Below w.heap.size w (w2.setCell ⟨w1.heap.size, q, none⟩ (.bool true))) := hide (((HB.out.trans (HB1.out.mono (by omega))).trans (HBW.out.mono (by omega))).setCell (p := ⟨w1.heap.size, q, none⟩) (by show _ ≤ w1.heap.size; omega) _)
      have hkq : Hid (Kept v (w2.setCell ⟨w1.heap.size, q, none⟩ (.bool true))) := hide (fun p hp => (World.cell?_setCell_far w2 ⟨w1.heap.size, q, none⟩ p _ (by first | (show p.block ≠ w1.heap.size; omega) | (show w1.heap.size ≠ p.block; omega))).trans ((HBW.out.cell (by omega)).trans (HB1.out.cell hp)))
      obtain ⟨wq, hwq⟩ : ∃ wq, w2.setCell ⟨w1.heap.size, q, none⟩ (.bool true) = wq := ⟨_, rfl⟩
      rw [hwq] at hrow hbq hkq ⊢
      obtain ⟨G, hGe⟩ : ∃ G, w1.heap.size = G := ⟨_, rfl⟩
      rw [hGe] at hrow ⊢
      have hG : v.heap.size ≤ G := by omega
      have hrl : r0.length = M := by rw [← HR0.out, List.length_set, List.length_replicate]
      have hcn : cnt r0 + 1 = M := by
        rw [← HR0.out, cnt_set (by rw [List.getElem?_replicate, if_pos (by omega)])]
        unfold cnt
        rw [List.countP_replicate]
        simp
      obtain ⟨r, hrr⟩ : ∃ r, r0 = r := ⟨_, rfl⟩
      have hcl : Hid (close vals es (cnt r + 1) r = close vals es M r0) := hide (by rw [← hrr, hcn])
      rw [hrr] at hrl hrow
      clear hwq hGe hrr hcn HM0 HBW HB1 g0 g1 g2 hs1 hc0 hf0
      go_step3
      have HRow := hide hrow
      have HRow0 := hide hrow
      have hsq := hbq.out.size
      have hlq := lt_of_block hrow
      clear hrow
      have gq0 : wq.cell? ⟨w.heap.size, 0, none⟩ = some (.int .i64 (M : Int)) := (hkq.out ⟨w.heap.size, 0, none⟩ hlg).trans (cell_of_row _ _ 0 _ _ _ HCG.out)
      have gq1 : wq.cell? ⟨w.heap.size, 1, none⟩ = some (.slice A L c) := (hkq.out ⟨w.heap.size, 1, none⟩ hlg).trans (cell_of_row _ _ 1 _ _ _ HCG.out)
      go_wp2
      go_loopw [49] (fun vi wr => ∃ i : Nat, i ≤ L ∧ vi = .int .i64 i ∧ Hid (scan vals es r = scan vals (es.drop i) r) ∧ Hid (wr.heap[G]? = some (.cells (bools r).toArray 4)) ∧ Hid (Kept v wr) ∧ Below w.heap.size w wr ∧ Below (w.heap.size + 1) wq wr) (fun vi _ => L - (intOf vi).toNat)
      case atStart => exact ⟨0, by omega, rfl, hide rfl, HRow, hkq, hbq.out, Below.refl _ _⟩
      case round =>
        obtain ⟨i, hi, rfl, hsc, hrw, hkr, hbr, hbqr⟩ := hrel
        clear HRow
        have hsr := hbr.size
        by_cases hlt : i < L
        · obtain ⟨e, he⟩ : ∃ e, es[i]? = some e := ⟨_, List.getElem?_eq_getElem (by rw [HL.out]; exact hlt)⟩
          have hfit := fits_bounds (ok_all HOk.out he)
          obtain ⟨b, off, rfl, hbl, c0, c1, c2', hx1, hx2⟩ := Eds.get HE.out he
          have HStep := hide (scan_step (vals := vals) (r := r) he)
          obtain ⟨e1, e2, e3⟩ := e
          dsimp only at c0 c1 c2' hfit hx1 hx2 HStep
          obtain ⟨f, rfl⟩ := Int.eq_ofNat_of_zero_le hfit.1
          obtain ⟨t, rfl⟩ := Int.eq_ofNat_of_zero_le hfit.2.2.1
          have hfM : f < M := by omega
          have htM : t < M := by omega
          have k0 := (hkr.out ⟨b, off + i * 3, none⟩ (by show b < _; omega)).trans c0
          have k1 := (hkr.out ⟨b, off + i * 3 + 1, none⟩ (by show b < _; omega)).trans c1
          have k2 := (hkr.out ⟨b, off + i * 3 + 2, none⟩ (by show b < _; omega)).trans c2'
          have hI0 : (0 : Int) ≤ (i : Int) := by omega
          have hI1 : (i : Int) < (L : Int) := by omega
          clear he c0 c1 c2' hfit
          go_wp2
          obtain ⟨u, hu⟩ : ∃ u, wr.alloc (.cells #[.int .i64 (f : Int), .int .i64 (t : Int), .int .i64 e3] 46) = u := ⟨_, rfl⟩
          have hbu : Below wr.heap.size wr u := by rw [← hu]; exact (Below.refl _ _).alloc (Nat.le_refl _) _
          have ce : u.heap[wr.heap.size]? = some (.cells #[.int .i64 (f : Int), .int .i64 (t : Int), .int .i64 e3] 46) := by rw [← hu]; exact heap_alloc_last wr _
          have ue0 : u.cell? ⟨wr.heap.size, 0, none⟩ = some (.int .i64 (f : Int)) := cell_of_row _ _ 0 _ _ _ ce
          have ue1 : u.cell? ⟨wr.heap.size, 1, none⟩ = some (.int .i64 (t : Int)) := cell_of_row _ _ 1 _ _ _ ce
          have ue2 : u.cell? ⟨wr.heap.size, 2, none⟩ = some (.int .i64 e3) := cell_of_row _ _ 2 _ _ _ ce
          have hlu : wr.heap.size < u.heap.size := lt_of_block ce
          have hvr : v.heap.size ≤ wr.heap.size := by have h1 := lt_of_block hrw.out; omega
          have hku : Hid (Kept v u) := hide (hkr.out.below hvr hbu)
          have hrwu := (hbu.block G (lt_of_block hrw.out)).trans hrw.out
          have uf := ((hku.out ⟨b2, off2 + f, none⟩ (by show b2 < _; omega)).trans (at_cell HR.out (by rw [HM.out]; exact hfM)))
          have ut := ((hku.out ⟨b2, off2 + t, none⟩ (by show b2 < _; omega)).trans (at_cell HR.out (by rw [HM.out]; exact htM)))
          have urf := row_bat hrwu (k := f) (by omega)
          have urt := row_bat hrwu (k := t) (by omega)
          have uff := frozen_of_row _ _ t _ _ hrwu
          have hbF := HVB.out (at_ vals f) (by unfold at_; rw [Int.toNat_natCast, List.getElem?_eq_getElem (by rw [HM.out]; exact hfM)]; exact List.getElem_mem _)
          have hlb2 : b2 < u.heap.size := by omega
          have hlG : G < u.heap.size := lt_of_block hrwu
          have hwu := hbr.trans (hbu.mono hsr)
          have hwqu := hbqr.trans (hbu.mono (by omega))
          have HU := hide hu
          have HRU := hide hrwu
          have hf0 : (0 : Int) ≤ (f : Int) := by omega
          have hf1 : (f : Int) < (M : Int) := by omega
          have ht0 : (0 : Int) ≤ (t : Int) := by omega
          have ht1 : (t : Int) < (M : Int) := by omega
          obtain ⟨F, hF⟩ : ∃ F, at_ vals (f : Int) = F := ⟨_, rfl⟩
          obtain ⟨X, hX⟩ : ∃ X, at_ vals (t : Int) = X := ⟨_, rfl⟩
          obtain ⟨RF, hRF⟩ : ∃ RF, bat r (f : Int) = RF := ⟨_, rfl⟩
          obtain ⟨RT, hRT⟩ : ∃ RT, bat r (t : Int) = RT := ⟨_, rfl⟩
          rw [hF] at uf hbF HStep
          rw [hX] at ut HStep
          rw [hRF] at urf HStep
          rw [hRT] at urt HStep
          have HRT := hide hRT
          clear hu ce hbu hrw hkr hbr hbqr hF hX hRF hRT hrwu k0 k1 k2
          go_wp2
          rw [HU.out]
          refine wp_region_held_drew (S := Kept u) (by kernel_rfl) (Kept.drew u) (fun hS0 => ?_)
          refine take_at (i := 0) (d := 53) (v := ?_) (by simp only [List.getElem?_toArray, List.getElem?_cons_succ, List.getElem?_cons_zero]; rfl) rfl (by kernel_rfl) (by kernel_rfl) (by kernel_rfl) (fun _ _ _ h => h) rfl ?_ (by assumption) ?_
          rotate_left
          · intro w hSw
            go_simp
            try with_reducible rfl
          try simp only [List.setIfInBounds_toArray, List.set_cons_zero, List.set_cons_succ]
          refine take_at (i := 1) (d := 54) (v := ?_) (by simp only [List.getElem?_toArray, List.getElem?_cons_succ, List.getElem?_cons_zero]; rfl) rfl (by kernel_rfl) (by kernel_rfl) (by kernel_rfl) (fun _ _ _ h => h) rfl ?_ (by assumption) ?_
          rotate_left
          · intro w hSw
            go_simp
            try with_reducible rfl
          try simp only [List.setIfInBounds_toArray, List.set_cons_zero, List.set_cons_succ]
          refine take_at (i := 2) (d := 55) (v := ?_) (by simp only [List.getElem?_toArray, List.getElem?_cons_succ, List.getElem?_cons_zero]; rfl) rfl (by kernel_rfl) (by kernel_rfl) (by kernel_rfl) (fun _ _ _ h => h) rfl ?_ (by assumption) ?_
          rotate_left
          · intro w hSw
            go_simp
            try with_reducible rfl
          try simp only [List.setIfInBounds_toArray, List.set_cons_zero, List.set_cons_succ]
          refine take_at (i := 3) (d := 56) (v := ?_) (by simp only [List.getElem?_toArray, List.getElem?_cons_succ, List.getElem?_cons_zero]; rfl) rfl (by kernel_rfl) (by kernel_rfl) (by kernel_rfl) (fun _ _ _ h => h) rfl ?_ (by assumption) ?_
          rotate_left
          · intro w hSw
            go_simp
            try with_reducible rfl
          try simp only [List.setIfInBounds_toArray, List.set_cons_zero, List.set_cons_succ]
          refine take_at (i := 4) (d := 57) (v := ?_) (by simp only [List.getElem?_toArray, List.getElem?_cons_succ, List.getElem?_cons_zero]; rfl) rfl (by kernel_rfl) (by kernel_rfl) (by kernel_rfl) (fun _ _ _ h => h) rfl ?_ (by assumption) ?_
          rotate_left
          · intro w hSw
            go_simp
            try with_reducible rfl
          try simp only [List.setIfInBounds_toArray, List.set_cons_zero, List.set_cons_succ]
          refine take_at (i := 5) (d := 58) (v := ?_) (by simp only [List.getElem?_toArray, List.getElem?_cons_succ, List.getElem?_cons_zero]; rfl) rfl (by kernel_rfl) (by kernel_rfl) (by kernel_rfl) (fun _ _ _ h => h) rfl ?_ (by assumption) ?_
          rotate_left
          · intro w hSw
            go_simp
            try with_reducible rfl
          try simp only [List.setIfInBounds_toArray, List.set_cons_zero, List.set_cons_succ]
          refine call_at (i := 6) (d := 59) (by simp only [List.getElem?_toArray, List.getElem?_cons_succ, List.getElem?_cons_zero]; rfl) rfl (by kernel_rfl) rfl (fun K hK => ?_)
          go_simp
          refine (give_any _ F (f : Int) (t : Int) e3 hbF.1 hbF.2 hx1 hx2).mono ?_
          rintro e y1 ⟨rfl, hy1⟩
          have hS1 : Kept u y1 := hS0.below (by simp) hy1
          have HY1 := hide hy1
          clear hy1
          go_wp2_with fail
          refine hK.out _ _ hS1 (fun hSn => ?_)
          clear hK K
          try simp only [List.setIfInBounds_toArray, List.set_cons_zero, List.set_cons_succ]
          refine take_at (i := 7) (d := 10) (v := ?_) (by simp only [List.getElem?_toArray, List.getElem?_cons_succ, List.getElem?_cons_zero]; rfl) rfl (by kernel_rfl) (by kernel_rfl) (by kernel_rfl) (fun _ _ _ h => h) rfl ?_ (by assumption) ?_
          rotate_left
          · intro w hSw
            go_simp
            try with_reducible rfl
          try simp only [List.setIfInBounds_toArray, List.set_cons_zero, List.set_cons_succ]
          refine wpAnyH_done (by kernel_rfl) ?_ _
          clear hS0 hSn
          obtain ⟨d, hd⟩ : ∃ d, dadd F e3 = d := ⟨_, rfl⟩
          rw [hd] at HStep ⊢
          have y0 := (hS1 ⟨wr.heap.size, 0, none⟩ hlu).trans ue0
          have ye1 := (hS1 ⟨wr.heap.size, 1, none⟩ hlu).trans ue1
          have yt := (hS1 ⟨b2, off2 + t, none⟩ hlb2).trans ut
          have yrf := (hS1 ⟨G, f, none⟩ hlG).trans urf
          have yrt := (hS1 ⟨G, t, none⟩ hlG).trans urt
          have hYb : Below u.heap.size u y1 := (Below.refl u.heap.size u).drew.trans HY1.out
          have yrow := hide ((hYb.block G hlG).trans HRU.out)
          have yfz := frozen_of_row _ _ t _ _ yrow.out
          have hkY : Hid (Kept v y1) := hide (hku.out.below (by omega) hYb)
          have hwY := hwu.trans (hYb.mono hwu.size)
          have hwqY := hwqu.trans (hYb.mono (by omega))
          clear hS1 HY1 hYb ue0 ue1 ue2 uf ut urf urt uff hku hwu hwqu hd HRU HU
          by_cases hgt : d < X
          · have hn : scan vals es r = none := by rw [hsc.out, HStep.out, if_pos hgt]
            have htf : tightF (M : Int) es (q : Int) vals = false := by rw [HT.out, ← hcl.out, close_none _ hn]
            have HTF := hide htf
            clear hn htf
            go_wp2
            simp only [Exit.jump]
            go_ret
            exact ⟨ret_bool (by rw [HTF.out]), hwY⟩
          · rw [if_neg hgt] at HStep
            by_cases hmk : RF = true ∧ RT = false ∧ X = d
            · obtain ⟨rfl, rfl, rfl⟩ := hmk
              have hn : scan vals es r = some (some t) := by rw [hsc.out, HStep.out, if_pos ⟨rfl, rfl, rfl⟩, Int.toNat_natCast]
              have hrt : r[t]? = some false := by rw [bat_get (by omega), HRT.out]
              have hnew := heap_setCell_same _ _ t _ _ (.bool true) yrow.out
              rw [List.setIfInBounds_toArray, bools_set] at hnew
              have HNew := hide hnew
              have HCl := hide ((close_mark hn hrt).trans hcl.out)
              have HCnt := hide (cnt_set hrt)
              have HKs : Hid (Kept v (y1.setCell ⟨G, t, none⟩ (.bool true))) := hide (fun p hp => (World.cell?_setCell_far y1 ⟨G, t, none⟩ p _ (by first | (show p.block ≠ G; omega) | (show G ≠ p.block; omega))).trans (hkY.out p hp))
              have HBs := hide (hwY.setCell (p := ⟨G, t, none⟩) (by show _ ≤ G; omega) (.bool true))
              clear hn hrt hnew hwY hwqY hkY
              go_wp2
              go_step3
              exact ⟨rfl, JP.mk G (r.set t true) rfl (by rw [List.length_set]; exact hrl) hG HCl HNew.out HKs HBs⟩
            · rw [if_neg hmk] at HStep
              have HSc := hide (hsc.out.trans HStep.out)
              have hmk' : (RF && !RT && decide (X = d)) = false := by
                rw [Bool.eq_false_iff]; intro h; simp only [Bool.and_eq_true, Bool.not_eq_true', decide_eq_true_eq] at h; exact hmk ⟨h.1.1, h.1.2, h.2⟩
              cases RF
              · go_wp2
                go_roundw
                case rel => exact ⟨i + 1, by omega, by go_num, HSc, yrow, hkY, hwY, hwqY⟩
                case measure => simp [intOf]; omega
              · cases RT
                · have hne : ¬ X = d := fun h => hmk ⟨rfl, rfl, h⟩
                  go_wp2
                  go_roundw
                  case rel => exact ⟨i + 1, by omega, by go_num, HSc, yrow, hkY, hwY, hwqY⟩
                  case measure => simp [intOf]; omega
                · go_wp2
                  go_roundw
                  case rel => exact ⟨i + 1, by omega, by go_num, HSc, yrow, hkY, hwY, hwqY⟩
                  case measure => simp [intOf]; omega
        · obtain rfl : i = L := by omega
          have hend : scan vals es r = some none := hsc.out.trans (by rw [← HL.out]; exact scan_end _ _ _)
          have htf : tightF (M : Int) es (q : Int) vals = lastOk vals r 0 := by rw [HT.out, ← hcl.out, close_done _ hend]
          have HTF := hide htf
          have HRW := hide hrw.out
          have HBR := hide hbr
          clear hend htf hrw gq0 gq1
          go_wp2
          obtain ⟨wo, hwo⟩ : ∃ wo, wr = wo := ⟨_, rfl⟩
          subst hwo
          go_loop [96] (fun vi => ∃ j : Nat, j ≤ M ∧ vi = .int .i64 j ∧ Hid (lastOk vals r 0 = lastOk vals r j)) (fun vi => M - (intOf vi).toNat)
          case atStart => exact ⟨0, by omega, rfl, hide rfl⟩
          case round =>
            obtain ⟨j, hj, rfl, hla⟩ := hrel
            by_cases hjM : j < M
            · have zc := ((hkr.out ⟨b2, off2 + j, none⟩ (by show b2 < _; omega)).trans (at_cell HR.out (by rw [HM.out]; exact hjM)))
              have zr := row_bat HRW.out (k := j) (by omega)
              have HS := hide (last_step vals r j (by rw [HM.out]; exact hjM))
              have HA : Hid (lastAt vals r j = (decide (0 ≤ at_ vals (j : Int)) && decide (at_ vals (j : Int) ≤ 4611686018427387904) && (!decide (at_ vals (j : Int) < 4611686018427387904) || bat r (j : Int)))) := hide rfl
              obtain ⟨x, hx⟩ : ∃ x, at_ vals (j : Int) = x := ⟨_, rfl⟩
              obtain ⟨rb, hrb⟩ : ∃ rb, bat r (j : Int) = rb := ⟨_, rfl⟩
              rw [hx] at zc HA
              rw [hrb] at zr HA
              have hj0 : (0 : Int) ≤ (j : Int) := by omega
              have hj1 : (j : Int) < (M : Int) := by omega
              clear hx hrb
              have hfin : lastAt vals r j = false → tightF (M : Int) es (q : Int) vals = false := fun h => by rw [HTF.out, hla.out, HS.out, h]; rfl
              have hgo : lastAt vals r j = true → lastOk vals r 0 = lastOk vals r (j + 1) := fun h => by rw [hla.out, HS.out, h]; rfl
              have HFin := hide hfin
              have HGo := hide hgo
              clear hfin hgo
              by_cases h1 : x < 0
              · have HF := hide (HFin.out (by rw [HA.out, decide_eq_false (by omega)]; rfl))
                go_wp2
                simp only [Exit.jump]
                go_ret
                exact ⟨ret_bool (by rw [HF.out]), HBR.out⟩
              · by_cases h2 : 4611686018427387904 < x
                · have HF := hide (HFin.out (by rw [HA.out, decide_eq_true (show 0 ≤ x by omega), decide_eq_false (show ¬ x ≤ 4611686018427387904 by omega)]; rfl))
                  go_wp2
                  simp only [Exit.jump]
                  go_ret
                  exact ⟨ret_bool (by rw [HF.out]), HBR.out⟩
                · by_cases h3 : x < 4611686018427387904
                  · cases rb
                    · have HF := hide (HFin.out (by rw [HA.out, decide_eq_true (show 0 ≤ x by omega), decide_eq_true (show x ≤ 4611686018427387904 by omega), decide_eq_true h3]; rfl))
                      go_wp2
                      simp only [Exit.jump]
                      go_ret
                      exact ⟨ret_bool (by rw [HF.out]), HBR.out⟩
                    · have HG := hide (HGo.out (by rw [HA.out, decide_eq_true (show 0 ≤ x by omega), decide_eq_true (show x ≤ 4611686018427387904 by omega), decide_eq_true h3]; rfl))
                      go_wp2
                      go_round
                      case rel => exact ⟨j + 1, by omega, by go_num, HG⟩
                      case measure => simp [intOf]; omega
                  · have HG := hide (HGo.out (by rw [HA.out, decide_eq_true (show 0 ≤ x by omega), decide_eq_true (show x ≤ 4611686018427387904 by omega), decide_eq_false h3]; rfl))
                    go_wp2
                    go_round
                    case rel => exact ⟨j + 1, by omega, by go_num, HG⟩
                    case measure => simp [intOf]; omega
            · obtain rfl : M = j := by omega
              have HF : Hid (tightF (M : Int) es (q : Int) vals = true) := hide (by rw [HTF.out, hla.out, ← HM.out]; exact last_end _ _)
              go_wp2
              simp only [Exit.jump]
              go_ret
              exact ⟨ret_bool (by rw [HF.out]), HBR.out⟩
    · rintro a' wq ⟨G, r, u, rfl, hrl, hG, hcl, hrow, hkq, hbq⟩
      unfold JF
      dsimp only
      have HRow := hide hrow
      have HRow0 := hide hrow
      have hsq := hbq.out.size
      have hlq := lt_of_block hrow
      clear hrow
      have gq0 : wq.cell? ⟨w.heap.size, 0, none⟩ = some (.int .i64 (M : Int)) := (hkq.out ⟨w.heap.size, 0, none⟩ hlg).trans (cell_of_row _ _ 0 _ _ _ HCG.out)
      have gq1 : wq.cell? ⟨w.heap.size, 1, none⟩ = some (.slice A L c) := (hkq.out ⟨w.heap.size, 1, none⟩ hlg).trans (cell_of_row _ _ 1 _ _ _ HCG.out)
      go_wp2
      go_loopw [49] (fun vi wr => ∃ i : Nat, i ≤ L ∧ vi = .int .i64 i ∧ Hid (scan vals es r = scan vals (es.drop i) r) ∧ Hid (wr.heap[G]? = some (.cells (bools r).toArray 4)) ∧ Hid (Kept v wr) ∧ Below w.heap.size w wr ∧ Below (w.heap.size + 1) wq wr) (fun vi _ => L - (intOf vi).toNat)
      case atStart => exact ⟨0, by omega, rfl, hide rfl, HRow, hkq, hbq.out, Below.refl _ _⟩
      case round =>
        obtain ⟨i, hi, rfl, hsc, hrw, hkr, hbr, hbqr⟩ := hrel
        clear HRow
        have hsr := hbr.size
        by_cases hlt : i < L
        · obtain ⟨e, he⟩ : ∃ e, es[i]? = some e := ⟨_, List.getElem?_eq_getElem (by rw [HL.out]; exact hlt)⟩
          have hfit := fits_bounds (ok_all HOk.out he)
          obtain ⟨b, off, rfl, hbl, c0, c1, c2', hx1, hx2⟩ := Eds.get HE.out he
          have HStep := hide (scan_step (vals := vals) (r := r) he)
          obtain ⟨e1, e2, e3⟩ := e
          dsimp only at c0 c1 c2' hfit hx1 hx2 HStep
          obtain ⟨f, rfl⟩ := Int.eq_ofNat_of_zero_le hfit.1
          obtain ⟨t, rfl⟩ := Int.eq_ofNat_of_zero_le hfit.2.2.1
          have hfM : f < M := by omega
          have htM : t < M := by omega
          have k0 := (hkr.out ⟨b, off + i * 3, none⟩ (by show b < _; omega)).trans c0
          have k1 := (hkr.out ⟨b, off + i * 3 + 1, none⟩ (by show b < _; omega)).trans c1
          have k2 := (hkr.out ⟨b, off + i * 3 + 2, none⟩ (by show b < _; omega)).trans c2'
          have hI0 : (0 : Int) ≤ (i : Int) := by omega
          have hI1 : (i : Int) < (L : Int) := by omega
          clear he c0 c1 c2' hfit
          go_wp2
          obtain ⟨u, hu⟩ : ∃ u, wr.alloc (.cells #[.int .i64 (f : Int), .int .i64 (t : Int), .int .i64 e3] 46) = u := ⟨_, rfl⟩
          have hbu : Below wr.heap.size wr u := by rw [← hu]; exact (Below.refl _ _).alloc (Nat.le_refl _) _
          have ce : u.heap[wr.heap.size]? = some (.cells #[.int .i64 (f : Int), .int .i64 (t : Int), .int .i64 e3] 46) := by rw [← hu]; exact heap_alloc_last wr _
          have ue0 : u.cell? ⟨wr.heap.size, 0, none⟩ = some (.int .i64 (f : Int)) := cell_of_row _ _ 0 _ _ _ ce
          have ue1 : u.cell? ⟨wr.heap.size, 1, none⟩ = some (.int .i64 (t : Int)) := cell_of_row _ _ 1 _ _ _ ce
          have ue2 : u.cell? ⟨wr.heap.size, 2, none⟩ = some (.int .i64 e3) := cell_of_row _ _ 2 _ _ _ ce
          have hlu : wr.heap.size < u.heap.size := lt_of_block ce
          have hvr : v.heap.size ≤ wr.heap.size := by have h1 := lt_of_block hrw.out; omega
          have hku : Hid (Kept v u) := hide (hkr.out.below hvr hbu)
          have hrwu := (hbu.block G (lt_of_block hrw.out)).trans hrw.out
          have uf := ((hku.out ⟨b2, off2 + f, none⟩ (by show b2 < _; omega)).trans (at_cell HR.out (by rw [HM.out]; exact hfM)))
          have ut := ((hku.out ⟨b2, off2 + t, none⟩ (by show b2 < _; omega)).trans (at_cell HR.out (by rw [HM.out]; exact htM)))
          have urf := row_bat hrwu (k := f) (by omega)
          have urt := row_bat hrwu (k := t) (by omega)
          have uff := frozen_of_row _ _ t _ _ hrwu
          have hbF := HVB.out (at_ vals f) (by unfold at_; rw [Int.toNat_natCast, List.getElem?_eq_getElem (by rw [HM.out]; exact hfM)]; exact List.getElem_mem _)
          have hlb2 : b2 < u.heap.size := by omega
          have hlG : G < u.heap.size := lt_of_block hrwu
          have hwu := hbr.trans (hbu.mono hsr)
          have hwqu := hbqr.trans (hbu.mono (by omega))
          have HU := hide hu
          have HRU := hide hrwu
          have hf0 : (0 : Int) ≤ (f : Int) := by omega
          have hf1 : (f : Int) < (M : Int) := by omega
          have ht0 : (0 : Int) ≤ (t : Int) := by omega
          have ht1 : (t : Int) < (M : Int) := by omega
          obtain ⟨F, hF⟩ : ∃ F, at_ vals (f : Int) = F := ⟨_, rfl⟩
          obtain ⟨X, hX⟩ : ∃ X, at_ vals (t : Int) = X := ⟨_, rfl⟩
          obtain ⟨RF, hRF⟩ : ∃ RF, bat r (f : Int) = RF := ⟨_, rfl⟩
          obtain ⟨RT, hRT⟩ : ∃ RT, bat r (t : Int) = RT := ⟨_, rfl⟩
          rw [hF] at uf hbF HStep
          rw [hX] at ut HStep
          rw [hRF] at urf HStep
          rw [hRT] at urt HStep
          have HRT := hide hRT
          clear hu ce hbu hrw hkr hbr hbqr hF hX hRF hRT hrwu k0 k1 k2
          go_wp2
          rw [HU.out]
          refine wp_region_held_drew (S := Kept u) (by kernel_rfl) (Kept.drew u) (fun hS0 => ?_)
          refine take_at (i := 0) (d := 53) (v := ?_) (by simp only [List.getElem?_toArray, List.getElem?_cons_succ, List.getElem?_cons_zero]; rfl) rfl (by kernel_rfl) (by kernel_rfl) (by kernel_rfl) (fun _ _ _ h => h) rfl ?_ (by assumption) ?_
          rotate_left
          · intro w hSw
            go_simp
            try with_reducible rfl
          try simp only [List.setIfInBounds_toArray, List.set_cons_zero, List.set_cons_succ]
          refine take_at (i := 1) (d := 54) (v := ?_) (by simp only [List.getElem?_toArray, List.getElem?_cons_succ, List.getElem?_cons_zero]; rfl) rfl (by kernel_rfl) (by kernel_rfl) (by kernel_rfl) (fun _ _ _ h => h) rfl ?_ (by assumption) ?_
          rotate_left
          · intro w hSw
            go_simp
            try with_reducible rfl
          try simp only [List.setIfInBounds_toArray, List.set_cons_zero, List.set_cons_succ]
          refine take_at (i := 2) (d := 55) (v := ?_) (by simp only [List.getElem?_toArray, List.getElem?_cons_succ, List.getElem?_cons_zero]; rfl) rfl (by kernel_rfl) (by kernel_rfl) (by kernel_rfl) (fun _ _ _ h => h) rfl ?_ (by assumption) ?_
          rotate_left
          · intro w hSw
            go_simp
            try with_reducible rfl
          try simp only [List.setIfInBounds_toArray, List.set_cons_zero, List.set_cons_succ]
          refine take_at (i := 3) (d := 56) (v := ?_) (by simp only [List.getElem?_toArray, List.getElem?_cons_succ, List.getElem?_cons_zero]; rfl) rfl (by kernel_rfl) (by kernel_rfl) (by kernel_rfl) (fun _ _ _ h => h) rfl ?_ (by assumption) ?_
          rotate_left
          · intro w hSw
            go_simp
            try with_reducible rfl
          try simp only [List.setIfInBounds_toArray, List.set_cons_zero, List.set_cons_succ]
          refine take_at (i := 4) (d := 57) (v := ?_) (by simp only [List.getElem?_toArray, List.getElem?_cons_succ, List.getElem?_cons_zero]; rfl) rfl (by kernel_rfl) (by kernel_rfl) (by kernel_rfl) (fun _ _ _ h => h) rfl ?_ (by assumption) ?_
          rotate_left
          · intro w hSw
            go_simp
            try with_reducible rfl
          try simp only [List.setIfInBounds_toArray, List.set_cons_zero, List.set_cons_succ]
          refine take_at (i := 5) (d := 58) (v := ?_) (by simp only [List.getElem?_toArray, List.getElem?_cons_succ, List.getElem?_cons_zero]; rfl) rfl (by kernel_rfl) (by kernel_rfl) (by kernel_rfl) (fun _ _ _ h => h) rfl ?_ (by assumption) ?_
          rotate_left
          · intro w hSw
            go_simp
            try with_reducible rfl
          try simp only [List.setIfInBounds_toArray, List.set_cons_zero, List.set_cons_succ]
          refine call_at (i := 6) (d := 59) (by simp only [List.getElem?_toArray, List.getElem?_cons_succ, List.getElem?_cons_zero]; rfl) rfl (by kernel_rfl) rfl (fun K hK => ?_)
          go_simp
          refine (give_any _ F (f : Int) (t : Int) e3 hbF.1 hbF.2 hx1 hx2).mono ?_
          rintro e y1 ⟨rfl, hy1⟩
          have hS1 : Kept u y1 := hS0.below (by simp) hy1
          have HY1 := hide hy1
          clear hy1
          go_wp2_with fail
          refine hK.out _ _ hS1 (fun hSn => ?_)
          clear hK K
          try simp only [List.setIfInBounds_toArray, List.set_cons_zero, List.set_cons_succ]
          refine take_at (i := 7) (d := 10) (v := ?_) (by simp only [List.getElem?_toArray, List.getElem?_cons_succ, List.getElem?_cons_zero]; rfl) rfl (by kernel_rfl) (by kernel_rfl) (by kernel_rfl) (fun _ _ _ h => h) rfl ?_ (by assumption) ?_
          rotate_left
          · intro w hSw
            go_simp
            try with_reducible rfl
          try simp only [List.setIfInBounds_toArray, List.set_cons_zero, List.set_cons_succ]
          refine wpAnyH_done (by kernel_rfl) ?_ _
          clear hS0 hSn
          obtain ⟨d, hd⟩ : ∃ d, dadd F e3 = d := ⟨_, rfl⟩
          rw [hd] at HStep ⊢
          have y0 := (hS1 ⟨wr.heap.size, 0, none⟩ hlu).trans ue0
          have ye1 := (hS1 ⟨wr.heap.size, 1, none⟩ hlu).trans ue1
          have yt := (hS1 ⟨b2, off2 + t, none⟩ hlb2).trans ut
          have yrf := (hS1 ⟨G, f, none⟩ hlG).trans urf
          have yrt := (hS1 ⟨G, t, none⟩ hlG).trans urt
          have hYb : Below u.heap.size u y1 := (Below.refl u.heap.size u).drew.trans HY1.out
          have yrow := hide ((hYb.block G hlG).trans HRU.out)
          have yfz := frozen_of_row _ _ t _ _ yrow.out
          have hkY : Hid (Kept v y1) := hide (hku.out.below (by omega) hYb)
          have hwY := hwu.trans (hYb.mono hwu.size)
          have hwqY := hwqu.trans (hYb.mono (by omega))
          clear hS1 HY1 hYb ue0 ue1 ue2 uf ut urf urt uff hku hwu hwqu hd HRU HU
          by_cases hgt : d < X
          · have hn : scan vals es r = none := by rw [hsc.out, HStep.out, if_pos hgt]
            have htf : tightF (M : Int) es (q : Int) vals = false := by rw [HT.out, ← hcl.out, close_none _ hn]
            have HTF := hide htf
            clear hn htf
            go_wp2
            simp only [Exit.jump]
            go_ret
            exact ⟨ret_bool (by rw [HTF.out]), hwY⟩
          · rw [if_neg hgt] at HStep
            by_cases hmk : RF = true ∧ RT = false ∧ X = d
            · obtain ⟨rfl, rfl, rfl⟩ := hmk
              have hn : scan vals es r = some (some t) := by rw [hsc.out, HStep.out, if_pos ⟨rfl, rfl, rfl⟩, Int.toNat_natCast]
              have hrt : r[t]? = some false := by rw [bat_get (by omega), HRT.out]
              have hnew := heap_setCell_same _ _ t _ _ (.bool true) yrow.out
              rw [List.setIfInBounds_toArray, bools_set] at hnew
              have HNew := hide hnew
              have HCl := hide ((close_mark hn hrt).trans hcl.out)
              have HCnt := hide (cnt_set hrt)
              have HKs : Hid (Kept v (y1.setCell ⟨G, t, none⟩ (.bool true))) := hide (fun p hp => (World.cell?_setCell_far y1 ⟨G, t, none⟩ p _ (by first | (show p.block ≠ G; omega) | (show G ≠ p.block; omega))).trans (hkY.out p hp))
              have HBs := hide (hwY.setCell (p := ⟨G, t, none⟩) (by show _ ≤ G; omega) (.bool true))
              clear hn hrt hnew hwY hwqY hkY
              go_wp2
              go_step3
              exact ⟨rfl, JP.mk G (r.set t true) rfl (by rw [List.length_set]; exact hrl) hG HCl HNew.out HKs HBs, by show cntIn _ G < cntIn _ G; rw [cntIn_row HNew.out, cntIn_row HRow0.out]; have := HCnt.out; omega⟩
            · rw [if_neg hmk] at HStep
              have HSc := hide (hsc.out.trans HStep.out)
              have hmk' : (RF && !RT && decide (X = d)) = false := by
                rw [Bool.eq_false_iff]; intro h; simp only [Bool.and_eq_true, Bool.not_eq_true', decide_eq_true_eq] at h; exact hmk ⟨h.1.1, h.1.2, h.2⟩
              cases RF
              · go_wp2
                go_roundw
                case rel => exact ⟨i + 1, by omega, by go_num, HSc, yrow, hkY, hwY, hwqY⟩
                case measure => simp [intOf]; omega
              · cases RT
                · have hne : ¬ X = d := fun h => hmk ⟨rfl, rfl, h⟩
                  go_wp2
                  go_roundw
                  case rel => exact ⟨i + 1, by omega, by go_num, HSc, yrow, hkY, hwY, hwqY⟩
                  case measure => simp [intOf]; omega
                · go_wp2
                  go_roundw
                  case rel => exact ⟨i + 1, by omega, by go_num, HSc, yrow, hkY, hwY, hwqY⟩
                  case measure => simp [intOf]; omega
        · obtain rfl : i = L := by omega
          have hend : scan vals es r = some none := hsc.out.trans (by rw [← HL.out]; exact scan_end _ _ _)
          have htf : tightF (M : Int) es (q : Int) vals = lastOk vals r 0 := by rw [HT.out, ← hcl.out, close_done _ hend]
          have HTF := hide htf
          have HRW := hide hrw.out
          have HBR := hide hbr
          clear hend htf hrw gq0 gq1
          go_wp2
          obtain ⟨wo, hwo⟩ : ∃ wo, wr = wo := ⟨_, rfl⟩
          subst hwo
          go_loop [96] (fun vi => ∃ j : Nat, j ≤ M ∧ vi = .int .i64 j ∧ Hid (lastOk vals r 0 = lastOk vals r j)) (fun vi => M - (intOf vi).toNat)
          case atStart => exact ⟨0, by omega, rfl, hide rfl⟩
          case round =>
            obtain ⟨j, hj, rfl, hla⟩ := hrel
            by_cases hjM : j < M
            · have zc := ((hkr.out ⟨b2, off2 + j, none⟩ (by show b2 < _; omega)).trans (at_cell HR.out (by rw [HM.out]; exact hjM)))
              have zr := row_bat HRW.out (k := j) (by omega)
              have HS := hide (last_step vals r j (by rw [HM.out]; exact hjM))
              have HA : Hid (lastAt vals r j = (decide (0 ≤ at_ vals (j : Int)) && decide (at_ vals (j : Int) ≤ 4611686018427387904) && (!decide (at_ vals (j : Int) < 4611686018427387904) || bat r (j : Int)))) := hide rfl
              obtain ⟨x, hx⟩ : ∃ x, at_ vals (j : Int) = x := ⟨_, rfl⟩
              obtain ⟨rb, hrb⟩ : ∃ rb, bat r (j : Int) = rb := ⟨_, rfl⟩
              rw [hx] at zc HA
              rw [hrb] at zr HA
              have hj0 : (0 : Int) ≤ (j : Int) := by omega
              have hj1 : (j : Int) < (M : Int) := by omega
              clear hx hrb
              have hfin : lastAt vals r j = false → tightF (M : Int) es (q : Int) vals = false := fun h => by rw [HTF.out, hla.out, HS.out, h]; rfl
              have hgo : lastAt vals r j = true → lastOk vals r 0 = lastOk vals r (j + 1) := fun h => by rw [hla.out, HS.out, h]; rfl
              have HFin := hide hfin
              have HGo := hide hgo
              clear hfin hgo
              by_cases h1 : x < 0
              · have HF := hide (HFin.out (by rw [HA.out, decide_eq_false (by omega)]; rfl))
                go_wp2
                simp only [Exit.jump]
                go_ret
                exact ⟨ret_bool (by rw [HF.out]), HBR.out⟩
              · by_cases h2 : 4611686018427387904 < x
                · have HF := hide (HFin.out (by rw [HA.out, decide_eq_true (show 0 ≤ x by omega), decide_eq_false (show ¬ x ≤ 4611686018427387904 by omega)]; rfl))
                  go_wp2
                  simp only [Exit.jump]
                  go_ret
                  exact ⟨ret_bool (by rw [HF.out]), HBR.out⟩
                · by_cases h3 : x < 4611686018427387904
                  · cases rb
                    · have HF := hide (HFin.out (by rw [HA.out, decide_eq_true (show 0 ≤ x by omega), decide_eq_true (show x ≤ 4611686018427387904 by omega), decide_eq_true h3]; rfl))
                      go_wp2
                      simp only [Exit.jump]
                      go_ret
                      exact ⟨ret_bool (by rw [HF.out]), HBR.out⟩
                    · have HG := hide (HGo.out (by rw [HA.out, decide_eq_true (show 0 ≤ x by omega), decide_eq_true (show x ≤ 4611686018427387904 by omega), decide_eq_true h3]; rfl))
                      go_wp2
                      go_round
                      case rel => exact ⟨j + 1, by omega, by go_num, HG⟩
                      case measure => simp [intOf]; omega
                  · have HG := hide (HGo.out (by rw [HA.out, decide_eq_true (show 0 ≤ x by omega), decide_eq_true (show x ≤ 4611686018427387904 by omega), decide_eq_false h3]; rfl))
                    go_wp2
                    go_round
                    case rel => exact ⟨j + 1, by omega, by go_num, HG⟩
                    case measure => simp [intOf]; omega
            · obtain rfl : M = j := by omega
              have HF : Hid (tightF (M : Int) es (q : Int) vals = true) := hide (by rw [HTF.out, hla.out, ← HM.out]; exact last_end _ _)
              go_wp2
              simp only [Exit.jump]
              go_ret
              exact ⟨ret_bool (by rw [HF.out]), HBR.out⟩
  · have HF : Hid (tightF V es s vals = false) := hide (by rw [tightF, if_neg hgood])
    have cg0 : v.cell? ⟨w.heap.size, 0, none⟩ = some (.int .i64 V) := cell_of_row _ _ 0 _ _ _ HCG.out
    have cg1 : v.cell? ⟨w.heap.size, 1, none⟩ = some (.slice A L c) := cell_of_row _ _ 1 _ _ _ HCG.out
    by_cases hchk : checkF V es = 0
    · obtain ⟨hV1, hV2, _⟩ := checkF_zero hchk
      have HChk := hide hchk
      by_cases h1 : s < 0
      · have HG := hide hgood
        clear hgood hchk
        go_enter Tryz.func19, Tryz.ntmps19
        go_wp2
        rw [HV.out]
        refine wp_scope_jumps 0 (fun _ _ => False) (fun _ _ => 0) rfl ?_ (fun _ _ h => h.elim)
        go_wp2_with fail
        refine (check_any _ _ A es L c HL.out (HE.out.more (Nat.le_of_lt hlg)) hc).mono ?_
        rintro e w1 ⟨rfl, hb1⟩
        have g0 := (hb1.cell (p := ⟨w.heap.size, 0, none⟩) hlg).trans cg0
        have hbw := hide (HB.out.trans (hb1.mono (by omega)))
        rw [HChk.out]
        clear hb1
        go_wp2
        simp only [Exit.jump]
        go_ret
        exact ⟨ret_bool (by rw [HF.out]), hbw.out⟩
      · by_cases h2 : V ≤ s
        · have HG := hide hgood
          clear hgood hchk
          go_enter Tryz.func19, Tryz.ntmps19
          go_wp2
          rw [HV.out]
          refine wp_scope_jumps 0 (fun _ _ => False) (fun _ _ => 0) rfl ?_ (fun _ _ h => h.elim)
          go_wp2_with fail
          refine (check_any _ _ A es L c HL.out (HE.out.more (Nat.le_of_lt hlg)) hc).mono ?_
          rintro e w1 ⟨rfl, hb1⟩
          have g0 := (hb1.cell (p := ⟨w.heap.size, 0, none⟩) hlg).trans cg0
          have hbw := hide (HB.out.trans (hb1.mono (by omega)))
          rw [HChk.out]
          clear hb1
          go_wp2
          simp only [Exit.jump]
          go_ret
          exact ⟨ret_bool (by rw [HF.out]), hbw.out⟩
        · by_cases h3 : (M : Int) = V
          · obtain ⟨q, rfl⟩ := Int.eq_ofNat_of_zero_le (show 0 ≤ s by omega)
            obtain ⟨b2, off2, rfl, hb2, _⟩ := HR.out.at_ (k := q) (by rw [List.length_map, HM.out]; omega)
            have cs0 := at_cell HR.out (k := q) (by rw [HM.out]; omega)
            have hne : ¬ at_ vals (q : Int) = 0 := fun h => hgood ⟨hchk, by omega, by omega, by rw [HM.out]; exact h3, h⟩
            subst h3
            obtain ⟨y, hy⟩ : ∃ y, at_ vals (q : Int) = y := ⟨_, rfl⟩
            rw [hy] at cs0 hne
            have hI0 : (0 : Int) ≤ (q : Int) := by omega
            have hI1 : (q : Int) < (M : Int) := by omega
            have HG := hide hgood
            clear hgood hchk hy
            have dq1 : decide ((q : Int) < 0) = false := decide_eq_false (by omega)
            have dq2 : decide (M ≤ q) = false := decide_eq_false (by omega)
            go_enter Tryz.func19, Tryz.ntmps19
            go_wp2
            rw [HV.out]
            refine wp_scope_jumps 0 (fun _ _ => False) (fun _ _ => 0) rfl ?_ (fun _ _ h => h.elim)
            go_wp2_with fail
            refine (check_any _ _ A es L c HL.out (HE.out.more (Nat.le_of_lt hlg)) hc).mono ?_
            rintro e w1 ⟨rfl, hb1⟩
            have g0 := (hb1.cell (p := ⟨w.heap.size, 0, none⟩) hlg).trans cg0
            have hbw := hide (HB.out.trans (hb1.mono (by omega)))
            rw [HChk.out]
            have g2 := (hb1.cell (p := ⟨b2, off2 + q, none⟩) (by show b2 < _; omega)).trans cs0
            clear hb1 cs0
            go_wp2
            simp only [Exit.jump]
            go_ret
            exact ⟨ret_bool (by rw [HF.out]), hbw.out⟩
          · have HG := hide hgood
            clear hgood hchk
            go_enter Tryz.func19, Tryz.ntmps19
            go_wp2
            rw [HV.out]
            refine wp_scope_jumps 0 (fun _ _ => False) (fun _ _ => 0) rfl ?_ (fun _ _ h => h.elim)
            go_wp2_with fail
            refine (check_any _ _ A es L c HL.out (HE.out.more (Nat.le_of_lt hlg)) hc).mono ?_
            rintro e w1 ⟨rfl, hb1⟩
            have g0 := (hb1.cell (p := ⟨w.heap.size, 0, none⟩) hlg).trans cg0
            have hbw := hide (HB.out.trans (hb1.mono (by omega)))
            rw [HChk.out]
            clear hb1
            go_wp2
            simp only [Exit.jump]
            go_ret
            exact ⟨ret_bool (by rw [HF.out]), hbw.out⟩
    · have HG := hide hgood
      clear hgood
      go_enter Tryz.func19, Tryz.ntmps19
      go_wp2
      rw [HV.out]
      refine wp_scope_jumps 0 (fun _ _ => False) (fun _ _ => 0) rfl ?_ (fun _ _ h => h.elim)
      go_wp2_with fail
      refine (check_any _ _ A es L c HL.out (HE.out.more (Nat.le_of_lt hlg)) hc).mono ?_
      rintro e w1 ⟨rfl, hb1⟩
      have g0 := (hb1.cell (p := ⟨w.heap.size, 0, none⟩) hlg).trans cg0
      have hbw := hide (HB.out.trans (hb1.mono (by omega)))
      obtain ⟨z, hz⟩ : ∃ z, checkF V es = z := ⟨_, rfl⟩
      rw [hz] at hchk ⊢
      clear hb1 hz
      go_wp2
      simp only [Exit.jump]
      go_ret
      exact ⟨ret_bool (by rw [HF.out]), hbw.out⟩
end Go.Proofs.YtgbahnlgblahpaaGreat
