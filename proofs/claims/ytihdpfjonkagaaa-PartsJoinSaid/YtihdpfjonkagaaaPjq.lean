/- Has a part at most so many; rows of parts that grow. (printed by gen/pjw.py) -/
import Derived.Test.YtihdpfjonkagaaaProg
import Derived.Test.YtihdpfjonkagaaaPjh
import Derived.Deep.DeepCutAuto
import Derived.Lib.Hide
import Derived.WalkSpells
import Derived.WalkMore
import Derived.IntWalk
namespace Go.Proofs.Ytihdpfjonkagaaa
open Go.RowKit
set_option linter.unusedVariables false
set_option linter.unusedSimpArgs false
def FewPost (w : World) (p : PartV) (e : Ending) (w' : World) : Prop := ∃ fb, e = .returned (.bool fb) ∧ (fb = true → p.out.flatten.length ≤ 60) ∧ Below w.heap.size w w'
set_option maxRecDepth 100000 in
set_option maxHeartbeats 16000000 in
theorem few_any (w : World) (p : PartV) (Ao Au Ab : Option Addr) (no nu nb co cu cb : Nat) (hlen : PLen p no nu nb) (hin : PIn w p Ao Au Ab) (hbd : no ≤ 9223372036854775807 ∧ nu ≤ 9223372036854775807 ∧ nb ≤ 9223372036854775807) :
    Calls Try.prog 20 #[.agg #[.int .i64 p.wk, .int .i64 p.ws, .int .i64 p.vs, .slice Ao no co, .slice Au nu cu, .slice Ab nb cb]] w (FewPost w p) := by
  have HLen := hide hlen
  have HIn := hide (hin.kept (Kept.of_below ((Below.refl w.heap.size w).alloc (Nat.le_refl _) (.cells #[.int .i64 p.wk, .int .i64 p.ws, .int .i64 p.vs, .slice Ao no co, .slice Au nu cu, .slice Ab nb cb] 34))) (by simp))
  obtain ⟨v, hv⟩ : ∃ u, w.alloc (.cells #[.int .i64 p.wk, .int .i64 p.ws, .int .i64 p.vs, .slice Ao no co, .slice Au nu cu, .slice Ab nb cb] 34) = u := ⟨_, rfl⟩
  rw [hv] at HIn
  have HV := hide hv
  have M0 := hide (show v.heap[w.heap.size]? = some (.cells #[.int .i64 p.wk, .int .i64 p.ws, .int .i64 p.vs, .slice Ao no co, .slice Au nu cu, .slice Ab nb cb] 34) by rw [← hv]; exact heap_alloc_last _ _)
  have HB := hide (show Below w.heap.size w v by rw [← hv]; exact (Below.refl _ _).alloc (Nat.le_refl _) _)
  have hzl : w.heap.size < v.heap.size := by rw [← hv]; simp
  obtain ⟨hb1, hb2, hb3⟩ := hbd
  clear hv hin hlen
  have c3 : v.cell? ⟨w.heap.size, 3, none⟩ = some (.slice Ao no co) := cell_of_row _ _ 3 _ _ _ M0.out
  have c4 : v.cell? ⟨w.heap.size, 4, none⟩ = some (.slice Au nu cu) := cell_of_row _ _ 4 _ _ _ M0.out
  have c5 : v.cell? ⟨w.heap.size, 5, none⟩ = some (.slice Ab nb cb) := cell_of_row _ _ 5 _ _ _ M0.out
  by_cases h1 : 60 < no
  · have i1 : (60 : Int) < (no : Int) := by omega
    have i1d : decide ((60 : Int) < (no : Int)) = true := decide_eq_true i1
    go_enter Try.func20, Try.ntmps20
    go_upto_region 1 with fail
    rw [HV.out]
    go_wp2
    go_ret
    exact ⟨false, rfl, fun h => (by cases h), HB.out⟩
  have i1 : ¬ (60 : Int) < (no : Int) := by omega
  have i1d : decide ((60 : Int) < (no : Int)) = false := decide_eq_false i1
  by_cases h2 : 60 < nu
  · have i2 : (60 : Int) < (nu : Int) := by omega
    have i2d : decide ((60 : Int) < (nu : Int)) = true := decide_eq_true i2
    go_enter Try.func20, Try.ntmps20
    go_upto_region 1 with fail
    rw [HV.out]
    go_wp2
    go_ret
    exact ⟨false, rfl, fun h => (by cases h), HB.out⟩
  have i2 : ¬ (60 : Int) < (nu : Int) := by omega
  have i2d : decide ((60 : Int) < (nu : Int)) = false := decide_eq_false i2
  by_cases h3 : 60 < nb
  · have i3 : (60 : Int) < (nb : Int) := by omega
    have i3d : decide ((60 : Int) < (nb : Int)) = true := decide_eq_true i3
    go_enter Try.func20, Try.ntmps20
    go_upto_region 1 with fail
    rw [HV.out]
    go_wp2
    go_ret
    exact ⟨false, rfl, fun h => (by cases h), HB.out⟩
  have i3 : ¬ (60 : Int) < (nb : Int) := by omega
  have i3d : decide ((60 : Int) < (nb : Int)) = false := decide_eq_false i3
  go_enter Try.func20, Try.ntmps20
  go_upto_region 1 with fail
  rw [HV.out]
  go_wp2
  go_loopw [4, 3] (fun v4 v3 wr => ∃ k : Nat, k ≤ nu ∧ v4 = .int .i64 (k : Int) ∧ v3 = .int .i64 (((p.out.take k).flatten.length : Nat) : Int) ∧ wr = v ∧ (p.out.take k).flatten.length ≤ 60) (fun v4 _ _ => nu - (intOf v4).toNat)
  case atStart => exact ⟨0, by omega, rfl, by simp, rfl, by simp⟩
  case round =>
    obtain ⟨k, hk, rfl, rfl, rfl, h60⟩ := hrel
    by_cases hlt : k < nu
    · have hK1 : (k : Int) < (nu : Int) := by omega
      obtain ⟨r, hr⟩ : ∃ r, p.out[k]? = some r := ⟨_, List.getElem?_eq_getElem (by rw [HLen.out.2.1]; exact hlt)⟩
      obtain ⟨bu, ou, A2, c2, rfl, hbu, d0, hc2, hcm, hE⟩ := HIn.out.out.get hr
      obtain ⟨q, hq⟩ : ∃ q, r.length = q := ⟨_, rfl⟩
      rw [hq] at d0 hc2
      have hfs := congrArg List.length (flat_succ hr)
      rw [List.length_append, hq] at hfs
      obtain ⟨s, hs⟩ : ∃ s, (p.out.take k).flatten.length = s := ⟨_, rfl⟩
      rw [hs] at h60 hfs ⊢
      have HFS := hide hfs
      have hqm : q ≤ 9223372036854775807 := by omega
      clear hs hq hfs hE hr
      have s1 : IntKind.i64.wrap (60 - (s : Int)) = 60 - (s : Int) := IntWalk.i64_in _ (by omega)
      by_cases hqs : 60 - (s : Int) < (q : Int)
      · go_wp2
        go_ret
        exact ⟨false, rfl, fun h => (by cases h), HB.out⟩
      have s2 : IntKind.i64.wrap ((s : Int) + (q : Int)) = (s : Int) + (q : Int) := IntWalk.i64_in _ (by omega)
      have s3 : s + q ≤ 60 := by omega
      go_wp2
      go_roundw
      case rel => exact ⟨k + 1, by omega, by go_num, by rw [HFS.out]; go_num, by first | rfl | trivial, by rw [HFS.out]; exact s3⟩
      case measure => simp [intOf]; omega
    · obtain rfl : nu = k := by omega
      have H60 : Hid (p.out.flatten.length ≤ 60) := hide (by rw [List.take_of_length_le (by rw [HLen.out.2.1]; exact Nat.le_refl _)] at h60; exact h60)
      skip
      clear h60
      go_wp2
      go_loopw [5, 3] (fun v5 v3 wr2 => ∃ k : Nat, k ≤ nb ∧ v5 = .int .i64 (k : Int) ∧ v3 = .int .i64 (((p.back.take k).flatten.length : Nat) : Int) ∧ wr2 = wr ∧ (p.back.take k).flatten.length ≤ 60) (fun v5 _ _ => nb - (intOf v5).toNat)
      case atStart => exact ⟨0, by omega, rfl, by simp, rfl, by simp⟩
      case round =>
        obtain ⟨k, hk, rfl, rfl, rfl, h60⟩ := hrel
        by_cases hlt : k < nb
        · have hK1 : (k : Int) < (nb : Int) := by omega
          obtain ⟨r, hr⟩ : ∃ r, p.back[k]? = some r := ⟨_, List.getElem?_eq_getElem (by rw [HLen.out.2.2]; exact hlt)⟩
          obtain ⟨bu, ou, A2, c2, rfl, hbu, d0, hc2, hcm, hE⟩ := HIn.out.back.get hr
          obtain ⟨q, hq⟩ : ∃ q, r.length = q := ⟨_, rfl⟩
          rw [hq] at d0 hc2
          have hfs := congrArg List.length (flat_succ hr)
          rw [List.length_append, hq] at hfs
          obtain ⟨s, hs⟩ : ∃ s, (p.back.take k).flatten.length = s := ⟨_, rfl⟩
          rw [hs] at h60 hfs ⊢
          have HFS := hide hfs
          have hqm : q ≤ 9223372036854775807 := by omega
          clear hs hq hfs hE hr
          have s1 : IntKind.i64.wrap (60 - (s : Int)) = 60 - (s : Int) := IntWalk.i64_in _ (by omega)
          by_cases hqs : 60 - (s : Int) < (q : Int)
          · go_wp2
            go_ret
            exact ⟨false, rfl, fun h => (by cases h), HB.out⟩
          have s2 : IntKind.i64.wrap ((s : Int) + (q : Int)) = (s : Int) + (q : Int) := IntWalk.i64_in _ (by omega)
          have s3 : s + q ≤ 60 := by omega
          go_wp2
          go_roundw
          case rel => exact ⟨k + 1, by omega, by go_num, by rw [HFS.out]; go_num, by first | rfl | trivial, by rw [HFS.out]; exact s3⟩
          case measure => simp [intOf]; omega
        · obtain rfl : nb = k := by omega
          go_wp2
          go_ret
          exact ⟨true, rfl, fun _ => H60.out, HB.out⟩
/-- the cells of a row that grows are the first n parts -/
def MR (v0 : World) (xs : List Value) (ps : List PartV) (n : Nat) : Prop := ∀ (q : Nat) (p : PartV), q < n → ps[q]? = some p → ∃ cs : List Value, cs.length = 6 ∧ PtVal v0 cs p ∧ ∀ j u, cs[j]? = some u → xs[q * 6 + j]? = some u
def MRow (T : TypeId) (v0 w : World) (ps : List PartV) (A : Option Addr) (n c : Nat) : Prop := ∃ xs, w.ownsRow v0.heap.size T 6 (.slice A n c) n xs ∧ MR v0 xs ps n
section
variable {T : TypeId} {v0 w w' : World} {ps : List PartV} {A : Option Addr} {n c : Nat}
theorem MRow.zero (T : TypeId) (v0 w : World) (ps : List PartV) : MRow T v0 w ps none 0 0 := ⟨[], World.ownsRow_nil _ _ _ _, fun q p h => absurd h (by omega)⟩
theorem MRow.below (h : MRow T v0 w ps A n c) (hb : Below w.heap.size w w') : MRow T v0 w' ps A n c := by
  obtain ⟨xs, ho, hm⟩ := h
  exact ⟨xs, own_below ho hb (fun g hg => (ho.lt g hg).2), hm⟩
theorem MRow.get (h : MRow T v0 w ps A n c) (hk : Kept v0 w) (hs : v0.heap.size ≤ w.heap.size) {q : Nat} {p : PartV} (hq : q < n) (hp : ps[q]? = some p) :
    ∃ (g : Nat) (Ao Au Ab : Option Addr) (no nu nb co cu cb : Nat), A = some ⟨g, 0, none⟩ ∧ g < w.heap.size ∧
      w.cell? ⟨g, q * 6, none⟩ = some (.int .i64 p.wk) ∧ w.cell? ⟨g, q * 6 + 1, none⟩ = some (.int .i64 p.ws) ∧ w.cell? ⟨g, q * 6 + 2, none⟩ = some (.int .i64 p.vs) ∧ w.cell? ⟨g, q * 6 + 3, none⟩ = some (.slice Ao no co) ∧ w.cell? ⟨g, q * 6 + 4, none⟩ = some (.slice Au nu cu) ∧ w.cell? ⟨g, q * 6 + 5, none⟩ = some (.slice Ab nb cb) ∧
      PLen p no nu nb ∧ PIn w p Ao Au Ab ∧ (no ≤ 9223372036854775807 ∧ nu ≤ 9223372036854775807 ∧ nb ≤ 9223372036854775807) := by
  obtain ⟨xs, ho, hm⟩ := h
  obtain ⟨g, rfl, _, hlt, _⟩ := own_addr ho (by omega)
  obtain ⟨cs, hl, ⟨Ao, Au, Ab, no, nu, nb, co, cu, cb, rfl, h2, h3, h4⟩, hc⟩ := hm q p hq hp
  have hx := ho.1
  have ha : ∀ j u, ([.int .i64 p.wk, .int .i64 p.ws, .int .i64 p.vs, .slice Ao no co, .slice Au nu cu, .slice Ab nb cb] : List Value)[j]? = some u → w.cell? ⟨g, q * 6 + j, none⟩ = some u := fun j u hu => by
    have h1 := hc j u hu
    have h2 := (List.getElem?_eq_some_iff.1 h1).1
    rw [ho.cellAt (q * 6 + j) (by omega)]
    exact h1
  exact ⟨g, Ao, Au, Ab, no, nu, nb, co, cu, cb, rfl, hlt, ha 0 _ rfl, ha 1 _ rfl, ha 2 _ rfl, ha 3 _ rfl, ha 4 _ rfl, ha 5 _ rfl, h2, h3.kept hk hs, h4⟩
theorem MRow.row (h : MRow T v0 w ps A ps.length c) (hk : Kept v0 w) (hs : v0.heap.size ≤ w.heap.size) : PtRow w A ps := fun hn => by
  obtain ⟨xs, ho, hm⟩ := h
  have hpos : 0 < ps.length := List.length_pos_iff.2 hn
  obtain ⟨g, rfl, _, hlt, _⟩ := own_addr ho hpos
  refine ⟨g, 0, rfl, hlt, fun i x hx => ?_⟩
  obtain ⟨cs, hl, hv, hc⟩ := hm i x (List.getElem?_eq_some_iff.1 hx).1 hx
  refine ⟨cs, hl, hv.kept hk hs, fun j u hu => ?_⟩
  have h1 := hc j u hu
  have h2 := (List.getElem?_eq_some_iff.1 h1).1
  have h3 := ho.1
  rw [Nat.zero_add, ho.cellAt (i * 6 + j) (by omega)]
  exact h1
theorem MR.snoc {xs : List Value} (h : MR v0 xs ps n) (hx : xs.length = n * 6) {p : PartV} (hp : ps[n]? = some p) {cs : List Value} (hl : cs.length = 6) (hv : PtVal v0 cs p) : MR v0 (xs ++ cs) ps (n + 1) := fun q p' hq hp' => by
  rcases Nat.lt_or_ge q n with h1 | h1
  · obtain ⟨cs', a1, a2, a3⟩ := h q p' h1 hp'
    refine ⟨cs', a1, a2, fun j u hu => ?_⟩
    have h2 := (List.getElem?_eq_some_iff.1 hu).1
    rw [List.getElem?_append_left (by omega)]
    exact a3 j u hu
  · obtain rfl : q = n := by omega
    rw [hp] at hp'
    obtain rfl := Option.some.inj hp'
    refine ⟨cs, hl, hv, fun j u hu => ?_⟩
    rw [List.getElem?_append_right (by omega), hx, show q * 6 + j - q * 6 = j by omega]
    exact hu
end
end Go.Proofs.Ytihdpfjonkagaaa
