/- The walk of the statement PartsWhole. (printed by gen/pwh.py) -/
import Derived.Test.YtihdpfjonkagaaaProg
import Derived.Test.YtihdpfjonkagaaaPjn
import Derived.Test.YtihdpfjonkagaaaPwl
import Derived.Test.YtihdpfjonkagaaaGsm
import Derived.Test.YtihdpfjonkagaaaMwk
import Derived.Test.YtihdpfjonkagaaaPrf
import Derived.Test.YtihdpfjonkagaaaLgt
import Derived.Test.YtihdpfjonkagaaaPck
import Derived.Deep.DeepCutAuto
import Derived.Lib.Hide
import Derived.WalkSpells
import Derived.WalkMore
import Derived.IntWalk
namespace Go.Proofs.Ytihdpfjonkagaaa
open Go.RowKit
set_option linter.unusedVariables false
set_option linter.unusedSimpArgs false
theorem int_ne_pt : 3 ≠ 34 := by decide
theorem row_ne_pt : 28 ≠ 34 := by decide
theorem edge_ne_pt : 44 ≠ 34 := by decide
/-- these cells are that part, whose rows are the caller's own -/
def PtOwn (w : World) (b : Nat) (cs : List Value) (p : PartV) : Prop := ∃ (Ao Au Ab : Option Addr) (no nu nb co cu cb : Nat) (hu hb : List Value), cs = [.int .i64 p.wk, .int .i64 p.ws, .int .i64 p.vs, .slice Ao no co, .slice Au nu cu, .slice Ab nb cb] ∧ PLen p no nu nb ∧
  w.ownsRow b 3 1 (.slice Ao no co) no (p.own.map (Value.int .i64)) ∧ ORows w b Au cu hu p.out ∧ ORows w b Ab cb hb p.back ∧ (no ≤ 9223372036854775807 ∧ nu ≤ 9223372036854775807 ∧ nb ≤ 9223372036854775807)
theorem PtOwn.below {w w' : World} {b : Nat} {cs : List Value} {p : PartV} (h : PtOwn w b cs p) (hb : Below w.heap.size w w') : PtOwn w' b cs p := by
  obtain ⟨Ao, Au, Ab, no, nu, nb, co, cu, cb, hu, hb2, h1, h2, h3, h4, h5, h6⟩ := h
  exact ⟨Ao, Au, Ab, no, nu, nb, co, cu, cb, hu, hb2, h1, h2, own_all h3 hb (Nat.le_refl _), h4.below hb (Nat.le_refl _), h5.below hb (Nat.le_refl _), h6⟩
theorem PtOwn.grown {w w' : World} {b b2 n : Nat} {cs : List Value} {p : PartV} {v : Value} {xs : List Value} (h : PtOwn w b cs p) (hv : w.ownsRow b2 34 6 v n xs) (hg : w.grownBy w' v.ownBlock) : PtOwn w' b cs p := by
  obtain ⟨Ao, Au, Ab, no, nu, nb, co, cu, cb, hu, hb2, h1, h2, h3, h4, h5, h6⟩ := h
  exact ⟨Ao, Au, Ab, no, nu, nb, co, cu, cb, hu, hb2, h1, h2, h3.kept hg (own_apart h3 hv int_ne_pt), h4.lift (h4.own.kept hg (own_apart h4.own hv row_ne_pt)) (fun u n xs hu => hu.kept hg (own_apart hu hv edge_ne_pt)), h5.lift (h5.own.kept hg (own_apart h5.own hv row_ne_pt)) (fun u n xs hu => hu.kept hg (own_apart hu hv edge_ne_pt)), h6⟩
theorem PtOwn.pin {w : World} {b : Nat} {p : PartV} {Ao Au Ab : Option Addr} {no nu nb co cu cb : Nat} (h : PtOwn w b [.int .i64 p.wk, .int .i64 p.ws, .int .i64 p.vs, .slice Ao no co, .slice Au nu cu, .slice Ab nb cb] p) : PIn w p Ao Au Ab := by
  obtain ⟨Ao', Au', Ab', no', nu', nb', co', cu', cb', hu, hb2, h1, h2, h3, h4, h5, h6⟩ := h
  simp only [List.cons.injEq, Value.slice.injEq, true_and, and_true] at h1
  obtain ⟨⟨rfl, rfl, rfl⟩, ⟨rfl, rfl, rfl⟩, ⟨rfl, rfl, rfl⟩⟩ := h1
  exact ⟨Rd.of_own h3, h4.erows, h5.erows⟩
theorem PtOwn.val {w : World} {b : Nat} {cs : List Value} {p : PartV} (h : PtOwn w b cs p) : PtVal w cs p := by
  obtain ⟨Ao, Au, Ab, no, nu, nb, co, cu, cb, hu, hb2, h1, h2, h3, h4, h5, h6⟩ := h
  exact ⟨Ao, Au, Ab, no, nu, nb, co, cu, cb, h1, h2, ⟨Rd.of_own h3, h4.erows, h5.erows⟩, h6⟩
/-- the cells of a row that grows are the first n parts -/
def MWr (b : Nat) (w : World) (xs : List Value) (ps : List PartV) (n : Nat) : Prop := ∀ (q : Nat) (p : PartV), q < n → ps[q]? = some p → ∃ cs : List Value, cs.length = 6 ∧ PtOwn w b cs p ∧ ∀ j u, cs[j]? = some u → xs[q * 6 + j]? = some u
def MW (b : Nat) (w : World) (ps : List PartV) (A : Option Addr) (n c : Nat) : Prop := ∃ xs, w.ownsRow b 34 6 (.slice A n c) n xs ∧ MWr b w xs ps n
section
variable {b : Nat} {w w' : World} {ps : List PartV} {A : Option Addr} {n c : Nat}
theorem MW.zero (b : Nat) (w : World) (ps : List PartV) : MW b w ps none 0 0 := ⟨[], World.ownsRow_nil _ _ _ _, fun q p h => absurd h (by omega)⟩
theorem MW.below (h : MW b w ps A n c) (hb : Below w.heap.size w w') : MW b w' ps A n c := by
  obtain ⟨xs, ho, hm⟩ := h
  exact ⟨xs, own_all ho hb (Nat.le_refl _), fun q p hq hp => by obtain ⟨cs, a1, a2, a3⟩ := hm q p hq hp; exact ⟨cs, a1, a2.below hb, a3⟩⟩
theorem MWr.app {xs : List Value} (hm : MWr b w xs ps n) (ho : w.ownsRow b 34 6 (.slice A n c) n xs) {p : PartV} (hp : ps[n]? = some p) {cs : List Value} (hl : cs.length = 6) (hv : PtOwn w b cs p) {A' : Option Addr} {c' : Nat} (own : w'.ownsRow b 34 6 (.slice A' (n + 1) c') (n + 1) (xs ++ cs)) (hg : w.grownBy w' (Value.slice A n c).ownBlock) : MW b w' ps A' (n + 1) c' := by
  refine ⟨_, own, fun q p' hq hp' => ?_⟩
  have hx := ho.1
  rcases Nat.lt_or_ge q n with h1 | h1
  · obtain ⟨cs', a1, a2, a3⟩ := hm q p' h1 hp'
    refine ⟨cs', a1, a2.grown ho hg, fun j u hu => ?_⟩
    have h2 := (List.getElem?_eq_some_iff.1 hu).1
    rw [List.getElem?_append_left (by omega)]
    exact a3 j u hu
  · obtain rfl : q = n := by omega
    rw [hp] at hp'
    obtain rfl := Option.some.inj hp'
    refine ⟨cs, hl, hv.grown ho hg, fun j u hu => ?_⟩
    rw [List.getElem?_append_right (by omega), hx, show q * 6 + j - q * 6 = j by omega]
    exact hu
theorem MW.row (h : MW b w ps A ps.length c) : PtRow w A ps := fun hn => by
  obtain ⟨xs, ho, hm⟩ := h
  have hpos : 0 < ps.length := List.length_pos_iff.2 hn
  obtain ⟨g, rfl, _, hlt, _⟩ := own_addr ho hpos
  refine ⟨g, 0, rfl, hlt, fun i x hx => ?_⟩
  obtain ⟨cs, hl, hv, hc⟩ := hm i x (List.getElem?_eq_some_iff.1 hx).1 hx
  refine ⟨cs, hl, hv.val, fun j u hu => ?_⟩
  have h1 := hc j u hu
  have h2 := (List.getElem?_eq_some_iff.1 h1).1
  have h3 := ho.1
  rw [Nat.zero_add, ho.cellAt (i * 6 + j) (by omega)]
  exact h1
end
theorem part_own {w w' : World} {P : PartV} {code : Int} {e : Ending} {B : Nat} (hB : B ≤ w.heap.size) (h : PartPost w P code e w') : ∃ (Ao Au Ab : Option Addr) (no nu nb co cu cb : Nat), e = .returned (.tuple #[.agg #[.int .i64 P.wk, .int .i64 P.ws, .int .i64 P.vs, .slice Ao no co, .slice Au nu cu, .slice Ab nb cb], .int .i64 code]) ∧ (no ≤ 512 ∧ nu ≤ 512 ∧ nb ≤ 512) ∧ PLen P no nu nb ∧
    PtOwn w' B [.int .i64 P.wk, .int .i64 P.ws, .int .i64 P.vs, .slice Ao no co, .slice Au nu cu, .slice Ab nb cb] P ∧ PIn w' P Ao Au Ab ∧ Below w.heap.size w w' := by
  obtain ⟨m, mu, mb, Ao, co, Au, cu, hu, Ab, cb, hb, h1, h2, h3, h4, h5, h6, h7, h8, h9, h10, h11⟩ := h
  exact ⟨Ao, Au, Ab, m, mu, mb, co, cu, cb, h7, ⟨h4, h5, h6⟩, ⟨h1, h2, h3⟩, ⟨Ao, Au, Ab, m, mu, mb, co, cu, cb, hu, hb, rfl, ⟨h1, h2, h3⟩, own_base h8 hB, h9.lower hB, h10.lower hB, ⟨by omega, by omega, by omega⟩⟩, ⟨Rd.of_own h8, h9.erows, h10.erows⟩, h11⟩
theorem whole_post {w w' : World} {V : Int} {es : List Ed} {k : Nat} {e : Ending} (h : checkF V es = 0) (hk1 : 1 ≤ k) (hk : k ≤ 64) (hp : PJPost w (cuts V es k) e w') : goodG V es e w' ∧ Below w.heap.size w w' := by
  obtain ⟨hb, hp⟩ := hp
  refine ⟨?_, hb⟩
  have hl := cuts_len V es k
  have hv := whole_vs h hk1 hk
  rcases hp with ⟨h1, _⟩ | ⟨_, d, hs, h2⟩
  · exact absurd ⟨by omega, by omega⟩ h1
  · have hd := whole_d h hk1 hk hs
    subst hd
    rw [hv] at h2
    rcases h2 with ⟨_, hg⟩ | ⟨ho, _⟩
    · exact hg
    · exact absurd (whole_ok h hk) ho
theorem nat_rem (n : Nat) (h : n ≤ 255) : IntKind.i64.wrap (Int.tmod (n : Int) 64) = ((n % 64 : Nat) : Int) := by
  rw [Int.tmod_eq_emod_of_nonneg (by omega)]
  exact IntWalk.i64_in _ (by omega)
set_option maxRecDepth 100000 in
set_option maxHeartbeats 16000000 in
theorem partsWhole_main (w : World) (V : Int) (A : Option Addr) (es : List Ed) (c : Nat) (hV1 : -9223372036854775808 ≤ V) (hV2 : V ≤ 9223372036854775807) (hE : Eds w w.heap.size A es) (hc1 : es.length ≤ c) (hc2 : c ≤ 9223372036854775807) (n : Nat) (hn : n ≤ 255) :
    Calls Try.prog 6 #[.agg #[.int .i64 V, .slice A es.length c], .int .u8 (n : Int)] w fun e W' => e = .returned (.bool true) ∧ Below w.heap.size w W' := by
  obtain ⟨L, hL⟩ : ∃ L, es.length = L := ⟨_, rfl⟩
  rw [hL] at hc1 ⊢
  have HL := hide hL
  obtain ⟨u, hu⟩ : ∃ u, w.alloc (.cells #[.int .i64 V, .slice A L c] 30) = u := ⟨_, rfl⟩
  have hzl : w.heap.size < u.heap.size := by rw [← hu]; simp
  have HB := hide (show Below w.heap.size w u by rw [← hu]; exact (Below.refl _ _).alloc (Nat.le_refl _) _)
  have M0 := hide (show u.heap[w.heap.size]? = some (.cells #[.int .i64 V, .slice A L c] 30) by rw [← hu]; exact heap_alloc_last _ _)
  have HE := hide (Eds.next hE HB.out)
  have HU := hide hu
  have x0 : u.cell? ⟨w.heap.size, 0, none⟩ = some (.int .i64 V) := cell_of_row _ _ 0 _ _ _ M0.out
  have x1 : u.cell? ⟨w.heap.size, 1, none⟩ = some (.slice A L c) := cell_of_row _ _ 1 _ _ _ M0.out
  clear hu hE hL
  by_cases hlight : (L : Int) ≤ 200
  rotate_left
  · have HLi := hide (show decide ((L : Int) ≤ 200) = false from decide_eq_false hlight)
    clear hlight
    go_enter Try.func6, Try.ntmps6
    go_upto_region 1 with fail
    rw [HU.out]
    go_wp2_with fail
    refine (light_any _ V A L c 200).mono ?_
    rintro e y1 ⟨rfl, b1⟩
    rw [show decide ((L : Int) ≤ 200) = false from HLi.out]
    have B1 := hide b1
    have hy1 : u.heap.size ≤ y1.heap.size := b1.size
    clear b1
    go_wp2_with fail
    refine (works_any _).mono ?_
    rintro e wk ⟨rfl, hb⟩
    have HF := hide (HB.out.trans ((B1.out.trans (hb.mono hy1)).mono (by omega)))
    clear hb
    go_wp2
    go_ret
    exact ⟨rfl, HF.out⟩
  have HLi := hide (show decide ((L : Int) ≤ 200) = true from decide_eq_true hlight)
  have hL200 : L ≤ 200 := by omega
  clear hlight
  obtain ⟨ck, hck⟩ : ∃ q, checkF V es = q := ⟨_, rfl⟩
  have HCk := hide hck
  clear hck
  by_cases hck0 : ck = 0
  rotate_left
  · have hckb : (ck != 0) = true := by simpa using hck0
    have hckc : (ck == 0) = false := by simpa using hck0
    clear hck0
    go_enter Try.func6, Try.ntmps6
    go_upto_region 1 with fail
    rw [HU.out]
    go_wp2_with fail
    refine (light_any _ V A L c 200).mono ?_
    rintro e y1 ⟨rfl, b1⟩
    rw [show decide ((L : Int) ≤ 200) = true from HLi.out]
    have B1 := hide b1
    have hy1 : u.heap.size ≤ y1.heap.size := b1.size
    clear b1
    have z0 : y1.cell? ⟨w.heap.size, 0, none⟩ = some (.int .i64 V) := (B1.out.cell (p := ⟨w.heap.size, 0, none⟩) hzl).trans x0
    have z1 : y1.cell? ⟨w.heap.size, 1, none⟩ = some (.slice A L c) := (B1.out.cell (p := ⟨w.heap.size, 1, none⟩) hzl).trans x1
    have hzy : w.heap.size < y1.heap.size := by omega
    go_wp2_with fail
    refine (rcheck_any _ V A es L c HL.out (Eds.next HE.out B1.out) (by omega)).mono ?_
    rintro e y2 ⟨rfl, b2⟩
    rw [HCk.out]
    have B2 := hide (B1.out.trans (b2.mono hy1))
    have hy2 : u.heap.size ≤ y2.heap.size := Nat.le_trans hy1 b2.size
    clear b2 z0 z1 hzy
    go_wp2_with fail
    refine (works_any _).mono ?_
    rintro e wk ⟨rfl, hb⟩
    have HF := hide (HB.out.trans ((B2.out.trans (hb.mono hy2)).mono (by omega)))
    clear hb
    go_wp2
    go_ret
    exact ⟨rfl, HF.out⟩
  subst hck0
  obtain ⟨k, hk⟩ : ∃ k, 1 + n % 64 = k := ⟨_, rfl⟩
  have hk1 : 1 ≤ k := by omega
  have hk6 : k ≤ 64 := by omega
  have hk0 : n % 64 + 1 = k := by omega
  have hn5 : n ≤ 255 := hn
  have k1 := nat_rem n hn5
  obtain ⟨r, hr⟩ : ∃ r, n % 64 = r := ⟨_, rfl⟩
  rw [hr] at k1
  have k2 : (1 : Int) + (r : Int) = (k : Int) := by omega
  have k3 : IntKind.i64.wrap (k : Int) = (k : Int) := IntWalk.i64_in _ (by omega)
  have k0 : IntKind.i64.wrap (n : Int) = (n : Int) := IntWalk.i64_in _ (by omega)
  have k5 : Int.tmod (n : Int) 64 = (r : Int) := by rw [Int.tmod_eq_emod_of_nonneg (by omega)]; omega
  obtain ⟨hV1, hV5, -, -⟩ := checkF_ok HCk.out
  have HVV := hide (show 1 ≤ V ∧ V ≤ 512 from ⟨hV1, hV5⟩)
  clear hk hk0 hr
  obtain ⟨a1, a1i, a1z, a1s, a1b⟩ := info_parts (show (Try.prog.info? 34).map (fun i => (i.zero, i.size, i.bytes)) = some (some (.agg #[.int .i64 0, .int .i64 0, .int .i64 0, .slice none 0 0, .slice none 0 0, .slice none 0 0]), 6, 96) by kernel_rfl)
  go_enter Try.func6, Try.ntmps6
  go_upto_region 1 with fail
  rw [HU.out]
  go_wp2_with fail
  refine (light_any _ V A L c 200).mono ?_
  rintro e y1 ⟨rfl, b1⟩
  rw [show decide ((L : Int) ≤ 200) = true from HLi.out]
  have B1 := hide b1
  have hy1 : u.heap.size ≤ y1.heap.size := b1.size
  clear b1
  have z0 : y1.cell? ⟨w.heap.size, 0, none⟩ = some (.int .i64 V) := (B1.out.cell (p := ⟨w.heap.size, 0, none⟩) hzl).trans x0
  have z1 : y1.cell? ⟨w.heap.size, 1, none⟩ = some (.slice A L c) := (B1.out.cell (p := ⟨w.heap.size, 1, none⟩) hzl).trans x1
  have hzy : w.heap.size < y1.heap.size := by omega
  go_wp2_with fail
  refine (rcheck_any _ V A es L c HL.out (Eds.next HE.out B1.out) (by omega)).mono ?_
  rintro e y2 ⟨rfl, b2⟩
  rw [HCk.out]
  have B2 := hide (B1.out.trans (b2.mono hy1))
  have hy2 : u.heap.size ≤ y2.heap.size := Nat.le_trans hy1 b2.size
  clear b2 z0 z1 hzy
  obtain ⟨v, rfl⟩ : ∃ z : World, z = y2 := ⟨_, rfl⟩
  clear x0 x1
  go_wp2
  go_loopw [10, 6, 7, 8, 9] (fun v10 v6 v7 v8 v9 wr => ∃ (q : Nat) (Am : Option Addr) (cm : Nat), q ≤ k ∧ v10 = .int .i64 (q : Int) ∧ v6 = .slice Am q cm ∧ v7 = .int .i64 ((ownUp V k q).length : Int) ∧ v8 = .int .i64 (cntE (fun e : Ed => e.1) es (ownUp V k q) : Int) ∧ v9 = .int .i64 (cntE (fun e : Ed => e.2.1) es (ownUp V k q) : Int) ∧ Hid (MW v.heap.size wr (cuts V es k) Am q cm) ∧ Hid (Below v.heap.size v wr)) (fun v10 _ _ _ _ _ => k - (intOf v10).toNat)
  case atStart => exact ⟨0, none, 0, by omega, rfl, rfl, rfl, rfl, rfl, hide (MW.zero _ _ _), hide (Below.refl _ _)⟩
  case round =>
    obtain ⟨q, Am, cm, hq, rfl, rfl, rfl, rfl, rfl, hM, hbr⟩ := hrel
    have hUb := ownUp_len V k q
    have hc1b := cntE_le (fun e : Ed => e.1) es (ownUp_nodup (k := k) HVV.out q)
    have hc2b := cntE_le (fun e : Ed => e.2.1) es (ownUp_nodup (k := k) HVV.out q)
    rw [HL.out] at hc1b hc2b
    obtain ⟨so, hso⟩ : ∃ s, (ownUp V k q).length = s := ⟨_, rfl⟩
    obtain ⟨s1, hs1⟩ : ∃ s, cntE (fun e : Ed => e.1) es (ownUp V k q) = s := ⟨_, rfl⟩
    obtain ⟨s2, hs2⟩ : ∃ s, cntE (fun e : Ed => e.2.1) es (ownUp V k q) = s := ⟨_, rfl⟩
    rw [hso] at hUb ⊢
    rw [hs1] at hc1b ⊢
    rw [hs2] at hc2b ⊢
    have HSo := hide hso
    have HS1 := hide hs1
    have HS2 := hide hs2
    clear hso hs1 hs2
    have svr : v.heap.size ≤ wr.heap.size := hbr.out.size
    have HBr := hide (B2.out.trans (hbr.out.mono hy2))
    have sur : u.heap.size ≤ wr.heap.size := by omega
    have MG : Hid (wr.heap[w.heap.size]? = some (.cells #[.int .i64 V, .slice A L c] 30)) := hide ((HBr.out.block _ hzl).trans M0.out)
    have g0 : wr.cell? ⟨w.heap.size, 0, none⟩ = some (.int .i64 V) := cell_of_row _ _ 0 _ _ _ MG.out
    have g1 : wr.cell? ⟨w.heap.size, 1, none⟩ = some (.slice A L c) := cell_of_row _ _ 1 _ _ _ MG.out
    have hgl : w.heap.size < wr.heap.size := by omega
    have HEr := hide (Eds.next HE.out HBr.out)
    by_cases hlt : q < k
    · have hI1 : (q : Int) < (k : Int) := by omega
      go_upto_region 9 with fail
      go_wp2_with fail
      refine (pcut_any _ V A es L c (k : Int) (q : Int) HL.out HEr.out (by omega)).mono ?_
      rintro e z hz
      obtain ⟨Ao, Au, Ab, no, nu, nb, co, cu, cb, rfl, ⟨hno, hnu, hnb⟩, hlen, hpo, hpi, hz⟩ := part_own svr hz
      rw [cut_ok HCk.out hk6 hlt]
      have HPe : Hid ((partF V es (k : Int) (q : Int)).own = ownedF V k q ∧ (partF V es (k : Int) (q : Int)).out = (ownedF V k q).map (fromF es) ∧ (partF V es (k : Int) (q : Int)).back = (ownedF V k q).map (toF es)) := hide (by rw [cut_is HCk.out hk6 hlt]; exact ⟨rfl, rfl, rfl⟩)
      obtain ⟨p, hp⟩ : ∃ p, partF V es (k : Int) (q : Int) = p := ⟨_, rfl⟩
      have HCu : Hid ((cuts V es k)[q]? = some p) := hide (by rw [cuts_get hlt, hp])
      rw [hp] at hlen hpo hpi HPe ⊢
      have HLen := hide hlen
      have HPO := hide hpo
      have HPI := hide hpi
      have HBz := hide (hbr.out.trans (hz.mono svr))
      have szz : wr.heap.size ≤ z.heap.size := hz.size
      have HMz := hide (hM.out.below hz)
      clear hp hlen hpo hpi hz g0 g1 hM hbr
      obtain ⟨t, ht⟩ : ∃ x, z.alloc (.cells #[.int .i64 p.wk, .int .i64 p.ws, .int .i64 p.vs, .slice Ao no co, .slice Au nu cu, .slice Ab nb cb] 34) = x := ⟨_, rfl⟩
      have HT : Hid (t.heap[z.heap.size]? = some (.cells #[.int .i64 p.wk, .int .i64 p.ws, .int .i64 p.vs, .slice Ao no co, .slice Au nu cu, .slice Ab nb cb] 34)) := hide (by rw [← ht]; exact heap_alloc_last _ _)
      have HZt : Hid (Below z.heap.size z t) := hide (by rw [← ht]; exact (Below.refl _ _).alloc (Nat.le_refl _) _)
      have HTe := hide ht
      clear ht
      obtain ⟨T, hT⟩ : ∃ T, z.heap.size = T := ⟨_, rfl⟩
      have HTz := hide hT
      rw [hT] at HT
      clear hT
      go_upto_region 10 with fail
      rw [HTe.out, HTz.out]
      clear HTe
      have hTt : T < t.heap.size := (Array.getElem?_eq_some_iff.1 HT.out).1
      have c0 : t.cell? ⟨T, 0, none⟩ = some (.int .i64 p.wk) := cell_of_row _ _ 0 _ _ _ HT.out
      have c1 : t.cell? ⟨T, 1, none⟩ = some (.int .i64 p.ws) := cell_of_row _ _ 1 _ _ _ HT.out
      have c2 : t.cell? ⟨T, 2, none⟩ = some (.int .i64 p.vs) := cell_of_row _ _ 2 _ _ _ HT.out
      have c3 : t.cell? ⟨T, 3, none⟩ = some (.slice Ao no co) := cell_of_row _ _ 3 _ _ _ HT.out
      have c4 : t.cell? ⟨T, 4, none⟩ = some (.slice Au nu cu) := cell_of_row _ _ 4 _ _ _ HT.out
      have c5 : t.cell? ⟨T, 5, none⟩ = some (.slice Ab nb cb) := cell_of_row _ _ 5 _ _ _ HT.out
      have HPt := hide (HPO.out.below HZt.out)
      have HBt := hide (HBz.out.trans (HZt.out.mono (Nat.le_trans svr szz)))
      have svt : v.heap.size ≤ t.heap.size := HBt.out.size
      obtain ⟨xs, ho, hm⟩ := HMz.out
      have HOz := hide ho
      have HOw := hide (own_all ho HZt.out (Nat.le_refl _))
      have HMr : Hid (MWr v.heap.size t xs (cuts V es k) q) := hide (fun q p hq hp => by obtain ⟨cs, a1, a2, a3⟩ := hm q p hq hp; exact ⟨cs, a1, a2.below HZt.out, a3⟩)
      clear ho hm HMz
      go_wp2_with (at_builtin; refine wpList_app rfl (.tmp 43) (.tmp 45) 47 rfl v.heap.size 34 a1 (.agg #[.int .i64 0, .int .i64 0, .int .i64 0, .slice none 0 0, .slice none 0 0, .slice none 0 0]) 6 96 Try.underlying47 a1i a1z a1s a1b rfl (by decide) (.slice Am q cm) q _ rfl (own_all HOw.out ((Below.refl _ _).alloc (Nat.le_refl _) _) (Nat.le_refl _)) (t.heap.size + 1) (some ⟨t.heap.size, 0, none⟩) 1 1 [.int .i64 p.wk, .int .i64 p.ws, .int .i64 p.vs, .slice Ao no co, .slice Au nu cu, .slice Ab nb cb] rfl rfl (Rd.new _ _ _ _) (by simp [Value.oneCell']) (by unfold maxLen; omega) (by omega) (by simp; omega) ?_)
      intro A' c' y own hg hat
      have hbt1 : Below t.heap.size t (t.alloc (.cells #[.int .i64 p.wk, .int .i64 p.ws, .int .i64 p.vs, .slice Ao no co, .slice Au nu cu, .slice Ab nb cb] 34)) := (Below.refl _ _).alloc (Nat.le_refl _) _
      have HMy : Hid (MW v.heap.size y (cuts V es k) A' (q + 1) c') := hide (MWr.app (fun q p hq hp => by obtain ⟨cs, a1, a2, a3⟩ := HMr.out q p hq hp; exact ⟨cs, a1, a2.below hbt1, a3⟩) (own_all HOw.out hbt1 (Nat.le_refl _)) HCu.out rfl (HPt.out.below hbt1) own hg)
      have HPy := hide ((HPt.out.below hbt1).grown (own_all HOw.out hbt1 (Nat.le_refl _)) hg).pin
      have HY := hide (app_below (HBt.out.alloc svt _) (own_all HOw.out hbt1 (Nat.le_refl _)) hg (by simp; omega) (Nat.le_refl _))
      have HTy : Hid (y.heap[T]? = some (.cells #[.int .i64 p.wk, .int .i64 p.ws, .int .i64 p.vs, .slice Ao no co, .slice Au nu cu, .slice Ab nb cb] 34)) := hide (by rw [hg.block T (by simp; omega) (fun e => by have h9 := (HOz.out.lt T e.symm).2; have := HTz.out; omega)]; exact (Below.heap_alloc _ _ _ hTt).trans HT.out)
      have svy : v.heap.size ≤ y.heap.size := HY.out.size
      clear own hg hat hbt1 HOw HOz HMr HPt HBt HT HBz HPI HPO HZt c0 c1 c2 c3 c4 c5
      have hTy : T < y.heap.size := (Array.getElem?_eq_some_iff.1 HTy.out).1
      have c0 : y.cell? ⟨T, 0, none⟩ = some (.int .i64 p.wk) := cell_of_row _ _ 0 _ _ _ HTy.out
      have c1 : y.cell? ⟨T, 1, none⟩ = some (.int .i64 p.ws) := cell_of_row _ _ 1 _ _ _ HTy.out
      have c2 : y.cell? ⟨T, 2, none⟩ = some (.int .i64 p.vs) := cell_of_row _ _ 2 _ _ _ HTy.out
      have c3 : y.cell? ⟨T, 3, none⟩ = some (.slice Ao no co) := cell_of_row _ _ 3 _ _ _ HTy.out
      have c4 : y.cell? ⟨T, 4, none⟩ = some (.slice Au nu cu) := cell_of_row _ _ 4 _ _ _ HTy.out
      have c5 : y.cell? ⟨T, 5, none⟩ = some (.slice Ab nb cb) := cell_of_row _ _ 5 _ _ _ HTy.out
      have hlo := HLen.out.1
      have k9 : IntKind.i64.wrap ((so : Int) + (no : Int)) = (so : Int) + (no : Int) := IntWalk.i64_in _ (by omega)
      go_wp2
      go_loopw [13, 8, 9] (fun v13 v8 v9 wr => ∃ i : Nat, i ≤ no ∧ v13 = .int .i64 (i : Int) ∧ v8 = .int .i64 (cntE (fun e : Ed => e.1) es (ownUp V k q ++ (ownedF V k q).take i) : Int) ∧ v9 = .int .i64 (cntE (fun e : Ed => e.2.1) es (ownUp V k q ++ (ownedF V k q).take i) : Int) ∧ Hid (Below y.heap.size y wr)) (fun v13 _ _ _ => no - (intOf v13).toNat)
      case atStart => exact ⟨0, by omega, rfl, by rw [List.take_zero, List.append_nil, HS1.out], by rw [List.take_zero, List.append_nil, HS2.out], hide (Below.refl _ _)⟩
      case round =>
        clear c0 c1 c2 c3 c4 c5
        obtain ⟨i, hi, rfl, rfl, rfl, hby⟩ := hrel
        have hd1 := cntE_le (fun e : Ed => e.1) es (ownUp_take (k := k) HVV.out q i)
        have hd2 := cntE_le (fun e : Ed => e.2.1) es (ownUp_take (k := k) HVV.out q i)
        rw [HL.out] at hd1 hd2
        obtain ⟨z1, hz1⟩ : ∃ s, cntE (fun e : Ed => e.1) es (ownUp V k q ++ (ownedF V k q).take i) = s := ⟨_, rfl⟩
        obtain ⟨z2, hz2⟩ : ∃ s, cntE (fun e : Ed => e.2.1) es (ownUp V k q ++ (ownedF V k q).take i) = s := ⟨_, rfl⟩
        rw [hz1] at hd1 ⊢
        rw [hz2] at hd2 ⊢
        have HZ1 := hide hz1
        have HZ2 := hide hz2
        clear hz1 hz2
        have HTw : Hid (wr.heap[T]? = some (.cells #[.int .i64 p.wk, .int .i64 p.ws, .int .i64 p.vs, .slice Ao no co, .slice Au nu cu, .slice Ab nb cb] 34)) := hide ((hby.out.block _ hTy).trans HTy.out)
        have hTw : T < wr.heap.size := (Array.getElem?_eq_some_iff.1 HTw.out).1
        have c0 : wr.cell? ⟨T, 0, none⟩ = some (.int .i64 p.wk) := cell_of_row _ _ 0 _ _ _ HTw.out
        have c1 : wr.cell? ⟨T, 1, none⟩ = some (.int .i64 p.ws) := cell_of_row _ _ 1 _ _ _ HTw.out
        have c2 : wr.cell? ⟨T, 2, none⟩ = some (.int .i64 p.vs) := cell_of_row _ _ 2 _ _ _ HTw.out
        have c3 : wr.cell? ⟨T, 3, none⟩ = some (.slice Ao no co) := cell_of_row _ _ 3 _ _ _ HTw.out
        have c4 : wr.cell? ⟨T, 4, none⟩ = some (.slice Au nu cu) := cell_of_row _ _ 4 _ _ _ HTw.out
        have c5 : wr.cell? ⟨T, 5, none⟩ = some (.slice Ab nb cb) := cell_of_row _ _ 5 _ _ _ HTw.out
        by_cases hlti : i < no
        · have hI2 : (i : Int) < (no : Int) := by omega
          obtain ⟨x, hx⟩ : ∃ x, p.own[i]? = some x := ⟨_, List.getElem?_eq_getElem (by rw [hlo]; exact hlti)⟩
          have hx2 : (ownedF V k q)[i]? = some x := by rw [← HPe.out.1]; exact hx
          have hof := ((mem_own HVV.out (by omega)).1 (List.mem_of_getElem? hx2)).2.2
          have HOf := hide hof
          have HIx : Hid (idxF p.own x = (i : Int)) := hide (idx_at (by rw [HPe.out.1]; exact owned_nodup _ _ _) hx)
          have hr1 : p.out[i]? = some (fromF es x) := by rw [HPe.out.2.1, List.getElem?_map, hx2]; rfl
          have hr2 : p.back[i]? = some (toF es x) := by rw [HPe.out.2.2, List.getElem?_map, hx2]; rfl
          have hlu : nu = no := by have := HLen.out.2.1; rw [HPe.out.2.1, List.length_map, ← HPe.out.1, hlo] at this; omega
          have hlb : nb = no := by have := HLen.out.2.2; rw [HPe.out.2.2, List.length_map, ← HPe.out.1, hlo] at this; omega
          obtain ⟨bo, oo, rfl, hbo, f0⟩ := HPy.out.own.at1 (ints_get hx)
          obtain ⟨bu, ou, A2, c2, rfl, hbu, f1, -, -, -⟩ := HPy.out.out.get hr1
          obtain ⟨bb, ob, A3, c3, rfl, hbb, f2, -, -, -⟩ := HPy.out.back.get hr2
          obtain ⟨l1, hl1⟩ : ∃ l, (fromF es x).length = l := ⟨_, rfl⟩
          obtain ⟨l2, hl2⟩ : ∃ l, (toF es x).length = l := ⟨_, rfl⟩
          rw [hl1] at f1
          rw [hl2] at f2
          have e0 : wr.cell? ⟨bo, oo + i, none⟩ = some (.int .i64 x) := (hby.out.cell (p := ⟨bo, oo + i, none⟩) hbo).trans f0
          have e1 : wr.cell? ⟨bu, ou + i, none⟩ = some (.slice A2 l1 c2) := (hby.out.cell (p := ⟨bu, ou + i, none⟩) hbu).trans f1
          have e2 : wr.cell? ⟨bb, ob + i, none⟩ = some (.slice A3 l2 c3) := (hby.out.cell (p := ⟨bb, ob + i, none⟩) hbb).trans f2
          have syw : y.heap.size ≤ wr.heap.size := hby.out.size
          have m0 : bo < wr.heap.size := by omega
          have m1 : bu < wr.heap.size := by omega
          have m2 : bb < wr.heap.size := by omega
          have HT1 : Hid (ownUp V k q ++ (ownedF V k q).take (i + 1) = (ownUp V k q ++ (ownedF V k q).take i) ++ [x]) := hide (by rw [List.take_add_one, hx2, Option.toList_some, List.append_assoc])
          have HN1 : Hid (cntE (fun e : Ed => e.1) es (ownUp V k q ++ (ownedF V k q).take (i + 1)) = z1 + l1) := hide (by rw [HT1.out, cntE_snoc, HZ1.out, ← hl1]; rfl)
          have HN2 : Hid (cntE (fun e : Ed => e.2.1) es (ownUp V k q ++ (ownedF V k q).take (i + 1)) = z2 + l2) := hide (by rw [HT1.out, cntE_snoc, HZ2.out, ← hl2]; rfl)
          have hq1 := cntE_le (fun e : Ed => e.1) es (ownUp_take (k := k) HVV.out q (i + 1))
          have hq2 := cntE_le (fun e : Ed => e.2.1) es (ownUp_take (k := k) HVV.out q (i + 1))
          rw [HN1.out, HL.out] at hq1
          rw [HN2.out, HL.out] at hq2
          have w1 : IntKind.i64.wrap ((z1 : Int) + (l1 : Int)) = (z1 : Int) + (l1 : Int) := IntWalk.i64_in _ (by omega)
          have w2 : IntKind.i64.wrap ((z2 : Int) + (l2 : Int)) = (z2 : Int) + (l2 : Int) := IntWalk.i64_in _ (by omega)
          have HROw := hide (((HPy.out.own.keep fun p hp => hby.out.cell hp).more syw))
          have hii : i < nu := by omega
          have hib : i < nb := by omega
          have hiu : (i : Int) < (nu : Int) := by omega
          have hibI : (i : Int) < (nb : Int) := by omega
          clear hx hx2 hof hr1 hr2 hl1 hl2 f0 f1 f2 hlu hlb
          obtain ⟨ws, rfl⟩ : ∃ z : World, z = wr := ⟨_, rfl⟩
          go_upto_region 19 with fail
          refine wp_region_held_drew (S := Kept ws) (by kernel_rfl) (Kept.drew ws) (fun hS0 => ?_)
          refine take_at (i := 0) (d := 75) (v := ?_) (by simp only [List.getElem?_toArray, List.getElem?_cons_succ, List.getElem?_cons_zero]; rfl) rfl (by kernel_rfl) (by kernel_rfl) (by kernel_rfl) (fun _ _ _ h => h) rfl ?_ (by assumption) ?_
          rotate_left
          focus (intro w hSw; go_simp; (try with_reducible rfl); done)
          try simp only [List.setIfInBounds_toArray, List.set_cons_zero, List.set_cons_succ]
          refine take_at (i := 1) (d := 76) (v := ?_) (by simp only [List.getElem?_toArray, List.getElem?_cons_succ, List.getElem?_cons_zero]; rfl) rfl (by kernel_rfl) (by kernel_rfl) (by kernel_rfl) (fun _ _ _ h => h) rfl ?_ (by assumption) ?_
          rotate_left
          focus (intro w hSw; go_simp; (try with_reducible rfl); done)
          try simp only [List.setIfInBounds_toArray, List.set_cons_zero, List.set_cons_succ]
          refine take_at (i := 2) (d := 77) (v := ?_) (by simp only [List.getElem?_toArray, List.getElem?_cons_succ, List.getElem?_cons_zero]; rfl) rfl (by kernel_rfl) (by kernel_rfl) (by kernel_rfl) (fun _ _ _ h => h) rfl ?_ (by assumption) ?_
          rotate_left
          focus (intro w hSw; go_simp; (try with_reducible rfl); done)
          try simp only [List.setIfInBounds_toArray, List.set_cons_zero, List.set_cons_succ]
          refine take_at (i := 3) (d := 78) (v := ?_) (by simp only [List.getElem?_toArray, List.getElem?_cons_succ, List.getElem?_cons_zero]; rfl) rfl (by kernel_rfl) (by kernel_rfl) (by kernel_rfl) (fun _ _ _ h => h) rfl ?_ (by assumption) ?_
          rotate_left
          focus (intro w hSw; go_simp; (try with_reducible rfl); done)
          try simp only [List.setIfInBounds_toArray, List.set_cons_zero, List.set_cons_succ]
          refine take_at (i := 4) (d := 79) (v := ?_) (by simp only [List.getElem?_toArray, List.getElem?_cons_succ, List.getElem?_cons_zero]; rfl) rfl (by kernel_rfl) (by kernel_rfl) (by kernel_rfl) (fun _ _ _ h => h) rfl ?_ (by assumption) ?_
          rotate_left
          focus (intro w hSw; go_simp; (try with_reducible rfl); done)
          try simp only [List.setIfInBounds_toArray, List.set_cons_zero, List.set_cons_succ]
          refine take_at (i := 5) (d := 80) (v := ?_) (by simp only [List.getElem?_toArray, List.getElem?_cons_succ, List.getElem?_cons_zero]; rfl) rfl (by kernel_rfl) (by kernel_rfl) (by kernel_rfl) (fun _ _ _ h => h) rfl ?_ (by assumption) ?_
          rotate_left
          focus (intro w hSw; go_simp; (try with_reducible rfl); done)
          try simp only [List.setIfInBounds_toArray, List.set_cons_zero, List.set_cons_succ]
          refine take_at (i := 7) (d := 82) (v := ?_) (by simp only [List.getElem?_toArray, List.getElem?_cons_succ, List.getElem?_cons_zero]; rfl) rfl (by kernel_rfl) (by kernel_rfl) (by kernel_rfl) (fun _ _ _ h => h) rfl ?_ (by assumption) ?_
          rotate_left
          focus (intro w hSw; go_simp; (try with_reducible rfl); done)
          try simp only [List.setIfInBounds_toArray, List.set_cons_zero, List.set_cons_succ]
          refine call_at (i := 6) (d := 81) (by simp only [List.getElem?_toArray, List.getElem?_cons_succ, List.getElem?_cons_zero]; rfl) rfl (by kernel_rfl) rfl (fun K hK => ?_)
          go_simp
          refine (of_any _ x (k : Int)).mono ?_
          rintro e y1 ⟨rfl, he1⟩
          have hS1 : Kept ws y1 := by rw [he1]; exact hS0
          rw [HOf.out]
          have E1 := hide he1
          clear he1
          go_wp2_with fail
          refine hK.out _ _ hS1 (fun hSn => ?_)
          clear hK K
          try simp only [List.setIfInBounds_toArray, List.set_cons_zero, List.set_cons_succ]
          refine take_at (i := 8) (d := 83) (v := ?_) (by simp only [List.getElem?_toArray, List.getElem?_cons_succ, List.getElem?_cons_zero]; rfl) rfl (by kernel_rfl) (by kernel_rfl) (by kernel_rfl) (fun _ _ _ h => h) rfl ?_ (by assumption) ?_
          rotate_left
          focus (intro w hSw; go_simp; (try with_reducible rfl); done)
          try simp only [List.setIfInBounds_toArray, List.set_cons_zero, List.set_cons_succ]
          refine take_at (i := 9) (d := 84) (v := ?_) (by simp only [List.getElem?_toArray, List.getElem?_cons_succ, List.getElem?_cons_zero]; rfl) rfl (by kernel_rfl) (by kernel_rfl) (by kernel_rfl) (fun _ _ _ h => h) rfl ?_ (by assumption) ?_
          rotate_left
          focus (intro w hSw; go_simp; (try with_reducible rfl); done)
          try simp only [List.setIfInBounds_toArray, List.set_cons_zero, List.set_cons_succ]
          refine take_at (i := 10) (d := 85) (v := ?_) (by simp only [List.getElem?_toArray, List.getElem?_cons_succ, List.getElem?_cons_zero]; rfl) rfl (by kernel_rfl) (by kernel_rfl) (by kernel_rfl) (fun _ _ _ h => h) rfl ?_ (by assumption) ?_
          rotate_left
          focus (intro w hSw; go_simp; (try with_reducible rfl); done)
          try simp only [List.setIfInBounds_toArray, List.set_cons_zero, List.set_cons_succ]
          refine take_at (i := 11) (d := 86) (v := ?_) (by simp only [List.getElem?_toArray, List.getElem?_cons_succ, List.getElem?_cons_zero]; rfl) rfl (by kernel_rfl) (by kernel_rfl) (by kernel_rfl) (fun _ _ _ h => h) rfl ?_ (by assumption) ?_
          rotate_left
          focus (intro w hSw; go_simp; (try with_reducible rfl); done)
          try simp only [List.setIfInBounds_toArray, List.set_cons_zero, List.set_cons_succ]
          refine take_at (i := 12) (d := 87) (v := ?_) (by simp only [List.getElem?_toArray, List.getElem?_cons_succ, List.getElem?_cons_zero]; rfl) rfl (by kernel_rfl) (by kernel_rfl) (by kernel_rfl) (fun _ _ _ h => h) rfl ?_ (by assumption) ?_
          rotate_left
          focus (intro w hSw; go_simp; (try with_reducible rfl); done)
          try simp only [List.setIfInBounds_toArray, List.set_cons_zero, List.set_cons_succ]
          refine take_at (i := 13) (d := 88) (v := ?_) (by simp only [List.getElem?_toArray, List.getElem?_cons_succ, List.getElem?_cons_zero]; rfl) rfl (by kernel_rfl) (by kernel_rfl) (by kernel_rfl) (fun _ _ _ h => h) rfl ?_ (by assumption) ?_
          rotate_left
          focus (intro w hSw; go_simp; (try with_reducible rfl); done)
          try simp only [List.setIfInBounds_toArray, List.set_cons_zero, List.set_cons_succ]
          refine take_at (i := 14) (d := 89) (v := ?_) (by simp only [List.getElem?_toArray, List.getElem?_cons_succ, List.getElem?_cons_zero]; rfl) rfl (by kernel_rfl) (by kernel_rfl) (by kernel_rfl) (fun _ _ _ h => h) rfl ?_ (by assumption) ?_
          rotate_left
          focus (intro w hSw; go_simp; (try with_reducible rfl); done)
          try simp only [List.setIfInBounds_toArray, List.set_cons_zero, List.set_cons_succ]
          refine take_at (i := 15) (d := 90) (v := ?_) (by simp only [List.getElem?_toArray, List.getElem?_cons_succ, List.getElem?_cons_zero]; rfl) rfl (by kernel_rfl) (by kernel_rfl) (by kernel_rfl) (fun _ _ _ h => h) rfl ?_ (by assumption) ?_
          rotate_left
          focus (intro w hSw; go_simp; (try with_reducible rfl); done)
          try simp only [List.setIfInBounds_toArray, List.set_cons_zero, List.set_cons_succ]
          refine take_at (i := 17) (d := 92) (v := ?_) (by simp only [List.getElem?_toArray, List.getElem?_cons_succ, List.getElem?_cons_zero]; rfl) rfl (by kernel_rfl) (by kernel_rfl) (by kernel_rfl) (fun _ _ _ h => h) rfl ?_ (by assumption) ?_
          rotate_left
          focus (intro w hSw; go_simp; (try with_reducible rfl); done)
          try simp only [List.setIfInBounds_toArray, List.set_cons_zero, List.set_cons_succ]
          refine call_at (i := 16) (d := 91) (by simp only [List.getElem?_toArray, List.getElem?_cons_succ, List.getElem?_cons_zero]; rfl) rfl (by kernel_rfl) rfl (fun K hK => ?_)
          go_simp
          refine (place_any y1 p.wk p.ws p.vs (some ⟨bo, oo, none⟩) (some ⟨bu, ou, none⟩) (some ⟨bb, ob, none⟩) p.own no co _ cu _ cb x hlo (by omega) (by rw [E1.out]; exact HROw.out)).mono ?_
          rintro e y2 ⟨rfl, hz⟩
          rw [HIx.out]
          have hS2 : Kept ws y2 := hS1.below (by rw [E1.out]; exact Nat.le_refl _) hz
          have HBy2 := hide (hby.out.drew.trans ((by rw [E1.out] at hz; exact hz : Below ws.drew.heap.size ws.drew y2).mono syw))
          clear hz
          go_wp2_with fail
          refine hK.out _ _ hS2 (fun hSn => ?_)
          clear hK K
          try simp only [List.setIfInBounds_toArray, List.set_cons_zero, List.set_cons_succ]
          refine take_at (i := 18) (d := 93) (v := ?_) (by simp only [List.getElem?_toArray, List.getElem?_cons_succ, List.getElem?_cons_zero]; rfl) rfl (by kernel_rfl) (by kernel_rfl) (by kernel_rfl) (fun _ _ _ h => h) rfl ?_ (by assumption) ?_
          rotate_left
          focus (intro w hSw; go_simp; (try with_reducible rfl); done)
          try simp only [List.setIfInBounds_toArray, List.set_cons_zero, List.set_cons_succ]
          refine take_at (i := 19) (d := 94) (v := ?_) (by simp only [List.getElem?_toArray, List.getElem?_cons_succ, List.getElem?_cons_zero]; rfl) rfl (by kernel_rfl) (by kernel_rfl) (by kernel_rfl) (fun _ _ _ h => h) rfl ?_ (by assumption) ?_
          rotate_left
          focus (intro w hSw; go_simp; (try with_reducible rfl); done)
          try simp only [List.setIfInBounds_toArray, List.set_cons_zero, List.set_cons_succ]
          refine wpAnyH_done (by kernel_rfl) ?_ _
          clear hS0 hS1 hS2 c0 c1 c2 c3 c4 c5
          go_wp2
          go_roundw
          case rel => first | exact ⟨i + 1, by omega, by go_num, by rw [HN1.out]; go_num, by rw [HN2.out]; go_num, HBy2⟩ | ((repeat apply Exists.intro); exact ⟨⟨i + 1, by omega, by go_num, by rw [HN1.out]; go_num, by rw [HN2.out]; go_num, HBy2⟩, rfl⟩)
          case measure => simp [intOf]; omega
        · obtain rfl : no = i := by omega
          have HF1 : Hid (cntE (fun e : Ed => e.1) es (ownUp V k (q + 1)) = z1) := hide (by rw [← HZ1.out, ownUp_succ, List.take_of_length_le (by rw [← HPe.out.1, hlo]; exact Nat.le_refl _)])
          have HF2 : Hid (cntE (fun e : Ed => e.2.1) es (ownUp V k (q + 1)) = z2) := hide (by rw [← HZ2.out, ownUp_succ, List.take_of_length_le (by rw [← HPe.out.1, hlo]; exact Nat.le_refl _)])
          have HFo : Hid ((ownUp V k (q + 1)).length = so + no) := hide (by rw [ownUp_succ, List.length_append, HSo.out, ← HPe.out.1, hlo])
          have HMw := hide (HMy.out.below hby.out)
          have HBw := hide (HY.out.trans (hby.out.mono svy))
          go_wp2
          go_roundw
          case rel => exact ⟨q + 1, A', c', by omega, by go_num, rfl, by rw [HFo.out]; go_num, by rw [HF1.out], by rw [HF2.out], HMw, HBw⟩
          case measure => simp [intOf]; omega
    · obtain rfl : k = q := by omega
      obtain ⟨u0, rfl⟩ : ∃ z : World, z = wr := ⟨_, rfl⟩
      have HRow : Hid (PtRow u0 Am (cuts V es k)) := hide (by have h := hM.out; rw [← cuts_len V es k] at h; exact MW.row (by rw [cuts_len] at h ⊢; exact hM.out))
      have HSo2 : Hid ((so : Int) = V) := hide (by rw [← HSo.out]; exact whole_own HVV.out hk1 hk6)
      have HS12 : Hid (s1 = L) := hide (by rw [← HS1.out, whole_from HCk.out hk1 hk6, HL.out])
      have HS22 : Hid (s2 = L) := hide (by rw [← HS2.out, whole_to HCk.out hk1 hk6, HL.out])
      clear hM hlt
      go_upto_region 21 with fail
      go_wp2_with fail
      refine (pjoin_any u0 Am (cuts V es k) k cm (cuts_len V es k) HRow.out (by omega) (by rw [cuts_all HCk.out hk1 hk6, HL.out]; omega)).mono ?_
      rintro e z hz
      obtain ⟨⟨A1, c1, rfl, hE1, -, -⟩, hz9⟩ := whole_post HCk.out hk1 hk6 hz
      rw [HL.out]
      have HE1 := hide hE1
      have HZ := hide (HBr.out.trans (hz9.mono sur))
      have szz : u0.heap.size ≤ z.heap.size := hz9.size
      clear hz hz9 hE1 g0 g1
      obtain ⟨u1, hu1⟩ : ∃ q, z.alloc (.cells #[.int .i64 V, .slice A1 L c1] 30) = q := ⟨_, rfl⟩
      have HG1 : Hid (u1.heap[z.heap.size]? = some (.cells #[.int .i64 V, .slice A1 L c1] 30)) := hide (by rw [← hu1]; exact heap_alloc_last _ _)
      have HZ1 : Hid (Below z.heap.size z u1) := hide (by rw [← hu1]; exact (Below.refl _ _).alloc (Nat.le_refl _) _)
      have HU1 := hide hu1
      clear hu1
      obtain ⟨G1, hG1⟩ : ∃ g, z.heap.size = g := ⟨_, rfl⟩
      have HGe := hide hG1
      rw [hG1] at HG1
      clear hG1
      go_upto_region 22 with fail
      rw [HU1.out, HGe.out]
      clear HU1
      have hg1l : G1 < u1.heap.size := (Array.getElem?_eq_some_iff.1 HG1.out).1
      have szu : z.heap.size ≤ u1.heap.size := HZ1.out.size
      have HBu := hide (HZ.out.trans (HZ1.out.mono (Nat.le_trans sur szz)))
      have suu : u.heap.size ≤ u1.heap.size := HBu.out.size
      have MG1 : Hid (u1.heap[w.heap.size]? = some (.cells #[.int .i64 V, .slice A L c] 30)) := hide ((HBu.out.block _ hzl).trans M0.out)
      have g0 : u1.cell? ⟨w.heap.size, 0, none⟩ = some (.int .i64 V) := cell_of_row _ _ 0 _ _ _ MG1.out
      have g1 : u1.cell? ⟨w.heap.size, 1, none⟩ = some (.slice A L c) := cell_of_row _ _ 1 _ _ _ MG1.out
      have hgl2 : w.heap.size < u1.heap.size := by omega
      have x0 : u1.cell? ⟨G1, 0, none⟩ = some (.int .i64 V) := cell_of_row _ _ 0 _ _ _ HG1.out
      have x1 : u1.cell? ⟨G1, 1, none⟩ = some (.slice A1 L c1) := cell_of_row _ _ 1 _ _ _ HG1.out
      go_wp2_with fail
      refine (gsame_any u1 V V A1 A es es L c1 L c HL.out HL.out (by omega) (Eds.next HE1.out HZ1.out) (Eds.next HE.out HBu.out)).mono ?_
      rintro e v9 ⟨rfl, hv⟩
      rw [show (decide (V = V) && eqL es es) = true by simp [eqL_self]]
      have HV9 := hide (HBu.out.trans (hv.mono suu))
      have MG9 := hide ((hv.block _ hgl2).trans MG1.out)
      have sv9 : u.heap.size ≤ v9.heap.size := HV9.out.size
      have hgl9 : w.heap.size < v9.heap.size := by omega
      clear hv x0 x1 g0 g1
      have g0 : v9.cell? ⟨w.heap.size, 0, none⟩ = some (.int .i64 V) := cell_of_row _ _ 0 _ _ _ MG9.out
      have g1 : v9.cell? ⟨w.heap.size, 1, none⟩ = some (.slice A L c) := cell_of_row _ _ 1 _ _ _ MG9.out
      have q1 : ((so : Int) == V) = true := by rw [HSo2.out]; simp
      have q2 : ((s1 : Int) == (L : Int)) = true := by rw [HS12.out]; simp
      have q3 : ((s2 : Int) == (s1 : Int)) = true := by rw [HS12.out, HS22.out]; simp
      go_wp2_with fail
      refine (works_any _).mono ?_
      rintro e wk ⟨rfl, hb⟩
      have HF := hide (HB.out.trans ((HV9.out.trans (hb.mono sv9)).mono (by omega)))
      clear hb
      go_wp2
      go_ret
      exact ⟨rfl, HF.out⟩
theorem partsWhole_walk (w : World) (V : Int) (A : Option Addr) (es : List Ed) (c : Nat) (hV1 : -9223372036854775808 ≤ V) (hV2 : V ≤ 9223372036854775807) (hE : Eds w w.heap.size A es) (hc1 : es.length ≤ c) (hc2 : c ≤ 9223372036854775807) (hB : ∀ e ∈ es, edB e) (n : Int) (hn0 : 0 ≤ n) (hn : n ≤ 255) :
    Calls Try.prog 6 #[.agg #[.int .i64 V, .slice A es.length c], .int .u8 n] w fun e W' => e = .returned (.bool true) ∧ Below w.heap.size w W' := by
  obtain ⟨m, rfl⟩ : ∃ m : Nat, n = (m : Int) := ⟨n.toNat, by omega⟩
  exact partsWhole_main w V A es c hV1 hV2 hE hc1 hc2 m (by omega)
end Go.Proofs.Ytihdpfjonkagaaa
