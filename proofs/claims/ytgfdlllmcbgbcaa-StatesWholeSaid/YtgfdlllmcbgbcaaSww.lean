/- The walk of the statement StatesWhole. (printed by gen/sww.py) -/
import Derived.Test.YtgfdlllmcbgbcaaJst
import Derived.Test.YtgfdlllmcbgbcaaJsm
import Derived.Test.YtgfdlllmcbgbcaaSwk
import Derived.Test.YtgfdlllmcbgbcaaStk
import Derived.Test.YtgfdlllmcbgbcaaSwp
namespace Go.Proofs.Ytgfdlllmcbgbcaa
open Go.RowKit
set_option linter.unusedVariables false
set_option linter.unusedSimpArgs false
/-- a row that lies not in block X -/
def RdX (w : World) (X : Option Nat) (A : Option Addr) (xs : List Value) : Prop := Rd w w.heap.size A xs ∧ (xs ≠ [] → ∀ b off, A = some ⟨b, off, none⟩ → some b ≠ X)
theorem RdX.next {w w' : World} {X : Option Nat} {A : Option Addr} {xs : List Value} (h : RdX w X A xs) (hb : Below w.heap.size w w') : RdX w' X A xs := ⟨h.1.next hb, h.2⟩
theorem RdX.grown {w w' : World} {X X' : Option Nat} {A : Option Addr} {xs : List Value} (h : RdX w X A xs) (hg : w.grownBy w' X) (hX : X' = X ∨ X' = some w.heap.size) : RdX w' X' A xs := by
  refine ⟨fun hn => ?_, fun hn b off e => ?_⟩
  · obtain ⟨b, off, rfl, hb, hc⟩ := h.1 hn
    exact ⟨b, off, rfl, Nat.lt_of_lt_of_le hb hg.size, fun j u hu => (World.cell?_of_block (hg.block b hb (h.2 hn b off rfl))).trans (hc j u hu)⟩
  · rcases hX with rfl | rfl
    · exact h.2 hn b off e
    · obtain ⟨b', off', e', hb, _⟩ := h.1 hn
      rw [e] at e'
      injection e' with e'
      injection e' with e1 e2
      intro h1
      injection h1 with h1
      omega
theorem RdX.new {w : World} {X : Option Nat} {A : Option Addr} {xs : List Value} {B : Nat} (h : Rd w w.heap.size A xs) (hn : NewA B A) (hX : ∀ g, X = some g → g < B) : RdX w X A xs :=
  ⟨h, fun _ b off e h1 => by have := hn b off e; have := hX b h1.symm; omega⟩
/-- these cells are that part, and none of its rows lies in block X -/
def PVX (w : World) (X : Option Nat) (cs : List Value) (p : SPart) : Prop := ∃ (Ao Av Ac Ai : Option Addr) (no nv nc ni co cv cc ci : Nat), cs = [.int .i64 p.step, .slice Ao no co, .slice Av nv cv, .slice Ac nc cc, .slice Ai ni ci] ∧ SLen p no nv nc ni ∧ (RdX w X Ao (i64s p.own) ∧ RdX w X Av (i64s p.vals) ∧ RdX w X Ac (bools p.chg) ∧ RdX w X Ai (mlFlat p.inb)) ∧
  (no ≤ 9223372036854775807 ∧ nv ≤ 9223372036854775807 ∧ nc ≤ 9223372036854775807 ∧ ni ≤ 9223372036854775807)
theorem PVX.next {w w' : World} {X : Option Nat} {cs : List Value} {p : SPart} (h : PVX w X cs p) (hb : Below w.heap.size w w') : PVX w' X cs p := by
  obtain ⟨Ao, Av, Ac, Ai, no, nv, nc, ni, co, cv, cc, ci, h1, h2, ⟨r1, r2, r3, r4⟩, h4⟩ := h
  exact ⟨Ao, Av, Ac, Ai, no, nv, nc, ni, co, cv, cc, ci, h1, h2, ⟨r1.next hb, r2.next hb, r3.next hb, r4.next hb⟩, h4⟩
theorem PVX.grown {w w' : World} {X X' : Option Nat} {cs : List Value} {p : SPart} (h : PVX w X cs p) (hg : w.grownBy w' X) (hX : X' = X ∨ X' = some w.heap.size) : PVX w' X' cs p := by
  obtain ⟨Ao, Av, Ac, Ai, no, nv, nc, ni, co, cv, cc, ci, h1, h2, ⟨r1, r2, r3, r4⟩, h4⟩ := h
  exact ⟨Ao, Av, Ac, Ai, no, nv, nc, ni, co, cv, cc, ci, h1, h2, ⟨r1.grown hg hX, r2.grown hg hX, r3.grown hg hX, r4.grown hg hX⟩, h4⟩
theorem PVX.val {w : World} {X : Option Nat} {cs : List Value} {p : SPart} (h : PVX w X cs p) : PVal w cs p := by
  obtain ⟨Ao, Av, Ac, Ai, no, nv, nc, ni, co, cv, cc, ci, h1, h2, ⟨r1, r2, r3, r4⟩, h4⟩ := h
  exact ⟨Ao, Av, Ac, Ai, no, nv, nc, ni, co, cv, cc, ci, h1, h2, ⟨r1.1, r2.1, r3.1, r4.1⟩, h4⟩
/-- the cells of a row that grows are the first n parts -/
def MW (w : World) (X : Option Nat) (xs : List Value) (ps : List SPart) (n : Nat) : Prop := ∀ (q : Nat) (p : SPart), q < n → ps[q]? = some p → ∃ cs : List Value, cs.length = 5 ∧ PVX w X cs p ∧ ∀ j u, cs[j]? = some u → xs[q * 5 + j]? = some u
def MWR (B : Nat) (w : World) (ps : List SPart) (A : Option Addr) (n c : Nat) : Prop := ∃ xs, w.ownsRow B 27 5 (.slice A n c) n xs ∧ MW w (Value.slice A n c).ownBlock xs ps n
section
variable {B : Nat} {w w' : World} {ps : List SPart} {A : Option Addr} {n c : Nat}
theorem MWR.zero (B : Nat) (w : World) (ps : List SPart) : MWR B w ps none 0 0 := ⟨[], World.ownsRow_nil _ _ _ _, fun q p h => absurd h (by omega)⟩
theorem MWR.next (h : MWR B w ps A n c) (hb : Below w.heap.size w w') : MWR B w' ps A n c := by
  obtain ⟨xs, ho, hm⟩ := h
  refine ⟨xs, own_below ho hb (fun g hg => (ho.lt g hg).2), fun q p hq hp => ?_⟩
  obtain ⟨cs, h1, h2, h3⟩ := hm q p hq hp
  exact ⟨cs, h1, h2.next hb, h3⟩
theorem MWR.row (h : MWR B w ps A ps.length c) : PRow w A ps := fun hn => by
  obtain ⟨xs, ho, hm⟩ := h
  have hpos : 0 < ps.length := List.length_pos_iff.2 hn
  obtain ⟨g, rfl, _, hlt, _⟩ := own_addr ho hpos
  refine ⟨g, 0, rfl, hlt, fun i x hx => ?_⟩
  obtain ⟨cs, hl, hv, hc⟩ := hm i x (List.getElem?_eq_some_iff.1 hx).1 hx
  refine ⟨cs, hl, hv.val, fun j u hu => ?_⟩
  have h1 := hc j u hu
  have h2 := (List.getElem?_eq_some_iff.1 h1).1
  have h3 := ho.1
  rw [Nat.zero_add, ho.cellAt (i * 5 + j) (by omega)]
  exact h1
theorem MW.snoc {X X' : Option Nat} {xs : List Value} (h : MW w X xs ps n) (hg : w.grownBy w' X) (hX : X' = X ∨ X' = some w.heap.size) (hx : xs.length = n * 5) {p : SPart} (hp : ps[n]? = some p) {cs : List Value} (hl : cs.length = 5) (hv : PVX w X cs p) : MW w' X' (xs ++ cs) ps (n + 1) := fun q p' hq hp' => by
  rcases Nat.lt_or_ge q n with h1 | h1
  · obtain ⟨cs', a1, a2, a3⟩ := h q p' h1 hp'
    refine ⟨cs', a1, a2.grown hg hX, fun j u hu => ?_⟩
    have h2 := (List.getElem?_eq_some_iff.1 hu).1
    rw [List.getElem?_append_left (by omega)]
    exact a3 j u hu
  · obtain rfl : q = n := by omega
    rw [hp] at hp'
    obtain rfl := Option.some.inj hp'
    refine ⟨cs, hl, hv.grown hg hX, fun j u hu => ?_⟩
    rw [List.getElem?_append_right (by omega), hx, show q * 5 + j - q * 5 = j by omega]
    exact hu
end
section
variable {w w' : World} {ps : List SPart} {A : Option Addr} {n c : Nat}
theorem put_short (p : SPart) (h : p.own.length ≤ 60) : (putB p).length ≤ 1000000 := by
  have := putB_len p
  omega
theorem far_rd {w1 w2 f : World} {T : Nat} {A : Option Addr} {xs : List Value} (h : Rd w1 w1.heap.size A xs) (hT : w1.heap.size = T) (hb2 : Below w1.heap.size w1 w2) (hf : ∀ b, b ≠ T → f.heap[b]? = w2.heap[b]?) (hs : f.heap.size = w2.heap.size) : Rd f f.heap.size A xs := fun hn => by
  obtain ⟨b, off, e, hb, hc⟩ := h hn
  have := hb2.size
  exact ⟨b, off, e, by omega, fun j z hz => (World.cell?_of_block ((hf b (by omega)).trans (hb2.block b hb))).trans (hc j z hz)⟩
theorem pvx_new {X : Option Nat} {B : Nat} {p : SPart} {Ao Av Ac Ai : Option Addr} {no nv nc ni : Nat} (hr : rightB p = true) (h60 : p.own.length ≤ 60) (hl : SLen p no nv nc ni) (hi : SIn w p Ao Av Ac Ai) (w1 : NewA B Ao) (w2 : NewA B Av) (w3 : NewA B Ac) (w4 : NewA B Ai) (co cv cc ci : Nat) (hX : ∀ g, X = some g → g < B) :
    PVX w X [.int .i64 p.step, .slice Ao no co, .slice Av nv cv, .slice Ac nc cc, .slice Ai ni ci] p := by
  obtain ⟨l1, l2, l3⟩ := right_lens3 hr
  have h := hl
  unfold SLen at h
  exact ⟨Ao, Av, Ac, Ai, no, nv, nc, ni, co, cv, cc, ci, rfl, hl, ⟨.new hi.own w1 hX, .new hi.vals w2 hX, .new hi.chg w3 hX, .new hi.inb w4 hX⟩, by omega⟩
theorem own_short (n k : Int) (V : Nat) : (ownUpto n k V).length ≤ V := by
  unfold ownUpto
  refine Nat.le_trans (List.length_filter_le _ _) ?_
  simp
end
set_option maxRecDepth 100000 in
set_option maxHeartbeats 16000000 in
theorem statesWhole_go (w : World) (st sm mo : Int) (A1 A2 A3 : Option Addr) (V n2 n3 c1 c2 c3 : Nat) (vals : List Int) (chg : List Bool) (inb : List Ml) (m : Nat) (hm : m ≤ 255) (hv : vals.length = V) (hc : chg.length = n2) (hi : inb.length = n3)
    (r1 : Rd w w.heap.size A1 (i64s vals)) (r2 : Rd w w.heap.size A2 (bools chg)) (r3 : Rd w w.heap.size A3 (mlFlat inb)) :
    Calls Try.prog 8 #[.agg #[.int .i64 st, .slice A1 V c1, .slice A2 n2 c2, .slice A3 n3 c3, .int .i64 sm, .int .i64 mo], .int .u8 (m : Int)] w fun e W' => e = .returned (.bool true) ∧ Below w.heap.size w W' := by
  obtain ⟨u, hu⟩ : ∃ u, w.alloc (.cells #[.int .i64 st, .slice A1 V c1, .slice A2 n2 c2, .slice A3 n3 c3, .int .i64 sm, .int .i64 mo] 48) = u := ⟨_, rfl⟩
  have hzu : w.heap.size < u.heap.size := by rw [← hu]; simp
  have HBU := hide (show Below w.heap.size w u by rw [← hu]; exact (Below.refl _ _).alloc (Nat.le_refl _) _)
  have M0 := hide (show u.heap[w.heap.size]? = some (.cells #[.int .i64 st, .slice A1 V c1, .slice A2 n2 c2, .slice A3 n3 c3, .int .i64 sm, .int .i64 mo] 48) by rw [← hu]; exact heap_alloc_last _ _)
  have HU := hide hu
  have R1 := hide (r1.next HBU.out)
  have R2 := hide (r2.next HBU.out)
  have R3 := hide (r3.next HBU.out)
  have HV := hide hv
  have HC := hide hc
  have HI := hide hi
  clear hu r1 r2 r3 hv hc hi
  by_cases g1 : 60 < V
  · have g1' : (60 : Int) < (V : Int) := by omega
    have N0 := M0.out
    have x0 : u.cell? ⟨w.heap.size, 0, none⟩ = some (.int .i64 st) := cell_of_row _ _ 0 _ _ _ N0
    have x1 : u.cell? ⟨w.heap.size, 1, none⟩ = some (.slice A1 V c1) := cell_of_row _ _ 1 _ _ _ N0
    have x2 : u.cell? ⟨w.heap.size, 2, none⟩ = some (.slice A2 n2 c2) := cell_of_row _ _ 2 _ _ _ N0
    have x3 : u.cell? ⟨w.heap.size, 3, none⟩ = some (.slice A3 n3 c3) := cell_of_row _ _ 3 _ _ _ N0
    have x4 : u.cell? ⟨w.heap.size, 4, none⟩ = some (.int .i64 sm) := cell_of_row _ _ 4 _ _ _ N0
    have x5 : u.cell? ⟨w.heap.size, 5, none⟩ = some (.int .i64 mo) := cell_of_row _ _ 5 _ _ _ N0
    clear N0
    go_enter Try.func8, Try.ntmps8
    go_upto_region 1 with fail
    rw [HU.out]
    go_wp2_with fail
    refine (works_any _).mono ?_
    rintro e w2 ⟨rfl, hb⟩
    have HF := hide (HBU.out.trans (hb.mono (by omega)))
    clear hb
    go_wp2
    go_ret
    exact ⟨rfl, HF.out⟩
  by_cases g2 : 60 < n2
  · have g1' : ¬ (60 : Int) < (V : Int) := by omega
    have g2' : (60 : Int) < (n2 : Int) := by omega
    have N0 := M0.out
    have x0 : u.cell? ⟨w.heap.size, 0, none⟩ = some (.int .i64 st) := cell_of_row _ _ 0 _ _ _ N0
    have x1 : u.cell? ⟨w.heap.size, 1, none⟩ = some (.slice A1 V c1) := cell_of_row _ _ 1 _ _ _ N0
    have x2 : u.cell? ⟨w.heap.size, 2, none⟩ = some (.slice A2 n2 c2) := cell_of_row _ _ 2 _ _ _ N0
    have x3 : u.cell? ⟨w.heap.size, 3, none⟩ = some (.slice A3 n3 c3) := cell_of_row _ _ 3 _ _ _ N0
    have x4 : u.cell? ⟨w.heap.size, 4, none⟩ = some (.int .i64 sm) := cell_of_row _ _ 4 _ _ _ N0
    have x5 : u.cell? ⟨w.heap.size, 5, none⟩ = some (.int .i64 mo) := cell_of_row _ _ 5 _ _ _ N0
    clear N0
    go_enter Try.func8, Try.ntmps8
    go_upto_region 1 with fail
    rw [HU.out]
    go_wp2_with fail
    refine (works_any _).mono ?_
    rintro e w2 ⟨rfl, hb⟩
    have HF := hide (HBU.out.trans (hb.mono (by omega)))
    clear hb
    go_wp2
    go_ret
    exact ⟨rfl, HF.out⟩
  by_cases g3 : 60 < n3
  · have g1' : ¬ (60 : Int) < (V : Int) := by omega
    have g2' : ¬ (60 : Int) < (n2 : Int) := by omega
    have g3' : (60 : Int) < (n3 : Int) := by omega
    have N0 := M0.out
    have x0 : u.cell? ⟨w.heap.size, 0, none⟩ = some (.int .i64 st) := cell_of_row _ _ 0 _ _ _ N0
    have x1 : u.cell? ⟨w.heap.size, 1, none⟩ = some (.slice A1 V c1) := cell_of_row _ _ 1 _ _ _ N0
    have x2 : u.cell? ⟨w.heap.size, 2, none⟩ = some (.slice A2 n2 c2) := cell_of_row _ _ 2 _ _ _ N0
    have x3 : u.cell? ⟨w.heap.size, 3, none⟩ = some (.slice A3 n3 c3) := cell_of_row _ _ 3 _ _ _ N0
    have x4 : u.cell? ⟨w.heap.size, 4, none⟩ = some (.int .i64 sm) := cell_of_row _ _ 4 _ _ _ N0
    have x5 : u.cell? ⟨w.heap.size, 5, none⟩ = some (.int .i64 mo) := cell_of_row _ _ 5 _ _ _ N0
    clear N0
    go_enter Try.func8, Try.ntmps8
    go_upto_region 1 with fail
    rw [HU.out]
    go_wp2_with fail
    refine (works_any _).mono ?_
    rintro e w2 ⟨rfl, hb⟩
    have HF := hide (HBU.out.trans (hb.mono (by omega)))
    clear hb
    go_wp2
    go_ret
    exact ⟨rfl, HF.out⟩
  have g1' : ¬ (60 : Int) < (V : Int) := by omega
  have g2' : ¬ (60 : Int) < (n2 : Int) := by omega
  have g3' : ¬ (60 : Int) < (n3 : Int) := by omega
  obtain ⟨K, hK⟩ : ∃ K, 1 + m % 64 = K := ⟨_, rfl⟩
  have hK1 : 1 ≤ K := by omega
  have hK2 : K ≤ 64 := by omega
  have hKi : (1 : Int) + (m : Int) % 64 = (K : Int) := by omega
  have hm0 : (0 : Int) ≤ (m : Int) := by omega
  have hm1 : (m : Int) ≤ 255 := by omega
  have hKn : (K : Int) ≤ 64 := by omega
  have hKp : (1 : Int) ≤ (K : Int) := by omega
  clear hK
  obtain ⟨a1, a1i, a1z, a1s, a1b⟩ := info_parts (show (Try.prog.info? 27).map (fun i => (i.zero, i.size, i.bytes)) = some (some (.agg #[.int .i64 0, .slice none 0 0, .slice none 0 0, .slice none 0 0, .slice none 0 0]), 5, 104) by kernel_rfl)
  have N0 := M0.out
  have x0 : u.cell? ⟨w.heap.size, 0, none⟩ = some (.int .i64 st) := cell_of_row _ _ 0 _ _ _ N0
  have x1 : u.cell? ⟨w.heap.size, 1, none⟩ = some (.slice A1 V c1) := cell_of_row _ _ 1 _ _ _ N0
  have x2 : u.cell? ⟨w.heap.size, 2, none⟩ = some (.slice A2 n2 c2) := cell_of_row _ _ 2 _ _ _ N0
  have x3 : u.cell? ⟨w.heap.size, 3, none⟩ = some (.slice A3 n3 c3) := cell_of_row _ _ 3 _ _ _ N0
  have x4 : u.cell? ⟨w.heap.size, 4, none⟩ = some (.int .i64 sm) := cell_of_row _ _ 4 _ _ _ N0
  have x5 : u.cell? ⟨w.heap.size, 5, none⟩ = some (.int .i64 mo) := cell_of_row _ _ 5 _ _ _ N0
  clear N0
  go_enter Try.func8, Try.ntmps8
  go_upto_region 1 with fail
  rw [HU.out]
  go_wp2
  clear hKi x0 x1 x2 x3 x4 x5
  have HUB := hide (Below.refl u.heap.size u)
  go_loopw [7, 6] (fun v7 v6 wr => ∃ (i : Nat) (Al : Option Addr) (cl : Nat), i ≤ K ∧ v7 = .int .i64 (i : Int) ∧ v6 = .slice Al i cl ∧ Hid (MWR u.heap.size wr (gots st vals chg inb K K) Al i cl) ∧ Hid (i = 0 ∨ takeE st vals chg inb (K : Int) 0 = 0) ∧ Hid (Below u.heap.size u wr)) (fun v7 _ _ => K - (intOf v7).toNat)
  case atStart => exact ⟨0, none, 0, by omega, rfl, rfl, hide (MWR.zero _ _ _), hide (.inl rfl), HUB⟩
  case round =>
    clear HUB
    obtain ⟨i, Al, cl, hi, rfl, rfl, hM, hE, hbr⟩ := hrel
    have srw : u.heap.size ≤ wr.heap.size := hbr.out.size
    by_cases hlt : i < K
    · have hI0 : (0 : Int) ≤ (i : Int) := by omega
      have hI1 : (i : Int) < (K : Int) := by omega
      have M0r := hide ((hbr.out.block _ hzu).trans M0.out)
      have hcl := stake_any wr st sm mo A1 A2 A3 V n2 n3 c1 c2 c3 vals chg inb (K : Int) (i : Int) (by omega) HV.out HC.out HI.out (R1.out.next hbr.out) (R2.out.next hbr.out) (R3.out.next hbr.out)
      rw [takeE_all hK1 hK2 hlt] at hcl
      have N0 := M0r.out
      have x0 : wr.cell? ⟨w.heap.size, 0, none⟩ = some (.int .i64 st) := cell_of_row _ _ 0 _ _ _ N0
      have x1 : wr.cell? ⟨w.heap.size, 1, none⟩ = some (.slice A1 V c1) := cell_of_row _ _ 1 _ _ _ N0
      have x2 : wr.cell? ⟨w.heap.size, 2, none⟩ = some (.slice A2 n2 c2) := cell_of_row _ _ 2 _ _ _ N0
      have x3 : wr.cell? ⟨w.heap.size, 3, none⟩ = some (.slice A3 n3 c3) := cell_of_row _ _ 3 _ _ _ N0
      have x4 : wr.cell? ⟨w.heap.size, 4, none⟩ = some (.int .i64 sm) := cell_of_row _ _ 4 _ _ _ N0
      have x5 : wr.cell? ⟨w.heap.size, 5, none⟩ = some (.int .i64 mo) := cell_of_row _ _ 5 _ _ _ N0
      clear N0
      have hwr : w.heap.size < wr.heap.size := by omega
      rcases hE0 : decide (takeE st vals chg inb (K : Int) 0 = 0) with _ | _
      · have hEn : takeE st vals chg inb (K : Int) 0 ≠ 0 := of_decide_eq_false hE0
        obtain rfl : i = 0 := by rcases hE.out with h | h; exact h; exact absurd h hEn
        obtain ⟨E, hEe⟩ : ∃ E, takeE st vals chg inb (K : Int) 0 = E := ⟨_, rfl⟩
        have hcs := takeE_cases (st := st) (vals := vals) (chg := chg) (inb := inb) (K := K) 0
        rw [hEe] at hcl hEn hcs
        clear hE0 hE hEe
        have HCL := hide hcl
        clear hcl
        have hEf : E = 2 ∨ E = 4 := by omega
        clear hcs hEn
        go_wp2_with fail
        refine HCL.out.mono ?_
        rintro e z ⟨no1, nv1, nc1, ni1, Ao1, co1, Av1, cv1, Ac1, cc1, Ai1, ci1, hsl, hno, rfl, hsi, hz⟩
        have HZ := hide (hbr.out.trans (hz.mono srw))
        clear hsl hsi hz HCL x0 x1 x2 x3 x4 x5
        have szz := HZ.out.size
        obtain ⟨p1, hp1⟩ : ∃ p, takeP st vals chg inb (K : Int) ((0 : Nat) : Int) = p := ⟨_, rfl⟩
        rw [hp1]
        clear hp1
        obtain ⟨z1, hz1⟩ : ∃ y, z.alloc (.cells #[.int .i64 p1.step, .slice Ao1 no1 co1, .slice Av1 nv1 cv1, .slice Ac1 nc1 cc1, .slice Ai1 ni1 ci1] 27) = y := ⟨_, rfl⟩
        have HZ1 := hide (show Below u.heap.size u z1 by rw [← hz1]; exact HZ.out.alloc szz _)
        have HZe := hide hz1
        clear hz1
        rcases hEf with rfl | rfl
        · go_upto_region 9 with fail
          rw [HZe.out]
          go_wp2_with fail
          refine (works_any _).mono ?_
          rintro e w2 ⟨rfl, hb⟩
          have HF := hide (HBU.out.trans ((HZ1.out.trans (hb.mono HZ1.out.size)).mono (by omega)))
          clear hb
          go_wp2
          go_ret
          exact ⟨rfl, HF.out⟩
        · go_upto_region 9 with fail
          rw [HZe.out]
          go_wp2_with fail
          refine (works_any _).mono ?_
          rintro e w2 ⟨rfl, hb⟩
          have HF := hide (HBU.out.trans ((HZ1.out.trans (hb.mono HZ1.out.size)).mono (by omega)))
          clear hb
          go_wp2
          go_ret
          exact ⟨rfl, HF.out⟩
      · have hEz : takeE st vals chg inb (K : Int) 0 = 0 := of_decide_eq_true hE0
        have HEz := hide hEz
        have hTP : takeP st vals chg inb (K : Int) (i : Int) = (pickP st vals chg inb (ownUpto (K : Int) (i : Int) vals.length)) := by unfold takeP; rw [takeE_all hK1 hK2 hlt, hEz, if_pos rfl]
        have hrw := (takeE_zero hEz).2
        have HRP : Hid (rightB (pickP st vals chg inb (ownUpto (K : Int) (i : Int) vals.length)) = true) := hide (right_pick hrw (by rw [HV.out]; omega) _ _)
        have HPO : Hid ((pickP st vals chg inb (ownUpto (K : Int) (i : Int) vals.length)).own.length ≤ 60) := hide (by have := own_short (K : Int) (i : Int) vals.length; rw [HV.out] at this ⊢; show (ownUpto _ _ _).length ≤ 60; omega)
        have HGT : Hid ((gots st vals chg inb K K)[i]? = some (nmS (pickP st vals chg inb (ownUpto (K : Int) (i : Int) vals.length)))) := hide (gots_get hlt)
        rw [hEz, hTP] at hcl
        clear hEz hTP hrw hE hE0
        obtain ⟨p1, hp1⟩ : ∃ p, (pickP st vals chg inb (ownUpto (K : Int) (i : Int) vals.length)) = p := ⟨_, rfl⟩
        rw [hp1] at hcl HRP HPO HGT
        clear hp1
        have HCL := hide hcl
        clear hcl
        go_wp2_with fail
        refine HCL.out.mono ?_
        rintro e z ⟨no1, nv1, nc1, ni1, Ao1, co1, Av1, cv1, Ac1, cc1, Ai1, ci1, hsl, hno, rfl, hsi, hz⟩
        have HSL := hide hsl
        have HZ := hide (hbr.out.trans (hz.mono srw))
        have HMz := hide (hM.out.next hz)
        have HSI := hide hsi
        clear hsl hsi hz HCL hM hbr x0 x1 x2 x3 x4 x5
        have szz := HZ.out.size
        have hno1 : no1 ≤ 60 := by have := HPO.out; have := HSL.out.1; omega
        obtain ⟨z1, hz1⟩ : ∃ y, z.alloc (.cells #[.int .i64 p1.step, .slice Ao1 no1 co1, .slice Av1 nv1 cv1, .slice Ac1 nc1 cc1, .slice Ai1 ni1 ci1] 27) = y := ⟨_, rfl⟩
        have HB1 := hide (show Below z.heap.size z z1 by rw [← hz1]; exact (Below.refl _ _).alloc (Nat.le_refl _) _)
        have hT1 : z1.heap[z.heap.size]? = some (.cells #[.int .i64 p1.step, .slice Ao1 no1 co1, .slice Av1 nv1 cv1, .slice Ac1 nc1 cc1, .slice Ai1 ni1 ci1] 27) := by rw [← hz1]; exact heap_alloc_last _ _
        have HZe := hide hz1
        have hbt : z.heap.size < z1.heap.size := by rw [← hz1]; simp
        clear hz1
        go_upto_region 11 with fail
        rw [HZe.out]
        obtain ⟨bq, hbq⟩ : ∃ y, z.heap.size = y := ⟨_, rfl⟩
        rw [hbq] at hT1 hbt ⊢
        clear HZe
        have HT1e := hide hbq
        clear hbq
        have t0 : z1.cell? ⟨bq, 0, none⟩ = some (.int .i64 p1.step) := cell_of_row _ _ 0 _ _ _ hT1
        have t1 : z1.cell? ⟨bq, 1, none⟩ = some (.slice Ao1 no1 co1) := cell_of_row _ _ 1 _ _ _ hT1
        have t2 : z1.cell? ⟨bq, 2, none⟩ = some (.slice Av1 nv1 cv1) := cell_of_row _ _ 2 _ _ _ hT1
        have t3 : z1.cell? ⟨bq, 3, none⟩ = some (.slice Ac1 nc1 cc1) := cell_of_row _ _ 3 _ _ _ hT1
        have t4 : z1.cell? ⟨bq, 4, none⟩ = some (.slice Ai1 ni1 ci1) := cell_of_row _ _ 4 _ _ _ hT1
        clear hT1
        have HC1 := hide (HZ.out.trans (HB1.out.mono szz))
        have HM1 := hide (HMz.out.next HB1.out)
        have hpt := sput_ok z1 p1 Ao1 Av1 Ac1 Ai1 no1 nv1 nc1 ni1 co1 cv1 cc1 ci1 HSL.out (by omega) (HSI.out.next HB1.out) HRP.out
        have HCL := hide hpt
        clear hpt HMz
        go_wp2_with fail
        refine HCL.out.mono ?_
        rintro e z2 ⟨Ab, cb, nb, hnb, rfl, hrb, hcb1, hcb2, hz⟩
        have HNB := hide hnb
        have HRB := hide hrb
        have hnb6 : nb ≤ 1000000 := by rw [← hnb]; exact put_short p1 HPO.out
        have HC2 := hide (HC1.out.trans (hz.mono HC1.out.size))
        have HM2 := hide (HM1.out.next hz)
        clear hnb hrb hz HCL HM1 t0 t1 t2 t3 t4
        have hgt := sgetN_any z2 Ab (putB p1) nb cb HNB.out HRB.out hnb6
        rw [show getP (putB p1) = nmS p1 by simp [getP, getF_put HRP.out HPO.out], show getE (putB p1) = 0 by simp [getE, getF_put HRP.out HPO.out]] at hgt
        obtain ⟨p2, hp2⟩ : ∃ p, nmS p1 = p := ⟨_, rfl⟩
        rw [hp2] at hgt HGT
        have HRP2 : Hid (rightB p2 = true) := hide (by rw [← hp2, rightB_nm]; exact HRP.out)
        have HPO2 : Hid (p2.own.length ≤ 60) := hide (by rw [← hp2]; exact HPO.out)
        have HCL := hide hgt
        clear hgt hp2
        go_wp2_with fail
        refine HCL.out.mono ?_
        rintro e z3 ⟨no2, nv2, nc2, ni2, Ao2, co2, Av2, cv2, Ac2, cc2, Ai2, ci2, hsl, hno, rfl, hsi, hz, w1, w2, w3, w4⟩
        have HSL2 := hide hsl
        have HPX := hide (pvx_new (X := (Value.slice Al i cl).ownBlock) HRP2.out HPO2.out hsl hsi w1 w2 w3 w4 co2 cv2 cc2 ci2 (fun g hg => by obtain ⟨xs, ho, _⟩ := HM2.out; exact (ho.lt g hg).2))
        have HC3 := hide (HC2.out.trans (hz.mono HC2.out.size))
        have HM3 := hide (HM2.out.next hz)
        have szz3 := HC3.out.size
        clear hsl hsi hz HCL HM2 w1 w2 w3 w4
        obtain ⟨z4, hz4⟩ : ∃ y, z3.alloc (.cells #[.int .i64 p2.step, .slice Ao2 no2 co2, .slice Av2 nv2 cv2, .slice Ac2 nc2 cc2, .slice Ai2 ni2 ci2] 27) = y := ⟨_, rfl⟩
        have HB4 := hide (show Below z3.heap.size z3 z4 by rw [← hz4]; exact (Below.refl _ _).alloc (Nat.le_refl _) _)
        have hT4 : z4.heap[z3.heap.size]? = some (.cells #[.int .i64 p2.step, .slice Ao2 no2 co2, .slice Av2 nv2 cv2, .slice Ac2 nc2 cc2, .slice Ai2 ni2 ci2] 27) := by rw [← hz4]; exact heap_alloc_last _ _
        have HZe := hide hz4
        have hbt4 : z3.heap.size < z4.heap.size := by rw [← hz4]; simp
        clear hz4
        go_upto_region 13 with fail
        rw [HZe.out]
        obtain ⟨b4, hb4⟩ : ∃ y, z3.heap.size = y := ⟨_, rfl⟩
        rw [hb4] at hT4 hbt4 ⊢
        clear HZe
        have HT4e := hide hb4
        clear hb4
        have t0 : z4.cell? ⟨b4, 0, none⟩ = some (.int .i64 p2.step) := cell_of_row _ _ 0 _ _ _ hT4
        have t1 : z4.cell? ⟨b4, 1, none⟩ = some (.slice Ao2 no2 co2) := cell_of_row _ _ 1 _ _ _ hT4
        have t2 : z4.cell? ⟨b4, 2, none⟩ = some (.slice Av2 nv2 cv2) := cell_of_row _ _ 2 _ _ _ hT4
        have t3 : z4.cell? ⟨b4, 3, none⟩ = some (.slice Ac2 nc2 cc2) := cell_of_row _ _ 3 _ _ _ hT4
        have t4 : z4.cell? ⟨b4, 4, none⟩ = some (.slice Ai2 ni2 ci2) := cell_of_row _ _ 4 _ _ _ hT4
        clear hT4
        have HC4 := hide (HC3.out.trans (HB4.out.mono szz3))
        have HM4 := hide (HM3.out.next HB4.out)
        have szz4 := HC4.out.size
        obtain ⟨xs, ho, hm⟩ := HM4.out
        have HO := hide ho
        have HM := hide hm
        clear ho hm HM4 HM3
        go_wp2_with (at_builtin; refine wpList_app rfl (.tmp 72) (.tmp 74) 52 rfl u.heap.size 27 a1 (.agg #[.int .i64 0, .slice none 0 0, .slice none 0 0, .slice none 0 0, .slice none 0 0]) 5 104 Try.underlying52 a1i a1z a1s a1b rfl (by decide) (.slice Al i cl) i _ rfl (HO.out.alloc _) (z4.heap.size + 1) (some ⟨z4.heap.size, 0, none⟩) 1 1 [.int .i64 p2.step, .slice Ao2 no2 co2, .slice Av2 nv2 cv2, .slice Ac2 nc2 cc2, .slice Ai2 ni2 ci2] rfl rfl (Rd.new _ _ _ _) (by simp [Value.oneCell']) (by unfold maxLen; omega) (by omega) (by simp; omega) ?_)
        intro A' c' v own hg hat
        have HBA := hide (show Below z4.heap.size z4 (z4.alloc (.cells #[.int .i64 p2.step, .slice Ao2 no2 co2, .slice Av2 nv2 cv2, .slice Ac2 nc2 cc2, .slice Ai2 ni2 ci2] 27)) from (Below.refl _ _).alloc (Nat.le_refl _) _)
        have HV4 := hide (app_below (HC4.out.alloc szz4 (.cells #[.int .i64 p2.step, .slice Ao2 no2 co2, .slice Av2 nv2 cv2, .slice Ac2 nc2 cc2, .slice Ai2 ni2 ci2] 27)) (HO.out.alloc _) hg (by simp; omega) (Nat.le_refl _))
        have HMv : Hid (MWR u.heap.size v (gots st vals chg inb K K) A' (i + 1) c') := hide ⟨_, own, MW.snoc (fun q p hq hp => by obtain ⟨cs, k1, k2, k3⟩ := HM.out q p hq hp; exact ⟨cs, k1, k2.next HBA.out, k3⟩) hg (by rw [World.size_alloc]; exact hat) HO.out.1 HGT.out rfl ((HPX.out.next HB4.out).next HBA.out)⟩
        clear own hg hat HO HM t0 t1 t2 t3 t4
        go_wp2
        go_roundw
        case rel => exact ⟨i + 1, _, _, by omega, by go_num, rfl, HMv, hide (.inr HEz.out), HV4⟩
        case measure => simp [intOf]; omega
    · obtain rfl : K = i := by omega
      have hEz : takeE st vals chg inb (K : Int) 0 = 0 := by rcases hE.out with h | h; exact absurd h (by omega); exact h
      obtain ⟨hv1, hrw⟩ := takeE_zero hEz
      obtain ⟨hl2, hl3⟩ := right_whole_lens hrw
      have hn2 : n2 = V := by rw [← HC.out, ← HV.out]; exact hl2
      have hn3 : n3 = V := by rw [← HI.out, ← HV.out]; exact hl3
      subst hn2
      subst hn3
      obtain ⟨VV, rfl⟩ : ∃ z, z = n3 := ⟨_, rfl⟩
      have hv60 : vals.length ≤ 60 := by rw [HV.out]; omega
      have HROW : Hid (PRow wr Al (gots st vals chg inb K K)) := hide (by obtain ⟨xs, h1, h2⟩ := hM.out; exact MWR.row (B := u.heap.size) (c := cl) (by rw [gots_len]; exact ⟨xs, h1, h2⟩))
      have HOK : Hid (okJ (gots st vals chg inb K K)) := hide (ok_gots hK1 hK2 hv60 hv1 hrw)
      have HRS := hide (rows_gots hK1 hK2 hv60 hv1 hrw)
      have HST : Hid (stepJ (gots st vals chg inb K K) = st) := hide (step_gots hK1)
      have HNA : Hid (nAll (gots st vals chg inb K K) = VV) := hide ((nAll_gots hK1 hK2 hv60).trans HV.out)
      have HOW : Hid (∀ p ∈ (gots st vals chg inb K K), p.own.length ≤ 60) := hide (fun p hp => by obtain ⟨q, hq, rfl⟩ := List.getElem_of_mem hp; obtain ⟨h1, h2⟩ := gots_of (List.getElem?_eq_getElem hq); rw [h2]; exact Nat.le_trans (own_short _ _ _) hv60)
      have HLEN : Hid ((gots st vals chg inb K K).length = K) := hide (gots_len K)
      obtain ⟨ps, hps⟩ : ∃ l, (gots st vals chg inb K K) = l := ⟨_, rfl⟩
      rw [hps] at HROW HOK HRS HST HNA HOW HLEN
      rw [HV.out] at HRS
      have HBR := hide hbr.out
      clear hM hE hbr hEz hv1 hrw hl2 hl3 hps hlt
      have HJ := hide (sjoin_any wr Al ps K cl HLEN.out hK2 HROW.out HOW.out)
      obtain ⟨u0, rfl⟩ : ∃ z : World, z = wr := ⟨_, rfl⟩
      go_wp2_with fail
      refine HJ.out.mono ?_
      clear HJ
      rintro e w1 hj
      have HJA := hide hj
      clear hj
      rcases HJA.out with ⟨-, B1, B2, B3, d1, d2, d3, rfl, q1, q2, q3, hb1⟩ | ⟨hno, -, -⟩
      rotate_left
      · exact absurd HOK.out hno
      rw [HST.out, HNA.out]
      rw [HNA.out, HRS.out.1] at q1
      rw [HNA.out, HRS.out.2.1] at q2
      rw [HNA.out, HRS.out.2.2] at q3
      have Q1 := hide q1
      have Q2 := hide q2
      have Q3 := hide q3
      have HB1 := hide hb1
      have sw1 := hb1.size
      clear q1 q2 q3 hb1 HJA
      obtain ⟨w2, hw2⟩ : ∃ z, w1.alloc (.cells #[.int .i64 st, .slice B1 VV d1, .slice B2 VV d2, .slice B3 VV d3, .int .i64 0, .int .i64 0] 48) = z := ⟨_, rfl⟩
      have hT : w2.heap[w1.heap.size]? = some (.cells #[.int .i64 st, .slice B1 VV d1, .slice B2 VV d2, .slice B3 VV d3, .int .i64 0, .int .i64 0] 48) := by rw [← hw2]; exact heap_alloc_last _ _
      have HB2 := hide (show Below w1.heap.size w1 w2 by rw [← hw2]; exact (Below.refl _ _).alloc (Nat.le_refl _) _)
      have HW2 := hide hw2
      have hbt : w1.heap.size < w2.heap.size := by rw [← hw2]; simp
      clear hw2
      go_upto_region 17 with fail
      rw [HW2.out]
      obtain ⟨T, hTe⟩ : ∃ z, w1.heap.size = z := ⟨_, rfl⟩
      rw [hTe] at hT hbt ⊢
      have HTE := hide hTe
      clear HW2 hTe
      have HWT := hide hT
      have M02 := hide ((HB2.out.block w.heap.size (by have := HBR.out.size; omega)).trans ((HB1.out.block w.heap.size (by have := HBR.out.size; omega)).trans ((HBR.out.block _ hzu).trans M0.out)))
      have t0 : w2.cell? ⟨T, 0, none⟩ = some (.int .i64 st) := cell_of_row _ _ 0 _ _ _ hT
      have t1 : w2.cell? ⟨T, 1, none⟩ = some (.slice B1 VV d1) := cell_of_row _ _ 1 _ _ _ hT
      have t2 : w2.cell? ⟨T, 2, none⟩ = some (.slice B2 VV d2) := cell_of_row _ _ 2 _ _ _ hT
      have t3 : w2.cell? ⟨T, 3, none⟩ = some (.slice B3 VV d3) := cell_of_row _ _ 3 _ _ _ hT
      have t4 : w2.cell? ⟨T, 4, none⟩ = some (.int .i64 0) := cell_of_row _ _ 4 _ _ _ hT
      have t5 : w2.cell? ⟨T, 5, none⟩ = some (.int .i64 0) := cell_of_row _ _ 5 _ _ _ hT
      have tf4 : w2.frozen? ⟨T, 4, none⟩ = false := frozen_of_row _ _ 4 _ _ hT
      have tf5 : w2.frozen? ⟨T, 5, none⟩ = false := frozen_of_row _ _ 5 _ _ hT
      clear hT
      have hTw : Hid (w.heap.size ≠ T) := hide (by have := HBR.out.size; have := sw1; have := HTE.out; omega)
      have x4 : w2.cell? ⟨w.heap.size, 4, none⟩ = some (.int .i64 sm) := cell_of_row _ _ 4 _ _ _ M02.out
      have x5 : w2.cell? ⟨w.heap.size, 5, none⟩ = some (.int .i64 mo) := cell_of_row _ _ 5 _ _ _ M02.out
      have hnT := hTw.out
      have hF1 := heap_setCell_same w2 T 4 _ _ (.int .i64 sm) HWT.out
      have hF2 := heap_setCell_same _ T 5 _ _ (.int .i64 mo) hF1
      obtain ⟨f, hf⟩ : ∃ f, (w2.setCell ⟨T, 4, none⟩ (.int .i64 sm)).setCell ⟨T, 5, none⟩ (.int .i64 mo) = f := ⟨_, rfl⟩
      have HF := hide hf
      rw [hf] at hF2
      have HFo : Hid (∀ b, b ≠ T → f.heap[b]? = w2.heap[b]?) := hide (fun b hb => by rw [← hf, Below.heap_setCell _ _ _ _ hb, Below.heap_setCell _ _ _ _ hb])
      have HFs : Hid (f.heap.size = w2.heap.size) := hide (by rw [← hf]; simp only [World.size_setCell])
      have HFb : Hid (Below u.heap.size u f) := hide (by rw [← hf]; exact ((((HBR.out.trans (HB1.out.mono HBR.out.size)).trans (HB2.out.mono (by have := HBR.out.size; omega))).setCell (p := ⟨T, 4, none⟩) (by have := HBR.out.size; have := HTE.out; show u.heap.size ≤ T; omega) _).setCell (p := ⟨T, 5, none⟩) (by have := HBR.out.size; have := HTE.out; show u.heap.size ≤ T; omega) _))
      have HFT := hide hF2
      clear hf hF1 hF2
      go_upto_region 19 with fail
      rw [HF.out]
      clear t0 t1 t2 t3 t4 t5 tf4 tf5 x4 x5 HF
      have y0 : f.cell? ⟨T, 0, none⟩ = some (.int .i64 st) := cell_of_row _ _ 0 _ _ _ HFT.out
      have y1 : f.cell? ⟨T, 1, none⟩ = some (.slice B1 VV d1) := cell_of_row _ _ 1 _ _ _ HFT.out
      have y2 : f.cell? ⟨T, 2, none⟩ = some (.slice B2 VV d2) := cell_of_row _ _ 2 _ _ _ HFT.out
      have y3 : f.cell? ⟨T, 3, none⟩ = some (.slice B3 VV d3) := cell_of_row _ _ 3 _ _ _ HFT.out
      have y4 : f.cell? ⟨T, 4, none⟩ = some (.int .i64 sm) := cell_of_row _ _ 4 _ _ _ HFT.out
      have y5 : f.cell? ⟨T, 5, none⟩ = some (.int .i64 mo) := cell_of_row _ _ 5 _ _ _ HFT.out
      have x0 : f.cell? ⟨w.heap.size, 0, none⟩ = some (.int .i64 st) := cell_of_row _ _ 0 _ _ _ ((HFo.out _ hTw.out).trans M02.out)
      have x1 : f.cell? ⟨w.heap.size, 1, none⟩ = some (.slice A1 VV c1) := cell_of_row _ _ 1 _ _ _ ((HFo.out _ hTw.out).trans M02.out)
      have x2 : f.cell? ⟨w.heap.size, 2, none⟩ = some (.slice A2 VV c2) := cell_of_row _ _ 2 _ _ _ ((HFo.out _ hTw.out).trans M02.out)
      have x3 : f.cell? ⟨w.heap.size, 3, none⟩ = some (.slice A3 VV c3) := cell_of_row _ _ 3 _ _ _ ((HFo.out _ hTw.out).trans M02.out)
      have x4 : f.cell? ⟨w.heap.size, 4, none⟩ = some (.int .i64 sm) := cell_of_row _ _ 4 _ _ _ ((HFo.out _ hTw.out).trans M02.out)
      have x5 : f.cell? ⟨w.heap.size, 5, none⟩ = some (.int .i64 mo) := cell_of_row _ _ 5 _ _ _ ((HFo.out _ hTw.out).trans M02.out)
      have LV := hide (show vals.length = VV ∧ chg.length = VV ∧ inb.length = VV from ⟨HV.out, HC.out, HI.out⟩)
      have F1 := hide (far_rd Q1.out HTE.out HB2.out HFo.out HFs.out)
      have F2 := hide (far_rd Q2.out HTE.out HB2.out HFo.out HFs.out)
      have F3 := hide (far_rd Q3.out HTE.out HB2.out HFo.out HFs.out)
      have HFk := HFb.out
      have G1 := hide (R1.out.next HFb.out)
      have G2 := hide (R2.out.next HFb.out)
      have G3 := hide (R3.out.next HFb.out)
      have HCL := hide (rtsame_any f st sm mo B1 B2 B3 A1 A2 A3 VV VV VV d1 d2 d3 c1 c2 c3 vals chg (inb.map nm) inb LV.out.1 LV.out.2.1 (by rw [List.length_map]; exact LV.out.2.2) LV.out.2.2 (by omega) (by omega) (by omega) (by rw [List.map_map]; rw [show (nm ∘ nm) = nm from funext fun m => nm_nm m]; exact eqL_self _) F1.out F2.out F3.out G1.out G2.out G3.out)
      have hTf : T < f.heap.size := by have := HFs.out; omega
      have hwf : w.heap.size < f.heap.size := by have := HFk.size; omega
      clear HFk
      go_wp2_with fail
      refine HCL.out.mono ?_
      clear HCL
      rintro e w5 ⟨rfl, hz⟩
      have HB5 := hide (HFb.out.trans (hz.mono HFb.out.size))
      clear hz
      go_wp2_with fail
      refine (works_any _).mono ?_
      rintro e w6 ⟨rfl, hz⟩
      have HFN := hide (HBU.out.trans ((HB5.out.trans (hz.mono HB5.out.size)).mono (by omega)))
      clear hz x0 y0 x1 y1 x2 y2 x3 y3 x4 y4 x5 y5
      go_wp2
      go_ret
      exact ⟨rfl, HFN.out⟩
theorem statesWhole_walk (w : World) (st sm mo : Int) (vals : List Int) (chg : List Bool) (inb : List Ml) (A1 A2 A3 : Option Addr) (c1 c2 c3 : Nat) (r1 : Rd w w.heap.size A1 (i64s vals)) (r2 : Rd w w.heap.size A2 (bools chg)) (r3 : Rd w w.heap.size A3 (mlFlat inb)) (hl : vals.length ≤ 9223372036854775807 ∧ chg.length ≤ 9223372036854775807 ∧ inb.length ≤ 9223372036854775807)
    (n : Int) (hn1 : 0 ≤ n) (hn2 : n ≤ 255) :
    Calls Try.prog 8 #[.agg #[.int .i64 st, .slice A1 vals.length c1, .slice A2 chg.length c2, .slice A3 inb.length c3, .int .i64 sm, .int .i64 mo], .int .u8 n] w fun e W' => e = .returned (.bool true) ∧ Below w.heap.size w W' := by
  obtain ⟨m, rfl⟩ := Int.eq_ofNat_of_zero_le hn1
  exact statesWhole_go w st sm mo A1 A2 A3 vals.length chg.length inb.length c1 c2 c3 vals chg inb m (by omega) rfl rfl rfl r1 r2 r3
end Go.Proofs.Ytgfdlllmcbgbcaa
