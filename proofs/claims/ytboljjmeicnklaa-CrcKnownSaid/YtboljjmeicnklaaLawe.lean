/- The walk of the statement CrcKnown. -/
import Derived.Test.YtboljjmeicnklaaLawa
import Derived.Test.YtboljjmeicnklaaLawb
import Derived.Test.YtboljjmeicnklaaLawc
import Derived.Test.YtboljjmeicnklaaLawd
import Derived.Deep.DeepCutAuto
import Derived.BigRegion
namespace Go.Proofs.Ytboljjmeicnklaa
open Go.RowKit
set_option linter.unusedVariables false

def zs32 : Array Value := #[.int .u8 0, .int .u8 0, .int .u8 0, .int .u8 0, .int .u8 0, .int .u8 0, .int .u8 0, .int .u8 0, .int .u8 0, .int .u8 0, .int .u8 0, .int .u8 0, .int .u8 0, .int .u8 0, .int .u8 0, .int .u8 0, .int .u8 0, .int .u8 0, .int .u8 0, .int .u8 0, .int .u8 0, .int .u8 0, .int .u8 0, .int .u8 0, .int .u8 0, .int .u8 0, .int .u8 0, .int .u8 0, .int .u8 0, .int .u8 0, .int .u8 0, .int .u8 0]
theorem make32 (w : World) : (Instr.makeSlice 22 (.int .i64 32) (.int .i64 32)).run Try.prog w = .ok (.slice (some ⟨w.heap.size, 0, none⟩) 32 32) (w.alloc (.cells zs32 5)) := by kernel_rfl

theorem three_new (w : World) (o : Obj) : (((w.alloc o).alloc o).alloc o).heap[w.heap.size]? = some o ∧ (((w.alloc o).alloc o).alloc o).heap[w.heap.size + 1]? = some o ∧ (((w.alloc o).alloc o).alloc o).heap[w.heap.size + 1 + 1]? = some o ∧ Below w.heap.size w (((w.alloc o).alloc o).alloc o) := by
  have s1 : (w.alloc o).heap.size = w.heap.size + 1 := by simp
  have s2 : ((w.alloc o).alloc o).heap.size = w.heap.size + 1 + 1 := by simp
  have h1 := heap_alloc_last (w.alloc o) o
  have h2 := heap_alloc_last ((w.alloc o).alloc o) o
  rw [s1] at h1
  rw [s2] at h2
  refine ⟨?_, ?_, h2, ?_⟩
  · exact (Below.heap_alloc _ _ _ (by rw [s2]; omega)).trans ((Below.heap_alloc _ _ _ (by rw [s1]; omega)).trans (heap_alloc_last w o))
  · exact (Below.heap_alloc _ _ _ (by rw [s2]; omega)).trans h1
  · exact (((Below.refl _ _).alloc (Nat.le_refl _) _).alloc (by simp) _).alloc (by simp; omega) _

def fUp (j : Nat) : Value := .int .u8 (j : Int)
def fDown (j : Nat) : Value := .int .u8 (31 - (j : Int))
def fFull (_ : Nat) : Value := .int .u8 255
def bUp : List UInt8 := (List.range 32).map UInt8.ofNat
def bDown : List UInt8 := (List.range 32).map fun j => UInt8.ofNat (31 - j)
def bFull : List UInt8 := List.replicate 32 255
def bZero : List UInt8 := List.replicate 32 0
theorem cUp : (List.range 32).map fUp = u8s bUp := rfl
theorem cDown : (List.range 32).map fDown = u8s bDown := rfl
theorem cFull : (List.range 32).map fFull = u8s bFull := rfl
theorem cZero : zs32.toList = u8s bZero := rfl
theorem sUp : crcm.sum bUp = 1188919630 := by decide +kernel
theorem sDown : crcm.sum bDown = 289397596 := by decide +kernel
theorem sFull : crcm.sum bFull = 1655221059 := by decide +kernel
theorem sZero : crcm.sum bZero = 2324772522 := by decide +kernel

theorem byte_one {k : Nat} (h : k < 256) : [Value.int .u8 (k : Int)] = u8s [UInt8.ofNat k] := by
  simp only [u8s, List.map_cons, List.map_nil, UInt8.toNat_ofNat']
  congr 2
  omega
theorem byte_three {k : Nat} (h : k < 256) : [Value.int .u8 0, Value.int .u8 (k : Int), Value.int .u8 1] = u8s [0, UInt8.ofNat k, 1] := by
  show [Value.int .u8 0] ++ [Value.int .u8 (k : Int)] ++ [Value.int .u8 1] = u8s ([0] ++ [UInt8.ofNat k] ++ [1])
  rw [byte_one h, ← u8s_append, ← u8s_append]
  rfl
theorem Rows.new {w : World} {B : Nat} {rs : List Row} {C : Array Value} {t : TypeId} {fr : Nat × Nat} (hC : C.toList = rs.map fun r => Value.slice r.1 r.2.1.length r.2.2) (hB : B ≤ w.heap.size) (hr : ∀ r ∈ rs, Rd w B r.1 (u8s r.2.1)) :
    Rows (w.alloc (.cells C t fr)) (w.heap.size + 1) (some ⟨w.heap.size, 0, none⟩) rs := fun _ =>
  ⟨w.heap.size, 0, rfl, by omega, fun i x hx => ⟨[.slice x.1 x.2.1.length x.2.2], rfl, ⟨rfl, ((hr x (List.mem_of_getElem? hx)).alloc hB _).more (by omega)⟩, fun j u hu => by
    have h0 : j = 0 := by
      rcases Nat.lt_or_ge j 1 with h | h
      · omega
      · rw [List.getElem?_eq_none (by simpa using h)] at hu; cases hu
    subst h0
    rw [Nat.zero_add, Nat.mul_one, Nat.add_zero, World.cell?_alloc_mark]
    have := congrArg (fun l => l[i]?) hC
    simp only [Array.getElem?_toList, List.getElem?_map, hx, Option.map_some] at this
    rw [this, ← hu]
    rfl⟩⟩

theorem u32w_lo (x : Int) : 0 ≤ IntKind.u32.wrap x := by rw [IntKind.wrap_u32]; omega
theorem u32w_hi (x : Int) : IntKind.u32.wrap x ≤ 4294967295 := by rw [IntKind.wrap_u32]; omega
theorem i64w_lo (x : Int) : -9223372036854775808 ≤ IntKind.i64.wrap x := by rw [IntKind.wrap_i64]; omega
theorem i64w_hi (x : Int) : IntKind.i64.wrap x ≤ 9223372036854775807 := by rw [IntKind.wrap_i64]; omega
theorem bDown_take {k : Nat} (h : k ≤ 32) : (bDown.take k).length = k := by rw [List.length_take]; simp [bDown]; omega

def rows4 (g1 g2 g3 k : Nat) : List Row := [(some ⟨g1, 0, none⟩, bUp, 32), (none, [], 0), (some ⟨g2, 0, none⟩, bDown.take k, 32), (some ⟨g3, 0, none⟩, bFull, 32)]
theorem rows4_in {g1 g2 g3 k M : Nat} {wr : World} (hk : k ≤ 32) (hM : M ≤ wr.heap.size) (r1 : Rd wr M (some ⟨g1, 0, none⟩) (u8s bUp)) (r2 : Rd wr M (some ⟨g2, 0, none⟩) (u8s bDown)) (r3 : Rd wr M (some ⟨g3, 0, none⟩) (u8s bFull)) :
    ∀ y, Below wr.heap.size wr y → Rows (y.alloc (.cells #[.slice (some ⟨g1, 0, none⟩) 32 32, .slice none 0 0, .slice (some ⟨g2, 0, none⟩) k 32, .slice (some ⟨g3, 0, none⟩) 32 32] 22)) (y.alloc (.cells #[.slice (some ⟨g1, 0, none⟩) 32 32, .slice none 0 0, .slice (some ⟨g2, 0, none⟩) k 32, .slice (some ⟨g3, 0, none⟩) 32 32] 22)).heap.size (some ⟨y.heap.size, 0, none⟩) (rows4 g1 g2 g3 k) := by
  intro y hy
  have hs := hy.size
  have h := Rows.new (w := y) (B := M) (rs := rows4 g1 g2 g3 k) (C := #[.slice (some ⟨g1, 0, none⟩) 32 32, .slice none 0 0, .slice (some ⟨g2, 0, none⟩) k 32, .slice (some ⟨g3, 0, none⟩) 32 32]) (t := 22) (fr := (0, 0)) (by simp [rows4, bDown_take hk, bUp, bFull]) (by omega) (by
    intro r hr
    simp only [rows4, List.mem_cons, List.not_mem_nil, or_false] at hr
    rcases hr with rfl | rfl | rfl | rfl
    · exact r1.below' hy hM
    · exact Rd.nil_
    · have h := (r2.below' hy hM).take k
      rw [u8s_take] at h
      exact h
    · exact r3.below' hy hM)
  have e : (y.alloc (.cells #[.slice (some ⟨g1, 0, none⟩) 32 32, .slice none 0 0, .slice (some ⟨g2, 0, none⟩) k 32, .slice (some ⟨g3, 0, none⟩) 32 32] 22)).heap.size = y.heap.size + 1 := by simp
  rw [e]
  exact h
theorem rows4_short {g1 g2 g3 k : Nat} : ∀ r ∈ rows4 g1 g2 g3 k, r.2.1.length ≤ 140737488351232 := by
  intro r hr
  simp only [rows4, List.mem_cons, List.not_mem_nil, or_false] at hr
  rcases hr with rfl | rfl | rfl | rfl
  · simp [bUp]
  · simp
  · simp [bDown]; omega
  · simp [bFull]
theorem joins_len (n : Nat) (w : World) (A : Option Addr) (rs : List Row) (hn : rs.length = n) (c : Nat) (hr : Rows w w.heap.size A rs) (hl : n ≤ 9223372036854775807) (hk : ∀ r ∈ rs, r.2.1.length ≤ 140737488351232)
    (at' : Int) (ha1 : -9223372036854775808 ≤ at') (ha2 : at' ≤ 9223372036854775807) :
    Calls Try.prog 8 #[.slice A n c, .int .i64 at'] w fun e w' => e = .returned (.bool true) ∧ Below w.heap.size w w' := by
  subst hn
  exact crcJoins_walk w A rs c hr hl hk at' ha1 ha2
theorem even_len (w : World) (A : Option Addr) (a : List UInt8) (n : Nat) (hn : a.length = n) (ca : Nat) (hra : Rd w w.heap.size A (u8s a)) (hla : n ≤ 9223372036854775807)
    (B : Option Addr) (b : List UInt8) (m : Nat) (hm : b.length = m) (cb : Nat) (hrb : Rd w w.heap.size B (u8s b)) (hlb : m ≤ 9223372036854775807) :
    Calls Try.prog 7 #[.slice A n ca, .slice B m cb] w fun e w' => e = .returned (.bool true) ∧ Below w.heap.size w w' := by
  subst hn
  subst hm
  exact crcEven_walk w A a ca hra hla B b cb hrb hlb

set_option maxRecDepth 100000 in
set_option maxHeartbeats 2000000 in
theorem crcKnown_walk (w : World) :
    Calls Try.prog 9 #[] w fun e w' => e = .returned (.bool true) ∧ Below w.heap.size w w' := by
  have hmk := make32
  go_enter Try.func9, Try.ntmps9
  go_upto_region 1 with fail
  go_cut [1, 2, 3] (fun s1 s2 s3 wx => ∃ g1 g2 g3 : Nat, s1 = .slice (some ⟨g1, 0, none⟩) 32 32 ∧ s2 = .slice (some ⟨g2, 0, none⟩) 32 32 ∧ s3 = .slice (some ⟨g3, 0, none⟩) 32 32 ∧ wx.heap[g1]? = some (.cells zs32 5) ∧ wx.heap[g2]? = some (.cells zs32 5) ∧ wx.heap[g3]? = some (.cells zs32 5) ∧ g1 ≠ g2 ∧ g1 ≠ g3 ∧ g2 ≠ g3 ∧ w.heap.size ≤ g1 ∧ w.heap.size ≤ g2 ∧ w.heap.size ≤ g3 ∧ Below w.heap.size w wx)
  case first =>
    have h3 := hide (three_new w (.cells zs32 5))
    go_region
    all_goals
      go_wp2_with fail
      go_meet
      obtain ⟨k0, k1, k2, kb⟩ := h3.out
      exact ⟨_, _, _, rfl, rfl, rfl, by first | exact k0 | exact k1 | exact k2, by first | exact k0 | exact k1 | exact k2, by first | exact k0 | exact k1 | exact k2, by omega, by omega, by omega, by omega, by omega, by omega, by first | exact kb | exact kb.drew⟩
  case rest =>
    obtain ⟨g1, g2, g3, rfl, rfl, rfl, hg1, hg2, hg3, n12, n13, n23, b1, b2, b3, hbw⟩ := hcut
    have n21 : g2 ≠ g1 := Ne.symm n12
    have n31 : g3 ≠ g1 := Ne.symm n13
    have n32 : g3 ≠ g2 := Ne.symm n23
    go_wp2
    go_loopw [4] (fun vi wr => ∃ i : Nat, vi = .int .i64 i ∧ i ≤ 32 ∧ wr.heap[g1]? = some (.cells (fillTo fUp (.int .u8 0) 32 i) 5) ∧ wr.heap[g2]? = some (.cells (fillTo fDown (.int .u8 0) 32 i) 5) ∧ wr.heap[g3]? = some (.cells (fillTo fFull (.int .u8 0) 32 i) 5) ∧ Below w.heap.size w wr) (fun vi _ => 32 - (intOf vi).toNat)
    case atStart => exact ⟨0, rfl, by omega, hg1, hg2, hg3, hbw⟩
    case round =>
      obtain ⟨i, rfl, hi, k1, k2, k3, hbw2⟩ := hrel
      clear hg1 hg2 hg3 hbw
      by_cases hlt : i < 32
      · have c1 := (cell_of_row _ _ i _ _ _ k1).trans (fillTo_next fUp _ 32 i hlt)
        have c2 := (cell_of_row _ _ i _ _ _ k2).trans (fillTo_next fDown _ 32 i hlt)
        have c3 := (cell_of_row _ _ i _ _ _ k3).trans (fillTo_next fFull _ 32 i hlt)
        have f1 := frozen_of_row _ _ i _ _ k1
        have f2 := frozen_of_row _ _ i _ _ k2
        have f3 := frozen_of_row _ _ i _ _ k3
        have K1 := hide k1
        have K2 := hide k2
        have K3 := hide k3
        clear k1 k2 k3
        go_wp2
        go_roundw
        case rel =>
          refine ⟨i + 1, by go_num, by omega, ?_, ?_, ?_, ((hbw2.setCell (p := ⟨g1, i, none⟩) b1 _).setCell (p := ⟨g2, i, none⟩) b2 _).setCell (p := ⟨g3, i, none⟩) b3 _⟩
          · rw [heap_setCell_other _ _ _ _ n13, heap_setCell_other _ _ _ _ n12, heap_setCell_same _ _ _ _ _ _ K1.out, ← fillTo_set]; rfl
          · rw [heap_setCell_other _ _ _ _ n23, heap_setCell_same _ _ _ _ _ _ ((heap_setCell_other _ _ _ _ n21).trans K2.out), ← fillTo_set]; rfl
          · rw [heap_setCell_same _ _ _ _ _ _ ((heap_setCell_other _ _ _ _ n32).trans ((heap_setCell_other _ _ _ _ n31).trans K3.out)), ← fillTo_set]; rfl
        case measure => simp [intOf]; omega
      · obtain rfl : i = 32 := by omega
        have r1 := Rd.of_block k1
        have r2 := Rd.of_block k2
        have r3 := Rd.of_block k3
        rw [fillTo_all, cUp] at r1
        rw [fillTo_all, cDown] at r2
        rw [fillTo_all, cFull] at r3
        have hs := hbw2.size
        have t0 : (((crcm.sum bZero : Nat) : Int) != 2324772522) = false := by rw [sZero]; rfl
        have t1 : (((crcm.sum bFull : Nat) : Int) != 1655221059) = false := by rw [sFull]; rfl
        have t2 : (((crcm.sum bUp : Nat) : Int) != 1188919630) = false := by rw [sUp]; rfl
        have t3 : (((crcm.sum bDown : Nat) : Int) != 289397596) = false := by rw [sDown]; rfl
        clear k1 k2 k3
        have hz := Rd.new wr zs32 5 (0, 0)
        rw [cZero] at hz
        go_wp2_with fail
        refine (sum_len bZero 32 rfl _ _ _ _ hz (by simp) (by decide)).mono ?_
        rintro e w1 ⟨rfl, q1⟩
        have q1' : Below wr.heap.size wr w1 := ((Below.refl _ _).alloc (Nat.le_refl _) _).trans (q1.mono (by simp))
        have hs1 := q1'.size
        go_wp2_with fail
        refine (sum_len bFull 32 rfl _ _ _ _ (r3.below q1') hs1 (by decide)).mono ?_
        rintro e w2 ⟨rfl, q2⟩
        have q2' := q1'.trans (q2.mono hs1)
        have hs2 := q2'.size
        go_wp2_with fail
        refine (sum_len bUp 32 rfl _ _ _ _ (r1.below q2') hs2 (by decide)).mono ?_
        rintro e w3 ⟨rfl, q3⟩
        have q3' := q2'.trans (q3.mono hs2)
        have hs3 := q3'.size
        go_wp2_with fail
        refine (sum_len bDown 32 rfl _ _ _ _ (r2.below q3') hs3 (by decide)).mono ?_
        rintro e w4 ⟨rfl, q4⟩
        have q4' := q3'.trans (q4.mono hs3)
        have r1' := r1.below q4'
        have r2' := r2.below q4'
        have r3' := r3.below q4'
        have hb4 := hbw2.trans (q4'.mono hs)
        have hs4 := Nat.le_trans hs q4'.size
        have hm4 := q4'.size
        clear q1 q2 q3 q4 q1' q2' q3' q4' hs1 hs2 hs3 hz r1 r2 r3 hbw2
        generalize wr.heap.size = M at r1' r2' r3' hm4 hs
        go_wp2
        clear t0 t1 t2 t3
        go_loopw [5] (fun vk wk => ∃ k : Nat, vk = .int .i64 k ∧ k ≤ 256 ∧ Below w4.heap.size w4 wk) (fun vk _ => 256 - (intOf vk).toNat)
        case atStart => exact ⟨0, rfl, by omega, Below.refl _ _⟩
        case round =>
          obtain ⟨k, rfl, hk, hbk⟩ := hrel
          have hsk := hbk.size
          by_cases hklt : k < 256
          · have n1 := Rd.new wr #[.int .u8 (k : Int)] 5 (0, 0)
            have e1 : (#[Value.int .u8 (k : Int)] : Array Value).toList = u8s [UInt8.ofNat k] := byte_one hklt
            rw [e1] at n1
            clear e1
            go_wp2_with fail
            refine (crcDivides_walk _ (some ⟨wr.heap.size, 0, none⟩) [UInt8.ofNat k] 1 (n1.more (by simp)) (by simp)).mono ?_
            rintro e x1 ⟨rfl, q1⟩
            have q1' : Below wr.heap.size wr x1 := ((Below.refl _ _).alloc (Nat.le_refl _) _).trans (q1.mono (by simp))
            have z1 := q1'.size
            have n2 := Rd.new x1 #[.int .u8 0, .int .u8 (k : Int), .int .u8 1] 5 (0, 0)
            have e2 : (#[Value.int .u8 0, Value.int .u8 (k : Int), .int .u8 1] : Array Value).toList = u8s [0, UInt8.ofNat k, 1] := byte_three hklt
            rw [e2] at n2
            clear e2 n1 q1
            go_wp2_with fail
            refine (crcDivides_walk _ (some ⟨x1.heap.size, 0, none⟩) [0, UInt8.ofNat k, 1] 3 (n2.more (by simp)) (by simp)).mono ?_
            rintro e x2 ⟨rfl, q2⟩
            have q2' : Below wr.heap.size wr x2 := (q1'.alloc z1 _).trans (q2.mono (by simp; omega))
            have z2 := q2'.size
            clear n2 q2
            go_wp2_with fail
            refine (crcProducts_walk _ ((k : Int) * 16777216) (by omega) (by omega) (k : Int) (by omega) (by omega) ((k : Int) - 5) (by omega) (by omega)).mono ?_
            rintro e x3 ⟨rfl, q3⟩
            have q3' := hbk.trans ((q2'.trans (q3.mono z2)).mono hsk)
            clear q1' q2' q3
            go_wp2
            go_roundw
            case rel => exact ⟨k + 1, by go_num, by omega, q3'⟩
            case measure => simp [intOf]; omega
          · have e256 : (k : Int) = 256 := by omega
            rw [e256]
            clear e256
            obtain rfl : k = 256 := by omega
            have hsz4 := hbk.size
            have r1 := r1'.below' hbk hm4
            have r2 := r2'.below' hbk hm4
            have r3 := r3'.below' hbk hm4
            have hb5 := hb4.trans (hbk.mono hs4)
            have hM : M ≤ wr.heap.size := Nat.le_trans hm4 hsz4
            have hs5 := hb5.size
            clear r1' r2' r3' hb4 hbk hklt
            go_wp2
            obtain ⟨wB, hwB⟩ : ∃ wB, wr = wB := ⟨_, rfl⟩
            subst hwB
            have R1 := hide r1
            have R2 := hide r2
            have R3 := hide r3
            obtain ⟨w0, hw0⟩ : ∃ w0, w0 = wr := ⟨_, rfl⟩
            have HW0 := hide hw0
            have hB0 : Below w0.heap.size w0 wr := by rw [hw0]; exact Below.refl _ _
            rw [← hw0] at R1 R2 R3 hM
            have hb50 : Below w.heap.size w w0 := by rw [hw0]; exact hb5
            have hs50 : w.heap.size ≤ w0.heap.size := by rw [hw0]; exact hs5
            clear hw0 r1 r2 r3 hb5 hs5
            go_loopw [6] (fun vk wk => ∃ k : Nat, vk = .int .i64 k ∧ k ≤ 32 ∧ Below w0.heap.size w0 wk) (fun vk _ => 32 - (intOf vk).toNat)
            case atStart => exact ⟨0, rfl, by omega, hB0⟩
            case round =>
              obtain ⟨k, rfl, hk, hbk⟩ := hrel
              clear hB0
              by_cases hklt : k < 32
              · have r1 := R1.out.below' hbk hM
                have r2 := R2.out.below' hbk hM
                have r3 := R3.out.below' hbk hM
                have hsw := hbk.size
                have hI0 : (0 : Int) ≤ (k : Int) := by omega
                have hI1 : (k : Int) ≤ 32 := by omega
                have hI2 : (0 : Int) ≤ 31 - (k : Int) := by omega
                have v1 : IntKind.i64.wrap (31 - (k : Int)) = 31 - (k : Int) := IntWalk.i64_in _ (by omega)
                have v2 : IntKind.i64.wrap ((k : Int) * 7) = (k : Int) * 7 := IntWalk.i64_in _ (by omega)
                have v3 : IntKind.i64.wrap ((k : Int) * 7 - 50) = (k : Int) * 7 - 50 := IntWalk.i64_in _ (by omega)
                go_wp2
                have tok : True := trivial
                have HJ := hide (rows4_in (k := k) hk (Nat.le_trans hM hsw) r1 r2 r3)
                go_region_held3 (fun _ => True) (trivial)
                  (first
                    | (go_at_call 5; refine (crcRing_walk _ _ (u32w_lo _) (u32w_hi _) _ (by decide) (by decide) _ (u32w_lo _) (u32w_hi _)).mono ?_; rintro e y1 ⟨rfl, q1⟩; have q1' := below_undrew q1)
                    | (go_at_call 6; have _t := tok; refine (crcPowers_walk _ _ (i64w_lo _) (i64w_hi _) _ (by omega) (by omega)).mono ?_; rintro e y2 ⟨rfl, q2⟩; have q2' := q1'.trans (q2.mono q1'.size); clear tok)
                    | (go_at_call 6; refine (crcPowers_walk _ _ (by decide) (by decide) _ (by omega) (by omega)).mono ?_; rintro e y3 ⟨rfl, q3⟩; have q3' := q2'.trans (q3.mono q2'.size); have tok2 : True := trivial)
                    | (go_at_call 8; refine (joins_len 4 _ _ (rows4 g1 g2 g3 k) rfl 4 (HJ.out _ q3') (by decide) rows4_short _ (by omega) (by omega)).mono ?_; rintro e y4 ⟨rfl, q4⟩; have q4' := (q3'.alloc q3'.size _).trans (q4.mono (by have := q3'.size; simp; omega)))
                    | (go_at_call 7; refine (even_len _ _ bUp 32 rfl 32 ((r1.below' q4' (Nat.le_trans hM hsw)).more (Nat.le_trans hM (Nat.le_trans hsw q4'.size))) (by decide) _ bDown 32 rfl 32 ((r2.below' q4' (Nat.le_trans hM hsw)).more (Nat.le_trans hM (Nat.le_trans hsw q4'.size))) (by decide)).mono ?_; rintro e y5 ⟨rfl, q5⟩; have q5' := q4'.trans (q5.mono q4'.size)))
                clear r1 r2 r3 q1 q2 q3 q4 q5 q1' q2' q3' q4'
                go_wp2
                go_roundw
                case rel => exact ⟨k + 1, by go_num, by omega, hbk.trans (Below.mono q5' hsw)⟩
                case measure => simp [intOf]; omega
              · obtain rfl : k = 32 := by omega
                have hsk := hbk.size
                have hb6 := hb50.trans (hbk.mono hs50)
                have hs6 := hb6.size
                clear hbk R1 R2 R3 HW0 hb50
                have p0 : (((crcm.power (-9223372036854775808 : Int).toNat : Nat) : Int) == 2147483648) = true := by decide +kernel
                go_wp2_with fail
                refine (power_any _ (by decide) _).mono ?_
                rintro e y1 ⟨rfl, rfl⟩
                go_wp2_with fail
                refine (joins_len 0 _ none [] rfl _ Els.nil_ (by decide) (by simp) _ (by decide) (by decide)).mono ?_
                rintro e y2 ⟨rfl, q2⟩
                have q2' := hb6.trans (q2.mono hs6)
                have z2 := q2'.size
                have q3 := (q2'.alloc z2 (.cells #[] 5)).alloc (by simp; omega) (.cells #[.slice (some ⟨y2.heap.size, 0, none⟩) 0 0] 22)
                have z3 := q3.size
                have hR := Rows.new (w := y2.alloc (.cells #[] 5)) (B := 0) (rs := [(some ⟨y2.heap.size, 0, none⟩, [], 0)]) (C := #[.slice (some ⟨y2.heap.size, 0, none⟩) 0 0]) (t := 22) (fr := (0, 0)) rfl (by omega) (by
                  intro r hr
                  obtain rfl := List.mem_singleton.1 hr
                  exact Rd.nil_)
                have e1 : (y2.alloc (.cells #[] 5)).heap.size = y2.heap.size + 1 := by simp
                have e2 : ((y2.alloc (.cells #[] 5)).alloc (.cells #[.slice (some ⟨y2.heap.size, 0, none⟩) 0 0] 22)).heap.size = y2.heap.size + 1 + 1 := by simp
                rw [e1, ← e2] at hR
                have HR := hide hR
                clear hR e1 e2 q2
                go_wp2_with fail
                refine (joins_len 1 _ _ [(some ⟨y2.heap.size, 0, none⟩, [], 0)] rfl _ HR.out (by decide) (by simp) _ (by decide) (by decide)).mono ?_
                rintro e y3 ⟨rfl, q4⟩
                have q4' := q3.trans (q4.mono z3)
                have z4 := q4'.size
                clear HR q3 q4 z3
                go_wp2_with fail
                refine (works_any _).mono ?_
                rintro e y4 ⟨rfl, q5⟩
                go_wp2_with fail
                go_ret
                exact ⟨rfl, q4'.trans (q5.mono z4)⟩

end Go.Proofs.Ytboljjmeicnklaa
