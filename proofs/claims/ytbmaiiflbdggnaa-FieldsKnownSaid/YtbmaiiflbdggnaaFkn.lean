/- The walk of the statement FieldsKnown. -/
import Derived.Test.YtbmaiiflbdggnaaFla
import Derived.Test.YtbmaiiflbdggnaaFlh
import Derived.Test.YtbmaiiflbdggnaaFct
import Derived.Test.YtbmaiiflbdggnaaFwa
namespace Go.Proofs.Ytbmaiiflbdggnaa
open Go.RowKit
set_option linter.unusedVariables false
set_option linter.unusedSimpArgs false

set_option maxRecDepth 100000 in
set_option maxHeartbeats 2000000 in
theorem nil_long (w : World) (m : Nat) (hm : m < 18446744073709551616) : Calls Try.prog 24 #[.pointer none, .int .u64 m] w fun e w' => e = .returned (.tuple #[]) ∧ Below w.heap.size w w' := by
  go_enter Try.func24, Try.ntmps24
  go_wp2_with fail
  refine (digits64 m hm _).mono ?_
  rintro e w1 ⟨rfl, hr, hlt1, hb1⟩
  go_wp2_with fail
  refine (put_none _ _).mono ?_
  rintro e w2 ⟨rfl, rfl⟩
  go_wp2
  go_end0
  exact ⟨rfl, hb1⟩
set_option maxRecDepth 100000 in
set_option maxHeartbeats 2000000 in
theorem nil_raw (w : World) (A : Option Addr) (bs : List UInt8) (n c : Nat) (hn : bs.length = n) (hR : Rd w w.heap.size A (u8s bs)) (hl : bs.length ≤ 1000) : Calls Try.prog 29 #[.pointer none, .slice A n c] w fun e w' => e = .returned (.tuple #[]) ∧ Below w.heap.size w w' := by
  subst hn
  go_enter Try.func29, Try.ntmps29
  go_wp2_with fail
  refine (clone_any _ A bs c hR (by omega)).mono ?_
  rintro e w1 ⟨⟨A', c', rfl, hown⟩, hb1⟩
  go_wp2_with fail
  refine (put_none _ _).mono ?_
  rintro e w2 ⟨rfl, rfl⟩
  go_wp2
  go_end0
  exact ⟨rfl, hb1⟩
set_option maxRecDepth 100000 in
theorem nil_out (w : World) : Calls Try.prog 12 #[.pointer none] w fun e w' => e = .returned (.slice none 0 0) ∧ w' = w := by
  go_enter Try.func12, Try.ntmps12
  go_wp2
  go_ret
  exact ⟨rfl, rfl⟩
set_option maxRecDepth 100000 in
theorem nil_bad (w : World) : Calls Try.prog 22 #[.pointer none] w fun e w' => e = .returned (.bool true) ∧ w' = w := by
  go_enter Try.func22, Try.ntmps22
  go_wp2
  go_ret
  exact ⟨rfl, rfl⟩
set_option maxRecDepth 100000 in
theorem nil_left (w : World) : Calls Try.prog 23 #[.pointer none] w fun e w' => e = .returned (.int .i64 0) ∧ w' = w := by
  go_enter Try.func23, Try.ntmps23
  go_wp2
  go_ret
  exact ⟨rfl, rfl⟩
set_option maxRecDepth 100000 in
theorem nil_next (w : World) (n : Int) : Calls Try.prog 36 #[.pointer none, .int .i64 n] w fun e w' => e = .returned (.slice none 0 0) ∧ w' = w := by
  go_enter Try.func36, Try.ntmps36
  go_wp2
  go_ret
  exact ⟨rfl, rfl⟩
set_option maxRecDepth 100000 in
set_option maxHeartbeats 2000000 in
theorem nil_get8 (w : World) : Calls Try.prog 15 #[.pointer none] w fun e w' => e = .returned (.int .u8 0) ∧ w' = w := by
  have h : Calls Try.prog 32 #[.pointer none] w fun e w' => e = .returned (.int .u8 0) ∧ w' = w := by
    go_enter Try.func32, Try.ntmps32
    go_wp2_with fail
    refine (width8 _).mono ?_
    rintro e w1 ⟨rfl, rfl⟩
    go_wp2_with fail
    refine (nil_next _ _).mono ?_
    rintro e w1 ⟨rfl, rfl⟩
    go_wp2
    go_loop [2, 4, 9] (fun vn v4 vi => vi = .int .i64 0 ∧ vn = .int .u8 0) (fun _ _ _ => 0)
    case atStart => exact ⟨rfl, rfl⟩
    case round =>
      obtain ⟨rfl, rfl⟩ := hrel
      go_wp2
      go_ret
      exact ⟨rfl, rfl⟩
  go_enter Try.func15, Try.ntmps15
  go_wp2_with fail
  refine h.mono ?_
  rintro e w1 ⟨rfl, rfl⟩
  go_wp2
  go_ret
  exact ⟨rfl, rfl⟩
set_option maxRecDepth 100000 in
set_option maxHeartbeats 2000000 in
theorem nil_get64 (w : World) : Calls Try.prog 18 #[.pointer none] w fun e w' => e = .returned (.int .u64 0) ∧ w' = w := by
  have h : Calls Try.prog 35 #[.pointer none] w fun e w' => e = .returned (.int .u64 0) ∧ w' = w := by
    go_enter Try.func35, Try.ntmps35
    go_wp2_with fail
    refine (width64 _).mono ?_
    rintro e w1 ⟨rfl, rfl⟩
    go_wp2_with fail
    refine (nil_next _ _).mono ?_
    rintro e w1 ⟨rfl, rfl⟩
    go_wp2
    go_loop [2, 4, 9] (fun vn v4 vi => vi = .int .i64 0 ∧ vn = .int .u64 0) (fun _ _ _ => 0)
    case atStart => exact ⟨rfl, rfl⟩
    case round =>
      obtain ⟨rfl, rfl⟩ := hrel
      go_wp2
      go_ret
      exact ⟨rfl, rfl⟩
  go_enter Try.func18, Try.ntmps18
  go_wp2_with fail
  refine h.mono ?_
  rintro e w1 ⟨rfl, rfl⟩
  go_wp2
  go_ret
  exact ⟨rfl, rfl⟩
set_option maxRecDepth 100000 in
set_option maxHeartbeats 2000000 in
theorem nil_getraw (w : World) (n : Int) : Calls Try.prog 19 #[.pointer none, .int .i64 n] w fun e w' => (∃ A c, e = .returned (.slice A 0 c)) ∧ Below w.heap.size w w' := by
  go_enter Try.func19, Try.ntmps19
  go_wp2_with fail
  refine (nil_next _ _).mono ?_
  rintro e w1 ⟨rfl, rfl⟩
  go_wp2_with fail
  refine (clone_any _ none [] 0 Rd.nil_ (by decide)).mono ?_
  rintro e w2 ⟨⟨A', c', rfl, hown⟩, hb2⟩
  go_wp2
  go_ret
  exact ⟨⟨A', c', rfl⟩, hb2⟩

def It.cells (x : It) : List Value := [.int .u8 x.k, .int .u64 x.n, .slice x.A x.bs.length x.c]
def cellsOf (xs : List It) : List Value := xs.flatMap It.cells
theorem cellsOf_get : ∀ (xs : List It) (i j : Nat) (x : It), xs[i]? = some x → j < 3 → (cellsOf xs)[i * 3 + j]? = x.cells[j]?
  | [], i, j, x, h, _ => by simp at h
  | y :: ys, 0, j, x, h, hj => by
    simp at h
    subst h
    simp only [cellsOf, List.flatMap_cons, Nat.zero_mul, Nat.zero_add]
    rw [List.getElem?_append_left (by simpa [It.cells] using hj)]
  | y :: ys, i + 1, j, x, h, hj => by
    simp at h
    have ih := cellsOf_get ys i j x h hj
    simp only [cellsOf, List.flatMap_cons] at ih ⊢
    rw [List.getElem?_append_right (by simp [It.cells]; omega)]
    rw [show (i + 1) * 3 + j - y.cells.length = i * 3 + j by simp [It.cells]; omega]
    exact ih
/-- a row of items that the call has made itself -/
def Kn (w : World) (B : Nat) (A : Option Addr) (n c : Nat) (xs : List It) : Prop :=
  xs.length = n ∧ w.ownsRow B 33 3 (.slice A n c) n (cellsOf xs) ∧
  ∀ x ∈ xs, x.ok ∧ ∃ b, x.A = some ⟨b, 0, none⟩ ∧ b < w.heap.size ∧ (Value.slice A n c).ownBlock ≠ some b ∧ ∀ j u, (u8s x.bs)[j]? = some u → w.cell? ⟨b, j, none⟩ = some u
theorem Kn.below {w w' : World} {B : Nat} {A : Option Addr} {n c : Nat} {xs : List It} (h : Kn w B A n c xs) (hb : Below w.heap.size w w') : Kn w' B A n c xs := by
  obtain ⟨h1, h2, h3⟩ := h
  refine ⟨h1, own_below h2 hb (fun g hg => (h2.lt g hg).2), fun x hx => ?_⟩
  obtain ⟨h4, b, h5, h6, h7, h8⟩ := h3 x hx
  exact ⟨h4, b, h5, Nat.lt_of_lt_of_le h6 hb.size, h7, fun j u hu => (hb.cell (p := ⟨b, j, none⟩) h6).trans (h8 j u hu)⟩
theorem Kn.its {w : World} {B : Nat} {A : Option Addr} {n c : Nat} {xs : List It} (h : Kn w B A n c xs) (k : Nat) (hk : k ≤ n) : Its w w.heap.size A (xs.take k) := fun hn => by
  obtain ⟨h1, h2, h3⟩ := h
  have hpos : 0 < n := by
    rcases Nat.eq_zero_or_pos n with h0 | h0
    · subst h0
      have := List.eq_nil_of_length_eq_zero h1
      subst this
      simp at hn
    · exact h0
  obtain ⟨g, rfl, hg1, hg2, _⟩ := own_addr h2 hpos
  refine ⟨g, 0, rfl, hg2, fun i x hx => ?_⟩
  have hx' : xs[i]? = some x := by
    rw [List.getElem?_take] at hx
    split at hx
    · exact hx
    · cases hx
  obtain ⟨h4, b, h5, h6, h7, h8⟩ := h3 x (List.mem_of_getElem? hx')
  have hi := (List.getElem?_eq_some_iff.1 hx').1
  refine ⟨x.cells, rfl, ⟨rfl, fun _ => ⟨b, 0, h5, h6, fun j u hu => by rw [Nat.zero_add]; exact h8 j u hu⟩, h4⟩, fun j u hu => ?_⟩
  have hj : j < 3 := by have := (List.getElem?_eq_some_iff.1 hu).1; simpa [It.cells] using this
  rw [Nat.zero_add, h2.cellAt (i * 3 + j) (by have := h2.1; omega), cellsOf_get xs i j x hx' hj]
  exact hu
theorem Kn.push {w w' : World} {B : Nat} {A A' : Option Addr} {n c c' : Nat} {xs : List It} {x : It} (h : Kn w B A n c xs) (hx : x.ok) (b : Nat) (hA : x.A = some ⟨b, 0, none⟩) (hb1 : b < w.heap.size) (hb2 : (Value.slice A n c).ownBlock ≠ some b)
    (hc : ∀ j u, (u8s x.bs)[j]? = some u → w.cell? ⟨b, j, none⟩ = some u) (hown : w'.ownsRow B 33 3 (.slice A' (n + 1) c') (n + 1) (cellsOf xs ++ x.cells)) (hg : w.grownBy w' (Value.slice A n c).ownBlock)
    (hat : (Value.slice A' (n + 1) c').ownBlock = (Value.slice A n c).ownBlock ∨ (Value.slice A' (n + 1) c').ownBlock = some w.heap.size) : Kn w' B A' (n + 1) c' (xs ++ [x]) := by
  obtain ⟨h1, h2, h3⟩ := h
  have keep : ∀ b, b < w.heap.size → (Value.slice A n c).ownBlock ≠ some b → (∀ j, w'.cell? ⟨b, j, none⟩ = w.cell? ⟨b, j, none⟩) ∧ (Value.slice A' (n + 1) c').ownBlock ≠ some b := fun b hb hne => by
    refine ⟨fun j => World.cell?_of_block (hg.block b hb (fun e => hne e.symm)), fun e => ?_⟩
    rcases hat with h | h
    · exact hne (h.symm.trans e)
    · rw [h] at e; injection e with e; omega
  refine ⟨by simp [h1], by simpa [cellsOf] using hown, fun y hy => ?_⟩
  rcases List.mem_append.1 hy with hy | hy
  · obtain ⟨h4, b', h5, h6, h7, h8⟩ := h3 y hy
    obtain ⟨k1, k2⟩ := keep b' h6 h7
    exact ⟨h4, b', h5, Nat.lt_of_lt_of_le h6 hg.size, k2, fun j u hu => (k1 j).trans (h8 j u hu)⟩
  · obtain rfl : y = x := by simpa using hy
    obtain ⟨k1, k2⟩ := keep b hb1 hb2
    exact ⟨hx, b, hA, Nat.lt_of_lt_of_le hb1 hg.size, k2, fun j u hu => (k1 j).trans (hc j u hu)⟩

def words56 : List UInt8 := [119, 104, 97, 116, 32, 115, 116, 97, 110, 100, 115, 32, 104, 101, 114, 101, 44, 32, 97, 110, 100, 32, 119, 104, 97, 116, 32, 100, 111, 101, 115, 32, 110, 111, 116, 44, 32, 102, 111, 114, 32, 97, 32, 119, 97, 108, 107, 32, 111, 102, 32, 105, 116, 101, 109, 115]
def cells56 : Array Value := #[.int .u8 119, .int .u8 104, .int .u8 97, .int .u8 116, .int .u8 32, .int .u8 115, .int .u8 116, .int .u8 97, .int .u8 110, .int .u8 100, .int .u8 115, .int .u8 32, .int .u8 104, .int .u8 101, .int .u8 114, .int .u8 101, .int .u8 44, .int .u8 32, .int .u8 97, .int .u8 110, .int .u8 100, .int .u8 32, .int .u8 119, .int .u8 104, .int .u8 97, .int .u8 116, .int .u8 32, .int .u8 100, .int .u8 111, .int .u8 101, .int .u8 115, .int .u8 32, .int .u8 110, .int .u8 111, .int .u8 116, .int .u8 44, .int .u8 32, .int .u8 102, .int .u8 111, .int .u8 114, .int .u8 32, .int .u8 97, .int .u8 32, .int .u8 119, .int .u8 97, .int .u8 108, .int .u8 107, .int .u8 32, .int .u8 111, .int .u8 102, .int .u8 32, .int .u8 105, .int .u8 116, .int .u8 101, .int .u8 109, .int .u8 115]
theorem rd56 (w : World) (q : Nat) : Rd (w.alloc (.cells cells56 5 (56, 57))) (w.heap.size + 1) (some ⟨w.heap.size, 0, none⟩) (u8s (words56.take q)) := by
  have h := (Rd.new w cells56 5 (56, 57)).take q
  rw [show cells56.toList = u8s words56 from rfl, u8s_take] at h
  exact h
theorem cut_n (w : World) (A : Option Addr) (xs : List It) (n c : Nat) (hn : xs.length = n) (hI : Its w w.heap.size A xs) (hc : n ≤ c) (hc2 : c ≤ 9223372036854775807) (cut : Int) (hcut1 : -9223372036854775808 ≤ cut) (hcut2 : cut ≤ 9223372036854775807) :
    Calls Try.prog 7 #[.slice A n c, .int .i64 cut] w fun e w' => e = .returned (.bool true) ∧ Below w.heap.size w w' := by
  subst hn; exact fieldsCut_walk w A xs c hI hc hc2 cut hcut1 hcut2
theorem stand_n (w : World) (A : Option Addr) (xs : List It) (n c : Nat) (hn : xs.length = n) (hI : Its w w.heap.size A xs) (hc : n ≤ c) (hc2 : c ≤ 9223372036854775807) :
    Calls Try.prog 3 #[.slice A n c] w fun e w' => e = .returned (.bool true) ∧ Below w.heap.size w w' := by
  subst hn; exact fieldsStand_walk w A xs c hI hc hc2
theorem walk_n (w : World) (A : Option Addr) (bs : List UInt8) (m c : Nat) (hm : bs.length = m) (hR : Rd w w.heap.size A (u8s bs)) (hbc : m ≤ c) (hb47 : m ≤ 140737488351232) (A2 : Option Addr) (xs : List It) (n c2 : Nat) (hn : xs.length = n) (hI : Its w w.heap.size A2 xs) (hc : n ≤ c2) (hc2 : c2 ≤ 9223372036854775807) :
    Calls Try.prog 4 #[.slice A m c, .slice A2 n c2] w fun e w' => e = .returned (.bool true) ∧ Below w.heap.size w w' := by
  subst hn; subst hm; exact fieldsWalk_walk w A bs c hR hbc hb47 A2 xs c2 hI hc hc2
theorem wrap_nat (x : Int) : ∃ p : Nat, IntKind.u64.wrap x = (p : Int) ∧ p < 18446744073709551616 := ⟨(IntKind.u64.wrap x).toNat, by rw [IntKind.wrap_u64]; omega, by rw [IntKind.wrap_u64]; omega⟩
theorem Kn.cap {w : World} {B : Nat} {A : Option Addr} {n c : Nat} {xs : List It} (h : Kn w B A n c xs) (hn : 0 < n) : n ≤ c ∧ c ≤ 9223372036854775807 := by
  rcases h.2.1.2 with ⟨_, rfl⟩ | ⟨g, cap, cur, hv, _, _, h1, h2, _⟩
  · omega
  · injection hv with _ _ hv
    subst hv
    unfold maxLen at h2
    omega
theorem its_nil (w : World) (B : Nat) (A : Option Addr) : Its w B A [] := Els.nil_

set_option maxRecDepth 100000 in
set_option maxHeartbeats 8000000 in
theorem fieldsKnown_walk (w : World) :
    Calls Try.prog 8 #[] w fun e w' => e = .returned (.bool true) ∧ Below w.heap.size w w' := by
  have hra : Rd (w.alloc (.cells #[.int .u8 1] 5)) (w.alloc (.cells #[.int .u8 1] 5)).heap.size (some ⟨w.heap.size, 0, none⟩) (u8s [1]) := by
    have h := Rd.new w #[.int .u8 1] 5 (0, 0)
    rw [← show (w.alloc (.cells #[.int .u8 1] 5)).heap.size = w.heap.size + 1 by simp] at h
    exact h
  go_enter Try.func8, Try.ntmps8
  go_wp2_with fail
  refine (nil_long _ 5 (by decide)).mono ?_
  rintro e w1 ⟨rfl, hb1⟩
  have hs1 := hb1.size
  clear hra
  have hra : Rd (w1.alloc (.cells #[.int .u8 1] 5)) (w1.alloc (.cells #[.int .u8 1] 5)).heap.size (some ⟨w1.heap.size, 0, none⟩) (u8s [1]) := by
    have h := Rd.new w1 #[.int .u8 1] 5 (0, 0)
    rw [← show (w1.alloc (.cells #[.int .u8 1] 5)).heap.size = w1.heap.size + 1 by simp] at h
    exact h
  have hba : Below w1.heap.size w1 (w1.alloc (.cells #[.int .u8 1] 5)) := (Below.refl _ _).alloc (Nat.le_refl _) _
  go_wp2_with fail
  refine (nil_raw _ _ [1] 1 _ rfl hra (by decide)).mono ?_
  rintro e w2 ⟨rfl, hb2⟩
  have hb2' := (hb1.trans (hba.mono hs1)).trans (hb2.mono (by simp; omega))
  have hs2 := hb2'.size
  clear hra hba hb1 hb2
  go_wp2_with fail
  refine (nil_out _).mono ?_
  rintro e w3 ⟨rfl, rfl⟩
  go_wp2_with fail
  refine (nil_bad _).mono ?_
  rintro e w4 ⟨rfl, rfl⟩
  go_wp2_with fail
  refine (nil_left _).mono ?_
  rintro e w5 ⟨rfl, rfl⟩
  go_wp2_with fail
  refine (nil_get64 _).mono ?_
  rintro e w6 ⟨rfl, rfl⟩
  go_wp2_with fail
  refine (nil_get8 _).mono ?_
  rintro e w7 ⟨rfl, rfl⟩
  go_wp2_with fail
  refine (nil_getraw _ 2).mono ?_
  rintro e w8 ⟨⟨A8, c8, rfl⟩, hb8⟩
  have hb8' := hb2'.trans (hb8.mono hs2)
  clear hb8 hb2'
  go_wp2
  go_loopw [3, 4, 5] (fun vl vi vn wr => ∃ (i n c : Nat) (A : Option Addr) (xs : List It), i ≤ 64 ∧ Hid (n = min i 20) ∧ vi = .int .i64 i ∧ vl = .slice A n c ∧ Below w.heap.size w wr ∧ Hid (Kn wr w.heap.size A n c xs)) (fun _ vi _ _ => 64 - (intOf vi).toNat)
  case atStart => exact ⟨0, 0, 0, none, [], by omega, hide rfl, rfl, rfl, hb8', hide ⟨rfl, World.ownsRow_nil _ _ _ _, fun x hx => by cases hx⟩⟩
  case round =>
    obtain ⟨i, n, c, A, xs, hi, hn, rfl, rfl, hb, hk⟩ := hrel
    clear hb8'
    have hs := hb.size
    by_cases hlt : i < 64
    · have hI0 : (0 : Int) ≤ (i : Int) := by omega
      have hI1 : (i : Int) < 64 := by omega
      obtain ⟨y, hy, hy2⟩ := wrap_nat ((2 : Int) ^ i)
      obtain ⟨z, hz, hz2⟩ := wrap_nat ((y : Int) - 1)
      have HK0 := hk
      have hd0 := hb
      clear hk hb
      go_wp2_with fail
      refine (fieldsOrdered_walk _ _ (by omega) (by omega) _ (by omega) (by omega)).mono ?_
      rintro e v1 ⟨rfl, hc1⟩
      have HK1 := hide (HK0.out.below hc1)
      have hd1 := hd0.trans (hc1.mono hd0.size)
      clear HK0 hd0 hc1
      go_wp2_with fail
      refine (fieldsOrdered_walk _ _ (by omega) (by omega) _ (by omega) (by omega)).mono ?_
      rintro e v2 ⟨rfl, hc2⟩
      have HK2 := hide (HK1.out.below hc2)
      have hd2 := hd1.trans (hc2.mono hd1.size)
      clear HK1 hd1 hc2
      go_wp2_with fail
      refine (fieldsHalves_walk _ _ (by omega) (by omega)).mono ?_
      rintro e v3 ⟨rfl, hc3⟩
      have HK3 := hide (HK2.out.below hc3)
      have hd3 := hd2.trans (hc3.mono hd2.size)
      clear HK2 hd2 hc3
      go_wp2_with fail
      refine (fieldsHalves_walk _ _ (by omega) (by omega)).mono ?_
      rintro e v4 ⟨rfl, hc4⟩
      have HK4 := hide (HK3.out.below hc4)
      have hd4 := hd3.trans (hc4.mono hd3.size)
      clear HK3 hd3 hc4
      have hs4 := hd4.size
      by_cases hlt2 : i < 20
      · have hI2 : (i : Int) < 20 := by omega
        obtain ⟨q, hq, hq2⟩ : ∃ q : Nat, (i : Int) % 4 = (q : Int) ∧ q ≤ 3 := ⟨i % 4, by omega, by omega⟩
        obtain ⟨p, hp, hp2⟩ := wrap_nat (IntKind.u64.wrap ((y : Int) * 72623859790382857) + (i : Int))
        have hq3 : (0 : Int) ≤ (q : Int) := by omega
        have hq4 : (q : Int) ≤ 3 := by omega
        obtain ⟨i0, hi0, hz0, hz1, hz2'⟩ := info_parts (show (Try.prog.info? 33).map (fun i => (i.zero, i.size, i.bytes)) = some (some (.agg #[.int .u8 0, .int .u64 0, .slice none 0 0]), 3, 40) by kernel_rfl)
        obtain ⟨x, hx⟩ : ∃ x : It, x = ⟨i, p, some ⟨v4.heap.size, 0, none⟩, [UInt8.ofNat i, 255, 0].take q, 3⟩ := ⟨_, rfl⟩
        obtain ⟨W1, hW1⟩ : ∃ W1, v4.alloc (.cells #[.int .u8 i, .int .u8 255, .int .u8 0] 5) = W1 := ⟨_, rfl⟩
        obtain ⟨W2, hW2⟩ : ∃ W2, W1.alloc (.cells #[.int .u8 i, .int .u64 p, .slice (some ⟨v4.heap.size, 0, none⟩) q 3] 33) = W2 := ⟨_, rfl⟩
        have hb41 : Below v4.heap.size v4 W1 := by rw [← hW1]; exact (Below.refl _ _).alloc (Nat.le_refl _) _
        have hz41 : W1.heap.size = v4.heap.size + 1 := by rw [← hW1]; simp
        have hb42 : Below v4.heap.size v4 W2 := by rw [← hW2]; exact hb41.alloc (by omega) _
        have hz42 : W2.heap.size = v4.heap.size + 1 + 1 := by rw [← hW2]; simp [hz41]
        have hcb : ∀ j u, (u8s x.bs)[j]? = some u → W2.cell? ⟨v4.heap.size, j, none⟩ = some u := fun j u hu => by
          rw [← hW2, World.cell?_alloc_lt _ _ _ (by show v4.heap.size < _; omega), ← hW1, World.cell?_alloc_mark]
          rw [hx] at hu
          dsimp only at hu
          rw [← u8s_take, List.getElem?_take] at hu
          split at hu
          · rw [← hu]
            have : (UInt8.ofNat i).toNat = i := by rw [UInt8.toNat_ofNat']; omega
            rw [show u8s [UInt8.ofNat i, 255, 0] = [.int .u8 ((UInt8.ofNat i).toNat : Nat), .int .u8 255, .int .u8 0] from rfl, this]
            simp
          · cases hu
        have hrow : Rd W2 (v4.heap.size + 1 + 1) (some ⟨v4.heap.size + 1, 0, none⟩) [.int .u8 i, .int .u64 p, .slice (some ⟨v4.heap.size, 0, none⟩) q 3] := by
          have h := Rd.new W1 #[.int .u8 i, .int .u64 p, .slice (some ⟨v4.heap.size, 0, none⟩) q 3] 33 (0, 0)
          rw [hW2, hz41] at h
          exact h
        have hxok : x.ok := by rw [hx]; exact ⟨by simp only; omega, hp2, by simp only [List.length_take]; omega, by simp only [List.length_take, List.length_cons, List.length_nil]; omega⟩
        have hxc : x.cells = [.int .u8 i, .int .u64 p, .slice (some ⟨v4.heap.size, 0, none⟩) q 3] := by
          have : ([UInt8.ofNat i, 255, 0].take q).length = q := by simp only [List.length_take, List.length_cons, List.length_nil]; omega
          rw [hx]; simp only [It.cells, this]
        have hxA : x.A = some ⟨v4.heap.size, 0, none⟩ := by rw [hx]
        have hKW := HK4.out.below hb42
        have hne : (Value.slice A n c).ownBlock ≠ some v4.heap.size := fun e => by
          have := (HK4.out.2.1.lt _ e).2
          omega
        have hown4 := HK4.out.2.1
        have hownW := hKW.2.1
        have hb4W := hd4.trans (hb42.mono hs4)
        have HA := hide hx
        have HB1 := hide hcb
        have HB2 := hide hrow
        have HB3 := hide hxok
        have HB4 := hide hxc
        have HB5 := hide hxA
        have HB6 := hide hne
        have HB7 := hide hKW
        have HB8 := hide hownW
        have HW := hide (And.intro hW1 hW2)
        have hn20 : n ≤ 20 := by have := hn.out; omega
        have HN := hide hn.out
        clear hx hcb hrow hxok hxc hxA hne hKW hown4 hownW hW1 hW2 hb41 hb42 HK4 hn
        go_wp2_with (at_builtin; refine wpList_app rfl (.tmp 74) (.tmp 89) 22 rfl w.heap.size 33 i0 (.agg #[.int .u8 0, .int .u64 0, .slice none 0 0]) 3 40 Try.underlying22 hi0 hz0 hz1 hz2' rfl (by decide) (.slice A n c) n (cellsOf xs) rfl (by rw [HW.out.1, HW.out.2]; exact HB8.out) (v4.heap.size + 1 + 1) (some ⟨v4.heap.size + 1, 0, none⟩) 1 1 [.int .u8 i, .int .u64 p, .slice (some ⟨v4.heap.size, 0, none⟩) q 3] rfl rfl (by rw [HW.out.1, HW.out.2]; exact HB2.out) (by simp [Value.oneCell']) (by unfold maxLen; omega) (by omega) (by simp; omega) ?_; rw [HW.out.1, HW.out.2]; intro A' c' W3 hown3 hg3 hat3; rw [← HB4.out] at hown3; have hk3 := HB7.out.push HB3.out v4.heap.size HB5.out (by omega) HB6.out HB1.out hown3 hg3 hat3; have HK5 := hide hk3; have HD5 := hide (app_below hb4W HB8.out hg3 (by omega) (Nat.le_refl _)); clear hown3 hg3 hat3 hk3)
        go_roundw
        case rel => exact ⟨i + 1, n + 1, c', A', xs ++ [x], by omega, hide (by have := HN.out; omega), by go_num, rfl, HD5.out, HK5⟩
        case measure => simp [intOf]; omega
      · have hI2 : ¬ (i : Int) < 20 := by omega
        have HN := hide hn.out
        go_wp2
        go_roundw
        case rel => exact ⟨i + 1, n, c, A, xs, by omega, hide (by have := HN.out; omega), by go_num, rfl, hd4, HK4⟩
        case measure => simp [intOf]; omega
    · obtain rfl : i = 64 := by omega
      obtain rfl : n = 20 := by have := hn.out; omega
      obtain ⟨g, rfl, _, _, _⟩ := own_addr hk.out.2.1 (by omega)
      obtain ⟨hc1, hc2⟩ := hk.out.cap (by omega)
      have HX := hide hk.out.1
      clear hn
      rw [show ((64 : Nat) : Int) = 64 from rfl]
      go_wp2
      go_loopw [6] (fun vj wq => ∃ j : Nat, j ≤ 90 ∧ vj = .int .i64 j ∧ Below w.heap.size w wq ∧ Hid (Kn wq w.heap.size (some ⟨g, 0, none⟩) 20 c xs)) (fun vj _ => 90 - (intOf vj).toNat)
      case atStart => exact ⟨0, by omega, rfl, hb, hk⟩
      case round =>
        obtain ⟨j, hj, rfl, hd0, HK0⟩ := hrel
        clear hb hk hs
        by_cases hlt3 : j < 90
        · obtain ⟨q, hq, hq2⟩ : ∃ q : Nat, (j : Int) % 20 = (q : Int) ∧ q < 20 := ⟨j % 20, by omega, by omega⟩
          obtain ⟨q5, hq5, hq52⟩ : ∃ q5 : Nat, (j : Int) % 50 = (q5 : Int) ∧ q5 < 50 := ⟨j % 50, by omega, by omega⟩
          have hq3 : (0 : Int) ≤ (q : Int) := by omega
          have hq4 : (q : Int) ≤ (c : Int) := by omega
          have hq6 : (0 : Int) ≤ (q5 : Int) := by omega
          have hq7 : (q5 : Int) ≤ 56 := by omega
          have hw1 : IntKind.i64.wrap (-(j : Int)) = -(j : Int) := IntWalk.i64_in _ (by omega)
          go_wp2_with fail
          refine (cut_n _ _ (xs.take 20) 20 c (by rw [List.length_take, HX.out]; rfl) (HK0.out.its 20 (by omega)) (by omega) (by omega) _ (by omega) (by omega)).mono ?_
          rintro e v1 ⟨rfl, hc1⟩
          have HK1 := hide (HK0.out.below hc1)
          have hd1 := hd0.trans (hc1.mono hd0.size)
          clear HK0 hd0 hc1
          go_wp2_with fail
          refine (cut_n _ _ (xs.take q) q c (by rw [List.length_take, HX.out]; omega) (HK1.out.its q (by omega)) (by omega) (by omega) _ (by omega) (by omega)).mono ?_
          rintro e v2 ⟨rfl, hc2⟩
          have HK2 := hide (HK1.out.below hc2)
          have hd2 := hd1.trans (hc2.mono hd1.size)
          clear HK1 hd1 hc2
          have hba : Below v2.heap.size v2 (v2.alloc (.cells cells56 5 (56, 57))) := (Below.refl _ _).alloc (Nat.le_refl _) _
          have HK2b := hide (HK2.out.below hba)
          have hd2b := hd2.trans (hba.mono hd2.size)
          have hR56 := hide (rd56 v2 q5)
          have hz56 : (v2.alloc (.cells cells56 5 (56, 57))).heap.size = v2.heap.size + 1 := by simp
          have HZ56 := hide hz56
          have hlen5 : (words56.take q5).length = q5 := by rw [List.length_take, show words56.length = 56 from rfl]; omega
          clear HK2 hd2 hba hz56
          have kc := fun (C : Array Value) (n c : Nat) => Lib.run_convert_bytes_const (P := Try.prog) v2 31 5 C n c Try.underlying31 Try.underlying5
          go_wp2_with fail
          refine (walk_n _ _ (words56.take q5) q5 56 hlen5 (hR56.out.more (Nat.le_of_eq HZ56.out.symm)) (by omega) (by omega) _ (xs.take 20) 20 c (by rw [List.length_take, HX.out]; rfl) (HK2b.out.its 20 (by omega)) (by omega) (by omega)).mono ?_
          rintro e v3 ⟨rfl, hc3⟩
          have HK3 := hide (HK2b.out.below hc3)
          have hd3 := hd2b.trans (hc3.mono hd2b.size)
          clear HK2b hd2b hc3 hR56 HZ56 kc
          go_wp2
          go_roundw
          case rel => exact ⟨j + 1, by omega, by go_num, hd3, HK3⟩
          case measure => simp [intOf]; omega
        · obtain rfl : j = 90 := by omega
          go_wp2_with fail
          refine (stand_n _ _ (xs.take 20) 20 c (by rw [List.length_take, HX.out]; rfl) (HK0.out.its 20 (by omega)) (by omega) (by omega)).mono ?_
          rintro e v1 ⟨rfl, hc1⟩
          have HK1 := hide (HK0.out.below hc1)
          have hd1 := hd0.trans (hc1.mono hd0.size)
          clear HK0 hd0 hc1
          go_wp2_with fail
          refine (stand_n _ _ [] 0 0 rfl (its_nil _ _ _) (by omega) (by omega)).mono ?_
          rintro e v2 ⟨rfl, hc2⟩
          have HK2 := hide (HK1.out.below hc2)
          have hd2 := hd1.trans (hc2.mono hd1.size)
          clear HK1 hd1 hc2
          go_wp2_with fail
          refine (cut_n _ _ [] 0 0 rfl (its_nil _ _ _) (by omega) (by omega) _ (by omega) (by omega)).mono ?_
          rintro e v3 ⟨rfl, hc3⟩
          have HK3 := hide (HK2.out.below hc3)
          have hd3 := hd2.trans (hc3.mono hd2.size)
          clear HK2 hd2 hc3
          go_wp2_with fail
          refine (cut_n _ _ (xs.take 20) 20 c (by rw [List.length_take, HX.out]; rfl) (HK3.out.its 20 (by omega)) (by omega) (by omega) _ (by omega) (by omega)).mono ?_
          rintro e v4 ⟨rfl, hc4⟩
          have HK4 := hide (HK3.out.below hc4)
          have hd4 := hd3.trans (hc4.mono hd3.size)
          clear HK3 hd3 hc4
          go_wp2_with fail
          refine (walk_n _ _ [] 0 0 rfl Rd.nil_ (by omega) (by omega) _ (xs.take 20) 20 c (by rw [List.length_take, HX.out]; rfl) (HK4.out.its 20 (by omega)) (by omega) (by omega)).mono ?_
          rintro e v5 ⟨rfl, hc5⟩
          have HK5 := hide (HK4.out.below hc5)
          have hd5 := hd4.trans (hc5.mono hd4.size)
          clear HK4 hd4 hc5
          go_wp2_with fail
          refine (works_any _ ).mono ?_
          rintro e v6 ⟨rfl, hc6⟩
          have HK6 := hide (HK5.out.below hc6)
          have hd6 := hd5.trans (hc6.mono hd5.size)
          clear HK5 hd5 hc6
          go_wp2
          go_ret
          exact ⟨rfl, hd6⟩
end Go.Proofs.Ytbmaiiflbdggnaa
