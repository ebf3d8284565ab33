/- The chapter's examples of fields. -/
import Derived.Test.YtbmaiiflbdggnaaFre
import Derived.Test.YtbmaiiflbdggnaaFou
namespace Go.Proofs.Ytbmaiiflbdggnaa
open Go.RowKit
set_option linter.unusedVariables false

theorem Rr.besides {T : TypeId} {w w' : World} {g h : Nat} {bs : List UInt8} {s : Nat × Bool} (hr : Rr T w g bs s) (hb : Besides h w w') (hg : g ≠ h) (hh : ∀ A c, w.heap[g]? = some (.cells #[.slice A bs.length c, .int .i64 (s.1 : Nat), .bool s.2] T) → ∀ b off, A = some ⟨b, off, none⟩ → bs ≠ [] → b ≠ h) : Rr T w' g bs s := by
  have hlt := hr.lt
  obtain ⟨A, c, hc, hR, h3⟩ := hr
  refine ⟨A, c, (hb.block g hlt hg).trans hc, fun hn => ?_, h3⟩
  obtain ⟨b, off, e, hbg, hbl, hcell⟩ := hR hn
  have hne := hh A c hc b off e (fun e => by subst e; exact hn rfl)
  exact ⟨b, off, e, hbg, Nat.lt_of_lt_of_le hbl hb.size, fun j u hu => (hb.cell (p := ⟨b, off + j, none⟩) hbl hne).trans (hcell j u hu)⟩

set_option maxRecDepth 100000 in
set_option maxHeartbeats 1000000 in
theorem works_any (w : World) :
    Calls Try.prog 10 #[] w fun e w' => e = .returned (.bool true) ∧ Below w.heap.size w w' := by
  have kc := fun (w : World) (C : Array Value) (n c : Nat) => Lib.run_convert_bytes_const (P := Try.prog) w 31 5 C n c Try.underlying31 Try.underlying5
  have W0 := Wo.new w
  have hb0 : Below w.heap.size w (w.alloc (.cells #[.pointer none, .int .i64 0] 28)) := (Below.refl _ _).alloc (Nat.le_refl _) _
  have hs0 : (w.alloc (.cells #[.pointer none, .int .i64 0] 28)).heap.size = w.heap.size + 1 := by simp
  go_enter Try.func10, Try.ntmps10
  go_wp2_with fail
  refine (put16 _ w.heap.size [] 258 (by decide) W0 (by decide)).mono ?_
  rintro e w1 ⟨rfl, W1, q1⟩
  have hb1 := hb0.trans (q1.below (Nat.le_refl _) (by omega))
  clear W0 q1 hb0 hs0
  have s1 := hb1.size
  have hra : Rd (w1.alloc (.cells #[.int .u8 97] 5 (1, 2))) (w1.alloc (.cells #[.int .u8 97] 5 (1, 2))).heap.size (some ⟨w1.heap.size, 0, none⟩) (u8s [97]) := by
    have h := Rd.new w1 #[.int .u8 97] 5 (1, 2)
    rw [← show (w1.alloc (.cells #[.int .u8 97] 5 (1, 2))).heap.size = w1.heap.size + 1 by simp] at h
    exact h
  have hba : Below w1.heap.size w1 (w1.alloc (.cells #[.int .u8 97] 5 (1, 2))) := (Below.refl _ _).alloc (Nat.le_refl _) _
  have Wa := W1.below hba
  have hsa : w.heap.size + 1 ≤ w1.heap.size := W1.lt
  clear W1
  go_wp2_with fail
  refine (put_raw _ w.heap.size ([] ++ be 2 258) _ [97] _ hra Wa (by decide) (by decide)).mono ?_
  rintro e w2 ⟨rfl, W2, q2⟩
  have hb2 : Below w.heap.size w w2 := (hb1.trans (hba.mono s1)).trans (q2.below (Nat.le_refl _) (by simp; omega))
  clear Wa q2 hba hra hb1 hsa s1
  have s2 := hb2.size
  have hrb : Rd (w2.alloc (.cells #[.int .u8 1, .int .u8 2, .int .u8 3] 5)) (w2.alloc (.cells #[.int .u8 1, .int .u8 2, .int .u8 3] 5)).heap.size (some ⟨w2.heap.size, 0, none⟩) (u8s [1, 2, 3]) := by
    have h := Rd.new w2 #[.int .u8 1, .int .u8 2, .int .u8 3] 5 (0, 0)
    rw [← show (w2.alloc (.cells #[.int .u8 1, .int .u8 2, .int .u8 3] 5)).heap.size = w2.heap.size + 1 by simp] at h
    exact h
  have hbb : Below w2.heap.size w2 (w2.alloc (.cells #[.int .u8 1, .int .u8 2, .int .u8 3] 5)) := (Below.refl _ _).alloc (Nat.le_refl _) _
  go_wp2_with fail
  refine (open_any _ _ [1, 2, 3] _ hrb (by decide)).mono ?_
  rintro e w3 ⟨⟨r, rfl, hr0, R3⟩, q3⟩
  have hb3 : Below w2.heap.size w2 w3 := hbb.trans (q3.mono (by simp))
  have hrg : w2.heap.size ≤ r := by simp at hr0; omega
  clear hrb hbb q3 hr0
  have s3 := hb3.size
  go_wp2_with fail
  refine (get16 _ r [1, 2, 3] _ R3).mono ?_
  rintro e w4 ⟨rfl, R4, q4⟩
  have hb4 := hb3.trans (q4.below hrg s3)
  have s4 := hb4.size
  have R4' : Rr 65 w4 r [1, 2, 3] (2, false) := R4
  rw [show num (nx [1, 2, 3] (0, false) 2).1 = 258 from rfl]
  clear R3 R4 q4 hb3 s3
  go_wp2_with fail
  refine (get8 _ r [1, 2, 3] _ R4').mono ?_
  rintro e w5 ⟨rfl, R5, q5⟩
  have hb5 := hb4.trans (q5.below hrg s4)
  have s5 := hb5.size
  have R5' : Rr 65 w5 r [1, 2, 3] (3, false) := R5
  rw [show num (nx [1, 2, 3] (2, false) 1).1 = 3 from rfl]
  clear R4' R5 q5 hb4 s4
  go_wp2_with fail
  refine (get8 _ r [1, 2, 3] _ R5').mono ?_
  rintro e w6 ⟨rfl, R6, q6⟩
  have hb6 := hb5.trans (q6.below hrg s5)
  have s6 := hb6.size
  have R6' : Rr 65 w6 r [1, 2, 3] (3, true) := R6
  rw [show num (nx [1, 2, 3] (3, false) 1).1 = 0 from rfl]
  clear R5' R6 q6 hb5 s5
  have W6 : Wo w6 w.heap.size w.heap.size [1, 2, 97] := W2.below hb6
  clear W2
  go_wp2_with fail
  refine (out_any _ w.heap.size [1, 2, 97] W6 (by decide)).mono ?_
  rintro e w7 ⟨rfl, hg7, hb7⟩
  have R7 := R6'.below hb7
  have hr7 := Rd.of_block hg7
  have ks := run_string_of (P := Try.prog) w7 31 9 5 (some ⟨w6.heap.size, 0, none⟩) 3 _ [1, 2, 97] Try.underlying31 Try.underlying5 Try.underlying9 hr7
  have ks' : (convert 31 9 (.slice (some ⟨w6.heap.size, 0, none⟩) 3 3)).run Try.prog w7 = .ok (.string ⟨#[1, 2, 97]⟩) w7 := ks
  clear ks hg7 hr7 R6' W6
  have kl : (((([1, 2, 3] : List UInt8).length : Nat) : Int) - (((3, true) : Nat × Bool).1 : Int)) = 0 := rfl
  go_wp2_with fail
  refine (bad_any _ r [1, 2, 3] _ R7).mono ?_
  rintro e w8 ⟨rfl, rfl⟩
  go_wp2_with fail
  refine (left_any _ r [1, 2, 3] _ R7).mono ?_
  rintro e w8 ⟨rfl, hb8⟩
  rw [kl]
  clear ks' R7
  go_wp2_with fail
  go_ret
  exact ⟨rfl, (hb2.trans (hb6.mono s2)).trans ((hb7.trans (hb8.mono hb7.size)).mono (by omega))⟩

end Go.Proofs.Ytbmaiiflbdggnaa
