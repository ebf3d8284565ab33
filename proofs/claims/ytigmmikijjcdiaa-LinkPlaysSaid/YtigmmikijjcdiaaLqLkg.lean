/- Of: a frame's epoch. -/
import Derived.Deep.DeepCutAuto
import Derived.Lib.Hide
import Derived.WalkSpells
import Derived.WalkMore
import Derived.IntWalk
import Derived.Test.YtigmmikijjcdiaaLqLko






namespace Go.Proofs.Ytigmmikijjcdiaa
open Go.RowKit
set_option linter.unusedVariables false
set_option linter.unusedSimpArgs false
def OfPost (w : World) (f : BL) (e : Ending) (w' : World) : Prop := Below w.heap.size w w' ∧ e = .returned (match readL f with | none => .tuple #[.int .i64 0, .bool false] | some (ep, _, _, _) => .tuple #[.int .i64 (ep : Int), .bool true])
set_option maxRecDepth 100000 in
set_option maxHeartbeats 4000000 in
theorem lof_any (w : World) (A : Option Addr) (f : BL) (c : Nat) (hR : Rd w w.heap.size A (u8s f)) (hf : f.length ≤ 3000000) (hlc : f.length ≤ c) (hc : c ≤ 9223372036854775807) :
    Calls Try.prog 17 #[.slice A f.length c] w (OfPost w f) := by
  have hrd := read_any w A f c hR hf hlc hc
  obtain ⟨m, hm⟩ : ∃ m, f.length = m := ⟨_, rfl⟩
  rw [hm] at hrd ⊢
  have HRd := hide hrd
  clear hrd hm hR hf hlc hc
  rcases hq : readL f with _ | ⟨ep, h, n, b⟩
  · have HQ := hide hq
    clear hq
    go_enter Try.func17, Try.ntmps17
    go_wp2_with fail
    refine HRd.out.mono ?_
    rintro e y ⟨hb, he⟩
    rw [HQ.out] at he
    obtain rfl := he
    have HFin : ∀ o, Hid (OfPost w f (.returned (.tuple #[.int .i64 0, .bool false])) (y.alloc o)) := fun o => hide ⟨hb.alloc hb.size o, by rw [HQ.out]⟩
    clear hb
    go_wp2
    exact bodyPost_ret (v := .tuple #[.int .i64 0, .bool false]) (by simp [results, Try.results17, go_sem]) rfl (HFin _).out
  · have HQ := hide hq
    clear hq
    go_enter Try.func17, Try.ntmps17
    go_wp2_with fail
    refine HRd.out.mono ?_
    rintro e y ⟨hb, he⟩
    rw [HQ.out] at he
    obtain ⟨A1, c1, rfl, -⟩ := he
    obtain ⟨bl, hbl⟩ : ∃ x, b.length = x := ⟨_, rfl⟩
    rw [hbl]
    have HFin : ∀ o, Hid (OfPost w f (.returned (.tuple #[.int .i64 (ep : Int), .bool true])) (y.alloc o)) := fun o => hide ⟨hb.alloc hb.size o, by rw [HQ.out]⟩
    clear hb hbl
    go_wp2
    exact bodyPost_ret (v := .tuple #[.int .i64 (ep : Int), .bool true]) (by simp [results, Try.results17, go_sem]) rfl (HFin _).out
end Go.Proofs.Ytigmmikijjcdiaa
