/- Lemmas: Mpi. -/
import Derived.Maps.Own
import Derived.Maps.OwnSet
import Derived.Maps.OwnOps
import Derived.Maps.Views
import Derived.Maps.Keyed
set_option linter.unusedVariables false
set_option linter.unusedSimpArgs false
set_option maxRecDepth 100000
set_option maxHeartbeats 16000000
namespace Go.Proofs.Ytihdpfjonkagaaa
open Go.RowKit
def li (x : Int) : Lit := .int .i64 x
def mapD (l : List Int) : DataW Unit := (l.zipIdx).foldl (fun D (p : Int × Nat) => D.put (li p.1) (.lit (.int .i64 (p.2 : Int)))) (.map [])
theorem mapD_snoc (l : List Int) (x : Int) : mapD (l ++ [x]) = (mapD l).put (li x) (.lit (.int .i64 (l.length : Int))) := by
 show ((l ++ [x]).zipIdx).foldl _ _ = _
 rw [List.zipIdx_append, List.foldl_append]
 simp [mapD]
theorem mapD_isMap (l : List Int) : Maps.IsMap (mapD l) := by
 unfold mapD
 generalize l.zipIdx = z
 suffices h : ∀ (z : List (Int × Nat)) (D : DataW Unit), Maps.IsMap D → Maps.IsMap (z.foldl (fun D (p : Int × Nat) => D.put (li p.1) (.lit (.int .i64 (p.2 : Int)))) D) from h z _ Maps.isMap_empty
 intro z
 induction z with
 | nil => intro D h; exact h
 | cons p z ih => intro D h; exact ih _ (h.put _ _)
theorem li_key (x : Int) : WideAt.IsKeyLit (li x) := by trivial
theorem li_ne {x y : Int} (h : x ≠ y) : li x ≠ li y := fun e => by unfold li at e; injection e with _ e; exact h e
theorem rev_cases {α : Type} {P : List α → Prop} (h0 : P []) (hs : ∀ l x, P l → P (l ++ [x])) : ∀ l, P l := by
 intro l
 have : ∀ m : List α, P m.reverse := by
  intro m
  induction m with
  | nil => exact h0
  | cons x m ih => rw [List.reverse_cons]; exact hs _ _ ih
 have := this l.reverse
 rwa [List.reverse_reverse] at this
theorem mapD_out {x : Int} : ∀ l : List Int, x ∉ l → Maps.has (mapD l) (li x) = false := by
 refine rev_cases (fun _ => rfl) (fun l y ih h => ?_)
 rw [mapD_snoc, Maps.has_put_other (li_ne (fun e => h (by rw [e]; simp)))]
 exact ih (fun hm => h (by simp [hm]))
theorem mapD_in {x : Int} : ∀ (l : List Int) (i : Nat), l.Nodup → l[i]? = some x → Maps.has (mapD l) (li x) = true ∧ ∀ z, (mapD l).atKey (li x) z = .lit (.int .i64 (i : Int)) := by
 refine rev_cases (fun i _ h => by simp at h) (fun l y ih i hn h => ?_)
 rw [mapD_snoc]
 rw [List.nodup_append] at hn
 rcases Nat.lt_or_ge i l.length with hi | hi
 ·rw [List.getElem?_append_left hi] at h
  have hne : x ≠ y := fun e => hn.2.2 x (List.mem_of_getElem? h) y (by simp) e
  obtain ⟨h1, h2⟩ := ih i hn.1 h
  exact ⟨by rw [Maps.has_put_other (li_ne hne)]; exact h1, fun z => by rw [Maps.atKey_put_other (li_ne hne)]; exact h2 z⟩
 ·have hi2 := (List.getElem?_eq_some_iff.1 h).1
  rw [List.length_append] at hi2
  simp only [List.length_cons, List.length_nil] at hi2
  obtain rfl : i = l.length := by omega
  rw [List.getElem?_append_right (Nat.le_refl _), Nat.sub_self] at h
  simp only [List.getElem?_cons_zero, Option.some.injEq] at h
  subst h
  exact ⟨Maps.has_put_same (mapD_isMap l) (li_key _) _, fun z => Maps.atKey_put_same (mapD_isMap l) (li_key _) _ z⟩
end Go.Proofs.Ytihdpfjonkagaaa
