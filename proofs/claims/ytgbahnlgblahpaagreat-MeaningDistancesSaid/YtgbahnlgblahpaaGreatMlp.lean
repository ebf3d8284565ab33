/- Labels, plain law: roots of a forest; the labels along the edges; what makes them the only ones. -/
import Derived.Test.YtgbahnlgblahpaaGreatPtp
namespace Go.Proofs.YtgbahnlgblahpaaGreat
set_option linter.unusedVariables false
set_option linter.unusedSimpArgs false

def upAt (u : List Nat) (v : Nat) : Nat := (u[v]?).getD v
def UpOk (u : List Nat) : Prop := ∀ v, upAt u v ≤ v
def rootF (u : List Nat) (v : Nat) : Nat := if h : upAt u v < v then rootF u (upAt u v) else v
termination_by v
theorem root_step {u : List Nat} {v : Nat} (h : upAt u v < v) : rootF u v = rootF u (upAt u v) := by rw [rootF, dif_pos h]
theorem root_self {u : List Nat} {v : Nat} (h : ¬ upAt u v < v) : rootF u v = v := by rw [rootF, dif_neg h]
theorem root_le (u : List Nat) : ∀ v, rootF u v ≤ v := fun v => by
  induction v using Nat.strongRecOn with
  | _ v ih =>
    by_cases h : upAt u v < v
    · rw [root_step h]; exact Nat.le_trans (ih _ h) (Nat.le_of_lt h)
    · rw [root_self h]; exact Nat.le_refl _
theorem root_fix {u : List Nat} (hu : UpOk u) : ∀ v, upAt u (rootF u v) = rootF u v := fun v => by
  induction v using Nat.strongRecOn with
  | _ v ih =>
    by_cases h : upAt u v < v
    · rw [root_step h]; exact ih _ h
    · rw [root_self h]; have := hu v; omega
theorem root_of_fix {u : List Nat} {v : Nat} (h : upAt u v = v) : rootF u v = v := root_self (by omega)
theorem root_root {u : List Nat} (hu : UpOk u) (v : Nat) : rootF u (rootF u v) = rootF u v := root_of_fix (root_fix hu v)
theorem fix_of_root {u : List Nat} (hu : UpOk u) {v : Nat} (h : rootF u v = v) : upAt u v = v := by have := root_fix hu v; rwa [h] at this
theorem upAt_set (u : List Nat) (v y x : Nat) : upAt (u.set v y) x = if x = v ∧ v < u.length then y else upAt u x := by
  unfold upAt
  rw [List.getElem?_set]
  by_cases h : v = x
  · subst h
    by_cases hl : v < u.length
    · simp [hl]
    · simp [hl]
  · rw [if_neg h, if_neg (fun g => h g.1.symm)]
theorem set_ok {u : List Nat} (hu : UpOk u) {v y : Nat} (hy : y ≤ v) : UpOk (u.set v y) := fun x => by
  rw [upAt_set]
  split
  · rename_i h; rw [h.1]; exact hy
  · exact hu x
/-- a vertex that is tied to its root: the roots stay -/
theorem set_root {u : List Nat} (hu : UpOk u) (v : Nat) : ∀ x, rootF (u.set v (rootF u v)) x = rootF u x := fun x => by
  have hle := root_le u v
  induction x using Nat.strongRecOn with
  | _ x ih =>
    have hat := upAt_set u v (rootF u v) x
    by_cases hc : x = v ∧ v < u.length
    · rw [if_pos hc] at hat
      obtain ⟨rfl, hl⟩ := hc
      by_cases hr : rootF u x < x
      · rw [root_step (by rw [hat]; exact hr), hat, ih _ hr, root_root hu]
      · rw [root_self (by rw [hat]; exact hr)]; omega
    · rw [if_neg hc] at hat
      by_cases hr : upAt u x < x
      · rw [root_step (by rw [hat]; exact hr), hat, ih _ hr, root_step hr]
      · rw [root_self (by rw [hat]; exact hr), root_self hr]
/-- two roots put together -/
theorem set_join {u : List Nat} (hu : UpOk u) {a b : Nat} (ha : upAt u a = a) (hb : upAt u b = b) (hal : a < u.length) (hbl : b < u.length) :
    ∀ x, rootF (u.set (max a b) (min a b)) x = if rootF u x = max a b then min a b else rootF u x := fun x => by
  induction x using Nat.strongRecOn with
  | _ x ih =>
    have hat := upAt_set u (max a b) (min a b) x
    have hmf : rootF u (min a b) = min a b := by
      rcases Nat.le_total a b with h | h
      · rw [Nat.min_eq_left h]; exact root_of_fix ha
      · rw [Nat.min_eq_right h]; exact root_of_fix hb
    have hxf : rootF u (max a b) = max a b := by
      rcases Nat.le_total a b with h | h
      · rw [Nat.max_eq_right h]; exact root_of_fix hb
      · rw [Nat.max_eq_left h]; exact root_of_fix ha
    by_cases hc : x = max a b ∧ max a b < u.length
    · rw [if_pos hc] at hat
      obtain ⟨rfl, hl⟩ := hc
      rw [hxf, if_pos rfl]
      by_cases hr : min a b < max a b
      · rw [root_step (by rw [hat]; exact hr), hat, ih _ hr, hmf, if_neg (by omega)]
      · rw [root_self (by rw [hat]; exact hr)]; omega
    · rw [if_neg hc] at hat
      by_cases hr : upAt u x < x
      · rw [root_step (by rw [hat]; exact hr), hat, ih _ hr, root_step hr]
      · have hne : x ≠ max a b := fun h => hc ⟨h, by omega⟩
        rw [root_self (by rw [hat]; exact hr), root_self hr, if_neg hne]

def labStep (f : Nat → Nat) (e : Ed) : Nat → Nat := fun x => if f x = max (f e.1.toNat) (f e.2.1.toNat) then min (f e.1.toNat) (f e.2.1.toNat) else f x
def labF (es : List Ed) : Nat → Nat := es.foldl labStep id

inductive Conn (es : List Ed) (x : Nat) : Nat → Prop
  | refl : Conn es x x
  | fwd {e : Ed} : e ∈ es → Conn es x e.1.toNat → Conn es x e.2.1.toNat
  | bwd {e : Ed} : e ∈ es → Conn es x e.2.1.toNat → Conn es x e.1.toNat
theorem Conn.trans {es : List Ed} {x y z : Nat} (h : Conn es x y) (g : Conn es y z) : Conn es x z := by
  induction g with
  | refl => exact h
  | fwd he _ ih => exact .fwd he ih
  | bwd he _ ih => exact .bwd he ih
theorem Conn.symm {es : List Ed} {x y : Nat} (h : Conn es x y) : Conn es y x := by
  induction h with
  | refl => exact .refl
  | fwd he _ ih => exact (Conn.bwd he .refl).trans ih
  | bwd he _ ih => exact (Conn.fwd he .refl).trans ih
structure LabOk (es : List Ed) (n : Nat) (f : Nat → Nat) : Prop where
  edge : ∀ e ∈ es, f e.1.toNat = f e.2.1.toNat
  le : ∀ x, x < n → f x ≤ x
  conn : ∀ x, x < n → Conn es x (f x)
theorem LabOk.same {es : List Ed} {n : Nat} {f : Nat → Nat} (h : LabOk es n f) {x y : Nat} (g : Conn es x y) : f x = f y := by
  induction g with
  | refl => rfl
  | fwd he _ ih => rw [ih, h.edge _ he]
  | bwd he _ ih => rw [ih, h.edge _ he]
theorem LabOk.least {es : List Ed} {n : Nat} {f g : Nat → Nat} (h : LabOk es n f) (k : LabOk es n g) {x : Nat} (hx : x < n) : f x ≤ g x := by
  rw [h.same (k.conn x hx)]
  exact h.le _ (Nat.lt_of_le_of_lt (k.le x hx) hx)
theorem LabOk.unique {es : List Ed} {n : Nat} {f g : Nat → Nat} (h : LabOk es n f) (k : LabOk es n g) {x : Nat} (hx : x < n) : f x = g x :=
  Nat.le_antisymm (h.least k hx) (k.least h hx)
theorem lab_ok {es : List Ed} {n : Nat} (hw : Within es n) : LabOk es n (labF es) := by
  have key : ∀ (p done : List Ed) (f : Nat → Nat), (∀ e ∈ p, e ∈ es) → (∀ e ∈ done, e ∈ es) → (∀ e ∈ done, f e.1.toNat = f e.2.1.toNat) → (∀ x, f x ≤ x) → (∀ x, Conn es x (f x)) →
      (∀ e ∈ done ++ p, (p.foldl labStep f) e.1.toNat = (p.foldl labStep f) e.2.1.toNat) ∧ (∀ x, (p.foldl labStep f) x ≤ x) ∧ ∀ x, Conn es x ((p.foldl labStep f) x) := by
    intro p
    induction p with
    | nil => intro done f _ _ h1 h2 h3; exact ⟨by simpa using h1, h2, h3⟩
    | cons e p ih =>
      intro done f hp hd h1 h2 h3
      have hee : e ∈ es := hp e (by simp)
      have q : ∀ x, labStep f e x = if f x = max (f e.1.toNat) (f e.2.1.toNat) then min (f e.1.toNat) (f e.2.1.toNat) else f x := fun x => rfl
      obtain ⟨A, hA⟩ : ∃ A, f e.1.toNat = A := ⟨_, rfl⟩
      obtain ⟨B, hB⟩ : ∃ B, f e.2.1.toNat = B := ⟨_, rfl⟩
      rw [hA, hB] at q
      have hAB : Conn es A B := (((hA ▸ h3 e.1.toNat).symm).trans (.fwd hee .refl)).trans (hB ▸ h3 e.2.1.toNat)
      have := ih (done ++ [e]) (labStep f e) (fun x hx => hp x (List.mem_cons_of_mem _ hx)) (fun x hx => by
        rcases List.mem_append.1 hx with hx | hx
        · exact hd x hx
        · rw [List.mem_singleton.1 hx]; exact hee) (fun x hx => by
        rcases List.mem_append.1 hx with hx | hx
        · rw [q, q, h1 x hx]
        · rw [List.mem_singleton.1 hx, q, q, hA, hB]
          (repeat' split) <;> omega) (fun x => by
        rw [q]; have := h2 x; split <;> omega) (fun x => by
        rw [q]
        split
        · rename_i hx
          have h4 := h3 x
          rw [hx] at h4
          rcases Nat.le_total A B with h | h
          · rw [Nat.min_eq_left h]; rw [Nat.max_eq_right h] at h4; exact h4.trans hAB.symm
          · rw [Nat.min_eq_right h]; rw [Nat.max_eq_left h] at h4; exact h4.trans hAB
        · exact h3 x)
      rw [List.append_assoc] at this
      exact this
  obtain ⟨h1, h2, h3⟩ := key es [] id (fun _ h => h) (by simp) (by simp) (fun x => Nat.le_refl _) (fun x => .refl)
  exact ⟨fun e he => h1 e (by simpa using he), fun x _ => h2 x, fun x _ => h3 x⟩
end Go.Proofs.YtgbahnlgblahpaaGreat
