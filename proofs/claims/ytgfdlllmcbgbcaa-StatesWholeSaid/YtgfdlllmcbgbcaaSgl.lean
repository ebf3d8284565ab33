/- The plain law of a part's bytes: what is put is got, what is got is put, no beginning of bytes is a part. -/
import Derived.Test.YtgfdlllmcbgbcaaSgp
import Derived.Test.YtgfdlllmcbgbcaaSms
namespace Go.Proofs.Ytgfdlllmcbgbcaa
open Go.RowKit
set_option linter.unusedVariables false
set_option linter.unusedSimpArgs false
theorem rnum_be (n m : Nat) : rz.num (be n m) = m % 256 ^ n := by
  induction n generalizing m with
  | zero => simp [be, rz.num, Nat.mod_one]
  | succ n ih =>
    have e : m % 256 ^ (n + 1) = m % 256 + 256 * (m / 256 % 256 ^ n) := by rw [Nat.pow_succ, Nat.mul_comm (256 ^ n) 256, Nat.mod_mul]
    rw [be, rz.num_snoc, ih, e, UInt8.toNat_ofNat']
    omega
theorem rnum_snoc_mod (l : List UInt8) (b : UInt8) : rz.num (l ++ [b]) / 256 = rz.num l ∧ UInt8.ofNat (rz.num (l ++ [b])) = b := by
  rw [rz.num_snoc]
  have := b.toNat_lt
  constructor
  · omega
  · apply UInt8.toNat_inj.1
    rw [UInt8.toNat_ofNat']
    omega
theorem rbe_num : ∀ (n : Nat) (l : List UInt8), l.length = n → be n (rz.num l) = l
  | 0, l, h => by rw [List.eq_nil_of_length_eq_zero h]; rfl
  | n + 1, l, h => by
    rcases List.eq_nil_or_concat l with rfl | ⟨l', b, rfl⟩
    · simp at h
    · rw [List.concat_eq_append] at h ⊢
      obtain ⟨h1, h2⟩ := rnum_snoc_mod l' b
      rw [be, h1, h2, rbe_num n l' (by simpa using h)]

/-! ### no beginning of bytes is a part -/
theorem rowP_begin {l l' : List UInt8} {r : VRow} (h : rowP l = some (r, l')) : ∃ d, d ≤ l.length ∧ l' = l.drop d ∧ ∀ k, rowP (l.take k) = if k < d then none else some (r, l'.take (k - d)) := by
  unfold rowP at h
  split at h
  · cases h
  · rename_i h1
    split at h
    · cases h
    · rename_i h2
      split at h
      · rename_i h3
        injection h with h
        injection h with h h'
        refine ⟨11, by omega, h'.symm, fun k => ?_⟩
        by_cases hk : k < 11
        · rw [if_pos hk, rowP, if_pos (by rw [List.length_take]; omega)]
        · rw [if_neg hk, ← h', ← h]
          have t1 : ((l.take k).drop 10).take 1 = (l.drop 10).take 1 := by rw [List.drop_take, List.take_take, Nat.min_eq_left (by omega)]
          have t2 : (l.take k).take 2 = l.take 2 := by rw [List.take_take, Nat.min_eq_left (by omega)]
          have t3 : ((l.take k).drop 2).take 8 = (l.drop 2).take 8 := by rw [List.drop_take, List.take_take, Nat.min_eq_left (by omega)]
          have t4 : (l.take k).drop 11 = (l.drop 11).take (k - 11) := List.drop_take ..
          unfold rowP
          rw [if_neg (by rw [List.length_take]; omega), t1, t2, t3, t4, if_neg h2, if_pos h3]
      · rename_i h3
        split at h
        · cases h
        · rename_i h4
          injection h with h
          injection h with h h'
          refine ⟨19, by omega, h'.symm, fun k => ?_⟩
          by_cases hk : k < 19
          · rw [if_pos hk]
            unfold rowP
            by_cases hk2 : k < 11
            · rw [if_pos (by rw [List.length_take]; omega)]
            · have t1 : ((l.take k).drop 10).take 1 = (l.drop 10).take 1 := by rw [List.drop_take, List.take_take, Nat.min_eq_left (by omega)]
              rw [if_neg (by rw [List.length_take]; omega), t1, if_neg h2, if_neg h3, if_pos (by rw [List.length_take]; omega)]
          · rw [if_neg hk, ← h', ← h]
            have t1 : ((l.take k).drop 10).take 1 = (l.drop 10).take 1 := by rw [List.drop_take, List.take_take, Nat.min_eq_left (by omega)]
            have t2 : (l.take k).take 2 = l.take 2 := by rw [List.take_take, Nat.min_eq_left (by omega)]
            have t3 : ((l.take k).drop 2).take 8 = (l.drop 2).take 8 := by rw [List.drop_take, List.take_take, Nat.min_eq_left (by omega)]
            have t5 : ((l.take k).drop 11).take 8 = (l.drop 11).take 8 := by rw [List.drop_take, List.take_take, Nat.min_eq_left (by omega)]
            have t4 : (l.take k).drop 19 = (l.drop 19).take (k - 19) := List.drop_take ..
            unfold rowP
            rw [if_neg (by rw [List.length_take]; omega), t1, t2, t3, t4, t5, if_neg h2, if_neg h3, if_neg (by rw [List.length_take]; omega)]
theorem rowsP_begin : ∀ {n : Nat} {l : List UInt8} {rs : List VRow}, rowsP n l = some (rs, []) → ∀ k, k < l.length → rowsP n (l.take k) = none
  | 0, l, rs, h, k, hk => by
    unfold rowsP at h
    injection h with h
    injection h with _ h
    subst h
    simp at hk
  | n + 1, l, rs, h, k, hk => by
    unfold rowsP at h ⊢
    rcases h1 : rowP l with _ | ⟨r, l'⟩
    · rw [h1] at h; cases h
    · rw [h1] at h
      obtain ⟨d, hd, hl, hc⟩ := rowP_begin h1
      rw [hc]
      by_cases hkd : k < d
      · rw [if_pos hkd]; rfl
      · rw [if_neg hkd]
        simp only [Option.bind_some] at h ⊢
        rcases h2 : rowsP n l' with _ | ⟨z, l2⟩
        · rw [h2] at h; cases h
        · rw [h2] at h
          simp only [Option.map_some, Option.some.injEq, Prod.mk.injEq] at h
          rw [h.2] at h2
          rw [rowsP_begin h2 (k - d) (by rw [hl, List.length_drop]; omega)]
          rfl
theorem getF_begin {b : List UInt8} {p : SPart} (h : getF b = some p) (k : Nat) (hk : k < b.length) : getF (b.take k) = none := by
  unfold getF at h
  split at h
  · cases h
  · rename_i h6
    by_cases hk6 : k < 6
    · exact getF_short (by rw [List.length_take]; omega)
    · have t1 : ((b.take k).drop 4).take 2 = (b.drop 4).take 2 := by rw [List.drop_take, List.take_take, Nat.min_eq_left (by omega)]
      refine getF_none (n := rz.num ((b.drop 4).take 2)) (by rw [t1]) ?_
      rw [List.drop_take]
      split at h
      · rename_i rs h2
        exact rowsP_begin h2 _ (by rw [List.length_drop]; omega)
      · cases h

/-! ### what is put is got -/
theorem take_app {α : Type} {a b : List α} {n : Nat} (h : a.length = n) : (a ++ b).take n = a := by subst h; simp
theorem drop_app {α : Type} {a b : List α} {n : Nat} (h : a.length = n) : (a ++ b).drop n = b := by subst h; simp
theorem s64_id {x : Int} (h0 : 0 ≤ x) (h1 : x ≤ 4611686018427387904) : s64 (rz.num (be 8 x.toNat)) = x := by
  rw [rnum_be, Nat.mod_eq_of_lt (by omega)]
  unfold s64
  rw [IntWalk.wrap64_in _ ⟨by omega, by omega⟩]
  omega
theorem rowP_vB {v x : Int} {c : Bool} {m : Ml} (hv : 0 ≤ v) (hv2 : v < 512) (hx : 0 ≤ x) (hx2 : x ≤ 4611686018427387904) (hm : m.1 = true → 0 ≤ m.2 ∧ m.2 ≤ 4611686018427387904) (rest : List UInt8) : rowP (vB v x c m ++ rest) = some ((v, x, c, nm m), rest) := by
  obtain ⟨h, y⟩ := m
  have hf : flagOf c h ≤ 3 := by unfold flagOf; split <;> split <;> omega
  have n1 : rz.num (be 1 (flagOf c h)) = flagOf c h := by rw [rnum_be]; exact Nat.mod_eq_of_lt (by omega)
  have n2 : ((rz.num (be 2 v.toNat) : Nat) : Int) = v := by rw [rnum_be, Nat.mod_eq_of_lt (by omega)]; omega
  have n3 := s64_id hx hx2
  cases h with
  | false =>
    obtain ⟨z, hz⟩ : ∃ z, vB v x c (false, y) ++ rest = z := ⟨_, rfl⟩
    have e : z = be 2 v.toNat ++ (be 8 x.toNat ++ (be 1 (flagOf c false) ++ rest)) := by rw [← hz]; simp [vB]
    have l : 11 ≤ z.length := by rw [e]; simp only [List.length_append, be_len]; omega
    have d2 : z.drop 2 = be 8 x.toNat ++ (be 1 (flagOf c false) ++ rest) := by rw [e, drop_app (be_len _ _)]
    have d10 : z.drop 10 = be 1 (flagOf c false) ++ rest := by rw [show 10 = 2 + 8 from rfl, ← List.drop_drop, d2, drop_app (be_len _ _)]
    have d11 : z.drop 11 = rest := by rw [show 11 = 10 + 1 from rfl, ← List.drop_drop, d10, drop_app (be_len _ _)]
    rw [hz]
    unfold rowP
    rw [if_neg (by omega), d10, take_app (be_len _ _), n1, if_neg (by omega), if_pos (by unfold flagOf; split <;> simp), d11, d2, take_app (be_len _ _), n3]
    rw [show z.take 2 = be 2 v.toNat by rw [e, take_app (be_len _ _)], n2]
    cases c <;> rfl
  | true =>
    obtain ⟨b1, b2⟩ := hm rfl
    have n4 := s64_id b1 b2
    obtain ⟨z, hz⟩ : ∃ z, vB v x c (true, y) ++ rest = z := ⟨_, rfl⟩
    have e : z = be 2 v.toNat ++ (be 8 x.toNat ++ (be 1 (flagOf c true) ++ (be 8 y.toNat ++ rest))) := by rw [← hz]; simp [vB]
    have l : 19 ≤ z.length := by rw [e]; simp only [List.length_append, be_len]; omega
    have d2 : z.drop 2 = be 8 x.toNat ++ (be 1 (flagOf c true) ++ (be 8 y.toNat ++ rest)) := by rw [e, drop_app (be_len _ _)]
    have d10 : z.drop 10 = be 1 (flagOf c true) ++ (be 8 y.toNat ++ rest) := by rw [show 10 = 2 + 8 from rfl, ← List.drop_drop, d2, drop_app (be_len _ _)]
    have d11 : z.drop 11 = be 8 y.toNat ++ rest := by rw [show 11 = 10 + 1 from rfl, ← List.drop_drop, d10, drop_app (be_len _ _)]
    have d19 : z.drop 19 = rest := by rw [show 19 = 11 + 8 from rfl, ← List.drop_drop, d11, drop_app (be_len _ _)]
    rw [hz]
    unfold rowP
    rw [if_neg (by omega), d10, take_app (be_len _ _), n1, if_neg (by omega), if_neg (by unfold flagOf; split <;> simp), if_neg (by omega), d11, d19, d2, take_app (be_len _ _), n3, take_app (be_len _ _), n4]
    rw [show z.take 2 = be 2 v.toNat by rw [e, take_app (be_len _ _)], n2]
    cases c <;> rfl
theorem rowsP_flat (f : Nat → List UInt8) (g : Nat → VRow) : ∀ (ls : List Nat), (∀ j ∈ ls, ∀ rest, rowP (f j ++ rest) = some (g j, rest)) → rowsP ls.length (ls.flatMap f) = some (ls.map g, [])
  | [], _ => rfl
  | j :: ls, h => by
    rw [List.flatMap_cons, List.length_cons, rowsP, h j (by simp)]
    simp only [Option.bind_some]
    rw [rowsP_flat f g ls (fun i hi => h i (by simp [hi]))]
    rfl
theorem rangeL_getD {α : Type} (l : List α) (d : α) (n : Nat) (h : l.length = n) : (List.range n).map (fun j => l.getD j d) = l := by
  subst h
  apply List.ext_getElem
  · simp
  · intro i h1 h2
    simp [h2]
theorem range_getD2 {α β : Type} (l : List α) (d : α) (f : α → β) (n : Nat) (h : l.length = n) : (List.range n).map (fun j => f (l.getD j d)) = l.map f := by
  have e := congrArg (List.map f) (rangeL_getD l d n h)
  rw [List.map_map] at e
  exact e
/-- a part whose mail is as it is read -/
def nmS (p : SPart) : SPart := { p with inb := p.inb.map nm }
theorem nm_nm (m : Ml) : nm (nm m) = nm m := by unfold nm; split <;> simp_all
theorem rightL_nm : ∀ (last : Int) (own vals : List Int) (inb : List Ml), rightL last own vals (inb.map nm) = rightL last own vals inb := by
  intro last own
  induction own generalizing last with
  | nil => intro vals inb; rw [rightL_nil, rightL_nil]
  | cons v own ih =>
    intro vals inb
    cases vals with
    | nil => unfold rightL; rfl
    | cons x vals =>
      cases inb with
      | nil => rfl
      | cons m inb =>
        obtain ⟨h, y⟩ := m
        rw [List.map_cons, rightL, rightL, ih]
        cases h <;> rfl
theorem rightB_nm (p : SPart) : rightB (nmS p) = rightB p := by
  unfold rightB nmS
  simp only [rightL_nm, List.length_map]
theorem sameS_nm (p : SPart) : sameS (nmS p) p = true := by
  unfold sameS nmS
  simp only [eqL_self, decide_true, Bool.and_self, Bool.true_and, List.map_map]
  rw [eqL_true]
  exact List.map_congr_left fun m _ => nm_nm m
theorem getF_put {p : SPart} (h : rightB p = true) (hl : p.own.length ≤ 60) : getF (putB p) = some (nmS p) := by
  obtain ⟨h0, h1, hv, hc, hi, hr⟩ := right_parts h
  have hel := fun {i : Nat} {v x : Int} {m : Ml} => right_elem (i := i) (v := v) (x := x) (m := m) hr (by omega)
  obtain ⟨z, hz⟩ : ∃ z, putB p = z := ⟨_, rfl⟩
  have e : z = be 4 p.step.toNat ++ (be 2 p.own.length ++ rowsB p p.own.length) := by rw [← hz]; simp [putB, headB]
  have l : 6 ≤ z.length := by rw [e]; simp only [List.length_append, be_len]; omega
  have d4 : z.drop 4 = be 2 p.own.length ++ rowsB p p.own.length := by rw [e, drop_app (be_len _ _)]
  have d6 : z.drop 6 = rowsB p p.own.length := by rw [show 6 = 4 + 2 from rfl, ← List.drop_drop, d4, drop_app (be_len _ _)]
  have n1 : rz.num (be 2 p.own.length) = p.own.length := by rw [rnum_be]; exact Nat.mod_eq_of_lt (by omega)
  have n2 : ((rz.num (be 4 p.step.toNat) : Nat) : Int) = p.step := by rw [rnum_be, Nat.mod_eq_of_lt (by omega)]; omega
  have hrows := rowsP_flat (fun j => vB (p.own.getD j 0) (p.vals.getD j 0) (p.chg.getD j false) (p.inb.getD j (false, 0))) (fun j => (p.own.getD j 0, p.vals.getD j 0, p.chg.getD j false, nm (p.inb.getD j (false, 0)))) (List.range p.own.length) (fun j hj rest => by
    have hj' : j < p.own.length := by simpa using hj
    have g1 : p.own[j]? = some (p.own.getD j 0) := by simp [hj']
    have g2 : p.vals[j]? = some (p.vals.getD j 0) := by simp [hv, hj']
    have g4 : p.inb[j]? = some (p.inb.getD j (false, 0)) := by simp [hi, hj']
    obtain ⟨a1, a2, a3, a4, a5⟩ := hel g1 g2 g4
    exact rowP_vB a1 a2 a3 a4 a5 rest)
  rw [List.length_range] at hrows
  rw [show (List.range p.own.length).flatMap (fun j => vB (p.own.getD j 0) (p.vals.getD j 0) (p.chg.getD j false) (p.inb.getD j (false, 0))) = z.drop 6 from d6.symm] at hrows
  rw [hz]
  unfold getF
  rw [if_neg (by omega), d4, take_app (be_len _ _), n1, hrows]
  have hpart : partOf ((rz.num (z.take 4) : Nat) : Int) ((List.range p.own.length).map (fun j => (p.own.getD j 0, p.vals.getD j 0, p.chg.getD j false, nm (p.inb.getD j (false, 0))))) = nmS p := by
    have n3 : ((rz.num (z.take 4) : Nat) : Int) = p.step := by rw [e, take_app (be_len _ _), n2]
    rw [n3]
    unfold partOf nmS
    simp only [List.map_map, Function.comp_def]
    rw [rangeL_getD p.own 0 _ rfl, rangeL_getD p.vals 0 _ hv, rangeL_getD p.chg false _ hc, range_getD2 p.inb (false, 0) nm _ hi]
  simp only [hpart]
  rw [rightB_nm, h, if_pos rfl]

/-! ### what is got is put -/
def rb (r : VRow) : List UInt8 := vB r.1 r.2.1 r.2.2.1 r.2.2.2
def okR (r : VRow) : Prop := 0 ≤ r.2.1 ∧ (r.2.2.2.1 = true → 0 ≤ r.2.2.2.2)
theorem be_s64 {l : List UInt8} (hl : l.length = 8) (h : 0 ≤ s64 (rz.num l)) : be 8 (s64 (rz.num l)).toNat = l := by
  have hlt := rz.num_lt l
  rw [hl] at hlt
  have e : (s64 (rz.num l)).toNat = rz.num l := by
    unfold s64 at h ⊢
    unfold wrap64 at h ⊢
    omega
  rw [e, rbe_num 8 l hl]
theorem split3 {l : List UInt8} (h : 11 ≤ l.length) : l = l.take 2 ++ ((l.drop 2).take 8 ++ ((l.drop 10).take 1 ++ l.drop 11)) := by
  have h1 : l.drop 10 = (l.drop 10).take 1 ++ l.drop 11 := by
    have := (List.take_append_drop 1 (l.drop 10)).symm
    rwa [List.drop_drop] at this
  have h2 : l.drop 2 = (l.drop 2).take 8 ++ l.drop 10 := by
    have := (List.take_append_drop 8 (l.drop 2)).symm
    rwa [List.drop_drop] at this
  rw [← h1, ← h2]
  exact (List.take_append_drop 2 l).symm
theorem flag_byte {l : List UInt8} (hl : l.length = 1) {c h : Bool} (e : flagOf c h = rz.num l) : be 1 (flagOf c h) = l := by rw [e]; exact rbe_num 1 l hl
theorem rowP_rb {l l' : List UInt8} {r : VRow} (h : rowP l = some (r, l')) (ok : okR r) : l = rb r ++ l' := by
  unfold rowP at h
  split at h
  · cases h
  · rename_i h1
    have l1 : ((l.drop 10).take 1).length = 1 := by simp; omega
    have l2 : (l.take 2).length = 2 := by simp; omega
    have l8 : ((l.drop 2).take 8).length = 8 := by simp; omega
    have hsp := split3 (l := l) (by omega)
    split at h
    · cases h
    · rename_i h2
      split at h
      · rename_i h3
        injection h with h
        injection h with h h'
        subst h h'
        unfold rb vB
        have f1 : be 1 (flagOf (decide (rz.num ((l.drop 10).take 1) % 2 = 1)) false) = (l.drop 10).take 1 := flag_byte l1 (by
          generalize rz.num ((l.drop 10).take 1) = z at *
          unfold flagOf
          by_cases hz : z % 2 = 1
          · simp [hz]; omega
          · simp [hz]; omega)
        have f2 := be_s64 l8 ok.1
        dsimp only at f1 f2 ⊢
        rw [f1, f2, Int.toNat_natCast, rbe_num 2 _ l2]
        simpa using hsp
      · rename_i h3
        split at h
        · cases h
        · rename_i h4
          injection h with h
          injection h with h h'
          subst h h'
          unfold rb vB
          have f1 : be 1 (flagOf (decide (rz.num ((l.drop 10).take 1) % 2 = 1)) true) = (l.drop 10).take 1 := flag_byte l1 (by
            generalize rz.num ((l.drop 10).take 1) = z at *
            unfold flagOf
            by_cases hz : z % 2 = 1
            · simp [hz]; omega
            · simp [hz]; omega)
          have f2 := be_s64 l8 ok.1
          have f3 := be_s64 (l := (l.drop 11).take 8) (by simp; omega) (ok.2 rfl)
          have h11 : l.drop 11 = (l.drop 11).take 8 ++ l.drop 19 := by
            have := (List.take_append_drop 8 (l.drop 11)).symm
            rwa [List.drop_drop] at this
          dsimp only at f1 f2 f3 ⊢
          rw [f1, f2, Int.toNat_natCast, rbe_num 2 _ l2, if_pos rfl, f3]
          rw [h11] at hsp
          simpa using hsp
theorem rowsP_rb : ∀ {n : Nat} {l l' : List UInt8} {rs : List VRow}, rowsP n l = some (rs, l') → (∀ r ∈ rs, okR r) → l = rs.flatMap rb ++ l' ∧ rs.length = n
  | 0, l, l', rs, h, ok => by
    unfold rowsP at h
    injection h with h
    injection h with h h'
    subst h h'
    exact ⟨rfl, rfl⟩
  | n + 1, l, l', rs, h, ok => by
    unfold rowsP at h
    rcases h1 : rowP l with _ | ⟨r, l1⟩
    · rw [h1] at h; cases h
    · rw [h1] at h
      simp only [Option.bind_some] at h
      rcases h2 : rowsP n l1 with _ | ⟨z, l2⟩
      · rw [h2] at h; cases h
      · rw [h2] at h
        simp only [Option.map_some, Option.some.injEq, Prod.mk.injEq] at h
        obtain ⟨rfl, rfl⟩ := h
        obtain ⟨a1, a2⟩ := rowsP_rb h2 (fun r hr => ok r (by simp [hr]))
        refine ⟨?_, by simp [a2]⟩
        rw [rowP_rb h1 (ok r (by simp)), a1]
        simp
theorem rows_okR {st : Int} {rs : List VRow} (h : rightB (partOf st rs) = true) : ∀ r ∈ rs, okR r := by
  intro r hr
  obtain ⟨_, _, _, _, _, hl⟩ := right_parts h
  obtain ⟨i, hi, rfl⟩ := List.getElem_of_mem hr
  have := right_elem (i := i) (v := (rs[i]).1) (x := (rs[i]).2.1) (m := (rs[i]).2.2.2) hl (by omega) (by simp [partOf, hi]) (by simp [partOf, hi]) (by simp [partOf, hi])
  exact ⟨this.2.2.1, fun hm => (this.2.2.2.2 hm).1⟩
theorem rowsB_rb (st : Int) (rs : List VRow) : rowsB (partOf st rs) rs.length = rs.flatMap rb := by
  conv => rhs; rw [← rangeL_getD rs (0, 0, false, (false, 0)) _ rfl]
  unfold rowsB
  rw [List.flatMap_map]
  rw [List.flatMap_def, List.flatMap_def]
  congr 1
  apply List.map_congr_left
  intro j hj
  have hj' : j < rs.length := by simpa using hj
  simp [partOf, rb, hj']
theorem putB_get {b : List UInt8} {p : SPart} (h : getF b = some p) : putB p = b ∧ rightB p = true ∧ p.own.length ≤ 65535 := by
  unfold getF at h
  split at h
  · cases h
  · rename_i h6
    split at h
    · rename_i rs h2
      split at h
      · rename_i hr
        injection h with h
        subst h
        obtain ⟨a1, a2⟩ := rowsP_rb h2 (rows_okR hr)
        have l4 : (b.take 4).length = 4 := by simp; omega
        have l2 : ((b.drop 4).take 2).length = 2 := by simp; omega
        have hlt := rz.num_lt ((b.drop 4).take 2)
        rw [l2] at hlt
        have hown : (partOf ((rz.num (b.take 4) : Nat) : Int) rs).own.length = rs.length := by simp [partOf]
        refine ⟨?_, hr, by rw [hown]; omega⟩
        unfold putB headB
        rw [hown, rowsB_rb, a2, rbe_num 2 _ l2]
        have hst : (partOf ((rz.num (b.take 4) : Nat) : Int) rs).step.toNat = rz.num (b.take 4) := by simp [partOf]
        rw [hst, rbe_num 4 _ l4]
        rw [List.append_nil] at a1
        rw [← a1]
        have h46 : b.drop 4 = (b.drop 4).take 2 ++ b.drop 6 := by
          have := (List.take_append_drop 2 (b.drop 4)).symm
          rwa [List.drop_drop] at this
        rw [List.append_assoc, ← h46]
        exact List.take_append_drop 4 b
      · cases h
    · cases h
theorem rowsB_min (p : SPart) (i : Nat) : 11 * i ≤ (rowsB p i).length := by
  induction i with
  | zero => simp
  | succ i ih =>
    unfold rowsB at ih ⊢
    rw [List.range_succ, List.flatMap_append, List.length_append]
    simp only [List.flatMap_cons, List.flatMap_nil, List.append_nil]
    have : 11 ≤ (vB (p.own.getD i 0) (p.vals.getD i 0) (p.chg.getD i false) (p.inb.getD i (false, 0))).length := by
      unfold vB
      simp only [List.length_append, be_len]
      omega
    omega
theorem get_own {b : List UInt8} {p : SPart} (h : getF b = some p) : 6 + 11 * p.own.length ≤ b.length := by
  have h1 := (putB_get h).1
  have h2 := rowsB_min p p.own.length
  rw [← h1]
  unfold putB
  rw [List.length_append, headB_len]
  omega
theorem put_long (p : SPart) : 6 ≤ (putB p).length := by
  unfold putB
  rw [List.length_append, headB_len]
  omega
theorem rd_first {w : World} {A : Option Addr} {bs : List UInt8} (h : Rd w w.heap.size A (u8s bs)) (k : Nat) : Rd w w.heap.size A (u8s (bs.take k)) := by
  have e : u8s (bs.take k) = (u8s bs).take k := by simp [u8s]
  rw [e]
  exact h.take k
end Go.Proofs.Ytgfdlllmcbgbcaa
