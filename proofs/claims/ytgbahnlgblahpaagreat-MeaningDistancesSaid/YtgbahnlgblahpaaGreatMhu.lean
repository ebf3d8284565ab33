/- A heap's up and down. (printed by gen/mhu.py) -/
import Derived.Test.YtgbahnlgblahpaaGreatMhm
import Derived.Deep.DeepCutAuto
import Derived.Deep.CutBlock
namespace Go.Proofs.YtgbahnlgblahpaaGreat
open Go.RowKit
set_option linter.unusedVariables false
set_option linter.unusedSimpArgs false
theorem wrap_ok (xt : TypeId) (a : Addr) (s n : String) (w : World) : (Builtin.ssaWrapNilChk_ #[xt] xt #[.pointer (some a), strVal s, strVal n]).run Tryz.prog w = .ok (.pointer (some a)) w := rfl
set_option maxRecDepth 100000 in
theorem meth_val {w : World} {P f : Nat} {v : Value} {name : String} (N : Nat) (hi : (Tryz.prog.info? 68).map (fun i => (i.methods.find? (·.name == name)).map (fun m => (m.path.isEmpty, m.func))) = some (some (true, some (f, false)))) (hp : w.cell? ⟨P, 0, none⟩ = some v) :
    (method (N + 1) 68 (.pointer (some ⟨P, 0, none⟩)) name).run Tryz.prog w = .ok (f, v) w := by
  obtain ⟨i, hi, hm⟩ : ∃ i, Tryz.prog.info? 68 = some i ∧ (i.methods.find? (·.name == name)).map (fun m => (m.path.isEmpty, m.func)) = some (true, some (f, false)) := by
    cases h : Tryz.prog.info? 68 with
    | none => rw [h] at hi; simp at hi
    | some i => rw [h] at hi; exact ⟨i, rfl, by simpa using hi⟩
  obtain ⟨m, hm, hmp⟩ := Option.map_eq_some_iff.1 hm
  injection hmp with h1 h2
  have h1' : m.path = #[] := by simpa using h1
  unfold method
  simp [go_sem, typeInfo, hi, hm, h1', h2, follow, receiverAt, Place.get, wrap_ok, asAddr, hp]
set_option maxRecDepth 100000 in
theorem meth_ptr {w : World} {p : Option Addr} {f : Nat} {name : String} (N : Nat) (hi : (Tryz.prog.info? 68).map (fun i => (i.methods.find? (·.name == name)).map (fun m => (m.path.isEmpty, m.func))) = some (some (true, some (f, true)))) : (method (N + 1) 68 (.pointer p) name).run Tryz.prog w = .ok (f, .pointer p) w := by
  obtain ⟨i, hi, hm⟩ : ∃ i, Tryz.prog.info? 68 = some i ∧ (i.methods.find? (·.name == name)).map (fun m => (m.path.isEmpty, m.func)) = some (true, some (f, true)) := by
    cases h : Tryz.prog.info? 68 with
    | none => rw [h] at hi; simp at hi
    | some i => rw [h] at hi; exact ⟨i, rfl, by simpa using hi⟩
  obtain ⟨m, hm, hmp⟩ := Option.map_eq_some_iff.1 hm
  injection hmp with h1 h2
  have h1' : m.path = #[] := by simpa using h1
  unfold method
  simp [go_sem, typeInfo, hi, hm, h1', h2, follow, receiverAt, Place.get]
theorem HpM.pc {w : World} {P g n c : Nat} {d : List Sp} (h : HpM P g n c d w) : w.cell? ⟨P, 0, none⟩ = some (.slice (some ⟨g, 0, none⟩) n c) := cell_of_row _ _ 0 _ _ _ h.ptr
theorem HpM.mLess {w : World} {P g n c : Nat} {d : List Sp} (h : HpM P g n c d w) : (method 316 68 (.pointer (some ⟨P, 0, none⟩)) "Less").run Tryz.prog w = .ok (135, .slice (some ⟨g, 0, none⟩) n c) w := meth_val 315 (by kernel_rfl) h.pc
theorem HpM.mSwap {w : World} {P g n c : Nat} {d : List Sp} (h : HpM P g n c d w) : (method 316 68 (.pointer (some ⟨P, 0, none⟩)) "Swap").run Tryz.prog w = .ok (138, .slice (some ⟨g, 0, none⟩) n c) w := meth_val 315 (by kernel_rfl) h.pc
theorem HpM.mLen {w : World} {P g n c : Nat} {d : List Sp} (h : HpM P g n c d w) : (method 316 68 (.pointer (some ⟨P, 0, none⟩)) "Len").run Tryz.prog w = .ok (35, .slice (some ⟨g, 0, none⟩) n c) w := meth_val 315 (by kernel_rfl) h.pc
theorem mPush (w : World) (P : Nat) : (method 316 68 (.pointer (some ⟨P, 0, none⟩)) "Push").run Tryz.prog w = .ok (137, .pointer (some ⟨P, 0, none⟩)) w := meth_ptr 315 (by kernel_rfl)
theorem mPop (w : World) (P : Nat) : (method 316 68 (.pointer (some ⟨P, 0, none⟩)) "Pop").run Tryz.prog w = .ok (136, .pointer (some ⟨P, 0, none⟩)) w := meth_ptr 315 (by kernel_rfl)
theorem get_app {a r : List Sp} {i : Nat} {x : Sp} (h : a[i]? = some x) : (a ++ r)[i]? = some x := by rw [List.getElem?_append_left (List.getElem?_eq_some_iff.1 h).1]; exact h
theorem set_app {a r : List Sp} {i : Nat} {x : Sp} (h : i < a.length) : (a ++ r).set i x = a.set i x ++ r := List.set_append_left _ _ h
def UpPost (P g n c : Nat) (d : List Sp) (w : World) (e : Ending) (w' : World) : Prop := e = .returned (.tuple #[]) ∧ ∃ d', HpM P g n c d' w' ∧ d'.Perm d ∧ HeapO d' ∧ KH P g w w'
set_option maxRecDepth 100000 in
set_option maxHeartbeats 4000000 in
theorem up_any (w : World) (P g n c : Nat) (d : List Sp) (j : Nat) (hM : HpM P g n c d w) (hj : j < n) (hn : n ≤ 1000000) (hU : UpInv d j) :
    Calls Tryz.prog 58 #[.iface 68 (.pointer (some ⟨P, 0, none⟩)), .int .i64 (j : Int)] w (UpPost P g n c d w) := by
  have HM0 := hide hM
  have HU0 := hide hU
  clear hM hU
  go_enter Tryz.func58, Tryz.ntmps58
  go_wp2_with fail
  go_loopw [1] (fun v1 wr => ∃ (j : Nat) (d1 : List Sp), j < n ∧ v1 = .int .i64 (j : Int) ∧ Hid (HpM P g n c d1 wr) ∧ Hid (UpInv d1 j) ∧ Hid (d1.Perm d) ∧ Hid (KH P g w wr)) (fun v1 _ => (intOf v1).toNat)
  case atStart => exact ⟨j, d, hj, rfl, HM0, HU0, hide (List.Perm.refl _), hide (KH.refl _ _ _)⟩
  case round =>
    clear HM0 HU0 hj
    obtain ⟨j, d1, hj, rfl, HM, HU, HPm, HK⟩ := hrel
    rcases j with _ | k
    · have HFin : Hid (UpPost P g n c d w (.returned (.tuple #[])) wr) := hide ⟨rfl, d1, HM.out, HPm.out, HU.out.stop (.inl rfl), HK.out⟩
      clear HM HU HPm HK
      go_wp2
      go_end0
      exact HFin.out
    · have e1 : IntKind.i64.wrap (((k + 1 : Nat) : Int) - 1) = (k : Int) := by rw [show ((k + 1 : Nat) : Int) - 1 = (k : Int) by omega]; exact IntWalk.i64_in _ (by omega)
      obtain ⟨i, hi⟩ : ∃ i, k / 2 = i := ⟨_, rfl⟩
      obtain ⟨J, hJ⟩ : ∃ J, k + 1 = J := ⟨_, rfl⟩
      rw [hJ] at hj e1 HU ⊢
      have hi2 : (k : Int) / 2 = (i : Int) := by omega
      have hiJ : i = (J - 1) / 2 := by omega
      have hiJ2 : i < J := by omega
      have HIJ := hide hiJ
      have hne : ¬ (i : Int) = (J : Int) := by omega
      have hlen := HM.out.len
      obtain ⟨x, hx⟩ : ∃ x, d1[i]? = some x := ⟨_, List.getElem?_eq_getElem (by omega)⟩
      obtain ⟨y, hy⟩ : ∃ y, d1[J]? = some y := ⟨_, List.getElem?_eq_getElem (by omega)⟩
      have HX := hide hx
      have HY := hide hy
      have hml := HM.out.mLess
      clear hi hJ hiJ hlen hx hy
      go_wp2_with fail
      refine (hless_any wr P g n c d1 J i y x HM.out HY.out HX.out).mono ?_
      rintro e y1 ⟨rfl, rfl⟩
      clear hml
      by_cases hlt : y.2 < x.2
      · have HMd := hide HM.out.drew
        have hms := HMd.out.mSwap
        have HN := hide (HU.out.step (by omega) HIJ.out HX.out HY.out hlt)
        clear HU
        go_wp2_with fail
        refine (hswap_any wr.drew P g n c d1 i J x y HMd.out HX.out HY.out).mono ?_
        rintro e y2 ⟨rfl, hm2, hk2, hz2⟩
        have HM2 := hide hm2
        have HK2 := hide ((HK.out.drew).trans hk2)
        have HP2 := hide ((swap_perm HX.out HY.out).trans HPm.out)
        clear hm2 hk2 hz2 hms HM HMd HK HPm HX HY
        go_wp2
        go_roundw
        case rel => exact ⟨i, (d1.set i y).set J x, by omega, by go_num, HM2, HN, HP2, HK2⟩
        case measure => simp [intOf]; omega
      · have HFin : Hid (UpPost P g n c d w (.returned (.tuple #[])) wr.drew) := hide ⟨rfl, d1, HM.out.drew, HPm.out, HU.out.stop (.inr (by rw [← HIJ.out, key_get HX.out, key_get HY.out]; exact hlt)), HK.out.drew⟩
        rw [show decide (y.2 < x.2) = false from decide_eq_false hlt]
        clear HM HU HPm HK HX HY
        go_wp2
        go_end0
        exact HFin.out
def DownPost (P g n c : Nat) (a r : List Sp) (w : World) (e : Ending) (w' : World) : Prop := (∃ b, e = .returned (.bool b)) ∧ ∃ a', HpM P g n c (a' ++ r) w' ∧ a'.Perm a ∧ HeapO a' ∧ KH P g w w'
set_option maxRecDepth 100000 in
set_option maxHeartbeats 4000000 in
theorem down_any (w : World) (P g n c m : Nat) (a r : List Sp) (hM : HpM P g n c (a ++ r) w) (hm : a.length = m) (hn : n ≤ 1000000) (hU : DownInv a 0) :
    Calls Tryz.prog 54 #[.iface 68 (.pointer (some ⟨P, 0, none⟩)), .int .i64 0, .int .i64 (m : Int)] w (DownPost P g n c a r w) := by
  have hmn : m ≤ n := by have := hM.len; rw [List.length_append] at this; omega
  have HM0 := hide hM
  have HU0 := hide hU
  have Hm := hide hm
  clear hM hU hm
  go_enter Tryz.func54, Tryz.ntmps54
  go_wp2_with fail
  go_loopw [7] (fun v7 wr => ∃ (i : Nat) (a1 : List Sp), i ≤ m ∧ v7 = .int .i64 (i : Int) ∧ Hid (HpM P g n c (a1 ++ r) wr) ∧ Hid (DownInv a1 i) ∧ Hid (a1.Perm a) ∧ Hid (KH P g w wr)) (fun v7 _ => m - (intOf v7).toNat)
  case atStart => exact ⟨0, a, by omega, rfl, HM0, HU0, hide (List.Perm.refl _), hide (KH.refl _ _ _)⟩
  case round =>
    clear HM0 HU0
    obtain ⟨i, a1, hi, rfl, HM, HU, HPm, HK⟩ := hrel
    have HL1 : Hid (a1.length = m) := hide (by rw [HPm.out.length_eq]; exact Hm.out)
    obtain ⟨J, hJ⟩ : ∃ J, 2 * i + 1 = J := ⟨_, rfl⟩
    have e0 : 2 * (i : Int) + 1 = (J : Int) := by omega
    have e1 : IntKind.i64.wrap (2 * (i : Int)) = 2 * (i : Int) := IntWalk.i64_in _ (by omega)
    have e2 : IntKind.i64.wrap (2 * (i : Int) + 1) = (J : Int) := by rw [e0]; exact IntWalk.i64_in _ (by omega)
    have e3 : IntKind.i64.wrap (J : Int) = (J : Int) := IntWalk.i64_in _ (by omega)
    have HJ := hide hJ
    have hiJ : i < J := by omega
    clear hJ
    by_cases hJm : J < m
    · obtain ⟨x, hx⟩ : ∃ x, a1[i]? = some x := ⟨_, List.getElem?_eq_getElem (by rw [HL1.out]; omega)⟩
      obtain ⟨y, hy⟩ : ∃ y, a1[J]? = some y := ⟨_, List.getElem?_eq_getElem (by rw [HL1.out]; omega)⟩
      have HX := hide hx
      have HY := hide hy
      clear hx hy
      have hJ1 : ¬ (m : Int) ≤ (J : Int) := by omega
      have hJ0 : ¬ (J : Int) < 0 := by omega
      obtain ⟨K2, hK2⟩ : ∃ q, J + 1 = q := ⟨_, rfl⟩
      have e4 : IntKind.i64.wrap ((J : Int) + 1) = (K2 : Int) := by rw [show (J : Int) + 1 = (K2 : Int) by omega]; exact IntWalk.i64_in _ (by omega)
      have e5 : (J : Int) + 1 = (K2 : Int) := by omega
      have HK2e := hide hK2
      have hJK : J < K2 := by omega
      clear hK2
      by_cases hKm : K2 < m
      · obtain ⟨z, hz⟩ : ∃ z, a1[K2]? = some z := ⟨_, List.getElem?_eq_getElem (by rw [HL1.out]; omega)⟩
        have HZ := hide hz
        clear hz
        have hKm1 : (K2 : Int) < (m : Int) := by omega
        have hml := HM.out.mLess
        go_wp2_with fail
        refine (hless_any wr P g n c (a1 ++ r) K2 J z y HM.out (get_app HZ.out) (get_app HY.out)).mono ?_
        rintro e z0 ⟨rfl, rfl⟩
        clear hml
        have HMe := hide HM.out.drew
        have HKe := hide HK.out.drew
        clear HM HK
        by_cases hzy : z.2 < y.2
        · have HMin : Hid (∀ k, 0 < k → k < a1.length → (k - 1) / 2 = i → key a1 K2 ≤ key a1 k) := hide (fun k h1 h2 h3 => by
            have h4 : k = J ∨ k = K2 := by have := HJ.out; have := HK2e.out; omega
            have k1 := key_get HY.out
            have k2 := key_get HZ.out
            rcases h4 with rfl | rfl <;> omega)
          have hml2 := HMe.out.mLess
          have hij : i < K2 := by omega
          have HX9 := hide (get_app HX.out (r := r))
          have HY9 := hide (get_app HZ.out (r := r))
          go_wp2_with fail
          refine (hless_any wr.drew P g n c (a1 ++ r) K2 i z x HMe.out HY9.out HX9.out).mono ?_
          rintro e z1 ⟨rfl, rfl⟩
          clear hml2
          by_cases hlt : z.2 < x.2
          · have HMd := hide HMe.out.drew
            have hms := HMd.out.mSwap
            have HN := hide (HU.out.step (j := K2) (by omega) (by have := HJ.out; omega) HX.out HZ.out hlt HMin.out)
            clear HU
            go_wp2_with fail
            refine (hswap_any wr.drew.drew P g n c (a1 ++ r) i K2 x z HMd.out HX9.out HY9.out).mono ?_
            rintro e z2 ⟨rfl, hm2, hk2, hz2⟩
            have HM2 : Hid (HpM P g n c (((a1.set i z).set K2 x) ++ r) z2) := hide (by rw [set_app (by have := HL1.out; omega), set_app (by rw [List.length_set]; have := HL1.out; omega)] at hm2; exact hm2)
            have HK2 := hide ((HKe.out.drew).trans hk2)
            have HP2 := hide ((swap_perm HX.out HZ.out).trans HPm.out)
            clear hm2 hk2 hz2 hms HMd HPm HX HX9 HY9 HZ
            go_wp2
            go_roundw
            case rel => exact ⟨K2, (a1.set i z).set K2 x, by omega, by go_num, HM2, HN, HP2, HK2⟩
            case measure => simp [intOf]; omega
          have HFin : Hid (∀ b, DownPost P g n c a r w (.returned (.bool b)) wr.drew.drew) := hide (fun b => ⟨⟨b, rfl⟩, a1, HMe.out.drew, HPm.out, HU.out.stop (fun k h1 h2 h3 => Int.le_trans (by rw [key_get HX.out, key_get HZ.out]; omega) (HMin.out k h1 h2 h3)), HKe.out.drew⟩)
          rw [show decide (z.2 < x.2) = false from decide_eq_false hlt]
          clear HU HPm HX HX9 HY9 HZ
          go_wp2
          go_ret
          exact HFin.out _
        · rw [show decide (z.2 < y.2) = false from decide_eq_false hzy]
          have HMin : Hid (∀ k, 0 < k → k < a1.length → (k - 1) / 2 = i → key a1 J ≤ key a1 k) := hide (fun k h1 h2 h3 => by
            have h4 : k = J ∨ k = K2 := by have := HJ.out; have := HK2e.out; omega
            have k1 := key_get HY.out
            have k2 := key_get HZ.out
            rcases h4 with rfl | rfl <;> omega)
          have hml2 := HMe.out.mLess
          have hij : i < J := by omega
          have HX9 := hide (get_app HX.out (r := r))
          have HY9 := hide (get_app HY.out (r := r))
          go_wp2_with fail
          refine (hless_any wr.drew P g n c (a1 ++ r) J i y x HMe.out HY9.out HX9.out).mono ?_
          rintro e z1 ⟨rfl, rfl⟩
          clear hml2
          by_cases hlt : y.2 < x.2
          · have HMd := hide HMe.out.drew
            have hms := HMd.out.mSwap
            have HN := hide (HU.out.step (j := J) (by omega) (by have := HJ.out; omega) HX.out HY.out hlt HMin.out)
            clear HU
            go_wp2_with fail
            refine (hswap_any wr.drew.drew P g n c (a1 ++ r) i J x y HMd.out HX9.out HY9.out).mono ?_
            rintro e z2 ⟨rfl, hm2, hk2, hz2⟩
            have HM2 : Hid (HpM P g n c (((a1.set i y).set J x) ++ r) z2) := hide (by rw [set_app (by have := HL1.out; omega), set_app (by rw [List.length_set]; have := HL1.out; omega)] at hm2; exact hm2)
            have HK2 := hide ((HKe.out.drew).trans hk2)
            have HP2 := hide ((swap_perm HX.out HY.out).trans HPm.out)
            clear hm2 hk2 hz2 hms HMd HPm HX HX9 HY9 HY
            go_wp2
            go_roundw
            case rel => exact ⟨J, (a1.set i y).set J x, by omega, by go_num, HM2, HN, HP2, HK2⟩
            case measure => simp [intOf]; omega
          have HFin : Hid (∀ b, DownPost P g n c a r w (.returned (.bool b)) wr.drew.drew) := hide (fun b => ⟨⟨b, rfl⟩, a1, HMe.out.drew, HPm.out, HU.out.stop (fun k h1 h2 h3 => Int.le_trans (by rw [key_get HX.out, key_get HY.out]; omega) (HMin.out k h1 h2 h3)), HKe.out.drew⟩)
          rw [show decide (y.2 < x.2) = false from decide_eq_false hlt]
          clear HU HPm HX HX9 HY9 HY
          go_wp2
          go_ret
          exact HFin.out _
      · have hKm1 : ¬ (K2 : Int) < (m : Int) := by omega
        have HMin : Hid (∀ k, 0 < k → k < a1.length → (k - 1) / 2 = i → key a1 J ≤ key a1 k) := hide (fun k h1 h2 h3 => by
          have h4 : k = J := by have := HJ.out; have := HK2e.out; have := HL1.out; omega
          rw [h4]; exact Int.le_refl _)
        have hml2 := HM.out.mLess
        have hij : i < J := by omega
        have HX9 := hide (get_app HX.out (r := r))
        have HY9 := hide (get_app HY.out (r := r))
        go_wp2_with fail
        refine (hless_any wr P g n c (a1 ++ r) J i y x HM.out HY9.out HX9.out).mono ?_
        rintro e z1 ⟨rfl, rfl⟩
        clear hml2
        by_cases hlt : y.2 < x.2
        · have HMd := hide HM.out.drew
          have hms := HMd.out.mSwap
          have HN := hide (HU.out.step (j := J) (by omega) (by have := HJ.out; omega) HX.out HY.out hlt HMin.out)
          clear HU
          go_wp2_with fail
          refine (hswap_any wr.drew P g n c (a1 ++ r) i J x y HMd.out HX9.out HY9.out).mono ?_
          rintro e z2 ⟨rfl, hm2, hk2, hz2⟩
          have HM2 : Hid (HpM P g n c (((a1.set i y).set J x) ++ r) z2) := hide (by rw [set_app (by have := HL1.out; omega), set_app (by rw [List.length_set]; have := HL1.out; omega)] at hm2; exact hm2)
          have HK2 := hide ((HK.out.drew).trans hk2)
          have HP2 := hide ((swap_perm HX.out HY.out).trans HPm.out)
          clear hm2 hk2 hz2 hms HMd HPm HX HX9 HY9 HY
          go_wp2
          go_roundw
          case rel => exact ⟨J, (a1.set i y).set J x, by omega, by go_num, HM2, HN, HP2, HK2⟩
          case measure => simp [intOf]; omega
        have HFin : Hid (∀ b, DownPost P g n c a r w (.returned (.bool b)) wr.drew) := hide (fun b => ⟨⟨b, rfl⟩, a1, HM.out.drew, HPm.out, HU.out.stop (fun k h1 h2 h3 => Int.le_trans (by rw [key_get HX.out, key_get HY.out]; omega) (HMin.out k h1 h2 h3)), HK.out.drew⟩)
        rw [show decide (y.2 < x.2) = false from decide_eq_false hlt]
        clear HU HPm HX HX9 HY9 HY
        go_wp2
        go_ret
        exact HFin.out _
    · have HFin : Hid (∀ b, DownPost P g n c a r w (.returned (.bool b)) wr) := hide (fun b => ⟨⟨b, rfl⟩, a1, HM.out, HPm.out, HU.out.stop (fun k h1 h2 h3 => absurd (show J < m by have := HL1.out; have := HJ.out; omega) hJm), HK.out⟩)
      have hJ2 : (m : Int) ≤ (J : Int) := by omega
      clear HM HU HPm HK
      go_wp2
      go_ret
      exact HFin.out _
end Go.Proofs.YtgbahnlgblahpaaGreat
