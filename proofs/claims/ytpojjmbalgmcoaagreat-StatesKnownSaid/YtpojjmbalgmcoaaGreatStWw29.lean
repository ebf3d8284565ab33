/- Lemmas: Gfc, Pfx. -/
import Derived.Test.YtpojjmbalgmcoaaGreatProg
import Derived.Lib.Hide
import Derived.WalkSpells
import Derived.WalkMore
import Derived.Deep.RegionHeld3
import Derived.Test.YtpojjmbalgmcoaaGreatStWw1
set_option linter.unusedVariables false
set_option linter.unusedSimpArgs false
set_option maxRecDepth 100000
set_option maxHeartbeats 16000000
namespace Go.Proofs.YtpojjmbalgmcoaaGreat
open Go.RowKit
theorem ret_i64 {x y:Int} (h:x=y):Ending.returned (.int .i64 x) = .returned (.int .i64 y):=by rw[h]
theorem ret_bool {x y:Bool} (h:x=y):Ending.returned (.bool x) = .returned (.bool y):=by rw[h]
theorem nan_any (w:World) (a:Int):Calls Tryz.prog 101 #[.int .i64 a] w fun e w'=>e = .returned (.bool false)∧w'=w:=by
 go_enter Tryz.func101,Tryz.ntmps101
 go_wp2
 go_ret
 exact⟨rfl,rfl⟩
def cmpOf (a b:Int):Int:=if a<b then -1 else if b<a then 1 else 0
theorem compare_any (w:World) (a b:Int):Calls Tryz.prog 90 #[.int .i64 a,.int .i64 b] w fun e w'=>e = .returned (.int .i64 (cmpOf a b))∧w'=w:=by
 go_enter Tryz.func90,Tryz.ntmps90
 go_wp2_with fail
 refine (nan_any _ a).mono ?_
 rintro e w1 ⟨rfl,rfl⟩
 go_wp2_with fail
 refine (nan_any _ b).mono ?_
 rintro e w1 ⟨rfl,rfl⟩
 go_wp2
 all_goals
  go_ret
  exact⟨ret_i64 (by unfold cmpOf;(repeat' split) <;> omega),rfl⟩
def fitsB (f t x V:Int):Bool:=decide (0≤min f t) && decide (max f t<V) && decide (0≤x) && decide (x<2147483648)
theorem fits_any (w:World) (f t x V:Int):Calls Tryz.prog 69 #[.agg #[.int .i64 f,.int .i64 t,.int .i64 x],.int .i64 V] w fun e w'=>e = .returned (.bool (fitsB f t x V))∧Below w.heap.size w w':=by
 have hb:Below w.heap.size w (w.alloc (.cells #[.int .i64 f,.int .i64 t,.int .i64 x] 57)):=(Below.refl _ _).alloc (Nat.le_refl _) _
 have HB:=hide hb
 clear hb
 go_enter Tryz.func69,Tryz.ntmps69
 go_wp2
 all_goals
  go_ret
  exact⟨ret_bool (by unfold fitsB;first | rfl | (rw[Bool.eq_iff_iff];simp only[Bool.and_eq_true,decide_eq_true_eq,Bool.false_eq_true,eq_self_iff_true,true_iff,false_iff];omega)),HB.out⟩
def dist (a:Int):Int:=if a<0 then 0 else if a > 4611686018427387904 then 4611686018427387904 else a
theorem dist_bounds (a:Int):0≤dist a∧dist a≤4611686018427387904:=by unfold dist;split <;> (try split) <;> omega
def dadd (a b:Int):Int:=if dist a+dist b > 4611686018427387904 then 4611686018427387904 else dist a+dist b
theorem dadd_min (a b:Int):min (dist a+dist b) 4611686018427387904=dadd a b:=by unfold dadd;split <;> omega
theorem distance_any (w:World) (a:Int) (h1:-9223372036854775808≤a) (h2:a≤9223372036854775807):Calls Tryz.prog 112 #[.int .i64 a] w fun e w'=>e = .returned (.int .i64 (dist a))∧w'=w:=by
 go_enter Tryz.func112,Tryz.ntmps112
 go_wp2
 all_goals
  go_ret
  exact⟨ret_i64 (by unfold dist;(try split at *) <;> (repeat' split) <;> omega),rfl⟩
theorem add_any (w:World) (a b:Int) (h1:-9223372036854775808≤a) (h2:a≤9223372036854775807) (h3:-9223372036854775808≤b) (h4:b≤9223372036854775807):Calls Tryz.prog 107 #[.int .i64 a,.int .i64 b] w fun e w'=>e = .returned (.int .i64 (dadd a b))∧w'=w:=by
 have ba:=dist_bounds a
 have bb:=dist_bounds b
 go_enter Tryz.func107,Tryz.ntmps107
 go_wp2_with fail
 refine (distance_any _ a h1 h2).mono ?_
 rintro e w1 ⟨rfl,rfl⟩
 go_wp2_with fail
 refine (distance_any _ b h3 h4).mono ?_
 rintro e w1 ⟨rfl,rfl⟩
 have hm:=dadd_min a b
 obtain⟨x,hx⟩:∃x,dist a=x:=⟨_,rfl⟩
 obtain⟨y,hy⟩:∃y,dist b=y:=⟨_,rfl⟩
 rw[hx] at ba hm ⊢
 rw[hy] at bb hm ⊢
 have HM:=hide hm
 clear hm hx hy
 go_wp2
 all_goals
  go_ret
  exact⟨ret_i64 (by rw[←HM.out];omega),rfl⟩
theorem give_any (w:World) (v f t x:Int) (h1:-9223372036854775808≤v) (h2:v≤9223372036854775807) (h3:-9223372036854775808≤x) (h4:x≤9223372036854775807):Calls Tryz.prog 181 #[.int .i64 v,.agg #[.int .i64 f,.int .i64 t,.int .i64 x]] w fun e w'=>e = .returned (.int .i64 (dadd v x))∧Below w.heap.size w w':=by
 have hb:Below w.heap.size w (w.alloc (.cells #[.int .i64 f,.int .i64 t,.int .i64 x] 57)):=(Below.refl _ _).alloc (Nat.le_refl _) _
 go_enter Tryz.func181,Tryz.ntmps181
 go_wp2_with fail
 refine (add_any _ v x h1 h2 h3 h4).mono ?_
 rintro e w1 ⟨rfl,rfl⟩
 go_wp2
 go_ret
 exact⟨rfl,hb⟩
def startOf (v s:Int):Int:=if v=s then 0 else 4611686018427387904
theorem start_any (w:World) (v s:Int):Calls Tryz.prog 182 #[.int .i64 v,.int .i64 s] w fun e w'=>e = .returned (.int .i64 (startOf v s))∧w'=w:=by
 by_cases h:v=s
 ·subst h
  go_enter Tryz.func182,Tryz.ntmps182
  go_wp2
  go_ret
  exact⟨by rw[startOf,if_pos rfl];rfl,rfl⟩
 go_enter Tryz.func182,Tryz.ntmps182
 go_wp2
 go_ret
 exact⟨by rw[startOf,if_neg h];rfl,rfl⟩
def takeOf (v:Int) (has:Bool) (x:Int):Int×Bool:=if has=true∧max x 0<v then (max x 0,true) else (v,false)
theorem ret_pair {x y:Int} {a b:Bool} (h:x=y) (g:a=b):Ending.returned (.tuple #[.int .i64 x,.bool a]) = .returned (.tuple #[.int .i64 y,.bool b]):=by rw[h,g]
theorem take_any (w:World) (v:Int) (has:Bool) (x:Int):Calls Tryz.prog 183 #[.int .i64 v,.agg #[.bool has,.int .i64 x]] w fun e w'=>e = .returned (.tuple #[.int .i64 (takeOf v has x).1,.bool (takeOf v has x).2])∧Below w.heap.size w w':=by
 have hb:Below w.heap.size w (w.alloc (.cells #[.bool has,.int .i64 x] 51)):=(Below.refl _ _).alloc (Nat.le_refl _) _
 have HB:=hide hb
 clear hb
 cases has
 ·have ht:takeOf v false x=(v,false):=by simp[takeOf]
  rw[ht]
  go_enter Tryz.func183,Tryz.ntmps183
  go_wp2
  all_goals
   refine bodyPost_ret (results_tmp2 rfl _ _ _) rfl ?_
   exact⟨ret_pair (by omega) rfl,HB.out⟩
 by_cases h:max x 0<v
 ·have ht:takeOf v true x=(max x 0,true):=by simp[takeOf,h]
  rw[ht]
  go_enter Tryz.func183,Tryz.ntmps183
  go_wp2
  all_goals
   refine bodyPost_ret (results_tmp2 rfl _ _ _) rfl ?_
   first | exact⟨ret_pair (by omega) rfl,HB.out⟩ | (exfalso;omega)
 have ht:takeOf v true x=(v,false):=by simp[takeOf,h]
 rw[ht]
 go_enter Tryz.func183,Tryz.ntmps183
 go_wp2
 all_goals
  refine bodyPost_ret (results_tmp2 rfl _ _ _) rfl ?_
  first | exact⟨ret_pair (by omega) rfl,HB.out⟩ | (exfalso;omega)
end Go.Proofs.YtpojjmbalgmcoaaGreat
