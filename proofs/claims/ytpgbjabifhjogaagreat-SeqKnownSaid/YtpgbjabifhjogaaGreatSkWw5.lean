/- Lemmas: Alj, Bxm, Bxp, Ast, Atd. -/
import Derived.Handy
import Derived.Deep.DeepCutAuto
import Derived.Deep.CutBlock
import Derived.Lib.Hide
import Derived.Maps.Own
import Derived.Maps.OwnSet
import Derived.Maps.OwnOps
import Derived.Maps.Views
import Derived.Maps.Keyed
import Derived.Test.YtpgbjabifhjogaaGreatSkWw3
import Derived.Test.YtpgbjabifhjogaaGreatSkWw4
set_option linter.unusedVariables false
set_option linter.unusedSimpArgs false
set_option maxRecDepth 100000
set_option maxHeartbeats 16000000
namespace Go.Proofs.YtpgbjabifhjogaaGreat
open Go.RowKit
theorem missing_one {want:Array (String×TypeId)} {got:Array Method} {x:String} (h:(want.toList.filter fun (name,sig)=>!got.any fun m=>m.name == name && m.sig == sig).map (·.1)=[x]):∃m,Instr.missingMethod want got=some m:=by
 unfold Instr.missingMethod
 rw[h]
 cases hc:x.contains '.' <;> simp[List.partition,List.partition.loop,hc,Instr.least]
theorem sharer_ranks (w:World):(Instr.typeAssert (.iface 113 (.agg #[])) 71 119 true).run Tryz.prog w = .ok (.tuple #[.iface 113 (.agg #[]),.bool true]) w:=by kernel_rfl
theorem sharer_nil (w:World):(Instr.typeAssert .nilIface 71 119 true).run Tryz.prog w = .ok (.tuple #[.nilIface,.bool false]) w:=by kernel_rfl
theorem sharer_labels (w:World):(Instr.typeAssert (.iface 116 (.agg #[])) 71 119 true).run Tryz.prog w = .ok (.tuple #[.nilIface,.bool false]) w:=by
 obtain⟨inf,hi⟩:∃inf,Tryz.prog.info? 116=some inf:=Option.isSome_iff_exists.1 (by kernel_rfl)
 have hm:inf.methods=((Tryz.prog.info? 116).map (·.methods)).getD #[]:=by rw[hi];rfl
 obtain⟨z,hz,hzz⟩:∃z,Tryz.prog.info? 119=some z∧z.zero=some .nilIface:=by
  have h:(Tryz.prog.info? 119).map (·.zero)=some (some .nilIface):=by kernel_rfl
  obtain⟨z,hz,h2⟩:=Option.map_eq_some_iff.1 h
  exact⟨z,hz,h2⟩
 obtain⟨m,hmm⟩:=missing_one (want:=(match Tryz.prog.underlying 119 with | some (.interface x)=>x | _=>#[])) (got:=inf.methods) (x:= "treadwheel/algos.share") (by rw[hm];kernel_rfl)
 rw[Tryz.underlying119] at hmm
 dsimp only at hmm
 unfold Instr.typeAssert
 simp[go_sem,underlying,typeInfo,zeroValue,Tryz.underlying119,hi,hz,hzz,hmm]
theorem sharer_ways (w:World):(Instr.typeAssert (.iface 117 (.agg #[])) 71 119 true).run Tryz.prog w = .ok (.tuple #[.nilIface,.bool false]) w:=by
 obtain⟨inf,hi⟩:∃inf,Tryz.prog.info? 117=some inf:=Option.isSome_iff_exists.1 (by kernel_rfl)
 have hm:inf.methods=((Tryz.prog.info? 117).map (·.methods)).getD #[]:=by rw[hi];rfl
 obtain⟨z,hz,hzz⟩:∃z,Tryz.prog.info? 119=some z∧z.zero=some .nilIface:=by
  have h:(Tryz.prog.info? 119).map (·.zero)=some (some .nilIface):=by kernel_rfl
  obtain⟨z,hz,h2⟩:=Option.map_eq_some_iff.1 h
  exact⟨z,hz,h2⟩
 obtain⟨m,hmm⟩:=missing_one (want:=(match Tryz.prog.underlying 119 with | some (.interface x)=>x | _=>#[])) (got:=inf.methods) (x:= "treadwheel/algos.share") (by rw[hm];kernel_rfl)
 rw[Tryz.underlying119] at hmm
 dsimp only at hmm
 unfold Instr.typeAssert
 simp[go_sem,underlying,typeInfo,zeroValue,Tryz.underlying119,hi,hz,hzz,hmm]
def progV (k:Int):Value:=if k=1 then .iface 113 (.agg #[]) else if k=2 then .iface 116 (.agg #[]) else if k=3 then .iface 117 (.agg #[]) else .nilIface
theorem of_any (w:World) (k:Int) (j1 j2 j3 j4:Int):Calls Tryz.prog 51 #[.agg #[.int .u8 k,.int .i64 j1,.int .i64 j2,.int .i64 j3,.int .i64 j4]] w fun e w'=>e = .returned (progV k)∧Below w.heap.size w w':=by
 go_enter Tryz.func51,Tryz.ntmps51
 go_wp2_with fail
 all_goals
  go_ret
  refine⟨?_,(Below.refl _ _).alloc (Nat.le_refl _) _⟩
  unfold progV
  simp_all
theorem of1 (w:World) (j1 j2 j3 j4:Int):Calls Tryz.prog 51 #[.agg #[.int .u8 1,.int .i64 j1,.int .i64 j2,.int .i64 j3,.int .i64 j4]] w fun e w'=>e = .returned (.iface 113 (.agg #[]))∧Below w.heap.size w w':=of_any w 1 j1 j2 j3 j4
theorem of2 (w:World) (j1 j2 j3 j4:Int):Calls Tryz.prog 51 #[.agg #[.int .u8 2,.int .i64 j1,.int .i64 j2,.int .i64 j3,.int .i64 j4]] w fun e w'=>e = .returned (.iface 116 (.agg #[]))∧Below w.heap.size w w':=of_any w 2 j1 j2 j3 j4
theorem of3 (w:World) (j1 j2 j3 j4:Int):Calls Tryz.prog 51 #[.agg #[.int .u8 3,.int .i64 j1,.int .i64 j2,.int .i64 j3,.int .i64 j4]] w fun e w'=>e = .returned (.iface 117 (.agg #[]))∧Below w.heap.size w w':=of_any w 3 j1 j2 j3 j4
theorem of0 (w:World) (k:Int) (h1:¬k=1) (h2:¬k=2) (h3:¬k=3) (j1 j2 j3 j4:Int):Calls Tryz.prog 51 #[.agg #[.int .u8 k,.int .i64 j1,.int .i64 j2,.int .i64 j3,.int .i64 j4]] w fun e w'=>e = .returned .nilIface∧Below w.heap.size w w':=by
 have h:=of_any w k j1 j2 j3 j4
 unfold progV at h
 rw[if_neg h1,if_neg h2,if_neg h3] at h
 exact h
def combF (k a b:Int):Int:=if k=1 then dadd a b else if k=2∨k=3 then min a b else 0
theorem rkcomb_any (w:World) (a b:Int) (h1:-9223372036854775808≤a) (h2:a≤9223372036854775807) (h3:-9223372036854775808≤b) (h4:b≤9223372036854775807):Calls Tryz.prog 135 #[.agg #[],.int .i64 a,.int .i64 b] w fun e w'=>e = .returned (.int .i64 (dadd a b))∧Below w.heap.size w w':=by
 go_enter Tryz.func135,Tryz.ntmps135
 go_wp2_with fail
 refine (add_any _ a b h1 h2 h3 h4).mono ?_
 rintro e w1 ⟨rfl,rfl⟩
 go_wp2
 go_ret
 exact⟨rfl,(Below.refl _ _).alloc (Nat.le_refl _) _⟩
theorem lscomb_any (w:World) (a b:Int):Calls Tryz.prog 147 #[.agg #[],.int .i64 a,.int .i64 b] w fun e w'=>e = .returned (.int .i64 (min a b))∧Below w.heap.size w w':=by
 go_enter Tryz.func147,Tryz.ntmps147
 go_wp2
 all_goals
  go_ret
  exact⟨ret_i64 (by omega),(Below.refl _ _).alloc (Nat.le_refl _) _⟩
theorem below_box {w w':World} {o:Obj} (h:Below (w.alloc o).heap.size (w.alloc o) w'):Below w.heap.size w w':=((Below.refl _ _).alloc (Nat.le_refl _) _).trans (h.mono (by simp))
theorem below_box2 {w w1 w2:World} {o:Obj} (h:Below (w.alloc o).heap.size (w.alloc o) w1) (h2:Below w1.heap.size w1 w2):Below w.heap.size w w2:=below_box (h.trans (h2.mono h.size))
theorem comb_any (w:World) (k:Int) (j1 j2 j3 j4:Int) (a b:Int) (h1:-9223372036854775808≤a) (h2:a≤9223372036854775807) (h3:-9223372036854775808≤b) (h4:b≤9223372036854775807):Calls Tryz.prog 114 #[.agg #[.int .u8 k,.int .i64 j1,.int .i64 j2,.int .i64 j3,.int .i64 j4],.int .i64 a,.int .i64 b] w fun e w'=>e = .returned (.int .i64 (combF k a b))∧Below w.heap.size w w':=by
 by_cases k1:k=1
 ·subst k1
  go_enter Tryz.func114,Tryz.ntmps114
  go_wp2_with fail
  refine (of1 _ j1 j2 j3 j4).mono ?_
  rintro e w1 ⟨rfl,hb⟩
  have HB:=hide hb
  clear hb
  go_wp2_with fail
  refine (rkcomb_any _ a b h1 h2 h3 h4).mono ?_
  rintro e w2 ⟨rfl,hb2⟩
  have HB2:=hide hb2
  clear hb2
  go_wp2
  go_ret
  exact⟨rfl,below_box2 HB.out HB2.out⟩
 by_cases k2:k=2
 ·subst k2
  go_enter Tryz.func114,Tryz.ntmps114
  go_wp2_with fail
  refine (of2 _ j1 j2 j3 j4).mono ?_
  rintro e w1 ⟨rfl,hb⟩
  have HB:=hide hb
  clear hb
  go_wp2_with fail
  refine (lscomb_any _ a b).mono ?_
  rintro e w2 ⟨rfl,hb2⟩
  have HB2:=hide hb2
  clear hb2
  go_wp2
  go_ret
  exact⟨rfl,below_box2 HB.out HB2.out⟩
 by_cases k3:k=3
 ·subst k3
  go_enter Tryz.func114,Tryz.ntmps114
  go_wp2_with fail
  refine (of3 _ j1 j2 j3 j4).mono ?_
  rintro e w1 ⟨rfl,hb⟩
  have HB:=hide hb
  clear hb
  go_wp2_with fail
  refine (lscomb_any _ a b).mono ?_
  rintro e w2 ⟨rfl,hb2⟩
  have HB2:=hide hb2
  clear hb2
  go_wp2
  go_ret
  exact⟨rfl,below_box2 HB.out HB2.out⟩
 ·
  go_enter Tryz.func114,Tryz.ntmps114
  go_wp2_with fail
  refine (of0 _ k k1 k2 k3 j1 j2 j3 j4).mono ?_
  rintro e w1 ⟨rfl,hb⟩
  have HB:=hide hb
  clear hb
  go_wp2
  go_ret
  exact⟨by rw[combF,if_neg k1,if_neg (by omega)];rfl,below_box HB.out⟩
theorem rcomb_any (w:World) (k:Int) (j1 j2 j3 j4:Int) (a b:Int):Calls Tryz.prog 103 #[.agg #[.int .u8 k,.int .i64 j1,.int .i64 j2,.int .i64 j3,.int .i64 j4],.int .i64 a,.int .i64 b] w fun e w'=>e = .returned (.int .i64 (combF k a b))∧Below w.heap.size w w':=by
 have hbox:=(Below.refl w.heap.size w).alloc (Nat.le_refl _) (.cells #[.int .u8 k,.int .i64 j1,.int .i64 j2,.int .i64 j3,.int .i64 j4] 26)
 have HBX:=hide hbox
 clear hbox
 by_cases k1:k=1
 ·subst k1
  go_enter Tryz.func103,Tryz.ntmps103
  go_wp2_with fail
  refine (radd_any _ a b).mono ?_
  rintro e w1 ⟨rfl,rfl⟩
  go_wp2
  go_ret
  exact⟨rfl,HBX.out⟩
 by_cases k2:k=2
 ·subst k2
  go_enter Tryz.func103,Tryz.ntmps103
  go_wp2
  all_goals
   go_ret
   exact⟨ret_i64 (by rw[show combF 2 a b=min a b by simp[combF]];omega),HBX.out⟩
 by_cases k3:k=3
 ·subst k3
  go_enter Tryz.func103,Tryz.ntmps103
  go_wp2
  all_goals
   go_ret
   exact⟨ret_i64 (by rw[show combF 3 a b=min a b by simp[combF]];omega),HBX.out⟩
 ·
  go_enter Tryz.func103,Tryz.ntmps103
  go_wp2
  all_goals
   go_ret
   exact⟨by rw[combF,if_neg k1,if_neg (by omega)];rfl,HBX.out⟩
theorem below_dr {B:Nat} {a w:World} (h:Below B a.drew w):Below B a w:=⟨h.os,h.tape,h.output,h.size,h.block⟩
theorem shares_any (w:World) (k:Int) (j1 j2 j3 j4:Int):Calls Tryz.prog 54 #[.agg #[.int .u8 k,.int .i64 j1,.int .i64 j2,.int .i64 j3,.int .i64 j4]] w fun e w'=>e = .returned (.tuple #[.bool (decide (k=1)),.bool (decide (k=1) || decide (k=2) || decide (k=3))])∧Below w.heap.size w w':=by
 by_cases k1:k=1
 ·have ta:=sharer_ranks
  subst k1
  go_enter Tryz.func54,Tryz.ntmps54
  go_wp2_with fail
  refine (of1 _ j1 j2 j3 j4).mono ?_
  rintro e ws ⟨rfl,hb⟩
  have HB:=hide hb
  clear hb
  go_upto_region 3 with fail
  refine wp_region_held_drew (S:=Kept ws) (by kernel_rfl) (Kept.drew ws) (fun hS0=>?_)
  refine tka 0 12 ?_
  refine tka 1 13 ?_
  refine tka 2 14 ?_
  refine tka 3 2 ?_
  refine tka 4 3 ?_
  refine wpAnyH_done (by kernel_rfl) ?_ _
  go_wp2
  exact bodyPost_ret (by simp[results,Tryz.results54,go_sem];try rfl) rfl ⟨rfl,below_box2 HB.out (below_dr (Below.refl _ _))⟩
 by_cases k2:k=2
 ·have ta:=sharer_labels
  subst k2
  go_enter Tryz.func54,Tryz.ntmps54
  go_wp2_with fail
  refine (of2 _ j1 j2 j3 j4).mono ?_
  rintro e ws ⟨rfl,hb⟩
  have HB:=hide hb
  clear hb
  go_upto_region 3 with fail
  refine wp_region_held_drew (S:=Kept ws) (by kernel_rfl) (Kept.drew ws) (fun hS0=>?_)
  refine tka 0 12 ?_
  refine tka 1 13 ?_
  refine tka 2 14 ?_
  refine tka 3 2 ?_
  refine tka 4 3 ?_
  refine wpAnyH_done (by kernel_rfl) ?_ _
  go_wp2
  exact bodyPost_ret (by simp[results,Tryz.results54,go_sem];try rfl) rfl ⟨rfl,below_box2 HB.out (below_dr (Below.refl _ _))⟩
 by_cases k3:k=3
 ·have ta:=sharer_ways
  subst k3
  go_enter Tryz.func54,Tryz.ntmps54
  go_wp2_with fail
  refine (of3 _ j1 j2 j3 j4).mono ?_
  rintro e ws ⟨rfl,hb⟩
  have HB:=hide hb
  clear hb
  go_upto_region 3 with fail
  refine wp_region_held_drew (S:=Kept ws) (by kernel_rfl) (Kept.drew ws) (fun hS0=>?_)
  refine tka 0 12 ?_
  refine tka 1 13 ?_
  refine tka 2 14 ?_
  refine tka 3 2 ?_
  refine tka 4 3 ?_
  refine wpAnyH_done (by kernel_rfl) ?_ _
  go_wp2
  exact bodyPost_ret (by simp[results,Tryz.results54,go_sem];try rfl) rfl ⟨rfl,below_box2 HB.out (below_dr (Below.refl _ _))⟩
 have ta:=sharer_nil
 go_enter Tryz.func54,Tryz.ntmps54
 go_wp2_with fail
 refine (of0 _ k k1 k2 k3 j1 j2 j3 j4).mono ?_
 rintro e ws ⟨rfl,hb⟩
 have HB:=hide hb
 clear hb
 go_upto_region 3 with fail
 refine wp_region_held_drew (S:=Kept ws) (by kernel_rfl) (Kept.drew ws) (fun hS0=>?_)
 refine tka 0 12 ?_
 refine tka 1 13 ?_
 refine tka 2 14 ?_
 refine tka 3 2 ?_
 refine tka 4 3 ?_
 refine wpAnyH_done (by kernel_rfl) ?_ _
 go_wp2
 exact bodyPost_ret (by simp[results,Tryz.results54,go_sem];try rfl) rfl ⟨by simp[k1,k2,k3],below_box2 HB.out (below_dr (Below.refl _ _))⟩
theorem heap_alloc_keep {w:World} {o c:Obj} {b:Nat} (h:w.heap[b]?=some c):(w.alloc o).heap[b]?=some c:=(((Below.refl w.heap.size w).alloc (Nat.le_refl _) o).block b (Array.getElem?_eq_some_iff.1 h).1).trans h
def joinF (k:Int) (s m q r:Int):Int×Int:=if k=1 then (dadd s q,max m r) else if k=2∨k=3 then (dadd s q,dadd m r) else (0,0)
theorem join_any (w:World) (k:Int) (j1 j2 j3 j4:Int) (s m q r:Int) (hs:-9223372036854775808≤s∧s≤9223372036854775807) (hm:-9223372036854775808≤m∧m≤9223372036854775807) (hq:-9223372036854775808≤q∧q≤9223372036854775807) (hr:-9223372036854775808≤r∧r≤9223372036854775807):Calls Tryz.prog 96 #[.agg #[.int .u8 k,.int .i64 j1,.int .i64 j2,.int .i64 j3,.int .i64 j4],.agg #[.int .i64 s,.int .i64 m],.agg #[.int .i64 q,.int .i64 r]] w fun e w'=>e = .returned (.agg #[.int .i64 (joinF k s m q r).1,.int .i64 (joinF k s m q r).2])∧Below w.heap.size w w':=by
 obtain⟨u,hu⟩:∃u,(((w.alloc (.cells #[.int .u8 k,.int .i64 j1,.int .i64 j2,.int .i64 j3,.int .i64 j4] 26)).alloc (.cells #[.int .i64 s,.int .i64 m] 136)).alloc (.cells #[.int .i64 q,.int .i64 r] 136)).alloc (.cells #[.int .i64 0,.int .i64 0] 136)=u:=⟨_,rfl⟩
 have hzu:w.heap.size+1+1+1<u.heap.size:=by rw[←hu];simp
 have hbu:=hide (show Below w.heap.size w u by rw[←hu];exact (((Below.refl _ _).alloc (Nat.le_refl _) _).alloc (by simp) _).alloc (by simp;omega) _ |>.alloc (by simp;omega) _)
 have M0:=hide (show u.heap[w.heap.size]?=some (Obj.cells #[.int .u8 k,.int .i64 j1,.int .i64 j2,.int .i64 j3,.int .i64 j4] 26) by rw[←hu];exact heap_alloc_keep (heap_alloc_keep (heap_alloc_keep ((by have h:=heap_alloc_last w (.cells #[.int .u8 k,.int .i64 j1,.int .i64 j2,.int .i64 j3,.int .i64 j4] 26);simpa using h)))))
 have M1:=hide (show u.heap[w.heap.size+1]?=some (Obj.cells #[.int .i64 s,.int .i64 m] 136) by rw[←hu];exact heap_alloc_keep (heap_alloc_keep ((by have h:=heap_alloc_last (w.alloc (.cells #[.int .u8 k,.int .i64 j1,.int .i64 j2,.int .i64 j3,.int .i64 j4] 26)) (.cells #[.int .i64 s,.int .i64 m] 136);simpa using h))))
 have M2:=hide (show u.heap[w.heap.size+1+1]?=some (Obj.cells #[.int .i64 q,.int .i64 r] 136) by rw[←hu];exact heap_alloc_keep ((by have h:=heap_alloc_last ((w.alloc (.cells #[.int .u8 k,.int .i64 j1,.int .i64 j2,.int .i64 j3,.int .i64 j4] 26)).alloc (.cells #[.int .i64 s,.int .i64 m] 136)) (.cells #[.int .i64 q,.int .i64 r] 136);simpa using h)))
 have M3:=hide (show u.heap[w.heap.size+1+1+1]?=some (Obj.cells #[.int .i64 0,.int .i64 0] 136) by rw[←hu];exact (by have h:=heap_alloc_last (((w.alloc (.cells #[.int .u8 k,.int .i64 j1,.int .i64 j2,.int .i64 j3,.int .i64 j4] 26)).alloc (.cells #[.int .i64 s,.int .i64 m] 136)).alloc (.cells #[.int .i64 q,.int .i64 r] 136)) (.cells #[.int .i64 0,.int .i64 0] 136);simpa using h))
 obtain⟨c0,c1,c2,c3,c4⟩:=zr5 M0.out
 clear M0
 have d0:u.cell? ⟨w.heap.size+1,0,none⟩=some (.int .i64 s):=cell_of_row _ _ 0 _ _ _ M1.out
 have d1:u.cell? ⟨w.heap.size+1+1,0,none⟩=some (.int .i64 q):=cell_of_row _ _ 0 _ _ _ M2.out
 by_cases k1:k=1
 ·subst k1
  by_cases hlt:m<r
  ·have HU:=hide hu
   clear hu
   go_enter Tryz.func96,Tryz.ntmps96
   go_wp2_with fail
   rw[HU.out]
   refine (add_any _ s q hs.1 hs.2 hq.1 hq.2).mono ?_
   rintro e w1 ⟨rfl,rfl⟩
   go_wp2_with fail
   refine (shares_any _ 1 j1 j2 j3 j4).mono ?_
   rintro e w1 ⟨rfl,hb⟩
   have HB:=hide hb
   have hzw:=hb.size
   clear c0 c1 c2 c3 c4 d0 d1
   have N1:=(hb.block _ (by omega)).trans M1.out
   have N2:=(hb.block _ (by omega)).trans M2.out
   have N3:=(hb.block _ (by omega)).trans M3.out
   clear hb
   have x2:w1.cell? ⟨w.heap.size+1,1,none⟩=some (.int .i64 m):=cell_of_row _ _ 1 _ _ _ N1
   have x4:w1.cell? ⟨w.heap.size+1+1,1,none⟩=some (.int .i64 r):=cell_of_row _ _ 1 _ _ _ N2
   have z0:w1.cell? ⟨w.heap.size+1+1+1,0,none⟩=some (.int .i64 0):=cell_of_row _ _ 0 _ _ _ N3
   have zf0:=zf N3 0
   have z1:w1.cell? ⟨w.heap.size+1+1+1,1,none⟩=some (.int .i64 0):=cell_of_row _ _ 1 _ _ _ N3
   have zf1:=zf N3 1
   clear N1 N2
   obtain⟨f,hf⟩:∃z,(w1.setCell ⟨w.heap.size+1+1+1,0,none⟩ (.int .i64 (dadd s q))).setCell ⟨w.heap.size+1+1+1,1,none⟩ (.int .i64 (r))=z:=⟨_,rfl⟩
   have hfB:Below w.heap.size w f:=by rw[←hf];exact ((hbu.out.trans (HB.out.mono (by omega))).setCell (p:=⟨w.heap.size+1+1+1,0,none⟩) (by show w.heap.size≤w.heap.size+1+1+1;omega) _).setCell (p:=⟨w.heap.size+1+1+1,1,none⟩) (by show w.heap.size≤w.heap.size+1+1+1;omega) _
   have hf2:=heap_setCell_same _ (w.heap.size+1+1+1) 1 _ _ (.int .i64 (r)) (heap_setCell_same w1 (w.heap.size+1+1+1) 0 _ _ (.int .i64 (dadd s q)) N3)
   rw[hf] at hf2
   obtain⟨y0,y1⟩:=zr2 hf2
   have HFin:=hide (And.intro hf (And.intro hfB (And.intro y0 y1)))
   clear hf hfB hf2 y0 y1 N3
   go_wp2
   obtain⟨hf,hfB,y0,y1⟩:=HFin.out
   rw[hf]
   exact bodyPost_ret (v:=.agg #[.int .i64 (dadd s q),.int .i64 (r)]) (by simp[results,Tryz.results96,go_sem,y0,y1]) rfl ⟨by rw[show joinF 1 s m q r=(dadd s q,r) by simp[joinF];omega],hfB⟩
  have HU:=hide hu
  clear hu
  go_enter Tryz.func96,Tryz.ntmps96
  go_wp2_with fail
  rw[HU.out]
  refine (add_any _ s q hs.1 hs.2 hq.1 hq.2).mono ?_
  rintro e w1 ⟨rfl,rfl⟩
  go_wp2_with fail
  refine (shares_any _ 1 j1 j2 j3 j4).mono ?_
  rintro e w1 ⟨rfl,hb⟩
  have HB:=hide hb
  have hzw:=hb.size
  clear c0 c1 c2 c3 c4 d0 d1
  have N1:=(hb.block _ (by omega)).trans M1.out
  have N2:=(hb.block _ (by omega)).trans M2.out
  have N3:=(hb.block _ (by omega)).trans M3.out
  clear hb
  have x2:w1.cell? ⟨w.heap.size+1,1,none⟩=some (.int .i64 m):=cell_of_row _ _ 1 _ _ _ N1
  have x4:w1.cell? ⟨w.heap.size+1+1,1,none⟩=some (.int .i64 r):=cell_of_row _ _ 1 _ _ _ N2
  have z0:w1.cell? ⟨w.heap.size+1+1+1,0,none⟩=some (.int .i64 0):=cell_of_row _ _ 0 _ _ _ N3
  have zf0:=zf N3 0
  have z1:w1.cell? ⟨w.heap.size+1+1+1,1,none⟩=some (.int .i64 0):=cell_of_row _ _ 1 _ _ _ N3
  have zf1:=zf N3 1
  clear N1 N2
  obtain⟨f,hf⟩:∃z,(w1.setCell ⟨w.heap.size+1+1+1,0,none⟩ (.int .i64 (dadd s q))).setCell ⟨w.heap.size+1+1+1,1,none⟩ (.int .i64 (m))=z:=⟨_,rfl⟩
  have hfB:Below w.heap.size w f:=by rw[←hf];exact ((hbu.out.trans (HB.out.mono (by omega))).setCell (p:=⟨w.heap.size+1+1+1,0,none⟩) (by show w.heap.size≤w.heap.size+1+1+1;omega) _).setCell (p:=⟨w.heap.size+1+1+1,1,none⟩) (by show w.heap.size≤w.heap.size+1+1+1;omega) _
  have hf2:=heap_setCell_same _ (w.heap.size+1+1+1) 1 _ _ (.int .i64 (m)) (heap_setCell_same w1 (w.heap.size+1+1+1) 0 _ _ (.int .i64 (dadd s q)) N3)
  rw[hf] at hf2
  obtain⟨y0,y1⟩:=zr2 hf2
  have HFin:=hide (And.intro hf (And.intro hfB (And.intro y0 y1)))
  clear hf hfB hf2 y0 y1 N3
  go_wp2
  obtain⟨hf,hfB,y0,y1⟩:=HFin.out
  rw[hf]
  exact bodyPost_ret (v:=.agg #[.int .i64 (dadd s q),.int .i64 (m)]) (by simp[results,Tryz.results96,go_sem,y0,y1]) rfl ⟨by rw[show joinF 1 s m q r=(dadd s q,m) by simp[joinF];omega],hfB⟩
 by_cases k2:k=2
 ·subst k2
  have HU:=hide hu
  clear hu
  go_enter Tryz.func96,Tryz.ntmps96
  go_wp2_with fail
  rw[HU.out]
  refine (add_any _ s q hs.1 hs.2 hq.1 hq.2).mono ?_
  rintro e w1 ⟨rfl,rfl⟩
  go_wp2_with fail
  refine (shares_any _ 2 j1 j2 j3 j4).mono ?_
  rintro e w1 ⟨rfl,hb⟩
  have HB:=hide hb
  have hzw:=hb.size
  clear c0 c1 c2 c3 c4 d0 d1
  have N1:=(hb.block _ (by omega)).trans M1.out
  have N2:=(hb.block _ (by omega)).trans M2.out
  have N3:=(hb.block _ (by omega)).trans M3.out
  clear hb
  have x2:w1.cell? ⟨w.heap.size+1,1,none⟩=some (.int .i64 m):=cell_of_row _ _ 1 _ _ _ N1
  have x4:w1.cell? ⟨w.heap.size+1+1,1,none⟩=some (.int .i64 r):=cell_of_row _ _ 1 _ _ _ N2
  have z0:w1.cell? ⟨w.heap.size+1+1+1,0,none⟩=some (.int .i64 0):=cell_of_row _ _ 0 _ _ _ N3
  have zf0:=zf N3 0
  have z1:w1.cell? ⟨w.heap.size+1+1+1,1,none⟩=some (.int .i64 0):=cell_of_row _ _ 1 _ _ _ N3
  have zf1:=zf N3 1
  clear N1 N2
  obtain⟨f,hf⟩:∃z,(w1.setCell ⟨w.heap.size+1+1+1,0,none⟩ (.int .i64 (dadd s q))).setCell ⟨w.heap.size+1+1+1,1,none⟩ (.int .i64 (dadd m r))=z:=⟨_,rfl⟩
  have hfB:Below w.heap.size w f:=by rw[←hf];exact ((hbu.out.trans (HB.out.mono (by omega))).setCell (p:=⟨w.heap.size+1+1+1,0,none⟩) (by show w.heap.size≤w.heap.size+1+1+1;omega) _).setCell (p:=⟨w.heap.size+1+1+1,1,none⟩) (by show w.heap.size≤w.heap.size+1+1+1;omega) _
  have hf2:=heap_setCell_same _ (w.heap.size+1+1+1) 1 _ _ (.int .i64 (dadd m r)) (heap_setCell_same w1 (w.heap.size+1+1+1) 0 _ _ (.int .i64 (dadd s q)) N3)
  rw[hf] at hf2
  obtain⟨y0,y1⟩:=zr2 hf2
  have HFin:=hide (And.intro hf (And.intro hfB (And.intro y0 y1)))
  clear hf hfB hf2 y0 y1 N3
  go_wp2_with fail
  refine (add_any _ m r hm.1 hm.2 hr.1 hr.2).mono ?_
  rintro e w2 ⟨rfl,rfl⟩
  go_wp2
  obtain⟨hf,hfB,y0,y1⟩:=HFin.out
  rw[hf]
  exact bodyPost_ret (v:=.agg #[.int .i64 (dadd s q),.int .i64 (dadd m r)]) (by simp[results,Tryz.results96,go_sem,y0,y1]) rfl ⟨by simp[joinF],hfB⟩
 by_cases k3:k=3
 ·subst k3
  have HU:=hide hu
  clear hu
  go_enter Tryz.func96,Tryz.ntmps96
  go_wp2_with fail
  rw[HU.out]
  refine (add_any _ s q hs.1 hs.2 hq.1 hq.2).mono ?_
  rintro e w1 ⟨rfl,rfl⟩
  go_wp2_with fail
  refine (shares_any _ 3 j1 j2 j3 j4).mono ?_
  rintro e w1 ⟨rfl,hb⟩
  have HB:=hide hb
  have hzw:=hb.size
  clear c0 c1 c2 c3 c4 d0 d1
  have N1:=(hb.block _ (by omega)).trans M1.out
  have N2:=(hb.block _ (by omega)).trans M2.out
  have N3:=(hb.block _ (by omega)).trans M3.out
  clear hb
  have x2:w1.cell? ⟨w.heap.size+1,1,none⟩=some (.int .i64 m):=cell_of_row _ _ 1 _ _ _ N1
  have x4:w1.cell? ⟨w.heap.size+1+1,1,none⟩=some (.int .i64 r):=cell_of_row _ _ 1 _ _ _ N2
  have z0:w1.cell? ⟨w.heap.size+1+1+1,0,none⟩=some (.int .i64 0):=cell_of_row _ _ 0 _ _ _ N3
  have zf0:=zf N3 0
  have z1:w1.cell? ⟨w.heap.size+1+1+1,1,none⟩=some (.int .i64 0):=cell_of_row _ _ 1 _ _ _ N3
  have zf1:=zf N3 1
  clear N1 N2
  obtain⟨f,hf⟩:∃z,(w1.setCell ⟨w.heap.size+1+1+1,0,none⟩ (.int .i64 (dadd s q))).setCell ⟨w.heap.size+1+1+1,1,none⟩ (.int .i64 (dadd m r))=z:=⟨_,rfl⟩
  have hfB:Below w.heap.size w f:=by rw[←hf];exact ((hbu.out.trans (HB.out.mono (by omega))).setCell (p:=⟨w.heap.size+1+1+1,0,none⟩) (by show w.heap.size≤w.heap.size+1+1+1;omega) _).setCell (p:=⟨w.heap.size+1+1+1,1,none⟩) (by show w.heap.size≤w.heap.size+1+1+1;omega) _
  have hf2:=heap_setCell_same _ (w.heap.size+1+1+1) 1 _ _ (.int .i64 (dadd m r)) (heap_setCell_same w1 (w.heap.size+1+1+1) 0 _ _ (.int .i64 (dadd s q)) N3)
  rw[hf] at hf2
  obtain⟨y0,y1⟩:=zr2 hf2
  have HFin:=hide (And.intro hf (And.intro hfB (And.intro y0 y1)))
  clear hf hfB hf2 y0 y1 N3
  go_wp2_with fail
  refine (add_any _ m r hm.1 hm.2 hr.1 hr.2).mono ?_
  rintro e w2 ⟨rfl,rfl⟩
  go_wp2
  obtain⟨hf,hfB,y0,y1⟩:=HFin.out
  rw[hf]
  exact bodyPost_ret (v:=.agg #[.int .i64 (dadd s q),.int .i64 (dadd m r)]) (by simp[results,Tryz.results96,go_sem,y0,y1]) rfl ⟨by simp[joinF],hfB⟩
 obtain⟨hk1,hk2,hk3⟩:decide (k=1)=false∧decide (k=2)=false∧decide (k=3)=false:=by simp[k1,k2,k3]
 have HU:=hide hu
 clear hu
 go_enter Tryz.func96,Tryz.ntmps96
 go_wp2_with fail
 rw[HU.out]
 refine (add_any _ s q hs.1 hs.2 hq.1 hq.2).mono ?_
 rintro e w1 ⟨rfl,rfl⟩
 go_wp2_with fail
 refine (shares_any _ k j1 j2 j3 j4).mono ?_
 rintro e w1 ⟨rfl,hb⟩
 have HB:=hide hb
 have hzw:=hb.size
 clear c0 c1 c2 c3 c4 d0 d1
 have N1:=(hb.block _ (by omega)).trans M1.out
 have N2:=(hb.block _ (by omega)).trans M2.out
 have N3:=(hb.block _ (by omega)).trans M3.out
 clear hb
 rw[hk1,hk2,hk3]
 have x2:w1.cell? ⟨w.heap.size+1,1,none⟩=some (.int .i64 m):=cell_of_row _ _ 1 _ _ _ N1
 have x4:w1.cell? ⟨w.heap.size+1+1,1,none⟩=some (.int .i64 r):=cell_of_row _ _ 1 _ _ _ N2
 have z0:w1.cell? ⟨w.heap.size+1+1+1,0,none⟩=some (.int .i64 0):=cell_of_row _ _ 0 _ _ _ N3
 have zf0:=zf N3 0
 have z1:w1.cell? ⟨w.heap.size+1+1+1,1,none⟩=some (.int .i64 0):=cell_of_row _ _ 1 _ _ _ N3
 have zf1:=zf N3 1
 clear N1 N2
 obtain⟨f,hf⟩:∃z,(w1.setCell ⟨w.heap.size+1+1+1,0,none⟩ (.int .i64 (0))).setCell ⟨w.heap.size+1+1+1,1,none⟩ (.int .i64 (0))=z:=⟨_,rfl⟩
 have hfB:Below w.heap.size w f:=by rw[←hf];exact ((hbu.out.trans (HB.out.mono (by omega))).setCell (p:=⟨w.heap.size+1+1+1,0,none⟩) (by show w.heap.size≤w.heap.size+1+1+1;omega) _).setCell (p:=⟨w.heap.size+1+1+1,1,none⟩) (by show w.heap.size≤w.heap.size+1+1+1;omega) _
 have hf2:=heap_setCell_same _ (w.heap.size+1+1+1) 1 _ _ (.int .i64 (0)) (heap_setCell_same w1 (w.heap.size+1+1+1) 0 _ _ (.int .i64 (0)) N3)
 rw[hf] at hf2
 obtain⟨y0,y1⟩:=zr2 hf2
 have HFin:=hide (And.intro hf (And.intro hfB (And.intro y0 y1)))
 clear hf hfB hf2 y0 y1 N3
 go_wp2
 obtain⟨hf,hfB,y0,y1⟩:=HFin.out
 rw[hf]
 exact bodyPost_ret (v:=.agg #[.int .i64 (0),.int .i64 (0)]) (by simp[results,Tryz.results96,go_sem,y0,y1]) rfl ⟨by simp[joinF,k1,k2,k3],hfB⟩
def lk (x:Int):Lit:=.int .i64 x
theorem lk_key (x:Int):WideAt.IsKeyLit (lk x):=by trivial
theorem lk_ne {x y:Int} (h:x≠y):lk x≠lk y:=fun e=>by unfold lk at e;injection e with _ e;exact h e
def mailD (h:Bool) (x:Int):DataW Unit:=.agg [.lit (.bool h),.lit (.int .i64 x)]
def mailElem (v:Value):Option (DataW Unit×List MemPlace):=
 match v with
 | .agg cs=>match cs.toList with
  | [.bool h,.int .i64 x]=>some (mailD h x,[])
  | _=>none
 | _=>none
theorem mailElem_mk (h:Bool) (x:Int):mailElem (.agg #[.bool h,.int .i64 x])=some (mailD h x,[]):=rfl
theorem mailElem_inv {v:Value} {h:Bool} {x:Int} {ps:List MemPlace} (e:mailElem v=some (mailD h x,ps)):v = .agg #[.bool h,.int .i64 x]:=by
 unfold mailElem at e
 split at e
 ·rename_i cs
  split at e
  ·rename_i h' x' hc
   injection e with e
   injection e with e1 e2
   unfold mailD at e1
   injection e1 with e1
   injection e1 with e1 e3
   injection e1 with e1
   injection e1 with e1
   injection e3 with e3 e4
   injection e3 with e3
   injection e3 with _ e3
   subst e1 e3
   rw[show cs=cs.toList.toArray by simp,hc]
  cases e
 cases e
structure BoxIs (D:DataW Unit) (f:Int→Option Int):Prop where
 map:Maps.IsMap D
 has:∀k,Maps.has D (lk k)=(f k).isSome
 at_:∀k z,D.atKey (lk k) z=match f k with | some x=>mailD true x | none=>z
def bxPut (f:Int→Option Int) (k x:Int):Int→Option Int:=fun u=>if u=k then some x else f u
theorem BoxIs.empty:BoxIs (.map []) (fun _=>none):=⟨Maps.isMap_empty,fun _=>rfl,fun _ _=>rfl⟩
theorem BoxIs.put {D:DataW Unit} {f:Int→Option Int} (h:BoxIs D f) (k x:Int):BoxIs (D.put (lk k) (mailD true x)) (bxPut f k x):=by
 refine⟨h.map.put _ _,fun u=>?_,fun u z=>?_⟩
 ·unfold bxPut
  by_cases hu:u=k
  ·subst hu
   rw[if_pos rfl,Maps.has_put_same h.map (lk_key _)]
   rfl
  rw[if_neg hu,Maps.has_put_other (lk_ne hu)]
  exact h.has u
 unfold bxPut
 by_cases hu:u=k
 ·subst hu
  rw[if_pos rfl,Maps.atKey_put_same h.map (lk_key _)]
 rw[if_neg hu,Maps.atKey_put_other (lk_ne hu)]
 exact h.at_ u z
def addB (k:Int) (f:Int→Option Int) (m:Ms):Int→Option Int:=bxPut f m.1 (match f m.1 with | some x=>combF k x m.2 | none=>m.2)
def boxF (k:Int) (l:List Ms):Int→Option Int:=l.foldl (addB k) (fun _=>none)
theorem boxF_snoc (k:Int) (l:List Ms) (m:Ms):boxF k (l ++ [m])=addB k (boxF k l) m:=by
 unfold boxF
 rw[List.foldl_append]
 rfl
def mlOf (f:Option Int):Bool×Int:=match f with | some x=>(true,x) | none=>(false,0)
def addV (k v:Int) (m:Bool×Int) (x:Ms):Bool×Int:=if x.1=v then (if m.1 then (true,combF k m.2 x.2) else (true,x.2)) else m
theorem box_mail (k v:Int) (l:List Ms):mlOf (boxF k l v)=l.foldl (addV k v) (false,0):=by
 suffices h:∀(l:List Ms) (f:Int→Option Int) (m:Bool×Int),mlOf (f v)=m→mlOf (l.foldl (addB k) f v)=l.foldl (addV k v) m from h l _ _ rfl
 intro l
 induction l with
 | nil=>intro f m h;exact h
 | cons x l ih=>
  intro f m h
  refine ih _ _ ?_
  unfold addB bxPut addV
  by_cases hx:x.1=v
  ·rw[if_pos hx,if_pos hx.symm]
   subst hx
   cases hf:f x.1 with
   | some y=>
    rw[hf] at h
    unfold mlOf at h
    subst h
    rfl
   | none=>
    rw[hf] at h
    unfold mlOf at h
    subst h
    rfl
  rw[if_neg hx,if_neg (fun e=>hx e.symm)]
  exact h
theorem lk_wf {x:Int} (h1:-9223372036854775808≤x) (h2:x≤9223372036854775807):(Lit.int .i64 x).wf=true:=by
 have e1:IntKind.i64.min=-9223372036854775808:=by decide
 have e2:IntKind.i64.max=9223372036854775807:=by decide
 simp[Lit.wf,e1,e2,h1,h2]
theorem map_below {w w':World} {k:TypeId} {R:Value→Option (DataW Unit×List MemPlace)} {b n:Nat} {D:DataW Unit} {B:Nat} (hb:Below B w w') (h:w.ownsMap Tryz.prog k R b n D) (hB:b<B):w'.ownsMap Tryz.prog k R b n D:=by
 obtain⟨es,clock,h1,h2⟩:=h
 exact⟨es,clock,(hb.block b hB).trans h1,h2⟩
theorem grown_after {w y w':World} {b:Nat} (hb:Below w.heap.size w y) (hg:y.grownBy w' (some b)):w.grownBy w' (some b):=
 ⟨hg.os.trans hb.os,hg.tape.trans hb.tape,hg.output.trans hb.output,Nat.le_trans hb.size hg.size,fun k hk hne=>(hg.block k (Nat.lt_of_lt_of_le hk hb.size) hne).trans (hb.block k hk)⟩
def BPost (b n:Nat) (f:Int→Option Int) (w:World) (e:Ending) (w':World):Prop:=e = .returned (.tuple #[])∧∃D,BoxIs D f∧w'.ownsMap Tryz.prog 3 mailElem b (n+1) D∧w.grownBy w' (some b)
theorem bput_any (w:World) (b n:Nat) (D:DataW Unit) (f:Int→Option Int) (hD:BoxIs D f) (hM:w.ownsMap Tryz.prog 3 mailElem b n D) (hn:n<1000000) (k j1 j2 j3 j4 t y:Int) (ht:-9223372036854775808≤t∧t≤9223372036854775807) (hy:-9223372036854775808≤y∧y≤9223372036854775807) (hf:∀x,f t=some x→-9223372036854775808≤x∧x≤9223372036854775807) :
  Calls Tryz.prog 111 #[.map (some b),.agg #[.int .u8 k,.int .i64 j1,.int .i64 j2,.int .i64 j3,.int .i64 j4],.agg #[.int .i64 t,.int .i64 y]] w (BPost b n (addB k f (t,y)) w):=by
 have K:Maps.Keyed Tryz.prog 3:=Maps.int_keyed Tryz.underlying3
 obtain⟨u,hu⟩:∃u,(w.alloc (.cells #[.int .u8 k,.int .i64 j1,.int .i64 j2,.int .i64 j3,.int .i64 j4] 26)).alloc (.cells #[.int .i64 t,.int .i64 y] 125)=u:=⟨_,rfl⟩
 have hzu:u.heap.size=w.heap.size+2:=by rw[←hu];simp
 have HBu:=hide (show Below w.heap.size w u by rw[←hu];exact ((Below.refl _ _).alloc (Nat.le_refl _) _).alloc (by simp) _)
 have G0:=hide (show u.heap[w.heap.size]?=some (.cells #[.int .u8 k,.int .i64 j1,.int .i64 j2,.int .i64 j3,.int .i64 j4] 26) by rw[←hu];exact (Below.heap_alloc _ _ _ (by simp)).trans (heap_alloc_last w _))
 have G1:=hide (show u.heap[w.heap.size+1]?=some (.cells #[.int .i64 t,.int .i64 y] 125) by rw[←hu];have h:=heap_alloc_last (w.alloc (.cells #[.int .u8 k,.int .i64 j1,.int .i64 j2,.int .i64 j3,.int .i64 j4] 26)) (.cells #[.int .i64 t,.int .i64 y] 125);rw[World.size_alloc] at h;exact h)
 have hbw:b<w.heap.size:=hM.lt
 have HMu:=hide (map_below HBu.out hM hbw)
 have HU:=hide hu
 have HD:=hide hD
 have HKT:=hide (Maps.keyOf_int_mk Tryz.underlying3 (lk_wf ht.1 ht.2))
 have HL:=hide (And.intro (show w.heap.size<u.heap.size by omega) (show w.heap.size+1<u.heap.size by omega))
 have e0:u.cell? ⟨w.heap.size+1,0,none⟩=some (.int .i64 t):=cell_of_row _ _ 0 _ _ _ G1.out
 have hzw:w.heap.size+2≤u.heap.size:=by omega
 clear hu hM hD hzu
 rcases hft:f t with _ | x
 ·go_enter Tryz.func111,Tryz.ntmps111
  go_upto_region 1 with fail
  rw[HU.out]
  obtain⟨v,hv⟩:∃v,u.alloc (.cells #[.bool false,.int .i64 0] 76)=v:=⟨_,rfl⟩
  have M0:v.heap[u.heap.size]?=some (.cells #[.bool false,.int .i64 0] 76):=by rw[←hv];exact heap_alloc_last _ _
  have HBv:=hide (show Below u.heap.size u v by rw[←hv];exact (Below.refl _ _).alloc (Nat.le_refl _) _)
  have HV:=hide hv
  have hvz:u.heap.size<v.heap.size:=by rw[←hv];simp
  clear hv
  have hhas:Maps.has D (lk t)=false:=by rw[HD.out.has t,hft];rfl
  go_upto_region 2 with (at_lookup;refine wpList_lookup_own_ok _ rfl _ _ 152 rfl 3 76 K Tryz.underlying152 mailElem (by kernel_rfl) (mailD false 0) [] (mailElem_mk _ _) b n D rfl HMu.out _ (lk t) rfl HKT.out ?_;intro v9 ps9 hv9;rw[HD.out.at_ t,hft] at hv9;obtain rfl:=mailElem_inv hv9;clear hv9)
  rw[HV.out]
  have f0:v.cell? ⟨w.heap.size+1,0,none⟩=some (.int .i64 t):=(HBv.out.cell (p:=⟨w.heap.size+1,0,none⟩) HL.out.2).trans (cell_of_row _ _ 0 _ _ _ G1.out)
  have f1:v.cell? ⟨w.heap.size+1,1,none⟩=some (.int .i64 y):=(HBv.out.cell (p:=⟨w.heap.size+1,1,none⟩) HL.out.2).trans (cell_of_row _ _ 1 _ _ _ G1.out)
  have hlv:w.heap.size+1<v.heap.size:=by omega
  have HMv:=hide (map_below HBv.out HMu.out (by omega))
  have HBy:=hide (HBu.out.trans (HBv.out.mono HBu.out.size))
  clear e0 M0 HV
  go_wp2_with (at_mapUpdate;refine wpList_mapUpdate_own _ rfl _ _ _ 152 rfl 3 76 K Tryz.underlying152 mailElem b n D rfl HMv.out (by unfold maxLen;omega) _ _ (lk t) rfl rfl HKT.out (mailD true (y)) [] rfl ?_;intro w1 hown1 hg1)
  have HFin:Hid (BPost b n (addB k f (t,y)) w (.returned (.tuple #[])) w1):=hide ⟨rfl,_,by have h:=HD.out.put t (y);rw[show bxPut f t y=addB k f (t,y) by unfold addB;rw[hft]] at h;exact h,hown1,grown_after HBy.out hg1⟩
  clear hown1 hg1
  go_wp2
  go_end0
  exact HFin.out
 have hxb:=hf x hft
 go_enter Tryz.func111,Tryz.ntmps111
 go_upto_region 1 with fail
 rw[HU.out]
 obtain⟨v,hv⟩:∃v,u.alloc (.cells #[.bool true,.int .i64 x] 76)=v:=⟨_,rfl⟩
 have M0:v.heap[u.heap.size]?=some (.cells #[.bool true,.int .i64 x] 76):=by rw[←hv];exact heap_alloc_last _ _
 have HBv:=hide (show Below u.heap.size u v by rw[←hv];exact (Below.refl _ _).alloc (Nat.le_refl _) _)
 have HV:=hide hv
 have hvz:u.heap.size<v.heap.size:=by rw[←hv];simp
 clear hv
 have hhas:Maps.has D (lk t)=true:=by rw[HD.out.has t,hft];rfl
 go_upto_region 2 with (at_lookup;refine wpList_lookup_own_ok _ rfl _ _ 152 rfl 3 76 K Tryz.underlying152 mailElem (by kernel_rfl) (mailD false 0) [] (mailElem_mk _ _) b n D rfl HMu.out _ (lk t) rfl HKT.out ?_;intro v9 ps9 hv9;rw[HD.out.at_ t,hft] at hv9;obtain rfl:=mailElem_inv hv9;clear hv9)
 rw[HV.out]
 obtain⟨q,hq⟩:∃q,u.heap.size=q:=⟨_,rfl⟩
 rw[hq] at M0 hvz ⊢
 have HQ:=hide hq
 have g1:v.cell? ⟨q,1,none⟩=some (.int .i64 x):=cell_of_row _ _ 1 _ _ _ M0
 have c0:v.cell? ⟨w.heap.size,0,none⟩=some (.int .u8 k):=(HBv.out.cell (p:=⟨w.heap.size,0,none⟩) HL.out.1).trans (cell_of_row _ _ 0 _ _ _ G0.out)
 have c1:v.cell? ⟨w.heap.size,1,none⟩=some (.int .i64 j1):=(HBv.out.cell (p:=⟨w.heap.size,1,none⟩) HL.out.1).trans (cell_of_row _ _ 1 _ _ _ G0.out)
 have c2:v.cell? ⟨w.heap.size,2,none⟩=some (.int .i64 j2):=(HBv.out.cell (p:=⟨w.heap.size,2,none⟩) HL.out.1).trans (cell_of_row _ _ 2 _ _ _ G0.out)
 have c3:v.cell? ⟨w.heap.size,3,none⟩=some (.int .i64 j3):=(HBv.out.cell (p:=⟨w.heap.size,3,none⟩) HL.out.1).trans (cell_of_row _ _ 3 _ _ _ G0.out)
 have c4:v.cell? ⟨w.heap.size,4,none⟩=some (.int .i64 j4):=(HBv.out.cell (p:=⟨w.heap.size,4,none⟩) HL.out.1).trans (cell_of_row _ _ 4 _ _ _ G0.out)
 have f1:v.cell? ⟨w.heap.size+1,1,none⟩=some (.int .i64 y):=(HBv.out.cell (p:=⟨w.heap.size+1,1,none⟩) HL.out.2).trans (cell_of_row _ _ 1 _ _ _ G1.out)
 have HMv:=hide (map_below HBv.out HMu.out (by omega))
 have hlv:w.heap.size+1<v.heap.size:=by omega
 have hlv0:w.heap.size<v.heap.size:=by omega
 clear e0 M0 HV hq
 go_wp2_with fail
 refine (comb_any v k j1 j2 j3 j4 x y hxb.1 hxb.2 hy.1 hy.2).mono ?_
 rintro e z ⟨rfl,hz⟩
 have G1z:=(hz.block _ hlv).trans ((HBv.out.block _ HL.out.2).trans G1.out)
 have HMz:=hide (map_below hz HMv.out (by omega))
 have HBz:=hide (HBu.out.trans ((HBv.out.trans (hz.mono HBv.out.size)).mono HBu.out.size))
 have hlz:w.heap.size+1<z.heap.size:=Nat.lt_of_lt_of_le hlv hz.size
 clear hz c0 c1 c2 c3 c4 f1 g1
 obtain⟨f0,f1⟩:=zr2 G1z
 have ff1:=zf G1z 1
 obtain⟨cv,hcv⟩:∃cv,combF k x y=cv:=⟨_,rfl⟩
 rw[hcv]
 have HCV:=hide hcv
 clear hcv
 have G2:=heap_setCell_same z (w.heap.size+1) 1 _ _ (.int .i64 cv) G1z
 obtain⟨s,hs⟩:∃s,z.setCell ⟨w.heap.size+1,1,none⟩ (.int .i64 cv)=s:=⟨_,rfl⟩
 rw[hs] at G2
 have HMs:=hide (show s.ownsMap Tryz.prog 3 mailElem b n D by rw[←hs];exact HMz.out.setCell (by show b≠w.heap.size+1;omega) _)
 have HBs:=hide (show Below w.heap.size w s by rw[←hs];exact HBz.out.setCell (p:=⟨w.heap.size+1,1,none⟩) (by show w.heap.size≤w.heap.size+1;omega) _)
 have HSs:=hide hs
 clear hs G1z
 go_upto_region 4 with fail
 rw[HSs.out]
 clear f0 f1 ff1
 obtain⟨f0,f1⟩:=zr2 G2
 have hls:=lt_of_block G2
 clear G2 HSs
 go_wp2_with (at_mapUpdate;refine wpList_mapUpdate_own _ rfl _ _ _ 152 rfl 3 76 K Tryz.underlying152 mailElem b n D rfl HMs.out (by unfold maxLen;omega) _ _ (lk t) rfl rfl HKT.out (mailD true (cv)) [] rfl ?_;intro w1 hown1 hg1)
 have HFin:Hid (BPost b n (addB k f (t,y)) w (.returned (.tuple #[])) w1):=hide ⟨rfl,_,by have h:=HD.out.put t (cv);rw[show bxPut f t cv=addB k f (t,y) by unfold addB;rw[hft,←HCV.out]] at h;exact h,hown1,grown_after HBs.out hg1⟩
 clear hown1 hg1
 go_wp2
 go_end0
 exact HFin.out
def shareF (a n:Int):Int×Int:=if a<0∨n<1 then (0,2) else (a.tdiv n,0)
theorem tdiv_in {a n:Int} (h0:0≤a) (h1:a≤9223372036854775807) (hn:1≤n):0≤a.tdiv n∧a.tdiv n≤9223372036854775807:=by
 have e:a.tdiv n=a / n:=Int.tdiv_eq_ediv_of_nonneg h0
 rw[e]
 exact⟨Int.ediv_nonneg h0 (by omega),Int.le_trans (Int.ediv_le_self n h0) h1⟩
theorem share_any (w:World) (a n:Int) (ha:-9223372036854775808≤a∧a≤9223372036854775807):Calls Tryz.prog 144 #[.int .i64 a,.int .i64 n] w fun e w'=>e = .returned (.tuple #[.int .i64 (shareF a n).1,.int .i64 (shareF a n).2])∧w=w':=by
 by_cases h1:a<0
 ·go_enter Tryz.func144,Tryz.ntmps144
  go_wp2
  exact bodyPost_ret (by simp[results,Tryz.results144,go_sem];try rfl) rfl ⟨by simp[shareF,h1],rfl⟩
 by_cases h2:n<1
 ·go_enter Tryz.func144,Tryz.ntmps144
  go_wp2
  exact bodyPost_ret (by simp[results,Tryz.results144,go_sem];try rfl) rfl ⟨by simp[shareF,h2],rfl⟩
 have hq:=tdiv_in (a:=a) (n:=n) (by omega) ha.2 (by omega)
 have w1:IntKind.i64.wrap (a.tdiv n)=a.tdiv n:=IntWalk.i64_in _ (by omega)
 have d0:¬n=0:=by omega
 go_enter Tryz.func144,Tryz.ntmps144
 go_wp2
 exact bodyPost_ret (by simp[results,Tryz.results144,go_sem];try rfl) rfl ⟨by rw[show shareF a n=(a.tdiv n,0) by rw[shareF,if_neg (by omega)]],rfl⟩
theorem ornone_any (w:World) (x e0:Int):Calls Tryz.prog 143 #[.int .i64 x,.int .i64 e0] w fun e w'=>e = .returned (.int .i64 (if e0=0 then x else 0))∧w=w':=by
 by_cases h:e0=0
 ·subst h
  go_enter Tryz.func143,Tryz.ntmps143
  go_wp2
  go_ret
  exact⟨rfl,rfl⟩
 go_enter Tryz.func143,Tryz.ntmps143
 go_wp2
 go_ret
 first | exact⟨rfl,rfl⟩ | exact⟨by rw[if_neg h];rfl,rfl⟩
def evenF (a n:Int):Int:=if (shareF a n).2=0 then (shareF a n).1 else 0
theorem rkstart_any (w:World) (n:Int):Calls Tryz.prog 142 #[.int .i64 n] w fun e w'=>e = .returned (.int .i64 (evenF (4294967296) n))∧w=w':=by
 go_enter Tryz.func142,Tryz.ntmps142
 go_wp2_with fail
 refine (share_any _ (4294967296) n ⟨by decide,by decide⟩).mono ?_
 rintro e w1 ⟨rfl,rfl⟩
 go_wp2_with fail
 refine (ornone_any _ _ _).mono ?_
 rintro e w1 ⟨rfl,rfl⟩
 rw[show (if (shareF 4294967296 n).2=0 then (shareF 4294967296 n).1 else 0)=evenF 4294967296 n from rfl]
 go_wp2
 go_ret
 exact⟨rfl,rfl⟩
theorem rkgive_any (w:World) (a n:Int) (ha:-9223372036854775808≤a∧a≤9223372036854775807):Calls Tryz.prog 140 #[.int .i64 a,.int .i64 n] w fun e w'=>e = .returned (.int .i64 (evenF a n))∧w=w':=by
 go_enter Tryz.func140,Tryz.ntmps140
 go_wp2_with fail
 refine (share_any _ a n ha).mono ?_
 rintro e w1 ⟨rfl,rfl⟩
 go_wp2_with fail
 refine (ornone_any _ _ _).mono ?_
 rintro e w1 ⟨rfl,rfl⟩
 rw[show (if (shareF a n).2=0 then (shareF a n).1 else 0)=evenF a n from rfl]
 go_wp2
 go_ret
 exact⟨rfl,rfl⟩
theorem rks_any (w:World) (k j1 j2 j3 j4 V v:Int):Calls Tryz.prog 139 #[.agg #[],.agg #[.int .u8 k,.int .i64 j1,.int .i64 j2,.int .i64 j3,.int .i64 j4],.int .i64 V,.int .i64 v] w fun e w'=>e = .returned (.tuple #[.int .i64 (evenF 4294967296 V),.bool true])∧Below w.heap.size w w':=by
 have HBX:=hide (((Below.refl w.heap.size w).alloc (Nat.le_refl _) (.cells #[] 113)).alloc (by simp) (.cells #[.int .u8 k,.int .i64 j1,.int .i64 j2,.int .i64 j3,.int .i64 j4] 26))
 go_enter Tryz.func139,Tryz.ntmps139
 go_wp2_with fail
 refine (rkstart_any _ V).mono ?_
 rintro e w1 ⟨rfl,rfl⟩
 go_wp2
 exact bodyPost_ret (by simp[results,Tryz.results139,go_sem];try rfl) rfl ⟨rfl,HBX.out⟩
theorem lbs_any (w:World) (k j1 j2 j3 j4 V v:Int):Calls Tryz.prog 150 #[.agg #[],.agg #[.int .u8 k,.int .i64 j1,.int .i64 j2,.int .i64 j3,.int .i64 j4],.int .i64 V,.int .i64 v] w fun e w'=>e = .returned (.tuple #[.int .i64 v,.bool true])∧Below w.heap.size w w':=by
 have HBX:=hide (((Below.refl w.heap.size w).alloc (Nat.le_refl _) (.cells #[] 116)).alloc (by simp) (.cells #[.int .u8 k,.int .i64 j1,.int .i64 j2,.int .i64 j3,.int .i64 j4] 26))
 go_enter Tryz.func150,Tryz.ntmps150
 go_wp2
 exact bodyPost_ret (by simp[results,Tryz.results150,go_sem];try rfl) rfl ⟨rfl,HBX.out⟩
theorem wys_any (w:World) (k j1 j2 j3 j4 V v:Int):Calls Tryz.prog 180 #[.agg #[],.agg #[.int .u8 k,.int .i64 j1,.int .i64 j2,.int .i64 j3,.int .i64 j4],.int .i64 V,.int .i64 v] w fun e w'=>e = .returned (.tuple #[.int .i64 (startOf v j2),.bool (decide (v=j2))])∧Below w.heap.size w w':=by
 have HBX:=hide (((Below.refl w.heap.size w).alloc (Nat.le_refl _) (.cells #[] 117)).alloc (by simp) (.cells #[.int .u8 k,.int .i64 j1,.int .i64 j2,.int .i64 j3,.int .i64 j4] 26))
 obtain⟨ws,hws⟩:∃z,(w.alloc (.cells #[] 117)).alloc (.cells #[.int .u8 k,.int .i64 j1,.int .i64 j2,.int .i64 j3,.int .i64 j4] 26)=z:=⟨_,rfl⟩
 rw[hws] at HBX
 have x2:ws.cell? ⟨w.heap.size+1,2,none⟩=some (.int .i64 j2):=cell_of_row _ _ 2 _ _ _ (show ws.heap[w.heap.size+1]?=some (.cells #[.int .u8 k,.int .i64 j1,.int .i64 j2,.int .i64 j3,.int .i64 j4] 26) by rw[←hws];have h:=heap_alloc_last (w.alloc (.cells #[] 117)) (.cells #[.int .u8 k,.int .i64 j1,.int .i64 j2,.int .i64 j3,.int .i64 j4] 26);simpa using h)
 have lw:w.heap.size+1<ws.heap.size:=by rw[←hws];simp
 have HW:=hide hws
 clear hws
 go_enter Tryz.func180,Tryz.ntmps180
 go_upto_region 1 with fail
 rw[HW.out]
 refine wp_region_held_drew (S:=Kept ws) (by kernel_rfl) (Kept.drew ws) (fun hS0=>?_)
 refine tka 0 10 ?_
 refine tka 1 11 ?_
 refine tka 2 12 ?_
 refine tka 4 14 ?_
 refine tka 5 15 ?_
 refine tka 6 16 ?_
 refine tka 7 17 ?_
 refine ck 3 13 fun K hK=>?_
 go_simp
 refine (start_any _ v j2).mono ?_
 rintro e z1 ⟨rfl,rfl⟩
 have hS1:=hS0
 go_wp2_with fail
 refine hK.out _ _ hS1 (fun hSn=>?_)
 clear hK K
 try simp only[zqd,zqe,zqf]
 refine tka 8 8 ?_
 refine tka 9 9 ?_
 refine wpAnyH_done (by kernel_rfl) ?_ _
 go_wp2
 exact bodyPost_ret (by simp[results,Tryz.results180,go_sem];try rfl) rfl ⟨by first | rfl | simp,HBX.out.trans ((below_dr (Below.refl _ _)).mono HBX.out.size)⟩
def startA (k j2 V v:Int):Int×Bool:=if k=1 then (evenF 4294967296 V,true) else if k=2 then (v,true) else if k=3 then (startOf v j2,decide (v=j2)) else (0,false)
def doneF (k j1 j4 st mo:Int):Bool:=(decide (k=1) || decide (k=2) || decide (k=3)) && (decide (j1≤st) || (decide (1≤st) && decide (mo≤if k=1 then j4 else 0)))
theorem astart_any (w:World) (k j1 j2 j3 j4 V v:Int):Calls Tryz.prog 79 #[.agg #[.int .u8 k,.int .i64 j1,.int .i64 j2,.int .i64 j3,.int .i64 j4],.int .i64 V,.int .i64 v] w fun e w'=>e = .returned (.tuple #[.int .i64 (startA k j2 V v).1,.bool (startA k j2 V v).2])∧Below w.heap.size w w':=by
 obtain⟨u,hu⟩:∃u,w.alloc (.cells #[.int .u8 k,.int .i64 j1,.int .i64 j2,.int .i64 j3,.int .i64 j4] 26)=u:=⟨_,rfl⟩
 have hzu:w.heap.size<u.heap.size:=by rw[←hu];simp
 have hbu:=hide (show Below w.heap.size w u by rw[←hu];exact (Below.refl _ _).alloc (Nat.le_refl _) _)
 have M0:=hide (show u.heap[w.heap.size]?=some (.cells #[.int .u8 k,.int .i64 j1,.int .i64 j2,.int .i64 j3,.int .i64 j4] 26) by rw[←hu];exact heap_alloc_last _ _)
 by_cases k1:k=1
 ·subst k1
  have HU:=hide hu
  clear hu
  have N0:=((Below.refl u.heap.size u).block _ hzu).trans M0.out
  obtain⟨c0,c1,c2,c3,c4⟩:=zr5 N0
  clear N0
  go_enter Tryz.func79,Tryz.ntmps79
  go_wp2_with fail
  rw[HU.out]
  refine (of1 _ j1 j2 j3 j4).mono ?_
  rintro e w1 ⟨rfl,hb⟩
  have HB:=hide hb
  clear c0 c1 c2 c3 c4
  have N0:=(hb.block _ hzu).trans M0.out
  obtain⟨c0,c1,c2,c3,c4⟩:=zr5 N0
  clear N0
  clear hb
  go_wp2_with fail
  refine (rks_any _ 1 j1 j2 j3 j4 V v).mono ?_
  rintro e w2 ⟨rfl,hb⟩
  have HB2:=hide hb
  clear hb
  go_wp2
  exact bodyPost_ret (by simp[results,Tryz.results79,go_sem];try rfl) rfl ⟨by simp[startA],hbu.out.trans ((HB.out.trans (HB2.out.mono HB.out.size)).mono (by omega))⟩
 by_cases k2:k=2
 ·subst k2
  have HU:=hide hu
  clear hu
  have N0:=((Below.refl u.heap.size u).block _ hzu).trans M0.out
  obtain⟨c0,c1,c2,c3,c4⟩:=zr5 N0
  clear N0
  go_enter Tryz.func79,Tryz.ntmps79
  go_wp2_with fail
  rw[HU.out]
  refine (of2 _ j1 j2 j3 j4).mono ?_
  rintro e w1 ⟨rfl,hb⟩
  have HB:=hide hb
  clear c0 c1 c2 c3 c4
  have N0:=(hb.block _ hzu).trans M0.out
  obtain⟨c0,c1,c2,c3,c4⟩:=zr5 N0
  clear N0
  clear hb
  go_wp2_with fail
  refine (lbs_any _ 2 j1 j2 j3 j4 V v).mono ?_
  rintro e w2 ⟨rfl,hb⟩
  have HB2:=hide hb
  clear hb
  go_wp2
  exact bodyPost_ret (by simp[results,Tryz.results79,go_sem];try rfl) rfl ⟨by simp[startA],hbu.out.trans ((HB.out.trans (HB2.out.mono HB.out.size)).mono (by omega))⟩
 by_cases k3:k=3
 ·subst k3
  have HU:=hide hu
  clear hu
  have N0:=((Below.refl u.heap.size u).block _ hzu).trans M0.out
  obtain⟨c0,c1,c2,c3,c4⟩:=zr5 N0
  clear N0
  go_enter Tryz.func79,Tryz.ntmps79
  go_wp2_with fail
  rw[HU.out]
  refine (of3 _ j1 j2 j3 j4).mono ?_
  rintro e w1 ⟨rfl,hb⟩
  have HB:=hide hb
  clear c0 c1 c2 c3 c4
  have N0:=(hb.block _ hzu).trans M0.out
  obtain⟨c0,c1,c2,c3,c4⟩:=zr5 N0
  clear N0
  clear hb
  go_wp2_with fail
  refine (wys_any _ 3 j1 j2 j3 j4 V v).mono ?_
  rintro e w2 ⟨rfl,hb⟩
  have HB2:=hide hb
  clear hb
  go_wp2
  exact bodyPost_ret (by simp[results,Tryz.results79,go_sem];try rfl) rfl ⟨by simp[startA],hbu.out.trans ((HB.out.trans (HB2.out.mono HB.out.size)).mono (by omega))⟩
 have HU:=hide hu
 clear hu
 have N0:=((Below.refl u.heap.size u).block _ hzu).trans M0.out
 obtain⟨c0,c1,c2,c3,c4⟩:=zr5 N0
 clear N0
 go_enter Tryz.func79,Tryz.ntmps79
 go_wp2_with fail
 rw[HU.out]
 refine (of0 _ k k1 k2 k3 j1 j2 j3 j4).mono ?_
 rintro e w1 ⟨rfl,hb⟩
 have HB:=hide hb
 clear c0 c1 c2 c3 c4
 have N0:=(hb.block _ hzu).trans M0.out
 obtain⟨c0,c1,c2,c3,c4⟩:=zr5 N0
 clear N0
 clear hb
 go_wp2
 exact bodyPost_ret (by simp[results,Tryz.results79,go_sem];try rfl) rfl ⟨by simp[startA,k1,k2,k3],hbu.out.trans (HB.out.mono (by omega))⟩
theorem r7start_any (w:World) (n:Int):Calls Tryz.prog 59 #[.int .i64 n] w fun e w'=>e = .returned (.int .i64 (evenF 4294967296 n))∧w=w':=by
 by_cases h2:n<1
 ·go_enter Tryz.func59,Tryz.ntmps59
  go_wp2
  go_ret
  exact⟨by rw[show evenF 4294967296 n=0 by simp[evenF,shareF,h2]];rfl,rfl⟩
 have hq:=tdiv_in (a:=4294967296) (n:=n) (by decide) (by decide) (by omega)
 have w1:IntKind.i64.wrap ((4294967296:Int).tdiv n)=(4294967296:Int).tdiv n:=IntWalk.i64_in _ (by omega)
 have d0:¬n=0:=by omega
 go_enter Tryz.func59,Tryz.ntmps59
 go_wp2
 go_ret
 exact⟨by rw[show evenF 4294967296 n=(4294967296:Int).tdiv n by rw[evenF,show shareF 4294967296 n=((4294967296:Int).tdiv n,0) by rw[shareF,if_neg (by omega)]];rfl];rfl,rfl⟩
theorem rastart_any (w:World) (k j1 j2 j3 j4 V v:Int):Calls Tryz.prog 40 #[.agg #[.int .u8 k,.int .i64 j1,.int .i64 j2,.int .i64 j3,.int .i64 j4],.int .i64 V,.int .i64 v] w fun e w'=>e = .returned (.tuple #[.int .i64 (startA k j2 V v).1,.bool (startA k j2 V v).2])∧Below w.heap.size w w':=by
 obtain⟨u,hu⟩:∃u,w.alloc (.cells #[.int .u8 k,.int .i64 j1,.int .i64 j2,.int .i64 j3,.int .i64 j4] 26)=u:=⟨_,rfl⟩
 have hzu:w.heap.size<u.heap.size:=by rw[←hu];simp
 have hbu:=hide (show Below w.heap.size w u by rw[←hu];exact (Below.refl _ _).alloc (Nat.le_refl _) _)
 have M0:=hide (show u.heap[w.heap.size]?=some (.cells #[.int .u8 k,.int .i64 j1,.int .i64 j2,.int .i64 j3,.int .i64 j4] 26) by rw[←hu];exact heap_alloc_last _ _)
 by_cases k1:k=1
 ·subst k1
  have HU:=hide hu
  clear hu
  have N0:=((Below.refl u.heap.size u).block _ hzu).trans M0.out
  obtain⟨c0,c1,c2,c3,c4⟩:=zr5 N0
  clear N0
  go_enter Tryz.func40,Tryz.ntmps40
  go_wp2_with fail
  rw[HU.out]
  refine (r7start_any _ V).mono ?_
  rintro e w1 ⟨rfl,rfl⟩
  go_wp2
  exact bodyPost_ret (by simp[results,Tryz.results40,go_sem];try rfl) rfl ⟨by simp[startA],hbu.out⟩
 by_cases k2:k=2
 ·subst k2
  have HU:=hide hu
  clear hu
  have N0:=((Below.refl u.heap.size u).block _ hzu).trans M0.out
  obtain⟨c0,c1,c2,c3,c4⟩:=zr5 N0
  clear N0
  go_enter Tryz.func40,Tryz.ntmps40
  go_wp2
  rw[HU.out]
  exact bodyPost_ret (by simp[results,Tryz.results40,go_sem];try rfl) rfl ⟨by simp[startA],hbu.out⟩
 by_cases k3:k=3
 ·subst k3
  have HU:=hide hu
  clear hu
  have N0:=((Below.refl u.heap.size u).block _ hzu).trans M0.out
  obtain⟨c0,c1,c2,c3,c4⟩:=zr5 N0
  clear N0
  go_enter Tryz.func40,Tryz.ntmps40
  go_upto_region 7 with fail
  rw[HU.out]
  refine wp_region_held_drew (S:=Kept u) (by kernel_rfl) (Kept.drew u) (fun hS0=>?_)
  refine tka 0 19 ?_
  refine tka 1 20 ?_
  refine tka 2 21 ?_
  refine tka 4 23 ?_
  refine tka 5 24 ?_
  refine tka 6 25 ?_
  refine tka 7 26 ?_
  refine ck 3 22 fun K hK=>?_
  go_simp
  refine (rstart_any _ v j2).mono ?_
  rintro e z1 ⟨rfl,rfl⟩
  have hS1:=hS0
  go_wp2_with fail
  refine hK.out _ _ hS1 (fun hSn=>?_)
  clear hK K
  try simp only[zqd,zqe,zqf]
  refine tka 8 6 ?_
  refine tka 9 7 ?_
  refine wpAnyH_done (by kernel_rfl) ?_ _
  go_wp2
  exact bodyPost_ret (by simp[results,Tryz.results40,go_sem];try rfl) rfl ⟨by simp[startA];try rfl,hbu.out.trans ((below_dr (Below.refl _ _)).mono hbu.out.size)⟩
 have HU:=hide hu
 clear hu
 have N0:=((Below.refl u.heap.size u).block _ hzu).trans M0.out
 obtain⟨c0,c1,c2,c3,c4⟩:=zr5 N0
 clear N0
 go_enter Tryz.func40,Tryz.ntmps40
 go_wp2
 rw[HU.out]
 exact bodyPost_ret (by simp[results,Tryz.results40,go_sem];try rfl) rfl ⟨by simp[startA,k1,k2,k3],hbu.out⟩
theorem below_dr0 (B:Nat) (u:World):Below B u u.drew:=below_dr (Below.refl _ _)
theorem rjoin_any (w:World) (k j1 j2 j3 j4 s m q r:Int):Calls Tryz.prog 64 #[.agg #[.int .u8 k,.int .i64 j1,.int .i64 j2,.int .i64 j3,.int .i64 j4],.agg #[.int .i64 s,.int .i64 m],.agg #[.int .i64 q,.int .i64 r]] w fun e w'=>e = .returned (.agg #[.int .i64 (joinF k s m q r).1,.int .i64 (joinF k s m q r).2])∧Below w.heap.size w w':=by
 obtain⟨u,hu⟩:∃u,((((w.alloc (.cells #[.int .u8 k,.int .i64 j1,.int .i64 j2,.int .i64 j3,.int .i64 j4] 26)).alloc (.cells #[.int .i64 s,.int .i64 m] 90)).alloc (.cells #[.int .i64 q,.int .i64 r] 90)).alloc (.cells #[.int .i64 0,.int .i64 0] 90))=u:=⟨_,rfl⟩
 have hzu:w.heap.size+1+1+1<u.heap.size:=by rw[←hu];simp
 have hbu:=hide (show Below w.heap.size w u by rw[←hu];exact (((Below.refl _ _).alloc (Nat.le_refl _) _).alloc (by simp) _).alloc (by simp;omega) _ |>.alloc (by simp;omega) _)
 have M0:=hide (show u.heap[w.heap.size]?=some (Obj.cells #[.int .u8 k,.int .i64 j1,.int .i64 j2,.int .i64 j3,.int .i64 j4] 26) by rw[←hu];exact heap_alloc_keep (heap_alloc_keep (heap_alloc_keep ((by have h:=heap_alloc_last w (.cells #[.int .u8 k,.int .i64 j1,.int .i64 j2,.int .i64 j3,.int .i64 j4] 26);simpa using h)))))
 have M1:=hide (show u.heap[w.heap.size+1]?=some (Obj.cells #[.int .i64 s,.int .i64 m] 90) by rw[←hu];exact heap_alloc_keep (heap_alloc_keep ((by have h:=heap_alloc_last (w.alloc (.cells #[.int .u8 k,.int .i64 j1,.int .i64 j2,.int .i64 j3,.int .i64 j4] 26)) (.cells #[.int .i64 s,.int .i64 m] 90);simpa using h))))
 have M2:=hide (show u.heap[w.heap.size+1+1]?=some (Obj.cells #[.int .i64 q,.int .i64 r] 90) by rw[←hu];exact heap_alloc_keep ((by have h:=heap_alloc_last ((w.alloc (.cells #[.int .u8 k,.int .i64 j1,.int .i64 j2,.int .i64 j3,.int .i64 j4] 26)).alloc (.cells #[.int .i64 s,.int .i64 m] 90)) (.cells #[.int .i64 q,.int .i64 r] 90);simpa using h)))
 have M3:=hide (show u.heap[w.heap.size+1+1+1]?=some (Obj.cells #[.int .i64 0,.int .i64 0] 90) by rw[←hu];exact (by have h:=heap_alloc_last (((w.alloc (.cells #[.int .u8 k,.int .i64 j1,.int .i64 j2,.int .i64 j3,.int .i64 j4] 26)).alloc (.cells #[.int .i64 s,.int .i64 m] 90)).alloc (.cells #[.int .i64 q,.int .i64 r] 90)) (.cells #[.int .i64 0,.int .i64 0] 90);simpa using h))
 have HU:=hide hu
 clear hu
 have l0:w.heap.size<u.heap.size:=by omega
 have l1:w.heap.size+1<u.heap.size:=by omega
 have l2:w.heap.size+1+1<u.heap.size:=by omega
 by_cases k1:k=1
 ·subst k1
  by_cases hlt:m<r
  ·have N0:=M0.out
   obtain⟨c0,c1,c2,c3,c4⟩:=zr5 N0
   clear N0
   obtain⟨d10,d11⟩:=zr2 M1.out
   obtain⟨d20,d21⟩:=zr2 M2.out
   obtain⟨z0,z1⟩:=zr2 M3.out
   have zq:=zf M3.out;have zf0:=zq 0;have zf1:=zq 1;clear zq
   obtain⟨f,hf⟩:∃z,(u.setCell ⟨w.heap.size+1+1+1,0,none⟩ (.int .i64 (dadd s q))).setCell ⟨w.heap.size+1+1+1,1,none⟩ (.int .i64 (r))=z:=⟨_,rfl⟩
   have hfB:Below w.heap.size w f:=by rw[←hf];exact (hbu.out.setCell (p:=⟨w.heap.size+1+1+1,0,none⟩) (by show w.heap.size≤w.heap.size+1+1+1;omega) _).setCell (p:=⟨w.heap.size+1+1+1,1,none⟩) (by show w.heap.size≤w.heap.size+1+1+1;omega) _
   have hf2:=heap_setCell_same _ (w.heap.size+1+1+1) 1 _ _ (.int .i64 (r)) (heap_setCell_same (u) (w.heap.size+1+1+1) 0 _ _ (.int .i64 (dadd s q)) M3.out)
   rw[hf] at hf2
   obtain⟨y0,y1⟩:=zr2 hf2
   have HFin:=hide (And.intro hf (And.intro hfB (And.intro y0 y1)))
   clear hf hfB hf2 y0 y1
   go_enter Tryz.func64,Tryz.ntmps64
   go_upto_region 3 with fail
   rw[HU.out]
   refine wpL_region (S:=Kept u) [11] (by kernel_rfl) (Kept.drew u) (fun hS0=>?_)
   refine tla 0 11 ?_
   refine tla 1 12 ?_
   refine tla 2 13 ?_
   refine tla 3 14 ?_
   refine tla 5 16 ?_
   refine tla 6 17 ?_
   refine tla 7 18 ?_
   refine tla 8 19 ?_
   refine tla 9 20 ?_
   refine cl 4 15 fun K hK=>?_
   go_simp
   refine (radd_any _ s q).mono ?_
   rintro e z1 ⟨rfl,rfl⟩
   go_wp2_with fail
   refine hK.out _ _ hS0 (fun hSn=>?_)
   clear hK K
   try simp only[zqd,zqe,zqf]
   refine tla 10 21 ?_
   refine xl 11 fun K hK=>?_
   go_wp2_with fail
   refine hK.out _ _ ?_
   clear hK K
   try simp only[zqd,zqe,zqf]
   refine wpAnyL_done (by kernel_rfl) ?_ _
   go_wp2
   obtain⟨hf,hfB,y0',y1'⟩:=HFin.out
   rw[hf]
   have y0:f.drew.cell? ⟨w.heap.size+1+1+1,0,none⟩=some (.int .i64 (dadd s q)):=y0'
   have y1:f.drew.cell? ⟨w.heap.size+1+1+1,1,none⟩=some (.int .i64 (r)):=y1'
   clear y0' y1'
   exact bodyPost_ret (v:=.agg #[.int .i64 (dadd s q),.int .i64 (r)]) (by simp[results,Tryz.results64,go_sem,y0,y1]) rfl ⟨by rw[show joinF 1 s m q r=(dadd s q,r) by simp[joinF];omega],hfB.trans (below_dr0 _ f)⟩
  have N0:=M0.out
  obtain⟨c0,c1,c2,c3,c4⟩:=zr5 N0
  clear N0
  obtain⟨d10,d11⟩:=zr2 M1.out
  obtain⟨d20,d21⟩:=zr2 M2.out
  obtain⟨z0,z1⟩:=zr2 M3.out
  have zq:=zf M3.out;have zf0:=zq 0;have zf1:=zq 1;clear zq
  obtain⟨f,hf⟩:∃z,(u.setCell ⟨w.heap.size+1+1+1,0,none⟩ (.int .i64 (dadd s q))).setCell ⟨w.heap.size+1+1+1,1,none⟩ (.int .i64 (m))=z:=⟨_,rfl⟩
  have hfB:Below w.heap.size w f:=by rw[←hf];exact (hbu.out.setCell (p:=⟨w.heap.size+1+1+1,0,none⟩) (by show w.heap.size≤w.heap.size+1+1+1;omega) _).setCell (p:=⟨w.heap.size+1+1+1,1,none⟩) (by show w.heap.size≤w.heap.size+1+1+1;omega) _
  have hf2:=heap_setCell_same _ (w.heap.size+1+1+1) 1 _ _ (.int .i64 (m)) (heap_setCell_same (u) (w.heap.size+1+1+1) 0 _ _ (.int .i64 (dadd s q)) M3.out)
  rw[hf] at hf2
  obtain⟨y0,y1⟩:=zr2 hf2
  have HFin:=hide (And.intro hf (And.intro hfB (And.intro y0 y1)))
  clear hf hfB hf2 y0 y1
  go_enter Tryz.func64,Tryz.ntmps64
  go_upto_region 3 with fail
  rw[HU.out]
  refine wpL_region (S:=Kept u) [11] (by kernel_rfl) (Kept.drew u) (fun hS0=>?_)
  refine tla 0 11 ?_
  refine tla 1 12 ?_
  refine tla 2 13 ?_
  refine tla 3 14 ?_
  refine tla 5 16 ?_
  refine tla 6 17 ?_
  refine tla 7 18 ?_
  refine tla 8 19 ?_
  refine tla 9 20 ?_
  refine cl 4 15 fun K hK=>?_
  go_simp
  refine (radd_any _ s q).mono ?_
  rintro e z1 ⟨rfl,rfl⟩
  go_wp2_with fail
  refine hK.out _ _ hS0 (fun hSn=>?_)
  clear hK K
  try simp only[zqd,zqe,zqf]
  refine tla 10 21 ?_
  refine xl 11 fun K hK=>?_
  go_wp2_with fail
  refine hK.out _ _ ?_
  clear hK K
  try simp only[zqd,zqe,zqf]
  refine wpAnyL_done (by kernel_rfl) ?_ _
  go_wp2
  obtain⟨hf,hfB,y0',y1'⟩:=HFin.out
  rw[hf]
  have y0:f.drew.cell? ⟨w.heap.size+1+1+1,0,none⟩=some (.int .i64 (dadd s q)):=y0'
  have y1:f.drew.cell? ⟨w.heap.size+1+1+1,1,none⟩=some (.int .i64 (m)):=y1'
  clear y0' y1'
  exact bodyPost_ret (v:=.agg #[.int .i64 (dadd s q),.int .i64 (m)]) (by simp[results,Tryz.results64,go_sem,y0,y1]) rfl ⟨by rw[show joinF 1 s m q r=(dadd s q,m) by simp[joinF];omega],hfB.trans (below_dr0 _ f)⟩
 by_cases k2:k=2
 ·subst k2
  have N0:=M0.out
  obtain⟨c0,c1,c2,c3,c4⟩:=zr5 N0
  clear N0
  obtain⟨d10,d11⟩:=zr2 M1.out
  obtain⟨d20,d21⟩:=zr2 M2.out
  obtain⟨z0,z1⟩:=zr2 M3.out
  have zq:=zf M3.out;have zf0:=zq 0;have zf1:=zq 1;clear zq
  obtain⟨f,hf⟩:∃z,(u.setCell ⟨w.heap.size+1+1+1,0,none⟩ (.int .i64 (dadd s q))).setCell ⟨w.heap.size+1+1+1,1,none⟩ (.int .i64 (dadd m r))=z:=⟨_,rfl⟩
  have hfB:Below w.heap.size w f:=by rw[←hf];exact (hbu.out.setCell (p:=⟨w.heap.size+1+1+1,0,none⟩) (by show w.heap.size≤w.heap.size+1+1+1;omega) _).setCell (p:=⟨w.heap.size+1+1+1,1,none⟩) (by show w.heap.size≤w.heap.size+1+1+1;omega) _
  have hf2:=heap_setCell_same _ (w.heap.size+1+1+1) 1 _ _ (.int .i64 (dadd m r)) (heap_setCell_same (u) (w.heap.size+1+1+1) 0 _ _ (.int .i64 (dadd s q)) M3.out)
  rw[hf] at hf2
  obtain⟨y0,y1⟩:=zr2 hf2
  have HFin:=hide (And.intro hf (And.intro hfB (And.intro y0 y1)))
  clear hf hfB hf2 y0 y1
  go_enter Tryz.func64,Tryz.ntmps64
  go_upto_region 6 with fail
  rw[HU.out]
  refine wpL_region (S:=Kept u) [11] (by kernel_rfl) (Kept.drew u) (fun hS0=>?_)
  refine tla 0 25 ?_
  refine tla 1 26 ?_
  refine tla 2 27 ?_
  refine tla 3 28 ?_
  refine tla 5 30 ?_
  refine tla 6 31 ?_
  refine tla 7 32 ?_
  refine tla 8 33 ?_
  refine cl 4 29 fun K hK=>?_
  go_simp
  refine (radd_any _ s q).mono ?_
  rintro e z1 ⟨rfl,rfl⟩
  go_wp2_with fail
  refine hK.out _ _ hS0 (fun hSn=>?_)
  clear hK K
  try simp only[zqd,zqe,zqf]
  refine cl 9 34 fun K hK=>?_
  go_simp
  refine (radd_any _ m r).mono ?_
  rintro e z1 ⟨rfl,rfl⟩
  go_wp2_with fail
  refine hK.out _ _ hS0 (fun hSn=>?_)
  clear hK K
  try simp only[zqd,zqe,zqf]
  refine tla 10 35 ?_
  refine xl 11 fun K hK=>?_
  go_wp2_with fail
  refine hK.out _ _ ?_
  clear hK K
  try simp only[zqd,zqe,zqf]
  refine wpAnyL_done (by kernel_rfl) ?_ _
  go_wp2
  obtain⟨hf,hfB,y0',y1'⟩:=HFin.out
  rw[hf]
  have y0:f.drew.cell? ⟨w.heap.size+1+1+1,0,none⟩=some (.int .i64 (dadd s q)):=y0'
  have y1:f.drew.cell? ⟨w.heap.size+1+1+1,1,none⟩=some (.int .i64 (dadd m r)):=y1'
  clear y0' y1'
  exact bodyPost_ret (v:=.agg #[.int .i64 (dadd s q),.int .i64 (dadd m r)]) (by simp[results,Tryz.results64,go_sem,y0,y1]) rfl ⟨by simp[joinF],hfB.trans (below_dr0 _ f)⟩
 by_cases k3:k=3
 ·subst k3
  have N0:=M0.out
  obtain⟨c0,c1,c2,c3,c4⟩:=zr5 N0
  clear N0
  obtain⟨d10,d11⟩:=zr2 M1.out
  obtain⟨d20,d21⟩:=zr2 M2.out
  obtain⟨z0,z1⟩:=zr2 M3.out
  have zq:=zf M3.out;have zf0:=zq 0;have zf1:=zq 1;clear zq
  obtain⟨f,hf⟩:∃z,(u.setCell ⟨w.heap.size+1+1+1,0,none⟩ (.int .i64 (dadd s q))).setCell ⟨w.heap.size+1+1+1,1,none⟩ (.int .i64 (dadd m r))=z:=⟨_,rfl⟩
  have hfB:Below w.heap.size w f:=by rw[←hf];exact (hbu.out.setCell (p:=⟨w.heap.size+1+1+1,0,none⟩) (by show w.heap.size≤w.heap.size+1+1+1;omega) _).setCell (p:=⟨w.heap.size+1+1+1,1,none⟩) (by show w.heap.size≤w.heap.size+1+1+1;omega) _
  have hf2:=heap_setCell_same _ (w.heap.size+1+1+1) 1 _ _ (.int .i64 (dadd m r)) (heap_setCell_same (u) (w.heap.size+1+1+1) 0 _ _ (.int .i64 (dadd s q)) M3.out)
  rw[hf] at hf2
  obtain⟨y0,y1⟩:=zr2 hf2
  have HFin:=hide (And.intro hf (And.intro hfB (And.intro y0 y1)))
  clear hf hfB hf2 y0 y1
  go_enter Tryz.func64,Tryz.ntmps64
  go_upto_region 6 with fail
  rw[HU.out]
  refine wpL_region (S:=Kept u) [11] (by kernel_rfl) (Kept.drew u) (fun hS0=>?_)
  refine tla 0 25 ?_
  refine tla 1 26 ?_
  refine tla 2 27 ?_
  refine tla 3 28 ?_
  refine tla 5 30 ?_
  refine tla 6 31 ?_
  refine tla 7 32 ?_
  refine tla 8 33 ?_
  refine cl 4 29 fun K hK=>?_
  go_simp
  refine (radd_any _ s q).mono ?_
  rintro e z1 ⟨rfl,rfl⟩
  go_wp2_with fail
  refine hK.out _ _ hS0 (fun hSn=>?_)
  clear hK K
  try simp only[zqd,zqe,zqf]
  refine cl 9 34 fun K hK=>?_
  go_simp
  refine (radd_any _ m r).mono ?_
  rintro e z1 ⟨rfl,rfl⟩
  go_wp2_with fail
  refine hK.out _ _ hS0 (fun hSn=>?_)
  clear hK K
  try simp only[zqd,zqe,zqf]
  refine tla 10 35 ?_
  refine xl 11 fun K hK=>?_
  go_wp2_with fail
  refine hK.out _ _ ?_
  clear hK K
  try simp only[zqd,zqe,zqf]
  refine wpAnyL_done (by kernel_rfl) ?_ _
  go_wp2
  obtain⟨hf,hfB,y0',y1'⟩:=HFin.out
  rw[hf]
  have y0:f.drew.cell? ⟨w.heap.size+1+1+1,0,none⟩=some (.int .i64 (dadd s q)):=y0'
  have y1:f.drew.cell? ⟨w.heap.size+1+1+1,1,none⟩=some (.int .i64 (dadd m r)):=y1'
  clear y0' y1'
  exact bodyPost_ret (v:=.agg #[.int .i64 (dadd s q),.int .i64 (dadd m r)]) (by simp[results,Tryz.results64,go_sem,y0,y1]) rfl ⟨by simp[joinF],hfB.trans (below_dr0 _ f)⟩
 have N0:=M0.out
 obtain⟨c0,c1,c2,c3,c4⟩:=zr5 N0
 clear N0
 obtain⟨d10,d11⟩:=zr2 M1.out
 obtain⟨d20,d21⟩:=zr2 M2.out
 obtain⟨z0,z1⟩:=zr2 M3.out
 have zq:=zf M3.out;have zf0:=zq 0;have zf1:=zq 1;clear zq
 obtain⟨f,hf⟩:∃z,(u.setCell ⟨w.heap.size+1+1+1,0,none⟩ (.int .i64 (0))).setCell ⟨w.heap.size+1+1+1,1,none⟩ (.int .i64 (0))=z:=⟨_,rfl⟩
 have hfB:Below w.heap.size w f:=by rw[←hf];exact (hbu.out.setCell (p:=⟨w.heap.size+1+1+1,0,none⟩) (by show w.heap.size≤w.heap.size+1+1+1;omega) _).setCell (p:=⟨w.heap.size+1+1+1,1,none⟩) (by show w.heap.size≤w.heap.size+1+1+1;omega) _
 have hf2:=heap_setCell_same _ (w.heap.size+1+1+1) 1 _ _ (.int .i64 (0)) (heap_setCell_same (u) (w.heap.size+1+1+1) 0 _ _ (.int .i64 (0)) M3.out)
 rw[hf] at hf2
 obtain⟨y0,y1⟩:=zr2 hf2
 have HFin:=hide (And.intro hf (And.intro hfB (And.intro y0 y1)))
 clear hf hfB hf2 y0 y1
 go_enter Tryz.func64,Tryz.ntmps64
 go_upto_region 1 with fail
 rw[HU.out]
 go_wp2
 obtain⟨hf,hfB,y0,y1⟩:=HFin.out
 rw[hf]
 exact bodyPost_ret (v:=.agg #[.int .i64 (0),.int .i64 (0)]) (by simp[results,Tryz.results64,go_sem,y0,y1]) rfl ⟨by simp[joinF,k1,k2,k3],hfB⟩
end Go.Proofs.YtpgbjabifhjogaaGreat
