/- Lemmas: Alj, Bxm, Bxp, Ast, Atd, Asv, Sen, Sso. -/
import Derived.Handy
import Derived.Deep.DeepCutAuto
import Derived.Deep.CutBlock
import Derived.Lib.Hide
import Derived.Maps.Own
import Derived.Maps.OwnSet
import Derived.Maps.OwnOps
import Derived.Maps.Views
import Derived.Maps.Keyed
import Derived.WalkSpells
import Derived.WalkMore
import Derived.IntWalk
import Derived.Test.YtpojjmbalgmcoaaGreatStWw6
import Derived.Test.YtpojjmbalgmcoaaGreatStWw29
set_option linter.unusedVariables false
set_option linter.unusedSimpArgs false
set_option maxRecDepth 100000
set_option maxHeartbeats 16000000
namespace Go.Proofs.YtpojjmbalgmcoaaGreat
open Go.RowKit
theorem missing_one {want:Array (String×TypeId)} {got:Array Method} {x:String} (h:(want.toList.filter fun (name,sig)=>!got.any fun m=>m.name == name && m.sig == sig).map (·.1)=[x]):∃m,Instr.missingMethod want got=some m:=by
 unfold Instr.missingMethod
 rw[h]
 cases hc:x.contains '.' <;> simp[List.partition,List.partition.loop,hc,Instr.least]
theorem sharer_ranks (w:World):(Instr.typeAssert (.iface 129 (.agg #[])) 90 172 true).run Tryz.prog w = .ok (.tuple #[.iface 129 (.agg #[]),.bool true]) w:=by kernel_rfl
theorem sharer_nil (w:World):(Instr.typeAssert .nilIface 90 172 true).run Tryz.prog w = .ok (.tuple #[.nilIface,.bool false]) w:=by kernel_rfl
theorem sharer_labels (w:World):(Instr.typeAssert (.iface 132 (.agg #[])) 90 172 true).run Tryz.prog w = .ok (.tuple #[.nilIface,.bool false]) w:=by
 obtain⟨inf,hi⟩:∃inf,Tryz.prog.info? 132=some inf:=Option.isSome_iff_exists.1 (by kernel_rfl)
 have hm:inf.methods=((Tryz.prog.info? 132).map (·.methods)).getD #[]:=by rw[hi];rfl
 obtain⟨z,hz,hzz⟩:∃z,Tryz.prog.info? 172=some z∧z.zero=some .nilIface:=by
  have h:(Tryz.prog.info? 172).map (·.zero)=some (some .nilIface):=by kernel_rfl
  obtain⟨z,hz,h2⟩:=Option.map_eq_some_iff.1 h
  exact⟨z,hz,h2⟩
 obtain⟨m,hmm⟩:=missing_one (want:=(match Tryz.prog.underlying 172 with | some (.interface x)=>x | _=>#[])) (got:=inf.methods) (x:= "treadwheel/algos.share") (by rw[hm];kernel_rfl)
 rw[Tryz.underlying172] at hmm
 dsimp only at hmm
 unfold Instr.typeAssert
 simp[go_sem,underlying,typeInfo,zeroValue,Tryz.underlying172,hi,hz,hzz,hmm]
theorem sharer_ways (w:World):(Instr.typeAssert (.iface 133 (.agg #[])) 90 172 true).run Tryz.prog w = .ok (.tuple #[.nilIface,.bool false]) w:=by
 obtain⟨inf,hi⟩:∃inf,Tryz.prog.info? 133=some inf:=Option.isSome_iff_exists.1 (by kernel_rfl)
 have hm:inf.methods=((Tryz.prog.info? 133).map (·.methods)).getD #[]:=by rw[hi];rfl
 obtain⟨z,hz,hzz⟩:∃z,Tryz.prog.info? 172=some z∧z.zero=some .nilIface:=by
  have h:(Tryz.prog.info? 172).map (·.zero)=some (some .nilIface):=by kernel_rfl
  obtain⟨z,hz,h2⟩:=Option.map_eq_some_iff.1 h
  exact⟨z,hz,h2⟩
 obtain⟨m,hmm⟩:=missing_one (want:=(match Tryz.prog.underlying 172 with | some (.interface x)=>x | _=>#[])) (got:=inf.methods) (x:= "treadwheel/algos.share") (by rw[hm];kernel_rfl)
 rw[Tryz.underlying172] at hmm
 dsimp only at hmm
 unfold Instr.typeAssert
 simp[go_sem,underlying,typeInfo,zeroValue,Tryz.underlying172,hi,hz,hzz,hmm]
def progV (k:Int):Value:=if k=1 then .iface 129 (.agg #[]) else if k=2 then .iface 132 (.agg #[]) else if k=3 then .iface 133 (.agg #[]) else .nilIface
theorem of_any (w:World) (k:Int) (j1 j2 j3 j4:Int):Calls Tryz.prog 40 #[.agg #[.int .u8 k,.int .i64 j1,.int .i64 j2,.int .i64 j3,.int .i64 j4]] w fun e w'=>e = .returned (progV k)∧Below w.heap.size w w':=by
 go_enter Tryz.func40,Tryz.ntmps40
 go_wp2_with fail
 all_goals
  go_ret
  refine⟨?_,(Below.refl _ _).alloc (Nat.le_refl _) _⟩
  unfold progV
  simp_all
theorem of1 (w:World) (j1 j2 j3 j4:Int):Calls Tryz.prog 40 #[.agg #[.int .u8 1,.int .i64 j1,.int .i64 j2,.int .i64 j3,.int .i64 j4]] w fun e w'=>e = .returned (.iface 129 (.agg #[]))∧Below w.heap.size w w':=of_any w 1 j1 j2 j3 j4
theorem of2 (w:World) (j1 j2 j3 j4:Int):Calls Tryz.prog 40 #[.agg #[.int .u8 2,.int .i64 j1,.int .i64 j2,.int .i64 j3,.int .i64 j4]] w fun e w'=>e = .returned (.iface 132 (.agg #[]))∧Below w.heap.size w w':=of_any w 2 j1 j2 j3 j4
theorem of3 (w:World) (j1 j2 j3 j4:Int):Calls Tryz.prog 40 #[.agg #[.int .u8 3,.int .i64 j1,.int .i64 j2,.int .i64 j3,.int .i64 j4]] w fun e w'=>e = .returned (.iface 133 (.agg #[]))∧Below w.heap.size w w':=of_any w 3 j1 j2 j3 j4
theorem of0 (w:World) (k:Int) (h1:¬k=1) (h2:¬k=2) (h3:¬k=3) (j1 j2 j3 j4:Int):Calls Tryz.prog 40 #[.agg #[.int .u8 k,.int .i64 j1,.int .i64 j2,.int .i64 j3,.int .i64 j4]] w fun e w'=>e = .returned .nilIface∧Below w.heap.size w w':=by
 have h:=of_any w k j1 j2 j3 j4
 unfold progV at h
 rw[if_neg h1,if_neg h2,if_neg h3] at h
 exact h
def combF (k a b:Int):Int:=if k=1 then dadd a b else if k=2∨k=3 then min a b else 0
theorem rkcomb_any (w:World) (a b:Int) (h1:-9223372036854775808≤a) (h2:a≤9223372036854775807) (h3:-9223372036854775808≤b) (h4:b≤9223372036854775807):Calls Tryz.prog 134 #[.agg #[],.int .i64 a,.int .i64 b] w fun e w'=>e = .returned (.int .i64 (dadd a b))∧Below w.heap.size w w':=by
 go_enter Tryz.func134,Tryz.ntmps134
 go_wp2_with fail
 refine (add_any _ a b h1 h2 h3 h4).mono ?_
 rintro e w1 ⟨rfl,rfl⟩
 go_wp2
 go_ret
 exact⟨rfl,(Below.refl _ _).alloc (Nat.le_refl _) _⟩
theorem lscomb_any (w:World) (a b:Int):Calls Tryz.prog 146 #[.agg #[],.int .i64 a,.int .i64 b] w fun e w'=>e = .returned (.int .i64 (min a b))∧Below w.heap.size w w':=by
 go_enter Tryz.func146,Tryz.ntmps146
 go_wp2
 all_goals
  go_ret
  exact⟨ret_i64 (by omega),(Below.refl _ _).alloc (Nat.le_refl _) _⟩
theorem below_box {w w':World} {o:Obj} (h:Below (w.alloc o).heap.size (w.alloc o) w'):Below w.heap.size w w':=((Below.refl _ _).alloc (Nat.le_refl _) _).trans (h.mono (by simp))
theorem below_box2 {w w1 w2:World} {o:Obj} (h:Below (w.alloc o).heap.size (w.alloc o) w1) (h2:Below w1.heap.size w1 w2):Below w.heap.size w w2:=below_box (h.trans (h2.mono h.size))
theorem comb_any (w:World) (k:Int) (j1 j2 j3 j4:Int) (a b:Int) (h1:-9223372036854775808≤a) (h2:a≤9223372036854775807) (h3:-9223372036854775808≤b) (h4:b≤9223372036854775807):Calls Tryz.prog 113 #[.agg #[.int .u8 k,.int .i64 j1,.int .i64 j2,.int .i64 j3,.int .i64 j4],.int .i64 a,.int .i64 b] w fun e w'=>e = .returned (.int .i64 (combF k a b))∧Below w.heap.size w w':=by
 by_cases k1:k=1
 ·subst k1
  go_enter Tryz.func113,Tryz.ntmps113
  go_wp2_with fail
  refine (of1 _ j1 j2 j3 j4).mono ?_
  rintro e w1 ⟨rfl,hb⟩
  have HB:=hide hb
  clear hb
  go_wp2_with fail
  refine (rkcomb_any _ a b h1 h2 h3 h4).mono ?_
  rintro e w2 ⟨rfl,hb2⟩
  have HB2:=hide hb2
  clear hb2
  go_wp2
  go_ret
  exact⟨rfl,below_box2 HB.out HB2.out⟩
 by_cases k2:k=2
 ·subst k2
  go_enter Tryz.func113,Tryz.ntmps113
  go_wp2_with fail
  refine (of2 _ j1 j2 j3 j4).mono ?_
  rintro e w1 ⟨rfl,hb⟩
  have HB:=hide hb
  clear hb
  go_wp2_with fail
  refine (lscomb_any _ a b).mono ?_
  rintro e w2 ⟨rfl,hb2⟩
  have HB2:=hide hb2
  clear hb2
  go_wp2
  go_ret
  exact⟨rfl,below_box2 HB.out HB2.out⟩
 by_cases k3:k=3
 ·subst k3
  go_enter Tryz.func113,Tryz.ntmps113
  go_wp2_with fail
  refine (of3 _ j1 j2 j3 j4).mono ?_
  rintro e w1 ⟨rfl,hb⟩
  have HB:=hide hb
  clear hb
  go_wp2_with fail
  refine (lscomb_any _ a b).mono ?_
  rintro e w2 ⟨rfl,hb2⟩
  have HB2:=hide hb2
  clear hb2
  go_wp2
  go_ret
  exact⟨rfl,below_box2 HB.out HB2.out⟩
 ·
  go_enter Tryz.func113,Tryz.ntmps113
  go_wp2_with fail
  refine (of0 _ k k1 k2 k3 j1 j2 j3 j4).mono ?_
  rintro e w1 ⟨rfl,hb⟩
  have HB:=hide hb
  clear hb
  go_wp2
  go_ret
  exact⟨by rw[combF,if_neg k1,if_neg (by omega)];rfl,below_box HB.out⟩
theorem below_dr {B:Nat} {a w:World} (h:Below B a.drew w):Below B a w:=⟨h.os,h.tape,h.output,h.size,h.block⟩
theorem shares_any (w:World) (k:Int) (j1 j2 j3 j4:Int):Calls Tryz.prog 108 #[.agg #[.int .u8 k,.int .i64 j1,.int .i64 j2,.int .i64 j3,.int .i64 j4]] w fun e w'=>e = .returned (.tuple #[.bool (decide (k=1)),.bool (decide (k=1) || decide (k=2) || decide (k=3))])∧Below w.heap.size w w':=by
 by_cases k1:k=1
 ·have ta:=sharer_ranks
  subst k1
  go_enter Tryz.func108,Tryz.ntmps108
  go_wp2_with fail
  refine (of1 _ j1 j2 j3 j4).mono ?_
  rintro e ws ⟨rfl,hb⟩
  have HB:=hide hb
  clear hb
  go_upto_region 3 with fail
  refine wp_region_held_drew (S:=Kept ws) (by kernel_rfl) (Kept.drew ws) (fun hS0=>?_)
  refine tka 0 12 ?_
  refine tka 1 13 ?_
  refine tka 2 14 ?_
  refine tka 3 2 ?_
  refine tka 4 3 ?_
  refine wpAnyH_done (by kernel_rfl) ?_ _
  go_wp2
  exact bodyPost_ret (by simp[results,Tryz.results108,go_sem];try rfl) rfl ⟨rfl,below_box2 HB.out (below_dr (Below.refl _ _))⟩
 by_cases k2:k=2
 ·have ta:=sharer_labels
  subst k2
  go_enter Tryz.func108,Tryz.ntmps108
  go_wp2_with fail
  refine (of2 _ j1 j2 j3 j4).mono ?_
  rintro e ws ⟨rfl,hb⟩
  have HB:=hide hb
  clear hb
  go_upto_region 3 with fail
  refine wp_region_held_drew (S:=Kept ws) (by kernel_rfl) (Kept.drew ws) (fun hS0=>?_)
  refine tka 0 12 ?_
  refine tka 1 13 ?_
  refine tka 2 14 ?_
  refine tka 3 2 ?_
  refine tka 4 3 ?_
  refine wpAnyH_done (by kernel_rfl) ?_ _
  go_wp2
  exact bodyPost_ret (by simp[results,Tryz.results108,go_sem];try rfl) rfl ⟨rfl,below_box2 HB.out (below_dr (Below.refl _ _))⟩
 by_cases k3:k=3
 ·have ta:=sharer_ways
  subst k3
  go_enter Tryz.func108,Tryz.ntmps108
  go_wp2_with fail
  refine (of3 _ j1 j2 j3 j4).mono ?_
  rintro e ws ⟨rfl,hb⟩
  have HB:=hide hb
  clear hb
  go_upto_region 3 with fail
  refine wp_region_held_drew (S:=Kept ws) (by kernel_rfl) (Kept.drew ws) (fun hS0=>?_)
  refine tka 0 12 ?_
  refine tka 1 13 ?_
  refine tka 2 14 ?_
  refine tka 3 2 ?_
  refine tka 4 3 ?_
  refine wpAnyH_done (by kernel_rfl) ?_ _
  go_wp2
  exact bodyPost_ret (by simp[results,Tryz.results108,go_sem];try rfl) rfl ⟨rfl,below_box2 HB.out (below_dr (Below.refl _ _))⟩
 have ta:=sharer_nil
 go_enter Tryz.func108,Tryz.ntmps108
 go_wp2_with fail
 refine (of0 _ k k1 k2 k3 j1 j2 j3 j4).mono ?_
 rintro e ws ⟨rfl,hb⟩
 have HB:=hide hb
 clear hb
 go_upto_region 3 with fail
 refine wp_region_held_drew (S:=Kept ws) (by kernel_rfl) (Kept.drew ws) (fun hS0=>?_)
 refine tka 0 12 ?_
 refine tka 1 13 ?_
 refine tka 2 14 ?_
 refine tka 3 2 ?_
 refine tka 4 3 ?_
 refine wpAnyH_done (by kernel_rfl) ?_ _
 go_wp2
 exact bodyPost_ret (by simp[results,Tryz.results108,go_sem];try rfl) rfl ⟨by simp[k1,k2,k3],below_box2 HB.out (below_dr (Below.refl _ _))⟩
theorem heap_alloc_keep {w:World} {o c:Obj} {b:Nat} (h:w.heap[b]?=some c):(w.alloc o).heap[b]?=some c:=(((Below.refl w.heap.size w).alloc (Nat.le_refl _) o).block b (Array.getElem?_eq_some_iff.1 h).1).trans h
def joinF (k:Int) (s m q r:Int):Int×Int:=if k=1 then (dadd s q,max m r) else if k=2∨k=3 then (dadd s q,dadd m r) else (0,0)
theorem join_any (w:World) (k:Int) (j1 j2 j3 j4:Int) (s m q r:Int) (hs:-9223372036854775808≤s∧s≤9223372036854775807) (hm:-9223372036854775808≤m∧m≤9223372036854775807) (hq:-9223372036854775808≤q∧q≤9223372036854775807) (hr:-9223372036854775808≤r∧r≤9223372036854775807):Calls Tryz.prog 95 #[.agg #[.int .u8 k,.int .i64 j1,.int .i64 j2,.int .i64 j3,.int .i64 j4],.agg #[.int .i64 s,.int .i64 m],.agg #[.int .i64 q,.int .i64 r]] w fun e w'=>e = .returned (.agg #[.int .i64 (joinF k s m q r).1,.int .i64 (joinF k s m q r).2])∧Below w.heap.size w w':=by
 obtain⟨u,hu⟩:∃u,(((w.alloc (.cells #[.int .u8 k,.int .i64 j1,.int .i64 j2,.int .i64 j3,.int .i64 j4] 27)).alloc (.cells #[.int .i64 s,.int .i64 m] 165)).alloc (.cells #[.int .i64 q,.int .i64 r] 165)).alloc (.cells #[.int .i64 0,.int .i64 0] 165)=u:=⟨_,rfl⟩
 have hzu:w.heap.size+1+1+1<u.heap.size:=by rw[←hu];simp
 have hbu:=hide (show Below w.heap.size w u by rw[←hu];exact (((Below.refl _ _).alloc (Nat.le_refl _) _).alloc (by simp) _).alloc (by simp;omega) _ |>.alloc (by simp;omega) _)
 have M0:=hide (show u.heap[w.heap.size]?=some (Obj.cells #[.int .u8 k,.int .i64 j1,.int .i64 j2,.int .i64 j3,.int .i64 j4] 27) by rw[←hu];exact heap_alloc_keep (heap_alloc_keep (heap_alloc_keep ((by have h:=heap_alloc_last w (.cells #[.int .u8 k,.int .i64 j1,.int .i64 j2,.int .i64 j3,.int .i64 j4] 27);simpa using h)))))
 have M1:=hide (show u.heap[w.heap.size+1]?=some (Obj.cells #[.int .i64 s,.int .i64 m] 165) by rw[←hu];exact heap_alloc_keep (heap_alloc_keep ((by have h:=heap_alloc_last (w.alloc (.cells #[.int .u8 k,.int .i64 j1,.int .i64 j2,.int .i64 j3,.int .i64 j4] 27)) (.cells #[.int .i64 s,.int .i64 m] 165);simpa using h))))
 have M2:=hide (show u.heap[w.heap.size+1+1]?=some (Obj.cells #[.int .i64 q,.int .i64 r] 165) by rw[←hu];exact heap_alloc_keep ((by have h:=heap_alloc_last ((w.alloc (.cells #[.int .u8 k,.int .i64 j1,.int .i64 j2,.int .i64 j3,.int .i64 j4] 27)).alloc (.cells #[.int .i64 s,.int .i64 m] 165)) (.cells #[.int .i64 q,.int .i64 r] 165);simpa using h)))
 have M3:=hide (show u.heap[w.heap.size+1+1+1]?=some (Obj.cells #[.int .i64 0,.int .i64 0] 165) by rw[←hu];exact (by have h:=heap_alloc_last (((w.alloc (.cells #[.int .u8 k,.int .i64 j1,.int .i64 j2,.int .i64 j3,.int .i64 j4] 27)).alloc (.cells #[.int .i64 s,.int .i64 m] 165)).alloc (.cells #[.int .i64 q,.int .i64 r] 165)) (.cells #[.int .i64 0,.int .i64 0] 165);simpa using h))
 obtain⟨c0,c1,c2,c3,c4⟩:=zr5 M0.out
 clear M0
 have d0:u.cell? ⟨w.heap.size+1,0,none⟩=some (.int .i64 s):=cell_of_row _ _ 0 _ _ _ M1.out
 have d1:u.cell? ⟨w.heap.size+1+1,0,none⟩=some (.int .i64 q):=cell_of_row _ _ 0 _ _ _ M2.out
 by_cases k1:k=1
 ·subst k1
  by_cases hlt:m<r
  ·have HU:=hide hu
   clear hu
   go_enter Tryz.func95,Tryz.ntmps95
   go_wp2_with fail
   rw[HU.out]
   refine (add_any _ s q hs.1 hs.2 hq.1 hq.2).mono ?_
   rintro e w1 ⟨rfl,rfl⟩
   go_wp2_with fail
   refine (shares_any _ 1 j1 j2 j3 j4).mono ?_
   rintro e w1 ⟨rfl,hb⟩
   have HB:=hide hb
   have hzw:=hb.size
   clear c0 c1 c2 c3 c4 d0 d1
   have N1:=(hb.block _ (by omega)).trans M1.out
   have N2:=(hb.block _ (by omega)).trans M2.out
   have N3:=(hb.block _ (by omega)).trans M3.out
   clear hb
   have x2:w1.cell? ⟨w.heap.size+1,1,none⟩=some (.int .i64 m):=cell_of_row _ _ 1 _ _ _ N1
   have x4:w1.cell? ⟨w.heap.size+1+1,1,none⟩=some (.int .i64 r):=cell_of_row _ _ 1 _ _ _ N2
   obtain⟨z0,z1⟩:=zr2 N3
   have zq:=zf N3;have zf0:=zq 0;have zf1:=zq 1;clear zq
   clear N1 N2
   obtain⟨f,hf⟩:∃z,(w1.setCell ⟨w.heap.size+1+1+1,0,none⟩ (.int .i64 (dadd s q))).setCell ⟨w.heap.size+1+1+1,1,none⟩ (.int .i64 (r))=z:=⟨_,rfl⟩
   have hfB:Below w.heap.size w f:=by rw[←hf];exact ((hbu.out.trans (HB.out.mono (by omega))).setCell (p:=⟨w.heap.size+1+1+1,0,none⟩) (by show w.heap.size≤w.heap.size+1+1+1;omega) _).setCell (p:=⟨w.heap.size+1+1+1,1,none⟩) (by show w.heap.size≤w.heap.size+1+1+1;omega) _
   have hf2:=heap_setCell_same _ (w.heap.size+1+1+1) 1 _ _ (.int .i64 (r)) (heap_setCell_same w1 (w.heap.size+1+1+1) 0 _ _ (.int .i64 (dadd s q)) N3)
   rw[hf] at hf2
   obtain⟨y0,y1⟩:=zr2 hf2
   have HFin:=hide (And.intro hf (And.intro hfB (And.intro y0 y1)))
   clear hf hfB hf2 y0 y1 N3
   go_wp2
   obtain⟨hf,hfB,y0,y1⟩:=HFin.out
   rw[hf]
   exact bodyPost_ret (v:=.agg #[.int .i64 (dadd s q),.int .i64 (r)]) (by simp[results,Tryz.results95,go_sem,y0,y1]) rfl ⟨by rw[show joinF 1 s m q r=(dadd s q,r) by simp[joinF];omega],hfB⟩
  have HU:=hide hu
  clear hu
  go_enter Tryz.func95,Tryz.ntmps95
  go_wp2_with fail
  rw[HU.out]
  refine (add_any _ s q hs.1 hs.2 hq.1 hq.2).mono ?_
  rintro e w1 ⟨rfl,rfl⟩
  go_wp2_with fail
  refine (shares_any _ 1 j1 j2 j3 j4).mono ?_
  rintro e w1 ⟨rfl,hb⟩
  have HB:=hide hb
  have hzw:=hb.size
  clear c0 c1 c2 c3 c4 d0 d1
  have N1:=(hb.block _ (by omega)).trans M1.out
  have N2:=(hb.block _ (by omega)).trans M2.out
  have N3:=(hb.block _ (by omega)).trans M3.out
  clear hb
  have x2:w1.cell? ⟨w.heap.size+1,1,none⟩=some (.int .i64 m):=cell_of_row _ _ 1 _ _ _ N1
  have x4:w1.cell? ⟨w.heap.size+1+1,1,none⟩=some (.int .i64 r):=cell_of_row _ _ 1 _ _ _ N2
  obtain⟨z0,z1⟩:=zr2 N3
  have zq:=zf N3;have zf0:=zq 0;have zf1:=zq 1;clear zq
  clear N1 N2
  obtain⟨f,hf⟩:∃z,(w1.setCell ⟨w.heap.size+1+1+1,0,none⟩ (.int .i64 (dadd s q))).setCell ⟨w.heap.size+1+1+1,1,none⟩ (.int .i64 (m))=z:=⟨_,rfl⟩
  have hfB:Below w.heap.size w f:=by rw[←hf];exact ((hbu.out.trans (HB.out.mono (by omega))).setCell (p:=⟨w.heap.size+1+1+1,0,none⟩) (by show w.heap.size≤w.heap.size+1+1+1;omega) _).setCell (p:=⟨w.heap.size+1+1+1,1,none⟩) (by show w.heap.size≤w.heap.size+1+1+1;omega) _
  have hf2:=heap_setCell_same _ (w.heap.size+1+1+1) 1 _ _ (.int .i64 (m)) (heap_setCell_same w1 (w.heap.size+1+1+1) 0 _ _ (.int .i64 (dadd s q)) N3)
  rw[hf] at hf2
  obtain⟨y0,y1⟩:=zr2 hf2
  have HFin:=hide (And.intro hf (And.intro hfB (And.intro y0 y1)))
  clear hf hfB hf2 y0 y1 N3
  go_wp2
  obtain⟨hf,hfB,y0,y1⟩:=HFin.out
  rw[hf]
  exact bodyPost_ret (v:=.agg #[.int .i64 (dadd s q),.int .i64 (m)]) (by simp[results,Tryz.results95,go_sem,y0,y1]) rfl ⟨by rw[show joinF 1 s m q r=(dadd s q,m) by simp[joinF];omega],hfB⟩
 by_cases k2:k=2
 ·subst k2
  have HU:=hide hu
  clear hu
  go_enter Tryz.func95,Tryz.ntmps95
  go_wp2_with fail
  rw[HU.out]
  refine (add_any _ s q hs.1 hs.2 hq.1 hq.2).mono ?_
  rintro e w1 ⟨rfl,rfl⟩
  go_wp2_with fail
  refine (shares_any _ 2 j1 j2 j3 j4).mono ?_
  rintro e w1 ⟨rfl,hb⟩
  have HB:=hide hb
  have hzw:=hb.size
  clear c0 c1 c2 c3 c4 d0 d1
  have N1:=(hb.block _ (by omega)).trans M1.out
  have N2:=(hb.block _ (by omega)).trans M2.out
  have N3:=(hb.block _ (by omega)).trans M3.out
  clear hb
  have x2:w1.cell? ⟨w.heap.size+1,1,none⟩=some (.int .i64 m):=cell_of_row _ _ 1 _ _ _ N1
  have x4:w1.cell? ⟨w.heap.size+1+1,1,none⟩=some (.int .i64 r):=cell_of_row _ _ 1 _ _ _ N2
  obtain⟨z0,z1⟩:=zr2 N3
  have zq:=zf N3;have zf0:=zq 0;have zf1:=zq 1;clear zq
  clear N1 N2
  obtain⟨f,hf⟩:∃z,(w1.setCell ⟨w.heap.size+1+1+1,0,none⟩ (.int .i64 (dadd s q))).setCell ⟨w.heap.size+1+1+1,1,none⟩ (.int .i64 (dadd m r))=z:=⟨_,rfl⟩
  have hfB:Below w.heap.size w f:=by rw[←hf];exact ((hbu.out.trans (HB.out.mono (by omega))).setCell (p:=⟨w.heap.size+1+1+1,0,none⟩) (by show w.heap.size≤w.heap.size+1+1+1;omega) _).setCell (p:=⟨w.heap.size+1+1+1,1,none⟩) (by show w.heap.size≤w.heap.size+1+1+1;omega) _
  have hf2:=heap_setCell_same _ (w.heap.size+1+1+1) 1 _ _ (.int .i64 (dadd m r)) (heap_setCell_same w1 (w.heap.size+1+1+1) 0 _ _ (.int .i64 (dadd s q)) N3)
  rw[hf] at hf2
  obtain⟨y0,y1⟩:=zr2 hf2
  have HFin:=hide (And.intro hf (And.intro hfB (And.intro y0 y1)))
  clear hf hfB hf2 y0 y1 N3
  go_wp2_with fail
  refine (add_any _ m r hm.1 hm.2 hr.1 hr.2).mono ?_
  rintro e w2 ⟨rfl,rfl⟩
  go_wp2
  obtain⟨hf,hfB,y0,y1⟩:=HFin.out
  rw[hf]
  exact bodyPost_ret (v:=.agg #[.int .i64 (dadd s q),.int .i64 (dadd m r)]) (by simp[results,Tryz.results95,go_sem,y0,y1]) rfl ⟨by simp[joinF],hfB⟩
 by_cases k3:k=3
 ·subst k3
  have HU:=hide hu
  clear hu
  go_enter Tryz.func95,Tryz.ntmps95
  go_wp2_with fail
  rw[HU.out]
  refine (add_any _ s q hs.1 hs.2 hq.1 hq.2).mono ?_
  rintro e w1 ⟨rfl,rfl⟩
  go_wp2_with fail
  refine (shares_any _ 3 j1 j2 j3 j4).mono ?_
  rintro e w1 ⟨rfl,hb⟩
  have HB:=hide hb
  have hzw:=hb.size
  clear c0 c1 c2 c3 c4 d0 d1
  have N1:=(hb.block _ (by omega)).trans M1.out
  have N2:=(hb.block _ (by omega)).trans M2.out
  have N3:=(hb.block _ (by omega)).trans M3.out
  clear hb
  have x2:w1.cell? ⟨w.heap.size+1,1,none⟩=some (.int .i64 m):=cell_of_row _ _ 1 _ _ _ N1
  have x4:w1.cell? ⟨w.heap.size+1+1,1,none⟩=some (.int .i64 r):=cell_of_row _ _ 1 _ _ _ N2
  obtain⟨z0,z1⟩:=zr2 N3
  have zq:=zf N3;have zf0:=zq 0;have zf1:=zq 1;clear zq
  clear N1 N2
  obtain⟨f,hf⟩:∃z,(w1.setCell ⟨w.heap.size+1+1+1,0,none⟩ (.int .i64 (dadd s q))).setCell ⟨w.heap.size+1+1+1,1,none⟩ (.int .i64 (dadd m r))=z:=⟨_,rfl⟩
  have hfB:Below w.heap.size w f:=by rw[←hf];exact ((hbu.out.trans (HB.out.mono (by omega))).setCell (p:=⟨w.heap.size+1+1+1,0,none⟩) (by show w.heap.size≤w.heap.size+1+1+1;omega) _).setCell (p:=⟨w.heap.size+1+1+1,1,none⟩) (by show w.heap.size≤w.heap.size+1+1+1;omega) _
  have hf2:=heap_setCell_same _ (w.heap.size+1+1+1) 1 _ _ (.int .i64 (dadd m r)) (heap_setCell_same w1 (w.heap.size+1+1+1) 0 _ _ (.int .i64 (dadd s q)) N3)
  rw[hf] at hf2
  obtain⟨y0,y1⟩:=zr2 hf2
  have HFin:=hide (And.intro hf (And.intro hfB (And.intro y0 y1)))
  clear hf hfB hf2 y0 y1 N3
  go_wp2_with fail
  refine (add_any _ m r hm.1 hm.2 hr.1 hr.2).mono ?_
  rintro e w2 ⟨rfl,rfl⟩
  go_wp2
  obtain⟨hf,hfB,y0,y1⟩:=HFin.out
  rw[hf]
  exact bodyPost_ret (v:=.agg #[.int .i64 (dadd s q),.int .i64 (dadd m r)]) (by simp[results,Tryz.results95,go_sem,y0,y1]) rfl ⟨by simp[joinF],hfB⟩
 obtain⟨hk1,hk2,hk3⟩:decide (k=1)=false∧decide (k=2)=false∧decide (k=3)=false:=by simp[k1,k2,k3]
 have HU:=hide hu
 clear hu
 go_enter Tryz.func95,Tryz.ntmps95
 go_wp2_with fail
 rw[HU.out]
 refine (add_any _ s q hs.1 hs.2 hq.1 hq.2).mono ?_
 rintro e w1 ⟨rfl,rfl⟩
 go_wp2_with fail
 refine (shares_any _ k j1 j2 j3 j4).mono ?_
 rintro e w1 ⟨rfl,hb⟩
 have HB:=hide hb
 have hzw:=hb.size
 clear c0 c1 c2 c3 c4 d0 d1
 have N1:=(hb.block _ (by omega)).trans M1.out
 have N2:=(hb.block _ (by omega)).trans M2.out
 have N3:=(hb.block _ (by omega)).trans M3.out
 clear hb
 rw[hk1,hk2,hk3]
 have x2:w1.cell? ⟨w.heap.size+1,1,none⟩=some (.int .i64 m):=cell_of_row _ _ 1 _ _ _ N1
 have x4:w1.cell? ⟨w.heap.size+1+1,1,none⟩=some (.int .i64 r):=cell_of_row _ _ 1 _ _ _ N2
 obtain⟨z0,z1⟩:=zr2 N3
 have zq:=zf N3;have zf0:=zq 0;have zf1:=zq 1;clear zq
 clear N1 N2
 obtain⟨f,hf⟩:∃z,(w1.setCell ⟨w.heap.size+1+1+1,0,none⟩ (.int .i64 (0))).setCell ⟨w.heap.size+1+1+1,1,none⟩ (.int .i64 (0))=z:=⟨_,rfl⟩
 have hfB:Below w.heap.size w f:=by rw[←hf];exact ((hbu.out.trans (HB.out.mono (by omega))).setCell (p:=⟨w.heap.size+1+1+1,0,none⟩) (by show w.heap.size≤w.heap.size+1+1+1;omega) _).setCell (p:=⟨w.heap.size+1+1+1,1,none⟩) (by show w.heap.size≤w.heap.size+1+1+1;omega) _
 have hf2:=heap_setCell_same _ (w.heap.size+1+1+1) 1 _ _ (.int .i64 (0)) (heap_setCell_same w1 (w.heap.size+1+1+1) 0 _ _ (.int .i64 (0)) N3)
 rw[hf] at hf2
 obtain⟨y0,y1⟩:=zr2 hf2
 have HFin:=hide (And.intro hf (And.intro hfB (And.intro y0 y1)))
 clear hf hfB hf2 y0 y1 N3
 go_wp2
 obtain⟨hf,hfB,y0,y1⟩:=HFin.out
 rw[hf]
 exact bodyPost_ret (v:=.agg #[.int .i64 (0),.int .i64 (0)]) (by simp[results,Tryz.results95,go_sem,y0,y1]) rfl ⟨by simp[joinF,k1,k2,k3],hfB⟩
def lk (x:Int):Lit:=.int .i64 x
theorem lk_key (x:Int):WideAt.IsKeyLit (lk x):=by trivial
theorem lk_ne {x y:Int} (h:x≠y):lk x≠lk y:=fun e=>by unfold lk at e;injection e with _ e;exact h e
def mailD (h:Bool) (x:Int):DataW Unit:=.agg [.lit (.bool h),.lit (.int .i64 x)]
def mailElem (v:Value):Option (DataW Unit×List MemPlace):=
 match v with
 | .agg cs=>match cs.toList with
  | [.bool h,.int .i64 x]=>some (mailD h x,[])
  | _=>none
 | _=>none
theorem mailElem_mk (h:Bool) (x:Int):mailElem (.agg #[.bool h,.int .i64 x])=some (mailD h x,[]):=rfl
theorem mailElem_inv {v:Value} {h:Bool} {x:Int} {ps:List MemPlace} (e:mailElem v=some (mailD h x,ps)):v = .agg #[.bool h,.int .i64 x]:=by
 unfold mailElem at e
 split at e
 ·rename_i cs
  split at e
  ·rename_i h' x' hc
   injection e with e
   injection e with e1 e2
   unfold mailD at e1
   injection e1 with e1
   injection e1 with e1 e3
   injection e1 with e1
   injection e1 with e1
   injection e3 with e3 e4
   injection e3 with e3
   injection e3 with _ e3
   subst e1 e3
   rw[show cs=cs.toList.toArray by simp,hc]
  cases e
 cases e
structure BoxIs (D:DataW Unit) (f:Int→Option Int):Prop where
 map:Maps.IsMap D
 has:∀k,Maps.has D (lk k)=(f k).isSome
 at_:∀k z,D.atKey (lk k) z=match f k with | some x=>mailD true x | none=>z
def bxPut (f:Int→Option Int) (k x:Int):Int→Option Int:=fun u=>if u=k then some x else f u
theorem BoxIs.empty:BoxIs (.map []) (fun _=>none):=⟨Maps.isMap_empty,fun _=>rfl,fun _ _=>rfl⟩
theorem BoxIs.put {D:DataW Unit} {f:Int→Option Int} (h:BoxIs D f) (k x:Int):BoxIs (D.put (lk k) (mailD true x)) (bxPut f k x):=by
 refine⟨h.map.put _ _,fun u=>?_,fun u z=>?_⟩
 ·unfold bxPut
  by_cases hu:u=k
  ·subst hu
   rw[if_pos rfl,Maps.has_put_same h.map (lk_key _)]
   rfl
  rw[if_neg hu,Maps.has_put_other (lk_ne hu)]
  exact h.has u
 unfold bxPut
 by_cases hu:u=k
 ·subst hu
  rw[if_pos rfl,Maps.atKey_put_same h.map (lk_key _)]
 rw[if_neg hu,Maps.atKey_put_other (lk_ne hu)]
 exact h.at_ u z
def addB (k:Int) (f:Int→Option Int) (m:Ms):Int→Option Int:=bxPut f m.1 (match f m.1 with | some x=>combF k x m.2 | none=>m.2)
def boxF (k:Int) (l:List Ms):Int→Option Int:=l.foldl (addB k) (fun _=>none)
theorem boxF_snoc (k:Int) (l:List Ms) (m:Ms):boxF k (l ++ [m])=addB k (boxF k l) m:=by
 unfold boxF
 rw[List.foldl_append]
 rfl
def mlOf (f:Option Int):Bool×Int:=match f with | some x=>(true,x) | none=>(false,0)
theorem lk_wf {x:Int} (h1:-9223372036854775808≤x) (h2:x≤9223372036854775807):(Lit.int .i64 x).wf=true:=by
 have e1:IntKind.i64.min=-9223372036854775808:=by decide
 have e2:IntKind.i64.max=9223372036854775807:=by decide
 simp[Lit.wf,e1,e2,h1,h2]
theorem map_below {w w':World} {k:TypeId} {R:Value→Option (DataW Unit×List MemPlace)} {b n:Nat} {D:DataW Unit} {B:Nat} (hb:Below B w w') (h:w.ownsMap Tryz.prog k R b n D) (hB:b<B):w'.ownsMap Tryz.prog k R b n D:=by
 obtain⟨es,clock,h1,h2⟩:=h
 exact⟨es,clock,(hb.block b hB).trans h1,h2⟩
theorem grown_after {w y w':World} {b:Nat} (hb:Below w.heap.size w y) (hg:y.grownBy w' (some b)):w.grownBy w' (some b):=
 ⟨hg.os.trans hb.os,hg.tape.trans hb.tape,hg.output.trans hb.output,Nat.le_trans hb.size hg.size,fun k hk hne=>(hg.block k (Nat.lt_of_lt_of_le hk hb.size) hne).trans (hb.block k hk)⟩
def BPost (b n:Nat) (f:Int→Option Int) (w:World) (e:Ending) (w':World):Prop:=e = .returned (.tuple #[])∧∃D,BoxIs D f∧w'.ownsMap Tryz.prog 3 mailElem b (n+1) D∧w.grownBy w' (some b)
theorem bput_any (w:World) (b n:Nat) (D:DataW Unit) (f:Int→Option Int) (hD:BoxIs D f) (hM:w.ownsMap Tryz.prog 3 mailElem b n D) (hn:n<1000000) (k j1 j2 j3 j4 t y:Int) (ht:-9223372036854775808≤t∧t≤9223372036854775807) (hy:-9223372036854775808≤y∧y≤9223372036854775807) (hf:∀x,f t=some x→-9223372036854775808≤x∧x≤9223372036854775807) :
  Calls Tryz.prog 110 #[.map (some b),.agg #[.int .u8 k,.int .i64 j1,.int .i64 j2,.int .i64 j3,.int .i64 j4],.agg #[.int .i64 t,.int .i64 y]] w (BPost b n (addB k f (t,y)) w):=by
 have K:Maps.Keyed Tryz.prog 3:=Maps.int_keyed Tryz.underlying3
 obtain⟨u,hu⟩:∃u,(w.alloc (.cells #[.int .u8 k,.int .i64 j1,.int .i64 j2,.int .i64 j3,.int .i64 j4] 27)).alloc (.cells #[.int .i64 t,.int .i64 y] 185)=u:=⟨_,rfl⟩
 have hzu:u.heap.size=w.heap.size+2:=by rw[←hu];simp
 have HBu:=hide (show Below w.heap.size w u by rw[←hu];exact ((Below.refl _ _).alloc (Nat.le_refl _) _).alloc (by simp) _)
 have G0:=hide (show u.heap[w.heap.size]?=some (.cells #[.int .u8 k,.int .i64 j1,.int .i64 j2,.int .i64 j3,.int .i64 j4] 27) by rw[←hu];exact (Below.heap_alloc _ _ _ (by simp)).trans (heap_alloc_last w _))
 have G1:=hide (show u.heap[w.heap.size+1]?=some (.cells #[.int .i64 t,.int .i64 y] 185) by rw[←hu];have h:=heap_alloc_last (w.alloc (.cells #[.int .u8 k,.int .i64 j1,.int .i64 j2,.int .i64 j3,.int .i64 j4] 27)) (.cells #[.int .i64 t,.int .i64 y] 185);rw[World.size_alloc] at h;exact h)
 have hbw:b<w.heap.size:=hM.lt
 have HMu:=hide (map_below HBu.out hM hbw)
 have HU:=hide hu
 have HD:=hide hD
 have HKT:=hide (Maps.keyOf_int_mk Tryz.underlying3 (lk_wf ht.1 ht.2))
 have HL:=hide (And.intro (show w.heap.size<u.heap.size by omega) (show w.heap.size+1<u.heap.size by omega))
 have e0:u.cell? ⟨w.heap.size+1,0,none⟩=some (.int .i64 t):=cell_of_row _ _ 0 _ _ _ G1.out
 have hzw:w.heap.size+2≤u.heap.size:=by omega
 clear hu hM hD hzu
 rcases hft:f t with _ | x
 ·go_enter Tryz.func110,Tryz.ntmps110
  go_upto_region 1 with fail
  rw[HU.out]
  obtain⟨v,hv⟩:∃v,u.alloc (.cells #[.bool false,.int .i64 0] 51)=v:=⟨_,rfl⟩
  have M0:v.heap[u.heap.size]?=some (.cells #[.bool false,.int .i64 0] 51):=by rw[←hv];exact heap_alloc_last _ _
  have HBv:=hide (show Below u.heap.size u v by rw[←hv];exact (Below.refl _ _).alloc (Nat.le_refl _) _)
  have HV:=hide hv
  have hvz:u.heap.size<v.heap.size:=by rw[←hv];simp
  clear hv
  have hhas:Maps.has D (lk t)=false:=by rw[HD.out.has t,hft];rfl
  go_upto_region 2 with (at_lookup;refine wpList_lookup_own_ok _ rfl _ _ 191 rfl 3 51 K Tryz.underlying191 mailElem (by kernel_rfl) (mailD false 0) [] (mailElem_mk _ _) b n D rfl HMu.out _ (lk t) rfl HKT.out ?_;intro v9 ps9 hv9;rw[HD.out.at_ t,hft] at hv9;obtain rfl:=mailElem_inv hv9;clear hv9)
  rw[HV.out]
  have f0:v.cell? ⟨w.heap.size+1,0,none⟩=some (.int .i64 t):=(HBv.out.cell (p:=⟨w.heap.size+1,0,none⟩) HL.out.2).trans (cell_of_row _ _ 0 _ _ _ G1.out)
  have f1:v.cell? ⟨w.heap.size+1,1,none⟩=some (.int .i64 y):=(HBv.out.cell (p:=⟨w.heap.size+1,1,none⟩) HL.out.2).trans (cell_of_row _ _ 1 _ _ _ G1.out)
  have hlv:w.heap.size+1<v.heap.size:=by omega
  have HMv:=hide (map_below HBv.out HMu.out (by omega))
  have HBy:=hide (HBu.out.trans (HBv.out.mono HBu.out.size))
  clear e0 M0 HV
  go_wp2_with (at_mapUpdate;refine wpList_mapUpdate_own _ rfl _ _ _ 191 rfl 3 51 K Tryz.underlying191 mailElem b n D rfl HMv.out (by unfold maxLen;omega) _ _ (lk t) rfl rfl HKT.out (mailD true (y)) [] rfl ?_;intro w1 hown1 hg1)
  have HFin:Hid (BPost b n (addB k f (t,y)) w (.returned (.tuple #[])) w1):=hide ⟨rfl,_,by have h:=HD.out.put t (y);rw[show bxPut f t y=addB k f (t,y) by unfold addB;rw[hft]] at h;exact h,hown1,grown_after HBy.out hg1⟩
  clear hown1 hg1
  go_wp2
  go_end0
  exact HFin.out
 have hxb:=hf x hft
 go_enter Tryz.func110,Tryz.ntmps110
 go_upto_region 1 with fail
 rw[HU.out]
 obtain⟨v,hv⟩:∃v,u.alloc (.cells #[.bool true,.int .i64 x] 51)=v:=⟨_,rfl⟩
 have M0:v.heap[u.heap.size]?=some (.cells #[.bool true,.int .i64 x] 51):=by rw[←hv];exact heap_alloc_last _ _
 have HBv:=hide (show Below u.heap.size u v by rw[←hv];exact (Below.refl _ _).alloc (Nat.le_refl _) _)
 have HV:=hide hv
 have hvz:u.heap.size<v.heap.size:=by rw[←hv];simp
 clear hv
 have hhas:Maps.has D (lk t)=true:=by rw[HD.out.has t,hft];rfl
 go_upto_region 2 with (at_lookup;refine wpList_lookup_own_ok _ rfl _ _ 191 rfl 3 51 K Tryz.underlying191 mailElem (by kernel_rfl) (mailD false 0) [] (mailElem_mk _ _) b n D rfl HMu.out _ (lk t) rfl HKT.out ?_;intro v9 ps9 hv9;rw[HD.out.at_ t,hft] at hv9;obtain rfl:=mailElem_inv hv9;clear hv9)
 rw[HV.out]
 obtain⟨q,hq⟩:∃q,u.heap.size=q:=⟨_,rfl⟩
 rw[hq] at M0 hvz ⊢
 have HQ:=hide hq
 have g1:v.cell? ⟨q,1,none⟩=some (.int .i64 x):=cell_of_row _ _ 1 _ _ _ M0
 have c0:v.cell? ⟨w.heap.size,0,none⟩=some (.int .u8 k):=(HBv.out.cell (p:=⟨w.heap.size,0,none⟩) HL.out.1).trans (cell_of_row _ _ 0 _ _ _ G0.out)
 have c1:v.cell? ⟨w.heap.size,1,none⟩=some (.int .i64 j1):=(HBv.out.cell (p:=⟨w.heap.size,1,none⟩) HL.out.1).trans (cell_of_row _ _ 1 _ _ _ G0.out)
 have c2:v.cell? ⟨w.heap.size,2,none⟩=some (.int .i64 j2):=(HBv.out.cell (p:=⟨w.heap.size,2,none⟩) HL.out.1).trans (cell_of_row _ _ 2 _ _ _ G0.out)
 have c3:v.cell? ⟨w.heap.size,3,none⟩=some (.int .i64 j3):=(HBv.out.cell (p:=⟨w.heap.size,3,none⟩) HL.out.1).trans (cell_of_row _ _ 3 _ _ _ G0.out)
 have c4:v.cell? ⟨w.heap.size,4,none⟩=some (.int .i64 j4):=(HBv.out.cell (p:=⟨w.heap.size,4,none⟩) HL.out.1).trans (cell_of_row _ _ 4 _ _ _ G0.out)
 have f1:v.cell? ⟨w.heap.size+1,1,none⟩=some (.int .i64 y):=(HBv.out.cell (p:=⟨w.heap.size+1,1,none⟩) HL.out.2).trans (cell_of_row _ _ 1 _ _ _ G1.out)
 have HMv:=hide (map_below HBv.out HMu.out (by omega))
 have hlv:w.heap.size+1<v.heap.size:=by omega
 have hlv0:w.heap.size<v.heap.size:=by omega
 clear e0 M0 HV hq
 go_wp2_with fail
 refine (comb_any v k j1 j2 j3 j4 x y hxb.1 hxb.2 hy.1 hy.2).mono ?_
 rintro e z ⟨rfl,hz⟩
 have G1z:=(hz.block _ hlv).trans ((HBv.out.block _ HL.out.2).trans G1.out)
 have HMz:=hide (map_below hz HMv.out (by omega))
 have HBz:=hide (HBu.out.trans ((HBv.out.trans (hz.mono HBv.out.size)).mono HBu.out.size))
 have hlz:w.heap.size+1<z.heap.size:=Nat.lt_of_lt_of_le hlv hz.size
 clear hz c0 c1 c2 c3 c4 f1 g1
 obtain⟨f0,f1⟩:=zr2 G1z
 have ff1:=zf G1z 1
 obtain⟨cv,hcv⟩:∃cv,combF k x y=cv:=⟨_,rfl⟩
 rw[hcv]
 have HCV:=hide hcv
 clear hcv
 have G2:=heap_setCell_same z (w.heap.size+1) 1 _ _ (.int .i64 cv) G1z
 obtain⟨s,hs⟩:∃s,z.setCell ⟨w.heap.size+1,1,none⟩ (.int .i64 cv)=s:=⟨_,rfl⟩
 rw[hs] at G2
 have HMs:=hide (show s.ownsMap Tryz.prog 3 mailElem b n D by rw[←hs];exact HMz.out.setCell (by show b≠w.heap.size+1;omega) _)
 have HBs:=hide (show Below w.heap.size w s by rw[←hs];exact HBz.out.setCell (p:=⟨w.heap.size+1,1,none⟩) (by show w.heap.size≤w.heap.size+1;omega) _)
 have HSs:=hide hs
 clear hs G1z
 go_upto_region 4 with fail
 rw[HSs.out]
 clear f0 f1 ff1
 obtain⟨f0,f1⟩:=zr2 G2
 have hls:=lt_of_block G2
 clear G2 HSs
 go_wp2_with (at_mapUpdate;refine wpList_mapUpdate_own _ rfl _ _ _ 191 rfl 3 51 K Tryz.underlying191 mailElem b n D rfl HMs.out (by unfold maxLen;omega) _ _ (lk t) rfl rfl HKT.out (mailD true (cv)) [] rfl ?_;intro w1 hown1 hg1)
 have HFin:Hid (BPost b n (addB k f (t,y)) w (.returned (.tuple #[])) w1):=hide ⟨rfl,_,by have h:=HD.out.put t (cv);rw[show bxPut f t cv=addB k f (t,y) by unfold addB;rw[hft,←HCV.out]] at h;exact h,hown1,grown_after HBs.out hg1⟩
 clear hown1 hg1
 go_wp2
 go_end0
 exact HFin.out
def shareF (a n:Int):Int×Int:=if a<0∨n<1 then (0,2) else (a.tdiv n,0)
theorem tdiv_in {a n:Int} (h0:0≤a) (h1:a≤9223372036854775807) (hn:1≤n):0≤a.tdiv n∧a.tdiv n≤9223372036854775807:=by
 have e:a.tdiv n=a / n:=Int.tdiv_eq_ediv_of_nonneg h0
 rw[e]
 exact⟨Int.ediv_nonneg h0 (by omega),Int.le_trans (Int.ediv_le_self n h0) h1⟩
theorem share_any (w:World) (a n:Int) (ha:-9223372036854775808≤a∧a≤9223372036854775807):Calls Tryz.prog 143 #[.int .i64 a,.int .i64 n] w fun e w'=>e = .returned (.tuple #[.int .i64 (shareF a n).1,.int .i64 (shareF a n).2])∧w=w':=by
 by_cases h1:a<0
 ·go_enter Tryz.func143,Tryz.ntmps143
  go_wp2
  exact bodyPost_ret (by simp[results,Tryz.results143,go_sem];try rfl) rfl ⟨by simp[shareF,h1],rfl⟩
 by_cases h2:n<1
 ·go_enter Tryz.func143,Tryz.ntmps143
  go_wp2
  exact bodyPost_ret (by simp[results,Tryz.results143,go_sem];try rfl) rfl ⟨by simp[shareF,h2],rfl⟩
 have hq:=tdiv_in (a:=a) (n:=n) (by omega) ha.2 (by omega)
 have w1:IntKind.i64.wrap (a.tdiv n)=a.tdiv n:=IntWalk.i64_in _ (by omega)
 have d0:¬n=0:=by omega
 go_enter Tryz.func143,Tryz.ntmps143
 go_wp2
 exact bodyPost_ret (by simp[results,Tryz.results143,go_sem];try rfl) rfl ⟨by rw[show shareF a n=(a.tdiv n,0) by rw[shareF,if_neg (by omega)]],rfl⟩
theorem ornone_any (w:World) (x e0:Int):Calls Tryz.prog 142 #[.int .i64 x,.int .i64 e0] w fun e w'=>e = .returned (.int .i64 (if e0=0 then x else 0))∧w=w':=by
 by_cases h:e0=0
 ·subst h
  go_enter Tryz.func142,Tryz.ntmps142
  go_wp2
  go_ret
  exact⟨rfl,rfl⟩
 go_enter Tryz.func142,Tryz.ntmps142
 go_wp2
 go_ret
 first | exact⟨rfl,rfl⟩ | exact⟨by rw[if_neg h];rfl,rfl⟩
def evenF (a n:Int):Int:=if (shareF a n).2=0 then (shareF a n).1 else 0
theorem rkstart_any (w:World) (n:Int):Calls Tryz.prog 141 #[.int .i64 n] w fun e w'=>e = .returned (.int .i64 (evenF (4294967296) n))∧w=w':=by
 go_enter Tryz.func141,Tryz.ntmps141
 go_wp2_with fail
 refine (share_any _ (4294967296) n ⟨by decide,by decide⟩).mono ?_
 rintro e w1 ⟨rfl,rfl⟩
 go_wp2_with fail
 refine (ornone_any _ _ _).mono ?_
 rintro e w1 ⟨rfl,rfl⟩
 rw[show (if (shareF 4294967296 n).2=0 then (shareF 4294967296 n).1 else 0)=evenF 4294967296 n from rfl]
 go_wp2
 go_ret
 exact⟨rfl,rfl⟩
theorem rkgive_any (w:World) (a n:Int) (ha:-9223372036854775808≤a∧a≤9223372036854775807):Calls Tryz.prog 139 #[.int .i64 a,.int .i64 n] w fun e w'=>e = .returned (.int .i64 (evenF a n))∧w=w':=by
 go_enter Tryz.func139,Tryz.ntmps139
 go_wp2_with fail
 refine (share_any _ a n ha).mono ?_
 rintro e w1 ⟨rfl,rfl⟩
 go_wp2_with fail
 refine (ornone_any _ _ _).mono ?_
 rintro e w1 ⟨rfl,rfl⟩
 rw[show (if (shareF a n).2=0 then (shareF a n).1 else 0)=evenF a n from rfl]
 go_wp2
 go_ret
 exact⟨rfl,rfl⟩
theorem rks_any (w:World) (k j1 j2 j3 j4 V v:Int):Calls Tryz.prog 138 #[.agg #[],.agg #[.int .u8 k,.int .i64 j1,.int .i64 j2,.int .i64 j3,.int .i64 j4],.int .i64 V,.int .i64 v] w fun e w'=>e = .returned (.tuple #[.int .i64 (evenF 4294967296 V),.bool true])∧Below w.heap.size w w':=by
 have HBX:=hide (((Below.refl w.heap.size w).alloc (Nat.le_refl _) (.cells #[] 129)).alloc (by simp) (.cells #[.int .u8 k,.int .i64 j1,.int .i64 j2,.int .i64 j3,.int .i64 j4] 27))
 go_enter Tryz.func138,Tryz.ntmps138
 go_wp2_with fail
 refine (rkstart_any _ V).mono ?_
 rintro e w1 ⟨rfl,rfl⟩
 go_wp2
 exact bodyPost_ret (by simp[results,Tryz.results138,go_sem];try rfl) rfl ⟨rfl,HBX.out⟩
theorem lbs_any (w:World) (k j1 j2 j3 j4 V v:Int):Calls Tryz.prog 149 #[.agg #[],.agg #[.int .u8 k,.int .i64 j1,.int .i64 j2,.int .i64 j3,.int .i64 j4],.int .i64 V,.int .i64 v] w fun e w'=>e = .returned (.tuple #[.int .i64 v,.bool true])∧Below w.heap.size w w':=by
 have HBX:=hide (((Below.refl w.heap.size w).alloc (Nat.le_refl _) (.cells #[] 132)).alloc (by simp) (.cells #[.int .u8 k,.int .i64 j1,.int .i64 j2,.int .i64 j3,.int .i64 j4] 27))
 go_enter Tryz.func149,Tryz.ntmps149
 go_wp2
 exact bodyPost_ret (by simp[results,Tryz.results149,go_sem];try rfl) rfl ⟨rfl,HBX.out⟩
theorem wys_any (w:World) (k j1 j2 j3 j4 V v:Int):Calls Tryz.prog 179 #[.agg #[],.agg #[.int .u8 k,.int .i64 j1,.int .i64 j2,.int .i64 j3,.int .i64 j4],.int .i64 V,.int .i64 v] w fun e w'=>e = .returned (.tuple #[.int .i64 (startOf v j2),.bool (decide (v=j2))])∧Below w.heap.size w w':=by
 have HBX:=hide (((Below.refl w.heap.size w).alloc (Nat.le_refl _) (.cells #[] 133)).alloc (by simp) (.cells #[.int .u8 k,.int .i64 j1,.int .i64 j2,.int .i64 j3,.int .i64 j4] 27))
 obtain⟨ws,hws⟩:∃z,(w.alloc (.cells #[] 133)).alloc (.cells #[.int .u8 k,.int .i64 j1,.int .i64 j2,.int .i64 j3,.int .i64 j4] 27)=z:=⟨_,rfl⟩
 rw[hws] at HBX
 have x2:ws.cell? ⟨w.heap.size+1,2,none⟩=some (.int .i64 j2):=cell_of_row _ _ 2 _ _ _ (show ws.heap[w.heap.size+1]?=some (.cells #[.int .u8 k,.int .i64 j1,.int .i64 j2,.int .i64 j3,.int .i64 j4] 27) by rw[←hws];have h:=heap_alloc_last (w.alloc (.cells #[] 133)) (.cells #[.int .u8 k,.int .i64 j1,.int .i64 j2,.int .i64 j3,.int .i64 j4] 27);simpa using h)
 have lw:w.heap.size+1<ws.heap.size:=by rw[←hws];simp
 have HW:=hide hws
 clear hws
 go_enter Tryz.func179,Tryz.ntmps179
 go_upto_region 1 with fail
 rw[HW.out]
 refine wp_region_held_drew (S:=Kept ws) (by kernel_rfl) (Kept.drew ws) (fun hS0=>?_)
 refine tka 0 10 ?_
 refine tka 1 11 ?_
 refine tka 2 12 ?_
 refine tka 4 14 ?_
 refine tka 5 15 ?_
 refine tka 6 16 ?_
 refine tka 7 17 ?_
 refine ck 3 13 fun K hK=>?_
 go_simp
 refine (start_any _ v j2).mono ?_
 rintro e z1 ⟨rfl,rfl⟩
 have hS1:=hS0
 go_wp2_with fail
 refine hK.out _ _ hS1 (fun hSn=>?_)
 clear hK K
 try simp only[zqd,zqe,zqf]
 refine tka 8 8 ?_
 refine tka 9 9 ?_
 refine wpAnyH_done (by kernel_rfl) ?_ _
 go_wp2
 exact bodyPost_ret (by simp[results,Tryz.results179,go_sem];try rfl) rfl ⟨by first | rfl | simp,HBX.out.trans ((below_dr (Below.refl _ _)).mono HBX.out.size)⟩
def startA (k j2 V v:Int):Int×Bool:=if k=1 then (evenF 4294967296 V,true) else if k=2 then (v,true) else if k=3 then (startOf v j2,decide (v=j2)) else (0,false)
theorem astart_any (w:World) (k j1 j2 j3 j4 V v:Int):Calls Tryz.prog 72 #[.agg #[.int .u8 k,.int .i64 j1,.int .i64 j2,.int .i64 j3,.int .i64 j4],.int .i64 V,.int .i64 v] w fun e w'=>e = .returned (.tuple #[.int .i64 (startA k j2 V v).1,.bool (startA k j2 V v).2])∧Below w.heap.size w w':=by
 obtain⟨u,hu⟩:∃u,w.alloc (.cells #[.int .u8 k,.int .i64 j1,.int .i64 j2,.int .i64 j3,.int .i64 j4] 27)=u:=⟨_,rfl⟩
 have hzu:w.heap.size<u.heap.size:=by rw[←hu];simp
 have hbu:=hide (show Below w.heap.size w u by rw[←hu];exact (Below.refl _ _).alloc (Nat.le_refl _) _)
 have M0:=hide (show u.heap[w.heap.size]?=some (.cells #[.int .u8 k,.int .i64 j1,.int .i64 j2,.int .i64 j3,.int .i64 j4] 27) by rw[←hu];exact heap_alloc_last _ _)
 by_cases k1:k=1
 ·subst k1
  have HU:=hide hu
  clear hu
  have N0:=((Below.refl u.heap.size u).block _ hzu).trans M0.out
  obtain⟨c0,c1,c2,c3,c4⟩:=zr5 N0
  clear N0
  go_enter Tryz.func72,Tryz.ntmps72
  go_wp2_with fail
  rw[HU.out]
  refine (of1 _ j1 j2 j3 j4).mono ?_
  rintro e w1 ⟨rfl,hb⟩
  have HB:=hide hb
  clear c0 c1 c2 c3 c4
  have N0:=(hb.block _ hzu).trans M0.out
  obtain⟨c0,c1,c2,c3,c4⟩:=zr5 N0
  clear N0
  clear hb
  go_wp2_with fail
  refine (rks_any _ 1 j1 j2 j3 j4 V v).mono ?_
  rintro e w2 ⟨rfl,hb⟩
  have HB2:=hide hb
  clear hb
  go_wp2
  exact bodyPost_ret (by simp[results,Tryz.results72,go_sem];try rfl) rfl ⟨by simp[startA],hbu.out.trans ((HB.out.trans (HB2.out.mono HB.out.size)).mono (by omega))⟩
 by_cases k2:k=2
 ·subst k2
  have HU:=hide hu
  clear hu
  have N0:=((Below.refl u.heap.size u).block _ hzu).trans M0.out
  obtain⟨c0,c1,c2,c3,c4⟩:=zr5 N0
  clear N0
  go_enter Tryz.func72,Tryz.ntmps72
  go_wp2_with fail
  rw[HU.out]
  refine (of2 _ j1 j2 j3 j4).mono ?_
  rintro e w1 ⟨rfl,hb⟩
  have HB:=hide hb
  clear c0 c1 c2 c3 c4
  have N0:=(hb.block _ hzu).trans M0.out
  obtain⟨c0,c1,c2,c3,c4⟩:=zr5 N0
  clear N0
  clear hb
  go_wp2_with fail
  refine (lbs_any _ 2 j1 j2 j3 j4 V v).mono ?_
  rintro e w2 ⟨rfl,hb⟩
  have HB2:=hide hb
  clear hb
  go_wp2
  exact bodyPost_ret (by simp[results,Tryz.results72,go_sem];try rfl) rfl ⟨by simp[startA],hbu.out.trans ((HB.out.trans (HB2.out.mono HB.out.size)).mono (by omega))⟩
 by_cases k3:k=3
 ·subst k3
  have HU:=hide hu
  clear hu
  have N0:=((Below.refl u.heap.size u).block _ hzu).trans M0.out
  obtain⟨c0,c1,c2,c3,c4⟩:=zr5 N0
  clear N0
  go_enter Tryz.func72,Tryz.ntmps72
  go_wp2_with fail
  rw[HU.out]
  refine (of3 _ j1 j2 j3 j4).mono ?_
  rintro e w1 ⟨rfl,hb⟩
  have HB:=hide hb
  clear c0 c1 c2 c3 c4
  have N0:=(hb.block _ hzu).trans M0.out
  obtain⟨c0,c1,c2,c3,c4⟩:=zr5 N0
  clear N0
  clear hb
  go_wp2_with fail
  refine (wys_any _ 3 j1 j2 j3 j4 V v).mono ?_
  rintro e w2 ⟨rfl,hb⟩
  have HB2:=hide hb
  clear hb
  go_wp2
  exact bodyPost_ret (by simp[results,Tryz.results72,go_sem];try rfl) rfl ⟨by simp[startA],hbu.out.trans ((HB.out.trans (HB2.out.mono HB.out.size)).mono (by omega))⟩
 have HU:=hide hu
 clear hu
 have N0:=((Below.refl u.heap.size u).block _ hzu).trans M0.out
 obtain⟨c0,c1,c2,c3,c4⟩:=zr5 N0
 clear N0
 go_enter Tryz.func72,Tryz.ntmps72
 go_wp2_with fail
 rw[HU.out]
 refine (of0 _ k k1 k2 k3 j1 j2 j3 j4).mono ?_
 rintro e w1 ⟨rfl,hb⟩
 have HB:=hide hb
 clear c0 c1 c2 c3 c4
 have N0:=(hb.block _ hzu).trans M0.out
 obtain⟨c0,c1,c2,c3,c4⟩:=zr5 N0
 clear N0
 clear hb
 go_wp2
 exact bodyPost_ret (by simp[results,Tryz.results72,go_sem];try rfl) rfl ⟨by simp[startA,k1,k2,k3],hbu.out.trans (HB.out.mono (by omega))⟩
theorem below_dr0 (B:Nat) (u:World):Below B u u.drew:=below_dr (Below.refl _ _)
theorem taker_ways (w:World):(Instr.typeAssert (.iface 133 (.agg #[])) 90 176 false).run Tryz.prog w = .ok (.iface 133 (.agg #[])) w:=by kernel_rfl
theorem wytake_any (w:World) (v:Int) (has:Bool) (x:Int):Calls Tryz.prog 180 #[.agg #[],.int .i64 v,.agg #[.bool has,.int .i64 x]] w fun e w'=>e = .returned (.tuple #[.int .i64 (takeOf v has x).1,.bool (takeOf v has x).2])∧Below w.heap.size w w':=by
 have hbu:=hide (show Below w.heap.size w ((w.alloc (.cells #[] 133)).alloc (.cells #[.bool has,.int .i64 x] 51)) from ((Below.refl _ _).alloc (Nat.le_refl _) _).alloc (by simp) _)
 go_enter Tryz.func180,Tryz.ntmps180
 go_wp2_with fail
 refine (take_any _ v has x).mono ?_
 rintro e w1 ⟨rfl,hb⟩
 have HB:=hide hb
 clear hb
 go_wp2
 exact bodyPost_ret (by simp[results,Tryz.results180,go_sem];try rfl) rfl ⟨rfl,hbu.out.trans (HB.out.mono (by simp;omega))⟩
theorem acomp3_any (w:World) (j1 j2 j3 j4 V v:Int) (has:Bool) (x su:Int):Calls Tryz.prog 74 #[.agg #[.int .u8 3,.int .i64 j1,.int .i64 j2,.int .i64 j3,.int .i64 j4],.int .i64 V,.int .i64 v,.agg #[.bool has,.int .i64 x],.int .i64 su] w fun e w'=>e = .returned (.tuple #[.int .i64 (takeOf v has x).1,.bool (takeOf v has x).2])∧Below w.heap.size w w':=by
 have ta:=taker_ways
 have ts:=sharer_ways
 obtain⟨u,hu⟩:∃u,(w.alloc (.cells #[.int .u8 3,.int .i64 j1,.int .i64 j2,.int .i64 j3,.int .i64 j4] 27)).alloc (.cells #[.bool has,.int .i64 x] 51)=u:=⟨_,rfl⟩
 have hzu:w.heap.size+1<u.heap.size:=by rw[←hu];simp
 have hbu:=hide (show Below w.heap.size w u by rw[←hu];exact ((Below.refl _ _).alloc (Nat.le_refl _) _).alloc (by simp) _)
 have M1:=hide (show u.heap[w.heap.size+1]?=some (.cells #[.bool has,.int .i64 x] 51) by rw[←hu];have h:=heap_alloc_last (w.alloc (.cells #[.int .u8 3,.int .i64 j1,.int .i64 j2,.int .i64 j3,.int .i64 j4] 27)) (.cells #[.bool has,.int .i64 x] 51);simpa using h)
 have M0:u.heap[w.heap.size]?=some (.cells #[.int .u8 3,.int .i64 j1,.int .i64 j2,.int .i64 j3,.int .i64 j4] 27):=by rw[←hu];exact heap_alloc_keep (heap_alloc_last _ _)
 obtain⟨c0,c1,c2,c3,c4⟩:=zr5 M0
 clear M0
 have HU:=hide hu
 clear hu
 go_enter Tryz.func74,Tryz.ntmps74
 go_wp2_with fail
 rw[HU.out]
 refine (of3 _ j1 j2 j3 j4).mono ?_
 rintro e ws ⟨rfl,hb⟩
 have HB:=hide hb
 clear c0 c1 c2 c3 c4
 have N1:=(hb.block _ hzu).trans M1.out
 obtain⟨x0,x1⟩:=zr2 N1
 clear N1
 have lw:w.heap.size+1<ws.heap.size:=Nat.lt_of_lt_of_le hzu hb.size
 clear hb
 go_upto_region 8 with fail
 refine wp_region_held_drew (S:=Kept ws) (by kernel_rfl) (Kept.drew ws) (fun hS0=>?_)
 refine tka 0 36 ?_
 refine tk 1 37 ?_ ?_ ?_;rotate_left;(focus (intro w hSw;have hh:=ta w;go_simp;(try with_reducible rfl);done));(try simp only[zqd,zqe,zqf])
 refine tka 2 38 ?_
 refine tka 3 39 ?_
 refine ck 4 40 fun K hK=>?_
 go_simp
 go_upon
 refine (wytake_any _ v has x).mono ?_
 rintro e z1 ⟨rfl,k1⟩
 have hS1:Kept ws z1:=hS0.below (by simp) k1
 have K1:=hide (below_dr k1)
 clear k1
 go_wp2_with fail
 refine hK.out _ _ hS1 (fun hSn=>?_)
 clear hK K
 try simp only[zqd,zqe,zqf]
 refine tka 5 41 ?_
 refine tka 6 42 ?_
 refine tka 7 10 ?_
 refine tka 8 11 ?_
 refine wpAnyH_done (by kernel_rfl) ?_ _
 go_wp2
 exact bodyPost_ret (by simp[results,Tryz.results74,go_sem];try rfl) rfl ⟨rfl,hbu.out.trans ((HB.out.trans (K1.out.mono HB.out.size)).mono (by omega))⟩
def msFlat (l:List Ms):List Value:=l.flatMap fun e=>[.int .i64 e.1,.int .i64 e.2]
theorem msFlat_len (es:List Ms):(msFlat es).length=es.length*2:=by
 induction es with
 | nil=>rfl
 | cons e es ih=>unfold msFlat at ih ⊢;rw[List.flatMap_cons,List.length_append,ih,List.length_cons];simp;omega
theorem msFlat_app (a b:List Ms):msFlat a ++ msFlat b=msFlat (a ++ b):=by simp[msFlat]
theorem msFlat_get {es:List Ms}:∀{i:Nat} {e:Ms},es[i]?=some e→∀j u,([.int .i64 e.1,.int .i64 e.2]:List Value)[j]?=some u→(msFlat es)[i*2+j]?=some u:=by
 induction es with
 | nil=>intro i e h;simp at h
 | cons x es ih=>
  intro i e h j u hu
  have hj:j<2:=by
   rcases Nat.lt_or_ge j 2 with h | h
   ·exact h
   rw[List.getElem?_eq_none (by simpa using h)] at hu;cases hu
  unfold msFlat
  rw[List.flatMap_cons]
  cases i with
  | zero=>
   simp only[List.getElem?_cons_zero,Option.some.injEq] at h
   subst h
   rw[List.getElem?_append_left (by simp;omega),Nat.zero_mul,Nat.zero_add]
   exact hu
  | succ i=>
   rw[List.getElem?_append_right (by simp;omega)]
   have:=ih (i:=i) (by simpa using h) j u hu
   unfold msFlat at this
   rw[←this]
   congr 1
   simp
   omega
theorem Mss.of_rd {w:World} {B:Nat} {A:Option Addr} {es:List Ms} (h:Rd w B A (msFlat es)):Mss w B A es:=fun hn=>by
 obtain⟨b,off,rfl,hb,hc⟩:=h (fun e=>hn (List.eq_nil_of_length_eq_zero (by have:=msFlat_len es;rw[e] at this;simp at this;omega)))
 refine⟨b,off,rfl,hb,fun i x hx=>⟨[.int .i64 x.1,.int .i64 x.2],rfl,rfl,fun j u hu=>hc _ _ (msFlat_get hx j u hu)⟩⟩
def rkMs (x:Int) (es:List Ed):List Ms:=es.map fun e=>(e.2.1,evenF x es.length)
def MsgPost (w:World) (l:List Ms) (e:Ending) (w':World):Prop:=∃A c,e = .returned (.slice A l.length c)∧w'.ownsRow w.heap.size 185 2 (.slice A l.length c) l.length (msFlat l)∧Below w.heap.size w w'
theorem rksend_any (w:World) (v x:Int) (ch:Bool) (A:Option Addr) (es:List Ed) (L c:Nat) (B:Value) (hL:es.length=L) (hE:Eds w w.heap.size A es) (hc:L≤8192) (hx:-9223372036854775808≤x∧x≤9223372036854775807) :
  Calls Tryz.prog 136 #[.agg #[],.int .i64 v,.int .i64 x,.bool ch,.slice A L c,B] w (MsgPost w (rkMs x es)):=by
 obtain⟨i0,hi0,hz0,hz1,hz2⟩:=info_parts (show (Tryz.prog.info? 185).map (fun i=>(i.zero,i.size,i.bytes))=some (some (.agg #[.int .i64 0,.int .i64 0]),2,16) by kernel_rfl)
 obtain⟨g,hg⟩:∃g,evenF x L=g:=⟨_,rfl⟩
 have HG:=hide hg
 have HMs:Hid (rkMs x es=es.map fun e=>(e.2.1,g)):=hide (by unfold rkMs;rw[hL,hg])
 have HL:=hide hL
 have HE0:=hide hE
 have HB:=hide ((Below.refl w.heap.size w).alloc (Nat.le_refl _) (.cells #[] 129))
 clear hL hE hg
 go_enter Tryz.func136,Tryz.ntmps136
 go_wp2
 go_loopw [13,18] (fun v13 v18 wr=>∃(k:Nat) (Am:Option Addr) (cm:Nat),k≤L∧v18 = .int .i64 k∧v13 = .slice Am k cm∧Hid (wr.ownsRow w.heap.size 185 2 (.slice Am k cm) k (msFlat ((es.map fun e=>(e.2.1,g)).take k)))∧Hid (Below w.heap.size w wr)) (fun _ v18 _=>L-(intOf v18).toNat)
 case atStart=>exact⟨0,none,0,by omega,rfl,rfl,hide (World.ownsRow_nil _ _ _ _),HB⟩
 case round=>
  obtain⟨k,Am,cm,hk,rfl,rfl,HOw,HBw⟩:=hrel
  have hsz:w.heap.size≤wr.heap.size:=HBw.out.size
  by_cases hlt:k<L
  ·obtain⟨⟨x0,y,z⟩,he⟩:∃e,es[k]?=some e:=⟨_,List.getElem?_eq_getElem (by rw[HL.out];exact hlt)⟩
   obtain⟨b,off,rfl,hbl,d0,d1,d2,d3,d4⟩:=HE0.out.get he
   have hlc (j:Nat):wr.cell? ⟨b,off+k*3+j,none⟩=w.cell? ⟨b,off+k*3+j,none⟩:=HBw.out.cell (p:=⟨b,off+k*3+j,none⟩) hbl
   have d0:=(hlc 0).trans d0
   have d1:=(hlc 1).trans d1
   have d2:=(hlc 2).trans d2
   dsimp only at d0 d1 d2 d3 d4
   rw[Nat.add_zero] at d0
   have HSN:Hid (msFlat ((es.map fun e=>(e.2.1,g)).take k) ++ [.int .i64 y,.int .i64 g]=msFlat ((es.map fun e=>(e.2.1,g)).take (k+1))):=hide (by
    rw[List.take_add_one,List.getElem?_map,he,←msFlat_app];rfl)
   have hI1:(k:Int)<(L:Int):=by omega
   have HD:=hide (And.intro d3 d4)
   clear he hlc d3 d4
   obtain⟨u,hu⟩:∃u,wr.alloc (.cells #[.int .i64 x0,.int .i64 y,.int .i64 z] 57)=u:=⟨_,rfl⟩
   have hzu:u.heap.size=wr.heap.size+1:=by rw[←hu];simp
   have N0:u.heap[wr.heap.size]?=some (.cells #[.int .i64 x0,.int .i64 y,.int .i64 z] 57):=by rw[←hu];exact heap_alloc_last _ _
   have HBU:Hid (Below w.heap.size w u):=hide (by rw[←hu];exact HBw.out.alloc hsz _)
   have HOU:Hid (u.ownsRow w.heap.size 185 2 (.slice Am k cm) k (msFlat ((es.map fun e=>(e.2.1,g)).take k))):=hide (by rw[←hu];exact HOw.out.alloc _)
   have HU:=hide hu
   clear hu HOw HBw
   go_upto_region 5 with fail
   rw[HU.out]
   have c1:u.cell? ⟨wr.heap.size,1,none⟩=some (.int .i64 y):=cell_of_row _ _ 1 _ _ _ N0
   have hl2:wr.heap.size<u.heap.size:=by omega
   have hszu:w.heap.size≤u.heap.size:=by omega
   have hcap:=own_cap HOU.out
   clear N0 hzu d0 d1 d2
   refine wpL_region (S:=Kept u) [9] (by kernel_rfl) (Kept.drew u) (fun hS0=>?_)
   refine tla 0 22 ?_
   refine twa 1 23 ?_
   refine tua [2,7,8,9,10] 2 24 ?_
   refine twa 3 25 ?_
   refine twa 4 26 ?_
   refine twa 5 27 ?_
   refine cl 6 28 fun K hK=>?_
   go_simp
   refine (rkgive_any _ x L hx).mono ?_
   rintro e z1 ⟨rfl,rfl⟩
   rw[HG.out]
   go_wp2_with fail
   refine hK.out _ _ hS0 (fun hSn=>?_)
   clear hK K
   try simp only[zqd,zqe,zqf]
   refine twa 7 29 ?_
   refine cl 8 30 fun K hK=>?_
   go_simp
   have hS1:Kept u (u.drew.alloc (.cells #[.int .i64 y,.int .i64 g] 185)):=fun p hp=>World.cell?_alloc_lt _ _ _ hp
   refine hK.out _ _ hS1 (fun hSn=>?_)
   clear hK K
   try simp only[zqd,zqe,zqf]
   refine xl 9 fun K hK=>?_
   refine op_app (.tmp 22) (.tmp 30) 166 rfl w.heap.size 185 i0 (.agg #[.int .i64 0,.int .i64 0]) 2 16 Tryz.underlying166 hi0 hz0 hz1 hz2 rfl (by decide) (.slice Am k cm) k _ rfl (HOU.out.drew.alloc _) (u.heap.size+1) (some ⟨u.heap.size,0,none⟩) 1 1 [.int .i64 y,.int .i64 g] rfl rfl (Rd.new _ _ _ _) (by simp[Value.oneCell']) (by unfold maxLen;omega) (by omega) (by simp;omega) ?_
   intro A' c' y3 own3 hg3 hat3
   rw[HSN.out] at own3
   have hb3:=hide (app_below ((HBU.out.drew).alloc (by show w.heap.size≤u.heap.size;omega) _) (HOU.out.drew.alloc _) hg3 (by simp;omega) (Nat.le_refl _))
   have HO3:=hide own3
   clear own3 hg3 hat3
   refine hK.out _ _ ?_
   clear hK K
   simp only[Act.put]
   try simp only[zqd,zqe,zqf]
   refine twa 10 13 ?_
   refine wpAnyL_done (by kernel_rfl) ?_ _
   clear hS0 hSn hS1
   go_wp2
   go_roundw
   case rel=>exact⟨k+1,A',c',by omega,by go_num,rfl,HO3,hb3⟩
   case measure=>simp[intOf];omega
  obtain rfl:k=L:=by omega
  have HFin:Hid (MsgPost w (rkMs x es) (.returned (.slice Am k cm)) wr):=hide (by
   have hl:(es.map fun e=>(e.2.1,g)).length=k:=by rw[List.length_map];exact HL.out
   refine⟨Am,cm,by rw[HMs.out,hl],?_,HBw.out⟩
   rw[HMs.out]
   have h:=HOw.out
   rw[List.take_of_length_le (by rw[hl];exact Nat.le_refl _)] at h
   rw[hl]
   exact h)
  go_wp2
  go_ret
  exact HFin.out
def wyMs (ch:Bool) (x:Int) (es:List Ed):List Ms:=if ch=true then es.map fun e=>(e.2.1,dadd x e.2.2) else []
theorem below_dr0' (B:Nat) (u:World):Below B u u.drew:=(Below.refl B u).drew
theorem wysend_any (w:World) (v x:Int) (ch:Bool) (A:Option Addr) (es:List Ed) (L c:Nat) (B:Value) (hL:es.length=L) (hE:Eds w w.heap.size A es) (hc:L≤8192) (hx:-9223372036854775808≤x∧x≤9223372036854775807) :
  Calls Tryz.prog 178 #[.agg #[],.int .i64 v,.int .i64 x,.bool ch,.slice A L c,B] w (MsgPost w (wyMs ch x es)):=by
 obtain⟨i0,hi0,hz0,hz1,hz2⟩:=info_parts (show (Tryz.prog.info? 185).map (fun i=>(i.zero,i.size,i.bytes))=some (some (.agg #[.int .i64 0,.int .i64 0]),2,16) by kernel_rfl)
 have HL:=hide hL
 have HE0:=hide hE
 have HB:=hide ((Below.refl w.heap.size w).alloc (Nat.le_refl _) (.cells #[] 133))
 cases ch
 ·have HFin:Hid (MsgPost w (wyMs false x es) (.returned (.slice none 0 0)) (w.alloc (.cells #[] 133))):=hide ⟨none,0,rfl,World.ownsRow_nil _ _ _ _,HB.out⟩
  go_enter Tryz.func178,Tryz.ntmps178
  go_wp2
  go_ret
  exact HFin.out
 have HMs:Hid (wyMs true x es=es.map fun e=>(e.2.1,dadd x e.2.2)):=hide rfl
 clear hL hE
 go_enter Tryz.func178,Tryz.ntmps178
 go_wp2
 go_loopw [13,20] (fun v13 v18 wr=>∃(k:Nat) (Am:Option Addr) (cm:Nat),k≤L∧v18 = .int .i64 k∧v13 = .slice Am k cm∧Hid (wr.ownsRow w.heap.size 185 2 (.slice Am k cm) k (msFlat ((es.map fun e=>(e.2.1,dadd x e.2.2)).take k)))∧Hid (Below w.heap.size w wr)) (fun _ v18 _=>L-(intOf v18).toNat)
 case atStart=>exact⟨0,none,0,by omega,rfl,rfl,hide (World.ownsRow_nil _ _ _ _),HB⟩
 case round=>
  obtain⟨k,Am,cm,hk,rfl,rfl,HOw,HBw⟩:=hrel
  have hsz:w.heap.size≤wr.heap.size:=HBw.out.size
  by_cases hlt:k<L
  ·obtain⟨⟨x0,y,z⟩,he⟩:∃e,es[k]?=some e:=⟨_,List.getElem?_eq_getElem (by rw[HL.out];exact hlt)⟩
   obtain⟨b,off,rfl,hbl,d0,d1,d2,d3,d4⟩:=HE0.out.get he
   have hlc (j:Nat):wr.cell? ⟨b,off+k*3+j,none⟩=w.cell? ⟨b,off+k*3+j,none⟩:=HBw.out.cell (p:=⟨b,off+k*3+j,none⟩) hbl
   have d0:=(hlc 0).trans d0
   have d1:=(hlc 1).trans d1
   have d2:=(hlc 2).trans d2
   dsimp only at d0 d1 d2 d3 d4
   rw[Nat.add_zero] at d0
   obtain⟨g,hg⟩:∃g,dadd x z=g:=⟨_,rfl⟩
   have HG:=hide hg
   have HSN:Hid (msFlat ((es.map fun e=>(e.2.1,dadd x e.2.2)).take k) ++ [.int .i64 y,.int .i64 g]=msFlat ((es.map fun e=>(e.2.1,dadd x e.2.2)).take (k+1))):=hide (by
    rw[List.take_add_one,List.getElem?_map,he,←msFlat_app,←hg];rfl)
   have hI1:(k:Int)<(L:Int):=by omega
   have HD:=hide (And.intro d3 d4)
   clear he hlc d3 d4 hg
   obtain⟨u,hu⟩:∃u,wr.alloc (.cells #[.int .i64 x0,.int .i64 y,.int .i64 z] 57)=u:=⟨_,rfl⟩
   have hzu:u.heap.size=wr.heap.size+1:=by rw[←hu];simp
   have N0:u.heap[wr.heap.size]?=some (.cells #[.int .i64 x0,.int .i64 y,.int .i64 z] 57):=by rw[←hu];exact heap_alloc_last _ _
   have HBU:Hid (Below w.heap.size w u):=hide (by rw[←hu];exact HBw.out.alloc hsz _)
   have HOU:Hid (u.ownsRow w.heap.size 185 2 (.slice Am k cm) k (msFlat ((es.map fun e=>(e.2.1,dadd x e.2.2)).take k))):=hide (by rw[←hu];exact HOw.out.alloc _)
   have HU:=hide hu
   clear hu HOw HBw
   go_upto_region 7 with fail
   rw[HU.out]
   obtain⟨c0,c1,c2⟩:=zr3 N0
   have hl2:wr.heap.size<u.heap.size:=by omega
   have hszu:w.heap.size≤u.heap.size:=by omega
   have hcap:=own_cap HOU.out
   clear N0 hzu d0 d1 d2
   refine wpL_region (S:=Kept u) [8] (by kernel_rfl) (Kept.drew u) (fun hS0=>?_)
   refine tla 0 24 ?_
   refine twa 1 25 ?_
   refine tua [2,6,7,8,9] 2 26 ?_
   refine twa 3 27 ?_
   refine tua [4,5,6,7,8,9] 4 28 ?_
   refine cl 5 29 fun K hK=>?_
   go_simp
   refine (give_any _ x x0 y z hx.1 hx.2 HD.out.1 HD.out.2).mono ?_
   rintro e z1 ⟨rfl,hz⟩
   rw[HG.out]
   have hS1:Kept u z1:=hS0.below (by simp) hz
   have hZ:=hide ((below_dr0' w.heap.size u).trans (hz.mono hszu))
   have HOZ:=hide (own_below HOU.out.drew hz (fun g hg=>(HOU.out.drew.lt g hg).2))
   have hzs:u.heap.size≤z1.heap.size:=by have:=hz.size;simpa using this
   clear hz
   go_wp2_with fail
   refine hK.out _ _ hS1 (fun hSn=>?_)
   clear hK K
   try simp only[zqd,zqe,zqf]
   refine twa 6 30 ?_
   refine cl 7 31 fun K hK=>?_
   go_simp
   have hS2:Kept u (z1.alloc (.cells #[.int .i64 y,.int .i64 g] 185)):=fun p hp=>(World.cell?_alloc_lt _ _ _ (by omega)).trans (hS1 p hp)
   refine hK.out _ _ hS2 (fun hSn=>?_)
   clear hK K
   try simp only[zqd,zqe,zqf]
   refine xl 8 fun K hK=>?_
   refine op_app (.tmp 24) (.tmp 31) 166 rfl w.heap.size 185 i0 (.agg #[.int .i64 0,.int .i64 0]) 2 16 Tryz.underlying166 hi0 hz0 hz1 hz2 rfl (by decide) (.slice Am k cm) k _ rfl (HOZ.out.alloc _) (z1.heap.size+1) (some ⟨z1.heap.size,0,none⟩) 1 1 [.int .i64 y,.int .i64 g] rfl rfl (Rd.new _ _ _ _) (by simp[Value.oneCell']) (by unfold maxLen;omega) (by omega) (by simp;omega) ?_
   intro A' c' y3 own3 hg3 hat3
   rw[HSN.out] at own3
   have hb3:=hide (app_below ((HBU.out.trans hZ.out).alloc (by omega) _) (HOZ.out.alloc _) hg3 (by simp;omega) (Nat.le_refl _))
   have HO3:=hide own3
   clear own3 hg3 hat3
   refine hK.out _ _ ?_
   clear hK K
   simp only[Act.put]
   try simp only[zqd,zqe,zqf]
   refine twa 9 13 ?_
   refine wpAnyL_done (by kernel_rfl) ?_ _
   clear hS0 hSn hS1
   go_wp2
   go_roundw
   case rel=>exact⟨k+1,A',c',by omega,by go_num,rfl,HO3,hb3⟩
   case measure=>simp[intOf];omega
  obtain rfl:k=L:=by omega
  have HFin:Hid (MsgPost w (wyMs true x es) (.returned (.slice Am k cm)) wr):=hide (by
   have hl:(es.map fun e=>(e.2.1,dadd x e.2.2)).length=k:=by rw[List.length_map];exact HL.out
   refine⟨Am,cm,by rw[HMs.out,hl],?_,HBw.out⟩
   rw[HMs.out]
   have h:=HOw.out
   rw[List.take_of_length_le (by rw[hl];exact Nat.le_refl _)] at h
   rw[hl]
   exact h)
  go_wp2
  go_ret
  exact HFin.out
theorem send1_any (w:World) (a1 a2 b1 b2:Int):Calls Tryz.prog 106 #[.agg #[.int .i64 a1,.int .i64 a2],.agg #[.int .i64 b1,.int .i64 b2]] w fun e w'=>e = .returned (.int .i64 (cmpOf a1 b1))∧Below w.heap.size w w':=by
 obtain⟨u,hu⟩:∃u,(w.alloc (.cells #[.int .i64 a1,.int .i64 a2] 185)).alloc (.cells #[.int .i64 b1,.int .i64 b2] 185)=u:=⟨_,rfl⟩
 have hbu:=hide (show Below w.heap.size w u by rw[←hu];exact ((Below.refl _ _).alloc (Nat.le_refl _) _).alloc (by simp) _)
 have M0:u.heap[w.heap.size]?=some (.cells #[.int .i64 a1,.int .i64 a2] 185):=by rw[←hu];exact (Below.heap_alloc _ _ _ (by simp)).trans (heap_alloc_last w _)
 have M1:u.heap[w.heap.size+1]?=some (.cells #[.int .i64 b1,.int .i64 b2] 185):=by
  rw[←hu]
  have:=heap_alloc_last (w.alloc (.cells #[.int .i64 a1,.int .i64 a2] 185)) (.cells #[.int .i64 b1,.int .i64 b2] 185)
  rw[World.size_alloc] at this
  exact this
 have HU:=hide hu
 clear hu
 have c0:u.cell? ⟨w.heap.size,0,none⟩=some (.int .i64 a1):=cell_of_row _ _ 0 _ _ _ M0
 have c1:u.cell? ⟨w.heap.size+1,0,none⟩=some (.int .i64 b1):=cell_of_row _ _ 0 _ _ _ M1
 clear M0 M1
 go_enter Tryz.func106,Tryz.ntmps106
 go_wp2_with fail
 rw[HU.out]
 go_wp2_with fail
 refine (compare_any _ a1 b1).mono ?_
 rintro e w1 ⟨rfl,rfl⟩
 go_wp2
 go_ret
 exact⟨rfl,hbu.out⟩
end Go.Proofs.YtpojjmbalgmcoaaGreat
