/- Lemmas: Stk, Swk. -/
import Derived.Deep.DeepCutAuto
import Derived.Deep.CutBlock
import Derived.Test.YtpojjmbalgmcoaaGreatStWw19
set_option linter.unusedVariables false
set_option linter.unusedSimpArgs false
set_option maxRecDepth 100000
set_option maxHeartbeats 16000000
namespace Go.Proofs.YtpojjmbalgmcoaaGreat
open Go.RowKit
structure TkSt (X:List Nat) (v0 w0:World) (bp:Nat) (T:TypeId) (st:Int) (vals:List Int) (chg:List Bool) (inb:List Ml) (Ao:Option Addr) (co:Nat) (Av:Option Addr) (cv:Nat) (Ac:Option Addr) (cc:Nat) (Ai:Option Addr) (ci no nv nc ni:Nat) (w:World):Prop where
 hp:w.heap[bp]?=some (.cells #[.int .i64 st,.slice Ao no co,.slice Av nv cv,.slice Ac nc cc,.slice Ai ni ci] T)
 hv:w.ownsRow v0.heap.size 2 1 (.slice Av nv cv) nv (i64s vals)
 hc:w.ownsRow v0.heap.size 4 1 (.slice Ac nc cc) nc (bools chg)
 hi:w.ownsRow v0.heap.size 51 2 (.slice Ai ni ci) ni (mlFlat inb)
 kb:KB X v0 w
 bl:Below w0.heap.size w0 w
section
variable {X:List Nat} {v0 w0 w w':World} {bp:Nat} {T:TypeId} {st:Int} {vals:List Int} {chg:List Bool} {inb:List Ml} {Ao:Option Addr} {co:Nat} {Av:Option Addr} {cv:Nat} {Ac:Option Addr} {cc:Nat} {Ai:Option Addr} {ci no nv nc ni:Nat}
theorem TkSt.alloc (h:TkSt X v0 w0 bp T st vals chg inb Ao co Av cv Ac cc Ai ci no nv nc ni w) (o:Obj):TkSt X v0 w0 bp T st vals chg inb Ao co Av cv Ac cc Ai ci no nv nc ni (w.alloc o):=
 ⟨(Below.heap_alloc _ _ _ (lt_of_block h.hp)).trans h.hp,h.hv.alloc o,h.hc.alloc o,h.hi.alloc o,h.kb.alloc o,h.bl.alloc h.bl.size o⟩
theorem TkSt.appVals (h:TkSt X v0 w0 bp T st vals chg inb Ao co Av cv Ac cc Ai ci no nv nc ni w) {cs:Array Value} {te:TypeId} {A':Option Addr} {c':Nat} {x:Int} (hb:bp<v0.heap.size) (hX:bp∈X) (hw:w0.heap.size≤bp) (hv0:w0.heap.size≤v0.heap.size)
  (hown:w'.ownsRow v0.heap.size 2 1 (.slice A' (nv+1) c') (nv+1) (i64s vals ++ [.int .i64 x])) (hg:(w.alloc (.cells cs te)).grownBy w' (Value.slice Av nv cv).ownBlock) :
  w'.heap[bp]?=some (.cells #[.int .i64 st,.slice Ao no co,.slice Av nv cv,.slice Ac nc cc,.slice Ai ni ci] T)∧TkSt X v0 w0 bp T st (vals ++ [x]) chg inb Ao co A' c' Ac cc Ai ci no (nv+1) nc ni (w'.setCell ⟨bp,2,none⟩ (.slice A' (nv+1) c')):=by
 have hown':w'.ownsRow v0.heap.size 2 1 (.slice A' (nv+1) c') (nv+1) (i64s (vals ++ [x])):=by rw[←i64s_app];exact hown
 have hp1:w'.heap[bp]?=some (.cells #[.int .i64 st,.slice Ao no co,.slice Av nv cv,.slice Ac nc cc,.slice Ai ni ci] T):=(hg.block bp (lt_of_block (h.alloc (.cells cs te)).hp) (fun e=>by have:=(h.hv.lt bp e.symm).1;omega)).trans (h.alloc (.cells cs te)).hp
 have hs:=heap_setCell_same w' bp 2 _ _ (.slice A' (nv+1) c') hp1
 exact⟨hp1,hs,ownsRow_setCell_below hown' (a:=⟨bp,2,none⟩) hb _,ownsRow_setCell_below ((h.alloc (.cells cs te)).hc.kept hg (own_apartA (h.alloc (.cells cs te)).hc (h.alloc (.cells cs te)).hv (by decide))) (a:=⟨bp,2,none⟩) hb _,ownsRow_setCell_below ((h.alloc (.cells cs te)).hi.kept hg (own_apartA (h.alloc (.cells cs te)).hi (h.alloc (.cells cs te)).hv (by decide))) (a:=⟨bp,2,none⟩) hb _,((h.alloc (.cells cs te)).kb.grown hg (fun g e => .inl (h.hv.lt g e).1)).setCell (.inr hX) _,(app_below (h.alloc (.cells cs te)).bl (h.alloc (.cells cs te)).hv hg (h.alloc (.cells cs te)).bl.size hv0).setCell hw _⟩
theorem TkSt.appChg (h:TkSt X v0 w0 bp T st vals chg inb Ao co Av cv Ac cc Ai ci no nv nc ni w) {cs:Array Value} {te:TypeId} {A':Option Addr} {c':Nat} {x:Bool} (hb:bp<v0.heap.size) (hX:bp∈X) (hw:w0.heap.size≤bp) (hv0:w0.heap.size≤v0.heap.size)
  (hown:w'.ownsRow v0.heap.size 4 1 (.slice A' (nc+1) c') (nc+1) (bools chg ++ [.bool x])) (hg:(w.alloc (.cells cs te)).grownBy w' (Value.slice Ac nc cc).ownBlock) :
  w'.heap[bp]?=some (.cells #[.int .i64 st,.slice Ao no co,.slice Av nv cv,.slice Ac nc cc,.slice Ai ni ci] T)∧TkSt X v0 w0 bp T st vals (chg ++ [x]) inb Ao co Av cv A' c' Ai ci no nv (nc+1) ni (w'.setCell ⟨bp,3,none⟩ (.slice A' (nc+1) c')):=by
 have hown':w'.ownsRow v0.heap.size 4 1 (.slice A' (nc+1) c') (nc+1) (bools (chg ++ [x])):=by rw[←bools_append];exact hown
 have hp1:w'.heap[bp]?=some (.cells #[.int .i64 st,.slice Ao no co,.slice Av nv cv,.slice Ac nc cc,.slice Ai ni ci] T):=(hg.block bp (lt_of_block (h.alloc (.cells cs te)).hp) (fun e=>by have:=(h.hc.lt bp e.symm).1;omega)).trans (h.alloc (.cells cs te)).hp
 have hs:=heap_setCell_same w' bp 3 _ _ (.slice A' (nc+1) c') hp1
 exact⟨hp1,hs,ownsRow_setCell_below ((h.alloc (.cells cs te)).hv.kept hg (own_apartA (h.alloc (.cells cs te)).hv (h.alloc (.cells cs te)).hc (by decide))) (a:=⟨bp,3,none⟩) hb _,ownsRow_setCell_below hown' (a:=⟨bp,3,none⟩) hb _,ownsRow_setCell_below ((h.alloc (.cells cs te)).hi.kept hg (own_apartA (h.alloc (.cells cs te)).hi (h.alloc (.cells cs te)).hc (by decide))) (a:=⟨bp,3,none⟩) hb _,((h.alloc (.cells cs te)).kb.grown hg (fun g e => .inl (h.hc.lt g e).1)).setCell (.inr hX) _,(app_below (h.alloc (.cells cs te)).bl (h.alloc (.cells cs te)).hc hg (h.alloc (.cells cs te)).bl.size hv0).setCell hw _⟩
theorem TkSt.appInb (h:TkSt X v0 w0 bp T st vals chg inb Ao co Av cv Ac cc Ai ci no nv nc ni w) {cs:Array Value} {te:TypeId} {A':Option Addr} {c':Nat} {x:Ml} (hb:bp<v0.heap.size) (hX:bp∈X) (hw:w0.heap.size≤bp) (hv0:w0.heap.size≤v0.heap.size)
  (hown:w'.ownsRow v0.heap.size 51 2 (.slice A' (ni+1) c') (ni+1) (mlFlat inb ++ [.bool x.1,.int .i64 x.2])) (hg:(w.alloc (.cells cs te)).grownBy w' (Value.slice Ai ni ci).ownBlock) :
  w'.heap[bp]?=some (.cells #[.int .i64 st,.slice Ao no co,.slice Av nv cv,.slice Ac nc cc,.slice Ai ni ci] T)∧TkSt X v0 w0 bp T st vals chg (inb ++ [x]) Ao co Av cv Ac cc A' c' no nv nc (ni+1) (w'.setCell ⟨bp,4,none⟩ (.slice A' (ni+1) c')):=by
 have hown':w'.ownsRow v0.heap.size 51 2 (.slice A' (ni+1) c') (ni+1) (mlFlat (inb ++ [x])):=by rw[←mlFlat_app];exact hown
 have hp1:w'.heap[bp]?=some (.cells #[.int .i64 st,.slice Ao no co,.slice Av nv cv,.slice Ac nc cc,.slice Ai ni ci] T):=(hg.block bp (lt_of_block (h.alloc (.cells cs te)).hp) (fun e=>by have:=(h.hi.lt bp e.symm).1;omega)).trans (h.alloc (.cells cs te)).hp
 have hs:=heap_setCell_same w' bp 4 _ _ (.slice A' (ni+1) c') hp1
 exact⟨hp1,hs,ownsRow_setCell_below ((h.alloc (.cells cs te)).hv.kept hg (own_apartA (h.alloc (.cells cs te)).hv (h.alloc (.cells cs te)).hi (by decide))) (a:=⟨bp,4,none⟩) hb _,ownsRow_setCell_below ((h.alloc (.cells cs te)).hc.kept hg (own_apartA (h.alloc (.cells cs te)).hc (h.alloc (.cells cs te)).hi (by decide))) (a:=⟨bp,4,none⟩) hb _,ownsRow_setCell_below hown' (a:=⟨bp,4,none⟩) hb _,((h.alloc (.cells cs te)).kb.grown hg (fun g e => .inl (h.hi.lt g e).1)).setCell (.inr hX) _,(app_below (h.alloc (.cells cs te)).bl (h.alloc (.cells cs te)).hi hg (h.alloc (.cells cs te)).bl.size hv0).setCell hw _⟩
theorem TkSt.drew (h:TkSt X v0 w0 bp T st vals chg inb Ao co Av cv Ac cc Ai ci no nv nc ni w):TkSt X v0 w0 bp T st vals chg inb Ao co Av cv Ac cc Ai ci no nv nc ni w.drew:=⟨h.hp,h.hv.drew,h.hc.drew,h.hi.drew,h.kb.drew,h.bl.drew⟩
end
def TakeMid (w:World) (C:Array Value) (st:Int) (own:List Int) (v9:Value) (u:World):Prop:=∃(bp q:Nat) (Ao:Option Addr) (co:Nat),v9 = .pointer (some ⟨bp,0,none⟩)∧w.heap.size+2≤bp∧bp<u.heap.size∧own.length=q ∧
 u.heap[bp]?=some (.cells #[.int .i64 st,.slice Ao q co,.slice none 0 0,.slice none 0 0,.slice none 0 0] 42)∧u.heap[w.heap.size]?=some (.cells C 33)∧u.heap[w.heap.size+1]?=some (.cells #[.int .i64 0,.slice none 0 0,.slice none 0 0,.slice none 0 0,.slice none 0 0] 42)∧u.ownsRow (w.heap.size+2) 3 1 (.slice Ao q co) q (i64s own)∧Below w.heap.size w u
theorem GetPost.newOf {w w':World} {p:SPart} {c s c9:Int} {no nv nc ni co cv cc ci:Nat} {Ao Av Ac Ai:Option Addr} (h:GetPost w p c (.returned (.tuple #[.agg #[.int .i64 s,.slice Ao no co,.slice Av nv cv,.slice Ac nc cc,.slice Ai ni ci],.int .i64 c9])) w') (n1:NewAA w.heap.size Ao) (n2:NewAA w.heap.size Av) (n3:NewAA w.heap.size Ac) (n4:NewAA w.heap.size Ai) :
  GetPostN w p c (.returned (.tuple #[.agg #[.int .i64 s,.slice Ao no co,.slice Av nv cv,.slice Ac nc cc,.slice Ai ni ci],.int .i64 c9])) w':=by
 obtain⟨a1,a2,a3,a4,B1,b1,B2,b2,B3,b3,B4,b4,h1,h2,h3,h4,h5⟩:=h
 simp only[Ending.returned.injEq,Value.tuple.injEq,Array.mk.injEq,List.cons.injEq,Value.agg.injEq,Value.slice.injEq,Value.int.injEq,and_true,true_and] at h3
 obtain⟨⟨hs,⟨rfl,rfl,rfl⟩,⟨rfl,rfl,rfl⟩,⟨rfl,rfl,rfl⟩,⟨rfl,rfl,rfl⟩⟩,hc⟩:=h3
 subst hs hc
 exact⟨_,_,_,_,_,_,_,_,_,_,_,_,h1,h2,rfl,h4,h5,n1,n2,n3,n4⟩
theorem own_nat {n k:Int} {V i:Nat} {x:Int} (h:(ownUpto n k V)[i]?=some x):∃v:Nat,x=(v:Int)∧v<V:=by
 have:=List.mem_of_getElem? h
 unfold ownUpto at this
 rw[List.mem_filter,List.mem_map] at this
 obtain⟨⟨j,hj,rfl⟩,_⟩:=this
 exact⟨j,rfl,List.mem_range.1 hj⟩
theorem below_dr0A (B:Nat) (u:World):Below B u u.drew:=(Below.refl B u).drew
theorem stakeN_any (w:World) (st sm mo:Int) (A1 A2 A3:Option Addr) (V n2 n3 c1 c2 c3:Nat) (vals:List Int) (chg:List Bool) (inb:List Ml) (n k:Int) (hV:V≤60) (hv:vals.length=V) (hc:chg.length=n2) (hi:inb.length=n3)
  (r1:Rd w w.heap.size A1 (i64s vals)) (r2:Rd w w.heap.size A2 (bools chg)) (r3:Rd w w.heap.size A3 (mlFlat inb)) :
  Calls Tryz.prog 9 #[.agg #[.int .i64 st,.slice A1 V c1,.slice A2 n2 c2,.slice A3 n3 c3,.int .i64 sm,.int .i64 mo],.int .i64 n,.int .i64 k] w (GetPostN w (takeP st vals chg inb n k) (takeE st vals chg inb n k)):=by
 obtain⟨a1,a1i,a1z,a1s,a1b⟩:=info_parts (show (Tryz.prog.info? 2).map (fun i=>(i.zero,i.size,i.bytes))=some (some (.int .i64 0),1,8) by kernel_rfl)
 obtain⟨a2,a2i,a2z,a2s,a2b⟩:=info_parts (show (Tryz.prog.info? 4).map (fun i=>(i.zero,i.size,i.bytes))=some (some (.bool false),1,1) by kernel_rfl)
 obtain⟨a3,a3i,a3z,a3s,a3b⟩:=info_parts (show (Tryz.prog.info? 51).map (fun i=>(i.zero,i.size,i.bytes))=some (some (.agg #[.bool false,.int .i64 0]),2,16) by kernel_rfl)
 obtain⟨u,hu⟩:∃u,(w.alloc (.cells #[.int .i64 st,.slice A1 V c1,.slice A2 n2 c2,.slice A3 n3 c3,.int .i64 sm,.int .i64 mo] 33)).alloc (.cells #[.int .i64 0,.slice none 0 0,.slice none 0 0,.slice none 0 0,.slice none 0 0] 42)=u:=⟨_,rfl⟩
 have hzu:w.heap.size+1<u.heap.size:=by rw[←hu];simp
 have HBU:=hide (show Below w.heap.size w u by rw[←hu];exact ((Below.refl _ _).alloc (Nat.le_refl _) _).alloc (by simp) _)
 have M1:=hide (show u.heap[w.heap.size+1]?=some (.cells #[.int .i64 0,.slice none 0 0,.slice none 0 0,.slice none 0 0,.slice none 0 0] 42) by rw[←hu];have h:=heap_alloc_last (w.alloc (.cells #[.int .i64 st,.slice A1 V c1,.slice A2 n2 c2,.slice A3 n3 c3,.int .i64 sm,.int .i64 mo] 33)) (.cells #[.int .i64 0,.slice none 0 0,.slice none 0 0,.slice none 0 0,.slice none 0 0] 42);simpa using h)
 have M0:=hide (show u.heap[w.heap.size]?=some (.cells #[.int .i64 st,.slice A1 V c1,.slice A2 n2 c2,.slice A3 n3 c3,.int .i64 sm,.int .i64 mo] 33) by rw[←hu];exact heap_alloc_keepA (heap_alloc_last _ _))
 have HU:=hide hu
 have HV:=hide hv
 have HC:=hide hc
 have HI:=hide hi
 have R1:=hide r1
 have R2:=hide r2
 have R3:=hide r3
 clear hu hv hc hi r1 r2 r3
 by_cases b1:n<1
 ·have HN:Hid (takeE st vals chg inb n k=2):=hide (by unfold takeE;rw[if_pos (by omega)])
  have ZW:=M1
  have HBf:=HBU
  have N0:=M0.out
  obtain⟨x0,x1,x2,x3,x4,x5⟩:=zr6 N0
  clear N0
  go_enter Tryz.func9,Tryz.ntmps9
  go_upto_region 1 with fail
  rw[HU.out]
  obtain⟨z0,z1,z2,z3,z4⟩:=zr5 ZW.out
  have zq:=zf ZW.out;have zf0:=zq 0;have zf1:=zq 1;have zf2:=zq 2;have zf3:=zq 3;have zf4:=zq 4;clear zq
  have HFin:=hide (five_fin (.int .i64 0) (.slice none 0 0) (.slice none 0 0) (.slice none 0 0) (.slice none 0 0) (show w.heap.size≤w.heap.size+1 by omega) ZW.out HBf.out)
  go_wp2
  obtain⟨f,hf,hfB,h6⟩:=HFin.out
  rw[hf]
  obtain⟨y0,y1,y2,y3,y4⟩:=zr5 h6
  exact bodyPost_ret (v:=.tuple #[.agg #[.int .i64 0,.slice none 0 0,.slice none 0 0,.slice none 0 0,.slice none 0 0],.int .i64 2]) (by simp[results,Tryz.results9,go_sem,y0,y1,y2,y3,y4]) rfl (GetPost.newOf (take_bad HN.out (by decide) hfB) (fun _ _ e=>nomatch e) (fun _ _ e=>nomatch e) (fun _ _ e=>nomatch e) (fun _ _ e=>nomatch e))
 by_cases b2:64<n
 ·have HN:Hid (takeE st vals chg inb n k=2):=hide (by unfold takeE;rw[if_pos (by omega)])
  have ZW:=M1
  have HBf:=HBU
  have N0:=M0.out
  obtain⟨x0,x1,x2,x3,x4,x5⟩:=zr6 N0
  clear N0
  go_enter Tryz.func9,Tryz.ntmps9
  go_upto_region 1 with fail
  rw[HU.out]
  obtain⟨z0,z1,z2,z3,z4⟩:=zr5 ZW.out
  have zq:=zf ZW.out;have zf0:=zq 0;have zf1:=zq 1;have zf2:=zq 2;have zf3:=zq 3;have zf4:=zq 4;clear zq
  have HFin:=hide (five_fin (.int .i64 0) (.slice none 0 0) (.slice none 0 0) (.slice none 0 0) (.slice none 0 0) (show w.heap.size≤w.heap.size+1 by omega) ZW.out HBf.out)
  go_wp2
  obtain⟨f,hf,hfB,h6⟩:=HFin.out
  rw[hf]
  obtain⟨y0,y1,y2,y3,y4⟩:=zr5 h6
  exact bodyPost_ret (v:=.tuple #[.agg #[.int .i64 0,.slice none 0 0,.slice none 0 0,.slice none 0 0,.slice none 0 0],.int .i64 2]) (by simp[results,Tryz.results9,go_sem,y0,y1,y2,y3,y4]) rfl (GetPost.newOf (take_bad HN.out (by decide) hfB) (fun _ _ e=>nomatch e) (fun _ _ e=>nomatch e) (fun _ _ e=>nomatch e) (fun _ _ e=>nomatch e))
 by_cases b3:k<0
 ·have HN:Hid (takeE st vals chg inb n k=2):=hide (by unfold takeE;rw[if_pos (by omega)])
  have ZW:=M1
  have HBf:=HBU
  have N0:=M0.out
  obtain⟨x0,x1,x2,x3,x4,x5⟩:=zr6 N0
  clear N0
  go_enter Tryz.func9,Tryz.ntmps9
  go_upto_region 1 with fail
  rw[HU.out]
  obtain⟨z0,z1,z2,z3,z4⟩:=zr5 ZW.out
  have zq:=zf ZW.out;have zf0:=zq 0;have zf1:=zq 1;have zf2:=zq 2;have zf3:=zq 3;have zf4:=zq 4;clear zq
  have HFin:=hide (five_fin (.int .i64 0) (.slice none 0 0) (.slice none 0 0) (.slice none 0 0) (.slice none 0 0) (show w.heap.size≤w.heap.size+1 by omega) ZW.out HBf.out)
  go_wp2
  obtain⟨f,hf,hfB,h6⟩:=HFin.out
  rw[hf]
  obtain⟨y0,y1,y2,y3,y4⟩:=zr5 h6
  exact bodyPost_ret (v:=.tuple #[.agg #[.int .i64 0,.slice none 0 0,.slice none 0 0,.slice none 0 0,.slice none 0 0],.int .i64 2]) (by simp[results,Tryz.results9,go_sem,y0,y1,y2,y3,y4]) rfl (GetPost.newOf (take_bad HN.out (by decide) hfB) (fun _ _ e=>nomatch e) (fun _ _ e=>nomatch e) (fun _ _ e=>nomatch e) (fun _ _ e=>nomatch e))
 by_cases b4:n≤k
 ·have HN:Hid (takeE st vals chg inb n k=2):=hide (by unfold takeE;rw[if_pos (by omega)])
  have ZW:=M1
  have HBf:=HBU
  have N0:=M0.out
  obtain⟨x0,x1,x2,x3,x4,x5⟩:=zr6 N0
  clear N0
  go_enter Tryz.func9,Tryz.ntmps9
  go_upto_region 1 with fail
  rw[HU.out]
  obtain⟨z0,z1,z2,z3,z4⟩:=zr5 ZW.out
  have zq:=zf ZW.out;have zf0:=zq 0;have zf1:=zq 1;have zf2:=zq 2;have zf3:=zq 3;have zf4:=zq 4;clear zq
  have HFin:=hide (five_fin (.int .i64 0) (.slice none 0 0) (.slice none 0 0) (.slice none 0 0) (.slice none 0 0) (show w.heap.size≤w.heap.size+1 by omega) ZW.out HBf.out)
  go_wp2
  obtain⟨f,hf,hfB,h6⟩:=HFin.out
  rw[hf]
  obtain⟨y0,y1,y2,y3,y4⟩:=zr5 h6
  exact bodyPost_ret (v:=.tuple #[.agg #[.int .i64 0,.slice none 0 0,.slice none 0 0,.slice none 0 0,.slice none 0 0],.int .i64 2]) (by simp[results,Tryz.results9,go_sem,y0,y1,y2,y3,y4]) rfl (GetPost.newOf (take_bad HN.out (by decide) hfB) (fun _ _ e=>nomatch e) (fun _ _ e=>nomatch e) (fun _ _ e=>nomatch e) (fun _ _ e=>nomatch e))
 by_cases hV0:V=0
 ·subst hV0
  have HN:Hid (takeE st vals chg inb n k=4):=hide (by unfold takeE;rw[if_neg (by omega),if_pos (.inl HV.out)])
  have N0:=M0.out
  obtain⟨x0,x1,x2,x3,x4,x5⟩:=zr6 N0
  clear N0
  go_enter Tryz.func9,Tryz.ntmps9
  go_upto_region 1 with fail
  rw[HU.out]
  go_upto_region 4 with fail
  refine wp_region_held_drew (S:=Kept u) (by kernel_rfl) (Kept.drew u) (fun hS0=>?_)
  refine tka 0 31 ?_
  refine tka 1 32 ?_
  refine tka 2 33 ?_
  refine ska 3 34 ?_
  refine ska 4 35 ?_
  refine tka 5 36 ?_
  refine tka 6 37 ?_
  refine ska 7 38 ?_
  refine ska 8 39 ?_
  refine ska 9 40 ?_
  refine ska 10 41 ?_
  refine ska 11 42 ?_
  refine ska 12 43 ?_
  refine ska 13 44 ?_
  refine ska 14 45 ?_
  refine ska 15 46 ?_
  refine ska 16 47 ?_
  refine ska 17 48 ?_
  refine ska 18 49 ?_
  refine ska 19 50 ?_
  refine tka 20 51 ?_
  refine wpAnyH_done (by kernel_rfl) ?_ _
  clear hS0
  obtain⟨ud,hud⟩:∃z,u.drew=z:=⟨_,rfl⟩
  have ZW:Hid (ud.heap[w.heap.size+1]?=some (.cells #[.int .i64 0,.slice none 0 0,.slice none 0 0,.slice none 0 0,.slice none 0 0] 42)):=hide (by rw[←hud];exact M1.out)
  have HBf:Hid (Below w.heap.size w ud):=hide (by rw[←hud];exact HBU.out.drew)
  rw[hud]
  clear hud
  obtain⟨z0,z1,z2,z3,z4⟩:=zr5 ZW.out
  have zq:=zf ZW.out;have zf0:=zq 0;have zf1:=zq 1;have zf2:=zq 2;have zf3:=zq 3;have zf4:=zq 4;clear zq
  have HFin:=hide (five_fin (.int .i64 0) (.slice none 0 0) (.slice none 0 0) (.slice none 0 0) (.slice none 0 0) (show w.heap.size≤w.heap.size+1 by omega) ZW.out HBf.out)
  go_wp2
  obtain⟨f,hf,hfB,h6⟩:=HFin.out
  rw[hf]
  obtain⟨y0,y1,y2,y3,y4⟩:=zr5 h6
  exact bodyPost_ret (v:=.tuple #[.agg #[.int .i64 0,.slice none 0 0,.slice none 0 0,.slice none 0 0,.slice none 0 0],.int .i64 4]) (by simp[results,Tryz.results9,go_sem,y0,y1,y2,y3,y4]) rfl (GetPost.newOf (take_bad HN.out (by decide) hfB) (fun _ _ e=>nomatch e) (fun _ _ e=>nomatch e) (fun _ _ e=>nomatch e) (fun _ _ e=>nomatch e))
 have hV1:¬(V:Int)<1:=by omega
 have hV2:¬(512:Int)<(V:Int):=by omega
 have l0:w.heap.size<u.heap.size:=by omega
 have N0:=M0.out
 obtain⟨x0,x1,x2,x3,x4,x5⟩:=zr6 N0
 clear N0
 rcases hrb:rightB (wholeP st vals chg inb) with _ | _
 ·have HRB:=hide hrb
  clear hrb
  have HN:Hid (takeE st vals chg inb n k=4):=hide (by unfold takeE;rw[if_neg (by omega),if_pos (.inr HRB.out)])
  go_enter Tryz.func9,Tryz.ntmps9
  go_upto_region 1 with fail
  rw[HU.out]
  go_upto_region 4 with fail
  refine wp_region_held_drew (S:=Kept u) (by kernel_rfl) (Kept.drew u) (fun hS0=>?_)
  refine tka 0 31 ?_
  refine tka 1 32 ?_
  refine tka 2 33 ?_
  refine tka 3 34 ?_
  refine tka 4 35 ?_
  refine tka 5 36 ?_
  refine tka 6 37 ?_
  refine tka 7 38 ?_
  refine tka 8 39 ?_
  refine tka 9 40 ?_
  refine tka 11 42 ?_
  refine tka 12 43 ?_
  refine tka 13 44 ?_
  refine tka 14 45 ?_
  refine tka 15 46 ?_
  refine tka 16 47 ?_
  refine ck 10 41 fun K hK=>?_
  go_simp
  have hcl:=owned_any u.drew (V:Int) 1 0
  rw[owned_upto V 1 0 (by omega),own_all_ V (by omega)] at hcl
  refine hcl.mono ?_
  clear hcl
  rintro e wq1 ⟨A,c,rfl,ho,hz⟩
  rw[upto_len] at ho ⊢
  have hS1:Kept u wq1:=hS0.below (by simp) hz
  have Z1:Hid (Below u.heap.size u wq1):=hide ((below_dr0A u.heap.size u).trans hz)
  have s1:u.heap.size≤wq1.heap.size:=by have:=hz.size;simpa using this
  have HSL:Hid (SLen (wholeP st vals chg inb) V V n2 n3):=hide ⟨by unfold wholeP;rw[upto_len];exact HV.out,HV.out,HC.out,HI.out⟩
  have HSI:Hid (SIn wq1 (wholeP st vals chg inb) A A1 A2 A3):=hide ⟨by unfold wholeP;rw[HV.out];exact Rd.of_own ho,(R1.out.next HBU.out).next Z1.out,(R2.out.next HBU.out).next Z1.out,(R3.out.next HBU.out).next Z1.out⟩
  clear ho hz
  go_wp2_with fail
  refine hK.out _ _ hS1 (fun hSn=>?_)
  clear hK K
  try simp only[zqd,zqe,zqf]
  refine tka 17 48 ?_
  refine ck 18 49 fun K hK=>?_
  go_simp
  have hcl:=right_any wq1 (wholeP st vals chg inb) A A1 A2 A3 V V n2 n3 c c1 c2 c3 HSL.out (by omega) HSI.out
  rw[HRB.out,show (wholeP st vals chg inb).step=st from rfl] at hcl
  refine hcl.mono ?_
  clear hcl
  rintro e wq2 ⟨rfl,hz⟩
  have hS2:Kept u wq2:=hS1.below s1 hz
  have Z2:=hide (Z1.out.trans (hz.mono s1))
  have s2:u.heap.size≤wq2.heap.size:=Nat.le_trans s1 hz.size
  clear hz
  go_wp2_with fail
  refine hK.out _ _ hS2 (fun hSn=>?_)
  clear hK K
  try simp only[zqd,zqe,zqf]
  refine tka 19 50 ?_
  refine tka 20 51 ?_
  refine wpAnyH_done (by kernel_rfl) ?_ _
  clear hS0 hS1 hS2 hSn
  have ZW:=hide ((Z2.out.block _ (by omega)).trans M1.out)
  have HBf:=hide (HBU.out.trans (Z2.out.mono (by omega)))
  clear x0 x1 x2 x3 x4 x5
  obtain⟨z0,z1,z2,z3,z4⟩:=zr5 ZW.out
  have zq:=zf ZW.out;have zf0:=zq 0;have zf1:=zq 1;have zf2:=zq 2;have zf3:=zq 3;have zf4:=zq 4;clear zq
  have HFin:=hide (five_fin (.int .i64 0) (.slice none 0 0) (.slice none 0 0) (.slice none 0 0) (.slice none 0 0) (show w.heap.size≤w.heap.size+1 by omega) ZW.out HBf.out)
  go_wp2
  obtain⟨f,hf,hfB,h6⟩:=HFin.out
  rw[hf]
  obtain⟨y0,y1,y2,y3,y4⟩:=zr5 h6
  exact bodyPost_ret (v:=.tuple #[.agg #[.int .i64 0,.slice none 0 0,.slice none 0 0,.slice none 0 0,.slice none 0 0],.int .i64 4]) (by simp[results,Tryz.results9,go_sem,y0,y1,y2,y3,y4]) rfl (GetPost.newOf (take_bad HN.out (by decide) hfB) (fun _ _ e=>nomatch e) (fun _ _ e=>nomatch e) (fun _ _ e=>nomatch e) (fun _ _ e=>nomatch e))
 have HRB:=hide hrb
 clear hrb
 have HN:Hid (takeE st vals chg inb n k=0):=hide (by unfold takeE;rw[if_neg (by omega),if_neg (by rw[HRB.out,HV.out];simp;omega)])
 go_enter Tryz.func9,Tryz.ntmps9
 go_upto_region 1 with fail
 rw[HU.out]
 go_upto_region 4 with fail
 refine wp_region_held_drew (S:=Kept u) (by kernel_rfl) (Kept.drew u) (fun hS0=>?_)
 refine tka 0 31 ?_
 refine tka 1 32 ?_
 refine tka 2 33 ?_
 refine tka 3 34 ?_
 refine tka 4 35 ?_
 refine tka 5 36 ?_
 refine tka 6 37 ?_
 refine tka 7 38 ?_
 refine tka 8 39 ?_
 refine tka 9 40 ?_
 refine tka 11 42 ?_
 refine tka 12 43 ?_
 refine tka 13 44 ?_
 refine tka 14 45 ?_
 refine tka 15 46 ?_
 refine tka 16 47 ?_
 refine ck 10 41 fun K hK=>?_
 go_simp
 have hcl:=owned_any u.drew (V:Int) 1 0
 rw[owned_upto V 1 0 (by omega),own_all_ V (by omega)] at hcl
 refine hcl.mono ?_
 clear hcl
 rintro e wq1 ⟨A,c,rfl,ho,hz⟩
 rw[upto_len] at ho ⊢
 have hS1:Kept u wq1:=hS0.below (by simp) hz
 have Z1:Hid (Below u.heap.size u wq1):=hide ((below_dr0A u.heap.size u).trans hz)
 have s1:u.heap.size≤wq1.heap.size:=by have:=hz.size;simpa using this
 have HSL:Hid (SLen (wholeP st vals chg inb) V V n2 n3):=hide ⟨by unfold wholeP;rw[upto_len];exact HV.out,HV.out,HC.out,HI.out⟩
 have HSI:Hid (SIn wq1 (wholeP st vals chg inb) A A1 A2 A3):=hide ⟨by unfold wholeP;rw[HV.out];exact Rd.of_own ho,(R1.out.next HBU.out).next Z1.out,(R2.out.next HBU.out).next Z1.out,(R3.out.next HBU.out).next Z1.out⟩
 clear ho hz
 go_wp2_with fail
 refine hK.out _ _ hS1 (fun hSn=>?_)
 clear hK K
 try simp only[zqd,zqe,zqf]
 refine tka 17 48 ?_
 refine ck 18 49 fun K hK=>?_
 go_simp
 have hcl:=right_any wq1 (wholeP st vals chg inb) A A1 A2 A3 V V n2 n3 c c1 c2 c3 HSL.out (by omega) HSI.out
 rw[HRB.out,show (wholeP st vals chg inb).step=st from rfl] at hcl
 refine hcl.mono ?_
 clear hcl
 rintro e wq2 ⟨rfl,hz⟩
 have hS2:Kept u wq2:=hS1.below s1 hz
 have Z2:=hide (Z1.out.trans (hz.mono s1))
 have s2:u.heap.size≤wq2.heap.size:=Nat.le_trans s1 hz.size
 clear hz
 go_wp2_with fail
 refine hK.out _ _ hS2 (fun hSn=>?_)
 clear hK K
 try simp only[zqd,zqe,zqf]
 refine tka 19 50 ?_
 refine tka 20 51 ?_
 refine wpAnyH_done (by kernel_rfl) ?_ _
 clear hS0 hS1 hS2 hSn x0 x1 x2 x3 x4 x5
 obtain⟨ws,rfl⟩:∃z,z=wq2:=⟨_,rfl⟩
 have GW:=hide ((Z2.out.block _ (by omega)).trans M0.out)
 have ZW:=hide ((Z2.out.block _ (by omega)).trans M1.out)
 have HB1:=hide (HBU.out.trans (Z2.out.mono (by omega)))
 have hb1s:w.heap.size+2≤ws.heap.size:=by omega
 have lw0:w.heap.size<ws.heap.size:=by omega
 have N0:=GW.out
 obtain⟨x0,x1,x2,x3,x4,x5⟩:=zr6 N0
 clear N0
 clear s1 s2 Z1 Z2
 have HOW:=hide (owned_upto V n k (by omega))
 go_upto_region 6 with fail
 go_cut [9] (fun v9 wc=>Hid (TakeMid w #[.int .i64 st,.slice A1 V c1,.slice A2 n2 c2,.slice A3 n3 c3,.int .i64 sm,.int .i64 mo] st (ownUpto n k V) v9 wc))
 case first=>
  refine wpL_region (S:=Kept ws) [8] (by kernel_rfl) (Kept.drew ws) (fun hS0=>?_)
  refine tla 0 53 ?_
  refine tla 1 54 ?_
  refine tla 2 55 ?_
  refine tla 3 56 ?_
  refine tla 4 57 ?_
  refine call2L_at (i:=5) (j:=7) (by simp only[zqa,zqb,zqc];rfl) (by simp only[zqa,zqb,zqc];rfl) (by kernel_rfl) rfl rfl (fun K hK=>?_) (fun K hK=>?_)
  ·go_simp
   refine (owned_any _ (V:Int) n k).mono ?_
   rintro e z1 ⟨Ao,co,rfl,ho,hz⟩
   rw[HOW.out] at ho ⊢
   obtain⟨q,hq⟩:∃q,(ownUpto n k V).length=q:=⟨_,rfl⟩
   rw[hq] at ho ⊢
   have hS1:Kept ws z1:=hS0.below (by simp) hz
   have HO:=hide ho
   have HZ:=hide hz
   have HM:=hide hq
   clear ho hz hq
   go_wp2_with fail
   refine hK.out _ _ hS1 (fun hSn=>?_)
   clear hK K
   try simp only[zqd,zqe,zqf]
   refine tla 6 59 ?_
   refine cl 7 9 fun K hK=>?_
   go_simp
   have hS2:Kept ws (z1.alloc (.cells #[.int .i64 0,.slice none 0 0,.slice none 0 0,.slice none 0 0,.slice none 0 0] 42)):=fun p hp=>(World.cell?_alloc_lt _ _ _ (by have:=HZ.out.size;simp at this;omega)).trans (hS1 p hp)
   refine hK.out _ _ hS2 (fun hSn=>?_)
   clear hK K
   try simp only[zqd,zqe,zqf]
   refine xl 8 fun K hK=>?_
   go_wp2_with fail
   refine hK.out _ _ ?_
   clear hK K
   try simp only[zqd,zqe,zqf]
   refine wpAnyL_done (by kernel_rfl) ?_ _
   clear hS0 hS1 hS2 hSn
   have HFin:Hid (TakeMid w #[.int .i64 st,.slice A1 V c1,.slice A2 n2 c2,.slice A3 n3 c3,.int .i64 sm,.int .i64 mo] st (ownUpto n k V) (.pointer (some ⟨z1.heap.size,0,none⟩)) (z1.alloc (.cells #[.int .i64 st,.slice Ao q co,.slice none 0 0,.slice none 0 0,.slice none 0 0] 42))):=hide (by
     have hzs:=HZ.out.size
     simp at hzs
     refine⟨z1.heap.size,q,Ao,co,rfl,by omega,by simp,HM.out,heap_alloc_last _ _,?_,?_,own_base ((HO.out).alloc _) (by simp;omega),?_⟩
     ·exact (Below.heap_alloc _ _ _ (by omega)).trans ((HZ.out.block _ (by simp;omega)).trans GW.out)
     ·exact (Below.heap_alloc _ _ _ (by omega)).trans ((HZ.out.block _ (by simp;omega)).trans ZW.out)
     ·exact (HB1.out.drew.trans (HZ.out.mono (by simp;omega))).alloc (by omega) _)
   go_wp2
   go_meet
   case rel=>exact HFin
  go_simp
  have hS1:Kept ws (ws.drew.alloc (.cells #[.int .i64 0,.slice none 0 0,.slice none 0 0,.slice none 0 0,.slice none 0 0] 42)):=fun p hp=>(World.cell?_alloc_lt _ _ _ hp)
  refine hK.out _ _ hS1 (fun hSn=>?_)
  clear hK K
  try simp only[zqd,zqe,zqf]
  refine cl 5 58 fun K hK=>?_
  go_simp
  refine (owned_any _ (V:Int) n k).mono ?_
  rintro e z1 ⟨Ao,co,rfl,ho,hz⟩
  rw[HOW.out] at ho ⊢
  obtain⟨q,hq⟩:∃q,(ownUpto n k V).length=q:=⟨_,rfl⟩
  rw[hq] at ho ⊢
  have hS2:Kept ws z1:=hS1.below (by simp) hz
  have HO:=hide ho
  have HZ:=hide hz
  have HM:=hide hq
  clear ho hz hq
  go_wp2_with fail
  refine hK.out _ _ hS2 (fun hSn=>?_)
  clear hK K
  try simp only[zqd,zqe,zqf]
  refine tla 6 59 ?_
  refine xl 8 fun K hK=>?_
  have cP:z1.heap[ws.heap.size]?=some (.cells #[.int .i64 0,.slice none 0 0,.slice none 0 0,.slice none 0 0,.slice none 0 0] 42):=(HZ.out.block _ (by simp)).trans (heap_alloc_last ws.drew _)
  obtain⟨cp0,cp1,cp2,cp3,cp4⟩:=zr5 cP
  have zq:=zf cP;have cf0:=zq 0;have cf1:=zq 1;have cf2:=zq 2;have cf3:=zq 3;have cf4:=zq 4;clear zq
  have CP:=hide cP
  clear cP
  go_wp2_with fail
  refine hK.out _ _ ?_
  clear hK K cp0 cf0 cp1 cf1 cp2 cf2 cp3 cf3 cp4 cf4
  try simp only[zqd,zqe,zqf]
  refine wpAnyL_done (by kernel_rfl) ?_ _
  clear hS0 hS1 hS2 hSn
  have HFin:Hid (TakeMid w #[.int .i64 st,.slice A1 V c1,.slice A2 n2 c2,.slice A3 n3 c3,.int .i64 sm,.int .i64 mo] st (ownUpto n k V) (.pointer (some ⟨ws.heap.size,0,none⟩)) (((((z1.setCell ⟨ws.heap.size,0,none⟩ (.int .i64 st)).setCell ⟨ws.heap.size,1,none⟩ (.slice Ao q co)).setCell ⟨ws.heap.size,2,none⟩ (.slice none 0 0)).setCell ⟨ws.heap.size,3,none⟩ (.slice none 0 0)).setCell ⟨ws.heap.size,4,none⟩ (.slice none 0 0))):=hide (by
    have hzs:=HZ.out.size
    simp at hzs
    have e1:=heap_setCell_same z1 ws.heap.size 0 _ _ (.int .i64 st) CP.out
    have e2:=heap_setCell_same _ ws.heap.size 1 _ _ (.slice Ao q co) e1
    have e3:=heap_setCell_same _ ws.heap.size 2 _ _ (.slice none 0 0) e2
    have e4:=heap_setCell_same _ ws.heap.size 3 _ _ (.slice none 0 0) e3
    have e5:=heap_setCell_same _ ws.heap.size 4 _ _ (.slice none 0 0) e4
    have o1:z1.ownsRow (ws.heap.size+1) 3 1 (.slice Ao q co) q (i64s (ownUpto n k V)):=by have:=HO.out;simp at this;exact this
    have o2:=fun (w:World) (h:w.ownsRow (ws.heap.size+1) 3 1 (.slice Ao q co) q (i64s (ownUpto n k V))) (i:Nat) (u:Value)=>ownsRow_setCell_below h (a:=⟨ws.heap.size,i,none⟩) (by simp) u
    refine⟨ws.heap.size,q,Ao,co,rfl,by omega,by simp only[World.size_setCell];omega,HM.out,e5,?_,?_,own_base (o2 _ (o2 _ (o2 _ (o2 _ (o2 _ o1 _ _) _ _) _ _) _ _) _ _) (by omega),?_⟩
    ·iterate 5 rw[Below.heap_setCell _ _ _ _ (by show w.heap.size≠ws.heap.size;omega)]
     exact (HZ.out.block _ (by simp;omega)).trans ((Below.heap_alloc _ _ _ (by show _<ws.heap.size;omega)).trans GW.out)
    ·iterate 5 rw[Below.heap_setCell _ _ _ _ (by show w.heap.size+1≠ws.heap.size;omega)]
     exact (HZ.out.block _ (by simp;omega)).trans ((Below.heap_alloc _ _ _ (by show _<ws.heap.size;omega)).trans ZW.out)
    ·have b0:=(HB1.out.drew.alloc (by simp;omega) (.cells #[.int .i64 0,.slice none 0 0,.slice none 0 0,.slice none 0 0,.slice none 0 0] 42)).trans (HZ.out.mono (by simp;omega))
     exact ((((b0.setCell (p:=⟨ws.heap.size,0,none⟩) (by simp;omega) _).setCell (p:=⟨ws.heap.size,1,none⟩) (by simp;omega) _).setCell (p:=⟨ws.heap.size,2,none⟩) (by simp;omega) _).setCell (p:=⟨ws.heap.size,3,none⟩) (by simp;omega) _).setCell (p:=⟨ws.heap.size,4,none⟩) (by simp;omega) _)
  go_wp2
  go_meet
  case rel=>exact HFin
 case rest=>
  clear x0 x1 x2 x3 x4 x5 lw0 hb1s GW ZW HB1
  obtain⟨bp,q,Ao,co,rfl,hbp1,hbp2,hq,hCP,hGB,hZB,hO,hBw⟩:=hcut.out
  obtain⟨v0,rfl⟩:∃v,v=wc:=⟨_,rfl⟩
  have HQ:=hide hq
  have HPv:=hide hCP
  have HS0:=hide hGB
  have HZ0:=hide hZB
  have HO:=hide hO
  have HOX:=hide (own_ne hO hCP (show (3:TypeId)≠42 by decide))
  have HBv:=hide hBw
  clear hq hCP hGB hZB hO hBw hcut
  have hlens:=right_whole_lens HRB.out
  have hc2:chg.length=V:=by have:=HV.out;omega
  have hi3:inb.length=V:=by have:=HV.out;omega
  have HC2:=hide hc2
  have HI3:=hide hi3
  have HN2:Hid (n2=V):=hide (by have:=HC.out;omega)
  have HN3:Hid (n3=V):=hide (by have:=HI.out;omega)
  clear hlens hc2 hi3
  have hqv:q≤V:=by rw[←HQ.out];exact own_len n k V
  have G0:Hid (TkSt [bp] v0 w bp 42 st [] [] [] Ao co none 0 none 0 none 0 q 0 0 0 v0):=hide ⟨HPv.out,World.ownsRow_nil _ _ _ _,World.ownsRow_nil _ _ _ _,World.ownsRow_nil _ _ _ _,KB.refl _ _,HBv.out⟩
  have hbv:bp<v0.heap.size:=hbp2
  have hHv:w.heap.size+1<v0.heap.size:=by omega
  have HHX:Hid (w.heap.size+1∉[bp]):=hide (by simp;omega)
  have HHY:Hid (w.heap.size∉[bp]):=hide (by simp;omega)
  have hwbp:w.heap.size≤bp:=by omega
  have hwv:w.heap.size≤v0.heap.size:=by omega
  have hwv2:w.heap.size+2≤v0.heap.size:=by omega
  have HOwn0:=HO
  have p1:v0.cell? ⟨bp,1,none⟩=some (.slice Ao q co):=cell_of_row _ _ 1 _ _ _ HPv.out
  go_wp2
  clear p1
  go_loopw [63] (fun v63 wr=>∃(i:Nat) (Av:Option Addr) (cv:Nat) (Ac:Option Addr) (cc:Nat) (Ai:Option Addr) (ci:Nat),i≤q∧v63 = .int .i64 (i:Int)∧Hid (TkSt [bp] v0 w bp 42 st (pv vals ((ownUpto n k V).take i)) (pc chg ((ownUpto n k V).take i)) (pm inb ((ownUpto n k V).take i)) Ao co Av cv Ac cc Ai ci q i i i wr)) (fun v63 _=>q-(intOf v63).toNat)
  case atStart=>exact⟨0,none,0,none,0,none,0,by omega,rfl,G0⟩
  case round=>
   clear G0
   obtain⟨i,Av,cv,Ac,cc,Ai,ci,hi,rfl,GR⟩:=hrel
   have srw:v0.heap.size≤wr.heap.size:=GR.out.kb.1
   by_cases hlt:i<q
   ·have hI:(i:Int)<(q:Int):=by omega
    obtain⟨x,hx⟩:∃x,(ownUpto n k V)[i]?=some x:=⟨_,List.getElem?_eq_getElem (by rw[HQ.out];exact hlt)⟩
    obtain⟨v,rfl,hvV⟩:=own_nat hx
    have HSN:=hide (show (ownUpto n k V).take (i+1)=(ownUpto n k V).take i ++ [(v:Int)] by rw[List.take_add_one,hx];rfl)
    obtain⟨ob,hAo,hob1,hob2,_⟩:=own_addr HO.out (by omega)
    have hobp:ob≠bp:=HOX.out ob (by rw[hAo];rfl)
    subst hAo
    have d0:wr.cell? ⟨ob,i,none⟩=some (.int .i64 (v:Int)):=(GR.out.kb.cell (p:=⟨ob,i,none⟩) hob2 (by simp;exact hobp)).trans ((HO.out.cellAt i (by omega)).trans (by rw[i64s_get hx]))
    obtain⟨a,ha⟩:∃a,vals[v]?=some a:=⟨_,List.getElem?_eq_getElem (by rw[HV.out];exact hvV)⟩
    obtain⟨b,hb⟩:∃a,chg[v]?=some a:=⟨_,List.getElem?_eq_getElem (by rw[HC2.out];exact hvV)⟩
    obtain⟨m,hm⟩:∃a,inb[v]?=some a:=⟨_,List.getElem?_eq_getElem (by rw[HI3.out];exact hvV)⟩
    obtain⟨e1,o1,rfl,l1,d1⟩:=R1.out.at1 (i64s_get ha)
    obtain⟨e2,o2,rfl,l2,d2⟩:=R2.out.at1 (show (bools chg)[v]?=some (.bool b) by simp[bools,hb])
    obtain⟨e3,o3,rfl,l3,d3,d4⟩:=R3.out.ml hm
    have HA:=hide ha
    have HBb:=hide hb
    have HMm:=hide hm
    have D1:=hide d1
    have D2:=hide d2
    have D3:=hide d3
    have D4:=hide d4
    clear ha hb hm d1 d2 d3 d4 hx
    have hv1:(v:Int)<(V:Int):=by omega
    have hv2:(v:Int)<(n2:Int):=by have:=HN2.out;omega
    have hv3:(v:Int)<(n3:Int):=by have:=HN3.out;omega
    have hobw:ob<wr.heap.size:=by omega
    have lbp:=lt_of_block GR.out.hp
    go_upto_region 10 with fail
    clear d0 lbp
    have G1:=GR
    have p2:wr.cell? ⟨bp,2,none⟩=some (.slice Av i cv):=cell_of_row _ _ 2 _ _ _ G1.out.hp
    have lbp:=lt_of_block G1.out.hp
    have sz1:v0.heap.size≤wr.heap.size:=G1.out.kb.1
    have hcp1:=own_cap G1.out.hv
    have x1:wr.cell? ⟨w.heap.size,1,none⟩=some (.slice (some ⟨e1,o1,none⟩) V c1):=(G1.out.kb.cell (p:=⟨w.heap.size,1,none⟩) (by show w.heap.size<_;omega) HHY.out).trans (cell_of_row _ _ 1 _ _ _ HS0.out)
    have d1:wr.cell? ⟨e1,o1+v,none⟩=some (.int .i64 a):=(G1.out.bl.cell (p:=⟨e1,o1+v,none⟩) l1).trans D1.out
    have lw1:w.heap.size<wr.heap.size:=by omega
    have le1:e1<wr.heap.size:=by omega
    refine wpL_region (S:=Kept wr) [8,10] (by kernel_rfl) (Kept.drew wr) (fun hS0=>?_)
    refine twa 0 67 ?_
    refine tla 1 68 ?_
    refine twa 2 69 ?_
    refine tua [3,5,6,7,8,9,10] 3 70 ?_
    refine twa 4 71 ?_
    refine twa 5 72 ?_
    refine tua [6,7,8,9,10] 6 73 ?_
    refine cl 7 74 fun K hK=>?_
    go_simp
    have hS1:Kept wr (wr.drew.alloc (.cells #[.int .i64 a] 2)):=fun p hp=>World.cell?_alloc_lt _ _ _ hp
    refine hK.out _ _ hS1 (fun hSn=>?_)
    clear hK K
    try simp only[zqd,zqe,zqf]
    refine xl 8 fun K hK=>?_
    refine op_app (.tmp 68) (.tmp 74) 29 rfl v0.heap.size 2 a1 (.int .i64 0) 1 8 Tryz.underlying29 a1i a1z a1s a1b rfl (by decide) (.slice Av i cv) i _ rfl (G1.out.hv.drew.alloc _) (wr.heap.size+1) (some ⟨wr.heap.size,0,none⟩) 1 1 [.int .i64 a] rfl rfl (Rd.new _ _ _ _) (by simp[Value.oneCell']) (by unfold maxLen;omega) (by omega) (by simp;omega) ?_
    intro A1' c1' y1 own1 hg1 hat1
    have AP:=G1.out.drew.appVals (x:=a) hbv (by simp) hwbp hwv own1 hg1
    have q2:y1.cell? ⟨bp,2,none⟩=some (.slice Av i cv):=cell_of_row _ _ 2 _ _ _ AP.1
    have qf2:=zf AP.1 2
    have AP2:=hide AP.2
    clear AP own1 hg1 hat1
    refine hK.out _ _ ?_
    clear hK K
    simp only[Act.put]
    try simp only[zqd,zqe,zqf]
    refine twa 9 76 ?_
    refine xl 10 fun K hK=>?_
    go_wp2_with fail
    refine hK.out _ _ ?_
    clear hK K
    try simp only[zqd,zqe,zqf]
    refine wpAnyL_done (by kernel_rfl) ?_ _
    clear hS0 hSn hS1
    obtain⟨wa2,hwa2⟩:∃z,y1.setCell ⟨bp,2,none⟩ (.slice A1' (i+1) c1')=z:=⟨_,rfl⟩
    have G2:=hide AP2.out
    rw[hwa2] at G2
    have HE1:=hide hwa2
    clear AP2 hwa2 p2 lbp G1 hcp1 x1 d1 lw1 le1
    go_upto_region 11 with fail
    rw[HE1.out]
    clear HE1 q2 qf2
    have p3:wa2.cell? ⟨bp,3,none⟩=some (.slice Ac i cc):=cell_of_row _ _ 3 _ _ _ G2.out.hp
    have lbp:=lt_of_block G2.out.hp
    have sz2:v0.heap.size≤wa2.heap.size:=G2.out.kb.1
    have hcp2:=own_cap G2.out.hc
    have x2:wa2.cell? ⟨w.heap.size,2,none⟩=some (.slice (some ⟨e2,o2,none⟩) n2 c2):=(G2.out.kb.cell (p:=⟨w.heap.size,2,none⟩) (by show w.heap.size<_;omega) HHY.out).trans (cell_of_row _ _ 2 _ _ _ HS0.out)
    have d2:wa2.cell? ⟨e2,o2+v,none⟩=some (.bool b):=(G2.out.bl.cell (p:=⟨e2,o2+v,none⟩) l2).trans D2.out
    have lw2:w.heap.size<wa2.heap.size:=by omega
    have le2:e2<wa2.heap.size:=by omega
    refine wpL_region (S:=Kept wa2) [8,10] (by kernel_rfl) (Kept.drew wa2) (fun hS0=>?_)
    refine twa 0 77 ?_
    refine tla 1 78 ?_
    refine twa 2 79 ?_
    refine tua [3,5,6,7,8,9,10] 3 80 ?_
    refine twa 4 81 ?_
    refine twa 5 82 ?_
    refine tua [6,7,8,9,10] 6 83 ?_
    refine cl 7 84 fun K hK=>?_
    go_simp
    have hS1:Kept wa2 (wa2.drew.alloc (.cells #[.bool b] 4)):=fun p hp=>World.cell?_alloc_lt _ _ _ hp
    refine hK.out _ _ hS1 (fun hSn=>?_)
    clear hK K
    try simp only[zqd,zqe,zqf]
    refine xl 8 fun K hK=>?_
    refine op_app (.tmp 78) (.tmp 84) 30 rfl v0.heap.size 4 a2 (.bool false) 1 1 Tryz.underlying30 a2i a2z a2s a2b rfl (by decide) (.slice Ac i cc) i _ rfl (G2.out.hc.drew.alloc _) (wa2.heap.size+1) (some ⟨wa2.heap.size,0,none⟩) 1 1 [.bool b] rfl rfl (Rd.new _ _ _ _) (by simp[Value.oneCell']) (by unfold maxLen;omega) (by omega) (by simp;omega) ?_
    intro A2' c2' y2 own2 hg2 hat2
    have AP:=G2.out.drew.appChg (x:=b) hbv (by simp) hwbp hwv own2 hg2
    have q3:y2.cell? ⟨bp,3,none⟩=some (.slice Ac i cc):=cell_of_row _ _ 3 _ _ _ AP.1
    have qf3:=zf AP.1 3
    have AP2:=hide AP.2
    clear AP own2 hg2 hat2
    refine hK.out _ _ ?_
    clear hK K
    simp only[Act.put]
    try simp only[zqd,zqe,zqf]
    refine twa 9 86 ?_
    refine xl 10 fun K hK=>?_
    go_wp2_with fail
    refine hK.out _ _ ?_
    clear hK K
    try simp only[zqd,zqe,zqf]
    refine wpAnyL_done (by kernel_rfl) ?_ _
    clear hS0 hSn hS1
    obtain⟨wa3,hwa3⟩:∃z,y2.setCell ⟨bp,3,none⟩ (.slice A2' (i+1) c2')=z:=⟨_,rfl⟩
    have G3:=hide AP2.out
    rw[hwa3] at G3
    have HE2:=hide hwa3
    clear AP2 hwa3 p3 lbp G2 hcp2 x2 d2 lw2 le2
    go_upto_region 12 with fail
    rw[HE2.out]
    clear HE2 q3 qf3
    have p4:wa3.cell? ⟨bp,4,none⟩=some (.slice Ai i ci):=cell_of_row _ _ 4 _ _ _ G3.out.hp
    have lbp:=lt_of_block G3.out.hp
    have sz3:v0.heap.size≤wa3.heap.size:=G3.out.kb.1
    have hcp3:=own_cap G3.out.hi
    have x3:wa3.cell? ⟨w.heap.size,3,none⟩=some (.slice (some ⟨e3,o3,none⟩) n3 c3):=(G3.out.kb.cell (p:=⟨w.heap.size,3,none⟩) (by show w.heap.size<_;omega) HHY.out).trans (cell_of_row _ _ 3 _ _ _ HS0.out)
    have d3:wa3.cell? ⟨e3,o3+v*2,none⟩=some (.bool m.1):=(G3.out.bl.cell (p:=⟨e3,o3+v*2,none⟩) l3).trans D3.out
    have d4:wa3.cell? ⟨e3,o3+v*2+1,none⟩=some (.int .i64 m.2):=(G3.out.bl.cell (p:=⟨e3,o3+v*2+1,none⟩) l3).trans D4.out
    have lw3:w.heap.size<wa3.heap.size:=by omega
    have le3:e3<wa3.heap.size:=by omega
    refine wpL_region (S:=Kept wa3) [8,10] (by kernel_rfl) (Kept.drew wa3) (fun hS0=>?_)
    refine twa 0 87 ?_
    refine tla 1 88 ?_
    refine twa 2 89 ?_
    refine tua [3,5,6,7,8,9,10] 3 90 ?_
    refine twa 4 91 ?_
    refine twa 5 92 ?_
    refine tua [6,7,8,9,10] 6 93 ?_
    refine cl 7 94 fun K hK=>?_
    go_simp
    have hS1:Kept wa3 (wa3.drew.alloc (.cells #[.bool m.1,.int .i64 m.2] 51)):=fun p hp=>World.cell?_alloc_lt _ _ _ hp
    refine hK.out _ _ hS1 (fun hSn=>?_)
    clear hK K
    try simp only[zqd,zqe,zqf]
    refine xl 8 fun K hK=>?_
    refine op_app (.tmp 88) (.tmp 94) 31 rfl v0.heap.size 51 a3 (.agg #[.bool false,.int .i64 0]) 2 16 Tryz.underlying31 a3i a3z a3s a3b rfl (by decide) (.slice Ai i ci) i _ rfl (G3.out.hi.drew.alloc _) (wa3.heap.size+1) (some ⟨wa3.heap.size,0,none⟩) 1 1 [.bool m.1,.int .i64 m.2] rfl rfl (Rd.new _ _ _ _) (by simp[Value.oneCell']) (by unfold maxLen;omega) (by omega) (by simp;omega) ?_
    intro A3' c3' y3 own3 hg3 hat3
    have AP:=G3.out.drew.appInb (x:=m) hbv (by simp) hwbp hwv own3 hg3
    have q4:y3.cell? ⟨bp,4,none⟩=some (.slice Ai i ci):=cell_of_row _ _ 4 _ _ _ AP.1
    have qf4:=zf AP.1 4
    have AP2:=hide AP.2
    clear AP own3 hg3 hat3
    refine hK.out _ _ ?_
    clear hK K
    simp only[Act.put]
    try simp only[zqd,zqe,zqf]
    refine twa 9 96 ?_
    refine xl 10 fun K hK=>?_
    go_wp2_with fail
    refine hK.out _ _ ?_
    clear hK K
    try simp only[zqd,zqe,zqf]
    refine wpAnyL_done (by kernel_rfl) ?_ _
    clear hS0 hSn hS1
    obtain⟨wa4,hwa4⟩:∃z,y3.setCell ⟨bp,4,none⟩ (.slice A3' (i+1) c3')=z:=⟨_,rfl⟩
    have G4:=hide AP2.out
    rw[hwa4] at G4
    have HE3:=hide hwa4
    clear AP2 hwa4 p4 lbp G3 hcp3 x3 d3 lw3 le3 d4
    have GN:Hid (TkSt [bp] v0 w bp 42 st (pv vals ((ownUpto n k V).take (i+1))) (pc chg ((ownUpto n k V).take (i+1))) (pm inb ((ownUpto n k V).take (i+1))) (some ⟨ob,0,none⟩) co A1' c1' A2' c2' A3' c3' q (i+1) (i+1) (i+1) wa4):=hide (by rw[HSN.out,pv_snoc HA.out,pc_snoc HBb.out,pm_snoc HMm.out];exact G4.out)
    clear G4 GR
    go_wp2
    rw[HE3.out]
    go_roundw
    case rel=>first | exact⟨i+1,A1',c1',A2',c2',A3',c3',by omega,by go_num,GN⟩ | ((repeat apply Exists.intro);exact⟨⟨i+1,A1',c1',A2',c2',A3',c3',by omega,by go_num,GN⟩,rfl⟩)
    case measure=>simp[intOf];omega
   obtain rfl:i=q:=by omega
   have ZW:=hide ((GR.out.kb.2 _ hHv HHX.out).trans HZ0.out)
   obtain⟨p0,p1,p2,p3,p4⟩:=zr5 GR.out.hp
   have lbp:=lt_of_block GR.out.hp
   obtain⟨z0,z1,z2,z3,z4⟩:=zr5 ZW.out
   have zq:=zf ZW.out;have zf0:=zq 0;have zf1:=zq 1;have zf2:=zq 2;have zf3:=zq 3;have zf4:=zq 4;clear zq
   have hfull:(ownUpto n k V).take i=ownUpto n k V:=List.take_of_length_le (by rw[HQ.out];exact Nat.le_refl _)
   have HR4:Hid (Rows4 (w.heap.size+2) (ownUpto n k V) (pv vals (ownUpto n k V)) (pc chg (ownUpto n k V)) (pm inb (ownUpto n k V)) Ao co Av cv Ac cc Ai ci i i i i wr):=hide (by
 have g:=GR.out
 rw[hfull] at g
 exact⟨g.kb.own HO.out (fun z hz=>by simp;exact HOX.out z hz),own_base g.hv hwv2,own_base g.hc hwv2,own_base g.hi hwv2⟩)
   clear hfull
   have HFin:=hide (five_fin_rows (.int .i64 st) (.slice Ao i co) (.slice Av i cv) (.slice Ac i cc) (.slice Ai i ci) (show w.heap.size≤w.heap.size+1 by omega) ZW.out GR.out.bl (show w.heap.size+1<w.heap.size+2 by omega) HR4.out)
   have HQ2:Hid ((ownUpto n k vals.length).length=i):=hide (by rw[HV.out];exact HQ.out)
   clear HR4 GR
   go_wp2
   obtain⟨f,hf,hfB,h6,hr⟩:=HFin.out
   rw[hf]
   obtain⟨y0,y1,y2,y3,y4⟩:=zr5 h6
   exact bodyPost_ret (v:=.tuple #[.agg #[.int .i64 st,.slice Ao i co,.slice Av i cv,.slice Ac i cc,.slice Ai i ci],.int .i64 0]) (by simp[results,Tryz.results9,go_sem,y0,y1,y2,y3,y4]) rfl (GetPost.newOf (take_ok HN.out HQ2.out (by omega) (by rw[HV.out];exact hr.sin) hfB) (own_newA hr.ho (by omega)) (own_newA hr.hv (by omega)) (own_newA hr.hc (by omega)) (own_newA hr.hi (by omega)))
theorem stake_any (w:World) (st sm mo:Int) (A1 A2 A3:Option Addr) (V n2 n3 c1 c2 c3:Nat) (vals:List Int) (chg:List Bool) (inb:List Ml) (n k:Int) (hV:V≤60) (hv:vals.length=V) (hc:chg.length=n2) (hi:inb.length=n3)
  (r1:Rd w w.heap.size A1 (i64s vals)) (r2:Rd w w.heap.size A2 (bools chg)) (r3:Rd w w.heap.size A3 (mlFlat inb)) :
  Calls Tryz.prog 9 #[.agg #[.int .i64 st,.slice A1 V c1,.slice A2 n2 c2,.slice A3 n3 c3,.int .i64 sm,.int .i64 mo],.int .i64 n,.int .i64 k] w (GetPost w (takeP st vals chg inb n k) (takeE st vals chg inb n k)):=
 (stakeN_any w st sm mo A1 A2 A3 V n2 n3 c1 c2 c3 vals chg inb n k hV hv hc hi r1 r2 r3).mono fun _ _ h=>h.old
def wp1:SPart:=⟨3,[],[],[],[]⟩
def wp2:SPart:=⟨0,[1],[5],[true],[(false,0)]⟩
def wp3:SPart:=⟨0,[1],[5],[true],[(true,9)]⟩
theorem rd_low {w w':World} {b B:Nat} {xs:List Value} (h:Rd w w.heap.size (some ⟨b,0,none⟩) xs) (hb:b<B) (hw:Below B w w') (hs:b<w'.heap.size):Rd w' w'.heap.size (some ⟨b,0,none⟩) xs:=fun hn=>by
 obtain⟨b',off,e,hl,hc⟩:=h hn
 have e0:=e
 injection e with e
 injection e with e1 e2
 subst e1 e2
 exact⟨b,0,rfl,hs,fun j u hu=>(hw.cell (p:=⟨b,0+j,none⟩) hb).trans (hc j u hu)⟩
theorem below_trans' {B C:Nat} {a b c:World} (h:Below C a b) (k:Below B b c) (hBC:B≤C):Below B a c:=(h.mono hBC).trans k
theorem sfew_any (w:World) (st:Int) (Ao Av Ac Ai:Option Addr) (no nv nc ni co cv cc ci:Nat):Calls Tryz.prog 33 #[.agg #[.int .i64 st,.slice Ao no co,.slice Av nv cv,.slice Ac nc cc,.slice Ai ni ci]] w fun e w'=>e = .returned (.bool (decide (no≤60) && decide (nv≤60) && decide (nc≤60) && decide (ni≤60)))∧Below w.heap.size w w':=by
 have HB:=hide (show Below w.heap.size w (w.alloc (.cells #[.int .i64 st,.slice Ao no co,.slice Av nv cv,.slice Ac nc cc,.slice Ai ni ci] 42)) from (Below.refl _ _).alloc (Nat.le_refl _) _)
 by_cases h1:no≤60 <;> by_cases h2:nv≤60 <;> by_cases h3:nc≤60 <;> by_cases h4:ni≤60
 all_goals
  go_enter Tryz.func33,Tryz.ntmps33
  go_wp2
  go_ret
  exact⟨ret_b (by simp[h1,h2,h3,h4] <;> omega),HB.out⟩
theorem splain_any (w:World) (st:Int) (Ao Av Ac Ai:Option Addr) (no nv nc ni co cv cc ci:Nat):Calls Tryz.prog 24 #[.agg #[.int .i64 st,.slice Ao no co,.slice Av nv cv,.slice Ac nc cc,.slice Ai ni ci]] w fun e w'=>e = .returned (.agg #[.int .i64 st,.slice Ao no co,.slice Av nv cv,.slice Ac nc cc,.slice Ai ni ci])∧Below w.heap.size w w':=by
 go_enter Tryz.func24,Tryz.ntmps24
 go_wp2
 exact bodyPost_ret (v:=.agg #[.int .i64 st,.slice Ao no co,.slice Av nv cv,.slice Ac nc cc,.slice Ai ni ci]) (by simp[results,Tryz.results24,go_sem]) rfl ⟨rfl,((Below.refl _ _).alloc (Nat.le_refl _) _).alloc (by simp) _⟩
theorem works_any (w:World):Calls Tryz.prog 15 #[] w fun e w'=>e = .returned (.bool true)∧Below w.heap.size w w':=by
 have hp1:=sput_ok w wp1 none none none none 0 0 0 0 0 0 0 0 ⟨rfl,rfl,rfl,rfl⟩ (by decide) ⟨Rd.nil_,Rd.nil_,Rd.nil_,Rd.nil_⟩ (by decide)
 go_enter Tryz.func15,Tryz.ntmps15
 go_wp2_with fail
 refine hp1.mono ?_
 clear hp1
 rintro e w1 ⟨A1,c1,n1,hn1,rfl,hr1,hc1,hm1,hb1⟩
 obtain rfl:n1=6:=hn1.symm
 have R1:=hide hr1
 have K1:=hide hb1
 clear hn1 hr1 hb1
 go_upto_region 3 with fail
 obtain⟨v,hv⟩:∃v,(((((w1.alloc (.cells #[.int .i64 1] 3)).alloc (.cells #[.int .i64 5] 2)).alloc (.cells #[.bool true] 4)).alloc (.cells #[.bool false,.int .i64 0] 51)).alloc (.cells #[.int .i64 0,.slice (some ⟨w1.heap.size,0,none⟩) 1 1,.slice (some ⟨w1.heap.size+1,0,none⟩) 1 1,.slice (some ⟨w1.heap.size+2,0,none⟩) 1 1,.slice (some ⟨w1.heap.size+3,0,none⟩) 1 1] 42))=v:=⟨_,rfl⟩
 rw[hv]
 have M0:v.heap[w1.heap.size]?=some (.cells #[.int .i64 1] 3):=by
   rw[←hv]
   rw[Below.heap_alloc _ _ _ (by simp;try omega)]
   rw[Below.heap_alloc _ _ _ (by simp;try omega)]
   rw[Below.heap_alloc _ _ _ (by simp;try omega)]
   rw[Below.heap_alloc _ _ _ (by simp;try omega)]
   have:=heap_alloc_last w1 (.cells #[.int .i64 1] 3)
   simpa using this
 have M1:v.heap[w1.heap.size+1]?=some (.cells #[.int .i64 5] 2):=by
   rw[←hv]
   rw[Below.heap_alloc _ _ _ (by simp;try omega)]
   rw[Below.heap_alloc _ _ _ (by simp;try omega)]
   rw[Below.heap_alloc _ _ _ (by simp;try omega)]
   have:=heap_alloc_last (w1.alloc (.cells #[.int .i64 1] 3)) (.cells #[.int .i64 5] 2)
   simpa using this
 have M2:v.heap[w1.heap.size+2]?=some (.cells #[.bool true] 4):=by
   rw[←hv]
   rw[Below.heap_alloc _ _ _ (by simp;try omega)]
   rw[Below.heap_alloc _ _ _ (by simp;try omega)]
   have:=heap_alloc_last ((w1.alloc (.cells #[.int .i64 1] 3)).alloc (.cells #[.int .i64 5] 2)) (.cells #[.bool true] 4)
   simpa using this
 have M3:v.heap[w1.heap.size+3]?=some (.cells #[.bool false,.int .i64 0] 51):=by
   rw[←hv]
   rw[Below.heap_alloc _ _ _ (by simp;try omega)]
   have:=heap_alloc_last (((w1.alloc (.cells #[.int .i64 1] 3)).alloc (.cells #[.int .i64 5] 2)).alloc (.cells #[.bool true] 4)) (.cells #[.bool false,.int .i64 0] 51)
   simpa using this
 have MP:v.heap[w1.heap.size+4]?=some (.cells #[.int .i64 0,.slice (some ⟨w1.heap.size,0,none⟩) 1 1,.slice (some ⟨w1.heap.size+1,0,none⟩) 1 1,.slice (some ⟨w1.heap.size+2,0,none⟩) 1 1,.slice (some ⟨w1.heap.size+3,0,none⟩) 1 1] 42):=by
   rw[←hv]
   have:=heap_alloc_last ((((w1.alloc (.cells #[.int .i64 1] 3)).alloc (.cells #[.int .i64 5] 2)).alloc (.cells #[.bool true] 4)).alloc (.cells #[.bool false,.int .i64 0] 51)) (.cells #[.int .i64 0,.slice (some ⟨w1.heap.size,0,none⟩) 1 1,.slice (some ⟨w1.heap.size+1,0,none⟩) 1 1,.slice (some ⟨w1.heap.size+2,0,none⟩) 1 1,.slice (some ⟨w1.heap.size+3,0,none⟩) 1 1] 42)
   simpa using this
 have hvs:w1.heap.size+5≤v.heap.size:=by rw[←hv];simp
 have KV:=hide (show Below w1.heap.size w1 v by rw[←hv];exact (((((Below.refl _ _).alloc (Nat.le_refl _) _).alloc (by simp <;> omega) _).alloc (by simp <;> omega) _).alloc (by simp <;> omega) _).alloc (by simp <;> omega) _)
 have S2:=hide (show SIn v wp2 (some ⟨w1.heap.size,0,none⟩) (some ⟨w1.heap.size+1,0,none⟩) (some ⟨w1.heap.size+2,0,none⟩) (some ⟨w1.heap.size+3,0,none⟩) from ⟨Rd.of_block M0,Rd.of_block M1,Rd.of_block M2,Rd.of_block M3⟩)
 obtain⟨p0,p1,p2,p3,p4⟩:=zr5 MP
 have lbp:w1.heap.size+4<v.heap.size:=by omega
 have HMP:=hide MP
 clear M0 M1 M2 M3 MP hv
 have hp2:=sput_ok v wp2 _ _ _ _ 1 1 1 1 1 1 1 1 ⟨rfl,rfl,rfl,rfl⟩ (by decide) S2.out (by decide)
 go_wp2_with fail
 refine hp2.mono ?_
 clear hp2
 rintro e w2 ⟨A2,c2,n2,hn2,rfl,hr2,hc2,hm2,hb2⟩
 obtain rfl:n2=17:=hn2.symm
 have R2:=hide hr2
 have K2:=hide hb2
 have S22:=hide (S2.out.next hb2)
 have MP2:=(hb2.block _ lbp).trans HMP.out
 have hw2:=hb2.size
 have q4:w2.cell? ⟨w1.heap.size+4,4,none⟩=some (.slice (some ⟨w1.heap.size+3,0,none⟩) 1 1):=cell_of_row _ _ 4 _ _ _ MP2
 have qf4:=zf MP2 4
 have lb2:w1.heap.size+4<w2.heap.size:=by omega
 clear hn2 hr2 hb2 p0 p1 p2 p3 p4
 go_upto_region 5 with fail
 obtain⟨v3,hv3⟩:∃z,(w2.setCell ⟨w1.heap.size+1+1+1+1,4,none⟩ (.slice (some ⟨w2.heap.size,0,none⟩) 1 1)).alloc (.cells #[.bool true,.int .i64 9] 51)=z:=⟨_,rfl⟩
 rw[hv3]
 have HMP2:=hide MP2
 have MP3:v3.heap[w1.heap.size+4]?=some (.cells #[.int .i64 0,.slice (some ⟨w1.heap.size,0,none⟩) 1 1,.slice (some ⟨w1.heap.size+1,0,none⟩) 1 1,.slice (some ⟨w1.heap.size+2,0,none⟩) 1 1,.slice (some ⟨w2.heap.size,0,none⟩) 1 1] 42):=by rw[←hv3];exact (Below.heap_alloc _ _ _ (by rw[World.size_setCell];exact lb2)).trans (heap_setCell_same w2 (w1.heap.size+4) 4 _ _ _ MP2)
 have MM:v3.heap[w2.heap.size]?=some (.cells #[.bool true,.int .i64 9] 51):=by
  have h:=heap_alloc_last (w2.setCell ⟨w1.heap.size+1+1+1+1,4,none⟩ (.slice (some ⟨w2.heap.size,0,none⟩) 1 1)) (.cells #[.bool true,.int .i64 9] 51)
  rw[World.size_setCell,hv3] at h
  exact h
 have K3:=hide (show Below (w1.heap.size+4) w2 v3 by rw[←hv3];exact ((Below.refl _ _).setCell (p:=⟨w1.heap.size+4,4,none⟩) (Nat.le_refl _) _).alloc (by rw[World.size_setCell];show w1.heap.size+4≤w2.heap.size;omega) _)
 have hv3s:w2.heap.size+1≤v3.heap.size:=by rw[←hv3];simp
 have S3:=hide (show SIn v3 wp3 (some ⟨w1.heap.size,0,none⟩) (some ⟨w1.heap.size+1,0,none⟩) (some ⟨w1.heap.size+2,0,none⟩) (some ⟨w2.heap.size,0,none⟩) from ⟨(rd_low S2.out.own (by omega) (below_trans' K2.out K3.out (by omega)) (by omega)),(rd_low S2.out.vals (by omega) (below_trans' K2.out K3.out (by omega)) (by omega)),(rd_low S2.out.chg (by omega) (below_trans' K2.out K3.out (by omega)) (by omega)),Rd.of_block MM⟩)
 obtain⟨p0,p1,p2,p3,p4⟩:=zr5 MP3
 have lbp:w1.heap.size+4<v3.heap.size:=by omega
 have HMP3:=hide MP3
 have HV3:=hide hv3
 clear MM MP3 MP2 hv3 q4 qf4 lb2 S22 S2
 have hp3:=sput_ok v3 wp3 _ _ _ _ 1 1 1 1 1 1 1 1 ⟨rfl,rfl,rfl,rfl⟩ (by decide) S3.out (by decide)
 go_wp2_with fail
 refine hp3.mono ?_
 clear hp3
 rintro e w3 ⟨A3,c3,n3,hn3,rfl,hr3,hc3,hm3,hb3⟩
 obtain rfl:n3=25:=hn3.symm
 have R3:=hide hr3
 have K4:=hide hb3
 have hw3:=hb3.size
 clear hn3 hr3 hb3 p0 p1 p2 p3 p4
 have hg:=sget_any w3 A3 (putB wp3) 25 c3 rfl R3.out (by decide)
 rw[show getP (putB wp3)=wp3 by decide +kernel,show getE (putB wp3)=0 by decide +kernel] at hg
 go_wp2_with fail
 refine hg.mono ?_
 clear hg
 rintro e w4 ⟨no,nv,nc,ni,Go',co,Gv,cv,Gc,cc,Gi,ci,hsl,hno,rfl,hsi,hb4⟩
 obtain rfl:no=1:=hsl.1.symm
 obtain rfl:nv=1:=hsl.2.1.symm
 obtain rfl:nc=1:=hsl.2.2.1.symm
 obtain rfl:ni=1:=hsl.2.2.2.symm
 have hw4:=hb4.size
 have SG:=hide hsi
 have HSL:=hide hsl
 have K5:=hide hb4
 clear hsi hb4 hsl hno
 go_upto_region 7 with fail
 obtain⟨v5,hv5⟩:∃z,w4.alloc (.cells #[.int .i64 wp3.step,.slice Go' 1 co,.slice Gv 1 cv,.slice Gc 1 cc,.slice Gi 1 ci] 42)=z:=⟨_,rfl⟩
 first | rw[hv5] | (have hv5':=hv5;rw[show wp3.step=0 from rfl] at hv5';rw[hv5'])
 have hv5s:w4.heap.size+1≤v5.heap.size:=by rw[←hv5];simp
 have K6:=hide (show Below w4.heap.size w4 v5 by rw[←hv5];exact (Below.refl _ _).alloc (Nat.le_refl _) _)
 have MG:v5.heap[w4.heap.size]?=some (.cells #[.int .i64 wp3.step,.slice Go' 1 co,.slice Gv 1 cv,.slice Gc 1 cc,.slice Gi 1 ci] 42):=by rw[←hv5];exact heap_alloc_last _ _
 have K35:=hide (K4.out.trans ((K5.out.mono hw3).trans (K6.out.mono (by omega))))
 have MP5:=(K35.out.block _ lbp).trans HMP3.out
 obtain⟨p0,p1,p2,p3,p4⟩:=zr5 MP5
 obtain⟨g0,g1,g2,g3,g4⟩:=zr5 MG
 have lb5:w1.heap.size+4<v5.heap.size:=by omega
 have lg5:w4.heap.size<v5.heap.size:=by omega
 have SG5:=hide (SG.out.next K6.out)
 have S35:=hide (S3.out.next K35.out)
 have kk:=hide (((K2.out.mono (show w1.heap.size≤v.heap.size by omega)).trans (K3.out.mono (show w1.heap.size≤w1.heap.size+4 by omega))).trans (K35.out.mono (show w1.heap.size≤v3.heap.size by omega)))
 have R15:Rd v5 v5.heap.size A1 (u8s (putB wp1)):=by
  intro hn
  obtain⟨b,off,e,hl,hc⟩:=R1.out hn
  exact⟨b,off,e,by omega,fun j u hu=>(kk.out.cell (p:=⟨b,off+j,none⟩) hl).trans ((KV.out.cell (p:=⟨b,off+j,none⟩) hl).trans (hc j u hu))⟩
 have R25:Rd v5 v5.heap.size A2 (u8s (putB wp2)):=by
  intro hn
  obtain⟨b,off,e,hl,hc⟩:=R2.out hn
  have hne:b≠w1.heap.size+4:=by
   rintro rfl
   have h0:=hc 0 (.int .u8 0) rfl
   rw[cell_of_row _ _ _ _ _ _ HMP2.out] at h0
   rcases off with _ | _ | _ | _ | _ | off <;> simp at h0
  exact⟨b,off,e,by omega,fun j u hu=>(K35.out.cell (p:=⟨b,off+j,none⟩) (by show b<_;omega)).trans (by
   rw[←HV3.out]
   exact (World.cell?_alloc_lt _ _ _ (by rw[World.size_setCell];exact hl)).trans ((World.cell?_setCell_far w2 ⟨w1.heap.size+4,4,none⟩ ⟨b,off+j,none⟩ _ (by first | exact hne | exact fun e=>hne e.symm)).trans (hc j u hu)))⟩
 have R35:Rd v5 v5.heap.size A3 (u8s (putB wp3)):=(R3.out.next K5.out).next K6.out
 have k1:=run_string_of (P:=Tryz.prog) v5 45 9 5 A1 c1 _ (putB wp1) Tryz.underlying45 Tryz.underlying5 Tryz.underlying9 R15
 have k1':(convert 45 9 (.slice A1 6 c1)).run Tryz.prog v5 = .ok (.string ⟨#[0,0,0,3,0,0]⟩) v5:=k1
 have k2:=run_string_of (P:=Tryz.prog) v5 45 9 5 A2 c2 _ (putB wp2) Tryz.underlying45 Tryz.underlying5 Tryz.underlying9 R25
 have k2':(convert 45 9 (.slice A2 17 c2)).run Tryz.prog v5 = .ok (.string ⟨#[0,0,0,0,0,1,0,1,0,0,0,0,0,0,0,5,1]⟩) v5:=k2
 obtain⟨b3,o3,rfl,l3,hc3'⟩:=R35.at_ (k:=16) (by decide)
 have d16:v5.cell? ⟨b3,o3+16,none⟩=some (.int .u8 3):=hc3' 16 _ rfl
 have d24:v5.cell? ⟨b3,o3+24,none⟩=some (.int .u8 9):=hc3' 24 _ rfl
 clear k1 k2 R15 R25 R35 hc3' MG MP5 hv5
 go_wp2_with fail
 have hs:=ssame_any v5 wp3 _ _ _ _ 1 1 1 1 1 1 1 1 ⟨rfl,rfl,rfl,rfl⟩ S35.out wp3 Go' Gv Gc Gi 1 1 1 1 co cv cc ci HSL.out SG5.out (by decide) (by decide) (by decide) (by decide)
 rw[show sameS wp3 wp3=true by decide] at hs
 refine hs.mono ?_
 clear hs
 rintro e w6 ⟨rfl,hb6⟩
 have K7:=hide hb6
 have S36:=hide (S35.out.next hb6)
 have r0:=(hb6.cell (p:=⟨w1.heap.size+4,0,none⟩) lb5).trans p0
 have r1:=(hb6.cell (p:=⟨w1.heap.size+4,1,none⟩) lb5).trans p1
 have r2:=(hb6.cell (p:=⟨w1.heap.size+4,2,none⟩) lb5).trans p2
 have r3:=(hb6.cell (p:=⟨w1.heap.size+4,3,none⟩) lb5).trans p3
 have r4:=(hb6.cell (p:=⟨w1.heap.size+4,4,none⟩) lb5).trans p4
 have hw6:=hb6.size
 clear hb6 k1' k2' d16 d24 p0 g0 p1 g1 p2 g2 p3 g3 p4 g4
 go_wp2_with fail
 have hr:=right_any w6 wp3 _ _ _ _ 1 1 1 1 1 1 1 1 ⟨rfl,rfl,rfl,rfl⟩ (by decide) S36.out
 rw[show rightB wp3=true by decide] at hr
 refine hr.mono ?_
 clear hr
 rintro e w7 ⟨rfl,hb7⟩
 have KF:Hid (Below w.heap.size w w7):=hide (by
  have a1:=K1.out.trans (KV.out.mono K1.out.size)
  have a2:=a1.trans (K2.out.mono (by have:=K1.out.size;omega))
  have a3:=a2.trans (K3.out.mono (by have:=K1.out.size;omega))
  have a4:=a3.trans (K35.out.mono (by have:=K1.out.size;omega))
  have a5:=a4.trans (K7.out.mono (by have:=K1.out.size;omega))
  exact a5.trans (hb7.mono (by have:=K1.out.size;omega)))
 clear hb7
 go_wp2
 go_ret
 exact⟨rfl,KF.out⟩
end Go.Proofs.YtpojjmbalgmcoaaGreat
