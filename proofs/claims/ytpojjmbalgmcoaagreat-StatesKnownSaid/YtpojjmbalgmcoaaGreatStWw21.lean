/- Lemmas: Jrf. -/
import Derived.Test.YtpojjmbalgmcoaaGreatStWw18
import Derived.Test.YtpojjmbalgmcoaaGreatStWw20
set_option linter.unusedVariables false
set_option linter.unusedSimpArgs false
set_option maxRecDepth 100000
set_option maxHeartbeats 16000000
namespace Go.Proofs.YtpojjmbalgmcoaaGreat
open Go.RowKit
theorem pick_lens (st:Int) (V:List Int) (C:List Bool) (M:List Ml) (o:List Int):(pickP st V C M o).vals.length=(pickP st V C M o).own.length∧(pickP st V C M o).chg.length=(pickP st V C M o).own.length∧(pickP st V C M o).inb.length=(pickP st V C M o).own.length:=by
 simp[pickP,pv,pc,pm]
theorem rd_fin {u0 wr f:World} {base H:Nat} {e:TypeId} {size n c:Nat} {A:Option Addr} {xs:List Value} (h:u0.ownsRow base e size (.slice A n c) n xs) (hb:Below u0.heap.size u0 wr) (hH:H<base) (hf:∀b,b≠H→f.heap[b]?=wr.heap[b]?) (hs:f.heap.size=wr.heap.size):Rd f f.heap.size A xs:=fun hn=>by
 have hlen:=h.1
 have hpos:0<n:=by
  rcases Nat.eq_zero_or_pos n with h0 | h0
  ·subst h0
   rw[Nat.zero_mul] at hlen
   exact absurd (List.eq_nil_of_length_eq_zero hlen) hn
  exact h0
 obtain⟨g,rfl,hg,hlt,_⟩:=own_addr h hpos
 refine⟨g,0,rfl,by have:=hb.size;omega,fun j u hu=>?_⟩
 rw[Nat.zero_add]
 have hj:j<xs.length:=(List.getElem?_eq_some_iff.1 hu).1
 exact (World.cell?_of_block (hf g (by omega))).trans ((hb.cell hlt).trans ((h.cellAt j (by omega)).trans hu))
structure StSt (X:List Nat) (v0 w0:World) (bp:Nat) (T:TypeId) (st:Int) (vals:List Int) (chg:List Bool) (inb:List Ml) (Av:Option Addr) (cv:Nat) (Ac:Option Addr) (cc:Nat) (Ai:Option Addr) (ci nv nc ni:Nat) (w:World):Prop where
 hp:w.heap[bp]?=some (.cells #[.int .i64 st,.slice Av nv cv,.slice Ac nc cc,.slice Ai ni ci,.int .i64 0,.int .i64 0] T)
 hv:w.ownsRow v0.heap.size 2 1 (.slice Av nv cv) nv (i64s vals)
 hc:w.ownsRow v0.heap.size 4 1 (.slice Ac nc cc) nc (bools chg)
 hi:w.ownsRow v0.heap.size 51 2 (.slice Ai ni ci) ni (mlFlat inb)
 kb:KB X v0 w
 bl:Below w0.heap.size w0 w
section
variable {X:List Nat} {v0 w0 w w':World} {bp:Nat} {T:TypeId} {st:Int} {vals:List Int} {chg:List Bool} {inb:List Ml} {Av:Option Addr} {cv:Nat} {Ac:Option Addr} {cc:Nat} {Ai:Option Addr} {ci nv nc ni:Nat}
theorem StSt.alloc (h:StSt X v0 w0 bp T st vals chg inb Av cv Ac cc Ai ci nv nc ni w) (o:Obj):StSt X v0 w0 bp T st vals chg inb Av cv Ac cc Ai ci nv nc ni (w.alloc o):=
 ⟨(Below.heap_alloc _ _ _ (lt_of_block h.hp)).trans h.hp,h.hv.alloc o,h.hc.alloc o,h.hi.alloc o,h.kb.alloc o,h.bl.alloc h.bl.size o⟩
theorem StSt.appVals (h:StSt X v0 w0 bp T st vals chg inb Av cv Ac cc Ai ci nv nc ni w) {cs:Array Value} {te:TypeId} {A':Option Addr} {c':Nat} {x:Int} (hb:bp<v0.heap.size) (hX:bp∈X) (hw:w0.heap.size≤bp) (hv0:w0.heap.size≤v0.heap.size)
  (hown:w'.ownsRow v0.heap.size 2 1 (.slice A' (nv+1) c') (nv+1) (i64s vals ++ [.int .i64 x])) (hg:(w.alloc (.cells cs te)).grownBy w' (Value.slice Av nv cv).ownBlock) :
  w'.heap[bp]?=some (.cells #[.int .i64 st,.slice Av nv cv,.slice Ac nc cc,.slice Ai ni ci,.int .i64 0,.int .i64 0] T)∧StSt X v0 w0 bp T st (vals ++ [x]) chg inb A' c' Ac cc Ai ci (nv+1) nc ni (w'.setCell ⟨bp,1,none⟩ (.slice A' (nv+1) c')):=by
 have hown':w'.ownsRow v0.heap.size 2 1 (.slice A' (nv+1) c') (nv+1) (i64s (vals ++ [x])):=by rw[←i64s_app];exact hown
 have hp1:w'.heap[bp]?=some (.cells #[.int .i64 st,.slice Av nv cv,.slice Ac nc cc,.slice Ai ni ci,.int .i64 0,.int .i64 0] T):=(hg.block bp (lt_of_block (h.alloc (.cells cs te)).hp) (fun e=>by have:=(h.hv.lt bp e.symm).1;omega)).trans (h.alloc (.cells cs te)).hp
 have hs:=heap_setCell_same w' bp 1 _ _ (.slice A' (nv+1) c') hp1
 exact⟨hp1,hs,ownsRow_setCell_below hown' (a:=⟨bp,1,none⟩) hb _,ownsRow_setCell_below ((h.alloc (.cells cs te)).hc.kept hg (own_apartA (h.alloc (.cells cs te)).hc (h.alloc (.cells cs te)).hv (by decide))) (a:=⟨bp,1,none⟩) hb _,ownsRow_setCell_below ((h.alloc (.cells cs te)).hi.kept hg (own_apartA (h.alloc (.cells cs te)).hi (h.alloc (.cells cs te)).hv (by decide))) (a:=⟨bp,1,none⟩) hb _,((h.alloc (.cells cs te)).kb.grown hg (fun g e => .inl (h.hv.lt g e).1)).setCell (.inr hX) _,(app_below (h.alloc (.cells cs te)).bl (h.alloc (.cells cs te)).hv hg (h.alloc (.cells cs te)).bl.size hv0).setCell hw _⟩
theorem StSt.appChg (h:StSt X v0 w0 bp T st vals chg inb Av cv Ac cc Ai ci nv nc ni w) {cs:Array Value} {te:TypeId} {A':Option Addr} {c':Nat} {x:Bool} (hb:bp<v0.heap.size) (hX:bp∈X) (hw:w0.heap.size≤bp) (hv0:w0.heap.size≤v0.heap.size)
  (hown:w'.ownsRow v0.heap.size 4 1 (.slice A' (nc+1) c') (nc+1) (bools chg ++ [.bool x])) (hg:(w.alloc (.cells cs te)).grownBy w' (Value.slice Ac nc cc).ownBlock) :
  w'.heap[bp]?=some (.cells #[.int .i64 st,.slice Av nv cv,.slice Ac nc cc,.slice Ai ni ci,.int .i64 0,.int .i64 0] T)∧StSt X v0 w0 bp T st vals (chg ++ [x]) inb Av cv A' c' Ai ci nv (nc+1) ni (w'.setCell ⟨bp,2,none⟩ (.slice A' (nc+1) c')):=by
 have hown':w'.ownsRow v0.heap.size 4 1 (.slice A' (nc+1) c') (nc+1) (bools (chg ++ [x])):=by rw[←bools_append];exact hown
 have hp1:w'.heap[bp]?=some (.cells #[.int .i64 st,.slice Av nv cv,.slice Ac nc cc,.slice Ai ni ci,.int .i64 0,.int .i64 0] T):=(hg.block bp (lt_of_block (h.alloc (.cells cs te)).hp) (fun e=>by have:=(h.hc.lt bp e.symm).1;omega)).trans (h.alloc (.cells cs te)).hp
 have hs:=heap_setCell_same w' bp 2 _ _ (.slice A' (nc+1) c') hp1
 exact⟨hp1,hs,ownsRow_setCell_below ((h.alloc (.cells cs te)).hv.kept hg (own_apartA (h.alloc (.cells cs te)).hv (h.alloc (.cells cs te)).hc (by decide))) (a:=⟨bp,2,none⟩) hb _,ownsRow_setCell_below hown' (a:=⟨bp,2,none⟩) hb _,ownsRow_setCell_below ((h.alloc (.cells cs te)).hi.kept hg (own_apartA (h.alloc (.cells cs te)).hi (h.alloc (.cells cs te)).hc (by decide))) (a:=⟨bp,2,none⟩) hb _,((h.alloc (.cells cs te)).kb.grown hg (fun g e => .inl (h.hc.lt g e).1)).setCell (.inr hX) _,(app_below (h.alloc (.cells cs te)).bl (h.alloc (.cells cs te)).hc hg (h.alloc (.cells cs te)).bl.size hv0).setCell hw _⟩
theorem StSt.appInb (h:StSt X v0 w0 bp T st vals chg inb Av cv Ac cc Ai ci nv nc ni w) {cs:Array Value} {te:TypeId} {A':Option Addr} {c':Nat} {x:Ml} (hb:bp<v0.heap.size) (hX:bp∈X) (hw:w0.heap.size≤bp) (hv0:w0.heap.size≤v0.heap.size)
  (hown:w'.ownsRow v0.heap.size 51 2 (.slice A' (ni+1) c') (ni+1) (mlFlat inb ++ [.bool x.1,.int .i64 x.2])) (hg:(w.alloc (.cells cs te)).grownBy w' (Value.slice Ai ni ci).ownBlock) :
  w'.heap[bp]?=some (.cells #[.int .i64 st,.slice Av nv cv,.slice Ac nc cc,.slice Ai ni ci,.int .i64 0,.int .i64 0] T)∧StSt X v0 w0 bp T st vals chg (inb ++ [x]) Av cv Ac cc A' c' nv nc (ni+1) (w'.setCell ⟨bp,3,none⟩ (.slice A' (ni+1) c')):=by
 have hown':w'.ownsRow v0.heap.size 51 2 (.slice A' (ni+1) c') (ni+1) (mlFlat (inb ++ [x])):=by rw[←mlFlat_app];exact hown
 have hp1:w'.heap[bp]?=some (.cells #[.int .i64 st,.slice Av nv cv,.slice Ac nc cc,.slice Ai ni ci,.int .i64 0,.int .i64 0] T):=(hg.block bp (lt_of_block (h.alloc (.cells cs te)).hp) (fun e=>by have:=(h.hi.lt bp e.symm).1;omega)).trans (h.alloc (.cells cs te)).hp
 have hs:=heap_setCell_same w' bp 3 _ _ (.slice A' (ni+1) c') hp1
 exact⟨hp1,hs,ownsRow_setCell_below ((h.alloc (.cells cs te)).hv.kept hg (own_apartA (h.alloc (.cells cs te)).hv (h.alloc (.cells cs te)).hi (by decide))) (a:=⟨bp,3,none⟩) hb _,ownsRow_setCell_below ((h.alloc (.cells cs te)).hc.kept hg (own_apartA (h.alloc (.cells cs te)).hc (h.alloc (.cells cs te)).hi (by decide))) (a:=⟨bp,3,none⟩) hb _,ownsRow_setCell_below hown' (a:=⟨bp,3,none⟩) hb _,((h.alloc (.cells cs te)).kb.grown hg (fun g e => .inl (h.hi.lt g e).1)).setCell (.inr hX) _,(app_below (h.alloc (.cells cs te)).bl (h.alloc (.cells cs te)).hi hg (h.alloc (.cells cs te)).bl.size hv0).setCell hw _⟩
theorem StSt.drew (h:StSt X v0 w0 bp T st vals chg inb Av cv Ac cc Ai ci nv nc ni w):StSt X v0 w0 bp T st vals chg inb Av cv Ac cc Ai ci nv nc ni w.drew:=⟨h.hp,h.hv.drew,h.hc.drew,h.hi.drew,h.kb.drew,h.bl.drew⟩
end
theorem rjoin14_any (w:World) (A:Option Addr) (ps:List SPart) (L c:Nat) (hL:ps.length=L) (h64:L≤64) (hP:PRow w A ps) (h60:∀p∈ps,p.own.length≤60) :
  Calls Tryz.prog 38 #[.slice A L c] w (JoinPost w ps):=by
 obtain⟨a1,a1i,a1z,a1s,a1b⟩:=info_parts (show (Tryz.prog.info? 2).map (fun i=>(i.zero,i.size,i.bytes))=some (some (.int .i64 0),1,8) by kernel_rfl)
 obtain⟨a2,a2i,a2z,a2s,a2b⟩:=info_parts (show (Tryz.prog.info? 4).map (fun i=>(i.zero,i.size,i.bytes))=some (some (.bool false),1,1) by kernel_rfl)
 obtain⟨a3,a3i,a3z,a3s,a3b⟩:=info_parts (show (Tryz.prog.info? 51).map (fun i=>(i.zero,i.size,i.bytes))=some (some (.agg #[.bool false,.int .i64 0]),2,16) by kernel_rfl)
 obtain⟨v0,hu⟩:∃u,w.alloc (.cells #[.int .i64 0,.slice none 0 0,.slice none 0 0,.slice none 0 0,.int .i64 0,.int .i64 0] 33)=u:=⟨_,rfl⟩
 have hzu:v0.heap.size=w.heap.size+1:=by rw[←hu];simp
 have HB0:=hide (show Below w.heap.size w v0 by rw[←hu];exact (Below.refl _ _).alloc (Nat.le_refl _) _)
 have M0:=hide (show v0.heap[w.heap.size]?=some (.cells #[.int .i64 0,.slice none 0 0,.slice none 0 0,.slice none 0 0,.int .i64 0,.int .i64 0] 33) by rw[←hu];exact heap_alloc_last _ _)
 have HP:=hide (hP.next HB0.out)
 have HU:=hide hu
 have HL:=hide hL
 have H60:=hide h60
 clear hu hP hL h60
 by_cases hL0:L=0
 ·subst hL0
  have HN:Hid (¬okJ ps):=hide (fun h=>by have h1:=h.1;have h2:=HL.out;omega)
  have ZW:=M0
  have HBf:=HB0
  go_enter Tryz.func38,Tryz.ntmps38
  go_upto_region 1 with fail
  rw[HU.out]
  obtain⟨zc0,zc1,zc2,zc3,zc4,zc5⟩:=zr6 ZW.out
  have zq:=zf ZW.out;have zcf0:=zq 0;have zcf1:=zq 1;have zcf2:=zq 2;have zcf3:=zq 3;have zcf4:=zq 4;have zcf5:=zq 5;clear zq
  have HFin:=hide (six_fin (.int .i64 0) (.slice none 0 0) (.slice none 0 0) (.slice none 0 0) (.int .i64 0) (.int .i64 0) (.int .i64 0) (.slice none 0 0) (.slice none 0 0) (.slice none 0 0) (.int .i64 0) (.int .i64 0) (Nat.le_refl w.heap.size) ZW.out HBf.out)
  go_wp2
  obtain⟨f,hf,hfB,h6,hfs,hfo⟩:=HFin.out
  rw[hf]
  obtain⟨y0,y1,y2,y3,y4,y5⟩:=zr6 h6
  exact bodyPost_ret (v:=.tuple #[.agg #[.int .i64 0,.slice none 0 0,.slice none 0 0,.slice none 0 0,.int .i64 0,.int .i64 0],.int .i64 4]) (by simp[results,Tryz.results38,go_sem,y0,y1,y2,y3,y4,y5]) rfl (.inr ⟨HN.out,rfl,hfB⟩)
 have hL1:¬(L:Int)<1:=by omega
 have hL6:¬(64:Int)<(L:Int):=by omega
 have hLI0:(0:Int)<(L:Int):=by omega
 have hLN:0<L:=by omega
 go_enter Tryz.func38,Tryz.ntmps38
 go_upto_region 1 with fail
 rw[HU.out]
 go_wp2
 go_loopw [5,4] (fun v5 v4 wr=>∃i:Nat,i≤L∧v5 = .int .i64 (i:Int)∧v4 = .int .i64 (sumOwn ps i:Int)∧Hid (∀(q:Nat) (p:SPart),q<i→ps[q]?=some p→rightB p=true)∧Hid (Below v0.heap.size v0 wr)) (fun v5 _ _=>L-(intOf v5).toNat)
 case atStart=>exact⟨0,by omega,rfl,by rw[sumOwn_zero];rfl,hide (fun q p h=>absurd h (by omega)),hide (Below.refl _ _)⟩
 case round=>
  obtain⟨i,hi,rfl,rfl,hrt,hbr⟩:=hrel
  have srw:v0.heap.size≤wr.heap.size:=hbr.out.size
  by_cases hlt:i<L
  ·have hI1:(i:Int)<(L:Int):=by omega
   have hI0:(0:Int)≤(i:Int):=by omega
   obtain⟨p,hp⟩:∃p,ps[i]?=some p:=⟨_,List.getElem?_eq_getElem (by rw[HL.out];omega)⟩
   obtain⟨b,off,rfl,hbl,Ao,Av,Ac,Ai,no,nv,nc,ni,co,cv,cc,ci,d0,d1,d2,d3,d4,hlen,hin,hbd⟩:=HP.out.get hp
   have HLen:=hide hlen
   have HIn:=hide hin
   have HBD:=hide hbd
   have HPl:=hide hp
   have hno:no≤60:=by have:=H60.out p (List.mem_of_getElem? hp);rw[HLen.out.1] at this;exact this
   have e0:wr.cell? ⟨b,off+i*5,none⟩=some (.int .i64 p.step):=(hbr.out.cell (p:=⟨b,off+i*5,none⟩) hbl).trans d0
   have e1:wr.cell? ⟨b,off+i*5+1,none⟩=some (.slice Ao no co):=(hbr.out.cell (p:=⟨b,off+i*5+1,none⟩) hbl).trans d1
   have e2:wr.cell? ⟨b,off+i*5+2,none⟩=some (.slice Av nv cv):=(hbr.out.cell (p:=⟨b,off+i*5+2,none⟩) hbl).trans d2
   have e3:wr.cell? ⟨b,off+i*5+3,none⟩=some (.slice Ac nc cc):=(hbr.out.cell (p:=⟨b,off+i*5+3,none⟩) hbl).trans d3
   have e4:wr.cell? ⟨b,off+i*5+4,none⟩=some (.slice Ai ni ci):=(hbr.out.cell (p:=⟨b,off+i*5+4,none⟩) hbl).trans d4
   have hlb:b<wr.heap.size:=by omega
   have hS:=hide (sumOwn_succ hp)
   have hsl:=sumOwn_le H60.out i (by rw[HL.out];omega)
   obtain⟨s,hs⟩:∃s,sumOwn ps i=s:=⟨_,rfl⟩
   rw[hs] at hsl ⊢
   have HS:=hide hs
   have hs0:(0:Int)≤(s:Int):=by omega
   have hs1:(s:Int)≤3840:=by omega
   have hno0:(0:Int)≤(no:Int):=by omega
   have hno1:(no:Int)≤60:=by omega
   have e9:IntKind.i64.wrap ((s:Int)+(no:Int))=(s:Int)+(no:Int):=IntWalk.i64_in _ (by omega)
   have HSum:Hid (((sumOwn ps (i+1):Nat):Int)=(s:Int)+(no:Int)):=hide (by rw[hS.out,HS.out,HLen.out.1];omega)
   have D1:=hide d1
   clear d0 d1 d2 d3 d4 hs hsl hlen hin hbd hp
   go_wp2_with fail
   refine (rright_any wr p Ao Av Ac Ai no nv nc ni co cv cc ci HLen.out HBD.out.1 (HIn.out.kept (Kept.of_below hbr.out) srw)).mono ?_
   rintro e z ⟨rfl,hz⟩
   have hzs:=hz.size
   have HBz:=hide (hbr.out.trans (hz.mono srw))
   clear hz
   rcases hr:rightB p with _ | _
   ·have HN:Hid (¬okJ ps):=hide (fun h=>by have h1:=(fit_iff.1 (h.2.2.2 i p HPl.out)).1;rw[hr] at h1;cases h1)
    clear hr e0 e1 e2 e3 e4
    have ZW:Hid (z.heap[w.heap.size]?=some (.cells #[.int .i64 0,.slice none 0 0,.slice none 0 0,.slice none 0 0,.int .i64 0,.int .i64 0] 33)):=hide ((HBz.out.block _ (by omega)).trans M0.out)
    have HBf:Hid (Below w.heap.size w z):=hide (HB0.out.trans (HBz.out.mono (by omega)))
    obtain⟨zc0,zc1,zc2,zc3,zc4,zc5⟩:=zr6 ZW.out
    have zq:=zf ZW.out;have zcf0:=zq 0;have zcf1:=zq 1;have zcf2:=zq 2;have zcf3:=zq 3;have zcf4:=zq 4;have zcf5:=zq 5;clear zq
    have HFin:=hide (six_fin (.int .i64 0) (.slice none 0 0) (.slice none 0 0) (.slice none 0 0) (.int .i64 0) (.int .i64 0) (.int .i64 0) (.slice none 0 0) (.slice none 0 0) (.slice none 0 0) (.int .i64 0) (.int .i64 0) (Nat.le_refl w.heap.size) ZW.out HBf.out)
    go_wp2
    obtain⟨f,hf,hfB,h6,hfs,hfo⟩:=HFin.out
    rw[hf]
    obtain⟨y0,y1,y2,y3,y4,y5⟩:=zr6 h6
    exact bodyPost_ret (v:=.tuple #[.agg #[.int .i64 0,.slice none 0 0,.slice none 0 0,.slice none 0 0,.int .i64 0,.int .i64 0],.int .i64 4]) (by simp[results,Tryz.results38,go_sem,y0,y1,y2,y3,y4,y5]) rfl (.inr ⟨HN.out,rfl,hfB⟩)
   have HRt:Hid (∀(q:Nat) (p:SPart),q<i+1→ps[q]?=some p→rightB p=true):=hide (fun q p' hq hp'=>by rcases Nat.lt_or_ge q i with h | h;exact hrt.out q p' h hp';obtain rfl:q=i:=(by omega);rw[HPl.out] at hp';obtain rfl:=Option.some.inj hp';exact hr)
   clear hr e0 e1 e2 e3 e4
   have e1:z.cell? ⟨b,off+i*5+1,none⟩=some (.slice Ao no co):=(HBz.out.cell (p:=⟨b,off+i*5+1,none⟩) hbl).trans D1.out
   have hlz:b<z.heap.size:=by omega
   go_wp2
   go_roundw
   case rel=>exact⟨i+1,by omega,by go_num,by rw[HSum.out],HRt,HBz⟩
   case measure=>simp[intOf];omega
  obtain rfl:L=i:=by omega
  have hLl:=HL.out
  obtain⟨n,hn⟩:∃n,nAll ps=n:=⟨_,rfl⟩
  have hn4:n≤3840:=by have:=sumOwn_le H60.out ps.length (Nat.le_refl _);rw[show sumOwn ps ps.length=n from hn] at this;omega
  rw[show sumOwn ps L=n by rw[←hn];unfold nAll;rw[hLl]]
  have HN0:=hide hn
  obtain⟨wr,rfl⟩:∃z:World,z=wr:=⟨_,rfl⟩
  clear hlt hn hLl
  by_cases hn5:512<n
  ·have hnI:(512:Int)<(n:Int):=by omega
   have HN:Hid (¬okJ ps):=hide (fun h=>by obtain⟨p,hp⟩:∃p,ps[0]?=some p:=⟨_,List.getElem?_eq_getElem (by have:=h.1;omega)⟩;have h1:=(fit_iff.1 (h.2.2.2 0 p hp)).2.2.1;rw[HN0.out] at h1;omega)
   have ZW:Hid (wr.heap[w.heap.size]?=some (.cells #[.int .i64 0,.slice none 0 0,.slice none 0 0,.slice none 0 0,.int .i64 0,.int .i64 0] 33)):=hide ((hbr.out.block _ (by omega)).trans M0.out)
   have HBf:Hid (Below w.heap.size w wr):=hide (HB0.out.trans (hbr.out.mono (by omega)))
   obtain⟨zc0,zc1,zc2,zc3,zc4,zc5⟩:=zr6 ZW.out
   have zq:=zf ZW.out;have zcf0:=zq 0;have zcf1:=zq 1;have zcf2:=zq 2;have zcf3:=zq 3;have zcf4:=zq 4;have zcf5:=zq 5;clear zq
   have HFin:=hide (six_fin (.int .i64 0) (.slice none 0 0) (.slice none 0 0) (.slice none 0 0) (.int .i64 0) (.int .i64 0) (.int .i64 0) (.slice none 0 0) (.slice none 0 0) (.slice none 0 0) (.int .i64 0) (.int .i64 0) (Nat.le_refl w.heap.size) ZW.out HBf.out)
   go_wp2
   obtain⟨f,hf,hfB,h6,hfs,hfo⟩:=HFin.out
   rw[hf]
   obtain⟨y0,y1,y2,y3,y4,y5⟩:=zr6 h6
   exact bodyPost_ret (v:=.tuple #[.agg #[.int .i64 0,.slice none 0 0,.slice none 0 0,.slice none 0 0,.int .i64 0,.int .i64 0],.int .i64 4]) (by simp[results,Tryz.results38,go_sem,y0,y1,y2,y3,y4,y5]) rfl (.inr ⟨HN.out,rfl,hfB⟩)
  have hnI:¬(512:Int)<(n:Int):=by omega
  have hn512:n≤512:=by omega
  obtain⟨p0,hp0⟩:∃p,ps[0]?=some p:=⟨_,List.getElem?_eq_getElem (by rw[HL.out];omega)⟩
  obtain⟨b,off,rfl,hbl,Ao,Av,Ac,Ai,no,nv,nc,ni,co,cv,cc,ci,d0,-,-,-,-,-,-,-⟩:=HP.out.get hp0
  obtain⟨st,hst⟩:∃st,stepJ ps=st:=⟨_,rfl⟩
  have hst0:p0.step=st:=by rw[←hst];unfold stepJ;rw[List.getD_eq_getElem?_getD,hp0];rfl
  rw[hst0] at d0
  have HStp:Hid (0≤st∧st≤2000):=hide (by rw[←hst0];exact right_step (hrt.out 0 p0 (by omega) hp0))
  have c0:wr.cell? ⟨b,off,none⟩=some (.int .i64 st):=(hbr.out.cell (p:=⟨b,off,none⟩) hbl).trans (by simpa using d0)
  have hlb:b<wr.heap.size:=by have:=hbr.out.size;omega
  have HSt:=hide hst
  have hvw:=hbr.out.size
  clear d0 hst hst0 hp0 Ao Av Ac Ai no nv nc ni co cv cc ci p0
  obtain⟨v1,hv1⟩:∃z,wr.alloc (.cells #[.int .i64 st,.slice none 0 0,.slice none 0 0,.slice none 0 0,.int .i64 0,.int .i64 0] 33)=z:=⟨_,rfl⟩
  have hz1:v1.heap.size=wr.heap.size+1:=by rw[←hv1];simp
  have q1:v1.heap[wr.heap.size]?=some (.cells #[.int .i64 st,.slice none 0 0,.slice none 0 0,.slice none 0 0,.int .i64 0,.int .i64 0] 33):=by rw[←hv1];exact heap_alloc_last _ _
  have HBv:=hide (show Below v0.heap.size v0 v1 by rw[←hv1];exact hbr.out.alloc hvw _)
  have HV1:=hide hv1
  clear hv1
  go_wp2
  rw[HV1.out]
  obtain⟨bp,hbp⟩:∃z,wr.heap.size=z:=⟨_,rfl⟩
  rw[hbp] at hz1 q1 hvw hlb ⊢
  clear HV1 hbr c0
  have hbpv:bp<v1.heap.size:=by omega
  have G0:Hid (StSt [bp] v1 v0 bp 33 st ((List.range 0).map (jV ps)) ((List.range 0).map (jC ps)) ((List.range 0).map (jM ps)) none 0 none 0 none 0 0 0 0 v1):=hide ⟨q1,World.ownsRow_nil _ _ _ _,World.ownsRow_nil _ _ _ _,World.ownsRow_nil _ _ _ _,KB.refl _ _,HBv.out⟩
  clear q1 hbp
  go_loopw [7] (fun v7 x=>∃(v:Nat) (Av:Option Addr) (cv:Nat) (Ac:Option Addr) (cc:Nat) (Ai:Option Addr) (ci:Nat),v≤n∧v7 = .int .i64 (v:Int)∧Hid (∀u,u<v→rightB (wk ps u)=true∧ix ps u<(wk ps u).own.length)∧Hid (StSt [bp] v1 v0 bp 33 st ((List.range v).map (jV ps)) ((List.range v).map (jC ps)) ((List.range v).map (jM ps)) Av cv Ac cc Ai ci v v v x)) (fun v7 _=>n-(intOf v7).toNat)
  case atStart=>exact⟨0,none,0,none,0,none,0,by omega,rfl,hide (fun u h=>absurd h (by omega)),G0⟩
  case round=>
   clear G0
   obtain⟨v,Av,cv,Ac,cc,Ai,ci,hv,rfl,hfd,GR⟩:=hrel
   by_cases hlt:v<n
   ·have hI0:(0:Int)≤(v:Int):=by omega
    have hI1:(v:Int)<(n:Int):=by omega
    have srw:v1.heap.size≤wr.heap.size:=GR.out.kb.1
    have srv:v0.heap.size≤wr.heap.size:=GR.out.bl.size
    obtain⟨qa,qb⟩:=ofF_ok (v:Int) (L:Int) (by omega) (by omega) (by omega) (by omega)
    obtain⟨q,hq⟩:=Int.eq_ofNat_of_zero_le qa
    rw[hq] at qb
    have hqL:q<L:=by omega
    have HQ:=hide hq
    clear qa hq
    obtain⟨p,hp⟩:∃p,ps[q]?=some p:=⟨_,List.getElem?_eq_getElem (by rw[HL.out];exact hqL)⟩
    have HK:Hid (wk ps v=p):=hide (by unfold wk;rw[HL.out,HQ.out,Int.toNat_natCast,List.getD_eq_getElem?_getD,hp];rfl)
    have HR:Hid (rightB p=true):=hide (hrt.out q p hqL hp)
    obtain⟨b9,off9,hbe,hbl,Ao,Av2,Ac2,Ai2,no,nv,nc,ni,co,cv2,cc2,ci2,d0,d1,d2,d3,d4,hlen,hin,hbd⟩:=HP.out.get hp
    injection hbe with hbe
    injection hbe with hb1 hb2
    subst hb1 hb2
    have HLen:=hide hlen
    have HIn:=hide hin
    have HBD:=hide hbd
    have HRl:=hide (right_lens3 HR.out)
    have D2:=hide d2
    have D3:=hide d3
    have D4:=hide d4
    have e1:wr.cell? ⟨b,off+q*5+1,none⟩=some (.slice Ao no co):=(GR.out.bl.cell (p:=⟨b,off+q*5+1,none⟩) hbl).trans d1
    have hlb:b<wr.heap.size:=by omega
    have hq0:(0:Int)≤(q:Int):=by omega
    clear d0 d1 d2 d3 d4 hlen hin hbd hp
    go_wp2_with fail
    refine (rof_any wr (v:Int) (L:Int)).mono ?_
    rintro e z ⟨rfl,rfl⟩
    rw[HQ.out]
    go_wp2_with fail
    refine (rplace_any _ Ao p.own no co (v:Int) HLen.out.1 HBD.out.1 (HIn.out.kept (Kept.of_below GR.out.bl) srv).own).mono ?_
    rintro e z9 ⟨rfl,hz9⟩
    subst hz9
    rcases plc_spec (v:Int) p.own 0 with ⟨hpl,_⟩ | ⟨i,hi,hpl,hpi⟩
    ·have HN:Hid (¬okJ ps):=hide (fun h=>by have h1:=(ok_place h (by rw[HN0.out];exact hlt)).1;rw[HK.out,hpl] at h1;omega)
     rw[hpl]
     clear hpl e1
     have ZW:Hid (z9.heap[w.heap.size]?=some (.cells #[.int .i64 0,.slice none 0 0,.slice none 0 0,.slice none 0 0,.int .i64 0,.int .i64 0] 33)):=hide ((GR.out.bl.block _ (by omega)).trans M0.out)
     have HBf:=hide (HB0.out.trans (GR.out.bl.mono (show w.heap.size≤v0.heap.size by omega)))
     obtain⟨zc0,zc1,zc2,zc3,zc4,zc5⟩:=zr6 ZW.out
     have zq:=zf ZW.out;have zcf0:=zq 0;have zcf1:=zq 1;have zcf2:=zq 2;have zcf3:=zq 3;have zcf4:=zq 4;have zcf5:=zq 5;clear zq
     have HFin:=hide (six_fin (.int .i64 0) (.slice none 0 0) (.slice none 0 0) (.slice none 0 0) (.int .i64 0) (.int .i64 0) (.int .i64 0) (.slice none 0 0) (.slice none 0 0) (.slice none 0 0) (.int .i64 0) (.int .i64 0) (Nat.le_refl w.heap.size) ZW.out HBf.out)
     go_wp2
     obtain⟨f,hf,hfB,h6,hfs,hfo⟩:=HFin.out
     rw[hf]
     obtain⟨y0,y1,y2,y3,y4,y5⟩:=zr6 h6
     exact bodyPost_ret (v:=.tuple #[.agg #[.int .i64 0,.slice none 0 0,.slice none 0 0,.slice none 0 0,.int .i64 0,.int .i64 0],.int .i64 4]) (by simp[results,Tryz.results38,go_sem,y0,y1,y2,y3,y4,y5]) rfl (.inr ⟨HN.out,rfl,hfB⟩)
    have hix:ix ps v=i:=by unfold ix;rw[HK.out,hpl,Nat.zero_add,Int.toNat_natCast]
    rw[hpl,Nat.zero_add]
    have hno:i<no:=by rw[←HLen.out.1];exact hi
    have hiI0:(0:Int)≤(i:Int):=by omega
    have hnn:¬(i:Int)<0:=by omega
    obtain⟨a,ha⟩:∃a,p.vals[i]?=some a:=⟨_,List.getElem?_eq_getElem (by have:=HRl.out.1;omega)⟩
    obtain⟨bb,hb⟩:∃a,p.chg[i]?=some a:=⟨_,List.getElem?_eq_getElem (by have:=HRl.out.2.1;omega)⟩
    obtain⟨m,hm⟩:∃a,p.inb[i]?=some a:=⟨_,List.getElem?_eq_getElem (by have:=HRl.out.2.2;omega)⟩
    have hnv:(i:Int)<(nv:Int):=by have:=HRl.out.1;have:=HLen.out.2.1;omega
    have hnc:(i:Int)<(nc:Int):=by have:=HRl.out.2.1;have:=HLen.out.2.2.1;omega
    have hni:(i:Int)<(ni:Int):=by have:=HRl.out.2.2;have:=HLen.out.2.2.2;omega
    have HV:=hide (show jV ps v=a by unfold jV;rw[HK.out,hix,List.getD_eq_getElem?_getD,ha];rfl)
    have HC:=hide (show jC ps v=bb by unfold jC;rw[HK.out,hix,List.getD_eq_getElem?_getD,hb];rfl)
    have HM:=hide (show jM ps v=m by unfold jM;rw[HK.out,hix,List.getD_eq_getElem?_getD,hm];rfl)
    have HFd:Hid (∀u,u<v+1→rightB (wk ps u)=true∧ix ps u<(wk ps u).own.length):=hide (fun u hu=>by rcases Nat.lt_or_ge u v with h | h;exact hfd.out u h;obtain rfl:u=v:=(by omega);rw[HK.out,hix];exact⟨HR.out,hi⟩)
    obtain⟨g1,o1,rfl,l1,k1⟩:=HIn.out.vals.at1 (i64s_get ha)
    obtain⟨g2,o2,rfl,l2,k2⟩:=HIn.out.chg.at1 (bools_getA? hb)
    obtain⟨g3,o3,rfl,l3,k3,k4⟩:=HIn.out.inb.ml hm
    have K1:=hide k1
    have K2:=hide k2
    have K3:=hide k3
    have K4:=hide k4
    have hwbp:v0.heap.size≤bp:=hvw
    have hwv:v0.heap.size≤v1.heap.size:=by omega
    have G1:=GR
    clear GR e1 ha hb hm k1 k2 k3 k4 hpl hpi hix
    go_upto_region 20 with fail
    have p1:z9.cell? ⟨bp,1,none⟩=some (.slice Av v cv):=cell_of_row _ _ 1 _ _ _ G1.out.hp
    have lbp:=lt_of_block G1.out.hp
    have sz1:v1.heap.size≤z9.heap.size:=G1.out.kb.1
    have hcp1:=own_cap G1.out.hv
    have x1:z9.cell? ⟨b,off+q*5+2,none⟩=some (.slice (some ⟨g1,o1,none⟩) nv cv2):=(G1.out.bl.cell (p:=⟨b,off+q*5+2,none⟩) hbl).trans D2.out
    have d1:z9.cell? ⟨g1,o1+i,none⟩=some (.int .i64 a):=(G1.out.bl.cell (p:=⟨g1,o1+i,none⟩) l1).trans K1.out
    have lw1:b<z9.heap.size:=by omega
    have le1:g1<z9.heap.size:=by omega
    refine wpL_region (S:=Kept z9) [11,13] (by kernel_rfl) (Kept.drew z9) (fun hS0=>?_)
    refine twa 0 70 ?_
    refine tla 1 71 ?_
    refine twa 2 72 ?_
    refine twa 3 73 ?_
    refine twa 4 74 ?_
    refine twa 5 75 ?_
    refine tua [6,8,9,10,11,12,13] 6 76 ?_
    refine twa 7 77 ?_
    refine twa 8 78 ?_
    refine tua [9,10,11,12,13] 9 79 ?_
    refine cl 10 80 fun K hK=>?_
    go_simp
    have hS1:Kept z9 (z9.drew.alloc (.cells #[.int .i64 a] 2)):=fun p hp=>World.cell?_alloc_lt _ _ _ hp
    refine hK.out _ _ hS1 (fun hSn=>?_)
    clear hK K
    try simp only[zqd,zqe,zqf]
    refine xl 11 fun K hK=>?_
    refine op_app (.tmp 71) (.tmp 80) 29 rfl v1.heap.size 2 a1 (.int .i64 0) 1 8 Tryz.underlying29 a1i a1z a1s a1b rfl (by decide) (.slice Av v cv) v _ rfl (G1.out.hv.drew.alloc _) (z9.heap.size+1) (some ⟨z9.heap.size,0,none⟩) 1 1 [.int .i64 a] rfl rfl (Rd.new _ _ _ _) (by simp[Value.oneCell']) (by unfold maxLen;omega) (by omega) (by simp;omega) ?_
    intro A1' c1' y1 own1 hg1 hat1
    have AP:=G1.out.drew.appVals (x:=a) hbpv (by simp) hwbp hwv own1 hg1
    have q1:y1.cell? ⟨bp,1,none⟩=some (.slice Av v cv):=cell_of_row _ _ 1 _ _ _ AP.1
    have qf1:=zf AP.1 1
    have AP2:=hide AP.2
    clear AP own1 hg1 hat1
    refine hK.out _ _ ?_
    clear hK K
    simp only[Act.put]
    try simp only[zqd,zqe,zqf]
    refine twa 12 82 ?_
    refine xl 13 fun K hK=>?_
    go_wp2_with fail
    refine hK.out _ _ ?_
    clear hK K
    try simp only[zqd,zqe,zqf]
    refine wpAnyL_done (by kernel_rfl) ?_ _
    clear hS0 hSn hS1
    obtain⟨wa2,hwa2⟩:∃z,y1.setCell ⟨bp,1,none⟩ (.slice A1' (v+1) c1')=z:=⟨_,rfl⟩
    have G2:=hide AP2.out
    rw[hwa2] at G2
    have HE1:=hide hwa2
    clear AP2 hwa2 p1 lbp G1 hcp1 x1 d1 lw1 le1
    go_upto_region 21 with fail
    rw[HE1.out]
    clear HE1 q1 qf1
    have p2:wa2.cell? ⟨bp,2,none⟩=some (.slice Ac v cc):=cell_of_row _ _ 2 _ _ _ G2.out.hp
    have lbp:=lt_of_block G2.out.hp
    have sz2:v1.heap.size≤wa2.heap.size:=G2.out.kb.1
    have hcp2:=own_cap G2.out.hc
    have x2:wa2.cell? ⟨b,off+q*5+3,none⟩=some (.slice (some ⟨g2,o2,none⟩) nc cc2):=(G2.out.bl.cell (p:=⟨b,off+q*5+3,none⟩) hbl).trans D3.out
    have d2:wa2.cell? ⟨g2,o2+i,none⟩=some (.bool bb):=(G2.out.bl.cell (p:=⟨g2,o2+i,none⟩) l2).trans K2.out
    have lw2:b<wa2.heap.size:=by omega
    have le2:g2<wa2.heap.size:=by omega
    refine wpL_region (S:=Kept wa2) [11,13] (by kernel_rfl) (Kept.drew wa2) (fun hS0=>?_)
    refine twa 0 83 ?_
    refine tla 1 84 ?_
    refine twa 2 85 ?_
    refine twa 3 86 ?_
    refine twa 4 87 ?_
    refine twa 5 88 ?_
    refine tua [6,8,9,10,11,12,13] 6 89 ?_
    refine twa 7 90 ?_
    refine twa 8 91 ?_
    refine tua [9,10,11,12,13] 9 92 ?_
    refine cl 10 93 fun K hK=>?_
    go_simp
    have hS1:Kept wa2 (wa2.drew.alloc (.cells #[.bool bb] 4)):=fun p hp=>World.cell?_alloc_lt _ _ _ hp
    refine hK.out _ _ hS1 (fun hSn=>?_)
    clear hK K
    try simp only[zqd,zqe,zqf]
    refine xl 11 fun K hK=>?_
    refine op_app (.tmp 84) (.tmp 93) 30 rfl v1.heap.size 4 a2 (.bool false) 1 1 Tryz.underlying30 a2i a2z a2s a2b rfl (by decide) (.slice Ac v cc) v _ rfl (G2.out.hc.drew.alloc _) (wa2.heap.size+1) (some ⟨wa2.heap.size,0,none⟩) 1 1 [.bool bb] rfl rfl (Rd.new _ _ _ _) (by simp[Value.oneCell']) (by unfold maxLen;omega) (by omega) (by simp;omega) ?_
    intro A2' c2' y2 own2 hg2 hat2
    have AP:=G2.out.drew.appChg (x:=bb) hbpv (by simp) hwbp hwv own2 hg2
    have q2:y2.cell? ⟨bp,2,none⟩=some (.slice Ac v cc):=cell_of_row _ _ 2 _ _ _ AP.1
    have qf2:=zf AP.1 2
    have AP2:=hide AP.2
    clear AP own2 hg2 hat2
    refine hK.out _ _ ?_
    clear hK K
    simp only[Act.put]
    try simp only[zqd,zqe,zqf]
    refine twa 12 95 ?_
    refine xl 13 fun K hK=>?_
    go_wp2_with fail
    refine hK.out _ _ ?_
    clear hK K
    try simp only[zqd,zqe,zqf]
    refine wpAnyL_done (by kernel_rfl) ?_ _
    clear hS0 hSn hS1
    obtain⟨wa3,hwa3⟩:∃z,y2.setCell ⟨bp,2,none⟩ (.slice A2' (v+1) c2')=z:=⟨_,rfl⟩
    have G3:=hide AP2.out
    rw[hwa3] at G3
    have HE2:=hide hwa3
    clear AP2 hwa3 p2 lbp G2 hcp2 x2 d2 lw2 le2
    go_upto_region 22 with fail
    rw[HE2.out]
    clear HE2 q2 qf2
    have p3:wa3.cell? ⟨bp,3,none⟩=some (.slice Ai v ci):=cell_of_row _ _ 3 _ _ _ G3.out.hp
    have lbp:=lt_of_block G3.out.hp
    have sz3:v1.heap.size≤wa3.heap.size:=G3.out.kb.1
    have hcp3:=own_cap G3.out.hi
    have x3:wa3.cell? ⟨b,off+q*5+4,none⟩=some (.slice (some ⟨g3,o3,none⟩) ni ci2):=(G3.out.bl.cell (p:=⟨b,off+q*5+4,none⟩) hbl).trans D4.out
    have d3:wa3.cell? ⟨g3,o3+i*2,none⟩=some (.bool m.1):=(G3.out.bl.cell (p:=⟨g3,o3+i*2,none⟩) l3).trans K3.out
    have d4:wa3.cell? ⟨g3,o3+i*2+1,none⟩=some (.int .i64 m.2):=(G3.out.bl.cell (p:=⟨g3,o3+i*2+1,none⟩) l3).trans K4.out
    have lw3:b<wa3.heap.size:=by omega
    have le3:g3<wa3.heap.size:=by omega
    refine wpL_region (S:=Kept wa3) [11,13] (by kernel_rfl) (Kept.drew wa3) (fun hS0=>?_)
    refine twa 0 96 ?_
    refine tla 1 97 ?_
    refine twa 2 98 ?_
    refine twa 3 99 ?_
    refine twa 4 100 ?_
    refine twa 5 101 ?_
    refine tua [6,8,9,10,11,12,13] 6 102 ?_
    refine twa 7 103 ?_
    refine twa 8 104 ?_
    refine tua [9,10,11,12,13] 9 105 ?_
    refine cl 10 106 fun K hK=>?_
    go_simp
    have hS1:Kept wa3 (wa3.drew.alloc (.cells #[.bool m.1,.int .i64 m.2] 51)):=fun p hp=>World.cell?_alloc_lt _ _ _ hp
    refine hK.out _ _ hS1 (fun hSn=>?_)
    clear hK K
    try simp only[zqd,zqe,zqf]
    refine xl 11 fun K hK=>?_
    refine op_app (.tmp 97) (.tmp 106) 31 rfl v1.heap.size 51 a3 (.agg #[.bool false,.int .i64 0]) 2 16 Tryz.underlying31 a3i a3z a3s a3b rfl (by decide) (.slice Ai v ci) v _ rfl (G3.out.hi.drew.alloc _) (wa3.heap.size+1) (some ⟨wa3.heap.size,0,none⟩) 1 1 [.bool m.1,.int .i64 m.2] rfl rfl (Rd.new _ _ _ _) (by simp[Value.oneCell']) (by unfold maxLen;omega) (by omega) (by simp;omega) ?_
    intro A3' c3' y3 own3 hg3 hat3
    have AP:=G3.out.drew.appInb (x:=m) hbpv (by simp) hwbp hwv own3 hg3
    have q3:y3.cell? ⟨bp,3,none⟩=some (.slice Ai v ci):=cell_of_row _ _ 3 _ _ _ AP.1
    have qf3:=zf AP.1 3
    have AP2:=hide AP.2
    clear AP own3 hg3 hat3
    refine hK.out _ _ ?_
    clear hK K
    simp only[Act.put]
    try simp only[zqd,zqe,zqf]
    refine twa 12 108 ?_
    refine xl 13 fun K hK=>?_
    go_wp2_with fail
    refine hK.out _ _ ?_
    clear hK K
    try simp only[zqd,zqe,zqf]
    refine wpAnyL_done (by kernel_rfl) ?_ _
    clear hS0 hSn hS1
    obtain⟨wa4,hwa4⟩:∃z,y3.setCell ⟨bp,3,none⟩ (.slice A3' (v+1) c3')=z:=⟨_,rfl⟩
    have G4:=hide AP2.out
    rw[hwa4] at G4
    have HE3:=hide hwa4
    clear AP2 hwa4 p3 lbp G3 hcp3 x3 d3 lw3 le3 d4
    have GN:Hid (StSt [bp] v1 v0 bp 33 st ((List.range (v+1)).map (jV ps)) ((List.range (v+1)).map (jC ps)) ((List.range (v+1)).map (jM ps)) A1' c1' A2' c2' A3' c3' (v+1) (v+1) (v+1) wa4):=hide (by rw[List.range_succ,List.map_append,List.map_append,List.map_append,List.map_singleton,List.map_singleton,List.map_singleton,HV.out,HC.out,HM.out];exact G4.out)
    clear G4
    go_wp2
    rw[HE3.out]
    go_roundw
    case rel=>first | exact⟨v+1,A1',c1',A2',c2',A3',c3',by omega,by go_num,HFd,GN⟩ | ((repeat apply Exists.intro);exact⟨⟨v+1,A1',c1',A2',c2',A3',c3',by omega,by go_num,HFd,GN⟩,rfl⟩)
    case measure=>simp[intOf];omega
   obtain rfl:n=v:=by omega
   have srw:v1.heap.size≤wr.heap.size:=GR.out.kb.1
   have hlbp:=lt_of_block GR.out.hp
   have RV:=hide (Rd.of_own GR.out.hv)
   have RC:=hide (Rd.of_own GR.out.hc)
   have RM:=hide (Rd.of_own GR.out.hi)
   have O1:=hide GR.out.hv
   have O2:=hide GR.out.hc
   have O3:=hide GR.out.hi
   have HBp:=hide GR.out.hp
   have HBl:=hide GR.out.bl
   have hbl0:=HBl.out.size
   obtain⟨u0,rfl⟩:∃z:World,z=wr:=⟨_,rfl⟩
   clear GR hlt
   go_wp2
   go_loopw [10] (fun v10 x=>∃i:Nat,i≤L∧v10 = .int .i64 (i:Int)∧Hid (∀(q:Nat) (p:SPart),q<i→ps[q]?=some p→p.step=st∧p.own=ownUpto (L:Int) (q:Int) n)∧Hid (0<i→1≤n)∧Hid (Below u0.heap.size u0 x)) (fun v10 _=>L-(intOf v10).toNat)
   case atStart=>exact⟨0,by omega,rfl,hide (fun q p h=>absurd h (by omega)),hide (fun h=>absurd h (by omega)),hide (Below.refl _ _)⟩
   case round=>
    obtain⟨i,hi,rfl,hal,hn1,hbr⟩:=hrel
    have szr:=hbr.out.size
    have s0:wr.cell? ⟨bp,0,none⟩=some (.int .i64 st):=(hbr.out.cell (p:=⟨bp,0,none⟩) hlbp).trans (cell_of_row _ _ 0 _ _ _ HBp.out)
    have s1:wr.cell? ⟨bp,1,none⟩=some (.slice Av n cv):=(hbr.out.cell (p:=⟨bp,1,none⟩) hlbp).trans (cell_of_row _ _ 1 _ _ _ HBp.out)
    have s2:wr.cell? ⟨bp,2,none⟩=some (.slice Ac n cc):=(hbr.out.cell (p:=⟨bp,2,none⟩) hlbp).trans (cell_of_row _ _ 2 _ _ _ HBp.out)
    have s3:wr.cell? ⟨bp,3,none⟩=some (.slice Ai n ci):=(hbr.out.cell (p:=⟨bp,3,none⟩) hlbp).trans (cell_of_row _ _ 3 _ _ _ HBp.out)
    have s4:wr.cell? ⟨bp,4,none⟩=some (.int .i64 0):=(hbr.out.cell (p:=⟨bp,4,none⟩) hlbp).trans (cell_of_row _ _ 4 _ _ _ HBp.out)
    have s5:wr.cell? ⟨bp,5,none⟩=some (.int .i64 0):=(hbr.out.cell (p:=⟨bp,5,none⟩) hlbp).trans (cell_of_row _ _ 5 _ _ _ HBp.out)
    have hlb2:bp<wr.heap.size:=by omega
    by_cases hlt:i<L
    ·have hI1:(i:Int)<(L:Int):=by omega
     have hI0:(0:Int)≤(i:Int):=by omega
     obtain⟨p,hp⟩:∃p,ps[i]?=some p:=⟨_,List.getElem?_eq_getElem (by rw[HL.out];omega)⟩
     obtain⟨b9,off9,hbe,hbl,Bo,Bv,Bc,Bi,mo,mv,mc,mi,do_,dv,dc,di,d0,d1,d2,d3,d4,hlen,hin,hbd⟩:=HP.out.get hp
     injection hbe with hbe
     injection hbe with hb1 hb2
     subst hb1 hb2
     have HLen:=hide hlen
     have HIn:=hide hin
     have HBD:=hide hbd
     have HPl:=hide hp
     have HR:Hid (rightB p=true):=hide (hrt.out i p (by omega) hp)
     have D0:=hide d0
     have D1:=hide d1
     have D2:=hide d2
     have D3:=hide d3
     have D4:=hide d4
     clear d0 d1 d2 d3 d4 hlen hin hbd hp
     have hcl:=rtake14_any wr st 0 0 Av Ac Ai n n n cv cc ci (allV ps n) (allC ps n) (allM ps n) (L:Int) (i:Int) hn512 (by simp[allV]) (by simp[allC]) (by simp[allM]) (RV.out.next hbr.out) (RC.out.next hbr.out) (RM.out.next hbr.out)
     by_cases hn0:n=0
     ·have HN:Hid (¬okJ ps):=hide (fun h=>by have h1:=h.2.2.1;rw[HN0.out] at h1;omega)
      have hE:takeE st (allV ps n) (allC ps n) (allM ps n) (L:Int) (i:Int)=4:=by subst hn0;have:=take_none (ps:=ps) (w:=i) (st:=st) (by rw[HL.out];omega) (by rw[HL.out];omega) (by rw[HL.out];omega);rw[HL.out] at this;exact this
      rw[hE] at hcl
      clear hE hn0
      have HCL:=hide hcl
      clear hcl
      go_wp2_with fail
      refine HCL.out.mono ?_
      rintro e z ⟨ao,av,ac,ai,Ao,co,Av3,cv3,Ac3,cc3,Ai3,ci3,tl,tb,rfl,tin,tz⟩
      have TL:=hide tl
      have TI:=hide tin
      have TZ:=hide tz
      have hzz:=tz.size
      clear tl tin tz HCL s0 s1 s2 s3 s4 s5
      obtain⟨P,hPe⟩:∃P,takeP st (allV ps n) (allC ps n) (allM ps n) (L:Int) (i:Int)=P:=⟨_,rfl⟩
      rw[hPe] at TL TI ⊢
      clear hPe
      obtain⟨ws,hws⟩:∃y,z.alloc (.cells #[.int .i64 (P).step,.slice Ao ao co,.slice Av3 av cv3,.slice Ac3 ac cc3,.slice Ai3 ai ci3] 64)=y:=⟨_,rfl⟩
      have HTb:Hid (ws.heap[z.heap.size]?=some (.cells #[.int .i64 (P).step,.slice Ao ao co,.slice Av3 av cv3,.slice Ac3 ac cc3,.slice Ai3 ai ci3] 64)):=hide (by rw[←hws];exact heap_alloc_last _ _)
      have hzw:ws.heap.size=z.heap.size+1:=by rw[←hws];simp
      have HBw:=hide (show Below u0.heap.size u0 ws by rw[←hws];exact (hbr.out.trans (TZ.out.mono szr)).alloc (Nat.le_trans szr hzz) _)
      have HZw:=hide (show Below z.heap.size z ws by rw[←hws];exact (Below.refl _ _).alloc (Nat.le_refl _) _)
      have HWS:=hide hws
      clear hws
      go_upto_region 27 with fail
      rw[HWS.out]
      obtain⟨x0,x1,x2,x3,x4⟩:=zr5 HTb.out
      have hlz:z.heap.size<ws.heap.size:=by omega
      have hvs:v0.heap.size≤ws.heap.size:=by omega
      have e0:ws.cell? ⟨b,off+i*5,none⟩=some (.int .i64 p.step):=((HBl.out.trans (HBw.out.mono hbl0)).cell (p:=⟨b,off+i*5,none⟩) hbl).trans D0.out
      have e1:ws.cell? ⟨b,off+i*5+1,none⟩=some (.slice Bo mo do_):=((HBl.out.trans (HBw.out.mono hbl0)).cell (p:=⟨b,off+i*5+1,none⟩) hbl).trans D1.out
      have e2:ws.cell? ⟨b,off+i*5+2,none⟩=some (.slice Bv mv dv):=((HBl.out.trans (HBw.out.mono hbl0)).cell (p:=⟨b,off+i*5+2,none⟩) hbl).trans D2.out
      have e3:ws.cell? ⟨b,off+i*5+3,none⟩=some (.slice Bc mc dc):=((HBl.out.trans (HBw.out.mono hbl0)).cell (p:=⟨b,off+i*5+3,none⟩) hbl).trans D3.out
      have e4:ws.cell? ⟨b,off+i*5+4,none⟩=some (.slice Bi mi di):=((HBl.out.trans (HBw.out.mono hbl0)).cell (p:=⟨b,off+i*5+4,none⟩) hbl).trans D4.out
      have hlb:b<ws.heap.size:=by omega
      clear hzw
      refine wp_region_held_drew (S:=Kept ws) (by kernel_rfl) (Kept.drew ws) (fun hS0=>?_)
      refine tka 0 123 ?_
      refine tka 1 124 ?_
      refine tka 2 125 ?_
      refine ska 3 126 ?_
      refine ska 4 127 ?_
      refine ska 5 128 ?_
      refine ska 6 129 ?_
      refine ska 7 130 ?_
      refine ska 8 131 ?_
      refine ska 9 132 ?_
      refine tka 10 133 ?_
      refine wpAnyH_done (by kernel_rfl) ?_ _
      clear hS0 x0 x1 x2 x3 x4 e0 e1 e2 e3 e4
      obtain⟨wf,hwf⟩:∃y,ws.drew=y:=⟨_,rfl⟩
      rw[hwf]
      have HBq:Hid (Below v0.heap.size v0 wf):=hide (by rw[←hwf];exact (HBl.out.trans (HBw.out.mono hbl0)).drew)
      clear hwf
      have ZW:Hid (wf.heap[w.heap.size]?=some (.cells #[.int .i64 0,.slice none 0 0,.slice none 0 0,.slice none 0 0,.int .i64 0,.int .i64 0] 33)):=hide ((HBq.out.block _ (by omega)).trans M0.out)
      have HBf:Hid (Below w.heap.size w wf):=hide (HB0.out.trans (HBq.out.mono (by omega)))
      obtain⟨zc0,zc1,zc2,zc3,zc4,zc5⟩:=zr6 ZW.out
      have zq:=zf ZW.out;have zcf0:=zq 0;have zcf1:=zq 1;have zcf2:=zq 2;have zcf3:=zq 3;have zcf4:=zq 4;have zcf5:=zq 5;clear zq
      have HFin:=hide (six_fin (.int .i64 0) (.slice none 0 0) (.slice none 0 0) (.slice none 0 0) (.int .i64 0) (.int .i64 0) (.int .i64 0) (.slice none 0 0) (.slice none 0 0) (.slice none 0 0) (.int .i64 0) (.int .i64 0) (Nat.le_refl w.heap.size) ZW.out HBf.out)
      go_wp2
      obtain⟨f,hf,hfB,h6,hfs,hfo⟩:=HFin.out
      rw[hf]
      obtain⟨y0,y1,y2,y3,y4,y5⟩:=zr6 h6
      exact bodyPost_ret (v:=.tuple #[.agg #[.int .i64 0,.slice none 0 0,.slice none 0 0,.slice none 0 0,.int .i64 0,.int .i64 0],.int .i64 4]) (by simp[results,Tryz.results38,go_sem,y0,y1,y2,y3,y4,y5]) rfl (.inr ⟨HN.out,rfl,hfB⟩)
     have HRw:=hide (right_all (ps:=ps) hn512 HStp.out hfd.out)
     have hE:takeE st (allV ps n) (allC ps n) (allM ps n) (L:Int) (i:Int)=0:=by have:=take_zero (ps:=ps) (n:=n) (w:=i) (st:=st) (by rw[HL.out];omega) (by rw[HL.out];omega) (by rw[HL.out];omega) (by omega) HRw.out;rw[HL.out] at this;exact this
     have hPk:=take_is (ps:=ps) (n:=n) (w:=i) (st:=st) (by rw[HL.out];exact hE)
     rw[HL.out] at hPk
     rw[hE,hPk] at hcl
     have HSI:=hide (same_iff (n:=n) (st:=st) HPl.out HR.out)
     have hn1:1≤n:=by omega
     clear hE hPk hn0
     have HCL:=hide hcl
     clear hcl
     go_wp2_with fail
     refine HCL.out.mono ?_
     rintro e z ⟨ao,av,ac,ai,Ao,co,Av3,cv3,Ac3,cc3,Ai3,ci3,tl,tb,rfl,tin,tz⟩
     have TL:=hide tl
     have TI:=hide tin
     have TZ:=hide tz
     have hzz:=tz.size
     clear tl tin tz HCL s0 s1 s2 s3 s4 s5
     rw[HL.out] at HSI
     have HPL:=hide (pick_lens st (allV ps n) (allC ps n) (allM ps n) (ownUpto (L:Int) (i:Int) n))
     obtain⟨P,hPe⟩:∃P,pickP st (allV ps n) (allC ps n) (allM ps n) (ownUpto (L:Int) (i:Int) n)=P:=⟨_,rfl⟩
     rw[hPe] at TL TI HSI HPL ⊢
     clear hPe
     obtain⟨ws,hws⟩:∃y,z.alloc (.cells #[.int .i64 (P).step,.slice Ao ao co,.slice Av3 av cv3,.slice Ac3 ac cc3,.slice Ai3 ai ci3] 64)=y:=⟨_,rfl⟩
     have HTb:Hid (ws.heap[z.heap.size]?=some (.cells #[.int .i64 (P).step,.slice Ao ao co,.slice Av3 av cv3,.slice Ac3 ac cc3,.slice Ai3 ai ci3] 64)):=hide (by rw[←hws];exact heap_alloc_last _ _)
     have hzw:ws.heap.size=z.heap.size+1:=by rw[←hws];simp
     have HBw:=hide (show Below u0.heap.size u0 ws by rw[←hws];exact (hbr.out.trans (TZ.out.mono szr)).alloc (Nat.le_trans szr hzz) _)
     have HZw:=hide (show Below z.heap.size z ws by rw[←hws];exact (Below.refl _ _).alloc (Nat.le_refl _) _)
     have HWS:=hide hws
     clear hws
     go_upto_region 27 with fail
     rw[HWS.out]
     obtain⟨x0,x1,x2,x3,x4⟩:=zr5 HTb.out
     have hlz:z.heap.size<ws.heap.size:=by omega
     have hvs:v0.heap.size≤ws.heap.size:=by omega
     have e0:ws.cell? ⟨b,off+i*5,none⟩=some (.int .i64 p.step):=((HBl.out.trans (HBw.out.mono hbl0)).cell (p:=⟨b,off+i*5,none⟩) hbl).trans D0.out
     have e1:ws.cell? ⟨b,off+i*5+1,none⟩=some (.slice Bo mo do_):=((HBl.out.trans (HBw.out.mono hbl0)).cell (p:=⟨b,off+i*5+1,none⟩) hbl).trans D1.out
     have e2:ws.cell? ⟨b,off+i*5+2,none⟩=some (.slice Bv mv dv):=((HBl.out.trans (HBw.out.mono hbl0)).cell (p:=⟨b,off+i*5+2,none⟩) hbl).trans D2.out
     have e3:ws.cell? ⟨b,off+i*5+3,none⟩=some (.slice Bc mc dc):=((HBl.out.trans (HBw.out.mono hbl0)).cell (p:=⟨b,off+i*5+3,none⟩) hbl).trans D3.out
     have e4:ws.cell? ⟨b,off+i*5+4,none⟩=some (.slice Bi mi di):=((HBl.out.trans (HBw.out.mono hbl0)).cell (p:=⟨b,off+i*5+4,none⟩) hbl).trans D4.out
     have hlb:b<ws.heap.size:=by omega
     clear hzw
     rcases hqs:sameS P p with _ | _
     ·have HQS:=hide hqs
      have HN:Hid (¬okJ ps):=hide (fun h=>by have h1:=fit_iff.1 (h.2.2.2 i p HPl.out);have h2:=HSI.out.2 ⟨by rw[h1.2.1,HSt.out],by rw[h1.2.2.2,HN0.out,HL.out]⟩;rw[hqs] at h2;cases h2)
      clear hqs
      refine wp_region_held_drew (S:=Kept ws) (by kernel_rfl) (Kept.drew ws) (fun hS0=>?_)
      refine tka 0 123 ?_
      refine tka 1 124 ?_
      refine tka 2 125 ?_
      refine tka 3 126 ?_
      refine tka 4 127 ?_
      refine tka 5 128 ?_
      refine tka 6 129 ?_
      refine tka 7 130 ?_
      refine ck 8 131 fun K hK=>?_
      go_simp
      have hcl:=rssame_any ws.drew P Ao Av3 Ac3 Ai3 ao av ac ai co cv3 cc3 ci3 TL.out (TI.out.next HZw.out).drew p Bo Bv Bc Bi mo mv mc mi do_ dv dc di HLen.out (HIn.out.kept (fun q hq=>(HBl.out.trans (HBw.out.mono hbl0)).cell hq) hvs).drew (by omega) (by have:=TL.out.2.1;have:=TL.out.1;have:=HPL.out.1;omega) (by have:=TL.out.2.2.1;have:=TL.out.1;have:=HPL.out.2.1;omega) (by have:=TL.out.2.2.2;have:=TL.out.1;have:=HPL.out.2.2;omega)
      rw[HQS.out] at hcl
      refine hcl.mono ?_
      clear hcl
      rintro e y ⟨rfl,hy⟩
      have hS1:Kept ws y:=hS0.below (Nat.le_refl _) hy
      have HY:=hide ((Below.refl ws.heap.size ws).drew.trans (hy.mono (Nat.le_refl _)))
      clear hy
      go_wp2_with fail
      refine hK.out _ _ hS1 (fun hSn=>?_)
      clear hK K
      try simp only[zqd,zqe,zqf]
      refine tka 9 132 ?_
      refine tka 10 133 ?_
      refine wpAnyH_done (by kernel_rfl) ?_ _
      clear hS0 hS1 hSn x0 x1 x2 x3 x4 e0 e1 e2 e3 e4
      have HBq:Hid (Below v0.heap.size v0 y):=hide ((HBl.out.trans (HBw.out.mono hbl0)).trans (HY.out.mono hvs))
      have hsy:=HBq.out.size
      have ZW:Hid (y.heap[w.heap.size]?=some (.cells #[.int .i64 0,.slice none 0 0,.slice none 0 0,.slice none 0 0,.int .i64 0,.int .i64 0] 33)):=hide ((HBq.out.block _ (by omega)).trans M0.out)
      have HBf:Hid (Below w.heap.size w y):=hide (HB0.out.trans (HBq.out.mono (by omega)))
      obtain⟨zc0,zc1,zc2,zc3,zc4,zc5⟩:=zr6 ZW.out
      have zq:=zf ZW.out;have zcf0:=zq 0;have zcf1:=zq 1;have zcf2:=zq 2;have zcf3:=zq 3;have zcf4:=zq 4;have zcf5:=zq 5;clear zq
      have HFin:=hide (six_fin (.int .i64 0) (.slice none 0 0) (.slice none 0 0) (.slice none 0 0) (.int .i64 0) (.int .i64 0) (.int .i64 0) (.slice none 0 0) (.slice none 0 0) (.slice none 0 0) (.int .i64 0) (.int .i64 0) (Nat.le_refl w.heap.size) ZW.out HBf.out)
      go_wp2
      obtain⟨f,hf,hfB,h6,hfs,hfo⟩:=HFin.out
      rw[hf]
      obtain⟨y0,y1,y2,y3,y4,y5⟩:=zr6 h6
      exact bodyPost_ret (v:=.tuple #[.agg #[.int .i64 0,.slice none 0 0,.slice none 0 0,.slice none 0 0,.int .i64 0,.int .i64 0],.int .i64 4]) (by simp[results,Tryz.results38,go_sem,y0,y1,y2,y3,y4,y5]) rfl (.inr ⟨HN.out,rfl,hfB⟩)
     have HQS:=hide hqs
     have HAl:Hid (∀(q:Nat) (p:SPart),q<i+1→ps[q]?=some p→p.step=st∧p.own=ownUpto (L:Int) (q:Int) n):=hide (fun q p' hq hp'=>by rcases Nat.lt_or_ge q i with h | h;exact hal.out q p' h hp';obtain rfl:q=i:=(by omega);rw[HPl.out] at hp';obtain rfl:=Option.some.inj hp';exact HSI.out.1 hqs)
     have HNN:Hid (0<i+1→1≤n):=hide (fun _=>by omega)
     clear hqs
     refine wp_region_held_drew (S:=Kept ws) (by kernel_rfl) (Kept.drew ws) (fun hS0=>?_)
     refine tka 0 123 ?_
     refine tka 1 124 ?_
     refine tka 2 125 ?_
     refine tka 3 126 ?_
     refine tka 4 127 ?_
     refine tka 5 128 ?_
     refine tka 6 129 ?_
     refine tka 7 130 ?_
     refine ck 8 131 fun K hK=>?_
     go_simp
     have hcl:=rssame_any ws.drew P Ao Av3 Ac3 Ai3 ao av ac ai co cv3 cc3 ci3 TL.out (TI.out.next HZw.out).drew p Bo Bv Bc Bi mo mv mc mi do_ dv dc di HLen.out (HIn.out.kept (fun q hq=>(HBl.out.trans (HBw.out.mono hbl0)).cell hq) hvs).drew (by omega) (by have:=TL.out.2.1;have:=TL.out.1;have:=HPL.out.1;omega) (by have:=TL.out.2.2.1;have:=TL.out.1;have:=HPL.out.2.1;omega) (by have:=TL.out.2.2.2;have:=TL.out.1;have:=HPL.out.2.2;omega)
     rw[HQS.out] at hcl
     refine hcl.mono ?_
     clear hcl
     rintro e y ⟨rfl,hy⟩
     have hS1:Kept ws y:=hS0.below (Nat.le_refl _) hy
     have HY:=hide ((Below.refl ws.heap.size ws).drew.trans (hy.mono (Nat.le_refl _)))
     clear hy
     go_wp2_with fail
     refine hK.out _ _ hS1 (fun hSn=>?_)
     clear hK K
     try simp only[zqd,zqe,zqf]
     refine tka 9 132 ?_
     refine tka 10 133 ?_
     refine wpAnyH_done (by kernel_rfl) ?_ _
     clear hS0 hS1 hSn x0 x1 x2 x3 x4 e0 e1 e2 e3 e4
     have HBr:=hide (HBw.out.trans (HY.out.mono (by have:=HBw.out.size;omega)))
     go_wp2
     go_roundw
     case rel=>exact⟨i+1,by omega,by go_num,HAl,HNN,HBr⟩
     case measure=>simp[intOf];omega
    obtain rfl:L=i:=by omega
    have hn2:1≤n:=hn1.out (by omega)
    have HOk:Hid (okJ ps):=hide ((ok_iff (by rw[HL.out];omega) (by rw[HL.out];omega) (by rw[HN0.out];exact hn2) (by rw[HN0.out];exact hn512) (fun q p hp=>hrt.out q p (by have:=(List.getElem?_eq_some_iff.1 hp).1;rw[HL.out] at this;exact this) hp)).2 (fun q p hp=>by rw[HSt.out,HN0.out,HL.out];exact hal.out q p (by have:=(List.getElem?_eq_some_iff.1 hp).1;rw[HL.out] at this;exact this) hp))
    have HBq:Hid (Below v0.heap.size v0 wr):=hide (HBl.out.trans (hbr.out.mono hbl0))
    have ZW:Hid (wr.heap[w.heap.size]?=some (.cells #[.int .i64 0,.slice none 0 0,.slice none 0 0,.slice none 0 0,.int .i64 0,.int .i64 0] 33)):=hide ((HBq.out.block _ (by omega)).trans M0.out)
    have HBf:Hid (Below w.heap.size w wr):=hide (HB0.out.trans (HBq.out.mono (by omega)))
    have R1:=hide (RV.out.next hbr.out)
    have R2:=hide (RC.out.next hbr.out)
    have R3:=hide (RM.out.next hbr.out)
    obtain⟨zc0,zc1,zc2,zc3,zc4,zc5⟩:=zr6 ZW.out
    have zq:=zf ZW.out;have zcf0:=zq 0;have zcf1:=zq 1;have zcf2:=zq 2;have zcf3:=zq 3;have zcf4:=zq 4;have zcf5:=zq 5;clear zq
    have HFin:=hide (six_fin (.int .i64 0) (.slice none 0 0) (.slice none 0 0) (.slice none 0 0) (.int .i64 0) (.int .i64 0) (.int .i64 st) (.slice Av n cv) (.slice Ac n cc) (.slice Ai n ci) (.int .i64 0) (.int .i64 0) (Nat.le_refl w.heap.size) ZW.out HBf.out)
    go_wp2
    obtain⟨f,hf,hfB,h6,hfs,hfo⟩:=HFin.out
    rw[hf]
    obtain⟨y0,y1,y2,y3,y4,y5⟩:=zr6 h6
    have hB1:Rd f f.heap.size Av (i64s ((List.range n).map (jV ps))):=rd_fin O1.out hbr.out (by omega) hfo hfs
    have hB2:Rd f f.heap.size Ac (bools ((List.range n).map (jC ps))):=rd_fin O2.out hbr.out (by omega) hfo hfs
    have hB3:Rd f f.heap.size Ai (mlFlat ((List.range n).map (jM ps))):=rd_fin O3.out hbr.out (by omega) hfo hfs
    exact bodyPost_ret (v:=.tuple #[.agg #[.int .i64 st,.slice Av n cv,.slice Ac n cc,.slice Ai n ci,.int .i64 0,.int .i64 0],.int .i64 0]) (by simp[results,Tryz.results38,go_sem,y0,y1,y2,y3,y4,y5]) rfl (.inl ⟨HOk.out,Av,Ac,Ai,cv,cc,ci,by rw[HSt.out,HN0.out],by rw[HN0.out];exact hB1,by rw[HN0.out];exact hB2,by rw[HN0.out];exact hB3,hfB⟩)
end Go.Proofs.YtpojjmbalgmcoaaGreat
