/- Lemmas: Bld. -/
import Derived.Test.YtpojjmbalgmcoaaGreatStWw46
import Derived.Test.YtpojjmbalgmcoaaGreatStWw49
set_option linter.unusedVariables false
set_option linter.unusedSimpArgs false
set_option maxRecDepth 100000
set_option maxHeartbeats 16000000
namespace Go.Proofs.YtpojjmbalgmcoaaGreat
open Go.RowKit Go.Shelf
attribute [local go_sem] Oper.semAt_some
def vxFlat (xs:List VX):List Value:=xs.flatMap fun x=>[.slice x.Ao x.no x.co,.slice x.Ab x.nb x.cb]
def vxOwn (xs:List VX):List Value:=xs.map fun x => .int .i64 (x.v:Int)
structure MI (B m:Nat) (V:Nat) (A:Option Addr) (L c:Nat) (k j1 j2 j3 j4:Int) (es:List Ed) (w0:World) (xs:List VX) (W:World):Prop where
 mem:∃Aof cof Aow cow,W.heap[m]?=some (.cells #[.int .i64 (V:Int),.slice A L c,.int .u8 k,.int .i64 j1,.int .i64 j2,.int .i64 j3,.int .i64 j4,.slice Aof xs.length cof,.slice Aow xs.length cow] 136)∧W.ownsRow B 141 2 (.slice Aof xs.length cof) xs.length (vxFlat xs)∧W.ownsRow B 3 1 (.slice Aow xs.length cow) xs.length (vxOwn xs)
 ptr:W.heap[m+1]?=some (.cells #[.pointer (some ⟨m,0,none⟩)] 93)
 rows:∀x∈xs,VxIn es x W
 low:B≤W.heap.size
 below:Below w0.heap.size w0 W
theorem cells_kept {W W':World} {row:Option Nat} (hg:W.grownBy W' row) (hr:∀r,row=some r→∃o:Obj,W.heap[r]?=some o∧o.isCells=false) {b:Nat} {cs:Array Value} {T:TypeId} {fr:Nat×Nat} (h:W.heap[b]?=some (.cells cs T fr)):W'.heap[b]?=some (.cells cs T fr):=
 (grownBy_keeps_cells hg hr h rfl).trans h
theorem own_keeps {W W':World} {row:Option Nat} (hg:W.grownBy W' row) (hr:∀r,row=some r→∃o:Obj,W.heap[r]?=some o∧o.isCells=false) {base size n:Nat} {e:TypeId} {v:Value} {xs:List Value} (h:W.ownsRow base e size v n xs):W'.ownsRow base e size v n xs:=by
 refine⟨h.1,?_⟩
 rcases h.2 with h0 | ⟨g,cap,cur,hv,hgb,hc,hrest⟩
 ·exact .inl h0
 exact .inr ⟨g,cap,cur,hv,hgb,cells_kept hg hr hc,hrest⟩
theorem VxIn.keeps {es:List Ed} {x:VX} {W W':World} {row:Option Nat} (h:VxIn es x W) (hg:W.grownBy W' row) (hr:∀r,row=some r→∃o:Obj,W.heap[r]?=some o∧o.isCells=false):VxIn es x W':=⟨h.1,h.2.1,own_keeps hg hr h.2.2.1,own_keeps hg hr h.2.2.2⟩
theorem MI.from {B m V L c:Nat} {A:Option Addr} {k j1 j2 j3 j4:Int} {es:List Ed} {w0:World} (hB:w0.heap.size≤B):OwnFrom B (MI B m V A L c k j1 j2 j3 j4 es w0):=fun xs W W' row h hg hr=>by
 obtain⟨⟨Aof,cof,Aow,cow,h1,h2,h3⟩,hp,h4,h5,h6⟩:=h
 have hr':=fun r e=>(hr r e).2
 exact⟨⟨Aof,cof,Aow,cow,cells_kept hg hr' h1,own_keeps hg hr' h2,own_keeps hg hr' h3⟩,cells_kept hg hr' hp,fun x hx=>(h4 x hx).keeps hg hr',Nat.le_trans h5 hg.size,h6.grown hg (Nat.le_trans hB h5) (fun r e=>Nat.le_trans hB (hr r e).1)⟩
theorem others_grown {W W':World} {row:Option Nat} (hg:W.grownBy W' row) (hr:∀r,row=some r→∃cs T fr,W.heap[r]?=some (.cells cs T fr)):KeepsOthers W W':=
 ⟨hg.size,fun k o hk hc=>(hg.block k (Array.getElem?_eq_some_iff.1 hk).1 (fun e=>by obtain⟨cs,T,fr,h⟩:=hr k e.symm;rw[hk] at h;cases h;cases hc)).trans hk⟩
theorem own_is_cells {W:World} {base size n:Nat} {e:TypeId} {v:Value} {xs:List Value} (h:W.ownsRow base e size v n xs):∀r,v.ownBlock=some r→∃cs fr,W.heap[r]?=some (.cells cs e fr):=fun r hr=>by
 rcases h.2 with ⟨hv,_⟩ | ⟨g,cap,cur,hv,hgb,hc,hrest⟩
 ·rw[hv] at hr;cases hr
 rw[hv] at hr
 obtain rfl:=Option.some.inj hr
 exact⟨_,_,hc⟩
theorem own_apart_ne {W:World} {base size n base2 size2 n2:Nat} {e e2:TypeId} {v v2:Value} {xs xs2:List Value} (h:W.ownsRow base e size v n xs) (h2:W.ownsRow base2 e2 size2 v2 n2 xs2) (hne:e≠e2):v.ownBlock=none∨v.ownBlock≠v2.ownBlock:=by
 cases hv:v.ownBlock with
 | none=>exact .inl rfl
 | some r=>
  right
  intro e9
  obtain⟨cs,fr,h3⟩:=own_is_cells h r hv
  obtain⟨cs2,fr2,h4⟩:=own_is_cells h2 r e9.symm
  rw[h3] at h4
  injection h4 with h4
  injection h4 with _ h5
  exact hne h5
theorem own_apart {W W':World} {base size n base2 size2 n2:Nat} {e e2:TypeId} {v v2:Value} {xs xs2:List Value} (h:W.ownsRow base e size v n xs) (h2:W.ownsRow base2 e2 size2 v2 n2 xs2) (hne:e≠e2) (hg:W.grownBy W' v2.ownBlock):W'.ownsRow base e size v n xs:=
 h.kept hg (own_apart_ne h h2 hne)
def BE (es:List Ed) (mB:Nat) (x:VX) (b:Act) (W:World):Prop:=VxIn es x W∧∃(T:Nat) (u:Nat→Value),b={ tmps:=#[u 0,u 1,u 2,u 3,u 4,u 5,u 6,.pointer (some ⟨mB+1,0,none⟩),.int .i64 (x.v:Int),.pointer (some ⟨T,0,none⟩),u 10,u 11,u 12,u 13,u 14,u 15,u 16,u 17,u 18,u 19,u 20,u 21,u 22,u 23,u 24,u 25,u 26,u 27,u 28,u 29,u 30,u 31,u 32,u 33,u 34,u 35,u 36,u 37,u 38,u 39,u 40,u 41,u 42,u 43,u 44],defers:=[] }∧W.heap[T]?=some (.cells #[.slice x.Ao x.no x.co,.slice x.Ab x.nb x.cb] 141)∧(∃cs fr,W.heap[mB]?=some (.cells cs 136 fr)∧∀v,cs[7]?=some v→v.ownBlock≠some T)
theorem BE.mk {es:List Ed} {mB T:Nat} {x:VX} {b:Act} {W:World} (h:VxIn es x W) (hb:b={ tmps:=#[b.tmps.getD 0 undef,b.tmps.getD 1 undef,b.tmps.getD 2 undef,b.tmps.getD 3 undef,b.tmps.getD 4 undef,b.tmps.getD 5 undef,b.tmps.getD 6 undef,.pointer (some ⟨mB+1,0,none⟩),.int .i64 (x.v:Int),.pointer (some ⟨T,0,none⟩),b.tmps.getD 10 undef,b.tmps.getD 11 undef,b.tmps.getD 12 undef,b.tmps.getD 13 undef,b.tmps.getD 14 undef,b.tmps.getD 15 undef,b.tmps.getD 16 undef,b.tmps.getD 17 undef,b.tmps.getD 18 undef,b.tmps.getD 19 undef,b.tmps.getD 20 undef,b.tmps.getD 21 undef,b.tmps.getD 22 undef,b.tmps.getD 23 undef,b.tmps.getD 24 undef,b.tmps.getD 25 undef,b.tmps.getD 26 undef,b.tmps.getD 27 undef,b.tmps.getD 28 undef,b.tmps.getD 29 undef,b.tmps.getD 30 undef,b.tmps.getD 31 undef,b.tmps.getD 32 undef,b.tmps.getD 33 undef,b.tmps.getD 34 undef,b.tmps.getD 35 undef,b.tmps.getD 36 undef,b.tmps.getD 37 undef,b.tmps.getD 38 undef,b.tmps.getD 39 undef,b.tmps.getD 40 undef,b.tmps.getD 41 undef,b.tmps.getD 42 undef,b.tmps.getD 43 undef,b.tmps.getD 44 undef],defers:=[] }) (hT:W.heap[T]?=some (.cells #[.slice x.Ao x.no x.co,.slice x.Ab x.nb x.cb] 141)) (hO:(∃cs fr,W.heap[mB]?=some (.cells cs 136 fr)∧∀v,cs[7]?=some v→v.ownBlock≠some T)):BE es mB x b W:=⟨h,T,fun q=>b.tmps.getD q undef,hb,hT,hO⟩
theorem BE.put {es:List Ed} {mB B:Nat} (x:VX) (b:Act) (W:World) (l:Nat) (o o':Obj) (hl:B≤l) (ho:W.heap[l]?=some o) (hc:o.isCells=false) (h:BE es mB x b W):BE es mB x b (W.putObj l o'):=by
 obtain⟨h1,T,u,h2,h3,cs,fr,h4,h5⟩:=h
 have hr:∀r,some l=some r→∃o:Obj,W.heap[r]?=some o∧o.isCells=false:=fun r e=>by cases e;exact⟨o,ho,hc⟩
 exact⟨h1.keeps (grownBy_putObj' W l o') hr,T,u,h2,cells_kept (grownBy_putObj' W l o') hr h3,cs,fr,cells_kept (grownBy_putObj' W l o') hr h4,h5⟩
theorem hEd {w W:World} {A:Option Addr} {es:List Ed} (h:Eds w w.heap.size A es) (hb:Below w.heap.size w W):Eds W w.heap.size A es:=h.below hb (Nat.le_refl _)
theorem vseq_any (w:World) (V:Int) (A:Option Addr) (L c:Nat):Calls Tryz.prog 71 #[.agg #[.int .i64 V,.slice A L c]] w fun e w'=>e = .returned (.func (.func 91) #[] #[.pointer (some ⟨w.heap.size,0,none⟩)])∧w'=w.alloc (.cells #[.int .i64 V,.slice A L c] 24):=by
 go_enter Tryz.func71,Tryz.ntmps71
 go_wp2
 go_ret
 exact⟨rfl,rfl⟩
def BldPost (w:World) (E:Int) (V:Nat) (A:Option Addr) (L c:Nat) (k j1 j2 j3 j4:Int) (es:List Ed) (e:Ending) (w':World):Prop:=
 (E≠0∧e = .returned (.tuple #[.pointer none,.int .i64 E])∧Below w.heap.size w w') ∨
 (E=0∧∃(m B:Nat) (xs:List VX),e = .returned (.tuple #[.pointer (some ⟨m,0,none⟩),.int .i64 0])∧VxAll V xs∧w.heap.size≤m∧m<B∧MI B m V A L c k j1 j2 j3 j4 es w xs w')
theorem build_in (n:Nat) (hn:3≤n) (w:World) (V:Nat) (hV:V≤512) (A:Option Addr) (es:List Ed) (L c:Nat) (hL:es.length=L) (hL5:L≤8192) (hE:Eds w w.heap.size A es) (k j1 j2 j3 j4:Int) :
  CallsIn Fence.wide n Tryz.prog 41 #[.agg #[.int .i64 (V:Int),.slice A L c],.agg #[.int .u8 k,.int .i64 j1,.int .i64 j2,.int .i64 j3,.int .i64 j4]] w (BldPost w (acheckF k j1 j2 j3 j4 (V:Int) es) V A L c k j1 j2 j3 j4 es):=by
 have h1:1≤n:=by omega
 have HCK:=hide (acheck_any ((w.alloc (.cells #[.int .i64 (V:Int),.slice A L c] 24)).alloc (.cells #[.int .u8 k,.int .i64 j1,.int .i64 j2,.int .i64 j3,.int .i64 j4] 27)) k j1 j2 j3 j4 (V:Int) A es L c hL (Els.more (hE.below (((Below.refl w.heap.size w).alloc (Nat.le_refl _) _).alloc (by simp) _) (Nat.le_refl _)) (by simp;omega)) (by omega))
 refine callsIn_of_wp_marks Tryz.func41 rfl trivial ?_ rfl
 simp only[Tryz.ntmps41,List.size_toArray,List.length_cons,List.length_nil,Nat.reduceAdd,Nat.reduceSub,Array.replicate_succ,Array.replicate_zero,List.push_toArray,List.append_toArray,List.nil_append,List.cons_append]
 obtain⟨u,hu⟩:∃u,(w.alloc (.cells #[.int .i64 (V:Int),.slice A L c] 24)).alloc (.cells #[.int .u8 k,.int .i64 j1,.int .i64 j2,.int .i64 j3,.int .i64 j4] 27)=u:=⟨_,rfl⟩
 have HBu:=hide (show Below w.heap.size w u by rw[←hu];exact ((Below.refl _ _).alloc (Nat.le_refl _) _).alloc (by simp) _)
 have hzu:w.heap.size+1<u.heap.size:=by rw[←hu];simp
 have M0:=hide (show u.heap[w.heap.size]?=some (.cells #[.int .i64 (V:Int),.slice A L c] 24) by rw[←hu];exact (Below.heap_alloc _ _ _ (by simp)).trans (heap_alloc_last w _))
 have M1:=hide (show u.heap[w.heap.size+1]?=some (.cells #[.int .u8 k,.int .i64 j1,.int .i64 j2,.int .i64 j3,.int .i64 j4] 27) by rw[←hu];have h:=heap_alloc_last (w.alloc (.cells #[.int .i64 (V:Int),.slice A L c] 24)) (.cells #[.int .u8 k,.int .i64 j1,.int .i64 j2,.int .i64 j3,.int .i64 j4] 27);rw[World.size_alloc] at h;exact h)
 rw[hu] at HCK
 have HU:=hide hu
 have HE:=hide hE
 have HL:=hide hL
 clear hu hE hL
 obtain⟨E,hEe⟩:∃E,acheckF k j1 j2 j3 j4 (V:Int) es=E:=⟨_,rfl⟩
 rw[hEe] at HCK ⊢
 clear hEe
 have c0:=cell_of_row _ _ 0 _ _ _ M0.out
 have c1:=cell_of_row _ _ 1 _ _ _ M0.out
 obtain⟨d0,d1,d2,d3,d4⟩:=zr5 M1.out
 have b0:u.cell? ⟨w.heap.size,0,none⟩=some (.int .i64 (V:Int)):=c0
 have b1:u.cell? ⟨w.heap.size,1,none⟩=some (.slice A L c):=c1
 clear c0 c1
 gi_wp2_with fail
 rw[HU.out]
 refine⟨trivial,?_⟩
 refine (callsIn_wide.2 HCK.out).mono ?_
 rintro e y ⟨rfl,hy⟩
 have HY:=hide hy
 have hyz:=hy.size
 clear hy HCK b0 b1 d0 d1 d2 d3 d4
 by_cases hE0:E=0
 rotate_left
 ·have hE1:(E == 0)=false:=by simpa using hE0
  have hE2:(E != 0)=true:=by simpa using hE0
  have HN:=hide hE0
  clear hE0
  have HF:=hide (HBu.out.trans (HY.out.mono (by omega)))
  gi_wp2
  exact⟨_,results_tmp2 rfl _ _ _,.inl ⟨HN.out,rfl,HF.out⟩⟩
 subst hE0
 have N0:=hide ((HY.out.block w.heap.size (by omega)).trans M0.out)
 have N1:=hide ((HY.out.block (w.heap.size+1) (by omega)).trans M1.out)
 obtain⟨b0,b1⟩:=zr2 N0.out
 obtain⟨d0,d1,d2,d3,d4⟩:=zr5 N1.out
 have hl1:w.heap.size+1<y.heap.size:=by omega
 have hl0:w.heap.size<y.heap.size:=by omega
 gi_wp2_with fail
 refine⟨trivial,?_⟩
 refine (callsIn_wide.2 (vseq_any _ (V:Int) A L c)).mono ?_
 rintro e w9 ⟨rfl,rfl⟩
 gi_wp2
 obtain⟨W5,h5⟩:∃W5,((y.alloc (.cells #[.int .i64 (V:Int),.slice A L c,.int .u8 k,.int .i64 j1,.int .i64 j2,.int .i64 j3,.int .i64 j4,.slice none 0 0,.slice none 0 0] 136)).alloc (.cells #[.pointer (some ⟨y.heap.size,0,none⟩)] 93)).alloc (.cells #[.int .i64 (V:Int),.slice A L c] 24)=W5:=⟨_,rfl⟩
 have hz5:W5.heap.size=y.heap.size+3:=by rw[←h5];simp
 have HB5:=hide (show Below y.heap.size y W5 by rw[←h5];exact (((Below.refl _ _).alloc (Nat.le_refl _) _).alloc (by simp) _).alloc (by simp;omega) _)
 have K0:=hide (show W5.heap[y.heap.size]?=some (.cells #[.int .i64 (V:Int),.slice A L c,.int .u8 k,.int .i64 j1,.int .i64 j2,.int .i64 j3,.int .i64 j4,.slice none 0 0,.slice none 0 0] 136) by rw[←h5];exact (Below.heap_alloc _ _ _ (by simp;omega)).trans ((Below.heap_alloc _ _ _ (by simp)).trans (heap_alloc_last y _)))
 have K1:=hide (show W5.heap[y.heap.size+1]?=some (.cells #[.pointer (some ⟨y.heap.size,0,none⟩)] 93) by rw[←h5];have h:=heap_alloc_last (y.alloc (.cells #[.int .i64 (V:Int),.slice A L c,.int .u8 k,.int .i64 j1,.int .i64 j2,.int .i64 j3,.int .i64 j4,.slice none 0 0,.slice none 0 0] 136)) (.cells #[.pointer (some ⟨y.heap.size,0,none⟩)] 93);rw[World.size_alloc] at h;exact (Below.heap_alloc _ _ _ (by simp)).trans h)
 have K2:W5.heap[y.heap.size+2]?=some (.cells #[.int .i64 (V:Int),.slice A L c] 24):=by rw[←h5];have h:=heap_alloc_last ((y.alloc (.cells #[.int .i64 (V:Int),.slice A L c,.int .u8 k,.int .i64 j1,.int .i64 j2,.int .i64 j3,.int .i64 j4,.slice none 0 0,.slice none 0 0] 136)).alloc (.cells #[.pointer (some ⟨y.heap.size,0,none⟩)] 93)) (.cells #[.int .i64 (V:Int),.slice A L c] 24);rw[World.size_alloc,World.size_alloc] at h;exact h
 rw[h5]
 have H5:=hide h5
 clear h5 b0 b1 d0 d1 d2 d3 d4
 obtain⟨mB,hmB⟩:∃q,y.heap.size=q:=⟨_,rfl⟩
 rw[hmB] at K0 K1 K2 hz5 hl0 hl1 ⊢
 have HmB:=hide hmB
 have HWb:=hide (show Below w.heap.size w W5 from (HBu.out.trans (HY.out.mono (by omega))).trans (HB5.out.mono (by omega)))
 clear hmB
 have HE5:=hide (show Eds W5 w.heap.size A es from hEd HE.out HWb.out)
 refine rangeFunc_E rfl h1 (gf:=91) (lb:=#[.pointer (some ⟨mB+2,0,none⟩)]) rfl trivial (enters_of Tryz.func91 (by kernel_rfl) rfl) (verts_in (n-1) (by omega) W5 (mB+2) w.heap.size mB V hV A es L c HL.out hL5 K2 (by omega) HE5.out (by omega) (by omega)) KpM.trans (fun W l o o' hl _ _=>KpM.put o' hl) (fun _=>rfl) (MI W5.heap.size mB V A L c k j1 j2 j3 j4 es w) (MI.from HWb.out.size) ⟨⟨none,0,none,0,K0.out,World.ownsRow_nil _ _ _ _,World.ownsRow_nil _ _ _ _⟩,K1.out,fun x hx=>(by cases hx),Nat.le_refl _,HWb.out⟩ (BE es mB) BE.put ?assign ?body ?done
 case assign=>
  intro l pre x W K hI hE hlen hK
  obtain⟨Wt,ht⟩:∃q,W.alloc (.cells #[.slice x.Ao x.no x.co,.slice x.Ab x.nb x.cb] 141)=q:=⟨_,rfl⟩
  have hIt:=(MI.from HWb.out.size).alloc (.cells #[.slice x.Ao x.no x.co,.slice x.Ab x.nb x.cb] 141) hI
  have hgr:=World.grownBy_alloc W (.cells #[.slice x.Ao x.no x.co,.slice x.Ab x.nb x.cb] 141) none
  have hEt:=hE.keeps hgr (fun r e=>by cases e)
  have hT:Wt.heap[W.heap.size]?=some (.cells #[.slice x.Ao x.no x.co,.slice x.Ab x.nb x.cb] 141):=by rw[←ht];exact heap_alloc_last _ _
  have hkf:=(others_grown hgr (fun r e=>by cases e)).from W5.heap.size
  have hkp:KpM W5.heap.size mB W Wt:=by rw[←ht];exact KpM.of_below ((Below.refl W.heap.size W).alloc (Nat.le_refl _) _) hI.low
  have hO:Hid (∃cs fr,Wt.heap[mB]?=some (.cells cs 136 fr)∧∀v,cs[7]?=some v→v.ownBlock≠some W.heap.size):=hide (by rw[←ht];obtain⟨⟨Aof,cof,Aow,cow,h2,h3,_⟩,_⟩:=hI;exact⟨_,_,(Below.heap_alloc _ _ _ (Array.getElem?_eq_some_iff.1 h2).1).trans h2,fun v hv e=>by have hv2:=Option.some.inj hv;subst hv2;have:=(h3.lt _ e).2;omega⟩)
  rw[ht] at hIt hEt hkf
  have HG:=hide (And.intro hIt (And.intro hEt (And.intro hT (And.intro hkf hkp))))
  have HT:=hide ht
  clear hIt hgr hEt hT hkf hkp ht hI hE
  have hKk:=hide hK
  clear hK
  simp only[vxEnc]
  gi_wp2
  rw[HT.out]
  exact hKk.out _ _ HG.out.1 (BE.mk HG.out.2.1 (T:=W.heap.size) rfl HG.out.2.2.1 hO.out) HG.out.2.2.2.1 HG.out.2.2.2.2
 case body=>
  rintro l pre x b W hI ⟨hE,T,u,rfl,hT,hOB⟩ hlen
  obtain⟨⟨Aof,cof,Aow,cow,h2,h3,h4⟩,hp,h5,h6,h7⟩:=hI
  have HNT:Hid ((Value.slice Aof pre.length cof).ownBlock≠some T):=hide (by obtain⟨cs,fr,h8,h9⟩:=hOB;rw[h2] at h8;injection h8 with h8;injection h8 with h8;subst h8;exact h9 _ rfl)
  clear hOB
  have H2:=hide h2
  have H3:=hide h3
  have H4:=hide h4
  have HP:=hide hp
  have H5r:=hide h5
  have H7:=hide h7
  have HEx:=hide hE
  have HT:=hide hT
  clear h2 h3 h4 hp h5 h7 hE hT
  obtain⟨pl,hpl⟩:∃q,pre.length=q:=⟨_,rfl⟩
  rw[hpl] at H2 H3 H4 HNT hlen
  have HPL:=hide hpl
  clear hpl
  obtain⟨a0,a0i,a0z,a0s,a0b⟩:=info_parts (show (Tryz.prog.info? 3).map (fun i=>(i.zero,i.size,i.bytes))=some (some (.int .i64 0),1,8) by kernel_rfl)
  obtain⟨a3,a3i,a3z,a3s,a3b⟩:=info_parts (show (Tryz.prog.info? 141).map (fun i=>(i.zero,i.size,i.bytes))=some (some (.agg #[.slice none 0 0,.slice none 0 0]),2,48) by kernel_rfl)
  have p0:W.cell? ⟨mB+1,0,none⟩=some (.pointer (some ⟨mB,0,none⟩)):=cell_of_row _ _ 0 _ _ _ HP.out
  have p8:W.cell? ⟨mB,8,none⟩=some (.slice Aow pl cow):=cell_of_row _ _ 8 _ _ _ H2.out
  have hm0:mB<W.heap.size:=by omega
  have hm1:mB+1<W.heap.size:=by omega
  refine wpIn_block ?_
  refine wpIn_seq_k (fun K9 hK9=>?_)
  refine wpR_region (S:=(fun w=>w.cell? ⟨mB+1,0,none⟩=some (.pointer (some ⟨mB,0,none⟩))∧w.cell? ⟨mB,8,none⟩=some (.slice Aow pl cow))) [10] (by kernel_rfl) (by kernel_rfl) (by rintro ⟨_,_,hlo⟩;exact Exit.noConfusion (show Exit.outgrown=Exit.normal from hlo.1)) (⟨p0,p8⟩) (fun hS0=>?_)
  refine tla 0 24 ?_
  refine tla 1 25 ?_
  refine tla 2 26 ?_
  refine tla 3 27 ?_
  refine tla 4 28 ?_
  refine tla 5 29 ?_
  refine cl 6 30 fun K hK=>?_
  go_simp
  have hSn':(W.drew.alloc (.cells #[.int .i64 (x.v:Int)] 3)).cell? ⟨mB+1,0,none⟩=some (.pointer (some ⟨mB,0,none⟩))∧(W.drew.alloc (.cells #[.int .i64 (x.v:Int)] 3)).cell? ⟨mB,8,none⟩=some (.slice Aow pl cow):=⟨(World.cell?_alloc_lt _ _ ⟨mB+1,0,none⟩ hm1).trans p0,(World.cell?_alloc_lt _ _ ⟨mB,8,none⟩ hm0).trans p8⟩
  refine hK.out _ _ hSn' (fun hSn=>?_)
  clear hK K
  try simp only[zqd,zqe,zqf]
  refine cl 7 31 fun K hK=>?_
  refine op_app (.tmp 28) (.tmp 30) 40 rfl W5.heap.size 3 a0 (.int .i64 0) 1 8 Tryz.underlying40 a0i a0z a0s a0b rfl (by decide) (.slice Aow pl cow) pl _ rfl (own_below H4.out (((Below.refl W.heap.size W).drew).alloc (Nat.le_refl _) (.cells #[.int .i64 (x.v:Int)] 3)) (fun g hg=>(H4.out.lt g hg).2)) (W.heap.size+1) (some ⟨W.heap.size,0,none⟩) 1 1 [.int .i64 (x.v:Int)] rfl rfl (Rd.new _ _ _ _) (by simp[Value.oneCell']) (by unfold maxLen;omega) (by omega) (by simp;omega) ?_
  intro A2 c2 y1 own2 hg2 hat2
  have HO8:=hide own2
  have HG8:=hide hg2
  have hg2m:=grown_cell _ H4.out H2.out (by decide) hg2
  have hg2p:=grown_cell _ H4.out HP.out (by decide) hg2
  clear own2 hg2 hat2
  refine hK.out _ _ ⟨cell_of_row _ _ 0 _ _ _ hg2p,cell_of_row _ _ 8 _ _ _ hg2m⟩ (fun hSn=>?_)
  clear hK K
  simp only[Act.put]
  try simp only[zqd,zqe,zqf]
  refine twa 8 32 ?_
  refine tla 9 33 ?_
  refine xl 10 fun K hK=>?_
  have f8:=zf hg2m 8
  go_wp2_with fail
  refine hK.out _ _ ?_
  clear hK K
  try simp only[zqd,zqe,zqf]
  refine wpAnyL_done (by kernel_rfl) ?_ _
  clear hS0 hSn hSn'
  clear f8
  refine hK9 _ _ ?_
  clear hK9 K9
  have hst:=(step_grown (j:=8) (u:=.slice A2 (pl+1) c2) _ h6 H4.out H2.out (by decide) HG8.out).2
  have N2:=hide (heap_setCell_same _ mB 8 _ _ (.slice A2 (pl+1) c2) hg2m)
  obtain⟨z1,hz⟩:∃z1,y1.setCell ⟨mB,8,none⟩ (.slice A2 (pl+1) c2)=z1:=⟨_,rfl⟩
  have N4:Hid (z1.ownsRow W5.heap.size 3 1 (.slice A2 (pl+1) c2) (pl+1) (vxOwn (pre ++ [x]))):=hide (by rw[←hz];have h:=own_set (b:=mB) (j:=8) (u:=.slice A2 (pl+1) c2) HO8.out (by omega);rwa [show vxOwn pre ++ [.int .i64 (x.v:Int)]=vxOwn (pre ++ [x]) by simp[vxOwn]] at h)
  rw[hz] at hst N2 ⊢
  have HST:=hide hst
  have N3:=hide (own_step hst H3.out H2.out (by decide) (by decide))
  have NP:=hide (hst.cells _ _ _ _ HP.out (by decide) (by omega))
  have NT:=hide (hst.cells _ _ _ _ HT.out (by decide) (fun e9=>by have h:=HT.out;rw[e9,H2.out] at h;injection h with h;injection h with _ h4;exact absurd h4 (by decide)))
  have N5:=hide (fun x' hx'=>(H5r.out x' hx').step hst H2.out (by decide) (by decide))
  have NX:=hide (HEx.out.step hst H2.out (by decide) (by decide))
  have hzs:W.heap.size≤z1.heap.size:=hst.kp.1
  clear hst hg2m hg2p hz HO8 HG8
  have p0:z1.cell? ⟨mB+1,0,none⟩=some (.pointer (some ⟨mB,0,none⟩)):=cell_of_row _ _ 0 _ _ _ NP.out
  have p7:z1.cell? ⟨mB,7,none⟩=some (.slice Aof pl cof):=cell_of_row _ _ 7 _ _ _ N2.out
  obtain⟨t0,t1⟩:=zr2 NT.out
  have hz0:mB<z1.heap.size:=by omega
  have hz1:mB+1<z1.heap.size:=by omega
  have hzT:T<z1.heap.size:=(Array.getElem?_eq_some_iff.1 NT.out).1
  refine wpR_region (S:=(fun w=>w.cell? ⟨mB+1,0,none⟩=some (.pointer (some ⟨mB,0,none⟩))∧w.cell? ⟨mB,7,none⟩=some (.slice Aof pl cof)∧w.cell? ⟨T,0,none⟩=some (.slice x.Ao x.no x.co)∧w.cell? ⟨T,1,none⟩=some (.slice x.Ab x.nb x.cb))) [10] (by kernel_rfl) (by kernel_rfl) (by rintro ⟨_,_,hlo⟩;exact Exit.noConfusion (show Exit.outgrown=Exit.normal from hlo.1)) (⟨p0,p7,t0,t1⟩) (fun hS0=>?_)
  refine tla 0 34 ?_
  refine tla 1 35 ?_
  refine tla 2 36 ?_
  refine tla 3 37 ?_
  refine tla 4 38 ?_
  refine tla 5 39 ?_
  refine cl 6 40 fun K hK=>?_
  go_simp
  have hSn':(z1.drew.alloc (.cells #[.slice x.Ao x.no x.co,.slice x.Ab x.nb x.cb] 141)).cell? ⟨mB+1,0,none⟩=some (.pointer (some ⟨mB,0,none⟩))∧(z1.drew.alloc (.cells #[.slice x.Ao x.no x.co,.slice x.Ab x.nb x.cb] 141)).cell? ⟨mB,7,none⟩=some (.slice Aof pl cof)∧(z1.drew.alloc (.cells #[.slice x.Ao x.no x.co,.slice x.Ab x.nb x.cb] 141)).cell? ⟨T,0,none⟩=some (.slice x.Ao x.no x.co)∧(z1.drew.alloc (.cells #[.slice x.Ao x.no x.co,.slice x.Ab x.nb x.cb] 141)).cell? ⟨T,1,none⟩=some (.slice x.Ab x.nb x.cb):=⟨(World.cell?_alloc_lt _ _ ⟨mB+1,0,none⟩ hz1).trans p0,(World.cell?_alloc_lt _ _ ⟨mB,7,none⟩ hz0).trans p7,(World.cell?_alloc_lt _ _ ⟨T,0,none⟩ hzT).trans t0,(World.cell?_alloc_lt _ _ ⟨T,1,none⟩ hzT).trans t1⟩
  refine hK.out _ _ hSn' (fun hSn=>?_)
  clear hK K
  try simp only[zqd,zqe,zqf]
  refine cl 7 41 fun K hK=>?_
  refine op_app (.tmp 38) (.tmp 40) 134 rfl W5.heap.size 141 a3 (.agg #[.slice none 0 0,.slice none 0 0]) 2 48 Tryz.underlying134 a3i a3z a3s a3b rfl (by decide) (.slice Aof pl cof) pl _ rfl (own_below N3.out (((Below.refl z1.heap.size z1).drew).alloc (Nat.le_refl _) (.cells #[.slice x.Ao x.no x.co,.slice x.Ab x.nb x.cb] 141)) (fun g hg=>(N3.out.lt g hg).2)) (z1.heap.size+1) (some ⟨z1.heap.size,0,none⟩) 1 1 [.slice x.Ao x.no x.co,.slice x.Ab x.nb x.cb] rfl rfl (Rd.new _ _ _ _) (by simp[Value.oneCell']) (by unfold maxLen;omega) (by omega) (by simp;omega) ?_
  intro A3 c3 y2 own2 hg2 hat2
  have HO9:=hide own2
  have HG9:=hide hg2
  have hg2m:=grown_cell _ N3.out N2.out (by decide) hg2
  have hg2p:=grown_cell _ N3.out NP.out (by decide) hg2
  have hyT:y2.heap[T]?=some (.cells #[.slice x.Ao x.no x.co,.slice x.Ab x.nb x.cb] 141):=(hg2.block T (Nat.lt_of_lt_of_le hzT (by simp)) (fun e=>HNT.out e.symm)).trans ((Below.heap_alloc z1.drew (.cells #[.slice x.Ao x.no x.co,.slice x.Ab x.nb x.cb] 141) T hzT).trans NT.out)
  have hg2t:y2.cell? ⟨T,0,none⟩=some (.slice x.Ao x.no x.co)∧y2.cell? ⟨T,1,none⟩=some (.slice x.Ab x.nb x.cb):=⟨cell_of_row _ _ 0 _ _ _ hyT,cell_of_row _ _ 1 _ _ _ hyT⟩
  clear own2 hg2 hat2
  refine hK.out _ _ ⟨cell_of_row _ _ 0 _ _ _ hg2p,cell_of_row _ _ 7 _ _ _ hg2m,hg2t⟩ (fun hSn=>?_)
  clear hK K
  simp only[Act.put]
  try simp only[zqd,zqe,zqf]
  refine twa 8 42 ?_
  refine tla 9 43 ?_
  refine xl 10 fun K hK=>?_
  have f7:=zf hg2m 7
  go_wp2_with fail
  refine hK.out _ _ ?_
  clear hK K
  try simp only[zqd,zqe,zqf]
  refine wpAnyL_done (by kernel_rfl) ?_ _
  clear hS0 hSn hSn' p0 p7 t0 t1 f7
  have hst2:=(step_grown (j:=7) (u:=.slice A3 (pl+1) c3) _ (Nat.le_trans h6 hzs) N3.out N2.out (by decide) HG9.out).2
  have O2:=hide (heap_setCell_same _ mB 7 _ _ (.slice A3 (pl+1) c3) hg2m)
  obtain⟨z2,hz2⟩:∃z2,y2.setCell ⟨mB,7,none⟩ (.slice A3 (pl+1) c3)=z2:=⟨_,rfl⟩
  have O3:Hid (z2.ownsRow W5.heap.size 141 2 (.slice A3 (pl+1) c3) (pl+1) (vxFlat (pre ++ [x]))):=hide (by rw[←hz2];have h:=own_set (b:=mB) (j:=7) (u:=.slice A3 (pl+1) c3) HO9.out (by omega);rwa [show vxFlat pre ++ [.slice x.Ao x.no x.co,.slice x.Ab x.nb x.cb]=vxFlat (pre ++ [x]) by simp[vxFlat]] at h)
  rw[hz2] at hst2 O2 ⊢
  have O4:=own_step hst2 N4.out N2.out (by decide) (by decide)
  have hlen2:(pre ++ [x]).length=pl+1:=by rw[List.length_append,HPL.out];rfl
  refine⟨rfl,(HST.out.others.trans hst2.others).from _,HST.out.kp.trans hst2.kp,⟨⟨A3,c3,A2,c2,by rw[hlen2];exact O2.out,by rw[hlen2];exact O3.out,by rw[hlen2];exact O4⟩,hst2.cells _ _ _ _ NP.out (by decide) (by omega),fun x' hx'=>?_,Nat.le_trans h6 (Nat.le_trans hzs hst2.kp.1),H7.out.trans ((HST.out.below (by omega) (by omega)).trans (hst2.below (by omega) (by omega)))⟩⟩
  rcases List.mem_append.1 hx' with h | h
  ·exact (N5.out x' h).step hst2 N2.out (by decide) (by decide)
  rw[List.mem_singleton] at h
  rw[h]
  exact NX.out.step hst2 N2.out (by decide) (by decide)
 case done=>
  rintro D xs W hD hS HI hK
  have HIh:=hide HI
  have HKh:=hide hK
  have p0:W.cell? ⟨mB+1,0,none⟩=some (.pointer (some ⟨mB,0,none⟩)):=cell_of_row _ _ 0 _ _ _ HI.ptr
  clear HI hK
  gi_wp2
  refine⟨by simp,.inl ⟨_,_,rfl,run_takeDeferred HKh.out,?_⟩⟩
  exact⟨_,results_tmp2 rfl _ _ _,.inr ⟨rfl,mB,W5.heap.size,xs,rfl,hS,by omega,by omega,(MI.from HWb.out.size).putObj _ HIh.out hD HKh.out rfl⟩⟩
theorem build_any (w:World) (V:Nat) (hV:V≤512) (A:Option Addr) (es:List Ed) (L c:Nat) (hL:es.length=L) (hL5:L≤8192) (hE:Eds w w.heap.size A es) (k j1 j2 j3 j4:Int) :
  Calls Tryz.prog 41 #[.agg #[.int .i64 (V:Int),.slice A L c],.agg #[.int .u8 k,.int .i64 j1,.int .i64 j2,.int .i64 j3,.int .i64 j4]] w (BldPost w (acheckF k j1 j2 j3 j4 (V:Int) es) V A L c k j1 j2 j3 j4 es):=
 (callsIn_wide (n:=3)).1 (build_in 3 (Nat.le_refl _) w V hV A es L c hL hL5 hE k j1 j2 j3 j4)
end Go.Proofs.YtpojjmbalgmcoaaGreat
