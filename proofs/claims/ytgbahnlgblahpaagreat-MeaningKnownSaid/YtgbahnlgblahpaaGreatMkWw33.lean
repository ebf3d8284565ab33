/- Lemmas: Mdi. -/
import Derived.Test.YtgbahnlgblahpaaGreatMkWw32
set_option linter.unusedVariables false
set_option linter.unusedSimpArgs false
set_option maxRecDepth 100000
set_option maxHeartbeats 16000000
namespace Go.Proofs.YtgbahnlgblahpaaGreat
open Go.RowKit
def distE (V:Int) (es:List Ed) (s:Int):Int:=if checkF V es=0 then (if 0≤s∧s<V then 0 else 2) else checkF V es
def distL (V:Int) (es:List Ed) (s:Int):List Int:=if distE V es s=0 then relaxedF V es s else []
def rdL (w:World) (D:Nat):List Int:=match w.heap[D]? with
 | some (.cells cs _ _)=>cs.toList.map intOf
 | _=>[]
def rdN (w:World) (P:Nat):Nat:=match w.heap[P]? with
 | some (.cells cs _ _)=>(match (cs[0]? : Option Value) with
  | some (Value.slice _ n _)=>n
  | _=>0)
 | _=>0
def mW (D P:Nat) (w:World):Nat:=2*sumV (rdL w D)+rdN w P
theorem rdL_row {w:World} {D:Nat} {T:TypeId} {l:List Int} (h:RowI w D T l):rdL w D=l:=by
 unfold rdL
 rw[show w.heap[D]?=_ from h]
 simp only[intsV,List.map_map]
 have:(intOf∘Value.int .i64)=id:=rfl
 rw[this,List.map_id]
theorem mW_eq {w:World} {D P g n c:Nat} {T:TypeId} {l:List Int} {d:List Sp} (h:RowI w D T l) (hp:HpM P g n c d w):mW D P w=2*sumV l+n:=by
 unfold mW
 rw[rdL_row h]
 unfold rdN
 rw[hp.ptr];rfl
theorem sum_set {l:List Int} {t:Nat} {d:Int} (ht:t<l.length) (hd:0≤d) (hl:d<at_ l (t:Int)):sumV (l.set t d)+1≤sumV l:=by
 unfold sumV
 induction l generalizing t with
 | nil=>simp at ht
 | cons x l ih=>
  cases t with
  | zero=>
   have hx:d<x:=by simpa [at_] using hl
   simp only[List.set_cons_zero,List.map_cons,List.sum_cons]
   omega
  | succ t=>
   have:=ih (t:=t) (by simpa using ht) (by rw[at_nat] at hl ⊢;simpa using hl)
   simp only[List.set_cons_succ,List.map_cons,List.sum_cons]
   omega
theorem KH.outer {D P g:Nat} {z w w':World} (h:KH D D z w) (h':KH P g w w') (hP:z.heap.size≤P) (hg:z.heap.size≤g):KH D D z w':=
 ⟨h'.os.trans h.os,h'.tape.trans h.tape,h'.output.trans h.output,Nat.le_trans h.size h'.size,fun b hb h1 h2=>(h'.blk b (Nat.lt_of_lt_of_le hb h.size) (by omega) (by omega)).trans (h.blk b hb h1 h2)⟩
structure DSt (es:List Ed) (M:Nat) (s:Int) (z:World) (D P:Nat) (wr:World) (g n c:Nat) (l:List Int) (h:List Sp) (S:Nat→Bool) (rest:List Ed) (m:Int):Prop where
 row:RowI wr D 2 l
 hp:HpM P g n c h wr
 di:DI es M s l h S rest m
 kh:KH D D z wr
 gz:z.heap.size≤g
 pz:z.heap.size≤P
theorem DSt.drew {es:List Ed} {M:Nat} {s:Int} {z:World} {D P:Nat} {wr:World} {g n c:Nat} {l:List Int} {h:List Sp} {S:Nat→Bool} {rest:List Ed} {m:Int} (q:DSt es M s z D P wr g n c l h S rest m):DSt es M s z D P wr.drew g n c l h S rest m:=
 ⟨q.row,q.hp.drew,q.di,q.kh.drew,q.gz,q.pz⟩
theorem DSt.below {es:List Ed} {M:Nat} {s:Int} {z:World} {D P:Nat} {wr w':World} {g n c:Nat} {l:List Int} {h:List Sp} {S:Nat→Bool} {rest:List Ed} {m:Int} (q:DSt es M s z D P wr g n c l h S rest m) (hb:Below wr.heap.size wr w'):DSt es M s z D P w' g n c l h S rest m:=
 ⟨q.row.below hb q.row.lt,q.hp.below hb,q.di,q.kh.below hb q.kh.size,q.gz,q.pz⟩
def Kq (D P g:Nat) (q w:World):Prop:=q.heap.size≤w.heap.size∧∀b,b<q.heap.size→b≠D→b≠P→b≠g→w.heap[b]?=q.heap[b]?
theorem Kq.below {D P g:Nat} {q w w':World} (h:Kq D P g q w) (hb:Below w.heap.size w w'):Kq D P g q w':=⟨Nat.le_trans h.1 hb.size,fun b h0 h1 h2 h3=>(hb.block b (Nat.lt_of_lt_of_le h0 h.1)).trans (h.2 b h0 h1 h2 h3)⟩
theorem Kq.far {D P g:Nat} {q w w':World} (h:Kq D P g q w) (hb:FarG D w w'):Kq D P g q w':=⟨by rw[hb.size];exact h.1,fun b h0 h1 h2 h3=>(hb.block b h1 h1).trans (h.2 b h0 h1 h2 h3)⟩
theorem Kq.hp {D P g g':Nat} {q w w':World} (h:Kq D P g q w) (hb:KH P g' w w') (hg:g'=g∨q.heap.size≤g'):Kq D P g q w':=⟨Nat.le_trans h.1 hb.size,fun b h0 h1 h2 h3=>(hb.blk b (Nat.lt_of_lt_of_le h0 h.1) h2 (by rcases hg with e | e <;> omega)).trans (h.2 b h0 h1 h2 h3)⟩
def stK (s:Int) (M k:Nat):List Int:=start0 k s ++ List.replicate (M-k) 0
theorem stK_zero (s:Int) (M:Nat):stK s M 0=List.replicate M 0:=by simp[stK,start0]
theorem stK_full (s:Int) (M:Nat):stK s M M=start0 M s:=by simp[stK]
theorem stK_len (s:Int) {M k:Nat} (h:k≤M):(stK s M k).length=M:=by simp[stK,start0];omega
theorem stK_set (s:Int) {M k:Nat} (h:k<M):(stK s M k).set k (startOf (k:Int) s)=stK s M (k+1):=by
 unfold stK start0
 rw[List.set_append_right _ _ (by simp)]
 simp only[List.length_map,List.length_range,Nat.sub_self]
 rw[show M-k=(M-(k+1))+1 by omega,List.replicate_succ,List.set_cons_zero,List.range_succ,List.map_append,List.append_assoc]
 rfl
theorem distances_any (w:World) (V:Int) (A:Option Addr) (es:List Ed) (L c:Nat) (s:Int) (hL:es.length=L) (hE:Eds w w.heap.size A es) (hc:L≤8192) (heb:∀e∈es,-9223372036854775808≤e.2.2∧e.2.2≤9223372036854775807) :
  Calls Tryz.prog 13 #[.agg #[.int .i64 V,.slice A L c],.int .i64 s] w (LPost w (distE V es s) (distL V es s)):=by
 obtain⟨v,hv⟩:∃v,w.alloc (.cells #[.int .i64 V,.slice A L c] 24)=v:=⟨_,rfl⟩
 have hz:v.heap.size=w.heap.size+1:=by rw[←hv];simp
 have hb:Below w.heap.size w v:=by rw[←hv];exact (Below.refl _ _).alloc (Nat.le_refl _) _
 have cg:v.heap[w.heap.size]?=some (.cells #[.int .i64 V,.slice A L c] 24):=by rw[←hv];exact heap_alloc_last w _
 obtain⟨c0,c1⟩:=zr2 cg
 have HEw:=hide hE
 have HE:Hid (Eds v v.heap.size A es):=hide ((hE.below hb (Nat.le_refl _)).more hb.size)
 have HV:=hide hv
 have HB:=hide hb
 have HL:=hide hL
 have HZ:=hide hz
 have HG:=hide cg
 have HEb:=hide heb
 clear hv hb hz cg hE hL heb
 go_enter Tryz.func13,Tryz.ntmps13
 go_wp2_with fail
 rw[HV.out]
 go_wp2_with fail
 refine (check_any _ V A es L c HL.out HE.out (by omega)).mono ?_
 rintro e y ⟨rfl,hy⟩
 have HBy:=hide (HB.out.trans (hy.mono HB.out.size))
 have HGy:=hide ((hy.block _ (by rw[HZ.out];omega)).trans HG.out)
 have hzy:w.heap.size+1≤y.heap.size:=by have:=hy.size;rw[HZ.out] at this;exact this
 clear hy c0 c1
 by_cases hchk:checkF V es=0
 ·obtain⟨hV1,hV2,hok⟩:=checkF_zero hchk
  obtain⟨M,rfl⟩:=Int.eq_ofNat_of_zero_le (show 0≤V by omega)
  have hM512:M≤512:=by omega
  have HW:Hid (Within es M):=hide (by have h:=within_of hchk;rwa [Int.toNat_natCast] at h)
  have HCk:=hide hchk
  rw[hchk]
  have c0:y.cell? ⟨w.heap.size,0,none⟩=some (.int .i64 (M:Int)):=cell_of_row _ _ 0 _ _ _ HGy.out
  clear hchk hok
  by_cases hs0:s<0
  ·have HDe:Hid (distE (M:Int) es s=2):=hide (by unfold distE;rw[if_pos HCk.out,if_neg (by omega)])
   have HDl:Hid (distL (M:Int) es s=[]):=hide (by unfold distL;rw[HDe.out];rfl)
   have HFin:Hid (LPost w 2 [] (.returned (.tuple #[.slice none 0 0,.int .i64 2])) y):=hide ⟨none,0,rfl,World.ownsRow_nil _ _ _ _,HBy.out⟩
   go_wp2
   refine bodyPost_ret (v:=.tuple #[.slice none 0 0,.int .i64 2]) (by simp[results,Tryz.results13,go_sem]) rfl ?_
   rw[HDe.out,HDl.out]
   exact HFin.out
  by_cases hs1:s<(M:Int)
  ·obtain⟨S0,rfl⟩:=Int.eq_ofNat_of_zero_le (show 0≤s by omega)
   have hSM:S0<M:=by omega
   have HDe:Hid (distE (M:Int) es (S0:Int)=0):=hide (by unfold distE;rw[if_pos HCk.out,if_pos ⟨by omega,by omega⟩])
   have HDl:Hid (distL (M:Int) es (S0:Int)=relaxedF (M:Int) es (S0:Int)):=hide (by unfold distL;rw[if_pos HDe.out])
   have hns:¬(M:Int)≤(S0:Int):=by omega
   have hns2:¬M≤S0:=by omega
   have hns3:decide (M≤S0)=false:=decide_eq_false hns2
   have hns4:decide ((S0:Int)<0)=false:=decide_eq_false hs0
   have hmk:=mkL_run y M (by omega)
   obtain⟨x,hx⟩:∃x,y.alloc (.cells (intsV (List.replicate M 0)).toArray 2)=x:=⟨_,rfl⟩
   rw[hx] at hmk
   have HBy2:=(show Below y.heap.size y x by rw[←hx];exact (Below.refl _ _).alloc (Nat.le_refl _) _)
   have HX0:=hide (show RowI x y.heap.size 2 (stK (S0:Int) M 0) by rw[←hx,stK_zero];exact heap_alloc_last _ _)
   have HBx:=hide (show Below w.heap.size w x by rw[←hx];exact HBy.out.alloc (by omega) _)
   have HGx:=hide ((HBy2.block _ (by omega)).trans HGy.out)
   have hxs:y.heap.size<x.heap.size:=by rw[←hx];simp
   have HXe:=hide hx
   clear hx HBy2
   go_upto_region 7 with fail
   obtain⟨D,hD⟩:∃D,y.heap.size=D:=⟨_,rfl⟩
   rw[hD] at HX0 hzy hmk hxs ⊢
   have hwD:w.heap.size<D:=by omega
   clear hmk c0 HXe hD HGy HBy HG HZ HB HV HE
   go_wp2
   go_loopw [32] (fun v32 wr=>∃k:Nat,k≤M∧v32 = .int .i64 (k:Int)∧Hid (RowI wr D 2 (stK (S0:Int) M k))∧Hid (FarG D x wr)) (fun v32 _=>M-(intOf v32).toNat)
   case atStart=>exact⟨0,by omega,rfl,HX0,hide (FarS.refl _ _ _)⟩
   case round=>
    clear HX0
    obtain⟨k,hk,rfl,HRow,HF⟩:=hrel
    by_cases hlt:k<M
    ·have hI0:(0:Int)≤(k:Int):=by omega
     have hI1:(k:Int)<(M:Int):=by omega
     have gk:=HRow.out.cell (i:=k) (by rw[stK_len _ hk];exact hlt)
     have gf:=HRow.out.frozen k
     have hs:=HRow.out.set k (startOf (k:Int) (S0:Int))
     rw[stK_set _ hlt] at hs
     have HS:=hide hs
     have HF2:=hide (HF.out.set (p:=⟨D,k,none⟩) (.inl rfl) (.int .i64 (startOf (k:Int) (S0:Int))))
     clear hs HRow HF
     go_wp2_with fail
     refine (start_any _ (k:Int) (S0:Int)).mono ?_
     rintro e y1 ⟨rfl,rfl⟩
     go_wp2
     go_roundw
     case rel=>first | exact⟨k+1,by omega,by go_num,HS,HF2⟩ | ((repeat apply Exists.intro);exact⟨⟨k+1,by omega,by go_num,HS,HF2⟩,rfl⟩)
     case measure=>simp[intOf];omega
    obtain rfl:M=k:=by omega
    rw[stK_full] at HRow
    obtain⟨z,rfl⟩:∃q:World,q=wr:=⟨_,rfl⟩
    have HBz:=hide (HBx.out.trans (HF.out.below (B:=w.heap.size) (by omega) (by omega)))
    have HGz:=hide ((HF.out.block _ (by omega) (by omega)).trans HGx.out)
    have hDz:D<z.heap.size:=HRow.out.lt
    obtain⟨u0,hu0⟩:∃q,z.alloc (.cells #[.int .i64 (S0:Int),.int .i64 0] 70)=q:=⟨_,rfl⟩
    obtain⟨u1,hu1⟩:∃q,u0.alloc (.cells #[.slice (some ⟨z.heap.size,0,none⟩) 1 1] 72)=q:=⟨_,rfl⟩
    have hz0:u0.heap.size=z.heap.size+1:=by rw[←hu0];simp
    have hb0:Below z.heap.size z u0:=by rw[←hu0];exact (Below.refl _ _).alloc (Nat.le_refl _) _
    have hb1:Below u0.heap.size u0 u1:=by rw[←hu1];exact (Below.refl _ _).alloc (Nat.le_refl _) _
    have hr0:u0.heap[z.heap.size]?=some (.cells #[.int .i64 (S0:Int),.int .i64 0] 70):=by rw[←hu0];exact heap_alloc_last _ _
    have hr1:u1.heap[u0.heap.size]?=some (.cells #[.slice (some ⟨z.heap.size,0,none⟩) 1 1] 72):=by rw[←hu1];exact heap_alloc_last _ _
    have hHp:HpM (z.heap.size+1) z.heap.size 1 1 [((S0:Int),(0:Int))] u1:=⟨rfl,⟨rfl,.inr ⟨z.heap.size,1,_,rfl,Nat.zero_le _,(hb1.block _ (by omega)).trans hr0,Nat.le_refl _,by unfold maxLen;omega,rfl,rfl⟩⟩,by rw[←hz0];exact hr1⟩
    have hb2:Below z.heap.size z u1:=hb0.trans (hb1.mono (by omega))
    have HS0:Hid (DSt es M (S0:Int) z D (z.heap.size+1) u1 z.heap.size 1 1 (start0 M (S0:Int)) [((S0:Int),(0:Int))] (fun _=>false) [] 0):=hide ⟨HRow.out.below hb2 hDz,hHp,DI.start HW.out (by omega) (by omega),(KH.refl D D z).below hb2 (Nat.le_refl _),Nat.le_refl _,by omega⟩
    have HU:=hide (And.intro hu0 hu1)
    clear hu0 hu1 hb0 hb1 hr0 hr1 hHp hb2 hz0 HRow HF
    go_upto_region 13 with fail
    rw[HU.out.1,HU.out.2]
    obtain⟨P,hP⟩:∃P,z.heap.size+1=P:=⟨_,rfl⟩
    rw[hP] at HS0 ⊢
    have hPz:z.heap.size≤P:=by omega
    have HGC:=hide (show ∀wr,KH D D z wr→wr.heap[w.heap.size]?=some (.cells #[.int .i64 (M:Int),.slice A L c] 24) from fun wr h=>(h.blk _ (by omega) (by omega) (by omega)).trans HGz.out)
    have HBK:=hide (show ∀wr,KH D D z wr→Below w.heap.size w wr from fun wr h=>HBz.out.trans (h.toBelow (by omega) (by omega) (by omega)))
    clear hP HU HGz HBz HBx HGx hxs
    go_loopw [] (fun wr=>∃(g n c:Nat) (l:List Int) (h:List Sp) (S:Nat→Bool) (m:Int),Hid (DSt es M (S0:Int) z D P wr g n c l h S [] m)) (fun wr=>mW D P wr)
    case atStart=>exact⟨_,_,_,_,_,_,_,HS0⟩
    case round=>
     clear HS0
     obtain⟨g,n,c5,l,h,S,m,HS⟩:=hrel
     have p0:=HS.out.hp.pc
     go_wp2_with fail
     refine (hlen_any wr (some ⟨g,0,none⟩) n c5).mono ?_
     rintro e q ⟨rfl,rfl⟩
     clear p0
     rcases n with _ | n
     ·have hh:h=[]:=List.eq_nil_of_length_eq_zero HS.out.hp.len
      subst hh
      have hfl:l=relaxedF (M:Int) es (S0:Int):=HS.out.di.finish HCk.out (by omega) (by omega) rfl
      have hll:l.length=M:=HS.out.di.good.len
      have HFin:Hid (LPost w 0 l (.returned (.tuple #[.slice (some ⟨D,0,none⟩) M M,.int .i64 0])) q):=hide ⟨some ⟨D,0,none⟩,M,by rw[hll],by rw[hll];exact HS.out.row.own (by omega) hll (by unfold maxLen;omega),HBK.out q HS.out.kh⟩
      rw[hfl] at HFin
      clear hfl hll HS
      go_wp2
      refine bodyPost_ret (v:=.tuple #[.slice (some ⟨D,0,none⟩) M M,.int .i64 0]) (by simp[results,Tryz.results13,go_sem]) rfl ?_
      rw[HDe.out,HDl.out]
      exact HFin.out
     have hn2:n≤9000:=by have h1:=HS.out.di.cnt;have h2:=HS.out.hp.len;have h3:=HL.out;omega
     have hposI:(0:Int)<((n+1:Nat):Int):=by omega
     have HPop:=hide (heapPop_any q P g n c5 h HS.out.hp (by omega) HS.out.di.heap)
     obtain⟨N,hN⟩:∃N,n+1=N:=⟨_,rfl⟩
     rw[hN] at HS ⊢
     have hposI:(0:Int)<(N:Int):=by omega
     have HNn:=hide hN
     clear hN
     go_wp2_with fail
     refine HPop.out.mono ?_
     rintro e y1 ⟨x,h1,hx0,rfl,hm1,hp1,hh1,hk1⟩
     have hta:=spot_as y1 x
     have HX0:=hide hx0
     have HP1:=hide hp1
     have HH1:=hide hh1
     have HM1:=hide hm1
     have hxm:x∈h:=List.mem_of_getElem? hx0
     obtain⟨v,hxv,hvM,hle,hinf,-⟩:=HS.out.di.spot x hxm
     have hgz:=HS.out.gz
     have HR1:=hide (HS.out.row.block (hk1.blk D HS.out.row.lt (by omega) (by omega)))
     have HK1:=hide (HS.out.kh.outer hk1 hPz hgz)
     have HMW:=hide (mW_eq HS.out.row HS.out.hp)
     have HDI:=hide HS.out.di
     have hD1:D<y1.heap.size:=HR1.out.lt
     have hgy:g<y1.heap.size:=HM1.out.glt
     have hPy:P<y1.heap.size:=HM1.out.plt
     obtain⟨xv,xd⟩:=x
     dsimp only at hxv hle hinf hta
     subst hxv
     obtain⟨u,hu⟩:∃u,y1.alloc (.cells #[.int .i64 (v:Int),.int .i64 xd] 70)=u:=⟨_,rfl⟩
     have hbu:Below y1.heap.size y1 u:=by rw[←hu];exact (Below.refl _ _).alloc (Nat.le_refl _) _
     have hul:u.heap[y1.heap.size]?=some (.cells #[.int .i64 (v:Int),.int .i64 xd] 70):=by rw[←hu];exact heap_alloc_last _ _
     have HUe:=hide hu
     clear hu hx0 hp1 hh1 hm1 hk1 HPop HS hxm
     go_upto_region 15 with fail
     rw[HUe.out]
     obtain⟨X,hX⟩:∃X,y1.heap.size=X:=⟨_,rfl⟩
     rw[hX] at hbu hul hD1 hgy hPy ⊢
     have HRu:=hide (HR1.out.below hbu hD1)
     have HMu:=hide (HM1.out.keep (hbu.block g hgy) (hbu.block P hPy))
     have HKu:=hide (HK1.out.below (w':=u) (B:=X) hbu (by rw[←hX];exact HK1.out.size))
     have HXl:=hide hul
     have hXu:X<u.heap.size:=lt_of_block hul
     have hDu:D<u.heap.size:=by omega
     obtain⟨x0,x1⟩:=zr2 hul
     have lv:=HRu.out.cell (i:=v) (by rw[HDI.out.good.len];exact hvM)
     have hv0:(0:Int)≤(v:Int):=by omega
     have hv1:(v:Int)<(M:Int):=by omega
     obtain⟨lx,hlx⟩:∃q,at_ l (v:Int)=q:=⟨_,rfl⟩
     rw[hlx] at lv hle
     have HLx:=hide hlx
     clear hlx hul hbu hX HUe HR1 HM1 HK1 hta
     refine wp_region_held_drew (S:=Kept u) (by kernel_rfl) (Kept.drew u) (fun hS0=>?_)
     refine tka 0 55 ?_
     refine tka 1 56 ?_
     refine tka 2 57 ?_
     refine tka 3 58 ?_
     refine tka 4 59 ?_
     refine tka 5 60 ?_
     refine tka 6 61 ?_
     refine tka 7 62 ?_
     refine wpAnyH_done (by kernel_rfl) ?_ _
     clear hS0 lv
     by_cases hgt:lx<xd
     ·have HS2:Hid (DSt es M (S0:Int) z D P u.drew g n c5 l h1 S [] m):=hide ⟨HRu.out,HMu.out.drew,HDI.out.skip HP1.out HH1.out (by show at_ l (v:Int)<xd;rw[HLx.out];exact hgt),HKu.out.drew,hgz,hPz⟩
      have hmw2:mW D P u.drew<mW D P q:=by rw[HMW.out,mW_eq HS2.out.row HS2.out.hp];have:=HNn.out;omega
      clear HRu HMu HDI HKu HXl HP1 HH1 HX0 x0 x1 hle
      go_wp2
      go_roundw
      case rel=>exact⟨_,_,_,_,_,_,_,HS2⟩
      case measure=>exact hmw2
     have hst:=HDI.out.settle HW.out HX0.out HP1.out HH1.out rfl (by show ¬at_ l (v:Int)<xd;rw[HLx.out];exact hgt)
     obtain⟨-,heq,hSv,hdi2⟩:=hst
     have heq2:at_ l (v:Int)=xd:=heq
     obtain⟨S2,hS2⟩:∃f:Nat→Bool,(fun u=>if u=v then true else S u)=f:=⟨_,rfl⟩
     have hS2v:S2 v=true:=by rw[←hS2];simp
     rw[hS2] at hdi2
     obtain⟨outs,hou⟩:∃o,es.filter (fun e=>e.1 == (v:Int))=o:=⟨_,rfl⟩
     have hmemo:∀e∈outs,e∈es∧e.1=(v:Int):=fun e he=>by rw[←hou] at he;have h9:=List.mem_filter.1 he;exact⟨h9.1,by simpa using h9.2⟩
     rw[hou] at hdi2
     have hfr:fromF es (v:Int)=outs:=hou
     obtain⟨Lo,hLo⟩:∃q,outs.length=q:=⟨_,rfl⟩
     have hLo8:Lo≤8192:=by rw[←hLo,←hou];have:=List.length_filter_le (fun e:Ed=>e.1 == (v:Int)) es;have:=HL.out;omega
     have HDI2:=hide hdi2
     have HEq:=hide heq2
     have HMo:=hide hmemo
     have HS2v:=hide hS2v
     have HLo:=hide hLo
     obtain⟨m0,hm0⟩:∃m,mW D P q=m:=⟨_,rfl⟩
     have HM0:Hid (2*sumV l+n+1=m0):=hide (by rw[←hm0,HMW.out];have:=HNn.out;omega)
     have HM0e:=hide hm0
     clear hS2 hS2v hSv heq heq2 hdi2 hmemo hou hm0
     obtain⟨ud,hud⟩:∃q,u.drew=q:=⟨_,rfl⟩
     have hus:ud.heap.size=u.heap.size:=by rw[←hud];rfl
     have HRd:Hid (RowI ud D 2 l):=hide (by rw[←hud];exact HRu.out)
     have HMd:Hid (HpM P g n c5 h1 ud):=hide (by rw[←hud];exact HMu.out.drew)
     have HKd:Hid (KH D D z ud):=hide (by rw[←hud];exact HKu.out.drew)
     have HXd:Hid (ud.heap[X]?=some (.cells #[.int .i64 (v:Int),.int .i64 xd] 70)):=hide (by rw[←hud];exact HXl.out)
     rw[hud]
     have hXu:X<ud.heap.size:=by omega
     have hg0:=HGC.out ud HKd.out
     obtain⟨b0,b1⟩:=zr2 hg0
     have x0:ud.cell? ⟨X,0,none⟩=some (.int .i64 (v:Int)):=cell_of_row _ _ 0 _ _ _ HXd.out
     have hgo:=gout_any ud (M:Int) A es L c (v:Int) HL.out ((Eds.below HEw.out (HBK.out ud HKd.out) (Nat.le_refl _)).more (HBK.out ud HKd.out).size) hc
     rw[hfr] at hgo
     have HGo:=hide hgo
     clear hud hus HRu HMu HKu HXl hg0 hgo hfr HDI HP1 HH1 HX0 hLo HMW x1
     go_wp2_with fail
     refine HGo.out.mono ?_
     rintro e q1 ⟨A',c',rfl,ho,hbq⟩
     rw[HLo.out] at ho ⊢
     have hXq:X<q1.heap.size:=by have:=hbq.size;omega
     have hudq:ud.heap.size≤q1.heap.size:=hbq.size
     have HSq:Hid (DSt es M (S0:Int) z D P q1 g n c5 l h1 S2 (outs.drop 0) xd):=hide ⟨HRd.out.below hbq HRd.out.lt,HMd.out.below hbq,HDI2.out,HKd.out.below hbq HKd.out.size,hgz,hPz⟩
     have HXq:=hide ((hbq.block X hXu).trans HXd.out)
     have HOq:=hide ho
     have HKq:Hid (Kq D P g q1 q1):=hide ⟨Nat.le_refl _,fun _ _ _ _ _=>rfl⟩
     have HMq:Hid (2*sumV l+n+1≤m0):=hide (by rw[HM0.out];exact Nat.le_refl _)
     have HGq:Hid (g=g∨q1.heap.size≤g):=hide (.inl rfl)
     clear ho hbq b0 b1 x0 HRd HMd HKd HXd HGo HDI2 HM0 hle
     go_wp2
     go_loopw [68] (fun v68 wr=>∃(k g2 n2 c2:Nat) (l2:List Int) (h2:List Sp),k≤Lo∧v68 = .int .i64 (k:Int)∧Hid (DSt es M (S0:Int) z D P wr g2 n2 c2 l2 h2 S2 (outs.drop k) xd)∧Hid (at_ l2 (v:Int)=xd)∧Hid (Kq D P g q1 wr)∧Hid (g2=g∨q1.heap.size≤g2)∧Hid (2*sumV l2+n2+1≤m0)) (fun v68 _=>Lo-(intOf v68).toNat)
     case atStart=>exact⟨0,g,n,c5,l,h1,by omega,rfl,HSq,HEq,HKq,hide (.inl rfl),HMq⟩
     case round=>
      clear HSq HEq HKq HMq HGq HLx hgt
      obtain⟨k,g2,n2,c2,l2,h2,hk,rfl,HS,HEq,HKq,HGq,HMq⟩:=hrel
      by_cases hlt:k<Lo
      ·obtain⟨e,he⟩:∃e,outs[k]?=some e:=⟨_,List.getElem?_eq_getElem (by rw[HLo.out];exact hlt)⟩
       obtain⟨heS,hev⟩:=HMo.out e (List.mem_of_getElem? he)
       have hfit:=HW.out e heS
       have hwb:=HEb.out e heS
       obtain⟨go,rfl,hgo1,hgo2,hgo3⟩:=own_addr HOq.out (by omega)
       have hcc:∀j u5,([.int .i64 e.1,.int .i64 e.2.1,.int .i64 e.2.2]:List Value)[j]?=some u5→wr.cell? ⟨go,k*3+j,none⟩=some u5:=fun j u5 hj=>by
        have hj3:j<3:=by
         have h9:=(List.getElem?_eq_some_iff.1 hj).1
         simpa using h9
        rw[World.cell?_of_block (HKq.out.2 go hgo2 (by omega) (by omega) (by omega))]
        exact (HOq.out.cellAt (k*3+j) (by omega)).trans (edFlat_get he j u5 hj)
       have hdr:outs.drop k=e :: outs.drop (k+1):=by
        have h9:=List.drop_eq_getElem_cons (l:=outs) (i:=k) (by rw[HLo.out];exact hlt)
        rw[h9]
        congr 1
        rw[List.getElem?_eq_getElem (by rw[HLo.out];exact hlt)] at he
        injection he
       obtain⟨e1,e2,e3⟩:=e
       have hev2:e1=(v:Int):=hev
       subst hev2
       dsimp only at hfit hwb hcc
       obtain⟨b,rfl⟩:=Int.eq_ofNat_of_zero_le hfit.2.2.1
       have hbM:b<M:=by omega
       have d0:=hcc 0 _ rfl
       have d1:=hcc 1 _ rfl
       have d2:=hcc 2 _ rfl
       rw[Nat.add_zero] at d0
       have HDr:=hide hdr
       have HeS:=hide heS
       have hk0:(0:Int)≤(k:Int):=by omega
       have hk1:(k:Int)<(Lo:Int):=by omega
       have hx64:-9223372036854775808≤xd∧xd≤9223372036854775807:=by have h9:=HS.out.di.good.rng v hvM;rw[HEq.out] at h9;unfold inf at h9;omega
       clear hcc hdr heS hfit he hev
       obtain⟨t,ht⟩:∃q,wr.alloc (.cells #[.int .i64 (v:Int),.int .i64 (b:Int),.int .i64 e3] 46)=q:=⟨_,rfl⟩
       have htl:t.heap[wr.heap.size]?=some (.cells #[.int .i64 (v:Int),.int .i64 (b:Int),.int .i64 e3] 46):=by rw[←ht];exact heap_alloc_last _ _
       have hbt:Below wr.heap.size wr t:=by rw[←ht];exact (Below.refl _ _).alloc (Nat.le_refl _) _
       have HTe:=hide ht
       clear ht
       go_upto_region 19 with fail
       rw[HTe.out]
       obtain⟨T,hT⟩:∃T,wr.heap.size=T:=⟨_,rfl⟩
       have HSt:=hide (HS.out.below hbt)
       have HKt:=hide (HKq.out.below hbt)
       rw[hT] at htl ⊢
       have hqT:q1.heap.size≤T:=by rw[←hT];exact HKq.out.1
       have hTt:T<t.heap.size:=lt_of_block htl
       obtain⟨t0,t1,t2⟩:=zr3 htl
       have x1:t.cell? ⟨X,1,none⟩=some (.int .i64 xd):=cell_of_row _ _ 1 _ _ _ ((HKt.out.2 X hXq (by omega) (by omega) (by omega)).trans HXq.out)
       have HTl:=hide htl
       have hg2T:g2≠T:=by rw[←hT];have:=HS.out.hp.glt;omega
       clear hbt HTe d0 d1 d2 HS HKq htl hT
       go_wp2_with fail
       refine (give_any _ xd (v:Int) (b:Int) e3 hx64.1 hx64.2 hwb.1 hwb.2).mono ?_
       rintro e y2 ⟨rfl,hy2⟩
       have HSy:=hide (HSt.out.below hy2)
       have HKy:=hide (HKt.out.below hy2)
       have HTy:=hide ((hy2.block T hTt).trans HTl.out)
       have hTy:T<y2.heap.size:=by have:=hy2.size;omega
       obtain⟨d,hd⟩:∃d,dadd xd e3=d:=⟨_,rfl⟩
       rw[hd]
       have HDd:=hide hd
       have ly:=HSy.out.row.cell (i:=b) (by rw[HSy.out.di.good.len];exact hbM)
       have lf:=HSy.out.row.frozen b
       have t1:y2.cell? ⟨T,1,none⟩=some (.int .i64 (b:Int)):=cell_of_row _ _ 1 _ _ _ HTy.out
       have hbI0:(0:Int)≤(b:Int):=by omega
       have hbI1:(b:Int)<(M:Int):=by omega
       obtain⟨lb,hlb⟩:∃q,at_ l2 (b:Int)=q:=⟨_,rfl⟩
       rw[hlb] at ly
       have HLb:=hide hlb
       clear hlb hd hy2 HSt HKt HTl t0 t2 x1
       have e9:at_ l2 (((v:Int),(b:Int),e3):Ed).1=xd:=HEq.out
       have HE9:=hide e9
       clear e9
       by_cases hdl:d<lb
       ·obtain⟨f,hf⟩:∃f,y2.setCell ⟨D,b,none⟩ (.int .i64 d)=f:=⟨_,rfl⟩
        have hff:FarG D y2 f:=by rw[←hf];exact (FarS.refl D D y2).set (p:=⟨D,b,none⟩) (.inl rfl) _
        have hrw:RowI f D 2 (l2.set b d):=by rw[←hf];exact HSy.out.row.set b d
        have hgD:g2≠D:=by have:=HSy.out.gz;omega
        have hPD:P≠D:=by omega
        have hhp:=HSy.out.hp.keep (hff.block g2 hgD hgD) (hff.block P hPD hPD)
        have hkf:KH D D z f:=HSy.out.kh.trans (by rw[←hf];exact (KH.refl D D y2).setCell (p:=⟨D,b,none⟩) (.inl rfl) _)
        have hTD:T≠D:=by omega
        have f1:f.cell? ⟨T,1,none⟩=some (.int .i64 (b:Int)):=cell_of_row _ _ 1 _ _ _ ((hff.block T hTD hTD).trans HTy.out)
        have hn2:n2≤9000:=by have h1:=HSy.out.di.cnt;have h2:=HSy.out.hp.len;have h3:=HL.out;omega
        have HPu:=hide (heapPush_any f P g2 n2 c2 h2 ((b:Int),d) hhp (by omega) HSy.out.di.heap)
        have HRf:=hide hrw
        have HKf:=hide hkf
        have HKqf:=hide (HKy.out.far hff)
        have HFe:=hide hf
        have hsumv:=sum_set (l:=l2) (t:=b) (d:=d) (by rw[HSy.out.di.good.len];exact hbM) (by rw[←HDd.out];exact (dadd_rng _ _).1) (by rw[HLb.out];exact hdl)
        have hfs:f.heap.size=y2.heap.size:=hff.size
        have HSu:=hide hsumv
        have HFs:=hide hfs
        clear hf hff hrw hhp hkf hsumv hfs
        go_upto_region 22 with fail
        rw[HFe.out]
        clear t1 ly lf HFe
        go_wp2_with fail
        refine HPu.out.mono ?_
        rintro e y3 ⟨rfl,g3,c3,h3,hm3,hp3,hh3,hk3,hg3⟩
        have hDn:=DI.near (s:=(S0:Int)) (l:=l2) (h:=h2) (h':=h3) (t:=b) (d:=d) (e:=((v:Int),(b:Int),e3)) (rest:=outs.drop (k+1)) HW.out (by omega) (by omega) (by have h9:=HSy.out.di;rw[HDr.out] at h9;exact h9) HeS.out HE9.out rfl HDd.out (by rw[HLb.out];exact hdl) hp3 hh3
        have hgz2:=HSy.out.gz
        have HS3:Hid (DSt es M (S0:Int) z D P y3 g3 (n2+1) c3 (l2.set b d) h3 S2 (outs.drop (k+1)) xd):=hide ⟨HRf.out.block (hk3.blk D HRf.out.lt (by omega) (by omega)),hm3,hDn.1,HKf.out.outer hk3 hPz hgz2,by have:=HKf.out.size;rcases hg3 with h9 | h9 <;> omega,hPz⟩
        have HE3:Hid (at_ (l2.set b d) (v:Int)=xd):=hide (by rw[hDn.2 v hvM HS2v.out];exact HEq.out)
        have HK3:=hide (HKqf.out.hp hk3 HGq.out)
        have HG3:Hid (g3=g∨q1.heap.size≤g3):=hide (by have:=HFs.out;rcases hg3 with h9 | h9 <;> rcases HGq.out with h8 | h8 <;> omega)
        have HM3:Hid (2*sumV (l2.set b d)+(n2+1)+1≤m0):=hide (by have:=HSu.out;have:=HMq.out;omega)
        clear hm3 hp3 hh3 hk3 hg3 hDn HPu HSy HKy HRf HKf HKqf f1 HTy
        go_wp2
        go_roundw
        case rel=>exact⟨k+1,g3,n2+1,c3,l2.set b d,h3,by omega,by go_num,HS3,HE3,HK3,HG3,HM3⟩
        case measure=>simp[intOf];omega
       have HS3:Hid (DSt es M (S0:Int) z D P y2 g2 n2 c2 l2 h2 S2 (outs.drop (k+1)) xd):=hide ⟨HSy.out.row,HSy.out.hp,DI.pass (e:=((v:Int),(b:Int),e3)) (by have h9:=HSy.out.di;rw[HDr.out] at h9;exact h9) (by show ¬dadd (at_ l2 (v:Int)) e3<at_ l2 (b:Int);rw[HEq.out,HDd.out,HLb.out];exact hdl),HSy.out.kh,HSy.out.gz,HSy.out.pz⟩
       have hdl2:lb≤d:=by omega
       clear HSy HTy
       go_wp2
       go_roundw
       case rel=>exact⟨k+1,g2,n2,c2,l2,h2,by omega,by go_num,HS3,HEq,HKy,HGq,HMq⟩
       case measure=>simp[intOf];omega
      obtain rfl:Lo=k:=by omega
      have hdn:outs.drop Lo=[]:=List.drop_eq_nil_of_le (by rw[HLo.out];exact Nat.le_refl _)
      have HS3:Hid (DSt es M (S0:Int) z D P wr g2 n2 c2 l2 h2 S2 [] xd):=hide (by have h9:=HS.out;rw[hdn] at h9;exact h9)
      have hmw2:mW D P wr<mW D P q:=by rw[HM0e.out,mW_eq HS3.out.row HS3.out.hp];have:=HMq.out;omega
      clear HS HEq HKq HGq HMq hdn
      go_wp2
      go_roundw
      case rel=>exact⟨_,_,_,_,_,_,_,HS3⟩
      case measure=>exact hmw2
  have hs2:(M:Int)≤s:=by omega
  have HDe:Hid (distE (M:Int) es s=2):=hide (by unfold distE;rw[if_pos HCk.out,if_neg (by omega)])
  have HDl:Hid (distL (M:Int) es s=[]):=hide (by unfold distL;rw[HDe.out];rfl)
  have HFin:Hid (LPost w 2 [] (.returned (.tuple #[.slice none 0 0,.int .i64 2])) y):=hide ⟨none,0,rfl,World.ownsRow_nil _ _ _ _,HBy.out⟩
  go_wp2
  refine bodyPost_ret (v:=.tuple #[.slice none 0 0,.int .i64 2]) (by simp[results,Tryz.results13,go_sem]) rfl ?_
  rw[HDe.out,HDl.out]
  exact HFin.out
 have hne:¬checkF V es=0:=hchk
 have HDe:Hid (distE V es s=checkF V es):=hide (by unfold distE;rw[if_neg hchk])
 have HDl:Hid (distL V es s=[]):=hide (by unfold distL;rw[HDe.out,if_neg hchk])
 have HFin:Hid (LPost w (checkF V es) [] (.returned (.tuple #[.slice none 0 0,.int .i64 (checkF V es)])) y):=hide ⟨none,0,rfl,World.ownsRow_nil _ _ _ _,HBy.out⟩
 clear hchk
 obtain⟨k,hk⟩:∃k,checkF V es=k:=⟨_,rfl⟩
 rw[hk] at hne HFin ⊢
 have HK:=hide hk
 clear hk
 go_wp2
 refine bodyPost_ret (v:=.tuple #[.slice none 0 0,.int .i64 k]) (by simp[results,Tryz.results13,go_sem]) rfl ?_
 rw[HDl.out,HDe.out,HK.out]
 exact HFin.out
end Go.Proofs.YtgbahnlgblahpaaGreat
