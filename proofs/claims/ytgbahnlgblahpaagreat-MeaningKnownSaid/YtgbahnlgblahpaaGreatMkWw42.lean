/- Lemmas: Mlc. -/
import Derived.Deep.DeepCutAuto
import Derived.Deep.CutBlock
import Derived.Test.YtgbahnlgblahpaaGreatMkWw32
import Derived.Test.YtgbahnlgblahpaaGreatMkWw40
set_option linter.unusedVariables false
set_option linter.unusedSimpArgs false
set_option maxRecDepth 100000
set_option maxHeartbeats 16000000
namespace Go.Proofs.YtgbahnlgblahpaaGreat
open Go.RowKit
theorem own_far {w w':World} {base D:Nat} {e:TypeId} {size n:Nat} {v:Value} {xs:List Value} (h:w.ownsRow base e size v n xs) (hf:FarG D w w') (hD:D<base):w'.ownsRow base e size v n xs:=by
 refine⟨h.1,?_⟩
 rcases h.2 with h0 | ⟨g,cap,cur,hv,hg,hc,hr⟩
 ·exact .inl h0
 exact .inr ⟨g,cap,cur,hv,hg,(hf.block g (by omega) (by omega)).trans hc,hr⟩
structure LSt (es:List Ed) (M v:Nat) (l0:List Int) (c0 D:Nat) (z wc:World) (i k:Nat) (A:Option Addr) (c n:Nat) (todo:List Nat) (l:List Int):Prop where
 row:RowI wc D 2 l
 own:wc.ownsRow (D+1) 3 1 (.slice A n c) n ((natI todo).map (Value.int .i64))
 doc:DocI es M v l0 l todo
 cnt:negs l+n=c0
 prog:Prog es todo i k
 bel:Below D z wc
 lt:i≤n
 mem:v∈todo
theorem LSt.len {es:List Ed} {M v:Nat} {l0:List Int} {c0 D:Nat} {z wc:World} {i k:Nat} {A:Option Addr} {c n:Nat} {todo:List Nat} {l:List Int} (h:LSt es M v l0 c0 D z wc i k A c n todo l):todo.length=n:=by
 have:=h.own.1
 simpa [natI] using this
theorem LSt.pushed {es:List Ed} {M v:Nat} {l0:List Int} {c0 D:Nat} {z x x1 x2:World} {i k:Nat} {A A9:Option Addr} {c c9 n b:Nat} {todo:List Nat} {l:List Int} {o:Obj} (h:LSt es M v l0 c0 D z x i k A c n todo l)
  (hp:DocI es M v l0 (l.set b (v:Int)) (todo ++ [b])) (hb:b<M) (hn:at_ l (b:Int)<0) (hf:FarG D x x1) (hr:RowI x1 D 2 (l.set b (v:Int))) (ho:x1.ownsRow (D+1) 3 1 (.slice A n c) n ((natI todo).map (Value.int .i64)))
  (hown:x2.ownsRow (D+1) 3 1 (.slice A9 (n+1) c9) (n+1) ((natI todo).map (Value.int .i64) ++ [.int .i64 (b:Int)])) (hg:(x1.alloc o).grownBy x2 (Value.slice A n c).ownBlock) (hi:i<n):LSt es M v l0 c0 D z x2 i k A9 c9 (n+1) (todo ++ [b]) (l.set b (v:Int)):=by
 have hD:D<x1.heap.size:=hr.lt
 have hb2:Below (D+1) x1 x2:=app_below ((Below.refl (D+1) x1).alloc (by omega) _) (ho.alloc _) hg (by simp;omega) (Nat.le_refl _)
 have hl:=h.len
 refine⟨hr.below hb2 (by omega),?_,hp,?_,h.prog.more (by omega) b,(h.bel.trans (hf.below (Nat.le_refl _) (Nat.le_refl _))).trans (hb2.mono (by omega)),by omega,List.mem_append_left _ h.mem⟩
 ·have e:(natI (todo ++ [b])).map (Value.int .i64)=(natI todo).map (Value.int .i64) ++ [.int .i64 (b:Int)]:=by simp[natI]
  rw[e];exact hown
 have:=negs_set (v:=(v:Int)) (by rw[h.doc.len];exact hb) hn (by omega)
 have:=h.cnt
 omega
theorem LSt.next {es:List Ed} {M v:Nat} {l0:List Int} {c0 D:Nat} {z x:World} {i k:Nat} {A:Option Addr} {c n y:Nat} {todo:List Nat} {l:List Int} {e:Ed} (h:LSt es M v l0 c0 D z x i k A c n todo l)
  (he:es[k]?=some e) (hy:todo[i]?=some y) (hd:Done todo y e):LSt es M v l0 c0 D z x i (k+1) A c n todo l:=
 ⟨h.row,h.own,h.doc,h.cnt,h.prog.step he hy hd,h.bel,h.lt,h.mem⟩
theorem LSt.round {es:List Ed} {M v:Nat} {l0:List Int} {c0 D:Nat} {z x:World} {i k:Nat} {A:Option Addr} {c n:Nat} {todo:List Nat} {l:List Int} (h:LSt es M v l0 c0 D z x i k A c n todo l)
  (hk:k=es.length) (hi:i<n):LSt es M v l0 c0 D z x (i+1) 0 A c n todo l:=
 ⟨h.row,h.own,h.doc,h.cnt,Prog.next (by rw[←hk];exact h.prog),h.bel,hi,h.mem⟩
def mOne (M k:Nat):List Int:=List.replicate k (-1) ++ List.replicate (M-k) 0
theorem mOne_zero (M:Nat):mOne M 0=List.replicate M 0:=by simp[mOne]
theorem mOne_full (M:Nat):mOne M M=List.replicate M (-1):=by simp[mOne]
theorem mOne_len {M k:Nat} (h:k≤M):(mOne M k).length=M:=by simp[mOne];omega
theorem mOne_set {M k:Nat} (h:k<M):(mOne M k).set k (-1)=mOne M (k+1):=by
 unfold mOne
 rw[List.set_append_right _ _ (by simp)]
 simp only[List.length_replicate,Nat.sub_self]
 rw[show M-k=(M-(k+1))+1 by omega,List.replicate_succ,List.set_cons_zero,List.replicate_succ' (n:=k),List.append_assoc]
 rfl
theorem rlabels_any (w:World) (V:Int) (A:Option Addr) (es:List Ed) (L c:Nat) (hL:es.length=L) (hE:Eds w w.heap.size A es) (hc:L≤8192) :
  Calls Tryz.prog 16 #[.agg #[.int .i64 V,.slice A L c]] w (LPost w (checkF V es) (labL V es)):=by
 obtain⟨i0,hi0,hz0,hz1,hz2⟩:=info_parts (show (Tryz.prog.info? 3).map (fun i=>(i.zero,i.size,i.bytes))=some (some (.int .i64 0),1,8) by kernel_rfl)
 obtain⟨v,hv⟩:∃v,w.alloc (.cells #[.int .i64 V,.slice A L c] 24)=v:=⟨_,rfl⟩
 have hz:v.heap.size=w.heap.size+1:=by rw[←hv];simp
 have hb:Below w.heap.size w v:=by rw[←hv];exact (Below.refl _ _).alloc (Nat.le_refl _) _
 have cg:v.heap[w.heap.size]?=some (.cells #[.int .i64 V,.slice A L c] 24):=by rw[←hv];exact heap_alloc_last w _
 obtain⟨c0,c1⟩:=zr2 cg
 have HEw:=hide hE
 have HE:Hid (Eds v v.heap.size A es):=hide ((hE.below hb (Nat.le_refl _)).more hb.size)
 have HV:=hide hv
 have HB:=hide hb
 have HL:=hide hL
 have HZ:=hide hz
 have HG:=hide cg
 clear hv hb hz cg hE hL
 go_enter Tryz.func16,Tryz.ntmps16
 go_wp2_with fail
 rw[HV.out]
 go_wp2_with fail
 refine (rcheck_any _ V A es L c HL.out HE.out (by omega)).mono ?_
 rintro e y ⟨rfl,hy⟩
 have HBy:=hide (HB.out.trans (hy.mono HB.out.size))
 have HGy:=hide ((hy.block _ (by rw[HZ.out];omega)).trans HG.out)
 have hzy:w.heap.size+1≤y.heap.size:=by have:=hy.size;rw[HZ.out] at this;exact this
 clear hy c0 c1
 by_cases hchk:checkF V es=0
 ·obtain⟨hV1,hV2,hok⟩:=checkF_zero hchk
  obtain⟨M,rfl⟩:=Int.eq_ofNat_of_zero_le (show 0≤V by omega)
  have hM512:M≤512:=by omega
  have HRes:Hid (labL (M:Int) es=labI es M):=hide (by unfold labL;rw[if_pos hchk,Int.toNat_natCast])
  have HW:Hid (Within es M):=hide (by have h:=within_of hchk;rwa [Int.toNat_natCast] at h)
  have HCk:=hide hchk
  rw[hchk]
  have c0:y.cell? ⟨w.heap.size,0,none⟩=some (.int .i64 (M:Int)):=cell_of_row _ _ 0 _ _ _ HGy.out
  have hmk:=mkL_run y M (by omega)
  obtain⟨x,hx⟩:∃x,y.alloc (.cells (intsV (List.replicate M 0)).toArray 2)=x:=⟨_,rfl⟩
  rw[hx] at hmk
  have HBy2:=(show Below y.heap.size y x by rw[←hx];exact (Below.refl _ _).alloc (Nat.le_refl _) _)
  have HX0:=hide (show RowI x y.heap.size 2 (mOne M 0) by rw[←hx,mOne_zero];exact heap_alloc_last _ _)
  have HBx:=hide (show Below w.heap.size w x by rw[←hx];exact HBy.out.alloc (by omega) _)
  have HGx:=hide ((HBy2.block _ (by omega)).trans HGy.out)
  have HXe:=hide hx
  clear hx hchk hok HBy2
  go_upto_region 5 with fail
  obtain⟨D,hD⟩:∃D,y.heap.size=D:=⟨_,rfl⟩
  rw[hD] at HX0 hzy hmk ⊢
  have hwD:w.heap.size<D:=by omega
  clear hmk c0 HXe hD HGy HBy HG HZ HB HV HE
  go_wp2
  obtain⟨z,hz⟩:∃z,x=z:=⟨_,rfl⟩
  subst hz
  go_loopw [6] (fun v6 wr=>∃k:Nat,k≤M∧v6 = .int .i64 (k:Int)∧Hid (RowI wr D 2 (mOne M k))∧Hid (FarG D x wr)) (fun v6 _=>M-(intOf v6).toNat)
  case atStart=>exact⟨0,by omega,rfl,HX0,hide (FarS.refl _ _ _)⟩
  case round=>
   clear HX0
   obtain⟨k,hk,rfl,HRow,HF⟩:=hrel
   have c0:wr.cell? ⟨w.heap.size,0,none⟩=some (.int .i64 (M:Int)):=cell_of_row _ _ 0 _ _ _ ((HF.out.block _ (by omega) (by omega)).trans HGx.out)
   by_cases hlt:k<M
   ·have hI0:(0:Int)≤(k:Int):=by omega
    have hI1:(k:Int)<(M:Int):=by omega
    have gk:=HRow.out.cell (i:=k) (by rw[mOne_len hk];exact hlt)
    have gf:=HRow.out.frozen k
    have hs:=HRow.out.set k (-1)
    rw[mOne_set hlt] at hs
    have HS:=hide hs
    have HF2:=hide (HF.out.set (p:=⟨D,k,none⟩) (.inl rfl) (.int .i64 (-1)))
    clear hs HRow HF
    go_wp2
    go_roundw
    case rel=>exact⟨k+1,by omega,by go_num,HS,HF2⟩
    case measure=>simp[intOf];omega
   obtain rfl:M=k:=by omega
   rw[mOne_full] at HRow
   have HO0:=hide (DocO.zero HW.out)
   have HB0:=hide (HF.out.below (B:=D) (Nat.le_refl _) (Nat.le_refl _))
   clear HF hlt
   go_wp2
   clear c0
   go_loopw [7] (fun v7 wr=>∃(v:Nat) (l:List Int),v≤M∧v7 = .int .i64 (v:Int)∧Hid (DocO es M v l)∧Hid (RowI wr D 2 l)∧Hid (Below D x wr)) (fun v7 _=>M-(intOf v7).toNat)
   case atStart=>exact⟨0,List.replicate M (-1),by omega,rfl,HO0,HRow,HB0⟩
   case round=>
    clear HO0 HRow HB0
    obtain⟨v,l0,hv,rfl,HO,HRow,HB⟩:=hrel
    have c0:wr.cell? ⟨w.heap.size,0,none⟩=some (.int .i64 (M:Int)):=cell_of_row _ _ 0 _ _ _ ((HB.out.block _ hwD).trans HGx.out)
    by_cases hvM:v<M
    ·have hI0:(0:Int)≤(v:Int):=by omega
     have hI1:(v:Int)<(M:Int):=by omega
     have lv:=HRow.out.cell (i:=v) (by rw[HO.out.len];exact hvM)
     have lf:=HRow.out.frozen v
     obtain⟨X,hX⟩:∃X,at_ l0 (v:Int)=X:=⟨_,rfl⟩
     rw[hX] at lv
     have HXe:=hide hX
     clear hX
     by_cases hneg:X<0
     ·have HDF:=hide (DocI.first HO.out hvM (by rw[HXe.out];exact hneg))
      have hcn:=hide (negs_set (l:=l0) (v:=(v:Int)) (by rw[HO.out.len];exact hvM) (by rw[HXe.out];exact hneg) (by omega))
      have hnl:=negs_le (l0.set v (v:Int))
      rw[List.length_set,HO.out.len] at hnl
      obtain⟨c0',hc0⟩:∃q,negs (l0.set v (v:Int))+1=q:=⟨_,rfl⟩
      have hc0M:c0'≤600:=by omega
      obtain⟨y,hy⟩:∃y,wr.alloc (.cells #[.int .i64 (v:Int)] 3)=y:=⟨_,rfl⟩
      have hby:Below wr.heap.size wr y:=by rw[←hy];exact (Below.refl _ _).alloc (Nat.le_refl _) _
      have hDw:D<wr.heap.size:=HRow.out.lt
      have hyl:y.heap[wr.heap.size]?=some (.cells #[.int .i64 (v:Int)] 3):=by rw[←hy];exact heap_alloc_last _ _
      have HYe:=hide hy
      have hr1:RowI y D 2 l0:=HRow.out.below hby hDw
      have yl:=hr1.cell (i:=v) (by rw[HO.out.len];exact hvM)
      have yf:=hr1.frozen v
      have hr2:=hr1.set v (v:Int)
      have hf2:FarG D y (y.setCell ⟨D,v,none⟩ (.int .i64 (v:Int))):=(FarS.refl D D y).set (p:=⟨D,v,none⟩) (.inl rfl) _
      have hrt:RowI y wr.heap.size 3 (natI [v]):=hyl
      have ho1:=(hrt.own (base:=D+1) (n:=1) (by omega) rfl (by decide))
      have HS0:Hid (LSt es M v l0 c0' D x (y.setCell ⟨D,v,none⟩ (.int .i64 (v:Int))) 0 0 (some ⟨wr.heap.size,0,none⟩) 1 1 [v] (l0.set v (v:Int))):=hide ⟨hr2,own_far ho1 hf2 (Nat.lt_succ_self D),HDF.out,hc0,Prog.first es v,(HB.out.trans (hby.mono (by omega))).trans (hf2.below (Nat.le_refl _) (Nat.le_refl _)),by omega,by simp⟩
      clear hby hyl hr1 hr2 hf2 hrt ho1 HDF hcn hnl hc0 HRow HB hy
      go_upto_region 14 with fail
      rw[HYe.out]
      clear HYe lv lf c0
      go_upto_region 15 with fail
      obtain⟨gt,hgt⟩:∃g,wr.heap.size=g:=⟨_,rfl⟩
      rw[hgt] at HS0 ⊢
      clear hgt yl yf
      go_wp2
      go_loopw [8,9] (fun v8 v9 wr=>∃(i:Nat) (A8:Option Addr) (c8 n8:Nat) (todo:List Nat) (l:List Int),v9 = .int .i64 (i:Int)∧v8 = .slice A8 n8 c8∧Hid (LSt es M v l0 c0' D x wr i 0 A8 c8 n8 todo l)) (fun _ v9 _=>c0'-(intOf v9).toNat)
      case atStart=>exact⟨0,_,_,_,_,_,rfl,rfl,HS0⟩
      case round=>
       clear HS0
       obtain⟨i,A8,c8,n8,todo,l,rfl,rfl,HS⟩:=hrel
       have hin':=HS.out.lt
       have hn8:n8≤c0':=by have:=HS.out.cnt;omega
       by_cases hin:i<n8
       ·have hJ1:(i:Int)<(n8:Int):=by omega
        go_wp2
        go_loopw [8,10] (fun v8 v10 wr=>∃(k:Nat) (A8:Option Addr) (c8 n8:Nat) (todo:List Nat) (l:List Int),k≤L∧v10 = .int .i64 (k:Int)∧v8 = .slice A8 n8 c8∧i<n8∧Hid (LSt es M v l0 c0' D x wr i k A8 c8 n8 todo l)) (fun _ v10 _=>L-(intOf v10).toNat)
        case atStart=>exact⟨0,_,_,_,_,_,by omega,rfl,rfl,hin,HS⟩
        case round=>
         clear HS hin hin' hn8 hJ1
         obtain⟨k,A8,c8,n8,todo,l,hk,rfl,rfl,hin,HS⟩:=hrel
         have HBr:=hide (HBx.out.trans (HS.out.bel.mono (show w.heap.size≤D by omega)))
         have c1:wr.cell? ⟨w.heap.size,1,none⟩=some (.slice A L c):=cell_of_row _ _ 1 _ _ _ ((HS.out.bel.block _ hwD).trans HGx.out)
         by_cases hlt:k<L
         ·obtain⟨e,he⟩:∃e,es[k]?=some e:=⟨_,List.getElem?_eq_getElem (by rw[HL.out];exact hlt)⟩
          have hem:=List.mem_of_getElem? he
          have hfit:=HW.out e hem
          obtain⟨b0,off,rfl,hbl,d0,d1,d2,hx1,hx2⟩:=Eds.get HEw.out he
          have HEe:=hide he
          have HEm:=hide hem
          obtain⟨e1,e2,e3⟩:=e
          dsimp only at d0 d1 d2 hfit hx1 hx2
          obtain⟨a,rfl⟩:=Int.eq_ofNat_of_zero_le hfit.1
          obtain⟨b,rfl⟩:=Int.eq_ofNat_of_zero_le hfit.2.2.1
          have haM:a<M:=by omega
          have hbM:b<M:=by omega
          have HAB:Hid (Conn es b a∧Conn es a b):=hide ⟨by have h:=Conn.bwd (x:=b) hem (by dsimp only;rw[Int.toNat_natCast];exact .refl);simpa using h,by have h:=Conn.fwd (x:=a) hem (by dsimp only;rw[Int.toNat_natCast];exact .refl);simpa using h⟩
          have d0:=(HBr.out.cell (p:=⟨b0,off+k*3,none⟩) hbl).trans d0
          have d1:=(HBr.out.cell (p:=⟨b0,off+k*3+1,none⟩) hbl).trans d1
          have hkI0:(0:Int)≤(k:Int):=by omega
          have hkI1:(k:Int)<(L:Int):=by omega
          have hbw:b0<wr.heap.size:=by have:=HBr.out.size;omega
          have hww:w.heap.size<wr.heap.size:=by have:=HS.out.row.lt;omega
          clear he hem hfit d2
          go_upto_region 21 with fail
          refine wp_region_held_drew (S:=Kept wr) (by kernel_rfl) (Kept.drew wr) (fun hS0=>?_)
          refine tka 0 60 ?_
          refine tka 1 61 ?_
          refine tka 2 62 ?_
          refine tka 3 63 ?_
          refine tka 4 64 ?_
          refine tka 5 65 ?_
          refine tka 6 66 ?_
          refine tka 7 67 ?_
          refine tka 8 68 ?_
          refine tka 9 69 ?_
          refine tka 10 70 ?_
          refine tka 11 71 ?_
          refine tka 12 11 ?_
          refine tka 13 12 ?_
          refine wpAnyH_done (by kernel_rfl) ?_ _
          clear hS0 d0 d1 c1 hbw
          have HS:=hide (show LSt es M v l0 c0' D x wr.drew i k A8 c8 n8 todo l from ⟨HS.out.row,HS.out.own,HS.out.doc,HS.out.cnt,HS.out.prog,HS.out.bel.trans ((Below.refl D wr).drew),HS.out.lt,HS.out.mem⟩)
          obtain⟨wd,hwd⟩:∃q,wr.drew=q:=⟨_,rfl⟩
          rw[hwd] at HS ⊢
          have hww:w.heap.size<wd.heap.size:=by rw[←hwd];exact hww
          clear HBr hwd
          obtain⟨g8,rfl,hg8b,hg8l,hg8c⟩:=own_addr HS.out.own (by omega)
          obtain⟨y,hy⟩:∃y,todo[i]?=some y:=⟨_,List.getElem?_eq_getElem (by rw[HS.out.len];exact hin)⟩
          have HY:=hide hy
          clear hy
          have ti:wd.cell? ⟨g8,i,none⟩=some (.int .i64 (y:Int)):=by rw[HS.out.own.cellAt i (by have:=HS.out.len;simp[natI];omega)];simp[natI,HY.out]
          have hin0:(0:Int)≤(i:Int):=by omega
          have hin1:(i:Int)<(n8:Int):=by omega
          have hym:y∈todo:=List.mem_of_getElem? HY.out
          have HC:Hid (a=y→Conn es b v):=hide (fun h=>HAB.out.1.trans (h ▸ (HS.out.doc.mem y hym).2.2.1))
          have HVv:Hid (a=y→0≤at_ l (b:Int)→b∈todo):=hide (fun h hb=>by
           have h9:=DocI.have1 HO.out HS.out.doc HW.out HEm.out (by dsimp only;rw[Int.toNat_natCast,h];exact hym) (by dsimp only;omega)
           simpa using h9)
          clear hym
          have hbl:b<l.length:=by rw[HS.out.doc.len];exact hbM
          have lb:=HS.out.row.cell (i:=b) hbl
          have lf:=HS.out.row.frozen b
          have hb0:(0:Int)≤(b:Int):=by omega
          have hb1:(b:Int)<(M:Int):=by omega
          obtain⟨X,hX⟩:∃X,at_ l (b:Int)=X:=⟨_,rfl⟩
          rw[hX] at lb
          have HXe:=hide hX
          clear hX hbl
          go_upto_region 22 with fail
          go_cut [84] (fun v84 wc=>∃q:Bool,v84 = .bool q∧Hid (q=true↔(a=y∧X<0))∧wd=wc)
          case first=>
           by_cases hay:a=y
           ·subst hay
            by_cases hneg:X<0
            ·go_wp2
             go_meet
             case rel=>exact⟨true,rfl,hide (by simp[hneg]),rfl⟩
            go_wp2
            go_meet
            case rel=>exact⟨false,rfl,hide (by simp[hneg]),rfl⟩
           have hayI:¬(a:Int)=(y:Int):=by omega
           go_wp2
           go_meet
           case rel=>exact⟨false,rfl,hide (by simp[hay]),rfl⟩
          case rest=>
           obtain⟨q,rfl,HQ,rfl⟩:=hcut
           go_upto_if 84 with fail
           go_cut [8] (fun v8 wc=>∃(A8:Option Addr) (c8 n8:Nat) (todo:List Nat) (l:List Int),v8 = .slice A8 n8 c8∧Hid (LSt es M v l0 c0' D x wc i k A8 c8 n8 todo l)∧Hid (todo[i]?=some y)∧Hid (a=y→b∈todo))
           case first=>
            rcases q with _ | _
            ·have HBt:Hid (a=y→b∈todo):=hide (fun h=>HVv.out h (by
              have h2:=HXe.out
              rcases Int.lt_or_le X 0 with h3 | h3
              ·exact absurd (HQ.out.2 ⟨h,h3⟩) (by decide)
              ·omega))
             clear HQ
             go_wp2
             go_meet
             case rel=>exact⟨(some ⟨g8,0,none⟩),c8,n8,todo,l,rfl,HS,HY,hide (fun h=>HBt.out h)⟩
            obtain⟨hay,hneg⟩:=HQ.out.1 rfl
            have HPu:=hide (HS.out.doc.push HO.out hbM (by rw[HXe.out];exact hneg) (HC.out hay))
            subst hay
            clear HQ
            have hrs:=HS.out.row.set b (v:Int)
            have HF:=hide (show FarG D wd (wd.setCell ⟨D,b,none⟩ (.int .i64 (v:Int))) from (FarS.refl D D wd).set (p:=⟨D,b,none⟩) (.inl rfl) _)
            have HOw:=hide (own_far HS.out.own HF.out (Nat.lt_succ_self D))
            have HRs:=hide hrs
            clear hrs
            go_upto_region 24 with fail
            obtain⟨x1,hx1⟩:∃q,wd.setCell ⟨D,b,none⟩ (.int .i64 (v:Int))=q:=⟨_,rfl⟩
            rw[hx1] at HF HOw HRs ⊢
            clear hx1 ti lb lf
            have hDx1:D<x1.heap.size:=HRs.out.lt
            have hn8c:n8≤2000:=by have:=HS.out.cnt;omega
            go_wp2_with (at_builtin;refine wpList_app rfl (.tmp 89) (.tmp 91) 65 rfl (D+1) 3 i0 (.int .i64 0) 1 8 Tryz.underlying65 hi0 hz0 hz1 hz2 rfl (by decide) (.slice (some ⟨g8,0,none⟩) n8 c8) n8 _ rfl (HOw.out.alloc _) (x1.heap.size+1) (some ⟨x1.heap.size,0,none⟩) 1 1 [.int .i64 (b:Int)] rfl rfl (Rd.new _ _ _ _) (by simp[Value.oneCell']) (by unfold maxLen;omega) (by omega) (by simp;omega) ?_)
            intro A9 c9 x2 hown2 hg2 hat2
            have HN:Hid (LSt es M v l0 c0' D x x2 i k A9 c9 (n8+1) (todo ++ [b]) (l.set b (v:Int))):=hide (HS.out.pushed HPu.out hbM (by rw[HXe.out];exact hneg) HF.out HRs.out HOw.out hown2 hg2 hin)
            have HYn:Hid ((todo ++ [b])[i]?=some a):=hide (by rw[List.getElem?_append_left (by rw[HS.out.len];exact hin)];exact HY.out)
            clear hown2 hg2 hat2 HF HOw HRs HPu
            go_wp2
            go_meet
            case rel=>exact⟨A9,c9,(n8+1),(todo ++ [b]),(l.set b (v:Int)),rfl,HN,HYn,hide (fun h=>List.mem_append_right _ (by simp))⟩
           case rest=>
            clear HS HY hin hg8b hg8l hg8c ti lb lf HC HVv HXe HQ hin0 hin1 hb0 hb1
            obtain⟨A8,c8,n8,todo,l,rfl,HS,HY,HD1⟩:=hcut
            obtain⟨we,rfl⟩:∃q:World,q=wc:=⟨_,rfl⟩
            have hin:i<n8:=by have h:=(List.getElem?_eq_some_iff.1 HY.out).1;rw[HS.out.len] at h;exact h
            obtain⟨g8,rfl,hg8b,hg8l,hg8c⟩:=own_addr HS.out.own (by omega)
            have ti:we.cell? ⟨g8,i,none⟩=some (.int .i64 (y:Int)):=by rw[HS.out.own.cellAt i (by have:=HS.out.len;simp[natI];omega)];simp[natI,HY.out]
            have hin0:(0:Int)≤(i:Int):=by omega
            have hin1:(i:Int)<(n8:Int):=by omega
            have hym:y∈todo:=List.mem_of_getElem? HY.out
            have HC:Hid (b=y→Conn es a v):=hide (fun h=>HAB.out.2.trans (h ▸ (HS.out.doc.mem y hym).2.2.1))
            have HVv:Hid (b=y→0≤at_ l (a:Int)→a∈todo):=hide (fun h hb=>by
             have h9:=DocI.have2 HO.out HS.out.doc HW.out HEm.out (by dsimp only;rw[Int.toNat_natCast,h];exact hym) (by dsimp only;omega)
             simpa using h9)
            clear hym
            have hbl:a<l.length:=by rw[HS.out.doc.len];exact haM
            have lb:=HS.out.row.cell (i:=a) hbl
            have lf:=HS.out.row.frozen a
            have hb0:(0:Int)≤(a:Int):=by omega
            have hb1:(a:Int)<(M:Int):=by omega
            obtain⟨X,hX⟩:∃X,at_ l (a:Int)=X:=⟨_,rfl⟩
            rw[hX] at lb
            have HXe:=hide hX
            clear hX hbl
            go_upto_region 25 with fail
            go_cut [105] (fun v84 wc=>∃q:Bool,v84 = .bool q∧Hid (q=true↔(b=y∧X<0))∧we=wc)
            case first=>
             by_cases hay:b=y
             ·subst hay
              by_cases hneg:X<0
              ·go_wp2
               go_meet
               case rel=>exact⟨true,rfl,hide (by simp[hneg]),rfl⟩
              go_wp2
              go_meet
              case rel=>exact⟨false,rfl,hide (by simp[hneg]),rfl⟩
             have hayI:¬(b:Int)=(y:Int):=by omega
             go_wp2
             go_meet
             case rel=>exact⟨false,rfl,hide (by simp[hay]),rfl⟩
            case rest=>
             obtain⟨q,rfl,HQ,rfl⟩:=hcut
             rcases q with _ | _
             ·have HBt:Hid (b=y→a∈todo):=hide (fun h=>HVv.out h (by
               have h2:=HXe.out
               rcases Int.lt_or_le X 0 with h3 | h3
               ·exact absurd (HQ.out.2 ⟨h,h3⟩) (by decide)
               ·omega))
              clear HQ
              have HP2:Hid (LSt es M v l0 c0' D x _ i (k+1) (some ⟨g8,0,none⟩) c8 n8 todo l):=hide (HS.out.next HEe.out HY.out ⟨fun h=>HD1.out h,fun h=>HBt.out h⟩)
              go_wp2
              go_roundw
              case rel=>exact⟨k+1,(some ⟨g8,0,none⟩),c8,n8,todo,l,by omega,by go_num,rfl,hin,HP2⟩
              case measure=>simp[intOf];omega
             obtain⟨hay,hneg⟩:=HQ.out.1 rfl
             have HPu:=hide (HS.out.doc.push HO.out haM (by rw[HXe.out];exact hneg) (HC.out hay))
             subst hay
             clear HQ
             have hrs:=HS.out.row.set a (v:Int)
             have HF:=hide (show FarG D we (we.setCell ⟨D,a,none⟩ (.int .i64 (v:Int))) from (FarS.refl D D we).set (p:=⟨D,a,none⟩) (.inl rfl) _)
             have HOw:=hide (own_far HS.out.own HF.out (Nat.lt_succ_self D))
             have HRs:=hide hrs
             clear hrs
             go_upto_region 27 with fail
             obtain⟨x1,hx1⟩:∃q,we.setCell ⟨D,a,none⟩ (.int .i64 (v:Int))=q:=⟨_,rfl⟩
             rw[hx1] at HF HOw HRs ⊢
             clear hx1 ti lb lf
             have hDx1:D<x1.heap.size:=HRs.out.lt
             have hn8c:n8≤2000:=by have:=HS.out.cnt;omega
             go_wp2_with (at_builtin;refine wpList_app rfl (.tmp 110) (.tmp 112) 65 rfl (D+1) 3 i0 (.int .i64 0) 1 8 Tryz.underlying65 hi0 hz0 hz1 hz2 rfl (by decide) (.slice (some ⟨g8,0,none⟩) n8 c8) n8 _ rfl (HOw.out.alloc _) (x1.heap.size+1) (some ⟨x1.heap.size,0,none⟩) 1 1 [.int .i64 (a:Int)] rfl rfl (Rd.new _ _ _ _) (by simp[Value.oneCell']) (by unfold maxLen;omega) (by omega) (by simp;omega) ?_)
             intro A9 c9 x2 hown2 hg2 hat2
             have HN:Hid (LSt es M v l0 c0' D x x2 i k A9 c9 (n8+1) (todo ++ [a]) (l.set a (v:Int))):=hide (HS.out.pushed HPu.out haM (by rw[HXe.out];exact hneg) HF.out HRs.out HOw.out hown2 hg2 hin)
             have HYn:Hid ((todo ++ [a])[i]?=some b):=hide (by rw[List.getElem?_append_left (by rw[HS.out.len];exact hin)];exact HY.out)
             clear hown2 hg2 hat2 HF HOw HRs HPu
             have HP2:Hid (LSt es M v l0 c0' D x _ i (k+1) A9 c9 (n8+1) (todo ++ [a]) (l.set a (v:Int))):=hide (HN.out.next HEe.out HYn.out ⟨fun h=>List.mem_append_left _ (HD1.out h),fun h=>List.mem_append_right _ (by simp)⟩)
             go_wp2
             go_roundw
             case rel=>exact⟨k+1,A9,c9,(n8+1),(todo ++ [a]),(l.set a (v:Int)),by omega,by go_num,rfl,by omega,HP2⟩
             case measure=>simp[intOf];omega
         obtain rfl:L=k:=by omega
         have hn8b:n8≤600:=by have:=HS.out.cnt;omega
         have HS2:=hide (HS.out.round HL.out.symm hin)
         clear HBr HS
         go_wp2
         go_roundw
         case rel=>exact⟨i+1,_,_,_,_,_,by go_num,rfl,HS2⟩
         case measure=>have:=HS2.out.cnt;have:=HS2.out.lt;simp[intOf];omega
       obtain rfl:i=n8:=by omega
       have HF:=hide (HS.out.doc.finish HO.out HW.out HS.out.mem (by rw[HS.out.len];exact HS.out.prog))
       have HR2:=hide HS.out.row
       have HB2:=hide HS.out.bel
       clear HS
       go_wp2
       go_roundw
       case rel=>exact⟨v+1,l,by omega,by go_num,HF,HR2,HB2⟩
       case measure=>simp[intOf];omega
     have HF:=hide (HO.out.skip (by rw[HXe.out];exact hneg))
     have hge:(0:Int)≤X:=by omega
     clear HO
     go_wp2
     go_roundw
     case rel=>exact⟨v+1,l0,by omega,by go_num,HF,HRow,HB⟩
     case measure=>simp[intOf];omega
    obtain rfl:M=v:=by omega
    have hl0:=HO.out.lab HW.out
    have hll:(labI es M).length=M:=by simp[labI]
    have hl1:l0=labI es M:=hl0
    have HFin:Hid (LPost w 0 (labI es M) (.returned (.tuple #[.slice (some ⟨D,0,none⟩) M M,.int .i64 0])) wr):=hide ⟨some ⟨D,0,none⟩,M,by rw[hll],by rw[hll,←hl1];exact HRow.out.own (by omega) (by rw[hl1];exact hll) (by unfold maxLen;omega),HBx.out.trans (HB.out.mono (by omega))⟩
    clear hl0 hl1 HO HRow HB
    go_wp2
    refine bodyPost_ret (v:=.tuple #[.slice (some ⟨D,0,none⟩) M M,.int .i64 0]) (by simp[results,Tryz.results16,go_sem]) rfl ?_
    rw[HRes.out,HCk.out]
    exact HFin.out
 have hne:¬checkF V es=0:=hchk
 have HRes:Hid (labL V es=[]):=hide (by unfold labL;rw[if_neg hchk])
 have HFin:Hid (LPost w (checkF V es) [] (.returned (.tuple #[.slice none 0 0,.int .i64 (checkF V es)])) y):=hide ⟨none,0,rfl,World.ownsRow_nil _ _ _ _,HBy.out⟩
 clear hchk
 obtain⟨k,hk⟩:∃k,checkF V es=k:=⟨_,rfl⟩
 rw[hk] at hne HFin ⊢
 have HK:=hide hk
 clear hk
 go_wp2
 refine bodyPost_ret (v:=.tuple #[.slice none 0 0,.int .i64 k]) (by simp[results,Tryz.results16,go_sem]) rfl ?_
 rw[HRes.out,HK.out]
 exact HFin.out
end Go.Proofs.YtgbahnlgblahpaaGreat
