/- Lemmas: Mdr. -/
import Derived.Test.YtgbahnlgblahpaaGreatMkWw33
import Derived.Test.YtgbahnlgblahpaaGreatMkWw42
set_option linter.unusedVariables false
set_option linter.unusedSimpArgs false
set_option maxRecDepth 100000
set_option maxHeartbeats 16000000
namespace Go.Proofs.YtgbahnlgblahpaaGreat
open Go.RowKit
def RowB (w:World) (G:Nat) (r:List Bool):Prop:=w.heap[G]?=some (.cells (r.map Value.bool).toArray 4)
theorem RowB.cell {w:World} {G:Nat} {r:List Bool} (h:RowB w G r) {i:Nat} (hi:i<r.length):w.cell? ⟨G,i,none⟩=some (.bool (bat r (i:Int))):=by
 rw[cell_of_row _ _ i _ _ _ h]
 unfold bat
 simp[List.getElem?_eq_getElem hi]
theorem RowB.frozen {w:World} {G:Nat} {r:List Bool} (h:RowB w G r) (i:Nat):w.frozen? ⟨G,i,none⟩=false:=frozen_of_row _ _ i _ _ h
theorem RowB.set {w:World} {G:Nat} {r:List Bool} (h:RowB w G r) (i:Nat) (v:Bool):RowB (w.setCell ⟨G,i,none⟩ (.bool v)) G (r.set i v):=by
 have h1:=heap_setCell_same w G i _ _ (.bool v) h
 unfold RowB
 rw[h1,List.setIfInBounds_toArray,List.map_set]
theorem RowB.lt {w:World} {G:Nat} {r:List Bool} (h:RowB w G r):G<w.heap.size:=(Array.getElem?_eq_some_iff.1 h).1
theorem made_bo (n:Nat):madeCells #[.bool false] n=((List.replicate n false).map Value.bool).toArray:=by
 apply Array.ext
 ·simp[madeCells]
 intro i h1 h2
 simp[madeCells,Nat.mod_one]
theorem mkB_run (w:World) (n:Nat) (hn:n≤2000000) :
  (Instr.makeSlice 32 (.int .i64 (n:Int)) (.int .i64 (n:Int))).run Tryz.prog w = .ok (.slice (some ⟨w.heap.size,0,none⟩) n n) (w.alloc (.cells ((List.replicate n false).map Value.bool).toArray 4)):=by
 obtain⟨i,hi,hz,hs,hb⟩:=info_parts (show (Tryz.prog.info? 4).map (fun i=>(i.zero,i.size,i.bytes))=some (some (.bool false),1,1) by kernel_rfl)
 have hr:=run_make (P:=Tryz.prog) w 32 4 i _ Tryz.underlying32 hi hz .i64 .i64 n n (by omega) (Int.le_refl _) (by rw[hb];omega) (by omega)
 simp only[Int.toNat_natCast,hs,Nat.mul_one] at hr
 rw[←made_bo]
 exact hr
def faK (M k:Nat):List Int:=List.replicate k 4611686018427387904 ++ List.replicate (M-k) 0
theorem faK_zero (M:Nat):faK M 0=List.replicate M 0:=by simp[faK]
theorem faK_full (M:Nat):faK M M=List.replicate M 4611686018427387904:=by simp[faK]
theorem faK_len {M k:Nat} (h:k≤M):(faK M k).length=M:=by simp[faK];omega
theorem faK_set {M k:Nat} (h:k<M):(faK M k).set k 4611686018427387904=faK M (k+1):=by
 unfold faK
 rw[List.set_append_right _ _ (by simp)]
 simp only[List.length_replicate,Nat.sub_self]
 rw[show M-k=(M-(k+1))+1 by omega,List.replicate_succ,List.set_cons_zero,List.replicate_succ' (n:=k),List.append_assoc]
 rfl
theorem far_start {M s:Nat} (h:s<M):(List.replicate M (4611686018427387904:Int)).set s 0=start0 M (s:Int):=by
 apply List.ext_getElem (by simp[start0])
 intro i h1 h2
 have hi:i<M:=by simpa using h1
 rw[List.getElem_set]
 simp only[start0,List.getElem_replicate,List.getElem_map,List.getElem_range]
 unfold startOf
 by_cases e:s=i
 ·subst e;simp
 rw[if_neg e,if_neg (by omega)]
theorem Nr.rng {l:List Int} {r:List Bool} {k:Nat} {near:Int} (h:Nr l r k near):-1≤near∧near<(k:Int)∨near=-1:=by
 rcases h with ⟨h1,_⟩ | ⟨j,h1,h2,_⟩
 ·exact .inr h1
 exact .inl (by omega)
structure DW (z wr:World) (D Rb:Nat) (l:List Int) (r:List Bool):Prop where
 row:RowI wr D 2 l
 rb:RowB wr Rb r
 os:wr.os=z.os
 tape:wr.tape=z.tape
 output:wr.output=z.output
 size:z.heap.size≤wr.heap.size
 blk:∀b,b<z.heap.size→b≠D→b≠Rb→wr.heap[b]?=z.heap[b]?
theorem DW.below {z wr w':World} {D Rb:Nat} {l:List Int} {r:List Bool} (h:DW z wr D Rb l r) (hb:Below wr.heap.size wr w'):DW z w' D Rb l r:=
 ⟨h.row.below hb h.row.lt,(hb.block Rb h.rb.lt).trans h.rb,hb.os.trans h.os,hb.tape.trans h.tape,hb.output.trans h.output,Nat.le_trans h.size hb.size,fun b hl h1 h2=>(hb.block b (Nat.lt_of_lt_of_le hl h.size)).trans (h.blk b hl h1 h2)⟩
theorem DW.drew {z wr:World} {D Rb:Nat} {l:List Int} {r:List Bool} (h:DW z wr D Rb l r):DW z wr.drew D Rb l r:=h.below ((Below.refl _ _).drew)
theorem DW.setD {z wr:World} {D Rb:Nat} {l:List Int} {r:List Bool} (h:DW z wr D Rb l r) (hne:Rb≠D) (i:Nat) (v:Int):DW z (wr.setCell ⟨D,i,none⟩ (.int .i64 v)) D Rb (l.set i v) r:=by
 have hf:FarG D wr (wr.setCell ⟨D,i,none⟩ (.int .i64 v)):=(FarS.refl D D wr).set (p:=⟨D,i,none⟩) (.inl rfl) _
 exact⟨h.row.set i v,(hf.block Rb hne hne).trans h.rb,hf.os.trans h.os,hf.tape.trans h.tape,hf.output.trans h.output,by rw[hf.size];exact h.size,fun b hl h1 h2=>(hf.block b h1 h1).trans (h.blk b hl h1 h2)⟩
theorem DW.setR {z wr:World} {D Rb:Nat} {l:List Int} {r:List Bool} (h:DW z wr D Rb l r) (hne:D≠Rb) (i:Nat) (v:Bool):DW z (wr.setCell ⟨Rb,i,none⟩ (.bool v)) D Rb l (r.set i v):=by
 have hf:FarG Rb wr (wr.setCell ⟨Rb,i,none⟩ (.bool v)):=(FarS.refl Rb Rb wr).set (p:=⟨Rb,i,none⟩) (.inl rfl) _
 exact⟨h.row.block (hf.block D hne hne),h.rb.set i v,hf.os.trans h.os,hf.tape.trans h.tape,hf.output.trans h.output,by rw[hf.size];exact h.size,fun b hl h1 h2=>(hf.block b h2 h2).trans (h.blk b hl h1 h2)⟩
theorem DW.toBelow {z wr:World} {D Rb B:Nat} {l:List Int} {r:List Bool} (h:DW z wr D Rb l r) (h1:B≤D) (h2:B≤Rb) (h3:B≤z.heap.size):Below B z wr:=
 ⟨h.os,h.tape,h.output,h.size,fun b hb=>h.blk b (by omega) (by omega) (by omega)⟩
theorem rdistances_any (w:World) (V:Int) (A:Option Addr) (es:List Ed) (L c:Nat) (s:Int) (hL:es.length=L) (hE:Eds w w.heap.size A es) (hc:L≤8192) (heb:∀e∈es,-9223372036854775808≤e.2.2∧e.2.2≤9223372036854775807) :
  Calls Tryz.prog 18 #[.agg #[.int .i64 V,.slice A L c],.int .i64 s] w (LPost w (distE V es s) (distL V es s)):=by
 obtain⟨v,hv⟩:∃v,w.alloc (.cells #[.int .i64 V,.slice A L c] 24)=v:=⟨_,rfl⟩
 have hz:v.heap.size=w.heap.size+1:=by rw[←hv];simp
 have hb:Below w.heap.size w v:=by rw[←hv];exact (Below.refl _ _).alloc (Nat.le_refl _) _
 have cg:v.heap[w.heap.size]?=some (.cells #[.int .i64 V,.slice A L c] 24):=by rw[←hv];exact heap_alloc_last w _
 obtain⟨c0,c1⟩:=zr2 cg
 have HEw:=hide hE
 have HE:Hid (Eds v v.heap.size A es):=hide ((hE.below hb (Nat.le_refl _)).more hb.size)
 have HV:=hide hv
 have HB:=hide hb
 have HL:=hide hL
 have HZ:=hide hz
 have HG:=hide cg
 have HEb:=hide heb
 clear hv hb hz cg hE hL heb
 go_enter Tryz.func18,Tryz.ntmps18
 go_wp2_with fail
 rw[HV.out]
 go_wp2_with fail
 refine (rcheck_any _ V A es L c HL.out HE.out (by omega)).mono ?_
 rintro e y ⟨rfl,hy⟩
 have HBy:=hide (HB.out.trans (hy.mono HB.out.size))
 have HGy:=hide ((hy.block _ (by rw[HZ.out];omega)).trans HG.out)
 have hzy:w.heap.size+1≤y.heap.size:=by have:=hy.size;rw[HZ.out] at this;exact this
 clear hy c0 c1
 by_cases hchk:checkF V es=0
 ·obtain⟨hV1,hV2,hok⟩:=checkF_zero hchk
  obtain⟨M,rfl⟩:=Int.eq_ofNat_of_zero_le (show 0≤V by omega)
  have hM512:M≤512:=by omega
  have HW:Hid (Within es M):=hide (by have h:=within_of hchk;rwa [Int.toNat_natCast] at h)
  have HCk:=hide hchk
  rw[hchk]
  have c0:y.cell? ⟨w.heap.size,0,none⟩=some (.int .i64 (M:Int)):=cell_of_row _ _ 0 _ _ _ HGy.out
  clear hchk hok
  by_cases hs0:s<0
  ·have HDe:Hid (distE (M:Int) es s=2):=hide (by unfold distE;rw[if_pos HCk.out,if_neg (by omega)])
   have HDl:Hid (distL (M:Int) es s=[]):=hide (by unfold distL;rw[HDe.out];rfl)
   have HFin:Hid (LPost w 2 [] (.returned (.tuple #[.slice none 0 0,.int .i64 2])) y):=hide ⟨none,0,rfl,World.ownsRow_nil _ _ _ _,HBy.out⟩
   go_wp2
   refine bodyPost_ret (v:=.tuple #[.slice none 0 0,.int .i64 2]) (by simp[results,Tryz.results18,go_sem]) rfl ?_
   rw[HDe.out,HDl.out]
   exact HFin.out
  by_cases hs1:s<(M:Int)
  ·obtain⟨S0,rfl⟩:=Int.eq_ofNat_of_zero_le (show 0≤s by omega)
   have hSM:S0<M:=by omega
   have HDe:Hid (distE (M:Int) es (S0:Int)=0):=hide (by unfold distE;rw[if_pos HCk.out,if_pos ⟨by omega,by omega⟩])
   have HDl:Hid (distL (M:Int) es (S0:Int)=relaxedF (M:Int) es (S0:Int)):=hide (by unfold distL;rw[if_pos HDe.out])
   have hns:¬(M:Int)≤(S0:Int):=by omega
   have hns2:¬M≤S0:=by omega
   have hns3:decide (M≤S0)=false:=decide_eq_false hns2
   have hns4:decide ((S0:Int)<0)=false:=decide_eq_false hs0
   have hmk:=mkL_run y M (by omega)
   obtain⟨x,hx⟩:∃x,y.alloc (.cells (intsV (List.replicate M 0)).toArray 2)=x:=⟨_,rfl⟩
   rw[hx] at hmk
   have HBy2:=(show Below y.heap.size y x by rw[←hx];exact (Below.refl _ _).alloc (Nat.le_refl _) _)
   have HX0:=hide (show RowI x y.heap.size 2 (faK M 0) by rw[←hx,faK_zero];exact heap_alloc_last _ _)
   have HBx:=hide (show Below w.heap.size w x by rw[←hx];exact HBy.out.alloc (by omega) _)
   have HGx:=hide ((HBy2.block _ (by omega)).trans HGy.out)
   have hxs:x.heap.size=y.heap.size+1:=by rw[←hx];simp
   have hmk2:=mkB_run x M (by omega)
   obtain⟨x2,hx2⟩:∃q,x.alloc (.cells ((List.replicate M false).map Value.bool).toArray 4)=q:=⟨_,rfl⟩
   rw[hx2] at hmk2
   have hb2:Below x.heap.size x x2:=by rw[←hx2];exact (Below.refl _ _).alloc (Nat.le_refl _) _
   have hrb:x2.heap[x.heap.size]?=some (.cells ((List.replicate M false).map Value.bool).toArray 4):=by rw[←hx2];exact heap_alloc_last _ _
   have hbs:=hb2.size
   obtain⟨D,hD⟩:∃D,y.heap.size=D:=⟨_,rfl⟩
   obtain⟨Rb,hRb⟩:∃q,x.heap.size=q:=⟨_,rfl⟩
   rw[hD] at HX0 hzy hmk hxs
   rw[hRb] at hxs hmk2 hrb hb2
   have x0:x.cell? ⟨w.heap.size,0,none⟩=some (.int .i64 (M:Int)):=cell_of_row _ _ 0 _ _ _ HGx.out
   have HW0:Hid (DW x2 x2 D Rb (faK M 0) (List.replicate M false)):=hide ⟨HX0.out.below hb2 (by omega),hrb,rfl,rfl,rfl,Nat.le_refl _,fun _ _ _ _=>rfl⟩
   have HB2:=hide (HBx.out.trans (hb2.mono (by omega)))
   have HG2:=hide ((hb2.block _ (by omega)).trans HGx.out)
   have hDR:D<Rb:=by omega
   have hwD:w.heap.size<D:=by omega
   have hRx:Rb<x2.heap.size:=lt_of_block hrb
   have HEq:=hide (And.intro hx (And.intro hx2 (And.intro hD hRb)))
   clear hx hx2 hD hRb hrb hb2 hbs hxs HX0 HGx HBx HBy2
   go_upto_region 9 with fail
   clear x0 c0 hmk hmk2
   have HGK:=hide (show ∀wr l r,DW x2 wr D Rb l r→wr.heap[w.heap.size]?=some (.cells #[.int .i64 (M:Int),.slice A L c] 24) from fun wr l r h=>(h.blk _ (by omega) (by omega) (by omega)).trans HG2.out)
   have HBK:=hide (show ∀wr l r,DW x2 wr D Rb l r→Below w.heap.size w wr from fun wr l r h=>HB2.out.trans (h.toBelow (by omega) (by omega) (by omega)))
   clear HG2 HB2 HEq
   go_wp2
   go_loopw [10] (fun v10 wr=>∃k:Nat,k≤M∧v10 = .int .i64 (k:Int)∧Hid (DW x2 wr D Rb (faK M k) (List.replicate M false))) (fun v10 _=>M-(intOf v10).toNat)
   case atStart=>exact⟨0,by omega,rfl,HW0⟩
   case round=>
    clear HW0
    obtain⟨k,hk,rfl,HD⟩:=hrel
    have c0:wr.cell? ⟨w.heap.size,0,none⟩=some (.int .i64 (M:Int)):=cell_of_row _ _ 0 _ _ _ (HGK.out wr _ _ HD.out)
    by_cases hlt:k<M
    ·have hI0:(0:Int)≤(k:Int):=by omega
     have hI1:(k:Int)<(M:Int):=by omega
     have gk:=HD.out.row.cell (i:=k) (by rw[faK_len hk];exact hlt)
     have gf:=HD.out.row.frozen k
     have hs:=HD.out.setD (by omega) k 4611686018427387904
     rw[faK_set hlt] at hs
     have HS:=hide hs
     clear hs HD
     go_wp2
     go_roundw
     case rel=>exact⟨k+1,by omega,by go_num,HS⟩
     case measure=>simp[intOf];omega
    obtain rfl:M=k:=by omega
    rw[faK_full] at HD
    have gs:=HD.out.row.cell (i:=S0) (by simp;exact hSM)
    have gf:=HD.out.row.frozen S0
    have hs:=HD.out.setD (by omega) S0 0
    rw[far_start hSM] at hs
    have HS0:=hide hs
    have HR0:Hid (DR es M (S0:Int) (start0 M (S0:Int)) (List.replicate M false) [] 0):=hide (DR.start HW.out (by omega) (by omega))
    have hNf:Hid (nf (List.replicate M false)+0=M):=hide (nf_start M)
    have hI0:(0:Int)≤(S0:Int):=by omega
    have hI1:(S0:Int)<(M:Int):=by omega
    clear hs HD hlt
    go_upto_region 14 with fail
    clear gs gf c0
    go_wp2
    go_loopw [11] (fun v11 wr=>∃(n:Nat) (l:List Int) (r:List Bool) (m:Int),n≤M∧v11 = .int .i64 (n:Int)∧Hid (DW x2 wr D Rb l r)∧Hid (DR es M (S0:Int) l r [] m)∧Hid (nf r+n=M)) (fun v11 _=>M-(intOf v11).toNat)
    case atStart=>exact⟨0,_,_,_,by omega,rfl,HS0,HR0,hNf⟩
    case round=>
     clear HS0 HR0 hNf
     obtain⟨n,l,r,m,hn,rfl,HD,HR,HNf⟩:=hrel
     have c0:wr.cell? ⟨w.heap.size,0,none⟩=some (.int .i64 (M:Int)):=cell_of_row _ _ 0 _ _ _ (HGK.out wr _ _ HD.out)
     by_cases hnM:n<M
     ·have hn0:(0:Int)≤(n:Int):=by omega
      have hn1:(n:Int)<(M:Int):=by omega
      have HN0:Hid (Nr l r 0 (-1)):=hide Nr.zero
      obtain⟨wo,rfl⟩:∃q:World,q=wr:=⟨_,rfl⟩
      go_wp2
      clear c0
      go_loopw [12,13] (fun v12 v13 wr=>∃(k:Nat) (near:Int),k≤M∧v13 = .int .i64 (k:Int)∧v12 = .int .i64 near∧Hid (Nr l r k near)∧Hid (DW x2 wr D Rb l r)) (fun _ v13 _=>M-(intOf v13).toNat)
      case atStart=>exact⟨0,-1,by omega,rfl,rfl,HN0,HD⟩
      case round=>
       clear HN0 HD
       obtain⟨k,near,hk,rfl,rfl,HN,HD⟩:=hrel
       have c0:wr.cell? ⟨w.heap.size,0,none⟩=some (.int .i64 (M:Int)):=cell_of_row _ _ 0 _ _ _ (HGK.out wr _ _ HD.out)
       by_cases hlt:k<M
       ·have hk0:(0:Int)≤(k:Int):=by omega
        have hk1:(k:Int)<(M:Int):=by omega
        have bk:=HD.out.rb.cell (i:=k) (by rw[HR.out.len];exact hlt)
        have hDl:D<wr.heap.size:=HD.out.row.lt
        have hRl:Rb<wr.heap.size:=HD.out.rb.lt
        have hwl:w.heap.size<wr.heap.size:=by omega
        obtain⟨bq,hbq⟩:∃q,bat r (k:Int)=q:=⟨_,rfl⟩
        rw[hbq] at bk
        have HBq:=hide hbq
        clear hbq
        rcases bq with _ | _
        ·by_cases hneg:near<0
         ·have HNt:Hid (Nr l r (k+1) (k:Int)):=hide (HN.out.take HBq.out (.inl hneg))
          go_upto_region 21 with fail
          refine wp_region_held_drew (S:=Kept wr) (by kernel_rfl) (Kept.drew wr) (fun hS0=>?_)
          refine tka 0 60 ?_
          refine tka 1 61 ?_
          refine tka 2 62 ?_
          refine tka 3 63 ?_
          refine tka 4 64 ?_
          refine tka 5 65 ?_
          refine tka 6 66 ?_
          refine tka 7 67 ?_
          refine tka 8 68 ?_
          refine ska 9 69 ?_
          refine ska 10 70 ?_
          refine ska 11 71 ?_
          refine ska 12 72 ?_
          refine ska 13 73 ?_
          refine ska 14 74 ?_
          refine ska 15 75 ?_
          refine ska 16 76 ?_
          refine ska 17 77 ?_
          refine tka 18 78 ?_
          refine tka 19 79 ?_
          refine wpAnyH_done (by kernel_rfl) ?_ _
          clear hS0 bk
          have HD2:=hide HD.out.drew
          go_wp2
          go_roundw
          case rel=>exact⟨k+1,(k:Int),by omega,by go_num,rfl,HNt,HD2⟩
          case measure=>simp[intOf];omega
         obtain⟨j,rfl⟩:=Int.eq_ofNat_of_zero_le (show 0≤near by omega)
         have hnj:decide ((j:Int)<0)=false:=decide_eq_false hneg
         have hjk:j<k:=by have h9:=HN.out.rng;omega
         have lk:=HD.out.row.cell (i:=k) (by rw[HR.out.good.len];exact hlt)
         have lj:=HD.out.row.cell (i:=j) (by rw[HR.out.good.len];omega)
         have hj0:(0:Int)≤(j:Int):=by omega
         have hj1:(j:Int)<(M:Int):=by omega
         obtain⟨X,hX⟩:∃q,at_ l (k:Int)=q:=⟨_,rfl⟩
         obtain⟨Y,hY⟩:∃q,at_ l (j:Int)=q:=⟨_,rfl⟩
         rw[hX] at lk
         rw[hY] at lj
         have HXY:=hide (And.intro hX hY)
         clear hX hY
         by_cases hxy:X<Y
         ·have HNt:Hid (Nr l r (k+1) (k:Int)):=hide (HN.out.take HBq.out (.inr ⟨j,rfl,by rw[HXY.out.1,HXY.out.2];exact hxy⟩))
          go_upto_region 21 with fail
          refine wp_region_held_drew (S:=Kept wr) (by kernel_rfl) (Kept.drew wr) (fun hS0=>?_)
          refine tka 0 60 ?_
          refine tka 1 61 ?_
          refine tka 2 62 ?_
          refine tka 3 63 ?_
          refine tka 4 64 ?_
          refine tka 5 65 ?_
          refine tka 6 66 ?_
          refine tka 7 67 ?_
          refine tka 8 68 ?_
          refine tka 9 69 ?_
          refine tka 10 70 ?_
          refine tka 11 71 ?_
          refine tka 12 72 ?_
          refine tka 13 73 ?_
          refine tka 14 74 ?_
          refine tka 15 75 ?_
          refine tka 16 76 ?_
          refine tka 17 77 ?_
          refine tka 18 78 ?_
          refine tka 19 79 ?_
          refine wpAnyH_done (by kernel_rfl) ?_ _
          clear lk lj
          clear hS0 bk
          have HD2:=hide HD.out.drew
          go_wp2
          go_roundw
          case rel=>exact⟨k+1,(k:Int),by omega,by go_num,rfl,HNt,HD2⟩
          case measure=>simp[intOf];omega
         have HNt:Hid (Nr l r (k+1) (j:Int)):=hide (HN.out.stay (by rw[HXY.out.1,HXY.out.2];exact hxy))
         have hyx:Y≤X:=by omega
         go_upto_region 21 with fail
         refine wp_region_held_drew (S:=Kept wr) (by kernel_rfl) (Kept.drew wr) (fun hS0=>?_)
         refine tka 0 60 ?_
         refine tka 1 61 ?_
         refine tka 2 62 ?_
         refine tka 3 63 ?_
         refine tka 4 64 ?_
         refine tka 5 65 ?_
         refine tka 6 66 ?_
         refine tka 7 67 ?_
         refine tka 8 68 ?_
         refine tka 9 69 ?_
         refine tka 10 70 ?_
         refine tka 11 71 ?_
         refine tka 12 72 ?_
         refine tka 13 73 ?_
         refine tka 14 74 ?_
         refine tka 15 75 ?_
         refine tka 16 76 ?_
         refine tka 17 77 ?_
         refine tka 18 78 ?_
         refine tka 19 79 ?_
         refine wpAnyH_done (by kernel_rfl) ?_ _
         clear lk lj
         clear hS0 bk
         have HD2:=hide HD.out.drew
         go_wp2
         go_roundw
         case rel=>exact⟨k+1,(j:Int),by omega,by go_num,rfl,HNt,HD2⟩
         case measure=>simp[intOf];omega
        have HNt:Hid (Nr l r (k+1) near):=hide (HN.out.skip HBq.out)
        go_upto_region 21 with fail
        refine wp_region_held_drew (S:=Kept wr) (by kernel_rfl) (Kept.drew wr) (fun hS0=>?_)
        refine tka 0 60 ?_
        refine tka 1 61 ?_
        refine tka 2 62 ?_
        refine tka 3 63 ?_
        refine tka 4 64 ?_
        refine tka 5 65 ?_
        refine ska 6 66 ?_
        refine ska 7 67 ?_
        refine ska 8 68 ?_
        refine ska 9 69 ?_
        refine ska 10 70 ?_
        refine ska 11 71 ?_
        refine ska 12 72 ?_
        refine ska 13 73 ?_
        refine ska 14 74 ?_
        refine ska 15 75 ?_
        refine ska 16 76 ?_
        refine ska 17 77 ?_
        refine ska 18 78 ?_
        refine tka 19 79 ?_
        refine wpAnyH_done (by kernel_rfl) ?_ _
        clear hS0 bk
        have HD2:=hide HD.out.drew
        go_wp2
        go_roundw
        case rel=>exact⟨k+1,near,by omega,by go_num,rfl,HNt,HD2⟩
        case measure=>simp[intOf];omega
       obtain rfl:M=k:=by omega
       obtain⟨u9,hu9,hb9⟩:=nf_some (r:=r) (by have:=HNf.out;omega)
       obtain⟨j,rfl⟩:∃j:Nat,near=(j:Int):=by
        rcases HN.out with ⟨h1,h2⟩ | ⟨j,h1,_⟩
        ·rw[h2 u9 (by rw[←HR.out.len];exact hu9)] at hb9;cases hb9
        exact⟨j,h1⟩
       clear hu9 hb9
       have hset:=HR.out.settle HW.out HN.out
       obtain⟨hjM,hbj,hr2⟩:=hset
       have bj:=HD.out.rb.cell (i:=j) (by rw[HR.out.len];exact hjM)
       have bf:=HD.out.rb.frozen j
       have hj0:(0:Int)≤(j:Int):=by omega
       have hj1:(j:Int)<(M:Int):=by omega
       obtain⟨outs,hou⟩:∃o,es.filter (fun e=>e.1 == (j:Int))=o:=⟨_,rfl⟩
       have hmemo:∀e∈outs,e∈es∧e.1=(j:Int):=fun e he=>by rw[←hou] at he;have h9:=List.mem_filter.1 he;exact⟨h9.1,by simpa using h9.2⟩
       rw[hou] at hr2
       have hfr:fromF es (j:Int)=outs:=hou
       obtain⟨Lo,hLo⟩:∃q,outs.length=q:=⟨_,rfl⟩
       have hLo8:Lo≤8192:=by rw[←hLo,←hou];have:=List.length_filter_le (fun e:Ed=>e.1 == (j:Int)) es;have:=HL.out;omega
       have HNf2:Hid (nf (r.set j true)+(n+1)=M):=hide (by have h9:=nf_set (r:=r) (j:=j) (by rw[HR.out.len];exact hjM) hbj;have:=HNf.out;omega)
       have HR2:=hide hr2
       have HMo:=hide hmemo
       have HLo:=hide hLo
       have HD2:=hide (HD.out.setR (by omega) j true)
       have hbjt:Hid (bat (r.set j true) (j:Int)=true):=hide (by rw[bat_put _ _ _ (by rw[HR.out.len];exact hjM),if_pos rfl])
       obtain⟨wa,hwa⟩:∃q,wr.setCell ⟨Rb,j,none⟩ (.bool true)=q:=⟨_,rfl⟩
       rw[hwa] at HD2
       obtain⟨r2,hr2e⟩:∃q,r.set j true=q:=⟨_,rfl⟩
       rw[hr2e] at HD2 HR2 HNf2 hbjt
       have HWa:=hide hwa
       obtain⟨mm,hmm⟩:∃q,at_ l (j:Int)=q:=⟨_,rfl⟩
       rw[hmm] at HR2
       have HMm:=hide hmm
       clear hmm hou hmemo hLo hr2 hwa hr2e hbj HN HR HD HNf
       go_upto_region 24 with fail
       rw[HWa.out]
       clear bj bf c0
       have hg0:=HGK.out wa _ _ HD2.out
       obtain⟨b0,b1⟩:=zr2 hg0
       have hgo:=rout_any wa (M:Int) A es L c (j:Int) HL.out ((Eds.below HEw.out (HBK.out wa _ _ HD2.out) (Nat.le_refl _)).more (HBK.out wa _ _ HD2.out).size) hc
       rw[hfr] at hgo
       have HGo:=hide hgo
       clear hgo hfr hg0 HWa
       go_wp2_with fail
       refine HGo.out.mono ?_
       rintro e q1 ⟨A',c',rfl,ho,hbq⟩
       rw[HLo.out] at ho ⊢
       have HDq:=hide (HD2.out.below hbq)
       have HOq:=hide ho
       have haq:wa.heap.size≤q1.heap.size:=hbq.size
       have HD2s:=hide (show D<wa.heap.size∧Rb<wa.heap.size from ⟨HD2.out.row.lt,HD2.out.rb.lt⟩)
       have HOK:=hide (show Below q1.heap.size q1 q1 from Below.refl _ _)
       clear ho hbq b0 b1 HGo HD2
       have HKq:Hid (∀b,wa.heap.size≤b→b<q1.heap.size→q1.heap[b]?=q1.heap[b]?):=hide (fun _ _ _=>rfl)
       have HM0:Hid (at_ l (j:Int)=mm):=HMm
       go_wp2
       go_loopw [15] (fun v15 wr=>∃(k:Nat) (l2:List Int),k≤Lo∧v15 = .int .i64 (k:Int)∧Hid (DW x2 wr D Rb l2 r2)∧Hid (DR es M (S0:Int) l2 r2 (outs.drop k) mm)∧Hid (at_ l2 (j:Int)=mm)∧q1.heap.size≤wr.heap.size∧Hid (∀b,wa.heap.size≤b→b<q1.heap.size→wr.heap[b]?=q1.heap[b]?)) (fun v15 _=>Lo-(intOf v15).toNat)
       case atStart=>exact⟨0,l,by omega,rfl,HDq,HR2,HM0,Nat.le_refl _,hide (fun _ _ _=>rfl)⟩
       case round=>
        clear HDq HR2 HM0 HKq HOK
        obtain⟨k,l2,hk,rfl,HD,HR,HM0,hqs,HKq⟩:=hrel
        by_cases hlt:k<Lo
        ·obtain⟨e,he⟩:∃e,outs[k]?=some e:=⟨_,List.getElem?_eq_getElem (by rw[HLo.out];exact hlt)⟩
         obtain⟨heS,hev⟩:=HMo.out e (List.mem_of_getElem? he)
         have hfit:=HW.out e heS
         have hwb:=HEb.out e heS
         obtain⟨go,rfl,hgo1,hgo2,hgo3⟩:=own_addr HOq.out (by omega)
         have hcc:∀i u5,([.int .i64 e.1,.int .i64 e.2.1,.int .i64 e.2.2]:List Value)[i]?=some u5→wr.cell? ⟨go,k*3+i,none⟩=some u5:=fun i u5 hi=>by
          have hi3:i<3:=by
           have h9:=(List.getElem?_eq_some_iff.1 hi).1
           simpa using h9
          rw[World.cell?_of_block (HKq.out go hgo1 hgo2)]
          exact (HOq.out.cellAt (k*3+i) (by omega)).trans (edFlat_get he i u5 hi)
         have hdr:outs.drop k=e :: outs.drop (k+1):=by
          have h9:=List.drop_eq_getElem_cons (l:=outs) (i:=k) (by rw[HLo.out];exact hlt)
          rw[h9]
          congr 1
          rw[List.getElem?_eq_getElem (by rw[HLo.out];exact hlt)] at he
          injection he
         obtain⟨e1,e2,e3⟩:=e
         have hev2:e1=(j:Int):=hev
         subst hev2
         dsimp only at hfit hwb hcc
         obtain⟨b,rfl⟩:=Int.eq_ofNat_of_zero_le hfit.2.2.1
         have hbM:b<M:=by omega
         have d1:=hcc 1 _ rfl
         have d2:=hcc 2 _ rfl
         have hk0:(0:Int)≤(k:Int):=by omega
         have hk1:(k:Int)<(Lo:Int):=by omega
         have hrx:=HR.out
         rw[hdr] at hrx
         have hrl:=hrx.relax HW.out (by omega) (by omega) heS HM0.out
         have hsl:step l2 ((j:Int),(b:Int),e3)=l2.set b (min (at_ l2 (b:Int)) (dadd mm e3)):=by
          unfold step
          rw[take_min _ _ (dadd_rng _ _).1]
          show l2.set (b:Int).toNat (min (at_ l2 (b:Int)) (dadd (at_ l2 (j:Int)) e3))=_
          rw[HM0.out,Int.toNat_natCast]
         rw[hsl] at hrl
         have HRn:=hide hrl.1
         have HMn:Hid (at_ (l2.set b (min (at_ l2 (b:Int)) (dadd mm e3))) (j:Int)=mm):=hide (by rw[hrl.2 j hjM hbjt.out];exact HM0.out)
         have lb:=HD.out.row.cell (i:=b) (by rw[HR.out.good.len];exact hbM)
         have lj:=HD.out.row.cell (i:=j) (by rw[HR.out.good.len];exact hjM)
         rw[HM0.out] at lj
         have lf:=HD.out.row.frozen b
         have hb0:(0:Int)≤(b:Int):=by omega
         have hb1:(b:Int)<(M:Int):=by omega
         obtain⟨dd,hdd⟩:∃q,dadd mm e3=q:=⟨_,rfl⟩
         obtain⟨X,hX⟩:∃q,at_ l2 (b:Int)=q:=⟨_,rfl⟩
         rw[hdd,hX] at HRn HMn
         rw[hX] at lb
         have HDd:=hide hdd
         have HXe:=hide hX
         obtain⟨Z,hZ⟩:∃q,min X dd=q:=⟨_,rfl⟩
         rw[hZ] at HRn HMn
         have HDn:=hide ((HD.out.drew).setD (by omega) b Z)
         have hDl:D<wr.heap.size:=HD.out.row.lt
         have hgl:go<wr.heap.size:=by omega
         have hDg:D≠go:=by have:=HD2s.out.1;omega
         have HKn:Hid (∀q,wa.heap.size≤q→q<q1.heap.size→(wr.drew.setCell ⟨D,b,none⟩ (.int .i64 Z)).heap[q]?=q1.heap[q]?):=hide (fun q h1 h2=>(Below.heap_setCell _ ⟨D,b,none⟩ _ q (by have:=HD2s.out.1;show q≠D;omega)).trans (HKq.out q h1 h2))
         have hqs2:q1.heap.size≤(wr.drew.setCell ⟨D,b,none⟩ (.int .i64 Z)).heap.size:=by rw[World.size_setCell];exact hqs
         have HZe:=hide hZ
         clear hdd hX hZ hsl hrl hrx hdr hcc heS hfit hwb he hev HD HR HM0 HKq
         by_cases hzx:dd<X
         ·have hZd:Z=dd:=by have:=HZe.out;omega
          subst hZd
          go_upto_region 28 with fail
          refine wpL_region (S:=Kept wr) [26] (by kernel_rfl) (Kept.drew wr) (fun hS0=>?_)
          refine tla 0 93 ?_
          refine tla 1 94 ?_
          refine tla 2 95 ?_
          refine tla 3 96 ?_
          refine tla 4 97 ?_
          refine tla 5 98 ?_
          refine tla 6 99 ?_
          refine tla 7 100 ?_
          refine tla 8 101 ?_
          refine tla 9 102 ?_
          refine tla 10 103 ?_
          refine tla 11 104 ?_
          refine tla 12 105 ?_
          refine tla 13 106 ?_
          refine tla 14 107 ?_
          refine tla 15 108 ?_
          refine tla 16 109 ?_
          refine tla 17 110 ?_
          refine tla 18 111 ?_
          refine tla 19 112 ?_
          refine tla 20 113 ?_
          refine tla 21 114 ?_
          refine tla 22 115 ?_
          refine cl 23 116 fun K hK=>?_
          go_simp
          refine (radd_any _ mm e3).mono ?_
          rintro e y1 ⟨rfl,rfl⟩
          rw[HDd.out]
          go_wp2_with fail
          refine hK.out _ _ hS0 (fun hSn=>?_)
          clear hK K
          try simp only[zqd,zqe,zqf]
          refine tla 24 117 ?_
          refine tla 25 118 ?_
          refine xl 26 fun K hK=>?_
          go_wp2_with fail
          refine hK.out _ _ ?_
          clear hK K
          try simp only[zqd,zqe,zqf]
          refine wpAnyL_done (by kernel_rfl) ?_ _
          clear hS0 hSn lb lj lf d1 d2
          go_wp2
          go_roundw
          case rel=>exact⟨k+1,_,by omega,by go_num,HDn,HRn,HMn,hqs2,HKn⟩
          case measure=>simp[intOf];omega
         have hZd:Z=X:=by have:=HZe.out;omega
         subst hZd
         have hxd:Z≤dd:=by omega
         go_upto_region 28 with fail
         refine wpL_region (S:=Kept wr) [26] (by kernel_rfl) (Kept.drew wr) (fun hS0=>?_)
         refine tla 0 93 ?_
         refine tla 1 94 ?_
         refine tla 2 95 ?_
         refine tla 3 96 ?_
         refine tla 4 97 ?_
         refine tla 5 98 ?_
         refine tla 6 99 ?_
         refine tla 7 100 ?_
         refine tla 8 101 ?_
         refine tla 9 102 ?_
         refine tla 10 103 ?_
         refine tla 11 104 ?_
         refine tla 12 105 ?_
         refine tla 13 106 ?_
         refine tla 14 107 ?_
         refine tla 15 108 ?_
         refine tla 16 109 ?_
         refine tla 17 110 ?_
         refine tla 18 111 ?_
         refine tla 19 112 ?_
         refine tla 20 113 ?_
         refine tla 21 114 ?_
         refine tla 22 115 ?_
         refine cl 23 116 fun K hK=>?_
         go_simp
         refine (radd_any _ mm e3).mono ?_
         rintro e y1 ⟨rfl,rfl⟩
         rw[HDd.out]
         go_wp2_with fail
         refine hK.out _ _ hS0 (fun hSn=>?_)
         clear hK K
         try simp only[zqd,zqe,zqf]
         refine tla 24 117 ?_
         refine tla 25 118 ?_
         refine xl 26 fun K hK=>?_
         go_wp2_with fail
         refine hK.out _ _ ?_
         clear hK K
         try simp only[zqd,zqe,zqf]
         refine wpAnyL_done (by kernel_rfl) ?_ _
         clear hS0 hSn lb lj lf d1 d2
         go_wp2
         go_roundw
         case rel=>exact⟨k+1,_,by omega,by go_num,HDn,HRn,HMn,hqs2,HKn⟩
         case measure=>simp[intOf];omega
        obtain rfl:Lo=k:=by omega
        have hdn:outs.drop Lo=[]:=List.drop_eq_nil_of_le (by rw[HLo.out];exact Nat.le_refl _)
        have HR3:Hid (DR es M (S0:Int) l2 r2 [] mm):=hide (by have h9:=HR.out;rw[hdn] at h9;exact h9)
        clear HR hdn HM0 HKq
        go_wp2
        go_roundw
        case rel=>exact⟨n+1,l2,r2,mm,by omega,by go_num,HD,HR3,HNf2⟩
        case measure=>simp[intOf];omega
     obtain rfl:M=n:=by omega
     have hfl:l=relaxedF (M:Int) es (S0:Int):=HR.out.finish HCk.out (by omega) (by omega) rfl (by have:=HNf.out;omega)
     have hll:l.length=M:=HR.out.good.len
     have HFin:Hid (LPost w 0 l (.returned (.tuple #[.slice (some ⟨D,0,none⟩) M M,.int .i64 0])) wr):=hide ⟨some ⟨D,0,none⟩,M,by rw[hll],by rw[hll];exact HD.out.row.own (by omega) hll (by unfold maxLen;omega),HBK.out wr _ _ HD.out⟩
     rw[hfl] at HFin
     clear hfl hll HD HR HNf
     go_wp2
     refine bodyPost_ret (v:=.tuple #[.slice (some ⟨D,0,none⟩) M M,.int .i64 0]) (by simp[results,Tryz.results18,go_sem]) rfl ?_
     rw[HDe.out,HDl.out]
     exact HFin.out
  have hs2:(M:Int)≤s:=by omega
  have HDe:Hid (distE (M:Int) es s=2):=hide (by unfold distE;rw[if_pos HCk.out,if_neg (by omega)])
  have HDl:Hid (distL (M:Int) es s=[]):=hide (by unfold distL;rw[HDe.out];rfl)
  have HFin:Hid (LPost w 2 [] (.returned (.tuple #[.slice none 0 0,.int .i64 2])) y):=hide ⟨none,0,rfl,World.ownsRow_nil _ _ _ _,HBy.out⟩
  go_wp2
  refine bodyPost_ret (v:=.tuple #[.slice none 0 0,.int .i64 2]) (by simp[results,Tryz.results18,go_sem]) rfl ?_
  rw[HDe.out,HDl.out]
  exact HFin.out
 have hne:¬checkF V es=0:=hchk
 have HDe:Hid (distE V es s=checkF V es):=hide (by unfold distE;rw[if_neg hchk])
 have HDl:Hid (distL V es s=[]):=hide (by unfold distL;rw[HDe.out,if_neg hchk])
 have HFin:Hid (LPost w (checkF V es) [] (.returned (.tuple #[.slice none 0 0,.int .i64 (checkF V es)])) y):=hide ⟨none,0,rfl,World.ownsRow_nil _ _ _ _,HBy.out⟩
 clear hchk
 obtain⟨k,hk⟩:∃k,checkF V es=k:=⟨_,rfl⟩
 rw[hk] at hne HFin ⊢
 have HK:=hide hk
 clear hk
 go_wp2
 refine bodyPost_ret (v:=.tuple #[.slice none 0 0,.int .i64 k]) (by simp[results,Tryz.results18,go_sem]) rfl ?_
 rw[HDl.out,HDe.out,HK.out]
 exact HFin.out
end Go.Proofs.YtgbahnlgblahpaaGreat
