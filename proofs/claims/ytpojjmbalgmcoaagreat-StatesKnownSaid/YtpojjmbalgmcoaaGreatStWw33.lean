/- Lemmas: Lnr, Lpl. -/
import Derived.Lib.OwnBridge
import Derived.Lib.AppendIntMem
import Derived.Lib.Hide
import Derived.WalkSpells
import Derived.WalkMore
import Derived.Test.YtpojjmbalgmcoaaGreatStWw1
import Derived.Test.YtpojjmbalgmcoaaGreatStWw32
set_option linter.unusedVariables false
set_option linter.unusedSimpArgs false
set_option maxRecDepth 100000
set_option maxHeartbeats 16000000
namespace Go.Proofs.YtpojjmbalgmcoaaGreat
open Go.RowKit Go.Sort Go.Lib
def froms (es:List Ed):List Int:=es.map fun e=>e.1
def tos (es:List Ed):List Int:=es.map fun e=>e.2.1
def sortI (l:List Int):List Int:=l.mergeSort fun x y=>decide (x≤y)
def nearF (v:Int) (outs backs:List Ed):List Int:=(Lib.compact (sortI (tos outs ++ froms backs))).filter fun u=>!decide (u=v)
def NearPost (w:World) (l:List Int) (e:Ending) (w':World):Prop:=∃A c,e = .returned (.slice A l.length c)∧w'.ownsRow w.heap.size 3 1 (.slice A l.length c) l.length (l.map (Value.int .i64))∧Below w.heap.size w w'
theorem tos_snoc (es:List Ed) {k:Nat} {e:Ed} (h:es[k]?=some e):(tos (es.take k)).map (Value.int .i64) ++ [.int .i64 e.2.1]=(tos (es.take (k+1))).map (Value.int .i64):=by
 rw[List.take_add_one,h]
 simp[tos]
theorem froms_snoc (a:List Int) (es:List Ed) {k:Nat} {e:Ed} (h:es[k]?=some e):(a ++ froms (es.take k)).map (Value.int .i64) ++ [.int .i64 e.1]=(a ++ froms (es.take (k+1))).map (Value.int .i64):=by
 rw[List.take_add_one,h]
 simp[froms]
theorem sort_len (l:List Int):(sortI l).length=l.length:=by unfold sortI;exact List.length_mergeSort _
theorem near1_gives (lim x:Int) (B:Nat) (W:World) (hc:W.cell? ⟨B,0,none⟩=some (.int .i64 lim)) :
  FnGives Tryz.prog 156 #[.pointer (some ⟨B,0,none⟩)] #[.int .i64 x] (.bool (decide (x=lim))) W:=by
 show Calls Tryz.prog 156 #[.int .i64 x,.pointer (some ⟨B,0,none⟩)] W _
 go_enter Tryz.func156,Tryz.ntmps156
 go_wp2
 all_goals (go_ret;exact⟨ret_b (by rw[Bool.eq_iff_iff];simp),0,rfl⟩)
theorem near1_pred (lim:Int) (B:Nat) (w:World) (hB:B<w.heap.size) (hcell:w.cell? ⟨B,0,none⟩=some (.int .i64 lim)) :
  PredAt Tryz.prog 156 #[.pointer (some ⟨B,0,none⟩)] (Value.int .i64) (fun x=>decide (x=lim)) w:=
 fun W x hb=>near1_gives lim x B W ((hb.cell (p:=⟨B,0,none⟩) hB).trans hcell)
theorem near1_over (lim:Int) (B blk off size:Nat) (w:World) (hB:B<w.heap.size) (hne:B≠blk) (hcell:w.cell? ⟨B,0,none⟩=some (.int .i64 lim)) :
  PredOver Tryz.prog 156 #[.pointer (some ⟨B,0,none⟩)] (Value.int .i64) (fun x=>decide (x=lim)) blk off size w:=
 fun n os dk x _=>near1_gives lim x B _ (by
  unfold sortWorld
  rw[cell?_grow _ _ _ (by show B<(putRow _ _ _ _ _).heap.size;rw[size_putRow];exact hB),cell?_putRow_other _ _ blk off _ _ (Or.inl hne)]
  exact hcell)
theorem delete_empty (a:Option Addr) (c:Nat) (fv:Value) (w:World):Calls Tryz.prog 154 #[.slice a 0 c,fv] w fun e w'=>e = .returned (.slice a 0 c)∧w'=w:=by
 go_enter Tryz.func154,Tryz.ntmps154
 go_wp2_with fail
 refine (sh_slices_IndexFunc_empty (α:=Int) a c fv _).mono ?_
 rintro e y ⟨rfl,rfl⟩
 go_wp2
 go_ret
 exact⟨rfl,rfl⟩
theorem compact_len (l:List Int):(Lib.compact l).length≤l.length:=by
 unfold Lib.compact Lib.compactUpTo
 rw[List.length_map]
 refine Nat.le_trans (List.length_filter_le _ _) ?_
 simp
theorem row_anew {w w':World} {base:Nat} {e:TypeId} {g n c q:Nat} {zs ys:List Int} {os:Array Obj} (k:Nat) (h:w.ownsRow base e 1 (.slice (some ⟨g,0,none⟩) n c) n (zs.map (Value.int .i64))) (hy:ys.length=n) (hk:k≤n)
  (hw:w'=grow (putRow (Value.int .i64) (Sort.ahead w q) g 0 ys.toArray) os):w'.ownsRow base e 1 (.slice (some ⟨g,0,none⟩) k c) k ((ys.take k).map (Value.int .i64))∧Below base w w':=by
 have h1:=ownsRow_putRow (enc:=Value.int .i64) (q:=q) h hy hk
 have h2:=ownsRow_grow h1 0 os
 have hg:=h.lt g rfl
 subst hw
 refine⟨h2,?_⟩
 have hb:=below_putRow (enc:=Value.int .i64) (q:=q) (d:=ys.toArray) (Below.refl base w) hg.1
 have hs:(putRow (Value.int .i64) (Sort.ahead w q) g 0 ys.toArray).heap.size=w.heap.size:=by rw[size_putRow];rfl
 exact hb.trans (below_grow base _ (by rw[hs];omega) 0 os)
theorem holds_own {w:World} {base:Nat} {e:TypeId} {g n c:Nat} {zs:List Int} (h:w.ownsRow base e 1 (.slice (some ⟨g,0,none⟩) n c) n (zs.map (Value.int .i64))):Holds (Value.int .i64) w g 0 zs.toArray:=by
 obtain⟨g2,cap2,hv2,_,_,_,_,_,hH⟩:=holds_of_ownsRow (zs:=zs) h (fun e=>by cases e)
 injection hv2 with hv2 _ hv3
 injection hv2 with hv2
 injection hv2 with hv2
 subst hv2
 exact hH
theorem near_any (w:World) (v:Int) (A1 A2:Option Addr) (outs backs:List Ed) (n1 c1 n2 c2:Nat) (h1:outs.length=n1) (h2:backs.length=n2) (hn1:n1≤10000) (hn2:n2≤10000) (e1:Eds w w.heap.size A1 outs) (e2:Eds w w.heap.size A2 backs) :
  Calls Tryz.prog 151 #[.int .i64 v,.slice A1 n1 c1,.slice A2 n2 c2] w (NearPost w (nearF v outs backs)):=by
 obtain⟨i0,hi0,hz0,hz1,hz2⟩:=info_parts (show (Tryz.prog.info? 3).map (fun i=>(i.zero,i.size,i.bytes))=some (some (.int .i64 0),1,8) by kernel_rfl)
 obtain⟨u,hu⟩:∃u,w.alloc (.cells #[.int .i64 v] 3)=u:=⟨_,rfl⟩
 have hzu:u.heap.size=w.heap.size+1:=by rw[←hu];simp
 have hbu:Below w.heap.size w u:=by rw[←hu];exact (Below.refl _ _).alloc (Nat.le_refl _) _
 have cu:u.heap[w.heap.size]?=some (.cells #[.int .i64 v] 3):=by rw[←hu];exact heap_alloc_last w _
 have cv:u.cell? ⟨w.heap.size,0,none⟩=some (.int .i64 v):=cell_of_row _ _ 0 _ _ _ cu
 have E1:=hide (e1.below hbu (Nat.le_refl _))
 have E2:=hide (e2.below hbu (Nat.le_refl _))
 have HU:=hide hu
 have HBU:=hide hbu
 have HZU:=hide hzu
 have HL1:=hide h1
 have HL2:=hide h2
 have CV:=hide cv
 clear hu hbu hzu e1 e2 h1 h2 cu cv
 go_enter Tryz.func151,Tryz.ntmps151
 go_wp2
 rw[HU.out]
 go_loopw [7,14] (fun v7 vi wr=>∃(k:Nat) (A:Option Addr) (c:Nat),k≤n1∧vi = .int .i64 k∧v7 = .slice A k c∧Hid (wr.ownsRow u.heap.size 3 1 (.slice A k c) k ((tos (outs.take k)).map (Value.int .i64)))∧Below u.heap.size u wr) (fun _ vi _=>n1-(intOf vi).toNat)
 case atStart=>exact⟨0,none,0,by omega,rfl,rfl,hide (World.ownsRow_nil _ _ _ _),Below.refl _ _⟩
 case round=>
  obtain⟨k,A,c,hk,rfl,rfl,hown,hbw⟩:=hrel
  have hs:=hbw.size
  by_cases hlt:k<n1
  ·obtain⟨e,he⟩:∃e,outs[k]?=some e:=⟨_,List.getElem?_eq_getElem (by rw[HL1.out];exact hlt)⟩
   have hsn:=hide (tos_snoc outs he)
   obtain⟨b,off,rfl,hbl,c0,c1',c2',_,_⟩:=Eds.get E1.out he
   obtain⟨f,t,x⟩:=e
   dsimp only at c0 c1' c2' hsn
   have hz9:=HZU.out
   have k0:=(hbw.cell (p:=⟨b,off+k*3,none⟩) (by show b<_;omega)).trans c0
   have k1:=(hbw.cell (p:=⟨b,off+k*3+1,none⟩) (by show b<_;omega)).trans c1'
   have k2:=(hbw.cell (p:=⟨b,off+k*3+2,none⟩) (by show b<_;omega)).trans c2'
   have hI0:(0:Int)≤(k:Int):=by omega
   have hI1:(k:Int)<(n1:Int):=by omega
   have HBW:=hide hbw
   clear he c0 c1' c2' hbw
   go_wp2_with (at_builtin;refine wpList_app rfl (.tmp 18) (.tmp 21) 40 rfl u.heap.size 3 i0 (.int .i64 0) 1 8 Tryz.underlying40 hi0 hz0 hz1 hz2 rfl (by decide) (.slice A k c) k _ rfl ((hown.out.alloc _).alloc _) (wr.heap.size+2) (some ⟨wr.heap.size+1,0,none⟩) 1 1 [.int .i64 t] rfl rfl (by have h:=Rd.new (wr.alloc (.cells #[.int .i64 f,.int .i64 t,.int .i64 x] 57)) #[.int .i64 t] 3 (0,0);rw[World.size_alloc] at h;exact h) (by simp[Value.oneCell']) (by unfold maxLen;omega) (by omega) (by simp;omega) ?_;intro A' c' w1 hown1 hg1 hat1)
   rw[hsn.out] at hown1
   have hb1:=app_below ((HBW.out.alloc hs _).alloc (by simp;omega) _) ((hown.out.alloc _).alloc _) hg1 (by simp;omega) (Nat.le_refl _)
   have HOwn:=hide hown1
   clear hown hg1 hat1 hown1 k0 k1 k2
   go_wp2
   go_roundw
   case rel=>exact⟨k+1,A',c',by omega,by go_num,rfl,HOwn,hb1⟩
   case measure=>simp[intOf];omega
  obtain rfl:k=n1:=by omega
  obtain⟨a,ha⟩:∃a,tos outs=a:=⟨_,rfl⟩
  have hta:tos (outs.take k)=a:=by rw[List.take_of_length_le (by have:=HL1.out;omega),ha]
  rw[hta] at hown
  have HA:=hide ha
  clear ha hta
  go_wp2
  obtain⟨wo,hwo⟩:∃wo,wr=wo:=⟨_,rfl⟩
  subst hwo
  go_loopw [7,26] (fun v7 vi wr=>∃(j:Nat) (A:Option Addr) (c:Nat),j≤n2∧vi = .int .i64 j∧v7 = .slice A (k+j) c∧Hid (wr.ownsRow u.heap.size 3 1 (.slice A (k+j) c) (k+j) ((a ++ froms (backs.take j)).map (Value.int .i64)))∧Below u.heap.size u wr) (fun _ vi _=>n2-(intOf vi).toNat)
  case atStart=>exact⟨0,A,c,by omega,rfl,rfl,hide (by simpa [froms] using hown.out),hbw⟩
  case round=>
   clear hown hbw hs
   obtain⟨j,A',c',hj,rfl,rfl,hown,hbw⟩:=hrel
   have hs:=hbw.size
   by_cases hlt2:j<n2
   ·obtain⟨e,he⟩:∃e,backs[j]?=some e:=⟨_,List.getElem?_eq_getElem (by rw[HL2.out];exact hlt2)⟩
    have hsn:=hide (froms_snoc a backs he)
    obtain⟨b,off,rfl,hbl,c0,c1',c2',_,_⟩:=Eds.get E2.out he
    obtain⟨f,t,x⟩:=e
    dsimp only at c0 c1' c2' hsn
    have hz9:=HZU.out
    have k0:=(hbw.cell (p:=⟨b,off+j*3,none⟩) (by show b<_;omega)).trans c0
    have k1:=(hbw.cell (p:=⟨b,off+j*3+1,none⟩) (by show b<_;omega)).trans c1'
    have k2:=(hbw.cell (p:=⟨b,off+j*3+2,none⟩) (by show b<_;omega)).trans c2'
    have hI0:(0:Int)≤(j:Int):=by omega
    have hI1:(j:Int)<(n2:Int):=by omega
    have HBW:=hide hbw
    clear he c0 c1' c2' hbw
    go_wp2_with (at_builtin;refine wpList_app rfl (.tmp 30) (.tmp 33) 40 rfl u.heap.size 3 i0 (.int .i64 0) 1 8 Tryz.underlying40 hi0 hz0 hz1 hz2 rfl (by decide) (.slice A' (k+j) c') (k+j) _ rfl ((hown.out.alloc _).alloc _) (wr.heap.size+2) (some ⟨wr.heap.size+1,0,none⟩) 1 1 [.int .i64 f] rfl rfl (by have h:=Rd.new (wr.alloc (.cells #[.int .i64 f,.int .i64 t,.int .i64 x] 57)) #[.int .i64 f] 3 (0,0);rw[World.size_alloc] at h;exact h) (by simp[Value.oneCell']) (by unfold maxLen;omega) (by omega) (by simp;omega) ?_;intro A3 c3 w1 hown1 hg1 hat1)
    rw[hsn.out] at hown1
    have hb1:=app_below ((HBW.out.alloc hs _).alloc (by simp;omega) _) ((hown.out.alloc _).alloc _) hg1 (by simp;omega) (Nat.le_refl _)
    have HOwn:=hide hown1
    clear hown hg1 hat1 hown1 k0 k1 k2
    go_wp2
    go_roundw
    case rel=>exact⟨j+1,A3,c3,by omega,by go_num,rfl,HOwn,hb1⟩
    case measure=>simp[intOf];omega
   obtain rfl:j=n2:=by omega
   obtain⟨L,hL⟩:∃L,a ++ froms backs=L:=⟨_,rfl⟩
   have htb:froms (backs.take j)=froms backs:=by rw[List.take_of_length_le (by have:=HL2.out;omega)]
   rw[htb,hL] at hown
   obtain⟨n,hn⟩:∃n,k+j=n:=⟨_,rfl⟩
   rw[hn] at hown
   have hln:L.length=n:=by have:=hown.out.1;simpa using this
   have HNear:Hid (nearF v outs backs=(Lib.compact (sortI L)).filter fun u=>!decide (u=v)):=hide (by rw[nearF,HA.out,hL])
   have HLn:=hide hln
   have hcap:=own_cap hown.out
   have hn20:n≤20000:=by omega
   have HBW:=hide hbw
   simp only[hn]
   clear hL htb hn hln hbw
   rcases Nat.eq_zero_or_pos n with hn0 | hn0
   ·subst hn0
    have hL0:L=[]:=List.eq_nil_of_length_eq_zero HLn.out
    have HFin:Hid (NearPost w (nearF v outs backs) (.returned (.slice A' 0 c')) wr):=hide (by
     have hnil:nearF v outs backs=[]:=by rw[HNear.out,hL0];simp[sortI,compact,compactUpTo]
     rw[hnil]
     have ho:=hown.out
     rw[hL0] at ho
     exact⟨A',c',rfl,own_base ho (by have:=HZU.out;omega),HBU.out.trans (HBW.out.mono (by have:=HZU.out;omega))⟩)
    go_wp2_with fail
    refine (sh_slices_Sort_int_none A' c' _).mono ?_
    rintro e y ⟨rfl,rfl⟩
    go_wp2_with fail
    refine (sh_slices_Compact_int_empty A' c' _).mono ?_
    rintro e y ⟨rfl,rfl⟩
    go_wp2_with fail
    refine (delete_empty A' c' _ _).mono ?_
    rintro e y ⟨rfl,rfl⟩
    go_wp2
    go_ret
    exact HFin.out
   obtain⟨g,rfl,hgb,hgl,hgc⟩:=own_addr hown.out hn0
   obtain⟨g2,cap2,hv2,_,_,_,_,_,hH⟩:=holds_of_ownsRow (zs:=L) hown.out (fun e=>by cases e)
   injection hv2 with hv2 _ hv3
   subst hv3
   injection hv2 with hv2
   injection hv2 with hv2
   subst hv2
   have HH:=hide hH
   have hcs:=HBW.out.size
   have hz9:=HZU.out
   obtain⟨S,hS⟩:∃S,sortI L=S:=⟨_,rfl⟩
   have hSl:S.length=n:=by rw[←hS,sort_len];exact HLn.out
   have HS:=hide hS
   have HSl:=hide hSl
   obtain⟨C,hC⟩:∃C,Lib.compact S=C:=⟨_,rfl⟩
   have hCl:C.length≤n:=by rw[←hC,←hSl];exact compact_len S
   have HC:=hide hC
   have HCl:=hide hCl
   obtain⟨D,hD⟩:∃D,(C.filter fun u=>!decide (u=v))=D:=⟨_,rfl⟩
   have hDl:D.length≤C.length:=by rw[←hD];exact List.length_filter_le _ _
   have HD:=hide hD
   have HDl:=hide hDl
   have HN2:Hid (nearF v outs backs=D):=hide (by rw[HNear.out,hS,hC,hD])
   clear hH hS hSl hC hCl hD hDl
   have cvw:wr.cell? ⟨w.heap.size,0,none⟩=some (.int .i64 v):=(HBW.out.cell (p:=⟨w.heap.size,0,none⟩) (by show w.heap.size<u.heap.size;omega)).trans CV.out
   have hsort:=sh_slices_Sort_int g 0 c' L wr HH.out hgl (by have:=HLn.out;omega)
   rw[HLn.out] at hsort
   have HSort:=hide hsort
   clear hsort
   go_wp2_with fail
   refine HSort.out.mono ?_
   rintro e y ⟨rfl,q,os,hy⟩
   obtain⟨hown1,hb1⟩:=row_anew n hown.out (ys:=L.mergeSort fun x y=>decide (x≤y)) (by rw[List.length_mergeSort];exact HLn.out) (Nat.le_refl _) hy
   rw[List.take_of_length_le (by rw[List.length_mergeSort];have:=HLn.out;omega)] at hown1
   change y.ownsRow u.heap.size 3 1 (.slice (some ⟨g,0,none⟩) n c') n ((sortI L).map (Value.int .i64)) at hown1
   rw[HS.out] at hown1
   have HOwn1:=hide hown1
   have HB1:=hide hb1
   have hS3:S.length≤9223372036854775807:=by have:=HSl.out;omega
   have hS4:S.length≤c':=by have:=HSl.out;omega
   have hcomp:=sh_slices_Compact_int g 0 c' S y (holds_own hown1) hS3 hS4
   clear hS3 hS4
   rw[HSl.out,HC.out] at hcomp
   have HComp:=hide hcomp
   clear hcomp hown1 hb1 hy cvw
   go_wp2_with fail
   refine HComp.out.mono ?_
   rintro e y2 ⟨rfl,q2,hy2⟩
   obtain⟨hown2,hb2⟩:=row_anew (w':=y2) (q:=q2) (os:=#[]) C.length HOwn1.out (ys:=C ++ List.replicate (n-C.length) 0) (by rw[List.length_append,List.length_replicate];have:=HCl.out;omega) HCl.out (by rw[grow_empty];exact hy2)
   rw[List.take_left] at hown2
   have HOwn2:=hide hown2
   have HB2:=hide hb2
   have cv2:y2.cell? ⟨w.heap.size,0,none⟩=some (.int .i64 v):=(hb2.cell (p:=⟨w.heap.size,0,none⟩) (by show w.heap.size<u.heap.size;omega)).trans ((HB1.out.cell (p:=⟨w.heap.size,0,none⟩) (by show w.heap.size<u.heap.size;omega)).trans ((HBW.out.cell (p:=⟨w.heap.size,0,none⟩) (by show w.heap.size<u.heap.size;omega)).trans CV.out))
   have hs2:w.heap.size<y2.heap.size:=by have:=HB1.out.size;have:=hb2.size;omega
   have hdel:=sh_slices_DeleteFunc (Value.int .i64) (fun _=>rfl) (fun x=>decide (x=v)) 156 #[.pointer (some ⟨w.heap.size,0,none⟩)] (enters_of Tryz.func156 (by kernel_rfl) rfl) 0 Tryz.zeroValue3 g 0 c' C.toArray y2 (near1_pred v w.heap.size y2 hs2 cv2) (near1_over v w.heap.size g 0 C.toArray.size y2 hs2 (by omega) cv2) (holds_own hown2) (by rw[List.size_toArray];have:=HCl.out;omega) (by rw[List.size_toArray];have:=HCl.out;omega)
   rw[List.size_toArray,List.toList_toArray,HD.out] at hdel
   have HDel:=hide hdel
   clear hdel hown2 hb2 hy2 cv2
   go_wp2_with fail
   refine HDel.out.mono ?_
   rintro e y3 ⟨rfl,q3,hy3⟩
   obtain⟨hown3,hb3⟩:=row_anew (w':=y3) (q:=q3) (os:=#[]) D.length HOwn2.out (ys:=D ++ List.replicate (C.length-D.length) 0) (by rw[List.length_append,List.length_replicate];have:=HDl.out;omega) HDl.out (by rw[grow_empty];exact hy3)
   rw[List.take_left] at hown3
   have HFin:Hid (NearPost w (nearF v outs backs) (.returned (.slice (some ⟨g,0,none⟩) D.length c')) y3):=hide (by
    rw[HN2.out]
    exact⟨_,c',rfl,own_base hown3 (by omega),HBU.out.trans ((((HBW.out.trans HB1.out).trans HB2.out).trans hb3).mono (by omega))⟩)
   clear hown3 hb3 hy3
   go_wp2
   go_ret
   exact HFin.out
end Go.Proofs.YtpojjmbalgmcoaaGreat
namespace Go.Proofs.YtpojjmbalgmcoaaGreat
open Go.Lib
abbrev Up (l:List Int):Prop:=l.Pairwise (· < ·)
theorem sort_up (l:List Int):(sortI l).Pairwise (·≤·):=by
 unfold sortI
 have h:=List.pairwise_mergeSort (le:=fun (x y:Int)=>decide (x≤y)) (fun a b c h1 h2=>by simp at h1 h2 ⊢;omega) (fun a b=>by simp;omega) l
 exact h.imp (fun h=>by simpa using h)
theorem get_bang {l:List Int} {j:Nat} (h:j<l.length):l.toArray[j]! = l[j]:=by simp[h]
theorem compact_spec {l:List Int} (hs:l.Pairwise (·≤·)):Up (Lib.compact l)∧∀x,x∈Lib.compact l↔x∈l:=by
 have hle:∀i j,(hij:i≤j)→(hj:j<l.length)→l[i]'(by omega)≤l[j]:=fun i j hij hj=>by
  rcases Nat.lt_or_eq_of_le hij with h | h
  ·exact List.pairwise_iff_getElem.1 hs i j (by omega) hj h
  subst h;exact Int.le_refl _
 constructor
 ·unfold Lib.compact Lib.compactUpTo Up
  rw[List.pairwise_map]
  have hr:((List.range l.length).filter (Lib.keeps l.toArray)).Pairwise (· < ·):=List.pairwise_lt_range.sublist List.filter_sublist
  refine hr.imp_of_mem (fun {i j} hi hj hij=>?_)
  have hij2:i<j:=hij
  have hj1:=List.mem_filter.1 hj
  have hjl:j<l.length:=by simpa using hj1.1
  have hk:=hj1.2
  unfold Lib.keeps at hk
  rw[get_bang hjl,get_bang (show i<l.length by omega)]
  rw[get_bang hjl,get_bang (show j-1<l.length by omega)] at hk
  have hk2:=of_decide_eq_true hk
  have h1:=hle i (j-1) (by omega) (by omega)
  have h2:=hle (j-1) j (by omega) hjl
  rcases hk2 with h | h
  ·omega
  omega
 intro x
 unfold Lib.compact Lib.compactUpTo
 rw[List.mem_map]
 constructor
 ·rintro ⟨j,hj,rfl⟩
  have hjl:j<l.length:=by simpa using (List.mem_filter.1 hj).1
  rw[get_bang hjl]
  exact List.getElem_mem _
 intro hx
 obtain⟨i,hi,he⟩:=List.getElem_of_mem hx
 -- the first place at which it stands
 have:∀n,∀i (hi:i<l.length),i≤n→l[i]=x→∃j,j∈(List.range l.length).filter (Lib.keeps l.toArray)∧l.toArray[j]! = x:=by
  intro n
  induction n with
  | zero=>
   intro i hi h0 he
   obtain rfl:i=0:=by omega
   exact⟨0,List.mem_filter.2 ⟨by simpa using hi,by simp[Lib.keeps]⟩,by rw[get_bang hi,he]⟩
  | succ n ih=>
   intro i hi hn he
   by_cases hk:Lib.keeps l.toArray i=true
   ·exact⟨i,List.mem_filter.2 ⟨by simpa using hi,hk⟩,by rw[get_bang hi,he]⟩
   unfold Lib.keeps at hk
   rw[decide_eq_true_eq] at hk
   have h0:i≠0:=fun h=>hk (.inl h)
   have h1:l.toArray[i]! = l.toArray[i-1]!:=Classical.byContradiction fun h=>hk (.inr h)
   rw[get_bang hi,get_bang (show i-1<l.length by omega)] at h1
   exact ih (i-1) (by omega) (by omega) (by rw[←h1,he])
 exact this i i hi (Nat.le_refl _) he
end Go.Proofs.YtpojjmbalgmcoaaGreat
