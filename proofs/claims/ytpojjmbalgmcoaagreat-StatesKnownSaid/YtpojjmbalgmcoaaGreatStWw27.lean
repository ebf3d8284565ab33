/- Lemmas: Rge. -/
import Derived.Deep.DeepCutAuto
import Derived.Deep.CutBlock
import Derived.Test.YtpojjmbalgmcoaaGreatStWw19
set_option linter.unusedVariables false
set_option linter.unusedSimpArgs false
set_option maxRecDepth 100000
set_option maxHeartbeats 16000000
namespace Go.Proofs.YtpojjmbalgmcoaaGreat
open Go.RowKit
theorem get_okO {w f:World} {bs:List UInt8} {p:SPart} {no nv nc ni:Nat} {Ao:Option Addr} {co:Nat} {Av:Option Addr} {cv:Nat} {Ac:Option Addr} {cc:Nat} {Ai:Option Addr} {ci:Nat} (hn:getF bs=some p) (hl:SLen p no nv nc ni) (hno:no≤65535) (hi:SIn f p Ao Av Ac Ai) (hb:Below w.heap.size w f):GetPost w (getP bs) (getE bs) (.returned (.tuple #[.agg #[.int .i64 p.step,.slice Ao no co,.slice Av nv cv,.slice Ac nc cc,.slice Ai ni ci],.int .i64 0])) f:=by
 unfold getP getE
 rw[hn]
 exact⟨no,nv,nc,ni,Ao,co,Av,cv,Ac,cc,Ai,ci,hl,hno,rfl,hi,hb⟩
theorem rget_any (w:World) (A0:Option Addr) (bs:List UInt8) (L c:Nat) (hL:bs.length=L) (hR:Rd w w.heap.size A0 (u8s bs)) (hl:L≤1000000) :
  Calls Tryz.prog 32 #[.slice A0 L c] w (GetPost w (getP bs) (getE bs)):=by
 obtain⟨a0,a0i,a0z,a0s,a0b⟩:=info_parts (show (Tryz.prog.info? 3).map (fun i=>(i.zero,i.size,i.bytes))=some (some (.int .i64 0),1,8) by kernel_rfl)
 obtain⟨a1,a1i,a1z,a1s,a1b⟩:=info_parts (show (Tryz.prog.info? 2).map (fun i=>(i.zero,i.size,i.bytes))=some (some (.int .i64 0),1,8) by kernel_rfl)
 obtain⟨a2,a2i,a2z,a2s,a2b⟩:=info_parts (show (Tryz.prog.info? 4).map (fun i=>(i.zero,i.size,i.bytes))=some (some (.bool false),1,1) by kernel_rfl)
 obtain⟨a3,a3i,a3z,a3s,a3b⟩:=info_parts (show (Tryz.prog.info? 51).map (fun i=>(i.zero,i.size,i.bytes))=some (some (.agg #[.bool false,.int .i64 0]),2,16) by kernel_rfl)
 obtain⟨u0,hu0⟩:∃u0,w.alloc (.cells #[.int .i64 0,.slice none 0 0,.slice none 0 0,.slice none 0 0,.slice none 0 0] 64)=u0:=⟨_,rfl⟩
 have hzu:w.heap.size<u0.heap.size:=by rw[←hu0];simp
 have hbu:Hid (Below w.heap.size w u0):=hide (by rw[←hu0];exact (Below.refl _ _).alloc (Nat.le_refl _) _)
 have hcu:Hid (u0.heap[w.heap.size]?=some (.cells #[.int .i64 0,.slice none 0 0,.slice none 0 0,.slice none 0 0,.slice none 0 0] 64)):=hide (by rw[←hu0];exact heap_alloc_last w _)
 have HR0:=hide (hR.next hbu.out)
 have HRw:=hide hR
 have HU:=hide hu0
 have HL:=hide hL
 clear hu0 hR hL
 go_enter Tryz.func32,Tryz.ntmps32
 go_upto_region 1 with fail
 rw[HU.out]
 by_cases h6:L<6
 ·have HN:=hide (getF_short (bs:=bs) (by rw[HL.out];exact h6))
  have ZW:=hcu
  have HBf:=hbu
  by_cases h4:L<4
  ·go_wp2_with fail
   refine (rread_no _ A0 bs L c (0) 4 _ _ (by omega) (by omega) HL.out hl (by omega) (by omega) (by omega)).mono ?_
   rintro e w9 ⟨rfl,rfl⟩
   go_wp2_with fail
   refine (rread_no _ A0 bs L c (4) 2 _ _ (by omega) (by omega) HL.out hl (by omega) (by omega) (by omega)).mono ?_
   rintro e w9 ⟨rfl,rfl⟩
   obtain⟨z0,z1,z2,z3,z4⟩:=zr5 ZW.out
   have zq:=zf ZW.out;have zf0:=zq 0;have zf1:=zq 1;have zf2:=zq 2;have zf3:=zq 3;have zf4:=zq 4;clear zq
   have HFin:=hide (zero_fin ZW.out HBf.out)
   go_wp2
   obtain⟨f,hf,hfB,h6⟩:=HFin.out
   rw[hf]
   obtain⟨y0,y1,y2,y3,y4⟩:=zr5 h6
   exact bodyPost_ret (v:=.tuple #[.agg #[.int .i64 0,.slice none 0 0,.slice none 0 0,.slice none 0 0,.slice none 0 0],.int .i64 140]) (by simp[results,Tryz.results32,go_sem,y0,y1,y2,y3,y4]) rfl (get_bad HN.out hfB).old
  go_wp2_with fail
  refine (rread_ok _ A0 bs L c (0) 4 _ _ (by omega) (by omega) HL.out hl HR0.out (by omega) (by omega)).mono ?_
  rintro e w9 ⟨rfl,rfl⟩
  go_wp2_with fail
  refine (rread_no _ A0 bs L c (4) 2 _ _ (by omega) (by omega) HL.out hl (by omega) (by omega) (by omega)).mono ?_
  rintro e w9 ⟨rfl,rfl⟩
  obtain⟨z0,z1,z2,z3,z4⟩:=zr5 ZW.out
  have zq:=zf ZW.out;have zf0:=zq 0;have zf1:=zq 1;have zf2:=zq 2;have zf3:=zq 3;have zf4:=zq 4;clear zq
  have HFin:=hide (zero_fin ZW.out HBf.out)
  go_wp2
  obtain⟨f,hf,hfB,h6⟩:=HFin.out
  rw[hf]
  obtain⟨y0,y1,y2,y3,y4⟩:=zr5 h6
  exact bodyPost_ret (v:=.tuple #[.agg #[.int .i64 0,.slice none 0 0,.slice none 0 0,.slice none 0 0,.slice none 0 0],.int .i64 140]) (by simp[results,Tryz.results32,go_sem,y0,y1,y2,y3,y4]) rfl (get_bad HN.out hfB).old
 go_wp2_with fail
 refine (rread_ok _ A0 bs L c (0) 4 _ _ (by omega) (by omega) HL.out hl HR0.out (by omega) (by omega)).mono ?_
 rintro e w9 ⟨rfl,rfl⟩
 rw[List.drop_zero]
 obtain⟨m,hm⟩:∃z,rz.num (bs.take 4)=z:=⟨_,rfl⟩
 have mlt:m<4294967296:=by rw[←hm];exact num_lt_of (k:=4) (by rw[List.length_take];omega)
 rw[hm]
 go_wp2_with fail
 refine (rread_ok _ A0 bs L c (4) 2 _ _ (by omega) (by omega) HL.out hl HR0.out (by omega) (by omega)).mono ?_
 rintro e w9 ⟨rfl,rfl⟩
 obtain⟨n,hn⟩:∃z,rz.num ((bs.drop 4).take 2)=z:=⟨_,rfl⟩
 have nlt:n<65536:=by rw[←hn];exact num_lt_of (k:=2) (by rw[List.length_take];omega)
 rw[hn]
 have HM:=hide hm
 have HNn:=hide hn
 have HGo:=hide (Going.start n (bs:=bs) (by rw[HL.out];omega))
 have HH6:Hid (6≤bs.length):=hide (by rw[HL.out];omega)
 clear hm hn h6
 go_upto_region 6 with fail
 obtain⟨v0,hv0⟩:∃z,u0.alloc (.cells #[.int .i64 (m:Int),.slice none 0 0,.slice none 0 0,.slice none 0 0,.slice none 0 0] 64)=z:=⟨_,rfl⟩
 rw[hv0]
 obtain⟨bp,hbp⟩:∃z,u0.heap.size=z:=⟨_,rfl⟩
 have hbv:bp<v0.heap.size:=by rw[←hv0,←hbp];simp
 have HPv:Hid (v0.heap[bp]?=some (.cells #[.int .i64 (m:Int),.slice none 0 0,.slice none 0 0,.slice none 0 0,.slice none 0 0] 64)):=hide (by rw[←hv0,←hbp];exact heap_alloc_last _ _)
 have HBv:Hid (Below w.heap.size w v0):=hide (by rw[←hv0];exact hbu.out.alloc hbu.out.size _)
 have HZ0:=hide ((show v0.heap[w.heap.size]?=u0.heap[w.heap.size]? by rw[←hv0];exact Below.heap_alloc _ _ _ hzu).trans hcu.out)
 rw[hbp] at hzu ⊢
 clear hv0 hbp
 have G0:Hid (GetSt [bp] v0 w bp 64 (m:Int) [] [] [] [] none 0 none 0 none 0 none 0 0 0 0 0 v0):=hide ⟨HPv.out,World.ownsRow_nil _ _ _ _,World.ownsRow_nil _ _ _ _,World.ownsRow_nil _ _ _ _,World.ownsRow_nil _ _ _ _,KB.refl _ _,HBv.out⟩
 have hHv:w.heap.size<v0.heap.size:=by omega
 have HHX:Hid (w.heap.size∉[bp]):=hide (by simp;omega)
 have hwbp:w.heap.size≤bp:=by omega
 have hwv:w.heap.size≤v0.heap.size:=by omega
 clear HPv HBv
 go_wp2
 go_loopw [9,10] (fun v9 v10 wr=>∃(k s:Nat) (rs:List VRow) (own vals:List Int) (chg:List Bool) (inb:List Ml) (Ao:Option Addr) (co:Nat) (Av:Option Addr) (cv:Nat) (Ac:Option Addr) (cc:Nat) (Ai:Option Addr) (ci:Nat),k≤n∧v9 = .int .i64 (s:Int)∧v10 = .int .u64 (k:Int)∧Hid (Going bs n k s rs)∧Hid (PartsOf rs own vals chg inb)∧Hid (GetSt [bp] v0 w bp 64 (m:Int) own vals chg inb Ao co Av cv Ac cc Ai ci k k k k wr)) (fun _ v10 _=>n-(intOf v10).toNat)
 case atStart=>exact⟨0,6,[],[],[],[],[],none,0,none,0,none,0,none,0,by omega,rfl,rfl,HGo,hide ⟨rfl,rfl,rfl,rfl⟩,G0⟩
 case round=>
  clear HGo G0
  obtain⟨k,s,rs,own,vals,chg,inb,Ao,co,Av,cv,Ac,cc,Ai,ci,hk,rfl,rfl,HG,HPO,GR⟩:=hrel
  have hsb:s≤L:=by rw[←HL.out];exact HG.out.2.2.1
  have srw:v0.heap.size≤wr.heap.size:=GR.out.kb.1
  have HRr:=hide (Rd.more (HRw.out.below GR.out.bl) (show w.heap.size≤wr.heap.size by omega))
  have HLen:=hide (show (bs.drop s).length=L-s by rw[List.length_drop,HL.out])
  by_cases hkn:k<n
  ·by_cases h11:L<s+11
   ·have HN:=hide (getF_none HNn.out (HG.out.none_ hkn (by unfold rowP;rw[if_pos (by rw[HLen.out];omega)])))
    have ZW:=hide ((GR.out.kb.2 _ hHv HHX.out).trans HZ0.out)
    have HBf:=hide GR.out.bl
    by_cases g2:L<s+2
    ·go_wp2_with fail
     refine (rread_no _ A0 bs L c (s) 2 _ _ (by omega) (by omega) HL.out hl (by omega) (by omega) (by omega)).mono ?_
     rintro e w9 ⟨rfl,rfl⟩
     go_wp2_with fail
     refine (rread_no _ A0 bs L c (s+2) 8 _ _ (by omega) (by omega) HL.out hl (by omega) (by omega) (by omega)).mono ?_
     rintro e w9 ⟨rfl,rfl⟩
     go_wp2_with fail
     refine (rread_no _ A0 bs L c (s+10) 1 _ _ (by omega) (by omega) HL.out hl (by omega) (by omega) (by omega)).mono ?_
     rintro e w9 ⟨rfl,rfl⟩
     obtain⟨z0,z1,z2,z3,z4⟩:=zr5 ZW.out
     have zq:=zf ZW.out;have zf0:=zq 0;have zf1:=zq 1;have zf2:=zq 2;have zf3:=zq 3;have zf4:=zq 4;clear zq
     have HFin:=hide (zero_fin ZW.out HBf.out)
     go_wp2
     obtain⟨f,hf,hfB,h6⟩:=HFin.out
     rw[hf]
     obtain⟨y0,y1,y2,y3,y4⟩:=zr5 h6
     exact bodyPost_ret (v:=.tuple #[.agg #[.int .i64 0,.slice none 0 0,.slice none 0 0,.slice none 0 0,.slice none 0 0],.int .i64 140]) (by simp[results,Tryz.results32,go_sem,y0,y1,y2,y3,y4]) rfl (get_bad HN.out hfB).old
    by_cases g10:L<s+10
    ·go_wp2_with fail
     refine (rread_ok _ A0 bs L c (s) 2 _ _ (by omega) (by omega) HL.out hl HRr.out (by omega) (by omega)).mono ?_
     rintro e w9 ⟨rfl,rfl⟩
     go_wp2_with fail
     refine (rread_no _ A0 bs L c (s+2) 8 _ _ (by omega) (by omega) HL.out hl (by omega) (by omega) (by omega)).mono ?_
     rintro e w9 ⟨rfl,rfl⟩
     go_wp2_with fail
     refine (rread_no _ A0 bs L c (s+10) 1 _ _ (by omega) (by omega) HL.out hl (by omega) (by omega) (by omega)).mono ?_
     rintro e w9 ⟨rfl,rfl⟩
     obtain⟨z0,z1,z2,z3,z4⟩:=zr5 ZW.out
     have zq:=zf ZW.out;have zf0:=zq 0;have zf1:=zq 1;have zf2:=zq 2;have zf3:=zq 3;have zf4:=zq 4;clear zq
     have HFin:=hide (zero_fin ZW.out HBf.out)
     go_wp2
     obtain⟨f,hf,hfB,h6⟩:=HFin.out
     rw[hf]
     obtain⟨y0,y1,y2,y3,y4⟩:=zr5 h6
     exact bodyPost_ret (v:=.tuple #[.agg #[.int .i64 0,.slice none 0 0,.slice none 0 0,.slice none 0 0,.slice none 0 0],.int .i64 140]) (by simp[results,Tryz.results32,go_sem,y0,y1,y2,y3,y4]) rfl (get_bad HN.out hfB).old
    go_wp2_with fail
    refine (rread_ok _ A0 bs L c (s) 2 _ _ (by omega) (by omega) HL.out hl HRr.out (by omega) (by omega)).mono ?_
    rintro e w9 ⟨rfl,rfl⟩
    go_wp2_with fail
    refine (rread_ok _ A0 bs L c (s+2) 8 _ _ (by omega) (by omega) HL.out hl HRr.out (by omega) (by omega)).mono ?_
    rintro e w9 ⟨rfl,rfl⟩
    go_wp2_with fail
    refine (rread_no _ A0 bs L c (s+10) 1 _ _ (by omega) (by omega) HL.out hl (by omega) (by omega) (by omega)).mono ?_
    rintro e w9 ⟨rfl,rfl⟩
    obtain⟨z0,z1,z2,z3,z4⟩:=zr5 ZW.out
    have zq:=zf ZW.out;have zf0:=zq 0;have zf1:=zq 1;have zf2:=zq 2;have zf3:=zq 3;have zf4:=zq 4;clear zq
    have HFin:=hide (zero_fin ZW.out HBf.out)
    go_wp2
    obtain⟨f,hf,hfB,h6⟩:=HFin.out
    rw[hf]
    obtain⟨y0,y1,y2,y3,y4⟩:=zr5 h6
    exact bodyPost_ret (v:=.tuple #[.agg #[.int .i64 0,.slice none 0 0,.slice none 0 0,.slice none 0 0,.slice none 0 0],.int .i64 140]) (by simp[results,Tryz.results32,go_sem,y0,y1,y2,y3,y4]) rfl (get_bad HN.out hfB).old
   have h11':s+11≤L:=by omega
   clear h11
   go_wp2_with fail
   refine (rread_ok _ A0 bs L c (s) 2 _ _ (by omega) (by omega) HL.out hl HRr.out (by omega) (by omega)).mono ?_
   rintro e w9 ⟨rfl,rfl⟩
   obtain⟨v,hv⟩:∃z,rz.num ((bs.drop s).take 2)=z:=⟨_,rfl⟩
   have vlt:v<65536:=by rw[←hv];exact num_lt_of (k:=2) (by rw[List.length_take];omega)
   rw[hv]
   go_wp2_with fail
   refine (rread_ok _ A0 bs L c (s+2) 8 _ _ (by omega) (by omega) HL.out hl HRr.out (by omega) (by omega)).mono ?_
   rintro e w9 ⟨rfl,rfl⟩
   obtain⟨x,hx⟩:∃z,rz.num ((bs.drop (s+2)).take 8)=z:=⟨_,rfl⟩
   have xlt:x<18446744073709551616:=by rw[←hx];exact num_lt_of (k:=8) (by rw[List.length_take];omega)
   rw[hx]
   have HX:=hide (show rz.num (((bs.drop s).drop 2).take 8)=x by rw[List.drop_drop];exact hx)
   have HV:=hide hv
   go_wp2_with fail
   refine (rread_ok _ A0 bs L c (s+10) 1 _ _ (by omega) (by omega) HL.out hl HRr.out (by omega) (by omega)).mono ?_
   rintro e w9 ⟨rfl,rfl⟩
   obtain⟨cb,hcb⟩:∃z,rz.num ((bs.drop (s+10)).take 1)=z:=⟨_,rfl⟩
   have cblt:cb<256:=by rw[←hcb];exact num_lt_of (k:=1) (by rw[List.length_take];omega)
   rw[hcb]
   have HC:=hide (show rz.num (((bs.drop s).drop 10).take 1)=cb by rw[List.drop_drop];exact hcb)
   clear hv hx hcb
   by_cases g3:3<cb
   ·have g3':(3:Int)<(cb:Int):=by omega
    have HN:=hide (getF_none HNn.out (HG.out.none_ hkn (rowP_big HC.out g3)))
    have ZW:=hide ((GR.out.kb.2 _ hHv HHX.out).trans HZ0.out)
    have HBf:=hide GR.out.bl
    obtain⟨z0,z1,z2,z3,z4⟩:=zr5 ZW.out
    have zq:=zf ZW.out;have zf0:=zq 0;have zf1:=zq 1;have zf2:=zq 2;have zf3:=zq 3;have zf4:=zq 4;clear zq
    have HFin:=hide (zero_fin ZW.out HBf.out)
    go_wp2
    obtain⟨f,hf,hfB,h6⟩:=HFin.out
    rw[hf]
    obtain⟨y0,y1,y2,y3,y4⟩:=zr5 h6
    exact bodyPost_ret (v:=.tuple #[.agg #[.int .i64 0,.slice none 0 0,.slice none 0 0,.slice none 0 0,.slice none 0 0],.int .i64 140]) (by simp[results,Tryz.results32,go_sem,y0,y1,y2,y3,y4]) rfl (get_bad HN.out hfB).old
   have g3':(cb:Int)≤3:=by omega
   obtain⟨bm,hbm⟩:∃z,wr.heap.size=z:=⟨_,rfl⟩
   have HLO:=hide (fun g hg=>(GR.out.ho.lt g hg).2)
   have HLV:=hide (fun g hg=>(GR.out.hv.lt g hg).2)
   have HLC:=hide (fun g hg=>(GR.out.hc.lt g hg).2)
   have HLI:=hide (fun g hg=>(GR.out.hi.lt g hg).2)
   have GA:=hide (GR.out.alloc (.cells #[.bool false,.int .i64 0] 51))
   have MA:=hide (heap_alloc_last wr (.cells #[.bool false,.int .i64 0] 51))
   have HRa:=hide (HRr.out.next ((Below.refl wr.heap.size wr).alloc (Nat.le_refl _) (.cells #[.bool false,.int .i64 0] 51)))
   obtain⟨za,hza⟩:∃z,wr.alloc (.cells #[.bool false,.int .i64 0] 51)=z:=⟨_,rfl⟩
   rw[hza] at GA MA HRa
   have hzas:bm<za.heap.size:=by rw[←hza,←hbm];simp
   have HZA:=hide hza
   rw[hbm] at MA HLO HLV HLC HLI srw
   have HBM:=hide hbm
   clear hza hbm
   have hbmbp:bm≠bp:=by omega
   go_upto_region 17 with fail
   rw[HZA.out,HBM.out]
   clear GR HRr
   by_cases hq:cb<2
   ·have hq':(cb:Int)<2:=by omega
    rcases (show cb % 2=0∨cb % 2=1 by omega) with hpar | hpar
    ·have e1:(cb:Int) % 2=0:=by omega
     have e2:(cb:Int).tmod 2=0:=by rw[Int.tmod_eq_emod_of_nonneg (by omega)];exact e1
     have HP2:Hid (decide (cb % 2=1)=false):=hide (by simp;omega)
     clear hpar
     have HRow:=hide (rowP_bare (by rw[HLen.out];omega) HV.out HX.out HC.out hq HP2.out:rowP (bs.drop s)=some (((v:Int),s64 x,false,(false,0)),(bs.drop s).drop 11))
     obtain⟨wq,rfl⟩:∃z:World,z=za:=⟨_,rfl⟩
     have BM:=MA
     have G0:=GA
     have HE3:Hid True:=hide trivial
     clear MA GA
     have p1:wq.cell? ⟨bp,1,none⟩=some (.slice Ao k co):=cell_of_row _ _ 1 _ _ _ G0.out.hp
     have lbp:=lt_of_block G0.out.hp
     have sz0:v0.heap.size≤wq.heap.size:=G0.out.kb.1
     go_wp2_with (at_builtin;refine wpList_app rfl (.tmp 100) (.tmp 103) 40 rfl v0.heap.size 3 a0 (.int .i64 0) 1 8 Tryz.underlying40 a0i a0z a0s a0b rfl (by decide) (.slice Ao k co) k _ rfl (G0.out.ho.alloc _) (wq.heap.size+1) (some ⟨wq.heap.size,0,none⟩) 1 1 [.int .i64 (v:Int)] rfl rfl (Rd.new _ _ _ _) (by simp[Value.oneCell']) (by unfold maxLen;omega) (by omega) (by simp;omega) ?_)
     intro A0' c0' y0 own0 hg0 hat0
     have AP:=G0.out.appOwn (x:=(v:Int)) hbv (by simp) hwbp hwv own0 hg0
     have q1:y0.cell? ⟨bp,1,none⟩=some (.slice Ao k co):=cell_of_row _ _ 1 _ _ _ AP.1
     have qf1:=zf AP.1 1
     have BM1:=hide ((Below.heap_setCell _ ⟨bp,1,none⟩ (.slice A0' (k+1) c0') bm hbmbp).trans ((hg0.block bm (by have:=lt_of_block BM.out;simp;omega) (fun e=>own_ne (G0.out.ho) BM.out (by decide) bm e.symm rfl)).trans ((Below.heap_alloc _ _ _ (lt_of_block BM.out)).trans BM.out)))
     obtain⟨wa1,hwa1⟩:∃z,y0.setCell ⟨bp,1,none⟩ (.slice A0' (k+1) c0')=z:=⟨_,rfl⟩
     have G1:=hide AP.2
     rw[hwa1] at G1 BM1
     have HE0:=hide hwa1
     clear AP own0 hg0 hat0 hwa1 p1 lbp BM G0
     have BM:=BM1
     clear BM1
     go_upto_region 24 with fail
     rw[HE0.out]
     clear HE0 q1 qf1
     have p2:wa1.cell? ⟨bp,2,none⟩=some (.slice Av k cv):=cell_of_row _ _ 2 _ _ _ G1.out.hp
     have lbp:=lt_of_block G1.out.hp
     have sz1:v0.heap.size≤wa1.heap.size:=G1.out.kb.1
     go_wp2_with (at_builtin;refine wpList_app rfl (.tmp 107) (.tmp 110) 29 rfl v0.heap.size 2 a1 (.int .i64 0) 1 8 Tryz.underlying29 a1i a1z a1s a1b rfl (by decide) (.slice Av k cv) k _ rfl (G1.out.hv.alloc _) (wa1.heap.size+1) (some ⟨wa1.heap.size,0,none⟩) 1 1 [.int .i64 (wrap64 (x:Int))] rfl rfl (Rd.new _ _ _ _) (by simp[Value.oneCell']) (by unfold maxLen;omega) (by omega) (by simp;omega) ?_)
     intro A1' c1' y1 own1 hg1 hat1
     have AP:=G1.out.appVals (x:=(s64 x)) hbv (by simp) hwbp hwv own1 hg1
     have q2:y1.cell? ⟨bp,2,none⟩=some (.slice Av k cv):=cell_of_row _ _ 2 _ _ _ AP.1
     have qf2:=zf AP.1 2
     have BM1:=hide ((Below.heap_setCell _ ⟨bp,2,none⟩ (.slice A1' (k+1) c1') bm hbmbp).trans ((hg1.block bm (by have:=lt_of_block BM.out;simp;omega) (fun e=>own_ne (G1.out.hv) BM.out (by decide) bm e.symm rfl)).trans ((Below.heap_alloc _ _ _ (lt_of_block BM.out)).trans BM.out)))
     obtain⟨wa2,hwa2⟩:∃z,y1.setCell ⟨bp,2,none⟩ (.slice A1' (k+1) c1')=z:=⟨_,rfl⟩
     have G2:=hide AP.2
     rw[hwa2] at G2 BM1
     have HE1:=hide hwa2
     clear AP own1 hg1 hat1 hwa2 p2 lbp BM G1
     have BM:=BM1
     clear BM1
     go_upto_region 25 with fail
     rw[HE1.out]
     clear HE1 q2 qf2
     have p3:wa2.cell? ⟨bp,3,none⟩=some (.slice Ac k cc):=cell_of_row _ _ 3 _ _ _ G2.out.hp
     have lbp:=lt_of_block G2.out.hp
     have sz2:v0.heap.size≤wa2.heap.size:=G2.out.kb.1
     go_wp2_with (at_builtin;refine wpList_app rfl (.tmp 114) (.tmp 118) 30 rfl v0.heap.size 4 a2 (.bool false) 1 1 Tryz.underlying30 a2i a2z a2s a2b rfl (by decide) (.slice Ac k cc) k _ rfl (G2.out.hc.alloc _) (wa2.heap.size+1) (some ⟨wa2.heap.size,0,none⟩) 1 1 [.bool false] rfl rfl (Rd.new _ _ _ _) (by simp[Value.oneCell']) (by unfold maxLen;omega) (by omega) (by simp;omega) ?_)
     intro A2' c2' y2 own2 hg2 hat2
     have AP:=G2.out.appChg (x:=false) hbv (by simp) hwbp hwv own2 hg2
     have q3:y2.cell? ⟨bp,3,none⟩=some (.slice Ac k cc):=cell_of_row _ _ 3 _ _ _ AP.1
     have qf3:=zf AP.1 3
     have BM1:=hide ((Below.heap_setCell _ ⟨bp,3,none⟩ (.slice A2' (k+1) c2') bm hbmbp).trans ((hg2.block bm (by have:=lt_of_block BM.out;simp;omega) (fun e=>own_ne (G2.out.hc) BM.out (by decide) bm e.symm rfl)).trans ((Below.heap_alloc _ _ _ (lt_of_block BM.out)).trans BM.out)))
     obtain⟨wa3,hwa3⟩:∃z,y2.setCell ⟨bp,3,none⟩ (.slice A2' (k+1) c2')=z:=⟨_,rfl⟩
     have G3:=hide AP.2
     rw[hwa3] at G3 BM1
     have HE2:=hide hwa3
     clear AP own2 hg2 hat2 hwa3 p3 lbp BM G2
     have BM:=BM1
     clear BM1
     go_upto_region 26 with fail
     rw[HE2.out]
     clear HE2 q3 qf3
     have p4:wa3.cell? ⟨bp,4,none⟩=some (.slice Ai k ci):=cell_of_row _ _ 4 _ _ _ G3.out.hp
     obtain⟨n0,n1⟩:=zr2 BM.out
     have ln:=lt_of_block BM.out
     have lbp:=lt_of_block G3.out.hp
     have sz3:v0.heap.size≤wa3.heap.size:=G3.out.kb.1
     go_wp2_with (at_builtin;refine wpList_app rfl (.tmp 122) (.tmp 124) 31 rfl v0.heap.size 51 a3 (.agg #[.bool false,.int .i64 0]) 2 16 Tryz.underlying31 a3i a3z a3s a3b rfl (by decide) (.slice Ai k ci) k _ rfl (G3.out.hi.alloc _) (wa3.heap.size+1) (some ⟨wa3.heap.size,0,none⟩) 1 1 [.bool false,.int .i64 0] rfl rfl (Rd.new _ _ _ _) (by simp[Value.oneCell']) (by unfold maxLen;omega) (by omega) (by simp;omega) ?_)
     intro A3' c3' y3 own3 hg3 hat3
     have AP:=G3.out.appInb (x:=(false,0)) hbv (by simp) hwbp hwv own3 hg3
     have q4:y3.cell? ⟨bp,4,none⟩=some (.slice Ai k ci):=cell_of_row _ _ 4 _ _ _ AP.1
     have qf4:=zf AP.1 4
     have BM1:=hide ((Below.heap_setCell _ ⟨bp,4,none⟩ (.slice A3' (k+1) c3') bm hbmbp).trans ((hg3.block bm (by have:=lt_of_block BM.out;simp;omega) (fun e=>by have:=HLI.out bm e.symm;omega)).trans ((Below.heap_alloc _ _ _ (lt_of_block BM.out)).trans BM.out)))
     obtain⟨wa4,hwa4⟩:∃z,y3.setCell ⟨bp,4,none⟩ (.slice A3' (k+1) c3')=z:=⟨_,rfl⟩
     have G4:=hide AP.2
     rw[hwa4] at G4 BM1
     have HE3:=hide hwa4
     clear AP own3 hg3 hat3 hwa4 p4 lbp BM G3 n0 n1 ln
     have BM:=BM1
     clear BM1
     have HG2:=hide (HG.out.step (d:=11) (r:=((v:Int),s64 x,false,(false,0))) hkn (by rw[HL.out];omega) HRow.out)
     have HPO2:=hide (HPO.out.snoc (v:Int) (s64 x) false (false,0))
     have Gf:=G4
     clear BM
     go_wp2
     first | rw[HE3.out] | skip
     go_roundw
     case rel=>exact⟨k+1,s+11,_,_,_,_,_,A0',c0',A1',c1',A2',c2',A3',c3',by omega,by go_num,by go_num,HG2,HPO2,Gf⟩
     case measure=>simp[intOf];omega
    have e1:(cb:Int) % 2=1:=by omega
    have e2:(cb:Int).tmod 2=1:=by rw[Int.tmod_eq_emod_of_nonneg (by omega)];exact e1
    have HP2:Hid (decide (cb % 2=1)=true):=hide (by simp;omega)
    clear hpar
    have HRow:=hide (rowP_bare (by rw[HLen.out];omega) HV.out HX.out HC.out hq HP2.out:rowP (bs.drop s)=some (((v:Int),s64 x,true,(false,0)),(bs.drop s).drop 11))
    obtain⟨wq,rfl⟩:∃z:World,z=za:=⟨_,rfl⟩
    have BM:=MA
    have G0:=GA
    have HE3:Hid True:=hide trivial
    clear MA GA
    have p1:wq.cell? ⟨bp,1,none⟩=some (.slice Ao k co):=cell_of_row _ _ 1 _ _ _ G0.out.hp
    have lbp:=lt_of_block G0.out.hp
    have sz0:v0.heap.size≤wq.heap.size:=G0.out.kb.1
    go_wp2_with (at_builtin;refine wpList_app rfl (.tmp 100) (.tmp 103) 40 rfl v0.heap.size 3 a0 (.int .i64 0) 1 8 Tryz.underlying40 a0i a0z a0s a0b rfl (by decide) (.slice Ao k co) k _ rfl (G0.out.ho.alloc _) (wq.heap.size+1) (some ⟨wq.heap.size,0,none⟩) 1 1 [.int .i64 (v:Int)] rfl rfl (Rd.new _ _ _ _) (by simp[Value.oneCell']) (by unfold maxLen;omega) (by omega) (by simp;omega) ?_)
    intro A0' c0' y0 own0 hg0 hat0
    have AP:=G0.out.appOwn (x:=(v:Int)) hbv (by simp) hwbp hwv own0 hg0
    have q1:y0.cell? ⟨bp,1,none⟩=some (.slice Ao k co):=cell_of_row _ _ 1 _ _ _ AP.1
    have qf1:=zf AP.1 1
    have BM1:=hide ((Below.heap_setCell _ ⟨bp,1,none⟩ (.slice A0' (k+1) c0') bm hbmbp).trans ((hg0.block bm (by have:=lt_of_block BM.out;simp;omega) (fun e=>own_ne (G0.out.ho) BM.out (by decide) bm e.symm rfl)).trans ((Below.heap_alloc _ _ _ (lt_of_block BM.out)).trans BM.out)))
    obtain⟨wa1,hwa1⟩:∃z,y0.setCell ⟨bp,1,none⟩ (.slice A0' (k+1) c0')=z:=⟨_,rfl⟩
    have G1:=hide AP.2
    rw[hwa1] at G1 BM1
    have HE0:=hide hwa1
    clear AP own0 hg0 hat0 hwa1 p1 lbp BM G0
    have BM:=BM1
    clear BM1
    go_upto_region 24 with fail
    rw[HE0.out]
    clear HE0 q1 qf1
    have p2:wa1.cell? ⟨bp,2,none⟩=some (.slice Av k cv):=cell_of_row _ _ 2 _ _ _ G1.out.hp
    have lbp:=lt_of_block G1.out.hp
    have sz1:v0.heap.size≤wa1.heap.size:=G1.out.kb.1
    go_wp2_with (at_builtin;refine wpList_app rfl (.tmp 107) (.tmp 110) 29 rfl v0.heap.size 2 a1 (.int .i64 0) 1 8 Tryz.underlying29 a1i a1z a1s a1b rfl (by decide) (.slice Av k cv) k _ rfl (G1.out.hv.alloc _) (wa1.heap.size+1) (some ⟨wa1.heap.size,0,none⟩) 1 1 [.int .i64 (wrap64 (x:Int))] rfl rfl (Rd.new _ _ _ _) (by simp[Value.oneCell']) (by unfold maxLen;omega) (by omega) (by simp;omega) ?_)
    intro A1' c1' y1 own1 hg1 hat1
    have AP:=G1.out.appVals (x:=(s64 x)) hbv (by simp) hwbp hwv own1 hg1
    have q2:y1.cell? ⟨bp,2,none⟩=some (.slice Av k cv):=cell_of_row _ _ 2 _ _ _ AP.1
    have qf2:=zf AP.1 2
    have BM1:=hide ((Below.heap_setCell _ ⟨bp,2,none⟩ (.slice A1' (k+1) c1') bm hbmbp).trans ((hg1.block bm (by have:=lt_of_block BM.out;simp;omega) (fun e=>own_ne (G1.out.hv) BM.out (by decide) bm e.symm rfl)).trans ((Below.heap_alloc _ _ _ (lt_of_block BM.out)).trans BM.out)))
    obtain⟨wa2,hwa2⟩:∃z,y1.setCell ⟨bp,2,none⟩ (.slice A1' (k+1) c1')=z:=⟨_,rfl⟩
    have G2:=hide AP.2
    rw[hwa2] at G2 BM1
    have HE1:=hide hwa2
    clear AP own1 hg1 hat1 hwa2 p2 lbp BM G1
    have BM:=BM1
    clear BM1
    go_upto_region 25 with fail
    rw[HE1.out]
    clear HE1 q2 qf2
    have p3:wa2.cell? ⟨bp,3,none⟩=some (.slice Ac k cc):=cell_of_row _ _ 3 _ _ _ G2.out.hp
    have lbp:=lt_of_block G2.out.hp
    have sz2:v0.heap.size≤wa2.heap.size:=G2.out.kb.1
    go_wp2_with (at_builtin;refine wpList_app rfl (.tmp 114) (.tmp 118) 30 rfl v0.heap.size 4 a2 (.bool false) 1 1 Tryz.underlying30 a2i a2z a2s a2b rfl (by decide) (.slice Ac k cc) k _ rfl (G2.out.hc.alloc _) (wa2.heap.size+1) (some ⟨wa2.heap.size,0,none⟩) 1 1 [.bool true] rfl rfl (Rd.new _ _ _ _) (by simp[Value.oneCell']) (by unfold maxLen;omega) (by omega) (by simp;omega) ?_)
    intro A2' c2' y2 own2 hg2 hat2
    have AP:=G2.out.appChg (x:=true) hbv (by simp) hwbp hwv own2 hg2
    have q3:y2.cell? ⟨bp,3,none⟩=some (.slice Ac k cc):=cell_of_row _ _ 3 _ _ _ AP.1
    have qf3:=zf AP.1 3
    have BM1:=hide ((Below.heap_setCell _ ⟨bp,3,none⟩ (.slice A2' (k+1) c2') bm hbmbp).trans ((hg2.block bm (by have:=lt_of_block BM.out;simp;omega) (fun e=>own_ne (G2.out.hc) BM.out (by decide) bm e.symm rfl)).trans ((Below.heap_alloc _ _ _ (lt_of_block BM.out)).trans BM.out)))
    obtain⟨wa3,hwa3⟩:∃z,y2.setCell ⟨bp,3,none⟩ (.slice A2' (k+1) c2')=z:=⟨_,rfl⟩
    have G3:=hide AP.2
    rw[hwa3] at G3 BM1
    have HE2:=hide hwa3
    clear AP own2 hg2 hat2 hwa3 p3 lbp BM G2
    have BM:=BM1
    clear BM1
    go_upto_region 26 with fail
    rw[HE2.out]
    clear HE2 q3 qf3
    have p4:wa3.cell? ⟨bp,4,none⟩=some (.slice Ai k ci):=cell_of_row _ _ 4 _ _ _ G3.out.hp
    obtain⟨n0,n1⟩:=zr2 BM.out
    have ln:=lt_of_block BM.out
    have lbp:=lt_of_block G3.out.hp
    have sz3:v0.heap.size≤wa3.heap.size:=G3.out.kb.1
    go_wp2_with (at_builtin;refine wpList_app rfl (.tmp 122) (.tmp 124) 31 rfl v0.heap.size 51 a3 (.agg #[.bool false,.int .i64 0]) 2 16 Tryz.underlying31 a3i a3z a3s a3b rfl (by decide) (.slice Ai k ci) k _ rfl (G3.out.hi.alloc _) (wa3.heap.size+1) (some ⟨wa3.heap.size,0,none⟩) 1 1 [.bool false,.int .i64 0] rfl rfl (Rd.new _ _ _ _) (by simp[Value.oneCell']) (by unfold maxLen;omega) (by omega) (by simp;omega) ?_)
    intro A3' c3' y3 own3 hg3 hat3
    have AP:=G3.out.appInb (x:=(false,0)) hbv (by simp) hwbp hwv own3 hg3
    have q4:y3.cell? ⟨bp,4,none⟩=some (.slice Ai k ci):=cell_of_row _ _ 4 _ _ _ AP.1
    have qf4:=zf AP.1 4
    have BM1:=hide ((Below.heap_setCell _ ⟨bp,4,none⟩ (.slice A3' (k+1) c3') bm hbmbp).trans ((hg3.block bm (by have:=lt_of_block BM.out;simp;omega) (fun e=>by have:=HLI.out bm e.symm;omega)).trans ((Below.heap_alloc _ _ _ (lt_of_block BM.out)).trans BM.out)))
    obtain⟨wa4,hwa4⟩:∃z,y3.setCell ⟨bp,4,none⟩ (.slice A3' (k+1) c3')=z:=⟨_,rfl⟩
    have G4:=hide AP.2
    rw[hwa4] at G4 BM1
    have HE3:=hide hwa4
    clear AP own3 hg3 hat3 hwa4 p4 lbp BM G3 n0 n1 ln
    have BM:=BM1
    clear BM1
    have HG2:=hide (HG.out.step (d:=11) (r:=((v:Int),s64 x,true,(false,0))) hkn (by rw[HL.out];omega) HRow.out)
    have HPO2:=hide (HPO.out.snoc (v:Int) (s64 x) true (false,0))
    have Gf:=G4
    clear BM
    go_wp2
    first | rw[HE3.out] | skip
    go_roundw
    case rel=>exact⟨k+1,s+11,_,_,_,_,_,A0',c0',A1',c1',A2',c2',A3',c3',by omega,by go_num,by go_num,HG2,HPO2,Gf⟩
    case measure=>simp[intOf];omega
   have hq':(2:Int)≤(cb:Int):=by omega
   by_cases h19:L<s+19
   ·have HN:=hide (getF_none HNn.out (HG.out.none_ hkn (rowP_cut HC.out (by omega) (by rw[HLen.out];omega))))
    have ZW:=hide ((GA.out.kb.2 _ hHv HHX.out).trans HZ0.out)
    have HBf:=hide GA.out.bl
    go_wp2_with fail
    refine (rread_no _ A0 bs L c (s+11) 8 _ _ (by omega) (by omega) HL.out hl (by omega) (by omega) (by omega)).mono ?_
    rintro e w9 ⟨rfl,rfl⟩
    obtain⟨z0,z1,z2,z3,z4⟩:=zr5 ZW.out
    have zq:=zf ZW.out;have zf0:=zq 0;have zf1:=zq 1;have zf2:=zq 2;have zf3:=zq 3;have zf4:=zq 4;clear zq
    have HFin:=hide (zero_fin ZW.out HBf.out)
    go_wp2
    obtain⟨f,hf,hfB,h6⟩:=HFin.out
    rw[hf]
    obtain⟨y0,y1,y2,y3,y4⟩:=zr5 h6
    exact bodyPost_ret (v:=.tuple #[.agg #[.int .i64 0,.slice none 0 0,.slice none 0 0,.slice none 0 0,.slice none 0 0],.int .i64 140]) (by simp[results,Tryz.results32,go_sem,y0,y1,y2,y3,y4]) rfl (get_bad HN.out hfB).old
   have h19':s+19≤L:=by omega
   go_wp2_with fail
   refine (rread_ok _ A0 bs L c (s+11) 8 _ _ (by omega) (by omega) HL.out hl HRa.out (by omega) (by omega)).mono ?_
   rintro e w9 ⟨rfl,rfl⟩
   obtain⟨y,hy⟩:∃z,rz.num ((bs.drop (s+11)).take 8)=z:=⟨_,rfl⟩
   have ylt:y<18446744073709551616:=by rw[←hy];exact num_lt_of (k:=8) (by rw[List.length_take];omega)
   rw[hy]
   have HY:=hide (show rz.num (((bs.drop s).drop 11).take 8)=y by rw[List.drop_drop];exact hy)
   clear hy
   obtain⟨n0,n1⟩:=zr2 MA.out
   have zq:=zf MA.out;have nf0:=zq 0;have nf1:=zq 1;clear zq
   obtain⟨wq,hwq⟩:∃z,(za.setCell ⟨bm,0,none⟩ (.bool true)).setCell ⟨bm,1,none⟩ (.int .i64 (wrap64 (y:Int)))=z:=⟨_,rfl⟩
   have far:=fun (w1:World) (h:GetSt [bp] v0 w bp 64 (m:Int) own vals chg inb Ao co Av cv Ac cc Ai ci k k k k w1) (j:Nat) (u:Value)=>h.far ⟨bm,j,none⟩ u (by show _≤bm;omega) hbv (by show _≤bm;omega) (fun g hg=>by have:=HLO.out g hg;show g≠bm;omega) (fun g hg=>by have:=HLV.out g hg;show g≠bm;omega) (fun g hg=>by have:=HLC.out g hg;show g≠bm;omega) (fun g hg=>by have:=HLI.out g hg;show g≠bm;omega)
   have G5:=hide (far _ (far _ GA.out 0 (.bool true)) 1 (.int .i64 (wrap64 (y:Int))))
   have M5:=hide (heap_setCell_same _ bm 1 _ _ (.int .i64 (wrap64 (y:Int))) (heap_setCell_same za bm 0 _ _ (.bool true) MA.out))
   rw[hwq] at G5 M5
   have HWQ:=hide hwq
   clear hwq far MA GA
   go_upto_region 23 with fail
   rw[HWQ.out]
   clear n0 n1 nf0 nf1 HWQ
   rcases (show cb % 2=0∨cb % 2=1 by omega) with hpar | hpar
   ·have e1:(cb:Int) % 2=0:=by omega
    have e2:(cb:Int).tmod 2=0:=by rw[Int.tmod_eq_emod_of_nonneg (by omega)];exact e1
    have HP2:Hid (decide (cb % 2=1)=false):=hide (by simp;omega)
    clear hpar
    have HRow:=hide (rowP_mail (by rw[HLen.out];omega) HV.out HX.out HC.out (by omega) (by omega) HY.out HP2.out:rowP (bs.drop s)=some (((v:Int),s64 x,false,(true,s64 y)),(bs.drop s).drop 19))
    have BM:=M5
    have G0:=G5
    have HE3:Hid True:=hide trivial
    clear M5 G5
    have p1:wq.cell? ⟨bp,1,none⟩=some (.slice Ao k co):=cell_of_row _ _ 1 _ _ _ G0.out.hp
    have lbp:=lt_of_block G0.out.hp
    have sz0:v0.heap.size≤wq.heap.size:=G0.out.kb.1
    go_wp2_with (at_builtin;refine wpList_app rfl (.tmp 100) (.tmp 103) 40 rfl v0.heap.size 3 a0 (.int .i64 0) 1 8 Tryz.underlying40 a0i a0z a0s a0b rfl (by decide) (.slice Ao k co) k _ rfl (G0.out.ho.alloc _) (wq.heap.size+1) (some ⟨wq.heap.size,0,none⟩) 1 1 [.int .i64 (v:Int)] rfl rfl (Rd.new _ _ _ _) (by simp[Value.oneCell']) (by unfold maxLen;omega) (by omega) (by simp;omega) ?_)
    intro A0' c0' y0 own0 hg0 hat0
    have AP:=G0.out.appOwn (x:=(v:Int)) hbv (by simp) hwbp hwv own0 hg0
    have q1:y0.cell? ⟨bp,1,none⟩=some (.slice Ao k co):=cell_of_row _ _ 1 _ _ _ AP.1
    have qf1:=zf AP.1 1
    have BM1:=hide ((Below.heap_setCell _ ⟨bp,1,none⟩ (.slice A0' (k+1) c0') bm hbmbp).trans ((hg0.block bm (by have:=lt_of_block BM.out;simp;omega) (fun e=>own_ne (G0.out.ho) BM.out (by decide) bm e.symm rfl)).trans ((Below.heap_alloc _ _ _ (lt_of_block BM.out)).trans BM.out)))
    obtain⟨wa1,hwa1⟩:∃z,y0.setCell ⟨bp,1,none⟩ (.slice A0' (k+1) c0')=z:=⟨_,rfl⟩
    have G1:=hide AP.2
    rw[hwa1] at G1 BM1
    have HE0:=hide hwa1
    clear AP own0 hg0 hat0 hwa1 p1 lbp BM G0
    have BM:=BM1
    clear BM1
    go_upto_region 24 with fail
    rw[HE0.out]
    clear HE0 q1 qf1
    have p2:wa1.cell? ⟨bp,2,none⟩=some (.slice Av k cv):=cell_of_row _ _ 2 _ _ _ G1.out.hp
    have lbp:=lt_of_block G1.out.hp
    have sz1:v0.heap.size≤wa1.heap.size:=G1.out.kb.1
    go_wp2_with (at_builtin;refine wpList_app rfl (.tmp 107) (.tmp 110) 29 rfl v0.heap.size 2 a1 (.int .i64 0) 1 8 Tryz.underlying29 a1i a1z a1s a1b rfl (by decide) (.slice Av k cv) k _ rfl (G1.out.hv.alloc _) (wa1.heap.size+1) (some ⟨wa1.heap.size,0,none⟩) 1 1 [.int .i64 (wrap64 (x:Int))] rfl rfl (Rd.new _ _ _ _) (by simp[Value.oneCell']) (by unfold maxLen;omega) (by omega) (by simp;omega) ?_)
    intro A1' c1' y1 own1 hg1 hat1
    have AP:=G1.out.appVals (x:=(s64 x)) hbv (by simp) hwbp hwv own1 hg1
    have q2:y1.cell? ⟨bp,2,none⟩=some (.slice Av k cv):=cell_of_row _ _ 2 _ _ _ AP.1
    have qf2:=zf AP.1 2
    have BM1:=hide ((Below.heap_setCell _ ⟨bp,2,none⟩ (.slice A1' (k+1) c1') bm hbmbp).trans ((hg1.block bm (by have:=lt_of_block BM.out;simp;omega) (fun e=>own_ne (G1.out.hv) BM.out (by decide) bm e.symm rfl)).trans ((Below.heap_alloc _ _ _ (lt_of_block BM.out)).trans BM.out)))
    obtain⟨wa2,hwa2⟩:∃z,y1.setCell ⟨bp,2,none⟩ (.slice A1' (k+1) c1')=z:=⟨_,rfl⟩
    have G2:=hide AP.2
    rw[hwa2] at G2 BM1
    have HE1:=hide hwa2
    clear AP own1 hg1 hat1 hwa2 p2 lbp BM G1
    have BM:=BM1
    clear BM1
    go_upto_region 25 with fail
    rw[HE1.out]
    clear HE1 q2 qf2
    have p3:wa2.cell? ⟨bp,3,none⟩=some (.slice Ac k cc):=cell_of_row _ _ 3 _ _ _ G2.out.hp
    have lbp:=lt_of_block G2.out.hp
    have sz2:v0.heap.size≤wa2.heap.size:=G2.out.kb.1
    go_wp2_with (at_builtin;refine wpList_app rfl (.tmp 114) (.tmp 118) 30 rfl v0.heap.size 4 a2 (.bool false) 1 1 Tryz.underlying30 a2i a2z a2s a2b rfl (by decide) (.slice Ac k cc) k _ rfl (G2.out.hc.alloc _) (wa2.heap.size+1) (some ⟨wa2.heap.size,0,none⟩) 1 1 [.bool false] rfl rfl (Rd.new _ _ _ _) (by simp[Value.oneCell']) (by unfold maxLen;omega) (by omega) (by simp;omega) ?_)
    intro A2' c2' y2 own2 hg2 hat2
    have AP:=G2.out.appChg (x:=false) hbv (by simp) hwbp hwv own2 hg2
    have q3:y2.cell? ⟨bp,3,none⟩=some (.slice Ac k cc):=cell_of_row _ _ 3 _ _ _ AP.1
    have qf3:=zf AP.1 3
    have BM1:=hide ((Below.heap_setCell _ ⟨bp,3,none⟩ (.slice A2' (k+1) c2') bm hbmbp).trans ((hg2.block bm (by have:=lt_of_block BM.out;simp;omega) (fun e=>own_ne (G2.out.hc) BM.out (by decide) bm e.symm rfl)).trans ((Below.heap_alloc _ _ _ (lt_of_block BM.out)).trans BM.out)))
    obtain⟨wa3,hwa3⟩:∃z,y2.setCell ⟨bp,3,none⟩ (.slice A2' (k+1) c2')=z:=⟨_,rfl⟩
    have G3:=hide AP.2
    rw[hwa3] at G3 BM1
    have HE2:=hide hwa3
    clear AP own2 hg2 hat2 hwa3 p3 lbp BM G2
    have BM:=BM1
    clear BM1
    go_upto_region 26 with fail
    rw[HE2.out]
    clear HE2 q3 qf3
    have p4:wa3.cell? ⟨bp,4,none⟩=some (.slice Ai k ci):=cell_of_row _ _ 4 _ _ _ G3.out.hp
    obtain⟨n0,n1⟩:=zr2 BM.out
    have ln:=lt_of_block BM.out
    have lbp:=lt_of_block G3.out.hp
    have sz3:v0.heap.size≤wa3.heap.size:=G3.out.kb.1
    go_wp2_with (at_builtin;refine wpList_app rfl (.tmp 122) (.tmp 124) 31 rfl v0.heap.size 51 a3 (.agg #[.bool false,.int .i64 0]) 2 16 Tryz.underlying31 a3i a3z a3s a3b rfl (by decide) (.slice Ai k ci) k _ rfl (G3.out.hi.alloc _) (wa3.heap.size+1) (some ⟨wa3.heap.size,0,none⟩) 1 1 [.bool true,.int .i64 (wrap64 (y:Int))] rfl rfl (Rd.new _ _ _ _) (by simp[Value.oneCell']) (by unfold maxLen;omega) (by omega) (by simp;omega) ?_)
    intro A3' c3' y3 own3 hg3 hat3
    have AP:=G3.out.appInb (x:=(true,s64 y)) hbv (by simp) hwbp hwv own3 hg3
    have q4:y3.cell? ⟨bp,4,none⟩=some (.slice Ai k ci):=cell_of_row _ _ 4 _ _ _ AP.1
    have qf4:=zf AP.1 4
    have BM1:=hide ((Below.heap_setCell _ ⟨bp,4,none⟩ (.slice A3' (k+1) c3') bm hbmbp).trans ((hg3.block bm (by have:=lt_of_block BM.out;simp;omega) (fun e=>by have:=HLI.out bm e.symm;omega)).trans ((Below.heap_alloc _ _ _ (lt_of_block BM.out)).trans BM.out)))
    obtain⟨wa4,hwa4⟩:∃z,y3.setCell ⟨bp,4,none⟩ (.slice A3' (k+1) c3')=z:=⟨_,rfl⟩
    have G4:=hide AP.2
    rw[hwa4] at G4 BM1
    have HE3:=hide hwa4
    clear AP own3 hg3 hat3 hwa4 p4 lbp BM G3 n0 n1 ln
    have BM:=BM1
    clear BM1
    have HG2:=hide (HG.out.step (d:=19) (r:=((v:Int),s64 x,false,(true,s64 y))) hkn (by rw[HL.out];omega) HRow.out)
    have HPO2:=hide (HPO.out.snoc (v:Int) (s64 x) false (true,s64 y))
    have Gf:=G4
    clear BM
    go_wp2
    first | rw[HE3.out] | skip
    go_roundw
    case rel=>exact⟨k+1,s+19,_,_,_,_,_,A0',c0',A1',c1',A2',c2',A3',c3',by omega,by go_num,by go_num,HG2,HPO2,Gf⟩
    case measure=>simp[intOf];omega
   have e1:(cb:Int) % 2=1:=by omega
   have e2:(cb:Int).tmod 2=1:=by rw[Int.tmod_eq_emod_of_nonneg (by omega)];exact e1
   have HP2:Hid (decide (cb % 2=1)=true):=hide (by simp;omega)
   clear hpar
   have HRow:=hide (rowP_mail (by rw[HLen.out];omega) HV.out HX.out HC.out (by omega) (by omega) HY.out HP2.out:rowP (bs.drop s)=some (((v:Int),s64 x,true,(true,s64 y)),(bs.drop s).drop 19))
   have BM:=M5
   have G0:=G5
   have HE3:Hid True:=hide trivial
   clear M5 G5
   have p1:wq.cell? ⟨bp,1,none⟩=some (.slice Ao k co):=cell_of_row _ _ 1 _ _ _ G0.out.hp
   have lbp:=lt_of_block G0.out.hp
   have sz0:v0.heap.size≤wq.heap.size:=G0.out.kb.1
   go_wp2_with (at_builtin;refine wpList_app rfl (.tmp 100) (.tmp 103) 40 rfl v0.heap.size 3 a0 (.int .i64 0) 1 8 Tryz.underlying40 a0i a0z a0s a0b rfl (by decide) (.slice Ao k co) k _ rfl (G0.out.ho.alloc _) (wq.heap.size+1) (some ⟨wq.heap.size,0,none⟩) 1 1 [.int .i64 (v:Int)] rfl rfl (Rd.new _ _ _ _) (by simp[Value.oneCell']) (by unfold maxLen;omega) (by omega) (by simp;omega) ?_)
   intro A0' c0' y0 own0 hg0 hat0
   have AP:=G0.out.appOwn (x:=(v:Int)) hbv (by simp) hwbp hwv own0 hg0
   have q1:y0.cell? ⟨bp,1,none⟩=some (.slice Ao k co):=cell_of_row _ _ 1 _ _ _ AP.1
   have qf1:=zf AP.1 1
   have BM1:=hide ((Below.heap_setCell _ ⟨bp,1,none⟩ (.slice A0' (k+1) c0') bm hbmbp).trans ((hg0.block bm (by have:=lt_of_block BM.out;simp;omega) (fun e=>own_ne (G0.out.ho) BM.out (by decide) bm e.symm rfl)).trans ((Below.heap_alloc _ _ _ (lt_of_block BM.out)).trans BM.out)))
   obtain⟨wa1,hwa1⟩:∃z,y0.setCell ⟨bp,1,none⟩ (.slice A0' (k+1) c0')=z:=⟨_,rfl⟩
   have G1:=hide AP.2
   rw[hwa1] at G1 BM1
   have HE0:=hide hwa1
   clear AP own0 hg0 hat0 hwa1 p1 lbp BM G0
   have BM:=BM1
   clear BM1
   go_upto_region 24 with fail
   rw[HE0.out]
   clear HE0 q1 qf1
   have p2:wa1.cell? ⟨bp,2,none⟩=some (.slice Av k cv):=cell_of_row _ _ 2 _ _ _ G1.out.hp
   have lbp:=lt_of_block G1.out.hp
   have sz1:v0.heap.size≤wa1.heap.size:=G1.out.kb.1
   go_wp2_with (at_builtin;refine wpList_app rfl (.tmp 107) (.tmp 110) 29 rfl v0.heap.size 2 a1 (.int .i64 0) 1 8 Tryz.underlying29 a1i a1z a1s a1b rfl (by decide) (.slice Av k cv) k _ rfl (G1.out.hv.alloc _) (wa1.heap.size+1) (some ⟨wa1.heap.size,0,none⟩) 1 1 [.int .i64 (wrap64 (x:Int))] rfl rfl (Rd.new _ _ _ _) (by simp[Value.oneCell']) (by unfold maxLen;omega) (by omega) (by simp;omega) ?_)
   intro A1' c1' y1 own1 hg1 hat1
   have AP:=G1.out.appVals (x:=(s64 x)) hbv (by simp) hwbp hwv own1 hg1
   have q2:y1.cell? ⟨bp,2,none⟩=some (.slice Av k cv):=cell_of_row _ _ 2 _ _ _ AP.1
   have qf2:=zf AP.1 2
   have BM1:=hide ((Below.heap_setCell _ ⟨bp,2,none⟩ (.slice A1' (k+1) c1') bm hbmbp).trans ((hg1.block bm (by have:=lt_of_block BM.out;simp;omega) (fun e=>own_ne (G1.out.hv) BM.out (by decide) bm e.symm rfl)).trans ((Below.heap_alloc _ _ _ (lt_of_block BM.out)).trans BM.out)))
   obtain⟨wa2,hwa2⟩:∃z,y1.setCell ⟨bp,2,none⟩ (.slice A1' (k+1) c1')=z:=⟨_,rfl⟩
   have G2:=hide AP.2
   rw[hwa2] at G2 BM1
   have HE1:=hide hwa2
   clear AP own1 hg1 hat1 hwa2 p2 lbp BM G1
   have BM:=BM1
   clear BM1
   go_upto_region 25 with fail
   rw[HE1.out]
   clear HE1 q2 qf2
   have p3:wa2.cell? ⟨bp,3,none⟩=some (.slice Ac k cc):=cell_of_row _ _ 3 _ _ _ G2.out.hp
   have lbp:=lt_of_block G2.out.hp
   have sz2:v0.heap.size≤wa2.heap.size:=G2.out.kb.1
   go_wp2_with (at_builtin;refine wpList_app rfl (.tmp 114) (.tmp 118) 30 rfl v0.heap.size 4 a2 (.bool false) 1 1 Tryz.underlying30 a2i a2z a2s a2b rfl (by decide) (.slice Ac k cc) k _ rfl (G2.out.hc.alloc _) (wa2.heap.size+1) (some ⟨wa2.heap.size,0,none⟩) 1 1 [.bool true] rfl rfl (Rd.new _ _ _ _) (by simp[Value.oneCell']) (by unfold maxLen;omega) (by omega) (by simp;omega) ?_)
   intro A2' c2' y2 own2 hg2 hat2
   have AP:=G2.out.appChg (x:=true) hbv (by simp) hwbp hwv own2 hg2
   have q3:y2.cell? ⟨bp,3,none⟩=some (.slice Ac k cc):=cell_of_row _ _ 3 _ _ _ AP.1
   have qf3:=zf AP.1 3
   have BM1:=hide ((Below.heap_setCell _ ⟨bp,3,none⟩ (.slice A2' (k+1) c2') bm hbmbp).trans ((hg2.block bm (by have:=lt_of_block BM.out;simp;omega) (fun e=>own_ne (G2.out.hc) BM.out (by decide) bm e.symm rfl)).trans ((Below.heap_alloc _ _ _ (lt_of_block BM.out)).trans BM.out)))
   obtain⟨wa3,hwa3⟩:∃z,y2.setCell ⟨bp,3,none⟩ (.slice A2' (k+1) c2')=z:=⟨_,rfl⟩
   have G3:=hide AP.2
   rw[hwa3] at G3 BM1
   have HE2:=hide hwa3
   clear AP own2 hg2 hat2 hwa3 p3 lbp BM G2
   have BM:=BM1
   clear BM1
   go_upto_region 26 with fail
   rw[HE2.out]
   clear HE2 q3 qf3
   have p4:wa3.cell? ⟨bp,4,none⟩=some (.slice Ai k ci):=cell_of_row _ _ 4 _ _ _ G3.out.hp
   obtain⟨n0,n1⟩:=zr2 BM.out
   have ln:=lt_of_block BM.out
   have lbp:=lt_of_block G3.out.hp
   have sz3:v0.heap.size≤wa3.heap.size:=G3.out.kb.1
   go_wp2_with (at_builtin;refine wpList_app rfl (.tmp 122) (.tmp 124) 31 rfl v0.heap.size 51 a3 (.agg #[.bool false,.int .i64 0]) 2 16 Tryz.underlying31 a3i a3z a3s a3b rfl (by decide) (.slice Ai k ci) k _ rfl (G3.out.hi.alloc _) (wa3.heap.size+1) (some ⟨wa3.heap.size,0,none⟩) 1 1 [.bool true,.int .i64 (wrap64 (y:Int))] rfl rfl (Rd.new _ _ _ _) (by simp[Value.oneCell']) (by unfold maxLen;omega) (by omega) (by simp;omega) ?_)
   intro A3' c3' y3 own3 hg3 hat3
   have AP:=G3.out.appInb (x:=(true,s64 y)) hbv (by simp) hwbp hwv own3 hg3
   have q4:y3.cell? ⟨bp,4,none⟩=some (.slice Ai k ci):=cell_of_row _ _ 4 _ _ _ AP.1
   have qf4:=zf AP.1 4
   have BM1:=hide ((Below.heap_setCell _ ⟨bp,4,none⟩ (.slice A3' (k+1) c3') bm hbmbp).trans ((hg3.block bm (by have:=lt_of_block BM.out;simp;omega) (fun e=>by have:=HLI.out bm e.symm;omega)).trans ((Below.heap_alloc _ _ _ (lt_of_block BM.out)).trans BM.out)))
   obtain⟨wa4,hwa4⟩:∃z,y3.setCell ⟨bp,4,none⟩ (.slice A3' (k+1) c3')=z:=⟨_,rfl⟩
   have G4:=hide AP.2
   rw[hwa4] at G4 BM1
   have HE3:=hide hwa4
   clear AP own3 hg3 hat3 hwa4 p4 lbp BM G3 n0 n1 ln
   have BM:=BM1
   clear BM1
   have HG2:=hide (HG.out.step (d:=19) (r:=((v:Int),s64 x,true,(true,s64 y))) hkn (by rw[HL.out];omega) HRow.out)
   have HPO2:=hide (HPO.out.snoc (v:Int) (s64 x) true (true,s64 y))
   have Gf:=G4
   clear BM
   go_wp2
   first | rw[HE3.out] | skip
   go_roundw
   case rel=>exact⟨k+1,s+19,_,_,_,_,_,A0',c0',A1',c1',A2',c2',A3',c3',by omega,by go_num,by go_num,HG2,HPO2,Gf⟩
   case measure=>simp[intOf];omega
  obtain rfl:k=n:=by omega
  have ZW:=hide ((GR.out.kb.2 _ hHv HHX.out).trans HZ0.out)
  have HBf:=hide GR.out.bl
  by_cases hs:s=L
  ·have hGo:=HG.out
   rw[hs,←HL.out] at hGo
   have hGA:=getF_all HH6.out HNn.out hGo
   rw[HM.out] at hGA
   have HGA:=hide hGA
   clear hGo hGA
   subst hs
   have hrl:=HG.out.1
   have HSL:=hide (slen_of (m:=(m:Int)) HPO.out hrl)
   have HSI:=hide (sin_of HPO.out GR.out)
   obtain⟨p0,p1,p2,p3,p4⟩:=zr5 GR.out.hp
   have lbp:=lt_of_block GR.out.hp
   clear hrl
   obtain⟨pp,hpp⟩:∃z,partOf (m:Int) rs=z:=⟨_,rfl⟩
   have HStep:Hid (pp.step=(m:Int)):=hide (by rw[←hpp];rfl)
   rw[hpp] at HSL HSI HGA
   have HPP:=hide hpp
   clear hpp
   go_wp2_with fail
   have hcall:=rright_any wr pp Ao Av Ac Ai k k k k co cv cc ci HSL.out (by omega) HSI.out
   rw[HStep.out] at hcall
   refine hcall.mono ?_
   clear hcall
   rintro e wr2 ⟨rfl,hb2⟩
   have GW:=hide (GetSt.grown GR.out hb2)
   have HSI2:=hide (HSI.out.next hb2)
   clear hb2 HBf ZW p0 p1 p2 p3 p4
   have ZW:=hide ((GW.out.kb.2 _ hHv HHX.out).trans HZ0.out)
   have HBf:=hide GW.out.bl
   rcases hrb:rightB pp with _ | _
   ·have HN:Hid (getF bs=none):=hide (by rw[HGA.out,hrb];rfl)
    clear hrb
    obtain⟨z0,z1,z2,z3,z4⟩:=zr5 ZW.out
    have zq:=zf ZW.out;have zf0:=zq 0;have zf1:=zq 1;have zf2:=zq 2;have zf3:=zq 3;have zf4:=zq 4;clear zq
    have HFin:=hide (zero_fin ZW.out HBf.out)
    go_wp2
    obtain⟨f,hf,hfB,h6⟩:=HFin.out
    rw[hf]
    obtain⟨y0,y1,y2,y3,y4⟩:=zr5 h6
    exact bodyPost_ret (v:=.tuple #[.agg #[.int .i64 0,.slice none 0 0,.slice none 0 0,.slice none 0 0,.slice none 0 0],.int .i64 140]) (by simp[results,Tryz.results32,go_sem,y0,y1,y2,y3,y4]) rfl (get_bad HN.out hfB).old
   have HN:Hid (getF bs=some pp):=hide (by rw[HGA.out,hrb];rfl)
   clear hrb
   obtain⟨p0,p1,p2,p3,p4⟩:=zr5 GW.out.hp
   have lbp2:=lt_of_block GW.out.hp
   obtain⟨z0,z1,z2,z3,z4⟩:=zr5 ZW.out
   have zq:=zf ZW.out;have zf0:=zq 0;have zf1:=zq 1;have zf2:=zq 2;have zf3:=zq 3;have zf4:=zq 4;clear zq
   have hF0:=ZW.out
   have hF1:=heap_setCell_same _ w.heap.size 0 _ _ (.int .i64 (m:Int)) hF0
   have hF2:=heap_setCell_same _ w.heap.size 1 _ _ (.slice Ao k co) hF1
   have hF3:=heap_setCell_same _ w.heap.size 2 _ _ (.slice Av k cv) hF2
   have hF4:=heap_setCell_same _ w.heap.size 3 _ _ (.slice Ac k cc) hF3
   have hF5:=heap_setCell_same _ w.heap.size 4 _ _ (.slice Ai k ci) hF4
   have hlW:w.heap.size≤w.heap.size:=Nat.le_refl _
   have fin:∃f,(((((wr2.setCell ⟨w.heap.size,0,none⟩ (.int .i64 (m:Int))).setCell ⟨w.heap.size,1,none⟩ (.slice Ao k co)).setCell ⟨w.heap.size,2,none⟩ (.slice Av k cv)).setCell ⟨w.heap.size,3,none⟩ (.slice Ac k cc)).setCell ⟨w.heap.size,4,none⟩ (.slice Ai k ci))=f∧Below w.heap.size w f∧f.heap[w.heap.size]?=some (.cells #[.int .i64 (m:Int),.slice Ao k co,.slice Av k cv,.slice Ac k cc,.slice Ai k ci] 64)∧SIn f pp Ao Av Ac Ai:=⟨_,rfl,(((((HBf.out.setCell (p:=⟨w.heap.size,0,none⟩) hlW (.int .i64 (m:Int))).setCell (p:=⟨w.heap.size,1,none⟩) hlW (.slice Ao k co)).setCell (p:=⟨w.heap.size,2,none⟩) hlW (.slice Av k cv)).setCell (p:=⟨w.heap.size,3,none⟩) hlW (.slice Ac k cc)).setCell (p:=⟨w.heap.size,4,none⟩) hlW (.slice Ai k ci)),hF5,by rw[←HPP.out];exact sin_rows HPO.out (((((rows_set (rows_of GW.out) hHv 0 _).set hHv 1 _).set hHv 2 _).set hHv 3 _).set hHv 4 _)⟩
   have FIN:=hide fin
   clear fin hF0 hF1 hF2 hF3 hF4 hF5
   go_wp2
   obtain⟨f,hf,hfB,h6,hfS⟩:=FIN.out
   rw[hf]
   obtain⟨y0,y1,y2,y3,y4⟩:=zr5 h6
   have hgo:=get_okO (w:=w) (co:=co) (cv:=cv) (cc:=cc) (ci:=ci) HN.out HSL.out (by omega) hfS hfB
   rw[HStep.out] at hgo
   exact bodyPost_ret (v:=.tuple #[.agg #[.int .i64 (m:Int),.slice Ao k co,.slice Av k cv,.slice Ac k cc,.slice Ai k ci],.int .i64 0]) (by simp[results,Tryz.results32,go_sem,y0,y1,y2,y3,y4]) rfl hgo
  have HN:=hide (getF_left HNn.out HG.out (by rw[HL.out];exact hs))
  obtain⟨z0,z1,z2,z3,z4⟩:=zr5 ZW.out
  have zq:=zf ZW.out;have zf0:=zq 0;have zf1:=zq 1;have zf2:=zq 2;have zf3:=zq 3;have zf4:=zq 4;clear zq
  have HFin:=hide (zero_fin ZW.out HBf.out)
  go_wp2
  obtain⟨f,hf,hfB,h6⟩:=HFin.out
  rw[hf]
  obtain⟨y0,y1,y2,y3,y4⟩:=zr5 h6
  exact bodyPost_ret (v:=.tuple #[.agg #[.int .i64 0,.slice none 0 0,.slice none 0 0,.slice none 0 0,.slice none 0 0],.int .i64 140]) (by simp[results,Tryz.results32,go_sem,y0,y1,y2,y3,y4]) rfl (get_bad HN.out hfB).old
end Go.Proofs.YtpojjmbalgmcoaaGreat
