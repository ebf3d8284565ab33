/- Lemmas: Jsm, Qsm, Pik, Rob, Eml. -/
import Derived.Test.YtpojjmbalgmcoaaGreatProg
import Derived.Lib.Hide
import Derived.WalkSpells
import Derived.WalkMore
import Derived.IntWalk
import Derived.Test.YtpojjmbalgmcoaaGreatStWw9
set_option linter.unusedVariables false
set_option linter.unusedSimpArgs false
set_option maxRecDepth 100000
set_option maxHeartbeats 16000000
namespace Go.Proofs.YtpojjmbalgmcoaaGreat
open Go.RowKit
theorem rtsame_any (w:World) (st sm mo:Int) (A1 A2 A3 B1 B2 B3:Option Addr) (n1 n2 n3 c1 c2 c3 d1 d2 d3:Nat) (vals:List Int) (chg:List Bool) (inb inb2:List Ml) (h1:vals.length=n1) (h2:chg.length=n2) (h3:inb.length=n3) (h4:inb2.length=n3) (b1:n1≤9223372036854775807) (b2:n2≤9223372036854775807) (b3:n3≤9223372036854775807)
  (hm:eqL (inb.map nmA) (inb2.map nmA)=true) (ra1:Rd w w.heap.size A1 (i64s vals)) (ra2:Rd w w.heap.size A2 (bools chg)) (ra3:Rd w w.heap.size A3 (mlFlat inb)) (rb1:Rd w w.heap.size B1 (i64s vals)) (rb2:Rd w w.heap.size B2 (bools chg)) (rb3:Rd w w.heap.size B3 (mlFlat inb2)) :
  Calls Tryz.prog 21 #[.agg #[.int .i64 st,.slice A1 n1 c1,.slice A2 n2 c2,.slice A3 n3 c3,.int .i64 sm,.int .i64 mo],.agg #[.int .i64 st,.slice B1 n1 d1,.slice B2 n2 d2,.slice B3 n3 d3,.int .i64 sm,.int .i64 mo]] w fun e w'=>e = .returned (.bool true)∧Below w.heap.size w w':=by
 obtain⟨u,hv⟩:∃v,(w.alloc (.cells #[.int .i64 st,.slice A1 n1 c1,.slice A2 n2 c2,.slice A3 n3 c3,.int .i64 sm,.int .i64 mo] 33)).alloc (.cells #[.int .i64 st,.slice B1 n1 d1,.slice B2 n2 d2,.slice B3 n3 d3,.int .i64 sm,.int .i64 mo] 33)=v:=⟨_,rfl⟩
 have hz:w.heap.size+2≤u.heap.size:=by rw[←hv];simp
 have hb:Below w.heap.size w u:=by rw[←hv];exact ((Below.refl _ _).alloc (Nat.le_refl _) _).alloc (by simp) _
 have q1:u.heap[w.heap.size]?=some (.cells #[.int .i64 st,.slice A1 n1 c1,.slice A2 n2 c2,.slice A3 n3 c3,.int .i64 sm,.int .i64 mo] 33):=by rw[←hv];exact (Below.heap_alloc _ _ _ (by simp)).trans (heap_alloc_last w _)
 have q2:u.heap[w.heap.size+1]?=some (.cells #[.int .i64 st,.slice B1 n1 d1,.slice B2 n2 d2,.slice B3 n3 d3,.int .i64 sm,.int .i64 mo] 33):=by
  rw[←hv]
  have:=heap_alloc_last (w.alloc (.cells #[.int .i64 st,.slice A1 n1 c1,.slice A2 n2 c2,.slice A3 n3 c3,.int .i64 sm,.int .i64 mo] 33)) (.cells #[.int .i64 st,.slice B1 n1 d1,.slice B2 n2 d2,.slice B3 n3 d3,.int .i64 sm,.int .i64 mo] 33)
  rw[World.size_alloc] at this
  exact this
 have HB:=hide hb
 have HV:=hide hv
 have HM:=hide hm
 have HL1:=hide h1;have HL2:=hide h2;have HL3:=hide h3;have HL4:=hide h4
 have RA1:=hide (ra1.next hb)
 have RA2:=hide (ra2.next hb)
 have RA3:=hide (ra3.next hb)
 have RB1:=hide (rb1.next hb)
 have RB2:=hide (rb2.next hb)
 have RB3:=hide (rb3.next hb)
 have X0:=hide (show u.cell? ⟨w.heap.size,0,none⟩=some (.int .i64 st) from cell_of_row _ _ 0 _ _ _ q1)
 have X1:=hide (show u.cell? ⟨w.heap.size,1,none⟩=some (.slice A1 n1 c1) from cell_of_row _ _ 1 _ _ _ q1)
 have X2:=hide (show u.cell? ⟨w.heap.size,2,none⟩=some (.slice A2 n2 c2) from cell_of_row _ _ 2 _ _ _ q1)
 have X3:=hide (show u.cell? ⟨w.heap.size,3,none⟩=some (.slice A3 n3 c3) from cell_of_row _ _ 3 _ _ _ q1)
 have X4:=hide (show u.cell? ⟨w.heap.size,4,none⟩=some (.int .i64 sm) from cell_of_row _ _ 4 _ _ _ q1)
 have X5:=hide (show u.cell? ⟨w.heap.size,5,none⟩=some (.int .i64 mo) from cell_of_row _ _ 5 _ _ _ q1)
 have Y0:=hide (show u.cell? ⟨w.heap.size+1,0,none⟩=some (.int .i64 st) from cell_of_row _ _ 0 _ _ _ q2)
 have Y1:=hide (show u.cell? ⟨w.heap.size+1,1,none⟩=some (.slice B1 n1 d1) from cell_of_row _ _ 1 _ _ _ q2)
 have Y2:=hide (show u.cell? ⟨w.heap.size+1,2,none⟩=some (.slice B2 n2 d2) from cell_of_row _ _ 2 _ _ _ q2)
 have Y3:=hide (show u.cell? ⟨w.heap.size+1,3,none⟩=some (.slice B3 n3 d3) from cell_of_row _ _ 3 _ _ _ q2)
 have Y4:=hide (show u.cell? ⟨w.heap.size+1,4,none⟩=some (.int .i64 sm) from cell_of_row _ _ 4 _ _ _ q2)
 have Y5:=hide (show u.cell? ⟨w.heap.size+1,5,none⟩=some (.int .i64 mo) from cell_of_row _ _ 5 _ _ _ q2)
 clear q1 q2 hb hv hm h1 h2 h3 h4 ra1 ra2 ra3 rb1 rb2 rb3
 have x0:=X0.out
 have y0:=Y0.out
 have x1:=X1.out
 have x2:=X2.out
 have x3:=X3.out
 have x4:=X4.out
 have x5:=X5.out
 have y1:=Y1.out
 have y2:=Y2.out
 have y3:=Y3.out
 have y4:=Y4.out
 have y5:=Y5.out
 go_enter Tryz.func21,Tryz.ntmps21
 go_wp2_with fail
 rw[HV.out]
 refine (rmsame_anyA u A3 B3 inb inb2 n3 n3 c3 d3 HL3.out HL4.out b3 RA3.out RB3.out).mono ?_
 rintro e z ⟨rfl,hz⟩
 have KU:=hide hz
 have KP:Hid (Kept u z):=hide (Kept.of_below hz)
 rw[HM.out]
 clear hz x0 y0 x1 y1 x2 y2 x3 y3 x4 y4 x5 y5
 go_wp2
 go_loopw [5] (fun vi wr=>∃i:Nat,i≤n1∧vi = .int .i64 i∧Hid (Kept u wr)∧Hid (Below u.heap.size u wr)) (fun vi _=>n1-(intOf vi).toNat)
 case atStart=>exact⟨0,by omega,rfl,KP,KU⟩
 case round=>
  clear KP KU
  obtain⟨i,hi,rfl,hkr,hbr⟩:=hrel
  have xr:wr.cell? ⟨w.heap.size,1,none⟩=some (.slice A1 n1 c1):=(hkr.out ⟨w.heap.size,1,none⟩ (by show w.heap.size<_;omega)).trans X1.out
  by_cases hlt:i<n1
  ·have hi1:i<vals.length:=by rw[HL1.out];exact hlt
   obtain⟨b1,o1,hA1,l1,cx⟩:=RA1.out.at1 (i:=i) (i64s_get (List.getElem?_eq_getElem hi1))
   obtain⟨b2,o2,hA2,l2,cy⟩:=RB1.out.at1 (i:=i) (i64s_get (List.getElem?_eq_getElem hi1))
   obtain⟨x,hx⟩:∃x,vals[i]=x:=⟨_,rfl⟩
   rw[hx] at cx cy
   have hI0:(0:Int)≤(i:Int):=by omega
   have hI1:(i:Int)<(n1:Int):=by omega
   have x1:u.cell? ⟨w.heap.size,1,none⟩=some (.slice (some ⟨b1,o1,none⟩) n1 c1):=by rw[←hA1];exact X1.out
   have y1:u.cell? ⟨w.heap.size+1,1,none⟩=some (.slice (some ⟨b2,o2,none⟩) n1 d1):=by rw[←hA2];exact Y1.out
   have lu0:w.heap.size<u.heap.size:=by omega
   have lu1:w.heap.size+1<u.heap.size:=by omega
   clear hx hi1 hA1 hA2
   all_goals
    go_wp2
    refine wp_region_held_drew (S:=Kept u) (by kernel_rfl) (fun p hp=>hkr.out p hp) (fun hS0=>?_)
    refine tka 0 59 ?_
    refine tka 1 60 ?_
    refine tka 2 61 ?_
    refine tka 3 62 ?_
    refine tka 4 63 ?_
    refine tka 5 64 ?_
    refine tka 6 65 ?_
    refine tka 7 66 ?_
    refine tka 8 67 ?_
    refine tka 9 68 ?_
    refine tka 10 69 ?_
    refine wpAnyH_done (by kernel_rfl) ?_ _
    clear hS0
    go_wp2
    go_roundw
    case rel=>exact⟨i+1,by omega,by go_num,hide (fun p hp=>hkr.out p hp),hide hbr.out.drew⟩
    case measure=>simp[intOf];omega
  obtain rfl:i=n1:=by omega
  have KP:=hkr
  have KU:=hbr
  clear hkr hbr
  obtain⟨w00,rfl⟩:∃z:World,z=wr:=⟨_,rfl⟩
  go_wp2
  clear xr
  go_loopw [6] (fun vi wr=>∃i:Nat,i≤n2∧vi = .int .i64 i∧Hid (Kept u wr)∧Hid (Below u.heap.size u wr)) (fun vi _=>n2-(intOf vi).toNat)
  case atStart=>exact⟨0,by omega,rfl,KP,KU⟩
  case round=>
   clear KP KU
   obtain⟨i,hi,rfl,hkr,hbr⟩:=hrel
   have xr:wr.cell? ⟨w.heap.size,2,none⟩=some (.slice A2 n2 c2):=(hkr.out ⟨w.heap.size,2,none⟩ (by show w.heap.size<_;omega)).trans X2.out
   by_cases hlt:i<n2
   ·have hi1:i<chg.length:=by rw[HL2.out];exact hlt
    obtain⟨b1,o1,hA1,l1,cx⟩:=RA2.out.at1 (i:=i) (bools_getA? (List.getElem?_eq_getElem hi1))
    obtain⟨b2,o2,hA2,l2,cy⟩:=RB2.out.at1 (i:=i) (bools_getA? (List.getElem?_eq_getElem hi1))
    obtain⟨x,hx⟩:∃x,chg[i]=x:=⟨_,rfl⟩
    rw[hx] at cx cy
    have hI0:(0:Int)≤(i:Int):=by omega
    have hI1:(i:Int)<(n2:Int):=by omega
    have x2:u.cell? ⟨w.heap.size,2,none⟩=some (.slice (some ⟨b1,o1,none⟩) n2 c2):=by rw[←hA1];exact X2.out
    have y2:u.cell? ⟨w.heap.size+1,2,none⟩=some (.slice (some ⟨b2,o2,none⟩) n2 d2):=by rw[←hA2];exact Y2.out
    have lu0:w.heap.size<u.heap.size:=by omega
    have lu1:w.heap.size+1<u.heap.size:=by omega
    clear hx hi1 hA1 hA2
    cases x
    all_goals
     go_wp2
     refine wp_region_held_drew (S:=Kept u) (by kernel_rfl) (fun p hp=>hkr.out p hp) (fun hS0=>?_)
     refine tka 0 77 ?_
     refine tka 1 78 ?_
     refine tka 2 79 ?_
     refine tka 3 80 ?_
     refine tka 4 81 ?_
     refine tka 5 82 ?_
     refine tka 6 83 ?_
     refine tka 7 84 ?_
     refine tka 8 85 ?_
     refine tka 9 86 ?_
     refine tka 10 87 ?_
     refine wpAnyH_done (by kernel_rfl) ?_ _
     clear hS0
     go_wp2
     go_roundw
     case rel=>exact⟨i+1,by omega,by go_num,hide (fun p hp=>hkr.out p hp),hide hbr.out.drew⟩
     case measure=>simp[intOf];omega
   obtain rfl:i=n2:=by omega
   have KP:=hkr
   have KU:=hbr
   clear hkr hbr
   have HBf:=hide (HB.out.trans (KU.out.mono HB.out.size))
   go_wp2
   go_ret
   exact⟨rfl,HBf.out⟩
structure SV where
 st:Int
 vals:List Int
 chg:List Bool
 inb:List Ml
 sm:Int
 mo:Int
deriving DecidableEq
structure VIn (w:World) (p:SV) (Av Ac Ai:Option Addr):Prop where
 vals:Rd w w.heap.size Av (i64s p.vals)
 chg:Rd w w.heap.size Ac (bools p.chg)
 inb:Rd w w.heap.size Ai (mlFlat p.inb)
theorem VIn.next {w w':World} {p:SV} {Av Ac Ai:Option Addr} (h:VIn w p Av Ac Ai) (hb:Below w.heap.size w w'):VIn w' p Av Ac Ai:=⟨h.vals.next hb,h.chg.next hb,h.inb.next hb⟩
def VLen (p:SV) (nv nc ni:Nat):Prop:=p.vals.length=nv∧p.chg.length=nc∧p.inb.length=ni
def pickOf (i n:Int):Int:=if n≤0 then 0 else (i.tmod n+n).tmod n
theorem pick_rng (i n:Int) (h:0<n):0≤pickOf i n∧pickOf i n<n:=by
 unfold pickOf
 rw[if_neg (by omega)]
 have h1:=Int.tmod_lt_of_pos i h
 have h2:-n<i.tmod n:=by
  have:=Int.tmod_lt_of_pos (-i) h
  rw[Int.neg_tmod] at this
  omega
 have h3:=Int.tmod_lt_of_pos (i.tmod n+n) h
 have h4:=Int.tmod_nonneg (b:=n) (a:=i.tmod n+n) (by omega)
 omega
theorem pick_any (w:World) (i n:Int) (hi1:-9223372036854775808≤i) (hi2:i≤9223372036854775807) (hn:0<n) (hn2:n≤4611686018427387904):Calls Tryz.prog 34 #[.int .i64 i,.int .i64 n] w fun e w'=>e = .returned (.int .i64 (pickOf i n))∧w'=w:=by
 have hp:pickOf i n=(i.tmod n+n).tmod n:=by unfold pickOf;rw[if_neg (by omega)]
 have HP:=hide hp
 have h1:=Int.tmod_lt_of_pos i hn
 have h2:-n<i.tmod n:=by
  have:=Int.tmod_lt_of_pos (-i) hn
  rw[Int.neg_tmod] at this
  omega
 have hpr:=pick_rng i n hn
 rw[hp] at hpr
 clear hp
 have w1:IntKind.i64.wrap (i.tmod n)=i.tmod n:=IntWalk.i64_in _ (by omega)
 have w2:IntKind.i64.wrap (i.tmod n+n)=i.tmod n+n:=IntWalk.i64_in _ (by omega)
 have w3:IntKind.i64.wrap ((i.tmod n+n).tmod n)=(i.tmod n+n).tmod n:=IntWalk.i64_in _ (by omega)
 have d0:¬n=0:=by omega
 have hnn:0≤i.tmod n+n:=by omega
 go_enter Tryz.func34,Tryz.ntmps34
 go_wp2
 go_ret
 exact⟨ret_n (by rw[HP.out,Int.tmod_eq_emod_of_nonneg hnn]),rfl⟩
def RowPost (w:World) (es:List Ed) (e:Ending) (w':World):Prop:=∃A c,e = .returned (.slice A es.length c)∧w'.ownsRow w.heap.size 57 3 (.slice A es.length c) es.length (edFlat es)∧Below w.heap.size w w'
theorem ownsRow_lower {w:World} {base base':Nat} {e:TypeId} {size:Nat} {v:Value} {n:Nat} {xs:List Value} (h:w.ownsRow base e size v n xs) (hb:base'≤base):w.ownsRow base' e size v n xs:=
 ⟨h.1,h.2.imp id fun⟨g,cap,cur,h1,h2,h3⟩=>⟨g,cap,cur,h1,Nat.le_trans hb h2,h3⟩⟩
def fromF (es:List Ed) (v:Int):List Ed:=es.filter fun e=>e.1 == v
def toF (es:List Ed) (v:Int):List Ed:=es.filter fun e=>e.2.1 == v
theorem filt_step {f:Ed→Bool} {es:List Ed} {k:Nat} {e:Ed} (h:es[k]?=some e):(es.take (k+1)).filter f=(es.take k).filter f ++ (if f e then [e] else []):=by
 rw[List.take_add_one,h,List.filter_append]
 congr 1
 simp only[Option.toList_some,List.filter_cons,List.filter_nil]
def millE:List Ed:=[(0,1,4),(0,2,1),(1,3,5),(2,1,2),(4,4,7)]
theorem mill_any (w:World):Calls Tryz.prog 4 #[] w (GraphPost w 6 millE):=by
 go_enter Tryz.func4,Tryz.ntmps4
 go_wp2
 refine bodyPost_ret (v:=.agg #[.int .i64 6,.slice (some ⟨w.heap.size+1,0,none⟩) 5 5]) (by simp[results,Tryz.results4,go_sem]) rfl ?_
 refine⟨some ⟨w.heap.size+1,0,none⟩,5,rfl,?_,by decide,by decide,((Below.refl _ _).alloc (Nat.le_refl _) _).alloc (by simp) _⟩
 refine Eds.of_rd ?_ (wt_of (by decide))
 have:=Rd.new (w.alloc (.cells #[.int .i64 6,.slice (some ⟨w.heap.size+1,0,none⟩) 5 5] 24)) (edFlat millE).toArray 57 (0,0)
 rw[World.size_alloc] at this
 exact this.more (by simp)
end Go.Proofs.YtpojjmbalgmcoaaGreat
