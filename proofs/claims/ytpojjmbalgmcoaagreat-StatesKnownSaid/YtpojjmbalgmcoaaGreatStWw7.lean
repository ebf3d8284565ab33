/- Lemmas: Mow, Mwn. -/
import Derived.RangeFuncNested
import Derived.RangeFuncBound
import Derived.RangeFuncCalls
import Derived.RangeFuncLeaves
import Derived.RangeFuncBox
import Derived.Shelf.Abstract
import Derived.Shelf.RegionOpen
import Derived.WalkKit
import Derived.OwnWalkIn
import Derived.TacticsInMore
import Derived.LoopNIn
import Derived.LoopIn
import Derived.Maps.AppendAt
import Derived.Test.YtpojjmbalgmcoaaGreatStWw5
import Derived.Test.YtpojjmbalgmcoaaGreatStWw6
set_option linter.unusedVariables false
set_option linter.unusedSimpArgs false
set_option maxRecDepth 100000
set_option maxHeartbeats 16000000
namespace Go.Proofs.YtpojjmbalgmcoaaGreat
open Go.RowKit Go.Shelf
attribute [local go_sem] Oper.semAt_some
def sel (n k v:Int):Bool:=decide (0≤k) && decide (ofF v n=k)
def ownUpto (n k:Int) (i:Nat):List Int:=((List.range i).map fun (j:Nat)=>(j:Int)).filter (sel n k)
def ownedF (V n k:Int):List Int:=ownUpto n k (min V 512).toNat
theorem own_snoc (n k:Int) (i:Nat):ownUpto n k (i+1)=ownUpto n k i ++ (if sel n k (i:Int)=true then [(i:Int)] else []):=by
 unfold ownUpto
 rw[List.range_succ,List.map_append,List.filter_append]
 congr 1
 simp only[List.map_cons,List.map_nil,List.filter_cons,List.filter_nil]
theorem own_len (n k:Int) (i:Nat):(ownUpto n k i).length≤i:=by
 unfold ownUpto
 refine Nat.le_trans (List.length_filter_le _ _) ?_
 simp
def OwnPost (w:World) (l:List Int) (e:Ending) (w':World):Prop:=∃A c,e = .returned (.slice A l.length c)∧w'.ownsRow w.heap.size 3 1 (.slice A l.length c) l.length (l.map (Value.int .i64))∧Below w.heap.size w w'
def Kp3 (a b c:Nat) (W W':World):Prop:=∀(v:Value) (q:Nat),(q=a∨q=b∨q=c)→W.cell? ⟨q,0,none⟩=some v→W'.cell? ⟨q,0,none⟩=some v
theorem Kp3.refl (a b c:Nat) (W:World):Kp3 a b c W W:=fun _ _ _ h=>h
theorem Kp3.trans {a b c:Nat} {A B C:World} (h:Kp3 a b c A B) (k:Kp3 a b c B C):Kp3 a b c A C:=fun v q hq e=>k v q hq (h v q hq e)
theorem Kp3.of_below {a b c n:Nat} {A B:World} (h:Below n A B) (ha:a<n) (hb:b<n) (hc:c<n):Kp3 a b c A B:=fun v q hq e=>(h.cell (p:=⟨q,0,none⟩) (by show q<n;omega)).trans e
def Two (A B:World→Prop) (e:Ending) (W':World):Prop:=∃b:Bool,e = .returned (.bool b)∧Hid ((b=true∧A W')∨(b=false∧B W'))
theorem two_of {A B:World→Prop} {e:Ending} {W':World} (h:(e = .returned (.bool true)∧A W')∨(e = .returned (.bool false)∧B W')):Two A B e W':=
 h.elim (fun⟨h1,h2⟩=>⟨true,h1,.inl ⟨rfl,h2⟩⟩) (fun⟨h1,h2⟩=>⟨false,h1,.inr ⟨rfl,h2⟩⟩)
theorem owned1_in (n:Nat) (hn:1≤n) (l bV bK bN:Nat) (V m k:Int) (J Jx:List Int→World→Prop)
  (hY:∀pre x W,J pre W→pre.length<512→YieldAt Fence.wide (n-1) Tryz.prog l #[.int .i64 x] W fun e W'=>
   (e = .returned (.bool true)∧J (pre ++ [x]) W'∧Kp3 bV bK bN W W')∨(e = .returned (.bool false)∧Jx (pre ++ [x]) W'))
  (W:World) (cV:W.cell? ⟨bV,0,none⟩=some (.int .i64 V)) (cK:W.cell? ⟨bK,0,none⟩=some (.int .i64 k)) (cN:W.cell? ⟨bN,0,none⟩=some (.int .i64 m)) (h0:J [] W)
  (hJd:∀pre W,J pre W→J pre W.drew) :
  CallsIn Fence.wide n Tryz.prog 80 #[.func (.yield l) #[] #[],.pointer (some ⟨bV,0,none⟩),.pointer (some ⟨bK,0,none⟩),.pointer (some ⟨bN,0,none⟩)] W fun e W'=>(∃v,e = .returned v) ∧
   ((∃ys,ys=ownedF V m k∧J ys W')∨(∃pre,True∧Jx pre W')):=by
 obtain⟨M,hM⟩:∃M,(min V 512).toNat=M:=⟨_,rfl⟩
 have HF:Hid (ownedF V m k=ownUpto m k M):=hide (by rw[ownedF,hM])
 have hM1:(M:Int)≤512:=by omega
 refine callsIn_of_wp Tryz.func80 rfl trivial ?_ rfl
 simp only[Tryz.ntmps80,List.size_toArray,List.length_cons,List.length_nil,Nat.reduceAdd,Nat.reduceSub,Array.replicate_succ,Array.replicate_zero,List.push_toArray,List.append_toArray,List.nil_append,List.cons_append]
 rcases (show V<0∨V=0∨(0<V∧V≤512)∨512<V by omega) with hc | hc | ⟨hc,hd⟩ | hc
 ·obtain rfl:M=0:=by omega
  have hd:V<512:=by omega
  clear hM
  gi_wp2
  gi_loopw [9] (fun i wr=>i = .int .i64 0∧J [] wr) (fun i _=>0)
  case atStart=>exact⟨rfl,h0⟩
  case round=>
   obtain⟨rfl,hJs⟩:=hrel
   gi_wp2
   go_end0
   exact⟨⟨_,rfl⟩,.inl (by first | (rw[HF.out];exact hJs) | exact⟨_,HF.out.symm,hJs⟩)⟩
 ·obtain rfl:M=0:=by omega
  subst hc
  clear hM
  gi_wp2
  gi_loopw [9] (fun i wr=>i = .int .i64 0∧J [] wr) (fun i _=>0)
  case atStart=>exact⟨rfl,h0⟩
  case round=>
   obtain⟨rfl,hJs⟩:=hrel
   gi_wp2
   go_end0
   exact⟨⟨_,rfl⟩,.inl (by first | (rw[HF.out];exact hJs) | exact⟨_,HF.out.symm,hJs⟩)⟩
 ·have hVM:V=(M:Int):=by omega
  subst hVM
  clear hM
  gi_wp2
  gi_loopw [9] (fun i wr=>∃j:Nat,j≤M∧i = .int .i64 j∧J (ownUpto m k j) wr∧Hid (Kp3 bV bK bN W wr)) (fun i _=>M-(intOf i).toNat)
  case atStart=>exact⟨0,by omega,rfl,h0,hide (Kp3.refl _ _ _ _)⟩
  case round=>
   obtain⟨j,hj,rfl,hJs,hbw⟩:=hrel
   have dV:=hbw.out _ _ (.inl rfl) cV
   have dK:=hbw.out _ _ (.inr (.inl rfl)) cK
   have dN:=hbw.out _ _ (.inr (.inr rfl)) cN
   by_cases hlt:j<M
   ·have h1:(j:Int)<(M:Int):=by omega
    have HS:=hide (own_snoc m k j)
    have hll:=own_len m k j
    by_cases hk:0≤k
    ·by_cases ho:ofF (j:Int) m=k
     ·have hsel:sel m k (j:Int)=true:=by simp[sel,hk,ho]
      have HN:Hid (ownUpto m k (j+1)=ownUpto m k j ++ [(j:Int)]):=hide (by rw[HS.out,if_pos hsel])
      have HO:=hide ho
      obtain⟨fn,tmps,assign,body,hy,hR⟩:=YieldAt.mono (hY (ownUpto m k j) (j:Int) wr.drew (hJd _ _ hJs) (by omega)) (fun _ _ h=>two_of (A:=fun W'=>J (ownUpto m k j ++ [(j:Int)]) W'∧Kp3 bV bK bN wr.drew W') (B:=fun W'=>Jx (ownUpto m k j ++ [(j:Int)]) W') h)
      clear ho hsel hJs
      gi_wp2
      gi_region_with (first | (refine⟨trivial,?_⟩;refine (callsIn_wide.2 (of_anyA _ (j:Int) m)).mono ?_;rintro e y ⟨rfl,rfl⟩;rw[HO.out]) | (refine hR.mono ?_;rintro e W3 ⟨b,rfl,htw⟩))
      all_goals
       rcases htw.out with ⟨rfl,hJ3,hk3⟩ | ⟨rfl,hJx3⟩
       ·have hb3:=hide (Kp3.trans (fun v q hq h=>hbw.out v q hq h) hk3)
        rw[←HN.out] at hJ3
        gi_wp2
        go_roundw
        case rel=>exact⟨j+1,by omega,by go_num,hJ3,hb3⟩
        case measure=>simp[intOf];omega
       gi_wp2
       refine bodyPost_ret (results_none rfl _ _ _) rfl ?_
       exact⟨⟨_,rfl⟩,.inr (by first | exact⟨_,hJx3⟩ | exact⟨_,trivial,hJx3⟩)⟩
     have HN:Hid (ownUpto m k (j+1)=ownUpto m k j):=hide (by rw[HS.out,if_neg (by simp[sel,ho]),List.append_nil])
     obtain⟨z,hz⟩:∃z,ofF (j:Int) m=z:=⟨_,rfl⟩
     rw[hz] at ho
     have HZ:=hide hz
     have hzk:(z == k)=false:=by simp only[beq_eq_false_iff_ne,ne_eq];exact ho
     have hJ3:J (ownUpto m k (j+1)) wr.drew:=by rw[HN.out];exact hJd _ _ hJs
     clear hz hJs
     gi_wp2
     refine wpIn_wide.2 ?_
     refine wp_region_held_drew (S:=fun w'=>Hid (w'=wr.drew)) (by kernel_rfl) (hide rfl) (fun hS0=>?_)
     refine tk 0 12 ?_ ?_ ?_;rotate_left;(focus (intro w hSw;obtain rfl:w=wr.drew:=hSw.out;go_simp;(try with_reducible rfl);done));(try simp only[zqd,zqe,zqf])
     refine tk 1 13 ?_ ?_ ?_;rotate_left;(focus (intro w hSw;obtain rfl:w=wr.drew:=hSw.out;go_simp;(try with_reducible rfl);done));(try simp only[zqd,zqe,zqf])
     refine tk 2 14 ?_ ?_ ?_;rotate_left;(focus (intro w hSw;obtain rfl:w=wr.drew:=hSw.out;go_simp;(try with_reducible rfl);done));(try simp only[zqd,zqe,zqf])
     refine tk 3 15 ?_ ?_ ?_;rotate_left;(focus (intro w hSw;obtain rfl:w=wr.drew:=hSw.out;go_simp;(try with_reducible rfl);done));(try simp only[zqd,zqe,zqf])
     refine tk 4 16 ?_ ?_ ?_;rotate_left;(focus (intro w hSw;obtain rfl:w=wr.drew:=hSw.out;go_simp;(try with_reducible rfl);done));(try simp only[zqd,zqe,zqf])
     refine tk 6 18 ?_ ?_ ?_;rotate_left;(focus (intro w hSw;obtain rfl:w=wr.drew:=hSw.out;go_simp;(try with_reducible rfl);done));(try simp only[zqd,zqe,zqf])
     refine ck 5 17 fun K hK=>?_
     go_simp
     refine (of_anyA _ (j:Int) m).mono ?_
     rintro e y ⟨rfl,rfl⟩
     rw[HZ.out]
     go_wp2_with fail
     refine hK.out _ _ (hide rfl) (fun hSn=>?_)
     clear hK K
     try simp only[zqd,zqe,zqf]
     refine tk 7 19 ?_ ?_ ?_;rotate_left;(focus (intro w hSw;obtain rfl:w=wr.drew:=hSw.out;go_simp;(try with_reducible rfl);done));(try simp only[zqd,zqe,zqf])
     refine tk 8 20 ?_ ?_ ?_;rotate_left;(focus (intro w hSw;obtain rfl:w=wr.drew:=hSw.out;go_simp;(try with_reducible rfl);done));(try simp only[zqd,zqe,zqf])
     refine tk 9 21 ?_ ?_ ?_;rotate_left;(focus (intro w hSw;obtain rfl:w=wr.drew:=hSw.out;go_simp;(try with_reducible rfl);done));(try simp only[zqd,zqe,zqf])
     refine ska 10 22 ?_
     refine ska 11 23 ?_
     refine ska 12 24 ?_
     refine ska 13 25 ?_
     refine tk 14 26 ?_ ?_ ?_;rotate_left;(focus (intro w hSw;obtain rfl:w=wr.drew:=hSw.out;go_simp;(try with_reducible rfl);done));(try simp only[zqd,zqe,zqf])
     refine wpAnyH_done (by kernel_rfl) ?_ _
     all_goals
      gi_wp2
      go_roundw
      case rel=>exact⟨j+1,by omega,by go_num,hJ3,hide (fun v q hq h=>hbw.out v q hq h)⟩
      case measure=>simp[intOf];omega
    have HN:Hid (ownUpto m k (j+1)=ownUpto m k j):=hide (by rw[HS.out,if_neg (by simp[sel,hk]),List.append_nil])
    have hk':k<0:=by omega
    have hdk:decide (0≤k)=false:=decide_eq_false (by omega)
    have hJ3:J (ownUpto m k (j+1)) wr.drew:=by rw[HN.out];exact hJd _ _ hJs
    clear hJs
    gi_wp2
    refine wpIn_wide.2 ?_
    refine wp_region_held_drew (S:=fun w'=>Hid (w'=wr.drew)) (by kernel_rfl) (hide rfl) (fun hS0=>?_)
    refine tk 0 12 ?_ ?_ ?_;rotate_left;(focus (intro w hSw;obtain rfl:w=wr.drew:=hSw.out;go_simp;(try with_reducible rfl);done));(try simp only[zqd,zqe,zqf])
    refine tk 1 13 ?_ ?_ ?_;rotate_left;(focus (intro w hSw;obtain rfl:w=wr.drew:=hSw.out;go_simp;(try with_reducible rfl);done));(try simp only[zqd,zqe,zqf])
    refine tk 2 14 ?_ ?_ ?_;rotate_left;(focus (intro w hSw;obtain rfl:w=wr.drew:=hSw.out;go_simp;(try with_reducible rfl);done));(try simp only[zqd,zqe,zqf])
    refine ska 3 15 ?_
    refine ska 4 16 ?_
    refine ska 5 17 ?_
    refine ska 6 18 ?_
    refine ska 7 19 ?_
    refine tk 8 20 ?_ ?_ ?_;rotate_left;(focus (intro w hSw;obtain rfl:w=wr.drew:=hSw.out;go_simp;(try with_reducible rfl);done));(try simp only[zqd,zqe,zqf])
    refine tk 9 21 ?_ ?_ ?_;rotate_left;(focus (intro w hSw;obtain rfl:w=wr.drew:=hSw.out;go_simp;(try with_reducible rfl);done));(try simp only[zqd,zqe,zqf])
    refine ska 10 22 ?_
    refine ska 11 23 ?_
    refine ska 12 24 ?_
    refine ska 13 25 ?_
    refine tk 14 26 ?_ ?_ ?_;rotate_left;(focus (intro w hSw;obtain rfl:w=wr.drew:=hSw.out;go_simp;(try with_reducible rfl);done));(try simp only[zqd,zqe,zqf])
    refine wpAnyH_done (by kernel_rfl) ?_ _
    all_goals
     gi_wp2
     go_roundw
     case rel=>exact⟨j+1,by omega,by go_num,hJ3,hide (fun v q hq h=>hbw.out v q hq h)⟩
     case measure=>simp[intOf];omega
   have h1:¬(j:Int)<(M:Int):=by omega
   obtain rfl:j=M:=by omega
   gi_wp2
   go_end0
   exact⟨⟨_,rfl⟩,.inl (by first | (rw[HF.out];exact hJs) | exact⟨_,HF.out.symm,hJs⟩)⟩
 obtain rfl:M=512:=by omega
 clear hM
 gi_wp2
 gi_loopw [9] (fun i wr=>∃j:Nat,j≤512∧i = .int .i64 j∧J (ownUpto m k j) wr∧Hid (Kp3 bV bK bN W wr)) (fun i _=>512-(intOf i).toNat)
 case atStart=>exact⟨0,by omega,rfl,h0,hide (Kp3.refl _ _ _ _)⟩
 case round=>
  obtain⟨j,hj,rfl,hJs,hbw⟩:=hrel
  have dV:=hbw.out _ _ (.inl rfl) cV
  have dK:=hbw.out _ _ (.inr (.inl rfl)) cK
  have dN:=hbw.out _ _ (.inr (.inr rfl)) cN
  by_cases hlt:j<512
  ·have h1:(j:Int)<512:=by omega
   have HS:=hide (own_snoc m k j)
   have hll:=own_len m k j
   by_cases hk:0≤k
   ·by_cases ho:ofF (j:Int) m=k
    ·have hsel:sel m k (j:Int)=true:=by simp[sel,hk,ho]
     have HN:Hid (ownUpto m k (j+1)=ownUpto m k j ++ [(j:Int)]):=hide (by rw[HS.out,if_pos hsel])
     have HO:=hide ho
     obtain⟨fn,tmps,assign,body,hy,hR⟩:=YieldAt.mono (hY (ownUpto m k j) (j:Int) wr.drew (hJd _ _ hJs) (by omega)) (fun _ _ h=>two_of (A:=fun W'=>J (ownUpto m k j ++ [(j:Int)]) W'∧Kp3 bV bK bN wr.drew W') (B:=fun W'=>Jx (ownUpto m k j ++ [(j:Int)]) W') h)
     clear ho hsel hJs
     gi_wp2
     gi_region_with (first | (refine⟨trivial,?_⟩;refine (callsIn_wide.2 (of_anyA _ (j:Int) m)).mono ?_;rintro e y ⟨rfl,rfl⟩;rw[HO.out]) | (refine hR.mono ?_;rintro e W3 ⟨b,rfl,htw⟩))
     all_goals
      rcases htw.out with ⟨rfl,hJ3,hk3⟩ | ⟨rfl,hJx3⟩
      ·have hb3:=hide (Kp3.trans (fun v q hq h=>hbw.out v q hq h) hk3)
       rw[←HN.out] at hJ3
       gi_wp2
       go_roundw
       case rel=>exact⟨j+1,by omega,by go_num,hJ3,hb3⟩
       case measure=>simp[intOf];omega
      gi_wp2
      refine bodyPost_ret (results_none rfl _ _ _) rfl ?_
      exact⟨⟨_,rfl⟩,.inr (by first | exact⟨_,hJx3⟩ | exact⟨_,trivial,hJx3⟩)⟩
    have HN:Hid (ownUpto m k (j+1)=ownUpto m k j):=hide (by rw[HS.out,if_neg (by simp[sel,ho]),List.append_nil])
    obtain⟨z,hz⟩:∃z,ofF (j:Int) m=z:=⟨_,rfl⟩
    rw[hz] at ho
    have HZ:=hide hz
    have hzk:(z == k)=false:=by simp only[beq_eq_false_iff_ne,ne_eq];exact ho
    have hJ3:J (ownUpto m k (j+1)) wr.drew:=by rw[HN.out];exact hJd _ _ hJs
    clear hz hJs
    gi_wp2
    refine wpIn_wide.2 ?_
    refine wp_region_held_drew (S:=fun w'=>Hid (w'=wr.drew)) (by kernel_rfl) (hide rfl) (fun hS0=>?_)
    refine tk 0 12 ?_ ?_ ?_;rotate_left;(focus (intro w hSw;obtain rfl:w=wr.drew:=hSw.out;go_simp;(try with_reducible rfl);done));(try simp only[zqd,zqe,zqf])
    refine tk 1 13 ?_ ?_ ?_;rotate_left;(focus (intro w hSw;obtain rfl:w=wr.drew:=hSw.out;go_simp;(try with_reducible rfl);done));(try simp only[zqd,zqe,zqf])
    refine tk 2 14 ?_ ?_ ?_;rotate_left;(focus (intro w hSw;obtain rfl:w=wr.drew:=hSw.out;go_simp;(try with_reducible rfl);done));(try simp only[zqd,zqe,zqf])
    refine tk 3 15 ?_ ?_ ?_;rotate_left;(focus (intro w hSw;obtain rfl:w=wr.drew:=hSw.out;go_simp;(try with_reducible rfl);done));(try simp only[zqd,zqe,zqf])
    refine tk 4 16 ?_ ?_ ?_;rotate_left;(focus (intro w hSw;obtain rfl:w=wr.drew:=hSw.out;go_simp;(try with_reducible rfl);done));(try simp only[zqd,zqe,zqf])
    refine tk 6 18 ?_ ?_ ?_;rotate_left;(focus (intro w hSw;obtain rfl:w=wr.drew:=hSw.out;go_simp;(try with_reducible rfl);done));(try simp only[zqd,zqe,zqf])
    refine ck 5 17 fun K hK=>?_
    go_simp
    refine (of_anyA _ (j:Int) m).mono ?_
    rintro e y ⟨rfl,rfl⟩
    rw[HZ.out]
    go_wp2_with fail
    refine hK.out _ _ (hide rfl) (fun hSn=>?_)
    clear hK K
    try simp only[zqd,zqe,zqf]
    refine tk 7 19 ?_ ?_ ?_;rotate_left;(focus (intro w hSw;obtain rfl:w=wr.drew:=hSw.out;go_simp;(try with_reducible rfl);done));(try simp only[zqd,zqe,zqf])
    refine tk 8 20 ?_ ?_ ?_;rotate_left;(focus (intro w hSw;obtain rfl:w=wr.drew:=hSw.out;go_simp;(try with_reducible rfl);done));(try simp only[zqd,zqe,zqf])
    refine tk 9 21 ?_ ?_ ?_;rotate_left;(focus (intro w hSw;obtain rfl:w=wr.drew:=hSw.out;go_simp;(try with_reducible rfl);done));(try simp only[zqd,zqe,zqf])
    refine ska 10 22 ?_
    refine ska 11 23 ?_
    refine ska 12 24 ?_
    refine ska 13 25 ?_
    refine tk 14 26 ?_ ?_ ?_;rotate_left;(focus (intro w hSw;obtain rfl:w=wr.drew:=hSw.out;go_simp;(try with_reducible rfl);done));(try simp only[zqd,zqe,zqf])
    refine wpAnyH_done (by kernel_rfl) ?_ _
    all_goals
     gi_wp2
     go_roundw
     case rel=>exact⟨j+1,by omega,by go_num,hJ3,hide (fun v q hq h=>hbw.out v q hq h)⟩
     case measure=>simp[intOf];omega
   have HN:Hid (ownUpto m k (j+1)=ownUpto m k j):=hide (by rw[HS.out,if_neg (by simp[sel,hk]),List.append_nil])
   have hk':k<0:=by omega
   have hdk:decide (0≤k)=false:=decide_eq_false (by omega)
   have hJ3:J (ownUpto m k (j+1)) wr.drew:=by rw[HN.out];exact hJd _ _ hJs
   clear hJs
   gi_wp2
   refine wpIn_wide.2 ?_
   refine wp_region_held_drew (S:=fun w'=>Hid (w'=wr.drew)) (by kernel_rfl) (hide rfl) (fun hS0=>?_)
   refine tk 0 12 ?_ ?_ ?_;rotate_left;(focus (intro w hSw;obtain rfl:w=wr.drew:=hSw.out;go_simp;(try with_reducible rfl);done));(try simp only[zqd,zqe,zqf])
   refine tk 1 13 ?_ ?_ ?_;rotate_left;(focus (intro w hSw;obtain rfl:w=wr.drew:=hSw.out;go_simp;(try with_reducible rfl);done));(try simp only[zqd,zqe,zqf])
   refine tk 2 14 ?_ ?_ ?_;rotate_left;(focus (intro w hSw;obtain rfl:w=wr.drew:=hSw.out;go_simp;(try with_reducible rfl);done));(try simp only[zqd,zqe,zqf])
   refine ska 3 15 ?_
   refine ska 4 16 ?_
   refine ska 5 17 ?_
   refine ska 6 18 ?_
   refine ska 7 19 ?_
   refine tk 8 20 ?_ ?_ ?_;rotate_left;(focus (intro w hSw;obtain rfl:w=wr.drew:=hSw.out;go_simp;(try with_reducible rfl);done));(try simp only[zqd,zqe,zqf])
   refine tk 9 21 ?_ ?_ ?_;rotate_left;(focus (intro w hSw;obtain rfl:w=wr.drew:=hSw.out;go_simp;(try with_reducible rfl);done));(try simp only[zqd,zqe,zqf])
   refine ska 10 22 ?_
   refine ska 11 23 ?_
   refine ska 12 24 ?_
   refine ska 13 25 ?_
   refine tk 14 26 ?_ ?_ ?_;rotate_left;(focus (intro w hSw;obtain rfl:w=wr.drew:=hSw.out;go_simp;(try with_reducible rfl);done));(try simp only[zqd,zqe,zqf])
   refine wpAnyH_done (by kernel_rfl) ?_ _
   all_goals
    gi_wp2
    go_roundw
    case rel=>exact⟨j+1,by omega,by go_num,hJ3,hide (fun v q hq h=>hbw.out v q hq h)⟩
    case measure=>simp[intOf];omega
  have h1:¬(j:Int)<512:=by omega
  obtain rfl:j=512:=by omega
  gi_wp2
  go_end0
  exact⟨⟨_,rfl⟩,.inl (by first | (rw[HF.out];exact hJs) | exact⟨_,HF.out.symm,hJs⟩)⟩
attribute [local go_sem] Oper.semAt_some
theorem ownedSeq_any (w:World) (V m k:Int):Calls Tryz.prog 56 #[.int .i64 V,.int .i64 m,.int .i64 k] w fun e w'=>e = .returned (.func (.func 80) #[] #[.pointer (some ⟨w.heap.size,0,none⟩),.pointer (some ⟨w.heap.size+2,0,none⟩),.pointer (some ⟨w.heap.size+1,0,none⟩)])∧w'=((w.alloc (.cells #[.int .i64 V] 3)).alloc (.cells #[.int .i64 m] 3)).alloc (.cells #[.int .i64 k] 3):=by
 go_enter Tryz.func56,Tryz.ntmps56
 go_wp2
 go_ret
 exact⟨rfl,rfl⟩
theorem grown_drew' (w:World) (row:Option Nat):w.grownBy w.drew row:=⟨rfl,rfl,rfl,Nat.le_refl _,fun _ _ _=>rfl⟩
theorem owned_stops (n:Nat) (hn:1≤n) (bV bK bN:Nat) (V m k:Int) (w:World) (hV:bV<w.heap.size) (hK:bK<w.heap.size) (hN:bN<w.heap.size)
  (cV:w.cell? ⟨bV,0,none⟩=some (.int .i64 V)) (cK:w.cell? ⟨bK,0,none⟩=some (.int .i64 k)) (cN:w.cell? ⟨bN,0,none⟩=some (.int .i64 m)) :
  SeqStopsK Fence.wide n Tryz.prog 80 #[.pointer (some ⟨bV,0,none⟩),.pointer (some ⟨bK,0,none⟩),.pointer (some ⟨bN,0,none⟩)] (fun x:Int=>#[Value.int .i64 x]) (Kp3 bV bK bN) (fun ys=>ys=ownedF V m k) (fun pre=>True) 512 w:=fun l J Jx W hW hJ _ hY h0=>
 owned1_in n hn l bV bK bN V m k J Jx hY W ((hW.cell (p:=⟨bV,0,none⟩) hV).trans cV) ((hW.cell (p:=⟨bK,0,none⟩) hK).trans cK) ((hW.cell (p:=⟨bN,0,none⟩) hN).trans cN) h0
  (fun pre W h=>hJ pre W _ none h (grown_drew' W none) (fun r e=>by cases e))
theorem owned_in (n:Nat) (hn:3≤n) (V m k:Int) (w:World):CallsIn Fence.wide n Tryz.prog 26 #[.int .i64 V,.int .i64 m,.int .i64 k] w (OwnPost w (ownedF V m k)):=by
 have h1:1≤n:=by omega
 obtain⟨i0,hi,hz0,hz1,hz2⟩:=info_parts (show (Tryz.prog.info? 3).map (fun i=>(i.zero,i.size,i.bytes))=some (some (.int .i64 0),1,8) by kernel_rfl)
 refine callsIn_of_wp_marks Tryz.func26 rfl trivial ?_ rfl
 simp only[Tryz.ntmps26,List.size_toArray,List.length_cons,List.length_nil,Nat.reduceAdd,Nat.reduceSub,Array.replicate_succ,Array.replicate_zero,List.push_toArray,List.append_toArray,List.nil_append,List.cons_append]
 gi_wp2_with fail
 refine⟨trivial,?_⟩
 refine (callsIn_wide.2 (ownedSeq_any _ V m k)).mono ?_
 rintro e w' ⟨rfl,rfl⟩
 gi_wp2
 obtain⟨w0,hw0⟩:∃w0,w0=w.alloc (.cells #[.slice none 0 0] 40):=⟨_,rfl⟩
 have hs0:w0.heap.size=w.heap.size+1:=by rw[hw0];simp
 obtain⟨W4,hW4⟩:∃W4,W4=(((w.alloc (.cells #[.slice none 0 0] 40)).alloc (.cells #[.int .i64 V] 3)).alloc (.cells #[.int .i64 m] 3)).alloc (.cells #[.int .i64 k] 3):=⟨_,rfl⟩
 have bO0:=Boxed.new w 40 (.slice none 0 0)
 have bO:Boxed W4 w.heap.size 40 (.slice none 0 0):=by rw[hW4];exact ((bO0.alloc _).alloc _).alloc _
 have cV:W4.cell? ⟨w.heap.size+1,0,none⟩=some (.int .i64 V):=by rw[hW4];simp[go_sem]
 have cN:W4.cell? ⟨w.heap.size+2,0,none⟩=some (.int .i64 m):=by rw[hW4];simp[go_sem]
 have cK:W4.cell? ⟨w.heap.size+3,0,none⟩=some (.int .i64 k):=by rw[hW4];simp[go_sem]
 have hsz:W4.heap.size=w.heap.size+4:=by rw[hW4];simp
 have hB:Below w.heap.size w W4:=by rw[hW4];exact ((((Below.refl _ w).alloc (Nat.le_refl _) _).alloc (by simp) _).alloc (by simp;omega) _).alloc (by simp;omega) _
 rw[←hW4]
 refine wpIn_rangeFunc_ownG rfl h1 (gf:=80) (lb:=#[.pointer (some ⟨w.heap.size+1,0,none⟩),.pointer (some ⟨w.heap.size+1+2,0,none⟩),.pointer (some ⟨w.heap.size+1+1,0,none⟩)]) rfl trivial (enters_of Tryz.func80 (by kernel_rfl) rfl)
  (owned_stops (n-1) (by omega) (w.heap.size+1) (w.heap.size+1+2) (w.heap.size+1+1) V m k W4 (by omega) (by omega) (by omega) cV cK cN) Kp3.trans (fun W l o o' h1 h2 h3 h4=>Kp3.of_below (belowK_b (Nat.le_refl _) W l o o' h1 h2 h3 h4) (by omega) (by omega) (by omega)) (Below.refl _ _) (fun _=>rfl)
  (fun pre W=>(∃v,Boxed W w.heap.size 40 v∧W.ownsRow W4.heap.size 3 1 v pre.length (pre.map (Value.int .i64))∧True)∧(W4.heap.size≤W.heap.size∧Below w.heap.size w W))
  (fun _ _ _=>False)
  (OwnFrom.and (Own.from (holdsRow_own W4.heap.size w.heap.size 40 3 1 (fun pre:List Int=>pre.length) (fun pre=>pre.map (Value.int .i64)) (fun pre v=>True)) _) (OwnFrom.and (Own.from (fun s A B row hs hg hr=>Nat.le_trans hs hg.size) _) (ownFrom_below (by omega) (by omega))))
  (fun _ _ _ _ _ hs _ _=>hs)
  ⟨⟨_,bO,World.ownsRow_nil _ _ _ _,trivial⟩,Nat.le_refl _,hB⟩
  (fun x=>{ tmps:=#[.int .i64 V,.int .i64 m,.int .i64 k,undef,undef,undef,.slice none 0 0,.pointer (some ⟨w.heap.size,0,none⟩),.int .i64 x,.int .i64 V,.int .i64 m,.int .i64 k,.func (.func 80) #[] #[.pointer (some ⟨w.heap.size+1,0,none⟩),.pointer (some ⟨w.heap.size+1+2,0,none⟩),.pointer (some ⟨w.heap.size+1+1,0,none⟩)],.int .i64 x,undef,undef,undef,undef,undef],defers:=[] }) ?assign ?body ?done ?stop
 case assign=>
  intro l x W K hK
  gi_wp2
  exact hK
 case body=>
  rintro l pre x W ⟨⟨v,hv,hrow,_⟩,hW4s,hB⟩ hlt
  have hc:=hv.cell
  gi_wp2_with (gi_at_builtin;refine wpListIn_append_own _ rfl _ _ 40 rfl W4.heap.size 3 i0 (.int .i64 0) 1 8 Tryz.underlying40 hi hz0 hz1 hz2 rfl (by decide) _ _ _ rfl (hrow.alloc _) ⟨W.heap.size,0,none⟩ 1 1 [.int .i64 x] rfl rfl (cell_one_new _ _ _) (by simp[Value.oneCell']) (by unfold maxLen;omega) (by omega) (by simp;omega) ?_;intro v' w1 hown' hgrow _;obtain⟨g',cap',rfl⟩:=ownsRow_succ hown';obtain⟨hv1,hv2,hr2,hk2,hb2⟩:=hv.appended (by decide) (own_base hrow (by omega)) hB.size (Nat.le_refl _) (own_base hown' (by omega)) hgrow;have hc1:=hv1.cell;have hf1:=hv1.frozen)
  have hgr:(W.alloc (.cells #[.int .i64 x] 3)).grownBy w1 v.ownBlock:=hgrow
  have hkp:Kp3 (w.heap.size+1) (w.heap.size+1+2) (w.heap.size+1+1) W (w1.setCell ⟨w.heap.size,0,none⟩ (.slice (some ⟨g',0,none⟩) (pre.length+1) cap')):=fun u q hq hu=>by
   have hqs:q<W4.heap.size∧q≠w.heap.size:=by omega
   rw[World.cell?_setCell_far _ _ _ _ (by show w.heap.size≠q;omega)]
   refine (World.cell?_of_block (hgr.block q (by simp;omega) (fun e=>by have:=(hrow.lt q e.symm).1;omega))).trans ?_
   exact (World.cell?_alloc_lt W _ ⟨q,0,none⟩ (by show q<_;omega)).trans hu
  have hr4:(w1.setCell ⟨w.heap.size,0,none⟩ (.slice (some ⟨g',0,none⟩) (pre.length+1) cap')).ownsRow W4.heap.size 3 1 (.slice (some ⟨g',0,none⟩) (pre.length+1) cap') (pre.length+1) (pre.map (Value.int .i64) ++ [.int .i64 x]):=
   hown'.kept (grownBy_setCell' w1 w.heap.size _) (.inr (hv1.not_row (by decide) hown').symm)
  exact⟨hk2.from _,hkp,⟨_,hv2,by simpa using hr4,trivial⟩,Nat.le_trans hW4s hb2.size,hB.trans hb2⟩
 case done=>
  rintro D ys W hD rfl ⟨⟨v,hv,hrow,_⟩,hW4s,hB⟩ hK
  have hc:=hv.cell
  gi_wp2
  refine⟨by simp,.inl ⟨_,_,rfl,run_takeDeferred hK,?_⟩⟩
  obtain⟨A,c,rfl⟩:=own_form hrow
  exact⟨_,results_tmp rfl _ _ _,A,c,rfl,own_base (ownsRow_putObj hrow _ hK rfl) (by omega),hB.trans (belowK_b (w:=w) (Nat.le_refl _) W D _ _ (by omega) hK rfl rfl)⟩
 case stop=>
  rintro D c pre W _ _ h _
  exact h.elim
theorem owned_any (w:World) (V m k:Int):Calls Tryz.prog 26 #[.int .i64 V,.int .i64 m,.int .i64 k] w (OwnPost w (ownedF V m k)):=
 (callsIn_wide (n:=3)).1 (owned_in 3 (by decide) V m k w)
end Go.Proofs.YtpojjmbalgmcoaaGreat
