/- Lemmas: Lrf. -/
import Derived.Test.YtpgbjabifhjogaaGreatSkWw4
import Derived.Test.YtpgbjabifhjogaaGreatSkWw10
import Derived.Test.YtpgbjabifhjogaaGreatSkWw15
set_option linter.unusedVariables false
set_option linter.unusedSimpArgs false
set_option maxRecDepth 100000
set_option maxHeartbeats 16000000
namespace Go.Proofs.YtpgbjabifhjogaaGreat
open Go.RowKit
theorem low_le (l:List Int) (n:Int):lowAt l n≤l.length:=by
 have:=congrArg List.length (low_take l n)
 unfold lowAt at this ⊢
 rw[List.length_take] at this
 omega
theorem low_in {l:List Int} {n:Int} {k:Nat} (h:k<lowAt l n):atI l (k:Int)<n:=by
 have hl:=low_le l n
 have hm:atI l (k:Int)∈l.take (lowAt l n):=by
  unfold atI
  rw[Int.toNat_natCast,List.getElem?_eq_getElem (by omega)]
  exact List.mem_take_iff_getElem.2 ⟨k,by omega,rfl⟩
 exact low_lt hm
theorem low_stop {l:List Int} {n:Int} (h:lowAt l n<l.length):¬atI l ((lowAt l n:Nat):Int)<n:=by
 unfold atI
 rw[Int.toNat_natCast,List.getElem?_eq_getElem h]
 have hd:=low_drop l n
 have h0:(l.drop (lowAt l n))[0]?=some l[lowAt l n]:=by simp[h]
 have:=List.head?_dropWhile_not (fun x=>decide (x<n)) l
 rw[←hd] at this
 rw[List.head?_eq_getElem?,h0] at this
 simpa using this
def RdPost (w:World) (l:List Int) (e:Ending) (w':World):Prop:=∃A c,e = .returned (.slice A l.length c)∧Rd w' w'.heap.size A (l.map (Value.int .i64))∧l.length≤c∧(A=none→c=0)∧Below w.heap.size w w'
theorem own_some {w:World} {base:Nat} {e:TypeId} {size n c:Nat} {A:Option Addr} {xs:List Value} (h:w.ownsRow base e size (.slice A n c) n xs) (hn:0<n):A=none→c=0:=fun e=>by
 obtain⟨g,hg,_⟩:=own_addr h hn
 rw[hg] at e;cases e
theorem put_any (w:World) (A:Option Addr) (l:List Int) (m c:Nat) (n:Int) (hl:l.length=m) (hmc:m≤c) (hA:A=none→c=0) (hm:m≤100000) (hr:Rd w w.heap.size A (l.map (Value.int .i64))) :
  Calls Tryz.prog 102 #[.slice A m c,.int .i64 n] w (RdPost w (putF l n)):=by
 obtain⟨i0,hi0,hz0,hz1,hz2⟩:=info_parts (show (Tryz.prog.info? 3).map (fun i=>(i.zero,i.size,i.bytes))=some (some (.int .i64 0),1,8) by kernel_rfl)
 obtain⟨q,hq⟩:∃q,lowAt l n=q:=⟨_,rfl⟩
 have hqm:q≤m:=by rw[←hq,←hl];exact low_le l n
 have HQ:=hide hq
 have HL:=hide hl
 have HR:=hide hr
 have HIn:Hid (∀k:Nat,k<q→atI l (k:Int)<n):=hide (fun k hk=>low_in (by rw[hq];exact hk))
 have HSt:Hid (q<m→¬atI l (q:Int)<n):=hide (fun h=>by
  have:=low_stop (l:=l) (n:=n) (by rw[hq,hl];exact h)
  rw[hq] at this
  exact this)
 have HP:Hid (putF l n=if l[q]?=some n then l else l.take q ++ n :: l.drop q):=hide (by rw[putF,hq])
 clear hq hl hr
 go_enter Tryz.func102,Tryz.ntmps102
 go_wp2
 go_loop [5] (fun vi=>∃k:Nat,k≤q∧vi = .int .i64 k) (fun vi=>m-(intOf vi).toNat)
 case atStart=>exact⟨0,by omega,rfl⟩
 case round=>
  obtain⟨k,hk,rfl⟩:=hrel
  by_cases hlt:k<q
  ·have hkm:k<l.length:=by rw[HL.out];omega
   obtain⟨b,o,rfl,hb,_⟩:=HR.out.at_ (k:=k) (by rw[List.length_map];exact hkm)
   have cx:=rd_at HR.out hkm
   have hx:=HIn.out k hlt
   obtain⟨x,hxe⟩:∃x,atI l (k:Int)=x:=⟨_,rfl⟩
   rw[hxe] at cx hx
   have hI0:(0:Int)≤(k:Int):=by omega
   have hI1:(k:Int)<(m:Int):=by omega
   clear hxe hkm
   go_wp2
   go_round
   case rel=>exact⟨k+1,by omega,by go_num⟩
   case measure=>simp[intOf];omega
  obtain rfl:k=q:=by omega
  have hd0:¬k<k:=by omega
  by_cases hkm:k<m
  ·have hkl:k<l.length:=by rw[HL.out];exact hkm
   obtain⟨b,o,rfl,hb,_⟩:=HR.out.at_ (k:=k) (by rw[List.length_map];exact hkl)
   have cx:=rd_at HR.out hkl
   have hx:=HSt.out hkm
   have hget:l[k]?=some (atI l (k:Int)):=by unfold atI;rw[Int.toNat_natCast,List.getElem?_eq_getElem hkl];rfl
   have HGet:=hide hget
   obtain⟨x,hxe⟩:∃x,atI l (k:Int)=x:=⟨_,rfl⟩
   rw[hxe] at cx hx HGet
   have hI0:(0:Int)≤(k:Int):=by omega
   have hI1:(k:Int)<(m:Int):=by omega
   clear hxe hkl hget
   by_cases heq:x=n
   ·have HFin:Hid (RdPost w (putF l n) (.returned (.slice (some ⟨b,o,none⟩) m c)) w):=hide (by
     rw[HP.out,HGet.out,heq,if_pos rfl]
     exact⟨_,c,by rw[HL.out],HR.out,by rw[HL.out];exact hmc,(fun e=>by cases e),Below.refl _ _⟩)
    subst heq
    go_wp2
    go_ret
    exact HFin.out
   have HPF:Hid (putF l n=l.take k ++ n :: l.drop k):=hide (by rw[HP.out,HGet.out,if_neg (fun h=>heq (Option.some.inj h))])
   have HRt:Hid (Rd w w.heap.size (some ⟨b,o,none⟩) ((l.take k).map (Value.int .i64))):=hide (by rw[List.map_take];exact HR.out.take k)
   have HRd:Hid (Rd w w.heap.size (some ⟨b,o+k,none⟩) ((l.drop k).map (Value.int .i64))):=hide (by
    have h:=HR.out.cut (k:=k) (cap:=c) (by rw[List.length_map,HL.out];omega) (by rw[List.length_map,HL.out];omega)
    rw[if_neg (by omega),←List.map_drop,Option.map_some,add_plain] at h
    exact h)
   have hq2:(k:Int)≤(m:Int):=by omega
   have hq3:(k:Int)≤(c:Int):=by omega
   have hq4:(m:Int)≤(c:Int):=by omega
   have hx':¬x<n:=by omega
   go_wp2_with (first
    | (at_builtin;refine wpList_app rfl (.tmp 34) (.tmp 37) 87 rfl w.heap.size 3 i0 (.int .i64 0) 1 8 Tryz.underlying87 hi0 hz0 hz1 hz2 rfl (by decide) (.slice none 0 0) 0 [] rfl (World.ownsRow_nil _ _ _ _) w.heap.size (some ⟨b,o,none⟩) k _ ((l.take k).map (Value.int .i64)) rfl (by rw[List.length_map,List.length_take,HL.out];omega) HRt.out (by intro u hu;obtain⟨z,_,rfl⟩:=List.mem_map.1 hu;rfl) (by unfold maxLen;omega) (by omega) (Nat.le_refl _) ?_;intro A1 c1 w1 hown1 hg1 hat1;rw[Nat.zero_add,List.nil_append] at hown1;have hb1:Below w.heap.size w w1:=(Below.refl _ w).grown hg1 (Nat.le_refl _) (fun k e=>by cases e);clear hg1 hat1)
    | (at_builtin;refine wpList_app rfl (.tmp 39) (.tmp 41) 87 rfl w.heap.size 3 i0 (.int .i64 0) 1 8 Tryz.underlying87 hi0 hz0 hz1 hz2 rfl (by decide) (.slice A1 k c1) k ((l.take k).map (Value.int .i64)) rfl (hown1.alloc _) (w1.heap.size+1) (some ⟨w1.heap.size,0,none⟩) 1 1 [.int .i64 n] rfl rfl (Rd.new _ _ _ _) (by simp[Value.oneCell']) (by unfold maxLen;omega) (by omega) (by have:=hb1.size;simp;omega) ?_;intro A2 c2 w2 hown2 hg2 hat2;have hb2:=app_below (hb1.alloc hb1.size _) (hown1.alloc _) hg2 (by have:=hb1.size;simp;omega) (Nat.le_refl _);clear hg2 hat2)
    | (at_builtin;refine wpList_app rfl (.tmp 43) (.tmp 46) 87 rfl w.heap.size 3 i0 (.int .i64 0) 1 8 Tryz.underlying87 hi0 hz0 hz1 hz2 rfl (by decide) (.slice A2 (k+1) c2) (k+1) _ rfl hown2 w.heap.size (some ⟨b,o+k,none⟩) (m-k) _ ((l.drop k).map (Value.int .i64)) rfl (by rw[List.length_map,List.length_drop,HL.out];omega) (HRd.out.below hb2) (by intro u hu;obtain⟨z,_,rfl⟩:=List.mem_map.1 hu;rfl) (by unfold maxLen;omega) (by omega) hb2.size ?_;intro A3 c3 w3 hown3 hg3 hat3;have hb3:=app_below hb2 hown2 hg3 hb2.size (Nat.le_refl _);clear hg3 hat3))
   have hlen:(putF l n).length=k+1+(m-k):=by
    rw[HPF.out,List.length_append,List.length_take,List.length_cons,List.length_drop,HL.out];omega
   have hrow:(putF l n).map (Value.int .i64)=(l.take k).map (Value.int .i64) ++ [.int .i64 n] ++ (l.drop k).map (Value.int .i64):=by
    rw[HPF.out];simp
   have HFin:Hid (RdPost w (putF l n) (.returned (.slice A3 (k+1+(m-k)) c3)) w3):=hide (by
    refine⟨A3,c3,by rw[hlen],?_,by rw[hlen];exact own_cap hown3,own_some hown3 (by omega),hb3⟩
    rw[hrow]
    exact Rd.of_own hown3)
   clear hlen hrow hown1 hown2 hown3 hb1 hb2 hb3
   go_wp2
   go_ret
   exact HFin.out
  obtain rfl:k=m:=by omega
  have HPF:Hid (putF l n=l ++ [n]):=hide (by
   rw[HP.out,List.getElem?_eq_none (by rw[HL.out];exact Nat.le_refl _),if_neg (by simp),List.take_of_length_le (by rw[HL.out];exact Nat.le_refl _),List.drop_of_length_le (by rw[HL.out];exact Nat.le_refl _)])
  have hq3:(k:Int)≤(c:Int):=by omega
  have hdr:k≤100000:=hm
  rcases A with _ | ad
  ·have hl0:l=[]:=by
    rcases Classical.em (l=[]) with h | h
    ·exact h
    obtain⟨b,off,e,_⟩:=HR.out (fun e=>h (by simpa using e))
    cases e
   have hk0:k=0:=by rw[←HL.out,hl0];rfl
   have hc0:=hA rfl
   subst hk0
   subst hc0
   clear hl0 hA
   go_wp2_with (first
    | (at_builtin;refine wpList_app rfl (.tmp 34) (.tmp 37) 87 rfl w.heap.size 3 i0 (.int .i64 0) 1 8 Tryz.underlying87 hi0 hz0 hz1 hz2 rfl (by decide) (.slice none 0 0) 0 [] rfl (World.ownsRow_nil _ _ _ _) w.heap.size none 0 _ (l.map (Value.int .i64)) rfl (by have:=HL.out;rw[List.length_map];omega) HR.out (by intro u hu;obtain⟨z,_,rfl⟩:=List.mem_map.1 hu;rfl) (by unfold maxLen;omega) (by omega) (Nat.le_refl _) ?_;intro A1 c1 w1 hown1 hg1 hat1;simp only[Nat.add_zero,List.nil_append] at hown1;have hb1:Below w.heap.size w w1:=(Below.refl _ w).grown hg1 (Nat.le_refl _) (fun k e=>by cases e);clear hg1 hat1)
    | (at_builtin;refine wpList_app rfl (.tmp 39) (.tmp 41) 87 rfl w.heap.size 3 i0 (.int .i64 0) 1 8 Tryz.underlying87 hi0 hz0 hz1 hz2 rfl (by decide) (.slice A1 0 c1) 0 (l.map (Value.int .i64)) rfl (hown1.alloc _) (w1.heap.size+1) (some ⟨w1.heap.size,0,none⟩) 1 1 [.int .i64 n] rfl rfl (Rd.new _ _ _ _) (by simp[Value.oneCell']) (by unfold maxLen;omega) (by omega) (by have:=hb1.size;simp;omega) ?_;intro A2 c2 w2 hown2 hg2 hat2;have hb2:=app_below (hb1.alloc hb1.size _) (hown1.alloc _) hg2 (by have:=hb1.size;simp;omega) (Nat.le_refl _);clear hg2 hat2)
    | (at_builtin;refine wpList_app rfl (.tmp 43) (.tmp 46) 87 rfl w.heap.size 3 i0 (.int .i64 0) 1 8 Tryz.underlying87 hi0 hz0 hz1 hz2 rfl (by decide) (.slice A2 (0+1) c2) (0+1) _ rfl hown2 w.heap.size _ 0 _ [] rfl rfl Rd.nil_ (by intro u hu;cases hu) (by unfold maxLen;omega) (by omega) hb2.size ?_;intro A3 c3 w3 hown3 hg3 hat3;have hb3:=app_below hb2 hown2 hg3 hb2.size (Nat.le_refl _);clear hg3 hat3))
   have hlen:(putF l n).length=0+1:=by rw[HPF.out,List.length_append,HL.out];rfl
   have hrow:(putF l n).map (Value.int .i64)=l.map (Value.int .i64) ++ [.int .i64 n]:=by rw[HPF.out];simp
   simp only[Nat.add_zero,List.append_nil,Nat.zero_add] at hown3
   have HFin:Hid (RdPost w (putF l n) (.returned (.slice A3 (0+1) c3)) w3):=hide (by
    refine⟨A3,c3,by rw[hlen],?_,by rw[hlen];exact own_cap hown3,own_some hown3 (by omega),hb3⟩
    rw[hrow]
    exact Rd.of_own hown3)
   clear hlen hrow hown1 hown2 hown3 hb1 hb2 hb3
   go_wp2
   go_ret
   exact HFin.out
  by_cases hkc:c=k
  ·subst hkc
   clear hA
   go_wp2_with (first
   | (at_builtin;refine wpList_app rfl (.tmp 34) (.tmp 37) 87 rfl w.heap.size 3 i0 (.int .i64 0) 1 8 Tryz.underlying87 hi0 hz0 hz1 hz2 rfl (by decide) (.slice none 0 0) 0 [] rfl (World.ownsRow_nil _ _ _ _) w.heap.size (some ad) c _ (l.map (Value.int .i64)) rfl (by have:=HL.out;rw[List.length_map];omega) HR.out (by intro u hu;obtain⟨z,_,rfl⟩:=List.mem_map.1 hu;rfl) (by unfold maxLen;omega) (by omega) (Nat.le_refl _) ?_;intro A1 c1 w1 hown1 hg1 hat1;rw[Nat.zero_add,List.nil_append] at hown1;have hb1:Below w.heap.size w w1:=(Below.refl _ w).grown hg1 (Nat.le_refl _) (fun k e=>by cases e);clear hg1 hat1)
   | (at_builtin;refine wpList_app rfl (.tmp 39) (.tmp 41) 87 rfl w.heap.size 3 i0 (.int .i64 0) 1 8 Tryz.underlying87 hi0 hz0 hz1 hz2 rfl (by decide) (.slice A1 c c1) c (l.map (Value.int .i64)) rfl (hown1.alloc _) (w1.heap.size+1) (some ⟨w1.heap.size,0,none⟩) 1 1 [.int .i64 n] rfl rfl (Rd.new _ _ _ _) (by simp[Value.oneCell']) (by unfold maxLen;omega) (by omega) (by have:=hb1.size;simp;omega) ?_;intro A2 c2 w2 hown2 hg2 hat2;have hb2:=app_below (hb1.alloc hb1.size _) (hown1.alloc _) hg2 (by have:=hb1.size;simp;omega) (Nat.le_refl _);clear hg2 hat2)
   | (at_builtin;refine wpList_app rfl (.tmp 43) (.tmp 46) 87 rfl w.heap.size 3 i0 (.int .i64 0) 1 8 Tryz.underlying87 hi0 hz0 hz1 hz2 rfl (by decide) (.slice A2 (c+1) c2) (c+1) _ rfl hown2 w.heap.size _ 0 _ [] rfl rfl Rd.nil_ (by intro u hu;cases hu) (by unfold maxLen;omega) (by omega) hb2.size ?_;intro A3 c3 w3 hown3 hg3 hat3;have hb3:=app_below hb2 hown2 hg3 hb2.size (Nat.le_refl _);clear hg3 hat3))
   have hlen:(putF l n).length=c+1:=by rw[HPF.out,List.length_append,HL.out];rfl
   have hrow:(putF l n).map (Value.int .i64)=l.map (Value.int .i64) ++ [.int .i64 n]:=by rw[HPF.out];simp
   rw[Nat.add_zero,List.append_nil] at hown3
   have HFin:Hid (RdPost w (putF l n) (.returned (.slice A3 (c+1) c3)) w3):=hide (by
    refine⟨A3,c3,by rw[hlen],?_,by rw[hlen];exact own_cap hown3,own_some hown3 (by omega),hb3⟩
    rw[hrow]
    exact Rd.of_own hown3)
   clear hlen hrow hown1 hown2 hown3 hb1 hb2 hb3
   go_wp2
   go_ret
   exact HFin.out
  have hlt3:(k:Int)<(c:Int):=by omega
  have hne:¬(c:Int)=(k:Int):=by omega
  clear hA
  go_wp2_with (first
  | (at_builtin;refine wpList_app rfl (.tmp 34) (.tmp 37) 87 rfl w.heap.size 3 i0 (.int .i64 0) 1 8 Tryz.underlying87 hi0 hz0 hz1 hz2 rfl (by decide) (.slice none 0 0) 0 [] rfl (World.ownsRow_nil _ _ _ _) w.heap.size (some ad) k _ (l.map (Value.int .i64)) rfl (by have:=HL.out;rw[List.length_map];omega) HR.out (by intro u hu;obtain⟨z,_,rfl⟩:=List.mem_map.1 hu;rfl) (by unfold maxLen;omega) (by omega) (Nat.le_refl _) ?_;intro A1 c1 w1 hown1 hg1 hat1;rw[Nat.zero_add,List.nil_append] at hown1;have hb1:Below w.heap.size w w1:=(Below.refl _ w).grown hg1 (Nat.le_refl _) (fun k e=>by cases e);clear hg1 hat1)
  | (at_builtin;refine wpList_app rfl (.tmp 39) (.tmp 41) 87 rfl w.heap.size 3 i0 (.int .i64 0) 1 8 Tryz.underlying87 hi0 hz0 hz1 hz2 rfl (by decide) (.slice A1 k c1) k (l.map (Value.int .i64)) rfl (hown1.alloc _) (w1.heap.size+1) (some ⟨w1.heap.size,0,none⟩) 1 1 [.int .i64 n] rfl rfl (Rd.new _ _ _ _) (by simp[Value.oneCell']) (by unfold maxLen;omega) (by omega) (by have:=hb1.size;simp;omega) ?_;intro A2 c2 w2 hown2 hg2 hat2;have hb2:=app_below (hb1.alloc hb1.size _) (hown1.alloc _) hg2 (by have:=hb1.size;simp;omega) (Nat.le_refl _);clear hg2 hat2)
  | (at_builtin;refine wpList_app rfl (.tmp 43) (.tmp 46) 87 rfl w.heap.size 3 i0 (.int .i64 0) 1 8 Tryz.underlying87 hi0 hz0 hz1 hz2 rfl (by decide) (.slice A2 (k+1) c2) (k+1) _ rfl hown2 w.heap.size _ 0 _ [] rfl rfl Rd.nil_ (by intro u hu;cases hu) (by unfold maxLen;omega) (by omega) hb2.size ?_;intro A3 c3 w3 hown3 hg3 hat3;have hb3:=app_below hb2 hown2 hg3 hb2.size (Nat.le_refl _);clear hg3 hat3))
  have hlen:(putF l n).length=k+1:=by rw[HPF.out,List.length_append,HL.out];rfl
  have hrow:(putF l n).map (Value.int .i64)=l.map (Value.int .i64) ++ [.int .i64 n]:=by rw[HPF.out];simp
  rw[Nat.add_zero,List.append_nil] at hown3
  have HFin:Hid (RdPost w (putF l n) (.returned (.slice A3 (k+1) c3)) w3):=hide (by
   refine⟨A3,c3,by rw[hlen],?_,by rw[hlen];exact own_cap hown3,own_some hown3 (by omega),hb3⟩
   rw[hrow]
   exact Rd.of_own hown3)
  clear hlen hrow hown1 hown2 hown3 hb1 hb2 hb3
  go_wp2
  go_ret
  exact HFin.out
theorem putAll_snoc (v:Int) (l xs:List Int) (x:Int):putAll v l (xs ++ [x])=if x=v then putAll v l xs else putF (putAll v l xs) x:=by
 unfold putAll
 rw[List.foldl_append];rfl
theorem tos_next (es:List Ed) {k:Nat} {e:Ed} (h:es[k]?=some e):tos (es.take (k+1))=tos (es.take k) ++ [e.2.1]:=by
 rw[List.take_add_one,h]
 simp[tos]
theorem froms_next (es:List Ed) {k:Nat} {e:Ed} (h:es[k]?=some e):froms (es.take (k+1))=froms (es.take k) ++ [e.1]:=by
 rw[List.take_add_one,h]
 simp[froms]
theorem put_len (l:List Int) (n:Int):(putF l n).length≤l.length+1:=by
 unfold putF
 split
 ·omega
 have:=congrArg List.length (low_split l n)
 rw[List.length_append] at this
 rw[List.length_append,List.length_cons]
 omega
theorem rnear_any (w:World) (v:Int) (A1 A2:Option Addr) (outs backs:List Ed) (n1 c1 n2 c2:Nat) (h1:outs.length=n1) (h2:backs.length=n2) (hn1:n1≤10000) (hn2:n2≤10000) (e1:Eds w w.heap.size A1 outs) (e2:Eds w w.heap.size A2 backs) :
  Calls Tryz.prog 83 #[.int .i64 v,.slice A1 n1 c1,.slice A2 n2 c2] w (RdPost w (rnearF v outs backs)):=by
 have E1:=hide e1
 have E2:=hide e2
 have HL1:=hide h1
 have HL2:=hide h2
 clear e1 e2 h1 h2
 go_enter Tryz.func83,Tryz.ntmps83
 go_wp2
 go_loopw [7,8] (fun v7 v8 wr=>∃(k:Nat) (l:List Int) (A:Option Addr) (c:Nat),k≤n1∧v8 = .int .i64 k∧v7 = .slice A l.length c∧Hid (putAll v [] (tos (outs.take k))=l)∧l.length≤k∧l.length≤c∧Hid (A=none→c=0)∧Hid (Rd wr wr.heap.size A (l.map (Value.int .i64)))∧Below w.heap.size w wr) (fun _ v8 _=>n1-(intOf v8).toNat)
 case atStart=>exact⟨0,[],none,0,by omega,rfl,rfl,hide rfl,by simp,by simp,hide (fun _=>rfl),hide Rd.nil_,Below.refl _ _⟩
 case round=>
  obtain⟨k,l,A,c,hk,rfl,rfl,hl,hlk,hlc,hA,hr,hbw⟩:=hrel
  obtain⟨m,hm⟩:∃m,l.length=m:=⟨_,rfl⟩
  rw[hm] at hlk hlc ⊢
  have HLm:=hide hm
  clear hm
  by_cases hlt:k<n1
  ·obtain⟨e,he⟩:∃e,outs[k]?=some e:=⟨_,List.getElem?_eq_getElem (by rw[HL1.out];exact hlt)⟩
   have HN:=hide (tos_next outs he)
   obtain⟨b,off,rfl,hbl,c0,c1',c2',_,_⟩:=Eds.get E1.out he
   obtain⟨f,t,x⟩:=e
   dsimp only at c0 c1' c2' HN
   have k1:=(hbw.cell (p:=⟨b,off+k*3+1,none⟩) hbl).trans c1'
   have hI0:(0:Int)≤(k:Int):=by omega
   have hI1:(k:Int)<(n1:Int):=by omega
   have HBW:=hide hbw
   clear he c0 c1' c2' hbw
   by_cases htv:t=v
   ·have HS:Hid (putAll v [] (tos (outs.take (k+1)))=l):=hide (by rw[HN.out,putAll_snoc,if_pos htv,hl.out])
    subst htv
    go_wp2
    go_roundw
    case rel=>exact⟨k+1,l,A,c,by omega,by go_num,by rw[HLm.out],HS,by have:=HLm.out;omega,by have:=HLm.out;omega,hA,hr,HBW.out⟩
    case measure=>simp[intOf];omega
   have HS:Hid (putAll v [] (tos (outs.take (k+1)))=putF l t):=hide (by rw[HN.out,putAll_snoc,if_neg htv,hl.out])
   have hne:(t != v)=true:=by simp only[bne_iff_ne,ne_eq];exact htv
   go_wp2_with fail
   refine (put_any _ A l m c t HLm.out hlc hA.out (by omega) hr.out).mono ?_
   rintro e y ⟨A',c',rfl,r1,r2,r3,k2⟩
   have HB2:=HBW.out.trans (k2.mono HBW.out.size)
   have HR2:=hide r1
   have HA2:=hide r3
   have hpl:=put_len l t
   rw[HLm.out] at hpl
   obtain⟨L,hL⟩:∃L,putF l t=L:=⟨_,rfl⟩
   rw[hL] at HS HR2 hpl r2 ⊢
   clear k2 r1 r3 hL
   go_wp2
   go_roundw
   case rel=>exact⟨k+1,L,A',c',by omega,by go_num,rfl,HS,by omega,r2,HA2,HR2,HB2⟩
   case measure=>simp[intOf];omega
  obtain rfl:k=n1:=by omega
  have hl1:putAll v [] (tos outs)=l:=by rw[←hl.out,List.take_of_length_le (by have:=HL1.out;omega)]
  have HL0:=hide hl1
  clear hl1 hl
  go_wp2
  obtain⟨wo,hwo⟩:∃wo,wr=wo:=⟨_,rfl⟩
  subst hwo
  go_loopw [7,9] (fun v7 v9 wr=>∃(j:Nat) (q:List Int) (A:Option Addr) (c:Nat),j≤n2∧v9 = .int .i64 j∧v7 = .slice A q.length c∧Hid (putAll v l (froms (backs.take j))=q)∧q.length≤k+j∧q.length≤c∧Hid (A=none→c=0)∧Hid (Rd wr wr.heap.size A (q.map (Value.int .i64)))∧Below w.heap.size w wr) (fun _ v9 _=>n2-(intOf v9).toNat)
  case atStart=>exact⟨0,l,A,c,by omega,rfl,by rw[HLm.out],hide rfl,by have:=HLm.out;omega,by have:=HLm.out;omega,hA,hr,hbw⟩
  case round=>
   clear hr hA hbw hlc HLm hlk
   obtain⟨j,q,A,c,hj,rfl,rfl,hq,hqk,hqc,hA,hr,hbw⟩:=hrel
   obtain⟨m,hm⟩:∃m,q.length=m:=⟨_,rfl⟩
   rw[hm] at hqk hqc ⊢
   have HLm:=hide hm
   clear hm
   by_cases hlt2:j<n2
   ·obtain⟨e,he⟩:∃e,backs[j]?=some e:=⟨_,List.getElem?_eq_getElem (by rw[HL2.out];exact hlt2)⟩
    have HN:=hide (froms_next backs he)
    obtain⟨b,off,rfl,hbl,c0,c1',c2',_,_⟩:=Eds.get E2.out he
    obtain⟨f,t,x⟩:=e
    dsimp only at c0 c1' c2' HN
    have k1:=(hbw.cell (p:=⟨b,off+j*3,none⟩) hbl).trans c0
    have hI0:(0:Int)≤(j:Int):=by omega
    have hI1:(j:Int)<(n2:Int):=by omega
    have HBW:=hide hbw
    clear he c0 c1' c2' hbw
    by_cases htv:f=v
    ·have HS:Hid (putAll v l (froms (backs.take (j+1)))=q):=hide (by rw[HN.out,putAll_snoc,if_pos htv,hq.out])
     subst htv
     go_wp2
     go_roundw
     case rel=>exact⟨j+1,q,A,c,by omega,by go_num,by rw[HLm.out],HS,by have:=HLm.out;omega,by have:=HLm.out;omega,hA,hr,HBW.out⟩
     case measure=>simp[intOf];omega
    have HS:Hid (putAll v l (froms (backs.take (j+1)))=putF q f):=hide (by rw[HN.out,putAll_snoc,if_neg htv,hq.out])
    have hne:(f != v)=true:=by simp only[bne_iff_ne,ne_eq];exact htv
    go_wp2_with fail
    refine (put_any _ A q m c f HLm.out hqc hA.out (by omega) hr.out).mono ?_
    rintro e y ⟨A',c',rfl,r1,r2,r3,k2⟩
    have HB2:=HBW.out.trans (k2.mono HBW.out.size)
    have HR2:=hide r1
    have HA2:=hide r3
    have hpl:=put_len q f
    rw[HLm.out] at hpl
    obtain⟨L,hL⟩:∃L,putF q f=L:=⟨_,rfl⟩
    rw[hL] at HS HR2 hpl r2 ⊢
    clear k2 r1 r3 hL
    go_wp2
    go_roundw
    case rel=>exact⟨j+1,L,A',c',by omega,by go_num,rfl,HS,by omega,r2,HA2,HR2,HB2⟩
    case measure=>simp[intOf];omega
   obtain rfl:j=n2:=by omega
   have HFin:Hid (RdPost w (rnearF v outs backs) (.returned (.slice A m c)) wr):=hide (by
    have hF:rnearF v outs backs=q:=by
     unfold rnearF
     rw[HL0.out,←hq.out,List.take_of_length_le (by have:=HL2.out;omega)]
    rw[hF]
    exact⟨A,c,by rw[HLm.out],hr.out,by rw[HLm.out];exact hqc,hA.out,hbw⟩)
   go_wp2
   go_ret
   exact HFin.out
end Go.Proofs.YtpgbjabifhjogaaGreat
