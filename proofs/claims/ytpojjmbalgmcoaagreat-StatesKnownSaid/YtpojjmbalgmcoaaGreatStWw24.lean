/- Lemmas: Rnm. -/
import Derived.Test.YtpojjmbalgmcoaaGreatProg
import Derived.Lib.Hide
import Derived.WalkSpells
import Derived.WalkLawsBesides
import Derived.WalkMore
import Derived.IntWalk
import Derived.Test.YtpojjmbalgmcoaaGreatStWw15
set_option linter.unusedVariables false
set_option linter.unusedSimpArgs false
set_option maxRecDepth 100000
set_option maxHeartbeats 16000000
namespace Go.Proofs.YtpojjmbalgmcoaaGreat
open Go.RowKit
theorem be_get:∀(k m j:Nat),j<k→(be k m)[j]?=some (UInt8.ofNat (m / 256 ^ (k-1-j))):=by
 intro k
 induction k with
 | zero=>intro m j h;omega
 | succ k ih=>
  intro m j h
  unfold be
  rcases Nat.lt_or_ge j k with hj | hj
  ·rw[List.getElem?_append_left (by rw[be_len];exact hj),ih _ _ hj,Nat.div_div_eq_div_mul]
   congr 3
   rw[show k+1-1-j=(k-1-j)+1 by omega,Nat.pow_succ,Nat.mul_comm]
  obtain rfl:j=k:=by omega
  rw[List.getElem?_append_right (by rw[be_len];exact Nat.le_refl _),be_len]
  simp
def BytesPost (w:World) (bs:List UInt8) (n:Nat) (e:Ending) (w':World):Prop:=∃A c,e = .returned (.slice A n c)∧w'.ownsRow w.heap.size 5 1 (.slice A n c) n (u8s bs)∧Below w.heap.size w w'
theorem u8_val (x:Nat):u8s [UInt8.ofNat x]=[.int .u8 ((x:Int) % 256)]:=by
 simp[u8s]
theorem number_any (w:World) (m k:Nat) (hm:m<18446744073709551616) (hk:k≤8) :
  Calls Tryz.prog 66 #[.int .u64 (m:Int),.int .i64 (k:Int)] w (BytesPost w (be k m) k):=by
 obtain⟨i0,hi0,hz0,hz1,hz2⟩:=info_parts (show (Tryz.prog.info? 5).map (fun i=>(i.zero,i.size,i.bytes))=some (some (.int .u8 0),1,1) by kernel_rfl)
 go_enter Tryz.func66,Tryz.ntmps66
 go_wp2
 go_loopw [5,6] (fun v5 v6 wr=>∃(z:Int) (q:Nat) (A:Option Addr) (c:Nat),-1≤z∧z<k∧(q:Int)=k-1-z∧v6 = .int .i64 z∧v5 = .slice A q c∧Hid (wr.ownsRow w.heap.size 5 1 (.slice A q c) q (u8s ((be k m).take q)))∧Hid (Below w.heap.size w wr)) (fun _ v6 _=>(intOf v6+1).toNat)
 case atStart=>exact⟨(k:Int)-1,0,none,0,by omega,by omega,by omega,by go_num,rfl,hide (World.ownsRow_nil _ _ _ _),hide (Below.refl _ _)⟩
 case round=>
  obtain⟨z,q,A,c,hz1',hz2',hq,rfl,rfl,hown,hbr⟩:=hrel
  have hs:=hbr.out.size
  by_cases hlt:0≤z
  ·obtain⟨i,rfl⟩:=Int.eq_ofNat_of_zero_le hlt
   have hi7:i≤7:=by omega
   rcases (show i=0∨i=1∨i=2∨i=3∨i=4∨i=5∨i=6∨i=7 by omega) with hi | hi | hi | hi | hi | hi | hi | hi
   ·obtain rfl:i=0:=hi
    have hq1:q+0+1=k:=by omega
    have hb:=be_get k m q (by omega)
    have hB:Hid (u8s ((be k m).take q) ++ [.int .u8 ((m:Int) % 256)]=u8s ((be k m).take (q+1))):=hide (by
      rw[List.take_add_one,hb,Option.toList_some,←u8s_append,u8_val,show k-1-q=0 by omega]
      simp)
    have HQ:=hide hq1
    have hq8:q≤8:=by omega
    clear hm
    clear hb hq hq1 hlt hz1' hz2' hi7
    go_wp2_with (at_builtin;refine wpList_app rfl (.tmp 13) (.tmp 19) 45 rfl w.heap.size 5 i0 (.int .u8 0) 1 1 Tryz.underlying45 hi0 hz0 hz1 hz2 rfl (by decide) (.slice A q c) q _ rfl (hown.out.alloc _) (wr.heap.size+1) (some ⟨wr.heap.size,0,none⟩) 1 1 [.int .u8 ((m:Int) % 256)] rfl rfl (Rd.new _ _ _ _) (by simp[Value.oneCell']) (by unfold maxLen;omega) (by omega) (by simp;omega) ?_)
    intro A2 c2 w2 hown2 hg2 hat2
    rw[hB.out] at hown2
    have HO2:=hide hown2
    have HB2:=hide (app_below (hbr.out.alloc hs _) (hown.out.alloc _) hg2 (by simp;omega) (Nat.le_refl _))
    clear hown2 hg2 hat2 hown hbr
    go_wp2
    go_roundw
    case rel=>exact⟨0-1,q+1,A2,c2,by omega,by have:=HQ.out;omega,by have:=HQ.out;omega,by go_num,rfl,HO2,HB2⟩
    case measure=>simp[intOf]
   ·obtain rfl:i=1:=hi
    have hq1:q+1+1=k:=by omega
    have hb:=be_get k m q (by omega)
    have hB:Hid (u8s ((be k m).take q) ++ [.int .u8 ((m:Int) / 256 % 256)]=u8s ((be k m).take (q+1))):=hide (by
      rw[List.take_add_one,hb,Option.toList_some,←u8s_append,u8_val,show k-1-q=1 by omega]
      simp)
    have HQ:=hide hq1
    have hq8:q≤8:=by omega
    clear hm
    clear hb hq hq1 hlt hz1' hz2' hi7
    go_wp2_with (at_builtin;refine wpList_app rfl (.tmp 13) (.tmp 19) 45 rfl w.heap.size 5 i0 (.int .u8 0) 1 1 Tryz.underlying45 hi0 hz0 hz1 hz2 rfl (by decide) (.slice A q c) q _ rfl (hown.out.alloc _) (wr.heap.size+1) (some ⟨wr.heap.size,0,none⟩) 1 1 [.int .u8 ((m:Int) / 256 % 256)] rfl rfl (Rd.new _ _ _ _) (by simp[Value.oneCell']) (by unfold maxLen;omega) (by omega) (by simp;omega) ?_)
    intro A2 c2 w2 hown2 hg2 hat2
    rw[hB.out] at hown2
    have HO2:=hide hown2
    have HB2:=hide (app_below (hbr.out.alloc hs _) (hown.out.alloc _) hg2 (by simp;omega) (Nat.le_refl _))
    clear hown2 hg2 hat2 hown hbr
    go_wp2
    go_roundw
    case rel=>exact⟨1-1,q+1,A2,c2,by omega,by have:=HQ.out;omega,by have:=HQ.out;omega,by go_num,rfl,HO2,HB2⟩
    case measure=>simp[intOf]
   ·obtain rfl:i=2:=hi
    have hq1:q+2+1=k:=by omega
    have hb:=be_get k m q (by omega)
    have hB:Hid (u8s ((be k m).take q) ++ [.int .u8 ((m:Int) / 65536 % 256)]=u8s ((be k m).take (q+1))):=hide (by
      rw[List.take_add_one,hb,Option.toList_some,←u8s_append,u8_val,show k-1-q=2 by omega]
      simp)
    have HQ:=hide hq1
    have hq8:q≤8:=by omega
    clear hm
    clear hb hq hq1 hlt hz1' hz2' hi7
    go_wp2_with (at_builtin;refine wpList_app rfl (.tmp 13) (.tmp 19) 45 rfl w.heap.size 5 i0 (.int .u8 0) 1 1 Tryz.underlying45 hi0 hz0 hz1 hz2 rfl (by decide) (.slice A q c) q _ rfl (hown.out.alloc _) (wr.heap.size+1) (some ⟨wr.heap.size,0,none⟩) 1 1 [.int .u8 ((m:Int) / 65536 % 256)] rfl rfl (Rd.new _ _ _ _) (by simp[Value.oneCell']) (by unfold maxLen;omega) (by omega) (by simp;omega) ?_)
    intro A2 c2 w2 hown2 hg2 hat2
    rw[hB.out] at hown2
    have HO2:=hide hown2
    have HB2:=hide (app_below (hbr.out.alloc hs _) (hown.out.alloc _) hg2 (by simp;omega) (Nat.le_refl _))
    clear hown2 hg2 hat2 hown hbr
    go_wp2
    go_roundw
    case rel=>exact⟨2-1,q+1,A2,c2,by omega,by have:=HQ.out;omega,by have:=HQ.out;omega,by go_num,rfl,HO2,HB2⟩
    case measure=>simp[intOf]
   ·obtain rfl:i=3:=hi
    have hq1:q+3+1=k:=by omega
    have hb:=be_get k m q (by omega)
    have hB:Hid (u8s ((be k m).take q) ++ [.int .u8 ((m:Int) / 16777216 % 256)]=u8s ((be k m).take (q+1))):=hide (by
      rw[List.take_add_one,hb,Option.toList_some,←u8s_append,u8_val,show k-1-q=3 by omega]
      simp)
    have HQ:=hide hq1
    have hq8:q≤8:=by omega
    clear hm
    clear hb hq hq1 hlt hz1' hz2' hi7
    go_wp2_with (at_builtin;refine wpList_app rfl (.tmp 13) (.tmp 19) 45 rfl w.heap.size 5 i0 (.int .u8 0) 1 1 Tryz.underlying45 hi0 hz0 hz1 hz2 rfl (by decide) (.slice A q c) q _ rfl (hown.out.alloc _) (wr.heap.size+1) (some ⟨wr.heap.size,0,none⟩) 1 1 [.int .u8 ((m:Int) / 16777216 % 256)] rfl rfl (Rd.new _ _ _ _) (by simp[Value.oneCell']) (by unfold maxLen;omega) (by omega) (by simp;omega) ?_)
    intro A2 c2 w2 hown2 hg2 hat2
    rw[hB.out] at hown2
    have HO2:=hide hown2
    have HB2:=hide (app_below (hbr.out.alloc hs _) (hown.out.alloc _) hg2 (by simp;omega) (Nat.le_refl _))
    clear hown2 hg2 hat2 hown hbr
    go_wp2
    go_roundw
    case rel=>exact⟨3-1,q+1,A2,c2,by omega,by have:=HQ.out;omega,by have:=HQ.out;omega,by go_num,rfl,HO2,HB2⟩
    case measure=>simp[intOf]
   ·obtain rfl:i=4:=hi
    have hq1:q+4+1=k:=by omega
    have hb:=be_get k m q (by omega)
    have hB:Hid (u8s ((be k m).take q) ++ [.int .u8 ((m:Int) / 4294967296 % 256)]=u8s ((be k m).take (q+1))):=hide (by
      rw[List.take_add_one,hb,Option.toList_some,←u8s_append,u8_val,show k-1-q=4 by omega]
      simp)
    have HQ:=hide hq1
    have hq8:q≤8:=by omega
    clear hm
    clear hb hq hq1 hlt hz1' hz2' hi7
    go_wp2_with (at_builtin;refine wpList_app rfl (.tmp 13) (.tmp 19) 45 rfl w.heap.size 5 i0 (.int .u8 0) 1 1 Tryz.underlying45 hi0 hz0 hz1 hz2 rfl (by decide) (.slice A q c) q _ rfl (hown.out.alloc _) (wr.heap.size+1) (some ⟨wr.heap.size,0,none⟩) 1 1 [.int .u8 ((m:Int) / 4294967296 % 256)] rfl rfl (Rd.new _ _ _ _) (by simp[Value.oneCell']) (by unfold maxLen;omega) (by omega) (by simp;omega) ?_)
    intro A2 c2 w2 hown2 hg2 hat2
    rw[hB.out] at hown2
    have HO2:=hide hown2
    have HB2:=hide (app_below (hbr.out.alloc hs _) (hown.out.alloc _) hg2 (by simp;omega) (Nat.le_refl _))
    clear hown2 hg2 hat2 hown hbr
    go_wp2
    go_roundw
    case rel=>exact⟨4-1,q+1,A2,c2,by omega,by have:=HQ.out;omega,by have:=HQ.out;omega,by go_num,rfl,HO2,HB2⟩
    case measure=>simp[intOf]
   ·obtain rfl:i=5:=hi
    have hq1:q+5+1=k:=by omega
    have hb:=be_get k m q (by omega)
    have hB:Hid (u8s ((be k m).take q) ++ [.int .u8 ((m:Int) / 1099511627776 % 256)]=u8s ((be k m).take (q+1))):=hide (by
      rw[List.take_add_one,hb,Option.toList_some,←u8s_append,u8_val,show k-1-q=5 by omega]
      simp)
    have HQ:=hide hq1
    have hq8:q≤8:=by omega
    clear hm
    clear hb hq hq1 hlt hz1' hz2' hi7
    go_wp2_with (at_builtin;refine wpList_app rfl (.tmp 13) (.tmp 19) 45 rfl w.heap.size 5 i0 (.int .u8 0) 1 1 Tryz.underlying45 hi0 hz0 hz1 hz2 rfl (by decide) (.slice A q c) q _ rfl (hown.out.alloc _) (wr.heap.size+1) (some ⟨wr.heap.size,0,none⟩) 1 1 [.int .u8 ((m:Int) / 1099511627776 % 256)] rfl rfl (Rd.new _ _ _ _) (by simp[Value.oneCell']) (by unfold maxLen;omega) (by omega) (by simp;omega) ?_)
    intro A2 c2 w2 hown2 hg2 hat2
    rw[hB.out] at hown2
    have HO2:=hide hown2
    have HB2:=hide (app_below (hbr.out.alloc hs _) (hown.out.alloc _) hg2 (by simp;omega) (Nat.le_refl _))
    clear hown2 hg2 hat2 hown hbr
    go_wp2
    go_roundw
    case rel=>exact⟨5-1,q+1,A2,c2,by omega,by have:=HQ.out;omega,by have:=HQ.out;omega,by go_num,rfl,HO2,HB2⟩
    case measure=>simp[intOf]
   ·obtain rfl:i=6:=hi
    have hq1:q+6+1=k:=by omega
    have hb:=be_get k m q (by omega)
    have hB:Hid (u8s ((be k m).take q) ++ [.int .u8 ((m:Int) / 281474976710656 % 256)]=u8s ((be k m).take (q+1))):=hide (by
      rw[List.take_add_one,hb,Option.toList_some,←u8s_append,u8_val,show k-1-q=6 by omega]
      simp)
    have HQ:=hide hq1
    have hq8:q≤8:=by omega
    clear hm
    clear hb hq hq1 hlt hz1' hz2' hi7
    go_wp2_with (at_builtin;refine wpList_app rfl (.tmp 13) (.tmp 19) 45 rfl w.heap.size 5 i0 (.int .u8 0) 1 1 Tryz.underlying45 hi0 hz0 hz1 hz2 rfl (by decide) (.slice A q c) q _ rfl (hown.out.alloc _) (wr.heap.size+1) (some ⟨wr.heap.size,0,none⟩) 1 1 [.int .u8 ((m:Int) / 281474976710656 % 256)] rfl rfl (Rd.new _ _ _ _) (by simp[Value.oneCell']) (by unfold maxLen;omega) (by omega) (by simp;omega) ?_)
    intro A2 c2 w2 hown2 hg2 hat2
    rw[hB.out] at hown2
    have HO2:=hide hown2
    have HB2:=hide (app_below (hbr.out.alloc hs _) (hown.out.alloc _) hg2 (by simp;omega) (Nat.le_refl _))
    clear hown2 hg2 hat2 hown hbr
    go_wp2
    go_roundw
    case rel=>exact⟨6-1,q+1,A2,c2,by omega,by have:=HQ.out;omega,by have:=HQ.out;omega,by go_num,rfl,HO2,HB2⟩
    case measure=>simp[intOf]
   obtain rfl:i=7:=hi
   have hq1:q+7+1=k:=by omega
   have hb:=be_get k m q (by omega)
   have hB:Hid (u8s ((be k m).take q) ++ [.int .u8 ((m:Int) / 72057594037927936 % 256)]=u8s ((be k m).take (q+1))):=hide (by
     rw[List.take_add_one,hb,Option.toList_some,←u8s_append,u8_val,show k-1-q=7 by omega]
     simp)
   have HQ:=hide hq1
   have hq8:q≤8:=by omega
   clear hm
   clear hb hq hq1 hlt hz1' hz2' hi7
   go_wp2_with (at_builtin;refine wpList_app rfl (.tmp 13) (.tmp 19) 45 rfl w.heap.size 5 i0 (.int .u8 0) 1 1 Tryz.underlying45 hi0 hz0 hz1 hz2 rfl (by decide) (.slice A q c) q _ rfl (hown.out.alloc _) (wr.heap.size+1) (some ⟨wr.heap.size,0,none⟩) 1 1 [.int .u8 ((m:Int) / 72057594037927936 % 256)] rfl rfl (Rd.new _ _ _ _) (by simp[Value.oneCell']) (by unfold maxLen;omega) (by omega) (by simp;omega) ?_)
   intro A2 c2 w2 hown2 hg2 hat2
   rw[hB.out] at hown2
   have HO2:=hide hown2
   have HB2:=hide (app_below (hbr.out.alloc hs _) (hown.out.alloc _) hg2 (by simp;omega) (Nat.le_refl _))
   clear hown2 hg2 hat2 hown hbr
   go_wp2
   go_roundw
   case rel=>exact⟨7-1,q+1,A2,c2,by omega,by have:=HQ.out;omega,by have:=HQ.out;omega,by go_num,rfl,HO2,HB2⟩
   case measure=>simp[intOf]
  obtain rfl:z=-1:=by omega
  obtain rfl:q=k:=by omega
  have HFin:Hid (BytesPost w (be q m) q (.returned (.slice A q c)) wr):=hide ⟨A,c,rfl,by have h:=hown.out;rw[List.take_of_length_le (by rw[be_len];exact Nat.le_refl _)] at h;exact h,hbr.out⟩
  clear hq hown hbr hz1' hz2'
  go_wp2
  go_ret
  exact HFin.out
theorem number2 (w:World) (m:Nat) (hm:m<18446744073709551616):Calls Tryz.prog 66 #[.int .u64 (m:Int),.int .i64 2] w (BytesPost w (be 2 m) 2):=number_any w m 2 hm (by omega)
theorem number4 (w:World) (m:Nat) (hm:m<18446744073709551616):Calls Tryz.prog 66 #[.int .u64 (m:Int),.int .i64 4] w (BytesPost w (be 4 m) 4):=number_any w m 4 hm (by omega)
theorem number8 (w:World) (m:Nat) (hm:m<18446744073709551616):Calls Tryz.prog 66 #[.int .u64 (m:Int),.int .i64 8] w (BytesPost w (be 8 m) 8):=number_any w m 8 hm (by omega)
end Go.Proofs.YtpojjmbalgmcoaaGreat
