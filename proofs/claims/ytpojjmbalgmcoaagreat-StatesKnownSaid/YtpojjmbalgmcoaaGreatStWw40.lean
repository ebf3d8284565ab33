/- Lemmas: Sdc. -/
import Derived.Test.YtpojjmbalgmcoaaGreatProg
import Derived.Lib.Hide
import Derived.WalkSpells
import Derived.WalkMore
import Derived.Deep.Strs
import Derived.Test.YtpojjmbalgmcoaaGreatStWw39
set_option linter.unusedVariables false
set_option linter.unusedSimpArgs false
set_option maxRecDepth 100000
set_option maxHeartbeats 16000000
namespace Go.Proofs.YtpojjmbalgmcoaaGreat
open Go.RowKit
theorem snd0_any (w:World) (k j1 j2 j3 j4 v y:Int) (k1:¬k=1) (k2:¬k=2) (k3:¬k=3) (ch:Bool) (A B:Value) :
  Calls Tryz.prog 94 #[.agg #[.int .u8 k,.int .i64 j1,.int .i64 j2,.int .i64 j3,.int .i64 j4],.int .i64 v,.int .i64 y,.bool ch,A,B] w fun e w'=>e = .returned (.slice none 0 0)∧Below w.heap.size w w':=by
 obtain⟨u,hu⟩:∃u,w.alloc (.cells #[.int .u8 k,.int .i64 j1,.int .i64 j2,.int .i64 j3,.int .i64 j4] 27)=u:=⟨_,rfl⟩
 have hzu:u.heap.size=w.heap.size+1:=by rw[←hu];simp
 have HBu:Hid (Below w.heap.size w u):=hide (by rw[←hu];exact (Below.refl _ _).alloc (Nat.le_refl _) _)
 have M0:=hide (show u.heap[w.heap.size]?=some (.cells #[.int .u8 k,.int .i64 j1,.int .i64 j2,.int .i64 j3,.int .i64 j4] 27) by rw[←hu];exact heap_alloc_last _ _)
 have HU:=hide hu
 clear hu
 obtain⟨c0,c1,c2,c3,c4⟩:=zr5 M0.out
 go_enter Tryz.func94,Tryz.ntmps94
 go_wp2_with fail
 rw[HU.out]
 refine (of0 _ k k1 k2 k3 j1 j2 j3 j4).mono ?_
 rintro _ w1 ⟨rfl,hb⟩
 have HB1:=hide (HBu.out.trans (hb.mono (by omega)))
 clear hb c0 c1 c2 c3 c4
 go_wp2
 go_ret
 exact⟨rfl,HB1.out⟩
def sndL (k:Int) (ch:Bool) (v y:Int) (outs backs:List Ed):List Ms:=if k=1 then rkMs y outs else if k=2 then lbMs ch v y outs backs else if k=3 then wyMs ch y outs else []
def sndD (k:Int) (ch:Bool) (v y:Int) (outs backs:List Ed):List Ms:=docM k (sndL k ch v y outs backs)
theorem docM_len (k:Int) (l:List Ms):(docM k l).length≤l.length:=by
 have h:∀(l acc:List Ms),(l.foldl (addM k) acc).length≤acc.length+l.length:=by
  intro l
  induction l with
  | nil=>intro acc;exact Nat.le_refl _
  | cons m l ih=>
   intro acc
   have h1:=ih (addM k acc m)
   have h2:=add_len k m acc
   rw[List.foldl_cons,List.length_cons]
   omega
 have:=h l []
 simpa [docM] using this
theorem sndL_len (k:Int) (ch:Bool) (v y:Int) (outs backs:List Ed):(sndL k ch v y outs backs).length≤outs.length+backs.length:=by
 unfold sndL
 split
 ·unfold rkMs;rw[List.length_map];omega
 split
 ·unfold lbMs
  split
  ·rw[List.length_map];exact nearF_len v outs backs _ _ rfl rfl
  exact Nat.zero_le _
 split
 ·unfold wyMs
  split
  ·rw[List.length_map];omega
  exact Nat.zero_le _
 exact Nat.zero_le _
theorem sndD_len (k:Int) (ch:Bool) (v y:Int) (outs backs:List Ed):(sndD k ch v y outs backs).length≤outs.length+backs.length:=Nat.le_trans (docM_len _ _) (sndL_len _ _ _ _ _ _)
def SdPost (w:World) (l:List Ms) (e:Ending) (w':World):Prop:=∃A c,e = .returned (.slice A l.length c)∧Mss w' w'.heap.size A l∧Below w.heap.size w w'
def SdPostN (w:World) (l:List Ms) (e:Ending) (w':World):Prop:=∃A c,e = .returned (.slice A l.length c)∧Mss w' w'.heap.size A l∧Below w.heap.size w w'∧NewA w.heap.size A
theorem SdPostN.old {w:World} {l:List Ms} {e:Ending} {w':World} (h:SdPostN w l e w'):SdPost w l e w':=by
 obtain⟨A,c,he,hm,hb,_⟩:=h
 exact⟨A,c,he,hm,hb⟩
theorem SndPost.doc {k:Int} {w:World} {l:List Ms} {e:Ending} {w':World} (h:SndPost k w l e w'):SdPostN w (docM k l) e w':=by
 obtain⟨d,hd,A,c,he,hm,hb⟩:=h
 rw[snd_doc hd] at he hm
 exact⟨A,c,he,hm,hb⟩
theorem asendN_any (w:World) (k j1 j2 j3 j4 v y:Int) (ch:Bool) (A A9:Option Addr) (es fs:List Ed) (Le c Lf c9:Nat) (hL:es.length=Le) (hF:fs.length=Lf) (hE:Eds w w.heap.size A es) (hE9:Eds w w.heap.size A9 fs) (hLe:Le≤200) (hLf:Lf≤200) (hy:-9223372036854775808≤y∧y≤9223372036854775807) :
  Calls Tryz.prog 94 #[.agg #[.int .u8 k,.int .i64 j1,.int .i64 j2,.int .i64 j3,.int .i64 j4],.int .i64 v,.int .i64 y,.bool ch,.slice A Le c,.slice A9 Lf c9] w (SdPostN w (sndD k ch v y es fs)):=by
 by_cases k1:k=1
 ·subst k1
  exact (snd1_any w j1 j2 j3 j4 v y ch A es Le c _ hL hE (by omega) hy).mono fun e w' h=>h.doc
 by_cases k2:k=2
 ·subst k2
  exact (snd2_any w j1 j2 j3 j4 v y ch A A9 es fs Le c Lf c9 hL hF hE hE9 (by omega) hy).mono fun e w' h=>h.doc
 by_cases k3:k=3
 ·subst k3
  exact (snd3_any w j1 j2 j3 j4 v y ch A es Le c _ hL hE (by omega) hy).mono fun e w' h=>h.doc
 refine (snd0_any w k j1 j2 j3 j4 v y k1 k2 k3 ch _ _).mono fun e w' h=>?_
 obtain⟨rfl,hb⟩:=h
 have h0:sndD k ch v y es fs=[]:=by unfold sndD sndL;rw[if_neg k1,if_neg k2,if_neg k3];rfl
 rw[h0]
 exact⟨none,0,rfl,fun h=>absurd rfl h,hb,NewA.none_ _⟩
end Go.Proofs.YtpojjmbalgmcoaaGreat
