/- Lemmas: Skp, Ksp. -/
import Derived.Test.YtpgbjabifhjogaaGreatProg
import Derived.Deep.Strs
import Derived.Deep.CutBlock
import Derived.Test.YtpgbjabifhjogaaGreatSkWw43
set_option linter.unusedVariables false
set_option linter.unusedSimpArgs false
set_option maxRecDepth 100000
set_option maxHeartbeats 16000000
namespace Go.Proofs.YtpgbjabifhjogaaGreat
open Go.RowKit
structure SmG (w:World) (V:Int) (A:Option Addr) (es:List Ed) (L c:Nat):Prop where
 len:es.length=L
 eds:Eds w w.heap.size A es
 cap:L≤c
 top:c≤9223372036854775807
 edb:∀e∈es,edB e
 lo:0≤V
 hi:V≤6
 few:L≤5
theorem SmG.next {w w':World} {V:Int} {A:Option Addr} {es:List Ed} {L c:Nat} (h:SmG w V A es L c) (hb:Below w.heap.size w w'):SmG w' V A es L c:=
 ⟨h.len,h.eds.next hb,h.cap,h.top,h.edb,h.lo,h.hi,h.few⟩
theorem SmG.none_ {w:World} {V:Int} (h0:0≤V) (h1:V≤6):SmG w V none [] 0 0:=
 ⟨rfl,fun h=>absurd rfl h,Nat.le_refl _,by decide,(fun e he=>nomatch he),h0,h1,by decide⟩
def JbB (k j1 j2 j3 j4:Int):Prop:=(0≤k∧k≤255)∧i64B j1∧i64B j2∧i64B j3∧i64B j4
structure StM (w:World) (s:SV) (Av Ac Ai:Option Addr) (nv nc ni:Nat):Prop where
 len:VLen s nv nc ni
 rows:VIn w s Av Ac Ai
 mail:∀m∈s.inb,i64V m.2
 few:nv≤600∧nc≤600∧ni≤600
theorem StM.next {w w':World} {s:SV} {Av Ac Ai:Option Addr} {nv nc ni:Nat} (h:StM w s Av Ac Ai nv nc ni) (hb:Below w.heap.size w w'):StM w' s Av Ac Ai nv nc ni:=
 ⟨h.len,h.rows.next hb,h.mail,h.few⟩
theorem StM.far {z f:World} {r C:Nat} {s:SV} {Av Ac Ai:Option Addr} {nv nc ni:Nat} (h:StM z s Av Ac Ai nv nc ni) (hf:FarS r r z f) (n1:NewA C Av) (n2:NewA C Ac) (n3:NewA C Ai) (hr:r<C):StM f s Av Ac Ai nv nc ni:=
 ⟨h.len,⟨hf.rd h.rows.vals n1 hr hr,hf.rd h.rows.chg n2 hr hr,hf.rd h.rows.inb n3 hr hr⟩,h.mail,h.few⟩
theorem SmG.start {w:World} {V:Int} {A:Option Addr} {es:List Ed} {L c:Nat} (h:SmG w V A es L c) (k j1 j2 j3 j4:Int) (hj:JbB k j1 j2 j3 j4) :
  Calls Tryz.prog 4 #[.agg #[.int .i64 V,.slice A L c],.agg #[.int .u8 k,.int .i64 j1,.int .i64 j2,.int .i64 j3,.int .i64 j4]] w fun e w'=>e = .returned (.bool true)∧Below w.heap.size w w':=by
 obtain⟨rfl,h2,h3,h4,h5,h6,h7,h8⟩:=h
 obtain⟨b0,b1,b2,b3,b4⟩:=hj
 exact seqStart_walk w V A es c (by omega) (by omega) h2 h3 h4 h5 k j1 j2 j3 j4 b0 b1 b2 b3 b4
theorem SmG.run {w:World} {V:Int} {A:Option Addr} {es:List Ed} {L c:Nat} (h:SmG w V A es L c) (k j1 j2 j3 j4:Int) (hj:JbB k j1 j2 j3 j4) :
  Calls Tryz.prog 6 #[.agg #[.int .i64 V,.slice A L c],.agg #[.int .u8 k,.int .i64 j1,.int .i64 j2,.int .i64 j3,.int .i64 j4]] w fun e w'=>e = .returned (.bool true)∧Below w.heap.size w w':=by
 obtain⟨rfl,h2,h3,h4,h5,h6,h7,h8⟩:=h
 obtain⟨b0,b1,b2,b3,b4⟩:=hj
 exact seqRun_walk w V A es c (by omega) (by omega) h2 h3 h4 h5 k j1 j2 j3 j4 b0 b1 b2 b3 b4
theorem SmG.goes {w:World} {V:Int} {A:Option Addr} {es:List Ed} {L c:Nat} (h:SmG w V A es L c) (k j1 j2 j3 j4:Int) (hj:JbB k j1 j2 j3 j4) :
  Calls Tryz.prog 8 #[.agg #[.int .i64 V,.slice A L c],.agg #[.int .u8 k,.int .i64 j1,.int .i64 j2,.int .i64 j3,.int .i64 j4]] w fun e w'=>e = .returned (.bool true)∧Below w.heap.size w w':=by
 obtain⟨rfl,h2,h3,h4,h5,h6,h7,h8⟩:=h
 obtain⟨b0,b1,b2,b3,b4⟩:=hj
 exact seqGoes_walk w V A es c (by omega) (by omega) h2 h3 h4 h5 k j1 j2 j3 j4 b0 b1 b2 b3 b4
theorem SmG.at_ {w:World} {V:Int} {A:Option Addr} {es:List Ed} {L c:Nat} (h:SmG w V A es L c) (k j1 j2 j3 j4:Int) (hj:JbB k j1 j2 j3 j4) (n:Int) (hn1:-9223372036854775808≤n) (hn2:n≤9223372036854775807) :
  Calls Tryz.prog 3 #[.agg #[.int .i64 V,.slice A L c],.agg #[.int .u8 k,.int .i64 j1,.int .i64 j2,.int .i64 j3,.int .i64 j4],.int .i64 n] w fun e w'=>e = .returned (.bool true)∧Below w.heap.size w w':=by
 obtain⟨rfl,h2,h3,h4,h5,h6,h7,h8⟩:=h
 obtain⟨b0,b1,b2,b3,b4⟩:=hj
 exact seqAt_walk w V A es c (by omega) (by omega) h2 h3 h4 h5 k j1 j2 j3 j4 b0 b1 b2 b3 b4 n hn1 hn2
theorem SmG.step {w:World} {V:Int} {A:Option Addr} {es:List Ed} {L c:Nat} (h:SmG w V A es L c) (k j1 j2 j3 j4:Int) (hj:JbB k j1 j2 j3 j4) {s:SV} {Av Ac Ai:Option Addr} {nv nc ni:Nat} (cv cc ci:Nat) (hs:StM w s Av Ac Ai nv nc ni) :
  Calls Tryz.prog 5 #[.agg #[.int .i64 V,.slice A L c],.agg #[.int .u8 k,.int .i64 j1,.int .i64 j2,.int .i64 j3,.int .i64 j4],.agg #[.int .i64 s.st,.slice Av nv cv,.slice Ac nc cc,.slice Ai ni ci,.int .i64 s.sm,.int .i64 s.mo]] w fun e w'=>e = .returned (.bool true)∧Below w.heap.size w w':=by
 obtain⟨rfl,h2,h3,h4,h5,h6,h7,h8⟩:=h
 obtain⟨b0,b1,b2,b3,b4⟩:=hj
 exact seqstep_main w V A es c (by omega) (by omega) h2 h3 h4 h5 k j1 j2 j3 j4 b0 b1 b2 b3 b4 s Av Ac Ai nv nc ni cv cc ci hs.len hs.rows hs.mail ⟨by have:=hs.few.1;omega,by have:=hs.few.2.1;omega,by have:=hs.few.2.2;omega⟩
def StAny (w:World) (e:Ending) (w':World):Prop:=
 ∃(s:SV) (Av Ac Ai:Option Addr) (n cv cc ci:Nat) (E:Int),e = .returned (.tuple #[.agg #[.int .i64 s.st,.slice Av n cv,.slice Ac n cc,.slice Ai n ci,.int .i64 s.sm,.int .i64 s.mo],.int .i64 E])∧StM w' s Av Ac Ai n n n∧n≤512∧Below w.heap.size w w'∧NewA w.heap.size Av∧NewA w.heap.size Ac∧NewA w.heap.size Ai
theorem SmG.first {w:World} {V:Int} {A:Option Addr} {es:List Ed} {L c:Nat} (h:SmG w V A es L c) (k j1 j2 j3 j4:Int) :
  Calls Tryz.prog 16 #[.agg #[.int .i64 V,.slice A L c],.agg #[.int .u8 k,.int .i64 j1,.int .i64 j2,.int .i64 j3,.int .i64 j4]] w (StAny w):=by
 obtain⟨h1,h2,h3,h4,h5,h6,h7,h8⟩:=h
 refine (qrstart_any w V A es L c h1 (by omega) h2 k j1 j2 j3 j4 (fun _=>by omega)).mono ?_
 rintro e w' (⟨_,rfl,hb⟩ | ⟨h0,Av,Ac,Ai,cv,cc,ci,rfl,hin,hb,n1,n2,n3⟩)
 ·exact⟨⟨0,[],[],[],0,0⟩,none,none,none,0,0,0,0,_,rfl,⟨⟨rfl,rfl,rfl⟩,⟨fun h=>absurd rfl h,fun h=>absurd rfl h,fun h=>absurd rfl h⟩,(fun m hm=>nomatch hm),by decide⟩,by decide,hb,(fun g off h=>nomatch h),(fun g off h=>nomatch h),(fun g off h=>nomatch h)⟩
 obtain⟨⟨hV1,hV5,hEB⟩,_⟩:=acheck_ok h0
 have hokn:=startV_ok (k:=k) (j2:=j2) (es:=es) (V:=V.toNat) (by omega) hEB
 exact⟨_,Av,Ac,Ai,_,cv,cc,ci,0,rfl,⟨⟨hokn.lv,hokn.lc,hokn.li⟩,hin,hokn.bi,⟨by omega,by omega,by omega⟩⟩,by omega,hb,n1,n2,n3⟩
theorem last_any (w:World):Calls Tryz.prog 12 #[.agg #[.int .i64 1,.slice none 0 0],.agg #[.int .u8 2,.int .i64 0,.int .i64 0,.int .i64 0,.int .i64 0],.int .i64 2000] w
  fun e w'=>∃(s:SV) (Av Ac Ai:Option Addr) (cv cc ci:Nat),e = .returned (.tuple #[.agg #[.int .i64 2000,.slice Av 1 cv,.slice Ac 1 cc,.slice Ai 1 ci,.int .i64 s.sm,.int .i64 s.mo],.int .i64 0])∧s.st=2000∧StM w' s Av Ac Ai 1 1 1∧Below w.heap.size w w':=by
 have h:=qat_any w 1 none [] 0 0 rfl (by omega) (fun h=>absurd rfl h) 2 0 0 0 0 2000 (fun _=>by omega)
 have hst:=atV_st 2 0 0 [] (1:Int).toNat (2000:Int).toNat
 have hok:=atV_ok (k:=2) (j2:=0) (j3:=0) (es:=[]) (V:=(1:Int).toNat) (by decide) (fun e he=>nomatch he) (2000:Int).toNat
 rw[show atE (acheckF 2 0 0 0 0 1 []) 2000=0 by decide] at h
 obtain⟨s,hs⟩:∃s,atV 2 0 0 [] (1:Int).toNat (2000:Int).toNat=s:=⟨_,rfl⟩
 rw[hs] at h hst hok
 clear hs
 rw[show (1:Int).toNat=1 from rfl] at h hok
 have hs:s.st=2000:=hst.trans (by decide)
 refine h.mono ?_
 rintro e w' (⟨h0,_⟩ | ⟨_,Av,Ac,Ai,cv,cc,ci,rfl,hin,hb,_,_,_⟩)
 ·exact absurd rfl h0
 exact⟨s,Av,Ac,Ai,cv,cc,ci,by rw[hs],hs,⟨⟨hok.lv,hok.lc,hok.li⟩,hin,hok.bi,by decide⟩,hb⟩
theorem over_any (w:World) {s:SV} {Av Ac Ai:Option Addr} (cv cc ci:Nat) (h:StM w s Av Ac Ai 1 1 1) (hs:s.st=2000):Calls Tryz.prog 19 #[.agg #[.int .i64 1,.slice none 0 0],.agg #[.int .u8 2,.int .i64 0,.int .i64 0,.int .i64 0,.int .i64 0],.agg #[.int .i64 2000,.slice Av 1 cv,.slice Ac 1 cc,.slice Ai 1 ci,.int .i64 s.sm,.int .i64 s.mo]] w
  fun e w'=>e = .returned (.tuple #[.agg #[.int .i64 0,.slice none 0 0,.slice none 0 0,.slice none 0 0,.int .i64 0,.int .i64 0],.int .i64 4])∧Below w.heap.size w w':=by
 have h:=qstep_any w 1 none [] 0 0 rfl (by omega) (fun h=>absurd rfl h) 2 0 0 0 0 (fun _=>by omega) s Av Ac Ai 1 1 1 cv cc ci h.len h.rows h.mail (by omega) (by omega)
 rw[hs,show stepE (acheckF 2 0 0 0 0 1 []) 1 s=4 by rw[stepE,if_neg (by decide),if_pos (Or.inr hs)]] at h
 refine h.mono ?_
 rintro e w' (⟨_,rfl,hb⟩ | ⟨h0,_⟩)
 ·exact⟨rfl,hb⟩
 exact absurd h0 (by decide)
theorem StM.same {w:World} {s q:SV} {Av Ac Ai Bv Bc Bi:Option Addr} {nv nc ni mv mc mi:Nat} (cv cc ci dv dc di:Nat) (h:StM w s Av Ac Ai nv nc ni) (h2:StM w q Bv Bc Bi mv mc mi) :
  Calls Tryz.prog 7 #[.agg #[.int .i64 s.st,.slice Av nv cv,.slice Ac nc cc,.slice Ai ni ci,.int .i64 s.sm,.int .i64 s.mo],.agg #[.int .i64 q.st,.slice Bv mv dv,.slice Bc mc dc,.slice Bi mi di,.int .i64 q.sm,.int .i64 q.mo]] w fun e w'=>e = .returned (.bool true)∧Below w.heap.size w w':=
 seqsame_main w s Av Ac Ai nv nc ni cv cc ci h.len h.rows q Bv Bc Bi mv mc mi dv dc di h2.len h2.rows
def GR (w:World) (B:Nat):Prop:=B<w.heap.size∧∀i,i<5→∃(V:Int) (A:Option Addr) (es:List Ed) (L c:Nat),w.cell? ⟨B,i*2,none⟩=some (.int .i64 V)∧w.cell? ⟨B,i*2+1,none⟩=some (.slice A L c)∧SmG w V A es L c
theorem GR.next {w w':World} {B:Nat} (h:GR w B) (hb:Below w.heap.size w w'):GR w' B:=
 ⟨Nat.lt_of_lt_of_le h.1 hb.size,fun i hi=>by
  obtain⟨V,A,es,L,c,h1,h2,h3⟩:=h.2 i hi
  exact⟨V,A,es,L,c,(hb.cell h.1).trans h1,(hb.cell h.1).trans h2,h3.next hb⟩⟩
def JR (w:World) (B:Nat):Prop:=B<w.heap.size∧∀i,i<9→∃(k j1 j2 j3 j4:Int),JbB k j1 j2 j3 j4∧w.cell? ⟨B,i*5,none⟩=some (.int .u8 k)∧w.cell? ⟨B,i*5+1,none⟩=some (.int .i64 j1)∧w.cell? ⟨B,i*5+2,none⟩=some (.int .i64 j2)∧w.cell? ⟨B,i*5+3,none⟩=some (.int .i64 j3)∧w.cell? ⟨B,i*5+4,none⟩=some (.int .i64 j4)
theorem JR.next {w w':World} {B:Nat} (h:JR w B) (hb:Below w.heap.size w w'):JR w' B:=
 ⟨Nat.lt_of_lt_of_le h.1 hb.size,fun i hi=>by
  obtain⟨k,j1,j2,j3,j4,a1,h1,h2,h3,h4,h5⟩:=h.2 i hi
  exact⟨k,j1,j2,j3,j4,a1,(hb.cell h.1).trans h1,(hb.cell h.1).trans h2,(hb.cell h.1).trans h3,(hb.cell h.1).trans h4,(hb.cell h.1).trans h5⟩⟩
theorem ring_edB (n:Nat) (hn:n≤8192):∀e∈ringE n,edB e:=fun e he=>by
 unfold ringE at he
 obtain⟨i,hi,rfl⟩:=List.mem_map.1 he
 have:=List.mem_range.1 hi
 have h1:((i:Int)+1) % (n:Int)<(n:Int):=Int.emod_lt_of_pos _ (by omega)
 have h2:0≤((i:Int)+1) % (n:Int):=Int.emod_nonneg _ (by omega)
 refine⟨?_,?_,?_,?_⟩ <;> dsimp only <;> omega
open Go.Shelf
attribute [local go_sem] Oper.semAt_some
theorem grown_set (z:World) (g j:Nat) (v:Value):z.grownBy (z.setCell ⟨g,j,none⟩ v) (some g):=by
 have hb:=(Below.refl 0 z).setCell (p:=⟨g,j,none⟩) (Nat.zero_le _) v
 exact⟨hb.os,hb.tape,hb.output,Nat.le_of_eq (World.size_setCell _ _ _).symm,fun b _ hne=>Below.heap_setCell _ _ _ b (fun e=>hne (by rw[show b=g from e]))⟩
structure SpM (u z:World) (q:SV) (A1 A2 A3:Option Addr) (m1 m2 m3 c1 c2 c3:Nat):Prop where
 blk:z.heap[u.heap.size]?=some (.cells #[.int .i64 q.st,.slice A1 m1 c1,.slice A2 m2 c2,.slice A3 m3 c3,.int .i64 q.sm,.int .i64 q.mo] 33)
 o1:z.ownsRow (u.heap.size+1) 2 1 (.slice A1 m1 c1) m1 (i64s q.vals)
 o2:z.ownsRow (u.heap.size+1) 4 1 (.slice A2 m2 c2) m2 (bools q.chg)
 o3:z.ownsRow (u.heap.size+1) 76 2 (.slice A3 m3 c3) m3 (mlFlat q.inb)
 len:VLen q m1 m2 m3
 mail:∀m∈q.inb,i64V m.2
 few:m1≤600∧m2≤600∧m3≤600
 bel:Below u.heap.size u z
theorem SpM.st {u z:World} {q:SV} {A1 A2 A3:Option Addr} {m1 m2 m3 c1 c2 c3:Nat} (h:SpM u z q A1 A2 A3 m1 m2 m3 c1 c2 c3) (x:Int):SpM u (z.setCell ⟨u.heap.size,0,none⟩ (.int .i64 x)) { q with st:=x } A1 A2 A3 m1 m2 m3 c1 c2 c3:=
 ⟨by simpa using heap_setCell_same z _ 0 _ _ (.int .i64 x) h.blk,Go.Proofs.YtpgbjabifhjogaaGreat.own_set h.o1 (by omega),Go.Proofs.YtpgbjabifhjogaaGreat.own_set h.o2 (by omega),Go.Proofs.YtpgbjabifhjogaaGreat.own_set h.o3 (by omega),h.len,h.mail,h.few,h.bel.setCell (p:=⟨u.heap.size,0,none⟩) (Nat.le_refl _) _⟩
theorem SpM.sm {u z:World} {q:SV} {A1 A2 A3:Option Addr} {m1 m2 m3 c1 c2 c3:Nat} (h:SpM u z q A1 A2 A3 m1 m2 m3 c1 c2 c3) (x:Int):SpM u (z.setCell ⟨u.heap.size,4,none⟩ (.int .i64 x)) { q with sm:=x } A1 A2 A3 m1 m2 m3 c1 c2 c3:=
 ⟨by simpa using heap_setCell_same z _ 4 _ _ (.int .i64 x) h.blk,Go.Proofs.YtpgbjabifhjogaaGreat.own_set h.o1 (by omega),Go.Proofs.YtpgbjabifhjogaaGreat.own_set h.o2 (by omega),Go.Proofs.YtpgbjabifhjogaaGreat.own_set h.o3 (by omega),h.len,h.mail,h.few,h.bel.setCell (p:=⟨u.heap.size,4,none⟩) (Nat.le_refl _) _⟩
theorem SpM.mo {u z:World} {q:SV} {A1 A2 A3:Option Addr} {m1 m2 m3 c1 c2 c3:Nat} (h:SpM u z q A1 A2 A3 m1 m2 m3 c1 c2 c3) (x:Int):SpM u (z.setCell ⟨u.heap.size,5,none⟩ (.int .i64 x)) { q with mo:=x } A1 A2 A3 m1 m2 m3 c1 c2 c3:=
 ⟨by simpa using heap_setCell_same z _ 5 _ _ (.int .i64 x) h.blk,Go.Proofs.YtpgbjabifhjogaaGreat.own_set h.o1 (by omega),Go.Proofs.YtpgbjabifhjogaaGreat.own_set h.o2 (by omega),Go.Proofs.YtpgbjabifhjogaaGreat.own_set h.o3 (by omega),h.len,h.mail,h.few,h.bel.setCell (p:=⟨u.heap.size,5,none⟩) (Nat.le_refl _) _⟩
theorem SpM.val0 {u z:World} {q:SV} {A1 A2 A3:Option Addr} {m1 m2 m3 c1 c2 c3:Nat} {g:Nat} (h:SpM u z q A1 A2 A3 m1 m2 m3 c1 c2 c3) (hA:A1=some ⟨g,0,none⟩) (hg:u.heap.size+1≤g) (x:Int):SpM u (z.setCell ⟨g,0,none⟩ (.int .i64 x)) { q with vals:=q.vals.set 0 x } A1 A2 A3 m1 m2 m3 c1 c2 c3:=by
 subst hA
 have hs:=(h.o1.stored 0 (.int .i64 x)).1
 exact⟨(Below.heap_setCell z ⟨g,0,none⟩ _ _ (by show u.heap.size≠g;omega)).trans h.blk,by simpa [i64s,List.map_set] using hs,own_apart h.o2 h.o1 (by decide) (grown_set _ _ _ _),own_apart h.o3 h.o1 (by decide) (grown_set _ _ _ _),⟨by simpa using h.len.1,h.len.2.1,h.len.2.2⟩,h.mail,h.few,h.bel.setCell (p:=⟨g,0,none⟩) (by show u.heap.size≤g;omega) _⟩
theorem SpM.mail0 {u z:World} {q:SV} {A1 A2 A3:Option Addr} {m1 m2 m3 c1 c2 c3:Nat} {g:Nat} {b:Bool} {y:Int} {l:List Ml} (h:SpM u z q A1 A2 A3 m1 m2 m3 c1 c2 c3) (hA:A3=some ⟨g,0,none⟩) (hg:u.heap.size+1≤g) (hq:q.inb=(b,y) :: l):SpM u ((z.setCell ⟨g,0,none⟩ (.bool b)).setCell ⟨g,1,none⟩ (.int .i64 (-1))) { q with inb:=(b,-1) :: l } A1 A2 A3 m1 m2 m3 c1 c2 c3:=by
 subst hA
 have hs:=(h.o3.stored 0 (.bool b)).1
 have hs2:=(hs.stored 1 (.int .i64 (-1))).1
 have e:((mlFlat q.inb).set 0 (.bool b)).set 1 (.int .i64 (-1))=mlFlat ((b,-1) :: l):=by rw[hq];rfl
 rw[e] at hs2
 exact⟨(Below.heap_setCell _ ⟨g,1,none⟩ _ _ (by show u.heap.size≠g;omega)).trans ((Below.heap_setCell z ⟨g,0,none⟩ _ _ (by show u.heap.size≠g;omega)).trans h.blk),own_apart (own_apart h.o1 h.o3 (by decide) (grown_set _ g 0 (.bool b))) hs (by decide) (grown_set _ _ _ _),own_apart (own_apart h.o2 h.o3 (by decide) (grown_set _ g 0 (.bool b))) hs (by decide) (grown_set _ _ _ _),hs2,
  ⟨h.len.1,h.len.2.1,by have:=h.len.2.2;rw[hq] at this;exact this⟩,fun m hm=>by
   rcases List.mem_cons.1 hm with rfl | hm
   ·show -9223372036854775808≤(-1:Int)∧(-1:Int)≤9223372036854775807;decide
   ·exact h.mail m (by rw[hq];exact List.mem_cons_of_mem _ hm),h.few,(h.bel.setCell (p:=⟨g,0,none⟩) (by show u.heap.size≤g;omega) _).setCell (p:=⟨g,1,none⟩) (by show u.heap.size≤g;omega) _⟩
theorem SpM.app1 {u z:World} {q:SV} {A1 A2 A3:Option Addr} {m1 m2 m3 c1 c2 c3:Nat} {w':World} {A':Option Addr} {c':Nat} {o:Obj} (h:SpM u z q A1 A2 A3 m1 m2 m3 c1 c2 c3) (hk:m1≤599) (hn:w'.ownsRow (u.heap.size+1) 2 1 (.slice A' (m1+1) c') (m1+1) (i64s (q.vals ++ [1]))) (hg:(z.alloc o).grownBy w' (Value.slice A1 m1 c1).ownBlock) :
  SpM u (w'.setCell ⟨u.heap.size,1,none⟩ (.slice A' (m1+1) c')) { q with vals:=q.vals ++ [1] } A' A2 A3 (m1+1) m2 m3 c' c2 c3:=by
 have hz:u.heap.size<z.heap.size:=lt_of_block h.blk
 have hb1:Below u.heap.size u (z.alloc o):=h.bel.alloc (by omega) _
 have hbb:Below (u.heap.size+1) z (z.alloc o):=(Below.refl _ _).alloc (by omega) _
 have hb2:Below (u.heap.size+1) z w':=app_below hbb (h.o1.alloc o) hg (by rw[World.size_alloc];omega) (Nat.le_refl _)
 have hb3:Below u.heap.size u w':=h.bel.trans (hb2.mono (by omega))
 have hblk:=(hb2.block u.heap.size (by omega)).trans h.blk
 exact⟨by simpa using heap_setCell_same w' _ 1 _ _ (.slice A' (m1+1) c') hblk,Go.Proofs.YtpgbjabifhjogaaGreat.own_set hn (by omega),Go.Proofs.YtpgbjabifhjogaaGreat.own_set (own_apart (h.o2.alloc o) (h.o1.alloc o) (by decide) hg) (by omega),Go.Proofs.YtpgbjabifhjogaaGreat.own_set (own_apart (h.o3.alloc o) (h.o1.alloc o) (by decide) hg) (by omega),⟨by rw[List.length_append,h.len.1];rfl,h.len.2.1,h.len.2.2⟩,h.mail,⟨by omega,h.few.2.1,h.few.2.2⟩,hb3.setCell (p:=⟨u.heap.size,1,none⟩) (Nat.le_refl _) _⟩
theorem SpM.app2 {u z:World} {q:SV} {A1 A2 A3:Option Addr} {m1 m2 m3 c1 c2 c3:Nat} {w':World} {A':Option Addr} {c':Nat} {o:Obj} (h:SpM u z q A1 A2 A3 m1 m2 m3 c1 c2 c3) (hk:m2≤599) (hn:w'.ownsRow (u.heap.size+1) 4 1 (.slice A' (m2+1) c') (m2+1) (bools (q.chg ++ [true]))) (hg:(z.alloc o).grownBy w' (Value.slice A2 m2 c2).ownBlock) :
  SpM u (w'.setCell ⟨u.heap.size,2,none⟩ (.slice A' (m2+1) c')) { q with chg:=q.chg ++ [true] } A1 A' A3 m1 (m2+1) m3 c1 c' c3:=by
 have hz:u.heap.size<z.heap.size:=lt_of_block h.blk
 have hb1:Below u.heap.size u (z.alloc o):=h.bel.alloc (by omega) _
 have hbb:Below (u.heap.size+1) z (z.alloc o):=(Below.refl _ _).alloc (by omega) _
 have hb2:Below (u.heap.size+1) z w':=app_below hbb (h.o2.alloc o) hg (by rw[World.size_alloc];omega) (Nat.le_refl _)
 have hb3:Below u.heap.size u w':=h.bel.trans (hb2.mono (by omega))
 have hblk:=(hb2.block u.heap.size (by omega)).trans h.blk
 exact⟨by simpa using heap_setCell_same w' _ 2 _ _ (.slice A' (m2+1) c') hblk,Go.Proofs.YtpgbjabifhjogaaGreat.own_set (own_apart (h.o1.alloc o) (h.o2.alloc o) (by decide) hg) (by omega),Go.Proofs.YtpgbjabifhjogaaGreat.own_set hn (by omega),Go.Proofs.YtpgbjabifhjogaaGreat.own_set (own_apart (h.o3.alloc o) (h.o2.alloc o) (by decide) hg) (by omega),⟨h.len.1,by rw[List.length_append,h.len.2.1];rfl,h.len.2.2⟩,h.mail,⟨h.few.1,by omega,h.few.2.2⟩,hb3.setCell (p:=⟨u.heap.size,2,none⟩) (Nat.le_refl _) _⟩
theorem SpM.fin {u z:World} {q:SV} {A1 A2 A3:Option Addr} {m1 m2 m3 c1 c2 c3:Nat} {f:World} {r:Nat} (h:SpM u z q A1 A2 A3 m1 m2 m3 c1 c2 c3) (hf:FarS r r z f) (hr:r<u.heap.size+1):StM f q A1 A2 A3 m1 m2 m3:=
 ⟨h.len,⟨hf.rd (Rd.of_own h.o1) (own_new h.o1 (Nat.le_refl _)) hr hr,hf.rd (Rd.of_own h.o2) (own_new h.o2 (Nat.le_refl _)) hr hr,hf.rd (Rd.of_own h.o3) (own_new h.o3 (Nat.le_refl _)) hr hr⟩,h.mail,h.few⟩
def Wt (p:Prop):Prop:=p
theorem Wt.of {P:Program} {f:Func} {Q:Ending→World→Prop} {a:Act} {w:World} (h:Wt (bodyPost P f Q Exit.ret a w)):bodyPost P f Q Exit.ret a w:=h
theorem Wt.in_ {p:Prop} (h:p):Wt p:=h
def SpAny (w:World) (e:Ending) (w':World):Prop:=
 ∃(q:SV) (A1 A2 A3:Option Addr) (m1 m2 m3 c1 c2 c3:Nat),e = .returned (.agg #[.int .i64 q.st,.slice A1 m1 c1,.slice A2 m2 c2,.slice A3 m3 c3,.int .i64 q.sm,.int .i64 q.mo])∧StM w' q A1 A2 A3 m1 m2 m3∧Below w.heap.size w w'
theorem SpM.drew {u z:World} {q:SV} {A1 A2 A3:Option Addr} {m1 m2 m3 c1 c2 c3:Nat} (h:SpM u z q A1 A2 A3 m1 m2 m3 c1 c2 c3):SpM u z.drew q A1 A2 A3 m1 m2 m3 c1 c2 c3:=
 ⟨h.blk,own_below h.o1 (Below.refl z.heap.size z).drew (fun g hg=>(h.o1.lt g hg).2),own_below h.o2 (Below.refl z.heap.size z).drew (fun g hg=>(h.o2.lt g hg).2),own_below h.o3 (Below.refl z.heap.size z).drew (fun g hg=>(h.o3.lt g hg).2),h.len,h.mail,h.few,h.bel.drew⟩
def SpMid (u z:World):Prop:=∃(q:SV) (A1 A2 A3:Option Addr) (m1 m2 m3 c1 c2 c3:Nat),SpM u z q A1 A2 A3 m1 m2 m3 c1 c2 c3
theorem spoilt_any (w:World) (p:SV) (Av Ac Ai:Option Addr) (n cv cc ci c:Nat) (hc:c<9) (hn:n≤512) (h:StM w p Av Ac Ai n n n):Calls Tryz.prog 31 #[.agg #[.int .i64 p.st,.slice Av n cv,.slice Ac n cc,.slice Ai n ci,.int .i64 p.sm,.int .i64 p.mo],.int .i64 (c:Int)] w (SpAny w):=by
 obtain⟨i0,i0i,i0z,i0s,i0b⟩:=info_parts (show (Tryz.prog.info? 2).map (fun i=>(i.zero,i.size,i.bytes))=some (some (.int .i64 0),1,8) by kernel_rfl)
 obtain⟨b0,b0i,b0z,b0s,b0b⟩:=info_parts (show (Tryz.prog.info? 4).map (fun i=>(i.zero,i.size,i.bytes))=some (some (.bool false),1,1) by kernel_rfl)
 obtain⟨m0,m0i,m0z,m0s,m0b⟩:=info_parts (show (Tryz.prog.info? 76).map (fun i=>(i.zero,i.size,i.bytes))=some (some (.agg #[.bool false,.int .i64 0]),2,16) by kernel_rfl)
 obtain⟨u,hu⟩:∃u,(w.alloc (.cells #[.int .i64 p.st,.slice Av n cv,.slice Ac n cc,.slice Ai n ci,.int .i64 p.sm,.int .i64 p.mo] 33)).alloc (.cells #[.int .i64 0,.slice none 0 0,.slice none 0 0,.slice none 0 0,.int .i64 0,.int .i64 0] 33)=u:=⟨_,rfl⟩
 have HU:=hide (allocs2 hu)
 have HUe:=hide hu
 clear hu
 have hzl:w.heap.size+2≤u.heap.size:=by have:=HU.out.2.1;omega
 have K0:=hide (Below.refl u.heap.size u)
 have HIu:=hide (h.rows.next HU.out.1)
 have HVL:=hide h.len
 have HML:=hide h.mail
 clear h
 go_enter Tryz.func31,Tryz.ntmps31
 go_upto_region 2 with fail
 rw[HUe.out]
 obtain⟨a0,ha⟩:∃x,u.alloc (.cells #[.int .i64 p.st,.slice none 0 0,.slice none 0 0,.slice none 0 0,.int .i64 p.sm,.int .i64 p.mo] 33)=x:=⟨_,rfl⟩
 have hAl:Below u.heap.size u a0:=by rw[←ha];exact (Below.refl _ _).alloc (Nat.le_refl _) _
 have hW0:a0.heap[u.heap.size]?=some (.cells #[.int .i64 p.st,.slice none 0 0,.slice none 0 0,.slice none 0 0,.int .i64 p.sm,.int .i64 p.mo] 33):=by rw[←ha];exact heap_alloc_last _ _
 have sa0:u.heap.size+1≤a0.heap.size:=by rw[←ha];simp
 rw[ha,show w.heap.size+1+1=u.heap.size by have:=HU.out.2.1;omega]
 have KA0:=hide hAl
 have HWa0:=hide hW0
 clear ha hAl hW0
 have wf:a0.cell? ⟨u.heap.size,1,none⟩=some (.slice none 0 0):=cell_of_row _ _ 1 _ _ _ HWa0.out
 have s1:a0.cell? ⟨w.heap.size,1,none⟩=some (.slice Av n cv):=cell_of_row _ _ 1 _ _ _ ((KA0.out.block _ (by omega)).trans HU.out.2.2.1)
 have hz2:w.heap.size<a0.heap.size:=by have:=KA0.out.size;omega
 have hW1:u.heap.size<a0.heap.size:=by omega
 have hRX:=(HIu.out.next KA0.out).vals
 go_wp2_with (at_builtin;refine wpList_app rfl (.tmp 14) (.tmp 16) 29 rfl (u.heap.size+1) 2 i0 (.int .i64 0) 1 8 Tryz.underlying29 i0i i0z i0s i0b rfl (by decide) (.slice none 0 0) 0 [] rfl (World.ownsRow_nil _ _ _ _) a0.heap.size Av n cv (i64s p.vals) rfl (by simp[i64s,HVL.out.1]) hRX (i64s_oneQ _) (by unfold maxLen;omega) (by omega) (by omega) ?_)
 intro Ao1 co1 y1 own2 hg2 hat2
 have hO1:y1.ownsRow (u.heap.size+1) 2 1 (.slice Ao1 n co1) n (i64s p.vals):=by simpa using own2
 have hBy:Below a0.heap.size a0 y1:=(Below.refl a0.heap.size a0).grown hg2 (Nat.le_refl _) (fun x e=>by cases e)
 have szy:a0.heap.size≤y1.heap.size:=hBy.size
 have hWy:=(hBy.block u.heap.size hW1).trans HWa0.out
 clear wf s1 hz2 hRX own2 hg2 hat2
 have wf:y1.cell? ⟨u.heap.size,1,none⟩=some (.slice none 0 0):=cell_of_row _ _ 1 _ _ _ hWy
 have ff:=zf hWy 1
 have hW2:u.heap.size<y1.heap.size:=by omega
 have HBy:=hide hBy
 have HWy:=hide hWy
 have HxO1:=hide hO1
 clear hBy hWy hO1
 go_upto_region 3 with fail
 clear wf ff hW1 hW2
 obtain⟨z1,hzn⟩:∃x,y1.setCell ⟨u.heap.size,1,none⟩ (.slice Ao1 n co1)=x:=⟨_,rfl⟩
 have HWz1:=hide (set_at1 (x:=.slice Ao1 n co1) HWy.out)
 have HO1:=hide (Go.Proofs.YtpgbjabifhjogaaGreat.own_set (b:=u.heap.size) (j:=1) (u:=.slice Ao1 n co1) HxO1.out (by omega))
 have Kz1:=hide ((KA0.out.trans (HBy.out.mono KA0.out.size)).setCell (p:=⟨u.heap.size,1,none⟩) (Nat.le_refl _) (.slice Ao1 n co1))
 have hsz:=World.size_setCell y1 ⟨u.heap.size,1,none⟩ (.slice Ao1 n co1)
 rw[hzn] at HWz1 HO1 Kz1 hsz ⊢
 clear hzn HBy HWy HxO1
 have hzs:a0.heap.size≤z1.heap.size:=by omega
 clear hsz
 have wf:z1.cell? ⟨u.heap.size,2,none⟩=some (.slice none 0 0):=cell_of_row _ _ 2 _ _ _ HWz1.out
 have s2:z1.cell? ⟨w.heap.size,2,none⟩=some (.slice Ac n cc):=cell_of_row _ _ 2 _ _ _ ((Kz1.out.block _ (by omega)).trans HU.out.2.2.1)
 have hz2:w.heap.size<z1.heap.size:=by have:=Kz1.out.size;omega
 have hW1:u.heap.size<z1.heap.size:=by omega
 have hRX:=(HIu.out.next Kz1.out).chg
 go_wp2_with (at_builtin;refine wpList_app rfl (.tmp 20) (.tmp 22) 30 rfl (u.heap.size+1) 4 b0 (.bool false) 1 1 Tryz.underlying30 b0i b0z b0s b0b rfl (by decide) (.slice none 0 0) 0 [] rfl (World.ownsRow_nil _ _ _ _) z1.heap.size Ac n cc (bools p.chg) rfl (by simp[bools,HVL.out.2.1]) hRX (bools_oneQ _) (by unfold maxLen;omega) (by omega) (by omega) ?_)
 intro Ao2 co2 y2 own2 hg2 hat2
 have hO2:y2.ownsRow (u.heap.size+1) 4 1 (.slice Ao2 n co2) n (bools p.chg):=by simpa using own2
 have hBy:Below z1.heap.size z1 y2:=(Below.refl z1.heap.size z1).grown hg2 (Nat.le_refl _) (fun x e=>by cases e)
 have szy:z1.heap.size≤y2.heap.size:=hBy.size
 have hWy:=(hBy.block u.heap.size hW1).trans HWz1.out
 clear wf s2 hz2 hRX own2 hg2 hat2
 have wf:y2.cell? ⟨u.heap.size,2,none⟩=some (.slice none 0 0):=cell_of_row _ _ 2 _ _ _ hWy
 have ff:=zf hWy 2
 have hW2:u.heap.size<y2.heap.size:=by omega
 have HBy:=hide hBy
 have HWy:=hide hWy
 have HxO2:=hide hO2
 clear hBy hWy hO2
 go_upto_region 4 with fail
 clear wf ff hW1 hW2
 obtain⟨z2,hzn⟩:∃x,y2.setCell ⟨u.heap.size,2,none⟩ (.slice Ao2 n co2)=x:=⟨_,rfl⟩
 have HWz2:=hide (set_at2 (x:=.slice Ao2 n co2) HWy.out)
 have HO2:=hide (Go.Proofs.YtpgbjabifhjogaaGreat.own_set (b:=u.heap.size) (j:=2) (u:=.slice Ao2 n co2) HxO2.out (by omega))
 have HO1n:=hide (Go.Proofs.YtpgbjabifhjogaaGreat.own_set (b:=u.heap.size) (j:=2) (u:=.slice Ao2 n co2) (own_below HO1.out HBy.out (fun g hg=>(HO1.out.lt g hg).2)) (by omega))
 have Kz2:=hide ((Kz1.out.trans (HBy.out.mono Kz1.out.size)).setCell (p:=⟨u.heap.size,2,none⟩) (Nat.le_refl _) (.slice Ao2 n co2))
 have hsz:=World.size_setCell y2 ⟨u.heap.size,2,none⟩ (.slice Ao2 n co2)
 rw[hzn] at HWz2 HO2 Kz2 hsz ⊢
 rw[hzn] at HO1n
 clear hzn HBy HWy HxO2
 clear HO1
 obtain⟨-,HO1⟩:True∧_:=⟨trivial,HO1n⟩
 clear HO1n
 have hzs:z1.heap.size≤z2.heap.size:=by omega
 clear hsz
 have wf:z2.cell? ⟨u.heap.size,3,none⟩=some (.slice none 0 0):=cell_of_row _ _ 3 _ _ _ HWz2.out
 have s3:z2.cell? ⟨w.heap.size,3,none⟩=some (.slice Ai n ci):=cell_of_row _ _ 3 _ _ _ ((Kz2.out.block _ (by omega)).trans HU.out.2.2.1)
 have hz2:w.heap.size<z2.heap.size:=by have:=Kz2.out.size;omega
 have hW1:u.heap.size<z2.heap.size:=by omega
 have hRX:=(HIu.out.next Kz2.out).inb
 go_wp2_with (at_builtin;refine wpList_app rfl (.tmp 26) (.tmp 28) 31 rfl (u.heap.size+1) 76 m0 (.agg #[.bool false,.int .i64 0]) 2 16 Tryz.underlying31 m0i m0z m0s m0b rfl (by decide) (.slice none 0 0) 0 [] rfl (World.ownsRow_nil _ _ _ _) z2.heap.size Ai n ci (mlFlat p.inb) rfl (by rw[mlFlat_len,HVL.out.2.2]) hRX (mlFlat_one _) (by unfold maxLen;omega) (by omega) (by omega) ?_)
 intro Ao3 co3 y3 own2 hg2 hat2
 have hO3:y3.ownsRow (u.heap.size+1) 76 2 (.slice Ao3 n co3) n (mlFlat p.inb):=by simpa using own2
 have hBy:Below z2.heap.size z2 y3:=(Below.refl z2.heap.size z2).grown hg2 (Nat.le_refl _) (fun x e=>by cases e)
 have szy:z2.heap.size≤y3.heap.size:=hBy.size
 have hWy:=(hBy.block u.heap.size hW1).trans HWz2.out
 clear wf s3 hz2 hRX own2 hg2 hat2
 have wf:y3.cell? ⟨u.heap.size,3,none⟩=some (.slice none 0 0):=cell_of_row _ _ 3 _ _ _ hWy
 have ff:=zf hWy 3
 have hW2:u.heap.size<y3.heap.size:=by omega
 have HBy:=hide hBy
 have HWy:=hide hWy
 have HxO3:=hide hO3
 clear hBy hWy hO3
 go_upto_block 0 with fail
 clear wf ff hW1 hW2
 obtain⟨z3,hzn⟩:∃x,y3.setCell ⟨u.heap.size,3,none⟩ (.slice Ao3 n co3)=x:=⟨_,rfl⟩
 have HWz3:=hide (set_at3 (x:=.slice Ao3 n co3) HWy.out)
 have HO3:=hide (Go.Proofs.YtpgbjabifhjogaaGreat.own_set (b:=u.heap.size) (j:=3) (u:=.slice Ao3 n co3) HxO3.out (by omega))
 have HO1n:=hide (Go.Proofs.YtpgbjabifhjogaaGreat.own_set (b:=u.heap.size) (j:=3) (u:=.slice Ao3 n co3) (own_below HO1.out HBy.out (fun g hg=>(HO1.out.lt g hg).2)) (by omega))
 have HO2n:=hide (Go.Proofs.YtpgbjabifhjogaaGreat.own_set (b:=u.heap.size) (j:=3) (u:=.slice Ao3 n co3) (own_below HO2.out HBy.out (fun g hg=>(HO2.out.lt g hg).2)) (by omega))
 have Kz3:=hide ((Kz2.out.trans (HBy.out.mono Kz2.out.size)).setCell (p:=⟨u.heap.size,3,none⟩) (Nat.le_refl _) (.slice Ao3 n co3))
 have hsz:=World.size_setCell y3 ⟨u.heap.size,3,none⟩ (.slice Ao3 n co3)
 rw[hzn] at HWz3 HO3 Kz3 hsz ⊢
 rw[hzn] at HO1n
 rw[hzn] at HO2n
 clear hzn HBy HWy HxO3
 clear HO1
 obtain⟨-,HO1⟩:True∧_:=⟨trivial,HO1n⟩
 clear HO1n
 clear HO2
 obtain⟨-,HO2⟩:True∧_:=⟨trivial,HO2n⟩
 clear HO2n
 have hzs:z2.heap.size≤z3.heap.size:=by omega
 clear hsz
 have HM:Hid (SpM u z3 p Ao1 Ao2 Ao3 n n n co1 co2 co3):=hide ⟨HWz3.out,HO1.out,HO2.out,HO3.out,HVL.out,HML.out,⟨by omega,by omega,by omega⟩,Kz3.out⟩
 clear HO1 HO2 HO3 HWa0 HWz1 HWz2 HWz3 Kz1 Kz2 HVL HML HIu
 have hT3:u.heap.size<z3.heap.size:=lt_of_block HM.out.blk
 go_cut [] (fun wc=>Hid (SpMid u wc))
 case first=>
  rcases (show c=0∨c=1∨c=2∨c=3∨c=4∨c=5∨c=6∨c=7∨c=8 by omega) with rfl | rfl | rfl | rfl | rfl | rfl | rfl | rfl | rfl
  ·have t0:z3.cell? ⟨u.heap.size,0,none⟩=some (.int .i64 p.st):=cell_of_row _ _ 0 _ _ _ HM.out.blk
   have f0:=zf HM.out.blk 0
   go_wp2
   go_meet
   case rel=>exact hide ⟨_,_,_,_,_,_,_,_,_,_,HM.out.st 2000⟩
  ·have t0:z3.cell? ⟨u.heap.size,0,none⟩=some (.int .i64 p.st):=cell_of_row _ _ 0 _ _ _ HM.out.blk
   have f0:=zf HM.out.blk 0
   go_wp2
   go_meet
   case rel=>exact hide ⟨_,_,_,_,_,_,_,_,_,_,HM.out.st (-1)⟩
  ·have t1:z3.cell? ⟨u.heap.size,1,none⟩=some (.slice Ao1 n co1):=cell_of_row _ _ 1 _ _ _ HM.out.blk
   have f1:=zf HM.out.blk 1
   have hlit:Rd (z3.alloc (.cells #[.int .i64 1] 2)) (z3.alloc (.cells #[.int .i64 1] 2)).heap.size (some ⟨z3.heap.size,0,none⟩) [.int .i64 1]:=fun _=>⟨z3.heap.size,0,rfl,by simp,fun jj v hv=>by
     rcases jj with _ | jj <;> simp at hv
     subst hv
     exact cell_of_row _ _ 0 _ _ _ (heap_alloc_last _ _)⟩
   have hown:=HM.out.o1.alloc (.cells #[.int .i64 1] 2)
   have hsz:(z3.alloc (.cells #[.int .i64 1] 2)).heap.size=z3.heap.size+1:=World.size_alloc _ _
   go_wp2_with (at_builtin;refine wpList_app rfl (.tmp 41) (.tmp 42) 29 rfl (u.heap.size+1) 2 i0 (.int .i64 0) 1 8 Tryz.underlying29 i0i i0z i0s i0b rfl (by decide) (.slice Ao1 n co1) n (i64s p.vals) rfl hown _ _ 1 _ [.int .i64 1] rfl rfl hlit (by intro v hv;simp at hv;subst hv;rfl) (by unfold maxLen;omega) (by omega) (by omega) ?_)
   intro A' c' y own2 hg2 hat2
   have hb2:Below (u.heap.size+1) z3 y:=app_below ((Below.refl _ _).alloc (by omega) _) hown hg2 (by omega) (Nat.le_refl _)
   have hblk:=(hb2.block u.heap.size (by omega)).trans HM.out.blk
   have hTy:u.heap.size<y.heap.size:=lt_of_block hblk
   have HF:=hide (HM.out.app1 (by omega) (by simpa [i64s] using own2) hg2)
   clear t1 f1 hlit hown hsz own2 hg2 hat2 hb2
   have t1:y.cell? ⟨u.heap.size,1,none⟩=some (.slice Ao1 n co1):=cell_of_row _ _ 1 _ _ _ hblk
   have f1:=zf hblk 1
   clear hblk
   go_wp2
   go_meet
   case rel=>exact hide ⟨_,_,_,_,_,_,_,_,_,_,HF.out⟩
  ·have t2:z3.cell? ⟨u.heap.size,2,none⟩=some (.slice Ao2 n co2):=cell_of_row _ _ 2 _ _ _ HM.out.blk
   have f2:=zf HM.out.blk 2
   have hlit:Rd (z3.alloc (.cells #[.bool true] 4)) (z3.alloc (.cells #[.bool true] 4)).heap.size (some ⟨z3.heap.size,0,none⟩) [.bool true]:=fun _=>⟨z3.heap.size,0,rfl,by simp,fun jj v hv=>by
     rcases jj with _ | jj <;> simp at hv
     subst hv
     exact cell_of_row _ _ 0 _ _ _ (heap_alloc_last _ _)⟩
   have hown:=HM.out.o2.alloc (.cells #[.bool true] 4)
   have hsz:(z3.alloc (.cells #[.bool true] 4)).heap.size=z3.heap.size+1:=World.size_alloc _ _
   go_wp2_with (at_builtin;refine wpList_app rfl (.tmp 48) (.tmp 49) 30 rfl (u.heap.size+1) 4 b0 (.bool false) 1 1 Tryz.underlying30 b0i b0z b0s b0b rfl (by decide) (.slice Ao2 n co2) n (bools p.chg) rfl hown _ _ 1 _ [.bool true] rfl rfl hlit (by intro v hv;simp at hv;subst hv;rfl) (by unfold maxLen;omega) (by omega) (by omega) ?_)
   intro A' c' y own2 hg2 hat2
   have hb2:Below (u.heap.size+1) z3 y:=app_below ((Below.refl _ _).alloc (by omega) _) hown hg2 (by omega) (Nat.le_refl _)
   have hblk:=(hb2.block u.heap.size (by omega)).trans HM.out.blk
   have hTy:u.heap.size<y.heap.size:=lt_of_block hblk
   have HF:=hide (HM.out.app2 (by omega) (by simpa [bools] using own2) hg2)
   clear t2 f2 hlit hown hsz own2 hg2 hat2 hb2
   have t2:y.cell? ⟨u.heap.size,2,none⟩=some (.slice Ao2 n co2):=cell_of_row _ _ 2 _ _ _ hblk
   have f2:=zf hblk 2
   clear hblk
   go_wp2
   go_meet
   case rel=>exact hide ⟨_,_,_,_,_,_,_,_,_,_,HF.out⟩
  ·have t4:z3.cell? ⟨u.heap.size,4,none⟩=some (.int .i64 p.sm):=cell_of_row _ _ 4 _ _ _ HM.out.blk
   have f4:=zf HM.out.blk 4
   go_wp2
   go_meet
   case rel=>exact hide ⟨_,_,_,_,_,_,_,_,_,_,HM.out.sm 4611686018427387905⟩
  ·have t5:z3.cell? ⟨u.heap.size,5,none⟩=some (.int .i64 p.mo):=cell_of_row _ _ 5 _ _ _ HM.out.blk
   have f5:=zf HM.out.blk 5
   go_wp2
   go_meet
   case rel=>exact hide ⟨_,_,_,_,_,_,_,_,_,_,HM.out.mo (-1)⟩
  ·have t0:z3.cell? ⟨u.heap.size,0,none⟩=some (.int .i64 p.st):=cell_of_row _ _ 0 _ _ _ HM.out.blk
   have t4:z3.cell? ⟨u.heap.size,4,none⟩=some (.int .i64 p.sm):=cell_of_row _ _ 4 _ _ _ HM.out.blk
   have zq:=zf HM.out.blk;have f0:=zq 0;have f4:=zq 4;clear zq
   go_wp2
   go_meet
   case rel=>exact hide ⟨_,_,_,_,_,_,_,_,_,_,(HM.out.st 1999).sm 77⟩
  ·go_wp2
   go_meet
   case rel=>exact hide ⟨_,_,_,_,_,_,_,_,_,_,HM.out⟩
  go_wp2
  go_meet
  case rel=>exact hide ⟨_,_,_,_,_,_,_,_,_,_,HM.out⟩
 case rest=>
  obtain⟨q,A1,A2,A3,m1,m2,m3,c1,c2,c3,hm⟩:=hcut.out
  have HN:=hide hm
  clear hm hcut HM Kz3
  by_cases h1:m1=0
  ·have i1:¬(0:Int)<(m1:Int):=by omega
   clear h1
   obtain⟨t0,t1,t2,t3,t4,t5⟩:=zr6 HN.out.blk
   have hT:u.heap.size<wc.heap.size:=lt_of_block HN.out.blk
   have hR0:=(HN.out.bel.block (w.heap.size+1) (by omega)).trans HU.out.2.2.2
   obtain⟨q0,q1,q2,q3,q4,q5⟩:=zr6 hR0
   have zq:=zf hR0;have f0:=zq 0;have f1:=zq 1;have f2:=zq 2;have f3:=zq 3;have f4:=zq 4;have f5:=zq 5;clear zq
   have HR0:=hide hR0
   clear hR0
   have hRz:w.heap.size+1<wc.heap.size:=by omega
   go_wp2_with (with_reducible refine Wt.of ?_)
   refine Wt.in_ ?_
   obtain⟨wf,hwf⟩:∃x,(((((wc.setCell ⟨w.heap.size+1,0,none⟩ (.int .i64 q.st)).setCell ⟨w.heap.size+1,1,none⟩ (.slice A1 m1 c1)).setCell ⟨w.heap.size+1,2,none⟩ (.slice A2 m2 c2)).setCell ⟨w.heap.size+1,3,none⟩ (.slice A3 m3 c3)).setCell ⟨w.heap.size+1,4,none⟩ (.int .i64 q.sm)).setCell ⟨w.heap.size+1,5,none⟩ (.int .i64 q.mo)=x:=⟨_,rfl⟩
   have hF:=far6 wc (w.heap.size+1) (w.heap.size+1) (.int .i64 q.st) (.slice A1 m1 c1) (.slice A2 m2 c2) (.slice A3 m3 c3) (.int .i64 q.sm) (.int .i64 q.mo) HR0.out
   rw[hwf] at hF ⊢
   obtain⟨FF,HY⟩:=hF
   obtain⟨y0,y1,y2,y3,y4,y5⟩:=cells6 HY
   clear hwf HY
   exact bodyPost_ret (v:=.agg #[.int .i64 q.st,.slice A1 m1 c1,.slice A2 m2 c2,.slice A3 m3 c3,.int .i64 q.sm,.int .i64 q.mo]) (by simp[results,Tryz.results31,go_sem,y0,y1,y2,y3,y4,y5]) rfl ⟨q,A1,A2,A3,m1,m2,m3,c1,c2,c3,rfl,SpM.fin (u:=u) HN.out FF (by omega),HU.out.1.trans ((HN.out.bel.mono (by omega)).trans (FF.below (by omega) (by omega)))⟩
  by_cases h3:m3=0
  ·have i1:(0:Int)<(m1:Int):=by omega
   have i3:¬(0:Int)<(m3:Int):=by omega
   clear h1 h3
   obtain⟨t0,t1,t2,t3,t4,t5⟩:=zr6 HN.out.blk
   have hT:u.heap.size<wc.heap.size:=lt_of_block HN.out.blk
   have hR0:=(HN.out.bel.block (w.heap.size+1) (by omega)).trans HU.out.2.2.2
   obtain⟨q0,q1,q2,q3,q4,q5⟩:=zr6 hR0
   have zq:=zf hR0;have f0:=zq 0;have f1:=zq 1;have f2:=zq 2;have f3:=zq 3;have f4:=zq 4;have f5:=zq 5;clear zq
   have HR0:=hide hR0
   clear hR0
   have hRz:w.heap.size+1<wc.heap.size:=by omega
   go_wp2_with (with_reducible refine Wt.of ?_)
   refine Wt.in_ ?_
   obtain⟨wf,hwf⟩:∃x,(((((wc.setCell ⟨w.heap.size+1,0,none⟩ (.int .i64 q.st)).setCell ⟨w.heap.size+1,1,none⟩ (.slice A1 m1 c1)).setCell ⟨w.heap.size+1,2,none⟩ (.slice A2 m2 c2)).setCell ⟨w.heap.size+1,3,none⟩ (.slice A3 m3 c3)).setCell ⟨w.heap.size+1,4,none⟩ (.int .i64 q.sm)).setCell ⟨w.heap.size+1,5,none⟩ (.int .i64 q.mo)=x:=⟨_,rfl⟩
   have hF:=far6 wc (w.heap.size+1) (w.heap.size+1) (.int .i64 q.st) (.slice A1 m1 c1) (.slice A2 m2 c2) (.slice A3 m3 c3) (.int .i64 q.sm) (.int .i64 q.mo) HR0.out
   rw[hwf] at hF ⊢
   obtain⟨FF,HY⟩:=hF
   obtain⟨y0,y1,y2,y3,y4,y5⟩:=cells6 HY
   clear hwf HY
   exact bodyPost_ret (v:=.agg #[.int .i64 q.st,.slice A1 m1 c1,.slice A2 m2 c2,.slice A3 m3 c3,.int .i64 q.sm,.int .i64 q.mo]) (by simp[results,Tryz.results31,go_sem,y0,y1,y2,y3,y4,y5]) rfl ⟨q,A1,A2,A3,m1,m2,m3,c1,c2,c3,rfl,SpM.fin (u:=u) HN.out FF (by omega),HU.out.1.trans ((HN.out.bel.mono (by omega)).trans (FF.below (by omega) (by omega)))⟩
  rcases (show c=7∨c=8∨c≠7∧c≠8 by omega) with rfl | rfl | hc78
  ·have i1:(0:Int)<(m1:Int):=by omega
   have i3:(0:Int)<(m3:Int):=by omega
   obtain⟨gv,rfl,hg1,hg2⟩:=own_adrQ HN.out.o1 (by omega)
   obtain⟨v0,hv0⟩:∃y,(i64s q.vals)[0]?=some y:=⟨_,List.getElem?_eq_getElem (by have h9:=HN.out.len.1;simp[i64s];omega)⟩
   have e0:wc.cell? ⟨gv,0,none⟩=some v0:=(HN.out.o1.cellAt 0 (by omega)).trans hv0
   have fe:wc.frozen? ⟨gv,0,none⟩=false:=HN.out.o1.frozenAt 0
   obtain⟨t0,t1,t2,t3,t4,t5⟩:=zr6 HN.out.blk
   have hT:u.heap.size<wc.heap.size:=lt_of_block HN.out.blk
   go_upto_region 23 with fail
   have hN2:=HN.out.val0 rfl hg1 4611686018427387905
   obtain⟨z7,hz7⟩:∃x,wc.setCell ⟨gv,0,none⟩ (.int .i64 4611686018427387905)=x:=⟨_,rfl⟩
   rw[hz7] at hN2 ⊢
   clear hz7 e0 fe t0 t1 t2 t3 t4 t5 hT hv0 HN hg2
   have HN:=hide hN2
   clear hN2
   obtain⟨t0,t1,t2,t3,t4,t5⟩:=zr6 HN.out.blk
   have hT:u.heap.size<z7.heap.size:=lt_of_block HN.out.blk
   have hR0:=(HN.out.bel.block (w.heap.size+1) (by omega)).trans HU.out.2.2.2
   obtain⟨q0,q1,q2,q3,q4,q5⟩:=zr6 hR0
   have zq:=zf hR0;have f0:=zq 0;have f1:=zq 1;have f2:=zq 2;have f3:=zq 3;have f4:=zq 4;have f5:=zq 5;clear zq
   have HR0:=hide hR0
   clear hR0
   have hRz:w.heap.size+1<z7.heap.size:=by omega
   go_wp2_with (with_reducible refine Wt.of ?_)
   refine Wt.in_ ?_
   obtain⟨wf,hwf⟩:∃x,(((((z7.setCell ⟨w.heap.size+1,0,none⟩ (.int .i64 q.st)).setCell ⟨w.heap.size+1,1,none⟩ (.slice (some ⟨gv,0,none⟩) m1 c1)).setCell ⟨w.heap.size+1,2,none⟩ (.slice A2 m2 c2)).setCell ⟨w.heap.size+1,3,none⟩ (.slice A3 m3 c3)).setCell ⟨w.heap.size+1,4,none⟩ (.int .i64 q.sm)).setCell ⟨w.heap.size+1,5,none⟩ (.int .i64 q.mo)=x:=⟨_,rfl⟩
   have hF:=far6 z7 (w.heap.size+1) (w.heap.size+1) (.int .i64 q.st) (.slice (some ⟨gv,0,none⟩) m1 c1) (.slice A2 m2 c2) (.slice A3 m3 c3) (.int .i64 q.sm) (.int .i64 q.mo) HR0.out
   rw[hwf] at hF ⊢
   obtain⟨FF,HY⟩:=hF
   obtain⟨y0,y1,y2,y3,y4,y5⟩:=cells6 HY
   clear hwf HY
   exact bodyPost_ret (v:=.agg #[.int .i64 q.st,.slice (some ⟨gv,0,none⟩) m1 c1,.slice A2 m2 c2,.slice A3 m3 c3,.int .i64 q.sm,.int .i64 q.mo]) (by simp[results,Tryz.results31,go_sem,y0,y1,y2,y3,y4,y5]) rfl ⟨{ q with vals:=q.vals.set 0 4611686018427387905 },_,A2,A3,m1,m2,m3,c1,c2,c3,rfl,SpM.fin (u:=u) HN.out FF (by omega),HU.out.1.trans ((HN.out.bel.mono (by omega)).trans (FF.below (by omega) (by omega)))⟩
  ·have i1:(0:Int)<(m1:Int):=by omega
   have i3:(0:Int)<(m3:Int):=by omega
   obtain⟨gv,rfl,hg1,hg2⟩:=own_adrQ HN.out.o1 (by omega)
   obtain⟨gi,rfl,hg3,hg4⟩:∃g,A3=some ⟨g,0,none⟩∧u.heap.size+1≤g∧g<wc.heap.size:=by
    obtain⟨g,e1,e2,e3,_⟩:=own_addr HN.out.o3 (by omega)
    exact⟨g,e1,e2,e3⟩
   obtain⟨b,y,l,hqi⟩:∃(b:Bool) (y:Int) (l:List Ml),q.inb=(b,y) :: l:=by
    have h9:=HN.out.len.2.2
    cases hc9:q.inb with
    | nil=>rw[hc9] at h9;simp at h9;omega
    | cons a l=>exact⟨a.1,a.2,l,rfl⟩
   have e0:wc.cell? ⟨gi,0,none⟩=some (.bool b):=(HN.out.o3.cellAt 0 (by omega)).trans (by rw[hqi];rfl)
   have e1:wc.cell? ⟨gi,1,none⟩=some (.int .i64 y):=(HN.out.o3.cellAt 1 (by omega)).trans (by rw[hqi];rfl)
   have fe0:wc.frozen? ⟨gi,0,none⟩=false:=HN.out.o3.frozenAt 0
   have fe1:wc.frozen? ⟨gi,1,none⟩=false:=HN.out.o3.frozenAt 1
   obtain⟨t0,t1,t2,t3,t4,t5⟩:=zr6 HN.out.blk
   have hT:u.heap.size<wc.heap.size:=lt_of_block HN.out.blk
   have HQI:=hide hqi
   clear hqi
   go_upto_region 24 with fail
   refine wpL_region (S:=Kept wc) [9] (by kernel_rfl) (Kept.drew wc) (fun hS0=>?_)
   refine tla 0 93 ?_
   refine tla 1 94 ?_
   refine tla 2 95 ?_
   refine tla 3 96 ?_
   refine tla 4 97 ?_
   refine tla 5 98 ?_
   refine tla 6 99 ?_
   refine tla 7 100 ?_
   refine tla 8 101 ?_
   refine xl 9 fun K hK=>?_
   go_wp2_with fail
   refine hK.out _ _ ?_
   clear hK K
   try simp only[zqd,zqe,zqf]
   refine wpAnyL_done (by kernel_rfl) ?_ _
   have hN2:=(HN.out.mail0 rfl hg3 HQI.out).drew
   obtain⟨z8,hz8⟩:∃x,((wc.setCell ⟨gi,0,none⟩ (.bool b)).setCell ⟨gi,1,none⟩ (.int .i64 (-1))).drew=x:=⟨_,rfl⟩
   rw[hz8] at hN2 ⊢
   clear hz8 e0 e1 fe0 fe1 t0 t1 t2 t3 t4 t5 hT hS0 HN
   have HN:=hide hN2
   clear hN2
   obtain⟨v0,hv0⟩:∃y,(i64s q.vals)[0]?=some y:=⟨_,List.getElem?_eq_getElem (by have h9:=HN.out.len.1;simp[i64s];simp at h9;omega)⟩
   have e0:z8.cell? ⟨gv,0,none⟩=some v0:=(HN.out.o1.cellAt 0 (by omega)).trans hv0
   have fe:z8.frozen? ⟨gv,0,none⟩=false:=HN.out.o1.frozenAt 0
   obtain⟨t0,t1,t2,t3,t4,t5⟩:=zr6 HN.out.blk
   have hT:u.heap.size<z8.heap.size:=lt_of_block HN.out.blk
   go_upto_region 26 with fail
   have hN2:=HN.out.val0 rfl hg1 4611686018427387904
   obtain⟨z9,hz9⟩:∃x,z8.setCell ⟨gv,0,none⟩ (.int .i64 4611686018427387904)=x:=⟨_,rfl⟩
   rw[hz9] at hN2 ⊢
   clear hz9 e0 fe t0 t1 t2 t3 t4 t5 hT hv0 HN hg2
   have HN:=hide hN2
   clear hN2
   obtain⟨t0,t1,t2,t3,t4,t5⟩:=zr6 HN.out.blk
   have hT:u.heap.size<z9.heap.size:=lt_of_block HN.out.blk
   have hR0:=(HN.out.bel.block (w.heap.size+1) (by omega)).trans HU.out.2.2.2
   obtain⟨q0,q1,q2,q3,q4,q5⟩:=zr6 hR0
   have zq:=zf hR0;have f0:=zq 0;have f1:=zq 1;have f2:=zq 2;have f3:=zq 3;have f4:=zq 4;have f5:=zq 5;clear zq
   have HR0:=hide hR0
   clear hR0
   have hRz:w.heap.size+1<z9.heap.size:=by omega
   go_wp2_with (with_reducible refine Wt.of ?_)
   refine Wt.in_ ?_
   obtain⟨wf,hwf⟩:∃x,(((((z9.setCell ⟨w.heap.size+1,0,none⟩ (.int .i64 q.st)).setCell ⟨w.heap.size+1,1,none⟩ (.slice (some ⟨gv,0,none⟩) m1 c1)).setCell ⟨w.heap.size+1,2,none⟩ (.slice A2 m2 c2)).setCell ⟨w.heap.size+1,3,none⟩ (.slice (some ⟨gi,0,none⟩) m3 c3)).setCell ⟨w.heap.size+1,4,none⟩ (.int .i64 q.sm)).setCell ⟨w.heap.size+1,5,none⟩ (.int .i64 q.mo)=x:=⟨_,rfl⟩
   have hF:=far6 z9 (w.heap.size+1) (w.heap.size+1) (.int .i64 q.st) (.slice (some ⟨gv,0,none⟩) m1 c1) (.slice A2 m2 c2) (.slice (some ⟨gi,0,none⟩) m3 c3) (.int .i64 q.sm) (.int .i64 q.mo) HR0.out
   rw[hwf] at hF ⊢
   obtain⟨FF,HY⟩:=hF
   obtain⟨y0,y1,y2,y3,y4,y5⟩:=cells6 HY
   clear hwf HY
   exact bodyPost_ret (v:=.agg #[.int .i64 q.st,.slice (some ⟨gv,0,none⟩) m1 c1,.slice A2 m2 c2,.slice (some ⟨gi,0,none⟩) m3 c3,.int .i64 q.sm,.int .i64 q.mo]) (by simp[results,Tryz.results31,go_sem,y0,y1,y2,y3,y4,y5]) rfl ⟨{ q with vals:=q.vals.set 0 4611686018427387904,inb:=(b,-1) :: l },_,A2,_,m1,m2,m3,c1,c2,c3,rfl,SpM.fin (u:=u) HN.out FF (by omega),HU.out.1.trans ((HN.out.bel.mono (by omega)).trans (FF.below (by omega) (by omega)))⟩
  have i1:(0:Int)<(m1:Int):=by omega
  have i3:(0:Int)<(m3:Int):=by omega
  have i7:((c:Int) == 7)=false:=by rw[beq_eq_false_iff_ne];omega
  have i8:((c:Int) == 8)=false:=by rw[beq_eq_false_iff_ne];omega
  clear h1 h3 hc78
  obtain⟨t0,t1,t2,t3,t4,t5⟩:=zr6 HN.out.blk
  have hT:u.heap.size<wc.heap.size:=lt_of_block HN.out.blk
  have hR0:=(HN.out.bel.block (w.heap.size+1) (by omega)).trans HU.out.2.2.2
  obtain⟨q0,q1,q2,q3,q4,q5⟩:=zr6 hR0
  have zq:=zf hR0;have f0:=zq 0;have f1:=zq 1;have f2:=zq 2;have f3:=zq 3;have f4:=zq 4;have f5:=zq 5;clear zq
  have HR0:=hide hR0
  clear hR0
  have hRz:w.heap.size+1<wc.heap.size:=by omega
  go_wp2_with (with_reducible refine Wt.of ?_)
  refine Wt.in_ ?_
  obtain⟨wf,hwf⟩:∃x,(((((wc.setCell ⟨w.heap.size+1,0,none⟩ (.int .i64 q.st)).setCell ⟨w.heap.size+1,1,none⟩ (.slice A1 m1 c1)).setCell ⟨w.heap.size+1,2,none⟩ (.slice A2 m2 c2)).setCell ⟨w.heap.size+1,3,none⟩ (.slice A3 m3 c3)).setCell ⟨w.heap.size+1,4,none⟩ (.int .i64 q.sm)).setCell ⟨w.heap.size+1,5,none⟩ (.int .i64 q.mo)=x:=⟨_,rfl⟩
  have hF:=far6 wc (w.heap.size+1) (w.heap.size+1) (.int .i64 q.st) (.slice A1 m1 c1) (.slice A2 m2 c2) (.slice A3 m3 c3) (.int .i64 q.sm) (.int .i64 q.mo) HR0.out
  rw[hwf] at hF ⊢
  obtain⟨FF,HY⟩:=hF
  obtain⟨y0,y1,y2,y3,y4,y5⟩:=cells6 HY
  clear hwf HY
  exact bodyPost_ret (v:=.agg #[.int .i64 q.st,.slice A1 m1 c1,.slice A2 m2 c2,.slice A3 m3 c3,.int .i64 q.sm,.int .i64 q.mo]) (by simp[results,Tryz.results31,go_sem,y0,y1,y2,y3,y4,y5]) rfl ⟨q,A1,A2,A3,m1,m2,m3,c1,c2,c3,rfl,SpM.fin (u:=u) HN.out FF (by omega),HU.out.1.trans ((HN.out.bel.mono (by omega)).trans (FF.below (by omega) (by omega)))⟩
end Go.Proofs.YtpgbjabifhjogaaGreat
