/- Lemmas: Sgt, Tkp, Rwh. -/
import Derived.Test.YtpojjmbalgmcoaaGreatProg
import Derived.ScopeJumps
import Derived.Lib.Hide
import Derived.WalkSpells
import Derived.WalkLawsBesides
import Derived.WalkMore
import Derived.IntWalk
import Derived.Deep.DeepCutAuto
import Derived.Deep.CutBlock
import Derived.Test.YtpojjmbalgmcoaaGreatStWw7
import Derived.Test.YtpojjmbalgmcoaaGreatStWw16
set_option linter.unusedVariables false
set_option linter.unusedSimpArgs false
set_option maxRecDepth 100000
set_option maxHeartbeats 16000000
namespace Go.Proofs.YtpojjmbalgmcoaaGreat
open Go.RowKit
open rz (Rz nx)
def GetPost (w:World) (p:SPart) (code:Int) (e:Ending) (w':World):Prop:=∃(no nv nc ni:Nat) (Ao:Option Addr) (co:Nat) (Av:Option Addr) (cv:Nat) (Ac:Option Addr) (cc:Nat) (Ai:Option Addr) (ci:Nat),SLen p no nv nc ni∧no≤65535 ∧
 e = .returned (.tuple #[.agg #[.int .i64 p.step,.slice Ao no co,.slice Av nv cv,.slice Ac nc cc,.slice Ai ni ci],.int .i64 code])∧SIn w' p Ao Av Ac Ai∧Below w.heap.size w w'
def NewAA (B:Nat) (A:Option Addr):Prop:=∀b off,A=some ⟨b,off,none⟩→B≤b
theorem own_newA {w:World} {base B:Nat} {e:TypeId} {size n c:Nat} {A:Option Addr} {xs:List Value} (h:w.ownsRow base e size (.slice A n c) n xs) (hB:B≤base):NewAA B A:=fun b off he=>by
 subst he
 rcases h.2 with ⟨hv,_⟩ | ⟨g,cap,cur,hv,hb,_⟩
 ·injection hv with h1
  cases h1
 injection hv with h1
 injection h1 with h1
 injection h1 with h1
 subst h1
 exact Nat.le_trans hB hb
def GetPostN (w:World) (p:SPart) (code:Int) (e:Ending) (w':World):Prop:=∃(no nv nc ni:Nat) (Ao:Option Addr) (co:Nat) (Av:Option Addr) (cv:Nat) (Ac:Option Addr) (cc:Nat) (Ai:Option Addr) (ci:Nat),SLen p no nv nc ni∧no≤65535 ∧
 e = .returned (.tuple #[.agg #[.int .i64 p.step,.slice Ao no co,.slice Av nv cv,.slice Ac nc cc,.slice Ai ni ci],.int .i64 code])∧SIn w' p Ao Av Ac Ai∧Below w.heap.size w w'∧NewAA w.heap.size Ao∧NewAA w.heap.size Av∧NewAA w.heap.size Ac∧NewAA w.heap.size Ai
theorem GetPostN.old {w w':World} {p:SPart} {code:Int} {e:Ending} (h:GetPostN w p code e w'):GetPost w p code e w':=by
 obtain⟨no,nv,nc,ni,Ao,co,Av,cv,Ac,cc,Ai,ci,h1,h2,h3,h4,h5,_⟩:=h
 exact⟨no,nv,nc,ni,Ao,co,Av,cv,Ac,cc,Ai,ci,h1,h2,h3,h4,h5⟩
theorem nx_ok {bs:List UInt8} {s n:Nat} (h:s+n≤bs.length):nx bs (s,false) (n:Int)=((bs.drop s).take n,(s+n,false)):=by
 unfold nx
 have hc:¬((s,false).2=true∨(n:Int)<0∨(bs.length:Int)-(((s,false):Nat×Bool).1:Int)<(n:Int)):=by
  rintro (h1 | h1 | h1)
  ·cases h1
  ·omega
  dsimp only at h1;omega
 rw[if_neg hc]
 simp
theorem num_lt_of {l:List UInt8} {k:Nat} (h:l.length≤k):rz.num l<256 ^ k:=Nat.lt_of_lt_of_le (rz.num_lt _) (Nat.pow_le_pow_right (by decide) h)
theorem nx_bad {bs:List UInt8} {s:Nat×Bool} {n:Nat} (h:s.2=true∨bs.length<s.1+n):nx bs s (n:Int)=([],(bs.length,true)):=by
 unfold nx
 rw[if_pos (by rcases h with h | h;exact .inl h;exact .inr (.inr (by omega)))]
theorem nx_three {bs:List UInt8} {s:Nat} (h:bs.length<s+11):nx bs (nx bs (nx bs (s,false) 2).2 8).2 1=([],(bs.length,true)):=by
 by_cases h1:s+2≤bs.length
 ·rw[show nx bs (s,false) 2=_ from nx_ok (n:=2) h1]
  dsimp only
  by_cases h2:s+2+8≤bs.length
  ·rw[show nx bs (s+2,false) 8=_ from nx_ok (n:=8) h2]
   exact nx_bad (n:=1) (.inr (by dsimp only;omega))
  rw[show nx bs (s+2,false) 8=_ from nx_bad (n:=8) (.inr (by dsimp only;omega))]
  exact nx_bad (n:=1) (.inl rfl)
 rw[show nx bs (s,false) 2=_ from nx_bad (n:=2) (.inr (by dsimp only;omega))]
 rw[show nx bs ([],(bs.length,true)).2 8=_ from nx_bad (n:=8) (.inl rfl)]
 exact nx_bad (n:=1) (.inl rfl)
theorem nx_two {bs:List UInt8} (h:bs.length<6):nx bs (nx bs (0,false) 4).2 2=([],(bs.length,true)):=by
 by_cases h1:4≤bs.length
 ·rw[show nx bs (0,false) 4=_ from nx_ok (n:=4) (by omega)]
  exact nx_bad (n:=2) (.inr (by dsimp only;omega))
 rw[show nx bs (0,false) 4=_ from nx_bad (n:=4) (.inr (by dsimp only;omega))]
 exact nx_bad (n:=2) (.inl rfl)
def Lies (v0:World) (bp r:Nat) (A:Option Addr) (bs:List UInt8):Prop:=u8s bs≠[]→∃b off,A=some ⟨b,off,none⟩∧b≠r∧b≠bp∧b<v0.heap.size∧∀j u,(u8s bs)[j]?=some u→v0.cell? ⟨b,off+j,none⟩=some u
theorem rz_of {v0 w:World} {bp r k0 s:Nat} {A:Option Addr} {bs:List UInt8} {T:TypeId} (hA:Lies v0 bp r A bs) (hk:KB [bp,r] v0 w) (hr:w.heap[r]?=some (.cells #[.slice A bs.length k0,.int .i64 (s:Nat),.bool false] T)) (h1:bs.length≤k0) (h2:bs.length≤140737488351232) (h3:s≤bs.length):Rz A k0 T w r bs (s,false):=by
 refine⟨hr,fun hn=>?_,h1,h2,h3⟩
 obtain⟨b,off,e,g1,g2,g3,g4⟩:=hA hn
 exact⟨b,off,e,g1,Nat.lt_of_lt_of_le g3 hk.1,fun j u hu=>(hk.cell (p:=⟨b,off+j,none⟩) g3 (by simp[g1,g2])).trans (g4 j u hu)⟩
theorem rz_of2 {v0 w:World} {bp r k0:Nat} {s:Nat×Bool} {A:Option Addr} {bs:List UInt8} {T:TypeId} (hA:Lies v0 bp r A bs) (hk:KB [bp,r] v0 w) (hr:w.heap[r]?=some (.cells #[.slice A bs.length k0,.int .i64 (s.1:Nat),.bool s.2] T)) (h1:bs.length≤k0) (h2:bs.length≤140737488351232) (h3:s.1≤bs.length):Rz A k0 T w r bs s:=by
 refine⟨hr,fun hn=>?_,h1,h2,h3⟩
 obtain⟨b,off,e,g1,g2,g3,g4⟩:=hA hn
 exact⟨b,off,e,g1,Nat.lt_of_lt_of_le g3 hk.1,fun j u hu=>(hk.cell (p:=⟨b,off+j,none⟩) g3 (by simp[g1,g2])).trans (g4 j u hu)⟩
theorem bits_and_small (c d:Nat) (hc:c<256) (hd:d<256):bits .and .u8 (c:Int) (d:Int)=((c &&& d:Nat):Int):=by
 have h:c<2 ^ 8:=by omega
 have h2:d<2 ^ 8:=by omega
 have h3:c &&& d<2 ^ 8:=Nat.and_lt_two_pow _ h2
 have e1:(BitVec.ofInt 8 (c:Int)).toNat=c:=by
  rw[BitVec.ofInt_natCast,BitVec.toNat_ofNat];exact Nat.mod_eq_of_lt h
 have e2:(BitVec.ofInt 8 (d:Int)).toNat=d:=by
  rw[BitVec.ofInt_natCast,BitVec.toNat_ofNat];exact Nat.mod_eq_of_lt h2
 show IntKind.u8.wrap ((BitVec.ofInt 8 (c:Int) &&& BitVec.ofInt 8 (d:Int)).toNat:Int)=_
 rw[BitVec.toNat_and,e1,e2,IntKind.wrap_u8]
 omega
theorem and_two (c:Nat):c &&& 2=if c % 4<2 then 0 else 2:=by
 have h:(c &&& 2)=(c % 4) &&& 2:=by
  rw[show 4=2 ^ 2 by rfl,←Nat.and_two_pow_sub_one_eq_mod,Nat.and_assoc]
  rfl
 rw[h]
 have:c % 4<4:=Nat.mod_lt _ (by decide)
 obtain⟨d,hd⟩:∃d,c % 4=d:=⟨_,rfl⟩
 rw[hd] at this ⊢
 rcases (show d=0∨d=1∨d=2∨d=3 by omega) with rfl | rfl | rfl | rfl <;> rfl
theorem and_one (c:Nat):c &&& 1=c % 2:=Nat.and_one_is_mod c
def GJF (A0:Option Addr) (L c:Nat) (H:Nat) (u:Nat→Value):Act:={ tmps:=#[.slice A0 L c,u 1,.pointer (some ⟨H,0,none⟩),u 3,u 4,u 5,u 6,u 7,u 8,u 9,u 10,u 11,u 12,u 13,u 14,u 15,u 16,u 17,u 18,u 19,u 20,u 21,u 22,u 23,u 24,u 25,u 26,u 27,u 28,u 29,u 30,u 31,u 32,u 33,u 34,u 35,u 36,u 37,u 38,u 39,u 40,u 41,u 42,u 43,u 44,u 45,u 46,u 47,u 48,u 49,u 50,u 51,u 52,u 53,u 54,u 55,u 56,u 57,u 58,u 59,u 60,u 61,u 62,u 63,u 64,u 65,u 66,u 67,u 68,u 69,u 70,u 71,u 72,u 73,u 74,u 75,u 76,u 77,u 78,u 79,u 80,u 81,u 82,u 83,u 84,u 85,u 86],defers:=[] }
def GJP (A0:Option Addr) (L c:Nat) (w:World) (bs:List UInt8) (a':Act) (w':World):Prop:=∃u:Nat→Value,a'=GJF A0 L c w.heap.size u∧Hid (w'.heap[w.heap.size]?=some (.cells #[.int .i64 0,.slice none 0 0,.slice none 0 0,.slice none 0 0,.slice none 0 0] 42))∧Hid (Below w.heap.size w w')∧Hid (getF bs=none)
theorem GJP.mk {A0:Option Addr} {L c:Nat} {w:World} {bs:List UInt8} {a':Act} {w':World} (h:a'=GJF A0 L c w.heap.size (fun k=>a'.tmps.getD k undef)) (h1:Hid (w'.heap[w.heap.size]?=some (.cells #[.int .i64 0,.slice none 0 0,.slice none 0 0,.slice none 0 0,.slice none 0 0] 42))) (h2:Hid (Below w.heap.size w w')) (h3:Hid (getF bs=none)):GJP A0 L c w bs a' w':=⟨_,h,h1,h2,h3⟩
theorem own_ne {w:World} {b bp m:Nat} {v:Value} {xs:List Value} {C:Array Value} {T e:TypeId} {s:Nat} {fr:Nat×Nat} (h:w.ownsRow b e s v m xs) (hp:w.heap[bp]?=some (.cells C T fr)) (hT:e≠T):∀g,v.ownBlock=some g→g≠bp:=by
 intro g hg e
 subst e
 rcases h.2 with ⟨rfl,_⟩ | ⟨g2,cap,cur,rfl,_,hc,_⟩
 ·cases hg
 obtain rfl:g2=g:=by injection hg
 rw[hc] at hp
 injection hp with hp
 injection hp with _ h
 exact hT h
theorem slen_of {m:Int} {rs:List VRow} {own vals:List Int} {chg:List Bool} {inb:List Ml} {n:Nat} (h:PartsOf rs own vals chg inb) (hn:rs.length=n):SLen (partOf m rs) n n n n:=by
 unfold SLen partOf
 simp[hn]
theorem sin_of {X:List Nat} {v0 w0 w:World} {bp:Nat} {T:TypeId} {m:Int} {rs:List VRow} {own vals:List Int} {chg:List Bool} {inb:List Ml} {Ao:Option Addr} {co:Nat} {Av:Option Addr} {cv:Nat} {Ac:Option Addr} {cc:Nat} {Ai:Option Addr} {ci no nv nc ni:Nat} (h:PartsOf rs own vals chg inb) (g:GetSt X v0 w0 bp T m own vals chg inb Ao co Av cv Ac cc Ai ci no nv nc ni w):SIn w (partOf m rs) Ao Av Ac Ai:=by
 obtain⟨rfl,rfl,rfl,rfl⟩:=h
 exact⟨Rd.of_own g.ho,Rd.of_own g.hv,Rd.of_own g.hc,Rd.of_own g.hi⟩
theorem get_ok {w f:World} {bs:List UInt8} {p:SPart} {no nv nc ni:Nat} {Ao:Option Addr} {co:Nat} {Av:Option Addr} {cv:Nat} {Ac:Option Addr} {cc:Nat} {Ai:Option Addr} {ci:Nat} (hn:getF bs=some p) (hl:SLen p no nv nc ni) (hno:no≤65535) (hi:SIn f p Ao Av Ac Ai) (hb:Below w.heap.size w f) (hw:NewAA w.heap.size Ao∧NewAA w.heap.size Av∧NewAA w.heap.size Ac∧NewAA w.heap.size Ai):GetPostN w (getP bs) (getE bs) (.returned (.tuple #[.agg #[.int .i64 p.step,.slice Ao no co,.slice Av nv cv,.slice Ac nc cc,.slice Ai ni ci],.int .i64 0])) f:=by
 unfold getP getE
 rw[hn]
 exact⟨no,nv,nc,ni,Ao,co,Av,cv,Ac,cc,Ai,ci,hl,hno,rfl,hi,hb,hw⟩
theorem rowP_big {l:List UInt8} {c:Nat} (h:rz.num ((l.drop 10).take 1)=c) (hc:3<c):rowP l=none:=by
 unfold rowP
 split
 ·rfl
 rw[h,if_pos hc]
theorem rowP_bare {l:List UInt8} {v x c:Nat} {b:Bool} (hl:11≤l.length) (hv:rz.num (l.take 2)=v) (hx:rz.num ((l.drop 2).take 8)=x) (h:rz.num ((l.drop 10).take 1)=c) (hc:c<2) (hb:decide (c % 2=1)=b):rowP l=some (((v:Int),s64 x,b,(false,0)),l.drop 11):=by
 unfold rowP
 rw[if_neg (by omega),h,if_neg (by omega),if_pos hc,hv,hx,hb]
theorem rowP_cut {l:List UInt8} {c:Nat} (h:rz.num ((l.drop 10).take 1)=c) (hc:2≤c) (hl:l.length<19):rowP l=none:=by
 unfold rowP
 by_cases h1:l.length<11
 ·rw[if_pos h1]
 rw[if_neg h1,h]
 by_cases h2:3<c
 ·rw[if_pos h2]
 rw[if_neg h2,if_neg (by omega),if_pos hl]
theorem rowP_mail {l:List UInt8} {v x c y:Nat} {b:Bool} (hl:19≤l.length) (hv:rz.num (l.take 2)=v) (hx:rz.num ((l.drop 2).take 8)=x) (h:rz.num ((l.drop 10).take 1)=c) (hc:c≤3) (hc2:2≤c) (hy:rz.num ((l.drop 11).take 8)=y) (hb:decide (c % 2=1)=b):rowP l=some (((v:Int),s64 x,b,(true,s64 y)),l.drop 19):=by
 unfold rowP
 rw[if_neg (by omega),h,if_neg (by omega),if_neg (by omega),if_neg (by omega),hv,hx,hb,hy]
theorem PartsOf.snoc {rs:List VRow} {own vals:List Int} {chg:List Bool} {inb:List Ml} (h:PartsOf rs own vals chg inb) (v x:Int) (b:Bool) (m:Ml):PartsOf (rs ++ [(v,x,b,m)]) (own ++ [v]) (vals ++ [x]) (chg ++ [b]) (inb ++ [m]):=by
 obtain⟨rfl,rfl,rfl,rfl⟩:=h
 simp[PartsOf]
theorem get_bad {w f:World} {bs:List UInt8} (hn:getF bs=none) (hb:Below w.heap.size w f):GetPostN w (getP bs) (getE bs) (.returned (.tuple #[.agg #[.int .i64 0,.slice none 0 0,.slice none 0 0,.slice none 0 0,.slice none 0 0],.int .i64 140])) f:=by
 unfold getP getE
 rw[hn]
 exact⟨0,0,0,0,none,0,none,0,none,0,none,0,⟨rfl,rfl,rfl,rfl⟩,by omega,rfl,⟨Rd.nil_,Rd.nil_,Rd.nil_,Rd.nil_⟩,hb,(fun _ _ e=>by cases e),(fun _ _ e=>by cases e),(fun _ _ e=>by cases e),(fun _ _ e=>by cases e)⟩
theorem zero_fin {w wf:World} {T:TypeId} (hz:wf.heap[w.heap.size]?=some (.cells #[.int .i64 0,.slice none 0 0,.slice none 0 0,.slice none 0 0,.slice none 0 0] T)) (hb:Below w.heap.size w wf):∃f,(((((wf.setCell ⟨w.heap.size,0,none⟩ (.int .i64 0)).setCell ⟨w.heap.size,1,none⟩ (.slice none 0 0)).setCell ⟨w.heap.size,2,none⟩ (.slice none 0 0)).setCell ⟨w.heap.size,3,none⟩ (.slice none 0 0)).setCell ⟨w.heap.size,4,none⟩ (.slice none 0 0))=f∧Below w.heap.size w f∧f.heap[w.heap.size]?=some (.cells #[.int .i64 0,.slice none 0 0,.slice none 0 0,.slice none 0 0,.slice none 0 0] T):=by
 have hF0:=hz
 have hF1:=heap_setCell_same _ w.heap.size 0 _ _ (.int .i64 0) hF0
 have hF2:=heap_setCell_same _ w.heap.size 1 _ _ (.slice none 0 0) hF1
 have hF3:=heap_setCell_same _ w.heap.size 2 _ _ (.slice none 0 0) hF2
 have hF4:=heap_setCell_same _ w.heap.size 3 _ _ (.slice none 0 0) hF3
 have hF5:=heap_setCell_same _ w.heap.size 4 _ _ (.slice none 0 0) hF4
 have hlW:w.heap.size≤w.heap.size:=Nat.le_refl _
 exact⟨_,rfl,(((((hb.setCell (p:=⟨w.heap.size,0,none⟩) hlW (.int .i64 0)).setCell (p:=⟨w.heap.size,1,none⟩) hlW (.slice none 0 0)).setCell (p:=⟨w.heap.size,2,none⟩) hlW (.slice none 0 0)).setCell (p:=⟨w.heap.size,3,none⟩) hlW (.slice none 0 0)).setCell (p:=⟨w.heap.size,4,none⟩) hlW (.slice none 0 0)),hF5⟩
theorem GetSt.grown {X:List Nat} {v0 w0 w w':World} {bp:Nat} {T:TypeId} {st:Int} {own vals:List Int} {chg:List Bool} {inb:List Ml} {Ao:Option Addr} {co:Nat} {Av:Option Addr} {cv:Nat} {Ac:Option Addr} {cc:Nat} {Ai:Option Addr} {ci no nv nc ni:Nat} (h:GetSt X v0 w0 bp T st own vals chg inb Ao co Av cv Ac cc Ai ci no nv nc ni w) (hb:Below w.heap.size w w'):GetSt X v0 w0 bp T st own vals chg inb Ao co Av cv Ac cc Ai ci no nv nc ni w':=
 ⟨(hb.block bp (lt_of_block h.hp)).trans h.hp,own_all h.ho hb (Nat.le_refl _),own_all h.hv hb (Nat.le_refl _),own_all h.hc hb (Nat.le_refl _),own_all h.hi hb (Nat.le_refl _),h.kb.below hb h.kb.1,h.bl.trans (hb.mono h.bl.size)⟩
structure Rows4 (B:Nat) (own vals:List Int) (chg:List Bool) (inb:List Ml) (Ao:Option Addr) (co:Nat) (Av:Option Addr) (cv:Nat) (Ac:Option Addr) (cc:Nat) (Ai:Option Addr) (ci no nv nc ni:Nat) (w:World):Prop where
 ho:w.ownsRow B 3 1 (.slice Ao no co) no (i64s own)
 hv:w.ownsRow B 2 1 (.slice Av nv cv) nv (i64s vals)
 hc:w.ownsRow B 4 1 (.slice Ac nc cc) nc (bools chg)
 hi:w.ownsRow B 51 2 (.slice Ai ni ci) ni (mlFlat inb)
section
variable {B:Nat} {own vals:List Int} {chg:List Bool} {inb:List Ml} {Ao:Option Addr} {co:Nat} {Av:Option Addr} {cv:Nat} {Ac:Option Addr} {cc:Nat} {Ai:Option Addr} {ci no nv nc ni:Nat} {w:World}
theorem rows_of {X:List Nat} {v0 w0:World} {bp:Nat} {T:TypeId} {st:Int} (h:GetSt X v0 w0 bp T st own vals chg inb Ao co Av cv Ac cc Ai ci no nv nc ni w):Rows4 v0.heap.size own vals chg inb Ao co Av cv Ac cc Ai ci no nv nc ni w:=⟨h.ho,h.hv,h.hc,h.hi⟩
theorem Rows4.set (h:Rows4 B own vals chg inb Ao co Av cv Ac cc Ai ci no nv nc ni w) {H:Nat} (hH:H<B) (j:Nat) (u:Value):Rows4 B own vals chg inb Ao co Av cv Ac cc Ai ci no nv nc ni (w.setCell ⟨H,j,none⟩ u):=
 ⟨ownsRow_setCell_below h.ho (a:=⟨H,j,none⟩) hH u,ownsRow_setCell_below h.hv (a:=⟨H,j,none⟩) hH u,ownsRow_setCell_below h.hc (a:=⟨H,j,none⟩) hH u,ownsRow_setCell_below h.hi (a:=⟨H,j,none⟩) hH u⟩
theorem rows_set (h:Rows4 B own vals chg inb Ao co Av cv Ac cc Ai ci no nv nc ni w) {H:Nat} (hH:H<B) (j:Nat) (u:Value):Rows4 B own vals chg inb Ao co Av cv Ac cc Ai ci no nv nc ni (w.setCell ⟨H,j,none⟩ u):=h.set hH j u
theorem sin_rows {m:Int} {rs:List VRow} (h:PartsOf rs own vals chg inb) (g:Rows4 B own vals chg inb Ao co Av cv Ac cc Ai ci no nv nc ni w):SIn w (partOf m rs) Ao Av Ac Ai:=by
 obtain⟨rfl,rfl,rfl,rfl⟩:=h
 exact⟨Rd.of_own g.ho,Rd.of_own g.hv,Rd.of_own g.hc,Rd.of_own g.hi⟩
end
theorem sgetN_any (w:World) (A0:Option Addr) (bs:List UInt8) (L c:Nat) (hL:bs.length=L) (hR:Rd w w.heap.size A0 (u8s bs)) (hl:L≤1000000) :
  Calls Tryz.prog 19 #[.slice A0 L c] w (GetPostN w (getP bs) (getE bs)):=by
 obtain⟨a0,a0i,a0z,a0s,a0b⟩:=info_parts (show (Tryz.prog.info? 3).map (fun i=>(i.zero,i.size,i.bytes))=some (some (.int .i64 0),1,8) by kernel_rfl)
 obtain⟨a1,a1i,a1z,a1s,a1b⟩:=info_parts (show (Tryz.prog.info? 2).map (fun i=>(i.zero,i.size,i.bytes))=some (some (.int .i64 0),1,8) by kernel_rfl)
 obtain⟨a2,a2i,a2z,a2s,a2b⟩:=info_parts (show (Tryz.prog.info? 4).map (fun i=>(i.zero,i.size,i.bytes))=some (some (.bool false),1,1) by kernel_rfl)
 obtain⟨a3,a3i,a3z,a3s,a3b⟩:=info_parts (show (Tryz.prog.info? 51).map (fun i=>(i.zero,i.size,i.bytes))=some (some (.agg #[.bool false,.int .i64 0]),2,16) by kernel_rfl)
 obtain⟨u0,hu0⟩:∃u0,w.alloc (.cells #[.int .i64 0,.slice none 0 0,.slice none 0 0,.slice none 0 0,.slice none 0 0] 42)=u0:=⟨_,rfl⟩
 have hzu:w.heap.size<u0.heap.size:=by rw[←hu0];simp
 have hbu:Hid (Below w.heap.size w u0):=hide (by rw[←hu0];exact (Below.refl _ _).alloc (Nat.le_refl _) _)
 have hcu:Hid (u0.heap[w.heap.size]?=some (.cells #[.int .i64 0,.slice none 0 0,.slice none 0 0,.slice none 0 0,.slice none 0 0] 42)):=hide (by rw[←hu0];exact heap_alloc_last w _)
 have HR0:=hide (hR.next hbu.out)
 have HU:=hide hu0
 have HL:=hide hL
 clear hu0 hR hL
 go_enter Tryz.func19,Tryz.ntmps19
 go_wp2
 refine wp_scope_jumps 0 (GJP A0 L c w bs) (fun _ _=>0) rfl ?_ ?_
 ·go_wp2_with fail
  rw[HU.out]
  have hop:=rz.open_any u0 A0 bs c HR0.out (by rw[HL.out];omega)
  rw[HL.out] at hop
  refine hop.mono ?_
  clear hop
  rintro e w1 ⟨⟨r,rfl,hr0,A,k0,hrz⟩,hb1⟩
  have HRz1:=hide hrz
  have hrl1:=hrz.lt
  have hw1:=hb1.size
  have HB1:=hide (hbu.out.trans (hb1.mono (by omega)))
  have HC1:=hide ((hb1.block w.heap.size hzu).trans hcu.out)
  clear hrz hb1
  go_wp2_with fail
  refine (rz.get32 _ r bs (0,false) HRz1.out).mono ?_
  rintro e w2 ⟨rfl,hr9,hb9⟩
  have hw2:=hb9.size
  have HAb:=hide (show u8s bs≠[]→∃b off,A=some ⟨b,off,none⟩∧b<w2.heap.size from fun hne=>by
   obtain⟨b,off,e,_,hlt,_⟩:=HRz1.out.2.1 hne
   exact⟨b,off,e,by omega⟩)
  have HRz2:=hide hr9
  have HB2:=hide (HB1.out.trans (hb9.below (by omega) (by omega)))
  have HC2:=hide ((hb9.block w.heap.size (by omega) (by omega)).trans HC1.out)
  clear hr9 hb9
  obtain⟨m,hm⟩:∃m,rz.num (nx bs (0,false) 4).1=m:=⟨_,rfl⟩
  have hm32:m<4294967296:=by rw[←hm];exact num_lt_of (k:=4) (rz.nx_len bs (0,false) 4)
  have HM:=hide hm
  rw[hm]
  clear hm
  go_upto_region 3 with fail
  obtain⟨wp,hwp⟩:∃z,w2.alloc (.cells #[.int .i64 (m:Int),.slice none 0 0,.slice none 0 0,.slice none 0 0,.slice none 0 0] 42)=z:=⟨_,rfl⟩
  rw[hwp]
  obtain⟨bp,hbp⟩:∃z,w2.heap.size=z:=⟨_,rfl⟩
  have hwps:bp<wp.heap.size:=by rw[←hwp,←hbp];simp
  have HPb:Hid (wp.heap[bp]?=some (.cells #[.int .i64 (m:Int),.slice none 0 0,.slice none 0 0,.slice none 0 0,.slice none 0 0] 42)):=hide (by rw[←hwp,←hbp];exact heap_alloc_last _ _)
  have HRzp:=hide (by have:=HRz2.out.below (show Below w2.heap.size w2 wp by rw[←hwp];exact (Below.refl _ _).alloc (Nat.le_refl _) _);exact this)
  have HBp:Hid (Below w.heap.size w wp):=hide (by rw[←hwp];exact HB2.out.alloc HB2.out.size _)
  have HCp:=hide ((show wp.heap[w.heap.size]?=w2.heap[w.heap.size]? by rw[←hwp];exact Below.heap_alloc _ _ _ (by omega)).trans HC2.out)
  rw[hbp] at HAb
  rw[hbp]
  rw[hbp] at hw2
  clear hwp hbp HRz1 HRz2 HB1 HB2 HC1 HC2
  have hwr:w.heap.size≤r:=by omega
  have hrbp':r<bp:=by omega
  go_wp2_with fail
  refine (rz.get16 _ r bs _ HRzp.out).mono ?_
  rintro e v0 ⟨rfl,hr9,hb9⟩
  have hv0s:=hb9.size
  have HRv:=hide hr9
  have HBv:=hide (HBp.out.trans (hb9.below hwr HBp.out.size))
  have HCv:=hide ((hb9.block w.heap.size (by omega) (by omega)).trans HCp.out)
  have HPv:=hide ((hb9.block bp hwps (by omega)).trans HPb.out)
  clear hr9 hb9 HRzp HBp HCp HPb
  by_cases h6:bs.length<6
  ·have HS:=hide (nx_two h6)
   have HN:=hide (getF_short h6)
   clear h6
   rw[show rz.num (nx bs (nx bs (0,false) 4).2 2).1=0 by rw[HS.out];rfl]
   have hr2:=HRv.out
   rw[HS.out] at hr2
   dsimp only at hr2
   have HR2:=hide hr2
   clear hr2 HRv
   go_wp2
   go_loopw [6] (fun v6 wr=>v6 = .int .u16 0∧wr=v0) (fun v6 _=>0)
   case atStart=>exact⟨rfl,rfl⟩
   case round=>
    obtain⟨rfl,rfl⟩:=hrel
    obtain⟨w9,rfl⟩:∃z:World,z=wr:=⟨_,rfl⟩
    go_wp2_with fail
    refine (rz.bad_any _ r bs _ HR2.out).mono ?_
    rintro e w8 ⟨rfl,rfl⟩
    have ZW:=HCv
    have HBf:=HBv
    obtain⟨z0,z1,z2,z3,z4⟩:=zr5 ZW.out
    have zq:=zf ZW.out;have zf0:=zq 0;have zf1:=zq 1;have zf2:=zq 2;have zf3:=zq 3;have zf4:=zq 4;clear zq
    have HFin:=hide (zero_fin ZW.out HBf.out)
    go_wp2
    go_step3
    go_wp2
    obtain⟨f,hf,hfB,h6⟩:=HFin.out
    rw[hf]
    obtain⟨y0,y1,y2,y3,y4⟩:=zr5 h6
    exact bodyPost_ret (v:=.tuple #[.agg #[.int .i64 0,.slice none 0 0,.slice none 0 0,.slice none 0 0,.slice none 0 0],.int .i64 140]) (by simp[results,Tryz.results19,go_sem,y0,y1,y2,y3,y4]) rfl (get_bad HN.out hfB)
  have h6':6≤bs.length:=by omega
  rw[show nx bs (0,false) 4=_ from nx_ok (n:=4) (by omega)] at HM HRv ⊢
  dsimp only at HM HRv ⊢
  rw[show nx bs (0+4,false) 2=_ from nx_ok (n:=2) (by omega)] at HRv ⊢
  dsimp only at HRv ⊢
  simp only[Nat.zero_add,List.drop_zero] at HM HRv ⊢
  obtain⟨n,hn⟩:∃n,rz.num ((bs.drop 4).take 2)=n:=⟨_,rfl⟩
  have hn16:n<65536:=by rw[←hn];exact num_lt_of (k:=2) (by rw[List.length_take];omega)
  have HNn:=hide hn
  rw[hn]
  clear hn h6
  have HLies:Hid (Lies v0 bp r A bs):=hide (fun hne=>by
  obtain⟨b,off,e,g1,g2,g3⟩:=HRv.out.2.1 hne
  obtain⟨b9,o9,e9,l9⟩:=HAb.out hne
  rw[e] at e9
  injection e9 with e9
  injection e9 with e91 e92
  subst e91
  exact⟨b,off,e,g1,by omega,g2,g3⟩)
  have hk01:=HRv.out.2.2.1
  have hk02:=HRv.out.2.2.2.1
  have HGo:=hide (Going.start n h6')
  have G0:Hid (GetSt [bp,r] v0 w bp 42 (m:Int) [] [] [] [] none 0 none 0 none 0 none 0 0 0 0 0 v0):=hide ⟨HPv.out,World.ownsRow_nil _ _ _ _,World.ownsRow_nil _ _ _ _,World.ownsRow_nil _ _ _ _,World.ownsRow_nil _ _ _ _,KB.refl _ _,HBv.out⟩
  have RC0:Hid (v0.heap[r]?=some (.cells #[.slice A bs.length k0,.int .i64 ((6:Nat):Int),.bool false] 148)):=hide HRv.out.1
  have HH6:=hide h6'
  have hHv:w.heap.size<v0.heap.size:=by omega
  have hHX:w.heap.size∉[bp,r]:=by simp;omega
  have HHX:=hide hHX
  have HZ0:=HCv
  have hrv:r<v0.heap.size:=by omega
  have hbv:bp<v0.heap.size:=by omega
  have hne:bp≠r:=by omega
  have hrbp:r≠bp:=by omega
  have hwbp:w.heap.size≤bp:=by omega
  have hwv:w.heap.size≤v0.heap.size:=by omega
  clear HRv HPv HBv h6' hHX
  go_wp2
  go_loopw [6] (fun v6 wr=>∃(k j s:Nat) (rs:List VRow) (own vals:List Int) (chg:List Bool) (inb:List Ml) (Ao:Option Addr) (co:Nat) (Av:Option Addr) (cv:Nat) (Ac:Option Addr) (cc:Nat) (Ai:Option Addr) (ci:Nat),j+k=n∧v6 = .int .u16 (j:Int)∧Hid (Going bs n k s rs)∧Hid (PartsOf rs own vals chg inb)∧Hid (GetSt [bp,r] v0 w bp 42 (m:Int) own vals chg inb Ao co Av cv Ac cc Ai ci k k k k wr)∧Hid (wr.heap[r]?=some (.cells #[.slice A bs.length k0,.int .i64 (s:Int),.bool false] 148))) (fun v6 _=>(intOf v6).toNat)
  case atStart=>exact⟨0,n,6,[],[],[],[],[],none,0,none,0,none,0,none,0,by omega,rfl,HGo,hide ⟨rfl,rfl,rfl,rfl⟩,G0,RC0⟩
  case round=>
   clear HGo G0 RC0
   obtain⟨k,j,s,rs,own,vals,chg,inb,Ao,co,Av,cv,Ac,cc,Ai,ci,hjk,rfl,HG,HPO,GR,RC⟩:=hrel
   have hsb:=HG.out.2.2.1
   have srw:v0.heap.size≤wr.heap.size:=GR.out.kb.1
   by_cases hj:0<j
   ·obtain⟨j,rfl⟩:∃z,j=z+1:=⟨j-1,by omega⟩
    have hkn:k<n:=by omega
    have Rw:=hide (rz_of HLies.out GR.out.kb RC.out hk01 hk02 hsb)
    have hHX:=HHX.out
    by_cases h11:bs.length<s+11
    ·have HT:=hide (nx_three (s:=s) h11)
     have HNone:=hide (getF_none HNn.out (HG.out.none_ hkn (by unfold rowP;rw[if_pos (by rw[List.length_drop];omega)])))
     go_wp2_with fail
     refine (rz.get16 _ r bs (s,false) Rw.out).mono ?_
     rintro e z1 ⟨rfl,hr9,hb9⟩
     have R_z1:=hide hr9
     have G_z1:=hide (GR.out.besides hb9 (by simp) hrv hne hwr)
     have s_z1:v0.heap.size≤z1.heap.size:=G_z1.out.kb.1
     have B_z1:=hide hb9
     clear hr9 hb9
     clear Rw
     go_wp2_with fail
     refine (rz.get64 _ r bs _ R_z1.out).mono ?_
     rintro e z2 ⟨rfl,hr9,hb9⟩
     have R_z2:=hide hr9
     have G_z2:=hide (G_z1.out.besides hb9 (by simp) hrv hne hwr)
     have s_z2:v0.heap.size≤z2.heap.size:=G_z2.out.kb.1
     have B_z2:=hide hb9
     clear hr9 hb9
     go_wp2_with fail
     refine (rz.get8 _ r bs _ R_z2.out).mono ?_
     rintro e z3 ⟨rfl,hr9,hb9⟩
     have R_z3:=hide hr9
     have G_z3:=hide (G_z2.out.besides hb9 (by simp) hrv hne hwr)
     have s_z3:v0.heap.size≤z3.heap.size:=G_z3.out.kb.1
     have B_z3:=hide hb9
     clear hr9 hb9
     have hr3:=R_z3.out
     rw[HT.out] at hr3 ⊢
     dsimp only at hr3 ⊢
     have HR3:=hide hr3
     clear hr3 R_z1 R_z2 R_z3 G_z1 G_z2 B_z1 B_z2 B_z3 RC GR
     rw[show rz.num []=0 from rfl]
     have GA:=hide (G_z3.out.alloc (.cells #[.bool false,.int .i64 0] 51))
     have HR3a:=hide (HR3.out.below ((Below.refl z3.heap.size z3).alloc (Nat.le_refl _) (.cells #[.bool false,.int .i64 0] 51)))
     go_wp2_with fail
     refine (rz.bad_any _ r bs _ HR3a.out).mono ?_
     rintro e w9 ⟨rfl,rfl⟩
     go_wp2
     go_step3
     exact⟨rfl,GJP.mk rfl (hide ((GA.out.kb.2 _ hHv hHX).trans HZ0.out)) (hide GA.out.bl) HNone⟩
    have h11':s+11≤bs.length:=by omega
    clear h11
    have E1:=hide (show nx bs (s,false) 2=_ from nx_ok (n:=2) (by omega))
    have E2:=hide (show nx bs (s+2,false) 8=_ from nx_ok (n:=8) (by omega))
    have E3:=hide (show nx bs (s+2+8,false) 1=_ from nx_ok (n:=1) (by omega))
    go_wp2_with fail
    refine (rz.get16 _ r bs (s,false) Rw.out).mono ?_
    rintro e z1 ⟨rfl,hr9,hb9⟩
    have R_z1:=hide hr9
    have G_z1:=hide (GR.out.besides hb9 (by simp) hrv hne hwr)
    have s_z1:v0.heap.size≤z1.heap.size:=G_z1.out.kb.1
    have B_z1:=hide hb9
    clear hr9 hb9
    rw[E1.out] at R_z1 ⊢
    dsimp only at R_z1 ⊢
    obtain⟨v,hv⟩:∃v,rz.num ((bs.drop s).take 2)=v:=⟨_,rfl⟩
    have hv16:v<65536:=by rw[←hv];exact num_lt_of (k:=2) (by rw[List.length_take];omega)
    have HV:=hide hv
    rw[hv]
    clear hv B_z1 Rw
    go_wp2_with fail
    refine (rz.get64 _ r bs (s+2,false) R_z1.out).mono ?_
    rintro e z2 ⟨rfl,hr9,hb9⟩
    have R_z2:=hide hr9
    have G_z2:=hide (G_z1.out.besides hb9 (by simp) hrv hne hwr)
    have s_z2:v0.heap.size≤z2.heap.size:=G_z2.out.kb.1
    have B_z2:=hide hb9
    clear hr9 hb9
    rw[E2.out] at R_z2 ⊢
    dsimp only at R_z2 ⊢
    obtain⟨x,hx⟩:∃x,rz.num ((bs.drop (s+2)).take 8)=x:=⟨_,rfl⟩
    have HX:=hide (show rz.num (((bs.drop s).drop 2).take 8)=x by rw[List.drop_drop];exact hx)
    rw[hx]
    clear hx B_z2 R_z1 G_z1
    go_wp2_with fail
    refine (rz.get8 _ r bs (s+2+8,false) R_z2.out).mono ?_
    rintro e z3 ⟨rfl,hr9,hb9⟩
    have R_z3:=hide hr9
    have G_z3:=hide (G_z2.out.besides hb9 (by simp) hrv hne hwr)
    have s_z3:v0.heap.size≤z3.heap.size:=G_z3.out.kb.1
    have B_z3:=hide hb9
    clear hr9 hb9
    rw[E3.out] at R_z3 ⊢
    dsimp only at R_z3 ⊢
    obtain⟨cb,hc⟩:∃c,rz.num ((bs.drop (s+2+8)).take 1)=c:=⟨_,rfl⟩
    have HC:=hide (show rz.num (((bs.drop s).drop 10).take 1)=cb by rw[List.drop_drop];exact hc)
    have hc8:cb<256:=by rw[←hc];exact num_lt_of (k:=1) (by rw[List.length_take];omega)
    rw[hc]
    clear hc B_z3 R_z2 G_z2 E1 E2 E3 RC GR
    rw[show s+2+8+1=s+11 by omega] at R_z3
    have hba:=bits_and_small cb 2 hc8 (by decide)
    rw[and_two] at hba
    obtain⟨bm,hbm⟩:∃z,z3.heap.size=z:=⟨_,rfl⟩
    have HLO:=hide (fun g hg=>(G_z3.out.ho.lt g hg).2)
    have HLV:=hide (fun g hg=>(G_z3.out.hv.lt g hg).2)
    have HLC:=hide (fun g hg=>(G_z3.out.hc.lt g hg).2)
    have HLI:=hide (fun g hg=>(G_z3.out.hi.lt g hg).2)
    have hlen:=List.length_drop (i:=s) (l:=bs)
    have HLen:=hide hlen
    clear hlen
    by_cases hcb:3<cb
    ·have hcb':(3:Int)<(cb:Int):=by omega
     have HNone:=hide (getF_none HNn.out (HG.out.none_ hkn (rowP_big HC.out hcb)))
     by_cases hq:cb % 4<2
     ·have hb2:bits .and .u8 (cb:Int) 2=0:=by rw[if_pos (by omega)] at hba;exact hba
      clear hba
      have GA:=hide (G_z3.out.alloc (.cells #[.bool false,.int .i64 0] 51))
      have RA:=hide (R_z3.out.below ((Below.refl z3.heap.size z3).alloc (Nat.le_refl _) (.cells #[.bool false,.int .i64 0] 51)))
      have MA:=hide (heap_alloc_last z3 (.cells #[.bool false,.int .i64 0] 51))
      obtain⟨za,hza⟩:∃z,z3.alloc (.cells #[.bool false,.int .i64 0] 51)=z:=⟨_,rfl⟩
      rw[hza] at GA RA MA
      have hzas:bm<za.heap.size:=by rw[←hza,←hbm];simp
      have HZA:=hide hza
      rw[hbm] at MA HLO HLV HLC HLI s_z3
      have HBM:=hide hbm
      clear hza hbm G_z3 R_z3
      go_upto_region 8 with fail
      rw[HZA.out,HBM.out]
      have hbmbp:bm≠bp:=by omega
      have hbmr:bm≠r:=by omega
      have n0:za.cell? ⟨bm,0,none⟩=some (.bool false):=cell_of_row _ _ 0 _ _ _ MA.out
      go_wp2_with fail
      refine (rz.bad_any _ r bs (s+11,false) RA.out).mono ?_
      rintro e w9 ⟨rfl,rfl⟩
      go_wp2
      go_step3
      exact⟨rfl,GJP.mk rfl (hide ((GA.out.kb.2 _ hHv hHX).trans HZ0.out)) (hide GA.out.bl) HNone⟩
     have hb2:bits .and .u8 (cb:Int) 2=2:=by rw[if_neg (by omega)] at hba;exact hba
     clear hba
     have GA:=hide (G_z3.out.alloc (.cells #[.bool true,.int .i64 0] 51))
     have RA:=hide (R_z3.out.below ((Below.refl z3.heap.size z3).alloc (Nat.le_refl _) (.cells #[.bool true,.int .i64 0] 51)))
     have MA:=hide (heap_alloc_last z3 (.cells #[.bool true,.int .i64 0] 51))
     obtain⟨za,hza⟩:∃z,z3.alloc (.cells #[.bool true,.int .i64 0] 51)=z:=⟨_,rfl⟩
     rw[hza] at GA RA MA
     have hzas:bm<za.heap.size:=by rw[←hza,←hbm];simp
     have HZA:=hide hza
     rw[hbm] at MA HLO HLV HLC HLI s_z3
     have HBM:=hide hbm
     clear hza hbm G_z3 R_z3
     go_upto_region 8 with fail
     rw[HZA.out,HBM.out]
     have hbmbp:bm≠bp:=by omega
     have hbmr:bm≠r:=by omega
     have n0:za.cell? ⟨bm,0,none⟩=some (.bool true):=cell_of_row _ _ 0 _ _ _ MA.out
     go_wp2_with fail
     refine (rz.get64 _ r bs (s+11,false) RA.out).mono ?_
     rintro e z4 ⟨rfl,hr9,hb9⟩
     have R4:=hide hr9
     have G4:=hide (GA.out.besides hb9 (by simp) hrv hne hwr)
     have M4:=hide ((hb9.block bm hzas hbmr).trans MA.out)
     have s_z4:v0.heap.size≤z4.heap.size:=G4.out.kb.1
     obtain⟨n0,n1⟩:=zr2 M4.out
     have nf1:=zf M4.out 1
     have ln4:=lt_of_block M4.out
     clear hr9 hb9
     obtain⟨y,hy⟩:∃y,rz.num (nx bs (s+11,false) 8).1=y:=⟨_,rfl⟩
     rw[hy]
     obtain⟨st4,hst4⟩:∃z,(nx bs (s+11,false) 8).2=z:=⟨_,rfl⟩
     rw[hst4] at R4
     clear hst4 hy
     have hR4b:=R4.out
     obtain⟨wq,hwq⟩:∃z,z4.setCell ⟨bm,1,none⟩ (.int .i64 (wrap64 (y:Int)))=z:=⟨_,rfl⟩
     have G5:=hide (G4.out.far ⟨bm,1,none⟩ (.int .i64 (wrap64 (y:Int))) (by show _≤bm;omega) hbv (by show _≤bm;omega) (fun g hg=>by have:=HLO.out g hg;show g≠bm;omega) (fun g hg=>by have:=HLV.out g hg;show g≠bm;omega) (fun g hg=>by have:=HLC.out g hg;show g≠bm;omega) (fun g hg=>by have:=HLI.out g hg;show g≠bm;omega))
     have M5:=hide (heap_setCell_same z4 bm 1 _ _ (.int .i64 (wrap64 (y:Int))) M4.out)
     have RC5:=hide ((Below.heap_setCell z4 ⟨bm,1,none⟩ (.int .i64 (wrap64 (y:Int))) r (fun e=>hbmr e.symm)).trans R4.out.1)
     rw[hwq] at G5 M5 RC5
     have HWQ:=hide hwq
     clear hwq M4 G4 R4
     have R5:=hide (rz_of2 (s:=st4) HLies.out G5.out.kb RC5.out hk01 hk02 hR4b.2.2.2.2)
     go_upto_region 10 with fail
     rw[HWQ.out]
     clear hR4b n0 n1 nf1
     go_wp2_with fail
     refine (rz.bad_any _ r bs st4 R5.out).mono ?_
     rintro e w9 ⟨rfl,rfl⟩
     obtain⟨sa,sb⟩:=st4
     dsimp only at R5 ⊢
     rcases sb with _ | _
     ·go_wp2
      go_step3
      exact⟨rfl,GJP.mk rfl (hide ((G5.out.kb.2 _ hHv hHX).trans HZ0.out)) (hide G5.out.bl) HNone⟩
     go_wp2
     go_step3
     exact⟨rfl,GJP.mk rfl (hide ((G5.out.kb.2 _ hHv hHX).trans HZ0.out)) (hide G5.out.bl) HNone⟩
    have hcb':cb≤3:=by omega
    by_cases hq:cb<2
    ·have hb2:bits .and .u8 (cb:Int) 2=0:=by rw[if_pos (by omega)] at hba;exact hba
     clear hba
     rcases (show cb % 2=0∨cb % 2=1 by omega) with hpar | hpar
     ·have HRow:=hide (rowP_bare (by rw[HLen.out];omega) HV.out HX.out HC.out hq (by simp;omega):rowP (bs.drop s)=some (((v:Int),s64 x,false,(false,0)),(bs.drop s).drop 11))
      have hb1:bits .and .u8 (cb:Int) 1=0:=by have h:=bits_and_small cb 1 hc8 (by decide);rw[and_one] at h;rw[show (1:Int)=((1:Nat):Int) from rfl,h];omega
      have GA:=hide (G_z3.out.alloc (.cells #[.bool false,.int .i64 0] 51))
      have RA:=hide (R_z3.out.below ((Below.refl z3.heap.size z3).alloc (Nat.le_refl _) (.cells #[.bool false,.int .i64 0] 51)))
      have MA:=hide (heap_alloc_last z3 (.cells #[.bool false,.int .i64 0] 51))
      obtain⟨za,hza⟩:∃z,z3.alloc (.cells #[.bool false,.int .i64 0] 51)=z:=⟨_,rfl⟩
      rw[hza] at GA RA MA
      have hzas:bm<za.heap.size:=by rw[←hza,←hbm];simp
      have HZA:=hide hza
      rw[hbm] at MA HLO HLV HLC HLI s_z3
      have HBM:=hide hbm
      clear hza hbm G_z3 R_z3
      go_upto_region 8 with fail
      rw[HZA.out,HBM.out]
      have hbmbp:bm≠bp:=by omega
      have hbmr:bm≠r:=by omega
      have n0:za.cell? ⟨bm,0,none⟩=some (.bool false):=cell_of_row _ _ 0 _ _ _ MA.out
      go_wp2_with fail
      refine (rz.bad_any _ r bs (s+11,false) RA.out).mono ?_
      rintro e w9 ⟨rfl,rfl⟩
      obtain⟨wq,rfl⟩:∃z:World,z=za:=⟨_,rfl⟩
      have BM:=MA
      have RC:=hide RA.out.1
      have G0:=GA
      have HE3:Hid True:=hide trivial
      clear n0 MA RA GA
      dsimp only at RC
      have p1:wq.cell? ⟨bp,1,none⟩=some (.slice Ao k co):=cell_of_row _ _ 1 _ _ _ G0.out.hp
      have lbp:=lt_of_block G0.out.hp
      have sz0:v0.heap.size≤wq.heap.size:=G0.out.kb.1
      go_wp2_with (at_builtin;refine wpList_app rfl (.tmp 46) (.tmp 49) 40 rfl v0.heap.size 3 a0 (.int .i64 0) 1 8 Tryz.underlying40 a0i a0z a0s a0b rfl (by decide) (.slice Ao k co) k _ rfl (G0.out.ho.alloc _) (wq.heap.size+1) (some ⟨wq.heap.size,0,none⟩) 1 1 [.int .i64 (v:Int)] rfl rfl (Rd.new _ _ _ _) (by simp[Value.oneCell']) (by unfold maxLen;omega) (by omega) (by simp;omega) ?_)
      intro A0' c0' y0 own0 hg0 hat0
      have AP:=G0.out.appOwn (x:=(v:Int)) hbv (by simp) hwbp hwv own0 hg0
      have q1:y0.cell? ⟨bp,1,none⟩=some (.slice Ao k co):=cell_of_row _ _ 1 _ _ _ AP.1
      have qf1:=zf AP.1 1
      have BM1:=hide ((Below.heap_setCell _ ⟨bp,1,none⟩ (.slice A0' (k+1) c0') bm hbmbp).trans ((hg0.block bm (by have:=lt_of_block BM.out;simp;omega) (fun e=>own_ne (G0.out.ho) BM.out (by decide) bm e.symm rfl)).trans ((Below.heap_alloc _ _ _ (lt_of_block BM.out)).trans BM.out)))
      have RC1:=hide ((Below.heap_setCell _ ⟨bp,1,none⟩ (.slice A0' (k+1) c0') r hrbp).trans ((hg0.block r (by simp;omega) (fun e=>by have:=(G0.out.ho.lt r e.symm).1;omega)).trans ((Below.heap_alloc _ _ _ (by omega)).trans RC.out)))
      obtain⟨wa1,hwa1⟩:∃z,y0.setCell ⟨bp,1,none⟩ (.slice A0' (k+1) c0')=z:=⟨_,rfl⟩
      have G1:=hide AP.2
      rw[hwa1] at G1 BM1 RC1
      have HE0:=hide hwa1
      clear AP own0 hg0 hat0 hwa1 p1 lbp BM RC G0
      have BM:=BM1
      have RC:=RC1
      clear BM1 RC1
      go_upto_region 12 with fail
      rw[HE0.out]
      clear HE0 q1 qf1
      have p2:wa1.cell? ⟨bp,2,none⟩=some (.slice Av k cv):=cell_of_row _ _ 2 _ _ _ G1.out.hp
      have lbp:=lt_of_block G1.out.hp
      have sz1:v0.heap.size≤wa1.heap.size:=G1.out.kb.1
      go_wp2_with (at_builtin;refine wpList_app rfl (.tmp 53) (.tmp 56) 29 rfl v0.heap.size 2 a1 (.int .i64 0) 1 8 Tryz.underlying29 a1i a1z a1s a1b rfl (by decide) (.slice Av k cv) k _ rfl (G1.out.hv.alloc _) (wa1.heap.size+1) (some ⟨wa1.heap.size,0,none⟩) 1 1 [.int .i64 (wrap64 (x:Int))] rfl rfl (Rd.new _ _ _ _) (by simp[Value.oneCell']) (by unfold maxLen;omega) (by omega) (by simp;omega) ?_)
      intro A1' c1' y1 own1 hg1 hat1
      have AP:=G1.out.appVals (x:=(s64 x)) hbv (by simp) hwbp hwv own1 hg1
      have q2:y1.cell? ⟨bp,2,none⟩=some (.slice Av k cv):=cell_of_row _ _ 2 _ _ _ AP.1
      have qf2:=zf AP.1 2
      have BM1:=hide ((Below.heap_setCell _ ⟨bp,2,none⟩ (.slice A1' (k+1) c1') bm hbmbp).trans ((hg1.block bm (by have:=lt_of_block BM.out;simp;omega) (fun e=>own_ne (G1.out.hv) BM.out (by decide) bm e.symm rfl)).trans ((Below.heap_alloc _ _ _ (lt_of_block BM.out)).trans BM.out)))
      have RC1:=hide ((Below.heap_setCell _ ⟨bp,2,none⟩ (.slice A1' (k+1) c1') r hrbp).trans ((hg1.block r (by simp;omega) (fun e=>by have:=(G1.out.hv.lt r e.symm).1;omega)).trans ((Below.heap_alloc _ _ _ (by omega)).trans RC.out)))
      obtain⟨wa2,hwa2⟩:∃z,y1.setCell ⟨bp,2,none⟩ (.slice A1' (k+1) c1')=z:=⟨_,rfl⟩
      have G2:=hide AP.2
      rw[hwa2] at G2 BM1 RC1
      have HE1:=hide hwa2
      clear AP own1 hg1 hat1 hwa2 p2 lbp BM RC G1
      have BM:=BM1
      have RC:=RC1
      clear BM1 RC1
      go_upto_region 13 with fail
      rw[HE1.out]
      clear HE1 q2 qf2
      have p3:wa2.cell? ⟨bp,3,none⟩=some (.slice Ac k cc):=cell_of_row _ _ 3 _ _ _ G2.out.hp
      have lbp:=lt_of_block G2.out.hp
      have sz2:v0.heap.size≤wa2.heap.size:=G2.out.kb.1
      go_wp2_with (at_builtin;refine wpList_app rfl (.tmp 60) (.tmp 64) 30 rfl v0.heap.size 4 a2 (.bool false) 1 1 Tryz.underlying30 a2i a2z a2s a2b rfl (by decide) (.slice Ac k cc) k _ rfl (G2.out.hc.alloc _) (wa2.heap.size+1) (some ⟨wa2.heap.size,0,none⟩) 1 1 [.bool false] rfl rfl (Rd.new _ _ _ _) (by simp[Value.oneCell']) (by unfold maxLen;omega) (by omega) (by simp;omega) ?_)
      intro A2' c2' y2 own2 hg2 hat2
      have AP:=G2.out.appChg (x:=false) hbv (by simp) hwbp hwv own2 hg2
      have q3:y2.cell? ⟨bp,3,none⟩=some (.slice Ac k cc):=cell_of_row _ _ 3 _ _ _ AP.1
      have qf3:=zf AP.1 3
      have BM1:=hide ((Below.heap_setCell _ ⟨bp,3,none⟩ (.slice A2' (k+1) c2') bm hbmbp).trans ((hg2.block bm (by have:=lt_of_block BM.out;simp;omega) (fun e=>own_ne (G2.out.hc) BM.out (by decide) bm e.symm rfl)).trans ((Below.heap_alloc _ _ _ (lt_of_block BM.out)).trans BM.out)))
      have RC1:=hide ((Below.heap_setCell _ ⟨bp,3,none⟩ (.slice A2' (k+1) c2') r hrbp).trans ((hg2.block r (by simp;omega) (fun e=>by have:=(G2.out.hc.lt r e.symm).1;omega)).trans ((Below.heap_alloc _ _ _ (by omega)).trans RC.out)))
      obtain⟨wa3,hwa3⟩:∃z,y2.setCell ⟨bp,3,none⟩ (.slice A2' (k+1) c2')=z:=⟨_,rfl⟩
      have G3:=hide AP.2
      rw[hwa3] at G3 BM1 RC1
      have HE2:=hide hwa3
      clear AP own2 hg2 hat2 hwa3 p3 lbp BM RC G2
      have BM:=BM1
      have RC:=RC1
      clear BM1 RC1
      go_upto_region 14 with fail
      rw[HE2.out]
      clear HE2 q3 qf3
      have p4:wa3.cell? ⟨bp,4,none⟩=some (.slice Ai k ci):=cell_of_row _ _ 4 _ _ _ G3.out.hp
      obtain⟨n0,n1⟩:=zr2 BM.out
      have ln:=lt_of_block BM.out
      have lbp:=lt_of_block G3.out.hp
      have sz3:v0.heap.size≤wa3.heap.size:=G3.out.kb.1
      go_wp2_with (at_builtin;refine wpList_app rfl (.tmp 68) (.tmp 70) 31 rfl v0.heap.size 51 a3 (.agg #[.bool false,.int .i64 0]) 2 16 Tryz.underlying31 a3i a3z a3s a3b rfl (by decide) (.slice Ai k ci) k _ rfl (G3.out.hi.alloc _) (wa3.heap.size+1) (some ⟨wa3.heap.size,0,none⟩) 1 1 [.bool false,.int .i64 0] rfl rfl (Rd.new _ _ _ _) (by simp[Value.oneCell']) (by unfold maxLen;omega) (by omega) (by simp;omega) ?_)
      intro A3' c3' y3 own3 hg3 hat3
      have AP:=G3.out.appInb (x:=(false,0)) hbv (by simp) hwbp hwv own3 hg3
      have q4:y3.cell? ⟨bp,4,none⟩=some (.slice Ai k ci):=cell_of_row _ _ 4 _ _ _ AP.1
      have qf4:=zf AP.1 4
      have BM1:=hide ((Below.heap_setCell _ ⟨bp,4,none⟩ (.slice A3' (k+1) c3') bm hbmbp).trans ((hg3.block bm (by have:=lt_of_block BM.out;simp;omega) (fun e=>by have:=HLI.out bm e.symm;omega)).trans ((Below.heap_alloc _ _ _ (lt_of_block BM.out)).trans BM.out)))
      have RC1:=hide ((Below.heap_setCell _ ⟨bp,4,none⟩ (.slice A3' (k+1) c3') r hrbp).trans ((hg3.block r (by simp;omega) (fun e=>by have:=(G3.out.hi.lt r e.symm).1;omega)).trans ((Below.heap_alloc _ _ _ (by omega)).trans RC.out)))
      obtain⟨wa4,hwa4⟩:∃z,y3.setCell ⟨bp,4,none⟩ (.slice A3' (k+1) c3')=z:=⟨_,rfl⟩
      have G4:=hide AP.2
      rw[hwa4] at G4 BM1 RC1
      have HE3:=hide hwa4
      clear AP own3 hg3 hat3 hwa4 p4 lbp BM RC G3 n0 n1 ln
      have BM:=BM1
      have RC:=RC1
      clear BM1 RC1
      have HG2:=hide (HG.out.step (d:=11) (r:=((v:Int),s64 x,false,(false,0))) hkn (by omega) HRow.out)
      have HPO2:=hide (HPO.out.snoc (v:Int) (s64 x) false (false,0))
      skip
      have RCf:=RC
      have Gf:=G4
      clear BM
      go_wp2
      first | rw[HE3.out] | skip
      go_roundw
      case rel=>exact⟨k+1,j,s+11,_,_,_,_,_,A0',c0',A1',c1',A2',c2',A3',c3',by omega,by first | rfl | go_num | (congr 1;omega),HG2,HPO2,Gf,RCf⟩
      case measure=>simp[intOf]
     have HRow:=hide (rowP_bare (by rw[HLen.out];omega) HV.out HX.out HC.out hq (by simp;omega):rowP (bs.drop s)=some (((v:Int),s64 x,true,(false,0)),(bs.drop s).drop 11))
     have hb1:bits .and .u8 (cb:Int) 1=1:=by have h:=bits_and_small cb 1 hc8 (by decide);rw[and_one] at h;rw[show (1:Int)=((1:Nat):Int) from rfl,h];omega
     have GA:=hide (G_z3.out.alloc (.cells #[.bool false,.int .i64 0] 51))
     have RA:=hide (R_z3.out.below ((Below.refl z3.heap.size z3).alloc (Nat.le_refl _) (.cells #[.bool false,.int .i64 0] 51)))
     have MA:=hide (heap_alloc_last z3 (.cells #[.bool false,.int .i64 0] 51))
     obtain⟨za,hza⟩:∃z,z3.alloc (.cells #[.bool false,.int .i64 0] 51)=z:=⟨_,rfl⟩
     rw[hza] at GA RA MA
     have hzas:bm<za.heap.size:=by rw[←hza,←hbm];simp
     have HZA:=hide hza
     rw[hbm] at MA HLO HLV HLC HLI s_z3
     have HBM:=hide hbm
     clear hza hbm G_z3 R_z3
     go_upto_region 8 with fail
     rw[HZA.out,HBM.out]
     have hbmbp:bm≠bp:=by omega
     have hbmr:bm≠r:=by omega
     have n0:za.cell? ⟨bm,0,none⟩=some (.bool false):=cell_of_row _ _ 0 _ _ _ MA.out
     go_wp2_with fail
     refine (rz.bad_any _ r bs (s+11,false) RA.out).mono ?_
     rintro e w9 ⟨rfl,rfl⟩
     obtain⟨wq,rfl⟩:∃z:World,z=za:=⟨_,rfl⟩
     have BM:=MA
     have RC:=hide RA.out.1
     have G0:=GA
     have HE3:Hid True:=hide trivial
     clear n0 MA RA GA
     dsimp only at RC
     have p1:wq.cell? ⟨bp,1,none⟩=some (.slice Ao k co):=cell_of_row _ _ 1 _ _ _ G0.out.hp
     have lbp:=lt_of_block G0.out.hp
     have sz0:v0.heap.size≤wq.heap.size:=G0.out.kb.1
     go_wp2_with (at_builtin;refine wpList_app rfl (.tmp 46) (.tmp 49) 40 rfl v0.heap.size 3 a0 (.int .i64 0) 1 8 Tryz.underlying40 a0i a0z a0s a0b rfl (by decide) (.slice Ao k co) k _ rfl (G0.out.ho.alloc _) (wq.heap.size+1) (some ⟨wq.heap.size,0,none⟩) 1 1 [.int .i64 (v:Int)] rfl rfl (Rd.new _ _ _ _) (by simp[Value.oneCell']) (by unfold maxLen;omega) (by omega) (by simp;omega) ?_)
     intro A0' c0' y0 own0 hg0 hat0
     have AP:=G0.out.appOwn (x:=(v:Int)) hbv (by simp) hwbp hwv own0 hg0
     have q1:y0.cell? ⟨bp,1,none⟩=some (.slice Ao k co):=cell_of_row _ _ 1 _ _ _ AP.1
     have qf1:=zf AP.1 1
     have BM1:=hide ((Below.heap_setCell _ ⟨bp,1,none⟩ (.slice A0' (k+1) c0') bm hbmbp).trans ((hg0.block bm (by have:=lt_of_block BM.out;simp;omega) (fun e=>own_ne (G0.out.ho) BM.out (by decide) bm e.symm rfl)).trans ((Below.heap_alloc _ _ _ (lt_of_block BM.out)).trans BM.out)))
     have RC1:=hide ((Below.heap_setCell _ ⟨bp,1,none⟩ (.slice A0' (k+1) c0') r hrbp).trans ((hg0.block r (by simp;omega) (fun e=>by have:=(G0.out.ho.lt r e.symm).1;omega)).trans ((Below.heap_alloc _ _ _ (by omega)).trans RC.out)))
     obtain⟨wa1,hwa1⟩:∃z,y0.setCell ⟨bp,1,none⟩ (.slice A0' (k+1) c0')=z:=⟨_,rfl⟩
     have G1:=hide AP.2
     rw[hwa1] at G1 BM1 RC1
     have HE0:=hide hwa1
     clear AP own0 hg0 hat0 hwa1 p1 lbp BM RC G0
     have BM:=BM1
     have RC:=RC1
     clear BM1 RC1
     go_upto_region 12 with fail
     rw[HE0.out]
     clear HE0 q1 qf1
     have p2:wa1.cell? ⟨bp,2,none⟩=some (.slice Av k cv):=cell_of_row _ _ 2 _ _ _ G1.out.hp
     have lbp:=lt_of_block G1.out.hp
     have sz1:v0.heap.size≤wa1.heap.size:=G1.out.kb.1
     go_wp2_with (at_builtin;refine wpList_app rfl (.tmp 53) (.tmp 56) 29 rfl v0.heap.size 2 a1 (.int .i64 0) 1 8 Tryz.underlying29 a1i a1z a1s a1b rfl (by decide) (.slice Av k cv) k _ rfl (G1.out.hv.alloc _) (wa1.heap.size+1) (some ⟨wa1.heap.size,0,none⟩) 1 1 [.int .i64 (wrap64 (x:Int))] rfl rfl (Rd.new _ _ _ _) (by simp[Value.oneCell']) (by unfold maxLen;omega) (by omega) (by simp;omega) ?_)
     intro A1' c1' y1 own1 hg1 hat1
     have AP:=G1.out.appVals (x:=(s64 x)) hbv (by simp) hwbp hwv own1 hg1
     have q2:y1.cell? ⟨bp,2,none⟩=some (.slice Av k cv):=cell_of_row _ _ 2 _ _ _ AP.1
     have qf2:=zf AP.1 2
     have BM1:=hide ((Below.heap_setCell _ ⟨bp,2,none⟩ (.slice A1' (k+1) c1') bm hbmbp).trans ((hg1.block bm (by have:=lt_of_block BM.out;simp;omega) (fun e=>own_ne (G1.out.hv) BM.out (by decide) bm e.symm rfl)).trans ((Below.heap_alloc _ _ _ (lt_of_block BM.out)).trans BM.out)))
     have RC1:=hide ((Below.heap_setCell _ ⟨bp,2,none⟩ (.slice A1' (k+1) c1') r hrbp).trans ((hg1.block r (by simp;omega) (fun e=>by have:=(G1.out.hv.lt r e.symm).1;omega)).trans ((Below.heap_alloc _ _ _ (by omega)).trans RC.out)))
     obtain⟨wa2,hwa2⟩:∃z,y1.setCell ⟨bp,2,none⟩ (.slice A1' (k+1) c1')=z:=⟨_,rfl⟩
     have G2:=hide AP.2
     rw[hwa2] at G2 BM1 RC1
     have HE1:=hide hwa2
     clear AP own1 hg1 hat1 hwa2 p2 lbp BM RC G1
     have BM:=BM1
     have RC:=RC1
     clear BM1 RC1
     go_upto_region 13 with fail
     rw[HE1.out]
     clear HE1 q2 qf2
     have p3:wa2.cell? ⟨bp,3,none⟩=some (.slice Ac k cc):=cell_of_row _ _ 3 _ _ _ G2.out.hp
     have lbp:=lt_of_block G2.out.hp
     have sz2:v0.heap.size≤wa2.heap.size:=G2.out.kb.1
     go_wp2_with (at_builtin;refine wpList_app rfl (.tmp 60) (.tmp 64) 30 rfl v0.heap.size 4 a2 (.bool false) 1 1 Tryz.underlying30 a2i a2z a2s a2b rfl (by decide) (.slice Ac k cc) k _ rfl (G2.out.hc.alloc _) (wa2.heap.size+1) (some ⟨wa2.heap.size,0,none⟩) 1 1 [.bool true] rfl rfl (Rd.new _ _ _ _) (by simp[Value.oneCell']) (by unfold maxLen;omega) (by omega) (by simp;omega) ?_)
     intro A2' c2' y2 own2 hg2 hat2
     have AP:=G2.out.appChg (x:=true) hbv (by simp) hwbp hwv own2 hg2
     have q3:y2.cell? ⟨bp,3,none⟩=some (.slice Ac k cc):=cell_of_row _ _ 3 _ _ _ AP.1
     have qf3:=zf AP.1 3
     have BM1:=hide ((Below.heap_setCell _ ⟨bp,3,none⟩ (.slice A2' (k+1) c2') bm hbmbp).trans ((hg2.block bm (by have:=lt_of_block BM.out;simp;omega) (fun e=>own_ne (G2.out.hc) BM.out (by decide) bm e.symm rfl)).trans ((Below.heap_alloc _ _ _ (lt_of_block BM.out)).trans BM.out)))
     have RC1:=hide ((Below.heap_setCell _ ⟨bp,3,none⟩ (.slice A2' (k+1) c2') r hrbp).trans ((hg2.block r (by simp;omega) (fun e=>by have:=(G2.out.hc.lt r e.symm).1;omega)).trans ((Below.heap_alloc _ _ _ (by omega)).trans RC.out)))
     obtain⟨wa3,hwa3⟩:∃z,y2.setCell ⟨bp,3,none⟩ (.slice A2' (k+1) c2')=z:=⟨_,rfl⟩
     have G3:=hide AP.2
     rw[hwa3] at G3 BM1 RC1
     have HE2:=hide hwa3
     clear AP own2 hg2 hat2 hwa3 p3 lbp BM RC G2
     have BM:=BM1
     have RC:=RC1
     clear BM1 RC1
     go_upto_region 14 with fail
     rw[HE2.out]
     clear HE2 q3 qf3
     have p4:wa3.cell? ⟨bp,4,none⟩=some (.slice Ai k ci):=cell_of_row _ _ 4 _ _ _ G3.out.hp
     obtain⟨n0,n1⟩:=zr2 BM.out
     have ln:=lt_of_block BM.out
     have lbp:=lt_of_block G3.out.hp
     have sz3:v0.heap.size≤wa3.heap.size:=G3.out.kb.1
     go_wp2_with (at_builtin;refine wpList_app rfl (.tmp 68) (.tmp 70) 31 rfl v0.heap.size 51 a3 (.agg #[.bool false,.int .i64 0]) 2 16 Tryz.underlying31 a3i a3z a3s a3b rfl (by decide) (.slice Ai k ci) k _ rfl (G3.out.hi.alloc _) (wa3.heap.size+1) (some ⟨wa3.heap.size,0,none⟩) 1 1 [.bool false,.int .i64 0] rfl rfl (Rd.new _ _ _ _) (by simp[Value.oneCell']) (by unfold maxLen;omega) (by omega) (by simp;omega) ?_)
     intro A3' c3' y3 own3 hg3 hat3
     have AP:=G3.out.appInb (x:=(false,0)) hbv (by simp) hwbp hwv own3 hg3
     have q4:y3.cell? ⟨bp,4,none⟩=some (.slice Ai k ci):=cell_of_row _ _ 4 _ _ _ AP.1
     have qf4:=zf AP.1 4
     have BM1:=hide ((Below.heap_setCell _ ⟨bp,4,none⟩ (.slice A3' (k+1) c3') bm hbmbp).trans ((hg3.block bm (by have:=lt_of_block BM.out;simp;omega) (fun e=>by have:=HLI.out bm e.symm;omega)).trans ((Below.heap_alloc _ _ _ (lt_of_block BM.out)).trans BM.out)))
     have RC1:=hide ((Below.heap_setCell _ ⟨bp,4,none⟩ (.slice A3' (k+1) c3') r hrbp).trans ((hg3.block r (by simp;omega) (fun e=>by have:=(G3.out.hi.lt r e.symm).1;omega)).trans ((Below.heap_alloc _ _ _ (by omega)).trans RC.out)))
     obtain⟨wa4,hwa4⟩:∃z,y3.setCell ⟨bp,4,none⟩ (.slice A3' (k+1) c3')=z:=⟨_,rfl⟩
     have G4:=hide AP.2
     rw[hwa4] at G4 BM1 RC1
     have HE3:=hide hwa4
     clear AP own3 hg3 hat3 hwa4 p4 lbp BM RC G3 n0 n1 ln
     have BM:=BM1
     have RC:=RC1
     clear BM1 RC1
     have HG2:=hide (HG.out.step (d:=11) (r:=((v:Int),s64 x,true,(false,0))) hkn (by omega) HRow.out)
     have HPO2:=hide (HPO.out.snoc (v:Int) (s64 x) true (false,0))
     skip
     have RCf:=RC
     have Gf:=G4
     clear BM
     go_wp2
     first | rw[HE3.out] | skip
     go_roundw
     case rel=>exact⟨k+1,j,s+11,_,_,_,_,_,A0',c0',A1',c1',A2',c2',A3',c3',by omega,by first | rfl | go_num | (congr 1;omega),HG2,HPO2,Gf,RCf⟩
     case measure=>simp[intOf]
    have hb2:bits .and .u8 (cb:Int) 2=2:=by rw[if_neg (by omega)] at hba;exact hba
    clear hba
    have GA:=hide (G_z3.out.alloc (.cells #[.bool true,.int .i64 0] 51))
    have RA:=hide (R_z3.out.below ((Below.refl z3.heap.size z3).alloc (Nat.le_refl _) (.cells #[.bool true,.int .i64 0] 51)))
    have MA:=hide (heap_alloc_last z3 (.cells #[.bool true,.int .i64 0] 51))
    obtain⟨za,hza⟩:∃z,z3.alloc (.cells #[.bool true,.int .i64 0] 51)=z:=⟨_,rfl⟩
    rw[hza] at GA RA MA
    have hzas:bm<za.heap.size:=by rw[←hza,←hbm];simp
    have HZA:=hide hza
    rw[hbm] at MA HLO HLV HLC HLI s_z3
    have HBM:=hide hbm
    clear hza hbm G_z3 R_z3
    go_upto_region 8 with fail
    rw[HZA.out,HBM.out]
    have hbmbp:bm≠bp:=by omega
    have hbmr:bm≠r:=by omega
    have n0:za.cell? ⟨bm,0,none⟩=some (.bool true):=cell_of_row _ _ 0 _ _ _ MA.out
    go_wp2_with fail
    refine (rz.get64 _ r bs (s+11,false) RA.out).mono ?_
    rintro e z4 ⟨rfl,hr9,hb9⟩
    have R4:=hide hr9
    have G4:=hide (GA.out.besides hb9 (by simp) hrv hne hwr)
    have M4:=hide ((hb9.block bm hzas hbmr).trans MA.out)
    have s_z4:v0.heap.size≤z4.heap.size:=G4.out.kb.1
    obtain⟨n0,n1⟩:=zr2 M4.out
    have nf1:=zf M4.out 1
    have ln4:=lt_of_block M4.out
    clear hr9 hb9
    by_cases h19:bs.length<s+19
    ·have hst:=hide (show (nx bs (s+11,false) 8).2=(bs.length,true) by rw[show nx bs (s+11,false) 8=_ from nx_bad (n:=8) (.inr (by dsimp only;omega))])
     have HNone:=hide (getF_none HNn.out (HG.out.none_ hkn (rowP_cut HC.out (by omega) (by rw[HLen.out];omega))))
     obtain⟨y,hy⟩:∃y,rz.num (nx bs (s+11,false) 8).1=y:=⟨_,rfl⟩
     rw[hy]
     rw[hst.out] at R4
     clear hst hy
     have hR4b:=R4.out
     obtain⟨wq,hwq⟩:∃z,z4.setCell ⟨bm,1,none⟩ (.int .i64 (wrap64 (y:Int)))=z:=⟨_,rfl⟩
     have G5:=hide (G4.out.far ⟨bm,1,none⟩ (.int .i64 (wrap64 (y:Int))) (by show _≤bm;omega) hbv (by show _≤bm;omega) (fun g hg=>by have:=HLO.out g hg;show g≠bm;omega) (fun g hg=>by have:=HLV.out g hg;show g≠bm;omega) (fun g hg=>by have:=HLC.out g hg;show g≠bm;omega) (fun g hg=>by have:=HLI.out g hg;show g≠bm;omega))
     have M5:=hide (heap_setCell_same z4 bm 1 _ _ (.int .i64 (wrap64 (y:Int))) M4.out)
     have RC5:=hide ((Below.heap_setCell z4 ⟨bm,1,none⟩ (.int .i64 (wrap64 (y:Int))) r (fun e=>hbmr e.symm)).trans R4.out.1)
     rw[hwq] at G5 M5 RC5
     have HWQ:=hide hwq
     clear hwq M4 G4 R4
     have R5:=hide (rz_of2 (s:=(bs.length,true)) HLies.out G5.out.kb RC5.out hk01 hk02 (Nat.le_refl _))
     go_upto_region 10 with fail
     rw[HWQ.out]
     clear hR4b n0 n1 nf1
     go_wp2_with fail
     refine (rz.bad_any _ r bs (bs.length,true) R5.out).mono ?_
     rintro e w9 ⟨rfl,rfl⟩
     go_wp2
     go_step3
     exact⟨rfl,GJP.mk rfl (hide ((G5.out.kb.2 _ hHv hHX).trans HZ0.out)) (hide G5.out.bl) HNone⟩
    have h19':s+19≤bs.length:=by omega
    have E4:=hide (show nx bs (s+11,false) 8=_ from nx_ok (n:=8) (by omega))
    rw[E4.out] at R4 ⊢
    dsimp only at R4 ⊢
    obtain⟨y,hy⟩:∃y,rz.num ((bs.drop (s+11)).take 8)=y:=⟨_,rfl⟩
    have HY:=hide (show rz.num (((bs.drop s).drop 11).take 8)=y by rw[List.drop_drop];exact hy)
    rw[hy]
    rw[show s+11+8=s+19 by omega] at R4
    clear hy E4
    have hR4b:=R4.out
    obtain⟨wq,hwq⟩:∃z,z4.setCell ⟨bm,1,none⟩ (.int .i64 (wrap64 (y:Int)))=z:=⟨_,rfl⟩
    have G5:=hide (G4.out.far ⟨bm,1,none⟩ (.int .i64 (wrap64 (y:Int))) (by show _≤bm;omega) hbv (by show _≤bm;omega) (fun g hg=>by have:=HLO.out g hg;show g≠bm;omega) (fun g hg=>by have:=HLV.out g hg;show g≠bm;omega) (fun g hg=>by have:=HLC.out g hg;show g≠bm;omega) (fun g hg=>by have:=HLI.out g hg;show g≠bm;omega))
    have M5:=hide (heap_setCell_same z4 bm 1 _ _ (.int .i64 (wrap64 (y:Int))) M4.out)
    have RC5:=hide ((Below.heap_setCell z4 ⟨bm,1,none⟩ (.int .i64 (wrap64 (y:Int))) r (fun e=>hbmr e.symm)).trans R4.out.1)
    rw[hwq] at G5 M5 RC5
    have HWQ:=hide hwq
    clear hwq M4 G4 R4
    have R5:=hide (rz_of2 (s:=(s+19,false)) HLies.out G5.out.kb RC5.out hk01 hk02 h19')
    go_upto_region 10 with fail
    rw[HWQ.out]
    clear hR4b n0 n1 nf1
    go_wp2_with fail
    refine (rz.bad_any _ r bs (s+19,false) R5.out).mono ?_
    rintro e w9 ⟨rfl,rfl⟩
    obtain⟨wq,rfl⟩:∃z:World,z=wq:=⟨_,rfl⟩
    clear HWQ
    rcases (show cb % 2=0∨cb % 2=1 by omega) with hpar | hpar
    ·have HRow:=hide (rowP_mail (by rw[HLen.out];omega) HV.out HX.out HC.out (by omega) (by omega) HY.out (by simp;omega):rowP (bs.drop s)=some (((v:Int),s64 x,false,(true,s64 y)),(bs.drop s).drop 19))
     have hb1:bits .and .u8 (cb:Int) 1=0:=by have h:=bits_and_small cb 1 hc8 (by decide);rw[and_one] at h;rw[show (1:Int)=((1:Nat):Int) from rfl,h];omega
     have BM:=M5
     have RC:=RC5
     have G0:=G5
     have HE3:Hid True:=hide trivial
     clear M5 RC5 G5
     have p1:wq.cell? ⟨bp,1,none⟩=some (.slice Ao k co):=cell_of_row _ _ 1 _ _ _ G0.out.hp
     have lbp:=lt_of_block G0.out.hp
     have sz0:v0.heap.size≤wq.heap.size:=G0.out.kb.1
     go_wp2_with (at_builtin;refine wpList_app rfl (.tmp 46) (.tmp 49) 40 rfl v0.heap.size 3 a0 (.int .i64 0) 1 8 Tryz.underlying40 a0i a0z a0s a0b rfl (by decide) (.slice Ao k co) k _ rfl (G0.out.ho.alloc _) (wq.heap.size+1) (some ⟨wq.heap.size,0,none⟩) 1 1 [.int .i64 (v:Int)] rfl rfl (Rd.new _ _ _ _) (by simp[Value.oneCell']) (by unfold maxLen;omega) (by omega) (by simp;omega) ?_)
     intro A0' c0' y0 own0 hg0 hat0
     have AP:=G0.out.appOwn (x:=(v:Int)) hbv (by simp) hwbp hwv own0 hg0
     have q1:y0.cell? ⟨bp,1,none⟩=some (.slice Ao k co):=cell_of_row _ _ 1 _ _ _ AP.1
     have qf1:=zf AP.1 1
     have BM1:=hide ((Below.heap_setCell _ ⟨bp,1,none⟩ (.slice A0' (k+1) c0') bm hbmbp).trans ((hg0.block bm (by have:=lt_of_block BM.out;simp;omega) (fun e=>own_ne (G0.out.ho) BM.out (by decide) bm e.symm rfl)).trans ((Below.heap_alloc _ _ _ (lt_of_block BM.out)).trans BM.out)))
     have RC1:=hide ((Below.heap_setCell _ ⟨bp,1,none⟩ (.slice A0' (k+1) c0') r hrbp).trans ((hg0.block r (by simp;omega) (fun e=>by have:=(G0.out.ho.lt r e.symm).1;omega)).trans ((Below.heap_alloc _ _ _ (by omega)).trans RC.out)))
     obtain⟨wa1,hwa1⟩:∃z,y0.setCell ⟨bp,1,none⟩ (.slice A0' (k+1) c0')=z:=⟨_,rfl⟩
     have G1:=hide AP.2
     rw[hwa1] at G1 BM1 RC1
     have HE0:=hide hwa1
     clear AP own0 hg0 hat0 hwa1 p1 lbp BM RC G0
     have BM:=BM1
     have RC:=RC1
     clear BM1 RC1
     go_upto_region 12 with fail
     rw[HE0.out]
     clear HE0 q1 qf1
     have p2:wa1.cell? ⟨bp,2,none⟩=some (.slice Av k cv):=cell_of_row _ _ 2 _ _ _ G1.out.hp
     have lbp:=lt_of_block G1.out.hp
     have sz1:v0.heap.size≤wa1.heap.size:=G1.out.kb.1
     go_wp2_with (at_builtin;refine wpList_app rfl (.tmp 53) (.tmp 56) 29 rfl v0.heap.size 2 a1 (.int .i64 0) 1 8 Tryz.underlying29 a1i a1z a1s a1b rfl (by decide) (.slice Av k cv) k _ rfl (G1.out.hv.alloc _) (wa1.heap.size+1) (some ⟨wa1.heap.size,0,none⟩) 1 1 [.int .i64 (wrap64 (x:Int))] rfl rfl (Rd.new _ _ _ _) (by simp[Value.oneCell']) (by unfold maxLen;omega) (by omega) (by simp;omega) ?_)
     intro A1' c1' y1 own1 hg1 hat1
     have AP:=G1.out.appVals (x:=(s64 x)) hbv (by simp) hwbp hwv own1 hg1
     have q2:y1.cell? ⟨bp,2,none⟩=some (.slice Av k cv):=cell_of_row _ _ 2 _ _ _ AP.1
     have qf2:=zf AP.1 2
     have BM1:=hide ((Below.heap_setCell _ ⟨bp,2,none⟩ (.slice A1' (k+1) c1') bm hbmbp).trans ((hg1.block bm (by have:=lt_of_block BM.out;simp;omega) (fun e=>own_ne (G1.out.hv) BM.out (by decide) bm e.symm rfl)).trans ((Below.heap_alloc _ _ _ (lt_of_block BM.out)).trans BM.out)))
     have RC1:=hide ((Below.heap_setCell _ ⟨bp,2,none⟩ (.slice A1' (k+1) c1') r hrbp).trans ((hg1.block r (by simp;omega) (fun e=>by have:=(G1.out.hv.lt r e.symm).1;omega)).trans ((Below.heap_alloc _ _ _ (by omega)).trans RC.out)))
     obtain⟨wa2,hwa2⟩:∃z,y1.setCell ⟨bp,2,none⟩ (.slice A1' (k+1) c1')=z:=⟨_,rfl⟩
     have G2:=hide AP.2
     rw[hwa2] at G2 BM1 RC1
     have HE1:=hide hwa2
     clear AP own1 hg1 hat1 hwa2 p2 lbp BM RC G1
     have BM:=BM1
     have RC:=RC1
     clear BM1 RC1
     go_upto_region 13 with fail
     rw[HE1.out]
     clear HE1 q2 qf2
     have p3:wa2.cell? ⟨bp,3,none⟩=some (.slice Ac k cc):=cell_of_row _ _ 3 _ _ _ G2.out.hp
     have lbp:=lt_of_block G2.out.hp
     have sz2:v0.heap.size≤wa2.heap.size:=G2.out.kb.1
     go_wp2_with (at_builtin;refine wpList_app rfl (.tmp 60) (.tmp 64) 30 rfl v0.heap.size 4 a2 (.bool false) 1 1 Tryz.underlying30 a2i a2z a2s a2b rfl (by decide) (.slice Ac k cc) k _ rfl (G2.out.hc.alloc _) (wa2.heap.size+1) (some ⟨wa2.heap.size,0,none⟩) 1 1 [.bool false] rfl rfl (Rd.new _ _ _ _) (by simp[Value.oneCell']) (by unfold maxLen;omega) (by omega) (by simp;omega) ?_)
     intro A2' c2' y2 own2 hg2 hat2
     have AP:=G2.out.appChg (x:=false) hbv (by simp) hwbp hwv own2 hg2
     have q3:y2.cell? ⟨bp,3,none⟩=some (.slice Ac k cc):=cell_of_row _ _ 3 _ _ _ AP.1
     have qf3:=zf AP.1 3
     have BM1:=hide ((Below.heap_setCell _ ⟨bp,3,none⟩ (.slice A2' (k+1) c2') bm hbmbp).trans ((hg2.block bm (by have:=lt_of_block BM.out;simp;omega) (fun e=>own_ne (G2.out.hc) BM.out (by decide) bm e.symm rfl)).trans ((Below.heap_alloc _ _ _ (lt_of_block BM.out)).trans BM.out)))
     have RC1:=hide ((Below.heap_setCell _ ⟨bp,3,none⟩ (.slice A2' (k+1) c2') r hrbp).trans ((hg2.block r (by simp;omega) (fun e=>by have:=(G2.out.hc.lt r e.symm).1;omega)).trans ((Below.heap_alloc _ _ _ (by omega)).trans RC.out)))
     obtain⟨wa3,hwa3⟩:∃z,y2.setCell ⟨bp,3,none⟩ (.slice A2' (k+1) c2')=z:=⟨_,rfl⟩
     have G3:=hide AP.2
     rw[hwa3] at G3 BM1 RC1
     have HE2:=hide hwa3
     clear AP own2 hg2 hat2 hwa3 p3 lbp BM RC G2
     have BM:=BM1
     have RC:=RC1
     clear BM1 RC1
     go_upto_region 14 with fail
     rw[HE2.out]
     clear HE2 q3 qf3
     have p4:wa3.cell? ⟨bp,4,none⟩=some (.slice Ai k ci):=cell_of_row _ _ 4 _ _ _ G3.out.hp
     obtain⟨n0,n1⟩:=zr2 BM.out
     have ln:=lt_of_block BM.out
     have lbp:=lt_of_block G3.out.hp
     have sz3:v0.heap.size≤wa3.heap.size:=G3.out.kb.1
     go_wp2_with (at_builtin;refine wpList_app rfl (.tmp 68) (.tmp 70) 31 rfl v0.heap.size 51 a3 (.agg #[.bool false,.int .i64 0]) 2 16 Tryz.underlying31 a3i a3z a3s a3b rfl (by decide) (.slice Ai k ci) k _ rfl (G3.out.hi.alloc _) (wa3.heap.size+1) (some ⟨wa3.heap.size,0,none⟩) 1 1 [.bool true,.int .i64 (wrap64 (y:Int))] rfl rfl (Rd.new _ _ _ _) (by simp[Value.oneCell']) (by unfold maxLen;omega) (by omega) (by simp;omega) ?_)
     intro A3' c3' y3 own3 hg3 hat3
     have AP:=G3.out.appInb (x:=(true,s64 y)) hbv (by simp) hwbp hwv own3 hg3
     have q4:y3.cell? ⟨bp,4,none⟩=some (.slice Ai k ci):=cell_of_row _ _ 4 _ _ _ AP.1
     have qf4:=zf AP.1 4
     have BM1:=hide ((Below.heap_setCell _ ⟨bp,4,none⟩ (.slice A3' (k+1) c3') bm hbmbp).trans ((hg3.block bm (by have:=lt_of_block BM.out;simp;omega) (fun e=>by have:=HLI.out bm e.symm;omega)).trans ((Below.heap_alloc _ _ _ (lt_of_block BM.out)).trans BM.out)))
     have RC1:=hide ((Below.heap_setCell _ ⟨bp,4,none⟩ (.slice A3' (k+1) c3') r hrbp).trans ((hg3.block r (by simp;omega) (fun e=>by have:=(G3.out.hi.lt r e.symm).1;omega)).trans ((Below.heap_alloc _ _ _ (by omega)).trans RC.out)))
     obtain⟨wa4,hwa4⟩:∃z,y3.setCell ⟨bp,4,none⟩ (.slice A3' (k+1) c3')=z:=⟨_,rfl⟩
     have G4:=hide AP.2
     rw[hwa4] at G4 BM1 RC1
     have HE3:=hide hwa4
     clear AP own3 hg3 hat3 hwa4 p4 lbp BM RC G3 n0 n1 ln
     have BM:=BM1
     have RC:=RC1
     clear BM1 RC1
     have HG2:=hide (HG.out.step (d:=19) (r:=((v:Int),s64 x,false,(true,s64 y))) hkn (by omega) HRow.out)
     have HPO2:=hide (HPO.out.snoc (v:Int) (s64 x) false (true,s64 y))
     skip
     have RCf:=RC
     have Gf:=G4
     clear BM
     go_wp2
     first | rw[HE3.out] | skip
     go_roundw
     case rel=>exact⟨k+1,j,s+19,_,_,_,_,_,A0',c0',A1',c1',A2',c2',A3',c3',by omega,by first | rfl | go_num | (congr 1;omega),HG2,HPO2,Gf,RCf⟩
     case measure=>simp[intOf]
    have HRow:=hide (rowP_mail (by rw[HLen.out];omega) HV.out HX.out HC.out (by omega) (by omega) HY.out (by simp;omega):rowP (bs.drop s)=some (((v:Int),s64 x,true,(true,s64 y)),(bs.drop s).drop 19))
    have hb1:bits .and .u8 (cb:Int) 1=1:=by have h:=bits_and_small cb 1 hc8 (by decide);rw[and_one] at h;rw[show (1:Int)=((1:Nat):Int) from rfl,h];omega
    have BM:=M5
    have RC:=RC5
    have G0:=G5
    have HE3:Hid True:=hide trivial
    clear M5 RC5 G5
    have p1:wq.cell? ⟨bp,1,none⟩=some (.slice Ao k co):=cell_of_row _ _ 1 _ _ _ G0.out.hp
    have lbp:=lt_of_block G0.out.hp
    have sz0:v0.heap.size≤wq.heap.size:=G0.out.kb.1
    go_wp2_with (at_builtin;refine wpList_app rfl (.tmp 46) (.tmp 49) 40 rfl v0.heap.size 3 a0 (.int .i64 0) 1 8 Tryz.underlying40 a0i a0z a0s a0b rfl (by decide) (.slice Ao k co) k _ rfl (G0.out.ho.alloc _) (wq.heap.size+1) (some ⟨wq.heap.size,0,none⟩) 1 1 [.int .i64 (v:Int)] rfl rfl (Rd.new _ _ _ _) (by simp[Value.oneCell']) (by unfold maxLen;omega) (by omega) (by simp;omega) ?_)
    intro A0' c0' y0 own0 hg0 hat0
    have AP:=G0.out.appOwn (x:=(v:Int)) hbv (by simp) hwbp hwv own0 hg0
    have q1:y0.cell? ⟨bp,1,none⟩=some (.slice Ao k co):=cell_of_row _ _ 1 _ _ _ AP.1
    have qf1:=zf AP.1 1
    have BM1:=hide ((Below.heap_setCell _ ⟨bp,1,none⟩ (.slice A0' (k+1) c0') bm hbmbp).trans ((hg0.block bm (by have:=lt_of_block BM.out;simp;omega) (fun e=>own_ne (G0.out.ho) BM.out (by decide) bm e.symm rfl)).trans ((Below.heap_alloc _ _ _ (lt_of_block BM.out)).trans BM.out)))
    have RC1:=hide ((Below.heap_setCell _ ⟨bp,1,none⟩ (.slice A0' (k+1) c0') r hrbp).trans ((hg0.block r (by simp;omega) (fun e=>by have:=(G0.out.ho.lt r e.symm).1;omega)).trans ((Below.heap_alloc _ _ _ (by omega)).trans RC.out)))
    obtain⟨wa1,hwa1⟩:∃z,y0.setCell ⟨bp,1,none⟩ (.slice A0' (k+1) c0')=z:=⟨_,rfl⟩
    have G1:=hide AP.2
    rw[hwa1] at G1 BM1 RC1
    have HE0:=hide hwa1
    clear AP own0 hg0 hat0 hwa1 p1 lbp BM RC G0
    have BM:=BM1
    have RC:=RC1
    clear BM1 RC1
    go_upto_region 12 with fail
    rw[HE0.out]
    clear HE0 q1 qf1
    have p2:wa1.cell? ⟨bp,2,none⟩=some (.slice Av k cv):=cell_of_row _ _ 2 _ _ _ G1.out.hp
    have lbp:=lt_of_block G1.out.hp
    have sz1:v0.heap.size≤wa1.heap.size:=G1.out.kb.1
    go_wp2_with (at_builtin;refine wpList_app rfl (.tmp 53) (.tmp 56) 29 rfl v0.heap.size 2 a1 (.int .i64 0) 1 8 Tryz.underlying29 a1i a1z a1s a1b rfl (by decide) (.slice Av k cv) k _ rfl (G1.out.hv.alloc _) (wa1.heap.size+1) (some ⟨wa1.heap.size,0,none⟩) 1 1 [.int .i64 (wrap64 (x:Int))] rfl rfl (Rd.new _ _ _ _) (by simp[Value.oneCell']) (by unfold maxLen;omega) (by omega) (by simp;omega) ?_)
    intro A1' c1' y1 own1 hg1 hat1
    have AP:=G1.out.appVals (x:=(s64 x)) hbv (by simp) hwbp hwv own1 hg1
    have q2:y1.cell? ⟨bp,2,none⟩=some (.slice Av k cv):=cell_of_row _ _ 2 _ _ _ AP.1
    have qf2:=zf AP.1 2
    have BM1:=hide ((Below.heap_setCell _ ⟨bp,2,none⟩ (.slice A1' (k+1) c1') bm hbmbp).trans ((hg1.block bm (by have:=lt_of_block BM.out;simp;omega) (fun e=>own_ne (G1.out.hv) BM.out (by decide) bm e.symm rfl)).trans ((Below.heap_alloc _ _ _ (lt_of_block BM.out)).trans BM.out)))
    have RC1:=hide ((Below.heap_setCell _ ⟨bp,2,none⟩ (.slice A1' (k+1) c1') r hrbp).trans ((hg1.block r (by simp;omega) (fun e=>by have:=(G1.out.hv.lt r e.symm).1;omega)).trans ((Below.heap_alloc _ _ _ (by omega)).trans RC.out)))
    obtain⟨wa2,hwa2⟩:∃z,y1.setCell ⟨bp,2,none⟩ (.slice A1' (k+1) c1')=z:=⟨_,rfl⟩
    have G2:=hide AP.2
    rw[hwa2] at G2 BM1 RC1
    have HE1:=hide hwa2
    clear AP own1 hg1 hat1 hwa2 p2 lbp BM RC G1
    have BM:=BM1
    have RC:=RC1
    clear BM1 RC1
    go_upto_region 13 with fail
    rw[HE1.out]
    clear HE1 q2 qf2
    have p3:wa2.cell? ⟨bp,3,none⟩=some (.slice Ac k cc):=cell_of_row _ _ 3 _ _ _ G2.out.hp
    have lbp:=lt_of_block G2.out.hp
    have sz2:v0.heap.size≤wa2.heap.size:=G2.out.kb.1
    go_wp2_with (at_builtin;refine wpList_app rfl (.tmp 60) (.tmp 64) 30 rfl v0.heap.size 4 a2 (.bool false) 1 1 Tryz.underlying30 a2i a2z a2s a2b rfl (by decide) (.slice Ac k cc) k _ rfl (G2.out.hc.alloc _) (wa2.heap.size+1) (some ⟨wa2.heap.size,0,none⟩) 1 1 [.bool true] rfl rfl (Rd.new _ _ _ _) (by simp[Value.oneCell']) (by unfold maxLen;omega) (by omega) (by simp;omega) ?_)
    intro A2' c2' y2 own2 hg2 hat2
    have AP:=G2.out.appChg (x:=true) hbv (by simp) hwbp hwv own2 hg2
    have q3:y2.cell? ⟨bp,3,none⟩=some (.slice Ac k cc):=cell_of_row _ _ 3 _ _ _ AP.1
    have qf3:=zf AP.1 3
    have BM1:=hide ((Below.heap_setCell _ ⟨bp,3,none⟩ (.slice A2' (k+1) c2') bm hbmbp).trans ((hg2.block bm (by have:=lt_of_block BM.out;simp;omega) (fun e=>own_ne (G2.out.hc) BM.out (by decide) bm e.symm rfl)).trans ((Below.heap_alloc _ _ _ (lt_of_block BM.out)).trans BM.out)))
    have RC1:=hide ((Below.heap_setCell _ ⟨bp,3,none⟩ (.slice A2' (k+1) c2') r hrbp).trans ((hg2.block r (by simp;omega) (fun e=>by have:=(G2.out.hc.lt r e.symm).1;omega)).trans ((Below.heap_alloc _ _ _ (by omega)).trans RC.out)))
    obtain⟨wa3,hwa3⟩:∃z,y2.setCell ⟨bp,3,none⟩ (.slice A2' (k+1) c2')=z:=⟨_,rfl⟩
    have G3:=hide AP.2
    rw[hwa3] at G3 BM1 RC1
    have HE2:=hide hwa3
    clear AP own2 hg2 hat2 hwa3 p3 lbp BM RC G2
    have BM:=BM1
    have RC:=RC1
    clear BM1 RC1
    go_upto_region 14 with fail
    rw[HE2.out]
    clear HE2 q3 qf3
    have p4:wa3.cell? ⟨bp,4,none⟩=some (.slice Ai k ci):=cell_of_row _ _ 4 _ _ _ G3.out.hp
    obtain⟨n0,n1⟩:=zr2 BM.out
    have ln:=lt_of_block BM.out
    have lbp:=lt_of_block G3.out.hp
    have sz3:v0.heap.size≤wa3.heap.size:=G3.out.kb.1
    go_wp2_with (at_builtin;refine wpList_app rfl (.tmp 68) (.tmp 70) 31 rfl v0.heap.size 51 a3 (.agg #[.bool false,.int .i64 0]) 2 16 Tryz.underlying31 a3i a3z a3s a3b rfl (by decide) (.slice Ai k ci) k _ rfl (G3.out.hi.alloc _) (wa3.heap.size+1) (some ⟨wa3.heap.size,0,none⟩) 1 1 [.bool true,.int .i64 (wrap64 (y:Int))] rfl rfl (Rd.new _ _ _ _) (by simp[Value.oneCell']) (by unfold maxLen;omega) (by omega) (by simp;omega) ?_)
    intro A3' c3' y3 own3 hg3 hat3
    have AP:=G3.out.appInb (x:=(true,s64 y)) hbv (by simp) hwbp hwv own3 hg3
    have q4:y3.cell? ⟨bp,4,none⟩=some (.slice Ai k ci):=cell_of_row _ _ 4 _ _ _ AP.1
    have qf4:=zf AP.1 4
    have BM1:=hide ((Below.heap_setCell _ ⟨bp,4,none⟩ (.slice A3' (k+1) c3') bm hbmbp).trans ((hg3.block bm (by have:=lt_of_block BM.out;simp;omega) (fun e=>by have:=HLI.out bm e.symm;omega)).trans ((Below.heap_alloc _ _ _ (lt_of_block BM.out)).trans BM.out)))
    have RC1:=hide ((Below.heap_setCell _ ⟨bp,4,none⟩ (.slice A3' (k+1) c3') r hrbp).trans ((hg3.block r (by simp;omega) (fun e=>by have:=(G3.out.hi.lt r e.symm).1;omega)).trans ((Below.heap_alloc _ _ _ (by omega)).trans RC.out)))
    obtain⟨wa4,hwa4⟩:∃z,y3.setCell ⟨bp,4,none⟩ (.slice A3' (k+1) c3')=z:=⟨_,rfl⟩
    have G4:=hide AP.2
    rw[hwa4] at G4 BM1 RC1
    have HE3:=hide hwa4
    clear AP own3 hg3 hat3 hwa4 p4 lbp BM RC G3 n0 n1 ln
    have BM:=BM1
    have RC:=RC1
    clear BM1 RC1
    have HG2:=hide (HG.out.step (d:=19) (r:=((v:Int),s64 x,true,(true,s64 y))) hkn (by omega) HRow.out)
    have HPO2:=hide (HPO.out.snoc (v:Int) (s64 x) true (true,s64 y))
    skip
    have RCf:=RC
    have Gf:=G4
    clear BM
    go_wp2
    first | rw[HE3.out] | skip
    go_roundw
    case rel=>exact⟨k+1,j,s+19,_,_,_,_,_,A0',c0',A1',c1',A2',c2',A3',c3',by omega,by first | rfl | go_num | (congr 1;omega),HG2,HPO2,Gf,RCf⟩
    case measure=>simp[intOf]
   obtain rfl:j=0:=by omega
   obtain rfl:k=n:=by omega
   have Rw:=hide (rz_of HLies.out GR.out.kb RC.out hk01 hk02 hsb)
   have hHX:=HHX.out
   go_wp2_with fail
   refine (rz.bad_any _ r bs (s,false) Rw.out).mono ?_
   rintro e w9 ⟨rfl,rfl⟩
   go_wp2_with fail
   refine (rz.left_any _ r bs (s,false) Rw.out).mono ?_
   rintro e wl ⟨rfl,hbl⟩
   dsimp only
   have GL:=hide (GetSt.grown GR.out hbl)
   clear hbl Rw GR RC
   have ZW:=hide ((GL.out.kb.2 _ hHv hHX).trans HZ0.out)
   have HBf:=hide GL.out.bl
   by_cases hs:s=bs.length
   ·have hGo:=HG.out
    rw[hs] at hGo
    have hGA:=getF_all HH6.out HNn.out hGo
    rw[HM.out] at hGA
    have HGA:=hide hGA
    have hz:(bs.length:Int)-(s:Int)=0:=by omega
    clear hs hGo hGA
    have hrl:=HG.out.1
    have HSL:=hide (slen_of (m:=(m:Int)) HPO.out hrl)
    have HSI:=hide (sin_of HPO.out GL.out)
    obtain⟨p0,p1,p2,p3,p4⟩:=zr5 GL.out.hp
    have lbp:=lt_of_block GL.out.hp
    clear hrl
    obtain⟨pp,hpp⟩:∃z,partOf (m:Int) rs=z:=⟨_,rfl⟩
    have HStep:Hid (pp.step=(m:Int)):=hide (by rw[←hpp];rfl)
    rw[hpp] at HSL HSI HGA
    go_wp2_with fail
    have hcall:=right_any wl pp Ao Av Ac Ai k k k k co cv cc ci HSL.out (by omega) HSI.out
    rw[HStep.out] at hcall
    refine hcall.mono ?_
    clear hcall
    rintro e wr2 ⟨rfl,hb2⟩
    have GW:=hide (GetSt.grown GL.out hb2)
    have HSI2:=hide (HSI.out.next hb2)
    have HNEW:Hid (NewAA w.heap.size Ao∧NewAA w.heap.size Av∧NewAA w.heap.size Ac∧NewAA w.heap.size Ai):=hide ⟨own_newA GW.out.ho (by omega),own_newA GW.out.hv (by omega),own_newA GW.out.hc (by omega),own_newA GW.out.hi (by omega)⟩
    clear hb2 HBf ZW p0 p1 p2 p3 p4
    have ZW:=hide ((GW.out.kb.2 _ hHv hHX).trans HZ0.out)
    have HBf:=hide GW.out.bl
    rcases hrb:rightB pp with _ | _
    ·have HN:Hid (getF bs=none):=hide (by rw[HGA.out,hrb];rfl)
     clear hrb
     obtain⟨z0,z1,z2,z3,z4⟩:=zr5 ZW.out
     have zq:=zf ZW.out;have zf0:=zq 0;have zf1:=zq 1;have zf2:=zq 2;have zf3:=zq 3;have zf4:=zq 4;clear zq
     have HFin:=hide (zero_fin ZW.out HBf.out)
     go_wp2
     go_step3
     go_wp2
     obtain⟨f,hf,hfB,h6⟩:=HFin.out
     rw[hf]
     obtain⟨y0,y1,y2,y3,y4⟩:=zr5 h6
     exact bodyPost_ret (v:=.tuple #[.agg #[.int .i64 0,.slice none 0 0,.slice none 0 0,.slice none 0 0,.slice none 0 0],.int .i64 140]) (by simp[results,Tryz.results19,go_sem,y0,y1,y2,y3,y4]) rfl (get_bad HN.out hfB)
    have HN:Hid (getF bs=some pp):=hide (by rw[HGA.out,hrb];rfl)
    clear hrb
    obtain⟨p0,p1,p2,p3,p4⟩:=zr5 GW.out.hp
    have lbp2:=lt_of_block GW.out.hp
    obtain⟨z0,z1,z2,z3,z4⟩:=zr5 ZW.out
    have zq:=zf ZW.out;have zf0:=zq 0;have zf1:=zq 1;have zf2:=zq 2;have zf3:=zq 3;have zf4:=zq 4;clear zq
    have hF0:=ZW.out
    have hF1:=heap_setCell_same _ w.heap.size 0 _ _ (.int .i64 (m:Int)) hF0
    have hF2:=heap_setCell_same _ w.heap.size 1 _ _ (.slice Ao k co) hF1
    have hF3:=heap_setCell_same _ w.heap.size 2 _ _ (.slice Av k cv) hF2
    have hF4:=heap_setCell_same _ w.heap.size 3 _ _ (.slice Ac k cc) hF3
    have hF5:=heap_setCell_same _ w.heap.size 4 _ _ (.slice Ai k ci) hF4
    have hlW:w.heap.size≤w.heap.size:=Nat.le_refl _
    have fin:∃f,(((((wr2.setCell ⟨w.heap.size,0,none⟩ (.int .i64 (m:Int))).setCell ⟨w.heap.size,1,none⟩ (.slice Ao k co)).setCell ⟨w.heap.size,2,none⟩ (.slice Av k cv)).setCell ⟨w.heap.size,3,none⟩ (.slice Ac k cc)).setCell ⟨w.heap.size,4,none⟩ (.slice Ai k ci))=f∧Below w.heap.size w f∧f.heap[w.heap.size]?=some (.cells #[.int .i64 (m:Int),.slice Ao k co,.slice Av k cv,.slice Ac k cc,.slice Ai k ci] 42)∧SIn f pp Ao Av Ac Ai:=⟨_,rfl,(((((HBf.out.setCell (p:=⟨w.heap.size,0,none⟩) hlW (.int .i64 (m:Int))).setCell (p:=⟨w.heap.size,1,none⟩) hlW (.slice Ao k co)).setCell (p:=⟨w.heap.size,2,none⟩) hlW (.slice Av k cv)).setCell (p:=⟨w.heap.size,3,none⟩) hlW (.slice Ac k cc)).setCell (p:=⟨w.heap.size,4,none⟩) hlW (.slice Ai k ci)),hF5,by rw[←hpp];exact sin_rows HPO.out (((((rows_set (rows_of GW.out) hHv 0 _).set hHv 1 _).set hHv 2 _).set hHv 3 _).set hHv 4 _)⟩
    have FIN:=hide fin
    clear fin hF0 hF1 hF2 hF3 hF4 hF5
    go_wp2
    obtain⟨f,hf,hfB,h6,hfS⟩:=FIN.out
    rw[hf]
    obtain⟨y0,y1,y2,y3,y4⟩:=zr5 h6
    have hgo:=get_ok (w:=w) (co:=co) (cv:=cv) (cc:=cc) (ci:=ci) HN.out HSL.out (by omega) hfS hfB HNEW.out
    rw[HStep.out] at hgo
    exact bodyPost_ret (v:=.tuple #[.agg #[.int .i64 (m:Int),.slice Ao k co,.slice Av k cv,.slice Ac k cc,.slice Ai k ci],.int .i64 0]) (by simp[results,Tryz.results19,go_sem,y0,y1,y2,y3,y4]) rfl hgo
   have HN:=hide (getF_left HNn.out HG.out hs)
   have hz:((bs.length:Int)-(s:Int) == 0)=false:=by simp only[beq_eq_false_iff_ne,ne_eq];omega
   clear hs
   obtain⟨z0,z1,z2,z3,z4⟩:=zr5 ZW.out
   have zq:=zf ZW.out;have zf0:=zq 0;have zf1:=zq 1;have zf2:=zq 2;have zf3:=zq 3;have zf4:=zq 4;clear zq
   have HFin:=hide (zero_fin ZW.out HBf.out)
   go_wp2
   go_step3
   go_wp2
   obtain⟨f,hf,hfB,h6⟩:=HFin.out
   rw[hf]
   obtain⟨y0,y1,y2,y3,y4⟩:=zr5 h6
   exact bodyPost_ret (v:=.tuple #[.agg #[.int .i64 0,.slice none 0 0,.slice none 0 0,.slice none 0 0,.slice none 0 0],.int .i64 140]) (by simp[results,Tryz.results19,go_sem,y0,y1,y2,y3,y4]) rfl (get_bad HN.out hfB)
 rintro a' w' ⟨u,rfl,ZW,HBf,HN⟩
 unfold GJF
 obtain⟨z0,z1,z2,z3,z4⟩:=zr5 ZW.out
 have zq:=zf ZW.out;have zf0:=zq 0;have zf1:=zq 1;have zf2:=zq 2;have zf3:=zq 3;have zf4:=zq 4;clear zq
 have HFin:=hide (zero_fin ZW.out HBf.out)
 go_wp2
 obtain⟨f,hf,hfB,h6⟩:=HFin.out
 rw[hf]
 obtain⟨y0,y1,y2,y3,y4⟩:=zr5 h6
 exact bodyPost_ret (v:=.tuple #[.agg #[.int .i64 0,.slice none 0 0,.slice none 0 0,.slice none 0 0,.slice none 0 0],.int .i64 140]) (by simp[results,Tryz.results19,go_sem,y0,y1,y2,y3,y4]) rfl (get_bad HN.out hfB)
theorem sget_any (w:World) (A0:Option Addr) (bs:List UInt8) (L c:Nat) (hL:bs.length=L) (hR:Rd w w.heap.size A0 (u8s bs)) (hl:L≤1000000) :
  Calls Tryz.prog 19 #[.slice A0 L c] w (GetPost w (getP bs) (getE bs)):=(sgetN_any w A0 bs L c hL hR hl).mono fun _ _ h=>h.old
end Go.Proofs.YtpojjmbalgmcoaaGreat
namespace Go.Proofs.YtpojjmbalgmcoaaGreat
open Go.RowKit
def pv (vals:List Int) (l:List Int):List Int:=l.map fun v=>vals.getD v.toNat 0
def pc (chg:List Bool) (l:List Int):List Bool:=l.map fun v=>chg.getD v.toNat false
def pm (inb:List Ml) (l:List Int):List Ml:=l.map fun v=>inb.getD v.toNat (false,0)
def upto (V:Nat):List Int:=(List.range V).map fun (i:Nat)=>(i:Int)
theorem upto_len (V:Nat):(upto V).length=V:=by simp[upto]
theorem upto_snoc (i:Nat):upto (i+1)=upto i ++ [(i:Int)]:=by simp[upto,List.range_succ]
def wholeP (st:Int) (vals:List Int) (chg:List Bool) (inb:List Ml):SPart:=⟨st,upto vals.length,vals,chg,inb⟩
def pickP (st:Int) (vals:List Int) (chg:List Bool) (inb:List Ml) (l:List Int):SPart:=⟨st,l,pv vals l,pc chg l,pm inb l⟩
def takeE (st:Int) (vals:List Int) (chg:List Bool) (inb:List Ml) (n k:Int):Int:=if n<1∨64<n∨k<0∨n≤k then 2 else if vals.length=0∨rightB (wholeP st vals chg inb)=false then 4 else 0
def takeP (st:Int) (vals:List Int) (chg:List Bool) (inb:List Ml) (n k:Int):SPart:=if takeE st vals chg inb n k=0 then pickP st vals chg inb (ownUpto n k vals.length) else ⟨0,[],[],[],[]⟩
theorem owned_upto (V:Nat) (n k:Int) (hV:V≤512):ownedF (V:Int) n k=ownUpto n k V:=by
 unfold ownedF
 congr 1
 omega
theorem ofF_one {v:Int} (h0:0≤v) (h1:v<512):ofF v 1=0:=by
 unfold ofF
 rw[if_neg (by omega)]
 omega
theorem own_all_ (V:Nat) (hV:V≤512):ownUpto 1 0 V=upto V:=by
 unfold ownUpto upto
 rw[List.filter_eq_self]
 intro v hv
 obtain⟨j,hj,rfl⟩:=List.mem_map.1 hv
 have:=List.mem_range.1 hj
 unfold sel
 rw[ofF_one (by omega) (by omega)]
 rfl
theorem pv_snoc {vals:List Int} {l:List Int} {i:Nat} {x:Int} (h:vals[i]?=some x):pv vals (l ++ [(i:Int)])=pv vals l ++ [x]:=by
 simp[pv,List.getD,h]
theorem pc_snoc {chg:List Bool} {l:List Int} {i:Nat} {x:Bool} (h:chg[i]?=some x):pc chg (l ++ [(i:Int)])=pc chg l ++ [x]:=by
 simp[pc,List.getD,h]
theorem pm_snoc {inb:List Ml} {l:List Int} {i:Nat} {x:Ml} (h:inb[i]?=some x):pm inb (l ++ [(i:Int)])=pm inb l ++ [x]:=by
 simp[pm,List.getD,h]
theorem own_snoc_in {n k:Int} {i:Nat} (h0:0≤k) (h:ofF (i:Int) n=k):ownUpto n k (i+1)=ownUpto n k i ++ [(i:Int)]:=by
 rw[own_snoc,if_pos (by unfold sel;simp[h0,h])]
theorem own_snoc_out {n k:Int} {i:Nat} (h:¬ofF (i:Int) n=k):ownUpto n k (i+1)=ownUpto n k i:=by
 rw[own_snoc,if_neg (by unfold sel;simp[h]),List.append_nil]
theorem right_whole_lens {st:Int} {vals:List Int} {chg:List Bool} {inb:List Ml} (h:rightB (wholeP st vals chg inb)=true):chg.length=vals.length∧inb.length=vals.length:=by
 unfold rightB wholeP at h
 simp only[Bool.and_eq_true,decide_eq_true_eq,upto_len] at h
 omega
theorem take_ok {w f:World} {st:Int} {vals:List Int} {chg:List Bool} {inb:List Ml} {n k:Int} {q:Nat} {Ao:Option Addr} {co:Nat} {Av:Option Addr} {cv:Nat} {Ac:Option Addr} {cc:Nat} {Ai:Option Addr} {ci:Nat} (hE:takeE st vals chg inb n k=0) (hq:(ownUpto n k vals.length).length=q) (hb60:q≤65535)
  (hi:SIn f (pickP st vals chg inb (ownUpto n k vals.length)) Ao Av Ac Ai) (hb:Below w.heap.size w f):GetPost w (takeP st vals chg inb n k) (takeE st vals chg inb n k) (.returned (.tuple #[.agg #[.int .i64 st,.slice Ao q co,.slice Av q cv,.slice Ac q cc,.slice Ai q ci],.int .i64 0])) f:=by
 unfold takeP
 rw[hE,if_pos rfl]
 exact⟨q,q,q,q,Ao,co,Av,cv,Ac,cc,Ai,ci,⟨hq,by simp[pickP,pv,hq],by simp[pickP,pc,hq],by simp[pickP,pm,hq]⟩,hb60,rfl,hi,hb⟩
theorem take_bad {w f:World} {st:Int} {vals:List Int} {chg:List Bool} {inb:List Ml} {n k c:Int} (hE:takeE st vals chg inb n k=c) (hc:c≠0) (hb:Below w.heap.size w f):GetPost w (takeP st vals chg inb n k) (takeE st vals chg inb n k) (.returned (.tuple #[.agg #[.int .i64 0,.slice none 0 0,.slice none 0 0,.slice none 0 0,.slice none 0 0],.int .i64 c])) f:=by
 unfold takeP
 rw[hE,if_neg hc]
 exact⟨0,0,0,0,none,0,none,0,none,0,none,0,⟨rfl,rfl,rfl,rfl⟩,by omega,rfl,⟨Rd.nil_,Rd.nil_,Rd.nil_,Rd.nil_⟩,hb⟩
theorem five_fin {w wf:World} {H:Nat} {T:TypeId} (v0 v1 v2 v3 v4:Value) (hw:w.heap.size≤H) (hz:wf.heap[H]?=some (.cells #[.int .i64 0,.slice none 0 0,.slice none 0 0,.slice none 0 0,.slice none 0 0] T)) (hb:Below w.heap.size w wf):∃f,(((((wf.setCell ⟨H,0,none⟩ (v0)).setCell ⟨H,1,none⟩ (v1)).setCell ⟨H,2,none⟩ (v2)).setCell ⟨H,3,none⟩ (v3)).setCell ⟨H,4,none⟩ (v4))=f∧Below w.heap.size w f∧f.heap[H]?=some (.cells #[v0,v1,v2,v3,v4] T):=by
 have hF0:=hz
 have hF1:=heap_setCell_same _ H 0 _ _ v0 hF0
 have hF2:=heap_setCell_same _ H 1 _ _ v1 hF1
 have hF3:=heap_setCell_same _ H 2 _ _ v2 hF2
 have hF4:=heap_setCell_same _ H 3 _ _ v3 hF3
 have hF5:=heap_setCell_same _ H 4 _ _ v4 hF4
 exact⟨_,rfl,(((((hb.setCell (p:=⟨H,0,none⟩) hw v0).setCell (p:=⟨H,1,none⟩) hw v1).setCell (p:=⟨H,2,none⟩) hw v2).setCell (p:=⟨H,3,none⟩) hw v3).setCell (p:=⟨H,4,none⟩) hw v4),hF5⟩
theorem five_fin_rows {w wf:World} {H B:Nat} {T:TypeId} {own vals:List Int} {chg:List Bool} {inb:List Ml} {Ao:Option Addr} {co:Nat} {Av:Option Addr} {cv:Nat} {Ac:Option Addr} {cc:Nat} {Ai:Option Addr} {ci no nv nc ni:Nat} (v0 v1 v2 v3 v4:Value) (hw:w.heap.size≤H) (hz:wf.heap[H]?=some (.cells #[.int .i64 0,.slice none 0 0,.slice none 0 0,.slice none 0 0,.slice none 0 0] T)) (hb:Below w.heap.size w wf) (hH:H<B) (hr:Rows4 B own vals chg inb Ao co Av cv Ac cc Ai ci no nv nc ni wf) :
  ∃f,(((((wf.setCell ⟨H,0,none⟩ (v0)).setCell ⟨H,1,none⟩ (v1)).setCell ⟨H,2,none⟩ (v2)).setCell ⟨H,3,none⟩ (v3)).setCell ⟨H,4,none⟩ (v4))=f∧Below w.heap.size w f∧f.heap[H]?=some (.cells #[v0,v1,v2,v3,v4] T)∧Rows4 B own vals chg inb Ao co Av cv Ac cc Ai ci no nv nc ni f:=by
 obtain⟨f,h1,h2,h3⟩:=five_fin v0 v1 v2 v3 v4 hw hz hb
 refine⟨f,h1,h2,h3,?_⟩
 rw[←h1]
 exact ((((hr.set hH 0 _).set hH 1 _).set hH 2 _).set hH 3 _).set hH 4 _
theorem Rows4.sin {B:Nat} {st:Int} {own vals:List Int} {chg:List Bool} {inb:List Ml} {Ao:Option Addr} {co:Nat} {Av:Option Addr} {cv:Nat} {Ac:Option Addr} {cc:Nat} {Ai:Option Addr} {ci no nv nc ni:Nat} {w:World} (g:Rows4 B own vals chg inb Ao co Av cv Ac cc Ai ci no nv nc ni w):SIn w ⟨st,own,vals,chg,inb⟩ Ao Av Ac Ai:=⟨Rd.of_own g.ho,Rd.of_own g.hv,Rd.of_own g.hc,Rd.of_own g.hi⟩
theorem GetSt.drew {X:List Nat} {v0 w0 w:World} {bp:Nat} {T:TypeId} {st:Int} {own vals:List Int} {chg:List Bool} {inb:List Ml} {Ao:Option Addr} {co:Nat} {Av:Option Addr} {cv:Nat} {Ac:Option Addr} {cc:Nat} {Ai:Option Addr} {ci no nv nc ni:Nat} (h:GetSt X v0 w0 bp T st own vals chg inb Ao co Av cv Ac cc Ai ci no nv nc ni w):GetSt X v0 w0 bp T st own vals chg inb Ao co Av cv Ac cc Ai ci no nv nc ni w.drew:=⟨h.hp,h.ho.drew,h.hv.drew,h.hc.drew,h.hi.drew,h.kb.drew,h.bl.drew⟩
theorem five_own {w wf:World} {H B:Nat} {T e:TypeId} {s n:Nat} {v:Value} {xs:List Value} (v0 v1 v2 v3 v4:Value) (hw:w.heap.size≤H) (hz:wf.heap[H]?=some (.cells #[.int .i64 0,.slice none 0 0,.slice none 0 0,.slice none 0 0,.slice none 0 0] T)) (hb:Below w.heap.size w wf) (hH:H<B) (hr:wf.ownsRow B e s v n xs) :
  ∃f,(((((wf.setCell ⟨H,0,none⟩ v0).setCell ⟨H,1,none⟩ v1).setCell ⟨H,2,none⟩ v2).setCell ⟨H,3,none⟩ v3).setCell ⟨H,4,none⟩ v4)=f∧Below w.heap.size w f∧f.heap[H]?=some (.cells #[v0,v1,v2,v3,v4] T)∧f.ownsRow B e s v n xs:=by
 obtain⟨f,h1,h2,h3⟩:=five_fin v0 v1 v2 v3 v4 hw hz hb
 refine⟨f,h1,h2,h3,?_⟩
 rw[←h1]
 exact ownsRow_setCell_below (a:=⟨H,4,none⟩) (ownsRow_setCell_below (a:=⟨H,3,none⟩) (ownsRow_setCell_below (a:=⟨H,2,none⟩) (ownsRow_setCell_below (a:=⟨H,1,none⟩) (ownsRow_setCell_below (a:=⟨H,0,none⟩) hr hH _) hH _) hH _) hH _) hH _
theorem heap_alloc_keepA {w:World} {o c:Obj} {b:Nat} (h:w.heap[b]?=some c):(w.alloc o).heap[b]?=some c:=(((Below.refl w.heap.size w).alloc (Nat.le_refl _) o).block b (Array.getElem?_eq_some_iff.1 h).1).trans h
theorem rwhole_any (w:World) (st sm mo:Int) (A1 A2 A3:Option Addr) (V n2 n3 c1 c2 c3:Nat) (hV:V≤512):Calls Tryz.prog 53 #[.agg #[.int .i64 st,.slice A1 V c1,.slice A2 n2 c2,.slice A3 n3 c3,.int .i64 sm,.int .i64 mo]] w fun e w'=>∃A c,e = .returned (.agg #[.int .i64 st,.slice A V c,.slice A1 V c1,.slice A2 n2 c2,.slice A3 n3 c3])∧Rd w' w'.heap.size A (i64s (upto V))∧Below w.heap.size w w':=by
 obtain⟨a0,a0i,a0z,a0s,a0b⟩:=info_parts (show (Tryz.prog.info? 3).map (fun i=>(i.zero,i.size,i.bytes))=some (some (.int .i64 0),1,8) by kernel_rfl)
 obtain⟨v0,hu⟩:∃u,(((w.alloc (.cells #[.int .i64 st,.slice A1 V c1,.slice A2 n2 c2,.slice A3 n3 c3,.int .i64 sm,.int .i64 mo] 33)).alloc (.cells #[.int .i64 0,.slice none 0 0,.slice none 0 0,.slice none 0 0,.slice none 0 0] 64)).alloc (.cells #[.int .i64 st,.slice none 0 0,.slice A1 V c1,.slice A2 n2 c2,.slice A3 n3 c3] 64))=u:=⟨_,rfl⟩
 have hzu:w.heap.size+1+1<v0.heap.size:=by rw[←hu];simp
 have HBv:=hide (show Below w.heap.size w v0 by rw[←hu];exact (((Below.refl _ _).alloc (Nat.le_refl _) _).alloc (by simp) _).alloc (by simp;omega) _)
 have M0:=hide (show v0.heap[w.heap.size]?=some (Obj.cells #[.int .i64 st,.slice A1 V c1,.slice A2 n2 c2,.slice A3 n3 c3,.int .i64 sm,.int .i64 mo] 33) by rw[←hu];exact heap_alloc_keepA (heap_alloc_keepA ((by have h:=heap_alloc_last w (.cells #[.int .i64 st,.slice A1 V c1,.slice A2 n2 c2,.slice A3 n3 c3,.int .i64 sm,.int .i64 mo] 33);simpa using h))))
 have M1:=hide (show v0.heap[w.heap.size+1]?=some (Obj.cells #[.int .i64 0,.slice none 0 0,.slice none 0 0,.slice none 0 0,.slice none 0 0] 64) by rw[←hu];exact heap_alloc_keepA ((by have h:=heap_alloc_last (w.alloc (.cells #[.int .i64 st,.slice A1 V c1,.slice A2 n2 c2,.slice A3 n3 c3,.int .i64 sm,.int .i64 mo] 33)) (.cells #[.int .i64 0,.slice none 0 0,.slice none 0 0,.slice none 0 0,.slice none 0 0] 64);simpa using h)))
 have M2:=hide (show v0.heap[w.heap.size+1+1]?=some (Obj.cells #[.int .i64 st,.slice none 0 0,.slice A1 V c1,.slice A2 n2 c2,.slice A3 n3 c3] 64) by rw[←hu];exact (by have h:=heap_alloc_last ((w.alloc (.cells #[.int .i64 st,.slice A1 V c1,.slice A2 n2 c2,.slice A3 n3 c3,.int .i64 sm,.int .i64 mo] 33)).alloc (.cells #[.int .i64 0,.slice none 0 0,.slice none 0 0,.slice none 0 0,.slice none 0 0] 64)) (.cells #[.int .i64 st,.slice none 0 0,.slice A1 V c1,.slice A2 n2 c2,.slice A3 n3 c3] 64);simpa using h))
 have HU:=hide hu
 clear hu
 go_enter Tryz.func53,Tryz.ntmps53
 go_upto_region 2 with fail
 rw[HU.out]
 go_wp2
 go_loopw [4] (fun v4 wr=>∃(i:Nat) (A:Option Addr) (c:Nat),i≤V∧v4 = .int .i64 i∧Hid (wr.heap[w.heap.size+1+1]?=some (.cells #[.int .i64 st,.slice A i c,.slice A1 V c1,.slice A2 n2 c2,.slice A3 n3 c3] 64))∧Hid (wr.ownsRow v0.heap.size 3 1 (.slice A i c) i (i64s (upto i)))∧Hid (KB [w.heap.size+1+1] v0 wr)∧Hid (Below w.heap.size w wr)) (fun v4 _=>V-(intOf v4).toNat)
 case atStart=>exact⟨0,none,0,by omega,rfl,M2,hide (World.ownsRow_nil _ _ _ _),hide (KB.refl _ _),HBv⟩
 case round=>
  obtain⟨i,A,c,hi,rfl,HP,HO,HK,HB⟩:=hrel
  have hsz:v0.heap.size≤wr.heap.size:=HK.out.1
  have lbp:=lt_of_block HP.out
  have lw:w.heap.size<wr.heap.size:=by omega
  have x1:wr.cell? ⟨w.heap.size,1,none⟩=some (.slice A1 V c1):=(HK.out.cell (p:=⟨w.heap.size,1,none⟩) (by show w.heap.size<_;omega) (by simp;omega)).trans (cell_of_row _ _ 1 _ _ _ M0.out)
  by_cases hlt:i<V
  ·have p1:wr.cell? ⟨w.heap.size+1+1,1,none⟩=some (.slice A i c):=cell_of_row _ _ 1 _ _ _ HP.out
   have hI:(i:Int)<(V:Int):=by omega
   have hI6:(i:Int)<600:=by omega
   have hcap:=own_cap HO.out
   go_wp2_with (at_builtin;refine wpList_app rfl (.tmp 26) (.tmp 28) 40 rfl v0.heap.size 3 a0 (.int .i64 0) 1 8 Tryz.underlying40 a0i a0z a0s a0b rfl (by decide) (.slice A i c) i _ rfl (HO.out.alloc _) (wr.heap.size+1) (some ⟨wr.heap.size,0,none⟩) 1 1 [.int .i64 (i:Int)] rfl rfl (Rd.new _ _ _ _) (by simp[Value.oneCell']) (by unfold maxLen;omega) (by omega) (by simp;omega) ?_)
   intro A' c' y own hg hat
   have hp1:y.heap[w.heap.size+1+1]?=some (.cells #[.int .i64 st,.slice A i c,.slice A1 V c1,.slice A2 n2 c2,.slice A3 n3 c3] 64):=(hg.block _ (by simp;omega) (fun e=>by have:=(HO.out.lt _ e.symm).1;omega)).trans ((Below.heap_alloc _ _ _ (by omega)).trans HP.out)
   have q1:y.cell? ⟨w.heap.size+1+1,1,none⟩=some (.slice A i c):=cell_of_row _ _ 1 _ _ _ hp1
   have qf1:=zf hp1 1
   have HP2:=hide (heap_setCell_same y (w.heap.size+1+1) 1 _ _ (.slice A' (i+1) c') hp1)
   have HO2:Hid ((y.setCell ⟨w.heap.size+1+1,1,none⟩ (.slice A' (i+1) c')).ownsRow v0.heap.size 3 1 (.slice A' (i+1) c') (i+1) (i64s (upto (i+1)))):=hide (by rw[upto_snoc,←i64s_app];exact ownsRow_setCell_below (a:=⟨w.heap.size+1+1,1,none⟩) own (by show w.heap.size+1+1<_;omega) _)
   have HK2:=hide (((HK.out.alloc (.cells #[.int .i64 (i:Int)] 3)).grown hg (fun g e => .inl (HO.out.lt g e).1)).setCell (p:=⟨w.heap.size+1+1,1,none⟩) (.inr (by simp)) (.slice A' (i+1) c'))
   have HB2:=hide ((app_below (HB.out.alloc (by omega) _) (HO.out.alloc _) hg (by simp;omega) (by omega)).setCell (p:=⟨w.heap.size+1+1,1,none⟩) (by show w.heap.size≤w.heap.size+1+1;omega) (.slice A' (i+1) c'))
   clear hp1 own hg hat p1 HP HO HK HB
   go_wp2
   go_roundw
   case rel=>exact⟨i+1,A',c',by omega,by go_num,HP2,HO2,HK2,HB2⟩
   case measure=>simp[intOf];omega
  obtain rfl:i=V:=by omega
  have ZW:Hid (wr.heap[w.heap.size+1]?=some (.cells #[.int .i64 0,.slice none 0 0,.slice none 0 0,.slice none 0 0,.slice none 0 0] 64)):=hide ((HK.out.2 _ (by omega) (by simp)).trans M1.out)
  obtain⟨p0,p1,p2,p3,p4⟩:=zr5 HP.out
  obtain⟨z0,z1,z2,z3,z4⟩:=zr5 ZW.out
  have zq:=zf ZW.out;have zf0:=zq 0;have zf1:=zq 1;have zf2:=zq 2;have zf3:=zq 3;have zf4:=zq 4;clear zq
  have lh:w.heap.size+1<wr.heap.size:=by omega
  have lh2:w.heap.size+1<v0.heap.size:=by omega
  have HFin:=hide (five_own (.int .i64 st) (.slice A i c) (.slice A1 i c1) (.slice A2 n2 c2) (.slice A3 n3 c3) (show w.heap.size≤w.heap.size+1 by omega) ZW.out HB.out lh2 HO.out)
  go_wp2
  obtain⟨f,hf,hfB,h6,ho⟩:=HFin.out
  rw[hf]
  obtain⟨y0,y1,y2,y3,y4⟩:=zr5 h6
  exact bodyPost_ret (v:=.agg #[.int .i64 st,.slice A i c,.slice A1 i c1,.slice A2 n2 c2,.slice A3 n3 c3]) (by simp[results,Tryz.results53,go_sem,y0,y1,y2,y3,y4]) rfl ⟨A,c,rfl,Rd.of_own ho,hfB⟩
end Go.Proofs.YtpojjmbalgmcoaaGreat
