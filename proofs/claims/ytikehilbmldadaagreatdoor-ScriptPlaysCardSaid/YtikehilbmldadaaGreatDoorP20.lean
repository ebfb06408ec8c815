import Derived.Test.YtikehilbmldadaaGreatDoorP19
import Derived.Laws.EntriesVeiled
import Derived.Test.YtikehilbmldadaaGreatDoorP13
set_option maxHeartbeats 8000000
set_option maxRecDepth 100000
set_option linter.unusedVariables false
namespace Go.Proofs.YtikehilbmldadaaGreatDoor
open Proofs.Tryz YtikehilbmldadaaGreatDoor.Tryz RowKit
open Go renaming World->V,Value->ZE,RowKit.Below->ZF,RowKit.Hid->ZG,Calls->ZH,Value.int->I,IntKind.i64->J,Value.slice->F,Value.pointer->ZA,Obj.cells->ZC,Ending.returned->ZD,Value.agg->ZJ,Value.bool->ZK,Value.iface->ZL,Proofs.Tryz.prog->ZI
open Option renaming some->U,none->O
def Vd(sa:Nat->Addr):Array ZE:=#[.func (.func 204) #[] #[],ZL 372 (ZA (U (sa 4))),.func (.func 205) #[] #[],ZL 372 (ZA (U (sa 2))),.func (.func 206) #[] #[],ZL 372 (ZA (U (sa 1))),
 .func (.func 207) #[] #[],ZL 372 (ZA (U (sa 1))),.func (.func 210) #[] #[],ZL 372 (ZA (U (sa 5))),.func (.func 213) #[] #[],ZL 372 (ZA (U (sa 2))),.func (.func 214) #[] #[],ZL 372 (ZA (U (sa 2)))]
theorem Afm(B:Nat)(a:Nat->Addr)(w:V)(d:Hl B a w):
  ZH ZI 167 #[] w fun e w'=>e=ZD (F (U ⟨w.heap.size,0,O⟩) 7 7)/\w'.heap[w.heap.size]? =U (ZC (Vd a) 263)/\ZF w.heap.size w w':=by
 obtain⟨i,g1,g2,j,l,m⟩:=d.all;have g:=G (Ab w (ZC (Vd a) 263));have f:=G ((R1 w.heap.size w).alloc (Y2 _) (ZC (Vd a) 263));clear d;go_enter func167,ntmps167;go_wp2_with fail;go_ret;exact⟨rfl,g.out,f.out⟩
theorem Dw{w:V}{b:Nat}{a:Nat->Addr}(h:w.heap[b]? =U (ZC (Vd a) 263))(j:Nat)(d:j<14):w.cell? ⟨b,j,O⟩=(Vd a)[j]? :=by
 simp[World.cell?,h]
def Gp(E:Ak):Bool:=R0 E||tA E
theorem Q9{ah:List ByteArray}{E:Ak}(h:Bt E.name=false):A8 ah E=4:=by
 unfold A8;rw[if_pos h]
theorem P1{ah:List ByteArray}{E:Ak}(h1:Bt E.name=true)(h:B3 ah E.name=true):A8 ah E=6:=by
 unfold A8;rw[if_neg (by rw[h1];decide),if_pos h]
theorem P3{ah:List ByteArray}{E:Ak}(h1:Bt E.name=true)(h2:B3 ah E.name=false)(h:Gp E=true):A8 ah E=2:=by
 unfold A8;rw[if_neg (by rw[h1];decide),if_neg (by rw[h2];decide)];unfold Gp at h;cases h3:R0 E
 ·rw[h3,Bool.false_or]at h;rw[if_neg (by decide),if_pos h]
 ·rw[if_pos rfl]
theorem Ti{ah:List ByteArray}{E:Ak}(h1:Bt E.name=true)(h2:B3 ah E.name=false)(h3:Gp E=false)(h:Kw E.points≠0):A8 ah E=Kw E.points:=by
 unfold Gp at h3;obtain⟨a,d⟩:=Bool.or_eq_false_iff.1 h3;unfold A8;rw[if_neg (by rw[h1];decide),if_neg (by rw[h2];decide),if_neg (by rw[a];decide),if_neg (by rw[d];decide),if_pos h]
theorem P0{ah:List ByteArray}{E:Ak}(h1:Bt E.name=true)(h2:B3 ah E.name=false)(h3:Gp E=false)(h:Kw E.points=0):A8 ah E=V8 E:=by
 unfold Gp at h3;obtain⟨a,d⟩:=Bool.or_eq_false_iff.1 h3;exact zC h1 h2 a d h
theorem Gf(sa:Nat->Addr)(n:Nat):errv sa (n+1)=ZL 372 (ZA (U (sa n))):=rfl
theorem Adg(B:Nat)(D:Nat->Addr)(R:Nat->Prop)(X:List A2)(v:ZE)(E:Ak)(vp vg ve vf vl:ZE)(w:V)(hS:Hl B D w)(h:Dk R w E vp vg ve vf vl)(hv:Av R w v 10 (X.flatMap A5) X.length)(hR:∀b,R b->b<w.heap.size)(hE:G6 E)(hX:X.length<=1000):
  ZH ZI 97 #[ZJ (As E vp vg ve vf vl),v] w fun e w'=>e=ZD (errv D (A8 (X.map Ma) E))/\ZF w.heap.size w w':=by
 obtain⟨ao,cap,rfl⟩:=hv.val;obtain⟨pa,pc,rfl⟩:=h.p.val;obtain⟨ga,gc,rfl⟩:=h.g.val;obtain⟨ea,ec,rfl⟩:=h.e.val;obtain⟨fa,fc,rfl⟩:=h.f.val;obtain⟨la,lc,rfl⟩:=h.l.val;have aw:EB w R E (F pa E.points.length pc) (F ga E.gaps.length gc) (F ea E.edges.length ec) (F fa E.first.length fc) (F la E.last.length lc) w.heap.size (w.alloc (ZC (As E (F pa E.points.length pc) (F ga E.gaps.length gc) (F ea E.edges.length ec) (F fa E.first.length fc) (F la E.last.length lc)) 50)):=
  ⟨Ab _ _,h.keep (Al ((R1 _ _).alloc (Y2 _) _)) (fun _ _ h=>h),(R1 _ _).alloc (Y2 _) _,hR,Y2 _⟩
 have HV:=G hv;have av:=G (fun W (L:ZF w.heap.size w W)=>h.keep (Ac.of_below L) (fun b hb hS=>by have:=hR b hb;omega));have HS:=G hS;have N:=G hR;obtain⟨e1,e2,e3,e4,e5⟩:=hE;have HE:ZG (G6 E):=⟨e1,e2,e3,e4,e5⟩
 clear h hv hS hR;unfold As at aw ⊢;go_enter func97,ntmps97;go_upto_region 1 with fail;generalize w.alloc _=w1 at aw ⊢;obtain⟨c0,c1,Q,S,T,Y,Z,c7,c8,c9⟩:=aw.cells;have bb:=G aw;clear aw;go_cut [5] (fun s wx=>∃M:Int,s=I J M/\ZG (16<M↔16<E.points.length\/16<E.first.length\/16<E.last.length)/\w1=wx);case first=>
  go_wp2_with fail;all_goals
   go_meet;refine⟨_,rfl,?_,rfl⟩;show _↔_
   first|omega|(split<;>omega)|(split<;>split<;>omega)
 case rest=>
 obtain⟨M,rfl,HM,rfl⟩:=hcut;have HN:=G (Uu E.name w1);cases ak:Bt E.name
 ·rw[ak]at HN;have H:=G (Q9 (ah:=X.map Ma) ak);clear ak;go_wp2_with fail;refine HN.mono ?_;rintro e w2 ⟨rfl,b2⟩;have af:=(bb.below b2).bel;obtain⟨_,_,_,g3,_,_⟩:=(HS.on af).all;go_wp2_with fail;go_ret;rw[H.out];exact⟨rfl,af⟩
 rw[ak]at HN;have a8:=G ak;clear ak;go_wp2_with fail;refine HN.mono ?_;rintro e w2 ⟨rfl,b2⟩;have HEB2:=G (bb.below b2);clear c0 c1 Q S T Y Z c7 c8 c9 b2 bb HN;have ax:=HEB2.bel;have ai:=G (Ad9 R X _ E.name w.heap.size w2 (HV.below ax N.out) (Bw N ax) (by omega) HEB2.cells.1);unfold zB at ai;cases aj:B3 (X.map Ma) E.name;case true=>
  rw[aj]at ai;have H:=G (P1 a8 aj);clear aj;go_wp2_with fail;refine ai.mono ?_;rintro e w3 ⟨rfl,b3⟩;have af:=(HEB2.below b3).bel;obtain⟨_,_,_,_,_,g5⟩:=(HS.on af).all;go_wp2_with fail;go_ret;rw[H.out];exact⟨rfl,af⟩
 case false=>
 rw[aj]at ai;have bc:=G aj;clear aj;go_wp2_with fail;refine ai.mono ?_;rintro e w3 ⟨rfl,b3⟩;have HEB3:=G (HEB2.below b3);clear b3 HEB2 ai ax;obtain⟨c0,c1,Q,S,T,Y,Z,c7,c8,c9⟩:=HEB3.cells;go_upto_region 6 with fail;go_cut [30] (fun s wx=>s=ZK (Gp E)/\w3=wx);case first=>
  by_cases h1:E.tol<0
  ·have HB:=G (show Gp E=true from by unfold Gp R0;rw[On (.inl h1)];rfl);go_wp2_with fail;go_meet;exact⟨Bs HB.symm,rfl⟩
  by_cases h2:20<E.tol
  ·have HB:=G (show Gp E=true from by unfold Gp R0;rw[On (.inr (.inl h2))];rfl);go_wp2_with fail;go_meet;exact⟨Bs HB.symm,rfl⟩
  by_cases h3:16<M
  ·have HB:=G (show Gp E=true from by
    have:=HM.1 h3;unfold Gp R0 tA;rcases this with h|h|h
    ·rw[On (.inr (.inr (.inl h)))];rfl
    ·rw[Bool.or_eq_true];exact .inr (On (.inl h))
    ·rw[Bool.or_eq_true];exact .inr (On (.inr h)))
   go_wp2_with fail;go_meet;exact⟨Bs HB.symm,rfl⟩
  by_cases h4:8<(E.gaps.length:Int)
  ·have HB:=G (show Gp E=true from by unfold Gp R0;rw[On (.inr (.inr (.inr (.inl (by omega)))))];rfl);go_wp2_with fail;go_meet;exact⟨Bs HB.symm,rfl⟩
  have HB:=G (show Gp E=decide (64<(E.edges.length:Int))from by
   have hm:¬(16<E.points.length\/16<E.first.length\/16<E.last.length):=fun h=>h3 (HM.2 h);unfold Gp R0 tA;rw[N1 (show ¬(16<E.first.length\/16<E.last.length)from by omega),Bool.or_false,decide_eq_decide];omega)
  go_wp2_with fail;go_meet;exact⟨Bs (by rw[HB.out]),rfl⟩
 case rest=>
 obtain⟨rfl,rfl⟩:=hcut;have ad:=HEB3.bel;cases a9:Gp E;case true=>
  have H:=G (P3 a8 bc a9);obtain⟨_,g1,_,_,_,_⟩:=(HS.on ad).all;clear a9;go_wp2_with fail;go_ret;rw[H.out];exact⟨rfl,ad⟩
 case false=>
 have bk:=G a9;have bf:=G (Aby B D R E.points _ w3 (HS.on ad) (HEB3.sl.p) (Bw N ad) (by omega));clear a9;have bs:ZG (Kw E.points=Kw E.points):=rfl;obtain⟨pe,bg⟩:∃pe,pe=Kw E.points:=⟨_,rfl⟩
 rw[<-bg]at bf;have bd:=G bg;clear bg bs;go_wp2_with fail;refine bf.mono ?_;rintro e w4 ⟨rfl,b4⟩;have HEB4:=G (HEB3.below b4);have ay:=HEB4.bel;clear c0 c1 Q S T Y Z c7 c8 c9 b4 HEB3 ad bf;cases pe with
 |succ n=>
  have H:=G (show A8 (X.map Ma) E=n+1 from by rw[Ti a8 bc bk (by rw[<-bd.out];omega),<-bd.out]);rw[Gf];go_wp2_with fail;go_ret;rw[H.out,Gf];exact⟨rfl,ay⟩
 |zero=>
  rw[show errv D 0=.nilIface from rfl];have P:=G (P0 (ah:=X.map Ma) a8 bc bk bd.symm);have bn:=G (Afm B D w4 (HS.on ay));go_wp2_with fail;refine bn.mono ?_;rintro e w5 ⟨rfl,q,b5⟩;have au:=G q;have ba:=G (HEB4.below b5);clear q b5 bn HEB4 ay;obtain⟨rb,d⟩:∃rb,rb=w4.heap.size:=⟨_,rfl⟩
  rw[<-d]at au ⊢;clear d;go_wp2_with fail;go_loopw [64] (fun s wr=>∃k:Nat,k<=7/\s=I J k/\ZG (EB w R E (F pa E.points.length pc) (F ga E.gaps.length gc) (F ea E.edges.length ec) (F fa E.first.length fc) (F la E.last.length lc) w.heap.size wr)/\ZG (wr.heap[rb]? =U (ZC (Vd D) 263))/\ZG (∀j,j<k->C6 E j=false)) (fun s _=>7-(intOf s).toNat);case atStart=>exact⟨0,In _,rfl,ba,au,fun j h=>by omega⟩
  case round=>
   obtain⟨k,hk,rfl,ae,q,a⟩:=hrel;clear ba au;by_cases bu:k<7
   ·have b8:(k:Int)<7:=by omega
    by_cases m:k=0
    ·have q0:wr.cell? ⟨rb,k*2,O⟩=U (.func (.func 204) #[] #[]):=by rw[m];exact Dw q (0*2) (by decide)
     have q1:wr.cell? ⟨rb,k*2+1,O⟩=U (ZL 372 (ZA (U (D 4)))):=by rw[m];exact Dw q (0*2+1) (by decide)
     have K:ZG (∀W,ZF w.heap.size w W->ZH ZI 204 #[ZJ (As E (F pa E.points.length pc) (F ga E.gaps.length gc) (F ea E.edges.length ec) (F fa E.first.length fc) (F la E.last.length lc))] W fun e w'=>e=ZD (ZK (C6 E 0))/\ZF W.heap.size W w'):=fun W L=>Xq R E _ _ _ _ _ W (av W L) (Bw N L) HE.out;have t:=G m;unfold As at K;clear m;go_upto_region 14 with fail;have o:=Ab wr (ZC #[.func (.func 204) #[] #[],ZL 372 (ZA (U (D 4)))] 263);have i:ZF wr.heap.size wr (wr.alloc (ZC #[.func (.func 204) #[] #[],ZL 372 (ZA (U (D 4)))] 263)):=(R1 _ _).alloc (Y2 _) _;generalize wr.alloc _=wb at o i ⊢;obtain⟨z0,z1,zf⟩:=Au o;have HEBb:=G (ae.below i);have HRUb:=G (Ae i q (Aa q.out));have y:=G o;obtain⟨c0,c1,Q,S,T,Y,Z,c7,c8,c9⟩:=HEBb.cells;clear q0 q1 zf o i;go_wp2_with fail;refine(K _ HEBb.bel).mono ?_;rintro e w6 ⟨rfl,C⟩;have HEB6:=G (HEBb.below C);have u:=G (Ae C HRUb (Aa HRUb.out));obtain⟨y0,y1,yf⟩:=Au (Ae C y (Aa y.out));clear c0 c1 Q S T Y Z c7 c8 c9 z0 z1 yf C;cases d:C6 E 0
     ·have nx:ZG (∀j,j<k+1->C6 E j=false):=G (fun j hj=>by
       by_cases e:j=k
       ·rw[e,t.out];exact d
       ·exact a j (by omega))
      clear d a;go_wp2_with fail;go_roundw;case rel=>exact⟨k+1,by omega,by go_num,HEB6,u,nx⟩
      case measure=>simp[intOf];omega
     ·have H:=G (J5 0 (by decide) d (fun j hj=>a j (by have:=t.out;omega)));have A:=HEB6.bel;clear d a;go_wp2_with fail;go_ret;rw[P.out,H.out];exact⟨rfl,A⟩
    by_cases m:k=1
    ·have q0:wr.cell? ⟨rb,k*2,O⟩=U (.func (.func 205) #[] #[]):=by rw[m];exact Dw q (1*2) (by decide)
     have q1:wr.cell? ⟨rb,k*2+1,O⟩=U (ZL 372 (ZA (U (D 2)))):=by rw[m];exact Dw q (1*2+1) (by decide)
     have K:ZG (∀W,ZF w.heap.size w W->ZH ZI 205 #[ZJ (As E (F pa E.points.length pc) (F ga E.gaps.length gc) (F ea E.edges.length ec) (F fa E.first.length fc) (F la E.last.length lc))] W fun e w'=>e=ZD (ZK (C6 E 1))/\ZF W.heap.size W w'):=fun W L=>Afs E _ _ _ _ _ W;have t:=G m;unfold As at K;clear m;go_upto_region 14 with fail;have o:=Ab wr (ZC #[.func (.func 205) #[] #[],ZL 372 (ZA (U (D 2)))] 263);have i:ZF wr.heap.size wr (wr.alloc (ZC #[.func (.func 205) #[] #[],ZL 372 (ZA (U (D 2)))] 263)):=(R1 _ _).alloc (Y2 _) _;generalize wr.alloc _=wb at o i ⊢;obtain⟨z0,z1,zf⟩:=Au o;have HEBb:=G (ae.below i);have HRUb:=G (Ae i q (Aa q.out));have y:=G o;obtain⟨c0,c1,Q,S,T,Y,Z,c7,c8,c9⟩:=HEBb.cells;clear q0 q1 zf o i;go_wp2_with fail;refine(K _ HEBb.bel).mono ?_;rintro e w6 ⟨rfl,C⟩;have HEB6:=G (HEBb.below C);have u:=G (Ae C HRUb (Aa HRUb.out));obtain⟨y0,y1,yf⟩:=Au (Ae C y (Aa y.out));clear c0 c1 Q S T Y Z c7 c8 c9 z0 z1 yf C;cases d:C6 E 1
     ·have nx:ZG (∀j,j<k+1->C6 E j=false):=G (fun j hj=>by
       by_cases e:j=k
       ·rw[e,t.out];exact d
       ·exact a j (by omega))
      clear d a;go_wp2_with fail;go_roundw;case rel=>exact⟨k+1,by omega,by go_num,HEB6,u,nx⟩
      case measure=>simp[intOf];omega
     ·have H:=G (J5 1 (by decide) d (fun j hj=>a j (by have:=t.out;omega)));have A:=HEB6.bel;clear d a;go_wp2_with fail;go_ret;rw[P.out,H.out];exact⟨rfl,A⟩
    by_cases m:k=2
    ·have q0:wr.cell? ⟨rb,k*2,O⟩=U (.func (.func 206) #[] #[]):=by rw[m];exact Dw q (2*2) (by decide)
     have q1:wr.cell? ⟨rb,k*2+1,O⟩=U (ZL 372 (ZA (U (D 1)))):=by rw[m];exact Dw q (2*2+1) (by decide)
     have K:ZG (∀W,ZF w.heap.size w W->ZH ZI 206 #[ZJ (As E (F pa E.points.length pc) (F ga E.gaps.length gc) (F ea E.edges.length ec) (F fa E.first.length fc) (F la E.last.length lc))] W fun e w'=>e=ZD (ZK (C6 E 2))/\ZF W.heap.size W w'):=fun W L=>Afr E _ _ _ _ _ W;have t:=G m;unfold As at K;clear m;go_upto_region 14 with fail;have o:=Ab wr (ZC #[.func (.func 206) #[] #[],ZL 372 (ZA (U (D 1)))] 263);have i:ZF wr.heap.size wr (wr.alloc (ZC #[.func (.func 206) #[] #[],ZL 372 (ZA (U (D 1)))] 263)):=(R1 _ _).alloc (Y2 _) _;generalize wr.alloc _=wb at o i ⊢;obtain⟨z0,z1,zf⟩:=Au o;have HEBb:=G (ae.below i);have HRUb:=G (Ae i q (Aa q.out));have y:=G o;obtain⟨c0,c1,Q,S,T,Y,Z,c7,c8,c9⟩:=HEBb.cells;clear q0 q1 zf o i;go_wp2_with fail;refine(K _ HEBb.bel).mono ?_;rintro e w6 ⟨rfl,C⟩;have HEB6:=G (HEBb.below C);have u:=G (Ae C HRUb (Aa HRUb.out));obtain⟨y0,y1,yf⟩:=Au (Ae C y (Aa y.out));clear c0 c1 Q S T Y Z c7 c8 c9 z0 z1 yf C;cases d:C6 E 2
     ·have nx:ZG (∀j,j<k+1->C6 E j=false):=G (fun j hj=>by
       by_cases e:j=k
       ·rw[e,t.out];exact d
       ·exact a j (by omega))
      clear d a;go_wp2_with fail;go_roundw;case rel=>exact⟨k+1,by omega,by go_num,HEB6,u,nx⟩
      case measure=>simp[intOf];omega
     ·have H:=G (J5 2 (by decide) d (fun j hj=>a j (by have:=t.out;omega)));have A:=HEB6.bel;clear d a;go_wp2_with fail;go_ret;rw[P.out,H.out];exact⟨rfl,A⟩
    by_cases m:k=3
    ·have q0:wr.cell? ⟨rb,k*2,O⟩=U (.func (.func 207) #[] #[]):=by rw[m];exact Dw q (3*2) (by decide)
     have q1:wr.cell? ⟨rb,k*2+1,O⟩=U (ZL 372 (ZA (U (D 1)))):=by rw[m];exact Dw q (3*2+1) (by decide)
     have K:ZG (∀W,ZF w.heap.size w W->ZH ZI 207 #[ZJ (As E (F pa E.points.length pc) (F ga E.gaps.length gc) (F ea E.edges.length ec) (F fa E.first.length fc) (F la E.last.length lc))] W fun e w'=>e=ZD (ZK (C6 E 3))/\ZF W.heap.size W w'):=fun W L=>Afq R E _ _ _ _ _ W (av W L) (Bw N L) HE.out;have t:=G m;unfold As at K;clear m;go_upto_region 14 with fail;have o:=Ab wr (ZC #[.func (.func 207) #[] #[],ZL 372 (ZA (U (D 1)))] 263);have i:ZF wr.heap.size wr (wr.alloc (ZC #[.func (.func 207) #[] #[],ZL 372 (ZA (U (D 1)))] 263)):=(R1 _ _).alloc (Y2 _) _;generalize wr.alloc _=wb at o i ⊢;obtain⟨z0,z1,zf⟩:=Au o;have HEBb:=G (ae.below i);have HRUb:=G (Ae i q (Aa q.out));have y:=G o;obtain⟨c0,c1,Q,S,T,Y,Z,c7,c8,c9⟩:=HEBb.cells;clear q0 q1 zf o i;go_wp2_with fail;refine(K _ HEBb.bel).mono ?_;rintro e w6 ⟨rfl,C⟩;have HEB6:=G (HEBb.below C);have u:=G (Ae C HRUb (Aa HRUb.out));obtain⟨y0,y1,yf⟩:=Au (Ae C y (Aa y.out));clear c0 c1 Q S T Y Z c7 c8 c9 z0 z1 yf C;cases d:C6 E 3
     ·have nx:ZG (∀j,j<k+1->C6 E j=false):=G (fun j hj=>by
       by_cases e:j=k
       ·rw[e,t.out];exact d
       ·exact a j (by omega))
      clear d a;go_wp2_with fail;go_roundw;case rel=>exact⟨k+1,by omega,by go_num,HEB6,u,nx⟩
      case measure=>simp[intOf];omega
     ·have H:=G (J5 3 (by decide) d (fun j hj=>a j (by have:=t.out;omega)));have A:=HEB6.bel;clear d a;go_wp2_with fail;go_ret;rw[P.out,H.out];exact⟨rfl,A⟩
    by_cases m:k=4
    ·have q0:wr.cell? ⟨rb,k*2,O⟩=U (.func (.func 210) #[] #[]):=by rw[m];exact Dw q (4*2) (by decide)
     have q1:wr.cell? ⟨rb,k*2+1,O⟩=U (ZL 372 (ZA (U (D 5)))):=by rw[m];exact Dw q (4*2+1) (by decide)
     have K:ZG (∀W,ZF w.heap.size w W->ZH ZI 210 #[ZJ (As E (F pa E.points.length pc) (F ga E.gaps.length gc) (F ea E.edges.length ec) (F fa E.first.length fc) (F la E.last.length lc))] W fun e w'=>e=ZD (ZK (C6 E 4))/\ZF W.heap.size W w'):=fun W L=>Afp R E _ _ _ _ _ W (av W L) (Bw N L) HE.out;have t:=G m;unfold As at K;clear m;go_upto_region 14 with fail;have o:=Ab wr (ZC #[.func (.func 210) #[] #[],ZL 372 (ZA (U (D 5)))] 263);have i:ZF wr.heap.size wr (wr.alloc (ZC #[.func (.func 210) #[] #[],ZL 372 (ZA (U (D 5)))] 263)):=(R1 _ _).alloc (Y2 _) _;generalize wr.alloc _=wb at o i ⊢;obtain⟨z0,z1,zf⟩:=Au o;have HEBb:=G (ae.below i);have HRUb:=G (Ae i q (Aa q.out));have y:=G o;obtain⟨c0,c1,Q,S,T,Y,Z,c7,c8,c9⟩:=HEBb.cells;clear q0 q1 zf o i;go_wp2_with fail;refine(K _ HEBb.bel).mono ?_;rintro e w6 ⟨rfl,C⟩;have HEB6:=G (HEBb.below C);have u:=G (Ae C HRUb (Aa HRUb.out));obtain⟨y0,y1,yf⟩:=Au (Ae C y (Aa y.out));clear c0 c1 Q S T Y Z c7 c8 c9 z0 z1 yf C;cases d:C6 E 4
     ·have nx:ZG (∀j,j<k+1->C6 E j=false):=G (fun j hj=>by
       by_cases e:j=k
       ·rw[e,t.out];exact d
       ·exact a j (by omega))
      clear d a;go_wp2_with fail;go_roundw;case rel=>exact⟨k+1,by omega,by go_num,HEB6,u,nx⟩
      case measure=>simp[intOf];omega
     ·have H:=G (J5 4 (by decide) d (fun j hj=>a j (by have:=t.out;omega)));have A:=HEB6.bel;clear d a;go_wp2_with fail;go_ret;rw[P.out,H.out];exact⟨rfl,A⟩
    by_cases m:k=5
    ·have q0:wr.cell? ⟨rb,k*2,O⟩=U (.func (.func 213) #[] #[]):=by rw[m];exact Dw q (5*2) (by decide)
     have q1:wr.cell? ⟨rb,k*2+1,O⟩=U (ZL 372 (ZA (U (D 2)))):=by rw[m];exact Dw q (5*2+1) (by decide)
     have K:ZG (∀W,ZF w.heap.size w W->ZH ZI 213 #[ZJ (As E (F pa E.points.length pc) (F ga E.gaps.length gc) (F ea E.edges.length ec) (F fa E.first.length fc) (F la E.last.length lc))] W fun e w'=>e=ZD (ZK (C6 E 5))/\ZF W.heap.size W w'):=fun W L=>Afo R E _ _ _ _ _ W (av W L) (Bw N L) HE.out;have t:=G m;unfold As at K;clear m;go_upto_region 14 with fail;have o:=Ab wr (ZC #[.func (.func 213) #[] #[],ZL 372 (ZA (U (D 2)))] 263);have i:ZF wr.heap.size wr (wr.alloc (ZC #[.func (.func 213) #[] #[],ZL 372 (ZA (U (D 2)))] 263)):=(R1 _ _).alloc (Y2 _) _;generalize wr.alloc _=wb at o i ⊢;obtain⟨z0,z1,zf⟩:=Au o;have HEBb:=G (ae.below i);have HRUb:=G (Ae i q (Aa q.out));have y:=G o;obtain⟨c0,c1,Q,S,T,Y,Z,c7,c8,c9⟩:=HEBb.cells;clear q0 q1 zf o i;go_wp2_with fail;refine(K _ HEBb.bel).mono ?_;rintro e w6 ⟨rfl,C⟩;have HEB6:=G (HEBb.below C);have u:=G (Ae C HRUb (Aa HRUb.out));obtain⟨y0,y1,yf⟩:=Au (Ae C y (Aa y.out));clear c0 c1 Q S T Y Z c7 c8 c9 z0 z1 yf C;cases d:C6 E 5
     ·have nx:ZG (∀j,j<k+1->C6 E j=false):=G (fun j hj=>by
       by_cases e:j=k
       ·rw[e,t.out];exact d
       ·exact a j (by omega))
      clear d a;go_wp2_with fail;go_roundw;case rel=>exact⟨k+1,by omega,by go_num,HEB6,u,nx⟩
      case measure=>simp[intOf];omega
     ·have H:=G (J5 5 (by decide) d (fun j hj=>a j (by have:=t.out;omega)));have A:=HEB6.bel;clear d a;go_wp2_with fail;go_ret;rw[P.out,H.out];exact⟨rfl,A⟩
    by_cases m:k=6
    ·have q0:wr.cell? ⟨rb,k*2,O⟩=U (.func (.func 214) #[] #[]):=by rw[m];exact Dw q (6*2) (by decide)
     have q1:wr.cell? ⟨rb,k*2+1,O⟩=U (ZL 372 (ZA (U (D 2)))):=by rw[m];exact Dw q (6*2+1) (by decide)
     have K:ZG (∀W,ZF w.heap.size w W->ZH ZI 214 #[ZJ (As E (F pa E.points.length pc) (F ga E.gaps.length gc) (F ea E.edges.length ec) (F fa E.first.length fc) (F la E.last.length lc))] W fun e w'=>e=ZD (ZK (C6 E 6))/\ZF W.heap.size W w'):=fun W L=>Afn R E _ _ _ _ _ W (av W L) (Bw N L) HE.out;have t:=G m;unfold As at K;clear m;go_upto_region 14 with fail;have o:=Ab wr (ZC #[.func (.func 214) #[] #[],ZL 372 (ZA (U (D 2)))] 263);have i:ZF wr.heap.size wr (wr.alloc (ZC #[.func (.func 214) #[] #[],ZL 372 (ZA (U (D 2)))] 263)):=(R1 _ _).alloc (Y2 _) _;generalize wr.alloc _=wb at o i ⊢;obtain⟨z0,z1,zf⟩:=Au o;have HEBb:=G (ae.below i);have HRUb:=G (Ae i q (Aa q.out));have y:=G o;obtain⟨c0,c1,Q,S,T,Y,Z,c7,c8,c9⟩:=HEBb.cells;clear q0 q1 zf o i;go_wp2_with fail;refine(K _ HEBb.bel).mono ?_;rintro e w6 ⟨rfl,C⟩;have HEB6:=G (HEBb.below C);have u:=G (Ae C HRUb (Aa HRUb.out));obtain⟨y0,y1,yf⟩:=Au (Ae C y (Aa y.out));clear c0 c1 Q S T Y Z c7 c8 c9 z0 z1 yf C;cases d:C6 E 6
     ·have nx:ZG (∀j,j<k+1->C6 E j=false):=G (fun j hj=>by
       by_cases e:j=k
       ·rw[e,t.out];exact d
       ·exact a j (by omega))
      clear d a;go_wp2_with fail;go_roundw;case rel=>exact⟨k+1,by omega,by go_num,HEB6,u,nx⟩
      case measure=>simp[intOf];omega
     ·have H:=G (J5 6 (by decide) d (fun j hj=>a j (by have:=t.out;omega)));have A:=HEB6.bel;clear d a;go_wp2_with fail;go_ret;rw[P.out,H.out];exact⟨rfl,A⟩
    exact absurd bu (by omega)
   ·have cm:(7:Int)<=k:=by omega
    have H:=G (Aav (E:=E) (fun j hj=>a j (by omega)));have af:=ae.bel;go_wp2_with fail;go_ret;rw[P.out,H.out];exact⟨rfl,af⟩
structure Ar where
 closed:Int
 opn:Int
 cycle:Int
 delay:Int
 ents:List Ak
def Az(C:Ar)(v:ZE):Array ZE:=#[I J C.closed,I J C.opn,I J C.cycle,I J C.delay,v]
theorem Ba{w:V}{b:Nat}{C:Ar}{v:ZE}(h:w.heap[b]? =U (ZC (Az C v) 30)):
  w.cell? ⟨b,0,O⟩=U (I J C.closed)/\w.cell? ⟨b,1,O⟩=U (I J C.opn)/\w.cell? ⟨b,2,O⟩=U (I J C.cycle)/\w.cell? ⟨b,3,O⟩=U (I J C.delay)/\w.cell? ⟨b,4,O⟩=U v:=by
 unfold Az at h;simp[World.cell?,h]
def Es(C:Ar):Bool:=decide (C.closed<0\/1000<C.closed\/C.opn<1\/1000<C.opn\/C.cycle<1\/100<C.cycle\/C.delay<0\/20<C.delay\/8<C.ents.length)
def Jd(L:List Ak)(i:Nat):Nat:=match L[i]? with|some E=>A8 ((L.take i).map Ak.name) E|none=>0
theorem Ov{L:List Ak}{i:Nat}(h:i<L.length):Jd L i=A8 ((L.take i).map Ak.name) L[i]:=by
 unfold Jd;rw[R4 h]
def Qf(L:List Ak):Nat × Int:=match (List.range L.length).find? (fun i=>Jd L i != 0)with|some i=>(Jd L i,(i:Int))|none=>(0,-1)
theorem qI{L:List Ak}{k:Nat}(e:k<L.length)(h:Jd L k≠0)(a:∀j,j<k->Jd L j=0):Qf L=(Jd L k,(k:Int)):=by
 have:(List.range L.length).find? (fun i=>Jd L i != 0)=U k:=by
  rw[Zxm];refine⟨by simpa using h,List.mem_range.2 e,fun j d=>?_⟩;simp[a j d]
 unfold Qf;rw[this]
theorem Zd{L:List Ak}(h:∀j,j<L.length->Jd L j=0):Qf L=(0,-1):=by
 have:(List.range L.length).find? (fun i=>Jd L i != 0)=O:=by
  rw[Zx3];intro i hi;simp[h i (List.mem_range.1 hi)]
 unfold Qf;rw[this]
def B4(C:Ar):Nat × Int:=if Es C=true then (2,-1) else if C.opn<C.cycle then (3,-1) else Qf C.ents
def Qk(sa:Nat->Addr)(w:V)(v:ZE)(f:Nat × Int):Prop:=
 (f.2= -1/\v=errv sa f.1)\/(0<=f.2/\0<f.1/\∃fb,v=ZL 154 (ZA (U ⟨fb,0,O⟩))/\P9 w fb f.2 (errv sa f.1))
theorem Qk.keep{S:Nat->Prop}{a:Nat->Addr}{w w':V}{v:ZE}{f:Nat × Int}(h:Qk a w v f)(k:Ac S w w')(e:∀fb,v=ZL 154 (ZA (U ⟨fb,0,O⟩))->¬S fb):Qk a w' v f:=by
 rcases h with h|⟨h1,h2,fb,h3,d⟩
 ·exact .inl h
 ·exact .inr ⟨h1,h2,fb,h3,k.get d (e fb h3)⟩
theorem Qk.bare(sa:Nat->Addr)(w:V)(n:Nat):Qk sa w (errv sa n) (n,-1):=.inl ⟨rfl,rfl⟩
structure Gb (R:Nat->Prop) (w:V) (C:Ar) (v:ZE) (X:List A2):Prop where
 sl:F0 R w v X
 eq:C.ents=X.map A2.E
 small:∀x∈X,G6 x.E
 len:X.length<=1000
theorem Gb.keep{R S:Nat->Prop}{w w':V}{C:Ar}{v:ZE}{X:List A2}(h:Gb R w C v X)(k:Ac S w w')(hd:∀b,R b->¬S b):Gb R w' C v X:=⟨h.sl.keep k hd,h.eq,h.small,h.len⟩
theorem Gb.below{B:Nat}{R:Nat->Prop}{w w':V}{C:Ar}{v:ZE}{X:List A2}(h:Gb R w C v X)(b:ZF B w w')(hd:∀b,R b->b<B):Gb R w' C v X:=h.keep (Ac.of_below b) (fun b hb hS=>by have:=hd b hb;omega)
theorem qP(B:Nat)(M:Nat->Addr)(R:Nat->Prop)(C:Ar)(v:ZE)(X:List A2)(w:V)(hS:Hl B M w)(h:Gb R w C v X)(hR:∀b,R b->b<w.heap.size):
    ZH ZI 57 #[ZJ (Az C v)] w fun e w'=>∃u,e=ZD u/\Qk M w' u (B4 C)/\ZF w.heap.size w w':=by
  obtain⟨ao,cap,rfl⟩:=h.sl.row.val;obtain⟨ce,cf⟩:=h.sl.row.capB;have bz:C.ents.length=X.length:=by rw[h.eq,Fn]
  have cd:=h.len;have H:=G h;have HS:=G hS;have N:=G hR;have T:=Ab w (ZC (Az C (F ao X.length cap)) 30);have q:ZF w.heap.size w (w.alloc (ZC (Az C (F ao X.length cap)) 30)):=(R1 _ _).alloc (Y2 _) _;clear h hS hR;unfold Az at T q ⊢;go_enter func57,ntmps57;go_upto_region 1 with fail;generalize w.alloc _=w1 at T q ⊢;have Z:ZG (w1.heap[w.heap.size]? =U (ZC (Az C (F ao X.length cap)) 30)):=T;obtain⟨c0,c1,c2,c3,c4⟩:=Ba Z.out;clear T;go_cut [6] (fun s wx=>s=ZK (Es C)/\w1=wx);case first=>
    by_cases h1:C.closed<0
    · have a:=G (show Es C=true from On (.inl h1))
      go_wp2_with fail;go_meet;exact⟨Bs a.symm,rfl⟩
    by_cases h2:1000<C.closed
    · have a:=G (show Es C=true from On (by omega))
      go_wp2_with fail;go_meet;exact⟨Bs a.symm,rfl⟩
    by_cases h3:C.opn<1
    · have a:=G (show Es C=true from On (by omega))
      go_wp2_with fail;go_meet;exact⟨Bs a.symm,rfl⟩
    by_cases h4:1000<C.opn
    · have a:=G (show Es C=true from On (by omega))
      go_wp2_with fail;go_meet;exact⟨Bs a.symm,rfl⟩
    by_cases h5:C.cycle<1
    · have a:=G (show Es C=true from On (by omega))
      go_wp2_with fail;go_meet;exact⟨Bs a.symm,rfl⟩
    by_cases h6:100<C.cycle
    · have a:=G (show Es C=true from On (by omega))
      go_wp2_with fail;go_meet;exact⟨Bs a.symm,rfl⟩
    by_cases h7:C.delay<0
    · have a:=G (show Es C=true from On (by omega))
      go_wp2_with fail;go_meet;exact⟨Bs a.symm,rfl⟩
    by_cases h8:20<C.delay
    · have a:=G (show Es C=true from On (by omega))
      go_wp2_with fail;go_meet;exact⟨Bs a.symm,rfl⟩
    have a:=G (show Es C=decide (8<(X.length:Int))from by unfold Es;rw[decide_eq_decide];omega);go_wp2_with fail;go_meet;exact⟨Bs a.symm,rfl⟩
  case rest=>
  obtain⟨rfl,rfl⟩:=hcut;cases A:Es C;case true=>
    have HT:=G (show B4 C=(2,-1)from if_pos A);obtain⟨_,g1,_,_,_,_⟩:=(HS.on q).all;clear A;go_wp2_with fail;go_ret;exact⟨_,rfl,by rw[HT.out];exact Qk.bare M _ 2,q⟩
  case false=>
  by_cases av:C.opn<C.cycle
  · have HT:=G (show B4 C=(3,-1)from by unfold B4;rw[if_neg (by rw[A];decide),if_pos av])
    obtain⟨_,_,g2,_,_,_⟩:=(HS.on q).all;clear A;go_wp2_with fail;go_ret;exact⟨_,rfl,by rw[HT.out];exact Qk.bare M _ 3,q⟩
  have HT:=G (show B4 C=Qf C.ents from by unfold B4;rw[if_neg (by rw[A];decide),if_neg av]);clear A;go_wp2_with fail;go_loopw [62] (fun s wr=>∃i:Nat,i<=X.length/\s=I J i/\ZF w.heap.size w wr/\ZG (wr.heap[w.heap.size]? =U (ZC (Az C (F ao X.length cap)) 30))/\ZG (∀j,j<i->Jd C.ents j=0)) (fun s _=>X.length-(intOf s).toNat);case atStart=>exact⟨0,In _,rfl,q,Z,fun j h=>by omega⟩
  case round=>
    obtain⟨i,hi,rfl,P,ay,m⟩:=hrel;clear Z q c0 c1 c2 c3 c4;by_cases S:i<X.length
    · obtain⟨b,off,rfl,bf,hb,hc⟩:=Ks H.sl.row (by omega)
      obtain⟨q0,q1,q2,q3,q4,q5,q6,q7,q8,q9⟩:=hc i S;have aq:=N b bf;rw[<-P.cell aq]at q0 q1 q2 q3 q4 q5 q6 q7 q8 q9;have cg:(i:Int)<=(cap:Int):=by omega
      have b0:=fun W=>rI W b off X.length cap i (by omega);have ak:=G (show Jd C.ents i=A8 ((X.take i).map Ma) X[i].E from by
        rw[Ov (by omega)];simp only[H.eq,List.getElem_map,<-List.map_take,Zyo];rfl)
      have d:=G (fun W (hB:ZF w.heap.size w W)=>Adg B M R (X.take i) (F (U ⟨b,off,O⟩) i cap) X[i].E X[i].p X[i].g X[i].e X[i].f X[i].l W (HS.on hB) ((H.sl.each X[i] (M2 S)).keep (Ac.of_below hB) (fun b hb hS=>by have:=N b hb;omega)) ((Av.cut (f:=A5) H.sl.row (fun _=>rfl) i (by omega)).below hB N.out) (Bw N hB) (H.small X[i] (M2 S)) (by rw[By];omega));unfold As at d;rw[<-ak.out]at d;obtain⟨er,ab⟩:∃er,er=Jd C.ents i:=⟨_,rfl⟩
      rw[<-ab]at d;have HQ:=G ab;obtain⟨vE,ac⟩:∃vE,vE=errv M er:=⟨_,rfl⟩
      rw[<-ac]at d;have al:=G ac;have y:=H.sl.each X[i] (M2 S);obtain⟨pa,pc,ah⟩:=y.p.val;obtain⟨ga,gc,af⟩:=y.g.val;obtain⟨ea,ec,ad⟩:=y.e.val;obtain⟨fa,fc,ae⟩:=y.f.val;obtain⟨la,lc,ag⟩:=y.l.val;rw[ah,af,ad,ae,ag]at d;rw[ah]at q2;rw[af]at q6;rw[ad]at q7;rw[ae]at q8;rw[ag]at q9;obtain⟨xe,az⟩:∃xe,xe=X[i].E:=⟨_,rfl⟩
      rw[<-az]at d q0 q1 q2 q3 q4 q5 q6 q7 q8 q9;clear hc ac ab ak ah af ad ae ag y az;go_upto_region 8 with fail;have K:=Ab wr (ZC (As xe (F pa xe.points.length pc) (F ga xe.gaps.length gc) (F ea xe.edges.length ec) (F fa xe.first.length fc) (F la xe.last.length lc)) 50);have D:ZF wr.heap.size wr (wr.alloc (ZC (As xe (F pa xe.points.length pc) (F ga xe.gaps.length gc) (F ea xe.edges.length ec) (F fa xe.first.length fc) (F la xe.last.length lc)) 50)):=(R1 _ _).alloc (Y2 _) _;unfold As at K D;generalize wr.alloc _=wb at K D ⊢;obtain⟨z0,z1,z2,z3,z4,z5,z6,z7,z8,z9,zf⟩:=Bo K;have t:=Ae D ay (Aa ay.out);obtain⟨c0,c1,c2,c3,c4⟩:=Ba t;have Q:=P.trans (D.mono P.size);have aw:=Aa K;have ax:=Aa t;have HXCB:=G t;obtain⟨bb,au⟩:∃bb,bb=wr.heap.size:=⟨_,rfl⟩
      rw[<-au]at z0 z1 z2 z3 z4 z5 z6 z7 z8 z9 aw ⊢;clear au K D t zf q0 q1 q2 q3 q4 q5 q6 q7 q8 q9 c0 c1 c2 c3;go_cut [5] (fun s wx=>s=vE/\ZF w.heap.size w wx/\ZF wb.heap.size wb wx);case first=>
       go_region_held3 (fun w'=>(∀o,w'.cell? ⟨bb,o,O⟩=wb.cell? ⟨bb,o,O⟩)/\(∀o,w'.cell? ⟨w.heap.size,o,O⟩=wb.cell? ⟨w.heap.size,o,O⟩))
        (first|exact⟨fun _=>rfl,fun _=>rfl⟩|exact⟨fun o=>d1.cell (p:=⟨bb,o,O⟩) aw,fun o=>d1.cell (p:=⟨w.heap.size,o,O⟩) ax⟩)
        (first|(go_at_call 97;refine(d _ ?_).mono ?_;(repeat(first|exact Q|refine H5 ?_));rintro e w2 ⟨rfl,b2⟩;have d1:ZF wb.heap.size wb w2:=(by repeat(first|exact R1 _ _|exact b2|refine H5 ?_|refine Zyh ?_ b2))))
       all_goals(go_wp2_with fail;go_meet)
       all_goals exact⟨rfl,by repeat(first|exact Q.trans (d1.mono Q.size)|refine H5 ?_),by repeat(first|exact d1|refine H5 ?_)⟩
      case rest=>
      obtain⟨rfl,aa,ar⟩:=hcut;have am:=G (Ae ar HXCB ax);clear z0 z1 z2 z3 z4 z5 z6 z7 z8 z9 c4 d Q ar;cases er with
      |zero=>
        have nx:ZG (∀j,j<i+1->Jd C.ents j=0):=G (fun j hj=>by
          by_cases e:j=i
          · rw[e];exact HQ.symm
          · exact m j (by omega))
        rw[al.out,show errv M 0=.nilIface from rfl];clear m;go_wp2_with fail;go_roundw;case rel=>exact⟨i+1,by omega,by go_num,aa,am,nx⟩
        case measure=>simp[intOf];omega
      |succ n=>
        have Y:=G (show Qf C.ents=(n+1,(i:Int))from by rw[qI (by omega) (by rw[<-HQ.out];omega) m.out,<-HQ.out]);have hF:=Ab wc (ZC #[I J i,errv M (n+1)] 156);have ap:ZF w.heap.size w (wc.alloc (ZC #[I J i,errv M (n+1)] 156)):=aa.alloc aa.size _;have HF:=G hF;have aj:=G ap;rw[al.out,Gf];rw[Gf]at HF aj;clear hF ap m;go_wp2_with fail;go_ret;refine⟨_,rfl,?_,aj.out⟩;rw[HT.out,Y.out];exact .inr ⟨by show(0:Int)<=(i:Int);omega,Nat.succ_pos _,_,rfl,HF.out⟩
    · have Y:=G (Zd (L:=C.ents) (fun j hj=>m j (by omega)))
      go_wp2_with fail;go_ret;exact⟨_,rfl,by rw[HT.out,Y.out];exact Qk.bare M _ 0,P⟩
