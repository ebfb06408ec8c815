import Derived.Test.YtikehilbmldadaaGreatDoorP46
import Derived.Test.YtikehilbmldadaaGreatDoorP51
import Derived.Test.YtikehilbmldadaaGreatDoorCards
import Derived.Test.YtikehilbmldadaaGreatDoorTie
import Derived.SevenTiedAt
set_option maxHeartbeats 8000000
set_option maxRecDepth 100000
set_option linter.unusedVariables false
open Go.Proofs.Tryz Go.Proofs.YtikehilbmldadaaGreatDoor.Tryz Go.RowKit
open Go renaming World->V,Value->ZE,RowKit.Below->ZF,RowKit.Hid->ZG,Calls->ZH,Value.int->I,IntKind.i64->J,Value.slice->F,Value.pointer->ZA,Value.string->ZB,Obj.cells->ZC,Value.bool->ZK,Proofs.Tryz.prog->ZI
open Option renaming some->U,none->O
namespace Go.Proofs.YtikehilbmldadaaGreatDoor
theorem kpOpen_C(C:Ar)(D:Dd)(m:CM):(Hb C D m).C=C:=by simp only[Hb]
theorem scDo_C(txt:ByteArray)(M:KpM)(i:Nat)(ns:List Nat):(Cr txt M i ns).2.2.C=M.C:=by
 unfold Cr;split<;>simp only
 ·unfold Ig;repeat' split
  all_goals rfl
 ·unfold Kk;repeat' split
  all_goals rfl
 ·unfold Gm;repeat' split
  all_goals rfl
 ·exact Rs _ _
 ·unfold Lx;split
  ·rfl
  ·exact kpOpen_C _ _ _
 ·split<;>rfl
section
variable {w0:V} {kb:Nat} {x:DkX} {M:KpM} {R:List Bl} {o:Nat->Nat} {w:V} {T K:Nat}
theorem Bx.zero(h:Bx w0 kb x M R o w){b:Nat}(d:b<w0.heap.size):o b=0:=by
 cases a:o b with
 |zero=>rfl
 |succ z=>have:=(h.low b (by rw[a];exact Zzp z)).1;omega
theorem many_of{i:Nat}(h:i<14):Ee i= [1,1,2,1,1,0,1,0,0,0,0,0,0,0].getD i 0:=by
 have a:∀i:Fin 14,Ee i.1= [1,1,2,1,1,0,1,0,0,0,0,0,0,0].getD i.1 0:=by decide
 exact a ⟨i,h⟩
theorem dkAnswer_any(h:Bx w0 kb x M R o w)(l:Bn M T)(m:Hd R K T)(D:K<=190)(j:B4 M.C=(0,-1))(Z:(C4 M.C).length<=8000)(word:ByteArray)(ns:List Int)(B:Option Addr)(d:Nat){i:Nat}{y:List Nat}(hi:C8 word=U i)(A:y=ns.map Int.toNat)(e:y.length=Ee i)(v:∀k∈ns,0<=k/\k<=99999)
  (N:Av (fun b=>b<w0.heap.size) w (F B ns.length d) 1 (Ad ns) ns.length) (H:T+2*(if i=3 then y.getD 0 0 else 0)<=49000):
  ZH ZI 35 #[ZA (U ⟨kb,0,O⟩),.agg #[ZB word,F B ns.length d]] w (Et w0 kb (Cr (Ja M.C) M i y) (K+1) (T+2*(if i=3 then y.getD 0 0 else 0)) o w):=by
 have E:=Hg hi;have f:=many_of E;have a:ns.length=y.length:=by rw[A,Fn]
 have q:T<=49000:=by omega
 have one:ns.length=1->∃(nb no s:Nat),B=U ⟨nb,no,O⟩/\y= [s]/\w.cell? ⟨nb,no,O⟩=U (I J s)/\o nb=0:=fun h1=>by
  obtain⟨nb,no,X,n,t,p⟩:=Pr N (by omega);match ns,h1 with
  |[z],_=>
   have hz:=v z (by simp);obtain⟨u,rfl⟩:=Zyn hz.1;refine⟨nb,no,u,X,by rw[A];simp,?_,h.zero n⟩;have:=p 0 (by simp);simp
 have O:y.length=0->y= []:=fun h0=>List.length_eq_zero_iff.1 h0;match i,E with
 |0,_=>
  obtain⟨nb,no,s,rfl,n,t,p⟩:=one (by rw[a,e];exact f);have g:ns.length=1:=by rw[a,e];exact f
  rw[g,n];exact Ad0 h l m D j _ word hi nb no d s t p q
 |1,_=>
  obtain⟨nb,no,s,rfl,n,t,p⟩:=one (by rw[a,e];exact f);have g:ns.length=1:=by rw[a,e];exact f
  rw[g,n];exact Adz h l m D j _ word hi nb no d s t p q
 |2,_=>
  have L:ns.length=2:=by rw[a,e];exact f
  obtain⟨nb,no,rfl,n,t,p⟩:=Pr N (by omega);match ns,L with
  |[z0,z1],_=>
   have Y:=v z0 (by simp);have g1:=v z1 (by simp);obtain⟨P,rfl⟩:=Zyn Y.1;obtain⟨Q,rfl⟩:=Zyn g1.1;have q0:=p 0 (by simp);have q1:=p 1 (by simp);have hq:y= [P,Q]:=by rw[A];simp
   rw[hq];exact Ady h l m D j _ word hi nb no d P Q (by simp) (by simp) (h.zero n) q
 |3,_=>
  obtain⟨nb,no,s,rfl,n,t,p⟩:=one (by rw[a,e];exact f);have g:ns.length=1:=by rw[a,e];exact f
  rw[n]at H ⊢;rw[g];simp only[if_true,Zya]at H ⊢;exact Adx h l m D j _ word hi nb no d s t p H q
 |4,_=>
  obtain⟨nb,no,s,rfl,n,t,p⟩:=one (by rw[a,e];exact f);have g:ns.length=1:=by rw[a,e];exact f
  rw[g,n];exact Adw h l m D j _ word hi nb no d s t p q
 |5,_=>
  rw[O (by rw[e];exact f)];exact Adv h l m D j _ word hi _ ⟨_,_,_,rfl⟩ q
 |6,_=>
  obtain⟨nb,no,s,rfl,n,t,p⟩:=one (by rw[a,e];exact f);have g:ns.length=1:=by rw[a,e];exact f
  rw[g,n];exact Adu h l m j _ word hi nb no d s t
 |7,_=>
  rw[O (by rw[e];exact f)];exact Adt h l m j _ word hi _ ⟨_,_,_,rfl⟩
 |8,_=>
  rw[O (by rw[e];exact f)];exact Ads h l m j _ word hi _ ⟨_,_,_,rfl⟩
 |9,_=>
  rw[O (by rw[e];exact f)];exact Adr h l m j _ word hi _ ⟨_,_,_,rfl⟩
 |10,_=>
  rw[O (by rw[e];exact f)];exact zS h l m j _ word hi _ ⟨_,_,_,rfl⟩
 |11,_=>
  rw[O (by rw[e];exact f)];exact zR h l m j _ word hi _ ⟨_,_,_,rfl⟩
 |12,_=>
  rw[O (by rw[e];exact f)];exact zQ h l m j _ word hi _ ⟨_,_,_,rfl⟩
 |13,_=>
  rw[O (by rw[e];exact f)];exact zP h l m j Z word hi _ ⟨_,_,_,rfl⟩
end
structure PlSt (wA:V) (kb:Nat) (M:KpM) (K T:Nat) (L1 L2:List ByteArray) (n1 n2:Nat) (v1 v2:ZE) (x:DkX) (R:List Bl) (o:Nat->Nat) (w:V):Prop where
 st:Bx wA kb x M R o w
 own1:Ax w wA.heap.size 9 1 v1 n1 (Aj L1)
 own2:Ax w wA.heap.size 9 1 v2 n2 (Aj L2)
 z1:∀b,v1.ownBlock=U b->o b=0
 z2:∀b,v2.ownBlock=U b->o b=0
 dis:∀b,v1.ownBlock=U b->v2.ownBlock≠U b
 ok:Bn M T
 rs:Hd R K T
section
variable {wA:V} {kb:Nat} {M M':KpM} {K T K' T' n1 n2:Nat} {L1 L2:List ByteArray} {v1 v2 v':ZE} {x:DkX} {R:List Bl} {o:Nat->Nat} {w w' W w1:V} {S:ByteArray}
theorem PlSt.below(h:PlSt wA kb M K T L1 L2 n1 n2 v1 v2 x R o w)(b:ZF w.heap.size w w'):PlSt wA kb M K T L1 L2 n1 n2 v1 v2 x R o w':=
 ⟨h.st.below b,h.own1.later b,h.own2.later b,h.z1,h.z2,h.dis,h.ok,h.rs⟩
theorem PlSt.told(h:PlSt wA kb M K T L1 L2 n1 n2 v1 v2 x R o w)(z:DkZ wA kb M' K' T' o w w')(ok:Bn M' T'):∃x' R' o',PlSt wA kb M' K' T' L1 L2 n1 n2 v1 v2 x' R' o' w':=by
 obtain⟨x',R',o',z1,z2,d⟩:=z;exact⟨x',R',o',z1,h.own1.keep d.kp (fun b a e=>e (h.z1 b a)),h.own2.keep d.kp (fun b a e=>e (h.z2 b a)),fun b a=>by rw[d.agree b (h.own1.lt b a).2];exact h.z1 b a,fun b a=>by rw[d.agree b (h.own2.lt b a).2];exact h.z2 b a,h.dis,ok,z2⟩
theorem PlSt.new0(h:PlSt wA kb M K T L1 L2 n1 n2 v1 v2 x R o w){b:Nat}(d:w.heap.size<=b):o b=0:=by
 cases a:o b with
 |zero=>rfl
 |succ z=>have:=(h.st.low b (by rw[a];exact Zzp z)).2;omega
theorem PlSt.app1(h:PlSt wA kb M K T L1 L2 n1 n2 v1 v2 x R o w)(a:ZF w.heap.size w W)(l:Ax w1 wA.heap.size 9 1 v' (n1+1) (Aj L1++ [ZB S]))(j:W.grownBy w1 v1.ownBlock)(d:v'.ownBlock=v1.ownBlock\/∀b,v'.ownBlock=U b->W.heap.size<=b):
  PlSt wA kb M K T (L1++ [S]) L2 (n1+1) n2 v' v2 x R o w1:=by
 have f:=h.below a;have i:Ac (fun b=>U b=v1.ownBlock) W w1:=Ac.of_grown j;refine⟨f.st.far i (fun b m g=>⟨h.z1 b g.symm,(h.own1.lt b g.symm).1⟩),by rw[Ji];exact l,f.own2.keep i (fun b a g=>h.dis b g.symm a),fun b a=>?_,h.z2,fun b a=>?_,h.ok,h.rs⟩
 ·rcases d with d|d
  ·rw[d]at a;exact h.z1 b a
  ·exact f.new0 (d b a)
 ·rcases d with d|d
  ·rw[d]at a;exact h.dis b a
  ·intro e;have h1:=(f.own2.lt b e).2;have h2:=d b a;omega
theorem PlSt.app2(h:PlSt wA kb M K T L1 L2 n1 n2 v1 v2 x R o w)(a:ZF w.heap.size w W)(l:Ax w1 wA.heap.size 9 1 v' (n2+1) (Aj L2++ [ZB S]))(j:W.grownBy w1 v2.ownBlock)(d:v'.ownBlock=v2.ownBlock\/∀b,v'.ownBlock=U b->W.heap.size<=b):
  PlSt wA kb M K T L1 (L2++ [S]) n1 (n2+1) v1 v' x R o w1:=by
 have f:=h.below a;have i:Ac (fun b=>U b=v2.ownBlock) W w1:=Ac.of_grown j;refine⟨f.st.far i (fun b m g=>⟨h.z2 b g.symm,(h.own2.lt b g.symm).1⟩),f.own1.keep i (fun b a g=>h.dis b a g.symm),by rw[Ji];exact l,h.z1,fun b a=>?_,fun b a=>?_,h.ok,h.rs⟩
 ·rcases d with d|d
  ·rw[d]at a;exact h.z2 b a
  ·exact f.new0 (d b a)
 ·rcases d with d|d
  ·rw[d];exact h.dis b a
  ·intro e;have h1:=(f.own1.lt b a).2;have h2:=d b e;omega
end
end Go.Proofs.YtikehilbmldadaaGreatDoor
namespace Go.Proofs.YtikehilbmldadaaGreatDoor
theorem smallP_of{X Y:List A2}(i:Y.map A2.E=X.map A2.E)(d:¬Rl X):∀y∈Y,G6 y.E:=by
 intro y q;have m:y.E∈X.map A2.E:=by rw[<-i];exact Zzx q
 obtain⟨x,n,e⟩:=List.mem_map.1 m;have a:=xI (fun j=>d (.inr ⟨x,n,j⟩));rw[e]at a;exact⟨by have:=a.p;omega,by have:=a.g;omega,by have:=a.e;omega,by have:=a.f;omega,by have:=a.l;omega⟩
theorem lenP_of{X Y:List A2}(a:Y.map A2.E=X.map A2.E):Y.length=X.length:=by
 have:=congrArg List.length a;simpa using this
structure PlF (txt:ByteArray) (N:KpM) (C:Ar) (LS:List ByteArray) (n:Nat) (t:Int):Prop where
 len:LS.length=n
 tk:(Hn LS:Int)=t
 sm:∀s∈LS,s.size<=100
 eC:(Ct txt N LS).2.C=C
theorem scLine_ans{txt:ByteArray}{M:KpM}{s:ByteArray}{i:Nat}{ns:List Nat}(h:Jc s=U (i,ns)):Db txt M s=(Aal (Cr txt M i ns).1 (Cr txt M i ns).2.1,(Cr txt M i ns).2.2):=Mp h
theorem plAns{wA v:V}{kb:Nat}{txt:ByteArray}{N:KpM}{C:Ar}{LS:List ByteArray}{n:Nat}{t:Int}{v1 v2:ZE}{x:DkX}{R:List Bl}{o:Nat->Nat}{S:ByteArray}{q:Nat}{j:List Nat}(h:PlSt wA kb (Ct txt N LS).2 n (2*Hn LS) LS (Ct txt N LS).1 n n v1 v2 x R o v)(D:PlF txt N C LS n t)
  (B:B4 C=(0,-1)) (A:(C4 C).length<=8000) (u:Ja C=txt) (Z:n<=60) (word:ByteArray) (ns:List Int) (g:Option Addr) (a:Nat) (hi:C8 word=U q) (p:j=ns.map Int.toNat) (L:j.length=Ee q) (l:∀k∈ns,0<=k/\k<=99999)
  (P:Av (fun b=>b<wA.heap.size) v (F g ns.length a) 1 (Ad ns) ns.length) (f:Jc S=U (q,j)) (Y:j.getD 0 0<=99999) (X:Hn LS+Mc S<=1500):
  ZH ZI 35 #[ZA (U ⟨kb,0,O⟩),.agg #[ZB word,F g ns.length a]] v fun e w'=>e=.returned (ZB (Db txt (Ct txt N LS).2 S).1)/\(Db txt (Ct txt N LS).2 S).2.C=C/\
   ∃x' R' o',PlSt wA kb (Db txt (Ct txt N LS).2 S).2 (n+1) (2*Hn LS+2*Mc S) LS (Ct txt N LS).1 n n v1 v2 x' R' o' w':=by
 have d:=I0 f;have eC:=D.eC;obtain⟨M,E⟩:∃M,M=(Ct txt N LS).2:=⟨_,rfl⟩
 rw[<-E]at h eC ⊢;have m:=Aej (txt:=txt) (i:=q) (ns:=j) h.ok (by rw[<-d];omega) (by omega);rw[<-d]at m;have s:=scDo_C txt M q j;have y:=dkAnswer_any h.st h.ok h.rs (by omega) (by rw[eC];exact B) (by rw[eC];exact A) word ns g a hi p L l P (by rw[<-d];omega);rw[eC,u,<-d]at y;rw[scLine_ans f];refine y.mono ?_;rintro e w' ⟨H,Q⟩;exact⟨H,s.trans eC,h.told Q m⟩
theorem plSt_snoc{wA:V}{kb:Nat}{txt:ByteArray}{N:KpM}{LS:List ByteArray}{n:Nat}{v1 v2:ZE}{x:DkX}{R:List Bl}{o:Nat->Nat}{w:V}{S:ByteArray}
  (h:PlSt wA kb (Db txt (Ct txt N LS).2 S).2 (n+1) (2*Hn LS+2*Mc S) (LS++ [S]) ((Ct txt N LS).1++ [(Db txt (Ct txt N LS).2 S).1]) (n+1) (n+1) v1 v2 x R o w):
  PlSt wA kb (Ct txt N (LS++ [S])).2 (n+1) (2*Hn (LS++ [S])) (LS++ [S]) (Ct txt N (LS++ [S])).1 (n+1) (n+1) v1 v2 x R o w:=by
 rw[Pb,Sv,Nat.mul_add];exact h
theorem plF_snoc{txt:ByteArray}{N:KpM}{C:Ar}{LS:List ByteArray}{n:Nat}{t a:Int}{S:ByteArray}(h:PlF txt N C LS n t)(d:S.size<=100)(f:t+(Mc S:Int)=a)(eC:(Db txt (Ct txt N LS).2 S).2.C=C):PlF txt N C (LS++ [S]) (n+1) a:=by
 refine⟨by rw[R2,h.len];rfl,by rw[Sv];have:=h.tk;omega,fun s e=>?_,by rw[Pb];exact eC⟩;rcases List.mem_append.1 e with h1|h1
 ·exact h.sm s h1
 ·rw[List.mem_singleton.1 h1];exact d
theorem scriptPlays_any(B:Nat)(sa:Nat->Addr)(R:Nat->Prop)(C:Ar)(cv:ZE)(X:List A2)(l:List qV)(v:ZE)(w:V)(hS:Ii B sa w)(hE:∀k,k<11->w.cell? (sa k)=U (ZB (He (k+1))))(hN:U3 B w)(hT:L9 w.heap.size w)(h:F0 R w cv X)(e8:C.ents=X.map A2.E)(hR:∀b,R b->b<w.heap.size)(hl:Amb (· <w.heap.size) w v l):
  ZH ZI 6 #[.agg (Az C cv),v] w fun e w'=>e=.returned (ZK true)/\ZF w.heap.size w w':=by
 obtain⟨i0,cy,c7,c8,c9⟩:=info_parts infoStr;obtain⟨ao,cap,rfl⟩:=h.row.val;obtain⟨bf,bt⟩:=h.row.capB;obtain⟨id,iy,rfl⟩:=hl.row.val;have H:=G h;have aa:=G hR;have HS:=G hS;have en:=G hE;have HN:=G hN;have HT:=G hT;have dq:=G e8;have HL:=G hl;have er:=G (fun W (hW:ZF w.heap.size w W)=>Ag0 B sa W (HS.below hW) (fun k hk=>by
  have h1:=en k hk;rw[hW.cell (R3 w (sa k) h1)];exact h1) (HN.below hW HS.top) (fun W' br=>HT W' (hW.trans (br.mono hW.size))))
 have gv:=fun(a b:Int) (W:V)=>fieldCode a b W;obtain⟨m,hm⟩:∃m,m=l.length:=⟨_,rfl⟩
 have f9:=G hm;rw[<-hm];have c6:=Ab w (ZC (Az C (F ao X.length cap)) 30);have bd:ZF w.heap.size w (w.alloc (ZC (Az C (F ao X.length cap)) 30)):=(R1 _ _).alloc (Y2 _) _;have ca:=G (fun W (hB:ZF w.heap.size w W)=>(show F0 R W (F ao X.length cap) X from H.keep (Ac.of_below hB) (fun b hb hS=>by have:=aa b hb;omega)));clear h hR hS hE hN hT e8 hl hm;unfold Az at c6 bd ⊢;go_enter func6,ntmps6;go_upto_region 1 with fail;generalize w.alloc _=w1 at c6 bd ⊢;have cm:ZG (w1.heap[w.heap.size]? =U (ZC (Az C (F ao X.length cap)) 30)):=c6;clear c6;obtain⟨cb,fa⟩:∃cb,cb=w.heap.size:=⟨_,rfl⟩
 rw[<-fa]at cm ⊢;clear fa;go_wp2_with fail;refine(er w1 bd).mono ?_;rintro e w2 ⟨rfl,b2⟩;have ci:=G (Ae b2 cm (Aa cm.out));have af:=G (bd.trans (b2.mono bd.size));clear bd b2 cm er;obtain⟨c0,c1,c2,c3,c4⟩:=Ba ci.out;have aq:=G (Xa R C (F ao X.length cap) X w2 (ca w2 af.out) (Bw aa af.out));unfold Az at aq;by_cases hH:Rl X
 ·rw[show Ni X=1 from if_pos hH]at aq;go_wp2_with fail;refine aq.mono ?_;rintro e w3 ⟨rfl,b3⟩;go_wp2_with fail;go_ret;exact⟨rfl,af.trans (b3.mono af.size)⟩
 rw[show Ni X=0 from if_neg hH]at aq;have HH:=G hH;have el:=G (fun W (hB:ZF w.heap.size w W)=>(show Gb R W C (F ao X.length cap) X from⟨ca W hB,dq.out,smallP_of rfl HH.out,by have:=Nat.le_of_not_lt (fun hh=>HH (.inl hh));omega⟩));clear hH;by_cases gp:(60:Int)<(m:Int)
 ·go_wp2_with fail;refine aq.mono ?_;rintro e w3 ⟨rfl,b3⟩;go_wp2_with fail;go_ret;exact⟨rfl,af.trans (b3.mono af.size)⟩
 have im:(m:Int)<=60:=by omega
 clear gp;go_wp2_with fail;refine aq.mono ?_;rintro e w3 ⟨rfl,b3⟩;have cj:=G (Ae b3 ci (Aa ci.out));have ap:=G (af.trans (b3.mono af.size));clear b3 ci af aq c0 c1 c2 c3 c4;obtain⟨c0,c1,c2,c3,c4⟩:=Ba cj.out;have ba:=G (Vh R C (F ao X.length cap) X w3 (el w3 ap.out) (Bw aa ap.out));obtain⟨fc,fi,d7⟩:∃fc fi,B4 C=(fc,fi):=⟨_,_,rfl⟩
 rw[d7]at ba;have f6:=G d7;unfold Az at ba;unfold Ade at ba;clear d7;by_cases fg:fc=0;case neg=>
  have dk:(0:Int)<(fc:Int):=by omega
  go_wp2_with fail;refine ba.mono ?_;rintro e w4 ⟨rfl,b4⟩;have ag:=G (ap.trans (b4.mono ap.size));clear b4;go_wp2_with fail;go_ret;exact⟨rfl,ag.out⟩
 case pos=>
  have dk:¬(0:Int)<(fc:Int):=by omega
  have HC:=G (xR (C:=C) (by rw[f6.out];exact fg));go_wp2_with fail;refine ba.mono ?_;rintro e w4 ⟨rfl,b4⟩;have ck:=G (Ae b4 cj (Aa cj.out));have ag:=G (ap.trans (b4.mono ap.size));clear b4 cj ap ba c0 c1 c2 c3 c4 fg;obtain⟨c0,c1,c2,c3,c4⟩:=Ba ck.out;have du:=G (gJ R C (F ao X.length cap) X w4 (ca w4 ag.out) (Bw aa ag.out) HH.out);unfold Az at du;go_wp2_with fail;refine du.mono ?_;rintro e Q ⟨a6,k6,Y,rfl,cw,hY,b6⟩;have dz:=G (Ae b6 ck (Aa ck.out));have a9:=G (ag.trans (b6.mono ag.size));have e0:ZG (Gb (fun b=>w4.heap.size<=b/\b<Q.heap.size) Q C (F a6 Y.length k6) Y):=(show Gb _ Q C _ Y from⟨hY.ents,by rw[dq.out,cw],smallP_of cw HH.out,by have:=lenP_of cw;have:=Nat.le_of_not_lt (fun hh=>HH (.inl hh));omega⟩)
  clear b6 ck ag du c0 c1 c2 c3 c4 hY cw;have ch:=G (vH B sa _ C (F a6 Y.length k6) Y Q (HS.below a9.out).c (fun W' br=>HT W' (a9.trans (br.mono a9.size))) e0 (fun b hb=>hb.2) HC.out);obtain⟨tt,fq,eb⟩:∃tt:ByteArray,tt.data.toList=C4 C/\⟨(C4 C).toArray⟩=tt:=⟨⟨(C4 C).toArray⟩,by simp,rfl⟩
  have ex:ZG (Ja C=tt):=eb;rw[eb]at ch;have bn:=G fq;unfold Az at ch;clear fq eb;go_wp2_with fail;refine ch.mono ?_;rintro e w7 ⟨rfl,b7⟩;have cl:=G (Ae b7 dz (Aa dz.out));have bk:=G (a9.trans (b7.mono a9.size));clear b7 ch dz a9 e0;obtain⟨c0,c1,c2,c3,c4⟩:=Ba cl.out;have dr:=G (Qc R C (F ao X.length cap) X w7 (el w7 bk.out) (Bw aa bk.out) HC.out);unfold Az at dr;have hne:(tt.toList != tt.toList)=false:=by simp
  go_wp2_with fail;refine dr.mono ?_;rintro e d ⟨⟨S0,rfl,bq⟩,b8⟩;obtain rfl:S0=tt:=Kd (bq.trans bn.symm);have d3:=G (Ae b8 cl (Aa cl.out));have D:=G (bk.trans (b8.mono bk.size));clear bq b8 cl bk dr c0 c1 c2 c3 c4;by_cases h8:(8000:Int)<(S0.size:Int)
  ·go_wp2_with fail;go_ret;exact⟨rfl,D.out⟩
  have gq:(S0.size:Int)<=8000:=by omega
  have cg:=G (show(C4 C).length<=8000 from by
   rw[<-bn.out,C2];have h9:S0.size<=8000:=by omega
   exact h9)
  obtain⟨c0,c1,c2,c3,c4⟩:=Ba d3.out;obtain⟨CC,ct⟩:∃CC:Array ZE,CC=madeCells #[I .u8 0] 4096:=⟨_,rfl⟩
  have g5:∀W:V,(Instr.makeSlice 85 (I J 4096) (I J 4096)).run ZI W=.ok (F (U ⟨W.heap.size,0,O⟩) 4096 4096) (W.alloc (ZC CC 5)):=fun W=>by
   rw[ct];exact run_make_row' (P:=ZI) 85 5 (I .u8 0) 1 underlying85 infoByteP rfl J J 4096 (by omega) (by omega) W
  obtain⟨Z,hZ⟩:∃Z,Z=Aw blank.bs:=⟨_,rfl⟩
  have gu:∀W:V,(convert 85 9 (F (U ⟨W.heap.size,0,O⟩) 4096 4096)).run ZI (W.alloc (ZC CC 5))=.ok (ZB Z) (W.alloc (ZC CC 5)):=fun W=>by
   have h1:=Hy (W.alloc (ZC CC 5)) W.heap.size 0 4096 blank.bs (fun j hj=>by
    rw[ct,Zzt];exact(Gc.made W 4096 5).cell j hj)
   rw[Mn]at h1;rw[hZ];exact h1
  have fd:∀W:V,(convert 85 9 (F (U ⟨W.heap.size,0,O⟩) 4096 4096)).run ZI (W.alloc (ZC CC 5)).drew=.ok (ZB Z) (W.alloc (ZC CC 5)).drew:=fun W=>by
   have h1:=Hy (W.alloc (ZC CC 5)).drew W.heap.size 0 4096 blank.bs (fun j hj=>by
    rw[ct,Zzt];exact(Gc.made W 4096 5).cell j hj)
   rw[Mn]at h1;rw[hZ];exact h1
  obtain⟨N,hN⟩:∃N,N=kp0 C:=⟨_,rfl⟩
  have gc:=G hN;have gb:ZG (N.C=C):=G (by rw[hN];exact kpOpen_C _ _ _);have ga:ZG (Bn N 0):=G (by rw[hN];exact Aj2 HC.out);have dt:ZG (∀W,ZF ((d.alloc (ZC CC 5)).alloc (ZC #[ZB Z,ZK false,I J 0,ZK false,I J 0] 87)).heap.size ((d.alloc (ZC CC 5)).alloc (ZC #[ZB Z,ZK false,I J 0,ZK false,I J 0] 87)) W->
    ZH ZI 34 #[.agg (Az C (F ao X.length cap)),ZA (U ⟨d.heap.size+1,0,O⟩)] W fun e w'=>∃kb x o,e=.returned (ZA (U ⟨kb,0,O⟩))/\Bx d kb x N (List.replicate C.ents.length Jz) o w'):=(show _ from by
   intro W hW;have b1:ZF d.heap.size d (d.alloc (ZC CC 5)):=(R1 _ _).alloc (Y2 _) _;have s1:(d.alloc (ZC CC 5)).heap.size=d.heap.size+1:=H7 _ _;have n2:=Ab (d.alloc (ZC CC 5)) (ZC #[ZB Z,ZK false,I J 0,ZK false,I J 0] 87);rw[s1]at n2;have b2:ZF d.heap.size d ((d.alloc (ZC CC 5)).alloc (ZC #[ZB Z,ZK false,I J 0,ZK false,I J 0] 87)):=b1.alloc b1.size _;have b3:=b2.trans (hW.mono b2.size);have n3:=Ae hW n2 (Aa n2);have g7:RC W (d.heap.size+1) blank:=⟨0,false,by rw[n3,hZ];rfl,.inl ⟨rfl,rfl⟩,by rw[Mn];exact Y2 _⟩
   have bg:=(ca W (D.trans (b3.mono D.size)))
   have ff:F0 (fun b=>b<d.heap.size) W (F ao X.length cap) X:=⟨bg.row.mono (Bw aa D.out),fun y hy=>⟨(bg.each y hy).p.mono (Bw aa D.out),(bg.each y hy).g.mono (Bw aa D.out),(bg.each y hy).e.mono (Bw aa D.out),(bg.each y hy).f.mono (Bw aa D.out),(bg.each y hy).l.mono (Bw aa D.out)⟩⟩
   rw[hN];unfold kp0;exact(Ahh C (F ao X.length cap) X blank (d.heap.size+1) d W b3 g7 (by omega) ff dq (Cv HC.out).1 (by rw[Mn];decide)).mono (fun e w' ⟨kb,x,o,g1,g2,_⟩=>⟨kb,x,o,g1,g2⟩))
  unfold Az at dt;clear h8 dk ct hZ hN;go_upto_region 11 with fail;clear gq hne;have fb:cb<d.heap.size:=Aa d3.out;go_cut [10] (fun ib wx=>∃kb x o,ib=ZA (U ⟨kb,0,O⟩)/\ZG (Bx d kb x N (List.replicate C.ents.length Jz) o wx));case first=>
   go_region_law (first|(go_simp;go_at_call 34;refine(dt _ ?_).mono ?_;(repeat(first|exact R1 _ _|refine H5 ?_));rintro e w9 ⟨kb,x,o,rfl,z⟩;have HZ:=G z;clear z));all_goals
    go_wp2_with fail;go_meet;exact⟨kb,x,o,rfl,G (HZ.below (by repeat(first|exact R1 _ _|refine H5 ?_)))⟩
  case rest=>
  obtain⟨kb,x,o,rfl,hz⟩:=hcut;have i1:=G hz.bel;have de:ZG (PlSt d kb (Ct S0 N []).2 0 (2*Hn []) [] (Ct S0 N []).1 0 0 (F O 0 0) (F O 0 0) x (List.replicate C.ents.length Jz) o wc):=(show _ from
   ⟨hz.out,⟨rfl,.inl ⟨rfl,rfl⟩⟩,⟨rfl,.inl ⟨rfl,rfl⟩⟩,(fun b hb=>by cases hb),(fun b hb=>by cases hb),(fun b hb=>by cases hb),ga.out,pD _ _ _⟩)
  have eo:ZG (PlF S0 N C [] 0 0):=G (⟨rfl,rfl,(fun s hs=>by cases hs),gb.out⟩);have f7:ZG (∀k (hk:k<l.length),∃lb lo,id=U ⟨lb,lo,O⟩/\lb<w.heap.size/\w.cell? ⟨lb,lo+k*2,O⟩=U (ZB l[k].word)/\w.cell? ⟨lb,lo+k*2+1,O⟩=U l[k].vn):=(show _ from fun k hk=>by
   obtain⟨lb,lo,e1,e2,e3,e4⟩:=Acd HL.row (by omega);exact⟨lb,lo,e1,e3,e4 k hk⟩)
  clear hz g5 gu fd fb d3 c0 c1 c2 c3 c4 dt gv;go_wp2_with fail;go_loopw [8,9,11,12] (fun s8 s9 ic ec wr=>∃(i n:Nat) (a1:Option Addr) (j1:Nat) (a2:Option Addr) (j2:Nat) (t:Int) (LS:List ByteArray) (x:DkX) (R':List Bl) (o:Nat->Nat),i<=m/\ec=I J i/\s8=F a1 n j1/\s9=F a2 n j2/\ic=I J t/\n<=i/\(0<=t/\t<=1500)/\ZG (PlF S0 N C LS n t)/\ZG (PlSt d kb (Ct S0 N LS).2 n (2*Hn LS) LS (Ct S0 N LS).1 n n (F a1 n j1) (F a2 n j2) x R' o wr)) (fun _ _ _ ec _=>m-(intOf ec).toNat);case atStart=>exact⟨0,0,O,0,O,0,0,[],x,_,o,In _,rfl,rfl,rfl,rfl,Y2 _,by omega,eo,de⟩
  case round=>
   obtain⟨i,n,a1,j1,a2,j2,t,LS,x,R',o,hi,rfl,rfl,rfl,rfl,it,fp,hF,ax⟩:=hrel;clear de eo;by_cases ea:i<m
   ·have cz:i<l.length:=by have:=f9.out;omega
    have ir:(i:Int)<(m:Int):=by omega
    obtain⟨lb,lo,rfl,fh,az,a0⟩:=f7 i cz;have L:=D.trans (ax.st.bel.mono D.size);have bf:wr.cell? ⟨lb,lo+i*2,O⟩=U (ZB l[i].word):=by rw[L.cell (p:=⟨lb,lo+i*2,O⟩) fh];exact az
    have bt:wr.cell? ⟨lb,lo+i*2+1,O⟩=U l[i].vn:=by rw[L.cell (p:=⟨lb,lo+i*2+1,O⟩) fh];exact a0
    have HR:=G (HL.each l[i] (M2 cz));have dm:=G (HL.i64 l[i] (M2 cz));obtain⟨r,hr⟩:∃r,r=l[i]:=⟨_,rfl⟩
    rw[<-hr]at bf bt HR dm;obtain⟨word,ns,vn⟩:=r;obtain⟨dc,a8,ft⟩:=HR.val;have fu:vn=F dc ns.length a8:=ft;subst fu;have cf:=G (HR.below L (fun b hb=>hb));have ah:=G L;have ew:=G ax.out;have d4:ZG (0<=t/\t<=1500):=fp;have g6:ZG (n<=i+1):=G (by omega);have dj:ZG (n+1<=i+1):=G (by omega);have di:ZG (n<=60):=G (by omega);have cs:ZG (n+1<=maxLen):=G (by unfold maxLen;omega);have cx:ZG ((n+1)*16<=140737488355328):=G (by omega);simp only at bf bt cf dm;clear ax L az a0 hr cz ft HR;by_cases ja:(5:Int)<(ns.length:Int)
    ·go_wp2_with fail;go_ret;exact⟨rfl,ah.out⟩
    ·by_cases iv:(60:Int)<(word.size:Int)
     ·go_wp2_with fail;go_ret;exact⟨rfl,ah.out⟩
     ·have g0:ns.length<=5:=by omega
      have eu:=G (Acf (· <wr.heap.size) word ns (F dc ns.length a8) wr cf.here (fun b hb=>hb) (by omega) g0 dm.out);have es:=G (R3 wr ⟨lb,lo+i*2,O⟩ bf);go_wp2_with fail;refine eu.mono ?_;rintro e w4 ⟨S,is,rfl,bc,b4⟩;have i8:w4.cell? ⟨lb,lo+i*2,O⟩=U (ZB word):=by rw[b4.cell (p:=⟨lb,lo+i*2,O⟩) es.out];exact bf
      have i9:w4.cell? ⟨lb,lo+i*2+1,O⟩=U (F dc ns.length a8):=by rw[b4.cell (p:=⟨lb,lo+i*2+1,O⟩) es.out];exact bt
      have HSt4:=G (ew.below b4);have ce:=G (cf.below b4 (fun b hb=>F5 hb ah.size));have ag:=G (ah.trans (b4.mono ah.size));unfold Hv at bc;clear bf bt ew cf b4 eu ah;cases hq:lnF word ns with
      |none=>
       rw[hq]at bc;have gx:is=false:=bc;subst gx;clear bc hq;go_wp2_with fail;go_roundw;case rel=>exact⟨i+1,n,a1,j1,a2,j2,t,LS,x,R',o,ea,by go_num,rfl,rfl,rfl,g6.out,d4.out,hF,HSt4⟩
       case measure=>simp[intOf];omega
      |some qn=>
       obtain⟨q,nn⟩:=qn;rw[hq]at bc;obtain⟨rfl,d6⟩:is=true/\S.data.toList=Oi q nn:=bc;obtain⟨ay,al,bh,bu,ae⟩:=Alt hq d6;obtain⟨bv,-⟩:=Xx al;have d9:∀k∈nn,k<100000:=fun k hk=>by
        rw[bh]at hk;obtain⟨z,hz,rfl⟩:=List.mem_map.1 hk;have:=ae z hz;omega
       have e9:=Agg (Hg al) bu d9 d6;have c5:=I0 ay;have dh:nn.getD 0 0<=99999:=by
        cases nn with
        |nil=>show 0<=_;omega
        |cons a r=>have:=d9 a Zzo;show a<=_;omega
       have b5:=G (fun hT=>plAns HSt4 hF HC cg ex di word ns dc a8 al bh bu ae (ce.mono (fun b hb=>F5 hb D.size)) ay dh hT);have em:=G (fun x R o w v1 v2=>plSt_snoc (wA:=d) (kb:=kb) (txt:=S0) (N:=N) (LS:=LS) (S:=S) (n:=n) (x:=x) (R:=R) (o:=o) (w:=w) (v1:=v1) (v2:=v2));have cc:=G (fun t' (ht':t+(Mc S:Int)=t') (eC:(Db S0 (Ct S0 N LS).2 S).2.C=C)=>plF_snoc hF e9 ht' eC);have ey:=G hF.tk;clear hq d6 e9 d9 dh;by_cases aw:q=3
       ·have fj:ns.length=1:=by
         have h1:nn.length=1:=by rw[bu,aw];rfl
         rw[bh,Fn]at h1;exact h1
        obtain⟨nb,no,rfl,-,-,fe⟩:=Pr ce (by omega);have fw:=fe 0 (by omega);rw[Zzw]at fw;have g9:=ae ns[0] (M2 (by omega));have d8:(Mc S:Int)=ns[0]:=by
         rw[c5,if_pos aw,bh];exact Af9 fj (fun k hk=>(ae k hk).1) (by omega)
        obtain⟨z,hz⟩:∃z,z=ns[0]'(by omega):=⟨_,rfl⟩
        rw[<-hz]at fw g9 d8;rw[aw]at bv;have gt:(word.toList== [116,105,99,107])=true:=bv;have g3:(0:Int)<(ns.length:Int):=by omega
        clear bv c5 bh bu ae aw fe hz al fj ay;by_cases gn:(1500:Int)<t+z
        ·go_wp2_with fail;go_ret;exact⟨rfl,ag.out⟩
        ·have dx:=G (show Hn LS+Mc S<=1500 by have:=ey.out;omega);have dy:=G (show t+(Mc S:Int)=t+z by rw[d8]);have HT15:ZG (0<=t+z/\t+z<=1500):=G (by omega);clear d8;have HA:=G (b5 dx.out);obtain⟨A,hA⟩:∃A,A=(Db S0 (Ct S0 N LS).2 S).1:=⟨_,rfl⟩
         have dp:=G hA;rw[<-hA]at HA;clear hA;go_wp2_with fail;refine HA.mono ?_;rintro e w5 ⟨rfl,bo,x5,R5,o5,z5⟩;have ar:=G z5;have bl:=G (cc (t+z) dy bo);have HLay1:=G (fun(y:Obj)=>And.intro (ar.own1.later ((R1 w5.heap.size w5).alloc (Y2 _) y)) (show d.heap.size<=(w5.alloc y).heap.size by rw[H7];have:=ar.st.bel.size;omega));have bm:=G (fun(y:Obj) (Q:V) a3 k3 ho hg hn=>ar.app1 (S:=S) (v':=F a3 (n+1) k3) (w1:=Q) ((R1 w5.heap.size w5).alloc (Y2 _) y) ho hg hn);clear z5 bo HA b5 cc ce;go_upto_region 26 with(at_builtin;go_must (refine A3 rfl (.tmp 115) (.tmp 117) 22 rfl d.heap.size 9 i0 _ 1 16 underlying22 cy c7 c8 c9 rfl (by decide) _ n _ rfl (HLay1 _).1 ⟨w5.heap.size,0,O⟩ 1 1 [ZB S] rfl rfl (A1 _ [ZB S] _) (by intro u hu;simp at hu;subst hu;rfl) cs cx (HLay1 _).2 ?_;intro a3 k3 Q ho hg hn;have au:=G (bm _ Q a3 k3 ho hg hn);clear ho hg hn))
         have HLay2:=G (fun(y:Obj)=>And.intro (au.own2.later ((R1 Q.heap.size Q).alloc (Y2 _) y)) (show d.heap.size<=(Q.alloc y).heap.size by rw[H7];have:=au.st.bel.size;omega));have ds:=G (fun(y:Obj) (w7:V) a4 k4 ho hg hn=>au.app2 (S:=A) (v':=F a4 (n+1) k4) (w1:=w7) ((R1 Q.heap.size Q).alloc (Y2 _) y) ho hg hn);clear HLay1 bm;go_wp2_with (at_builtin;go_must (refine A3 rfl (.tmp 119) (.tmp 121) 22 rfl d.heap.size 9 i0 _ 1 16 underlying22 cy c7 c8 c9 rfl (by decide) _ n _ rfl (HLay2 _).1 ⟨Q.heap.size,0,O⟩ 1 1 [ZB A] rfl rfl (A1 _ [ZB A] _) (by intro u hu;simp at hu;subst hu;rfl) cs cx (HLay2 _).2 ?_;intro a4 k4 w7 ho hg hn;have dv:=G (ds _ w7 a4 k4 ho hg hn);clear ho hg hn));have av:=dv.out;rw[dp.out]at av;have dw:=G (em _ _ _ _ _ _ av);clear av;go_roundw;case rel=>exact⟨i+1,n+1,a3,k3,a4,k4,(t+z),LS++ [S],x5,R5,o5,ea,by go_num,rfl,rfl,rfl,dj.out,HT15.out,bl,dw⟩
         case measure=>simp[intOf];omega
       ·have gt:(word.toList== [116,105,99,107])=false:=by rw[bv];exact N1 aw
        have h0:Mc S=0:=by rw[c5,if_neg aw]
        have dx:=G (show Hn LS+Mc S<=1500 by have:=ey.out;have:=d4.out;omega);have dy:=G (show t+(Mc S:Int)=t by rw[h0];simp);clear bv c5 bh bu ae aw al ay h0;have HA:=G (b5 dx.out);obtain⟨A,hA⟩:∃A,A=(Db S0 (Ct S0 N LS).2 S).1:=⟨_,rfl⟩
        have dp:=G hA;rw[<-hA]at HA;clear hA;go_wp2_with fail;refine HA.mono ?_;rintro e w5 ⟨rfl,bo,x5,R5,o5,z5⟩;have ar:=G z5;have bl:=G (cc t dy bo);have HLay1:=G (fun(y:Obj)=>And.intro (ar.own1.later ((R1 w5.heap.size w5).alloc (Y2 _) y)) (show d.heap.size<=(w5.alloc y).heap.size by rw[H7];have:=ar.st.bel.size;omega));have bm:=G (fun(y:Obj) (Q:V) a3 k3 ho hg hn=>ar.app1 (S:=S) (v':=F a3 (n+1) k3) (w1:=Q) ((R1 w5.heap.size w5).alloc (Y2 _) y) ho hg hn);clear z5 bo HA b5 cc ce;go_upto_region 26 with(at_builtin;go_must (refine A3 rfl (.tmp 115) (.tmp 117) 22 rfl d.heap.size 9 i0 _ 1 16 underlying22 cy c7 c8 c9 rfl (by decide) _ n _ rfl (HLay1 _).1 ⟨w5.heap.size,0,O⟩ 1 1 [ZB S] rfl rfl (A1 _ [ZB S] _) (by intro u hu;simp at hu;subst hu;rfl) cs cx (HLay1 _).2 ?_;intro a3 k3 Q ho hg hn;have au:=G (bm _ Q a3 k3 ho hg hn);clear ho hg hn))
        have HLay2:=G (fun(y:Obj)=>And.intro (au.own2.later ((R1 Q.heap.size Q).alloc (Y2 _) y)) (show d.heap.size<=(Q.alloc y).heap.size by rw[H7];have:=au.st.bel.size;omega));have ds:=G (fun(y:Obj) (w7:V) a4 k4 ho hg hn=>au.app2 (S:=A) (v':=F a4 (n+1) k4) (w1:=w7) ((R1 Q.heap.size Q).alloc (Y2 _) y) ho hg hn);clear HLay1 bm;go_wp2_with (at_builtin;go_must (refine A3 rfl (.tmp 119) (.tmp 121) 22 rfl d.heap.size 9 i0 _ 1 16 underlying22 cy c7 c8 c9 rfl (by decide) _ n _ rfl (HLay2 _).1 ⟨Q.heap.size,0,O⟩ 1 1 [ZB A] rfl rfl (A1 _ [ZB A] _) (by intro u hu;simp at hu;subst hu;rfl) cs cx (HLay2 _).2 ?_;intro a4 k4 w7 ho hg hn;have dv:=G (ds _ w7 a4 k4 ho hg hn);clear ho hg hn));have av:=dv.out;rw[dp.out]at av;have dw:=G (em _ _ _ _ _ _ av);clear av;go_roundw;case rel=>exact⟨i+1,n+1,a3,k3,a4,k4,t,LS++ [S],x5,R5,o5,ea,by go_num,rfl,rfl,rfl,dj.out,d4.out,bl,dw⟩
        case measure=>simp[intOf];omega
   ·have g3:¬(i:Int)<(m:Int):=by omega
    have L:=D.trans (ax.st.bel.mono D.size);have ah:=G L;have a7:=hF.len;have cu:(Ct S0 N LS).1.length=n:=by rw[kW,a7]
    have fn:Av (fun b=>b<wr.heap.size) wr (F a1 n j1) 1 (Aj LS) LS.length:=by rw[a7];exact ax.own1.slOf.here
    have fm:Hh S0=(C,(0,-1)):=Ae1 HC bn cg.out;have fo:S0.size=(C4 C).length:=by rw[<-bn.out,C2];rfl
    have bq:S0=⟨(C4 C).toArray⟩:=Kd (by rw[bn.out]);have cd:=G (Wc B sa S0 LS (F a1 n j1) _ wr (HS.below L) (fun k hk=>by
      have h1:=en k hk;rw[L.cell (R3 w (sa k) h1)];exact h1) (HN.below L HS.top) (fun W' br=>HT W' (L.trans (br.mono L.size))) fn (fun b hb=>hb) (by rw[fo];exact cg.out) HC cg (fun k hk _=>by rw[bq]at hk;exact Aci HC k hk) (fun s hs=>by have:=hF.sm s hs;omega) (by have:=hF.tk;omega) (by omega) fm)
    rw[ex.out,<-gc.out,a7]at cd;obtain⟨L2,bp⟩:∃L2,L2=(Ct S0 N LS).1:=⟨_,rfl⟩
    rw[<-bp]at cd cu;have ez:=G (fun W (hW:ZF wr.heap.size wr W)=>(show Av (fun b=>b<wr.heap.size) W (F a2 n j2) 1 (Aj L2) L2.length from by
     have h1:=ax.own2.slOf.here;rw[<-bp]at h1;rw[cu];exact h1.below hW (fun b hb=>hb)))
    have et:=G cu;have di:n<=60:=by omega
    clear ax L hF fn fm fo bq bp cu a7;go_wp2_with fail;refine cd.mono ?_;rintro e w9 ⟨gh,e6,rfl,fk,b9⟩;have gd:=G (Tt _ _ L2 (F gh n e6) (F a2 n j2) w9 (by rw[et.out];exact fk.slOf) (ez w9 b9) (by rw[et.out];omega));have f5:=G (ah.trans (b9.mono ah.size));clear fk b9 cd ez;go_wp2_with fail;refine gd.mono ?_;rintro e je ⟨rfl,q,rfl⟩;go_wp2_with fail;go_ret;exact⟨rfl,Ag _ f5.out⟩
end Go.Proofs.YtikehilbmldadaaGreatDoor
namespace Go.Proofs.YtikehilbmldadaaGreatDoor.scriptPlays
open Go.ChangeShapes Go.WideShapes Go.ChangeAt Go.RowKit
theorem own:ownKnob ZI.godebug=O:=by kernel_rfl
theorem laidOut:laidOutB ZI=true:=by kernel_rfl
theorem lifted(os:Os)(f:os.Started)(H:Type)(enc:TypeId × ZE->H):
  ReturnsInHanded {} Tryz.checked os 6 .any (fun w args=>(Rows.scriptPlaysSpec.pre enc ZI Tryz.f6 Rows.scriptPlaysRow.domain false w args/\laidMetH ZI Rows.scriptPlaysRow.laid w)/\sizedMet enc ZI Tryz.f6 (OpenSpec.ofChange Rows.scriptPlaysSpec) false w args) (Rows.scriptPlaysSpec.post enc ZI Tryz.f6 false true false false):=by
 refine returnsInHanded_of_change_and (C:=Tryz.checked) (X:=fun w _=>laidMetH ZI Rows.scriptPlaysRow.laid w) (fun _ _ _ hh h=>h.of_heap hh) own f (by kernel_rfl) func6
  (ChangeSpec.witness_shaped (enc:=enc) (C:=Tryz.checked) (os:=os) (X:=fun w _=>laidMetH ZI Rows.scriptPlaysRow.laid w) false (doorW os) #[.agg #[I J 0,I J 0,I J 0,I J 0,F O 0 0],F O 0 0] 7 (doorW_os os) (World.shaped_of_ZipB (by kernel_rfl) (by kernel_rfl)) (by kernel_rfl) (by kernel_rfl) (by kernel_rfl) (door_met os _)) ?_
 intro W g args ds gs A d hW ad _ hL _;have a:∀(j:Nat) t v,Tryz.f6.params[j]? =U t->args[j]? =U v->Value.okWide ZI W .any g t v:=d;have n:=hW;obtain⟨p,q,i,hV,rfl,an,aq⟩:=hW;have hA:DataW.TrodAll enc ZI W 0 (fun _=>true) true Tryz.f6.params.toList args.toList ds p:=i;rw[params6]at hA a;obtain⟨v0,ax,d0,ai,p0,q0,N,rfl,rfl,h0,r0⟩:=trodAll_cons hA;obtain⟨v1,ay,d1,aj,p1,q1,rfl,rfl,rfl,h1,r1⟩:=trodAll_cons r0;obtain⟨rfl,rfl,rfl⟩:=trodAll_nil r1;obtain rfl:args=#[v0,v1]:=by cases args;simp_all
 obtain⟨rfl,rfl⟩:=trodVars_none hV;obtain⟨B,s,_⟩:=okWide_struct underlying30 (a 0 30 v0 rfl rfl);obtain⟨C0,X0,aa,rfl,Y,D,az⟩:=All ⟨B,s⟩ (Ame h0);obtain⟨a1,n1,c1,u⟩:=okWide_slice underlying71 (a 1 71 v1 rfl rfl);obtain⟨l1,Z,y⟩:=(show Rd enc ZI W 71 [v1] from by rw[u];rw[u]at h1;exact Ame h1).rows Alu 2 (fun _=>rfl) (by decide) underlying71 cLine _ Ali;obtain⟨sa,E,L,l,m⟩:=laid_all hL;clear i d;simp only[Zz8]at n;refine(scriptPlays_any _ sa (· <W.heap.size) C0 aa X0 l1 v1 W E L l m Y D (fun b P=>P) ⟨Z,fun r Q=>(y r Q).1,fun r Q k hk=>(y r Q).2 k hk⟩).mono fun e W' ⟨he,P⟩=>?_;subst he;exact⟨_,rfl,Ais laidOut (by kernel_rfl) rfl rfl underlying4 n rfl P⟩
end Go.Proofs.YtikehilbmldadaaGreatDoor.scriptPlays
namespace Go.Proofs.YtikehilbmldadaaGreatDoor.scriptPlays
open Go.ChangeShapes Go.WideShapes Go.ChangeAt Go.RowKit
theorem over:Rows.scriptPlaysRow.holds Tryz.pinned (OpenSpec.ofChange Rows.scriptPlaysSpec):=
 OpenClaim.holds_of_wide 6 Tryz.f6 rfl rfl rfl rfl rfl rfl rfl ⟨rfl,rfl,rfl,rfl,rfl⟩ rfl rfl rfl rfl rfl (by as_aux_lemma=>kernel_rfl) func6 scriptPlays.closed
  (Zyq (by as_aux_lemma=>kernel_rfl)) (by unfold Func.isWrapper;first|(rw[if_pos (by decide+kernel)];kernel_rfl)|(rw[if_neg (by decide+kernel)];exact⟨rfl,rfl⟩))
  (fun os a H d _=>lifted os a H d)
theorem proved:Rows.ScriptPlaysSaid:=over
theorem card:Rows.ScriptPlaysCardSaid:=
 Claim7.holds_tied_plain_at .later [] Rows.scriptPlaysCard.laidKinds true Rows.scriptPlaysCard.stood.harness Rows.scriptPlaysCard.stood.looks
  proved (fun _ h=>by cases h) (by as_aux_lemma=>kernel_rfl) (fun _ h=>by cases h) scriptPlays_row_tie rfl ⟨rfl,rfl⟩ (by as_aux_lemma=>kernel_rfl) rfl
  (fun f g i d=>by
   obtain rfl:f=6:=Option.some.inj ((show ZI.funcNamed "nightwatch/nightwatchlaw3.ScriptPlays"=U 6 by as_aux_lemma=>kernel_rfl).symm.trans i) |>.symm
   obtain rfl:g=Tryz.f6:=(Option.some.inj (func6.symm.trans d)).symm
   exact⟨by as_aux_lemma=>kernel_rfl,fun j t e=>by
    rw[params6]at e
    have a:((#[30,71]:Array TypeId).toList.all fun u=>!Tryz.prog.wantsStandIn u)=true:=by as_aux_lemma=>kernel_rfl
    exact(show ZI.wantsStandIn t=false by simpa using List.all_eq_true.1 a t (Array.mem_toList_iff.2 (Array.mem_of_getElem? e)))⟩)
  (by as_aux_lemma=>kernel_rfl)
#print axioms card
