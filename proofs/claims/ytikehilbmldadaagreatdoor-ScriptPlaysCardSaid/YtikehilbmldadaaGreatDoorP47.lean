import Derived.Test.YtikehilbmldadaaGreatDoorP43
import Derived.Test.YtikehilbmldadaaGreatDoorP50
set_option maxHeartbeats 8000000
set_option maxRecDepth 100000
set_option linter.unusedVariables false
namespace Go.Proofs.YtikehilbmldadaaGreatDoor
open Proofs.Tryz YtikehilbmldadaaGreatDoor.Tryz RowKit
open Go renaming World->V,Value->ZE,RowKit.Below->ZF,Calls->ZH,Value.slice->F,Value.pointer->ZA,Value.string->ZB,Obj.cells->ZC,Ending.returned->ZD,Proofs.Tryz.prog->ZI
open Option renaming some->U,none->O
theorem Tryz.methodError(v:ZE)(w:V):(Go.method 514 372 v "Error").run ZI w=.ok (349,v) w:=by kernel_rfl
theorem zA(a:Addr)(s:ByteArray)(w:V)(h:w.cell? a=U (ZB s)):
  ZH ZI 349 #[ZA (U a)] w fun e w'=>e=ZD (ZB s)/\w=w':=by
 obtain⟨b,off,d⟩:=a;obtain rfl:d=O:=World.cell?_spot h;go_enter func349,ntmps349;go_wp2_with fail;go_ret;exact⟨rfl,rfl⟩
structure Qo (B:Nat) (sa:Nat->Addr) (w0:V) (kb c pb:Nat) (txt:ByteArray) (p k:Nat) (cs:List ZE) (v:ZE) (x:KpX) (M:KpM) (o:Nat->Nat) (wr:V):Prop where
 kp:Bq B sa w0 kb c txt x M o wr
 own:Ax wr p 9 1 v k cs
 vo:∀b,v.ownBlock=U b->o b=0
 pl:wr.heap[pb]? =U (plC kb c)
 po:o pb=0
 lo:w0.heap.size<=p
 hi:p<=wr.heap.size
 pp:pb<p
section
variable {B:Nat} {sa:Nat->Addr} {w0:V} {kb c pb:Nat} {txt:ByteArray} {p k:Nat} {cs:List ZE} {v:ZE} {x:KpX} {M:KpM} {o:Nat->Nat} {wr:V}
theorem Qo.play{g:KpX}{f:KpM}{o':Nat->Nat}{w':V}(h:Qo B sa w0 kb c pb txt p k cs v x M o wr)(i:Bq B sa w0 kb c txt g f o' w')(a:Fr o o' wr w'):Qo B sa w0 kb c pb txt p k cs v g f o' w':=
 ⟨i,h.own.keep a.kp (fun b d e=>e (h.vo b d)),fun b d=>by rw[a.agree b (h.own.lt b d).2];exact h.vo b d,a.kp.get h.pl (fun e=>e h.po),by rw[a.agree pb (Aa h.pl)];exact h.po,h.lo,No h.hi a.kp.size,h.pp⟩
theorem Qo.below{w':V}(h:Qo B sa w0 kb c pb txt p k cs v x M o wr)(b:ZF wr.heap.size wr w'):Qo B sa w0 kb c pb txt p k cs v x M o w':=h.play (h.kp.below b) (Fr.below o b)
theorem Qo.app{W w':V}{a2:Option Addr}{k2:Nat}{e:List ZE}(h:Qo B sa w0 kb c pb txt p k cs v x M o wr)(f:ZF wr.heap.size wr W)(n:Ax w' p 9 1 (F a2 (k+1) k2) (k+1) e)(m:W.grownBy w' v.ownBlock)
  (g:(Value.slice a2 (k+1) k2).ownBlock=v.ownBlock\/∀b,(Value.slice a2 (k+1) k2).ownBlock=U b->W.heap.size<=b):Qo B sa w0 kb c pb txt p (k+1) e (F a2 (k+1) k2) x M o w':=by
 have a:=h.below f;have i:Ac (fun b=>U b=v.ownBlock) W w':=Ac.of_grown m;have j:=fun b (d:U b=v.ownBlock)=>(a.own.lt b d.symm)
 refine⟨a.kp.far i (fun b l d=>⟨a.vo b d.symm,No a.lo (j b d).1⟩),n,fun b f=>?_,i.get a.pl (fun d=>by have:=(j pb d).1;have:=a.pp;omega),a.po,a.lo,No a.hi i.size,a.pp⟩;rcases g with g|g
 ·rw[g]at f;exact a.vo b f
 ·have h2:=g b f;cases q:o b with
  |zero=>rfl
  |succ z=>have:=(a.kp.b.low b (by rw[q];exact Zzp z)).2;omega
end
structure qT (B:Nat) (sa:Nat->Addr) (w0:V) (kb c pb:Nat) (txt:ByteArray) (p:Nat) (M0:KpM) (lines:List ByteArray) (k:Nat) (v:ZE) (wr:V):Prop where
 st:∃x o,Qo B sa w0 kb c pb txt p k (Aj (Ct txt M0 (lines.take k)).1) v x (Ct txt M0 (lines.take k)).2 o wr
 ok:Bn (Ct txt M0 (lines.take k)).2 (2*Hn (lines.take k))
theorem vQ(a:List ByteArray)(k:Nat):Hn (a.take k)<=Hn a:=by
 have e:(a.map Mc).sum=((a.take k).map Mc).sum+((a.drop k).map Mc).sum:=by rw[<-List.sum_append,<-B0,Zxz]
 unfold Hn;omega
theorem Xv{txt:ByteArray}{M0:KpM}{a:List ByteArray}{k:Nat}(d:k<a.length):
  Ct txt M0 (a.take (k+1))=((Ct txt M0 (a.take k)).1++ [(Db txt (Ct txt M0 (a.take k)).2 a[k]).1],(Db txt (Ct txt M0 (a.take k)).2 a[k]).2)/\Hn (a.take (k+1))=Hn (a.take k)+Mc a[k]:=by
 rw[If d];exact⟨Pb txt _ _ _,Sv _ _⟩
theorem qT.next{B:Nat}{sa:Nat->Addr}{w0:V}{kb c pb:Nat}{txt:ByteArray}{p:Nat}{M0:KpM}{a:List ByteArray}{k:Nat}{w':V}{a2:Option Addr}{k2:Nat}{x:KpX}{o:Nat->Nat}{S:ByteArray}(g:k<a.length)
  (ok:Bn (Ct txt M0 (a.take k)).2 (2*Hn (a.take k))) (j:2*Hn a<=400000) (f:S=(Db txt (Ct txt M0 (a.take k)).2 a[k]).1)
  (h:Qo B sa w0 kb c pb txt p (k+1) (Aj (Ct txt M0 (a.take k)).1++ [ZB S]) (F a2 (k+1) k2) x (Db txt (Ct txt M0 (a.take k)).2 a[k]).2 o w'):
  qT B sa w0 kb c pb txt p M0 a (k+1) (F a2 (k+1) k2) w':=by
 obtain⟨d,e⟩:=Xv (txt:=txt) (M0:=M0) g;have i:=vQ a (k+1);refine⟨⟨x,o,?_⟩,?_⟩
 ·rw[d,Ji,<-f];exact h
 ·rw[d,e,Nat.mul_add];exact Afl ok (by omega)
theorem Wc(B:Nat)(sa:Nat->Addr)(d:ByteArray)(a:List ByteArray)(v:ZE)(R:Nat->Prop)(w:V)(L:Ii B sa w)(hE:∀k,k<11->w.cell? (sa k)=U (ZB (He (k+1))))(hN:U3 B w)(hT:L9 w.heap.size w)(hl:Av R w v 1 (Aj a) a.length)(hR:∀b,R b->b<w.heap.size)
  (m:d.size<=8000) {C:Ar} (t:B4 C=(0,-1)) (h8:(C4 C).length<=8000) (Z:∀k,k<=(Cl d).length->(∀j,j<k->Gy (Cl d) j=0)->k<=1000) (b2:∀s∈a,s.size<=100000) (ca:2*Hn a<=400000) (bu:a.length<=100) (hr:Hh d=(C,(0,-1))):
  ZH ZI 8 #[ZB d,v] w fun e w'=>∃ao cap,e=ZD (.tuple #[F ao a.length cap,.nilIface])/\Ax w' w.heap.size 9 1 (F ao a.length cap) a.length (Aj (Ct (Ja C) (kp0 C) a).1)/\ZF w.heap.size w w':=by
 obtain⟨i0,b0,cf,cg,ch⟩:=info_parts infoStr;obtain⟨c7,di,rfl⟩:=hl.val;have aj:=G (wL B sa d w L.c hN (by omega) Z);rw[hr]at aj;unfold Rj at aj;have bm:=G (fun(W:V) (hW:ZF w.heap.size w W) Q v X (hX:Gb Q W C v X) (T:∀b,Q b->b<W.heap.size) c rb cap (hm:A7 W c rb (U ⟨rb,0,O⟩) cap blank) (hc:w.heap.size<=c/\w.heap.size<=rb)=>Ago B sa Q C v X w W c rb cap blank (L.k.below hW) (hN.below hW L.top) (fun W' cu=>hT W' (hW.trans (cu.mono hW.size))) hX T t h8 hW L.top hm hc (by rw[Mn];decide) rfl);have cc:(Ja C).size<=100000:=by unfold Ja;rw[vP];omega
 have bl:=G (Aj2 t);have bq:=G (fun(k:Nat) (hk:k<a.length) wr (x:KpX) (M:KpM) (o:Nat->Nat) kb c pb (h:Bq B sa w kb c (Ja C) x M o wr) (hO:Bn M (2*Hn (a.take k))) (hp:wr.heap[pb]? =U (plC kb c)) (A:o pb=0)=>
  (show(E9 (Ja C) M a[k]).1<=11/\ZH ZI 39 #[ZA (U ⟨pb,0,O⟩),ZB a[k]] wr (Gs B sa w kb c (Ja C) (E9 (Ja C) M a[k]) o wr)from by
   have h1:=vQ a (k+1);have h2:=(Xv (txt:=Ja C) (M0:=M) hk).2;exact⟨Afj hO (by omega),Ait a[k] h hO (hN.below h.b.bel L.top) hp A cc (b2 _ (M2 hk)) (by omega)⟩))
 have HS:=G L;have HE:=G hE;have cm:=G ca;obtain⟨i,ak⟩:∃i,i=kp0 C:=⟨_,rfl⟩
 obtain⟨txt,D⟩:∃txt,txt=Ja C:=⟨_,rfl⟩
 have HKn2:Hid (∀(W:V) (hW:ZF w.heap.size w W) Q v X (hX:Gb Q W C v X) (T:∀b,Q b->b<W.heap.size) c rb cap (hm:A7 W c rb (U ⟨rb,0,O⟩) cap blank) (hc:w.heap.size<=c/\w.heap.size<=rb),ZH ZI 38 #[.agg (Az C v),ZA (U ⟨c,0,O⟩)] W fun e w'=>∃kb x o,e=ZD (.tuple #[ZA (U ⟨kb,0,O⟩),.nilIface])/\Bq B sa w kb c txt x i o w'):=(show ∀(W:V) (hW:ZF w.heap.size w W) Q v X (hX:Gb Q W C v X) (T:∀b,Q b->b<W.heap.size) c rb cap (hm:A7 W c rb (U ⟨rb,0,O⟩) cap blank) (hc:w.heap.size<=c/\w.heap.size<=rb),ZH ZI 38 #[.agg (Az C v),ZA (U ⟨c,0,O⟩)] W fun e w'=>∃kb x o,e=ZD (.tuple #[ZA (U ⟨kb,0,O⟩),.nilIface])/\Bq B sa w kb c txt x i o w' from
  fun W hW Q v X hX T c rb cap hm hc=>(bm W hW Q v X hX T c rb cap hm hc).mono (fun e w' hh=>by
   obtain⟨kb,x,o,h1,h2,_,_⟩:=hh;rw[ak,D];exact⟨kb,x,o,h1,h2⟩))
 rw[<-D]at bq;rw[<-ak]at bl;rw[<-ak,<-D];obtain⟨n,hn⟩:∃n,n=a.length:=⟨_,rfl⟩
 have HN:=G hn;have HL:Hid (∀k (hk:k<a.length),∃lb lo,c7=U ⟨lb,lo,O⟩/\lb<w.heap.size/\w.cell? ⟨lb,lo+k,O⟩=U (ZB a[k])):=G (fun k hk=>by
  obtain⟨lb,lo,e1,_,e2,e3⟩:=E8 hl (by omega);exact⟨lb,lo,e1,e2,e3 k hk⟩)
 have cr:(n:Int)<=100:=by omega
 rw[<-hn];clear L hE hN hT hl hR m b2 ca bu hr t h8 bm cc ak D hn;go_enter func8,ntmps8;go_wp2_with fail;refine aj.mono ?_;rintro e w1 ⟨a9,n9,k9,u,X9,rfl,hu,m,-,b1⟩;have c2:u=.nilIface:=by
  rcases hu with⟨_,hu⟩|⟨_,cv,_⟩
  ·rw[hu];rfl
  ·exact absurd cv (Nat.lt_irrefl 0)
 subst c2;have bj:=G (m trivial);have ar:=Ab w1 (ZC (Az C (F a9 n9 k9)) 30);have H:ZF w1.heap.size w1 (w1.alloc (ZC (Az C (F a9 n9 k9)) 30)):=(R1 _ _).alloc (Y2 _) _;have a3:=G b1;clear hu m b1 aj;unfold Az at ar H HKn2 ⊢;go_upto_region 4 with fail;generalize w1.alloc _=w2 at ar H ⊢;have ac:w2.heap[w1.heap.size]? =U (ZC (Az C (F a9 n9 k9)) 30):=ar;obtain⟨cb,bz⟩:∃cb,cb=w1.heap.size:=⟨_,rfl⟩
 rw[<-bz]at ac ⊢;have ba:=G ac;have HCS2:=G (bj.below H (fun b hb=>hb.2));have ah:=G (a3.trans (H.mono a3.size));have a8:=G (show ∀b,w.heap.size<=b/\b<w1.heap.size->b<w2.heap.size from fun b hb=>F5 hb.2 H.size);have bk:=G (Zo w2);clear ar H ac bz bj a3;go_wp2_with fail;refine bk.mono ?_;rintro e w3 ⟨c,rb,cap,rfl,hm,hc,b3⟩;have ce:=Ae b3 ba (Aa ba.out);obtain⟨d0,d1,d2,d3,d4⟩:=Ba ce;have cj:=G (ah.trans (b3.mono ah.size));have bn:=G (HKn2 w3 cj _ _ X9 (HCS2.below b3 a8.out) (fun b hb=>F5 (a8 b hb) b3.size) c rb cap hm (by have:=ah.size;omega));clear hm hc b3 ce ba HCS2 a8 bk HKn2 ah;go_wp2_with fail;refine bn.mono ?_;rintro e w4 ⟨kb,x,o,rfl,z⟩;have HZ:=G z;have f:=Ab w4 (plC kb c);have K:ZF w4.heap.size w4 (w4.alloc (plC kb c)):=(R1 _ _).alloc (Y2 _) _;unfold plC at f K;clear z d0 d1 d2 d3 d4 bn;go_upto_region 13 with fail;obtain⟨w5,cd⟩:∃w5,w5=w4.alloc (ZC #[ZA (U ⟨kb,0,O⟩),ZA (U ⟨c,0,O⟩)] 98):=⟨_,rfl⟩
 rw[<-cd]at f K ⊢;clear cd;obtain⟨pb,ax⟩:∃pb,pb=w4.heap.size:=⟨_,rfl⟩
 rw[<-ax]at f ⊢;have P:Hid (qT B sa w kb c pb txt w5.heap.size i a 0 (F O 0 0) w5):=(show qT B sa w kb c pb txt w5.heap.size i a 0 (F O 0 0) w5 from
  ⟨⟨x,o,HZ.below K,⟨rfl,.inl ⟨rfl,rfl⟩⟩,(fun b hb=>by cases hb),f,by
   cases hz:o pb with
   |zero=>rfl
   |succ z=>have:=(HZ.b.low pb (by rw[hz];exact Zzp z)).2;omega,
   No HZ.b.bel.size K.size,Y2 _,Aa f⟩,by
   show Bn i (2*Hn [])
   exact bl.out⟩)
 have b8:w.heap.size<=w5.heap.size:=No HZ.b.bel.size K.size;have bp:=G b8;clear f K ax HZ b8;generalize c1:w5.heap.size=p at P bp;clear c1;go_wp2_with fail;go_loopw [11,50] (fun c6 bc wr=>∃(k:Nat) (a1:Option Addr) (j1:Nat),k<=n/\c6=F a1 k j1/\bc=.int .i64 k/\Hid (qT B sa w kb c pb txt p i a k (F a1 k j1) wr)) (fun _ bc _=>n-(intOf bc).toNat);case atStart=>exact⟨0,O,0,In _,rfl,rfl,P⟩
 case round=>
  obtain⟨k,a1,j1,hk,rfl,rfl,aq⟩:=hrel;clear P;by_cases b4:k<n
  ·have Z:k<a.length:=by have:=HN.out;omega
   have b5:(k:Int)<(n:Int):=by omega
   obtain⟨lb,lo,rfl,cz,Y⟩:=HL k Z;obtain⟨⟨x,o,t⟩,hO⟩:=aq.out;have cw:wr.cell? ⟨lb,lo+k,O⟩=U (ZB a[k]):=by rw[t.kp.b.bel.cell (p:=⟨lb,lo+k,O⟩) cz];exact Y
   obtain⟨aa,f⟩:=bq k Z wr x _ o kb c pb t.kp hO t.pl t.po;have HC:=G t;have HO:=G hO;obtain⟨ln,ap⟩:∃ln,ln=a[k]:=⟨_,rfl⟩
   have dm:=G ap;rw[<-ap]at cw aa f;have N:=G (fun(wz W w':V) x' o' (hc:Qo B sa w kb c pb txt p k (Aj (Ct txt i (a.take k)).1) (F a1 k j1) x' (Db txt (Ct txt i (a.take k)).2 a[k]).2 o' wz) (hb:ZF wz.heap.size wz W) a2 k2 S (L:S=(Db txt (Ct txt i (a.take k)).2 a[k]).1) A hg hn=>qT.next (S:=S) Z HO cm L (hc.app (W:=W) (w':=w') (a2:=a2) (k2:=k2) hb A hg hn));rw[<-ap]at N;obtain⟨M,hM⟩:∃M,M=(Ct txt i (a.take k)).2:=⟨_,rfl⟩
   rw[<-hM]at aa f N;have a5:Hid (Qo B sa w kb c pb txt p k (Aj (Ct txt i (a.take k)).1) (F a1 k j1) x M o wr):=(show _ from by rw[hM];exact HC.out)
   obtain⟨cs,m⟩:∃cs,cs=Aj (Ct txt i (a.take k)).1:=⟨_,rfl⟩
   rw[<-m]at N a5;unfold Gs at f;have HLine:=G (show Db txt M ln=(if (E9 txt M ln).1=0 then (E9 txt M ln).2.1 else He (E9 txt M ln).1,(E9 txt M ln).2.2)from rfl);obtain⟨r,hr⟩:∃r,r=E9 txt M ln:=⟨_,rfl⟩
   rw[<-hr]at aa f HLine;obtain⟨re,rs,rM⟩:=r;have bo:=G f;have ck:Hid (re<=11):=aa;have bv:Hid (k+1<=maxLen):=G (by unfold maxLen;omega);have bx:Hid ((k+1)*16<=140737488355328):=G (by omega);clear aq t hO aa f ap hM m hr HC Y;have HLay:=G (fun(wz:V) x' o' M' (h:Qo B sa w kb c pb txt p k cs (F a1 k j1) x' M' o' wz) (y:Obj)=>And.intro (h.own.later ((R1 _ _).alloc (Y2 _) y)) (show p<=(wz.alloc y).heap.size by rw[H7];have:=h.hi;omega));have dx:=methodError;go_wp2_with fail;refine bo.mono ?_;rintro e w6 ⟨rfl,x',o',z1,z2⟩;have l:=a5.play z1 z2;clear z1 z2 bo a5;cases re with
   |zero=>
    have ai:=G (show rs=(Db txt M ln).1 from by rw[HLine.out];rfl);have E:Hid (Qo B sa w kb c pb txt p k cs (F a1 k j1) x' (Db txt M ln).2 o' w6):=G (by rw[HLine.out];exact l);clear l;rw[Fe];go_wp2_with (at_builtin;go_must (refine A3 rfl (.tmp 65) (.tmp 67) 22 rfl p 9 i0 _ 1 16 underlying22 b0 cf cg ch rfl (by decide) _ k _ rfl (HLay _ _ _ _ E _).1 ⟨World.heap w6 |>.size,0,O⟩ 1 1 [ZB rs] rfl rfl (A1 _ [ZB rs] _) (by intro u hu;simp at hu;subst hu;rfl) bv bx (HLay _ _ _ _ E _).2 ?_;intro a2 k2 w4 A hg hn;have nx:=G (N w6 _ w4 _ _ E ((R1 _ _).alloc (Y2 _) _) a2 k2 rs ai A hg hn);clear A hg hn));go_roundw;case rel=>exact⟨k+1,a2,k2,b4,rfl,by go_num,nx⟩
    case measure=>simp[intOf];omega
   |succ q=>
    have ai:=G (show He (q+1)=(Db txt M ln).1 from by rw[HLine.out];rfl);have E:Hid (Qo B sa w kb c pb txt p k cs (F a1 k j1) x' (Db txt M ln).2 o' w6):=G (by rw[HLine.out];exact l);have a4:=G (Ak0 B sa q w6 (HS.low l.kp.b.bel HS.top));have hq:q<11:=by have:=ck.out;omega
    have a7:=G (fun(w7:V) (b7:ZF w6.heap.size w6 w7)=>zA (sa q) (He (q+1)) w7 (by
     have h1:=HE q hq;have co:=l.kp.b.bel.trans (b7.mono l.kp.b.bel.size);rw[co.cell (R3 w (sa q) h1)];exact h1))
    obtain⟨S,L⟩:∃S,S=He (q+1):=⟨_,rfl⟩
    rw[<-L]at ai a7;rw[Gf]at a4 ⊢;clear l L hq;go_wp2_with fail;refine a4.mono ?_;rintro e w7 ⟨rfl,b7⟩;have HET7:=G (a7 w7 b7);have a6:=G (E.below b7);clear b7 a4 a7 E;go_wp2_with fail;refine HET7.mono ?_;rintro e w8 ⟨rfl,rfl⟩;go_wp2_with (at_builtin;go_must (refine A3 rfl (.tmp 65) (.tmp 67) 22 rfl p 9 i0 _ 1 16 underlying22 b0 cf cg ch rfl (by decide) _ k _ rfl (HLay _ _ _ _ a6 _).1 ⟨World.heap w7 |>.size,0,O⟩ 1 1 [ZB S] rfl rfl (A1 _ [ZB S] _) (by intro u hu;simp at hu;subst hu;rfl) bv bx (HLay _ _ _ _ a6 _).2 ?_;intro a2 k2 w4 A hg hn;have nx:=G (N w7 _ w4 _ _ a6 ((R1 _ _).alloc (Y2 _) _) a2 k2 S ai A hg hn);clear A hg hn));go_roundw;case rel=>exact⟨k+1,a2,k2,b4,rfl,by go_num,nx⟩
    case measure=>simp[intOf];omega
  ·obtain rfl:k=n:=by omega
   obtain⟨⟨x,o,t⟩,hO⟩:=aq.out;have b5:¬(k:Int)<(k:Int):=by omega
   have A:=t.own;have cx:=HN.out;rw[show a.take k=a from Zy0 (by omega)]at A;have HB:=G t.kp.b.bel;have b6:Ax wr w.heap.size 9 1 (F a1 k j1) k (Aj (Ct txt i a).1):=by
    refine⟨A.1,?_⟩;rcases A.2 with h|⟨g,off,cp,cq,h1,h2,h3,h4⟩
    ·exact .inl h
    ·exact .inr ⟨g,off,cp,cq,h1,No bp h2,h3,h4⟩
   have HO:=G b6;clear aq t hO A cx b6;go_wp2_with fail;go_ret2;exact⟨a1,j1,rfl,HO.out,HB.out⟩
def hcfg:ByteArray:=⟨#[119,105,110,100,111,119,32,49,32,50,10,99,121,99,108,101,32,50,10,100,101,108,97,121,32,48,10]⟩
def Ql:Ar:=⟨1,2,2,0,[]⟩
theorem Vc:B4 Ql=(0,-1):=by decide
theorem d0:Lib.itoa 0= [48]:=by rw[show(0:Int)=((0:Nat):Int)from rfl,Lib.itoa_nonneg,Lib.decDigits_one (by decide)];rfl
theorem d1:Lib.itoa 1= [49]:=by rw[show(1:Int)=((1:Nat):Int)from rfl,Lib.itoa_nonneg,Lib.decDigits_one (by decide)];rfl
theorem d2:Lib.itoa 2= [50]:=by rw[show(2:Int)=((2:Nat):Int)from rfl,Lib.itoa_nonneg,Lib.decDigits_one (by decide)];rfl
theorem Tf:C4 Ql=hcfg.data.toList:=by
 simp[C4,Gw,Is,Ql,Br,upB,Np,Ch,d0,d1,d2,Zz4,Nu,Qm,Tj,hcfg]
theorem pC:(C4 Ql).length<=8000:=by rw[Tf];decide
theorem qC:Ja Ql=hcfg:=by unfold Ja;rw[Tf]
theorem Ac2:Hh hcfg=(Ql,(0,-1)):=by
 have:=Zs Vc (Nat.not_lt.2 pC);rw[Tf]at this;exact this
def hl1:ByteArray:=⟨#[116,105,99,107,32,50]⟩
def hl2:ByteArray:=⟨#[107,105,99,107,115]⟩
def hl3:ByteArray:=⟨#[99,97,117,115,101]⟩
def hl4:ByteArray:=⟨#[99,111,110,102,105,103]⟩
theorem Amn:Jc hl1=U (3,[2]):=Mq (by decide) rfl (by decide) (by decide) (by simp[Oi,hl1,Cy,d2,Ej])
theorem Amm:Jc hl2=U (8,[]):=Mq (by decide) rfl (by decide) (by decide) (by simp[Oi,hl2,Cy,Ej])
theorem Aml:Jc hl3=U (11,[]):=Mq (by decide) rfl (by decide) (by decide) (by simp[Oi,hl3,Cy,Ej])
theorem Amk:Jc hl4=U (13,[]):=Mq (by decide) rfl (by decide) (by decide) (by simp[Oi,hl4,Cy,Ej])
theorem Agy:Hn [hl1,hl2,hl3,hl4]=2:=by
 simp[Hn,I0 Amn,I0 Amm,I0 Aml,I0 Amk]
theorem Mp{txt:ByteArray}{M:KpM}{s:ByteArray}{i:Nat}{ns:List Nat}(h:Jc s=U (i,ns)):Db txt M s=(if (Cr txt M i ns).1=0 then (Cr txt M i ns).2.1 else He (Cr txt M i ns).1,(Cr txt M i ns).2.2):=by
 unfold Db E9;rw[h]
def Ly:ByteArray:=⟨#[119,105,110,100,111,119,32,49,32,50,59,32,99,121,99,108,101,32,50,59,32,100,101,108,97,121,32,48]⟩
theorem Ac3:Nq hcfg=Ly:=by
 unfold Nq hcfg Ly;decide
theorem Anp(C:Ar)(D:Dd)(m:CM){L:List Ap}(h:L=Fg m.bs):Hb C D m=⟨C,D,m,L,false,List.replicate C.ents.length O,0,.ok⟩:=by
 rw[h];simp only[Hb]
theorem xY(bs:List UInt8)(w:Int):Bi ⟨Ql,Adm Ql,⟨bs,false,-1,w⟩,[],false,[],0,.ok⟩ 2=(0,⟨Ql,⟨1,2,2,2,false,1⟩,⟨bs,false,-1,w⟩,[],false,[],0,.ok⟩):=by
 kernel_rfl
theorem Agz:(Ct (Ja Ql) (kp0 Ql) [hl1,hl2,hl3,hl4]).1= [okS,⟨#[49]⟩,Em,Ly]:=by
 rw[qC];have m:kp0 Ql=⟨Ql,Adm Ql,⟨blank.bs,false,-1,0⟩,[],false,[],0,.ok⟩:=by
  unfold kp0;rw[Anp Ql (Adm Ql) blank Aec.symm];rfl
 have f:=xY blank.bs 0;rw[<-m]at f;obtain⟨d,g⟩:∃d,d=kp0 Ql:=⟨_,rfl⟩
 rw[<-g]at f ⊢;obtain⟨bs,i⟩:∃bs,bs=blank.bs:=⟨_,rfl⟩
 rw[<-i]at f;have l:Db hcfg d hl1=(okS,(Bi d 2).2):=by
  rw[Mp Amn];show(if (Bi d 2).1=0 then okS else He (Bi d 2).1,(Bi d 2).2)=_
  rw[f];rfl
 rw[f]at l;obtain⟨a,e⟩:∃a:KpM,a=⟨Ql,⟨1,2,2,2,false,1⟩,⟨bs,false,-1,0⟩,[],false,[],0,.ok⟩:=⟨_,rfl⟩
 have j:Db hcfg d hl1=(okS,a):=by rw[l,e]
 have n:Db hcfg a hl2=(⟨#[49]⟩,a):=by
  rw[Mp Amm];show(B6 (Lib.itoa a.D.kicks),a)=_
  rw[e];show(B6 (Lib.itoa 1),_)=_
  rw[d1];rfl
 have q:Db hcfg a hl3=(Em,a):=by
  rw[Mp Aml];show((if a.L= [] then Em else B6 (C5 (Gd a.L))),a)=_
  rw[if_pos (by rw[e])]
 have s:Db hcfg a hl4=(Ly,a):=by
  rw[Mp Amk];show(Nq hcfg,a)=_
  rw[Ac3]
 simp only[Ct,j,n,q,s]
theorem Ag0(B:Nat)(sa:Nat->Addr)(w:V)(l:Ii B sa w)(n:∀k,k<11->w.cell? (sa k)=U (ZB (He (k+1))))(s:U3 B w)(t:L9 w.heap.size w):
  ZH ZI 7 #[] w fun e w'=>e=ZD (.bool true)/\ZF w.heap.size w w':=by
 have a:ZF w.heap.size w (w.alloc (ZC (Aj [hl1,hl2,hl3,hl4]).toArray 9)):=(R1 _ _).alloc (Y2 _) _;have i:Av (· =w.heap.size) (w.alloc (ZC (Aj [hl1,hl2,hl3,hl4]).toArray 9)) (F (U ⟨w.heap.size,0,O⟩) 4 4) 1 (Aj [hl1,hl2,hl3,hl4]) 4:=Xs w (Aj [hl1,hl2,hl3,hl4]) 9 1 4 rfl (by decide);have HRun:=G (Wc B sa hcfg [hl1,hl2,hl3,hl4] _ _ _ (l.below a) (fun k j=>by
  have h:=n k j;rw[a.cell (R3 w (sa k) h)];exact h) (s.below a l.top) (fun W A=>t W (a.trans (A.mono a.size))) i (fun b m=>by rw[m];simp) (by decide) Vc pC (fun k j _=>Aci Vc k (by rw[<-qC]at j;exact j)) (by decide) (by rw[Agy];decide) (by decide) Ac2)
 rw[Agz]at HRun;have HRun2:Hid (ZH ZI 8 #[ZB hcfg,F (U ⟨w.heap.size,0,O⟩) 4 4] (w.alloc (ZC (Aj [hl1,hl2,hl3,hl4]).toArray 9)) fun e w'=>∃d cap,e=ZD (.tuple #[F d 4 cap,.nilIface])/\(∀o,Av (fun b=>w.heap.size<=b) (w'.alloc o) (F d 4 cap) 1 (Aj [okS,⟨#[49]⟩,Em,Ly]) 4)/\ZF w.heap.size w w'):=HRun.mono (fun e w' D=>by
  obtain⟨d,cap,C,E,g⟩:=D;refine⟨d,cap,C,fun o=>?_,a.trans (g.mono a.size)⟩;have h2:Ax (w'.alloc o) _ 9 1 (F d 4 cap) 4 (Aj [okS,⟨#[49]⟩,Em,Ly]):=E.later ((R1 _ _).alloc (Y2 _) o);exact h2.slOf.mono (fun b m=>by have h1:=m.1;simp at h1;omega))
 have f:=G (fun(w1:V) d cap (h:Av (fun b=>w.heap.size<=b) (w1.alloc (ZC (Aj [okS,⟨#[49]⟩,Em,Ly]).toArray 9)) (F d 4 cap) 1 (Aj [okS,⟨#[49]⟩,Em,Ly]) 4)=>Tt _ _ [okS,⟨#[49]⟩,Em,Ly] (F d 4 cap) (F (U ⟨w1.heap.size,0,O⟩) 4 4) (w1.alloc (ZC (Aj [okS,⟨#[49]⟩,Em,Ly]).toArray 9)) h (Xs w1 (Aj [okS,⟨#[49]⟩,Em,Ly]) 9 1 4 rfl (by decide)) (by decide));clear l n s t i a HRun;go_enter func7,ntmps7;go_wp2_with fail;refine HRun2.mono ?_;rintro e w1 ⟨d,cap,rfl,u,g⟩;have HSm1:=G (f w1 d cap (u _));have y:=G (g.alloc g.size (ZC (Aj [okS,⟨#[49]⟩,Em,Ly]).toArray 9));clear u g f HRun2;go_wp2_with fail;refine HSm1.mono ?_;rintro e H ⟨rfl,q,rfl⟩;go_wp2_with fail;go_ret;exact⟨rfl,Ag _ y.out⟩
