import Derived.Test.YtikehilbmldadaaGreatDoorP36
import Derived.Test.YtikehilbmldadaaGreatDoorP38
import Derived.Test.YtikehilbmldadaaGreatDoorP49
import Derived.JoinedOf
import Derived.KernelRfl
set_option maxRecDepth 100000
set_option linter.unusedVariables false
namespace Go.Proofs.YtikehilbmldadaaGreatDoor
open Proofs.Tryz YtikehilbmldadaaGreatDoor.Tryz RowKit
open Go renaming World->V,RowKit.Below->ZF,Calls->ZH,IntKind.i64->J,Value.slice->F,Value.string->ZB,Obj.cells->ZC,Ending.returned->ZD,Proofs.Tryz.prog->ZI
open Option renaming some->U,none->O
set_option maxHeartbeats 0
theorem qA{α β:Type}(f:α->List β)(n:Nat):∀L:List α,(∀x∈L,(f x).length<=n)->(L.flatMap f).length<=n*L.length
 |[],_=>by simp
 |a::L,h=>by
  have h1:=qA f n L (fun x d=>h x (Zz5 _ d))
  have h2:=h a (Zzo ..)
  rw[Zz6,R2,Zz7,Nat.mul_succ]
  omega
theorem Acp{E:Ak}(h:Ed E):(B5 E).length<=122:=by
 have a:(Ep E).length<=1:=by
  unfold Ep;split<;>simp
 have h1:=h.pl;have h2:=h.gl;have h3:=h.el;have d:=h.fl;have e:=h.ll;unfold B5;simp only[Zz7,R2,Fn];omega
theorem Rx{C:Ar}(a:B4 C=(0,-1)):∀E∈C.ents,Ed E:=fun E d=>by
 obtain⟨i,hi,rfl⟩:=List.getElem_of_mem d
 have:=(Cv a).2.2 i hi
 rw[Ov hi]at this
 exact Xk this
theorem Ajs{C:Ar}(a:B4 C=(0,-1)):(Jb C).length<=1000:=by
 have d:=(Cv a).1;unfold Es at d;rw[decide_eq_false_iff_not]at d;have h1:=qA B5 122 C.ents (fun x e=>Acp (Rx a x e));have h2:C.ents.length<=8:=by omega
 have h3:=Nat.mul_le_mul_left 122 h2;unfold Jb;rw[R2];have f:(Is C).length=3:=rfl;omega
theorem Aci{C:Ar}(a:B4 C=(0,-1))(k:Nat)(d:k<=(Cl ⟨(C4 C).toArray⟩).length):k<=1000:=by
 rw[Xo a,Fn]at d;have:=Ajs a;omega
theorem xR{C:Ar}(h:(B4 C).1=0):B4 C=(0,-1):=by
 unfold B4 at h ⊢;split at h
 ·cases h
 ·rename_i h1;rw[if_neg h1];split at h
  ·cases h
  ·rename_i h2;rw[if_neg h2];unfold Qf at h ⊢;split at h
   ·rename_i i hi;have:=List.find?_some hi;simp only[bne_iff_ne,ne_eq]at this;exact absurd h this
   ·rfl
theorem Ac8{E:Ak}(h:Ed E):O7 E:=by
 have h1:=h.pl;have h2:=h.gl;have h3:=h.el;have a:=h.fl;have d:=h.ll;exact⟨by omega,by omega,by omega,by omega,by omega⟩
theorem Ahd{E:Ak}(h:Ed E):(Ai (B5 E)).length<=26000:=by
 have h1:=(M7 h).line;have h2:=P6 Gt E.points 16 h.pl (fun x a=>Rq h a);have d:(Ai (Ep E)).length<=206:=by
  unfold Ep;split
  ·rw[Dv];exact(Uv h).line
  ·simp[Ai]
 have e:=P6 (Dj E) E.gaps 8 h.gl (fun x a=>Om h a);have f:=P6 (Dg E) E.edges 64 h.el (fun x a=>Ow h x);have g:=P6 (D0 E) E.first 16 h.fl (fun x a=>Oo h x);have i:=P6 (D3 E) E.last 16 h.ll (fun x a=>Qy h x);rw[qJ];simp only[R2];omega
theorem Ag1(C:Ar):Gw C= [119,105,110,100,111,119,32]++Lib.itoa C.closed++ [32]++Lib.itoa C.opn++ [10,99,121,99,108,101,32]++Lib.itoa C.cycle++ [10,100,101,108,97,121,32]++Lib.itoa C.delay++ [10]:=by
 simp[Gw,Is,Br,upB,Np,Ch,Nu,Qm,Tj,Zz4]
theorem Qc(R:Nat->Prop)(C:Ar)(v:Value)(X:List A2)(w:V)(h:Gb R w C v X)(hR:∀b,R b->b<w.heap.size)(hC:B4 C=(0,-1)):
  ZH ZI 33 #[.agg (Az C v)] w fun e w'=>(∃S:ByteArray,e=ZD (ZB S)/\S.data.toList=C4 C)/\ZF w.heap.size w w':=by
 obtain⟨ao,cap,rfl⟩:=h.sl.row.val;obtain⟨il,im⟩:=h.sl.row.capB;have ar:=(Cv hC).1;unfold Es at ar;rw[decide_eq_false_iff_not]at ar;have h1:0<=C.closed/\C.closed<=1099511627776:=by omega
 have h2:0<=C.opn/\C.opn<=1099511627776:=by omega
 have h3:0<=C.cycle/\C.cycle<=1099511627776:=by omega
 have h4:0<=C.delay/\C.delay<=1099511627776:=by omega
 clear ar;have j:=Ab w (ZC (Az C (F ao X.length cap)) 30);have N:ZF w.heap.size w (w.alloc (ZC (Az C (F ao X.length cap)) 30)):=(R1 _ _).alloc (Y2 _) _;have HGood:Hid (∀i (hi:i<X.length),Ed X[i].E):=G (fun i hi=>by
  have hl:i<C.ents.length:=by rw[h.eq,Fn];exact hi
  have:=(Cv hC).2.2 i hl;rw[Ov hl]at this;have hg:=Xk this;simpa [h.eq] using hg)
 have H:=G h;have ad:=G hR;have cn:=G (show X.length<=8 from by
  have:=(Cv hC).1;unfold Es at this;rw[decide_eq_false_iff_not]at this;rw[h.eq,Fn]at this;omega)
 clear hC h hR;unfold Az at j N ⊢;go_enter func33,ntmps33;go_upto_region 1 with fail;generalize w.alloc _=w1 at j N ⊢;obtain⟨q,hq⟩:∃q,q=w.heap.size:=⟨_,rfl⟩
 rw[<-hq]at j ⊢;have ag:Hid (w1.heap[q]? =U (ZC (Az C (F ao X.length cap)) 30)):=j;have ab:=G N;have L:=Aa j;clear j N hq;obtain⟨c0,c1,c2,c3,c4⟩:=Ba ag.out;obtain⟨v1,au⟩:∃v,v=C.closed:=⟨_,rfl⟩
 obtain⟨v2,av⟩:∃v,v=C.opn:=⟨_,rfl⟩
 obtain⟨v3,aw⟩:∃v,v=C.cycle:=⟨_,rfl⟩
 obtain⟨v4,ax⟩:∃v,v=C.delay:=⟨_,rfl⟩
 rw[<-au]at c0 h1;rw[<-av]at c1 h2;rw[<-aw]at c2 h3;rw[<-ax]at c3 h4;have bh:=Kn v1 h1.1 (by omega);have t:=fun W=>Dm v1 h1.1 (by omega) W;obtain⟨n1,Q⟩:∃n,n=B6 (Lib.itoa v1):=⟨_,rfl⟩
 rw[<-Q]at t;have cf:=G (fun W (s:ZF w1.heap.size w1 W)=>(t W).mono (R':=fun e w'=>e=ZD (ZB n1)/\ZF w1.heap.size w1 w') (fun e w' h=>⟨h.1,s.trans (h.2.mono s.size)⟩));have cv:n1.size<=40:=by rw[Q,Dx];exact bh
 have bi:=Kn v2 h2.1 (by omega);have u:=fun W=>Dm v2 h2.1 (by omega) W;obtain⟨n2,Y⟩:∃n,n=B6 (Lib.itoa v2):=⟨_,rfl⟩
 rw[<-Y]at u;have cg:=G (fun W (s:ZF w1.heap.size w1 W)=>(u W).mono (R':=fun e w'=>e=ZD (ZB n2)/\ZF w1.heap.size w1 w') (fun e w' h=>⟨h.1,s.trans (h.2.mono s.size)⟩));have cw:n2.size<=40:=by rw[Y,Dx];exact bi
 have bj:=Kn v3 h3.1 (by omega);have y:=fun W=>Dm v3 h3.1 (by omega) W;obtain⟨n3,Z⟩:∃n,n=B6 (Lib.itoa v3):=⟨_,rfl⟩
 rw[<-Z]at y;have ch:=G (fun W (s:ZF w1.heap.size w1 W)=>(y W).mono (R':=fun e w'=>e=ZD (ZB n3)/\ZF w1.heap.size w1 w') (fun e w' h=>⟨h.1,s.trans (h.2.mono s.size)⟩));have cx:n3.size<=40:=by rw[Z,Dx];exact bj
 have bk:=Kn v4 h4.1 (by omega);have A:=fun W=>Dm v4 h4.1 (by omega) W;obtain⟨n4,aa⟩:∃n,n=B6 (Lib.itoa v4):=⟨_,rfl⟩
 rw[<-aa]at A;have ci:=G (fun W (s:ZF w1.heap.size w1 W)=>(A W).mono (R':=fun e w'=>e=ZD (ZB n4)/\ZF w1.heap.size w1 w') (fun e w' h=>⟨h.1,s.trans (h.2.mono s.size)⟩));have cy:n4.size<=40:=by rw[aa,Dx];exact bk
 obtain⟨T0,a3,bs,ah⟩:=Bh (P:=ZI) ⟨#[119,105,110,100,111,119,32]⟩ n1 (by have:=(show(⟨#[119,105,110,100,111,119,32]⟩:ByteArray).size=7 from rfl);omega);rw[(show(⟨#[119,105,110,100,111,119,32]⟩:ByteArray).size=7 from rfl)]at bs;obtain⟨T1,a4,bt,ai⟩:=Bh (P:=ZI) T0 ⟨#[32]⟩ (by have:=(show(⟨#[32]⟩:ByteArray).size=1 from rfl);omega);rw[(show(⟨#[32]⟩:ByteArray).size=1 from rfl)]at bt;obtain⟨T2,a5,c9,aj⟩:=Bh (P:=ZI) T1 n2 (by omega);obtain⟨T3,a6,bu,ak⟩:=Bh (P:=ZI) T2 ⟨#[10,99,121,99,108,101,32]⟩ (by have:=(show(⟨#[10,99,121,99,108,101,32]⟩:ByteArray).size=7 from rfl);omega);rw[(show(⟨#[10,99,121,99,108,101,32]⟩:ByteArray).size=7 from rfl)]at bu;obtain⟨T4,a7,da,al⟩:=Bh (P:=ZI) T3 n3 (by omega);obtain⟨T5,a8,bv,am⟩:=Bh (P:=ZI) T4 ⟨#[10,100,101,108,97,121,32]⟩ (by have:=(show(⟨#[10,100,101,108,97,121,32]⟩:ByteArray).size=7 from rfl);omega);rw[(show(⟨#[10,100,101,108,97,121,32]⟩:ByteArray).size=7 from rfl)]at bv;obtain⟨T6,a9,db,an⟩:=Bh (P:=ZI) T5 n4 (by omega);obtain⟨T7,ba,bw,ap⟩:=Bh (P:=ZI) T6 ⟨#[10]⟩ (by have:=(show(⟨#[10]⟩:ByteArray).size=1 from rfl);omega);rw[(show(⟨#[10]⟩:ByteArray).size=1 from rfl)]at bw;have HT:Hid (T7.data.toList=Gw C):=G (by
  rw[Ag1,<-au,<-av,<-aw,<-ax,ba,a9,a8,a7,a6,a5,a4,a3,Q,Y,Z,aa,Cw,Cw,Cw,Cw])
 have cl:=G (show(Gw C).length<=618 from by
  rw[<-HT.out,<-dsize];omega)
 clear a3 bs a4 bt a5 c9 a6 bu a7 da a8 bv a9 db ba bw bh bi bj bk t u y A Q Y Z aa cv cw cx cy au av aw ax h1 h2 h3 h4;go_region_held3 (fun w'=>∀o,w'.cell? ⟨q,o,O⟩=w1.cell? ⟨q,o,O⟩)
  (first|exact fun _=>rfl|exact fun o=>e4.cell (p:=⟨q,o,O⟩) L|exact fun o=>e3.cell (p:=⟨q,o,O⟩) L|exact fun o=>e2.cell (p:=⟨q,o,O⟩) L|exact fun o=>e1.cell (p:=⟨q,o,O⟩) L)
  (first|(go_at_call_of 56 (Value.int J v1);refine(cf _ ?_).mono ?_;(repeat(first|exact R1 _ _|refine H5 ?_));rintro e iq ⟨rfl,e1⟩)|(go_at_call_of 56 (Value.int J v2);refine(cg _ ?_).mono ?_;(repeat(first|exact e1|refine H5 ?_));rintro e ir ⟨rfl,e2⟩)|(go_at_call_of 56 (Value.int J v3);refine(ch _ ?_).mono ?_;(repeat(first|exact e2|refine H5 ?_));rintro e it ⟨rfl,e3⟩)|(go_at_call_of 56 (Value.int J v4);refine(ci _ ?_).mono ?_;(repeat(first|exact e3|refine H5 ?_));rintro e c8 ⟨rfl,e4⟩))
 have af:=G (Ae e4 ag L);have m:=G (ab.trans (e4.mono ab.size));clear c0 c1 c2 c3 c4 ah ai aj ak al am an ap ag ab;obtain⟨w5,bl⟩:∃w5,w5=c8:=⟨_,rfl⟩
 rw[<-bl]at af m ⊢;clear bl;go_wp2_with fail;go_loopw [3,4] (fun s3 s4 wr=>∃(i:Nat) (S:ByteArray),i<=X.length/\s3=ZB S/\s4=.int J i/\Hid (S.data.toList=Gw C++(X.take i).flatMap (fun x=>Ai (B5 x.E)))/\Hid (ZF w5.heap.size w5 wr)/\Hid ((Gw C++(X.take i).flatMap (fun x=>Ai (B5 x.E))).length<=618+26000*i)) (fun _ s4 _=>X.length-(intOf s4).toNat);case atStart=>exact⟨0,T7,In _,rfl,rfl,(show T7.data.toList=Gw C++ [] from by rw[Zz8];exact HT.out),R1 _ _,(show(Gw C++ []).length<=618+26000*0 from by rw[Zz8];exact cl.out)⟩
 case round=>
  obtain⟨i,S,hi,rfl,rfl,hS,hb,D⟩:=hrel;have hx:=Ae hb af (Aa af.out);obtain⟨c0,c1,c2,c3,c4⟩:=Ba hx;by_cases K:i<X.length
  ·obtain⟨bb,off,rfl,ct,ik,hc⟩:=Ks H.sl.row (by omega);obtain⟨q0,q1,q2,q3,q4,q5,q6,q7,q8,q9⟩:=hc i K;have ac:=G (m.trans (hb.mono m.size));rw[<-ac.cell (ad bb ct)]at q0 q1 q2 q3 q4 q5 q6 q7 q8 q9;have a:=H.sl.each X[i] (M2 K);have HG:=G (HGood i K);have ae:=G (show(X.take (i+1)).flatMap (fun x=>Ai (B5 x.E))=(X.take i).flatMap (fun x=>Ai (B5 x.E))++Ai (B5 X[i].E)from by rw[If K,B1,Zzj]);have d:=a;obtain⟨xe,bm⟩:∃xe,xe=X[i].E:=⟨_,rfl⟩
   obtain⟨pa,pc,a2⟩:=a.p.val;obtain⟨ga,gc,a0⟩:=a.g.val;obtain⟨ea,ec,ay⟩:=a.e.val;obtain⟨fa,fc,az⟩:=a.f.val;obtain⟨la,lc,a1⟩:=a.l.val;rw[a2,a0,ay,az,a1]at d;rw[a2]at q2;rw[a0]at q6;rw[ay]at q7;rw[az]at q8;rw[a1]at q9;rw[<-bm]at HG ae d q0 q1 q2 q3 q4 q5 q6 q7 q8 q9;have cj:Hid (Dk R wr xe (F pa xe.points.length pc) (F ga xe.gaps.length gc) (F ea xe.edges.length ec) (F fa xe.first.length fc) (F la xe.last.length lc)):=(show Dk R wr xe _ _ _ _ _ from d.keep (Ac.of_below ac.out) (fun b hb hS=>by have:=ad b hb;omega))
   have bc:=Bw ad ac.out;have hL:(Gw C++(X.take i).flatMap (fun x=>Ai (B5 x.E))).length<=800000:=by
    have h1:=D.out;have h2:=cn.out;omega
   have cp:=G hS.out;clear a d hc a2 a0 ay az a1 bm hx;go_upto_block 1 with fail;refine An0 wr R xe pa ga ea fa la pc gc ec fc lc bb off cap X.length i q HG S _ cp hL c4 K (by omega) q0 q1 q2 q3 q4 q5 q6 q7 q8 q9 cj bc _ _ _ _ _ _ _ _ _ _ _ _ _ _ _ _ _ _ _ _ _ _ _ _ _ _ _ _ _ _ _ _ _ _ _ _ _ _ _ _ _ _ _ _ _ _ _ _ _ _ _ _ _ _ _ _ _ _ _ _ _ _ _ _ _ _ _ _ _ _ _ _ _ _ _ _ _ _ _ _ _ _ _ _ _ _ _ _ _ _ _ _ _ _ _ _ _ _ _ _ _ _ _ _ _ _ _ _ _ _ _ _ _ _ _ _ _ _ _ _ _ _ _ _ _ _ _ _ _ _ _ _ _ _ _ _ _ _ _ _ _ _ _ _ _ _ _ _ _ _ _ _ _ _ _ _ _ _ _ _ _ _ _ _ _ _ _ _ _ _ _ _ _ _ _ _ _ _ _ _ _ _ _ _ _ _ _ _ _ _ _ _ _ _ _ _ _ _ _ _ _ _ _ _ _ _ ?_;intro y5 y6 y7 y8 y9 iu iv iw ix iy iz i0 i1 i2 i3 i4 i5 i6 i7 i8 i9 ja jb jc jd je jf jg jh ji jj jk jl jm jn jo jp jq jr js jt ju jv jw jx jy jz j0 j1 j2 j3 j4 j5 j6 j7 j8 j9 ka kc kd ke kf kg kh ki kj kk kl dv dw dx dy dz d3 d4 d5 d6 d7 d8 d9 eb ed ee ef eg eh ei ej ek el em en eo ep er es et eu ev ew ex ey ez e0 e5 e6 e7 e8 e9 fb fd fe ff fg fh fi fj fk fl fm fn fo fp fq ft fu fv fw fx fy fz f0 f1 f2 f3 f4 f5 f6 f7 f8 f9 gb gd ge gf gg gh gi gj gk gl gm gn gp gq gr gs gt gu gv gw gx gy gz g0 g1 g2 g3 g4 g5 g6 g7 g8 g9 ia S1 w2 bf bg;have co:Hid (S1.data.toList=Gw C++(X.take (i+1)).flatMap (fun x=>Ai (B5 x.E))):=(show _=_ from by rw[bf,ae.out,F6])
   have cm:Hid ((Gw C++(X.take (i+1)).flatMap (fun x=>Ai (B5 x.E))).length<=618+26000*(i+1)):=G (by
    have h1:=D.out;have h2:=Ahd HG.out;rw[ae.out,<-F6,R2];omega)
   have cd:=G (hb.trans (bg.mono hb.size));clear bf bg hS hL bc q0 q1 q2 q3 q4 q5 q6 q7 q8 q9 c0 c1 c2 c3 c4;go_wp2_with fail;go_roundw;case rel=>exact⟨i+1,S1,by omega,rfl,by go_num,co,cd,cm⟩
   case measure=>simp[intOf];omega
  ·have HE:Hid (S.data.toList=C4 C):=G (by
    rw[hS.out,(show i=X.length by omega),Zz2];unfold C4;rw[H.eq,Zyc])
   have ce:=G (m.trans (hb.mono m.size));clear hS D hx;go_wp2_with fail;go_ret;exact⟨⟨S,rfl,HE.out⟩,ce.out⟩
section
variable {B:Nat} {sa:Nat->Addr} {w0:V} {kb c pb:Nat} {txt:ByteArray} {x:KpX} {M:KpM} {o:Nat->Nat} {w:V} {T:Nat}
theorem Ak8(l:List UInt8):(Lib.trimSuffix l [10]).length<=l.length:=by
 unfold Lib.trimSuffix;split
 ·rw[By];omega
 ·exact Y2 _
theorem Ahn(h:Bq B sa w0 kb c txt x M o w)(l:w.heap[pb]? =U (plC kb c))(i:txt.size<=100000):
  ZH ZI 140 #[.pointer (U ⟨pb,0,O⟩)] w (C7 (Cr txt M 13 []).2.1 w):=by
 obtain⟨t,u⟩:=G2 l;have n:=G (Ack h);have j:=G (Tryz.strings_TrimSuffix txt ⟨#[10]⟩ w (by omega));have g:=G (Vb (B6 (Su txt.data.toList)) w (by
  rw[Dx];have:=Ak8 txt.data.toList;have s:txt.data.toList.length=txt.size:=by rw[C2];rfl
  unfold Su;omega))
 rw[Cw]at g;show ZH _ _ _ _ (C7 (Nq txt) w)
 unfold Nq;obtain⟨m,d⟩:∃m,m=B6 (Mu (Su txt.data.toList)):=⟨_,rfl⟩
 rw[<-d]at g ⊢;have a:Hid (ZH ZI 72 #[ZB txt,ZB ⟨#[10]⟩] w fun e q=>e=ZD (ZB (B6 (Su txt.data.toList)))/\q=w):=j.out;obtain⟨st,f⟩:∃st,st=B6 (Su txt.data.toList):=⟨_,rfl⟩
 rw[<-f]at g a;unfold C7;clear h l i j d f;go_enter func140,ntmps140;go_wp2_with fail;refine n.mono ?_;rintro e w1 ⟨rfl,rfl⟩;go_wp2_with fail;refine a.mono ?_;rintro e w1 ⟨rfl,rfl⟩;go_wp2_with fail;refine g.mono ?_;rintro e w1 ⟨rfl,p⟩;go_wp2_with fail;go_ret;exact⟨rfl,p⟩
end
theorem pM{w:V}{p:Nat}{i:Value}{ns:List Nat}(f:w.ownsRow p 3 1 i ns.length (Ad (ns.map fun n:Nat=>(n:Int))))(h0:0<ns.length):
  ∃g cap,i=F (U ⟨g,0,O⟩) ns.length cap/\p<=g/\∀k (hk:k<ns.length),w.cell? ⟨g,k,O⟩=U (.int J (ns[k]:Nat)):=by
 have d:=Ge f;rcases f.2 with⟨_,h⟩|⟨g,cap,j,rfl,s,_⟩
 ·omega
 ·obtain⟨q,u,e,t,h1,h2,h3,l⟩:=d;injection t with e1 e2 e3;subst e1;obtain⟨b,off,a,v,y,m⟩:=l (by rw[q];omega);injection a with a;injection a with ea eb;subst ea;subst eb;refine⟨g,cap,rfl,s,fun k hk=>?_⟩;have:=m k (.int J (ns[k]:Nat)) (by simp[Ad,hk]);rwa [Zzt]at this
section
variable {B:Nat} {sa:Nat->Addr} {w0:V} {kb c pb:Nat} {txt:ByteArray} {x:KpX} {M:KpM} {o:Nat->Nat} {w:V} {T:Nat}
theorem C7.go{s:ByteArray}{i:Nat}(h:Bq B sa w0 kb c txt x M o w)(d:Cr txt M i []=(0,s,M)){e:Ending}{w':V}(a:e=ZD (.tuple #[ZB s,.nilIface])/\ZF w.heap.size w w'):Gs B sa w0 kb c txt (Cr txt M i []) o w e w':=by
 rw[d];exact⟨a.1,x,o,h.below a.2,Fr.below o a.2⟩
theorem Pz:∀k,k<7->∀args w,(callFunc (rG.getD k 0) args).run ZI w=.ok (.enter (rG.getD k 0) args) w:=by
 intro k a;match k,a with
 |0,_=>exact enters_of func131 (by kernel_rfl) rfl
 |1,_=>exact enters_of func132 (by kernel_rfl) rfl
 |2,_=>exact enters_of func133 (by kernel_rfl) rfl
 |3,_=>exact enters_of func134 (by kernel_rfl) rfl
 |4,_=>exact enters_of func135 (by kernel_rfl) rfl
 |5,_=>exact enters_of func138 (by kernel_rfl) rfl
 |6,_=>exact enters_of func140 (by kernel_rfl) rfl
theorem Adh:∀i,i<14->∀args w,(callFunc (Wv i) args).run ZI w=.ok (.enter (Wv i) args) w:=by
 intro i hi;match i,hi with
 |0,_=>exact enters_of func118 (by kernel_rfl) rfl
 |1,_=>exact enters_of func120 (by kernel_rfl) rfl
 |2,_=>exact enters_of func121 (by kernel_rfl) rfl
 |3,_=>exact enters_of func122 (by kernel_rfl) rfl
 |4,_=>exact enters_of func124 (by kernel_rfl) rfl
 |5,_=>exact enters_of func126 (by kernel_rfl) rfl
 |6,_=>exact enters_of func128 (by kernel_rfl) rfl
 |7,_=>exact enters_of func189 (by kernel_rfl) rfl
 |8,_=>exact enters_of func189 (by kernel_rfl) rfl
 |9,_=>exact enters_of func189 (by kernel_rfl) rfl
 |10,_=>exact enters_of func189 (by kernel_rfl) rfl
 |11,_=>exact enters_of func189 (by kernel_rfl) rfl
 |12,_=>exact enters_of func189 (by kernel_rfl) rfl
 |13,_=>exact enters_of func189 (by kernel_rfl) rfl
theorem Ana(h:Bq B sa w0 kb c txt x M o w)(s:Bn M T)(C:L9 B w)(j:w.heap[pb]? =U (plC kb c))(v:o pb=0)(H:txt.size<=100000){i:Nat}{ns:List Nat}(hi:i<14)(f:ns.length=Ee i)(E:T+2*(if i=3 then ns.getD 0 0 else 0)<=400000)
  (b:Nat->Nat) (u:∀k,k<7->w.heap[b k]? =U (ZC #[fnV (rG.getD k 0)] 220)) (p:Nat) (m:Value) (K:w.ownsRow p 3 1 m ns.length (Ad (ns.map fun n:Nat=>(n:Int)))) (A:∀q,m.ownBlock=U q->o q=0):
  ZH ZI (Wv i) (#[.pointer (U ⟨pb,0,O⟩),m]++Tm b i) w (Gs B sa w0 kb c txt (Cr txt M i ns) o w):=by
 have one:ns.length=1->∃d g cap,ns= [d]/\m=F (U ⟨g,0,O⟩) 1 cap/\o g=0/\w.cell? ⟨g,0,O⟩=U (.int J (d:Nat)):=by
  intro h1;obtain⟨g,cap,rfl,_,D⟩:=pM K (by omega);obtain⟨d,rfl⟩:=List.length_eq_one_iff.1 h1;exact⟨d,g,cap,rfl,rfl,A g rfl,D 0 (by simp)⟩
 match i,hi with
 |0,_=>
  obtain⟨d,g,cap,rfl,rfl,t,h0⟩:=one f;exact Akx h s j v g cap d h0 t
 |1,_=>
  obtain⟨d,g,cap,rfl,rfl,t,h0⟩:=one f;exact Akw h s j v g cap d h0 t
 |2,_=>
  have h2:ns.length=2:=f;obtain⟨g,cap,rfl,_,D⟩:=pM K (by omega);obtain⟨d,n1,rfl⟩:∃d n1,ns= [d,n1]:=(match ns,h2 with|[a,b],_=>⟨a,b,rfl⟩)
  exact Akv h s j v g cap d n1 (D 0 (by simp)) (D 1 (by simp)) (A g rfl)
 |3,_=>
  obtain⟨d,g,cap,rfl,rfl,t,h0⟩:=one f;exact Aku h s j v g cap d h0 t (by simpa using E)
 |4,_=>
  obtain⟨d,g,cap,rfl,rfl,t,h0⟩:=one f;exact Akt h s j v g cap d h0 t
 |5,_=>
  obtain rfl:=H3 (show ns.length=0 from f);exact Aks h s j v m
 |6,_=>
  obtain⟨d,g,cap,rfl,rfl,t,h0⟩:=one f;exact Akr h j g cap d h0
 |7,_=>
  obtain rfl:=H3 (show ns.length=0 from f);exact(Ms _ (b 0) pb m _ w (Pz 0 (by decide)) (u 0 (by decide)) (Akq h s C j)).mono (fun e y l=>C7.go h rfl l)
 |8,_=>
  obtain rfl:=H3 (show ns.length=0 from f);exact(Ms _ (b 1) pb m _ w (Pz 1 (by decide)) (u 1 (by decide)) (Akp h s C j)).mono (fun e y l=>C7.go h rfl l)
 |9,_=>
  obtain rfl:=H3 (show ns.length=0 from f);exact(Ms _ (b 2) pb m _ w (Pz 2 (by decide)) (u 2 (by decide)) (Ahr h j)).mono (fun e y l=>C7.go h rfl l)
 |10,_=>
  obtain rfl:=H3 (show ns.length=0 from f);exact(Ms _ (b 3) pb m _ w (Pz 3 (by decide)) (u 3 (by decide)) (Ahq h j)).mono (fun e y l=>C7.go h rfl l)
 |11,_=>
  obtain rfl:=H3 (show ns.length=0 from f);exact(Ms _ (b 4) pb m _ w (Pz 4 (by decide)) (u 4 (by decide)) (Ahp h s C j)).mono (fun e y l=>C7.go h rfl l)
 |12,_=>
  obtain rfl:=H3 (show ns.length=0 from f);exact(Ms _ (b 5) pb m _ w (Pz 5 (by decide)) (u 5 (by decide)) (Aho h s C j)).mono (fun e y l=>C7.go h rfl l)
 |13,_=>
  obtain rfl:=H3 (show ns.length=0 from f);exact(Ms _ (b 6) pb m _ w (Pz 6 (by decide)) (u 6 (by decide)) (Ahn h j H)).mono (fun e y l=>C7.go h rfl l)
end
theorem Gq{a b:Bool}(h1:a=true)(h2:b=true):(a&&b)=true:=by rw[h1,h2];rfl
theorem scriptPlays.closed:joinedFacts ZI 6 Tryz.f6 Rows.scriptPlaysSpec Rows.scriptPlaysRow=true:=by
 unfold joinedFacts;refine(Gq (Gq (Gq (Gq (Gq (Gq (Gq (Gq (Gq (Gq (Gq (Gq (Gq (Gq (Gq (Gq (Gq (Gq (Gq (Gq (Gq (Gq (Gq (Gq (Gq (Gq (Gq (Gq (Gq (Gq (Gq ?_ ?_) ?_) ?_) ?_) ?_) ?_) ?_) ?_) ?_) ?_) ?_) ?_) ?_) ?_) ?_) ?_) ?_) ?_) ?_) ?_) ?_) ?_) ?_) ?_) ?_) ?_) ?_) ?_) ?_) ?_) ?_);all_goals(as_aux_lemma=>kernel_rfl)
