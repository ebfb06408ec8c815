import Derived.Test.YtikehilbmldadaaGreatDoorP28
import Derived.Test.YtikehilbmldadaaGreatDoorP47
set_option maxHeartbeats 2000000
set_option maxRecDepth 100000
set_option linter.unusedVariables false
namespace Go.Proofs.YtikehilbmldadaaGreatDoor
open Proofs.Tryz YtikehilbmldadaaGreatDoor.Tryz RowKit
open Go renaming World->V,Value->ZE,RowKit.Below->ZF,RowKit.Hid->ZG,Calls->ZH,Value.int->I,IntKind.i64->J,Value.slice->F,Value.pointer->ZA,Value.string->ZB,Obj.cells->ZC,Ending.returned->ZD,Value.agg->ZJ,Proofs.Tryz.prog->ZI
open Option renaming some->U,none->O
def Aal(e:Nat)(s:ByteArray):ByteArray:=if e=0 then s else He e
section
variable {w0:V} {kb:Nat} {x:DkX} {M:KpM} {R:List Bl} {o:Nat->Nat} {w w1:V} {T K:Nat}
theorem DkZ.pre{w':V}(h:DkZ w0 kb M K T o w1 w')(b:ZF w.heap.size w w1):DkZ w0 kb M K T o w w':=by
 obtain⟨e,a,d,z1,z2,f⟩:=h;exact⟨e,a,d,z1,z2,(Fr.below o b).trans f⟩
theorem DkZ.up{w':V}{K' T':Nat}(h:DkZ w0 kb M K T o w w')(d:K<=K')(e:T<=T'):DkZ w0 kb M K' T' o w w':=by
 obtain⟨g,a,f,z1,z2,i⟩:=h;exact⟨g,a,f,z1,z2.up d e,i⟩
def Et(w0:V)(kb:Nat)(r:Nat × ByteArray × KpM)(K T:Nat)(o:Nat->Nat)(w:V)(e:Ending)(w':V):Prop:=
 e=ZD (ZB (Aal r.1 r.2.1))/\DkZ w0 kb r.2.2 K T o w w'
theorem Ga.from{W a:V}{r:Nat × KpM}{e:Ending}(m:ZF w.heap.size w W)(n:Ga w0 kb r K T o W e a):
  e=ZD (I J (r.1:Nat))/\(∀b i v,w.cell? ⟨b,i,O⟩=U v->o b=0->a.cell? ⟨b,i,O⟩=U v)/\DkZ w0 kb r.2 K T o w a:=by
 obtain⟨h1,s,l,j,h2,d,h3⟩:=n;have f:Fr o j w a:=(Fr.below o m).trans h3;refine⟨h1,fun b i v g q=>?_,s,l,j,h2,d,f⟩;rw[f.kp.cell (p:=⟨b,i,O⟩) (R3 w ⟨b,i,O⟩ g) (by simp only[q];exact fun h=>h rfl)];exact g
theorem Oa(e:Nat)(he:e<=11)(w:V):ZH ZI 62 #[I J e] w fun x w'=>x=ZD (ZB (Aal e okS))/\ZF w.heap.size w w':=Aiw e he w
theorem Bx.new0(h:Bx w0 kb x M R o w):o w.heap.size=0:=by
 cases a:o w.heap.size with
 |zero=>rfl
 |succ z=>have:=(h.low w.heap.size (by rw[a];exact Zzp z)).2;omega
theorem zY{C:Ar}(a:B4 C=(0,-1)):∀E∈C.ents,E.count<E.points.length:=fun E d=>by
 have:=(Rx a E d).cnt
 omega
theorem Ahi(h:Bx w0 kb x M R o w)(f:Hd R K T)(n:Int):ZH ZI 65 #[ZA (U ⟨x.n,0,O⟩),I J n] w (Ga w0 kb (kD M.m.off n,{ M with m:=Qn M.m n}) K T o w):=by
 obtain⟨left,a,d⟩:=h.mem;refine(wM x.n M.m left a n w d).mono ?_;rintro e w1 ⟨rfl,g1,g2⟩;have z:=h.cell' g2 g1;exact⟨rfl,x,R,o,z.1,f,z.2⟩
theorem Ad0(h:Bx w0 kb x M R o w)(hO:Bn M T)(hR:Hd R K T)(hK:K<=190)(hC:B4 M.C=(0,-1))(txt word:ByteArray)(hi:C8 word=U 0)(nb no cap g:Nat)(A:w.cell? ⟨nb,no,O⟩=U (I J g))(S:o nb=0)(ao:T<=49000):
  ZH ZI 35 #[ZA (U ⟨kb,0,O⟩),ZJ #[ZB word,F (U ⟨nb,no,O⟩) 1 cap]] w (Et w0 kb (Cr txt M 0 [g]) (K+1) (T) o w):=by
 obtain⟨f0,f1,f2,f3,f4,f5,f6,f7,f8,f9,ai,aj,ak,al⟩:_=true/\_=false/\_=false/\_=false/\_=false/\_=false/\_=false/\_=false/\_=false/\_=false/\_=false/\_=false/\_=false/\_=false:=Gi hi;obtain⟨r,X⟩:∃r:Nat × KpM,r=Ig M (g:Int):=⟨_,rfl⟩
 have Q:Cr txt M 0 [g]=(r.1,okS,r.2):=by rw[X];rfl
 have y:r.1<=11:=by
  have:=Pc (txt:=txt) (i:=0) (ns:=[g]) hO (by simp;omega);rw[Q]at this;exact this
 rw[Q];have f:ZF w.heap.size w (w.alloc (ZC #[ZB word,F (U ⟨nb,no,O⟩) 1 cap] 73)):=(R1 _ _).alloc (Y2 _) _;have l:=Ab w (ZC #[ZB word,F (U ⟨nb,no,O⟩) 1 cap] 73);have h1:=h.below f;have p:=h.new0;have Y:(w.alloc (ZC #[ZB word,F (U ⟨nb,no,O⟩) 1 cap] 73)).cell? ⟨nb,no,O⟩=U (I J g):=by rw[f.cell (R3 w ⟨nb,no,O⟩ A)];exact A
 obtain⟨a,n⟩:∃a,a=w.heap.size:=⟨_,rfl⟩
 have H:=G n;rw[<-n]at l p;clear n;have HPre:=G (fun j (z:DkZ w0 kb r.2 (K) (T) o (w.alloc (ZC #[ZB word,F (U ⟨nb,no,O⟩) 1 cap] 73)) j)=>(z.pre f).up (K':=K+1) (T':=T) (by omega) (Y2 _));generalize B:w.alloc _=w1 at f l h1 HPre Y;obtain⟨x0,x1,xf⟩:=Au l;have D:=G (fun W (hW:ZF w1.heap.size w1 W)=>(zO (h1.below hW) hR word (by unfold P5;exact f0) (g:Int) 0).mono (fun e j hh=>Ga.from hW hh));rw[<-X]at D;have HC:=G (fun(j:V) (s:∀b i v,w1.cell? ⟨b,i,O⟩=U v->o b=0->j.cell? ⟨b,i,O⟩=U v)=>(show j.cell? ⟨a,0,O⟩=U (ZB word)/\j.cell? ⟨a,1,O⟩=U (F (U ⟨nb,no,O⟩) 1 cap)/\j.cell? ⟨nb,no,O⟩=U (I J g)from⟨s a 0 _ x0 p,s a 1 _ x1 p,s nb no _ Y S⟩));have E:ZG (∀d q:V,(d.cell? ⟨a,0,O⟩=U (ZB word)/\d.cell? ⟨a,1,O⟩=U (F (U ⟨nb,no,O⟩) 1 cap)/\d.cell? ⟨nb,no,O⟩=U (I J g))->ZF d.heap.size d q->(q.cell? ⟨a,0,O⟩=U (ZB word)/\q.cell? ⟨a,1,O⟩=U (F (U ⟨nb,no,O⟩) 1 cap)/\q.cell? ⟨nb,no,O⟩=U (I J g))):=(show _ from fun d q t P=>⟨by rw[P.cell (R3 d _ t.1)];exact t.1,by rw[P.cell (R3 d _ t.2.1)];exact t.2.1,by rw[P.cell (R3 d _ t.2.2)];exact t.2.2⟩)
 obtain⟨re,rM⟩:=r;have L:=G (fun W=>Oa re y W);unfold Et;simp only at D HPre;clear h hO hR hK hC hi X Q y f l h1 xf;go_enter func35,ntmps35;go_upto_region 1 with fail;(try rw[B])
 rw[<-H.out];clear B;go_upto_region 4 with fail;go_region_held3 (fun j=>j.cell? ⟨a,0,O⟩=U (ZB word)/\j.cell? ⟨a,1,O⟩=U (F (U ⟨nb,no,O⟩) 1 cap)/\j.cell? ⟨nb,no,O⟩=U (I J g))
  (first|exact⟨x0,x1,Y⟩|exact u.out|exact E _ _ u m)
  (first|(go_at_call 63;refine(D _ ?_).mono ?_;(repeat(first|exact R1 _ _|refine H5 ?_));rintro e d ⟨rfl,s,z⟩;have u:=G (HC _ s);have HZ:=G (HPre _ z);clear s z)|(go_at_call 62;refine(L _).mono ?_;rintro e q ⟨rfl,Z⟩;have m:ZF d.heap.size d q:=(by refine Zyh ?_ Z;(repeat(first|exact R1 _ _|refine H5 ?_)))))
 all_goals
  have N:=G (HZ.below m);clear Z m;go_wp2_with fail;go_ret;exact⟨rfl,N.below (by repeat(first|exact R1 _ _|refine H5 ?_))⟩
theorem Adz(h:Bx w0 kb x M R o w)(hO:Bn M T)(hR:Hd R K T)(hK:K<=190)(hC:B4 M.C=(0,-1))(txt word:ByteArray)(hi:C8 word=U 1)(nb no cap g:Nat)(A:w.cell? ⟨nb,no,O⟩=U (I J g))(S:o nb=0)(ap:T<=49000):
  ZH ZI 35 #[ZA (U ⟨kb,0,O⟩),ZJ #[ZB word,F (U ⟨nb,no,O⟩) 1 cap]] w (Et w0 kb (Cr txt M 1 [g]) (K+1) (T) o w):=by
 obtain⟨f0,f1,f2,f3,f4,f5,f6,f7,f8,f9,aj,ak,al,am⟩:_=false/\_=true/\_=false/\_=false/\_=false/\_=false/\_=false/\_=false/\_=false/\_=false/\_=false/\_=false/\_=false/\_=false:=Gi hi;obtain⟨r,X⟩:∃r:Nat × KpM,r=Kk M (g:Int):=⟨_,rfl⟩
 have Q:Cr txt M 1 [g]=(r.1,okS,r.2):=by rw[X];rfl
 have y:r.1<=11:=by
  have:=Pc (txt:=txt) (i:=1) (ns:=[g]) hO (by simp;omega);rw[Q]at this;exact this
 rw[Q];have f:ZF w.heap.size w (w.alloc (ZC #[ZB word,F (U ⟨nb,no,O⟩) 1 cap] 73)):=(R1 _ _).alloc (Y2 _) _;have l:=Ab w (ZC #[ZB word,F (U ⟨nb,no,O⟩) 1 cap] 73);have h1:=h.below f;have p:=h.new0;have Y:(w.alloc (ZC #[ZB word,F (U ⟨nb,no,O⟩) 1 cap] 73)).cell? ⟨nb,no,O⟩=U (I J g):=by rw[f.cell (R3 w ⟨nb,no,O⟩ A)];exact A
 obtain⟨a,n⟩:∃a,a=w.heap.size:=⟨_,rfl⟩
 have H:=G n;rw[<-n]at l p;clear n;have HPre:=G (fun j (z:DkZ w0 kb r.2 (K) (T) o (w.alloc (ZC #[ZB word,F (U ⟨nb,no,O⟩) 1 cap] 73)) j)=>(z.pre f).up (K':=K+1) (T':=T) (by omega) (Y2 _));generalize B:w.alloc _=w1 at f l h1 HPre Y;obtain⟨x0,x1,xf⟩:=Au l;have D:=G (fun W (hW:ZF w1.heap.size w1 W)=>(Ado (h1.below hW) hR word (by unfold P5;exact f0) (by unfold kQ;exact f1) (g:Int) 0).mono (fun e j hh=>Ga.from hW hh));rw[<-X]at D;have HC:=G (fun(j:V) (s:∀b i v,w1.cell? ⟨b,i,O⟩=U v->o b=0->j.cell? ⟨b,i,O⟩=U v)=>(show j.cell? ⟨a,0,O⟩=U (ZB word)/\j.cell? ⟨a,1,O⟩=U (F (U ⟨nb,no,O⟩) 1 cap)/\j.cell? ⟨nb,no,O⟩=U (I J g)from⟨s a 0 _ x0 p,s a 1 _ x1 p,s nb no _ Y S⟩));have E:ZG (∀d q:V,(d.cell? ⟨a,0,O⟩=U (ZB word)/\d.cell? ⟨a,1,O⟩=U (F (U ⟨nb,no,O⟩) 1 cap)/\d.cell? ⟨nb,no,O⟩=U (I J g))->ZF d.heap.size d q->(q.cell? ⟨a,0,O⟩=U (ZB word)/\q.cell? ⟨a,1,O⟩=U (F (U ⟨nb,no,O⟩) 1 cap)/\q.cell? ⟨nb,no,O⟩=U (I J g))):=(show _ from fun d q t P=>⟨by rw[P.cell (R3 d _ t.1)];exact t.1,by rw[P.cell (R3 d _ t.2.1)];exact t.2.1,by rw[P.cell (R3 d _ t.2.2)];exact t.2.2⟩)
 obtain⟨re,rM⟩:=r;have L:=G (fun W=>Oa re y W);unfold Et;simp only at D HPre;clear h hO hR hK hC hi X Q y f l h1 xf;go_enter func35,ntmps35;go_upto_region 1 with fail;(try rw[B])
 rw[<-H.out];clear B;go_upto_region 4 with fail;go_region_held3 (fun j=>j.cell? ⟨a,0,O⟩=U (ZB word)/\j.cell? ⟨a,1,O⟩=U (F (U ⟨nb,no,O⟩) 1 cap)/\j.cell? ⟨nb,no,O⟩=U (I J g))
  (first|exact⟨x0,x1,Y⟩|exact u.out|exact E _ _ u m)
  (first|(go_at_call 63;refine(D _ ?_).mono ?_;(repeat(first|exact R1 _ _|refine H5 ?_));rintro e d ⟨rfl,s,z⟩;have u:=G (HC _ s);have HZ:=G (HPre _ z);clear s z)|(go_at_call 62;refine(L _).mono ?_;rintro e q ⟨rfl,Z⟩;have m:ZF d.heap.size d q:=(by refine Zyh ?_ Z;(repeat(first|exact R1 _ _|refine H5 ?_)))))
 all_goals
  have N:=G (HZ.below m);clear Z m;go_wp2_with fail;go_ret;exact⟨rfl,N.below (by repeat(first|exact R1 _ _|refine H5 ?_))⟩
theorem Ady(h:Bx w0 kb x M R o w)(X:Bn M T)(hR:Hd R K T)(hK:K<=190)(hC:B4 M.C=(0,-1))(txt word:ByteArray)(hi:C8 word=U 2)(nb no cap j n1:Nat)(A:w.cell? ⟨nb,no,O⟩=U (I J j))(B:w.cell? ⟨nb,no+1,O⟩=U (I J n1))(D:o nb=0)(ar:T<=49000):
  ZH ZI 35 #[ZA (U ⟨kb,0,O⟩),ZJ #[ZB word,F (U ⟨nb,no,O⟩) 2 cap]] w (Et w0 kb (Cr txt M 2 [j,n1]) (K+1) (T) o w):=by
 obtain⟨f0,f1,f2,f3,f4,f5,f6,f7,f8,f9,am,an,ao,ap⟩:_=false/\_=false/\_=true/\_=false/\_=false/\_=false/\_=false/\_=false/\_=false/\_=false/\_=false/\_=false/\_=false/\_=false:=Gi hi;obtain⟨r,Z⟩:∃r:Nat × KpM,r=Gm M (j:Int) (n1:Int):=⟨_,rfl⟩
 have Y:Cr txt M 2 [j,n1]=(r.1,okS,r.2):=by rw[Z];rfl
 have y:r.1<=11:=by
  have:=Pc (txt:=txt) (i:=2) (ns:=[j,n1]) X (by simp;omega);rw[Y]at this;exact this
 rw[Y];have d:ZF w.heap.size w (w.alloc (ZC #[ZB word,F (U ⟨nb,no,O⟩) 2 cap] 73)):=(R1 _ _).alloc (Y2 _) _;have l:=Ab w (ZC #[ZB word,F (U ⟨nb,no,O⟩) 2 cap] 73);have h1:=h.below d;have t:=h.new0;have y0:(w.alloc (ZC #[ZB word,F (U ⟨nb,no,O⟩) 2 cap] 73)).cell? ⟨nb,no,O⟩=U (I J j):=by rw[d.cell (R3 w ⟨nb,no,O⟩ A)];exact A
 have y1:(w.alloc (ZC #[ZB word,F (U ⟨nb,no,O⟩) 2 cap] 73)).cell? ⟨nb,no+1,O⟩=U (I J n1):=by rw[d.cell (R3 w ⟨nb,no+1,O⟩ B)];exact B
 obtain⟨g,s⟩:∃g,g=w.heap.size:=⟨_,rfl⟩
 have P:=G s;rw[<-s]at l t;clear s;have HPre:=G (fun f (z:DkZ w0 kb r.2 (K+1) (T) o (w.alloc (ZC #[ZB word,F (U ⟨nb,no,O⟩) 2 cap] 73)) f)=>(z.pre d).up (K':=K+1) (T':=T) (by omega) (Y2 _));generalize E:w.alloc _=w1 at d l h1 HPre y0 y1;obtain⟨x0,x1,xf⟩:=Au l;have L:=G (fun W (hW:ZF w1.heap.size w1 W)=>(tJ (h1.below hW) X hR (by omega) (zY hC) word (by unfold P5;exact f0) (by unfold kQ;exact f1) (j:Int) (n1:Int)).mono (fun e f hh=>Ga.from hW hh));rw[<-Z]at L;have HC:=G (fun(f:V) (q:∀b i v,w1.cell? ⟨b,i,O⟩=U v->o b=0->f.cell? ⟨b,i,O⟩=U v)=>(show f.cell? ⟨g,0,O⟩=U (ZB word)/\f.cell? ⟨g,1,O⟩=U (F (U ⟨nb,no,O⟩) 2 cap)/\f.cell? ⟨nb,no,O⟩=U (I J j)/\f.cell? ⟨nb,no+1,O⟩=U (I J n1)from⟨q g 0 _ x0 t,q g 1 _ x1 t,q nb no _ y0 D,q nb (no+1) _ y1 D⟩));have N:ZG (∀a n:V,(a.cell? ⟨g,0,O⟩=U (ZB word)/\a.cell? ⟨g,1,O⟩=U (F (U ⟨nb,no,O⟩) 2 cap)/\a.cell? ⟨nb,no,O⟩=U (I J j)/\a.cell? ⟨nb,no+1,O⟩=U (I J n1))->ZF a.heap.size a n->(n.cell? ⟨g,0,O⟩=U (ZB word)/\n.cell? ⟨g,1,O⟩=U (F (U ⟨nb,no,O⟩) 2 cap)/\n.cell? ⟨nb,no,O⟩=U (I J j)/\n.cell? ⟨nb,no+1,O⟩=U (I J n1))):=(show _ from fun a n m H=>⟨by rw[H.cell (R3 a _ m.1)];exact m.1,by rw[H.cell (R3 a _ m.2.1)];exact m.2.1,by rw[H.cell (R3 a _ m.2.2.1)];exact m.2.2.1,by rw[H.cell (R3 a _ m.2.2.2)];exact m.2.2.2⟩)
 obtain⟨re,rM⟩:=r;have Q:=G (fun W=>Oa re y W);unfold Et;simp only at L HPre;clear h X hR hK hC hi Z Y y d l h1 xf;go_enter func35,ntmps35;go_upto_region 1 with fail;(try rw[E])
 rw[<-P.out];clear E;go_upto_region 6 with fail;go_region_held3 (fun f=>f.cell? ⟨g,0,O⟩=U (ZB word)/\f.cell? ⟨g,1,O⟩=U (F (U ⟨nb,no,O⟩) 2 cap)/\f.cell? ⟨nb,no,O⟩=U (I J j)/\f.cell? ⟨nb,no+1,O⟩=U (I J n1))
  (first|exact⟨x0,x1,y0,y1⟩|exact u.out|exact N _ _ u p)
  (first|(go_at_call 63;refine(L _ ?_).mono ?_;(repeat(first|exact R1 _ _|refine H5 ?_));rintro e a ⟨rfl,q,z⟩;have u:=G (HC _ q);have HZ:=G (HPre _ z);clear q z)|(go_at_call 62;refine(Q _).mono ?_;rintro e n ⟨rfl,b3⟩;have p:ZF a.heap.size a n:=(by refine Zyh ?_ b3;(repeat(first|exact R1 _ _|refine H5 ?_)))))
 all_goals
  have S:=G (HZ.below p);clear b3 p;go_wp2_with fail;go_ret;exact⟨rfl,S.below (by repeat(first|exact R1 _ _|refine H5 ?_))⟩
theorem Adx(h:Bx w0 kb x M R o w)(t:Bn M T)(D:Hd R K T)(Y:K<=190)(B:B4 M.C=(0,-1))(txt word:ByteArray)(hi:C8 word=U 3)(nb no cap d:Nat)(l:w.cell? ⟨nb,no,O⟩=U (I J d))(ac:o nb=0)(hT:T+2*d<=49000)(Z:T<=49000):
  ZH ZI 35 #[ZA (U ⟨kb,0,O⟩),ZJ #[ZB word,F (U ⟨nb,no,O⟩) 1 cap]] w (Et w0 kb (Cr txt M 3 [d]) (K+1) (T+2*d) o w):=by
 obtain⟨f0,f1,f2,f3,f4,f5,f6,f7,f8,f9,P,Q,S,X⟩:_=false/\_=false/\_=false/\_=true/\_=false/\_=false/\_=false/\_=false/\_=false/\_=false/\_=false/\_=false/\_=false/\_=false:=Gi hi;obtain⟨r,v⟩:∃r:Nat × KpM,r=Bi M d:=⟨_,rfl⟩
 have u:Cr txt M 3 [d]=(r.1,okS,r.2):=by rw[v];rfl
 have j:r.1<=11:=by
  have:=Pc (txt:=txt) (i:=3) (ns:=[d]) t (by simp;omega);rw[u]at this;exact this
 rw[u];have a:ZF w.heap.size w (w.alloc (ZC #[ZB word,F (U ⟨nb,no,O⟩) 1 cap] 73)):=(R1 _ _).alloc (Y2 _) _;have f:=Ab w (ZC #[ZB word,F (U ⟨nb,no,O⟩) 1 cap] 73);have h1:=h.below a;have y:=h.new0;have y0:(w.alloc (ZC #[ZB word,F (U ⟨nb,no,O⟩) 1 cap] 73)).cell? ⟨nb,no,O⟩=U (I J d):=by rw[a.cell (R3 w ⟨nb,no,O⟩ l)];exact l
 obtain⟨H,g⟩:∃H,H=w.heap.size:=⟨_,rfl⟩
 have p:=G g;rw[<-g]at f y;clear g;have HPre:=G (fun L (z:DkZ w0 kb r.2 (K) (T+2*d) o (w.alloc (ZC #[ZB word,F (U ⟨nb,no,O⟩) 1 cap] 73)) L)=>(z.pre a).up (K':=K+1) (T':=T+2*d) (by omega) (Y2 _));generalize m:w.alloc _=w1 at a f h1 HPre y0;obtain⟨x0,x1,xf⟩:=Au f;have n:=G (fun W (E:ZF w1.heap.size w1 W)=>(zK (h1.below E) t D (by omega) (zY B) d (by omega)).mono (fun e L hh=>Ga.from E hh));rw[<-v]at n;obtain⟨re,rM⟩:=r;have q:=G (fun W=>Oa re j W);unfold Et;simp only at n HPre;clear h t D Y B hi v u j a f h1 xf;go_enter func35,ntmps35;go_upto_region 1 with fail;(try rw[m])
 rw[<-p.out];clear m;go_wp2_with fail;refine(n _ (R1 _ _)).mono ?_;rintro e w2 ⟨rfl,hc,z⟩;have N:=G (HPre _ z);clear hc z n;go_wp2_with fail;refine(q _).mono ?_;rintro e w3 ⟨rfl,A⟩;have s:=G (N.below A);clear A;go_wp2_with fail;go_ret;exact⟨rfl,s.out⟩
theorem Adw(h:Bx w0 kb x M R o w)(hO:Bn M T)(hR:Hd R K T)(hK:K<=190)(hC:B4 M.C=(0,-1))(txt word:ByteArray)(hi:C8 word=U 4)(nb no cap f:Nat)(P:w.cell? ⟨nb,no,O⟩=U (I J f))(af:o nb=0)(av:T<=49000):
  ZH ZI 35 #[ZA (U ⟨kb,0,O⟩),ZJ #[ZB word,F (U ⟨nb,no,O⟩) 1 cap]] w (Et w0 kb (Cr txt M 4 [f]) (K+1) (T) o w):=by
 obtain⟨f0,f1,f2,f3,f4,f5,f6,f7,f8,f9,an,ao,ap,aq⟩:_=false/\_=false/\_=false/\_=false/\_=true/\_=false/\_=false/\_=false/\_=false/\_=false/\_=false/\_=false/\_=false/\_=false:=Gi hi;obtain⟨r,Q⟩:∃r:Nat × KpM,r=((kD M.m.off (f:Int),{ M with m:=Qn M.m (f:Int)}):Nat × KpM):=⟨_,rfl⟩
 have hd:Cr txt M 4 [f]=(r.1,okS,r.2):=by rw[Q];rfl
 have N:r.1<=11:=by
  have:=Pc (txt:=txt) (i:=4) (ns:=[f]) hO (by simp;omega);rw[hd]at this;exact this
 rw[hd];have l:ZF w.heap.size w (w.alloc (ZC #[ZB word,F (U ⟨nb,no,O⟩) 1 cap] 73)):=(R1 _ _).alloc (Y2 _) _;have s:=Ab w (ZC #[ZB word,F (U ⟨nb,no,O⟩) 1 cap] 73);have h1:=h.below l;have A:=h.new0;have y0:(w.alloc (ZC #[ZB word,F (U ⟨nb,no,O⟩) 1 cap] 73)).cell? ⟨nb,no,O⟩=U (I J f):=by rw[l.cell (R3 w ⟨nb,no,O⟩ P)];exact P
 obtain⟨j,y⟩:∃j,j=w.heap.size:=⟨_,rfl⟩
 have aa:=G y;rw[<-y]at s A;clear y;have HPre:=G (fun d (z:DkZ w0 kb r.2 (K) (T) o (w.alloc (ZC #[ZB word,F (U ⟨nb,no,O⟩) 1 cap] 73)) d)=>(z.pre l).up (K':=K+1) (T':=T) (by omega) (Y2 _));generalize S:w.alloc _=w1 at l s h1 HPre y0;obtain⟨x0,x1,xf⟩:=Au s;obtain⟨_,_,_,_,_,k5,_⟩:=Cf h1.box;have Y:=G (fun W (E:ZF w1.heap.size w1 W)=>(Ahi (h1.below E) hR (f:Int)).mono (fun e d hh=>Ga.from E hh));rw[<-Q]at Y;have B:ZG (∀W,ZF w1.heap.size w1 W->ZH ZI 65 #[ZA (U ⟨x.n,0,O⟩),I J f] W fun e d=>e=ZD (I J (r.1:Nat))/\(d.cell? ⟨j,0,O⟩=U (ZB word)/\d.cell? ⟨j,1,O⟩=U (F (U ⟨nb,no,O⟩) 1 cap)/\d.cell? ⟨nb,no,O⟩=U (I J f)/\d.cell? ⟨kb,5,O⟩=U (ZA (U ⟨x.n,0,O⟩)))/\DkZ w0 kb r.2 K T o w1 d):=(show _ from fun W E=>by
  have q:=h1.below E;obtain⟨left,D,ag⟩:=q.mem;have ay:¬kb=x.n:=fun e=>by have a:=h1.ok;have b:=h1.on;rw[e]at a;omega
  refine(wM x.n M.m left D (f:Int) W ag).mono ?_;rintro e d ⟨he,g1,g2⟩;have p:=Ga.from E (show Ga w0 kb r K T o W e d from⟨by rw[he,Q],x,R,o,by rw[Q];exact(q.cell' g2 g1).1,hR,(q.cell' g2 g1).2⟩);obtain⟨_,_,_,_,_,v5,_⟩:=Cf (q.cell' g2 g1).1.box;exact⟨p.1,⟨p.2.1 j 0 _ x0 A,p.2.1 j 1 _ x1 A,p.2.1 nb no _ y0 af,v5⟩,p.2.2⟩)
 have Z:ZG (∀g u:V,(g.cell? ⟨j,0,O⟩=U (ZB word)/\g.cell? ⟨j,1,O⟩=U (F (U ⟨nb,no,O⟩) 1 cap)/\g.cell? ⟨nb,no,O⟩=U (I J f)/\g.cell? ⟨kb,5,O⟩=U (ZA (U ⟨x.n,0,O⟩)))->ZF g.heap.size g u->(u.cell? ⟨j,0,O⟩=U (ZB word)/\u.cell? ⟨j,1,O⟩=U (F (U ⟨nb,no,O⟩) 1 cap)/\u.cell? ⟨nb,no,O⟩=U (I J f)/\u.cell? ⟨kb,5,O⟩=U (ZA (U ⟨x.n,0,O⟩)))):=(show _ from fun g u t X=>⟨by rw[X.cell (R3 g _ t.1)];exact t.1,by rw[X.cell (R3 g _ t.2.1)];exact t.2.1,by rw[X.cell (R3 g _ t.2.2.1)];exact t.2.2.1,by rw[X.cell (R3 g _ t.2.2.2)];exact t.2.2.2⟩)
 obtain⟨re,rM⟩:=r;have ab:=G (fun W=>Oa re N W);unfold Et;simp only at Y HPre;simp only at B;clear h hO hR hK hC hi Q hd N l s h1 xf Y;go_enter func35,ntmps35;go_upto_region 1 with fail;(try rw[S])
 rw[<-aa.out];clear S;go_upto_region 10 with fail;go_region_held3 (fun d=>d.cell? ⟨j,0,O⟩=U (ZB word)/\d.cell? ⟨j,1,O⟩=U (F (U ⟨nb,no,O⟩) 1 cap)/\d.cell? ⟨nb,no,O⟩=U (I J f)/\d.cell? ⟨kb,5,O⟩=U (ZA (U ⟨x.n,0,O⟩)))
  (first|exact⟨x0,x1,y0,k5⟩|exact L.out|exact Z _ _ L v)
  (first|(go_at_call 65;refine(B _ ?_).mono ?_;(repeat(first|exact R1 _ _|refine H5 ?_));rintro e g ⟨rfl,H,z⟩;have L:=G H;have HZ:=G (HPre _ z);clear H z)|(go_at_call 62;refine(ab _).mono ?_;rintro e u ⟨rfl,b3⟩;have v:ZF g.heap.size g u:=(by refine Zyh ?_ b3;(repeat(first|exact R1 _ _|refine H5 ?_)))))
 all_goals
  have ac:=G (HZ.below v);clear b3 v;go_wp2_with fail;go_ret;exact⟨rfl,ac.below (by repeat(first|exact R1 _ _|refine H5 ?_))⟩
theorem Adv(h:Bx w0 kb x M R o w)(v:Bn M T)(E:Hd R K T)(hK:K<=190)(Z:B4 M.C=(0,-1))(txt word:ByteArray)(hi:C8 word=U 5)(m:ZE)(A:∃a n c,m=F a n c)(ab:T<=49000):
  ZH ZI 35 #[ZA (U ⟨kb,0,O⟩),ZJ #[ZB word,m]] w (Et w0 kb (Cr txt M 5 []) (K+1) (T) o w):=by
 obtain⟨f0,f1,f2,f3,f4,f5,f6,f7,f8,f9,Q,S,X,Y⟩:_=false/\_=false/\_=false/\_=false/\_=false/\_=true/\_=false/\_=false/\_=false/\_=false/\_=false/\_=false/\_=false/\_=false:=Gi hi;obtain⟨r,B⟩:∃r:Nat × KpM,r=Lx M:=⟨_,rfl⟩
 have y:Cr txt M 5 []=(r.1,okS,r.2):=by rw[B];rfl
 have j:r.1<=11:=by
  have:=Pc (txt:=txt) (i:=5) (ns:=[]) v (by simp;omega);rw[y]at this;exact this
 rw[y];have d:ZF w.heap.size w (w.alloc (ZC #[ZB word,m] 73)):=(R1 _ _).alloc (Y2 _) _;have f:=Ab w (ZC #[ZB word,m] 73);have h1:=h.below d;have p:=h.new0;obtain⟨L,g⟩:∃L,L=w.heap.size:=⟨_,rfl⟩
 have s:=G g;rw[<-g]at f p;clear g;have HPre:=G (fun N (z:DkZ w0 kb r.2 (K) (T) o (w.alloc (ZC #[ZB word,m] 73)) N)=>(z.pre d).up (K':=K+1) (T':=T) (by omega) (Y2 _));generalize l:w.alloc _=w1 at d f h1 HPre;obtain⟨x0,x1,xf⟩:=Au f;have q:=G (fun W (H:ZF w1.heap.size w1 W)=>(Adq (h1.below H) v E).mono (fun e N hh=>Ga.from H hh));rw[<-B]at q;obtain⟨re,rM⟩:=r;have t:=G (fun W=>Oa re j W);unfold Et;simp only at q HPre;clear h v E hK Z hi B y j d f h1 xf p;go_enter func35,ntmps35;go_upto_region 1 with fail;(try rw[l])
 rw[<-s.out];clear l;obtain⟨na,nn,nc,rfl⟩:=A;go_wp2_with fail;refine(q _ (R1 _ _)).mono ?_;rintro e w2 ⟨rfl,hc,z⟩;have P:=G (HPre _ z);clear hc z q;go_wp2_with fail;refine(t _).mono ?_;rintro e w3 ⟨rfl,D⟩;have u:=G (P.below D);clear D;go_wp2_with fail;go_ret;exact⟨rfl,u.out⟩
end
theorem So(s:ByteArray):Aal 0 s=s:=if_pos rfl
theorem Aa2(r:Ap)(a:Kv r):(B6 (C5 r)).size<=200:=by
 have j:=a.s2;have g:=a.e;have i:=a.k;have l:=a.t;have z1:=J6 r.seq (by omega);have z2:=J6 r.ent (by omega);have d:=J6 r.kind (by omega);have f:=J6 r.tick (by omega);rw[Dx]at z1 z2 d f;rw[Dx,Xw];simp only[R2,G3];omega
theorem Aes{M:KpM}{T:Nat}(h:Bn M T):∀r∈M.L,Kv r:=by
 obtain⟨D,d1,d2,d3⟩:=h.log;intro r a;rw[d3]at a;unfold Lq at a;obtain⟨j,d,e⟩:=List.mem_iff_getElem.1 (List.mem_of_mem_drop a);rw[<-e];exact(d1.seq j d).2
theorem Acr(sep:List UInt8)(x:List UInt8):∀(l:List (List UInt8)),Lib.join (l++ [x]) sep=if l= [] then x else Lib.join l sep++sep++x
 |[]=>by simp[Lib.join_one]
 |a::r=>by
  rw[if_neg (by simp),Zyl,Lib.join_cons,Lib.join_cons]
  simp[Lib.joinTail]
theorem Ae1{C:Ar}{a:ByteArray}(d:B4 C=(0,-1))(f:a.data.toList=C4 C)(g:(C4 C).length<=8000):Hh a=(C,(0,-1)):=by
 have e:a=⟨(C4 C).toArray⟩:=by
  apply Zx4;apply Array.toList_inj.1;rw[f]
 rw[e];exact Zs d (by omega)
theorem Ae3(C:Ar):∃t,C4 C=t++ [10]:=by
 rw[V7];have hne:Jb C≠ []:=by simp[Jb,Is]
 refine⟨Ai (Jb C).dropLast++upB ((Jb C).getLast hne) ((Jb C).getLast hne).length,?_⟩;have h:=Zzh hne;have e:Ai (Jb C)=Ai ((Jb C).dropLast++ [(Jb C).getLast hne]):=by rw[h]
 rw[e,Cj];simp[Ai,Br]
theorem Ahl{C:Ar}(i:(C4 C).length<=8000)(S:ByteArray)(e:S.data.toList=C4 C):B6 (Mu (S.data.toList.take (S.size-1)))=Nq (Ja C)/\1<=S.size/\S.size<=8000:=by
 have f:S.size=(C4 C).length:=by rw[<-e,C2];rfl
 obtain⟨t,d⟩:=Ae3 C;have g:(Ja C).data.toList=C4 C:=by unfold Ja;simp
 refine⟨?_,by rw[f,d,R2];simp,by omega⟩;unfold Nq Su Lib.trimSuffix;rw[g,e,f,d];have a:Lib.hasSuffix (t++ [10]) [10]=true:=by
  unfold Lib.hasSuffix;simp
 rw[if_pos a];rfl
section
variable {w0:V} {kb:Nat} {x:DkX} {M:KpM} {R:List Bl} {o:Nat->Nat} {w w1:V} {T K:Nat}
theorem Bx.z(h:Bx w0 kb x M R o w)(hR:Hd R K T)(b:ZF w.heap.size w w1):DkZ w0 kb M (K+1) T o w w1:=⟨x,R,o,h.below b,hR.up (Zxt K) (Y2 T),Fr.below o b⟩
theorem Bx.ves(h:Bx w0 kb x M R o w):∃ao cap,x.ve=F ao x.X.length cap:=h.ents.row.val
theorem Bx.conf(h:Bx w0 kb x M R o w)(a:B4 M.C=(0,-1)):Gb (fun b=>b<w0.heap.size) w M.C x.ve x.X:=by
 have d:=congrArg List.length h.xe;rw[Fn]at d;have l:=Er (Cv a).1;refine⟨h.ents,h.xe,fun y e=>?_,by omega⟩;have g:=Rx a y.E (by rw[h.xe];exact Zzx e);have g1:=g.pl;have g2:=g.gl;have f:=g.el;have i:=g.fl;have j:=g.ll;exact⟨by omega,by omega,by omega,by omega,by omega⟩
theorem Adu(h:Bx w0 kb x M R o w)(hO:Bn M T)(hR:Hd R K T)(hC:B4 M.C=(0,-1))(txt word:ByteArray)(hi:C8 word=U 6)(nb no cap d:Nat)(j:w.cell? ⟨nb,no,O⟩=U (I J d)):
  ZH ZI 35 #[ZA (U ⟨kb,0,O⟩),ZJ #[ZB word,F (U ⟨nb,no,O⟩) 1 cap]] w (Et w0 kb (Cr txt M 6 [d]) (K+1) T o w):=by
 obtain⟨f0,f1,f2,f3,f4,f5,f6,f7,f8,f9,a2,a3,a4,a5⟩:_=false/\_=false/\_=false/\_=false/\_=false/\_=false/\_=true/\_=false/\_=false/\_=false/\_=false/\_=false/\_=false/\_=false:=Gi hi;have a:ZF w.heap.size w (w.alloc (ZC #[ZB word,F (U ⟨nb,no,O⟩) 1 cap] 73)):=(R1 _ _).alloc (Y2 _) _;have i:=Ab w (ZC #[ZB word,F (U ⟨nb,no,O⟩) 1 cap] 73);have h1:=h.below a;have y0:(w.alloc (ZC #[ZB word,F (U ⟨nb,no,O⟩) 1 cap] 73)).cell? ⟨nb,no,O⟩=U (I J d):=by rw[a.cell (R3 w ⟨nb,no,O⟩ j)];exact j
 obtain⟨lb,t⟩:∃lb,lb=w.heap.size:=⟨_,rfl⟩
 have B:=G t;rw[<-t]at i;clear t;have HZ:ZG (∀W,ZF (w.alloc (ZC #[ZB word,F (U ⟨nb,no,O⟩) 1 cap] 73)).heap.size (w.alloc (ZC #[ZB word,F (U ⟨nb,no,O⟩) 1 cap] 73)) W->DkZ w0 kb M (K+1) T o w W):=(show _ from fun W q=>h.z hR (a.trans (q.mono a.size)))
 generalize m:w.alloc _=w1 at a i h1 HZ y0;obtain⟨x0,x1,xf⟩:=Au i;obtain⟨k0,k1,k2,k3,k4,k5,k6,k7,Z,k9,kf⟩:=Cf h1.box;unfold Et;obtain⟨ao,az,Y,-,-,-⟩:=h1.row;rw[Y]at Z;by_cases u:d<M.A.length
 ·have s:(d:Int)<M.A.length:=by omega
  have N:Cr txt M 6 [d]=(0,Cs (B9 M d),M):=by
   unfold Cr;simp only[Zya];rw[if_pos s];simp
  rw[N];obtain⟨b,off,n,l,y,r,lv,P⟩:=h1.pickN u;rw[P.vl]at Y;obtain⟨rfl,-,rfl⟩:=Value.slice.inj Y;have pc:=P.cell;have X:=Tv P.rel;have L:=G (fun W (q:ZF w1.heap.size w1 W)=>Md l y.E y.p y.g y.e y.f y.l r lv W (P.rlo.keep (Al q) (fun h=>h) (fun _ _ _ h=>h)).box);obtain⟨S,hS⟩:∃S,S=Jj r:=⟨_,rfl⟩
  rw[<-hS]at L;rw[<-X,<-hS];have H:ZG (∀W,ZF w1.heap.size w1 W->W.cell? ⟨lb,1,O⟩=U (F (U ⟨nb,no,O⟩) 1 cap)/\W.cell? ⟨nb,no,O⟩=U (I J d)/\W.cell? ⟨kb,8,O⟩=U (F (U ⟨b,off,O⟩) M.A.length n)/\W.cell? ⟨b,off+d,O⟩=U (ZA (U ⟨l,0,O⟩))):=(show _ from fun W q=>
   ⟨by rw[q.cell (R3 w1 _ x1)];exact x1,by rw[q.cell (R3 w1 _ y0)];exact y0,by rw[q.cell (R3 w1 _ Z)];exact Z,by rw[q.cell (R3 w1 _ pc)];exact pc⟩)
  clear h hO hR hC hi j a i h1 xf k0 k1 k2 k3 k4 k5 k6 k7 k9 kf u N P X hS Y;simp only;go_enter func35,ntmps35;go_upto_region 1 with fail;(try rw[m])
  rw[<-B.out];clear m;go_upto_region 14 with fail;go_quiet (fail);generalize Q:World.drewN w1 _=wq;have v:ZF w1.heap.size w1 wq:=by rw[<-Q];exact Ag _ (R1 _ _)
  obtain⟨u1,u2,u3,u4⟩:=H wq v;have D:=G v;clear Q v x0 x1 y0 Z pc H;go_wp2_with fail;go_region_held3 (fun w'=>w'.cell? ⟨lb,1,O⟩=U (F (U ⟨nb,no,O⟩) 1 cap)/\w'.cell? ⟨nb,no,O⟩=U (I J d)/\w'.cell? ⟨kb,8,O⟩=U (F (U ⟨b,off,O⟩) M.A.length n)/\w'.cell? ⟨b,off+d,O⟩=U (ZA (U ⟨l,0,O⟩)))
   (first|exact⟨u1,u2,u3,u4⟩)
   (first|(go_at_call 67;refine(L _ ?_).mono ?_;(repeat(first|exact D.out|refine H5 ?_));rintro e w2 ⟨rfl,rfl⟩))
  all_goals
   go_wp2_with fail;go_ret;exact⟨by rw[So];rfl,HZ _ (by repeat(first|exact D.out|refine H5 ?_))⟩
 ·have s:(M.A.length:Int)<=(d:Int):=by omega
  have N:Cr txt M 6 [d]=(5,ByteArray.empty,M):=by
   unfold Cr;simp only[Zya];rw[if_neg (by omega)]
  rw[N];have af:=G (fun W=>Ws W);have ha:Aal 5 ByteArray.empty=He (4+1):=rfl;simp only;rw[ha];clear h hO hR hC hi j a i h1 xf k0 k1 k2 k3 k4 k5 k6 k7 k9 kf u N Y ha;go_enter func35,ntmps35;go_upto_region 1 with fail;(try rw[m])
  rw[<-B.out];clear m;go_upto_region 14 with fail;go_quiet (fail);generalize Q:World.drewN w1 _=wq;have v:ZF w1.heap.size w1 wq:=by rw[<-Q];exact Ag _ (R1 _ _)
  have D:=G v;clear Q v x0 x1 y0 Z;go_wp2_with fail;refine(af _).mono ?_;rintro e w2 ⟨rfl,b2⟩;have ae:=G (D.trans (b2.mono D.size));clear b2;go_wp2_with fail;go_ret;exact⟨rfl,HZ _ ae.out⟩
theorem Adt(h:Bx w0 kb x M R o w)(m:Bn M T)(B:Hd R K T)(Y:B4 M.C=(0,-1))(txt word:ByteArray)(hi:C8 word=U 7)(j:ZE)(t:∃a n c,j=F a n c):
  ZH ZI 35 #[ZA (U ⟨kb,0,O⟩),ZJ #[ZB word,j]] w (Et w0 kb (Cr txt M 7 []) (K+1) T o w):=by
 obtain⟨f0,f1,f2,f3,f4,f5,f6,f7,f8,f9,N,P,Q,X⟩:_=false/\_=false/\_=false/\_=false/\_=false/\_=false/\_=false/\_=true/\_=false/\_=false/\_=false/\_=false/\_=false/\_=false:=Gi hi;have d:ZF w.heap.size w (w.alloc (ZC #[ZB word,j] 73)):=(R1 _ _).alloc (Y2 _) _;have f:=Ab w (ZC #[ZB word,j] 73);have h1:=h.below d;obtain⟨L,g⟩:∃L,L=w.heap.size:=⟨_,rfl⟩
 have s:=G g;rw[<-g]at f;clear g;have y:ZG (∀W,ZF (w.alloc (ZC #[ZB word,j] 73)).heap.size (w.alloc (ZC #[ZB word,j] 73)) W->DkZ w0 kb M (K+1) T o w W):=(show _ from fun W Z=>h.z B (d.trans (Z.mono d.size)))
 generalize l:w.alloc _=w1 at d f h1 y;obtain⟨x0,x1,xf⟩:=Au f;obtain⟨k0,k1,k2,k3,k4,k5,k6,k7,k8,k9,kf⟩:=Cf h1.box;unfold Et;obtain⟨d0,d1,d2,d3,d4,d5,df⟩:=D5 h1.dog;obtain⟨v,p⟩:∃v,v=M.D.now:=⟨_,rfl⟩
 have i:0<=v/\v<=1099511627776:=by rw[p];exact⟨by have:=m.dog.l0;have:=m.dog.ln;omega,m.dog.n1⟩
 rw[<-p]at d2;have H:Cr txt M 7 []=(0,B6 (Lib.itoa v),M):=by rw[p];rfl
 rw[H];have u:=G (fun W=>Dm v i.1 i.2 W);obtain⟨S,E⟩:∃S,S=B6 (Lib.itoa v):=⟨_,rfl⟩
 rw[<-E]at u ⊢;simp only;obtain⟨na,nn,nc,rfl⟩:=t;clear h m B Y hi d f h1 xf k0 k1 k2 k3 k4 k5 k7 k8 k9 kf p i H E;go_enter func35,ntmps35;go_upto_region 1 with fail;(try rw[l])
 rw[<-s.out];clear l;go_wp2_with fail;refine(u _).mono ?_;rintro e w2 ⟨rfl,A⟩;have q:=G A;clear A;go_wp2_with fail;go_ret;exact⟨by rw[So];rfl,y _ q.out⟩
theorem Ads(h:Bx w0 kb x M R o w)(s:Bn M T)(B:Hd R K T)(Y:B4 M.C=(0,-1))(txt word:ByteArray)(hi:C8 word=U 8)(j:ZE)(t:∃a n c,j=F a n c):
  ZH ZI 35 #[ZA (U ⟨kb,0,O⟩),ZJ #[ZB word,j]] w (Et w0 kb (Cr txt M 8 []) (K+1) T o w):=by
 obtain⟨f0,f1,f2,f3,f4,f5,f6,f7,f8,f9,N,P,Q,X⟩:_=false/\_=false/\_=false/\_=false/\_=false/\_=false/\_=false/\_=false/\_=true/\_=false/\_=false/\_=false/\_=false/\_=false:=Gi hi;have d:ZF w.heap.size w (w.alloc (ZC #[ZB word,j] 73)):=(R1 _ _).alloc (Y2 _) _;have f:=Ab w (ZC #[ZB word,j] 73);have h1:=h.below d;obtain⟨L,g⟩:∃L,L=w.heap.size:=⟨_,rfl⟩
 have q:=G g;rw[<-g]at f;clear g;have y:ZG (∀W,ZF (w.alloc (ZC #[ZB word,j] 73)).heap.size (w.alloc (ZC #[ZB word,j] 73)) W->DkZ w0 kb M (K+1) T o w W):=(show _ from fun W Z=>h.z B (d.trans (Z.mono d.size)))
 generalize l:w.alloc _=w1 at d f h1 y;obtain⟨x0,x1,xf⟩:=Au f;obtain⟨k0,k1,k2,k3,k4,k5,k6,k7,k8,k9,kf⟩:=Cf h1.box;unfold Et;obtain⟨d0,d1,d2,d3,d4,d5,df⟩:=D5 h1.dog;obtain⟨v,m⟩:∃v,v=M.D.kicks:=⟨_,rfl⟩
 have i:0<=v/\v<=1099511627776:=by rw[m];exact⟨s.dog.k0,by have:=s.dog.k1;omega⟩
 rw[<-m]at d4;have H:Cr txt M 8 []=(0,B6 (Lib.itoa v),M):=by rw[m];rfl
 rw[H];have u:=G (fun W=>Dm v i.1 i.2 W);obtain⟨S,E⟩:∃S,S=B6 (Lib.itoa v):=⟨_,rfl⟩
 rw[<-E]at u ⊢;simp only;obtain⟨na,nn,nc,rfl⟩:=t;clear h s B Y hi d f h1 xf k0 k1 k2 k3 k4 k5 k7 k8 k9 kf m i H E;go_enter func35,ntmps35;go_upto_region 1 with fail;(try rw[l])
 rw[<-q.out];clear l;go_wp2_with fail;refine(u _).mono ?_;rintro e w2 ⟨rfl,A⟩;have p:=G A;clear A;go_wp2_with fail;go_ret;exact⟨by rw[So];rfl,y _ p.out⟩
theorem Adr(h:Bx w0 kb x M R o w)(D:Bn M T)(p:Hd R K T)(B:B4 M.C=(0,-1))(txt word:ByteArray)(hi:C8 word=U 9)(g:ZE)(l:∃a n c,g=F a n c):
  ZH ZI 35 #[ZA (U ⟨kb,0,O⟩),ZJ #[ZB word,g]] w (Et w0 kb (Cr txt M 9 []) (K+1) T o w):=by
 obtain⟨f0,f1,f2,f3,f4,f5,f6,f7,f8,f9,u,v,y,A⟩:_=false/\_=false/\_=false/\_=false/\_=false/\_=false/\_=false/\_=false/\_=false/\_=true/\_=false/\_=false/\_=false/\_=false:=Gi hi;have d:ZF w.heap.size w (w.alloc (ZC #[ZB word,g] 73)):=(R1 _ _).alloc (Y2 _) _;have e:=Ab w (ZC #[ZB word,g] 73);have h1:=h.below d;obtain⟨t,f⟩:∃t,t=w.heap.size:=⟨_,rfl⟩
 have j:=G f;rw[<-f]at e;clear f;have m:ZG (∀W,ZF (w.alloc (ZC #[ZB word,g] 73)).heap.size (w.alloc (ZC #[ZB word,g] 73)) W->DkZ w0 kb M (K+1) T o w W):=(show _ from fun W E=>h.z p (d.trans (E.mono d.size)))
 generalize i:w.alloc _=w1 at d e h1 m;obtain⟨x0,x1,xf⟩:=Au e;obtain⟨k0,k1,H,L,N,P,Q,X,Y,k9,Z⟩:=Cf h1.box;unfold Et;obtain⟨t0,t1,t2,tf⟩:=Bf h1.tot;have s:Cr txt M 9 []=(0,M.st.str,M):=rfl;rw[s];obtain⟨S,q⟩:∃S,S=M.st.str:=⟨_,rfl⟩
 rw[<-q]at t2 ⊢;simp only;obtain⟨na,nn,nc,rfl⟩:=l;clear h D p B hi d e h1 xf k0 k1 H L N P Q X Y Z s q;go_enter func35,ntmps35;go_upto_region 1 with fail;(try rw[i])
 rw[<-j.out];clear i;go_wp2_with fail;go_ret;exact⟨by rw[So];rfl,m _ (R1 _ _)⟩
theorem zS(h:Bx w0 kb x M R o w)(H:Bn M T)(s:Hd R K T)(E:B4 M.C=(0,-1))(txt word:ByteArray)(hi:C8 word=U 10)(i:ZE)(m:∃a n c,i=F a n c):
  ZH ZI 35 #[ZA (U ⟨kb,0,O⟩),ZJ #[ZB word,i]] w (Et w0 kb (Cr txt M 10 []) (K+1) T o w):=by
 obtain⟨f0,f1,f2,f3,f4,f5,f6,f7,f8,f9,y,A,B,D⟩:_=false/\_=false/\_=false/\_=false/\_=false/\_=false/\_=false/\_=false/\_=false/\_=false/\_=true/\_=false/\_=false/\_=false:=Gi hi;have d:ZF w.heap.size w (w.alloc (ZC #[ZB word,i] 73)):=(R1 _ _).alloc (Y2 _) _;have f:=Ab w (ZC #[ZB word,i] 73);have h1:=h.below d;obtain⟨v,g⟩:∃v,v=w.heap.size:=⟨_,rfl⟩
 have l:=G g;rw[<-g]at f;clear g;have q:ZG (∀W,ZF (w.alloc (ZC #[ZB word,i] 73)).heap.size (w.alloc (ZC #[ZB word,i] 73)) W->DkZ w0 kb M (K+1) T o w W):=(show _ from fun W L=>h.z s (d.trans (L.mono d.size)))
 generalize j:w.alloc _=w1 at d f h1 q;obtain⟨x0,x1,xf⟩:=Au f;obtain⟨k0,k1,N,P,Q,X,Y,Z,k8,k9,kf⟩:=Cf h1.box;unfold Et;have p:=G (zL h1);have u:Cr txt M 10 []=(0,Me M,M):=rfl;rw[u];obtain⟨S,t⟩:∃S,S=Me M:=⟨_,rfl⟩
 rw[<-t]at p ⊢;simp only;obtain⟨na,nn,nc,rfl⟩:=m;clear h H s E hi d f h1 xf k0 k1 N P Q X Y Z k8 k9 kf u t;go_enter func35,ntmps35;go_upto_region 1 with fail;(try rw[j])
 rw[<-l.out];clear j;go_wp2_with fail;refine p.mono ?_;rintro e w2 ⟨rfl,rfl⟩;go_wp2_with fail;go_ret;exact⟨by rw[So];rfl,q _ (R1 _ _)⟩
theorem zP(h:Bx w0 kb x M R o w)(hO:Bn M T)(Q:Hd R K T)(B:B4 M.C=(0,-1))(P:(C4 M.C).length<=8000)(word:ByteArray)(hi:C8 word=U 13)(l:ZE)(D:∃a n c,l=F a n c):
  ZH ZI 35 #[ZA (U ⟨kb,0,O⟩),ZJ #[ZB word,l]] w (Et w0 kb (Cr (Ja M.C) M 13 []) (K+1) T o w):=by
 obtain⟨f0,f1,f2,f3,f4,f5,f6,f7,f8,f9,ad,ae,af,ag⟩:_=false/\_=false/\_=false/\_=false/\_=false/\_=false/\_=false/\_=false/\_=false/\_=false/\_=false/\_=false/\_=false/\_=true:=Gi hi;have d:ZF w.heap.size w (w.alloc (ZC #[ZB word,l] 73)):=(R1 _ _).alloc (Y2 _) _;have g:=Ab w (ZC #[ZB word,l] 73);have h1:=h.below d;obtain⟨lb,j⟩:∃lb,lb=w.heap.size:=⟨_,rfl⟩
 have A:=G j;rw[<-j]at g;clear j;have E:ZG (∀W,ZF (w.alloc (ZC #[ZB word,l] 73)).heap.size (w.alloc (ZC #[ZB word,l] 73)) W->DkZ w0 kb M (K+1) T o w W):=(show _ from fun W hW=>h.z Q (d.trans (hW.mono d.size)))
 generalize u:w.alloc _=w1 at d g h1 E;obtain⟨x0,x1,xf⟩:=Au g;obtain⟨k0,k1,k2,k3,Z,k5,k6,k7,k8,k9,kf⟩:=Cf h1.box;unfold Et;have Y:Cr (Ja M.C) M 13 []=(0,Nq (Ja M.C),M):=rfl;rw[Y];have s:∀b,b<w0.heap.size->b<w1.heap.size:=fun b hb=>F5 hb h1.bel.size;have f:=G (Qc (fun b=>b<w0.heap.size) M.C x.ve x.X w1 (h1.conf B) s B);have i:=G (fun S v=>Ahl P S v);obtain⟨va,vc,t⟩:=h1.ves;rw[t]at f Z;unfold Az at f;obtain⟨H,q⟩:∃H,H=Nq (Ja M.C):=⟨_,rfl⟩
 rw[<-q]at i ⊢;simp only;obtain⟨na,nn,nc,rfl⟩:=D;clear h hO Q B P hi d g h1 xf k5 k6 k7 k8 k9 kf Y q s t;go_enter func35,ntmps35;go_upto_region 1 with fail;(try rw[u])
 rw[<-A.out];clear u;go_wp2_with fail;refine f.mono ?_;rintro e w2 ⟨⟨S,rfl,v⟩,L⟩;obtain⟨q1,q2,q3⟩:=i S v;have p:=G (wU S q2 (by omega) w2);rw[q1]at p;have m:=G L;clear L v q1 q2 q3 k0 k1 k2 k3 Z i f;go_wp2_with fail;refine p.mono ?_;rintro e w3 ⟨rfl,N⟩;have y:=G (m.trans (N.mono m.size));clear N;go_wp2_with fail;go_ret;exact⟨by rw[So];rfl,E _ y.out⟩
theorem zR(h:Bx w0 kb x M R o w)(D:Bn M T)(X:Hd R K T)(hC:B4 M.C=(0,-1))(txt word:ByteArray)(hi:C8 word=U 11)(u:ZE)(A:∃a n c,u=F a n c):
  ZH ZI 35 #[ZA (U ⟨kb,0,O⟩),ZJ #[ZB word,u]] w (Et w0 kb (Cr txt M 11 []) (K+1) T o w):=by
 obtain⟨f0,f1,f2,f3,f4,f5,f6,f7,f8,f9,ay,az,a0,a1⟩:_=false/\_=false/\_=false/\_=false/\_=false/\_=false/\_=false/\_=false/\_=false/\_=false/\_=false/\_=true/\_=false/\_=false:=Gi hi;have f:ZF w.heap.size w (w.alloc (ZC #[ZB word,u] 73)):=(R1 _ _).alloc (Y2 _) _;have j:=Ab w (ZC #[ZB word,u] 73);have h1:=h.below f;obtain⟨lb,s⟩:∃lb,lb=w.heap.size:=⟨_,rfl⟩
 have v:=G s;rw[<-s]at j;clear s;have H:ZG (∀W,ZF (w.alloc (ZC #[ZB word,u] 73)).heap.size (w.alloc (ZC #[ZB word,u] 73)) W->DkZ w0 kb M (K+1) T o w W):=(show _ from fun W hW=>h.z X (f.trans (hW.mono f.size)))
 generalize m:w.alloc _=w1 at f j h1 H;obtain⟨x0,x1,xf⟩:=Au j;obtain⟨k0,k1,k2,k3,k4,k5,k6,k7,k8,k9,kf⟩:=Cf h1.box;unfold Et;obtain⟨q0,q1,q2,qf⟩:=D6 h1.rbox;obtain⟨ao,au,t⟩:=h1.rown.val;have i:=h1.rown.slOf;rw[t]at q1 i;have l:=G (Aes D);obtain⟨L,p⟩:∃L,L=M.L:=⟨_,rfl⟩
 have P:L.length<=8:=by rw[p];exact D.l8.1
 by_cases d:L= []
 ·
  have y:Cr txt M 11 []=(0,Em,M):=by
   show(0,if M.L= [] then Em else B6 (C5 (Gd M.L)),M)=_
   rw[<-p,if_pos d]
  rw[y];have hz:((M.L.length:Int)==0)=true:=by rw[<-p,d];rfl
  simp only;obtain⟨na,nn,nc,rfl⟩:=A;clear h D X hC hi f j h1 xf k0 k1 k2 k3 k4 k5 k6 k8 k9 kf y q0 q2 qf t i l p P d;go_enter func35,ntmps35;go_upto_region 1 with fail;(try rw[m])
  rw[<-v.out];clear m;go_wp2_with fail;go_ret;exact⟨by rw[So];rfl,H _ (R1 _ _)⟩
 ·obtain⟨N,Q⟩:∃N,L.length=N+1:=⟨L.length-1,by have:=List.length_pos_iff.2 d;omega⟩
  have y:Cr txt M 11 []=(0,B6 (C5 (Gd M.L)),M):=by
   show(0,if M.L= [] then Em else B6 (C5 (Gd M.L)),M)=_
   rw[<-p,if_neg d]
  rw[y];have hz:((M.L.length:Int)==0)=false:=by rw[<-p,Q,Zzg];omega
  rw[<-p]at i q1 l hz ⊢;obtain⟨rb,ro,rfl,-,Y,B⟩:=K7 i (by omega);obtain⟨c0,c1,c2,c3⟩:=B N (by omega);have g:=xJ Q;rw[g];have q:=G (fun W=>Wg L[N] (l _ (M2 _)) W);obtain⟨r,hr⟩:∃r,r=L[N]'(by omega):=⟨_,rfl⟩
  rw[<-hr]at c0 c1 c2 c3 q ⊢;have a2:(L.length:Int)-1=(N:Int):=by omega
  have a3:(N:Int)<(L.length:Int):=by omega
  obtain⟨S,hS⟩:∃S,S=B6 (C5 r):=⟨_,rfl⟩
  rw[<-hS]at q ⊢;simp only;obtain⟨na,nn,nc,rfl⟩:=A;clear h D X hC hi f j h1 xf k0 k1 k2 k3 k4 k5 k6 k8 k9 kf y q0 q2 qf t i l d B g hr hS p Y Q;go_enter func35,ntmps35;go_upto_region 1 with fail;(try rw[m])
  rw[<-v.out];clear m;go_wp2_with fail;refine(q _).mono ?_;rintro e w2 ⟨rfl,Z⟩;have E:=G Z;clear Z;go_wp2_with fail;go_ret;exact⟨by rw[So];rfl,H _ E.out⟩
theorem zQ(h:Bx w0 kb x M R o w)(hO:Bn M T)(hR:Hd R K T)(hC:B4 M.C=(0,-1))(txt word:ByteArray)(hi:C8 word=U 12)(Z:ZE)(ae:∃a n c,Z=F a n c):
  ZH ZI 35 #[ZA (U ⟨kb,0,O⟩),ZJ #[ZB word,Z]] w (Et w0 kb (Cr txt M 12 []) (K+1) T o w):=by
 obtain⟨f0,f1,f2,f3,f4,f5,f6,f7,f8,f9,bi,bj,bk,bl⟩:_=false/\_=false/\_=false/\_=false/\_=false/\_=false/\_=false/\_=false/\_=false/\_=false/\_=false/\_=false/\_=true/\_=false:=Gi hi;have g:ZF w.heap.size w (w.alloc (ZC #[ZB word,Z] 73)):=(R1 _ _).alloc (Y2 _) _;have q:=Ab w (ZC #[ZB word,Z] 73);have h1:=h.below g;obtain⟨lb,H⟩:∃lb,lb=w.heap.size:=⟨_,rfl⟩
 have ab:=G H;rw[<-H]at q;clear H;have HZ:ZG (∀W,ZF (w.alloc (ZC #[ZB word,Z] 73)).heap.size (w.alloc (ZC #[ZB word,Z] 73)) W->DkZ w0 kb M (K+1) T o w W):=(show _ from fun W X=>h.z hR (g.trans (X.mono g.size)))
 generalize y:w.alloc _=w1 at g q h1 HZ;obtain⟨x0,x1,xf⟩:=Au q;obtain⟨k0,k1,k2,k3,k4,k5,k6,k7,k8,k9,kf⟩:=Cf h1.box;unfold Et;obtain⟨q0,q1,q2,qf⟩:=D6 h1.rbox;obtain⟨ao,bg,N⟩:=h1.rown.val;have m:=h1.rown.slOf;rw[N]at q1 m;have E:=G (Aes hO);obtain⟨L,A⟩:∃L,L=M.L:=⟨_,rfl⟩
 have aq:L.length<=8:=by rw[A];exact hO.l8.1
 by_cases f:L= []
 ·
  have hd:Cr txt M 12 []=(0,Em,M):=by
   show(0,Sb M.L,M)=_
   unfold Sb;rw[<-A,if_pos f]
  rw[hd];have hz:((M.L.length:Int)==0)=true:=by rw[<-A,f];rfl
  simp only;obtain⟨na,nn,nc,rfl⟩:=ae;clear h hO hR hC hi g q h1 xf k0 k1 k2 k3 k4 k5 k6 k8 k9 kf hd q0 q2 qf N m E A aq f;go_enter func35,ntmps35;go_upto_region 1 with fail;(try rw[y])
  rw[<-ab.out];clear y;go_wp2_with fail;go_ret;exact⟨by rw[So];rfl,HZ _ (R1 _ _)⟩
 ·have hd:Cr txt M 12 []=(0,B6 (Lib.join (M.L.map C5) [44,32]),M):=by
   show(0,Sb M.L,M)=_
   unfold Sb;rw[<-A,if_neg f]
  rw[hd];have hz:((M.L.length:Int)==0)=false:=by rw[<-A,Zzg];have:=List.length_pos_iff.2 f;omega
  rw[<-A]at m q1 E hz ⊢;obtain⟨rb,ro,rfl,-,u,af⟩:=K7 m (List.length_pos_iff.2 f);have ak:ZG (∀W,ZF w1.heap.size w1 W->∀k (hk:k<L.length),W.cell? ⟨rb,ro+k*4,O⟩=U (I J L[k].seq)/\W.cell? ⟨rb,ro+k*4+1,O⟩=U (I J L[k].ent)/\W.cell? ⟨rb,ro+k*4+2,O⟩=U (I J L[k].kind)/\W.cell? ⟨rb,ro+k*4+3,O⟩=U (I J L[k].tick)):=(show _ from fun W X k hk=>by
   obtain⟨c0,c1,c2,c3⟩:=af k hk;exact⟨by rw[X.cell (p:=⟨rb,_,O⟩) u];exact c0,by rw[X.cell (p:=⟨rb,_,O⟩) u];exact c1,by rw[X.cell (p:=⟨rb,_,O⟩) u];exact c2,by rw[X.cell (p:=⟨rb,_,O⟩) u];exact c3⟩)
  have aa:ZG ((⟨#[]⟩:ByteArray).data.toList=Lib.join ((L.take 0).map C5) [44,32]):=(show(⟨#[]⟩:ByteArray).data.toList=Lib.join [] [44,32] from rfl)
  simp only;obtain⟨na,nn,nc,rfl⟩:=ae;clear h hO hR hC hi g q h1 k0 k1 k2 k3 k4 k5 k6 k8 k9 kf hd q0 q2 qf N m af A f;go_enter func35,ntmps35;go_upto_region 1 with fail;(try rw[y])
  rw[<-ab.out];clear y;go_wp2_with fail;go_loopw [6,7] (fun s6 s7 wr=>∃(i:Nat) (S:ByteArray),i<=L.length/\S.size<=300*i/\s6=ZB S/\s7=I J i/\ZG (ZF w1.heap.size w1 wr)/\ZG (S.data.toList=Lib.join ((L.take i).map C5) [44,32])) (fun _ s7 _=>L.length-(intOf s7).toNat);case atStart=>exact⟨0,⟨#[]⟩,In _,In _,rfl,rfl,G (R1 _ _),aa⟩
  case round=>
   obtain⟨i,S,hi,bm,rfl,rfl,Y,Q⟩:=hrel;clear aa x0 x1 xf k7 q1;by_cases l:i<L.length
   ·have a1:(i:Int)<(L.length:Int):=by omega
    obtain⟨c0,c1,c2,c3⟩:=ak wr Y i l;have v:=E _ (M2 l);have s:=G (fun W=>Wg L[i] v W);have ag:=Aa2 L[i] v;have j:=Acr [44,32] (C5 L[i]) ((L.take i).map C5);have P:(L.take (i+1)).map C5=(L.take i).map C5++ [C5 L[i]]:=by rw[If l,B0];rfl
    rw[<-P]at j;obtain⟨r,hr⟩:∃r,r=L[i]:=⟨_,rfl⟩
    rw[<-hr]at c0 c1 c2 c3 s ag j;obtain⟨d,hV⟩:∃d,d=B6 (C5 r):=⟨_,rfl⟩
    rw[<-hV]at s ag;have t:d.data.toList=C5 r:=by rw[hV];exact Cw _
    by_cases h0:i=0
    ·have ap:¬(0:Int)<(i:Int):=by omega
     have D:ZG ((S++d).data.toList=Lib.join ((L.take (i+1)).map C5) [44,32]/\(S++d).size<=300*(i+1)):=(show _ from by
      refine⟨?_,by rw[Zzn];omega⟩;have aw:S.data.toList= []:=by rw[Q.out,h0];rfl
      rw[Zzy,Zzq,aw,t,j,if_pos (by rw[h0];rfl)];rfl)
     clear j P hr hV t h0 v Q;go_wp2_with fail;refine(s _).mono ?_;rintro e w2 ⟨rfl,b2⟩;have B:=G (Y.trans (b2.mono Y.size));clear b2;go_wp2_with fail;go_roundw;case rel=>exact⟨i+1,S++d,l,D.2,rfl,by go_num,B,G D.1⟩
     case measure=>simp[intOf];omega
    ·have ap:(0:Int)<(i:Int):=by omega
     have bn:(⟨#[44,32]⟩:ByteArray).size=2:=rfl;have D:ZG ((S++(⟨#[44,32]⟩:ByteArray)++d).data.toList=Lib.join ((L.take (i+1)).map C5) [44,32]/\(S++(⟨#[44,32]⟩:ByteArray)++d).size<=300*(i+1)):=(show _ from by
      refine⟨?_,by rw[Zzn,Zzn];omega⟩;have hne:¬(L.take i).map C5= []:=fun e=>by
       have h2:((L.take i).map C5).length=i:=by rw[Fn,By];omega
       rw[e]at h2;exact h0 h2.symm
      rw[Zzy,Zzq,Zzy,Zzq,Q.out,t,j,if_neg hne])
     have bo:(S++(⟨#[44,32]⟩:ByteArray)).size<=300*i+2:=by rw[Zzn];omega
     clear j P hr hV t h0 v Q;go_wp2_with fail;refine(s _).mono ?_;rintro e w2 ⟨rfl,b2⟩;have B:=G (Y.trans (b2.mono Y.size));clear b2;go_wp2_with fail;go_roundw;case rel=>exact⟨i+1,S++(⟨#[44,32]⟩:ByteArray)++d,l,D.2,rfl,by go_num,B,G D.1⟩
     case measure=>simp[intOf];omega
   ·have au:i=L.length:=by omega
    subst au;rw[Zz2]at Q;have D:ZG (S=B6 (Lib.join (L.map C5) [44,32])):=G (by
     apply Zx4;apply Array.toList_inj.1;rw[Cw];exact Q.out)
    go_wp2_with fail;go_ret;rw[<-D.out];exact⟨by rw[So];rfl,HZ _ Y.out⟩
