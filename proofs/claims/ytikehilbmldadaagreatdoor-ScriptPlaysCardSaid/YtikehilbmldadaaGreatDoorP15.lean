import Derived.Test.YtikehilbmldadaaGreatDoorP14
import Derived.Test.YtikehilbmldadaaGreatDoorP05
set_option maxHeartbeats 2000000
set_option maxRecDepth 100000
set_option linter.unusedVariables false
namespace Go.Proofs.YtikehilbmldadaaGreatDoor
open Proofs.Tryz YtikehilbmldadaaGreatDoor.Tryz RowKit
open Go renaming World->V,Value->ZE,Calls->ZH,Value.int->I,IntKind.i64->J,Value.pointer->ZA,Value.string->ZB,Obj.cells->ZC,Ending.returned->ZD,Value.bool->ZK,Proofs.Tryz.prog->ZI
open Option renaming some->U,none->O
theorem Dk.below{B:Nat}{R:Nat->Prop}{w w':V}{E:Ak}{i e ve d vl:ZE}(h:Dk R w E i e ve d vl)(n:Below B w w')(l:∀b,R b->b<B):Dk R w' E i e ve d vl:=
 h.keep (Ac.of_below n) (fun b j=>by have:=l b j;omega)
theorem Lv{B:Nat}{R:Nat->Prop}{w w':V}(hR:∀b,R b->b<w.heap.size)(h:Below B w w'):∀b,R b->b<w'.heap.size:=fun b hb=>F5 (hR b hb) h.size
def Fz(E:Ak)(at' p:Int):Bool:=
 if E.edges= [] then true else if p<0\/(E.points.length:Int)<=p then false else if at'= -1 then decide (p∈E.first) else decide ((at',p)∈E.edges)
def Ds(E:Ak)(p:Int):Int:=if p<0\/(E.points.length:Int)<=p\/p∈E.last then -1 else p
theorem Um(E:Ak)(p:Int)(h:p<0):Ds E p= -1:=by simp[Ds,h]
theorem Si(E:Ak)(p:Int)(h:(E.points.length:Int)<=p):Ds E p= -1:=by simp[Ds,h]
theorem Sh(E:Ak)(p:Int)(h:p∈E.last):Ds E p= -1:=by simp[Ds,h]
theorem Wq(E:Ak)(p:Int)(h1:¬p<0)(h2:¬(E.points.length:Int)<=p)(h:p∉E.last):Ds E p=p:=by simp[Ds,h,h1,h2]
theorem Uo(E:Ak)(a p:Int)(h:E.edges= []):Fz E a p=true:=by simp[Fz,h]
theorem Q6(E:Ak)(a p:Int)(h:E.edges≠ [])(h2:p<0\/(E.points.length:Int)<=p):Fz E a p=false:=by simp[Fz,h,h2]
theorem Sj(E:Ak)(p:Int)(h:E.edges≠ [])(h2:¬(p<0\/(E.points.length:Int)<=p)):Fz E (-1) p=decide (p∈E.first):=by simp[Fz,h,h2]
theorem Up(E:Ak)(a p:Int)(h:E.edges≠ [])(h2:¬(p<0\/(E.points.length:Int)<=p))(h3:a≠ -1):Fz E a p=decide ((a,p)∈E.edges):=by simp[Fz,h,h2,h3]
theorem Z8{P:Program}{t k e ty:TypeId}(n:P.underlying t=U (.map k e)){b:Nat}{K:List (Int × Int)}{w:V}(j:Jx w b K):
  (Builtin.len_ #[t] ty #[.map (U b)]).run P w=.ok (I J K.length) w:=by
 obtain⟨es,d,j,l⟩:=j;have i:es.size=K.length:=by have:=congrArg List.length l;simpa using this
 rw[<-i];exact run_len_map (P:=P) (w:=w) t ty b es d (by simp[Program.mapKeyOf,Program.mapElemOf,n]) j
theorem Un(lo hi:Nat)(E:Ak)(es:List (Int × Int))(w:V)(f:Nat)(i:Int)(j:Bool)(p:Int)(h:Ex lo hi E es w f i j):
  ZH ZI 161 #[ZA (U ⟨f,0,O⟩),I J p] w fun e w'=>e=ZD (I J (Ds E p))/\Below w.heap.size w w':=by
 obtain⟨⟨Z,C,k1,D,P,K,l,v,y,A,n,H,L,M⟩,N,q,u⟩:=h;obtain⟨Q,R,S,T,X,Y,B⟩:=Ro l;have o:=G n;clear l v y A n B;go_enter func161,ntmps161;by_cases h1:p<0
 ·have d:=G (Um E p h1);go_wp2_with fail;go_ret;exact⟨A6 d.symm,R1 _ _⟩
 by_cases h2:(E.points.length:Int)<=p
 ·have d:=G (Si E p h2);go_wp2_with fail;go_ret;exact⟨A6 d.symm,R1 _ _⟩
 go_wp2_with fail;refine(Lg _ E.last _ p _ o.out).mono ?_;rintro e w' ⟨rfl,rfl⟩;by_cases h3:p∈E.last
 ·have d:=G (Sh E p h3);rw[On h3];go_wp2_with fail;go_ret;exact⟨A6 d.symm,R1 _ _⟩
 ·have d:=G (Wq E p (by omega) (by omega) h3);rw[N1 h3];go_wp2_with fail;go_ret;exact⟨A6 d.symm,R1 _ _⟩
theorem yL(lo hi:Nat)(E:Ak)(w:V)(f:Nat)(L:Int)(u:Bool)(d p:Int)(h:Ex lo hi E E.edges w f L u):
  ZH ZI 160 #[ZA (U ⟨f,0,O⟩),I J d,I J p] w fun e w'=>e=ZD (ZK (Fz E d p))/\Below w.heap.size w w':=by
 obtain⟨⟨Y,a1,k1,a2,k2,K,A,v,n,B,Q,f6,f7,f8⟩,f9,M,N⟩:=h;obtain⟨m0,m1,m2,m3,m4,m5,Z⟩:=Ro A;have X:=fun C=>Z8 (P:=ZI) (ty:=C) pairMap.um v;have l:=pairMap.lookup w Y K (d,p) v;unfold Hw at l;simp only at l;have i:K= []↔E.edges= []:=by
  constructor<;>intro h<;>apply List.eq_nil_iff_forall_not_mem.2<;>intro q o
  ·rw[<-n,h]at o;cases o
  ·rw[n,h]at o;cases o
 have h3:decide ((d,p)∈K)=decide ((d,p)∈E.edges):=decide_eq_decide.2 (n (d,p));have D:=G h3;have H:=G B;clear A v n B Q Z h3;go_enter func160,ntmps160;by_cases h0:E.edges= []
 ·have j:=G (Uo E d p h0);have R:=i.2 h0;subst R;clear i;go_wp2_with fail;go_ret;exact⟨Am j.symm,R1 _ _⟩
 have S:0<K.length:=by
  cases K with
  |nil=>exact absurd (i.1 rfl) h0
  |cons x K=>simp
 by_cases h1:p<0
 ·have j:=G (Q6 E d p h0 (.inl h1));clear h0 i;go_wp2_with fail;go_ret;exact⟨Am j.symm,R1 _ _⟩
 by_cases h2:(E.points.length:Int)<=p
 ·have j:=G (Q6 E d p h0 (.inr h2));clear h0 i;go_wp2_with fail;go_ret;exact⟨Am j.symm,R1 _ _⟩
 by_cases y:d= -1
 ·subst y;have j:=G (Sj E p h0 (by omega));clear h0 i;go_wp2_with fail;refine(Lg _ E.first _ p _ H.out).mono ?_;rintro e w' ⟨rfl,rfl⟩;go_wp2_with fail;go_ret;exact⟨Am j.symm,R1 _ _⟩
 ·have j:=G (Up E d p h0 (by omega) y);have T:(d== -1)=false:=by simp[y]
  clear h0 i;go_wp2_with fail;go_ret;exact⟨Am (D.trans j.symm),R1 _ _⟩
theorem Ex.setBad{lo hi:Nat}{E:Ak}{es:List (Int × Int)}{w:V}{f:Nat}{d:Int}{i:Bool}(b:Bool)(h:Ex lo hi E es w f d i):Ex lo hi E es (w.setCell ⟨f,5,O⟩ (ZK b)) f d b:=by
 obtain⟨⟨M,p,k1,q,L,K,u,v,y,A,B,C,D,o⟩,H,j,l⟩:=h;have e:=Af w f 5 (ZK b);exact⟨⟨M,p,k1,q,L,K,by rw[Ah _ u];simp,v.keep e o,y,A.keep e (fun b n=>n.2.2.1),B.keep e (fun b n=>n.2.2.1),C,D,o⟩,H,j,No l e.size⟩
theorem Ex.setAt{lo hi:Nat}{E:Ak}{es:List (Int × Int)}{w:V}{f:Nat}{i:Int}{d:Bool}(a:Int)(h:Ex lo hi E es w f i d):Ex lo hi E es (w.setCell ⟨f,4,O⟩ (I J a)) f a d:=by
 obtain⟨⟨M,p,k1,q,L,K,u,v,y,A,B,C,D,o⟩,H,j,l⟩:=h;have e:=Af w f 4 (I J a);exact⟨⟨M,p,k1,q,L,K,by rw[Ah _ u];simp,v.keep e o,y,A.keep e (fun b n=>n.2.2.1),B.keep e (fun b n=>n.2.2.1),C,D,o⟩,H,j,No l e.size⟩
theorem Kr{lo hi:Nat}{E:Ak}{es:List (Int × Int)}{w:V}{f:Nat}{d:Int}{e:Bool}(h:Ex lo hi E es w f d e):
  w.cell? ⟨f,4,O⟩=U (I J d)/\w.cell? ⟨f,5,O⟩=U (ZK e)/\∀o,w.frozen? ⟨f,o,O⟩=false:=by
 obtain⟨⟨C,p,k1,q,u,K,i,_⟩,_⟩:=h;obtain⟨v,y,A,B,j,l,n⟩:=Ro i;exact⟨j,l,n⟩
theorem Y5(lo hi:Nat)(E:Ak)(w:V)(f:Nat)(d:Int)(n:Bool)(p:Int)(h:Ex lo hi E E.edges w f d n):
  ZH ZI 94 #[ZA (U ⟨f,0,O⟩),I J p] w fun e w'=>e=ZD (.tuple #[])/\Ex lo hi E E.edges w' f (Ds E p) (n|| !Fz E d p)/\Ac (· =f) w w':=by
 obtain⟨D,K,L⟩:=Kr h;have H:=G h;clear h;go_enter func94,ntmps94;cases n
 ·go_wp2_with fail;refine(yL lo hi E w f d false d p H.out).mono ?_;rintro e w1 ⟨rfl,B⟩;have h1:=H.keep (Al B) (fun _ _ _ h=>h);obtain⟨N,P,Q⟩:=Kr h1;have h2:=h1.setBad (!Fz E d p);have q:Ac (· =f) w (w1.setCell ⟨f,5,O⟩ (ZK (!Fz E d p))):=((Al B).mono (fun _ _ h=>h.elim)).trans (Af w1 f 5 _);have i:=G h2;have j:=G q;clear h1 h2 q D K L B H;generalize C:Fz E d p=m at i j ⊢;have M:=G C;clear C;go_wp2_with fail;generalize World.setCell _ _ _=w2 at i j ⊢;refine(Un lo hi E E.edges w2 f d _ p i.out).mono ?_;rintro e v ⟨rfl,l⟩;have h3:=i.keep (Al l) (fun _ _ _ h=>h);obtain⟨R,S,rf⟩:=Kr h3;have o:=h3.setAt (Ds E p);have u:Ac (· =f) w (v.setCell ⟨f,4,O⟩ (I J (Ds E p))):=(j.trans ((Al l).mono (fun _ _ h=>h.elim))).trans (Af v f 4 _);have y:=G o;have A:=G u;clear h3 o u N P Q i j l;go_wp2_with fail;go_end0;exact⟨rfl,by rw[Bool.false_or,M.out];exact y.out,A.out⟩
 ·have h2:=H.setBad true;have q:=Af w f 5 (ZK true);have i:=G h2;have j:=G q;clear h2 q;go_wp2_with fail;generalize World.setCell _ _ _=w2 at i j ⊢;refine(Un lo hi E E.edges w2 f d _ p i.out).mono ?_;rintro e v ⟨rfl,l⟩;have h3:=i.keep (Al l) (fun _ _ _ h=>h);obtain⟨R,S,rf⟩:=Kr h3;have o:=h3.setAt (Ds E p);have u:Ac (· =f) w (v.setCell ⟨f,4,O⟩ (I J (Ds E p))):=(j.trans ((Al l).mono (fun _ _ h=>h.elim))).trans (Af v f 4 _);have y:=G o;have A:=G u;clear h3 o u D K L i j l;go_wp2_with fail;go_end0;exact⟨rfl,y.out,A.out⟩
theorem yM(lo hi:Nat)(E:Ak)(w:V)(f:Nat)(d:Int)(i:Bool)(h:Ex lo hi E E.edges w f d i):
  ZH ZI 238 #[ZA (U ⟨f,0,O⟩)] w fun e w'=>e=ZD (ZK (!i))/\Ex lo hi E E.edges w' f d false/\Ac (· =f) w w':=by
 obtain⟨j,l,n⟩:=Kr h;have H:=G (h.setBad false);have K:=G (Af w f 5 (ZK false));clear h;go_enter func238,ntmps238;go_wp2_with fail;go_ret;exact⟨rfl,H.out,K.out⟩
structure Di where
 whole:Bool
 exp:Bool
 run:Int
 cnt:Int
 gs:List Iy
 gbad:Bool
 pos:Int
 fbad:Bool
def Iq(E:Ak):Di:=⟨false,false,0,0,E.gaps.map gs0,false,-1,false⟩
def Mw(E:Ak):Int:=P7 E.count E.points.length
def Og(E:Ak)(m:Di)(p t:Int):Di:=
 ⟨m.whole,m.exp,m.run,I9 (Mw E) m.cnt p,m.gs.map (It · p t),m.gbad||m.gs.any (Jn · p t),Ds E p,m.fbad|| !Fz E m.pos p⟩
def Eb(E:Ak)(m:Di):Int:=
 if Ih (Mw E) E.mn E.mx m.cnt m.whole=false then 1 else if m.gbad=true then 2 else if m.fbad=true then 3 else 0
def Acb(m:Di):Di:=⟨true,m.exp,m.run,0,m.gs,false,m.pos,false⟩
def Je(E:Ak)(m:Di):Int:=if Eb E m=0 then 0 else m.run+1
def Kj(E:Ak)(m:Di):Bool:=decide (E.tol<Je E m)&& !m.exp
def Du(E:Ak)(m:Di):Di:=⟨true,m.exp||decide (E.tol<Je E m),Je E m,0,m.gs,false,m.pos,false⟩
structure Amo (m:Di):Prop where
 g:Aap m.gs
 n:m.gs.length<=100
 c0:0<=m.cnt
 c1:m.cnt<=1000
theorem Uy(p c q:Int)(h0:0<=c)(h1:c<=1000):0<=I9 p c q/\I9 p c q<=1000:=by unfold I9;split<;>omega
theorem xD(E:Ak)(h:E.gaps.length<=100):Amo (Iq E):=by
 refine⟨?_,by simpa [Iq] using h,by simp[Iq],by simp[Iq]⟩;intro x d;simp only[Iq,List.mem_map]at d;obtain⟨g,_,rfl⟩:=d;simp[gs0]
structure Anu (s t wb a g:Nat) (ro:Option Nat) (lo hi:Nat):Prop where
 pw:s<=wb/\wb<t
 pa:s<=a/\a<t
 pg:s<=g/\g<t
 pr:∀b,ro=U b->s<=b/\b<t
 pf:s<=lo/\hi<=t
 wa:wb≠a
 wg:wb≠g
 wr:ro≠U wb
 wf:¬(lo<=wb/\wb<hi)
 ag:a≠g
 ar:ro≠U a
 af:¬(lo<=a/\a<hi)
 gf:¬(lo<=g/\g<hi)
 rf:∀b,ro=U b->¬(lo<=b/\b<hi)
def Ij(a g f:Nat)(wh ex:Bool)(run:Int):Obj:=ZC #[ZA (U ⟨a,0,O⟩),ZA (U ⟨g,0,O⟩),ZA (U ⟨f,0,O⟩),ZK wh,ZK ex,I J run] 186
structure Dq (s t wb a g f:Nat) (ro:Option Nat) (base lo hi:Nat) (E:Ak) (m:Di) (w:V):Prop where
 ap:Anu s t wb a g ro lo hi
 box:w.heap[wb]? =U (Ij a g f m.whole m.exp m.run)
 al:w.heap[a]? =U (Iu (Mw E) E.mn E.mx m.cnt)
 ga:Hm base ro w g m.gs m.gbad
 fl:Ex lo hi E E.edges w f m.pos m.fbad
 ok:Amo m
 top:t<=w.heap.size
theorem Dq.keep{S:Nat->Prop}{s t wb a g f:Nat}{ro:Option Nat}{base lo hi:Nat}{E:Ak}{m:Di}{w w':V}(h:Dq s t wb a g f ro base lo hi E m w)(e:Ac S w w')(d:∀b,s<=b->b<t->¬S b):
  Dq s t wb a g f ro base lo hi E m w':=
 ⟨h.ap,e.get h.box (d _ h.ap.pw.1 h.ap.pw.2),e.get h.al (d _ h.ap.pa.1 h.ap.pa.2),
  h.ga.keep e (fun b i=>by rcases i with rfl|i;exact d _ h.ap.pg.1 h.ap.pg.2;exact d _ (h.ap.pr b i).1 (h.ap.pr b i).2),
  h.fl.keep e (fun b h1 h2=>d b (No h.ap.pf.1 h1) (F5 h2 h.ap.pf.2)),h.ok,No h.top e.size⟩
def Lw(p:Option Addr)(E:Ak)(vp vg ve vf vl:ZE):Obj:=
 ZC #[ZA p,ZB E.name,I J E.tol,vp,I J E.count,I J E.mn,I J E.mx,vg,ve,vf,vl] 178
theorem D8{w:V}{l:Nat}{p:Option Addr}{E:Ak}{i e ve d vl:ZE}(h:w.heap[l]? =U (Lw p E i e ve d vl)):
  w.cell? ⟨l,0,O⟩=U (ZA p)/\w.cell? ⟨l,1,O⟩=U (ZB E.name)/\w.cell? ⟨l,2,O⟩=U (I J E.tol)/\w.cell? ⟨l,3,O⟩=U i/\w.cell? ⟨l,4,O⟩=U (I J E.count)/\
  w.cell? ⟨l,5,O⟩=U (I J E.mn)/\w.cell? ⟨l,6,O⟩=U (I J E.mx)/\w.cell? ⟨l,7,O⟩=U e/\w.cell? ⟨l,8,O⟩=U ve/\w.cell? ⟨l,9,O⟩=U d/\w.cell? ⟨l,10,O⟩=U vl/\∀o,w.frozen? ⟨l,o,O⟩=false:=by
 unfold Lw at h;simp[World.cell?,World.frozen?,h]
theorem G0{w:V}{b a g f:Nat}{wh ex:Bool}{run:Int}(h:w.heap[b]? =U (Ij a g f wh ex run)):
  w.cell? ⟨b,0,O⟩=U (ZA (U ⟨a,0,O⟩))/\w.cell? ⟨b,1,O⟩=U (ZA (U ⟨g,0,O⟩))/\w.cell? ⟨b,2,O⟩=U (ZA (U ⟨f,0,O⟩))/\
  w.cell? ⟨b,3,O⟩=U (ZK wh)/\w.cell? ⟨b,4,O⟩=U (ZK ex)/\w.cell? ⟨b,5,O⟩=U (I J run)/\∀o,w.frozen? ⟨b,o,O⟩=false:=by
 unfold Ij at h;simp[World.cell?,World.frozen?,h]
section
variable {s t wb a g f:Nat} {ro:Option Nat} {base lo hi:Nat} {E:Ak} {m:Di} {w w':V}
theorem Dq.alive(h:Dq s t wb a g f ro base lo hi E m w)(k:Ac (· =a) w w'){c:Int}(d:w'.heap[a]? =U (Iu (Mw E) E.mn E.mx c))(h0:0<=c)(h1:c<=1000):
  Dq s t wb a g f ro base lo hi E ⟨m.whole,m.exp,m.run,c,m.gs,m.gbad,m.pos,m.fbad⟩ w':=
 ⟨h.ap,k.get h.box h.ap.wa,d,h.ga.keep k (fun b i e=>by subst e;rcases i with e|e;exact h.ap.ag e;exact h.ap.ar e),h.fl.keep k (fun b h1 h2 e=>by subst e;exact h.ap.af ⟨h1,h2⟩),⟨h.ok.g,h.ok.n,h0,h1⟩,No h.top k.size⟩
theorem Dq.gaps(h:Dq s t wb a g f ro base lo hi E m w)(k:Ac (fun b=>b=g\/ro=U b) w w'){L:List Iy}{d:Bool}(i:Hm base ro w' g L d)(h0:Aap L)(h1:L.length<=100):
  Dq s t wb a g f ro base lo hi E ⟨m.whole,m.exp,m.run,m.cnt,L,d,m.pos,m.fbad⟩ w':=
 ⟨h.ap,k.get h.box (fun e=>by rcases e with e|e;exact h.ap.wg e;exact h.ap.wr e),k.get h.al (fun e=>by rcases e with e|e;exact h.ap.ag e;exact h.ap.ar e),i,
  h.fl.keep k (fun b h1 h2 e=>by rcases e with e|e;subst e;exact h.ap.gf ⟨h1,h2⟩;exact h.ap.rf b e ⟨h1,h2⟩),⟨h0,h1,h.ok.c0,h.ok.c1⟩,No h.top k.size⟩
theorem Dq.flow(h:Dq s t wb a g f ro base lo hi E m w)(k:Ac (· =f) w w'){p:Int}{d:Bool}(j:Ex lo hi E E.edges w' f p d):
  Dq s t wb a g f ro base lo hi E ⟨m.whole,m.exp,m.run,m.cnt,m.gs,m.gbad,p,d⟩ w':=
 ⟨h.ap,k.get h.box (fun e=>h.ap.wf (e▸⟨h.fl.flo,h.fl.fhi⟩)),k.get h.al (fun e=>h.ap.af (e▸⟨h.fl.flo,h.fl.fhi⟩)),
  h.ga.keep k (fun b i e=>by subst e;rcases i with e|e;exact h.ap.gf (e▸⟨h.fl.flo,h.fl.fhi⟩);exact h.ap.rf _ e ⟨h.fl.flo,h.fl.fhi⟩),j,⟨h.ok.g,h.ok.n,h.ok.c0,h.ok.c1⟩,No h.top k.size⟩
theorem Dq.box'(h:Dq s t wb a g f ro base lo hi E m w)(k:Ac (· =wb) w w'){wh ex:Bool}{run:Int}(d:w'.heap[wb]? =U (Ij a g f wh ex run)):
  Dq s t wb a g f ro base lo hi E ⟨wh,ex,run,m.cnt,m.gs,m.gbad,m.pos,m.fbad⟩ w':=
 ⟨h.ap,d,k.get h.al (fun e=>h.ap.wa e.symm),h.ga.keep k (fun b i e=>by subst e;rcases i with e|e;exact h.ap.wg e;exact h.ap.wr e),
  h.fl.keep k (fun b h1 h2 e=>by subst e;exact h.ap.wf ⟨h1,h2⟩),⟨h.ok.g,h.ok.n,h.ok.c0,h.ok.c1⟩,No h.top k.size⟩
theorem Dq.own_a(h:Dq s t wb a g f ro base lo hi E m w)(k:Ac (· =a) w w'):Ac (fun b=>s<=b/\b<t) w w':=k.mono (fun b _ e=>by subst e;exact h.ap.pa)
theorem Dq.own_g(h:Dq s t wb a g f ro base lo hi E m w)(k:Ac (fun b=>b=g\/ro=U b) w w'):Ac (fun b=>s<=b/\b<t) w w':=k.mono (fun b _ e=>by rcases e with e|e;subst e;exact h.ap.pg;exact h.ap.pr b e)
theorem Dq.own_f(h:Dq s t wb a g f ro base lo hi E m w)(k:Ac (· =f) w w'):Ac (fun b=>s<=b/\b<t) w w':=k.mono (fun b _ e=>by subst e;exact⟨No h.ap.pf.1 h.fl.flo,F5 h.fl.fhi h.ap.pf.2⟩)
theorem Dq.own_w(h:Dq s t wb a g f ro base lo hi E m w)(k:Ac (· =wb) w w'):Ac (fun b=>s<=b/\b<t) w w':=k.mono (fun b _ e=>by subst e;exact h.ap.pw)
end
structure G5 (l s t:Nat) (E:Ak) (vp vg ve vf vl:ZE) (m:Di) (w:V):Prop where
 ex:∃wb a g f ro base lo hi,w.heap[l]? =U (Lw (U ⟨wb,0,O⟩) E vp vg ve vf vl)/\Dq s t wb a g f ro base lo hi E m w
 out:¬(s<=l/\l<t)
theorem G5.keep{S:Nat->Prop}{l s t:Nat}{E:Ak}{j i ve e vl:ZE}{m:Di}{w w':V}(h:G5 l s t E j i ve e vl m w)(d:Ac S w w')(o:¬S l)(n:∀b,s<=b->b<t->¬S b):G5 l s t E j i ve e vl m w':=by
 obtain⟨⟨wb,a,g,f,ro,base,lo,hi,h1,h2⟩,p⟩:=h;exact⟨⟨wb,a,g,f,ro,base,lo,hi,d.get h1 o,h2.keep d n⟩,p⟩
theorem sF(E:Ak)(j i ve d vl:ZE)(w:V):
  ZH ZI 116 #[.agg (As E j i ve d vl)] w fun e w'=>e=ZD (ZA (U ⟨w.heap.size+1,0,O⟩))/\w'.heap[w.heap.size+1]? =U (Lw O E j i ve d vl)/\Below w.heap.size w w':=by
 unfold As;have n1:=Ab (w.alloc (ZC #[ZB E.name,I J E.tol,j,I J E.count,I J E.mn,I J E.mx,i,ve,d,vl] 50)) (Lw O E j i ve d vl);rw[H7]at n1;have l:Below w.heap.size w ((w.alloc (ZC #[ZB E.name,I J E.tol,j,I J E.count,I J E.mn,I J E.mx,i,ve,d,vl] 50)).alloc (Lw O E j i ve d vl)):=
  ((R1 _ _).alloc (Y2 _) _).alloc (by simp) _
 have o:=G n1;have n:=G l;clear n1 l;go_enter func116,ntmps116;go_wp2_with fail;go_ret;exact⟨rfl,o.out,n.out⟩
theorem Od(l:Nat)(E:Ak)(j i ve d vl:ZE)(w:V)(h:w.heap[l]? =U (Lw O E j i ve d vl)):
  ZH ZI 153 #[ZA (U ⟨l,0,O⟩)] w fun e w'=>e=ZD (ZB ⟨#[105,100,108,101]⟩)/\w=w':=by
 obtain⟨c0,_⟩:=D8 h;clear h;go_enter func153,ntmps153;go_wp2_with fail;go_ret;exact⟨rfl,rfl⟩
def Oe(m:Di):ByteArray:=if m.exp=true then ⟨#[101,120,112,105,114,101,100]⟩ else if 0<m.run then ⟨#[102,97,105,108,101,100]⟩ else ⟨#[111,107]⟩
theorem Qd(l s t:Nat)(E:Ak)(o n ve j vl:ZE)(m:Di)(w:V)(h:G5 l s t E o n ve j vl m w):
  ZH ZI 153 #[ZA (U ⟨l,0,O⟩)] w fun e w'=>e=ZD (ZB (Oe m))/\w=w':=by
 obtain⟨⟨wb,a,g,f,ro,base,lo,hi,h1,h2⟩,B⟩:=h;obtain⟨c0,_⟩:=D8 h1;obtain⟨p,q,u,v,d,y,A⟩:=G0 h2.box;clear h1 h2;unfold Oe;cases i:m.exp
 ·rw[i]at d;by_cases C:0<m.run
  ·go_enter func153,ntmps153;go_wp2_with fail;go_ret;exact⟨by simp,rfl⟩
  ·go_enter func153,ntmps153;go_wp2_with fail;go_ret;exact⟨by simp,rfl⟩
 ·rw[i]at d;go_enter func153,ntmps153;go_wp2_with fail;go_ret;exact⟨by simp,rfl⟩
theorem gO(l s t:Nat)(E:Ak)(j i ve d vl:ZE)(m:Di)(w:V)(h:G5 l s t E j i ve d vl m w):
  ZH ZI 50 #[ZA (U ⟨l,0,O⟩)] w fun e w'=>e=ZD .nilIface/\w'.heap[l]? =U (Lw O E j i ve d vl)/\Ac (· =l) w w':=by
 obtain⟨⟨wb,a,g,f,ro,base,lo,hi,h1,h2⟩,K⟩:=h;obtain⟨c0,c1,q,u,v,y,A,B,C,D,p,H⟩:=D8 h1;have n1:(w.setCell ⟨l,0,O⟩ (ZA O)).heap[l]? =U (Lw O E j i ve d vl):=by
  unfold Lw at h1;rw[Ah _ h1];rfl
 have k1:=Af w l 0 (ZA O);have o:=G n1;have n:=G k1;clear h1 h2 n1 k1;go_enter func50,ntmps50;go_wp2_with fail;go_ret;exact⟨rfl,o.out,n.out⟩
theorem Yn(l s t:Nat)(E:Ak)(pa:Option Addr)(pc:Nat)(vg ve vf vl:ZE)(m:Di)(p tick:Int)(w:V)(h:G5 l s t E (.slice pa E.points.length pc) vg ve vf vl m w)
  (a4:0<=p) (a5:p<E.points.length) (K:0<=tick) (L:tick<=1099511627776):
  ZH ZI 51 #[ZA (U ⟨l,0,O⟩),I J p,I J tick] w fun e w'=>e=ZD .nilIface/\G5 l s t E (.slice pa E.points.length pc) vg ve vf vl (Og E m p tick) w'/\Ac (fun b=>s<=b/\b<t) w w':=by
 obtain⟨⟨wb,a,g,f,ro,base,lo,hi,h1,h2⟩,Z⟩:=h;obtain⟨c0,c1,c2,c3,c4,c5,c6,c7,c8,c9,H,cf⟩:=D8 h1;obtain⟨b0,b1,b2,b3,b4,b5,bf⟩:=G0 h2.box;have P:=G h1;have j:=G h2;have y:=G Z;clear h1 h2 Z c1 c2 c4 c5 c6 c7 c8 c9 H cf b3 b4 b5 bf;go_enter func51,ntmps51;go_wp2_with fail;refine(Xi a _ _ _ _ _ _ j.al j.ok.c0 j.ok.c1).mono ?_;rintro e w1 ⟨rfl,X,k1⟩;have o:=j.alive k1 X (Uy _ _ _ j.ok.c0 j.ok.c1).1 (Uy _ _ _ j.ok.c0 j.ok.c1).2;have o1:=j.own_a k1;have M:=o1.get P y.out;obtain⟨D,_⟩:=D8 M;obtain⟨x0,x1,x2,_⟩:=G0 o.box;have Q:=G M;have S:=G o1;have d:=G o;clear X k1 o o1 M b0 b1 b2 c0 c3 P j;go_wp2_with fail;refine(Y3 base ro g _ _ p tick w1 d.ga K L d.ok.g d.ok.n).mono ?_;rintro e w2 ⟨rfl,g2,A,q2,n2⟩;have q:=d.gaps A g2 q2 n2;have o2:=S.trans (d.own_g A);have N:=(d.own_g A).get Q y.out;obtain⟨u,_⟩:=D8 N;obtain⟨y0,y1,y2,_⟩:=G0 q.box;have R:=G N;have T:=G o2;have i:=G q;clear g2 A q2 n2 q o2 N x0 x1 x2 D d S Q;go_wp2_with fail;refine(Y5 lo hi E w2 f _ _ p i.fl).mono ?_;rintro e w3 ⟨rfl,Y,B⟩;have v:=i.flow B Y;have o3:=T.trans (i.own_f B);have l3:=(i.own_f B).get R y.out;have L3:=G l3;have O3:=G o3;have C:=G v;clear Y B v o3 l3 y0 y1 y2 u i T R;go_wp2_with fail;go_ret;exact⟨rfl,⟨⟨wb,a,g,f,ro,base,lo,hi,L3.out,C.out⟩,y.out⟩,O3.out⟩
theorem W3(l s t:Nat)(E:Ak)(pa:Option Addr)(H:Nat)(L ve K vl u:ZE)(m:Di)(p tick:Int)(w:V)(h:G5 l s t E (.slice pa E.points.length H) L ve K vl m w)
  (i:p<0\/(E.points.length:Int)<=p) (N:w.cell? ⟨4,0,O⟩=U u):
  ZH ZI 51 #[ZA (U ⟨l,0,O⟩),I J p,I J tick] w fun e w'=>e=ZD u/\w=w':=by
 obtain⟨⟨wb,a,g,f,ro,base,lo,hi,h1,h2⟩,C⟩:=h;obtain⟨c0,c1,j,M,n,o,q,v,y,A,d,B⟩:=D8 h1;clear h1 h2 C c1 j n o q v y A d B;by_cases h0:p<0
 ·clear i;go_enter func51,ntmps51;go_wp2_with fail;go_ret;exact⟨rfl,rfl⟩
 ·have D:(E.points.length:Int)<=p:=by omega
  clear i;go_enter func51,ntmps51;go_wp2_with fail;go_ret;exact⟨rfl,rfl⟩
structure KAt (s t wb a g f:Nat) (ro:Option Nat) (base lo hi:Nat) (E:Ak) (m:Di) (w0 w:V):Prop where
 h:Dq s t wb a g f ro base lo hi E m w
 k:Ac (fun b=>s<=b/\b<t) w0 w
theorem KAt.drew{s t wb a g f:Nat}{ro:Option Nat}{base lo hi:Nat}{E:Ak}{m:Di}{w0 w:V}(h:KAt s t wb a g f ro base lo hi E m w0 w):KAt s t wb a g f ro base lo hi E m w0 w.drew:=
 ⟨h.h.keep (S:=fun _=>False) (Ac.refl _ _).drew (fun _ _ _ h=>h),h.k.drew⟩
theorem KAt.cells{s t wb a g f:Nat}{ro:Option Nat}{base lo hi:Nat}{E:Ak}{m d:Di}{w0 w:V}(h:KAt s t wb a g f ro base lo hi E m w0 w)(h0:w0.heap[wb]? =U (Ij a g f d.whole d.exp d.run))(e:m.whole=d.whole/\m.exp=d.exp/\m.run=d.run):
  ∀o,w.cell? ⟨wb,o,O⟩=w0.cell? ⟨wb,o,O⟩:=by
 intro o;have h1:=h.h.box;rw[e.1,e.2.1,e.2.2,<-h0]at h1;exact Zy7 (a:=⟨wb,o,O⟩) h1
theorem gP(s t wb a g f:Nat)(ro:Option Nat)(base lo hi:Nat)(E:Ak)(m:Di)(w:V)(h:Dq s t wb a g f ro base lo hi E m w):
  ZH ZI 197 #[ZA (U ⟨wb,0,O⟩)] w fun e w'=>e=ZD (I J (Eb E m))/\Dq s t wb a g f ro base lo hi E (Acb m) w'/\Ac (fun b=>s<=b/\b<t) w w':=by
 have q:Hid (∀W,KAt s t wb a g f ro base lo hi E m w W->ZH ZI 236 #[ZA (U ⟨a,0,O⟩),ZK m.whole] W fun e w'=>e=ZD (ZK (Ih (Mw E) E.mn E.mx m.cnt m.whole))/\
   KAt s t wb a g f ro base lo hi E ⟨m.whole,m.exp,m.run,0,m.gs,m.gbad,m.pos,m.fbad⟩ w w'):=by
  intro W d;refine(tU a _ _ _ _ _ W d.h.al).mono ?_;rintro e w1 ⟨rfl,p,k1⟩;exact⟨rfl,d.h.alive k1 p (by decide) (by decide),d.k.trans (d.h.own_a k1)⟩
 have H:Hid (∀W,KAt s t wb a g f ro base lo hi E ⟨m.whole,m.exp,m.run,0,m.gs,m.gbad,m.pos,m.fbad⟩ w W->ZH ZI 237 #[ZA (U ⟨g,0,O⟩)] W fun e w'=>e=ZD (ZK (!m.gbad))/\
   KAt s t wb a g f ro base lo hi E ⟨m.whole,m.exp,m.run,0,m.gs,false,m.pos,m.fbad⟩ w w'):=by
  intro W d;refine(yG base ro g _ _ W d.h.ga).mono ?_;rintro e w1 ⟨rfl,p,k1⟩;exact⟨rfl,d.h.gaps k1 p d.h.ok.g d.h.ok.n,d.k.trans (d.h.own_g k1)⟩
 have D:Hid (∀W,KAt s t wb a g f ro base lo hi E ⟨m.whole,m.exp,m.run,0,m.gs,false,m.pos,m.fbad⟩ w W->ZH ZI 238 #[ZA (U ⟨f,0,O⟩)] W fun e w'=>e=ZD (ZK (!m.fbad))/\
   KAt s t wb a g f ro base lo hi E ⟨m.whole,m.exp,m.run,0,m.gs,false,m.pos,false⟩ w w'):=by
  intro W d;refine(yM lo hi E W f _ _ d.h.fl).mono ?_;rintro e w1 ⟨rfl,p,k1⟩;exact⟨rfl,d.h.flow k1 p,d.k.trans (d.h.own_f k1)⟩
 have k0:KAt s t wb a g f ro base lo hi E m w w:=⟨h,Ac.refl _ _⟩
 have C:=G k0;have i:=G h.box;obtain⟨P,Q,R,S,T,X,Y⟩:=G0 h.box;clear k0 h T X Y;go_enter func197,ntmps197;go_upto_region 1 with fail;go_cut [3,4,5] (fun Z s4 s5 wx=>Z=ZK (Ih (Mw E) E.mn E.mx m.cnt m.whole)/\s4=ZK (!m.gbad)/\s5=ZK (!m.fbad)/\KAt s t wb a g f ro base lo hi E ⟨m.whole,m.exp,m.run,0,m.gs,false,m.pos,false⟩ w wx);case first=>
  go_region_held3 (fun w'=>∀o,w'.cell? ⟨wb,o,O⟩=w.cell? ⟨wb,o,O⟩)
   (first|exact fun _=>rfl|exact M.cells i ⟨rfl,rfl,rfl⟩|exact N.cells i ⟨rfl,rfl,rfl⟩|exact L.cells i ⟨rfl,rfl,rfl⟩)
   (first|(go_at_call_of 236 (Value.pointer (U ⟨a,0,O⟩));refine(q _ ?_).mono ?_;(repeat(first|exact C.out|refine KAt.drew ?_));rintro e w1 ⟨rfl,L⟩)|(go_at_call_of 237 (Value.pointer (U ⟨g,0,O⟩));refine(H _ ?_).mono ?_;(repeat(first|exact L|refine KAt.drew ?_));rintro e w2 ⟨rfl,N⟩)|(go_at_call_of 238 (Value.pointer (U ⟨f,0,O⟩));refine(D _ ?_).mono ?_;(repeat(first|exact N|refine KAt.drew ?_));rintro e w3 ⟨rfl,M⟩))
  all_goals(go_wp2_with fail;go_meet)
  all_goals exact⟨rfl,rfl,rfl,by repeat(first|exact M|refine KAt.drew ?_)⟩
 case rest=>
 obtain⟨rfl,rfl,rfl,l⟩:=hcut;obtain⟨x0,x1,x2,x3,x4,x5,xf⟩:=G0 l.h.box;have n1:(wc.setCell ⟨wb,3,O⟩ (ZK true)).heap[wb]? =U (Ij a g f true m.exp m.run):=by
  have h1:=l.h.box;unfold Ij at h1 ⊢;rw[Ah _ h1];rfl
 have k1:=Af wc wb 3 (ZK true);have u:=G (l.h.box' k1 n1);have v:=G (l.k.trans (l.h.own_w k1));have y:Hid (∀A,Ih (Mw E) E.mn E.mx m.cnt m.whole=A->Eb E m=if A=false then 1 else if m.gbad=true then 2 else if m.fbad=true then 3 else 0):=fun A q=>by unfold Eb;rw[q]
 generalize q:Ih (Mw E) E.mn E.mx m.cnt m.whole=A at y ⊢;have j:=G (y A rfl);clear y l n1 k1 P Q R S C i q D H;cases A
 ·go_wp2_with fail;go_ret;exact⟨A6 (by rw[j.out];rfl),u.out,v.out⟩
 ·cases B:m.gbad
  ·cases K:m.fbad
   ·rw[B,K]at j;go_wp2_with fail;go_ret;exact⟨A6 (by rw[j.out];rfl),u.out,v.out⟩
   ·rw[B,K]at j;go_wp2_with fail;go_ret;exact⟨A6 (by rw[j.out];rfl),u.out,v.out⟩
  ·rw[B]at j;go_wp2_with fail;go_ret;exact⟨A6 (by rw[j.out];rfl),u.out,v.out⟩
