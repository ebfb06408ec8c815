import Derived.Test.YtikehilbmldadaaGreatDoorP23
import Derived.Test.YtikehilbmldadaaGreatDoorP25
import Derived.Test.YtikehilbmldadaaGreatDoorP26
set_option maxHeartbeats 4000000
set_option maxRecDepth 100000
set_option linter.unusedVariables false
namespace Go.Proofs.YtikehilbmldadaaGreatDoor
open Proofs.Tryz YtikehilbmldadaaGreatDoor.Tryz RowKit
open Go renaming World->V,Value->ZE,RowKit.Below->ZF,Calls->ZH,Value.int->I,IntKind.i64->J,Value.slice->F,Value.pointer->ZA,Value.string->ZB,Obj.cells->ZC,Ending.returned->ZD,Proofs.Tryz.prog->ZI
open Option renaming some->U,none->O
structure DkX where
 n:Nat
 d:Nat
 rg:Nat
 tb:Nat
 lv:ZE
 ve:ZE
 vl:ZE
 X:List A2
 ls:List Nat
def Vw(C:Ar)(ve:ZE)(n d:Nat)(vr vl vt:ZE):Obj:=
 ZC #[I J C.closed,I J C.opn,I J C.cycle,I J C.delay,ve,ZA (U ⟨n,0,O⟩),ZA (U ⟨d,0,O⟩),vr,vl,vt] 136
def dkC(C:Ar)(ve:ZE)(n d rg:Nat)(vl:ZE)(tb:Nat):Obj:=Vw C ve n d (ZA (U ⟨rg,0,O⟩)) vl (ZA (U ⟨tb,0,O⟩))
theorem Le{w:V}{kb n d:Nat}{C:Ar}{ve vr vl vt:ZE}(h:w.heap[kb]? =U (Vw C ve n d vr vl vt)):
  w.cell? ⟨kb,0,O⟩=U (I J C.closed)/\w.cell? ⟨kb,1,O⟩=U (I J C.opn)/\w.cell? ⟨kb,2,O⟩=U (I J C.cycle)/\w.cell? ⟨kb,3,O⟩=U (I J C.delay)/\w.cell? ⟨kb,4,O⟩=U ve/\
  w.cell? ⟨kb,5,O⟩=U (ZA (U ⟨n,0,O⟩))/\w.cell? ⟨kb,6,O⟩=U (ZA (U ⟨d,0,O⟩))/\w.cell? ⟨kb,7,O⟩=U vr/\w.cell? ⟨kb,8,O⟩=U vl/\w.cell? ⟨kb,9,O⟩=U vt/\∀o,w.frozen? ⟨kb,o,O⟩=false:=by
 unfold Vw at h;simp[World.cell?,World.frozen?,h]
theorem Cf{w:V}{kb n d rg tb:Nat}{C:Ar}{ve vl:ZE}(h:w.heap[kb]? =U (dkC C ve n d rg vl tb)):
  w.cell? ⟨kb,0,O⟩=U (I J C.closed)/\w.cell? ⟨kb,1,O⟩=U (I J C.opn)/\w.cell? ⟨kb,2,O⟩=U (I J C.cycle)/\w.cell? ⟨kb,3,O⟩=U (I J C.delay)/\w.cell? ⟨kb,4,O⟩=U ve/\
  w.cell? ⟨kb,5,O⟩=U (ZA (U ⟨n,0,O⟩))/\w.cell? ⟨kb,6,O⟩=U (ZA (U ⟨d,0,O⟩))/\w.cell? ⟨kb,7,O⟩=U (ZA (U ⟨rg,0,O⟩))/\w.cell? ⟨kb,8,O⟩=U vl/\w.cell? ⟨kb,9,O⟩=U (ZA (U ⟨tb,0,O⟩))/\∀o,w.frozen? ⟨kb,o,O⟩=false:=Le h
def RIs(E:Ak):Option Di->Bl->Prop
 |none,r=>r.act=false
 |some a,r=>r.act=true/\tY E a r
structure Bx (w0:V) (kb:Nat) (x:DkX) (M:KpM) (R:List Bl) (o:Nat->Nat) (w:V):Prop where
 bel:ZF w0.heap.size w0 w
 low:Low o w0 w
 box:w.heap[kb]? =U (dkC M.C x.ve x.n x.d x.rg x.vl x.tb)
 dog:Dc w x.d M.D
 mem:RC w x.n M.m
 rbox:w.heap[x.rg]? =U (Im x.n x.lv M.dead)
 rown:Ax w w0.heap.size 147 4 x.lv M.L.length (M.L.flatMap Ao)
 r6:∀b,x.lv.ownBlock=U b->o b=6
 lrow:Av (fun b=>o b=9) w x.vl 1 (Ie x.ls) x.ls.length
 tot:B8 w x.tb M.C.delay M.sn M.st
 ents:F0 (fun b=>b<w0.heap.size) w x.ve x.X
 xe:M.C.ents=x.X.map A2.E
 ll:x.ls.length=x.X.length/\M.A.length=x.X.length/\R.length=x.X.length
 loc:∀(j l:Nat) (e:A2) (r:Bl),x.ls[j]? =U l->x.X[j]? =U e->R[j]? =U r->o l=10+2*j/\RIs e.E (B9 M j) r/\∃lv,RLo w0.heap.size l e.E e.p e.g e.e e.f e.l r lv w/\(r.act=true->∀b,lv.ownBlock=U b->o b=11+2*j)
 ok:o kb=1
 od:o x.d=2
 on:o x.n=3
 og:o x.rg=5
 ot:o x.tb=7
section
variable {w0:V} {kb:Nat} {x:DkX} {M:KpM} {R:List Bl} {o o':Nat->Nat} {N:Nat->Prop} {w w':V}
theorem Bx.lowb(h:Bx w0 kb x M R o w){n:Nat}{b:Nat}(hb:o b=n)(hn:n≠0):w0.heap.size<=b/\b<w.heap.size:=h.low b (by rw[hb];exact hn)
theorem Stp.rc(s:Stp o o' N w0 w w'){n k:Nat}{m:CM}(h:RC w n m)(hn:o n=k)(hk:¬N k):RC w' n m:=h.keep s.kp (by rw[hn];exact hk)
theorem Stp.ownAt(s:Stp o o' N w0 w w'){e:TypeId}{size n k:Nat}{v:ZE}{g:List ZE}(h:Ax w w0.heap.size e size v n g)(f:∀b,v.ownBlock=U b->o b=k)(i:¬N k):Ax w' w0.heap.size e size v n g/\∀b,v.ownBlock=U b->o' b=k:=
 ⟨h.keep s.kp (fun b a=>by rw[f b a];exact i),fun b a=>by rw[s.agree b (h.lt b a).2];exact f b a⟩
theorem Stp.entsL(s:Stp o o' N w0 w w')(lo:Low o w0 w)(j:¬N 0){v:ZE}{X:List A2}(h:F0 (fun b=>b<w0.heap.size) w v X):F0 (fun b=>b<w0.heap.size) w' v X:=
 h.keep s.kp (fun b f a=>by
  have i:o b=0:=by
   by_cases e:o b=0
   ·exact e
   ·have:=(lo b e).1;have g:b<w0.heap.size:=f;omega
  rw[i]at a;exact j a)
theorem Stp.rlo(s:Stp o o' N w0 w w'){j l:Nat}{e:A2}{r:Bl}{lv:ZE}(lo:Low o w0 w)(t:o l=10+2*j)(h:RLo w0.heap.size l e.E e.p e.g e.e e.f e.l r lv w)(q:r.act=true->∀b,lv.ownBlock=U b->o b=11+2*j)(n1:¬N (10+2*j))(u:¬N (11+2*j)):
  o' l=10+2*j/\RLo w0.heap.size l e.E e.p e.g e.e e.f e.l r lv w'/\(r.act=true->∀b,lv.ownBlock=U b->o' b=11+2*j):=
 ⟨s.eq lo t (by omega),h.keep s.kp (by rw[t];exact n1) (fun a b i=>by rw[q a b i];exact u),fun a b i=>by rw[s.agree b ((h.own a).lt b i).2];exact q a b i⟩
theorem Bx.stp(h:Bx w0 kb x M R o w)(s:Stp o o' N w0 w w')(H:¬N 0)(n1:¬N 1)(P:¬N 9)(p:∀n,10<=n->¬N n){g:Dd}{i:CM}{L':List Ap}{a:Bool}{f:Int}{st':St}{lv':ZE}
  (t:Dc w' x.d g) (u:RC w' x.n i) (B:w'.heap[x.rg]? =U (Im x.n lv' a)) (y:Ax w' w0.heap.size 147 4 lv' L'.length (L'.flatMap Ao)) (q:∀b,lv'.ownBlock=U b->o' b=6) (E:B8 w' x.tb M.C.delay f st'):
  Bx w0 kb ⟨x.n,x.d,x.rg,x.tb,lv',x.ve,x.vl,x.X,x.ls⟩ ⟨M.C,g,i,L',a,M.A,f,st'⟩ R o' w':=
 ⟨s.bel,s.low,s.get h.box h.ok n1,t,u,B,y,q,s.sl h.lrow P,E,s.entsL h.low H h.ents,h.xe,h.ll,fun j l e r h1 h2 h3=>by
  obtain⟨Q,S,lv,Y,Z⟩:=h.loc j l e r h1 h2 h3
  obtain⟨z1,z2,z3⟩:=s.rlo h.low Q Y Z (p _ (by omega)) (p _ (by omega))
  exact⟨z1,S,lv,z2,z3⟩,s.eq h.low h.ok (by decide),s.eq h.low h.od (by decide),s.eq h.low h.on (by decide),s.eq h.low h.og (by decide),s.eq h.low h.ot (by decide)⟩
theorem Bx.dog'(h:Bx w0 kb x M R o w){a:Dd}(k:Ac (· =x.d) w w')(f:Dc w' x.d a):Bx w0 kb x { M with D:=a} R o w'/\Fr o o w w':=by
 have s:Stp o o (fun n=>n=2) w0 w w':=Stp.same h.low h.bel (k.mono (fun b g e=>by rw[e];exact h.od)) (by decide);obtain⟨z1,z2⟩:=s.ownAt h.rown h.r6 (by decide);exact⟨h.stp s (by decide) (by decide) (by decide) (by omega) f (s.rc h.mem h.on (by decide)) (s.get h.rbox h.og (by decide)) z1 z2 (s.get h.tot h.ot (by decide)),s.fr (by decide)⟩
theorem Bx.cell'(h:Bx w0 kb x M R o w){a:CM}(k:Ac (· =x.n) w w')(f:RC w' x.n a):Bx w0 kb x { M with m:=a} R o w'/\Fr o o w w':=by
 have s:Stp o o (fun n=>n=3) w0 w w':=Stp.same h.low h.bel (k.mono (fun b g e=>by rw[e];exact h.on)) (by decide);obtain⟨z1,z2⟩:=s.ownAt h.rown h.r6 (by decide);exact⟨h.stp s (by decide) (by decide) (by decide) (by omega) (s.get h.dog h.od (by decide)) f (s.get h.rbox h.og (by decide)) z1 z2 (s.get h.tot h.ot (by decide)),s.fr (by decide)⟩
theorem Bx.tot'(h:Bx w0 kb x M R o w){a:Int}{st':St}(k:Ac (· =x.tb) w w')(f:B8 w' x.tb M.C.delay a st'):Bx w0 kb x { M with sn:=a,st:=st'} R o w'/\Fr o o w w':=by
 have s:Stp o o (fun n=>n=7) w0 w w':=Stp.same h.low h.bel (k.mono (fun b g e=>by rw[e];exact h.ot)) (by decide);obtain⟨z1,z2⟩:=s.ownAt h.rown h.r6 (by decide);exact⟨h.stp s (by decide) (by decide) (by decide) (by omega) (s.get h.dog h.od (by decide)) (s.rc h.mem h.on (by decide)) (s.get h.rbox h.og (by decide)) z1 z2 f,s.fr (by decide)⟩
theorem Bx.far{S:Nat->Prop}(h:Bx w0 kb x M R o w)(k:Ac S w w')(g:∀b,b<w.heap.size->S b->o b=0/\w0.heap.size<=b):Bx w0 kb x M R o w':=by
 have f:Ac (fun b=>o b=0/\w0.heap.size<=b) w w':=k.mono g;have s:Stp o o (fun n=>n=0) w0 w w':=⟨f.mono (fun b _ a=>a.1),fun _ _=>rfl,fun b a=>⟨(h.low b a).1,F5 (h.low b a).2 k.size⟩,
  h.bel.trans (f.below h.bel.size (fun b a=>a.2))⟩
 obtain⟨z1,z2⟩:=s.ownAt h.rown h.r6 (by decide);refine⟨s.bel,s.low,s.get h.box h.ok (by decide),s.get h.dog h.od (by decide),s.rc h.mem h.on (by decide),s.get h.rbox h.og (by decide),z1,z2,s.sl h.lrow (by decide),s.get h.tot h.ot (by decide),h.ents.keep f (fun b a p=>by have:=p.2;have i:b<w0.heap.size:=a;omega),h.xe,h.ll,fun j l e r h1 h2 h3=>?_,h.ok,h.od,h.on,h.og,h.ot⟩;obtain⟨q,t,lv,u,y⟩:=h.loc j l e r h1 h2 h3;obtain⟨A,B,E⟩:=s.rlo h.low q u y (by omega) (by omega);exact⟨A,t,lv,B,E⟩
theorem Bx.below(h:Bx w0 kb x M R o w)(b:ZF w.heap.size w w'):Bx w0 kb x M R o w':=h.far (Al b) (fun _ _ h=>h.elim)
theorem Bx.ring(h:Bx w0 kb x M R o w):Iw w0 x.rg x.n M.m M.dead M.L x.lv w:=by
 have h3:=h.on;have f:=h.og;exact⟨h.rbox,h.mem,h.rown,fun e=>by rw[e]at f;omega,fun b a=>⟨fun e=>by have:=h.r6 b a;rw[e]at this;omega,fun e=>by have:=h.r6 b a;rw[e]at this;omega⟩,(h.lowb h.og (by decide)).1,(h.lowb h.on (by decide)).1⟩
def Al5(x:DkX)(lv:ZE):DkX:=⟨x.n,x.d,x.rg,x.tb,lv,x.ve,x.vl,x.X,x.ls⟩
theorem Bx.app(h:Bx w0 kb x M R o w){i:CM}{a:Bool}{L':List Ap}{lv':ZE}(g:Iw w0 x.rg x.n i a L' lv' w')(k:V2 x.rg x.n x.lv lv' w w'):
  ∃o',Bx w0 kb (Al5 x lv') { M with m:=i,dead:=a,L:=L'} R o' w'/\Fr o o' w w'/\(∀b,o b=0->b<w.heap.size->o' b=0):=by
 have s:Stp o (ext o w.heap.size w'.heap.size 6) (fun n=>n=3\/n=5\/n=6) w0 w w':=Stp.new h.low h.bel (k.keep.mono (fun b f e=>by
  rcases e with e|e|e|e
  ·rw[e];exact .inr (.inl h.og)
  ·rw[e];exact .inl h.on
  ·exact .inr (.inr (h.r6 b e))
  ·omega)) (by decide)
 refine⟨_,h.stp s (by decide) (by decide) (by decide) (by omega) (s.get h.dog h.od (by decide)) g.mem g.box g.own (fun b f=>?_) (s.get h.tot h.ot (by decide)),s.fr (by decide),fun b f j=>by rw[s.agree b j];exact f⟩;rcases k.lv with e|e
 ·rw[e]at f;exact s.eq h.low (h.r6 b f) (by decide)
 ·have:=e b f;exact I6 this.1 this.2
theorem Bx.locset(h:Bx w0 kb x M R o w){j l:Nat}{e:A2}{r r':Bl}(h1:x.ls[j]? =U l)(h2:x.X[j]? =U e)(h3:R[j]? =U r){a:Option Di}(s:Stp o o' N w0 w w')(n0:¬N 0)(H:∀n,N n->n=10+2*j\/n=11+2*j)
  (hr:RIs e.E a r') {lv:ZE} (Z:RLo w0.heap.size l e.E e.p e.g e.e e.f e.l r' lv w') (S:r'.act=true->∀b,lv.ownBlock=U b->o' b=11+2*j):Bx w0 kb x (Fi M j a) (R.set j r') o' w':=by
 have t:∀n,n<10->¬N n:=fun n hn u=>by have:=H n u;omega
 obtain⟨z1,z2⟩:=s.ownAt h.rown h.r6 (t _ (by decide));refine⟨s.bel,s.low,s.get h.box h.ok (t _ (by decide)),s.get h.dog h.od (t _ (by decide)),s.rc h.mem h.on (t _ (by decide)),s.get h.rbox h.og (t _ (by decide)),z1,z2,s.sl h.lrow (t _ (by decide)),s.get h.tot h.ot (t _ (by decide)),s.entsL h.low n0 h.ents,h.xe,?_,fun i l' Q q g1 g2 y=>?_,
  s.eq h.low h.ok (by decide),s.eq h.low h.od (by decide),s.eq h.low h.on (by decide),s.eq h.low h.og (by decide),s.eq h.low h.ot (by decide)⟩
 ·refine⟨h.ll.1,?_,?_⟩
  ·show(M.A.set j a).length=_
   rw[Zyz];exact h.ll.2.1
  ·rw[Zyz];exact h.ll.2.2
 ·have Y:j<M.A.length:=by have:=Pv h2;have:=h.ll;omega
  rw[pX Y];by_cases B:i=j
  ·subst B;rw[h1]at g1;rw[h2]at g2;rw[List.getElem?_set_self (Pv h3)]at y;obtain rfl:=Option.some.inj g1;obtain rfl:=Option.some.inj g2;obtain rfl:=Option.some.inj y;rw[if_pos rfl];exact⟨s.eq h.low (h.loc i l e r h1 h2 h3).1 (by omega),hr,lv,Z,S⟩
  ·rw[if_neg B];rw[List.getElem?_set_ne (fun u=>B u.symm)]at y;obtain⟨q1,q2,P,q3,q4⟩:=h.loc i l' Q q g1 g2 y;obtain⟨y1,y2,y3⟩:=s.rlo h.low q1 q3 q4 (fun u=>by have:=H _ u;omega) (fun u=>by have:=H _ u;omega);exact⟨y1,q2,P,y2,y3⟩
theorem Bx.one(h:Bx w0 kb x M R o w){j l:Nat}{e:A2}{r r':Bl}(h1:x.ls[j]? =U l)(h2:x.X[j]? =U e)(h3:R[j]? =U r){a:Option Di}{S:Nat->Prop}(k:Ac S w w')(q:∀b,b<w.heap.size->S b->b=l)
  (y:RIs e.E a r') {lv:ZE} (t:RLo w0.heap.size l e.E e.p e.g e.e e.f e.l r' lv w') (i:r'.act=true->∀b,lv.ownBlock=U b->o b=11+2*j):Bx w0 kb x (Fi M j a) (R.set j r') o w'/\Fr o o w w':=by
 have s:Stp o o (fun n=>n=10+2*j) w0 w w':=Stp.same h.low h.bel (k.mono (fun b i e=>by rw[q b i e];exact(h.loc j l _ _ h1 h2 h3).1)) (by omega);exact⟨h.locset h1 h2 h3 s (by omega) (fun n u=>.inl u) y t i,s.fr (by omega)⟩
theorem Bx.note(h:Bx w0 kb x M R o w){j l:Nat}{e:A2}{r r':Bl}(h1:x.ls[j]? =U l)(h2:x.X[j]? =U e)(h3:R[j]? =U r){a:Option Di}{lv lv':ZE}(t:∀b,lv.ownBlock=U b->o b=11+2*j)(k:Ac (fun b=>b=l\/lv.ownBlock=U b) w w')
  (y:RIs e.E a r') (u:RLo w0.heap.size l e.E e.p e.g e.e e.f e.l r' lv' w') (i:lv'.ownBlock=lv.ownBlock\/Z0 w w' lv'):∃o',Bx w0 kb x (Fi M j a) (R.set j r') o' w'/\Fr o o' w w':=by
 have s:Stp o (ext o w.heap.size w'.heap.size (11+2*j)) (fun n=>n=10+2*j\/n=11+2*j) w0 w w':=Stp.new h.low h.bel (k.mono (fun b u e=>by
  rcases e with e|e
  ·rw[e];exact .inl (h.loc j l _ _ h1 h2 h3).1
  ·exact .inr (t b e))) (by omega)
 refine⟨_,h.locset h1 h2 h3 s (by omega) (fun n i=>i) y u (fun _ b q=>?_),s.fr (by omega)⟩;rcases i with e|e
 ·rw[e]at q;exact s.eq h.low (t b q) (by omega)
 ·have:=e b q;exact I6 this.1 this.2
theorem Bx.row(h:Bx w0 kb x M R o w):∃ao cap,x.vl=F ao M.A.length cap/\M.A.length<=cap/\cap<=maxLen/\
  ∀j,j<M.A.length->∃b off l e r,ao=U ⟨b,off,O⟩/\(o b=9/\b<w.heap.size)/\w.cell? ⟨b,off+j,O⟩=U (ZA (U ⟨l,0,O⟩))/\x.ls[j]? =U l/\x.X[j]? =U e/\R[j]? =U r/\Cq M j=e.E:=by
 have g:=h.ll;have t:=h.xe;obtain⟨h0,ao,cap,u,h1,h2,h3,p⟩:=h.lrow;refine⟨ao,cap,by rw[u,g.1,g.2.1],by omega,h2,fun j y=>?_⟩;have B:(Ie x.ls).length=x.ls.length:=by simp[Ie]
 obtain⟨b,off,q,a,f,s⟩:=p (by omega);have g1:x.ls[j]? =U (x.ls[j]'(by omega)):=R4 (by omega);have g2:x.X[j]? =U (x.X[j]'(by omega)):=R4 (by omega);have i:R[j]? =U (R[j]'(by omega)):=R4 (by omega);refine⟨b,off,x.ls[j]'(by omega),x.X[j]'(by omega),R[j]'(by omega),q,⟨a,f⟩,s j _ ?_,g1,g2,i,?_⟩
 ·unfold Ie;rw[Zzl,g1];rfl
 ·unfold Cq;rw[t,Of,Zzl,g2];rfl
theorem Bx.entSl(h:Bx w0 kb x M R o w){j:Nat}{e:A2}(h2:x.X[j]? =U e):Dk (fun b=>b<w.heap.size) w e.E e.p e.g e.e e.f e.l:=by
 have a:=h.ents.each e (At h2);have s:=h.bel.size;have i:∀b,b<w0.heap.size->b<w.heap.size:=fun b q=>by omega
 exact⟨a.p.mono i,a.g.mono i,a.e.mono i,a.f.mono i,a.l.mono i⟩
end
def Hd(R:List Bl)(K T:Nat):Prop:=∀r∈R,r.act=true->r.L.length<=K/\Rz r.L/\r.since<=T
theorem Hd.up{R:List Bl}{K K' T T':Nat}(h:Hd R K T)(g:K<=K')(i:T<=T'):Hd R K' T':=fun r f e=>by
 obtain⟨a,b,c⟩:=h r f e
 exact⟨by omega,b,by omega⟩
theorem Hd.set{R:List Bl}{K T j:Nat}{r:Bl}(h:Hd R K T)(f:r.act=true->r.L.length<=K/\Rz r.L/\r.since<=T):Hd (R.set j r) K T:=fun q e a=>by
 rcases List.mem_or_eq_of_mem_set e with h1|h1
 ·exact h q h1 a
 ·subst h1;exact f a
theorem Hd.at{R:List Bl}{K T j:Nat}{r:Bl}(h:Hd R K T)(hj:R[j]? =U r)(ha:r.act=true):r.L.length<=K/\Rz r.L/\r.since<=T:=h r (At hj) ha
section
variable {w0:V} {kb:Nat} {x:DkX} {M:KpM} {R:List Bl} {o:Nat->Nat} {w:V} {T K:Nat}
def Ga(w0:V)(kb:Nat)(r:Nat × KpM)(K T:Nat)(o:Nat->Nat)(w:V)(e:Ending)(w':V):Prop:=
 e=ZD (I J (r.1:Nat))/\∃x' R' o',Bx w0 kb x' r.2 R' o' w'/\Hd R' K T/\Fr o o' w w'
theorem M8(h:Bx w0 kb x M R o w):ZH ZI 102 #[ZA (U ⟨kb,0,O⟩)] w fun e w'=>e=ZD (I J (Hs M:Nat))/\w=w':=by
 obtain⟨k0,k1,p,q,s,S,Y,t,u,y,A⟩:=Cf h.box;obtain⟨left,f,a⟩:=h.mem;obtain⟨B,n1,E,H,P,Q⟩:=Hp a;obtain⟨d0,d1,d2,d3,d4,g,l⟩:=D5 h.dog;clear h a k0 k1 p q s t u y A B E H P Q d0 d1 d2 d3 d4 l;unfold Hs;cases j:M.m.off
 ·rw[j]at n1;cases i:M.D.reset
  ·rw[i]at g;go_enter func102,ntmps102;go_wp2_with fail;go_ret;exact⟨rfl,rfl⟩
  ·rw[i]at g;go_enter func102,ntmps102;go_wp2_with fail;go_ret;exact⟨rfl,rfl⟩
 ·rw[j]at n1;go_enter func102,ntmps102;go_wp2_with fail;go_ret;exact⟨rfl,rfl⟩
theorem zL(h:Bx w0 kb x M R o w):ZH ZI 68 #[ZA (U ⟨kb,0,O⟩)] w fun e w'=>e=ZD (ZB (Me M))/\w=w':=by
 have a:=G (M8 h);clear h;unfold Hs at a;unfold Me;cases g:M.m.off
 ·rw[g,if_neg (by decide)]at a;cases f:M.D.reset
  ·rw[f,if_neg (by decide)]at a;go_enter func68,ntmps68;go_wp2_with fail;refine a.mono ?_;rintro e w1 ⟨rfl,rfl⟩;go_wp2_with fail;go_ret;exact⟨rfl,rfl⟩
  ·rw[f,if_pos rfl]at a;go_enter func68,ntmps68;go_wp2_with fail;refine a.mono ?_;rintro e w1 ⟨rfl,rfl⟩;go_wp2_with fail;go_ret;exact⟨rfl,rfl⟩
 ·rw[g,if_pos rfl]at a;go_enter func68,ntmps68;go_wp2_with fail;refine a.mono ?_;rintro e w1 ⟨rfl,rfl⟩;go_wp2_with fail;go_ret;exact⟨rfl,rfl⟩
def P5:List UInt8:=[98,101,103,105,110]
def kQ:List UInt8:=[115,116,111,112]
theorem Vx(h:Bx w0 kb x M R o w)(s:ByteArray)(i p:Int)(hi:Gv M i≠0):
  ZH ZI 63 #[ZA (U ⟨kb,0,O⟩),ZB s,I J i,I J p] w fun e w'=>e=ZD (I J (Gv M i:Nat))/\w=w':=by
 obtain⟨k0,k1,y,B,E,H,P,Q,S,Y,Z⟩:=Cf h.box;obtain⟨ao,cap,g,l,t,_⟩:=h.row;rw[g]at S;have a:=G (M8 h);clear h g k0 k1 y B E H P Q Y Z;unfold Gv at hi ⊢;by_cases h0:Hs M=0
 ·rw[h0]at a;rw[h0,if_neg (by decide)]at hi ⊢;by_cases f:i<0\/(M.A.length:Int)<=i
  ·rw[if_pos f];clear hi h0;by_cases hn:i<0
   ·clear f;go_enter func63,ntmps63;go_wp2_with fail;refine a.mono ?_;rintro e w1 ⟨rfl,rfl⟩;go_wp2_with fail;go_ret;exact⟨rfl,rfl⟩
   ·have j:(M.A.length:Int)<=i:=by omega
    clear f;go_enter func63,ntmps63;go_wp2_with fail;refine a.mono ?_;rintro e w1 ⟨rfl,rfl⟩;go_wp2_with fail;go_ret;exact⟨rfl,rfl⟩
  ·rw[if_neg f]at hi;exact absurd rfl hi
 ·rw[if_pos h0];have u:0<(Hs M:Int):=by omega
  generalize Hs M=q at a u ⊢;clear hi h0;go_enter func63,ntmps63;go_wp2_with fail;refine a.mono ?_;rintro e w1 ⟨rfl,rfl⟩;go_wp2_with fail;go_ret;exact⟨rfl,rfl⟩
structure Rm (w0:V) (x:DkX) (M:KpM) (R:List Bl) (o:Nat->Nat) (w:V) (n b off cap l:Nat) (y:A2) (r:Bl) (lv:ZE):Prop where
 lt:n<M.A.length
 vl:x.vl=F (U ⟨b,off,O⟩) M.A.length cap
 cell:w.cell? ⟨b,off+n,O⟩=U (ZA (U ⟨l,0,O⟩))
 ob:o b=9/\b<w.heap.size
 h1:x.ls[n]? =U l
 h2:x.X[n]? =U y
 h3:R[n]? =U r
 ent:Cq M n=y.E
 own:o l=10+2*n
 rel:RIs y.E (B9 M n) r
 rlo:RLo w0.heap.size l y.E y.p y.g y.e y.f y.l r lv w
 blk:r.act=true->∀b,lv.ownBlock=U b->o b=11+2*n
theorem Bx.pickN(h:Bx w0 kb x M R o w){n:Nat}(a:n<M.A.length):∃b off cap l y r lv,Rm w0 x M R o w n b off cap l y r lv:=by
 obtain⟨H,cap,s,j,p,q⟩:=h.row;obtain⟨b,off,l,y,r,rfl,i,t,e,f,g,u⟩:=q n a;obtain⟨z1,z2,lv,B,E⟩:=h.loc n l y r e f g;exact⟨b,off,cap,l,y,r,lv,a,s,t,i,e,f,g,u,z1,z2,B,E⟩
theorem Bx.pick(h:Bx w0 kb x M R o w){i:Int}(hi:¬Gv M i≠0):Hs M=0/\∃n:Nat,i=n/\∃b off cap l y r lv,Rm w0 x M R o w n b off cap l y r lv:=by
 unfold Gv at hi;by_cases h0:Hs M=0
 ·rw[h0,if_neg (by decide)]at hi;by_cases a:i<0\/(M.A.length:Int)<=i
  ·rw[if_pos a]at hi;exact absurd (by decide) hi
  ·obtain⟨n,rfl⟩:=Zyn (show 0<=i by omega);exact⟨h0,n,rfl,h.pickN (by omega)⟩
 ·rw[if_pos h0]at hi;exact absurd h0 hi
theorem zO(h:Bx w0 kb x M R o w)(B:Hd R K T)(s:ByteArray)(hs:(s.toList==P5)=true)(i p:Int):
  ZH ZI 63 #[ZA (U ⟨kb,0,O⟩),ZB s,I J i,I J p] w (Ga w0 kb (Ig M i) K T o w):=by
 unfold Ga;have H:=G h;have S:=G B;by_cases hi:Gv M i≠0
 ·unfold Ig;rw[if_pos hi];refine(Vx h s i p hi).mono ?_;rintro e w1 ⟨rfl,rfl⟩;exact⟨rfl,x,R,o,h,B,Fr.refl _ _⟩
 ·obtain⟨h0,n,rfl,b,off,cap,l,y,r,lv,q⟩:=h.pick hi;unfold Ig;rw[if_neg hi,Zzc];have Q:=G (M8 h);rw[h0]at Q;obtain⟨k0,k1,Y,k3,k4,k5,k6,k7,k8,k9,kf⟩:=Cf h.box;rw[q.vl]at k8;have hc:=q.cell;have ak:(n:Int)<M.A.length:=by have:=q.lt;omega
  have u:=G q;unfold P5 at hs;cases t:B9 M n with
  |none=>
   have hrel:=q.rel;rw[t]at hrel;have j:r.act=false:=hrel;have P:=G (wG l y.E y.p y.g y.e y.f y.l r lv w q.rlo.box j);have HA:=G t;clear h B hi h0 q k0 k1 Y k3 k4 k5 k6 k7 k9 kf t hrel j;go_enter func63,ntmps63;go_wp2_with fail;refine Q.mono ?_;rintro e w1 ⟨rfl,rfl⟩;go_wp2_with fail;refine P.mono ?_;rintro e w2 ⟨rfl,r1,r2⟩;have z:=H.one u.h1 u.h2 u.h3 (a:=U (Iq (Cq M n))) r2 (fun b _ e=>e) ⟨rfl,by rw[u.ent];exact Ab9 y.E⟩ (RLo.fresh r1) (fun _ b hb=>by cases hb);have Z:=G z;clear r1 r2 z;go_wp2_with fail;go_ret;exact⟨rfl,x,_,o,Z.1,S.set (fun _=>⟨In _,fun m hm=>(by cases hm),In _⟩),Z.2⟩
  |some a=>
   have hrel:=q.rel;rw[t]at hrel;have j:r.act=true:=hrel.1;have P:=G (rS l y.E y.p y.g y.e y.f y.l r lv w q.rlo.box j);clear h B hi h0 q k0 k1 Y k3 k4 k5 k6 k7 k9 kf t hrel j;go_enter func63,ntmps63;go_wp2_with fail;refine Q.mono ?_;rintro e w1 ⟨rfl,rfl⟩;go_wp2_with fail;refine P.mono ?_;rintro e w2 ⟨rfl,rfl⟩;go_wp2_with fail;go_ret;exact⟨rfl,x,R,o,H.out,S.out,Fr.refl _ _⟩
theorem Ado(h:Bx w0 kb x M R o w)(u:Hd R K T)(s:ByteArray)(hs:(s.toList==P5)=false)(Y:(s.toList==kQ)=true)(i p:Int):
  ZH ZI 63 #[ZA (U ⟨kb,0,O⟩),ZB s,I J i,I J p] w (Ga w0 kb (Kk M i) K T o w):=by
 unfold Ga;have H:=G h;have HR:=G u;by_cases hi:Gv M i≠0
 ·unfold Kk;rw[if_pos hi];refine(Vx h s i p hi).mono ?_;rintro e w1 ⟨rfl,rfl⟩;exact⟨rfl,x,R,o,h,u,Fr.refl _ _⟩
 ·obtain⟨h0,n,rfl,b,off,cap,l,y,r,lv,q⟩:=h.pick hi;unfold Kk;rw[if_neg hi,Zzc];have Q:=G (M8 h);rw[h0]at Q;obtain⟨k0,k1,k2,k3,k4,k5,k6,k7,k8,k9,kf⟩:=Cf h.box;rw[q.vl]at k8;have hc:=q.cell;have al:(n:Int)<M.A.length:=by have:=q.lt;omega
  have t:=G q;unfold P5 at hs;unfold kQ at Y;cases B:B9 M n with
  |none=>
   have hrel:=q.rel;rw[B]at hrel;have j:r.act=false:=hrel;have P:=G (wD l y.E y.p y.g y.e y.f y.l r lv w q.rlo.box j);clear h u hi h0 q k0 k1 k2 k3 k4 k5 k6 k7 k9 kf B hrel j;go_enter func63,ntmps63;go_wp2_with fail;refine Q.mono ?_;rintro e w1 ⟨rfl,rfl⟩;go_wp2_with fail;refine P.mono ?_;rintro e w2 ⟨rfl,rfl⟩;go_wp2_with fail;go_ret;exact⟨rfl,x,R,o,H.out,HR.out,Fr.refl _ _⟩
  |some a=>
   have hrel:=q.rel;rw[B]at hrel;have j:r.act=true:=hrel.1;have P:=G (Abb l y.E y.p y.g y.e y.f y.l r lv w q.rlo.box j);clear h u hi h0 q k0 k1 k2 k3 k4 k5 k6 k7 k9 kf B hrel j;go_enter func63,ntmps63;go_wp2_with fail;refine Q.mono ?_;rintro e w1 ⟨rfl,rfl⟩;go_wp2_with fail;refine P.mono ?_;rintro e w2 ⟨rfl,r1,r2⟩;have z:=H.one t.h1 t.h2 t.h3 (a:=O) r2 (fun b _ e=>e) (rfl:(⟨false,r.since,r.L,r.run,r.exp⟩:Bl).act=false) (RLo.idle r1 rfl t.rlo.val) (fun S=>by cases S);have Z:=G z;clear r1 r2 z;go_wp2_with fail;go_ret;exact⟨rfl,x,_,o,Z.1,HR.set (fun S=>by cases S),Z.2⟩
def DkZ(w0:V)(kb:Nat)(M:KpM)(K T:Nat)(o:Nat->Nat)(w w':V):Prop:=∃x' R' o',Bx w0 kb x' M R' o' w'/\Hd R' K T/\Fr o o' w w'
theorem DkZ.below{w' w2:V}(h:DkZ w0 kb M K T o w w')(b:ZF w'.heap.size w' w2):DkZ w0 kb M K T o w w2:=by
 obtain⟨e,a,o',z1,z2,f⟩:=h;exact⟨e,a,o',z1.below b,z2,f.trans (Fr.below _ b)⟩
def rpt(M:KpM)(n:Nat)(p:Int):Nat × KpM:=match B9 M n with
 |none=>(9,M)
 |some a=>if p<0\/((Cq M n).points.length:Int)<=p then (5,M) else (0,Fi M n (U (Og (Cq M n) a p M.D.now)))
theorem zM{n b off cap l:Nat}{y:A2}{r:Bl}{lv:ZE}(h:Bx w0 kb x M R o w)(hO:Bn M T)(hR:Hd R K T)(hK:K<=200)(hc:y.E.count<y.E.points.length)(P:Rm w0 x M R o w n b off cap l y r lv)(p:Int)(W:V)(A:ZF w.heap.size w W):
  ZH ZI 105 #[ZA (U ⟨l,0,O⟩),I J p,I J M.D.now] W fun e w'=>e=ZD (I J ((rpt M n p).1:Nat))/\
   (w'.cell? ⟨kb,8,O⟩=U x.vl/\w'.cell? ⟨b,off+n,O⟩=U (ZA (U ⟨l,0,O⟩))/\w'.cell? ⟨kb,6,O⟩=U (ZA (U ⟨x.d,0,O⟩))/\w'.cell? ⟨x.d,2,O⟩=U (I J M.D.now))/\DkZ w0 kb (rpt M n p).2 (K+1) T o w w':=by
 have s:=h.below A;have hf:Fr o o w W:=Fr.below o A;obtain⟨k0,k1,k2,k3,k4,k5,k6,k7,k8,k9,kf⟩:=Cf s.box;obtain⟨d0,d1,d2,d3,d4,d5,df⟩:=D5 s.dog;have u:W.cell? ⟨b,off+n,O⟩=U (ZA (U ⟨l,0,O⟩)):=by rw[A.cell (p:=⟨b,off+n,O⟩) P.ob.2];exact P.cell
 have Y:=P.rlo.keep (Al A) (fun h=>h) (fun _ _ _ h=>h);have hrel:=P.rel;have t:=hR.up (Zxt K) (Y2 T);unfold rpt;cases ha:B9 M n with
 |none=>
  rw[ha]at hrel;refine(gB l y.E y.p y.g y.e y.f y.l r lv p M.D.now W Y.box hrel).mono ?_;rintro e w1 ⟨rfl,rfl⟩;exact⟨rfl,⟨k8,u,k6,d2⟩,x,R,o,s,t,hf⟩
 |some a=>
  rw[ha]at hrel;obtain⟨i,ae⟩:=hrel;obtain⟨pa,pc,Q⟩:=(h.entSl P.h2).p.val;have j:=Y;rw[Q]at j;by_cases H:p<0\/((Cq M n).points.length:Int)<=p
  ·simp only[H,if_true];rw[P.ent]at H;refine(rQ l y.E pa pc y.g y.e y.f y.l r lv p M.D.now W j.box i H).mono ?_;rintro e w1 ⟨rfl,rfl⟩;exact⟨rfl,⟨k8,u,k6,d2⟩,x,R,o,s,t,hf⟩
  ·simp only[H,if_false];rw[P.ent]at H;obtain⟨e1,e2,e3⟩:=hR.at P.h3 i;have hd:=hO.dog;refine(rP w0.heap.size l y.E pa pc y.g y.e y.f y.l r lv p M.D.now W j s.bel.size i (by omega) (by omega) (by omega)).mono ?_;rintro e w1 ⟨rfl,ar,r1,Z,r3⟩;rw[<-Q]at r1;obtain⟨o',z1,z2⟩:=s.note P.h1 P.h2 P.h3 (r':=rR r p M.D.now) (a:=U (Og (Cq M n) a p M.D.now)) (P.blk i) Z ⟨i,by rw[P.ent];exact xA ae hc (by omega) p M.D.now⟩ r1 r3;have B:¬(kb=l\/lv.ownBlock=U kb):=by
    rintro(e|e)
    ·have:=P.own;rw[<-e,h.ok]at this;omega
    ·have:=P.blk i kb e;rw[h.ok]at this;omega
   have ac:¬(x.d=l\/lv.ownBlock=U x.d):=by
    rintro(e|e)
    ·have:=P.own;rw[<-e,h.od]at this;omega
    ·have:=P.blk i x.d e;rw[h.od]at this;omega
   have aa:¬(b=l\/lv.ownBlock=U b):=by
    rintro(e|e)
    ·have:=P.own;rw[<-e,P.ob.1]at this;omega
    ·have:=P.blk i b e;rw[P.ob.1]at this;omega
   have hs:=A.size;refine⟨rfl,⟨?_,?_,?_,?_⟩,x,_,o',z1,t.set (fun _=>⟨?_,?_,e3⟩),hf.trans z2⟩
   ·rw[Z.cell (p:=⟨kb,8,O⟩) (Aa s.box) B];exact k8
   ·rw[Z.cell (p:=⟨b,off+n,O⟩) (F5 P.ob.2 hs) aa];exact u
   ·rw[Z.cell (p:=⟨kb,6,O⟩) (Aa s.box) B];exact k6
   ·rw[Z.cell (p:=⟨x.d,2,O⟩) (Aa s.dog) ac];exact d2
   ·show(r.L++ [(⟨p,M.D.now,r.since⟩:Bm)]).length<=K+1
    rw[R2,G3];omega
   ·intro q S;have af:q∈r.L++ [(⟨p,M.D.now,r.since⟩:Bm)]:=S;rcases List.mem_append.1 af with S|S
    ·exact e2 q S
    ·rw[List.mem_singleton.1 S];have h1:=hd.l0;have h2:=hd.ln;have h3:=hd.n1;exact⟨by show(0:Int)<=M.D.now;omega,h3⟩
theorem tJ(h:Bx w0 kb x M R o w)(Z:Bn M T)(B:Hd R K T)(hK:K<=200)(Y:∀E∈M.C.ents,E.count<E.points.length)(s:ByteArray)(hs:(s.toList==P5)=false)(P:(s.toList==kQ)=false)(i p:Int):
  ZH ZI 63 #[ZA (U ⟨kb,0,O⟩),ZB s,I J i,I J p] w (Ga w0 kb (Gm M i p) (K+1) T o w):=by
 unfold Ga;by_cases hi:Gv M i≠0
 ·unfold Gm;rw[if_pos hi];refine(Vx h s i p hi).mono ?_;rintro e w1 ⟨rfl,rfl⟩;exact⟨rfl,x,R,o,h,B.up (Zxt K) (Y2 T),Fr.refl _ _⟩
 ·obtain⟨h0,n,rfl,b,off,cap,l,y,r,lv,a⟩:=h.pick hi;have q:Gm M (n:Int) p=rpt M n p:=by
   unfold Gm rpt;rw[if_neg hi,Zzc];rfl
  rw[q];have S:=G (M8 h);rw[h0]at S;obtain⟨k0,k1,k2,k3,k4,k5,k6,k7,k8,k9,kf⟩:=Cf h.box;obtain⟨d0,d1,d2,d3,d4,d5,df⟩:=D5 h.dog;have j:y.E.count<y.E.points.length:=Y _ (by rw[h.xe];exact Zzx (At a.h2));have u:=G (fun W hW=>zM h Z B hK j a p W hW);rw[a.vl]at k8 u;have hc:=a.cell;have ai:(n:Int)<M.A.length:=by have:=a.lt;omega
  unfold P5 at hs;unfold kQ at P;obtain⟨Q,t⟩:∃Q,Q=M.D.now:=⟨_,rfl⟩
  rw[<-t]at d2 u;obtain⟨g,hg⟩:∃g,g=rpt M n p:=⟨_,rfl⟩
  rw[<-hg]at u ⊢;obtain⟨ge,gM⟩:=g;clear h Z B Y hi h0 a k0 k1 k2 k3 k4 k5 k7 k9 kf d0 d1 d3 d4 d5 df q j t hg;go_enter func63,ntmps63;go_wp2_with fail;refine S.mono ?_;rintro e w1 ⟨rfl,rfl⟩;go_wp2_with fail;go_region_held3 (fun w'=>w'.cell? ⟨kb,8,O⟩=U (F (U ⟨b,off,O⟩) M.A.length cap)/\w'.cell? ⟨b,off+n,O⟩=U (ZA (U ⟨l,0,O⟩))/\w'.cell? ⟨kb,6,O⟩=U (ZA (U ⟨x.d,0,O⟩))/\w'.cell? ⟨x.d,2,O⟩=U (I J Q))
   (first|exact⟨k8,hc,k6,d2⟩|exact H.out)
   (first|(go_at_call 105;refine(u _ ?_).mono ?_;(repeat(first|exact R1 _ _|refine H5 ?_));rintro e w1 ⟨rfl,f,z⟩;have H:=G f;have HZ:=G z;clear f z))
  all_goals
   go_wp2_with fail;go_ret;exact⟨rfl,HZ.below (by repeat(first|exact R1 _ _|refine H5 ?_))⟩
end
structure DkB (w0:V) (kb n d:Nat) (ve:ZE) (X:List A2) (C:Ar) (D:Dd) (m:CM) (o:Nat->Nat) (w:V):Prop where
 bel:ZF w0.heap.size w0 w
 low:Low o w0 w
 dog:Dc w d D
 mem:RC w n m
 ents:F0 (fun b=>b<w0.heap.size) w ve X
 xe:C.ents=X.map A2.E
 ok:o kb=1
 od:o d=2
 on:o n=3
theorem Bx.b{w0:V}{kb:Nat}{x:DkX}{M:KpM}{R:List Bl}{o:Nat->Nat}{w:V}(h:Bx w0 kb x M R o w):DkB w0 kb x.n x.d x.ve x.X M.C M.D M.m o w:=⟨h.bel,h.low,h.dog,h.mem,h.ents,h.xe,h.ok,h.od,h.on⟩
def Jz:Bl:=⟨false,0,[],0,false⟩
structure vA (w0:V) (kb n d:Nat) (ve:ZE) (X:List A2) (C:Ar) (D:Dd) (m:CM) (rg:Nat) (lv:ZE) (L:List Ap) (vt:ZE) (o0:Nat->Nat) (wa:V) (v:ZE) (k:Nat) (ls:List Nat) (o:Nat->Nat) (w:V):Prop where
 b:DkB w0 kb n d ve X C D m o w
 box:w.heap[kb]? =U (Vw C ve n d (ZA (U ⟨rg,0,O⟩)) v vt)
 rbox:w.heap[rg]? =U (Im n lv false)
 rown:Ax w w0.heap.size 147 4 lv L.length (L.flatMap Ao)
 r6:∀b,lv.ownBlock=U b->o b=6
 row:Ax w w0.heap.size 139 1 v k (Ie ls)
 vb:∀b,v.ownBlock=U b->o b=9
 ln:ls.length=k
 loc:∀(j l:Nat) (y:A2),ls[j]? =U l->X[j]? =U y->o l=10+2*j/\w.heap[l]? =U (Ef y.E y.p y.g y.e y.f y.l Jz (F O 0 0))
 org:o rg=5
 fr:Fr o0 o wa w
section
variable {w0:V} {kb n d:Nat} {ve:ZE} {X:List A2} {C:Ar} {D:Dd} {m:CM} {rg:Nat} {lv:ZE} {L:List Ap} {vr vl vt:ZE} {o0:Nat->Nat} {wa:V} {v:ZE} {k:Nat} {ls:List Nat} {o o':Nat->Nat} {N:Nat->Prop} {w w' w1 w2 w3 w4:V}
theorem DkB.keep(h:DkB w0 kb n d ve X C D m o w)(s:Stp o o' N w0 w w')(a:¬N 0)(e:¬N 2)(f:¬N 3):DkB w0 kb n d ve X C D m o' w':=
 ⟨s.bel,s.low,s.get h.dog h.od e,s.rc h.mem h.on f,s.entsL h.low a h.ents,h.xe,s.eq h.low h.ok (by decide),s.eq h.low h.od (by decide),s.eq h.low h.on (by decide)⟩
theorem Adp(h:DkB w0 kb n d ve X C D m o w)(i:w.heap[kb]? =U (Vw C ve n d vr vl vt))(a:ZF w.heap.size w w1)(P:w1.ownsRow w.heap.size 147 4 lv L.length (L.flatMap Ao)):
  ∃o',vA w0 kb n d ve X C D m w1.heap.size lv L vt o w (F O 0 0) 0 [] o' (((w1.alloc (Im n lv false)).setCell ⟨kb,7,O⟩ (ZA (U ⟨w1.heap.size,0,O⟩))).setCell ⟨kb,8,O⟩ (F O 0 0)):=by
 have Z:=Aa i;have k1:Ac (fun _=>False) w w1:=Al a;have B:=k1.get i (fun h=>h);obtain⟨w2,g⟩:∃w2,w2=w1.alloc (Im n lv false):=⟨_,rfl⟩
 have u:w2.heap[w1.heap.size]? =U (Im n lv false):=by rw[g];exact Ab _ _
 have f:ZF w1.heap.size w1 w2:=by rw[g];exact(R1 _ _).alloc (Y2 _) _
 have ab:w2.heap.size=w1.heap.size+1:=by rw[g,H7]
 have E:=Ae f B (Aa B);rw[<-g];have H:((w2.setCell ⟨kb,7,O⟩ (ZA (U ⟨w1.heap.size,0,O⟩))).setCell ⟨kb,8,O⟩ (F O 0 0)).heap[kb]? =U (Vw C ve n d (ZA (U ⟨w1.heap.size,0,O⟩)) (F O 0 0) vt):=by
  unfold Vw at E ⊢;rw[Ah _ (Ah _ E)];rfl
 obtain⟨W,t⟩:∃W,W=(w2.setCell ⟨kb,7,O⟩ (ZA (U ⟨w1.heap.size,0,O⟩))).setCell ⟨kb,8,O⟩ (F O 0 0):=⟨_,rfl⟩
 have A:Ac (· =kb) w2 W:=by rw[t];exact Fo (Af _ _ _ _) _ _
 rw[<-t]at H ⊢;have ac:w2.heap.size=W.heap.size:=by rw[t];simp[World.setCell]
 have aa:=k1.size;have Q:Ac (· =kb) w W:=((k1.mono (fun _ _ h=>h.elim)).step ((Al f).mono (fun _ _ h=>h.elim):Ac (· =kb) w1 w2) (fun b a _=>a)).step A (fun b a _=>a);have bel:=h.bel.size;have q:=P.lt;have s:Stp o (ext (ext o w.heap.size w1.heap.size 6) w1.heap.size (w1.heap.size+1) 5) (fun n=>n=1) w0 w W:=by
  refine⟨Q.mono (fun b _ e=>by rw[e];exact h.ok),fun b a=>?_,fun b a=>?_,?_⟩
  ·rw[I5 (by omega),I5 a]
  ·by_cases S:w1.heap.size<=b/\b<w1.heap.size+1
   ·omega
   ·unfold ext at a;rw[if_neg S]at a;by_cases Y:w.heap.size<=b/\b<w1.heap.size
    ·omega
    ·rw[if_neg Y]at a;have:=h.low b a;omega
  ·exact h.bel.trans ((Q.mono (fun b _ e=>by rw[e];exact(h.low kb (by rw[h.ok];decide)).1):Ac (fun b=>w0.heap.size<=b) w W).below bel (fun b a=>a))
 refine⟨_,⟨h.keep s (by decide) (by decide) (by decide),H,A.get u (by omega),?_,fun b p=>?_,⟨rfl,.inl ⟨rfl,rfl⟩⟩,(fun b a=>by cases a),rfl,(fun j l y h1 _=>by simp at h1),I6 (Y2 _) (by omega),s.fr (by decide)⟩⟩
 ·exact((Ax.of_owns (pN P bel)).later f).keep A (fun b p e=>by have:=q b p;omega)
 ·have:=q b p;rw[I5 this.2];exact I6 this.1 this.2
theorem vA.next{l:Nat}{y:A2}{v':ZE}(h:vA w0 kb n d ve X C D m rg lv L vt o0 wa v k ls o w)(a:ZF w.heap.size w w3)(hl:w3.heap[l]? =U (Ef y.E y.p y.g y.e y.f y.l Jz (F O 0 0)))(Y:w.heap.size<=l)(hy:X[k]? =U y)
  (ho:Ax w4 w0.heap.size 139 1 v' (k+1) (Ie ls++ [ZA (U ⟨l,0,O⟩)])) (hg:w3.grownBy w4 v.ownBlock) (i:v'.ownBlock=v.ownBlock\/∀b,v'.ownBlock=U b->w3.heap.size<=b):
  (∃o',vA w0 kb n d ve X C D m rg lv L vt o0 wa v' (k+1) (ls++ [l]) o' (w4.setCell ⟨kb,8,O⟩ v'))/\(∃u,w4.cell? ⟨kb,8,O⟩=U u)/\∀f,w4.frozen? ⟨kb,f,O⟩=false:=by
 have k3:Ac (fun _=>False) w w3:=Al a;have B:Ac (fun b=>U b=v.ownBlock) w3 w4:=Ac.of_grown hg;have hl3:=Aa hl;have ap:=Aa h.box;have b3:=k3.get h.box (fun h=>h);have t:¬U kb=v.ownBlock:=fun e=>by have:=h.vb kb e.symm;have:=h.b.ok;omega
 have A:=B.get b3 t;have bx:(w4.setCell ⟨kb,8,O⟩ v').heap[kb]? =U (Vw C ve n d (ZA (U ⟨rg,0,O⟩)) v' vt):=by
  unfold Vw at A ⊢;rw[Ah _ A];rfl
 have H:Ac (· =kb) w4 (w4.setCell ⟨kb,8,O⟩ v'):=Af _ _ _ _;have ab:w4.heap.size=(w4.setCell ⟨kb,8,O⟩ v').heap.size:=by simp[World.setCell]
 obtain⟨W,hW⟩:∃W,W=w4.setCell ⟨kb,8,O⟩ v':=⟨_,rfl⟩
 rw[<-hW]at bx H ab ⊢;have s3:=k3.size;have s4:=B.size;have bel:=h.b.bel.size;have kw:Ac (fun b=>o b=1\/o b=9) w W:=by
  have e4:Ac (fun b=>o b=1\/o b=9) w w4:=(k3.mono (fun _ _ h=>h.elim)).step B (fun b a _=>.inr (h.vb b a.symm));exact e4.step H (fun b a _=>by rw[a];exact .inl h.b.ok)
 have s:Stp o (ext (ext o w.heap.size w3.heap.size (10+2*k)) w3.heap.size w4.heap.size 9) (fun n=>n=1\/n=9) w0 w W:=by
  refine⟨kw,fun b a=>?_,fun b a=>?_,?_⟩
  ·rw[I5 (by omega),I5 a]
  ·unfold ext at a;by_cases e1:w3.heap.size<=b/\b<w4.heap.size
   ·omega
   ·rw[if_neg e1]at a;by_cases e2:w.heap.size<=b/\b<w3.heap.size
    ·omega
    ·rw[if_neg e2]at a;have:=h.b.low b a;omega
  ·refine h.b.bel.trans (kw.below bel (fun b a=>?_));have:o b≠0:=by omega
   exact(h.b.low b this).1
 have S:l≠kb:=by omega
 have aa:¬U l=v.ownBlock:=fun e=>by have:=(h.row.lt l e.symm).2;omega
 have hl4:=H.get (B.get hl aa) S;obtain⟨z1,z2⟩:=s.ownAt h.rown h.r6 (by decide);refine⟨⟨_,⟨h.b.keep s (by decide) (by decide) (by decide),bx,s.get h.rbox h.org (by decide),z1,z2,?_,fun b a=>?_,by rw[R2,h.ln];rfl,fun j l' y' h1 h2=>?_,s.eq h.b.low h.org (by decide),h.fr.trans (s.fr (by decide))⟩⟩,?_,?_⟩
 ·have e:Ie (ls++ [l])=Ie ls++ [ZA (U ⟨l,0,O⟩)]:=by simp[Ie]
  rw[e];refine ho.keep H (fun b a e=>?_);rcases i with i|i
  ·rw[i]at a;rw[e]at a;exact t a.symm
  ·have:=i b a;omega
 ·have Z:=(ho.lt b a).2;rcases i with i|i
  ·rw[i]at a;exact s.eq h.b.low (h.vb b a) (by decide)
  ·exact I6 (i b a) Z
 ·by_cases hj:j<ls.length
  ·rw[Zz9 hj]at h1;have q:=h.loc j l' y' h1 h2;exact⟨s.eq h.b.low q.1 (by omega),s.get q.2 q.1 (by omega)⟩
  ·rw[Zzs (by omega)]at h1;have P:j-ls.length=0:=by
    have:=(List.getElem?_eq_some_iff.1 h1).1;simpa using this
   have Q:j=k:=by have:=h.ln;omega
   rw[P]at h1;obtain rfl:=Option.some.inj (show U l=U l' from h1);subst Q;rw[hy]at h2;obtain rfl:=Option.some.inj h2;refine⟨?_,hl4⟩;rw[I5 hl3,I6 Y hl3]
 ·obtain⟨_,_,_,_,_,_,_,_,q8,_⟩:=Le A;exact⟨_,q8⟩
 ·obtain⟨_,_,_,_,_,_,_,_,_,_,qf⟩:=Le A;exact qf
theorem vA.done{tb:Nat}(h:vA w0 kb n d ve X C D m rg lv L vt o0 wa v k ls o w)(hk:k=X.length)(f:ZF w.heap.size w w1)(H:B8 w1 tb C.delay 0 .ok)(hn:w.heap.size<=tb):
  ∃o',Bx w0 kb ⟨n,d,rg,tb,lv,ve,v,X,ls⟩ ⟨C,D,m,L,false,List.replicate C.ents.length O,0,.ok⟩ (List.replicate C.ents.length Jz) o' (w1.setCell ⟨kb,9,O⟩ (ZA (U ⟨tb,0,O⟩)))/\Fr o0 o' wa (w1.setCell ⟨kb,9,O⟩ (ZA (U ⟨tb,0,O⟩))):=by
 have k1:Ac (fun _=>False) w w1:=Al f;have ab:=Aa h.box;have u:=Aa H;have B:=k1.get h.box (fun h=>h);have E:(w1.setCell ⟨kb,9,O⟩ (ZA (U ⟨tb,0,O⟩))).heap[kb]? =U (Vw C ve n d (ZA (U ⟨rg,0,O⟩)) v (ZA (U ⟨tb,0,O⟩))):=by
  unfold Vw at B ⊢;rw[Ah _ B];rfl
 have A:Ac (· =kb) w1 (w1.setCell ⟨kb,9,O⟩ (ZA (U ⟨tb,0,O⟩))):=Af _ _ _ _;have t:w1.heap.size=(w1.setCell ⟨kb,9,O⟩ (ZA (U ⟨tb,0,O⟩))).heap.size:=by simp[World.setCell]
 obtain⟨W,Y⟩:∃W,W=w1.setCell ⟨kb,9,O⟩ (ZA (U ⟨tb,0,O⟩)):=⟨_,rfl⟩
 rw[<-Y]at E A t ⊢;have s1:=k1.size;have bel:=h.b.bel.size;have P:Ac (fun b=>o b=1) w W:=(k1.mono (fun _ _ h=>h.elim)).step A (fun b f _=>by rw[f];exact h.b.ok);have s:Stp o (ext o w.heap.size w1.heap.size 7) (fun n=>n=1) w0 w W:=by
  refine⟨P,fun b f=>I5 f,fun b f=>?_,?_⟩
  ·unfold ext at f;by_cases S:w.heap.size<=b/\b<w1.heap.size
   ·omega
   ·rw[if_neg S]at f;have:=h.b.low b f;omega
  ·refine h.b.bel.trans (P.below bel (fun b f=>?_));have:o b≠0:=by omega
   exact(h.b.low b this).1
 have g:C.ents.length=X.length:=by rw[h.b.xe,Fn]
 have p:=h.ln;obtain⟨z1,z2⟩:=s.ownAt h.rown h.r6 (by decide);obtain⟨Q,z4⟩:=s.ownAt h.row h.vb (by decide);have a:=h.b.keep s (by decide) (by decide) (by decide);refine⟨_,⟨a.bel,a.low,E,a.dog,a.mem,s.get h.rbox h.org (by decide),z1,z2,?_,A.get H (fun e=>by have e2:tb=kb:=e;omega),a.ents,a.xe,⟨by show ls.length=X.length;omega,by show(List.replicate C.ents.length (O:Option Di)).length=X.length;rw[Zxy,g],by rw[Zxy,g]⟩,
  fun j l y r h1 h2 h3=>?_,a.ok,a.od,a.on,s.eq h.b.low h.org (by decide),I6 hn u⟩,h.fr.trans (s.fr (by decide))⟩
 ·have i:k=ls.length:=p.symm;rw[i]at Q;exact Q.slOf.reR (fun b f _=>z4 b f)
 ·have q:=h.loc j l y h1 h2;have hr:r=Jz:=by
   rw[Zx2]at h3;split at h3
   ·exact(Option.some.inj h3).symm
   ·cases h3
  subst hr;have Z:B9 ⟨C,D,m,L,false,List.replicate C.ents.length O,0,.ok⟩ j=O:=by
   unfold B9;rw[Of,Zx2];split<;>rfl
  rw[Z];exact⟨s.eq h.b.low q.1 (by omega),rfl,_,RLo.idle (s.get q.2 q.1 (by omega)) rfl ⟨_,_,_,rfl⟩,fun hh=>by cases hh⟩
end
theorem Vs(C:Ar)(D:Dd)(m:CM){L:List Ap}(h:L=Fg m.bs):Hb C D m=⟨C,D,m,L,false,List.replicate C.ents.length O,0,.ok⟩:=by
 rw[h];simp only[Hb]
theorem pD(n K T:Nat):Hd (List.replicate n Jz) K T:=fun r e a=>by
 rw[List.eq_of_mem_replicate e]at a
 cases a
theorem Tryz.infoPtrRL:(ZI.info? 139).map (fun i=>(i.zero,i.size,i.bytes))=U (U (ZA O),1,8):=by kernel_rfl
section
variable {w0:V} {kb n d:Nat} {ve:ZE} {X:List A2} {C:Ar} {D:Dd} {m:CM} {o:Nat->Nat} {w:V}
theorem Zh{vr vl vt:ZE}(h:DkB w0 kb n d ve X C D m o w)(q:w.heap[kb]? =U (Vw C ve n d vr vl vt))(hb:Es C=false)(hl:153<=m.bs.length):
  ZH ZI 61 #[ZA (U ⟨kb,0,O⟩)] w fun e w'=>e=ZD (.tuple #[])/\∃x' o',x'.n=n/\x'.d=d/\Bx w0 kb x' (Hb C D m) (List.replicate C.ents.length Jz) o' w'/\Fr o o' w w':=by
 obtain⟨i0,bn,br,bt,bu⟩:=info_parts infoPtrRL;obtain⟨k0,k1,t,k3,k4,k5,k6,k7,k8,k9,kf⟩:=Le q;obtain⟨ao,cap,ac⟩:=h.ents.row.val;have aj:=h.ents.row;rw[ac]at aj;obtain⟨c9,da⟩:=aj.capB;have bm:=Er hb;have dc:X.length<=8:=by have:=congrArg List.length h.xe;rw[Fn]at this;omega
 obtain⟨left,ca,aa⟩:=h.mem;have a3:=aa.len;obtain⟨n0,n1,n2,n3,n4,nf⟩:=Hp aa;obtain⟨sb,ab⟩:∃sb,sb=Aw m.bs:=⟨_,rfl⟩
 have bq:sb.size=m.bs.length:=by rw[ab,Bz]
 have a6:sb.data.toList=m.bs:=by rw[ab,Ik]
 rw[<-ab]at n0;have bo:=Aa q;have bp:=Aa aa.box;have Y:=G (fun W=>Yb sb (by omega) (by omega) W);rw[a6]at Y;obtain⟨L0,Z⟩:∃L,L=Fg m.bs:=⟨_,rfl⟩
 rw[<-Z]at Y;have ay:Hid (∀w1,ZF w.heap.size w w1->∀lv,w1.ownsRow w.heap.size 147 4 lv L0.length (L0.flatMap Ao)->∃o',vA w0 kb n d ve X C D m w1.heap.size lv L0 vt o w (F O 0 0) 0 [] o' (((w1.setCell ⟨kb,7,O⟩ (ZA (U ⟨w1.heap.size,0,O⟩))).setCell ⟨kb,8,O⟩ (F O 0 0)).alloc (Im n lv false))):=(show _ from fun w1 b1 lv ho=>by
  have hs:=b1.size;have h2:=Adp h q b1 ho;rw[Zxp _ _ _ _ (by omega),Zxp _ _ _ _ (by simp[World.setCell];omega)]at h2;exact h2)
 have ah:Hid (∀W,ZF w.heap.size w W->(W.cell? ⟨kb,5,O⟩=U (ZA (U ⟨n,0,O⟩))/\W.cell? ⟨n,0,O⟩=U (ZB sb)/\W.cell? ⟨kb,7,O⟩=U vr/\W.cell? ⟨kb,8,O⟩=U vl)/\(∀f,W.frozen? ⟨kb,f,O⟩=false)/\kb<W.heap.size):=(show _ from fun W hW=>by
  obtain⟨_,_,_,_,_,z5,_,z7,z8,_,zf⟩:=Le (Ae hW q bo);exact⟨⟨z5,by rw[hW.cell (p:=⟨n,0,O⟩) bp];exact n0,z7,z8⟩,zf,by have:=hW.size;omega⟩)
 rw[Vs C D m Z];have ct:=G Z;clear h q hb hl bm aj k0 k1 t k3 k4 k6 k9 n1 n2 n3 n4 nf aa a3 ab bq a6 Z;go_enter func61,ntmps61;go_wp2_with fail;go_cut [] (fun wx=>Hid (∃w1 lv,ZF w.heap.size w w1/\w1.ownsRow w.heap.size 147 4 lv L0.length (L0.flatMap Ao)/\wx=(w1.setCell ⟨kb,7,O⟩ (ZA (U ⟨w1.heap.size,0,O⟩))).alloc (Im n lv false)));case first=>
  go_region_law (first|(go_simp;go_at_call 101;refine(Y _).mono ?_;rintro e w1 ⟨ra,rc,rfl,ho,b1⟩;have B:ZF w.heap.size w w1:=(by refine Zyh ?_ b1;(repeat(first|exact R1 _ _|refine H5 ?_)));obtain⟨⟨c5,c0,c7,c8⟩,cf,ck⟩:=ah w1 B));all_goals
   go_wp2_with fail;go_meet;exact⟨w1,_,B,ho,rfl⟩
 case rest=>
 obtain⟨w1,lv,B,ho,rfl⟩:=hcut.out;obtain⟨⟨c5,c0,c7,c8⟩,cf,ck⟩:=ah w1 B;obtain⟨o1,st1⟩:=ay w1 B lv ho;have A:=G st1;clear st1 ho B ah ay Y k5 k7 k8 kf n0 c5 c0 hcut;unfold Im at A;unfold Im;go_upto_region 3 with fail;generalize w1.heap.size=rg at A ⊢;generalize World.alloc _ _=w2 at A ⊢;obtain⟨k0,k1,t,k3,k4,k5,k6,k7,k8,k9,kf⟩:=Le A.box;rw[ac]at k4;clear k0 k1 t k3 k5 k6 k7 k8 k9 kf;go_loopw [2] (fun s wr=>∃(i:Nat) (a1:Option Addr) (k1:Nat) (ls:List Nat) (o1:Nat->Nat),i<=X.length/\s=I J i/\Hid (vA w0 kb n d ve X C D m rg lv L0 vt o w (F a1 i k1) i ls o1 wr)) (fun s _=>X.length-(intOf s).toNat);case atStart=>exact⟨0,O,0,[],o1,In _,rfl,A⟩
 case round=>
  obtain⟨i,a1,j1,ls,o2,hi,rfl,a⟩:=hrel;clear A k4;obtain⟨v0,v1,v2,v3,k4,v5,v6,v7,k8,v9,kf⟩:=Le a.box;rw[ac]at k4;by_cases al:i<X.length
  ·have cd:(i:Int)<X.length:=by omega
   have P:=a.b.ents.row;rw[ac]at P;obtain⟨b,off,rfl,c4,c6,hc⟩:=Ks P (by omega);obtain⟨q0,q1,q2,q3,q4,q5,q6,q7,q8,q9⟩:=hc i al;obtain⟨y,hy⟩:∃y,y=X[i]:=⟨_,rfl⟩
   rw[<-hy]at q0 q1 q2 q3 q4 q5 q6 q7 q8 q9;have a8:X[i]? =U y:=by rw[R4 al,hy]
   have H:=a.b.ents.each y (by rw[hy];exact M2 al);obtain⟨pa,pc,aq⟩:=H.p.val;obtain⟨ga,gc,an⟩:=H.g.val;obtain⟨ea,ec,Q⟩:=H.e.val;obtain⟨fa,fc,am⟩:=H.f.val;obtain⟨la,lc,ap⟩:=H.l.val;rw[aq]at q2;rw[an]at q6;rw[Q]at q7;rw[am]at q8;rw[ap]at q9;have ag:kb<wr.heap.size:=Aa a.box;have HA:Hid (∀(l:Nat) (W W4:V) (S:Option Addr) (t:Nat),ZF wr.heap.size wr W->W.heap[l]? =U (Ef y.E y.p y.g y.e y.f y.l Jz (F O 0 0))->wr.heap.size<=l->Ax W4 w0.heap.size 139 1 (F S (i+1) t) (i+1) (Ie ls++ [ZA (U ⟨l,0,O⟩)])->W.grownBy W4 (Value.slice a1 i j1).ownBlock->
     ((Value.slice S (i+1) t).ownBlock=(Value.slice a1 i j1).ownBlock\/∀b,(Value.slice S (i+1) t).ownBlock=U b->W.heap.size<=b)->
     (∃o',Hid (vA w0 kb n d ve X C D m rg lv L0 vt o w (F S (i+1) t) (i+1) (ls++ [l]) o' (W4.setCell ⟨kb,8,O⟩ (F S (i+1) t))))/\(∃u,W4.cell? ⟨kb,8,O⟩=U u)/\∀f,W4.frozen? ⟨kb,f,O⟩=false):=(show _ from by
    intro l W W4 S t h1 h2 h3 h4 h5 h6;exact a.next h1 h2 h3 a8 h4 h5 h6)
   have ax:Hid (∀W,ZF wr.heap.size wr W->Ax W w0.heap.size 139 1 (F a1 i j1) i (Ie ls)/\w0.heap.size<=W.heap.size):=(show _ from fun W hW=>⟨a.row.later hW,by have:=hW.size;have:=a.b.bel.size;omega⟩)
   have aw:Hid (∀W:V,wr.heap.size<=W.heap.size->(W.alloc (ZC #[ZB y.E.name,I J y.E.tol,F pa y.E.points.length pc,I J y.E.count,I J y.E.mn,I J y.E.mx,F ga y.E.gaps.length gc,F ea y.E.edges.length ec,F fa y.E.first.length fc,F la y.E.last.length lc,.bool false,I J 0,F O 0 0,I J 0,.bool false] 203)).heap[W.heap.size]? =U (Ef y.E y.p y.g y.e y.f y.l Jz (F O 0 0))/\wr.heap.size<=W.heap.size):=(show _ from by
    intro W hW;refine⟨?_,hW⟩;rw[aq,an,Q,am,ap];exact Ab W _)
   obtain⟨xe,a7⟩:∃xe,xe=y.E:=⟨_,rfl⟩
   rw[<-a7]at q0 q1 q2 q3 q4 q5 q6 q7 q8 q9 aw HA;clear v0 v1 v2 v3 v5 v6 v7 v9 P hc hy H aq an Q am ap a8 a a7;have a0:¬kb=wr.heap.size:=by omega
   have bi:Hid (∀x:Obj,∀j u,([ZA (U ⟨wr.heap.size,0,O⟩)]:List ZE)[j]? =U u->((wr.alloc x).alloc (ZC #[ZA (U ⟨wr.heap.size,0,O⟩)] 139)).cell? ((⟨wr.heap.size+1,0,O⟩:Addr).add j)=U u):=(show _ from by
    intro x j u hu;have h:=A1 (wr.alloc x) [ZA (U ⟨wr.heap.size,0,O⟩)] 139 j u hu;rw[H7]at h;exact h)
   have bh:=G (fun(W W4:V) S t h1 h2 h4 h5 h6=>HA wr.heap.size W W4 S t h1 h2 (Y2 _) h4 h5 h6);go_upto_region 5 with fail;go_region_law (refine Dh rfl (.tmp 37) (.tmp 48) 133 rfl w0.heap.size 139 i0 _ 1 8 underlying133 bn br bt bu rfl (by decide) (.slice a1 i j1) i (Ie ls) rfl ?_ ⟨wr.heap.size+1,0,O⟩ 1 1 [ZA (U ⟨wr.heap.size,0,O⟩)] rfl rfl ?_ (by intro u hu;simp at hu;subst hu;rfl) (by unfold maxLen;omega) (by omega) ?_ ?_;exact(ax _ (by repeat(first|exact R1 _ _|refine H5 ?_|refine Zzv ?_ (by simp) _))).1;exact bi _;exact(ax _ (by repeat(first|exact R1 _ _|refine H5 ?_|refine Zzv ?_ (by simp) _))).2;intro S t w6 a5 az a4;obtain⟨⟨o3,F1⟩,⟨u8,d8⟩,df⟩:=(fun h1 h2=>bh _ w6 _ _ h1 h2 a5 az a4) (by repeat(first|exact R1 _ _|refine H5 ?_|refine Zzv ?_ (by simp) _)) (Bp _ (aw _ (Y2 _)).1);clear a5 az a4);all_goals
    go_wp2_with fail;go_roundw;case rel=>exact⟨i+1,S,t,ls++ [wr.heap.size],o3,by omega,by go_num,F1⟩
    case measure=>simp[intOf];omega
  ·have ak:i=X.length:=by omega
   have cs:=G ak;have ag:kb<wr.heap.size:=Aa a.box;have a0:¬kb=wr.heap.size:=by omega
   have bg:Hid (∃o',Bx w0 kb ⟨n,d,rg,wr.heap.size,lv,ve,F a1 i j1,X,ls⟩ ⟨C,D,m,L0,false,List.replicate C.ents.length O,0,.ok⟩ (List.replicate C.ents.length Jz) o' ((wr.setCell ⟨kb,9,O⟩ (ZA (U ⟨wr.heap.size,0,O⟩))).alloc (ZC #[I J C.delay,I J 0,ZB ⟨#[111,107]⟩] 141))/\Fr o o' w ((wr.setCell ⟨kb,9,O⟩ (ZA (U ⟨wr.heap.size,0,O⟩))).alloc (ZC #[I J C.delay,I J 0,ZB ⟨#[111,107]⟩] 141))):=(show _ from by
    have h2:=a.done ak ((R1 _ _).alloc (Y2 _) (ZC #[I J C.delay,I J 0,ZB ⟨#[111,107]⟩] 141)) (tb:=wr.heap.size) (Ab _ _) (Y2 _);rw[Zxp _ _ _ _ ag]at h2;exact h2)
   clear ak v0 v1 v2 v5 v6 v7 k8 a;go_wp2_with fail;go_end0;obtain⟨o',z1,z2⟩:=bg.out;exact⟨rfl,_,o',rfl,rfl,z1,z2⟩
