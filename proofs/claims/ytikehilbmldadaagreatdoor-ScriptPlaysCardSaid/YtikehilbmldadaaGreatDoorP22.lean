import Derived.Test.YtikehilbmldadaaGreatDoorP21
import Derived.Test.YtikehilbmldadaaGreatDoorP29
set_option maxHeartbeats 4000000
set_option maxRecDepth 100000
set_option linter.unusedVariables false
namespace Go.Proofs.YtikehilbmldadaaGreatDoor
open Proofs.Tryz YtikehilbmldadaaGreatDoor.Tryz RowKit
open Go renaming World->V,Value->ZE,RowKit.Below->ZF,Calls->ZH,Value.int->I,IntKind.i64->J,Value.slice->F,Value.pointer->ZA,Value.string->ZB,Obj.cells->ZC,Ending.returned->ZD,Proofs.Tryz.prog->ZI
open Option renaming some->U,none->O
structure KpX where
 d:Nat
 rb:Nat
 cap:Nat
 rg:Nat
 tb:Nat
 lv:ZE
 ve:ZE
 vl:ZE
 X:List A2
 ls:List Nat
structure Stp (o o':Nat->Nat) (N:Nat->Prop) (w0 w w':V):Prop where
 kp:Ac (fun b=>N (o b)) w w'
 agree:∀b,b<w.heap.size->o' b=o b
 low:∀b,o' b≠0->w0.heap.size<=b/\b<w'.heap.size
 bel:ZF w0.heap.size w0 w'
def Low(o:Nat->Nat)(w0 w:V):Prop:=∀b,o b≠0->w0.heap.size<=b/\b<w.heap.size
def ext(o:Nat->Nat)(a b n:Nat):Nat->Nat:=fun x=>if a<=x/\x<b then n else o x
theorem I5{o:Nat->Nat}{a b n x:Nat}(h:x<a):ext o a b n x=o x:=if_neg (by omega)
theorem I6{o:Nat->Nat}{a b n x:Nat}(h:a<=x)(h2:x<b):ext o a b n x=n:=if_pos ⟨h,h2⟩
theorem Stp.same{o:Nat->Nat}{N:Nat->Prop}{w0 w w':V}(lo:Low o w0 w)(bl:ZF w0.heap.size w0 w)(k:Ac (fun b=>N (o b)) w w')(d:¬N 0):Stp o o N w0 w w':=
 ⟨k,fun _ _=>rfl,fun b a=>⟨(lo b a).1,F5 (lo b a).2 k.size⟩,bl.trans (k.below bl.size (fun b a=>by
  have:o b≠0:=fun e=>by rw[e]at a;exact d a
  exact(lo b this).1))⟩
theorem Stp.new{o:Nat->Nat}{N:Nat->Prop}{w0 w w':V}{n:Nat}(lo:Low o w0 w)(bl:ZF w0.heap.size w0 w)(k:Ac (fun b=>N (o b)) w w')(d:¬N 0):Stp o (ext o w.heap.size w'.heap.size n) N w0 w w':=by
 have f:=bl.size;have e:=k.size;refine⟨k,fun b a=>I5 a,fun b a=>?_,(Stp.same lo bl k d).bel⟩;by_cases h:w.heap.size<=b/\b<w'.heap.size
 ·omega
 ·unfold ext at a;rw[if_neg h]at a;have:=lo b a;omega
section
variable {o o':Nat->Nat} {N:Nat->Prop} {w0 w w':V}
theorem Stp.get(s:Stp o o' N w0 w w'){b n:Nat}{x:Obj}(hb:w.heap[b]? =U x)(hn:o b=n)(h:¬N n):w'.heap[b]? =U x:=s.kp.get hb (by rw[hn];exact h)
theorem Stp.eq(s:Stp o o' N w0 w w')(lo:Low o w0 w){b n:Nat}(h:o b=n)(hn:n≠0):o' b=n:=by rw[s.agree b (lo b (by rw[h];exact hn)).2,h]
theorem Stp.sl(s:Stp o o' N w0 w w'){n:Nat}{v:ZE}{g k:Nat}{e:List ZE}(d:Av (fun b=>o b=n) w v g e k)(q:¬N n):Av (fun b=>o' b=n) w' v g e k:=by
 obtain⟨d,i,cap,A,h1,h2,h3,j⟩:=d;refine⟨d,i,cap,A,h1,h2,h3,fun t=>?_⟩;obtain⟨b,off,l,f,a,p⟩:=j t;exact⟨b,off,l,by show o' b=n;rw[s.agree b a];exact f,F5 a s.kp.size,fun k u y=>by rw[s.kp.cell a (by simp only[f];exact q)];exact p k u y⟩
theorem Stp.ents(s:Stp o o' N w0 w w'){n:Nat}{v:ZE}{X:List A2}(h:F0 (fun b=>o b=n) w v X)(a:¬N n):F0 (fun b=>o' b=n) w' v X:=
 ⟨s.sl h.row a,fun x d=>⟨s.sl (h.each x d).p a,s.sl (h.each x d).g a,s.sl (h.each x d).e a,s.sl (h.each x d).f a,s.sl (h.each x d).l a⟩⟩
theorem Stp.cells(s:Stp o o' N w0 w w'){c rb:Nat}{ao:Option Addr}{cap:Nat}{m:CM}(h:A7 w c rb ao cap m)(h3:o c=3)(d:o rb=4)(f:¬N 3)(g:¬N 4):A7 w' c rb ao cap m:=
 h.keep s.kp (fun b a=>⟨fun e=>by subst e;rw[h3]at a;exact f a,fun e=>by subst e;rw[d]at a;exact g a⟩)
end
def Sq(l s t:Nat)(x:A2)(w:V):Option Di->Prop
 |none=>w.heap[l]? =U (Lw O x.E x.p x.g x.e x.f x.l)
 |some m=>G5 l s t x.E x.p x.g x.e x.f x.l m w
theorem G5.le{l s t:Nat}{E:Ak}{j i ve e vl:ZE}{m:Di}{w:V}(h:G5 l s t E j i ve e vl m w):t<=w.heap.size:=by
 obtain⟨⟨q,a,g,f,p,d,lo,hi,h1,h2⟩,n⟩:=h;exact h2.top
theorem Stp.loc{o o':Nat->Nat}{N:Nat->Prop}{w0 w w':V}(s:Stp o o' N w0 w w'){l a t n:Nat}{x:A2}{m:Option Di}(h:Sq l a t x w m)(d:o l=10+2*n)(e:∀b,a<=b->b<t->o b=11+2*n)(n1:¬N (10+2*n))(f:¬N (11+2*n)):Sq l a t x w' m:=by
 cases m with
 |none=>exact s.get h d n1
 |some m=>exact h.keep s.kp (by rw[d];exact n1) (fun b h1 h2=>by rw[e b h1 h2];exact f)
theorem Sq.own{o o':Nat->Nat}{N:Nat->Prop}{w0 w w':V}(s:Stp o o' N w0 w w'){l a t n:Nat}{x:A2}{m:Option Di}(h:Sq l a t x w m)(d:∀b,a<=b->b<t->o b=11+2*n):∃a' t',(∀b,a'<=b->b<t'->o' b=11+2*n)/\(Sq l a t x w' m->Sq l a' t' x w' m):=by
 cases m with
 |none=>exact⟨0,0,fun b _ h=>by omega,fun h=>h⟩
 |some m=>exact⟨a,t,fun b h1 h2=>by rw[s.agree b (F5 h2 (G5.le h)),d b h1 h2],fun h=>h⟩
def Ie(l:List Nat):List ZE:=l.map fun b=>ZA (U ⟨b,0,O⟩)
def kpC(d:Nat)(C:Ar)(ve:ZE)(c:Nat)(vlog vl vt:ZE)(txt:ByteArray):Obj:=
 ZC #[ZA (U ⟨d,0,O⟩),I J C.closed,I J C.opn,I J C.cycle,I J C.delay,ve,ZA (U ⟨c,0,O⟩),vlog,vl,vt,ZB txt] 67
theorem Bv{w:V}{kb d:Nat}{C:Ar}{ve:ZE}{c:Nat}{a vl vt:ZE}{txt:ByteArray}(h:w.heap[kb]? =U (kpC d C ve c a vl vt txt)):
  w.cell? ⟨kb,0,O⟩=U (ZA (U ⟨d,0,O⟩))/\w.cell? ⟨kb,1,O⟩=U (I J C.closed)/\w.cell? ⟨kb,2,O⟩=U (I J C.opn)/\w.cell? ⟨kb,3,O⟩=U (I J C.cycle)/\w.cell? ⟨kb,4,O⟩=U (I J C.delay)/\w.cell? ⟨kb,5,O⟩=U ve/\
  w.cell? ⟨kb,6,O⟩=U (ZA (U ⟨c,0,O⟩))/\w.cell? ⟨kb,7,O⟩=U a/\w.cell? ⟨kb,8,O⟩=U vl/\w.cell? ⟨kb,9,O⟩=U vt/\w.cell? ⟨kb,10,O⟩=U (ZB txt)/\∀o,w.frozen? ⟨kb,o,O⟩=false:=by
 unfold kpC at h;simp[World.cell?,World.frozen?,h]
structure KpB (B:Nat) (sa:Nat->Addr) (w0:V) (kb c:Nat) (x:KpX) (C:Ar) (D:Dd) (m:CM) (o:Nat->Nat) (w:V):Prop where
 se:Fs B sa w
 bel:ZF w0.heap.size w0 w
 bl:B<=w0.heap.size
 low:Low o w0 w
 dog:D4 w x.d D
 mem:A7 w c x.rb (U ⟨x.rb,0,O⟩) x.cap m
 ents:F0 (fun b=>o b=8) w x.ve x.X
 xe:C.ents=x.X.map A2.E
 ok:o kb=1
 od:o x.d=2
 oc:o c=3
 orb:o x.rb=4
theorem KpB.stp{B:Nat}{sa:Nat->Addr}{w0:V}{kb c:Nat}{x:KpX}{C:Ar}{D:Dd}{m:CM}{o o':Nat->Nat}{N:Nat->Prop}{w w':V}(h:KpB B sa w0 kb c x C D m o w)(s:Stp o o' N w0 w w')
  (a:Fs B sa w') (g:¬N 8) {e:Dd} {f:CM} (i:D4 w' x.d e) (j:A7 w' c x.rb (U ⟨x.rb,0,O⟩) x.cap f):KpB B sa w0 kb c x C e f o' w':=
 ⟨a,s.bel,h.bl,s.low,i,j,s.ents h.ents g,h.xe,s.eq h.low h.ok (by decide),s.eq h.low h.od (by decide),s.eq h.low h.oc (by decide),s.eq h.low h.orb (by decide)⟩
theorem KpB.re{B:Nat}{sa:Nat->Addr}{w0:V}{kb c:Nat}{x:KpX}{C:Ar}{D:Dd}{m:CM}{o:Nat->Nat}{w:V}(h:KpB B sa w0 kb c x C D m o w)(rg tb:Nat)(lv vl:ZE)(ls:List Nat):
  KpB B sa w0 kb c ⟨x.d,x.rb,x.cap,rg,tb,lv,x.ve,vl,x.X,ls⟩ C D m o w:=⟨h.se,h.bel,h.bl,h.low,h.dog,h.mem,h.ents,h.xe,h.ok,h.od,h.oc,h.orb⟩
theorem KpB.sen{B:Nat}{sa:Nat->Addr}{w0:V}{kb c:Nat}{x:KpX}{C:Ar}{D:Dd}{m:CM}{o o':Nat->Nat}{N:Nat->Prop}{w w':V}(h:KpB B sa w0 kb c x C D m o w)(s:Stp o o' N w0 w w')(h0:¬N 0):Fs B sa w':=
 h.se.keep s.kp (fun b a=>by
   have:o b≠0:=fun e=>by rw[e]at a;exact h0 a
   exact No h.bl (h.low b this).1)
theorem KpB.keep{B:Nat}{sa:Nat->Addr}{w0:V}{kb c:Nat}{x:KpX}{C:Ar}{D:Dd}{m:CM}{o o':Nat->Nat}{N:Nat->Prop}{w w':V}(h:KpB B sa w0 kb c x C D m o w)(s:Stp o o' N w0 w w')
  (a:Fs B sa w') (e:¬N 8) (h2:¬N 2) (h3:¬N 3) (d:¬N 4):KpB B sa w0 kb c x C D m o' w':=
 h.stp s a e (s.get h.dog h.od h2) (s.cells h.mem h.oc h.orb h3 d)
structure Bq (B:Nat) (sa:Nat->Addr) (w0:V) (kb c:Nat) (txt:ByteArray) (x:KpX) (M:KpM) (o:Nat->Nat) (w:V):Prop where
 b:KpB B sa w0 kb c x M.C M.D M.m o w
 box:w.heap[kb]? =U (kpC x.d M.C x.ve c (ZA (U ⟨x.rg,0,O⟩)) x.vl (ZA (U ⟨x.tb,0,O⟩)) txt)
 rbox:w.heap[x.rg]? =U (Io c x.lv M.dead)
 rrow:Av (fun b=>o b=6) w x.lv 4 (M.L.flatMap Ao) M.L.length
 lrow:Av (fun b=>o b=9) w x.vl 1 (Ie x.ls) x.ls.length
 ll:x.ls.length=x.X.length/\M.A.length=x.X.length
 loc:∀(j l:Nat) (e:A2),x.ls[j]? =U l->x.X[j]? =U e->o l=10+2*j/\∃a t,(∀b,a<=b->b<t->o b=11+2*j)/\Sq l a t e w (B9 M j)
 tot:De w x.tb M.C.delay M.sn M.st
 org:o x.rg=5
 ot:o x.tb=7
section
variable {B:Nat} {sa:Nat->Addr} {w0:V} {kb c:Nat} {txt:ByteArray} {x:KpX} {M:KpM} {o o':Nat->Nat} {N:Nat->Prop} {w w':V}
theorem Bq.len(h:Bq B sa w0 kb c txt x M o w):x.ls.length=M.A.length/\M.C.ents.length=M.A.length:=by
 have:=h.ll;have h2:=congrArg List.length h.b.xe;rw[Fn]at h2;omega
theorem Stp.locs(s:Stp o o' N w0 w w')(h:Bq B sa w0 kb c txt x M o w){j l:Nat}{e:A2}(h1:x.ls[j]? =U l)(h2:x.X[j]? =U e)(n1:¬N (10+2*j))(n:¬N (11+2*j)):
  o' l=10+2*j/\∃a t,(∀b,a<=b->b<t->o' b=11+2*j)/\Sq l a t e w' (B9 M j):=by
 obtain⟨d,a,t,f,g⟩:=h.loc j l e h1 h2;obtain⟨i,u,p,q⟩:=Sq.own s g f;exact⟨s.eq h.b.low d (by omega),i,u,p,q (s.loc g d f n1 n)⟩
theorem Bq.far{T:Nat->Prop}(h:Bq B sa w0 kb c txt x M o w)(k:Ac T w w')(d:∀b,b<w.heap.size->T b->o b=0/\w0.heap.size<=b):Bq B sa w0 kb c txt x M o w':=by
 have s:Stp o o (fun n=>n=0) w0 w w':=⟨k.mono (fun b a h=>(d b a h).1),fun _ _=>rfl,fun b a=>⟨(h.b.low b a).1,F5 (h.b.low b a).2 k.size⟩,
  h.b.bel.trans ((k.mono (fun b a h=>(d b a h).2):Ac (fun b=>w0.heap.size<=b) w w').below h.b.bel.size (fun b a=>a))⟩
 have f:Fs B sa w':=h.b.se.keep (k.mono (fun b a h=>(d b a h).2):Ac (fun b=>w0.heap.size<=b) w w') (fun b a=>No h.b.bl a);exact⟨h.b.keep s f (by decide) (by decide) (by decide) (by decide),s.get h.box h.b.ok (by decide),s.get h.rbox h.org (by decide),s.sl h.rrow (by decide),s.sl h.lrow (by decide),h.ll,
  fun j l e h1 h2=>s.locs h h1 h2 (by omega) (by omega),s.get h.tot h.ot (by decide),h.org,h.ot⟩
theorem Bq.below(h:Bq B sa w0 kb c txt x M o w)(b:ZF w.heap.size w w'):Bq B sa w0 kb c txt x M o w':=h.far (Al b) (fun _ _ h=>h.elim)
theorem Bq.dog'(h:Bq B sa w0 kb c txt x M o w){a:Dd}(k:Ac (· =x.d) w w')(f:D4 w' x.d a):Bq B sa w0 kb c txt x { M with D:=a} o w':=by
 have s:Stp o o (fun n=>n=2) w0 w w':=Stp.same h.b.low h.b.bel (k.mono (fun b g e=>by rw[e];exact h.b.od)) (by decide);exact⟨h.b.stp s (h.b.sen s (by decide)) (by decide) f (s.cells h.b.mem h.b.oc h.b.orb (by decide) (by decide)),s.get h.box h.b.ok (by decide),s.get h.rbox h.org (by decide),s.sl h.rrow (by decide),s.sl h.lrow (by decide),h.ll,
  fun j l e h1 h2=>s.locs h h1 h2 (by omega) (by omega),s.get h.tot h.ot (by decide),h.org,h.ot⟩
theorem Bq.cell'(h:Bq B sa w0 kb c txt x M o w){a:CM}(k:Ac (· =c) w w')(d:A7 w' c x.rb (U ⟨x.rb,0,O⟩) x.cap a):Bq B sa w0 kb c txt x { M with m:=a} o w':=by
 have s:Stp o o (fun n=>n=3) w0 w w':=Stp.same h.b.low h.b.bel (k.mono (fun b f e=>by rw[e];exact h.b.oc)) (by decide);exact⟨h.b.stp s (h.b.sen s (by decide)) (by decide) (s.get h.b.dog h.b.od (by decide)) d,s.get h.box h.b.ok (by decide),s.get h.rbox h.org (by decide),s.sl h.rrow (by decide),s.sl h.lrow (by decide),h.ll,
  fun j l e h1 h2=>s.locs h h1 h2 (by omega) (by omega),s.get h.tot h.ot (by decide),h.org,h.ot⟩
theorem Bq.tot'(h:Bq B sa w0 kb c txt x M o w){a:Int}{st':St}(k:Ac (· =x.tb) w w')(d:De w' x.tb M.C.delay a st'):Bq B sa w0 kb c txt x { M with sn:=a,st:=st'} o w':=by
 have s:Stp o o (fun n=>n=7) w0 w w':=Stp.same h.b.low h.b.bel (k.mono (fun b f e=>by rw[e];exact h.ot)) (by decide);exact⟨h.b.keep s (h.b.sen s (by decide)) (by decide) (by decide) (by decide) (by decide),s.get h.box h.b.ok (by decide),s.get h.rbox h.org (by decide),s.sl h.rrow (by decide),s.sl h.lrow (by decide),h.ll,
  fun j l e h1 h2=>s.locs h h1 h2 (by omega) (by omega),d,h.org,h.ot⟩
theorem Av.reR{R R':Nat->Prop}{w:V}{v:ZE}{g n:Nat}{a:List ZE}(h:Av R w v g a n)(q:∀b,v.ownBlock=U b->0<a.length->R' b):Av R' w v g a n:=by
 obtain⟨s,i,cap,f,h1,h2,h3,j⟩:=h;refine⟨s,i,cap,f,h1,h2,h3,fun e=>?_⟩;obtain⟨b,off,d,t,l,p⟩:=j e;exact⟨b,off,d,q b (by rw[f,d];rfl) e,l,p⟩
theorem Av.inR{R:Nat->Prop}{w:V}{v:ZE}{p n:Nat}{a:List ZE}(h:Av R w v p a n){b:Nat}(d:v.ownBlock=U b)(j:0<a.length):R b/\b<w.heap.size:=by
 obtain⟨e,q,cap,l,h1,h2,h3,f⟩:=h;obtain⟨s,off,i,g,e,_⟩:=f j;rw[l,i]at d;obtain rfl:=Option.some.inj d;exact⟨g,e⟩
theorem Av.many{R:Nat->Prop}{w:V}{v:ZE}{q n:Nat}{j:List ZE}(h:Av R w v q j n){S:Nat->Prop}{w':V}{e g:Nat}{d:List ZE}(l:Av S w' v e d g):n=g:=by
 obtain⟨_,s,cap,p,_⟩:=h;obtain⟨_,i,f,a,_⟩:=l;rw[p]at a;injection a
theorem Bq.rst(h:Bq B sa w0 kb c txt x M o w):RSt B sa w0 x.rg c x.rb x.cap M.m M.dead M.L x.lv w:=by
 have h3:=h.b.oc;have g:=h.b.orb;have d:=h.org;refine⟨⟨h.rbox,h.rrow.mono (fun b f=>?_)⟩,h.b.mem,h.b.se,h.b.bel,(h.b.low c (by omega)).1,(h.b.low x.rb (by omega)).1,(h.b.low x.rg (by omega)).1,h.b.bl,fun e=>?_,fun e=>?_⟩
 ·have a:o b=6:=f;refine⟨fun e=>?_,fun e=>?_,fun e=>?_⟩
  ·rw[e]at a;omega
  ·rw[e]at a;omega
  ·rw[e]at a;omega
 ·rw[e]at d;omega
 ·rw[e]at d;omega
structure Fr (o o':Nat->Nat) (w w':V):Prop where
 kp:Ac (fun b=>o b≠0) w w'
 agree:∀b,b<w.heap.size->o' b=o b
theorem Fr.refl(o:Nat->Nat)(w:V):Fr o o w w:=⟨Ac.refl _ _,fun _ _=>rfl⟩
theorem Fr.trans{o1 d e:Nat->Nat}{w1 w2 w3:V}(h:Fr o1 d w1 w2)(k:Fr d e w2 w3):Fr o1 e w1 w3:=
 ⟨h.kp.step k.kp (fun b a f=>by rw[<-h.agree b f];exact a),fun b a=>by rw[k.agree b (F5 a h.kp.size),h.agree b a]⟩
theorem Fr.below(o:Nat->Nat){w w':V}(b:ZF w.heap.size w w'):Fr o o w w':=⟨(Al b).mono (fun _ _ h=>h.elim),fun _ _=>rfl⟩
theorem Stp.fr(s:Stp o o' N w0 w w')(h0:¬N 0):Fr o o' w w':=⟨s.kp.mono (fun b _ hb e=>by rw[e]at hb;exact h0 hb),s.agree⟩
theorem Fr.of{T:Nat->Prop}(k:Ac T w w')(hT:∀b,T b->o b≠0):Fr o o w w':=⟨k.mono (fun b _ hb=>hT b hb),fun _ _=>rfl⟩
theorem Bq.app(h:Bq B sa w0 kb c txt x M o w){p:CM}{a:Bool}{L':List Ap}{lv':ZE}(f:RSt B sa w0 x.rg c x.rb x.cap p a L' lv' w')
  (k:Ac (fun b=>b=c\/b=x.rb\/b=x.rg\/w.heap.size<=b) w w') (d:lv'=x.lv\/Z0 w w' lv'):
  ∃o',Bq B sa w0 kb c txt { x with lv:=lv'} { M with m:=p,dead:=a,L:=L'} o' w'/\Fr o o' w w':=by
 have s:Stp o (ext o w.heap.size w'.heap.size 6) (fun n=>n=3\/n=4\/n=5) w0 w w':=Stp.new h.b.low h.b.bel (k.mono (fun b g e=>by
  rcases e with e|e|e|e
  ·rw[e];exact .inl h.b.oc
  ·rw[e];exact .inr (.inl h.b.orb)
  ·rw[e];exact .inr (.inr h.org)
  ·omega)) (by decide)
 refine⟨_,⟨(h.b.stp s (h.b.sen s (by decide)) (by decide) (s.get h.b.dog h.b.od (by decide)) f.mem).re _ _ _ _ _,s.get h.box h.b.ok (by decide),f.ring.box,f.ring.row.reR (fun b g q=>?_),s.sl h.lrow (by decide),h.ll,
  fun j l e h1 h2=>s.locs h h1 h2 (by omega) (by omega),s.get h.tot h.ot (by decide),s.eq h.b.low h.org (by decide),s.eq h.b.low h.ot (by decide)⟩,s.fr (by decide)⟩
 rcases d with d|d
 ·have t:=h.rrow.many (d▸f.ring.row);have i:0<(M.L.flatMap Ao).length:=by rw[Ot]at q ⊢;omega
  rw[d]at g;exact s.eq h.b.low (h.rrow.inR g i).1 (by decide)
 ·have:=d b g;exact I6 this.1 this.2
theorem pX{M:KpM}{j i:Nat}{a:Option Di}(d:j<M.A.length):B9 (Fi M j a) i=if i=j then a else B9 M i:=by
 unfold B9 Fi;rw[Of,Of,Zxn];by_cases e:i=j
 ·subst e;rw[if_pos rfl,if_pos d,if_pos rfl];rfl
 ·rw[if_neg (fun h=>e h.symm),if_neg e]
theorem Pv{α:Type}{l:List α}{j:Nat}{y:α}(h:l[j]? =U y):j<l.length:=(List.getElem?_eq_some_iff.1 h).1
theorem Bq.locset(h:Bq B sa w0 kb c txt x M o w){j l:Nat}{e:A2}(h1:x.ls[j]? =U l)(h2:x.X[j]? =U e){a:Option Di}(s:Stp o o' N w0 w w')(H:¬N 0)(q:∀n,N n->n=10+2*j\/n=11+2*j)
  (E:∃p t,(∀b,p<=b->b<t->o' b=11+2*j)/\Sq l p t e w' a):Bq B sa w0 kb c txt x (Fi M j a) o' w':=by
 have d:∀n,n<10->¬N n:=fun n P f=>by have:=q n f;omega
 refine⟨h.b.keep s (h.b.sen s H) (d _ (by decide)) (d _ (by decide)) (d _ (by decide)) (d _ (by decide)),s.get h.box h.b.ok (d _ (by decide)),s.get h.rbox h.org (d _ (by decide)),s.sl h.rrow (d _ (by decide)),s.sl h.lrow (d _ (by decide)),?_,
  fun i Q K h3 g=>?_,s.get h.tot h.ot (d _ (by decide)),s.eq h.b.low h.org (by decide),s.eq h.b.low h.ot (by decide)⟩
 ·refine⟨h.ll.1,?_⟩;show(M.A.set j a).length=_
  rw[Zyz];exact h.ll.2
 ·have y:j<M.A.length:=by have:=Pv h2;have:=h.ll;omega
  rw[pX y];by_cases u:i=j
  ·subst u;rw[h1]at h3;rw[h2]at g;obtain rfl:=Option.some.inj h3;obtain rfl:=Option.some.inj g;rw[if_pos rfl];exact⟨s.eq h.b.low (h.loc i l e h1 h2).1 (by omega),E⟩
  ·rw[if_neg u];exact s.locs h h3 g (fun f=>by have:=q _ f;omega) (fun f=>by have:=q _ f;omega)
theorem Bq.watch(h:Bq B sa w0 kb c txt x M o w){j l p t:Nat}{e:A2}(h1:x.ls[j]? =U l)(h2:x.X[j]? =U e)(d:∀b,p<=b->b<t->o b=11+2*j){a:Di}
  (k:Ac (fun b=>p<=b/\b<t) w w') (i:G5 l p t e.E e.p e.g e.e e.f e.l a w'):Bq B sa w0 kb c txt x (Fi M j (U a)) o w'/\Fr o o w w':=by
 have s:Stp o o (fun n=>n=11+2*j) w0 w w':=Stp.same h.b.low h.b.bel (k.mono (fun b u e=>d b e.1 e.2)) (by omega);exact⟨h.locset h1 h2 s (by omega) (fun n q=>.inr q) ⟨p,t,d,i⟩,s.fr (by omega)⟩
theorem Bq.stop(h:Bq B sa w0 kb c txt x M o w){j l:Nat}{e:A2}(h1:x.ls[j]? =U l)(h2:x.X[j]? =U e)
  (k:Ac (· =l) w w') (a:w'.heap[l]? =U (Lw O e.E e.p e.g e.e e.f e.l)):Bq B sa w0 kb c txt x (Fi M j O) o w'/\Fr o o w w':=by
 have s:Stp o o (fun n=>n=10+2*j) w0 w w':=Stp.same h.b.low h.b.bel (k.mono (fun b i e=>by rw[e];exact(h.loc j l _ h1 h2).1)) (by omega);exact⟨h.locset h1 h2 s (by omega) (fun n d=>.inl d) ⟨0,0,fun b _ h=>by omega,a⟩,s.fr (by omega)⟩
theorem Bq.begin(h:Bq B sa w0 kb c txt x M o w){j l t:Nat}{e:A2}(h1:x.ls[j]? =U l)(h2:x.X[j]? =U e){a:Di}
  (k:Ac (· =l) w w') (d:G5 l w.heap.size t e.E e.p e.g e.e e.f e.l a w'):∃o',Bq B sa w0 kb c txt x (Fi M j (U a)) o' w'/\Fr o o' w w':=by
 have s:Stp o (ext o w.heap.size w'.heap.size (11+2*j)) (fun n=>n=10+2*j) w0 w w':=Stp.new h.b.low h.b.bel (k.mono (fun b u e=>by rw[e];exact(h.loc j l _ h1 h2).1)) (by omega);exact⟨_,h.locset h1 h2 s (by omega) (fun n q=>.inl q) ⟨w.heap.size,t,fun b h3 i=>I6 h3 (F5 i d.le),d⟩,s.fr (by omega)⟩
end
section
variable {B:Nat} {sa:Nat->Addr} {w0:V} {kb c:Nat} {txt:ByteArray} {x:KpX} {M:KpM} {o:Nat->Nat} {w:V}
theorem Ue(h:Bq B sa w0 kb c txt x M o w):ZH ZI 83 #[ZA (U ⟨kb,0,O⟩)] w fun e w'=>e=ZD (errv sa (Hs M))/\w=w':=by
 obtain⟨k0,k1,l,n,p,q,E,s,t,u,g,y⟩:=Bv h.box;obtain⟨_,_,_,_,_,_,_,H,_,_,A⟩:=h.b.se.all;have a:=G (Rf c x.rb _ x.cap M.m w h.b.mem);have f:=G (Mg x.d M.D w h.b.dog);clear h k1 l n p q s t u g y;unfold Hs;cases j:M.m.off
 ·rw[j]at a;cases i:M.D.reset
  ·rw[i]at f;go_enter func83,ntmps83;go_wp2_with fail;refine a.mono ?_;rintro e w1 ⟨rfl,rfl⟩;go_wp2_with fail;refine f.mono ?_;rintro e w1 ⟨rfl,rfl⟩;go_wp2_with fail;go_ret;exact⟨rfl,rfl⟩
  ·rw[i]at f;go_enter func83,ntmps83;go_wp2_with fail;refine a.mono ?_;rintro e w1 ⟨rfl,rfl⟩;go_wp2_with fail;refine f.mono ?_;rintro e w1 ⟨rfl,rfl⟩;go_wp2_with fail;go_ret;exact⟨rfl,rfl⟩
 ·rw[j]at a;go_enter func83,ntmps83;go_wp2_with fail;refine a.mono ?_;rintro e w1 ⟨rfl,rfl⟩;go_wp2_with fail;go_ret;exact⟨rfl,rfl⟩
theorem Bq.row(h:Bq B sa w0 kb c txt x M o w):∃ao cap,x.vl=F ao M.A.length cap/\M.A.length<=cap/\cap<=maxLen/\
  ∀j,j<M.A.length->∃b off l e,ao=U ⟨b,off,O⟩/\w.cell? ⟨b,off+j,O⟩=U (ZA (U ⟨l,0,O⟩))/\x.ls[j]? =U l/\x.X[j]? =U e/\Cq M j=e.E:=by
 have i:=h.len;have s:=h.ll;have g:=h.b.xe;obtain⟨h0,ao,cap,n,h1,h2,h3,a⟩:=h.lrow;refine⟨ao,cap,by rw[n,i.1],by omega,h2,fun j p=>?_⟩;have q:(Ie x.ls).length=x.ls.length:=by simp[Ie]
 obtain⟨b,off,d,_,_,f⟩:=a (by omega);have g1:x.ls[j]? =U x.ls[j]:=R4 (by omega);have g2:x.X[j]? =U (x.X[j]'(by omega)):=R4 (by omega);refine⟨b,off,x.ls[j],x.X[j]'(by omega),d,f j _ ?_,g1,g2,?_⟩
 ·unfold Ie;rw[Zzl,g1];rfl
 ·unfold Cq;rw[g,Of,Zzl,g2];rfl
theorem Pp(h:Bq B sa w0 kb c txt x M o w)(i:Int)(hi:Gv M i≠0):
  ZH ZI 48 #[ZA (U ⟨kb,0,O⟩),I J i] w fun e w'=>e=ZD (.tuple #[ZA O,errv sa (Gv M i)])/\ZF w.heap.size w w':=by
 obtain⟨k0,k1,s,t,u,y,E,H,K,P,f,Q⟩:=Bv h.box;obtain⟨_,_,_,_,X,_⟩:=h.b.se.all;obtain⟨R,cap,g,l,n,_⟩:=h.row;rw[g]at K;have a:=G (Ue h);clear h g k0 k1 s t u y E H P f Q;unfold Gv at hi ⊢;by_cases h0:Hs M=0
 ·rw[h0]at a;rw[h0,if_neg (by decide)]at hi ⊢;by_cases d:i<0\/(M.A.length:Int)<=i
  ·rw[if_pos d];clear hi h0;by_cases S:i<0
   ·clear d;go_enter func48,ntmps48;go_wp2_with fail;refine a.mono ?_;rintro e w1 ⟨rfl,rfl⟩;rw[Fe];go_wp2_with fail;go_quiet (fail);go_wp2_with fail;go_ret2;exact⟨rfl,Ag _ (R1 _ _)⟩
   ·have j:(M.A.length:Int)<=i:=by omega
    clear d;go_enter func48,ntmps48;go_wp2_with fail;refine a.mono ?_;rintro e w1 ⟨rfl,rfl⟩;rw[Fe];go_wp2_with fail;go_quiet (fail);go_wp2_with fail;go_ret2;exact⟨rfl,Ag _ (R1 _ _)⟩
  ·rw[if_neg d]at hi;exact absurd rfl hi
 ·rw[if_pos h0];obtain⟨q,p⟩:∃q,Hs M=q+1:=⟨Hs M-1,by omega⟩
  rw[p]at a ⊢;clear hi h0;go_enter func48,ntmps48;go_wp2_with fail;refine a.mono ?_;rintro e w1 ⟨rfl,rfl⟩;rw[Gf];go_wp2_with fail;go_ret2;exact⟨rfl,R1 _ _⟩
theorem Q1(h:Bq B sa w0 kb c txt x M o w)(i:Int)(hi:¬Gv M i≠0):
  ZH ZI 48 #[ZA (U ⟨kb,0,O⟩),I J i] w fun e w'=>∃l y,e=ZD (.tuple #[ZA (U ⟨l,0,O⟩),.nilIface])/\x.ls[i.toNat]? =U l/\x.X[i.toNat]? =U y/\Cq M i.toNat=y.E/\w=w':=by
 obtain⟨k0,k1,P,R,S,Y,Z,k7,k8,k9,a,kf⟩:=Bv h.box;obtain⟨ao,cap,j,t,u,g⟩:=h.row;rw[j]at k8;have d:=G (Ue h);unfold Gv at hi;by_cases h0:Hs M=0
 ·rw[h0]at d;rw[h0,if_neg (by decide)]at hi;by_cases f:i<0\/(M.A.length:Int)<=i
  ·rw[if_pos f]at hi;exact absurd (by decide) hi
  ·obtain⟨n,rfl⟩:=Zyn (show 0<=i by omega);have H:n<M.A.length:=by omega
   obtain⟨b,off,l,y,rfl,q1,p,q,s⟩:=g n H;have Q:=G (show x.ls[((n:Int)).toNat]? =U l/\x.X[((n:Int)).toNat]? =U y/\Cq M ((n:Int)).toNat=y.E by rw[Zzc];exact⟨p,q,s⟩);have K:(n:Int)<M.A.length:=by omega
   clear h j f hi h0 p q s g k0 k1 P R S Y Z k7 k9 a kf;go_enter func48,ntmps48;go_wp2_with fail;refine d.mono ?_;rintro e w1 ⟨rfl,rfl⟩;rw[Fe];go_wp2_with fail;go_ret2;exact⟨l,y,rfl,Q.1,Q.2.1,Q.2.2,rfl⟩
 ·rw[if_pos h0]at hi;exact absurd h0 hi
end
section
variable {B:Nat} {sa:Nat->Addr} {w0:V} {kb c:Nat} {txt:ByteArray} {x:KpX} {M:KpM} {o:Nat->Nat} {w:V} {T:Nat}
def Ft(B:Nat)(sa:Nat->Addr)(w0:V)(kb c:Nat)(txt:ByteArray)(r:Nat × KpM)(o:Nat->Nat)(w:V)(e:Ending)(w':V):Prop:=
 e=ZD (errv sa r.1)/\∃x' o',Bq B sa w0 kb c txt x' r.2 o' w'/\Fr o o' w w'
theorem Bq.light(h:Bq B sa w0 kb c txt x M o w)(d:Bn M T){j:Nat}{y:A2}(i:x.X[j]? =U y):O7 y.E/\Dk (fun b=>o b=8) w y.E y.p y.g y.e y.f y.l:=by
 have a:=At i;exact⟨d.small _ (by rw[h.b.xe];exact Zzx a),h.b.ents.each y a⟩
theorem Bq.in8(h:Bq B sa w0 kb c txt x M o w):∀b,(fun b=>o b=8) b->b<w.heap.size:=fun b hb=>(h.b.low b (by have:o b=8:=hb;omega)).2
theorem xQ(h:Bq B sa w0 kb c txt x M o w)(R:Bn M T)(i:Int):
  ZH ZI 20 #[ZA (U ⟨kb,0,O⟩),I J i] w (Ft B sa w0 kb c txt (Ig M i) o w):=by
 unfold Ft;have H:=G h;have HOk:=G R;by_cases hi:Gv M i≠0
 ·have s:=G (Pp h i hi);unfold Ig;rw[if_pos hi];obtain⟨q,hq⟩:∃q,Gv M i=q+1:=⟨Gv M i-1,by omega⟩
  rw[hq]at s ⊢;clear h R hi hq;go_enter func20,ntmps20;go_wp2_with fail;refine s.mono ?_;rintro e w1 ⟨rfl,Y⟩;rw[Gf];go_wp2_with fail;go_ret;exact⟨rfl,x,o,H.below Y,Fr.below o Y⟩
 ·have s:=G (Q1 h i hi);unfold Ig;rw[if_neg hi];have s9:=h.b.se.gl 9 (by decide);clear h R hi;cases u:B9 M i.toNat with
  |none=>
   have K:=G u;clear u;go_enter func20,ntmps20;go_wp2_with fail;refine s.mono ?_;rintro e w1 ⟨l,y,rfl,n,j,A,rfl⟩;obtain⟨S,a,t,X,d⟩:=H.loc _ l y n j;rw[K.out]at d;obtain⟨hL,hS⟩:=H.light HOk j;have P:=G (Yo _ l y.E y.p y.g y.e y.f y.l w d hS H.in8 hL);have Q:=G (And.intro n (And.intro j A));clear S X d hL hS n j A;go_wp2_with fail;refine P.mono ?_;rintro e w2 ⟨rfl,t',r1,r2⟩;obtain⟨o',z1,z2⟩:=H.begin Q.1 Q.2.1 r2 r1;rw[<-Q.2.2]at z1;have Z:=G (And.intro z1 z2);clear r1 r2 z1 z2;go_wp2_with fail;go_ret;exact⟨rfl,x,o',Z.1,Z.2⟩
  |some m=>
   have K:=G u;clear u;go_enter func20,ntmps20;go_wp2_with fail;refine s.mono ?_;rintro e w1 ⟨l,y,rfl,n,j,A,rfl⟩;obtain⟨S,a,t,X,d⟩:=H.loc _ l y n j;rw[K.out]at d;have P:=G (W5 l a t y.E y.p y.g y.e y.f y.l _ m w d s9);clear S X d n j A;go_wp2_with fail;refine P.mono ?_;rintro e w2 ⟨rfl,rfl⟩;go_wp2_with fail;go_ret;exact⟨rfl,x,o,H.out,Fr.refl _ _⟩
theorem Acl(h:Bq B sa w0 kb c txt x M o w)(P:Bn M T)(i:Int):
  ZH ZI 21 #[ZA (U ⟨kb,0,O⟩),I J i] w (Ft B sa w0 kb c txt (Kk M i) o w):=by
 unfold Ft;have H:=G h;have HOk:=G P;by_cases hi:Gv M i≠0
 ·have s:=G (Pp h i hi);unfold Kk;rw[if_pos hi];obtain⟨q,hq⟩:∃q,Gv M i=q+1:=⟨Gv M i-1,by omega⟩
  rw[hq]at s ⊢;clear h P hi hq;go_enter func21,ntmps21;go_wp2_with fail;refine s.mono ?_;rintro e w1 ⟨rfl,Y⟩;rw[Gf];go_wp2_with fail;go_ret;exact⟨rfl,x,o,H.below Y,Fr.below o Y⟩
 ·have s:=G (Q1 h i hi);unfold Kk;rw[if_neg hi];have s8:=h.b.se.gl 8 (by decide);clear h P hi;cases u:B9 M i.toNat with
  |none=>
   have A:=G u;clear u;go_enter func21,ntmps21;go_wp2_with fail;refine s.mono ?_;rintro e w1 ⟨l,y,rfl,j,n,X,rfl⟩;obtain⟨R,a,t,S,d⟩:=H.loc _ l y j n;rw[A.out]at d;have K:=G (Ym l y.E y.p y.g y.e y.f y.l _ w d s8);clear R S d j n X;go_wp2_with fail;refine K.mono ?_;rintro e w2 ⟨rfl,rfl⟩;go_wp2_with fail;go_ret;exact⟨rfl,x,o,H.out,Fr.refl _ _⟩
  |some m=>
   have A:=G u;clear u;go_enter func21,ntmps21;go_wp2_with fail;refine s.mono ?_;rintro e w1 ⟨l,y,rfl,j,n,X,rfl⟩;obtain⟨R,a,t,S,d⟩:=H.loc _ l y j n;rw[A.out]at d;have K:=G (gO l a t y.E y.p y.g y.e y.f y.l m w d);have Q:=G (And.intro j n);clear R S d j n X;go_wp2_with fail;refine K.mono ?_;rintro e w2 ⟨rfl,r1,r2⟩;have Z:=G (H.stop Q.1 Q.2 r2 r1);clear r1 r2;go_wp2_with fail;go_ret;exact⟨rfl,x,o,Z.1,Z.2⟩
theorem sN(h:Bq B sa w0 kb c txt x M o w)(hO:Bn M T)(i p:Int):
  ZH ZI 22 #[ZA (U ⟨kb,0,O⟩),I J i,I J p] w (Ft B sa w0 kb c txt (Gm M i p) o w):=by
 unfold Ft;have H:=G h;have HOk:=G hO;obtain⟨k0,k1,k2,k3,k4,k5,k6,k7,k8,k9,ah,kf⟩:=Bv h.box;clear k1 k2 k3 k4 k5 k6 k7 k8 k9 ah kf;by_cases hi:Gv M i≠0
 ·have R:=G (Pp h i hi);unfold Gm;rw[if_pos hi];obtain⟨q,hq⟩:∃q,Gv M i=q+1:=⟨Gv M i-1,by omega⟩
  rw[hq]at R ⊢;clear h hO hi hq k0;go_enter func22,ntmps22;go_wp2_with fail;refine R.mono ?_;rintro e w1 ⟨rfl,b1⟩;rw[Gf];go_wp2_with fail;go_ret;exact⟨rfl,x,o,H.below b1,Fr.below o b1⟩
 ·have R:=G (Q1 h i hi);have HN:=G (P4 x.d M.D w h.b.dog);unfold Gm;rw[if_neg hi];have s8:=h.b.se.gl 8 (by decide);have s4:=h.b.se.gl 4 (by decide);clear h hO hi;cases ha:B9 M i.toNat with
  |none=>
   have HA:=G ha;clear ha;go_enter func22,ntmps22;go_wp2_with fail;refine R.mono ?_;rintro e w1 ⟨l,y,rfl,A,u,K,rfl⟩;obtain⟨p1,a,t,X,s⟩:=H.loc _ l y A u;rw[HA.out]at s;have Y:=G (Vp l y.E y.p y.g y.e y.f y.l _ p M.D.now w s s8);clear p1 X s A u K;go_wp2_with fail;refine HN.mono ?_;rintro e w2 ⟨rfl,rfl⟩;go_wp2_with fail;refine Y.mono ?_;rintro e w2 ⟨rfl,rfl⟩;go_wp2_with fail;go_ret;exact⟨rfl,x,o,H.out,Fr.refl _ _⟩
  |some m=>
   have HA:=G ha;clear ha;by_cases S:p<0\/((Cq M i.toNat).points.length:Int)<=p
   ·have HP:=G S;simp only[S,if_true];clear S;go_enter func22,ntmps22;go_wp2_with fail;refine R.mono ?_;rintro e w1 ⟨l,y,rfl,A,u,K,rfl⟩;obtain⟨p1,a,t,X,s⟩:=H.loc _ l y A u;rw[HA.out]at s;have P:G5 l a t y.E y.p y.g y.e y.f y.l m w:=s;obtain⟨pa,pc,n⟩:=(H.b.ents.each y (At u)).p.val;rw[n]at P;have j:=HP.out;rw[K]at j;have Y:=G (W3 l a t y.E pa pc y.g y.e y.f y.l _ m p M.D.now w P j s4);clear p1 X s P A u K n j;go_wp2_with fail;refine HN.mono ?_;rintro e w2 ⟨rfl,rfl⟩;go_wp2_with fail;refine Y.mono ?_;rintro e w2 ⟨rfl,rfl⟩;go_wp2_with fail;go_ret;exact⟨rfl,x,o,H.out,Fr.refl _ _⟩
   ·have HP:=G S;simp only[S,if_false];clear S;go_enter func22,ntmps22;go_wp2_with fail;refine R.mono ?_;rintro e w1 ⟨l,y,rfl,A,u,K,rfl⟩;obtain⟨p1,a,t,X,s⟩:=H.loc _ l y A u;rw[HA.out]at s;have P:G5 l a t y.E y.p y.g y.e y.f y.l m w:=s;obtain⟨pa,pc,n⟩:=(H.b.ents.each y (At u)).p.val;rw[n]at P;have j:=HP.out;rw[K]at j;have hd:=HOk.dog;have Y:=G (Yn l a t y.E pa pc y.g y.e y.f y.l m p M.D.now w P (by omega) (by omega) (by have:=hd.l0;have:=hd.ln;omega) hd.n1);have Q:=G (And.intro A (And.intro u (And.intro K (And.intro X n))));clear p1 X s P A u K n j hd;go_wp2_with fail;refine HN.mono ?_;rintro e w2 ⟨rfl,rfl⟩;go_wp2_with fail;refine Y.mono ?_;rintro e w2 ⟨rfl,r1,r2⟩;rw[<-Q.2.2.2.2]at r1;have z:=H.watch Q.1 Q.2.1 Q.2.2.2.1 r2 r1;rw[<-Q.2.2.1]at z;have Z:=G z;clear r1 r2 z;go_wp2_with fail;go_ret;exact⟨rfl,x,o,Z.1,Z.2⟩
end
structure Aan (B:Nat) (sa:Nat->Addr) (w0:V) (kb c:Nat) (txt:ByteArray) (x:KpX) (C:Ar) (D:Dd) (m:CM) (rg:Nat) (lv:ZE) (L:List Ap) (vt:ZE) (o0:Nat->Nat) (wa:V) (v:ZE) (k:Nat) (ls:List Nat) (o:Nat->Nat) (w:V):Prop where
 b:KpB B sa w0 kb c x C D m o w
 box:w.heap[kb]? =U (kpC x.d C x.ve c (ZA (U ⟨rg,0,O⟩)) v vt txt)
 rbox:w.heap[rg]? =U (Io c lv false)
 rrow:Av (fun b=>o b=6) w lv 4 (L.flatMap Ao) L.length
 row:Ax w w0.heap.size 112 1 v k (Ie ls)
 vb:∀b,v.ownBlock=U b->o b=9
 ln:ls.length=k
 loc:∀(j l:Nat) (y:A2),ls[j]? =U l->x.X[j]? =U y->o l=10+2*j/\w.heap[l]? =U (Lw O y.E y.p y.g y.e y.f y.l)
 org:o rg=5
 fr:Fr o0 o wa w
section
variable {B:Nat} {sa:Nat->Addr} {w0:V} {kb c:Nat} {txt:ByteArray} {x:KpX} {C:Ar} {D:Dd} {m:CM} {rg:Nat} {lv:ZE} {L:List Ap} {vt:ZE} {o0:Nat->Nat} {wa:V} {v:ZE} {k:Nat} {ls:List Nat} {o:Nat->Nat} {w w1 w2 w3 w4:V}
theorem Ax.stay{o o':Nat->Nat}{N:Nat->Prop}{w0 w w':V}(s:Stp o o' N w0 w w'){a:Nat}{e:TypeId}{size:Nat}{v:ZE}{n:Nat}{d:List ZE}(h:Ax w a e size v n d){k:Nat}(g:∀b,v.ownBlock=U b->o b=k)(f:¬N k):Ax w' a e size v n d:=
 h.keep s.kp (fun b i=>by rw[g b i];exact f)
theorem Ab4{g vl:ZE}(h:KpB B sa w0 kb c x C D m o w)(f:w.heap[kb]? =U (kpC x.d C x.ve c g vl vt txt))(i:RSt B sa w0 rg c x.rb x.cap m false L lv w1)(q:tX w w1 rg lv):
  ∃o',Aan B sa w0 kb c txt x C D m rg lv L vt o w (F O 0 0) 0 [] o' ((w1.setCell ⟨kb,7,O⟩ (ZA (U ⟨rg,0,O⟩))).setCell ⟨kb,8,O⟩ (F O 0 0)):=by
 have K:=Aa f;have k1:Ac (fun _=>False) w w1:=Al q.bel;have u:=k1.get f (fun h=>h);have S:=Aa i.ring.box;have X:=q.rg;have A:((w1.setCell ⟨kb,7,O⟩ (ZA (U ⟨rg,0,O⟩))).setCell ⟨kb,8,O⟩ (F O 0 0)).heap[kb]? =U (kpC x.d C x.ve c (ZA (U ⟨rg,0,O⟩)) (F O 0 0) vt txt):=by
  unfold kpC at u ⊢;rw[Ah _ (Ah _ u)];rfl
 obtain⟨W,p⟩:∃W,W=(w1.setCell ⟨kb,7,O⟩ (ZA (U ⟨rg,0,O⟩))).setCell ⟨kb,8,O⟩ (F O 0 0):=⟨_,rfl⟩
 have t:Ac (· =kb) w1 W:=by rw[p];exact Fo (Af _ _ _ _) _ _
 rw[<-p]at A ⊢;have R:w1.heap.size=W.heap.size:=by rw[p];simp[World.setCell]
 have E:Ac (· =kb) w W:=(k1.mono (fun _ _ h=>h.elim)).trans t;have Q:=k1.size;have bel:=h.bel.size;have s:Stp o (fun b=>if b=rg then 5 else ext o w.heap.size w1.heap.size 6 b) (fun n=>n=1) w0 w W:=by
  refine⟨E.mono (fun b _ e=>by rw[e];exact h.ok),fun b a=>?_,fun b a=>?_,?_⟩
  ·show(if b=rg then _ else _)=_
   rw[if_neg (by omega),I5 a]
  ·by_cases e:b=rg
   ·omega
   ·simp only[e,if_false]at a;by_cases H:w.heap.size<=b/\b<w1.heap.size
    ·omega
    ·unfold ext at a;rw[if_neg H]at a;have:=h.low b a;omega
  ·exact h.bel.trans ((E.mono (fun b _ e=>by rw[e];exact(h.low kb (by rw[h.ok];decide)).1):Ac (fun b=>w0.heap.size<=b) w W).below bel (fun b a=>a))
 have hne:rg≠kb:=by omega
 refine⟨_,⟨h.keep s (h.sen s (by decide)) (by decide) (by decide) (by decide) (by decide),A,t.get i.ring.box hne,?_,⟨rfl,.inl ⟨rfl,rfl⟩⟩,(fun b a=>by cases a),rfl,(fun j l y h1 _=>by simp at h1),if_pos rfl,s.fr (by decide)⟩⟩;refine((i.ring.row.reR (R':=fun b=>w.heap.size<=b/\b<w1.heap.size/\b≠rg) (fun b a P=>?_)).keep t (fun b a e=>by omega)).mono (fun b a=>?_)
 ·have h1:=q.lv b a;exact⟨h1.1,h1.2,(i.ring.row.inR a P).1.2.2⟩
 ·show(if b=rg then 5 else _)=6
  rw[if_neg a.2.2];exact I6 a.1 a.2.1
theorem Aan.next{l:Nat}{y:A2}{v':ZE}(h:Aan B sa w0 kb c txt x C D m rg lv L vt o0 wa v k ls o w)(a:ZF w.heap.size w w3)(hl:w3.heap[l]? =U (Lw O y.E y.p y.g y.e y.f y.l))(S:w.heap.size<=l)(hy:x.X[k]? =U y)
  (ho:Ax w4 w0.heap.size 112 1 v' (k+1) (Ie ls++ [ZA (U ⟨l,0,O⟩)])) (hg:w3.grownBy w4 v.ownBlock) (i:v'.ownBlock=v.ownBlock\/∀b,v'.ownBlock=U b->w3.heap.size<=b):
  (∃o',Aan B sa w0 kb c txt x C D m rg lv L vt o0 wa v' (k+1) (ls++ [l]) o' (w4.setCell ⟨kb,8,O⟩ v'))/\(∃u,w4.cell? ⟨kb,8,O⟩=U u)/\∀f,w4.frozen? ⟨kb,f,O⟩=false:=by
 have k3:Ac (fun _=>False) w w3:=Al a;have H:Ac (fun b=>U b=v.ownBlock) w3 w4:=Ac.of_grown hg;have hl3:=Aa hl;have ao:=Aa h.box;have b3:=k3.get h.box (fun h=>h);have t:¬U kb=v.ownBlock:=fun e=>by have:=h.vb kb e.symm;have:=h.b.ok;omega
 have A:=H.get b3 t;have bx:(w4.setCell ⟨kb,8,O⟩ v').heap[kb]? =U (kpC x.d C x.ve c (ZA (U ⟨rg,0,O⟩)) v' vt txt):=by
  unfold kpC at A ⊢;rw[Ah _ A];rfl
 have K:Ac (· =kb) w4 (w4.setCell ⟨kb,8,O⟩ v'):=Af _ _ _ _;have aa:w4.heap.size=(w4.setCell ⟨kb,8,O⟩ v').heap.size:=by simp[World.setCell]
 obtain⟨W,hW⟩:∃W,W=w4.setCell ⟨kb,8,O⟩ v':=⟨_,rfl⟩
 rw[<-hW]at bx K aa ⊢;have s3:=k3.size;have s4:=H.size;have bel:=h.b.bel.size;have kw:Ac (fun b=>o b=1\/o b=9) w W:=by
  have e4:Ac (fun b=>o b=1\/o b=9) w w4:=(k3.mono (fun _ _ h=>h.elim)).step H (fun b a _=>.inr (h.vb b a.symm));exact e4.step K (fun b a _=>by rw[a];exact .inl h.b.ok)
 have s:Stp o (ext (ext o w.heap.size w3.heap.size (10+2*k)) w3.heap.size w4.heap.size 9) (fun n=>n=1\/n=9) w0 w W:=by
  refine⟨kw,fun b a=>?_,fun b a=>?_,?_⟩
  ·rw[I5 (by omega),I5 a]
  ·unfold ext at a;by_cases e1:w3.heap.size<=b/\b<w4.heap.size
   ·omega
   ·rw[if_neg e1]at a;by_cases e2:w.heap.size<=b/\b<w3.heap.size
    ·omega
    ·rw[if_neg e2]at a;have:=h.b.low b a;omega
  ·refine h.b.bel.trans (kw.below bel (fun b a=>?_));have:o b≠0:=by omega
   exact(h.b.low b this).1
 have R:l≠kb:=by omega
 have Z:¬U l=v.ownBlock:=fun e=>by have:=(h.row.lt l e.symm).2;omega
 have hl4:=K.get (H.get hl Z) R;refine⟨⟨_,⟨h.b.keep s (h.b.sen s (by decide)) (by decide) (by decide) (by decide) (by decide),bx,s.get h.rbox h.org (by decide),s.sl h.rrow (by decide),?_,fun b a=>?_,by rw[R2,h.ln];rfl,fun j l' y' h1 h2=>?_,s.eq h.b.low h.org (by decide),h.fr.trans (s.fr (by decide))⟩⟩,?_,?_⟩
 ·have e:Ie (ls++ [l])=Ie ls++ [ZA (U ⟨l,0,O⟩)]:=by simp[Ie]
  rw[e];refine ho.keep K (fun b a e=>?_);rcases i with i|i
  ·rw[i]at a;rw[e]at a;exact t a.symm
  ·have:=i b a;omega
 ·have Y:=(ho.lt b a).2;rcases i with i|i
  ·rw[i]at a;exact s.eq h.b.low (h.vb b a) (by decide)
  ·exact I6 (i b a) Y
 ·by_cases hj:j<ls.length
  ·rw[Zz9 hj]at h1;have q:=h.loc j l' y' h1 h2;exact⟨s.eq h.b.low q.1 (by omega),s.get q.2 q.1 (by omega)⟩
  ·rw[Zzs (by omega)]at h1;have P:j-ls.length=0:=by
    have:=(List.getElem?_eq_some_iff.1 h1).1;simpa using this
   have Q:j=k:=by have:=h.ln;omega
   rw[P]at h1;obtain rfl:=Option.some.inj (show U l=U l' from h1);subst Q;rw[hy]at h2;obtain rfl:=Option.some.inj h2;refine⟨?_,hl4⟩;rw[I5 hl3,I6 S hl3]
 ·obtain⟨_,_,_,_,_,_,_,_,q8,_⟩:=Bv A;exact⟨_,q8⟩
 ·obtain⟨_,_,_,_,_,_,_,_,_,_,_,qf⟩:=Bv A;exact qf
theorem Aan.done{tb:Nat}(h:Aan B sa w0 kb c txt x C D m rg lv L vt o0 wa v k ls o w)(hk:k=x.X.length)(a:ZF w.heap.size w w1)(K:De w1 tb C.delay 0 .ok)(Z:w.heap.size<=tb):
  ∃o',Bq B sa w0 kb c txt ⟨x.d,x.rb,x.cap,rg,tb,lv,x.ve,v,x.X,ls⟩ ⟨C,D,m,L,false,List.replicate C.ents.length O,0,.ok⟩ o' (w1.setCell ⟨kb,9,O⟩ (ZA (U ⟨tb,0,O⟩)))/\Fr o0 o' wa (w1.setCell ⟨kb,9,O⟩ (ZA (U ⟨tb,0,O⟩))):=by
 have k1:Ac (fun _=>False) w w1:=Al a;have Y:=Aa h.box;have t:=Aa K;have A:=k1.get h.box (fun h=>h);have E:(w1.setCell ⟨kb,9,O⟩ (ZA (U ⟨tb,0,O⟩))).heap[kb]? =U (kpC x.d C x.ve c (ZA (U ⟨rg,0,O⟩)) v (ZA (U ⟨tb,0,O⟩)) txt):=by
  unfold kpC at A ⊢;rw[Ah _ A];rfl
 have u:Ac (· =kb) w1 (w1.setCell ⟨kb,9,O⟩ (ZA (U ⟨tb,0,O⟩))):=Af _ _ _ _;have p:w1.heap.size=(w1.setCell ⟨kb,9,O⟩ (ZA (U ⟨tb,0,O⟩))).heap.size:=by simp[World.setCell]
 obtain⟨W,R⟩:∃W,W=w1.setCell ⟨kb,9,O⟩ (ZA (U ⟨tb,0,O⟩)):=⟨_,rfl⟩
 rw[<-R]at E u p ⊢;have s1:=k1.size;have bel:=h.b.bel.size;have P:Ac (fun b=>o b=1) w W:=(k1.mono (fun _ _ h=>h.elim)).step u (fun b a _=>by rw[a];exact h.b.ok);have s:Stp o (ext o w.heap.size w1.heap.size 7) (fun n=>n=1) w0 w W:=by
  refine⟨P,fun b a=>I5 a,fun b a=>?_,?_⟩
  ·unfold ext at a;by_cases Q:w.heap.size<=b/\b<w1.heap.size
   ·omega
   ·rw[if_neg Q]at a;have:=h.b.low b a;omega
  ·refine h.b.bel.trans (P.below bel (fun b a=>?_));have:o b≠0:=by omega
   exact(h.b.low b this).1
 have f:C.ents.length=x.X.length:=by rw[h.b.xe,Fn]
 have i:=h.ln;refine⟨_,⟨(h.b.keep s (h.b.sen s (by decide)) (by decide) (by decide) (by decide) (by decide)).re _ _ _ _ _,E,s.get h.rbox h.org (by decide),s.sl h.rrow (by decide),?_,⟨by show ls.length=x.X.length;omega,by show(List.replicate C.ents.length (O:Option Di)).length=x.X.length;rw[Zxy,f]⟩,
  fun j l y h1 h2=>?_,u.get K (fun e=>by have e2:tb=kb:=e;omega),s.eq h.b.low h.org (by decide),I6 Z t⟩,h.fr.trans (s.fr (by decide))⟩
 ·have H:=h.row.stay s h.vb (by decide);have g:k=ls.length:=i.symm;rw[g]at H;refine H.slOf.reR (fun b a _=>?_);exact s.eq h.b.low (h.vb b a) (by decide)
 ·have q:=h.loc j l y h1 h2;have S:B9 ⟨C,D,m,L,false,List.replicate C.ents.length O,0,.ok⟩ j=O:=by
   unfold B9;rw[Of,Zx2];split<;>rfl
  rw[S];exact⟨s.eq h.b.low q.1 (by omega),0,0,fun b _ h=>by omega,s.get q.2 q.1 (by omega)⟩
end
theorem Tryz.infoPtrL:(ZI.info? 112).map (fun i=>(i.zero,i.size,i.bytes))=U (U (ZA O),1,8):=by kernel_rfl
section
variable {B:Nat} {sa:Nat->Addr} {w0:V} {kb c:Nat} {txt:ByteArray} {x:KpX} {C:Ar} {D:Dd} {m:CM} {o:Nat->Nat} {w:V}
theorem Yr{bp vl vt:ZE}(h:KpB B sa w0 kb c x C D m o w)(t:w.heap[kb]? =U (kpC x.d C x.ve c bp vl vt txt))(hb:Es C=false)(hl:153<=m.bs.length)(ho:m.off=false):
  ZH ZI 75 #[ZA (U ⟨kb,0,O⟩)] w fun e w'=>e=ZD .nilIface/\∃x' o',Bq B sa w0 kb c txt x' (Hb C D m) o' w'/\Fr o o' w w':=by
 obtain⟨i0,cc,ce,cf,cg⟩:=info_parts infoPtrL;obtain⟨k0,k1,n,k3,k4,k5,k6,k7,k8,k9,am,kf⟩:=Bv t;obtain⟨ao,cap,ah⟩:=h.ents.row.val;have ae:=h.ents.row;rw[ah]at ae;obtain⟨da,db⟩:=ae.capB;have cb:=Er hb;have dd:x.X.length<=8:=by have:=congrArg List.length h.xe;rw[Fn]at this;omega
 have a0:=G (sB B sa c x.rb x.cap m w0 w h.mem h.se hl ho h.bel ⟨(h.low c (by rw[h.oc];decide)).1,(h.low x.rb (by rw[h.orb];decide)).1,h.bl⟩);have H:=G h;have ab:=G t;have ay:=G (show 0<=C.delay/\C.delay<=20 by omega);clear h t hb hl ho cb ae k0 k1 n k3 k4 k5 k9 am;go_enter func75,ntmps75;go_wp2_with fail;refine a0.mono ?_;rintro e w1 ⟨rg,lv,rfl,hr,hn⟩;obtain⟨o1,st1⟩:=Ab4 H ab hr hn;have R:=G st1;have k1:=(Al hn.bel).get ab (fun h=>h);obtain⟨q0,q1,q2,q3,q4,q5,q6,q7,q8,q9,cm,qf⟩:=Bv k1;clear q0 q1 q2 q3 q4 q5 q6 q9 cm hr hn st1 k1 a0 ab k6 k7 k8 kf;go_upto_region 5 with fail;generalize World.setCell _ _ _=w2 at R ⊢;obtain⟨k0,k1,n,k3,k4,k5,k6,k7,k8,k9,am,kf⟩:=Bv R.box;rw[ah]at k5;clear q7 q8 qf k0 k1 n k3 k4 k6 k7 k8 k9 am kf;go_wp2_with fail;go_loopw [31] (fun s wr=>∃(i:Nat) (a1:Option Addr) (k1:Nat) (ls:List Nat) (o1:Nat->Nat),i<=x.X.length/\s=I J i/\Hid (Aan B sa w0 kb c txt x C D m rg lv (Fg m.bs) vt o w (F a1 i k1) i ls o1 wr)) (fun s _=>x.X.length-(intOf s).toNat);case atStart=>exact⟨0,O,0,[],o1,In _,rfl,R⟩
 case round=>
  obtain⟨i,a1,j1,ls,o2,hi,rfl,a⟩:=hrel;clear R k5;by_cases ag:i<x.X.length
  ·have A:=a.b.ents.row;rw[ah]at A;obtain⟨b,off,rfl,c8,c9,hc⟩:=Ks A (by omega);obtain⟨q0,q1,q2,q3,q4,q5,q6,q7,q8,q9⟩:=hc i ag;obtain⟨y,hy⟩:∃y,y=x.X[i]:=⟨_,rfl⟩
   rw[<-hy]at q0 q1 q2 q3 q4 q5 q6 q7 q8 q9;have a8:x.X[i]? =U y:=by rw[R4 ag,hy]
   have j:=a.b.ents.each y (by rw[hy];exact M2 ag);obtain⟨pa,pc,al⟩:=j.p.val;obtain⟨ga,gc,aj⟩:=j.g.val;obtain⟨ea,ec,K⟩:=j.e.val;obtain⟨fa,fc,ai⟩:=j.f.val;obtain⟨la,lc,ak⟩:=j.l.val;rw[al]at q2;rw[aj]at q6;rw[K]at q7;rw[ai]at q8;rw[ak]at q9;obtain⟨xe,Y⟩:∃xe,xe=y.E:=⟨_,rfl⟩
   have b7:Hid (∀W,ZF wr.heap.size wr W->ZH ZI 116 #[.agg #[ZB xe.name,I J xe.tol,F pa xe.points.length pc,I J xe.count,I J xe.mn,I J xe.mx,F ga xe.gaps.length gc,F ea xe.edges.length ec,F fa xe.first.length fc,F la xe.last.length lc]] W
     fun e w'=>∃l,e=ZD (ZA (U ⟨l,0,O⟩))/\wr.heap.size<=l/\w'.heap[l]? =U (Lw O y.E y.p y.g y.e y.f y.l)/\ZF wr.heap.size wr w'):=(show _ from by
    intro W S;rw[Y,<-al,<-aj,<-K,<-ai,<-ak];refine(sF y.E y.p y.g y.e y.f y.l W).mono ?_;rintro e w1 ⟨rfl,h1,h2⟩;exact⟨_,rfl,No S.size (by omega),h1,S.trans (h2.mono S.size)⟩)
   rw[<-Y]at q0 q1 q2 q3 q4 q5 q6 q7 q8 q9;have HA:Hid (∀(l:Nat) (W W4:V) (a2:Option Addr) (n:Nat),ZF wr.heap.size wr W->W.heap[l]? =U (Lw O y.E y.p y.g y.e y.f y.l)->wr.heap.size<=l->Ax W4 w0.heap.size 112 1 (F a2 (i+1) n) (i+1) (Ie ls++ [ZA (U ⟨l,0,O⟩)])->W.grownBy W4 (Value.slice a1 i j1).ownBlock->
     ((Value.slice a2 (i+1) n).ownBlock=(Value.slice a1 i j1).ownBlock\/∀b,(Value.slice a2 (i+1) n).ownBlock=U b->W.heap.size<=b)->
     (∃o',Hid (Aan B sa w0 kb c txt x C D m rg lv (Fg m.bs) vt o w (F a2 (i+1) n) (i+1) (ls++ [l]) o' (W4.setCell ⟨kb,8,O⟩ (F a2 (i+1) n))))/\(∃u,W4.cell? ⟨kb,8,O⟩=U u)/\∀f,W4.frozen? ⟨kb,f,O⟩=false):=(show _ from by
    intro l W W4 a2 n h1 h2 h3 h4 h5 h6;exact a.next h1 h2 h3 a8 h4 h5 h6)
   have az:Hid (∀W,ZF wr.heap.size wr W->Ax W w0.heap.size 112 1 (F a1 i j1) i (Ie ls)/\w0.heap.size<=W.heap.size):=(show _ from fun W S=>⟨a.row.later S,by have:=S.size;have:=a.b.bel.size;omega⟩)
   obtain⟨v0,v1,v2,v3,v4,v5,v6,v7,k8,v9,Q,kf⟩:=Bv a.box;clear v0 v1 v2 v3 v4 v5 v6 v7 v9 Q A hc hy j al aj K ai ak a8;have a5:kb<wr.heap.size:=Aa a.box;have b8:=G a.out;have c4:=G Y;clear a Y;have b6:Hid (∀W,ZF wr.heap.size wr W->W.cell? ⟨kb,8,O⟩=U (F a1 i j1)/\kb<W.heap.size):=(show _ from fun W S=>⟨by rw[S.cell (p:=⟨kb,8,O⟩) a5];exact k8,by have:=S.size;omega⟩)
   go_upto_region 8 with fail;have P:=Ab wr (ZC (As xe (F pa xe.points.length pc) (F ga xe.gaps.length gc) (F ea xe.edges.length ec) (F fa xe.first.length fc) (F la xe.last.length lc)) 50);have q:ZF wr.heap.size wr (wr.alloc (ZC (As xe (F pa xe.points.length pc) (F ga xe.gaps.length gc) (F ea xe.edges.length ec) (F fa xe.first.length fc) (F la xe.last.length lc)) 50)):=(R1 _ _).alloc (Y2 _) _;unfold As at P q;rw[<-q.cell (p:=⟨kb,8,O⟩) a5]at k8;have ck:∀f,(wr.alloc (ZC #[ZB xe.name,I J xe.tol,F pa xe.points.length pc,I J xe.count,I J xe.mn,I J xe.mx,F ga xe.gaps.length gc,F ea xe.edges.length ec,F fa xe.first.length fc,F la xe.last.length lc] 50)).frozen? ⟨kb,f,O⟩=false:=by
    obtain⟨_,_,_,_,_,_,_,_,_,_,_,cl⟩:=Bv ((Al q).get b8.box (fun h=>h));exact cl
   clear kf q0 q1 q2 q3 q4 q5 q6 q7 q8 q9;generalize wr.alloc _=w3 at P q k8 ck ⊢;obtain⟨z0,z1,z2,z3,z4,z5,z6,z7,z8,z9,zf⟩:=Bo P;obtain⟨eb,af⟩:∃eb,eb=wr.heap.size:=⟨_,rfl⟩
   have ct:eb<w3.heap.size:=by rw[af];exact Aa P
   rw[<-af]at z0 z1 z2 z3 z4 z5 z6 z7 z8 z9 ⊢;clear af P zf;go_region_law (first|(go_simp;go_at_call 116;refine(b7 _ ?_).mono ?_;(repeat(first|exact q|refine H5 ?_));rintro e w5 ⟨l,rfl,l1,l2,b5⟩;obtain⟨dg,dc⟩:=b6 w5 b5)|(refine Dh rfl (.tmp 39) (.tmp 42) 64 rfl w0.heap.size 112 i0 _ 1 8 underlying64 cc ce cf cg rfl (by decide) (.slice a1 i j1) i (Ie ls) rfl ?_ ⟨w5.heap.size,0,O⟩ 1 1 [ZA (U ⟨l,0,O⟩)] rfl rfl ?_ (by intro u hu;simp at hu;subst hu;rfl) (by unfold maxLen;omega) (by omega) ?_ ?_;exact(az _ (by repeat(first|exact b5|refine H5 ?_|refine Zzv ?_ (Below.size b5) _))).1;exact A1 _ [ZA (U ⟨l,0,O⟩)] _;exact(az _ (by repeat(first|exact b5|refine H5 ?_|refine Zzv ?_ (Below.size b5) _))).2;intro a2 n w6 a7 a3 a6;obtain⟨⟨o3,F1⟩,⟨u8,d8⟩,df⟩:=HA l _ w6 _ _ (by repeat(first|exact b5|refine H5 ?_|refine Zzv ?_ (Below.size b5) _)) (Bp _ l2) l1 a7 a3 a6;clear a7 a3 a6));all_goals
    go_wp2_with fail;go_roundw;case rel=>exact⟨i+1,a2,n,ls++ [l],o3,by omega,by go_num,F1⟩
    case measure=>simp[intOf];omega
  ·have a4:i=x.X.length:=by omega
   obtain⟨v0,v1,v2,v3,k4,v5,v6,v7,v8,v9,Q,cn⟩:=Bv a.box;have HT:=G (qY C.delay wr ay.1 ay.2);have b4:=G a4;clear v0 v1 v2 v3 v5 v6 v7 v8 v9 Q cn a4;go_wp2_with fail;refine HT.mono ?_;rintro e w3 ⟨rfl,t1,b3⟩;obtain⟨o',z1,z2⟩:=a.done b4 b3 t1 (Y2 _);have Z:=G (And.intro z1 z2);obtain⟨v0,v1,v2,v3,v4,v5,v6,v7,v8,k9,Q,kf⟩:=Bv ((Al b3).get a.box (fun h=>h));clear v0 v1 v2 v3 v4 v5 v6 v7 v8 Q t1 b3 z1 z2 k4 a;go_wp2_with fail;go_ret;exact⟨rfl,_,o',Z.1,Z.2⟩
end
section
variable {B:Nat} {sa:Nat->Addr} {w0:V} {kb c:Nat} {txt:ByteArray} {x:KpX} {M:KpM} {o:Nat->Nat} {w:V} {T:Nat}
theorem xM(h:Bq B sa w0 kb c txt x M o w):ZH ZI 24 #[ZA (U ⟨kb,0,O⟩)] w fun e w'=>e=ZD (ZB (Me M))/\w=w':=by
 obtain⟨k0,k1,l,n,p,q,A,s,t,u,g,y⟩:=Bv h.box;have a:=G (Rf c x.rb _ x.cap M.m w h.b.mem);have f:=G (Mg x.d M.D w h.b.dog);clear h k1 l n p q s t u g y;unfold Me;cases j:M.m.off
 ·rw[j]at a;cases i:M.D.reset
  ·rw[i]at f;go_enter func24,ntmps24;go_wp2_with fail;refine a.mono ?_;rintro e w1 ⟨rfl,rfl⟩;go_wp2_with fail;refine f.mono ?_;rintro e w1 ⟨rfl,rfl⟩;go_wp2_with fail;go_ret;exact⟨rfl,rfl⟩
  ·rw[i]at f;go_enter func24,ntmps24;go_wp2_with fail;refine a.mono ?_;rintro e w1 ⟨rfl,rfl⟩;go_wp2_with fail;refine f.mono ?_;rintro e w1 ⟨rfl,rfl⟩;go_wp2_with fail;go_ret;exact⟨rfl,rfl⟩
 ·rw[j]at a;go_enter func24,ntmps24;go_wp2_with fail;refine a.mono ?_;rintro e w1 ⟨rfl,rfl⟩;go_wp2_with fail;go_ret;exact⟨rfl,rfl⟩
theorem xK(h:Bq B sa w0 kb c txt x M o w):ZH ZI 25 #[ZA (U ⟨kb,0,O⟩)] w fun e w'=>e=ZD (ZB M.st.str)/\w=w':=by
 obtain⟨k0,k1,f,g,i,j,l,n,p,s,a,q⟩:=Bv h.box;have d:=G (W0 x.tb _ _ _ w h.tot);clear h k0 k1 f g i j l n p a q;go_enter func25,ntmps25;go_wp2_with fail;refine d.mono ?_;rintro e w1 ⟨rfl,rfl⟩;go_wp2_with fail;go_ret;exact⟨rfl,rfl⟩
theorem Ack(h:Bq B sa w0 kb c txt x M o w):ZH ZI 142 #[ZA (U ⟨kb,0,O⟩)] w fun e w'=>e=ZD (ZB txt)/\w=w':=by
 obtain⟨k0,k1,d,f,g,i,j,l,n,p,a,q⟩:=Bv h.box;clear h k0 k1 d f g i j l n p q;go_enter func142,ntmps142;go_wp2_with fail;go_ret;exact⟨rfl,rfl⟩
theorem Agp(h:Bq B sa w0 kb c txt x M o w)(i:Bn M T):ZH ZI 28 #[ZA (U ⟨kb,0,O⟩)] w fun e w'=>∃v,e=ZD v/\Av (fun b=>w.heap.size<=b) w' v 4 (M.L.flatMap Ao) M.L.length/\ZF w.heap.size w w':=by
 obtain⟨k0,k1,j,l,n,p,q,A,s,t,a,u⟩:=Bv h.box;have g:=G (W2 w x.rg c x.lv M.dead M.L _ ⟨h.rbox,h.rrow⟩ (by have:=i.l8;omega));clear h k0 k1 j l n p q s t a u;go_enter func28,ntmps28;go_wp2_with fail;refine g.mono ?_;rintro e w1 ⟨v,rfl,h1,h2⟩;have d:=G h1;have f:=G h2;obtain⟨y,cap,rfl⟩:=h1.val;clear h1 h2;go_wp2_with fail;go_ret;exact⟨_,rfl,d.out,f.out⟩
theorem xP(h:Bq B sa w0 kb c txt x M o w)(s:Bn M T):ZH ZI 136 #[ZA (U ⟨kb,0,O⟩)] w fun e w'=>e=ZD (.tuple #[Aq (Gd M.L),.bool (!M.L.isEmpty)])/\ZF w.heap.size w w':=by
 have f:ZF w.heap.size w (w.alloc (D7 ⟨0,0,0,0⟩)):=(R1 _ _).alloc (Y2 _) _;have i:=Ab w (D7 ⟨0,0,0,0⟩);have a:=G f;have d:=G i;have H:=G (h.below f);have l:=G s.l8.1;clear h f i;unfold D7 at a d H;go_enter func136,ntmps136;go_upto_region 1 with fail;generalize w.alloc _=w1 at a d H ⊢;obtain⟨k0,k1,t,u,y,A,E,K,P,Q,p,R⟩:=Bv H.box;have q:=G (Tw w1 x.rg c x.lv M.dead M.L _ ⟨H.rbox,H.rrow.here⟩ (fun b h=>h) (by have:=l.out;omega));clear k0 k1 t u y A E P Q p R;unfold Aq at q;go_wp2_with fail;refine q.mono ?_;rintro e w2 ⟨rfl,n⟩;have g:=Ae n d (Aa d.out);obtain⟨S,z1,z2,X⟩:=Ay g;have Y:∀o,w2.frozen? ⟨w.heap.size,o,O⟩=false:=fun o=>Eu g;have j:=G (a.trans (n.mono a.size));clear K g n;go_wp2_with fail;refine bodyPost_ret (v:=.tuple #[Aq (Gd M.L),.bool (!M.L.isEmpty)]) (by simp[Aq,results,results136,go_sem,S,z1,z2,X,O2,O1]) rfl ?_;exact⟨rfl,Bd j.out⟩
end
section
variable {B:Nat} {sa:Nat->Addr} {w0:V} {kb c:Nat} {txt:ByteArray} {x:KpX} {M:KpM} {o:Nat->Nat} {w:V} {T:Nat}
theorem Ajw(C:Ar)(D D':Dd)(m:CM):({ Hb C D m with D:=D'}:KpM)=Hb C D' m:=by simp only[Hb]
theorem Acm(h:Bq B sa w0 kb c txt x M o w)(n:Bn M T):
  ZH ZI 127 #[ZA (U ⟨kb,0,O⟩)] w (Ft B sa w0 kb c txt (Lx M) o w):=by
 unfold Ft;have a:=G (Ue h);have H:=G h;have HOk:=G n;obtain⟨k0,k1,p,s,t,u,y,A,E,K,f,P⟩:=Bv h.box;unfold Lx;by_cases h0:Hs M=0
 ·rw[h0]at a;rw[if_pos h0];obtain⟨_,_,_,_,_,_,_,_,_,s9,_⟩:=h.b.se.all;clear h n h0 k0 k1 p s t u y A E K f P;go_enter func127,ntmps127;go_wp2_with fail;refine a.mono ?_;rintro e w1 ⟨rfl,rfl⟩;rw[Fe];go_wp2_with fail;go_ret;exact⟨rfl,x,o,H.out,Fr.refl _ _⟩
 ·rw[if_neg h0];obtain⟨q,hq⟩:∃q,Hs M=q+1:=⟨Hs M-1,by omega⟩
  rw[hq]at a;have i:=G (Aad c x.rb _ x.cap M.m w h.b.mem);have HK:=G (fun w1 (k:Ac (· =c) w w1) (g:A7 w1 c x.rb (U ⟨x.rb,0,O⟩) x.cap ⟨M.m.bs,false,-1,M.m.wr⟩)=>(show Bq B sa w0 kb c txt x { M with m:=⟨M.m.bs,false,-1,M.m.wr⟩} o w1/\Fr o o w w1 from⟨h.cell' k g,Fr.of k (fun b Y=>by rw[Y];have:=h.b.oc;omega)⟩));have Q:=G n.len;clear h n h0 hq k0 k1 p s t u A E K f P;go_enter func127,ntmps127;go_wp2_with fail;refine a.mono ?_;rintro e w1 ⟨rfl,rfl⟩;rw[Gf];go_wp2_with fail;refine i.mono ?_;rintro e w1 ⟨rfl,g1,g2⟩;obtain⟨z1,z2⟩:=HK w1 g2 g1;have j:=G (Yr z1.b z1.box HOk.bound (by show 153<=M.m.bs.length;rw[Q.out];decide) rfl);have HF:=G z2;clear g1 g2 z1 z2 y HK i;go_wp2_with fail;refine j.mono ?_;rintro e w2 ⟨rfl,x',o',z1,z2⟩;have HZ:=G z1;have R:=G (HF.trans z2);obtain⟨j0,k1,p,s,t,u,y,A,E,K,f,P⟩:=Bv z1.box;have l:=G (tG x'.d M.D w2 z1.b.dog);clear z1 z2 k1 p s t u y A E K f P j HF;go_wp2_with fail;refine l.mono ?_;rintro e w3 ⟨rfl,g1,g2⟩;have Z:=HZ.dog' g2 g1;rw[Ajw]at Z;have X:=G Z;have S:=G (R.trans (Fr.of g2 (fun b Y=>by rw[Y];have:=HZ.b.od;omega)));clear g1 g2 j0 l Z;go_wp2_with fail;go_ret;exact⟨rfl,x',o',X.out,S.out⟩
end
theorem Adf{L:List Ak}(h:Qf L=(0,-1)):∀j,j<L.length->Jd L j=0:=by
 intro j a;unfold Qf at h;split at h
 ·next i hi=>
  have:=(Prod.mk.inj h).2;omega
 ·next hn=>
  rw[List.find?_range_eq_none]at hn;simpa using hn j a
theorem Cv{C:Ar}(h:B4 C=(0,-1)):Es C=false/\¬C.opn<C.cycle/\∀j,j<C.ents.length->Jd C.ents j=0:=by
 unfold B4 at h;split at h
 ·cases h
 split at h
 ·cases h
 next h1 h2=>exact⟨by simpa using h1,h2,Adf h⟩
