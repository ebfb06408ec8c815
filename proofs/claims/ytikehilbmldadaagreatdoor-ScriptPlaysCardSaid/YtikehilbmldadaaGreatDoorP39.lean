import Derived.Test.YtikehilbmldadaaGreatDoorP32
import Derived.Test.YtikehilbmldadaaGreatDoorP11
set_option maxHeartbeats 8000000
set_option maxRecDepth 100000
set_option linter.unusedVariables false
namespace Go.Proofs.YtikehilbmldadaaGreatDoor
open Proofs.Tryz YtikehilbmldadaaGreatDoor.Tryz RowKit
open Go renaming World->V,Value->ZE,RowKit.Below->ZF,RowKit.Hid->ZG,Calls->ZH,Value.int->I,IntKind.i64->J,Value.slice->F,Value.pointer->ZA,Value.string->ZB,Ending.returned->ZD,Value.tuple->ZM,Proofs.Tryz.prog->ZI
open Option renaming some->U,none->O
def fT(j:Nat):TypeId:=[9,126,127,3,3].getD j 3
def fS(j:Nat):Nat:=[1,4,2,1,1].getD j 1
def fO(j:Nat):Nat:=[2,6,7,8,9].getD j 2
def fV(y:A2)(j:Nat):ZE:=[y.p,y.g,y.e,y.f,y.l].getD j y.p
def fN(E:Ak)(j:Nat):Nat:=[E.points.length,E.gaps.length,E.edges.length,E.first.length,E.last.length].getD j 0
def fC(E:Ak)(j:Nat):List ZE:=[Aj E.points,E.gaps.flatMap Cu,E.edges.flatMap Cn,Ad E.first,Ad E.last].getD j []
def Tn(base:Nat)(o:Nat->Option Nat)(t:Nat)(y:A2)(w:V):Prop:=
 ∀j,j<5->Ax w base (fT j) (fS j) (fV y j) (fN y.E j) (fC y.E j)/\∀b,(fV y j).ownBlock=U b->o b=U (t+j)
theorem Tn.keep{a:Nat}{o o':Nat->Option Nat}{t:Nat}{y:A2}{S:Nat->Prop}{w w':V}(h:Tn a o t y w)(k:Ac S w w')(f:∀b,b<w.heap.size->S b->∀j,j<5->o b≠U (t+j))(g:∀b,b<w.heap.size->o' b=o b):Tn a o' t y w':=by
 intro j e;obtain⟨h1,h2⟩:=h j e;refine⟨h1.keep k (fun b d i=>f b (h1.lt b d).2 i j e (h2 b d)),fun b d=>?_⟩;rw[g b (h1.lt b d).2];exact h2 b d
theorem Tn.slOf{a:Nat}{o:Nat->Option Nat}{t:Nat}{y:A2}{w:V}(h:Tn a o t y w):Dk (fun b=>a<=b/\b<w.heap.size) w y.E y.p y.g y.e y.f y.l:=by
 have k:∀{v:ZE} {e:TypeId} {i:Nat} {d:List ZE} {n:Nat},Ax w a e i v n d->Av (fun b=>a<=b/\b<w.heap.size) w v i d n:=by
  intro v e i d n h;obtain⟨B,m,cap,D,h1,h2,h3,q⟩:=h.slOf;refine⟨B,m,cap,D,h1,h2,h3,fun C=>?_⟩;obtain⟨b,off,u,s,j,A⟩:=q C;exact⟨b,off,u,⟨s.1,j⟩,j,A⟩
 exact⟨k (h 0 (by decide)).1,k (h 1 (by decide)).1,k (h 2 (by decide)).1,k (h 3 (by decide)).1,k (h 4 (by decide)).1⟩
def R7(C:Ar)(v:ZE)(st:Int):Array ZE:=#[I J C.closed,I J C.opn,I J C.cycle,I J C.delay,v,I J st]
structure Gg (base rb:Nat) (o:Nat->Option Nat) (C:Ar) (st:Int) (v:ZE) (Y:List A2) (w:V):Prop where
 blk:w.heap[rb]? =U (.cells (R7 C v st) 150)
 lo:rb<base
 top:base<=w.heap.size
 fr:∀b,w.heap.size<=b->o b=O
 ob:∀b,b<base->o b=O
 row:Ax w base 50 10 v Y.length (Y.flatMap A5)
 rt:∀b,v.ownBlock=U b->o b=U 0
 own:∀i (hi:i<Y.length),Tn base o (1+5*i) Y[i] w
 eq:C.ents=Y.map A2.E
theorem Gg.keep{a rb:Nat}{o:Nat->Option Nat}{C:Ar}{st:Int}{v:ZE}{Y:List A2}{S:Nat->Prop}{w w':V}(h:Gg a rb o C st v Y w)(k:Ac S w w')(f:∀b,b<w.heap.size->S b->b≠rb/\o b=O):Gg a rb o C st v Y w':=by
 have g:=Aa h.blk;refine⟨k.get h.blk (fun e=>(f rb g e).1 rfl),h.lo,No h.top k.size,fun b d=>h.fr b (No k.size d),h.ob,?_,h.rt,fun i hi=>?_,h.eq⟩
 ·exact h.row.keep k (fun b d e=>by have:=(f b (h.row.lt b d).2 e).2;rw[h.rt b d]at this;cases this)
 ·exact(h.own i hi).keep k (fun b d e j l=>by rw[(f b d e).2];simp) (fun _ _=>rfl)
theorem Gg.later{a rb:Nat}{o:Nat->Option Nat}{C:Ar}{st:Int}{v:ZE}{Y:List A2}{w w':V}(h:Gg a rb o C st v Y w)(b:ZF w.heap.size w w'):Gg a rb o C st v Y w':=
 h.keep (Al b) (fun _ _ h=>h.elim)
theorem Gk{w:V}{rb:Nat}{C:Ar}{v:ZE}{st:Int}(h:w.heap[rb]? =U (.cells (R7 C v st) 150)):
  w.cell? ⟨rb,0,O⟩=U (I J C.closed)/\w.cell? ⟨rb,1,O⟩=U (I J C.opn)/\w.cell? ⟨rb,2,O⟩=U (I J C.cycle)/\w.cell? ⟨rb,3,O⟩=U (I J C.delay)/\w.cell? ⟨rb,4,O⟩=U v/\w.cell? ⟨rb,5,O⟩=U (I J st)/\∀o,w.frozen? ⟨rb,o,O⟩=false:=by
 unfold R7 at h;simp[World.cell?,World.frozen?,h]
theorem Gg.set{a rb:Nat}{o:Nat->Option Nat}{C C':Ar}{st st':Int}{v:ZE}{Y:List A2}{w:V}(h:Gg a rb o C st v Y w)(k:Nat)(u:ZE)(m:(R7 C v st).setIfInBounds k u=R7 C' v st')(l:C'.ents=C.ents):Gg a rb o C' st' v Y (w.setCell ⟨rb,k,O⟩ u):=by
 have f:=Af w rb k u;have d:o rb=O:=h.ob rb h.lo;refine⟨?_,h.lo,No h.top f.size,fun b e=>h.fr b (No f.size e),h.ob,?_,h.rt,fun i hi=>?_,by rw[l];exact h.eq⟩
 ·rw[Ah _ h.blk,m]
 ·exact h.row.keep f (fun b e g=>by have:=h.rt b e;rw[show b=rb from g,d]at this;cases this)
 ·exact(h.own i hi).keep f (fun b e g j n=>by rw[show b=rb from g,d];simp) (fun _ _=>rfl)
theorem Ax.stored{w:V}{a:Nat}{e:TypeId}{size g off n cap:Nat}{p:List ZE}(h:Ax w a e size (F (U ⟨g,off,O⟩) n cap) n p)(j:Nat)(D:j<n*size)(u:ZE):
  Ax (w.setCell ⟨g,off+j,O⟩ u) a e size (F (U ⟨g,off,O⟩) n cap) n (p.set j u)/\w.frozen? ⟨g,off+j,O⟩=false:=by
 rcases h.2 with⟨t,_⟩|⟨C,o,l,f,B,h2,h3,m,v,y,A⟩
 ·cases t
 ·obtain⟨q,_,s⟩:=Value.slice.inj B;obtain⟨rfl,rfl,_⟩:=Addr.mk.inj (Option.some.inj q);subst s;refine⟨⟨by rw[Zyz];exact h.1,.inr ⟨g,off,cap,f.setIfInBounds (off+j) u,rfl,h2,Ah u h3,m,v,by simpa using y,?_⟩⟩,by simp[World.frozen?,h3]⟩;rw[Array.toList_setIfInBounds,<-A];apply Zxl;intro i;simp only[Zyv,Zyu,Zxn,By,B2,C2];have E:n*size<=cap*size:=Zxw _ m;by_cases hi:i<n*size
  ·simp only[hi,if_true];by_cases d:j=i
   ·subst d;rw[if_pos rfl,if_pos rfl,if_pos (by omega),if_pos (by omega)]
   ·rw[if_neg (by omega),if_neg d]
  ·simp only[hi,if_false];rw[if_neg (by omega)]
theorem Gg.form{a rb:Nat}{o:Nat->Option Nat}{C:Ar}{st:Int}{v:ZE}{Z:List A2}{y:A2}{w:V}(h:Gg a rb o C st v (Z++ [y]) w):
  ∃g off cap,v=F (U ⟨g,off,O⟩) (Z.length+1) cap/\(Z.length+1<=cap/\cap<=maxLen)/\o g=U 0/\a<=g/\g<w.heap.size/\g≠rb/\∀k u,(A5 y)[k]? =U u->w.cell? ⟨g,off+(Z.length*10+k),O⟩=U u:=by
 have d:=h.row;rw[R2,G3]at d;rcases d.2 with⟨_,h0⟩|⟨g,off,cap,e,rfl,h2,h3,f,i,l,m⟩
 ·omega
 ·refine⟨g,off,cap,rfl,⟨f,i⟩,h.rt g rfl,h2,Aa h3,by have:=h.lo;omega,fun k u j=>?_⟩;have:=d.cells (g:=g) (off:=off) (cap:=cap) (Z.length*10+k) u (by
   rw[B1,Zzs (by rw[Hj A5 10 (fun _=>rfl)];omega),Hj A5 10 (fun _=>rfl)];simpa using j)
  rw[Dt]at this;exact this
theorem qF(Z:List A2)(y y':A2)(k:Nat)(e:k<10)(u:ZE)(a:A5 y'=(A5 y).set k u):((Z++ [y]).flatMap A5).set (Z.length*10+k) u=(Z++ [y']).flatMap A5:=by
 have d:(Z.flatMap A5).length=Z.length*10:=Hj A5 10 (fun _=>rfl) Z;rw[B1,B1,Zzj,Zzj,a,List.set_append_right _ _ (by omega),d,Nat.add_sub_cancel_left]
theorem Ab2{o:Nat->Option Nat}{T:Nat}{v v2:ZE}{w1:V}(a:v2.ownBlock=v.ownBlock\/∀b,v2.ownBlock=U b->w1.heap.size<=b)(d:∀b,v.ownBlock=U b->o b=U T){b:Nat}(e:b<w1.heap.size)(h2:v2.ownBlock=U b):o b=U T:=by
 rcases a with a|a
 ·exact d b (by rw[<-a];exact h2)
 ·have:=a b h2;omega
theorem Gg.appF{m rb:Nat}{o:Nat->Option Nat}{C C':Ar}{st:Int}{Z:List A2}{y y':A2}{w w1 w2:V}{g off cap:Nat}(h:Gg m rb o C st (F (U ⟨g,off,O⟩) (Z.length+1) cap) (Z++ [y]) w)(j:Nat)(hj:j<5)(b1:ZF w.heap.size w w1){v2:ZE}{n:Nat}{cs:List ZE}
  (S:Ax w2 m (fT j) (fS j) v2 n cs) (hg:w1.grownBy w2 (fV y j).ownBlock) (hn:v2.ownBlock=(fV y j).ownBlock\/∀b,v2.ownBlock=U b->w1.heap.size<=b)
  (hX:A5 y'=(A5 y).set (fO j) v2) (hO:(A5 y)[fO j]? =U (fV y j)) (d:∀i,i<5->i≠j->fV y' i=fV y i/\fN y'.E i=fN y.E i/\fC y'.E i=fC y.E i) (R:fV y' j=v2/\fN y'.E j=n/\fC y'.E j=cs)
  (hC:R7 C' (F (U ⟨g,off,O⟩) (Z.length+1) cap) st=R7 C (F (U ⟨g,off,O⟩) (Z.length+1) cap) st) (hE:C'.ents=(Z++ [y']).map A2.E):
  (∃o',Gg m rb o' C' st (F (U ⟨g,off,O⟩) (Z.length+1) cap) (Z++ [y']) (w2.setCell ⟨g,off+(Z.length*10+fO j),O⟩ v2))/\Ac (fun b=>∃t,o b=U t) w (w2.setCell ⟨g,off+(Z.length*10+fO j),O⟩ v2)/\
   w2.cell? ⟨g,off+(Z.length*10+fO j),O⟩=U (fV y j)/\w2.frozen? ⟨g,off+(Z.length*10+fO j),O⟩=false:=by
 have P:fO j<10:=by
  match j,hj with
  |0,_=>decide
  |1,_=>decide
  |2,_=>decide
  |3,_=>decide
  |4,_=>decide
 have X:(Z++ [y]).length=Z.length+1:=by rw[R2,G3]
 have u:=h.own Z.length (by omega);rw[Zyx rfl]at u;obtain⟨av,v⟩:=u j hj;have aq:g<w.heap.size:=(h.row.lt g rfl).2;have f:o g=U 0:=h.rt g rfl;have ai:=b1.size;have k1:Ac (fun b=>o b=U (1+5*Z.length+j)) w w2:=(Ac.refl _ w).step (Ac.of_below b1) (fun b a hl=>by omega) |>.step (Ac.of_grown hg) (fun b a hl=>v b (Eq.symm a))
 have Y:=Af w2 g (off+(Z.length*10+fO j)) v2;have M:Ac (fun b=>o b=U (1+5*Z.length+j)\/b=g) w (w2.setCell ⟨g,off+(Z.length*10+fO j),O⟩ v2):=(k1.mono (fun b _ a=>.inl a)).step Y (fun b a _=>.inr a);have T:=M.size;have l:=h.row.keep k1 (fun b a d=>by rw[h.rt b a]at d;injection d with d;omega);rw[X]at l;have K:Z.length*10+fO j<(Z.length+1)*10:=by omega
 have L:=l.stored (Z.length*10+fO j) K v2;have p:=l.cells (Z.length*10+fO j) (fV y j) (by
  rw[B1,Zzs (by rw[Hj A5 10 (fun _=>rfl)];omega),Hj A5 10 (fun _=>rfl)];simpa using hO)
 rw[Dt]at p;have D:v2.ownBlock≠U g:=fun e=>by
  have:=Ab2 hn v (by omega) e;rw[f]at this;injection this with this;omega
 refine⟨⟨fun b=>if v2.ownBlock=U b then U (1+5*Z.length+j) else o b,?_⟩,M.mono (fun b _ a=>by rcases a with a|rfl;exact⟨_,a⟩;exact⟨_,f⟩),p,L.2⟩;have H:∀b,b<w.heap.size->(if v2.ownBlock=U b then U (1+5*Z.length+j) else o b)=o b:=by
  intro b a;split
  ·next e=>exact(Ab2 hn v (by omega) e).symm
  ·rfl
 have s:o rb=O:=h.ob rb h.lo;have au:=Aa h.blk;refine⟨?_,h.lo,No h.top T,fun b a=>?_,fun b a=>?_,?_,fun b a=>?_,fun i hi=>?_,hE⟩
 ·rw[hC];exact M.get h.blk (fun d=>by rcases d with d|d;rw[s]at d;cases d;rw[d,f]at s;cases s)
 ·rw[if_neg (fun e=>by have:=(S.lt b e).2;have:=Y.size;omega)];exact h.fr b (by omega)
 ·rw[if_neg (fun e=>by have:=(S.lt b e).1;omega)];exact h.ob b a
 ·have:=L.1;rw[qF Z y y' (fO j) P v2 hX]at this;rw[R2,G3];exact this
 ·obtain rfl:g=b:=Option.some.inj a;rw[if_neg D];exact f
 ·rw[R2,G3]at hi;by_cases Q:i<Z.length
  ·have hy:=h.own i (by omega);rw[Zzd Q]at hy ⊢;refine hy.keep M (fun b a d N q A=>?_) H;rcases d with d|rfl
   ·rw[d]at A;injection A with A;omega
   ·rw[f]at A;injection A with A;omega
  ·obtain rfl:i=Z.length:=by omega
   rw[Zyx rfl];intro N q;by_cases B:N=j
   ·subst B;obtain⟨q1,q2,q3⟩:=R;rw[q1,q2,q3];refine⟨S.keep Y (fun b a d=>D (by rw[<-show b=g from d];exact a)),fun b a=>if_pos a⟩
   ·obtain⟨q1,q2,q3⟩:=d N q B;rw[q1,q2,q3];obtain⟨p1,p2⟩:=u N q;refine⟨p1.keep M (fun b a d=>?_),fun b a=>?_⟩
    ·rcases d with d|rfl
     ·rw[p2 b a]at d;injection d with d;omega
     ·rw[p2 b a]at f;injection f with f;omega
    ·show(if v2.ownBlock=U b then U (1+5*Z.length+j) else o b)=_
     rw[H b (p1.lt b a).2];exact p2 b a
theorem Gg.far{d rb:Nat}{o:Nat->Option Nat}{C:Ar}{st:Int}{v:ZE}{Y:List A2}{w w1 w2:V}(h:Gg d rb o C st v Y w)(g:ZF w.heap.size w w1){u:ZE}{T:Nat}(n:∀b,u.ownBlock=U b->o b=U T)(j:w1.grownBy w2 u.ownBlock):
  ∀b k,b<w.heap.size->o b=O->w2.cell? ⟨b,k,O⟩=w.cell? ⟨b,k,O⟩/\w2.frozen? ⟨b,k,O⟩=w.frozen? ⟨b,k,O⟩:=by
 intro b k f m;have k1:Ac (fun b=>o b=U T) w w2:=(Ac.refl _ w).step (Ac.of_below g) (fun b f l=>by have:=g.size;omega) |>.step (Ac.of_grown j) (fun b f l=>n b (Eq.symm f))
 have e:=k1.block b f (fun i=>by rw[m]at i;cases i);exact⟨Zy7 (a:=⟨b,k,O⟩) e,World.frozen?_of_block (a:=⟨b,k,O⟩) e⟩
theorem Gg.appE{f rb:Nat}{o:Nat->Option Nat}{C:Ar}{st:Int}{v v2:ZE}{Y:List A2}{w w1 w2:V}(h:Gg f rb o C st v Y w)(A:ZF w.heap.size w w1)(name:ByteArray)(tol:Int)
  (p:Ax w2 f 50 10 v2 (Y.length+1) (Y.flatMap A5++A5 ⟨Vo name tol,F O 0 0,F O 0 0,F O 0 0,F O 0 0,F O 0 0⟩)) (D:w1.grownBy w2 v.ownBlock) (M:v2.ownBlock=v.ownBlock\/∀b,v2.ownBlock=U b->w1.heap.size<=b):
  (∃o',Gg f rb o' { C with ents:=C.ents++ [Vo name tol]} st v2 (Y++ [⟨Vo name tol,F O 0 0,F O 0 0,F O 0 0,F O 0 0,F O 0 0⟩]) (w2.setCell ⟨rb,4,O⟩ v2))/\Ac (fun b=>b=rb\/∃t,o b=U t) w (w2.setCell ⟨rb,4,O⟩ v2)/\w2.cell? ⟨rb,4,O⟩=U v/\w2.frozen? ⟨rb,4,O⟩=false:=by
 have B:=A.size;have n:o rb=O:=h.ob rb h.lo;have N:=Aa h.blk;have k1:Ac (fun b=>o b=U 0) w w2:=(Ac.refl _ w).step (Ac.of_below A) (fun b a L=>by omega) |>.step (Ac.of_grown D) (fun b a L=>h.rt b (Eq.symm a))
 have u:=Af w2 rb 4 v2;have y:Ac (fun b=>o b=U 0\/b=rb) w (w2.setCell ⟨rb,4,O⟩ v2):=(k1.mono (fun b _ a=>.inl a)).step u (fun b a _=>.inr a);have s:=y.size;have d:=k1.get h.blk (fun g=>by rw[n]at g;cases g);have q:∀b,b<w.heap.size->(if v2.ownBlock=U b then U 0 else o b)=o b:=by
  intro b a;split
  ·next e=>exact(Ab2 M h.rt (by omega) e).symm
  ·rfl
 refine⟨⟨fun b=>if v2.ownBlock=U b then U 0 else o b,?_⟩,y.mono (fun b _ a=>by rcases a with a|rfl;exact .inr ⟨_,a⟩;exact .inl rfl),by simp[World.cell?,d,R7],by simp[World.frozen?,d]⟩;refine⟨?_,h.lo,No h.top s,fun b a=>?_,fun b a=>?_,?_,fun b a=>by rw[if_pos a],fun i hi=>?_,?_⟩
 ·rw[Ah _ d];rfl
 ·rw[if_neg (fun e=>by have:=(p.lt b e).2;have:=u.size;omega)];exact h.fr b (by omega)
 ·rw[if_neg (fun e=>by have:=(p.lt b e).1;omega)];exact h.ob b a
 ·rw[R2,G3,B1,Zzj];exact p.keep u (fun b a g=>by have:=(p.lt b a).1;have:=h.lo;have:b=rb:=g;omega)
 ·rw[R2,G3]at hi;by_cases m:i<Y.length
  ·rw[Zzd m];refine(h.own i m).keep y (fun b a g P H l=>?_) q;rcases g with g|rfl
   ·rw[g]at l;injection l with l;omega
   ·rw[n]at l;cases l
  ·obtain rfl:i=Y.length:=by omega
   rw[Zyx rfl];intro j K;match j,K with
   |0,_=>exact⟨⟨rfl,.inl ⟨rfl,rfl⟩⟩,fun b a=>by cases a⟩
   |1,_=>exact⟨⟨rfl,.inl ⟨rfl,rfl⟩⟩,fun b a=>by cases a⟩
   |2,_=>exact⟨⟨rfl,.inl ⟨rfl,rfl⟩⟩,fun b a=>by cases a⟩
   |3,_=>exact⟨⟨rfl,.inl ⟨rfl,rfl⟩⟩,fun b a=>by cases a⟩
   |4,_=>exact⟨⟨rfl,.inl ⟨rfl,rfl⟩⟩,fun b a=>by cases a⟩
 ·show C.ents++ [Vo name tol]=(Y++ [_]).map A2.E
  rw[B0,h.eq];rfl
theorem Tryz.infoEntR:(ZI.info? 50).map (fun i=>(i.zero,i.size,i.bytes))=U (U (.agg (As ⟨ByteArray.empty,0,[],0,0,0,[],[],[],[]⟩ (F O 0 0) (F O 0 0) (F O 0 0) (F O 0 0) (F O 0 0))),10,168):=by kernel_rfl
def Iv(base rb:Nat)(o:Nat->Option Nat)(C':Ar)(st:Int)(w w':V):Prop:=
 (∃o' v' Y',Gg base rb o' C' st v' Y' w')/\Ac (fun b=>b=rb\/∃t,o b=U t) w w'
theorem Iv.drew{a rb:Nat}{o:Nat->Option Nat}{C':Ar}{st:Int}{w w':V}(h:Iv a rb o C' st w w'):Iv a rb o C' st w w'.drew:=by
 obtain⟨⟨e,f,d,h1⟩,h2⟩:=h;exact⟨⟨e,f,d,h1.later ((R1 _ _).drew)⟩,h2.drew⟩
theorem Afe(d rb:Nat)(o:Nat->Option Nat)(C:Ar)(v:ZE)(Y:List A2)(w:V)(h:Gg d rb o C 0 v Y w)(name:ByteArray)(nb f g:Nat)(a b:Int)
  (E:w.cell? ⟨nb,f,O⟩=U (I J a)) (n1:w.cell? ⟨nb,f+1,O⟩=U (I J b)) (j:¬nb=rb):
  ZH ZI 114 #[ZA (U ⟨rb,0,O⟩),I J 0,ZB name,F (U ⟨nb,f,O⟩) 2 g] w fun e w'=>e=ZD (ZM #[])/\Iv d rb o (Cc 0 name [a,b] C) 0 w w':=by
 have i:∀k u,Ac (fun b=>b=rb\/∃t,o b=U t) w (w.setCell ⟨rb,k,O⟩ u):=fun k u=>(Af w rb k u).mono (fun b _ n=>.inl n);have l:ZG (Iv d rb o (Cc 0 name [a,b] C) 0 w ((w.setCell ⟨rb,0,O⟩ (I J a)).setCell ⟨rb,1,O⟩ (I J b))):=
  (show Iv d rb o (Cc 0 name [a,b] C) 0 w ((w.setCell ⟨rb,0,O⟩ (I J a)).setCell ⟨rb,1,O⟩ (I J b))from
   ⟨⟨o,v,Y,(h.set (C':={ C with closed:=a}) (st':=0) 0 (I J a) rfl rfl).set (C':=Cc 0 name [a,b] C) (st':=0) 1 (I J b) rfl rfl⟩,(i 0 (I J a)).setCell (p:=⟨rb,1,O⟩) (fun _=>.inl rfl) _⟩)
 have m:ZG (Iv d rb o (Cc 0 name [a,b] C) 0 w ((w.setCell ⟨rb,1,O⟩ (I J b)).setCell ⟨rb,0,O⟩ (I J a))):=
  (show Iv d rb o (Cc 0 name [a,b] C) 0 w ((w.setCell ⟨rb,1,O⟩ (I J b)).setCell ⟨rb,0,O⟩ (I J a))from
   ⟨⟨o,v,Y,(h.set (C':={ C with opn:=b}) (st':=0) 1 (I J b) rfl rfl).set (C':=Cc 0 name [a,b] C) (st':=0) 0 (I J a) rfl rfl⟩,(i 1 (I J b)).setCell (p:=⟨rb,0,O⟩) (fun _=>.inl rfl) _⟩)
 obtain⟨c0,c1,s,y,A,B,D⟩:=Gk h.blk;have q:¬rb=nb:=fun e=>j e.symm;clear h i;go_enter func114,ntmps114;go_wp2_with fail;go_region;all_goals
  go_wp2_with fail;go_end0;first
   |exact⟨rfl,l.out⟩
   |exact⟨rfl,m.out⟩
   |exact⟨rfl,l.drew⟩
   |exact⟨rfl,m.drew⟩
theorem Afd(d rb:Nat)(o:Nat->Option Nat)(C:Ar)(v:ZE)(Y:List A2)(w:V)(h:Gg d rb o C 1 v Y w)(name:ByteArray)(nb f g:Nat)(a:Int)
  (s:w.cell? ⟨nb,f,O⟩=U (I J a)):
  ZH ZI 114 #[ZA (U ⟨rb,0,O⟩),I J 1,ZB name,F (U ⟨nb,f,O⟩) 1 g] w fun e w'=>e=ZD (ZM #[])/\Iv d rb o (Cc 1 name [a] C) 1 w w':=by
 have i:ZG (Iv d rb o (Cc 1 name [a] C) 1 w (w.setCell ⟨rb,2,O⟩ (I J a))):=
  (show Iv d rb o (Cc 1 name [a] C) 1 w (w.setCell ⟨rb,2,O⟩ (I J a))from
   ⟨⟨o,v,Y,h.set (C':=Cc 1 name [a] C) (st':=1) 2 (I J a) rfl rfl⟩,(Af w rb 2 (I J a)).mono (fun b _ j=>.inl j)⟩)
 obtain⟨c0,c1,l,m,n,p,q⟩:=Gk h.blk;clear h;go_enter func114,ntmps114;go_wp2_with fail;go_end0;exact⟨rfl,i.out⟩
theorem Afc(d rb:Nat)(o:Nat->Option Nat)(C:Ar)(v:ZE)(Y:List A2)(w:V)(h:Gg d rb o C 2 v Y w)(name:ByteArray)(nb f g:Nat)(a:Int)
  (s:w.cell? ⟨nb,f,O⟩=U (I J a)):
  ZH ZI 114 #[ZA (U ⟨rb,0,O⟩),I J 2,ZB name,F (U ⟨nb,f,O⟩) 1 g] w fun e w'=>e=ZD (ZM #[])/\Iv d rb o (Cc 2 name [a] C) 2 w w':=by
 have i:ZG (Iv d rb o (Cc 2 name [a] C) 2 w (w.setCell ⟨rb,3,O⟩ (I J a))):=
  (show Iv d rb o (Cc 2 name [a] C) 2 w (w.setCell ⟨rb,3,O⟩ (I J a))from
   ⟨⟨o,v,Y,h.set (C':=Cc 2 name [a] C) (st':=2) 3 (I J a) rfl rfl⟩,(Af w rb 3 (I J a)).mono (fun b _ j=>.inl j)⟩)
 obtain⟨c0,c1,l,m,n,p,q⟩:=Gk h.blk;clear h;go_enter func114,ntmps114;go_wp2_with fail;go_end0;exact⟨rfl,i.out⟩
theorem Afb(d rb:Nat)(o:Nat->Option Nat)(C:Ar)(v:ZE)(Y:List A2)(w:V)(h:Gg d rb o C 3 v Y w)(R:Y.length<=100000)(name:ByteArray)(nb f D:Nat)(a:Int)
  (X:w.cell? ⟨nb,f,O⟩=U (I J a)) (t:nb<w.heap.size) (A:o nb=O):
  ZH ZI 114 #[ZA (U ⟨rb,0,O⟩),I J 3,ZB name,F (U ⟨nb,f,O⟩) 1 D] w fun e w'=>e=ZD (ZM #[])/\Iv d rb o (Cc 3 name [a] C) 3 w w':=by
 obtain⟨i0,E,K,L,M⟩:=info_parts infoEntR;obtain⟨i,cap,rfl⟩:=h.row.val;have H:=Aa h.blk;have B:o rb=O:=h.ob rb h.lo;have l:ZG (∀W,ZF w.heap.size w W->Ax W d 50 10 (F i Y.length cap) Y.length (Y.flatMap A5)/\d<=W.heap.size):=(show _ from fun W m=>⟨h.row.later m,No h.top m.size⟩)
 obtain⟨c0,c1,c2,c3,Q,c5,cf⟩:=Gk h.blk;have HC:ZG (∀W,ZF w.heap.size w W->W.cell? ⟨rb,4,O⟩=U (F i Y.length cap)/\W.cell? ⟨nb,f,O⟩=U (I J a)):=(show _ from fun W m=>⟨by rw[m.cell (p:=⟨rb,4,O⟩) H];exact Q,by rw[m.cell (p:=⟨nb,f,O⟩) t];exact X⟩)
 have Z:ZG (∀(w1 g:V) (j:ZE),ZF w.heap.size w w1->Ax g d 50 10 j (Y.length+1) (Y.flatMap A5++A5 ⟨Vo name a,F O 0 0,F O 0 0,F O 0 0,F O 0 0,F O 0 0⟩)->w1.grownBy g (Value.slice i Y.length cap).ownBlock->(j.ownBlock=(Value.slice i Y.length cap).ownBlock\/∀b,j.ownBlock=U b->w1.heap.size<=b)->
   ZG (Iv d rb o (Cc 3 name [a] C) 3 w (g.setCell ⟨rb,4,O⟩ j))/\(g.cell? ⟨rb,4,O⟩=U (F i Y.length cap)/\g.cell? ⟨nb,f,O⟩=U (I J a))/\g.frozen? ⟨rb,4,O⟩=false):=(show _ from by
  intro w1 g j P ho S hn;obtain⟨⟨o',hA⟩,hK,hc,hf⟩:=h.appE P name a ho S hn;refine⟨⟨⟨o',j,_,hA⟩,hK⟩,⟨hc,?_⟩,hf⟩;rw[(h.far P h.rt S nb f t A).1];exact X)
 have ag:=R;clear h R A B;go_enter func114,ntmps114;go_upto_region 23 with fail;go_region_law (refine Dh rfl (.tmp 164) (.tmp 170) 28 rfl d 50 i0 _ 10 168 underlying28 E K L M rfl (by decide) (.slice i Y.length cap) Y.length (Y.flatMap A5) rfl ?_ ⟨w.heap.size,0,O⟩ 1 1 (A5 ⟨Vo name a,F O 0 0,F O 0 0,F O 0 0,F O 0 0,F O 0 0⟩) rfl rfl ?_ (by intro u T;simp[A5,As]at T;rcases T with rfl|rfl|rfl|rfl|rfl|rfl|rfl|rfl|rfl|rfl<;>rfl) (by unfold maxLen;omega) (by omega) ?_ ?_;exact(l _ (by repeat(first|exact R1 _ _|refine H5 ?_|refine Zzv ?_ (by simp) _))).1;exact A1 _ (A5 ⟨Vo name a,F O 0 0,F O 0 0,F O 0 0,F O 0 0,F O 0 0⟩) _;exact(l _ (by repeat(first|exact R1 _ _|refine H5 ?_|refine Zzv ?_ (by simp) _))).2;intro a1 k1 w6 y q s;have n:=Z _ w6 _ (by repeat(first|exact R1 _ _|refine H5 ?_|refine Zzv ?_ (by simp) _)) y q s);all_goals
  obtain⟨N,⟨d4,_⟩,df⟩:=n;clear y q s c0 c1 c2 c3 Q c5 cf;go_wp2_with fail;go_end0;first
   |exact⟨rfl,N.out⟩
   |exact⟨rfl,N.drew⟩
theorem Gg.last{a rb:Nat}{o:Nat->Option Nat}{C:Ar}{st:Int}{v:ZE}{Z:List A2}{y:A2}{w:V}(h:Gg a rb o C st v (Z++ [y]) w):Tn a o (1+5*Z.length) y w:=by
 have:=h.own Z.length (by rw[R2];simp);rw[Zyx rfl]at this;exact this
theorem Ud{C:Ar}{Z:List A2}{y:A2}(h:C.ents=(Z++ [y]).map A2.E):Cd C.ents=y.E/\C.ents.dropLast=Z.map A2.E:=by
 rw[h,B0,Zzb,lastE_app',List.dropLast_concat];exact⟨rfl,rfl⟩
where lastE_app' {L:List Ak} {E:Ak}:Cd (L++ [E])=E:=by simp[Cd]
theorem Ou{C:Ar}{Z:List A2}{y y':A2}(h:C.ents=(Z++ [y]).map A2.E)(k:Nat)(d:4<=k)(name:ByteArray)(n:List Int)(a:Fv k name n y.E=y'.E):(Cc k name n C).ents=(Z++ [y']).map A2.E:=by
 obtain⟨h1,h2⟩:=Ud h;unfold Cc;rw[if_neg (by omega),if_neg (by omega),if_neg (by omega),if_neg (by omega)];show C.ents.dropLast++ [Fv k name n (Cd C.ents)]=_
 rw[h1,h2,a,B0];rfl
theorem Ur(C:Ar)(k:Nat)(a:3<=k)(name:ByteArray)(n:List Int)(v:ZE)(st:Int):R7 (Cc k name n C) v st=R7 C v st:=by
 unfold Cc;rw[if_neg (by omega),if_neg (by omega),if_neg (by omega)];split<;>rfl
theorem Afa(a rb:Nat)(o:Nat->Option Nat)(C:Ar)(v:ZE)(Z:List A2)(y:A2)(w:V)(h:Gg a rb o C 4 v (Z++ [y]) w)(hZ:Z.length<=100000)(hn:y.E.points.length<=100000)(name:ByteArray)(nv:ZE):
  ZH ZI 114 #[ZA (U ⟨rb,0,O⟩),I J 4,ZB name,nv] w fun e w'=>e=ZD (ZM #[])/\Iv a rb o (Cc 4 name [] C) 4 w w':=by
 obtain⟨i0,S,Y,aa,ab⟩:=info_parts infoStr;obtain⟨g,off,cap,rfl,⟨R,av⟩,T,au,ax,aw,j⟩:=h.form;have a0:=Aa h.blk;have n:=h.last;obtain⟨A,X⟩:=n 0 (by decide);obtain⟨pa,B,d⟩:=A.val;have d:y.p=F pa y.E.points.length B:=d;have q:ZG (∀W,ZF w.heap.size w W->Ax W a 9 1 (F pa y.E.points.length B) y.E.points.length (Aj y.E.points)/\a<=W.heap.size):=(show _ from fun W hW=>⟨by rw[<-d];exact A.later hW,No h.top hW.size⟩)
 obtain⟨c0,c1,c2,c3,c4,c5,cf⟩:=Gk h.blk;have q2:=j 2 _ rfl;rw[d,<-Zzm]at q2;have Q:ZG (∀(w1 D:V) (s:Option Addr) (t:Nat),ZF w.heap.size w w1->Ax D a 9 1 (F s (y.E.points.length+1) t) (y.E.points.length+1) (Aj y.E.points++ [ZB name])->w1.grownBy D (Value.slice pa y.E.points.length B).ownBlock->((Value.slice s (y.E.points.length+1) t).ownBlock=(Value.slice pa y.E.points.length B).ownBlock\/∀b,(Value.slice s (y.E.points.length+1) t).ownBlock=U b->w1.heap.size<=b)->
   ZG (Iv a rb o (Cc 4 name [] C) 4 w (D.setCell ⟨g,off+Z.length*10+2,O⟩ (F s (y.E.points.length+1) t)))/\D.cell? ⟨g,off+Z.length*10+2,O⟩=U (F pa y.E.points.length B)/\D.frozen? ⟨g,off+Z.length*10+2,O⟩=false):=(show _ from by
  intro w1 D s t b1 ho hg L;rw[<-d]at hg L ⊢;have hE:=Ou (y':=⟨Fv 4 name [] y.E,F s (y.E.points.length+1) t,y.g,y.e,y.f,y.l⟩) h.eq 4 (by decide) name [] rfl;obtain⟨⟨o',hA⟩,hK,hc,hf⟩:=h.appF (y':=⟨Fv 4 name [] y.E,F s (y.E.points.length+1) t,y.g,y.e,y.f,y.l⟩) (C':=Cc 4 name [] C) 0 (by decide) b1 ho hg L rfl rfl
   (fun i hi hne=>by
    match i,hi with
    |0,_=>exact absurd rfl hne
    |1,_=>exact⟨rfl,rfl,rfl⟩
    |2,_=>exact⟨rfl,rfl,rfl⟩
    |3,_=>exact⟨rfl,rfl,rfl⟩
    |4,_=>exact⟨rfl,rfl,rfl⟩
    )
   ⟨rfl,by show(y.E.points++ [name]).length=_;simp,by show Aj (y.E.points++ [name])=_;simp[Aj]⟩ (Ur C 4 (by decide) name _ _ 4) hE
  rw[show fO 0=2 from rfl,<-Zzm]at hA hK hc hf;exact⟨⟨⟨o',_,_,hA⟩,hK.mono (fun b _ hb=>.inr hb)⟩,hc,hf⟩)
 obtain⟨m,hm⟩:∃m,m=Z.length:=⟨_,rfl⟩
 obtain⟨P,M⟩:∃P,P=y.E.points.length:=⟨_,rfl⟩
 rw[<-hm]at R Q q2 c4 hZ;rw[<-M]at hn q Q q2;clear h n A X d j hm M T;go_enter func114,ntmps114;go_upto_region 2 with fail;go_quiet (fail);go_wp2_with (at_builtin;go_must (refine A3 rfl (.tmp 32) (.tmp 34) 22 rfl a 9 i0 _ 1 16 underlying22 S Y aa ab rfl (by decide) (.slice pa P B) P (Aj y.E.points) rfl (q _ (by repeat(first|exact R1 _ _|refine Ag _ ?_|refine H5 ?_|refine Zzv ?_ (by simp) _))).1 ⟨w.heap.size,0,O⟩ 1 1 [ZB name] rfl rfl (A1 _ [ZB name] _) (by intro u hu;simp at hu;subst hu;rfl) (by unfold maxLen;omega) (by omega) (q _ (by repeat(first|exact R1 _ _|refine Ag _ ?_|refine H5 ?_|refine Zzv ?_ (by simp) _))).2 ?_;intro a1 k1 w6 N H K;obtain⟨F1,d4,df⟩:=Q _ w6 _ _ (by repeat(first|exact R1 _ _|refine Ag _ ?_|refine H5 ?_|refine Zzv ?_ (by simp) _)) N H K;clear N H K));go_end0;first
  |exact⟨rfl,F1.out⟩
  |exact⟨rfl,F1.drew⟩
theorem Ae6(d rb:Nat)(o:Nat->Option Nat)(C:Ar)(v:ZE)(Z:List A2)(y:A2)(w:V)(h:Gg d rb o C 8 v (Z++ [y]) w)(hZ:Z.length<=100000)(hn:y.E.first.length<=100000)(name:ByteArray)(nb s aa:Nat)(a:Int)(n0:w.cell? ⟨nb,s,O⟩=U (I J a))(al:nb<w.heap.size)(an:o nb=O):
  ZH ZI 114 #[ZA (U ⟨rb,0,O⟩),I J 8,ZB name,F (U ⟨nb,s,O⟩) 1 aa] w fun e w'=>e=ZD (ZM #[])/\Iv d rb o (Cc 8 name [a] C) 8 w w':=by
 obtain⟨i0,ak,aq,ar,au⟩:=info_parts infoInt;obtain⟨g,off,cap,rfl,⟨ag,bh⟩,H,bg,aj,bi,n⟩:=h.form;have bm:=Aa h.blk;have q:=h.last;obtain⟨K,ap⟩:=q 3 (by decide);obtain⟨pa,L,j⟩:=K.val;have j:y.f=F pa y.E.first.length L:=j;have t:ZG (∀W,ZF w.heap.size w W->Ax W d 3 1 (F pa y.E.first.length L) y.E.first.length (Ad y.E.first)/\d<=W.heap.size):=(show _ from fun W hW=>⟨by rw[<-j];exact K.later hW,No h.top hW.size⟩)
 obtain⟨c0,c1,c2,c3,c4,c5,cf⟩:=Gk h.blk;have q2:=n 8 _ rfl;rw[j,<-Zzm]at q2;have ah:¬g=nb:=fun e=>by rw[e,an]at H;cases H
 have bk:¬nb=g:=fun e=>ah e.symm;have ai:¬g=w.heap.size:=by omega
 have P:¬w.heap.size=g:=by omega
 have am:¬nb=w.heap.size:=by omega
 have T:¬w.heap.size=nb:=by omega
 have HA:ZG (∀(w1 M:V) (A:Option Addr) (B:Nat),ZF w.heap.size w w1->Ax M d 3 1 (F A (y.E.first.length+1) B) (y.E.first.length+1) (Ad y.E.first++ [I J a])->w1.grownBy M (Value.slice pa y.E.first.length L).ownBlock->((Value.slice A (y.E.first.length+1) B).ownBlock=(Value.slice pa y.E.first.length L).ownBlock\/∀b,(Value.slice A (y.E.first.length+1) B).ownBlock=U b->w1.heap.size<=b)->
   ZG (Iv d rb o (Cc 8 name [a] C) 8 w (M.setCell ⟨g,off+Z.length*10+8,O⟩ (F A (y.E.first.length+1) B)))/\M.cell? ⟨g,off+Z.length*10+8,O⟩=U (F pa y.E.first.length L)/\M.frozen? ⟨g,off+Z.length*10+8,O⟩=false):=(show _ from by
  intro w1 M A B b1 ho hg R;rw[<-j]at hg R ⊢;have hE:=Ou (y':=⟨Fv 8 name [a] y.E,y.p,y.g,y.e,F A (y.E.first.length+1) B,y.l⟩) h.eq 8 (by decide) name [a] rfl;obtain⟨⟨o',hA⟩,hK,hc,hf⟩:=h.appF (y':=⟨Fv 8 name [a] y.E,y.p,y.g,y.e,F A (y.E.first.length+1) B,y.l⟩) (C':=Cc 8 name [a] C) 3 (by decide) b1 ho hg R rfl rfl
   (fun i hi hne=>by
    match i,hi with
    |0,_=>exact⟨rfl,rfl,rfl⟩
    |1,_=>exact⟨rfl,rfl,rfl⟩
    |2,_=>exact⟨rfl,rfl,rfl⟩
    |3,_=>exact absurd rfl hne
    |4,_=>exact⟨rfl,rfl,rfl⟩
    )
   ⟨rfl,by show(y.E.first++ [a]).length=_;simp,by show Ad (y.E.first++ [a])=_;simp[Ad]⟩ (Ur C 8 (by decide) name _ _ 8) hE
  rw[show fO 3=8 from rfl,<-Zzm]at hA hK hc hf;exact⟨⟨⟨o',_,_,hA⟩,hK.mono (fun b _ hb=>.inr hb)⟩,hc,hf⟩)
 obtain⟨m,hm⟩:∃m,m=Z.length:=⟨_,rfl⟩
 obtain⟨np,S⟩:∃np,np=y.E.first.length:=⟨_,rfl⟩
 rw[<-hm]at ag HA q2 c4 hZ;rw[<-S]at hn t HA q2;clear h q K ap j n hm S H;go_enter func114,ntmps114;go_upto_region 2 with fail;go_quiet (fail);generalize hq:World.drewN w _=wq;have bq:ZF w.heap.size w wq:=by rw[<-hq];exact Ag _ (R1 _ _)
 have D:=bq.size;have ec:∀p,wq.cell? p=w.cell? p:=fun p=>by rw[<-hq];rfl
 have Y:wq.heap.size=w.heap.size:=by rw[<-hq];rfl
 rw[<-ec]at n0 q2;rw[<-Y]at ai P am T aj al;clear hq ec Y c0 c1 c2 c3 c4 c5 cf;go_upto_region 13 with fail;go_region_law (refine Dh rfl (.tmp 106) (.tmp 110) 48 rfl d 3 i0 _ 1 8 underlying48 ak aq ar au rfl (by decide) (.slice pa np L) np (Ad y.E.first) rfl ?_ ⟨wq.heap.size,0,O⟩ 1 1 [I J a] rfl rfl ?_ (by intro u hu;simp at hu;subst hu;rfl) (by unfold maxLen;omega) (by omega) ?_ ?_;exact(t _ (by repeat(first|exact bq|refine H5 ?_|refine Zzv ?_ D _))).1;exact A1 _ [I J a] _;exact(t _ (by repeat(first|exact bq|refine H5 ?_|refine Zzv ?_ D _))).2;intro a1 k1 w6 X N Q;obtain⟨F1,d4,df⟩:=HA _ w6 _ _ (by repeat(first|exact bq|refine H5 ?_|refine Zzv ?_ D _)) X N Q;clear X N Q);all_goals
  go_wp2_with fail;go_end0;first
   |exact⟨rfl,F1.out⟩
   |exact⟨rfl,F1.drew⟩
theorem Ae5(d rb:Nat)(o:Nat->Option Nat)(C:Ar)(v:ZE)(Z:List A2)(y:A2)(w:V)(h:Gg d rb o C 9 v (Z++ [y]) w)(hZ:Z.length<=100000)(hn:y.E.last.length<=100000)(name:ByteArray)(nb s aa:Nat)(a:Int)(n0:w.cell? ⟨nb,s,O⟩=U (I J a))(al:nb<w.heap.size)(an:o nb=O):
  ZH ZI 114 #[ZA (U ⟨rb,0,O⟩),I J 9,ZB name,F (U ⟨nb,s,O⟩) 1 aa] w fun e w'=>e=ZD (ZM #[])/\Iv d rb o (Cc 9 name [a] C) 9 w w':=by
 obtain⟨i0,ak,aq,ar,au⟩:=info_parts infoInt;obtain⟨g,off,cap,rfl,⟨ag,bh⟩,H,bg,aj,bi,n⟩:=h.form;have bm:=Aa h.blk;have q:=h.last;obtain⟨K,ap⟩:=q 4 (by decide);obtain⟨pa,L,j⟩:=K.val;have j:y.l=F pa y.E.last.length L:=j;have t:ZG (∀W,ZF w.heap.size w W->Ax W d 3 1 (F pa y.E.last.length L) y.E.last.length (Ad y.E.last)/\d<=W.heap.size):=(show _ from fun W hW=>⟨by rw[<-j];exact K.later hW,No h.top hW.size⟩)
 obtain⟨c0,c1,c2,c3,c4,c5,cf⟩:=Gk h.blk;have q2:=n 9 _ rfl;rw[j,<-Zzm]at q2;have ah:¬g=nb:=fun e=>by rw[e,an]at H;cases H
 have bk:¬nb=g:=fun e=>ah e.symm;have ai:¬g=w.heap.size:=by omega
 have P:¬w.heap.size=g:=by omega
 have am:¬nb=w.heap.size:=by omega
 have T:¬w.heap.size=nb:=by omega
 have HA:ZG (∀(w1 M:V) (A:Option Addr) (B:Nat),ZF w.heap.size w w1->Ax M d 3 1 (F A (y.E.last.length+1) B) (y.E.last.length+1) (Ad y.E.last++ [I J a])->w1.grownBy M (Value.slice pa y.E.last.length L).ownBlock->((Value.slice A (y.E.last.length+1) B).ownBlock=(Value.slice pa y.E.last.length L).ownBlock\/∀b,(Value.slice A (y.E.last.length+1) B).ownBlock=U b->w1.heap.size<=b)->
   ZG (Iv d rb o (Cc 9 name [a] C) 9 w (M.setCell ⟨g,off+Z.length*10+9,O⟩ (F A (y.E.last.length+1) B)))/\M.cell? ⟨g,off+Z.length*10+9,O⟩=U (F pa y.E.last.length L)/\M.frozen? ⟨g,off+Z.length*10+9,O⟩=false):=(show _ from by
  intro w1 M A B b1 ho hg R;rw[<-j]at hg R ⊢;have hE:=Ou (y':=⟨Fv 9 name [a] y.E,y.p,y.g,y.e,y.f,F A (y.E.last.length+1) B⟩) h.eq 9 (by decide) name [a] rfl;obtain⟨⟨o',hA⟩,hK,hc,hf⟩:=h.appF (y':=⟨Fv 9 name [a] y.E,y.p,y.g,y.e,y.f,F A (y.E.last.length+1) B⟩) (C':=Cc 9 name [a] C) 4 (by decide) b1 ho hg R rfl rfl
   (fun i hi hne=>by
    match i,hi with
    |0,_=>exact⟨rfl,rfl,rfl⟩
    |1,_=>exact⟨rfl,rfl,rfl⟩
    |2,_=>exact⟨rfl,rfl,rfl⟩
    |3,_=>exact⟨rfl,rfl,rfl⟩
    |4,_=>exact absurd rfl hne
    )
   ⟨rfl,by show(y.E.last++ [a]).length=_;simp,by show Ad (y.E.last++ [a])=_;simp[Ad]⟩ (Ur C 9 (by decide) name _ _ 9) hE
  rw[show fO 4=9 from rfl,<-Zzm]at hA hK hc hf;exact⟨⟨⟨o',_,_,hA⟩,hK.mono (fun b _ hb=>.inr hb)⟩,hc,hf⟩)
 obtain⟨m,hm⟩:∃m,m=Z.length:=⟨_,rfl⟩
 obtain⟨np,S⟩:∃np,np=y.E.last.length:=⟨_,rfl⟩
 rw[<-hm]at ag HA q2 c4 hZ;rw[<-S]at hn t HA q2;clear h q K ap j n hm S H;go_enter func114,ntmps114;go_upto_region 2 with fail;go_quiet (fail);generalize hq:World.drewN w _=wq;have bq:ZF w.heap.size w wq:=by rw[<-hq];exact Ag _ (R1 _ _)
 have D:=bq.size;have ec:∀p,wq.cell? p=w.cell? p:=fun p=>by rw[<-hq];rfl
 have Y:wq.heap.size=w.heap.size:=by rw[<-hq];rfl
 rw[<-ec]at n0 q2;rw[<-Y]at ai P am T aj al;clear hq ec Y c0 c1 c2 c3 c4 c5 cf;go_upto_region 15 with fail;go_region_law (refine Dh rfl (.tmp 120) (.tmp 124) 48 rfl d 3 i0 _ 1 8 underlying48 ak aq ar au rfl (by decide) (.slice pa np L) np (Ad y.E.last) rfl ?_ ⟨wq.heap.size,0,O⟩ 1 1 [I J a] rfl rfl ?_ (by intro u hu;simp at hu;subst hu;rfl) (by unfold maxLen;omega) (by omega) ?_ ?_;exact(t _ (by repeat(first|exact bq|refine H5 ?_|refine Zzv ?_ D _))).1;exact A1 _ [I J a] _;exact(t _ (by repeat(first|exact bq|refine H5 ?_|refine Zzv ?_ D _))).2;intro a1 k1 w6 X N Q;obtain⟨F1,d4,df⟩:=HA _ w6 _ _ (by repeat(first|exact bq|refine H5 ?_|refine Zzv ?_ D _)) X N Q;clear X N Q);all_goals
  go_wp2_with fail;go_end0;first
   |exact⟨rfl,F1.out⟩
   |exact⟨rfl,F1.drew⟩
theorem Ae7(d rb:Nat)(o:Nat->Option Nat)(C:Ar)(v:ZE)(Z:List A2)(y:A2)(w:V)(h:Gg d rb o C 7 v (Z++ [y]) w)(hZ:Z.length<=100000)(hn:y.E.edges.length<=100000)(name:ByteArray)(nb s aa:Nat)(a b:Int)(n0:w.cell? ⟨nb,s,O⟩=U (I J a))(n1:w.cell? ⟨nb,s+1,O⟩=U (I J b))(al:nb<w.heap.size)(an:o nb=O):
  ZH ZI 114 #[ZA (U ⟨rb,0,O⟩),I J 7,ZB name,F (U ⟨nb,s,O⟩) 2 aa] w fun e w'=>e=ZD (ZM #[])/\Iv d rb o (Cc 7 name [a,b] C) 7 w w':=by
 obtain⟨i0,ak,aq,ar,au⟩:=info_parts infoEdge;obtain⟨g,off,cap,rfl,⟨ag,bh⟩,H,bg,aj,bi,n⟩:=h.form;have bm:=Aa h.blk;have q:=h.last;obtain⟨K,ap⟩:=q 2 (by decide);obtain⟨pa,L,j⟩:=K.val;have j:y.e=F pa y.E.edges.length L:=j;have t:ZG (∀W,ZF w.heap.size w W->Ax W d 127 2 (F pa y.E.edges.length L) y.E.edges.length (y.E.edges.flatMap Cn)/\d<=W.heap.size):=(show _ from fun W hW=>⟨by rw[<-j];exact K.later hW,No h.top hW.size⟩)
 obtain⟨c0,c1,c2,c3,c4,c5,cf⟩:=Gk h.blk;have q2:=n 7 _ rfl;rw[j,<-Zzm]at q2;have ah:¬g=nb:=fun e=>by rw[e,an]at H;cases H
 have bk:¬nb=g:=fun e=>ah e.symm;have ai:¬g=w.heap.size:=by omega
 have P:¬w.heap.size=g:=by omega
 have am:¬nb=w.heap.size:=by omega
 have T:¬w.heap.size=nb:=by omega
 have HA:ZG (∀(w1 M:V) (A:Option Addr) (B:Nat),ZF w.heap.size w w1->Ax M d 127 2 (F A (y.E.edges.length+1) B) (y.E.edges.length+1) (y.E.edges.flatMap Cn++ [I J a,I J b])->w1.grownBy M (Value.slice pa y.E.edges.length L).ownBlock->((Value.slice A (y.E.edges.length+1) B).ownBlock=(Value.slice pa y.E.edges.length L).ownBlock\/∀b,(Value.slice A (y.E.edges.length+1) B).ownBlock=U b->w1.heap.size<=b)->
   ZG (Iv d rb o (Cc 7 name [a,b] C) 7 w (M.setCell ⟨g,off+Z.length*10+7,O⟩ (F A (y.E.edges.length+1) B)))/\M.cell? ⟨g,off+Z.length*10+7,O⟩=U (F pa y.E.edges.length L)/\M.frozen? ⟨g,off+Z.length*10+7,O⟩=false):=(show _ from by
  intro w1 M A B b1 ho hg R;rw[<-j]at hg R ⊢;have hE:=Ou (y':=⟨Fv 7 name [a,b] y.E,y.p,y.g,F A (y.E.edges.length+1) B,y.f,y.l⟩) h.eq 7 (by decide) name [a,b] rfl;obtain⟨⟨o',hA⟩,hK,hc,hf⟩:=h.appF (y':=⟨Fv 7 name [a,b] y.E,y.p,y.g,F A (y.E.edges.length+1) B,y.f,y.l⟩) (C':=Cc 7 name [a,b] C) 2 (by decide) b1 ho hg R rfl rfl
   (fun i hi hne=>by
    match i,hi with
    |0,_=>exact⟨rfl,rfl,rfl⟩
    |1,_=>exact⟨rfl,rfl,rfl⟩
    |2,_=>exact absurd rfl hne
    |3,_=>exact⟨rfl,rfl,rfl⟩
    |4,_=>exact⟨rfl,rfl,rfl⟩
    )
   ⟨rfl,by show(y.E.edges++ [(a,b)]).length=_;simp,by show(y.E.edges++ [(a,b)]).flatMap Cn=_;simp[Cn]⟩ (Ur C 7 (by decide) name _ _ 7) hE
  rw[show fO 2=7 from rfl,<-Zzm]at hA hK hc hf;exact⟨⟨⟨o',_,_,hA⟩,hK.mono (fun b _ hb=>.inr hb)⟩,hc,hf⟩)
 obtain⟨m,hm⟩:∃m,m=Z.length:=⟨_,rfl⟩
 obtain⟨np,S⟩:∃np,np=y.E.edges.length:=⟨_,rfl⟩
 rw[<-hm]at ag HA q2 c4 hZ;rw[<-S]at hn t HA q2;clear h q K ap j n hm S H;go_enter func114,ntmps114;go_upto_region 2 with fail;go_quiet (fail);generalize hq:World.drewN w _=wq;have bq:ZF w.heap.size w wq:=by rw[<-hq];exact Ag _ (R1 _ _)
 have D:=bq.size;have ec:∀p,wq.cell? p=w.cell? p:=fun p=>by rw[<-hq];rfl
 have Y:wq.heap.size=w.heap.size:=by rw[<-hq];rfl
 rw[<-ec]at n0 n1 q2;rw[<-Y]at ai P am T aj al;clear hq ec Y c0 c1 c2 c3 c4 c5 cf;go_upto_region 11 with fail;go_region_law (refine Dh rfl (.tmp 88) (.tmp 96) 47 rfl d 127 i0 _ 2 16 underlying47 ak aq ar au rfl (by decide) (.slice pa np L) np (y.E.edges.flatMap Cn) rfl ?_ ⟨wq.heap.size,0,O⟩ 1 1 [I J a,I J b] rfl rfl ?_ (by intro u hu;simp at hu;rcases hu with rfl|rfl<;>rfl) (by unfold maxLen;omega) (by omega) ?_ ?_;exact(t _ (by repeat(first|exact bq|refine H5 ?_|refine Zzv ?_ D _))).1;exact A1 _ [I J a,I J b] _;exact(t _ (by repeat(first|exact bq|refine H5 ?_|refine Zzv ?_ D _))).2;intro a1 k1 w6 X N Q;obtain⟨F1,d4,df⟩:=HA _ w6 _ _ (by repeat(first|exact bq|refine H5 ?_|refine Zzv ?_ D _)) X N Q;clear X N Q);all_goals
  go_wp2_with fail;go_end0;first
   |exact⟨rfl,F1.out⟩
   |exact⟨rfl,F1.drew⟩
