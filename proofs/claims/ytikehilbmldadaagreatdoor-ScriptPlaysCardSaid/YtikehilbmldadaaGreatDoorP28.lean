import Derived.Test.YtikehilbmldadaaGreatDoorP27
set_option maxHeartbeats 8000000
set_option maxRecDepth 100000
set_option linter.unusedVariables false
namespace Go.Proofs.YtikehilbmldadaaGreatDoor
open Proofs.Tryz YtikehilbmldadaaGreatDoor.Tryz RowKit
open Go renaming World->V,Value->ZE,RowKit.Below->ZF,Value.int->I,IntKind.i64->J,Value.slice->F,Value.pointer->ZA,Value.string->ZB
open Option renaming some->U,none->O
theorem Tv{E:Ak}{a:Option Di}{r:Bl}(h:RIs E a r):Jj r=Cs a:=by
 cases a with
 |none=>
  have d:r.act=false:=h;unfold Jj;rw[d,if_pos rfl];rfl
 |some a=>
  obtain⟨d,e⟩:=h;show Jj r=Oe a
  unfold Jj Oe;rw[d,if_neg (by decide),e.ex,e.run]
structure Ea (w0:V) (kb:Nat) (M:KpM) (T K:Nat) (o:Nat->Nat) (w:V) (q j k:Nat) (v:ZE) (M':KpM) (x':DkX) (R':List Bl) (o':Nat->Nat) (wr:V):Prop where
 e:Df M j=(q,M')
 st:Bx w0 kb x' M' R' o' wr
 fr:Fr o o' w wr
 row:Ax wr w.heap.size 9 1 v k (Aj ((M'.A.take k).map Cs))
 rb:∀b,v.ownBlock=U b->o' b=0
 mid:O8 M T j M'
 off:q=0->M'.m.off=false
 rs:Hd R' K (T+1)
 rsT:∀i r,j<=i->R'[i]? =U r->r.act=true->r.since<=T
section
variable {w0:V} {kb:Nat} {M M':KpM} {x x':DkX} {R R':List Bl} {T K:Nat} {o o':Nat->Nat} {w wr w1:V} {q j k:Nat} {v:ZE}
theorem zN(h:Bx w0 kb x M R o w)(f:Bn M T)(d:Hd R K T)(e:M.m.off=false):Ea w0 kb M T K o w 0 0 0 (F O 0 0) M x R o w:=
 ⟨rfl,h,Fr.refl _ _,⟨rfl,.inl ⟨rfl,rfl⟩⟩,(fun b n=>by cases n),(Mz f e 0 (In _)).1,fun _=>e,d.up (Y2 _) (Zxt _),fun i r _ p g=>(d.at p g).2.2⟩
theorem Ea.below(h:Ea w0 kb M T K o w q j k v M' x' R' o' wr)(b:ZF wr.heap.size wr w1):Ea w0 kb M T K o w q j k v M' x' R' o' w1:=
 ⟨h.e,h.st.below b,h.fr.trans (Fr.below _ b),h.row.later b,h.rb,h.mid,h.off,h.rs,h.rsT⟩
theorem Ea.rowk{e:Nat->Nat}(h:Ea w0 kb M T K o w q j k v M' x' R' o' wr)(f:Fr o' e wr w1):Ax w1 w.heap.size 9 1 v k (Aj ((M'.A.take k).map Cs))/\∀b,v.ownBlock=U b->e b=0:=
 ⟨h.row.keep f.kp (fun b d g=>g (h.rb b d)),fun b d=>by rw[f.agree b (h.row.lt b d).2];exact h.rb b d⟩
theorem Ea.mid1(h:Ea w0 kb M T K o w 0 k k v M' x' R' o' wr)(d:Bn M T)(g:k<M.A.length):
  O8 M T (k+1) (Fb M' k).2/\((Fb M' k).1=0->(Fb M' k).2.m.off=false)/\((Fb M' k).1=0\/(Fb M' k).1=8):=by
 have f:=d.an8;have e:=d.dog;exact Td h.mid d.t (by rw[h.mid.eA];exact g) (by rw[h.mid.eA];exact f) (h.off rfl) (by rw[h.mid.eD];have:=e.l0;have:=e.ln;omega) (by rw[h.mid.eD];exact e.n1)
theorem Ea.pick(h:Ea w0 kb M T K o w q j k v M' x' R' o' wr){i:Nat}(hi:i<M.A.length):∃b off cap l y r lv,Rm w0 x' M' R' o' wr i b off cap l y r lv:=h.st.pickN (by rw[h.mid.eA];exact hi)
theorem Ea.idle(h:Ea w0 kb M T K o w 0 k k v M' x' R' o' wr)(g:Bn M T)(m:k<M.A.length)(f:B9 M' k=O):Ea w0 kb M T K o w 0 (k+1) k v M' x' R' o' wr:=by
 have d:=h.mid1 g m;rw[Lr f]at d;exact⟨by rw[J9 h.e,Lr f],h.st,h.fr,h.row,h.rb,d.1,d.2.1,h.rs,fun i r hi=>h.rsT i r (by omega)⟩
variable {b off cap l:Nat} {y:A2} {r:Bl} {lv:ZE} {a:Di}
theorem kU{R:List Bl}{k T:Nat}{r:Bl}(h:∀i r,k<=i->R[i]? =U r->r.act=true->r.since<=T):∀i q,k+1<=i->(R.set k r)[i]? =U q->q.act=true->q.since<=T:=fun i q hi d=>by
 rw[List.getElem?_set_ne (by omega)]at d
 exact h i q (by omega) d
theorem Ea.told(h:Ea w0 kb M T K o w 0 k k v M' x' R' o' wr)(P:Rm w0 x' M' R' o' wr k b off cap l y r lv)(s:B9 M' k=U a)(u:y.E.count<y.E.points.length)
  (B:Ac (fun b=>b=l\/wr.heap.size<=b) wr w1) (A:RLo w0.heap.size l y.E y.p y.g y.e y.f y.l (Ln y.E r) lv w1):
  Bx w0 kb x' (Fi M' k (U (Du (Cq M' k) a))) (R'.set k (Ln y.E r)) o' w1/\Fr o' o' wr w1/\Hd (R'.set k (Ln y.E r)) K (T+1):=by
 have hrel:=P.rel;rw[s]at hrel;have z:=h.st.one P.h1 P.h2 P.h3 (r':=Ln y.E r) (a:=U (Du (Cq M' k) a)) B (fun b d e=>by rcases e with e|e;exact e;omega) ⟨hrel.1,by rw[P.ent];exact Ai2 hrel.2 u⟩ A (fun t b d=>P.blk hrel.1 b d);refine⟨z.1,z.2,h.rs.set (fun _=>?_)⟩;obtain⟨i,m,_⟩:=h.rs.at P.h3 hrel.1;have n:=h.rsT k r (Y2 k) P.h3 hrel.1;exact⟨i,m,Nat.succ_le_succ n⟩
theorem Ea.ended(h:Ea w0 kb M T K o w 0 k k v M' x' R' o' wr)(s:Bn M T)(t:k<M.A.length)(P:Rm w0 x' M' R' o' wr k b off cap l y r lv)(i:B9 M' k=U a)(n:y.E.count<y.E.points.length)
  (C:Ac (fun b=>b=l\/wr.heap.size<=b) wr w1) (u:RLo w0.heap.size l y.E y.p y.g y.e y.f y.l (Ln y.E r) lv w1) (B:Wf y.E r=false):
  Ea w0 kb M T K o w 0 (k+1) k v (Fi M' k (U (Du (Cq M' k) a))) x' (R'.set k (Ln y.E r)) o' w1:=by
 have hrel:=P.rel;rw[i]at hrel;have m:=h.mid1 s t;have d:¬Kj (Cq M' k) a=true:=by rw[P.ent,xB hrel.2 n,B];decide
 rw[M3 i d]at m;obtain⟨z1,z2,L⟩:=h.told P i n C u;obtain⟨D,H⟩:=h.rowk z2;exact⟨by rw[J9 h.e,M3 i d],z1,h.fr.trans z2,by rw[Po];exact D,H,m.1,m.2.1,L,kU h.rsT⟩
theorem Ea.logged{lv':ZE}{W w2:V}{g:Nat × Ap × CM × List Ap × Bool}(h:Ea w0 kb M T K o w 0 k k v M' x' R' o' wr)(hO:Bn M T)(hk:k<M.A.length)(P:Rm w0 x' M' R' o' wr k b off cap l y r lv)(B:B9 M' k=U a)(S:y.E.count<y.E.points.length)
  (kk:Ac (fun b=>b=l\/wr.heap.size<=b) wr w1) (hl:RLo w0.heap.size l y.E y.p y.g y.e y.f y.l (Ln y.E r) lv w1) (hn:Wf y.E r=true) (Q:ZF w1.heap.size w1 W) (hr:Bu M'.m M'.L M'.dead k (Kz y.E r.L r.since) M'.D.now=g)
  (h3:Iw w0 x'.rg x'.n g.2.2.1 g.2.2.2.2 g.2.2.2.1 lv' w2) (k2:V2 x'.rg x'.n x'.lv lv' W w2):
  (g.1=0\/g.1=8)/\∃o2,Ea w0 kb M T K o w g.1 (k+1) k v { Fi M' k (U (Du (Cq M' k) a))with m:=g.2.2.1,L:=g.2.2.2.1,dead:=g.2.2.2.2} (Al5 x' lv') (R'.set k (Ln y.E r)) o2 w2/\∀b,w1.heap.size<=b->b<W.heap.size->w2.heap[b]? =W.heap[b]? /\o2 b=0:=by
 have hrel:=P.rel;rw[B]at hrel;have C:=h.mid1 hO hk;have s:Kj (Cq M' k) a=true:=by rw[P.ent,xB hrel.2 S,hn]
 have t:Bu M'.m M'.L M'.dead k (Eb (Cq M' k) a) M'.D.now=g:=by rw[P.ent,pR hrel.2 S];exact hr
 rw[M1 B s t]at C;obtain⟨z1,z2,z3⟩:=h.told P B S kk hl;obtain⟨o2,y1,Z,y3⟩:=(z1.below Q).app h3 k2;have u:∀b,w1.heap.size<=b->o' b=0:=fun b d=>by
  cases H:o' b with
  |zero=>rfl
  |succ z=>have:=(z1.low b (by rw[H];exact Zzp z)).2;omega
 have X:∀b,w1.heap.size<=b->¬(b=x'.rg\/b=x'.n\/x'.lv.ownBlock=U b\/W.heap.size<=b)\/W.heap.size<=b:=fun b d=>by
  by_cases Y:W.heap.size<=b
  ·exact .inr Y
  ·refine .inl ?_;have H:=u b d;have g5:=h.st.og;have g3:=h.st.on;rintro(e|e|e|e)
   ·rw[e]at H;omega
   ·rw[e]at H;omega
   ·have:=h.st.r6 b e;omega
   ·exact Y e
 obtain⟨r1,r2⟩:=h.rowk ((z2.trans (Fr.below _ Q)).trans Z);exact⟨C.2.2,o2,⟨by rw[J9 h.e,M1 B s t],y1,h.fr.trans ((z2.trans (Fr.below _ Q)).trans Z),by
  show Ax w2 w.heap.size _ 1 v k (Aj (((Fi M' k (U (Du (Cq M' k) a))).A.take k).map Cs))
  rw[Po];exact r1,r2,C.1,C.2.1,z3,kU h.rsT⟩,fun b d i=>⟨k2.keep.block b i ((X b d).resolve_right (by omega)),y3 b (u b d) i⟩⟩
theorem Ea.next{a2:Option Addr}{k2:Nat}{S:ByteArray}(h:Ea w0 kb M T K o w 0 (k+1) k v M' x' R' o' wr)(u:k<M.A.length)(n:w0.heap.size<=w.heap.size)(s:S=Cs (B9 M' k)){W:V}(d:ZF wr.heap.size wr W)(C:Ax w1 w.heap.size 9 1 (F a2 (k+1) k2) (k+1) (Aj ((M'.A.take k).map Cs)++ [ZB S]))
  (t:W.grownBy w1 v.ownBlock) (g:(Value.slice a2 (k+1) k2).ownBlock=v.ownBlock\/∀b,(Value.slice a2 (k+1) k2).ownBlock=U b->W.heap.size<=b):
  Ea w0 kb M T K o w 0 (k+1) (k+1) (F a2 (k+1) k2) M' x' R' o' w1:=by
 have f:=h.below d;have p:Ac (fun b=>U b=v.ownBlock) W w1:=Ac.of_grown t;have i:=fun b m=>(f.row.lt b m)
 have E:Bx w0 kb x' M' R' o' w1:=f.st.far p (fun b B m=>⟨h.rb b m.symm,No n (i b m.symm).1⟩);refine⟨h.e,E,⟨f.fr.kp.step p (fun b d B=>by have:=(i b d.symm).1;omega),f.fr.agree⟩,?_,fun b d=>?_,h.mid,h.off,h.rs,h.rsT⟩
 ·rw[kN (by rw[h.mid.eA];exact u),Ji,<-s];exact C
 ·rcases g with g|g
  ·rw[g]at d;exact h.rb b d
  ·have h2:=g b d;cases D:o' b with
   |zero=>rfl
   |succ z=>
    have:=(f.st.low b (by rw[D];exact Zzp z)).2;omega
theorem Ea.bds(h:Ea w0 kb M T K o w 0 k k v M' x' R' o' wr)(e:T<=400000)(f:k<=8):J3 M'.m (200*T+18*k)/\((200*T+18*k:Nat):Int)<=900000000/\153<=M'.m.bs.length/\M'.L.length<=8/\(Gd M'.L).seq<4294967296:=by
 obtain⟨D,d1,d2,d3⟩:=h.mid.log;have g:=h.mid.len;refine⟨h.mid.cm.mono (by omega),by omega,by omega,?_,?_⟩
 ·rw[d3,Oj];omega
 ·rw[d3,Lp (fun j d=>(d1.seq j d).1)];omega
theorem Ea.lay{S:ByteArray}(h:Ea w0 kb M T K o w 0 (k+1) k v M' x' R' o' wr)(g:k<M.A.length)(d:w0.heap.size<=w.heap.size)(e:S=Cs (B9 M' k)):
  (∀x:Obj,Ax (wr.alloc x) w.heap.size 9 1 v k (Aj ((M'.A.take k).map Cs))/\w.heap.size<=(wr.alloc x).heap.size)/\
  ∀(x2:Obj) (W4:V) (a2:Option Addr) (k2:Nat),Ax W4 w.heap.size 9 1 (F a2 (k+1) k2) (k+1) (Aj ((M'.A.take k).map Cs)++ [ZB S])->(wr.alloc x2).grownBy W4 v.ownBlock->
   ((Value.slice a2 (k+1) k2).ownBlock=v.ownBlock\/∀b,(Value.slice a2 (k+1) k2).ownBlock=U b->(wr.alloc x2).heap.size<=b)->Ea w0 kb M T K o w 0 (k+1) (k+1) (F a2 (k+1) k2) M' x' R' o' W4:=
 ⟨fun x=>⟨h.row.later ((R1 _ _).alloc (Y2 _) x),by rw[H7];have:=h.fr.kp.size;omega⟩,fun x2 W4 a2 k2 m f i=>h.next g d e ((R1 _ _).alloc (Y2 _) x2) m f i⟩
theorem Ea.boxB(h:Ea w0 kb M T K o w q j k v M' x' R' o' wr){z:Nat}(n:o' z=0)(h0:w0.heap.size<=w.heap.size)(m:w.heap.size<=z)(i:∀b,v.ownBlock=U b->b≠z)(a b d e:ZE):
  Ea w0 kb M T K o w q j k v M' x' R' o' ((((wr.setCell ⟨z,0,O⟩ a).setCell ⟨z,1,O⟩ b).setCell ⟨z,2,O⟩ d).setCell ⟨z,3,O⟩ e):=by
 have k:=Ka wr z a b d e;exact⟨h.e,h.st.far k (fun b _ f=>by rw[f];exact⟨n,No h0 m⟩),⟨h.fr.kp.step k (fun b f p=>by omega),h.fr.agree⟩,h.row.keep k (fun b f g=>i b f g),h.rb,h.mid,h.off,h.rs,h.rsT⟩
theorem Ea.fin(h:Ea w0 kb M T K o w q j M.A.length v M' x' R' o' wr):Av (fun b=>w.heap.size<=b/\v.ownBlock=U b) wr v 1 (Aj (M'.A.map Cs)) (M'.A.map Cs).length:=by
 have:=h.row.slOf;rw[<-h.mid.eA,Zz2]at this;rwa [Fn]
end
theorem Akh{M:KpM}(h:Hs M=0):M.m.off=false/\M.D.reset=false:=by
 unfold Hs at h;cases h1:M.m.off
 ·rw[h1,if_neg (by decide)]at h;cases h2:M.D.reset
  ·exact⟨rfl,rfl⟩
  ·rw[h2,if_pos rfl]at h;cases h
 ·rw[h1,if_pos rfl]at h;cases h
section
variable {w0:V} {kb:Nat} {x:DkX} {M N:KpM} {R:List Bl} {o:Nat->Nat} {w:V} {T K:Nat}
def Ant(w0:V)(kb:Nat)(M:KpM)(T K:Nat)(o:Nat->Nat)(w:V)(i:Nat)(v:ZE)(MM:KpM)(x':DkX)(RR:List Bl)(g1:Nat)(w1 W w2:V):Prop:=
 (g1=0\/g1=8)/\∃lv' o2,Ea w0 kb M T K o w g1 (i+1) i v MM (Al5 x' lv') RR o2 w2/\∀b,w1.heap.size<=b->b<W.heap.size->w2.heap[b]? =W.heap[b]? /\o2 b=0
theorem Ahj{M':KpM}{x':DkX}{R':List Bl}{o':Nat->Nat}{wr w1 W:V}{k b off cap l:Nat}{y:A2}{r:Bl}{lv v:ZE}{a:Di}(h:Ea w0 kb M T K o w 0 k k v M' x' R' o' wr)(d:Bn M T)(hk:k<M.A.length)(P:Rm w0 x' M' R' o' wr k b off cap l y r lv)(s:B9 M' k=U a)(B:y.E.count<y.E.points.length)
  (S:Ac (fun b=>b=l\/wr.heap.size<=b) wr w1) (Q:RLo w0.heap.size l y.E y.p y.g y.e y.f y.l (Ln y.E r) lv w1) (hn:Wf y.E r=true) (u:ZF w1.heap.size w1 W) {g:Nat × Ap × CM × List Ap × Bool} (H:Bu M'.m M'.L M'.dead k (Kz y.E r.L r.since) M'.D.now=g):
  Calls Tryz.prog 174 #[ZA (U ⟨x'.rg,0,O⟩),I J k,I J (Kz y.E r.L r.since),I J M'.D.now] W fun e w2=>e=.returned (.tuple #[Aq g.2.1,I J (g.1:Nat)])/\
   Ant w0 kb M T K o w k v { Fi M' k (U (Du (Cq M' k) a))with m:=g.2.2.1,L:=g.2.2.2.1,dead:=g.2.2.2.2} x' (R'.set k (Ln y.E r)) g.1 w1 W w2:=by
 obtain⟨z1,z2,z3⟩:=h.told P s B S Q;have X:=z1.below u;have h8:=d.an8;obtain⟨Y,Z,b3,b4,b5⟩:=h.bds d.t (by omega);refine(wO w0 x'.rg x'.n M'.m M'.dead M'.L x'.lv k (Kz y.E r.L r.since) M'.D.now _ W X.ring X.bel.size Y Z b3 b4 b5).mono ?_;rintro e w2 ⟨C,i,g2,g3⟩;rw[H]at C g2;obtain⟨q1,o2,q2,q3⟩:=h.logged d hk P s B S Q hn u H g2 g3;exact⟨C,q1,i,o2,q2,q3⟩
theorem Ea.light{M':KpM}{x':DkX}{R':List Bl}{o':Nat->Nat}{wr:V}{q j k:Nat}{v:ZE}(h:Ea w0 kb M T K o w q j k v M' x' R' o' wr)(d:Bn M T){i:Nat}{y:A2}(e:x'.X[i]? =U y):O7 y.E:=
 d.small _ (by rw[<-h.mid.eC,h.st.xe];exact Zzx (At e))
theorem Ea.cnt{M':KpM}{x':DkX}{R':List Bl}{o':Nat->Nat}{wr:V}{q j k:Nat}{v:ZE}(h:Ea w0 kb M T K o w q j k v M' x' R' o' wr)(d:∀E∈M.C.ents,E.count<E.points.length){i:Nat}{y:A2}(e:x'.X[i]? =U y):y.E.count<y.E.points.length:=
 d _ (by rw[<-h.mid.eC,h.st.xe];exact Zzx (At e))
theorem Adn(h:Bx w0 kb x M R o w)(hO:Bn M T)(hR:Hd R K T)(hK:K<=200)(hT:T+2<=50000)(hC:∀E∈M.C.ents,E.count<E.points.length):
  Calls Tryz.prog 106 #[ZA (U ⟨kb,0,O⟩)] w (Ga w0 kb (Hr M) K (T+2) o w):=by
 unfold Ga;obtain⟨i0,cv,c5,c8,c9⟩:=info_parts infoStr;have ah:=G (M8 h);have H:=G h;have cm:=G (hR.up (Y2 K) (show T<=T+2 by omega));unfold Hr;by_cases h0:Hs M=0
 ·rw[h0]at ah ⊢;rw[if_neg (by decide)];obtain⟨bi,cd⟩:=Akh h0;obtain⟨k0,k1,k2,k3,k4,k5,k6,k7,k8,k9,kf⟩:=Cf h.box;have hd:=hO.dog;have he:Fk M.D=0:=by
   have hn:=hO.now;have ht:=hO.t;unfold Fk;rw[cd,if_neg (by decide),if_neg (by omega)]
  rw[he,if_neg (by decide)];have ap:=G (Af0 x.d M.D w h.dog hd);rw[he]at ap;obtain⟨a7,bh,ep⟩:=Uh hO (by omega) he;have am:=G (fun w1 (k:Ac (· =x.d) w w1) (g:Dc w1 x.d (Ec M.D))=>(show Bx w0 kb x (Kl M) R o w1/\Fr o o w w1 from h.dog' k g));have cz:0<=(Ec M.D).now:=by have:=a7.dog.l0;have:=a7.dog.ln;exact Int.le_trans ‹_› ‹_›
  obtain⟨N,hN⟩:∃N,N=Kl M:=⟨_,rfl⟩
  have cs:Ec M.D=N.D:=by rw[hN];rfl
  have cr:M.C=N.C:=by rw[hN];rfl
  have dp:M.m=N.m:=by rw[hN];rfl
  rw[cs,cr,<-hN];rw[cs]at cz ap am;rw[<-hN]at am a7;rw[dp]at bi;rw[cr]at hC;have ad:=Er a7.bound;have HOk:=G a7;have ej:=G bi;have HC:=G hC;have ek:=G (hR.up (Y2 K) (Zxt T));obtain⟨cy,av⟩:∃cy,cy=N.C.cycle:=⟨_,rfl⟩
  obtain⟨nw,aw⟩:∃nw,nw=N.D.now:=⟨_,rfl⟩
  rw[<-av,<-aw];rw[<-av]at ad;rw[<-aw]at cz;have e2:1<=cy:=ad.2.2.2.2.1;have b9:=G av;have cb:=G aw;clear h hO hR h0 bi cd hd he a7 bh ep hN cs cr dp ad av aw hC k0 k1 k2 k3 k4 k5 k7 k8 k9 kf;cases hr:N.D.reset with
  |true=>
   rw[if_pos rfl];go_enter func106,ntmps106;go_wp2_with fail;refine ah.mono ?_;rintro e w1 ⟨rfl,rfl⟩;go_wp2_with fail;refine ap.mono ?_;rintro e w1 ⟨rfl,g1,g2⟩;have Z:=G (am w1 g2 g1);obtain⟨d0,d1,d2,d3,d4,d5,df⟩:=D5 g1;rw[hr]at d5;obtain⟨j0,k1,k2,k3,k4,k5,j6,k7,k8,k9,kf⟩:=Cf Z.1.box;clear g1 g2 d0 d1 d2 d3 d4 df j0 k1 k2 k3 k4 k5 k7 k8 k9 kf k6;go_wp2_with fail;go_ret;exact⟨rfl,x,R,o,Z.1,cm.out,Z.2⟩
  |false=>
   rw[if_neg (by decide)];have dw:nw.tmod cy=nw%cy:=Zyw cz;by_cases hc:nw%cy=0
   ·rw[if_pos hc];have er:(nw%cy != 0)=false:=by rw[hc];rfl
    clear dw hc;go_enter func106,ntmps106;go_wp2_with fail;refine ah.mono ?_;rintro e w1 ⟨rfl,rfl⟩;go_wp2_with fail;refine ap.mono ?_;rintro e w1 ⟨rfl,g1,g2⟩;have Z:=G (am w1 g2 g1);obtain⟨d0,d1,d2,d3,d4,d5,df⟩:=D5 g1;rw[hr]at d5;rw[<-cb.out]at d2;obtain⟨j0,k1,j2,k3,k4,k5,j6,k7,k8,k9,kf⟩:=Cf Z.1.box;rw[<-b9.out]at j2;clear g1 g2 d0 d1 d3 d4 df j0 k1 k3 k4 k5 k7 k8 k9 kf k6 ap am ah hr;go_wp2_with fail;go_quiet (fail);generalize hq:World.drewN w1 _=wq;have hb:ZF w1.heap.size w1 wq:=by rw[<-hq];exact Ag _ (R1 _ _)
    have HZ:=G (And.intro (Z.1.below hb) (Z.2.trans (Fr.below o hb)));have b4:=G (zN HZ.1 HOk ek ej.out);have bz:=G HZ.1.bel.size;have di:=G HZ.2;have h8:=HOk.an8;clear hq hb j2 j6 d2 d5 Z HZ;go_wp2_with fail;go_loopw [4,5] (fun s4 s5 wr=>∃(i:Nat) (a1:Option Addr) (j1:Nat) (M':KpM) (x':DkX) (R':List Bl) (o':Nat->Nat),i<=N.A.length/\s4=F a1 i j1/\s5=I J i/\Hid (Ea w0 kb N (T+1) K o wq 0 i i (F a1 i j1) M' x' R' o' wr)) (fun _ s5 _=>N.A.length-(intOf s5).toNat);case atStart=>exact⟨0,O,0,N,x,R,o,In _,rfl,rfl,b4⟩
    case round=>
     obtain⟨i,a1,j1,M',x',R',o',hi,rfl,rfl,n⟩:=hrel;clear b4;obtain⟨k0,k1,k2,k3,k4,k5,k6,k7,k8,k9,kf⟩:=Cf n.st.box;have b0:=n.mid.eA;by_cases aa:i<N.A.length
     ·have e4:(i:Int)<N.A.length:=by omega
      obtain⟨b,off,cap,l,y,r,lv,P⟩:=n.pick aa;rw[P.vl,b0]at k8;have cu:=P.cell;have hrel:=P.rel;clear k0 k1 k2 k3 k4 k5 k6 k7 k9 kf b0;cases ha:B9 M' i with
      |none=>
       rw[ha]at hrel;have X:=G (Abc l y.E y.p y.g y.e y.f y.l r lv wr P.rlo.box hrel);have HE:=G (n.idle HOk aa ha);clear ha hrel P n;go_wp2_with fail;refine X.mono ?_;rintro e w1 ⟨rfl,rfl⟩;clear X k8 cu;obtain⟨b2,cg,b6,l2,y2,r2,bt,P2⟩:=HE.pick aa;have B:=Tv P2.rel;have HStat:=G (Md l2 y2.E y2.p y2.g y2.e y2.f y2.l r2 bt wr P2.rlo.box);obtain⟨S,hS⟩:∃S,S=Jj r2:=⟨_,rfl⟩
       have HLay:=G (HE.lay aa bz (hS.trans B));rw[<-hS]at HStat;obtain⟨j0,bk,bl,bm,bn,bo,bp,bq,j8,br,jf⟩:=Cf HE.st.box;rw[P2.vl,HE.mid.eA]at j8;have jc:=P2.cell;have bb:Hid (i+1<=maxLen):=G (by unfold maxLen;omega);have bf:Hid ((i+1)*16<=140737488355328):=G (by omega);clear hS B P2 j0 bk bl bm bn bo bp bq br jf;go_wp2_with fail;refine HStat.mono ?_;rintro e wz ⟨rfl,rfl⟩;go_wp2_with (at_builtin;go_must (refine A3 rfl (.tmp 85) (.tmp 94) 22 rfl wq.heap.size 9 i0 _ 1 16 underlying22 cv c5 c8 c9 rfl (by decide) _ i _ rfl (HLay.1 _).1 ⟨World.heap wr |>.size,0,O⟩ 1 1 [ZB S] rfl rfl (A1 _ [ZB S] _) (by intro u hu;simp at hu;subst hu;rfl) bb bf (HLay.1 _).2 ?_;intro a2 k2 w4 ho hg hn;have nx:=G (HLay.2 _ w4 a2 k2 ho hg hn);clear ho hg hn));go_roundw;case rel=>exact⟨i+1,a2,k2,M',x',R',o',by omega,rfl,by go_num,nx⟩
       case measure=>simp[intOf];omega
      |some a=>
       rw[ha]at hrel;obtain⟨au,cw⟩:=hrel;obtain⟨dt,cx,dv⟩:=n.rs.at P.h3 au;have ad:=n.cnt HC P.h2;have ax:=n.mid.run i a ha;rw[if_neg (by omega),cw.run]at ax;have X:=G (Aba (fun b=>b<wr.heap.size) w0.heap.size l y.E y.p y.g y.e y.f y.l r lv wr P.rlo (n.st.entSl P.h2) (fun _ h=>h) (n.light HOk P.h2) au (by omega) cx (by omega) ⟨ax.1,by omega⟩);obtain⟨RR,b3⟩:∃RR,RR=R'.set i (Ln y.E r):=⟨_,rfl⟩
       cases hn:Wf y.E r with
       |false=>
        rw[hn]at X;have cj:=G (fun w1 (kk:Ac (fun b=>b=l\/wr.heap.size<=b) wr w1) (hl:RLo w0.heap.size l y.E y.p y.g y.e y.f y.l (Ln y.E r) lv w1)=>n.ended HOk aa P ha ad kk hl hn);obtain⟨MM,bc⟩:∃MM,MM=Fi M' i (U (Du (Cq M' i) a)):=⟨_,rfl⟩
        rw[<-bc,<-b3]at cj;generalize Kz y.E r.L r.since=kd at X;clear ha au cw dt cx dv ad ax b3 hn bc P n;go_wp2_with fail;refine X.mono ?_;rintro e w1 ⟨rfl,l1,q1⟩;have HE:=G (cj w1 q1 l1);clear X l1 q1 cj k8 cu;obtain⟨b2,cg,b6,l2,y2,r2,bt,P2⟩:=HE.pick aa;have B:=Tv P2.rel;have HStat:=G (Md l2 y2.E y2.p y2.g y2.e y2.f y2.l r2 bt w1 P2.rlo.box);obtain⟨S,hS⟩:∃S,S=Jj r2:=⟨_,rfl⟩
        have HLay:=G (HE.lay aa bz (hS.trans B));rw[<-hS]at HStat;obtain⟨j0,bk,bl,bm,bn,bo,bp,bq,j8,br,jf⟩:=Cf HE.st.box;rw[P2.vl,HE.mid.eA]at j8;have jc:=P2.cell;have bb:Hid (i+1<=maxLen):=G (by unfold maxLen;omega);have bf:Hid ((i+1)*16<=140737488355328):=G (by omega);clear hS B P2 j0 bk bl bm bn bo bp bq br jf;go_wp2_with fail;refine HStat.mono ?_;rintro e wz ⟨rfl,rfl⟩;go_wp2_with (at_builtin;go_must (refine A3 rfl (.tmp 85) (.tmp 94) 22 rfl wq.heap.size 9 i0 _ 1 16 underlying22 cv c5 c8 c9 rfl (by decide) _ i _ rfl (HLay.1 _).1 ⟨World.heap w1 |>.size,0,O⟩ 1 1 [ZB S] rfl rfl (A1 _ [ZB S] _) (by intro u hu;simp at hu;subst hu;rfl) bb bf (HLay.1 _).2 ?_;intro a2 k2 w4 ho hg hn;have nx:=G (HLay.2 _ w4 a2 k2 ho hg hn);clear ho hg hn));go_roundw;case rel=>exact⟨i+1,a2,k2,MM,x',RR,o',by omega,rfl,by go_num,nx⟩
        case measure=>simp[intOf];omega
       |true=>
        rw[hn]at X;obtain⟨g,hg⟩:∃g,g=Bu M'.m M'.L M'.dead i (Kz y.E r.L r.since) M'.D.now:=⟨_,rfl⟩
        have al:=G (fun(w1 W:V) (kk:Ac (fun b=>b=l\/wr.heap.size<=b) wr w1) (hl:RLo w0.heap.size l y.E y.p y.g y.e y.f y.l (Ln y.E r) lv w1) (hb:ZF w1.heap.size w1 W)=>Ahj n HOk aa P ha ad kk hl hn hb hg.symm);have ck:=G (fun w1 (kk:Ac (fun b=>b=l\/wr.heap.size<=b) wr w1) (hl:RLo w0.heap.size l y.E y.p y.g y.e y.f y.l (Ln y.E r) lv w1)=>(show w1.cell? ⟨kb,6,O⟩=U (ZA (U ⟨x'.d,0,O⟩))/\w1.cell? ⟨kb,7,O⟩=U (ZA (U ⟨x'.rg,0,O⟩))/\w1.cell? ⟨x'.d,2,O⟩=U (I J M'.D.now)from by
         have z:=(n.told P ha ad kk hl).1;obtain⟨_,_,_,_,_,_,y6,y7,_⟩:=Cf z.box;obtain⟨_,_,y2,_⟩:=D5 z.dog;exact⟨y6,y7,y2⟩))
        have dk:=G (And.intro n.fr.kp.size (fun b hb=>(n.row.lt b hb).2));obtain⟨MM,bc⟩:∃MM:KpM,MM= { Fi M' i (U (Du (Cq M' i) a))with m:=g.2.2.1,L:=g.2.2.2.1,dead:=g.2.2.2.2}:=⟨_,rfl⟩
        rw[<-bc,<-b3]at al;obtain⟨ge,gx,gr⟩:=g;unfold Aq at al;simp only at al;obtain⟨d8,ca⟩:∃d8,d8=M'.D.now:=⟨_,rfl⟩
        rw[<-ca]at al ck;generalize Kz y.E r.L r.since=kd at X al;clear ha au cw dt cx dv ad ax b3 hn bc P n hg ca;go_wp2_with fail;refine X.mono ?_;rintro e w1 ⟨rfl,l1,q1⟩;obtain⟨c6,c7,c2⟩:=ck w1 q1 l1;have ds:kb<w1.heap.size:=R3 w1 ⟨kb,6,O⟩ c6;have dq:x'.d<w1.heap.size:=R3 w1 ⟨x'.d,2,O⟩ c2;have HAp1:=G (fun W (hW:ZF w1.heap.size w1 W)=>al w1 W q1 l1 hW);have eu:=q1.size;clear X al ck l1 q1 k8 cu;go_upto_region 16 with fail;go_region_law (first|(go_simp;go_at_call 174;refine(HAp1 _ ?_).mono ?_;(repeat(first|exact R1 _ _|refine H5 ?_|refine Zzv ?_ (Y2 _) _));rintro e w2 ⟨rfl,hq,ew,o2,b1,bh⟩;(try(have c4:=bh w1.heap.size (Y2 _) (by simp);have c3:=c4.1.trans (Ab w1 (.cells #[I J 0,I J 0,I J 0,I J 0] 147));obtain⟨x0,x1,x2,x3⟩:=Ay c3;have xf:∀o,w2.frozen? ⟨w1.heap.size,o,O⟩=false:=(fun o=>Eu c3)))));all_goals
         first
          |(have Q:=G (b1.boxB c4.2 bz (No dk.1 eu) (fun b hb=>by have:=dk.2 b hb;omega) (I J gx.seq) (I J gx.ent) (I J gx.kind) (I J gx.tick));clear c4 c3 x0 x1 x2 x3 xf b1 bh c6 c7 c2 ds dq;go_upto_region 17 with fail;generalize World.setCell _ _ _=w3 at Q ⊢)
          |(have Q:=G (b1.below ((R1 _ _).alloc (Y2 _) (.cells #[I J gx.seq,I J gx.ent,I J gx.kind,I J gx.tick] 147)));clear b1 bh c6 c7 c2 ds dq;go_upto_region 17 with fail;generalize World.alloc _ _=w3 at Q ⊢)
         rcases hq with rfl|rfl
         ·
          obtain⟨b2,cg,b6,l2,y2,r2,bt,P2⟩:=Q.pick aa;have B:=Tv P2.rel;have HStat:=G (Md l2 y2.E y2.p y2.g y2.e y2.f y2.l r2 bt w3 P2.rlo.box);obtain⟨S,hS⟩:∃S,S=Jj r2:=⟨_,rfl⟩
          have HLay:=G (Q.lay aa bz (hS.trans B));rw[<-hS]at HStat;obtain⟨j0,bk,bl,bm,bn,bo,bp,bq,j8,br,jf⟩:=Cf Q.st.box;rw[P2.vl,Q.mid.eA]at j8;have jc:=P2.cell;have bb:Hid (i+1<=maxLen):=G (by unfold maxLen;omega);have bf:Hid ((i+1)*16<=140737488355328):=G (by omega);clear hS B P2 j0 bk bl bm bn bo bp bq br jf;go_wp2_with fail;refine HStat.mono ?_;rintro e wz ⟨rfl,rfl⟩;go_wp2_with (at_builtin;go_must (refine A3 rfl (.tmp 85) (.tmp 94) 22 rfl wq.heap.size 9 i0 _ 1 16 underlying22 cv c5 c8 c9 rfl (by decide) _ i _ rfl (HLay.1 _).1 ⟨World.heap w3 |>.size,0,O⟩ 1 1 [ZB S] rfl rfl (A1 _ [ZB S] _) (by intro u hu;simp at hu;subst hu;rfl) bb bf (HLay.1 _).2 ?_;intro a2 k2 w4 ho hg hn;have nx:=G (HLay.2 _ w4 a2 k2 ho hg hn);clear ho hg hn));go_roundw;case rel=>exact⟨i+1,a2,k2,MM,Al5 x' ew,RR,o2,by omega,rfl,by go_num,nx⟩
          case measure=>simp[intOf];omega
         ·go_wp2_with fail;go_ret;rw[pZ Q.e aa];exact⟨rfl,_,_,o2,Q.st,Q.rs,di.trans Q.fr⟩
     ·have eo:i=N.A.length:=by omega
      subst eo;obtain⟨ao,cap,hv,-,-,-⟩:=n.st.row;rw[hv,b0]at k8;have af:=G (Yt n.e);have dx:Zu M'.C.delay M'.sn M'.st:=by rw[n.mid.eC,n.mid.es,n.mid.et];exact HOk.tin
      have dr:=Er HOk.bound;rw[<-n.mid.eC]at dr;have dj:=G (gD _ x'.tb M'.C.delay M'.sn M'.st (M'.A.map Cs) (F a1 N.A.length j1) wr n.st.tot dx (by omega) n.fin (fun hh=>by have h1:=n.rb _ hh.2;have h2:=n.st.ot;omega));have cn:=G (fun w1 (k:Ac (· =x'.tb) wr w1) (t:B8 w1 x'.tb M'.C.delay (St.next M'.C.delay M'.sn M'.st (M'.A.map Cs)).1 (St.next M'.C.delay M'.sn M'.st (M'.A.map Cs)).2)=>(show Bx w0 kb x' (Qz M') R' o' w1/\Fr o o' w w1 from⟨(n.st.tot' k t).1,di.trans (n.fr.trans (n.st.tot' k t).2)⟩));have ci:=G (show K6 (Qz M').D from by show K6 M'.D;rw[n.mid.eD];exact HOk.dog);have an:=G n.rs;obtain⟨N2,dn⟩:∃N2,N2=Qz M':=⟨_,rfl⟩
      rw[<-dn]at af cn ci;clear dx dr n dn hv b0 k0 k1 k2 k3 k4 k5 k6 k7 kf;go_wp2_with fail;refine dj.mono ?_;rintro e w1 ⟨rfl,t1,q1⟩;obtain⟨z1,z2⟩:=cn w1 q1 t1;have HZ:=G z1;have HF:=G z2;obtain⟨k0,k1,k2,k3,k4,k5,k6,k7,v8,v9,kf⟩:=Cf z1.box;have cl:=G (Wi x'.d N2.D w1 z1.dog ci.out);clear k0 k1 k2 k3 k4 k5 k7 v8 v9 kf k8 k9 t1 q1 z1 z2 dj cn;obtain⟨op,ar⟩:∃op,op=Ht N2.D:=⟨_,rfl⟩
      rw[<-ar]at cl;go_wp2_with fail;refine cl.mono ?_;rintro e w2 ⟨rfl,q,rfl⟩;have ct:ZF w1.heap.size w1 (w1.drewN q):=Ag _ (R1 _ _);have Y:=G (HZ.below ct);have ag:=G (HF.trans (Fr.below o' ct));generalize w1.drewN q=w2 at Y ag ⊢;obtain⟨k0,k1,k2,k3,k4,k5,v6,k7,k8,k9,kf⟩:=Cf Y.box;obtain⟨t0,t1,t2,tf⟩:=Bf Y.tot;clear k0 k1 k2 k3 k4 k5 k6 k7 k8 kf t0 t1 tf cl ct HZ HF;by_cases hs:N2.st=.stopped
      ·have ac:=G (show Hi N2=N2 by unfold Hi;rw[if_neg (fun hh=>hh.1 hs)]);rw[hs]at t2;unfold St.str at t2;clear hs ar;go_wp2_with fail;go_ret;rw[af.out,ac.out];exact⟨rfl,x',R',o',Y.out,an.out,ag.out⟩
      ·cases op with
       |false=>
        have ac:=G (show Hi N2=N2 by unfold Hi;rw[if_neg (fun hh=>by rw[<-ar]at hh;exact absurd hh.2 (by decide))]);clear ar;cases s:N2.st with
        |stopped=>exact absurd s hs
        |ok=>
         rw[s]at t2;unfold St.str at t2;clear hs s;go_wp2_with fail;go_ret;rw[af.out,ac.out];exact⟨rfl,x',R',o',Y.out,an.out,ag.out⟩
        |failed=>
         rw[s]at t2;unfold St.str at t2;clear hs s;go_wp2_with fail;go_ret;rw[af.out,ac.out];exact⟨rfl,x',R',o',Y.out,an.out,ag.out⟩
        |expired=>
         rw[s]at t2;unfold St.str at t2;clear hs s;go_wp2_with fail;go_ret;rw[af.out,ac.out];exact⟨rfl,x',R',o',Y.out,an.out,ag.out⟩
       |true=>
        have ac:=G (show Hi N2= { N2 with D:=I7 N2.D} by unfold Hi;rw[if_pos ⟨hs,ar.symm⟩]);have bx:=G (Af1 x'.d N2.D w2 Y.dog ci.out);rw[Mh ar.symm]at bx;clear ar;cases s:N2.st with
        |stopped=>exact absurd s hs
        |ok=>
         rw[s]at t2;unfold St.str at t2;clear hs s;go_wp2_with fail;refine bx.mono ?_;rintro e w3 ⟨rfl,g1,g2⟩;have z:=Y.dog' g2 g1;have ba:=G z.1;have a9:=G (ag.trans z.2);clear g1 g2 z;go_wp2_with fail;go_ret;rw[af.out,ac.out];exact⟨rfl,x',R',o',ba.out,an.out,a9.out⟩
        |failed=>
         rw[s]at t2;unfold St.str at t2;clear hs s;go_wp2_with fail;refine bx.mono ?_;rintro e w3 ⟨rfl,g1,g2⟩;have z:=Y.dog' g2 g1;have ba:=G z.1;have a9:=G (ag.trans z.2);clear g1 g2 z;go_wp2_with fail;go_ret;rw[af.out,ac.out];exact⟨rfl,x',R',o',ba.out,an.out,a9.out⟩
        |expired=>
         rw[s]at t2;unfold St.str at t2;clear hs s;go_wp2_with fail;refine bx.mono ?_;rintro e w3 ⟨rfl,g1,g2⟩;have z:=Y.dog' g2 g1;have ba:=G z.1;have a9:=G (ag.trans z.2);clear g1 g2 z;go_wp2_with fail;go_ret;rw[af.out,ac.out];exact⟨rfl,x',R',o',ba.out,an.out,a9.out⟩
   ·rw[if_neg hc];have er:(nw%cy != 0)=true:=by simpa using hc
    clear dw hc;go_enter func106,ntmps106;go_wp2_with fail;refine ah.mono ?_;rintro e w1 ⟨rfl,rfl⟩;go_wp2_with fail;refine ap.mono ?_;rintro e w1 ⟨rfl,g1,g2⟩;have Z:=G (am w1 g2 g1);obtain⟨d0,d1,d2,d3,d4,d5,df⟩:=D5 g1;rw[hr]at d5;rw[<-cb.out]at d2;obtain⟨j0,k1,j2,k3,k4,k5,j6,k7,k8,k9,kf⟩:=Cf Z.1.box;rw[<-b9.out]at j2;clear g1 g2 d0 d1 d3 d4 df j0 k1 k3 k4 k5 k7 k8 k9 kf k6 ap am ah hr;go_wp2_with fail;go_quiet (fail);generalize hq:World.drewN w1 _=wq;have hb:ZF w1.heap.size w1 wq:=by rw[<-hq];exact Ag _ (R1 _ _)
    have dl:=G (And.intro (Z.1.below hb) (Z.2.trans (Fr.below o hb)));clear hq hb j2 j6 d2 d5 Z;go_wp2_with fail;go_ret;exact⟨rfl,x,R,o,dl.1,cm.out,dl.2⟩
 ·rw[if_pos h0];have hp:0<(Hs M:Int):=by omega
  generalize Hs M=q at ah hp h0 ⊢;have fc:((q:Int)==0)=false:=by simp;omega
  clear h hO hR h0;go_enter func106,ntmps106;go_wp2_with fail;refine ah.mono ?_;rintro e w1 ⟨rfl,rfl⟩;go_wp2_with fail;go_ret;exact⟨rfl,x,R,o,H.out,cm.out,Fr.refl _ _⟩
end
theorem Sl{M:KpM}{k:Nat}(h:(Bi M k).1≠0):∀j,Bi M (k+j)=Bi M k
 |0=>rfl
 |j+1=>by
  have ih:=Sl h j
  show(if (Bi M (k+j)).1≠0 then Bi M (k+j) else Hr (Bi M (k+j)).2)=_
  rw[ih,if_pos h]
theorem tI{M M':KpM}{k:Nat}(h:Bi M k=(0,M')):Bi M (k+1)=Hr M':=by
 show(if (Bi M k).1≠0 then Bi M k else Hr (Bi M k).2)=_
 rw[h,if_neg (fun h=>h rfl)]
theorem Aj0(M:KpM)(j:Nat):(Fb M j).2.C=M.C:=by
 unfold Fb;split
 ·rfl
 ·split<;>rfl
theorem Ug(M:KpM):∀j,(Df M j).2.C=M.C
 |0=>rfl
 |j+1=>by
  unfold Df
  split
  ·exact Ug M j
  ·rw[Aj0];exact Ug M j
theorem Ajy(M:KpM):(Hi M).C=M.C:=by
 unfold Hi;split<;>rfl
theorem Aju(M:KpM):(Hr M).2.C=M.C:=by
 unfold Hr;split
 ·rfl
 ·split
  ·rfl
  ·split
   ·rfl
   ·split
    ·unfold Q2;split
     ·exact Ug _ _
     ·rw[show(0,Hi (Qz (Df (Kl M) (Kl M).A.length).2)).2=Hi (Qz (Df (Kl M) (Kl M).A.length).2)from rfl,Ajy];show(Df (Kl M) (Kl M).A.length).2.C=M.C
      rw[Ug];rfl
    ·rfl
theorem Rs(M:KpM):∀k,(Bi M k).2.C=M.C
 |0=>rfl
 |k+1=>by
  unfold Bi
  split
  ·exact Rs M k
  ·rw[Aju];exact Rs M k
section
variable {w0:V} {kb:Nat} {x:DkX} {M:KpM} {R:List Bl} {o:Nat->Nat} {w:V} {T K:Nat}
theorem zK(h:Bx w0 kb x M R o w)(hO:Bn M T)(hR:Hd R K T)(hK:K<=200)(hC:∀E∈M.C.ents,E.count<E.points.length)(n:Nat)(hT:T+2*n<=50000):
  Calls Tryz.prog 64 #[ZA (U ⟨kb,0,O⟩),I J n] w (Ga w0 kb (Bi M n) K (T+2*n) o w):=by
 unfold Ga;have H:=G h;have HOk:=G (fun k (D:k<=n)=>My hO k (by omega));have HT:=G hT;have HC:=G (fun k=>(show ∀E∈(Bi M k).2.C.ents,E.count<E.points.length by rw[Rs];exact hC));have L:Hid (Hd R K (T+2*0)):=hR;have hn:(n:Int)<=50000:=by omega
 clear h hO hR hT hC;go_enter func64,ntmps64;go_wp2_with fail;go_loopw [5] (fun s wr=>∃(i:Nat) (x':DkX) (R':List Bl) (o':Nat->Nat) (M':KpM),i<=n/\s=I J i/\Hid (Bi M i=(0,M'))/\Hid (Bx w0 kb x' M' R' o' wr)/\Hid (Hd R' K (T+2*i))/\Hid (Fr o o' w wr)) (fun s _=>n-(intOf s).toNat);case atStart=>exact⟨0,x,R,o,M,In _,rfl,rfl,H,L,G (Fr.refl _ _)⟩
 case round=>
  obtain⟨i,x',R',o',M',hi,rfl,Q,D,m,S⟩:=hrel;by_cases Y:i<n
  ·have ag:(i:Int)<(n:Int):=by omega
   have g:=HOk i hi;have f:=HC i;rw[Q.out]at g f;have d:=G (Adn D g m hK (by have:=HT.out;omega) f);unfold Ga at d;have t:=G (tI Q.out);have A:=G (fun p (hh:Hd p K (T+2*i+2))=>(hh:Hd p K (T+2*(i+1))));obtain⟨r,hr⟩:∃r,r=Hr M':=⟨_,rfl⟩
   rw[<-hr]at d t;obtain⟨re,rM⟩:=r;clear hr g f;go_wp2_with fail;refine d.mono ?_;rintro e w1 ⟨rfl,x2,p,o2,z1,z2,z3⟩;have HZ:=G z1;have u:=G (A p z2);have HF:=G (S.trans z3);clear z1 z2 z3 d D S m A;cases re with
   |zero=>
    go_wp2_with fail;go_roundw;case rel=>exact⟨i+1,x2,p,o2,rM,Y,by go_num,t,HZ,u,HF⟩
    case measure=>simp[intOf];omega
   |succ q=>
    have hq:(0:Int)<((q+1:Nat):Int):=by omega
    have Z:=G (show Bi M n=(q+1,rM)from by
     have h1:=Sl (M:=M) (k:=i+1) (by rw[t.out];exact Zzp q) (n-(i+1));rw[show i+1+(n-(i+1))=n by omega,t.out]at h1;exact h1)
    have P:=G (u.up (Y2 K) (show T+2*(i+1)<=T+2*n by omega));obtain⟨q1,B⟩:∃q1,q1=q+1:=⟨_,rfl⟩
    rw[<-B]at hq Z ⊢;clear t B;go_wp2_with fail;go_ret;rw[Z.out];exact⟨rfl,x2,p,o2,HZ.out,P.out,HF.out⟩
  ·have X:i=n:=by omega
   subst X;go_wp2_with fail;go_ret;rw[Q.out];exact⟨rfl,x',R',o',D.out,m.out,S.out⟩
