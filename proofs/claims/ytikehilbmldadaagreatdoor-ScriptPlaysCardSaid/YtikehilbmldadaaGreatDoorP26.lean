import Derived.Test.YtikehilbmldadaaGreatDoorP22
set_option maxHeartbeats 4000000
set_option maxRecDepth 100000
set_option linter.unusedVariables false
namespace Go.Proofs.YtikehilbmldadaaGreatDoor
open Proofs.Tryz YtikehilbmldadaaGreatDoor.Tryz RowKit
open Go renaming World->V,Value->ZE,RowKit.Below->ZF,Calls->ZH,Value.int->I,IntKind.i64->J,Value.slice->F,Value.pointer->ZA,Value.string->ZB,Ending.returned->ZD,Proofs.Tryz.prog->ZI
open Option renaming some->U,none->O
theorem Uf{M:KpM}{k:Nat}(h:(Df M k).1≠0):∀j,Df M (k+j)=Df M k
 |0=>rfl
 |j+1=>by
  have ih:=Uf h j
  show(if (Df M (k+j)).1≠0 then Df M (k+j) else Fb (Df M (k+j)).2 (k+j))=_
  rw[ih,if_pos h]
theorem pZ{M:KpM}{k q:Nat}{M':KpM}(h:Df M k=(q+1,M'))(a:k<=M.A.length):Q2 M=(q+1,M'):=by
 have h1:(Df M k).1≠0:=by rw[h];exact Zzp q
 have h2:=Uf h1 (M.A.length-k);rw[show k+(M.A.length-k)=M.A.length by omega,h]at h2;unfold Q2;rw[h2,if_pos (Zzp q)]
theorem Yt{M M':KpM}(h:Df M M.A.length=(0,M')):Q2 M=(0,Hi (Qz M')):=by
 unfold Q2;rw[h,if_neg (fun h=>h rfl)]
theorem J9{M M':KpM}{k:Nat}(h:Df M k=(0,M')):Df M (k+1)=Fb M' k:=by
 show(if (Df M k).1≠0 then Df M k else Fb (Df M k).2 k)=_
 rw[h,if_neg (fun h=>h rfl)]
theorem Po(M:KpM)(k:Nat)(a:Option Di):(Fi M k a).A.take k=M.A.take k:=by
 show(M.A.set k a).take k=_
 rw[List.take_set_of_le (Y2 k)]
theorem kN{M:KpM}{k:Nat}(h:k<M.A.length):(M.A.take (k+1)).map Cs=(M.A.take k).map Cs++ [Cs (B9 M k)]:=by
 rw[If h,B0];unfold B9;rw[Of,R4 h];rfl
theorem Ji(l:List ByteArray)(s:ByteArray):Aj (l++ [s])=Aj l++ [ZB s]:=by simp[Aj]
def xLv(x:KpX)(lv:ZE):KpX:=⟨x.d,x.rb,x.cap,x.rg,x.tb,lv,x.ve,x.vl,x.X,x.ls⟩
structure Eh (B:Nat) (sa:Nat->Addr) (w0:V) (kb c:Nat) (txt:ByteArray) (x:KpX) (M:KpM) (T:Nat) (o:Nat->Nat) (w:V) (q j k:Nat) (v:ZE) (M':KpM) (lv:ZE) (o':Nat->Nat) (wr:V):Prop where
 e:Df M j=(q,M')
 st:Bq B sa w0 kb c txt (xLv x lv) M' o' wr
 fr:Fr o o' w wr
 row:Ax wr w.heap.size 9 1 v k (Aj ((M'.A.take k).map Cs))
 rb:∀b,v.ownBlock=U b->o' b=0
 mid:O8 M T j M'
 off:q=0->M'.m.off=false
section
variable {B:Nat} {sa:Nat->Addr} {w0:V} {kb c:Nat} {txt:ByteArray} {x:KpX} {M M':KpM} {T:Nat} {o o':Nat->Nat} {w wr w1:V} {q j k:Nat} {v lv:ZE}
theorem zD(h:Bq B sa w0 kb c txt x M o w)(d:Bn M T)(a:M.m.off=false):Eh B sa w0 kb c txt x M T o w 0 0 0 (F O 0 0) M x.lv o w:=
 ⟨rfl,h,Fr.refl _ _,⟨rfl,.inl ⟨rfl,rfl⟩⟩,(fun b e=>by cases e),(Mz d a 0 (In _)).1,fun _=>a⟩
theorem Eh.below(h:Eh B sa w0 kb c txt x M T o w q j k v M' lv o' wr)(b:ZF wr.heap.size wr w1):Eh B sa w0 kb c txt x M T o w q j k v M' lv o' w1:=
 ⟨h.e,h.st.below b,h.fr.trans (Fr.below _ b),h.row.later b,h.rb,h.mid,h.off⟩
theorem Eh.rowk{d:Nat->Nat}(h:Eh B sa w0 kb c txt x M T o w q j k v M' lv o' wr)(f:Fr o' d wr w1):Ax w1 w.heap.size 9 1 v k (Aj ((M'.A.take k).map Cs))/\∀b,v.ownBlock=U b->d b=0:=
 ⟨h.row.keep f.kp (fun b a e=>e (h.rb b a)),fun b a=>by rw[f.agree b (h.row.lt b a).2];exact h.rb b a⟩
theorem Eh.mid1(h:Eh B sa w0 kb c txt x M T o w 0 k k v M' lv o' wr)(a:Bn M T)(f:k<M.A.length):
  O8 M T (k+1) (Fb M' k).2/\((Fb M' k).1=0->(Fb M' k).2.m.off=false)/\((Fb M' k).1=0\/(Fb M' k).1=8):=by
 have e:=a.an8;have d:=a.dog;exact Td h.mid a.t (by rw[h.mid.eA];exact f) (by rw[h.mid.eA];exact e) (h.off rfl) (by rw[h.mid.eD];have:=d.l0;have:=d.ln;omega) (by rw[h.mid.eD];exact d.n1)
theorem Eh.idle(h:Eh B sa w0 kb c txt x M T o w 0 k k v M' lv o' wr)(f:Bn M T)(g:k<M.A.length)(d:B9 M' k=O):Eh B sa w0 kb c txt x M T o w 0 (k+1) k v M' lv o' wr:=by
 have a:=h.mid1 f g;rw[Lr d]at a;exact⟨by rw[J9 h.e,Lr d],h.st,h.fr,h.row,h.rb,a.1,a.2.1⟩
theorem Eh.ended{l p t:Nat}{y:A2}{a:Di}(h:Eh B sa w0 kb c txt x M T o w 0 k k v M' lv o' wr)(s:Bn M T)(u:k<M.A.length)(m:B9 M' k=U a)(h1:x.ls[k]? =U l)(h2:x.X[k]? =U y)(n:Cq M' k=y.E)(H:∀b,p<=b->b<t->o' b=11+2*k)
  (K:Ac (fun b=>p<=b/\b<t) wr w1) (C:G5 l p t y.E y.p y.g y.e y.f y.l (Du y.E a) w1) (D:Kj (Cq M' k) a=false):
  Eh B sa w0 kb c txt x M T o w 0 (k+1) k v (Fi M' k (U (Du (Cq M' k) a))) lv o' w1:=by
 have i:=h.mid1 s u;have d:¬Kj (Cq M' k) a=true:=by rw[D];decide
 rw[M3 m d]at i;obtain⟨z1,z2⟩:=Bq.watch (x:=xLv x lv) h.st h1 h2 H K C;rw[<-n]at z1;obtain⟨L,N⟩:=h.rowk z2;exact⟨by rw[J9 h.e,M3 m d],z1,h.fr.trans z2,by rw[Po];exact L,N,i.1,i.2.1⟩
theorem Eh.logged{l p t:Nat}{y:A2}{a:Di}{lv':ZE}{W w2:V}{r:Nat × Ap × CM × List Ap × Bool}(h:Eh B sa w0 kb c txt x M T o w 0 k k v M' lv o' wr)(N:Bn M T)(Q:k<M.A.length)(u:B9 M' k=U a)(h1:x.ls[k]? =U l)(h2:x.X[k]? =U y)(K:Cq M' k=y.E)(Y:∀b,p<=b->b<t->o' b=11+2*k)
  (kk:Ac (fun b=>p<=b/\b<t) wr w1) (R:G5 l p t y.E y.p y.g y.e y.f y.l (Du y.E a) w1) (C:Kj (Cq M' k) a=true) (i:ZF w1.heap.size w1 W) (H:Bu M'.m M'.L M'.dead k (Eb (Cq M' k) a) M'.D.now=r)
  (h3:RSt B sa w0 x.rg c x.rb x.cap r.2.2.1 r.2.2.2.2 r.2.2.2.1 lv' w2) (k2:Ac (fun b=>b=c\/b=x.rb\/b=x.rg\/W.heap.size<=b) W w2) (S:lv'=lv\/Z0 W w2 lv'):
  (r.1=0\/r.1=8)/\∃o2,Eh B sa w0 kb c txt x M T o w r.1 (k+1) k v { Fi M' k (U (Du (Cq M' k) a))with m:=r.2.2.1,L:=r.2.2.2.1,dead:=r.2.2.2.2} lv' o2 w2/\∀b,w1.heap.size<=b->b<W.heap.size->o2 b=0:=by
 have d:=h.mid1 N Q;rw[M1 u C H]at d;obtain⟨z1,z2⟩:=Bq.watch (x:=xLv x lv) h.st h1 h2 Y kk R;rw[<-K]at z1;obtain⟨o2,z3,s⟩:=(z1.below i).app (lv':=lv') h3 k2 S;obtain⟨r1,r2⟩:=h.rowk ((z2.trans (Fr.below _ i)).trans s);exact⟨d.2.2,o2,⟨by rw[J9 h.e,M1 u C H],z3,h.fr.trans ((z2.trans (Fr.below _ i)).trans s),by
  show Ax w2 w.heap.size _ 1 v k (Aj (((Fi M' k (U (Du (Cq M' k) a))).A.take k).map Cs))
  rw[Po];exact r1,r2,d.1,d.2.1⟩,fun b P n=>by
   rw[s.agree b n];cases Z:o' b with
   |zero=>rfl
   |succ z=>have:=(z1.b.low b (by rw[Z];exact Zzp z)).2;omega⟩
theorem Eh.rst{l p t:Nat}{y:A2}{a:Di}{W:V}(h:Eh B sa w0 kb c txt x M T o w 0 k k v M' lv o' wr)(h1:x.ls[k]? =U l)(h2:x.X[k]? =U y)(n:∀b,p<=b->b<t->o' b=11+2*k)
  (s:Ac (fun b=>p<=b/\b<t) wr w1) (i:G5 l p t y.E y.p y.g y.e y.f y.l (Du y.E a) w1) (d:ZF w1.heap.size w1 W):RSt B sa w0 x.rg c x.rb x.cap M'.m M'.dead M'.L lv W:=by
 obtain⟨z1,z2⟩:=Bq.watch (x:=xLv x lv) h.st h1 h2 n s i;exact(z1.below d).rst
theorem Eh.next{a2:Option Addr}{k2:Nat}(h:Eh B sa w0 kb c txt x M T o w 0 (k+1) k v M' lv o' wr)(p:k<M.A.length)(l:w0.heap.size<=w.heap.size){W:V}(a:ZF wr.heap.size wr W)(t:Ax w1 w.heap.size 9 1 (F a2 (k+1) k2) (k+1) (Aj ((M'.A.take k).map Cs)++ [ZB (Cs (B9 M' k))]))
  (n:W.grownBy w1 v.ownBlock) (f:(Value.slice a2 (k+1) k2).ownBlock=v.ownBlock\/∀b,(Value.slice a2 (k+1) k2).ownBlock=U b->W.heap.size<=b):
  Eh B sa w0 kb c txt x M T o w 0 (k+1) (k+1) (F a2 (k+1) k2) M' lv o' w1:=by
 have d:=h.below a;have m:Ac (fun b=>U b=v.ownBlock) W w1:=Ac.of_grown n;have g:=fun b i=>(d.row.lt b i)
 have y:Bq B sa w0 kb c txt (xLv x lv) M' o' w1:=d.st.far m (fun b s i=>⟨h.rb b i.symm,No l (g b i.symm).1⟩);refine⟨h.e,y,⟨d.fr.kp.step m (fun b a s=>by have:=(g b a.symm).1;omega),d.fr.agree⟩,?_,fun b a=>?_,h.mid,h.off⟩
 ·rw[kN (by rw[h.mid.eA];exact p),Ji];exact t
 ·rcases f with f|f
  ·rw[f]at a;exact h.rb b a
  ·have h2:=f b a;cases u:o' b with
   |zero=>rfl
   |succ z=>
    have:=(d.st.b.low b (by rw[u];exact Zzp z)).2;omega
theorem Eh.stat{l:Nat}{y:A2}(h:Eh B sa w0 kb c txt x M T o w q j k v M' lv o' wr)(i:Nat)(h1:x.ls[i]? =U l)(h2:x.X[i]? =U y):
  ZH ZI 153 #[ZA (U ⟨l,0,O⟩)] wr fun e w'=>e=ZD (ZB (Cs (B9 M' i)))/\wr=w':=by
 obtain⟨n,p,t,s,d⟩:=h.st.loc i l y h1 h2;cases m:B9 M' i with
 |none=>
  rw[m]at d;exact Od l y.E y.p y.g y.e y.f y.l wr d
 |some a=>
  rw[m]at d;exact Qd l p t y.E y.p y.g y.e y.f y.l a wr d
theorem Eh.lay(h:Eh B sa w0 kb c txt x M T o w 0 (k+1) k v M' lv o' wr)(e:k<M.A.length)(a:w0.heap.size<=w.heap.size):
  (∀x:Obj,Ax (wr.alloc x) w.heap.size 9 1 v k (Aj ((M'.A.take k).map Cs))/\w.heap.size<=(wr.alloc x).heap.size)/\
  ∀(x2:Obj) (W4:V) (a2:Option Addr) (k2:Nat),Ax W4 w.heap.size 9 1 (F a2 (k+1) k2) (k+1) (Aj ((M'.A.take k).map Cs)++ [ZB (Cs (B9 M' k))])->(wr.alloc x2).grownBy W4 v.ownBlock->
   ((Value.slice a2 (k+1) k2).ownBlock=v.ownBlock\/∀b,(Value.slice a2 (k+1) k2).ownBlock=U b->(wr.alloc x2).heap.size<=b)->Eh B sa w0 kb c txt x M T o w 0 (k+1) (k+1) (F a2 (k+1) k2) M' lv o' W4:=
 ⟨fun x=>⟨h.row.later ((R1 _ _).alloc (Y2 _) x),by rw[H7];have:=h.fr.kp.size;omega⟩,fun x2 W4 a2 k2 g d f=>h.next e a ((R1 _ _).alloc (Y2 _) x2) g d f⟩
theorem Eh.half{l p t:Nat}{y:A2}{a:Di}(h:Eh B sa w0 kb c txt x M T o w 0 k k v M' lv o' wr)(h1:x.ls[k]? =U l)(h2:x.X[k]? =U y)(m:∀b,p<=b->b<t->o' b=11+2*k)
  (s:Ac (fun b=>p<=b/\b<t) wr w1) (i:G5 l p t y.E y.p y.g y.e y.f y.l (Du y.E a) w1):
  w1.cell? ⟨kb,0,O⟩=U (ZA (U ⟨x.d,0,O⟩))/\w1.cell? ⟨kb,7,O⟩=U (ZA (U ⟨x.rg,0,O⟩))/\D4 w1 x.d M'.D:=by
 obtain⟨z1,z2⟩:=Bq.watch (x:=xLv x lv) h.st h1 h2 m s i;obtain⟨k0,_,_,_,_,_,_,n,_⟩:=Bv z1.box;exact⟨k0,n,z1.b.dog⟩
theorem A7.lts{w:V}{c rb cap:Nat}{m:CM}(h:A7 w c rb (U ⟨rb,0,O⟩) cap m):c<w.heap.size/\rb<w.heap.size:=by
 obtain⟨C,t,a,_⟩:=h.row rfl;exact⟨Aa h.box,Aa a⟩
theorem Eh.lts(h:Eh B sa w0 kb c txt x M T o w q j k v M' lv o' wr):c<wr.heap.size/\x.rb<wr.heap.size/\x.rg<wr.heap.size:=by
 have:=A7.lts (rb:=x.rb) h.st.b.mem;exact⟨this.1,this.2,Aa h.st.rbox⟩
theorem Eh.bds(h:Eh B sa w0 kb c txt x M T o w 0 k k v M' lv o' wr)(d:T<=400000)(e:k<=8):J3 M'.m (200*T+18*k)/\((200*T+18*k:Nat):Int)<=900000000/\153<=M'.m.bs.length/\M'.L.length<=100/\(Gd M'.L).seq<4294967296:=by
 obtain⟨D,d1,d2,d3⟩:=h.mid.log;have f:=h.mid.len;refine⟨h.mid.cm.mono (by omega),by omega,by omega,?_,?_⟩
 ·rw[d3,Oj];omega
 ·rw[d3,Lp (fun j a=>(d1.seq j a).1)];omega
theorem Eh.boxB(h:Eh B sa w0 kb c txt x M T o w q j k v M' lv o' wr){z:Nat}(m:o' z=0)(h0:w0.heap.size<=w.heap.size)(l:w.heap.size<=z)(i:∀b,v.ownBlock=U b->b≠z)(a b d e:ZE):
  Eh B sa w0 kb c txt x M T o w q j k v M' lv o' ((((wr.setCell ⟨z,0,O⟩ a).setCell ⟨z,1,O⟩ b).setCell ⟨z,2,O⟩ d).setCell ⟨z,3,O⟩ e):=by
 have k:=Ka wr z a b d e;exact⟨h.e,h.st.far k (fun b _ f=>by rw[f];exact⟨m,No h0 l⟩),⟨h.fr.kp.step k (fun b f n=>by omega),h.fr.agree⟩,h.row.keep k (fun b f g=>i b f g),h.rb,h.mid,h.off⟩
theorem Eh.fin(h:Eh B sa w0 kb c txt x M T o w q j M.A.length v M' lv o' wr):Av (fun b=>w.heap.size<=b/\v.ownBlock=U b) wr v 1 (Aj (M'.A.map Cs)) (M'.A.map Cs).length:=by
 have:=h.row.slOf;rw[<-h.mid.eA,Zz2]at this;rwa [Fn]
end
section
variable {B:Nat} {sa:Nat->Addr} {w0:V} {kb c:Nat} {txt:ByteArray} {x:KpX} {M:KpM} {o:Nat->Nat} {w:V} {T:Nat}
theorem Agr(h:Bq B sa w0 kb c txt x M o w)(hO:Bn M T)(ho:M.m.off=false):
  ZH ZI 85 #[ZA (U ⟨kb,0,O⟩)] w (Ft B sa w0 kb c txt (Q2 M) o w):=by
 unfold Ft;obtain⟨i0,ba,bh,bi,bj⟩:=info_parts infoStr;obtain⟨k0,k1,R,k3,k4,k5,k6,k7,k8,k9,am,kf⟩:=Bv h.box;obtain⟨ao,cap,hv,dq,dr,_⟩:=h.row;rw[hv]at k8;have h8:=hO.an8;have H:=G h;have HOk:=G hO;have aq:=G h.b.bel.size;have ax:=G (zD h hO ho);have ct:=G hv;clear h hO ho k0 k1 R k3 k4 k5 k6 k7 k9 am kf hv;go_enter func85,ntmps85;go_wp2_with fail;go_loopw [3,15] (fun s3 bo wr=>∃(i:Nat) (a1:Option Addr) (j1:Nat) (M':KpM) (lv:ZE) (o':Nat->Nat),i<=M.A.length/\s3=F a1 i j1/\bo=I J i/\Hid (Eh B sa w0 kb c txt x M T o w 0 i i (F a1 i j1) M' lv o' wr)) (fun _ bo _=>M.A.length-(intOf bo).toNat);case atStart=>exact⟨0,O,0,M,x.lv,o,In _,rfl,rfl,ax⟩
 case round=>
  obtain⟨i,a1,j1,M',lv,o',hi,rfl,rfl,n⟩:=hrel;clear ax k8;by_cases Y:i<M.A.length
  ·have de:(i:Int)<M.A.length:=by omega
   obtain⟨dm,c9,cb,b5,b6,a4⟩:=n.st.row;have b1:=n.mid.eA;obtain⟨b,off,l,y,b3,q1,q2,q3,q4⟩:=a4 i (by omega);have cc:=ct.out;rw[show x.vl=(xLv x lv).vl from rfl,cb,b3,b1]at cc;injection cc with e1 e2 e3;subst e1;obtain⟨p1,p,t,p2,p3⟩:=n.st.loc i l y q2 q3;have Q:=G (And.intro q2 (And.intro q3 (And.intro q4 (And.intro p1 p2))));clear cb b5 b6 a4 b1 b3 e2 e3 q2 q3 q4 p1 p2;cases ha:B9 M' i with
   |none=>
    rw[ha]at p3;have s:=G (gQ l y.E y.p y.g y.e y.f y.l wr p3);have HE:=G (n.idle HOk Y ha);clear p3 ha n;go_wp2_with fail;refine s.mono ?_;rintro e w1 ⟨rfl,rfl⟩;clear s;have HStat:=G (HE.stat i Q.1 Q.2.1);have HLay:=G (HE.lay Y aq.out);obtain⟨S,hS⟩:∃S,S=Cs (B9 M' i):=⟨_,rfl⟩
    rw[<-hS]at HStat HLay;have ai:Hid (i+1<=maxLen):=G (by unfold maxLen;omega);have ak:Hid ((i+1)*16<=140737488355328):=G (by omega);clear hS;go_wp2_with fail;refine HStat.mono ?_;rintro e wz ⟨rfl,rfl⟩;go_wp2_with (at_builtin;go_must (refine A3 rfl (.tmp 44) (.tmp 47) 22 rfl w.heap.size 9 i0 _ 1 16 underlying22 ba bh bi bj rfl (by decide) _ i _ rfl (HLay.1 _).1 ⟨World.heap wr |>.size,0,O⟩ 1 1 [ZB S] rfl rfl (A1 _ [ZB S] _) (by intro u hu;simp at hu;subst hu;rfl) ai ak (HLay.1 _).2 ?_;intro a2 R w4 ho hg Z;have nx:=G (HLay.2 _ w4 a2 R ho hg Z);clear ho hg Z));go_roundw;case rel=>exact⟨i+1,a2,R,M',lv,o',by omega,rfl,by go_num,nx⟩
    case measure=>simp[intOf];omega
   |some a=>
    rw[ha]at p3;have hr:=n.mid.run i a ha;rw[if_neg (by omega)]at hr;have hT:=HOk.t;have s:=G (sG l p t y.E y.p y.g y.e y.f y.l a wr p3 hr.1 (by omega));obtain⟨kd,aw⟩:∃kd,kd=Eb y.E a:=⟨_,rfl⟩
    rw[<-aw]at s;cases Z:Kj y.E a with
    |false=>
     rw[Z]at s;have ad:=G (fun w1 (kk:Ac (fun b=>p<=b/\b<t) wr w1) (hl:G5 l p t y.E y.p y.g y.e y.f y.l (Du y.E a) w1)=>n.ended HOk Y ha Q.1 Q.2.1 Q.2.2.1 Q.2.2.2.2 kk hl (by rw[Q.2.2.1];exact Z));obtain⟨MM,aj⟩:∃MM,MM=Fi M' i (U (Du (Cq M' i) a)):=⟨_,rfl⟩
     rw[<-aj]at ad;clear p3 ha n hr hT Z aw aj;go_wp2_with fail;refine s.mono ?_;rintro e w1 ⟨rfl,l1,k1⟩;have HE:=G (ad w1 k1 l1);clear s l1 k1 ad q1;have HStat:=G (HE.stat i Q.1 Q.2.1);have HLay:=G (HE.lay Y aq.out);obtain⟨S,hS⟩:∃S,S=Cs (B9 MM i):=⟨_,rfl⟩
     rw[<-hS]at HStat HLay;have ai:Hid (i+1<=maxLen):=G (by unfold maxLen;omega);have ak:Hid ((i+1)*16<=140737488355328):=G (by omega);clear hS;go_wp2_with fail;refine HStat.mono ?_;rintro e wz ⟨rfl,rfl⟩;go_wp2_with (at_builtin;go_must (refine A3 rfl (.tmp 44) (.tmp 47) 22 rfl w.heap.size 9 i0 _ 1 16 underlying22 ba bh bi bj rfl (by decide) _ i _ rfl (HLay.1 _).1 ⟨World.heap w1 |>.size,0,O⟩ 1 1 [ZB S] rfl rfl (A1 _ [ZB S] _) (by intro u hu;simp at hu;subst hu;rfl) ai ak (HLay.1 _).2 ?_;intro a2 R w4 ho hg Z;have nx:=G (HLay.2 _ w4 a2 R ho hg Z);clear ho hg Z));go_roundw;case rel=>exact⟨i+1,a2,R,MM,lv,o',by omega,rfl,by go_num,nx⟩
     case measure=>simp[intOf];omega
    |true=>
     rw[Z]at s;obtain⟨r,hR⟩:∃r,r=Bu M'.m M'.L M'.dead i kd M'.D.now:=⟨_,rfl⟩
     have b2:Bu M'.m M'.L M'.dead i (Eb (Cq M' i) a) M'.D.now=r:=by rw[Q.2.2.1,<-aw];exact hR.symm
     have ad:=G (fun(w1 W w2:V) (ab:ZE) (kk:Ac (fun b=>p<=b/\b<t) wr w1) (hl:G5 l p t y.E y.p y.g y.e y.f y.l (Du y.E a) w1) (hb:ZF w1.heap.size w1 W) h3 R hv=>n.logged (w2:=w2) (lv':=ab) HOk Y ha Q.1 Q.2.1 Q.2.2.1 Q.2.2.2.2 kk hl (by rw[Q.2.2.1];exact Z) hb b2 h3 R hv);have HB:=G (n.bds hT (by omega));have bw:=G n.lts;have bz:=G (And.intro n.fr.kp.size (fun b hb=>(n.row.lt b hb).2));have af:=G (fun(w1 W:V) (kk:Ac (fun b=>p<=b/\b<t) wr w1) (hl:G5 l p t y.E y.p y.g y.e y.f y.l (Du y.E a) w1) (hb:ZF w1.heap.size w1 W)=>(X6 B sa w0 x.rg c x.rb x.cap M'.m M'.dead M'.L lv i kd M'.D.now _ W (n.rst Q.1 Q.2.1 Q.2.2.2.2 kk hl hb) HB.1 HB.2.1 HB.2.2.1 HB.2.2.2.1 HB.2.2.2.2).mono
      (R':=fun e w2=>e=ZD (.tuple #[Aq r.2.1,errv sa r.1])/\(r.1=0\/r.1=8)/\∃ab o2,Eh B sa w0 kb c txt x M T o w r.1 (i+1) i (F a1 i j1) { Fi M' i (U (Du (Cq M' i) a))with m:=r.2.2.1,L:=r.2.2.2.1,dead:=r.2.2.2.2} ab o2 w2/\∀b,w1.heap.size<=b->b<W.heap.size->w2.heap[b]? =W.heap[b]? /\o2 b=0)
      (fun e w2 hh=>by
       rw[<-hR]at hh;obtain⟨g1,ab,g2,g3,g4⟩:=hh;obtain⟨g5,o2,g6,g7⟩:=ad w1 W w2 ab kk hl hb g2 g3 g4;exact⟨g1,g5,ab,o2,g6,fun b h1 h2=>⟨g3.block b h2 (fun hh=>by have:=bw.out;have:=kk.size;omega),g7 b h1 h2⟩⟩))
     have bu:=G (fun w1 (kk:Ac (fun b=>p<=b/\b<t) wr w1) (hl:G5 l p t y.E y.p y.g y.e y.f y.l (Du y.E a) w1)=>n.half Q.1 Q.2.1 Q.2.2.2.2 kk hl);obtain⟨MM,aj⟩:∃MM:KpM,MM= { Fi M' i (U (Du (Cq M' i) a))with m:=r.2.2.1,L:=r.2.2.2.1,dead:=r.2.2.2.2}:=⟨_,rfl⟩
     rw[<-aj]at af;obtain⟨rr,rq⟩:=r;obtain⟨rx,rs⟩:=rq;unfold Aq at af;simp only at af;clear p3 ha n hr Z aw aj hR b2 ad HB bw;go_wp2_with fail;refine s.mono ?_;rintro e w1 ⟨rfl,l1,k1⟩;obtain⟨c0,c7,dg⟩:=bu w1 k1 l1;have b8:kb<w1.heap.size:=R3 w1 ⟨kb,0,O⟩ c0;have HNow:=G (fun W (hW:ZF w1.heap.size w1 W)=>P4 x.d M'.D W (D4.keep dg (Al hW) (fun h=>h)));have HAp1:=G (fun W (hW:ZF w1.heap.size w1 W)=>af w1 W k1 l1 hW);obtain⟨nw,b9⟩:∃nw,nw=M'.D.now:=⟨_,rfl⟩
     rw[<-b9]at HNow HAp1;have cz:=k1.size;clear s af bu l1 k1 dg b9 q1;go_upto_region 7 with fail;go_region_law (first|(go_simp;go_at_call 26;refine(HNow _ ?_).mono ?_;(repeat(first|exact R1 _ _|refine H5 ?_|refine Zzv ?_ (Y2 _) _));rintro e wN ⟨rfl,rfl⟩)|(go_simp;go_at_call 152;refine(HAp1 _ ?_).mono ?_;(repeat(first|exact R1 _ _|refine H5 ?_|refine Zzv ?_ (Y2 _) _));rintro e w2 ⟨rfl,hq,c2,o2,au,bb⟩;(try(have bg:=bb w1.heap.size (Y2 _) (by simp);have bf:=bg.1.trans (Ab w1 (.cells #[I J 0,I J 0,I J 0,I J 0] 147));obtain⟨x0,x1,x2,x3⟩:=Ay bf;have xf:∀o,w2.frozen? ⟨w1.heap.size,o,O⟩=false:=(fun o=>Eu bf)))));all_goals
      first
       |(have K:=G (au.boxB bg.2 aq (No bz.1 cz) (fun b hb=>by have:=bz.2 b hb;omega) (I J rx.seq) (I J rx.ent) (I J rx.kind) (I J rx.tick));clear bg bf x0 x1 x2 x3 xf au bb c0 c7 b8;go_upto_region 8 with fail;generalize World.setCell _ _ _=w3 at K ⊢)
       |(have K:=G (au.below ((R1 _ _).alloc (Y2 _) (.cells #[I J rx.seq,I J rx.ent,I J rx.kind,I J rx.tick] 147)));clear au bb c0 c7 b8;go_upto_region 8 with fail;generalize World.alloc _ _=w3 at K ⊢)
      rcases hq with rfl|rfl
      ·rw[Fe];have HStat:=G (K.stat i Q.1 Q.2.1);have HLay:=G (K.lay Y aq.out);obtain⟨S,hS⟩:∃S,S=Cs (B9 MM i):=⟨_,rfl⟩
       rw[<-hS]at HStat HLay;have ai:Hid (i+1<=maxLen):=G (by unfold maxLen;omega);have ak:Hid ((i+1)*16<=140737488355328):=G (by omega);clear hS;go_wp2_with fail;refine HStat.mono ?_;rintro e wz ⟨rfl,rfl⟩;go_wp2_with (at_builtin;go_must (refine A3 rfl (.tmp 44) (.tmp 47) 22 rfl w.heap.size 9 i0 _ 1 16 underlying22 ba bh bi bj rfl (by decide) _ i _ rfl (HLay.1 _).1 ⟨World.heap w3 |>.size,0,O⟩ 1 1 [ZB S] rfl rfl (A1 _ [ZB S] _) (by intro u hu;simp at hu;subst hu;rfl) ai ak (HLay.1 _).2 ?_;intro a2 R w4 ho hg Z;have nx:=G (HLay.2 _ w4 a2 R ho hg Z);clear ho hg Z));go_roundw;case rel=>exact⟨i+1,a2,R,MM,c2,o2,by omega,rfl,by go_num,nx⟩
       case measure=>simp[intOf];omega
      ·rw[show errv sa 8=.iface 372 (ZA (U (sa 7)))from rfl];go_wp2_with fail;go_ret;rw[pZ K.e Y];exact⟨rfl,_,o2,K.st,K.fr⟩
  ·have cy:i=M.A.length:=by omega
   subst cy;have an:=G (Yt n.e);obtain⟨k0,k1,R,k3,k4,k5,k6,k7,k8,k9,am,kf⟩:=Bv n.st.box;clear k0 k1 R k3 k4 k5 k6 k7 k8 am kf;have bd:Zu M'.C.delay M'.sn M'.st:=by rw[n.mid.eC,n.mid.es,n.mid.et];exact HOk.tin
   have b7:=Er HOk.bound;rw[<-n.mid.eC]at b7;have bx:=G (rA _ x.tb M'.C.delay M'.sn M'.st (M'.A.map Cs) (F a1 M.A.length j1) wr n.st.tot bd.s0 (by have:=bd.s1;omega) n.fin);have a9:=G (fun w1 (k:Ac (· =x.tb) wr w1) (t:De w1 x.tb M'.C.delay (St.next M'.C.delay M'.sn M'.st (M'.A.map Cs)).1 (St.next M'.C.delay M'.sn M'.st (M'.A.map Cs)).2)=>(show Bq B sa w0 kb c txt (xLv x lv) (Qz M') o' w1/\Fr o o' w w1 from⟨n.st.tot' k t,n.fr.trans (Fr.of k (fun b hb=>by rw[hb];have:o' x.tb=7:=n.st.ot;omega))⟩));have a7:=G (show K6 (Qz M').D from by show K6 M'.D;rw[n.mid.eD];exact HOk.dog);obtain⟨N,hN⟩:∃N,N=Qz M':=⟨_,rfl⟩
   rw[<-hN]at an a9 a7;clear bd b7 n hN;go_wp2_with fail;refine bx.mono ?_;rintro e w1 ⟨rfl,t1,q1⟩;obtain⟨z1,z2⟩:=a9 w1 q1 t1;have HZ:=G z1;have HF:=G z2;obtain⟨k0,k1,R,k3,k4,k5,k6,k7,k8,k9,am,kf⟩:=Bv z1.box;have ah:=G (qZ x.tb _ _ _ w1 z1.tot);have ap:=G (Wt x.d N.D w1 z1.b.dog a7.out);clear k1 R k3 k4 k5 k6 k7 k8 am kf t1 q1 z1 z2 bx a9;by_cases hs:N.st=.stopped
   ·rw[show decide (N.st≠.stopped)=false by rw[hs];rfl]at ah;have P:Hi N=N:=by unfold Hi;rw[if_neg (fun hh=>hh.1 hs)]
    have ag:=G P;clear P hs;go_wp2_with fail;refine ah.mono ?_;rintro e w2 ⟨rfl,rfl⟩;go_wp2_with fail;go_ret;rw[an.out,ag.out];exact⟨rfl,_,o',HZ.out,HF.out⟩
   ·rw[show decide (N.st≠.stopped)=true by rw[decide_eq_true_eq];exact hs]at ah;cases aa:Ht N.D with
    |false=>
     rw[aa]at ap;have P:Hi N=N:=by unfold Hi;rw[if_neg (fun hh=>by rw[aa]at hh;exact absurd hh.2 (by decide))]
     have ag:=G P;clear P hs aa;go_wp2_with fail;refine ah.mono ?_;rintro e w2 ⟨rfl,rfl⟩;go_wp2_with fail;refine ap.mono ?_;rintro e w2 ⟨rfl,kq⟩;have X:=G (HZ.below kq.new);have a8:=G (HF.trans (Fr.below o' kq.new));clear kq;go_wp2_with fail;go_ret;rw[an.out,ag.out];exact⟨rfl,_,o',X.out,a8.out⟩
    |true=>
     rw[aa]at ap;have P:Hi N= { N with D:=I7 N.D}:=by unfold Hi;rw[if_pos ⟨hs,aa⟩]
     have ag:=G P;have cu:=G (Mh aa);clear P hs aa;go_wp2_with fail;refine ah.mono ?_;rintro e w2 ⟨rfl,rfl⟩;go_wp2_with fail;refine ap.mono ?_;rintro e w2 ⟨rfl,kq⟩;have X:=G (HZ.below kq.new);have a8:=G (HF.trans (Fr.below o' kq.new));have b4:B<=x.d:=by
      have h1:o' x.d=2:=HZ.b.od;exact No HZ.b.bl (HZ.b.low x.d (by omega)).1
     have bv:=G (zI B sa x.d N.D w2 X.b.dog a7 X.b.se b4);rw[cu.out,Fe]at bv;obtain⟨dt,v1,v2,v3,v4,v5,v6,v7,v8,v9,c5,vf⟩:=Bv X.box;clear kq b4 v1 v2 v3 v4 v5 v6 v7 v8 v9 c5 vf k0 k9;go_wp2_with fail;refine bv.mono ?_;rintro e w3 ⟨rfl,g1,g2⟩;have cv:=G (X.dog' g2 g1);have cs:=G (a8.trans (Fr.of g2 (fun b hb=>by rw[hb];have:o' x.d=2:=X.b.od;omega)));clear g1 g2;go_wp2_with fail;go_ret;rw[an.out,ag.out];exact⟨rfl,_,o',cv.out,cs.out⟩
end
section
variable {B:Nat} {sa:Nat->Addr} {w0:V} {kb c:Nat} {txt:ByteArray} {x:KpX} {M:KpM} {o:Nat->Nat} {w:V} {T:Nat}
theorem Ajx(h:Hs M=0):M.m.off=false/\M.D.reset=false:=by
 unfold Hs at h;cases h1:M.m.off
 ·rw[h1,if_neg (by decide)]at h;cases h2:M.D.reset
  ·exact⟨rfl,rfl⟩
  ·rw[h2,if_pos rfl]at h;cases h
 ·rw[h1,if_pos rfl]at h;cases h
theorem Acj(h:Bq B sa w0 kb c txt x M o w)(hO:Bn M T)(hT:T+2<=400000):
  ZH ZI 44 #[ZA (U ⟨kb,0,O⟩)] w (Ft B sa w0 kb c txt (Hr M) o w):=by
 unfold Ft;have s:=G (Ue h);have H:=G h;have HOk:=G hO;unfold Hr;by_cases h0:Hs M=0
 ·rw[h0]at s ⊢;rw[if_neg (by decide)];obtain⟨Q,S⟩:=Ajx h0;obtain⟨k0,k1,k2,k3,k4,k5,k6,k7,k8,k9,l,kf⟩:=Bv h.box;clear k1 k2 k3 k4 k5 k6 k7 k8 k9 l kf;have hd:=hO.dog;have he:Fk M.D=0:=by
   have hn:=hO.now;unfold Fk;rw[S,if_neg (by decide),if_neg (by omega)]
  rw[he,if_neg (by decide)];have i:=G (zF B sa x.d M.D w h.b.dog hd h.b.se);rw[he,Fe]at i;obtain⟨K,a1,_⟩:=Uh hO (by omega) he;have Y:=G K;have a:=G (fun w1 (k:Ac (· =x.d) w w1) (g:D4 w1 x.d (Ec M.D))=>(show Bq B sa w0 kb c txt x (Kl M) o w1/\Fr o o w w1 from⟨h.dog' k g,Fr.of k (fun b E=>by rw[E];have:=h.b.od;omega)⟩));have ao:=G Q;have ac:0<=(Ec M.D).now:=by have:=K.dog.l0;have:=K.dog.ln;exact Int.le_trans ‹_› ‹_›
  obtain⟨N,hN⟩:∃N,N=Kl M:=⟨_,rfl⟩
  have aa:Ec M.D=N.D:=by rw[hN];rfl
  have ap:M.C=N.C:=by rw[hN];rfl
  have aq:M.m=N.m:=by rw[hN];rfl
  rw[aa,ap,<-hN];rw[aa]at ac i a;rw[<-hN]at a Y;rw[aq]at ao;have ab:=Er Y.bound;obtain⟨L,n⟩:∃L,L=N.C.cycle:=⟨_,rfl⟩
  obtain⟨X,p⟩:∃X,X=N.D.now:=⟨_,rfl⟩
  rw[<-n,<-p];rw[<-n]at ab;rw[<-p]at ac;have a6:1<=L:=ab.2.2.2.2.1;have P:=G n;have ar:=G p;clear h hO h0 Q S hd he K a1 hN aa ap aq ab n p;cases hr:N.D.reset with
  |true=>
   rw[if_pos rfl];have t:=G (fun w1 (g:D4 w1 x.d N.D)=>(by have:=Mg x.d N.D w1 g;rw[hr]at this;exact this:ZH ZI 53 #[ZA (U ⟨x.d,0,O⟩)] w1 fun e w'=>e=ZD (.bool true)/\w1=w'));clear hr;go_enter func44,ntmps44;go_wp2_with fail;refine s.mono ?_;rintro e w1 ⟨rfl,rfl⟩;rw[Fe];go_wp2_with fail;refine i.mono ?_;rintro e w1 ⟨rfl,g1,g2⟩;have f:=G (t w1 g1);obtain⟨z1,z2⟩:=a w1 g2 g1;have Z:=G (And.intro z1 z2);obtain⟨j0,k1,k2,k3,k4,k5,k6,k7,k8,k9,l,kf⟩:=Bv z1.box;obtain⟨_,_,_,_,_,_,_,_,_,_,a8⟩:=z1.b.se.all;clear g1 g2 z1 z2 k0 k1 k2 k3 k4 k5 k6 k7 k8 k9 l kf;go_wp2_with fail;refine f.mono ?_;rintro e w2 ⟨rfl,rfl⟩;go_wp2_with fail;go_ret;exact⟨rfl,x,o,Z.1,Z.2⟩
  |false=>
   rw[if_neg (by decide)];have t:=G (fun w1 (g:D4 w1 x.d N.D)=>(by have:=Mg x.d N.D w1 g;rw[hr]at this;exact this:ZH ZI 53 #[ZA (U ⟨x.d,0,O⟩)] w1 fun e w'=>e=ZD (.bool false)/\w1=w'));have A:=G (fun w1 q (g:D4 w1 x.d N.D)=>(by have:=P4 x.d N.D (w1.drewN q) (Kb q g);rw[<-ar.out]at this;exact this:ZH ZI 26 #[ZA (U ⟨x.d,0,O⟩)] (w1.drewN q) fun e w'=>e=ZD (I J X)/\w1.drewN q=w'));have aw:X.tmod L=X%L:=Zyw ac;by_cases hc:X%L=0
   ·rw[if_pos hc];have a2:(X%L==0)=true:=by rw[hc];rfl
    have HEnd:=G (fun w1 (g:Bq B sa w0 kb c txt x N o w1)=>Agr g Y ao.out);unfold Ft at HEnd;obtain⟨r,av⟩:∃r,r=Q2 N:=⟨_,rfl⟩
    rw[<-av]at HEnd ⊢;obtain⟨re,rM⟩:=r;clear hr aw hc av;go_enter func44,ntmps44;go_wp2_with fail;refine s.mono ?_;rintro e w1 ⟨rfl,rfl⟩;rw[Fe];go_wp2_with fail;refine i.mono ?_;rintro e w1 ⟨rfl,g1,g2⟩;have f:=G (t w1 g1);have u:=G (fun q=>A w1 q g1);obtain⟨z1,z2⟩:=a w1 g2 g1;have Z:=G (And.intro z1 z2);obtain⟨j0,k1,k2,j3,k4,k5,k6,k7,k8,k9,l,kf⟩:=Bv z1.box;rw[<-P.out]at j3;clear g1 g2 z1 z2 k0 k1 k2 k4 k5 k6 k7 k8 k9 l kf A t i a;go_wp2_with fail;refine f.mono ?_;rintro e w2 ⟨rfl,rfl⟩;go_wp2_with fail;go_quiet (first|(go_at_call 26;exact Ek (u _)));generalize R:World.drewN w1 _=wq;have E:ZF w1.heap.size w1 wq:=by rw[<-R];exact Ag _ (R1 _ _)
    have y:=G (And.intro (Z.1.below E) (Z.2.trans (Fr.below o E)));have HEq:=G (HEnd wq y.1);clear R E j0 j3 u f Z HEnd;go_wp2_with fail;refine HEq.mono ?_;rintro e w2 ⟨rfl,x',o',z1,z2⟩;have Z2:=G (And.intro z1 (y.2.trans z2));clear z1 z2;go_wp2_with fail;go_ret;exact⟨rfl,x',o',Z2.1,Z2.2⟩
   ·rw[if_neg hc];have a2:(X%L==0)=false:=beq_eq_false_iff_ne.2 hc;clear hr aw hc;go_enter func44,ntmps44;go_wp2_with fail;refine s.mono ?_;rintro e w1 ⟨rfl,rfl⟩;rw[Fe];go_wp2_with fail;refine i.mono ?_;rintro e w1 ⟨rfl,g1,g2⟩;have f:=G (t w1 g1);have u:=G (fun q=>A w1 q g1);obtain⟨z1,z2⟩:=a w1 g2 g1;have Z:=G (And.intro z1 z2);obtain⟨j0,k1,k2,j3,k4,k5,k6,k7,k8,k9,l,kf⟩:=Bv z1.box;rw[<-P.out]at j3;clear g1 g2 z1 z2 k0 k1 k2 k4 k5 k6 k7 k8 k9 l kf A t i a;go_wp2_with fail;refine f.mono ?_;rintro e w2 ⟨rfl,rfl⟩;go_wp2_with fail;go_quiet (first|(go_at_call 26;exact Ek (u _)));generalize R:World.drewN w1 _=wq;have E:ZF w1.heap.size w1 wq:=by rw[<-R];exact Ag _ (R1 _ _)
    have y:=G (And.intro (Z.1.below E) (Z.2.trans (Fr.below o E)));clear R E j0 j3 u f Z;go_wp2_with fail;go_ret;exact⟨rfl,x,o,y.1,y.2⟩
 ·rw[if_pos h0];obtain⟨q,R⟩:∃q,Hs M=q+1:=⟨Hs M-1,by omega⟩
  rw[R]at s ⊢;clear h hO h0 R;go_enter func44,ntmps44;go_wp2_with fail;refine s.mono ?_;rintro e w1 ⟨rfl,rfl⟩;rw[Gf];go_wp2_with fail;go_ret;exact⟨rfl,x,o,H.out,Fr.refl _ _⟩
end
theorem Sd{M:KpM}{k:Nat}(h:(Bi M k).1≠0):∀j,Bi M (k+j)=Bi M k
 |0=>rfl
 |j+1=>by
  have ih:=Sd h j
  show(if (Bi M (k+j)).1≠0 then Bi M (k+j) else Hr (Bi M (k+j)).2)=_
  rw[ih,if_pos h]
theorem sK{M M':KpM}{k:Nat}(h:Bi M k=(0,M')):Bi M (k+1)=Hr M':=by
 show(if (Bi M k).1≠0 then Bi M k else Hr (Bi M k).2)=_
 rw[h,if_neg (fun h=>h rfl)]
section
variable {B:Nat} {sa:Nat->Addr} {w0:V} {kb c:Nat} {txt:ByteArray} {x:KpX} {M:KpM} {o:Nat->Nat} {w:V} {T:Nat}
