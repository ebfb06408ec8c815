import Derived.Test.YtikehilbmldadaaGreatDoorP20
import Derived.Test.YtikehilbmldadaaGreatDoorP11
set_option maxHeartbeats 8000000
set_option maxRecDepth 100000
set_option linter.unusedVariables false
namespace Go.Proofs.YtikehilbmldadaaGreatDoor
open Proofs.Tryz YtikehilbmldadaaGreatDoor.Tryz RowKit
open Go renaming World->V,Value->ZE,RowKit.Below->ZF,RowKit.Hid->ZG,Calls->ZH,Value.int->I,IntKind.i64->J,Value.slice->F,Obj.cells->ZC,Ending.returned->ZD,Value.agg->ZJ,Proofs.Tryz.prog->ZI
open Option renaming some->U,none->O
def Rl(X:List A2):Prop:=12<X.length\/∃x∈X,Nl x.E
instance (X:List A2):Decidable (Rl X):=by unfold Rl;infer_instance
def Ni(X:List A2):Int:=if Rl X then 1 else 0
theorem Wo{X:List A2}(h:Rl X):Ni X=1:=if_pos h
theorem xZ{X:List A2}(h:¬Rl X):Ni X=0:=if_neg h
theorem Xa(R:Nat->Prop)(C:Ar)(v:ZE)(X:List A2)(w:V)(h:F0 R w v X)(hR:∀b,R b->b<w.heap.size):
  ZH ZI 15 #[ZJ (Az C v)] w fun e w'=>e=ZD (I J (Ni X))/\ZF w.heap.size w w':=by
 obtain⟨ao,cap,rfl⟩:=h.row.val;obtain⟨a1,a2⟩:=h.row.capB;have H:=G h;have u:=G hR;have q:=Ab w (ZC (Az C (F ao X.length cap)) 30);have n:ZF w.heap.size w (w.alloc (ZC (Az C (F ao X.length cap)) 30)):=(R1 _ _).alloc (Y2 _) _;have a0:X.length<=9223372036854775807:=by omega
 clear h hR;unfold Az at q n ⊢;go_enter func15,ntmps15;go_upto_region 1 with fail;generalize w.alloc _=w1 at q n ⊢;have y:ZG (w1.heap[w.heap.size]? =U (ZC (Az C (F ao X.length cap)) 30)):=q;obtain⟨c0,c1,c2,c3,c4⟩:=Ba y.out;clear q;by_cases ac:(12:Int)<(X.length:Int)
 ·have T:=G (show Ni X=1 from Wo (.inl (by omega)));go_wp2_with fail;go_ret;exact⟨A6 T.symm,n⟩
 have HN12:=G ac;go_wp2_with fail;go_loopw [3] (fun s wr=>∃i:Nat,i<=X.length/\s=I J i/\ZF w.heap.size w wr/\ZG (wr.heap[w.heap.size]? =U (ZC (Az C (F ao X.length cap)) 30))/\ZG (∀j (h:j<X.length),j<i->¬Nl X[j].E)) (fun s _=>X.length-(intOf s).toNat);case atStart=>exact⟨0,In _,rfl,n,y,fun j _ h=>by omega⟩
 case round=>
  obtain⟨i,hi,rfl,a,P,t⟩:=hrel;clear y n c0 c1 c2 c3 c4;obtain⟨c0,c1,c2,c3,c4⟩:=Ba P.out;by_cases o:i<X.length
  ·obtain⟨b,off,rfl,ad,hb,hc⟩:=Ks H.row (by omega);obtain⟨q0,q1,q2,q3,q4,q5,q6,q7,q8,q9⟩:=hc i o;have Z:=u b ad;rw[<-a.cell Z]at q0 q1 q2 q3 q4 q5 q6 q7 q8 q9;have d:=G (W9 R X[i].E X[i].p X[i].g X[i].e X[i].f X[i].l wr ((H.each X[i] (M2 o)).keep (Ac.of_below a) (fun b hb hS=>by have:=u b hb;omega)) (Bw u a));unfold As at d;have m:=H.each X[i] (M2 o);obtain⟨pa,pc,N⟩:=m.p.val;obtain⟨ga,gc,L⟩:=m.g.val;obtain⟨ea,ec,D⟩:=m.e.val;obtain⟨fa,fc,K⟩:=m.f.val;obtain⟨la,lc,M⟩:=m.l.val;rw[N,L,D,K,M]at d;rw[N]at q2;rw[L]at q6;rw[D]at q7;rw[K]at q8;rw[M]at q9;obtain⟨xe,Q⟩:∃xe,xe=X[i].E:=⟨_,rfl⟩
   rw[<-Q]at d q0 q1 q2 q3 q4 q5 q6 q7 q8 q9;have Y:=G Q;clear hc N L D K M m Q;by_cases B:Nl xe
   ·rw[Tg B]at d;have T:=G (show Ni X=1 from Wo (.inr ⟨X[i],M2 o,by rw[<-Y.out];exact B⟩));go_wp2_with fail;refine d.mono ?_;rintro e w2 ⟨rfl,S⟩;have A:=a.trans (S.mono a.size);clear S;go_wp2_with fail;go_ret;exact⟨A6 T.symm,A⟩
   ·rw[Y1 B]at d;have ab:=G B;clear B;go_wp2_with fail;refine d.mono ?_;rintro e w2 ⟨rfl,S⟩;have A:=a.trans (S.mono a.size);have af:=G (Ae S P (Aa P.out));clear S;go_wp2_with fail;go_roundw;case rel=>
     refine⟨i+1,by omega,by go_num,A,af,fun j h hj=>?_⟩;by_cases ae:j=i
     ·subst ae;have:=ab.out;rw[Y.out]at this;exact this
     ·exact t j h (by omega)
    case measure=>simp[intOf];omega
  ·have T:=G (show Ni X=0 from xZ (by
    rintro(h|⟨x,hx,B⟩)
    ·have:=HN12.out;omega
    ·obtain⟨j,hj,rfl⟩:=List.mem_iff_getElem.1 hx;exact t j hj (by omega) B))
   go_wp2_with fail;go_ret;exact⟨A6 T.symm,a⟩
theorem Tryz.infoEnt:(ZI.info? 50).map (fun i=>(i.zero,i.size,i.bytes))=U (U (ZJ (As ⟨ByteArray.empty,0,[],0,0,0,[],[],[],[]⟩ (F O 0 0) (F O 0 0) (F O 0 0) (F O 0 0) (F O 0 0))),10,168):=by kernel_rfl
theorem Dk.imp{R S:Nat->Prop}{w:V}{E:Ak}{o m ve j vl:ZE}(h:Dk R w E o m ve j vl)(A:∀b,R b->b<w.heap.size->S b):Dk S w E o m ve j vl:=by
 have k:∀{v:ZE} {d:Nat} {a:List ZE} {n:Nat},Av R w v d a n->Av S w v d a n:=by
  intro v d a n h;obtain⟨B,q,cap,D,h1,h2,h3,s⟩:=h;refine⟨B,q,cap,D,h1,h2,h3,fun C=>?_⟩;obtain⟨b,off,u,t,i,y⟩:=s C;exact⟨b,off,u,A b t i,i,y⟩
 exact⟨k h.p,k h.g,k h.e,k h.f,k h.l⟩
theorem Ax.mono{w:V}{d a:Nat}{e:TypeId}{size:Nat}{v:ZE}{n:Nat}{i:List ZE}(h:Ax w d e size v n i)(j:a<=d):Ax w a e size v n i:=by
 refine⟨h.1,?_⟩;rcases h.2 with l|⟨g,off,cap,f,h1,h2,h3⟩
 ·exact .inl l
 ·exact .inr ⟨g,off,cap,f,h1,No j h2,h3⟩
structure O6 (base:Nat) (w:V) (v:ZE) (Y:List A2):Prop where
 row:Ax w base 50 10 v Y.length (Y.flatMap A5)
 each:∀y∈Y,Dk (fun b=>base<=b/\v.ownBlock≠U b) w y.E y.p y.g y.e y.f y.l
theorem O6.nil(base:Nat)(w:V):O6 base w (F O 0 0) []:=⟨⟨rfl,.inl ⟨rfl,rfl⟩⟩,fun y hy=>(by cases hy)⟩
theorem O6.keep{a:Nat}{S:Nat->Prop}{w w':V}{v:ZE}{Y:List A2}(h:O6 a w v Y)(k:Ac S w w')(e:∀b,a<=b->b<w.heap.size->¬S b):O6 a w' v Y:=by
 refine⟨h.row.keep k (fun b d=>e b (h.row.lt b d).1 (h.row.lt b d).2),fun y g=>?_⟩;exact(((h.each y g).imp (S:=fun b=>(a<=b/\v.ownBlock≠U b)/\b<w.heap.size) (fun b d f=>⟨d,f⟩)).keep k (fun b d=>e b d.1.1 d.2)).imp (fun b d _=>d.1)
theorem O6.later{a:Nat}{w w':V}{v:ZE}{Y:List A2}(h:O6 a w v Y)(b:ZF w.heap.size w w'):O6 a w' v Y:=
 h.keep (Al b) (fun _ _ _ h=>h)
theorem O6.mono{d a:Nat}{w:V}{v:ZE}{Y:List A2}(h:O6 d w v Y)(e:a<=d):O6 a w v Y:=
 ⟨h.row.mono e,fun y f=>(h.each y f).imp (fun b h _=>⟨No e h.1,h.2⟩)⟩
theorem O6.ents{a:Nat}{w:V}{v:ZE}{Y:List A2}(h:O6 a w v Y):F0 (fun b=>a<=b/\b<w.heap.size) w v Y:=by
 refine⟨?_,fun y o=>(h.each y o).imp (fun b h d=>⟨h.1,d⟩)⟩;obtain⟨d,f,cap,n,h1,h2,h3,g⟩:=h.row.slOf;refine⟨d,f,cap,n,h1,h2,h3,fun m=>?_⟩;obtain⟨b,off,j,i,e,l⟩:=g m;exact⟨b,off,j,⟨i.1,e⟩,e,l⟩
theorem O6.app{a:Nat}{w w1:V}{v:ZE}{Y:List A2}(h:O6 a w v Y){y:A2}(t:Dk (fun b=>a<=b/\v.ownBlock≠U b) w y.E y.p y.g y.e y.f y.l){v1:ZE}
  (s:Ax w1 a 50 10 v1 (Y.length+1) (Y.flatMap A5++A5 y)) (o:w.grownBy w1 v.ownBlock) (i:v1.ownBlock=v.ownBlock\/∀b,v1.ownBlock=U b->w.heap.size<=b):O6 a w1 v1 (Y++ [y]):=by
 refine⟨by rw[R2,B1];simpa using s,fun z j=>?_⟩;have m:Dk (fun b=>a<=b/\v.ownBlock≠U b) w z.E z.p z.g z.e z.f z.l:=by
  rcases List.mem_append.1 j with j|j
  ·exact h.each z j
  ·obtain rfl:=List.mem_singleton.1 j;exact t
 refine((m.imp (S:=fun b=>(a<=b/\v.ownBlock≠U b)/\b<w.heap.size) (fun b d q=>⟨d,q⟩)).keep (Ac.of_grown o) (fun b d (h:U b=v.ownBlock)=>d.1.2 h.symm)).imp (fun b d _=>⟨d.1.1,fun n=>?_⟩);rcases i with i|i
 ·exact d.1.2 (by rw[<-i];exact n)
 ·have:=i b n;have:=d.2;omega
structure Sp (w0:V) (C:Ar) (vX v:ZE) (Y:List A2) (w:V):Prop where
 below:ZF w0.heap.size w0 w
 h0:w.heap[w0.heap.size]? =U (ZC (Az C vX) 30)
 h1:w.heap[w0.heap.size+1]? =U (ZC (Az ⟨0,0,0,0,[]⟩ (F O 0 0)) 30)
 h2:w.heap[w0.heap.size+1+1]? =U (ZC (Az C v) 30)
 own:O6 (w0.heap.size+3) w v Y
theorem Sp.later{w0 w w':V}{C:Ar}{a v:ZE}{Y:List A2}(h:Sp w0 C a v Y w)(b:ZF w.heap.size w w'):Sp w0 C a v Y w':=
 ⟨h.below.trans (b.mono h.below.size),Ae b h.h0 (Aa h.h0),Ae b h.h1 (Aa h.h1),Ae b h.h2 (Aa h.h2),h.own.later b⟩
theorem wT(w:V)(C:Ar)(a:ZE):Sp w C a (F O 0 0) [] (((w.alloc (ZC (Az C a) 30)).alloc (ZC (Az ⟨0,0,0,0,[]⟩ (F O 0 0)) 30)).alloc (ZC (Az C (F O 0 0)) 30)):=by
 have n1:=Ab w (ZC (Az C a) 30);have d:=Ab (w.alloc (ZC (Az C a) 30)) (ZC (Az ⟨0,0,0,0,[]⟩ (F O 0 0)) 30);have e:=Ab ((w.alloc (ZC (Az C a) 30)).alloc (ZC (Az ⟨0,0,0,0,[]⟩ (F O 0 0)) 30)) (ZC (Az C (F O 0 0)) 30);rw[H7]at d;rw[H7,H7]at e;have f:ZF w.heap.size w (((w.alloc (ZC (Az C a) 30)).alloc (ZC (Az ⟨0,0,0,0,[]⟩ (F O 0 0)) 30)).alloc (ZC (Az C (F O 0 0)) 30)):=(((R1 _ _).alloc (Y2 _) _).alloc (by simp) _).alloc (by simp;omega) _;exact⟨f,Bp _ (Bp _ n1),Bp _ d,e,O6.nil _ _⟩
theorem Sp.next{w0 wA w1:V}{C:Ar}{s v:ZE}{Y:List A2}(h:Sp w0 C s v Y wA){y:A2}(B:Dk (fun b=>w0.heap.size+3<=b/\v.ownBlock≠U b) wA y.E y.p y.g y.e y.f y.l){v1:ZE}
  (A:Ax w1 (w0.heap.size+3) 50 10 v1 (Y.length+1) (Y.flatMap A5++A5 y)) (q:wA.grownBy w1 v.ownBlock) (u:v1.ownBlock=v.ownBlock\/∀b,v1.ownBlock=U b->wA.heap.size<=b):
  Sp w0 C s v1 (Y++ [y]) (w1.setCell ⟨w0.heap.size+1+1,4,O⟩ v1)/\(∃c,w1.cell? ⟨w0.heap.size+1+1,4,O⟩=U c)/\∀o,w1.frozen? ⟨w0.heap.size+1+1,o,O⟩=false:=by
 have i:=Ac.of_grown q;have a:∀b,b<w0.heap.size+3->¬U b=v.ownBlock:=fun b n t=>by have:=(h.own.row.lt b t.symm).1;omega
 have g2:=i.get h.h2 (a _ (by omega));have m:=Af w1 (w0.heap.size+1+1) 4 v1;have d:=h.below.size;refine⟨⟨?_,m.get (i.get h.h0 (a _ (by omega))) (by omega),m.get (i.get h.h1 (a _ (by omega))) (by omega),?_,(h.own.app B A q u).keep m (fun b n _=>by omega)⟩,⟨v,by simp[World.cell?,g2,Az]⟩,fun o=>by simp[World.frozen?,g2]⟩
 ·exact h.below.trans ((i.below d (fun b n=>by have:=(h.own.row.lt b (Eq.symm n)).1;omega)).trans (m.below (No d i.size) (by intro j D;omega)))
 ·rw[Ah _ g2];rfl
theorem gJ(R:Nat->Prop)(C:Ar)(v:ZE)(X:List A2)(w:V)(h:F0 R w v X)(hR:∀b,R b->b<w.heap.size)(hH:¬Rl X):
  ZH ZI 32 #[ZJ (Az C v)] w fun e w'=>∃ao cap Y,e=ZD (ZJ (Az C (F ao Y.length cap)))/\Y.map A2.E=X.map A2.E/\O6 w.heap.size w' (F ao Y.length cap) Y/\ZF w.heap.size w w':=by
 obtain⟨i0,bm,bp,bq,br⟩:=info_parts infoEnt;obtain⟨ao,cap,rfl⟩:=h.row.val;obtain⟨cg,ch⟩:=h.row.capB;have H:=G h;have Q:=G hR;have b0:X.length<=12:=Nat.le_of_not_lt (fun hh=>hH (.inl hh));have bd:ZG (∀x∈X,¬Nl x.E):=fun x hx hh=>hH (.inr ⟨x,hx,hh⟩);have HS:=G (wT w C (F ao X.length cap));clear h hR hH;unfold Az at HS ⊢;go_enter func32,ntmps32;go_upto_region 3 with fail;generalize World.alloc _ _=w3 at HS ⊢;have HS:ZG (Sp w C (F ao X.length cap) (F O 0 0) [] w3):=HS;go_wp2_with fail;go_loopw [4] (fun s wr=>∃(i:Nat) (m:Option Addr) (k1:Nat) (Y:List A2),i<=X.length/\s=I J i/\ZG (Y.length=i)/\ZG (Y.map A2.E=(X.take i).map A2.E)/\ZG (Sp w C (F ao X.length cap) (F m i k1) Y wr)) (fun s _=>X.length-(intOf s).toNat);case atStart=>exact⟨0,O,0,[],In _,rfl,rfl,rfl,HS⟩
 case round=>
  obtain⟨i,m,k1,Y,hi,rfl,n,ax,a⟩:=hrel;clear HS;obtain⟨c0,c1,c2,c3,c4⟩:=Ba a.h0;obtain⟨d0,d1,d2,d3,d4⟩:=Ba a.h2;by_cases A:i<X.length
  ·obtain⟨b,off,rfl,bj,j,hc⟩:=Ks H.row (by omega);obtain⟨q0,q1,q2,q3,q4,q5,q6,q7,q8,q9⟩:=hc i A;have aw:=Q b bj;have t:=a.below;rw[<-t.cell aw]at q0 q1 q2 q3 q4 q5 q6 q7 q8 q9;have D:=G (gI R X[i].E X[i].p X[i].g X[i].e X[i].f X[i].l wr ((H.each X[i] (M2 A)).keep (Ac.of_below t) (fun b j hS=>by have:=Q b j;omega)) (Bw Q t) (xI (bd _ (M2 A))));unfold As at D;have d:=H.each X[i] (M2 A);obtain⟨pa,pc,aj⟩:=d.p.val;obtain⟨ga,gc,ah⟩:=d.g.val;obtain⟨Z,ec,af⟩:=d.e.val;obtain⟨fa,fc,ag⟩:=d.f.val;obtain⟨la,lc,ai⟩:=d.l.val;rw[aj,ah,af,ag,ai]at D;rw[aj]at q2;rw[ah]at q6;rw[af]at q7;rw[ag]at q8;rw[ai]at q9;obtain⟨xe,ak⟩:∃xe,xe=X[i].E:=⟨_,rfl⟩
   rw[<-ak]at D q0 q1 q2 q3 q4 q5 q6 q7 q8 q9;have bg:=G ak;have cb:=G t.size;clear hc aj ah af ag ai d ak t;go_wp2_with fail;refine D.mono ?_;rintro e N ⟨_,rfl,⟨vp,vg,ve,vf,vl,rfl,hs⟩,b2⟩;obtain⟨pa,pc,rfl⟩:=hs.p.val;obtain⟨ga,gc,rfl⟩:=hs.g.val;obtain⟨Z,ec,rfl⟩:=hs.e.val;obtain⟨fa,fc,rfl⟩:=hs.f.val;obtain⟨la,lc,rfl⟩:=hs.l.val;have au:=G (a.later b2);have aq:=G hs;have HSTW:=G a.out;clear a c0 c1 c2 c3 c4 d0 d1 d2 d3 d4 b2 hs q0 q1 q2 q3 q4 q5 q6 q7 q8 q9;unfold As;go_upto_region 7 with fail;obtain⟨y,a4⟩:∃y:A2,y=⟨xe,F pa xe.points.length pc,F ga xe.gaps.length gc,F Z xe.edges.length ec,F fa xe.first.length fc,F la xe.last.length lc⟩:=⟨_,rfl⟩
   have T:=G a4;have B:=Ab N (ZC (As xe (F pa xe.points.length pc) (F ga xe.gaps.length gc) (F Z xe.edges.length ec) (F fa xe.first.length fc) (F la xe.last.length lc)) 50);have q:ZF N.heap.size N (N.alloc (ZC (As xe (F pa xe.points.length pc) (F ga xe.gaps.length gc) (F Z xe.edges.length ec) (F fa xe.first.length fc) (F la xe.last.length lc)) 50)):=(R1 _ _).alloc (Y2 _) _;have ar:ZG (Dk (fun b=>w.heap.size+3<=b/\(Value.slice m i k1).ownBlock≠U b) N y.E y.p y.g y.e y.f y.l):=G (by
    rw[T.out];refine aq.imp (fun b j _=>?_);have h3:=Aa HSTW.h2;refine⟨by omega,fun hh=>?_⟩;have:=(HSTW.own.row.lt b hh).2;omega)
   unfold As at B q;clear a4 aq HSTW;generalize N.alloc _=w3 at B q ⊢;have K:=G (au.later q);have HEy3:=G ((ar.imp (S:=fun b=>(w.heap.size+3<=b/\(Value.slice m i k1).ownBlock≠U b)/\b<N.heap.size) (fun b j hl=>⟨j,hl⟩)).keep (Ac.of_below q) (fun b j=>by omega));have bo:=Aa B;obtain⟨eb,az⟩:∃eb,eb=N.heap.size:=⟨_,rfl⟩
   rw[<-az]at B bo ⊢;clear az q au ar;obtain⟨z0,z1,z2,z3,z4,z5,z6,z7,z8,z9,zf⟩:=Bo B;obtain⟨d0,d1,d2,d3,d4⟩:=Ba K.h2;have cj:=Aa K.h2;have av:ZG (∀o,Ax (w3.alloc o) (w.heap.size+3) 50 10 (F m i k1) i (Y.flatMap A5)/\w.heap.size+3<=(w3.alloc o).heap.size):=(show _ from fun o=>⟨by have:=K.own.row.later ((R1 _ _).alloc (Y2 _) o);rw[n.out]at this;exact this,by rw[H7];omega⟩)
   have bh:ZG (i+1<=maxLen):=G (by unfold maxLen;omega);have bk:ZG ((i+1)*168<=140737488355328):=G (by omega);have bf:ZG (∀(o:Obj) (P:V) (L:Option Addr) (M:Nat),Ax P (w.heap.size+3) 50 10 (F L (i+1) M) (i+1) (Y.flatMap A5++A5 ⟨xe,F pa xe.points.length pc,F ga xe.gaps.length gc,F Z xe.edges.length ec,F fa xe.first.length fc,F la xe.last.length lc⟩)->(w3.alloc o).grownBy P (Value.slice m i k1).ownBlock->((Value.slice L (i+1) M).ownBlock=(Value.slice m i k1).ownBlock\/∀b,(Value.slice L (i+1) M).ownBlock=U b->(w3.alloc o).heap.size<=b)->Sp w C (F (U ⟨b,off,O⟩) X.length cap) (F L (i+1) M) (Y++ [y]) (P.setCell ⟨w.heap.size+1+1,4,O⟩ (F L (i+1) M))/\(∃c,P.cell? ⟨w.heap.size+1+1,4,O⟩=U c)/\∀o,P.frozen? ⟨w.heap.size+1+1,o,O⟩=false):=(show _ from by
    intro o P L M ho hg hn;have ay:ZF w3.heap.size w3 (w3.alloc o):=(R1 _ _).alloc (Y2 _) _;rw[<-T.out]at ho;refine(K.later ay).next ((HEy3.imp (S:=fun b=>(w.heap.size+3<=b/\(Value.slice m i k1).ownBlock≠U b)/\b<w3.heap.size) (fun b j hl=>⟨j.1,hl⟩)).keep (Al ay) (fun b j h=>h) |>.imp (fun b j _=>j.1)) ?_ hg hn
    rw[n.out];exact ho)
   go_wp2_with (at_builtin;go_must (refine A3 rfl (.tmp 22) (.tmp 24) 28 rfl (w.heap.size+3) 50 i0 _ 10 168 underlying28 bm bp bq br rfl (by decide) _ i _ rfl (av _).1 ⟨w3.heap.size,0,O⟩ 1 1 (A5 ⟨xe,F pa xe.points.length pc,F ga xe.gaps.length gc,F Z xe.edges.length ec,F fa xe.first.length fc,F la xe.last.length lc⟩) rfl rfl (A1 _ (A5 ⟨xe,F pa xe.points.length pc,F ga xe.gaps.length gc,F Z xe.edges.length ec,F fa xe.first.length fc,F la xe.last.length lc⟩) _) (by intro u hu;simp[A5,As]at hu;rcases hu with rfl|rfl|rfl|rfl|rfl|rfl|rfl|rfl|rfl|rfl<;>rfl) bh bk (av _).2 ?_;intro L M P ho hg hn;obtain⟨nx,⟨c9,ci⟩,ck⟩:=bf _ P L M ho hg hn;clear ho hg hn;have NX:=G nx;clear nx));go_roundw;case rel=>
    refine⟨i+1,L,M,Y++ [y],by omega,by go_num,(show(Y++ [y]).length=i+1 from by rw[R2,n.out];rfl),?_,NX⟩;show(Y++ [y]).map A2.E=(X.take (i+1)).map A2.E
    rw[If A,B0,B0,ax.out,T.out,bg.out];rfl
   case measure=>simp[intOf];omega
  ·have bc:ZG (Y.map A2.E=X.map A2.E):=G (by rw[ax.out,(show i=X.length by omega),Zz2]);obtain⟨z0,z1,z2,z3,z4⟩:=Ba a.h1;have zf:∀o,wr.frozen? ⟨w.heap.size+1,o,O⟩=false:=by have bl:=a.h1;intro o;simp[World.frozen?,bl]
   have HEND:ZG (∀w',Ac (· =w.heap.size+1) wr w'->O6 w.heap.size w' (F m i k1) Y/\ZF w.heap.size w w'):=(show _ from by
    intro w' k;exact⟨(a.own.keep k (fun b j _=>by omega)).mono (by omega),a.below.trans (k.below a.below.size (fun b j=>by omega))⟩)
   rw[<-n.out]at HEND a;obtain⟨ny,cl⟩:∃ny,ny=Y.length:=⟨_,rfl⟩
   clear a;go_wp2_with fail;have HK:=G (((((Af wr (w.heap.size+1) 0 (I J C.closed)).setCell (p:=⟨w.heap.size+1,1,O⟩) (fun _=>rfl) (I J C.opn)).setCell (p:=⟨w.heap.size+1,2,O⟩) (fun _=>rfl) (I J C.cycle)).setCell (p:=⟨w.heap.size+1,3,O⟩) (fun _=>rfl) (I J C.delay)).setCell (p:=⟨w.heap.size+1,4,O⟩) (fun _=>rfl) (F m i k1));refine bodyPost_ret (v:=ZJ #[I J C.closed,I J C.opn,I J C.cycle,I J C.delay,F m i k1]) (by simp[z0,z1,z2,z3,z4,results,results32,go_sem,O2,O1]) rfl ?_;obtain⟨h1,h2⟩:=HEND _ HK.out;refine⟨m,k1,Y,by rw[n.out],bc.out,?_,h2⟩;exact h1
theorem Ahz(w:V)(q:Nat)(a b:ZE):Ac (· =q) w ((w.setCell ⟨q,0,O⟩ a).setCell ⟨q,1,O⟩ b):=Fo (Af _ _ _ _) _ _
theorem Fp{w w1:V}{q:Nat}(h:ZF w.heap.size w w1)(e:w.heap.size<=q)(a b:ZE):ZF w.heap.size w ((w1.setCell ⟨q,0,O⟩ a).setCell ⟨q,1,O⟩ b):=
 h.trans ((Ahz w1 q a b).below h.size (fun k d=>by omega))
theorem pH(n:Int)(w:V):ZH ZI 10 #[I J n] w fun e w'=>e=ZD (ZJ #[I J n,I J (-1)])/\ZF w.heap.size w w':=by
 have a:=Ab w (ZC #[I J 0,I J 0] 32);have d:ZF w.heap.size w (w.alloc (ZC #[I J 0,I J 0] 32)):=(R1 _ _).alloc (Y2 _) _;go_enter func10,ntmps10;go_upto_region 1 with fail;generalize w.alloc _=w1 at a d ⊢;obtain⟨f,z1,g⟩:=Au a;clear a;go_wp2_with fail;refine bodyPost_ret (v:=ZJ #[I J n,I J (-1)]) (by simp[results,results10,go_sem,f,z1,O2,O1]) rfl ?_;exact⟨rfl,Fp d (Y2 _) _ _⟩
theorem Af3(w:V):ZH ZI 47 #[] w fun e w'=>e=ZD (ZJ #[I J 0,I J (-1)])/\ZF w.heap.size w w':=by
 have a:=Ab w (ZC #[I J 0,I J 0] 32);have d:ZF w.heap.size w (w.alloc (ZC #[I J 0,I J 0] 32)):=(R1 _ _).alloc (Y2 _) _;go_enter func47,ntmps47;go_upto_region 1 with fail;generalize w.alloc _=w1 at a d ⊢;obtain⟨f,z1,g⟩:=Au a;clear a;go_wp2_with fail;refine bodyPost_ret (v:=ZJ #[I J 0,I J (-1)]) (by simp[results,results47,go_sem,f,z1,O2,O1]) rfl ?_;exact⟨rfl,Fp d (Y2 _) _ _⟩
def Ade(f:Nat × Int):ZE:=ZJ #[I J f.1,I J f.2]
theorem Gz{f:Nat × Int}{c:Nat}{i:Int}(h:f=(c,i)):Ending.returned (ZJ #[I J (c:Int),I J i])=ZD (Ade f):=by rw[h];rfl
theorem Vh(R:Nat->Prop)(C:Ar)(v:ZE)(X:List A2)(w:V)(h:Gb R w C v X)(hR:∀b,R b->b<w.heap.size):
  ZH ZI 16 #[ZJ (Az C v)] w fun e w'=>e=ZD (Ade (B4 C))/\ZF w.heap.size w w':=by
 obtain⟨ao,cap,rfl⟩:=h.sl.row.val;obtain⟨ay,az⟩:=h.sl.row.capB;have an:C.ents.length=X.length:=by rw[h.eq,Fn]
 have al:=h.len;have H:=G h;have ad:=G hR;have N:=Ab w (ZC (Az C (F ao X.length cap)) 30);have D:ZF w.heap.size w (w.alloc (ZC (Az C (F ao X.length cap)) 30)):=(R1 _ _).alloc (Y2 _) _;obtain⟨w1,u⟩:∃w1,w1=w.alloc (ZC (Az C (F ao X.length cap)) 30):=⟨_,rfl⟩
 rw[<-u]at N D;have o:=Ab w1 (ZC #[I J 0,I J 0] 32);have M:ZF w1.heap.size w1 (w1.alloc (ZC #[I J 0,I J 0] 32)):=(R1 _ _).alloc (Y2 _) _;have P:w1.heap.size=w.heap.size+1:=by rw[u];simp
 clear h hR;unfold Az at u ⊢;go_enter func16,ntmps16;go_upto_region 1 with fail;rw[<-u];generalize w1.alloc _=w2 at o M ⊢;rw[P]at o;obtain⟨rb,ah⟩:∃rb,rb=w.heap.size+1:=⟨_,rfl⟩
 have t:=G (show w.heap.size<=rb from by omega);have hne:¬rb=w.heap.size:=by omega
 rw[<-ah]at o ⊢;have d:=G o;have T:=G (Ae M N (Aa N));have f:=G (D.trans (M.mono D.size));obtain⟨c0,c1,c2,c3,c4⟩:=Ba T.out;have l:=G (pH 2 w2);clear N D o M ah u P;by_cases h1:C.closed<0
 ·have n:=G (show B4 C=(2,-1)from if_pos (On (by omega)));go_wp2_with fail;refine l.mono ?_;rintro e y ⟨rfl,g⟩;have a:=Ae g d (Aa d.out);obtain⟨m,z1,A⟩:=Au a;clear a;go_wp2_with fail;refine bodyPost_ret (v:=ZJ #[I J 2,I J (-1)]) (by simp[results,results16,go_sem,m,z1,O2,O1]) rfl ?_;exact⟨Gz n.out,Fp (f.trans (g.mono f.size)) t _ _⟩
 by_cases h2:1000<C.closed
 ·have n:=G (show B4 C=(2,-1)from if_pos (On (by omega)));go_wp2_with fail;refine l.mono ?_;rintro e y ⟨rfl,g⟩;have a:=Ae g d (Aa d.out);obtain⟨m,z1,A⟩:=Au a;clear a;go_wp2_with fail;refine bodyPost_ret (v:=ZJ #[I J 2,I J (-1)]) (by simp[results,results16,go_sem,m,z1,O2,O1]) rfl ?_;exact⟨Gz n.out,Fp (f.trans (g.mono f.size)) t _ _⟩
 by_cases h3:C.opn<1
 ·have n:=G (show B4 C=(2,-1)from if_pos (On (by omega)));go_wp2_with fail;refine l.mono ?_;rintro e y ⟨rfl,g⟩;have a:=Ae g d (Aa d.out);obtain⟨m,z1,A⟩:=Au a;clear a;go_wp2_with fail;refine bodyPost_ret (v:=ZJ #[I J 2,I J (-1)]) (by simp[results,results16,go_sem,m,z1,O2,O1]) rfl ?_;exact⟨Gz n.out,Fp (f.trans (g.mono f.size)) t _ _⟩
 by_cases h4:1000<C.opn
 ·have n:=G (show B4 C=(2,-1)from if_pos (On (by omega)));go_wp2_with fail;refine l.mono ?_;rintro e y ⟨rfl,g⟩;have a:=Ae g d (Aa d.out);obtain⟨m,z1,A⟩:=Au a;clear a;go_wp2_with fail;refine bodyPost_ret (v:=ZJ #[I J 2,I J (-1)]) (by simp[results,results16,go_sem,m,z1,O2,O1]) rfl ?_;exact⟨Gz n.out,Fp (f.trans (g.mono f.size)) t _ _⟩
 by_cases h5:C.cycle<1
 ·have n:=G (show B4 C=(2,-1)from if_pos (On (by omega)));go_wp2_with fail;refine l.mono ?_;rintro e y ⟨rfl,g⟩;have a:=Ae g d (Aa d.out);obtain⟨m,z1,A⟩:=Au a;clear a;go_wp2_with fail;refine bodyPost_ret (v:=ZJ #[I J 2,I J (-1)]) (by simp[results,results16,go_sem,m,z1,O2,O1]) rfl ?_;exact⟨Gz n.out,Fp (f.trans (g.mono f.size)) t _ _⟩
 by_cases h6:100<C.cycle
 ·have n:=G (show B4 C=(2,-1)from if_pos (On (by omega)));go_wp2_with fail;refine l.mono ?_;rintro e y ⟨rfl,g⟩;have a:=Ae g d (Aa d.out);obtain⟨m,z1,A⟩:=Au a;clear a;go_wp2_with fail;refine bodyPost_ret (v:=ZJ #[I J 2,I J (-1)]) (by simp[results,results16,go_sem,m,z1,O2,O1]) rfl ?_;exact⟨Gz n.out,Fp (f.trans (g.mono f.size)) t _ _⟩
 by_cases h7:C.delay<0
 ·have n:=G (show B4 C=(2,-1)from if_pos (On (by omega)));go_wp2_with fail;refine l.mono ?_;rintro e y ⟨rfl,g⟩;have a:=Ae g d (Aa d.out);obtain⟨m,z1,A⟩:=Au a;clear a;go_wp2_with fail;refine bodyPost_ret (v:=ZJ #[I J 2,I J (-1)]) (by simp[results,results16,go_sem,m,z1,O2,O1]) rfl ?_;exact⟨Gz n.out,Fp (f.trans (g.mono f.size)) t _ _⟩
 by_cases h8:20<C.delay
 ·have n:=G (show B4 C=(2,-1)from if_pos (On (by omega)));go_wp2_with fail;refine l.mono ?_;rintro e y ⟨rfl,g⟩;have a:=Ae g d (Aa d.out);obtain⟨m,z1,A⟩:=Au a;clear a;go_wp2_with fail;refine bodyPost_ret (v:=ZJ #[I J 2,I J (-1)]) (by simp[results,results16,go_sem,m,z1,O2,O1]) rfl ?_;exact⟨Gz n.out,Fp (f.trans (g.mono f.size)) t _ _⟩
 by_cases h9:(8:Int)<(X.length:Int)
 ·have n:=G (show B4 C=(2,-1)from if_pos (On (by omega)));go_wp2_with fail;refine l.mono ?_;rintro e y ⟨rfl,g⟩;have a:=Ae g d (Aa d.out);obtain⟨m,z1,A⟩:=Au a;clear a;go_wp2_with fail;refine bodyPost_ret (v:=ZJ #[I J 2,I J (-1)]) (by simp[results,results16,go_sem,m,z1,O2,O1]) rfl ?_;exact⟨Gz n.out,Fp (f.trans (g.mono f.size)) t _ _⟩
 have K:Es C=false:=N1 (by omega);clear l;by_cases Y:C.opn<C.cycle
 ·have n:=G (show B4 C=(3,-1)from by unfold B4;rw[if_neg (by rw[K];decide),if_pos Y]);have l:=G (pH 3 w2);clear K;go_wp2_with fail;refine l.mono ?_;rintro e y ⟨rfl,g⟩;have a:=Ae g d (Aa d.out);obtain⟨m,z1,A⟩:=Au a;clear a;go_wp2_with fail;refine bodyPost_ret (v:=ZJ #[I J 3,I J (-1)]) (by simp[results,results16,go_sem,m,z1,O2,O1]) rfl ?_;exact⟨Gz n.out,Fp (f.trans (g.mono f.size)) t _ _⟩
 have n:=G (show B4 C=Qf C.ents from by unfold B4;rw[if_neg (by rw[K];decide),if_neg Y]);clear K;go_wp2_with fail;go_loopw [3] (fun s wr=>∃i:Nat,i<=X.length/\s=I J i/\ZG (ZF w.heap.size w wr)/\ZG (wr.heap[w.heap.size]? =U (ZC (Az C (F ao X.length cap)) 30))/\ZG (wr.heap[rb]? =U (ZC #[I J 0,I J 0] 32))/\ZG (∀j,j<i->Jd C.ents j=0)) (fun s _=>X.length-(intOf s).toNat);case atStart=>exact⟨0,In _,rfl,f,T,d,fun j h=>by omega⟩
 case round=>
  obtain⟨i,hi,rfl,q,aa,o,p⟩:=hrel;clear T f d c0 c1 c2 c3 c4 h1 h2 h3 h4 h5 h6 h7 h8 h9 Y;obtain⟨c0,c1,c2,c3,c4⟩:=Ba aa.out;by_cases af:i<X.length
  ·have ac:=G (show Jd C.ents i=A8 ((X.take i).map Ma) X[i].E from by
    rw[Ov (by omega)];simp only[H.eq,List.getElem_map,<-List.map_take,Zyo];rfl)
   have B:=G (Adi R X (F ao X.length cap) i af wr (H.sl.keep (Ac.of_below q.out) (fun b hb hS=>by have:=ad b hb;omega)) (Bw ad q.out) (H.small X[i] (M2 af)) al);rw[<-ac.out]at B;obtain⟨er,Z⟩:∃er,er=Jd C.ents i:=⟨_,rfl⟩
   rw[<-Z]at B;have Q:=G Z;clear ac Z;go_wp2_with fail;refine B.mono ?_;rintro e y ⟨rfl,g⟩;have ab:=G (q.trans (g.mono q.size));have a:=G (Ae g aa (Aa aa.out));have ag:=G (Ae g o (Aa o.out));clear g B c0 c1 c2 c3 c4;by_cases hz:(0:Int)<(er:Int)
   ·have S:=G (show Qf C.ents=(er,(i:Int))from by rw[qI (by omega) (by rw[<-Q.out];omega) p.out,<-Q.out]);obtain⟨m,z1,A⟩:=Au ag.out;go_wp2_with fail;refine bodyPost_ret (v:=ZJ #[I J er,I J i]) (by simp[results,results16,go_sem,m,z1,O2,O1]) rfl ?_;exact⟨Gz (n.trans S.out),Fp ab t _ _⟩
   ·have nx:ZG (∀j,j<i+1->Jd C.ents j=0):=G (fun j hj=>by
     by_cases e:j=i
     ·rw[e,<-Q.out];omega
     ·exact p j (by omega))
    clear p;go_wp2_with fail;go_roundw;case rel=>exact⟨i+1,by omega,by go_num,ab,a,ag,nx⟩
    case measure=>simp[intOf];omega
  ·have S:=G (Zd (L:=C.ents) (fun j hj=>p j (by omega)));have l:=G (Af3 wr);have d:=o;go_wp2_with fail;refine l.mono ?_;rintro e y ⟨rfl,g⟩;have a:=Ae g d (Aa d.out);obtain⟨m,z1,A⟩:=Au a;clear a;go_wp2_with fail;refine bodyPost_ret (v:=ZJ #[I J 0,I J (-1)]) (by simp[results,results16,go_sem,m,z1,O2,O1]) rfl ?_;exact⟨Gz (n.trans S.out),Fp (q.trans (g.mono q.size)) t _ _⟩
theorem Tt(R R':Nat->Prop)(l:List ByteArray)(p vb:ZE)(w:V)(g:Av R w p 1 (Aj l) l.length)(j:Av R' w vb 1 (Aj l) l.length)(L:l.length<=100000):
  ZH ZI 30 #[p,vb] w fun e w'=>e=ZD (.bool true)/\∃q,w'=w.drewN q:=by
 obtain⟨D,cap,rfl⟩:=g.val;obtain⟨K,m,rfl⟩:=j.val;have t:=G g;have u:=G j;clear g j;go_enter func30,ntmps30;go_wp2_with fail;go_loopw [5] (fun s wr=>∃i q:Nat,i<=l.length/\s=I J i/\wr=w.drewN q) (fun s _=>l.length-(intOf s).toNat);case atStart=>exact⟨0,0,In _,rfl,rfl⟩
 case round=>
  obtain⟨i,q,hi,rfl,rfl⟩:=hrel;by_cases f:i<l.length
  ·obtain⟨E,o1,rfl,_,v,a⟩:=E8 t (by omega);obtain⟨H,M,rfl,_,y,d⟩:=E8 u (by omega);have B:=a i f;have C:=d i f;clear a d;obtain⟨x,o⟩:∃x,x=l[i]:=⟨_,rfl⟩
   rw[<-o]at B C;have A:(x.toList==x.toList)=true:=by simp
   have n:(x.toList != x.toList)=false:=by simp
   clear o;go_wp2_with fail;go_quiet (fail);go_wp2_with fail;go_roundw;case rel=>exact⟨i+1,_,by omega,by go_num,rfl⟩
   case measure=>simp[intOf];omega
  ·go_wp2_with fail;go_ret;exact⟨rfl,_,rfl⟩
