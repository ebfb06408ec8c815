import Derived.Test.YtikehilbmldadaaGreatDoorP39
import Derived.Test.YtikehilbmldadaaGreatDoorP40
set_option maxHeartbeats 8000000
set_option maxRecDepth 100000
set_option linter.unusedVariables false
namespace Go.Proofs.YtikehilbmldadaaGreatDoor
open Proofs.Tryz YtikehilbmldadaaGreatDoor.Tryz RowKit
open Go renaming World->V,Value->ZE,Value.int->I,IntKind.i64->J,Value.slice->F,Value.pointer->ZA,Value.string->ZB,Proofs.Tryz.prog->ZI
open Option renaming some->U,none->O
def setN(E:Ak)(k:Nat)(a:Int):Ak:=if k=3 then { E with count:=a} else if k=4 then { E with mn:=a} else { E with mx:=a}
def Aa1(C:Ar)(E:Ak):Ar:={ C with ents:=C.ents.dropLast++ [E]}
theorem Gg.setN{d rb:Nat}{o:Nat->Option Nat}{C:Ar}{st:Int}{Z:List A2}{y:A2}{w:V}{g off cap:Nat}(h:Gg d rb o C st (F (U ⟨g,off,O⟩) (Z.length+1) cap) (Z++ [y]) w)(k:Nat)(B:k=3\/k=4\/k=5)(a:Int):
  Gg d rb o (Aa1 C (setN y.E k a)) st (F (U ⟨g,off,O⟩) (Z.length+1) cap) (Z++ [{ y with E:=setN y.E k a}]) (w.setCell ⟨g,off+Z.length*10+k,O⟩ (I J a))/\w.frozen? ⟨g,off+Z.length*10+k,O⟩=false:=by
 have u:(Z++ [y]).length=Z.length+1:=by rw[R2,G3]
 have H:g<w.heap.size:=(h.row.lt g rfl).2;have l:o g=U 0:=h.rt g rfl;have m:o rb=O:=h.ob rb h.lo;have n:=Af w g (off+Z.length*10+k) (I J a);have s:=n.size;have D:=h.row;rw[u]at D;have e:=D.stored (Z.length*10+k) (by omega) (I J a);rw[<-Zzm]at e;refine⟨⟨?_,h.lo,No h.top s,fun b A=>h.fr b (by omega),h.ob,?_,h.rt,fun i hi=>?_,?_⟩,e.2⟩
 ·exact n.get h.blk (fun K=>by rw[K,l]at m;cases m)
 ·have:=e.1;rw[qF Z y { y with E:=Go.Proofs.YtikehilbmldadaaGreatDoor.setN y.E k a} k (by omega) _ (by rcases B with rfl|rfl|rfl<;>rfl)]at this;rw[R2,G3];exact this
 ·rw[R2,G3]at hi;have v:∀(t:Nat) (b:Nat),b<w.heap.size->b=g->∀j,j<5->o b≠U (1+5*t+j):=fun t b _ A j _ p=>by rw[A,l]at p;injection p with p;omega
  by_cases q:i<Z.length
  ·have f:=h.own i (by omega);rw[Zzd q]at f ⊢;exact f.keep n (v i) (fun _ _=>rfl)
  ·obtain rfl:i=Z.length:=by omega
   rw[Zyx rfl];have f:=h.last.keep (o':=o) n (v Z.length) (fun _ _=>rfl);rcases B with rfl|rfl|rfl
   ·exact f
   ·exact f
   ·exact f
 ·show C.ents.dropLast++ [_]=_
  rw[(Ud h.eq).2,B0];rfl
theorem Iv.drewN{a rb:Nat}{o:Nat->Option Nat}{C':Ar}{st:Int}{w w':V}(h:Iv a rb o C' st w w')(n:Nat):Iv a rb o C' st w (w'.drewN n):=by
 obtain⟨⟨e,f,d,h1⟩,h2⟩:=h;exact⟨⟨e,f,d,h1.later (Ag _ (R1 _ _))⟩,Ck _ h2⟩
theorem Xt(C:Ar)(E a:Ak):Aa1 (Aa1 C E) a=Aa1 C a:=by
 unfold Aa1;simp
theorem Ae4(C:Ar)(name:ByteArray)(a b c:Int)(E:Ak)(d:Cd C.ents=E):Cc 5 name [a,b,c] C=Aa1 C { E with count:=a,mn:=b,mx:=c}:=by
 unfold Cc Aa1;rw[d];rfl
theorem Gg.three{d rb:Nat}{o:Nat->Option Nat}{C:Ar}{st:Int}{Z:List A2}{y:A2}{w:V}{g off cap:Nat}(h:Gg d rb o C st (F (U ⟨g,off,O⟩) (Z.length+1) cap) (Z++ [y]) w)(name:ByteArray)(a b c:Int)
  (k1 k2 e:Nat) (f i j:Int) (h1:k1=3\/k1=4\/k1=5) (h2:k2=3\/k2=4\/k2=5) (h3:e=3\/e=4\/e=5) (q:Go.Proofs.YtikehilbmldadaaGreatDoor.setN (Go.Proofs.YtikehilbmldadaaGreatDoor.setN (Go.Proofs.YtikehilbmldadaaGreatDoor.setN y.E k1 f) k2 i) e j= { y.E with count:=a,mn:=b,mx:=c}):
  Hid (Iv d rb o (Cc 5 name [a,b,c] C) st w (((w.setCell ⟨g,off+Z.length*10+k1,O⟩ (I J f)).setCell ⟨g,off+Z.length*10+k2,O⟩ (I J i)).setCell ⟨g,off+Z.length*10+e,O⟩ (I J j))):=by
 have l:o g=U 0:=h.rt g rfl;have m:=(((h.setN k1 h1 f).1.setN k2 h2 i).1.setN e h3 j).1;have s:=(((Af w g (off+Z.length*10+k1) (I J f)).setCell (p:=⟨g,off+Z.length*10+k2,O⟩) (fun _=>rfl) (I J i)).setCell (p:=⟨g,off+Z.length*10+e,O⟩) (fun _=>rfl) (I J j))
 suffices e4:Iv d rb o (Cc 5 name [a,b,c] C) st w (((w.setCell ⟨g,off+Z.length*10+k1,O⟩ (I J f)).setCell ⟨g,off+Z.length*10+k2,O⟩ (I J i)).setCell ⟨g,off+Z.length*10+e,O⟩ (I J j))from e4
 refine⟨⟨o,F (U ⟨g,off,O⟩) (Z.length+1) cap,Z++ [{ y with E:={ y.E with count:=a,mn:=b,mx:=c}}],?_⟩,s.mono (fun b _ n=>.inr ⟨0,by rw[n];exact l⟩)⟩;rw[Ae4 C name a b c y.E (Ud h.eq).1,<-q];rw[Xt,Xt]at m;exact m
theorem Ae9(i rb:Nat)(o:Nat->Option Nat)(C:Ar)(v:ZE)(Z:List A2)(y:A2)(w:V)(h:Gg i rb o C 5 v (Z++ [y]) w)(hZ:Z.length<=100000)(name:ByteArray)(nb d A:Nat)(a b c:Int)
  (n0:w.cell? ⟨nb,d,O⟩=U (I J a)) (n1:w.cell? ⟨nb,d+1,O⟩=U (I J b)) (n2:w.cell? ⟨nb,d+2,O⟩=U (I J c)) (ak:nb<w.heap.size) (K:o nb=O):
  Calls ZI 114 #[ZA (U ⟨rb,0,O⟩),I J 5,ZB name,F (U ⟨nb,d,O⟩) 3 A] w fun e w'=>e=.returned (.tuple #[])/\Iv i rb o (Cc 5 name [a,b,c] C) 5 w w':=by
 obtain⟨g,off,cap,rfl,⟨E,ah⟩,j,ag,aj,ai,f⟩:=h.form;obtain⟨c0,c1,c2,c3,P,c5,cf⟩:=Gk h.blk;have L:=f 3 _ rfl;have M:=f 4 _ rfl;have N:=f 5 _ rfl;rw[<-Zzm]at L M N;have T:=(h.setN 3 (by omega) a).2;have X:=(h.setN 4 (by omega) a).2;have Y:=(h.setN 5 (by omega) a).2;have H:¬g=nb:=fun e=>by rw[e,K]at j;cases j
 have al:¬nb=g:=fun e=>H e.symm;have l:=h.three name a b c 3 4 5 a b c (by omega) (by omega) (by omega) rfl;have n:=h.three name a b c 3 5 4 a c b (by omega) (by omega) (by omega) rfl;have q:=h.three name a b c 4 3 5 b a c (by omega) (by omega) (by omega) rfl;have s:=h.three name a b c 4 5 3 b c a (by omega) (by omega) (by omega) rfl;have t:=h.three name a b c 5 3 4 c a b (by omega) (by omega) (by omega) rfl;have u:=h.three name a b c 5 4 3 c b a (by omega) (by omega) (by omega) rfl;obtain⟨m,S⟩:∃m,m=Z.length:=⟨_,rfl⟩
 rw[<-S]at E L M N T X Y P hZ l n q s t u;have D:=G (And.intro l (And.intro n (And.intro q (And.intro s (And.intro t u)))));clear h f S j l n q s t u;go_enter func114,ntmps114;go_upto_region 2 with fail;go_quiet (fail);go_upto_region 7 with fail;generalize B:World.drewN w _=wq;have Q:∀p,wq.cell? p=w.cell? p:=fun p=>by rw[<-B];rfl
 have R:∀p,wq.frozen? p=w.frozen? p:=fun p=>by rw[<-B];rfl
 rw[<-Q]at n0 n1 n2 L M N;rw[<-R]at T X Y;have HQ:=G B;clear B Q R c0 c1 c2 c3 P c5 cf;go_region_held3 (fun w'=>w'.cell? ⟨nb,d,O⟩=U (I J a)/\w'.cell? ⟨nb,d+1,O⟩=U (I J b)/\w'.cell? ⟨nb,d+2,O⟩=U (I J c)) (go_keep) (fail);all_goals
  go_wp2_with fail;go_end0;rw[<-HQ.out];obtain⟨l,n,q,s,t,u⟩:=D.out;first
   |exact⟨rfl,(l.drewN _).drew⟩
   |exact⟨rfl,(n.drewN _).drew⟩
   |exact⟨rfl,(q.drewN _).drew⟩
   |exact⟨rfl,(s.drewN _).drew⟩
   |exact⟨rfl,(t.drewN _).drew⟩
   |exact⟨rfl,(u.drewN _).drew⟩
theorem Ae8(s rb:Nat)(o:Nat->Option Nat)(C:Ar)(v:ZE)(Z:List A2)(y:A2)(w:V)(h:Gg s rb o C 6 v (Z++ [y]) w)(hZ:Z.length<=100000)(hn:y.E.gaps.length<=100000)(name:ByteArray)(nb j L:Nat)(a b c d:Int)(n0:w.cell? ⟨nb,j,O⟩=U (I J a))(n1:w.cell? ⟨nb,j+1,O⟩=U (I J b))(n2:w.cell? ⟨nb,j+2,O⟩=U (I J c))(n3:w.cell? ⟨nb,j+3,O⟩=U (I J d))(P:nb<w.heap.size)(a2:o nb=O):
  Calls ZI 114 #[ZA (U ⟨rb,0,O⟩),I J 6,ZB name,F (U ⟨nb,j,O⟩) 4 L] w fun e w'=>e=.returned (.tuple #[])/\Iv s rb o (Cc 6 name [a,b,c,d] C) 6 w w':=by
 obtain⟨i0,ax,a6,a7,a8⟩:=info_parts infoGap;obtain⟨g,off,cap,rfl,⟨bj,b7⟩,al,b6,bm,b8,aa⟩:=h.form;have cc:=Aa h.blk;have ac:=h.last;obtain⟨am,a3⟩:=ac 1 (by decide);obtain⟨pa,pc,M⟩:=am.val;have M:y.g=F pa y.E.gaps.length pc:=M;have R:Hid (∀W,Below w.heap.size w W->Ax W s 126 4 (F pa y.E.gaps.length pc) y.E.gaps.length (y.E.gaps.flatMap Cu)/\s<=W.heap.size):=(show _ from fun W Q=>⟨by rw[<-M];exact am.later Q,No h.top Q.size⟩)
 obtain⟨c0,c1,c2,c3,c4,c5,cf⟩:=Gk h.blk;have q2:=aa 6 _ rfl;rw[M,<-Zzm]at q2;have ak:¬g=nb:=fun e=>by rw[e,a2]at al;cases al
 have ca:¬nb=g:=fun e=>ak e.symm;have bl:¬g=w.heap.size:=by omega
 have aw:¬w.heap.size=g:=by omega
 have bn:¬nb=w.heap.size:=by omega
 have a0:¬w.heap.size=nb:=by omega
 have HA:Hid (∀(w1 w2:V) (ao:Option Addr) (cp:Nat),Below w.heap.size w w1->Ax w2 s 126 4 (F ao (y.E.gaps.length+1) cp) (y.E.gaps.length+1) (y.E.gaps.flatMap Cu++ [I J a,I J b,I J c,I J d])->w1.grownBy w2 (Value.slice pa y.E.gaps.length pc).ownBlock->((Value.slice ao (y.E.gaps.length+1) cp).ownBlock=(Value.slice pa y.E.gaps.length pc).ownBlock\/∀b,(Value.slice ao (y.E.gaps.length+1) cp).ownBlock=U b->w1.heap.size<=b)->
   Hid (Iv s rb o (Cc 6 name [a,b,c,d] C) 6 w (w2.setCell ⟨g,off+Z.length*10+6,O⟩ (F ao (y.E.gaps.length+1) cp)))/\w2.cell? ⟨g,off+Z.length*10+6,O⟩=U (F pa y.E.gaps.length pc)/\w2.frozen? ⟨g,off+Z.length*10+6,O⟩=false/\∀k,w2.cell? ⟨nb,k,O⟩=w.cell? ⟨nb,k,O⟩):=(show _ from by
  intro w1 w2 ao cp b1 ho hg ay;have av:=fun k=>(h.far b1 (T:=1+5*Z.length+1) (fun b hb=>a3 b (by rw[<-hb,<-M];rfl)) hg nb k P a2).1;rw[<-M]at hg ay ⊢;have hE:=Ou (y':=⟨Fv 6 name [a,b,c,d] y.E,y.p,F ao (y.E.gaps.length+1) cp,y.e,y.f,y.l⟩) h.eq 6 (by decide) name [a,b,c,d] rfl;obtain⟨⟨o',hA⟩,t,hc,hf⟩:=h.appF (y':=⟨Fv 6 name [a,b,c,d] y.E,y.p,F ao (y.E.gaps.length+1) cp,y.e,y.f,y.l⟩) (C':=Cc 6 name [a,b,c,d] C) 1 (by decide) b1 ho hg ay rfl rfl
   (fun i hi hne=>by
    match i,hi with
    |0,_=>exact⟨rfl,rfl,rfl⟩
    |1,_=>exact absurd rfl hne
    |2,_=>exact⟨rfl,rfl,rfl⟩
    |3,_=>exact⟨rfl,rfl,rfl⟩
    |4,_=>exact⟨rfl,rfl,rfl⟩
    )
   ⟨rfl,by show(y.E.gaps++ [(⟨a,b,c,d⟩:Ix)]).length=_;simp,by show(y.E.gaps++ [(⟨a,b,c,d⟩:Ix)]).flatMap Cu=_;simp[Cu]⟩ (Ur C 6 (by decide) name _ _ 6) hE
  rw[show fO 1=6 from rfl,<-Zzm]at hA t hc hf;exact⟨⟨⟨o',_,_,hA⟩,t.mono (fun b _ hb=>.inr hb)⟩,hc,hf,av⟩)
 obtain⟨m,hm⟩:∃m,m=Z.length:=⟨_,rfl⟩
 obtain⟨np,az⟩:∃np,np=y.E.gaps.length:=⟨_,rfl⟩
 rw[<-hm]at bj HA q2 c4 hZ;rw[<-az]at hn R HA q2;clear h ac am a3 M aa hm az al;go_enter func114,ntmps114;go_upto_region 2 with fail;go_quiet (fail);generalize hq:World.drewN w _=wq;have bq:Below w.heap.size w wq:=by rw[<-hq];exact Ag _ (R1 _ _)
 have N:=bq.size;have ec:∀p,wq.cell? p=w.cell? p:=fun p=>by rw[<-hq];rfl
 have a4:wq.heap.size=w.heap.size:=by rw[<-hq];rfl
 have Y:=G ec;rw[<-ec]at n0 n1 n2 n3 q2;rw[<-a4]at bl aw bn a0 bm P;clear hq ec a4 c0 c1 c2 c3 c4 c5 cf;go_upto_region 9 with fail;have X:Hid (∀W,Below wq.heap.size wq W->(fun w'=>w'.cell? ⟨nb,j,O⟩=U (I J a)/\w'.cell? ⟨nb,j+1,O⟩=U (I J b)/\w'.cell? ⟨nb,j+2,O⟩=U (I J c)/\w'.cell? ⟨nb,j+3,O⟩=U (I J d)) W):=(show _ from fun W Q=>by
  refine⟨?_,?_,?_,?_⟩
  ·rw[Q.cell (p:=⟨nb,j,O⟩) P];exact n0
  ·rw[Q.cell (p:=⟨nb,j+1,O⟩) P];exact n1
  ·rw[Q.cell (p:=⟨nb,j+2,O⟩) P];exact n2
  ·rw[Q.cell (p:=⟨nb,j+3,O⟩) P];exact n3)
 have af:Hid (∀W:V,(∀k,W.cell? ⟨nb,k,O⟩=w.cell? ⟨nb,k,O⟩)->(fun w'=>w'.cell? ⟨nb,j,O⟩=U (I J a)/\w'.cell? ⟨nb,j+1,O⟩=U (I J b)/\w'.cell? ⟨nb,j+2,O⟩=U (I J c)/\w'.cell? ⟨nb,j+3,O⟩=U (I J d)) W):=(show _ from fun W Q=>by
  refine⟨?_,?_,?_,?_⟩
  ·rw[Q,<-Y.out];exact n0
  ·rw[Q,<-Y.out];exact n1
  ·rw[Q,<-Y.out];exact n2
  ·rw[Q,<-Y.out];exact n3)
 clear Y n0 n1 n2 n3;refine wp_region_noPanic ?_;refine wp_region_held_drew (S:=(fun w'=>w'.cell? ⟨nb,j,O⟩=U (I J a)/\w'.cell? ⟨nb,j+1,O⟩=U (I J b)/\w'.cell? ⟨nb,j+2,O⟩=U (I J c)/\w'.cell? ⟨nb,j+3,O⟩=U (I J d))) (by kernel_rfl) (X _ ((R1 _ _).drew)) (fun q=>?_);refine Dz (i:=0) (v:=ZA (U ⟨g,off+m*10,O⟩)) rfl (by kernel_rfl) (by kernel_rfl) (by kernel_rfl) (fun _ _ _ h=>h) (Or.inl ⟨by rfl,fun w n=>by(obtain⟨A,B,D,H⟩:=n;go_simp)⟩) q ?_;((try simp only[Act.put]);(try simp only[F4]);(try simp only[C3]);(try simp only[C1]))
 refine Dz (i:=1) (v:=ZA (U ⟨g,off+m*10,O⟩)) rfl (by kernel_rfl) (by kernel_rfl) (by kernel_rfl) (fun _ _ _ h=>h) (Or.inl ⟨by rfl,fun w n=>by(obtain⟨A,B,D,H⟩:=n;go_simp)⟩) q ?_;((try simp only[Act.put]);(try simp only[F4]);(try simp only[C3]);(try simp only[C1]))
 refine Dz (i:=2) (v:=ZA (U ⟨g,off+m*10,O⟩)) rfl (by kernel_rfl) (by kernel_rfl) (by kernel_rfl) (fun _ _ _ h=>h) (Or.inl ⟨by rfl,fun w n=>by(obtain⟨A,B,D,H⟩:=n;go_simp)⟩) q ?_;((try simp only[Act.put]);(try simp only[F4]);(try simp only[C3]);(try simp only[C1]))
 refine Dz (i:=3) (v:=ZA (U ⟨g,off+m*10+6,O⟩)) rfl (by kernel_rfl) (by kernel_rfl) (by kernel_rfl) (fun _ _ _ h=>h) (Or.inl ⟨by rfl,fun w n=>by(obtain⟨A,B,D,H⟩:=n;go_simp)⟩) q ?_;((try simp only[Act.put]);(try simp only[F4]);(try simp only[C3]);(try simp only[C1]))
 refine Dz (i:=5) (v:=F (U ⟨nb,j,O⟩) 4 L) rfl (by kernel_rfl) (by kernel_rfl) (by kernel_rfl) (fun _ _ _ h=>h) (Or.inl ⟨by rfl,fun w n=>by(obtain⟨A,B,D,H⟩:=n;go_simp)⟩) q ?_;((try simp only[Act.put]);(try simp only[F4]);(try simp only[C3]);(try simp only[C1]))
 refine Dz (i:=6) (v:=ZA (U ⟨nb,j,O⟩)) rfl (by kernel_rfl) (by kernel_rfl) (by kernel_rfl) (fun _ _ _ h=>h) (Or.inl ⟨by rfl,fun w n=>by(obtain⟨A,B,D,H⟩:=n;go_simp)⟩) q ?_;((try simp only[Act.put]);(try simp only[F4]);(try simp only[C3]);(try simp only[C1]))
 refine Dz (i:=7) (v:=I J a) rfl (by kernel_rfl) (by kernel_rfl) (by kernel_rfl) (fun _ _ _ h=>h) (Or.inl ⟨by rfl,fun w n=>by(obtain⟨A,B,D,H⟩:=n;go_simp)⟩) q ?_;((try simp only[Act.put]);(try simp only[F4]);(try simp only[C3]);(try simp only[C1]))
 refine Dz (i:=8) (v:=F (U ⟨nb,j,O⟩) 4 L) rfl (by kernel_rfl) (by kernel_rfl) (by kernel_rfl) (fun _ _ _ h=>h) (Or.inl ⟨by rfl,fun w n=>by(obtain⟨A,B,D,H⟩:=n;go_simp)⟩) q ?_;((try simp only[Act.put]);(try simp only[F4]);(try simp only[C3]);(try simp only[C1]))
 refine Dz (i:=9) (v:=ZA (U ⟨nb,j+1,O⟩)) rfl (by kernel_rfl) (by kernel_rfl) (by kernel_rfl) (fun _ _ _ h=>h) (Or.inl ⟨by rfl,fun w n=>by(obtain⟨A,B,D,H⟩:=n;go_simp)⟩) q ?_;((try simp only[Act.put]);(try simp only[F4]);(try simp only[C3]);(try simp only[C1]))
 refine Dz (i:=10) (v:=I J b) rfl (by kernel_rfl) (by kernel_rfl) (by kernel_rfl) (fun _ _ _ h=>h) (Or.inl ⟨by rfl,fun w n=>by(obtain⟨A,B,D,H⟩:=n;go_simp)⟩) q ?_;((try simp only[Act.put]);(try simp only[F4]);(try simp only[C3]);(try simp only[C1]))
 refine Dz (i:=11) (v:=F (U ⟨nb,j,O⟩) 4 L) rfl (by kernel_rfl) (by kernel_rfl) (by kernel_rfl) (fun _ _ _ h=>h) (Or.inl ⟨by rfl,fun w n=>by(obtain⟨A,B,D,H⟩:=n;go_simp)⟩) q ?_;((try simp only[Act.put]);(try simp only[F4]);(try simp only[C3]);(try simp only[C1]))
 refine Dz (i:=12) (v:=ZA (U ⟨nb,j+2,O⟩)) rfl (by kernel_rfl) (by kernel_rfl) (by kernel_rfl) (fun _ _ _ h=>h) (Or.inl ⟨by rfl,fun w n=>by(obtain⟨A,B,D,H⟩:=n;go_simp)⟩) q ?_;((try simp only[Act.put]);(try simp only[F4]);(try simp only[C3]);(try simp only[C1]))
 refine Dz (i:=13) (v:=I J c) rfl (by kernel_rfl) (by kernel_rfl) (by kernel_rfl) (fun _ _ _ h=>h) (Or.inl ⟨by rfl,fun w n=>by(obtain⟨A,B,D,H⟩:=n;go_simp)⟩) q ?_;((try simp only[Act.put]);(try simp only[F4]);(try simp only[C3]);(try simp only[C1]))
 refine Dz (i:=14) (v:=F (U ⟨nb,j,O⟩) 4 L) rfl (by kernel_rfl) (by kernel_rfl) (by kernel_rfl) (fun _ _ _ h=>h) (Or.inl ⟨by rfl,fun w n=>by(obtain⟨A,B,D,H⟩:=n;go_simp)⟩) q ?_;((try simp only[Act.put]);(try simp only[F4]);(try simp only[C3]);(try simp only[C1]))
 refine Dz (i:=15) (v:=ZA (U ⟨nb,j+3,O⟩)) rfl (by kernel_rfl) (by kernel_rfl) (by kernel_rfl) (fun _ _ _ h=>h) (Or.inl ⟨by rfl,fun w n=>by(obtain⟨A,B,D,H⟩:=n;go_simp)⟩) q ?_;((try simp only[Act.put]);(try simp only[F4]);(try simp only[C3]);(try simp only[C1]))
 refine Dz (i:=16) (v:=I J d) rfl (by kernel_rfl) (by kernel_rfl) (by kernel_rfl) (fun _ _ _ h=>h) (Or.inl ⟨by rfl,fun w n=>by(obtain⟨A,B,D,H⟩:=n;go_simp)⟩) q ?_;((try simp only[Act.put]);(try simp only[F4]);(try simp only[C3]);(try simp only[C1]))
 refine Dz (i:=17) (v:=.agg #[I J a,I J b,I J c,I J d]) rfl (by kernel_rfl) (by kernel_rfl) (by kernel_rfl) (fun _ _ _ h=>h) (Or.inl ⟨by rfl,fun w n=>by(obtain⟨A,B,D,H⟩:=n;go_simp)⟩) q ?_;((try simp only[Act.put]);(try simp only[F4]);(try simp only[C3]);(try simp only[C1]))
 refine wpAnyH_ready (rs:=[4,18]) (by kernel_rfl) (by simp) ?_;refine AllReadyH.cons rfl (fun K t=>?_) (AllReadyH.cons rfl (fun K t=>?_) AllReadyH.nil)
 ·go_simp;refine t _ _ (X _ (by repeat(first|exact R1 _ _|refine H5 ?_|refine Dp ?_ _))) (fun q=>?_);clear t K;((try simp only[Act.put]);(try simp only[F4]);(try simp only[C3]);(try simp only[C1]))
  refine wpAnyH_ready (rs:=[18]) (by kernel_rfl) (by simp) ?_;refine AllReadyH.cons rfl (fun K t=>?_) AllReadyH.nil;go_simp;refine t _ _ (X _ (by repeat(first|exact R1 _ _|refine H5 ?_|refine Dp ?_ _))) (fun q=>?_);clear t K;((try simp only[Act.put]);(try simp only[F4]);(try simp only[C3]);(try simp only[C1]))
  refine wpAnyH_ready (rs:=[19]) (by kernel_rfl) (by simp) ?_;refine AllReadyH.cons rfl (fun K t=>?_) AllReadyH.nil;refine Dh rfl (.tmp 64) (.tmp 78) 46 rfl s 126 i0 _ 4 32 underlying46 ax a6 a7 a8 rfl (by decide) (.slice pa np pc) np (y.E.gaps.flatMap Cu) rfl ?_ ⟨wq.heap.size,0,O⟩ 1 1 [I J a,I J b,I J c,I J d] rfl rfl ?_ (by intro u hu;simp at hu;rcases hu with rfl|rfl|rfl|rfl<;>rfl) (by unfold maxLen;omega) (by omega) ?_ ?_
  ·exact(R _ (by repeat(first|exact bq|refine H5 ?_|refine Zzv ?_ N _))).1
  ·exact A1 _ [I J a,I J b,I J c,I J d] _
  ·exact(R _ (by repeat(first|exact bq|refine H5 ?_|refine Zzv ?_ N _))).2
  intro a1 k1 w6 ae ab ad;obtain⟨F1,d4,df,dn⟩:=HA _ w6 _ _ (by repeat(first|exact bq|refine H5 ?_|refine Zzv ?_ N _)) ae ab ad;have aj:=af w6 dn;refine t _ _ aj (fun q=>?_);clear t K ae ab ad;((try simp only[Act.put]);(try simp only[F4]);(try simp only[C3]);(try simp only[C1]))
  refine Dz (i:=20) (v:=ZA (U ⟨g,off+m*10,O⟩)) rfl (by kernel_rfl) (by kernel_rfl) (by kernel_rfl) (fun _ _ _ h=>h) (Or.inl ⟨by rfl,fun w n=>by(obtain⟨A,B,D,H⟩:=n;go_simp)⟩) q ?_;((try simp only[Act.put]);(try simp only[F4]);(try simp only[C3]);(try simp only[C1]))
  refine Dz (i:=21) (v:=ZA (U ⟨g,off+m*10+6,O⟩)) rfl (by kernel_rfl) (by kernel_rfl) (by kernel_rfl) (fun _ _ _ h=>h) (Or.inl ⟨by rfl,fun w n=>by(obtain⟨A,B,D,H⟩:=n;go_simp)⟩) q ?_;((try simp only[Act.put]);(try simp only[F4]);(try simp only[C3]);(try simp only[C1]))
  refine wpAnyH_ready (rs:=[22]) (by kernel_rfl) (by simp) ?_;refine AllReadyH.cons rfl (fun K t=>?_) AllReadyH.nil;go_simp;refine t _ _ ?_ (fun q=>?_)
  ·exact af _ (fun k=>by rw[World.cell?_setCell_far _ _ _ _ ak];exact dn k)
  clear t K;((try simp only[Act.put]);(try simp only[F4]);(try simp only[C3]);(try simp only[C1]))
  refine wpAnyH_done (by kernel_rfl) ?_ _;refine NoPanic.normal ?_;go_wp2_with fail;go_end0;first
   |exact⟨rfl,F1.out⟩
   |exact⟨rfl,F1.drew⟩
 ·go_simp;refine t _ _ (X _ (by repeat(first|exact R1 _ _|refine H5 ?_|refine Dp ?_ _))) (fun q=>?_);clear t K;((try simp only[Act.put]);(try simp only[F4]);(try simp only[C3]);(try simp only[C1]))
  refine wpAnyH_ready (rs:=[4]) (by kernel_rfl) (by simp) ?_;refine AllReadyH.cons rfl (fun K t=>?_) AllReadyH.nil;go_simp;refine t _ _ (X _ (by repeat(first|exact R1 _ _|refine H5 ?_|refine Dp ?_ _))) (fun q=>?_);clear t K;((try simp only[Act.put]);(try simp only[F4]);(try simp only[C3]);(try simp only[C1]))
  refine wpAnyH_ready (rs:=[19]) (by kernel_rfl) (by simp) ?_;refine AllReadyH.cons rfl (fun K t=>?_) AllReadyH.nil;refine Dh rfl (.tmp 64) (.tmp 78) 46 rfl s 126 i0 _ 4 32 underlying46 ax a6 a7 a8 rfl (by decide) (.slice pa np pc) np (y.E.gaps.flatMap Cu) rfl ?_ ⟨wq.heap.size,0,O⟩ 1 1 [I J a,I J b,I J c,I J d] rfl rfl ?_ (by intro u hu;simp at hu;rcases hu with rfl|rfl|rfl|rfl<;>rfl) (by unfold maxLen;omega) (by omega) ?_ ?_
  ·exact(R _ (by repeat(first|exact bq|refine H5 ?_|refine Zzv ?_ N _))).1
  ·exact A1 _ [I J a,I J b,I J c,I J d] _
  ·exact(R _ (by repeat(first|exact bq|refine H5 ?_|refine Zzv ?_ N _))).2
  intro a1 k1 w6 ae ab ad;obtain⟨F1,d4,df,dn⟩:=HA _ w6 _ _ (by repeat(first|exact bq|refine H5 ?_|refine Zzv ?_ N _)) ae ab ad;have aj:=af w6 dn;refine t _ _ aj (fun q=>?_);clear t K ae ab ad;((try simp only[Act.put]);(try simp only[F4]);(try simp only[C3]);(try simp only[C1]))
  refine Dz (i:=20) (v:=ZA (U ⟨g,off+m*10,O⟩)) rfl (by kernel_rfl) (by kernel_rfl) (by kernel_rfl) (fun _ _ _ h=>h) (Or.inl ⟨by rfl,fun w n=>by(obtain⟨A,B,D,H⟩:=n;go_simp)⟩) q ?_;((try simp only[Act.put]);(try simp only[F4]);(try simp only[C3]);(try simp only[C1]))
  refine Dz (i:=21) (v:=ZA (U ⟨g,off+m*10+6,O⟩)) rfl (by kernel_rfl) (by kernel_rfl) (by kernel_rfl) (fun _ _ _ h=>h) (Or.inl ⟨by rfl,fun w n=>by(obtain⟨A,B,D,H⟩:=n;go_simp)⟩) q ?_;((try simp only[Act.put]);(try simp only[F4]);(try simp only[C3]);(try simp only[C1]))
  refine wpAnyH_ready (rs:=[22]) (by kernel_rfl) (by simp) ?_;refine AllReadyH.cons rfl (fun K t=>?_) AllReadyH.nil;go_simp;refine t _ _ ?_ (fun q=>?_)
  ·exact af _ (fun k=>by rw[World.cell?_setCell_far _ _ _ _ ak];exact dn k)
  clear t K;((try simp only[Act.put]);(try simp only[F4]);(try simp only[C3]);(try simp only[C1]))
  refine wpAnyH_done (by kernel_rfl) ?_ _;refine NoPanic.normal ?_;go_wp2_with fail;go_end0;first
   |exact⟨rfl,F1.out⟩
   |exact⟨rfl,F1.drew⟩
theorem An3(w0 cl:V)(R:Nat->Prop)(E:Ak)(pa ga ea fa la:Option Addr)(pc gc ec fc lc eb:Nat)(HG:Hid (Ed E))(gt:Hid (EB w0 R E (F pa E.points.length pc) (F ga E.gaps.length gc) (F ea E.edges.length ec) (F fa E.first.length fc) (F la E.last.length lc) eb cl))(S0:ByteArray)(l:List UInt8)(hl:Hid (S0.data.toList=l))(d:l.length<=900000)(Q0:Exit->Act->V->Prop)(x0 x1 x2 x4 x6 x7 x8 x9 cm cn co cp cq cr cv dg dp dq dr ds dt du dv dw dx dy dz d3 d4 d5 d6 d7 d8 d9 ed ee ef eg eh ei ej ek el em en eo ep er es et eu ev ew ex ey ez e0 e1 e2 e3 e4 e5 e6 e7 e8 e9 fb fd fe ff fg fh fi fj fk fm fn fo fp fq ft fu fv fw fx fy fz f0 f1 f2 f3 f4 f5 f6 f7 f8 f9 g i m n o q t u v y A B C D H K L M N Q T X Y Z aa ab ac ad ae af ag ah ai aj ak al am an ao ap aq ar au av aw ax ay az a0 a1 a2 a3 a4 a5 a6 a7 a8 a9 ba bb bc bd bf bg bh bi bj cs ct cu cw cx cy cz da db dc dd de df dh di dj dk dl dm dn bk bl bm bn bo bp bq br bs bt bu bv bw bx bz b0 b1 b2 b3 b4 b5:ZE)
  (a:∀(y10 y167 y168 y169 y170 y171 y172 y173 y174 y175 y176 y177 y178 y179 y180 y181 y182 y183 y184 y185 y186:ZE) (S1:ByteArray) (w':V),S1.data.toList=l++Ai (E.first.map (D0 E))->EB w0 R E (F pa E.points.length pc) (F ga E.gaps.length gc) (F ea E.edges.length ec) (F fa E.first.length fc) (F la E.last.length lc) eb w'->Q0 .normal ⟨(List.toArray (x0::x1::x2::(ZB S1)::x4::(ZA (U ⟨eb,0,O⟩))::x6::x7::x8::x9::y10::cm::cn::co::cp::cq::cr::cv::dg::dp::dq::dr::ds::dt::du::dv::dw::dx::dy::dz::d3::d4::d5::d6::d7::d8::d9::ed::ee::ef::eg::eh::ei::ej::ek::el::em::en::eo::ep::er::es::et::eu::ev::ew::ex::ey::ez::e0::e1::e2::e3::e4::e5::e6::e7::e8::e9::fb::fd::fe::ff::fg::fh::fi::fj::fk::fm::fn::fo::fp::fq::ft::fu::fv::fw::fx::fy::fz::f0::f1::f2::f3::f4::f5::f6::f7::f8::f9::g::i::m::n::o::q::t::u::v::y::A::B::C::D::H::K::L::M::N::Q::T::X::Y::Z::aa::ab::ac::ad::ae::af::ag::ah::ai::aj::ak::al::am::an::ao::ap::aq::ar::au::av::aw::ax::ay::az::a0::a1::a2::a3::a4::a5::a6::a7::a8::a9::ba::bb::bc::bd::bf::bg::bh::bi::bj::y167::y168::y169::y170::y171::y172::y173::y174::y175::y176::y177::y178::y179::y180::y181::y182::y183::y184::y185::y186::bk::bl::bm::bn::bo::bp::bq::br::bs::bt::bu::bv::bw::bx::bz::b0::b1::b2::b3::b4::b5:: [])),[]⟩ w'):
  Code.wp ZI (qN 8) Q0 ⟨(List.toArray (x0::x1::x2::(ZB S0)::x4::(ZA (U ⟨eb,0,O⟩))::x6::x7::x8::x9::(I J 0)::cm::cn::co::cp::cq::cr::cv::dg::dp::dq::dr::ds::dt::du::dv::dw::dx::dy::dz::d3::d4::d5::d6::d7::d8::d9::ed::ee::ef::eg::eh::ei::ej::ek::el::em::en::eo::ep::er::es::et::eu::ev::ew::ex::ey::ez::e0::e1::e2::e3::e4::e5::e6::e7::e8::e9::fb::fd::fe::ff::fg::fh::fi::fj::fk::fm::fn::fo::fp::fq::ft::fu::fv::fw::fx::fy::fz::f0::f1::f2::f3::f4::f5::f6::f7::f8::f9::g::i::m::n::o::q::t::u::v::y::A::B::C::D::H::K::L::M::N::Q::T::X::Y::Z::aa::ab::ac::ad::ae::af::ag::ah::ai::aj::ak::al::am::an::ao::ap::aq::ar::au::av::aw::ax::ay::az::a0::a1::a2::a3::a4::a5::a6::a7::a8::a9::ba::bb::bc::bd::bf::bg::bh::bi::bj::cs::ct::cu::cw::cx::cy::cz::da::db::dc::dd::de::df::dh::di::dj::dk::dl::dm::dn::bk::bl::bm::bn::bo::bp::bq::br::bs::bt::bu::bv::bw::bx::bz::b0::b1::b2::b3::b4::b5:: [])),[]⟩ cl:=by
 have HEXIT:=G a;have HLen:=G d;clear a d;conv=>arg 2;whnf
 go_wp2_with fail;go_loopw [3,10] (fun s3 ca wr=>∃(k:Nat) (S:ByteArray),k<=E.first.length/\s3=ZB S/\ca=I J k/\Hid (S.data.toList=l++Ai ((E.first.take k).map (D0 E)))/\Hid (EB w0 R E (F pa E.points.length pc) (F ga E.gaps.length gc) (F ea E.edges.length ec) (F fa E.first.length fc) (F la E.last.length lc) eb wr)) (fun _ ca _=>E.first.length-(intOf ca).toNat);case atStart=>exact⟨0,S0,In _,rfl,rfl,(show S0.data.toList=l++Ai ((E.first.take 0).map (D0 E))from by rw[hl.out];simp[Ai]),gt⟩
 case round=>
  obtain⟨k,S,hk,rfl,rfl,hS,he⟩:=hrel;obtain⟨c0,c1,c2,c3,c4,c5,c6,c7,c8,c9⟩:=he.cells;have gu:=HG.fl;by_cases b8:k<E.first.length
  ·have gp:S.size<=903296+206*64:=by
    have h1:=Oh (D0 E) E.first k 16 gu (fun x hx=>Oo HG x);have h2:=HLen.out;rw[dsize,hS.out,R2];omega
   have cb:=G (Mx (D0 E) E.first k b8);obtain⟨xb,xo,rfl,ij,im,ch⟩:=I4 he.sl.f (by omega);have r0:=ch k b8;obtain⟨x,hx⟩:∃x,x=E.first[k]:=⟨_,rfl⟩
   have ck:=HG.fs E.first[k] (M2 b8);rw[<-hx]at r0 cb ck;obtain⟨gl,gm⟩:=ck;obtain⟨j1,b7⟩:∃j:Nat,x=(j:Int):=⟨x.toNat,by omega⟩
   have b9:j1<E.points.length:=by omega
   obtain⟨pb,po,rfl,ii,il,cg⟩:=E8 he.sl.p (by omega);have q1:=cg j1 b9;have gw:=HG.ps _ (M2 b9);have b6:=G (Ajb E x);rw[Ng b7 b9]at b6;obtain⟨s1,e⟩:∃s,s=E.points[j1]:=⟨_,rfl⟩
   rw[<-e]at q1 gw b6;rw[b7]at r0;obtain⟨T0,cc,gb,gq⟩:=Bh (P:=ZI) S ⟨#[102,105,114,115,116,32]⟩ (by have:=(show(⟨#[102,105,114,115,116,32]⟩:ByteArray).size=6 from rfl);omega);rw[(show(⟨#[102,105,114,115,116,32]⟩:ByteArray).size=6 from rfl)]at gb;obtain⟨T1,cd,g2,gr⟩:=Bh (P:=ZI) T0 s1 (by omega);obtain⟨T2,ce,g3,gs⟩:=Bh (P:=ZI) T1 ⟨#[10]⟩ (by have:=(show(⟨#[10]⟩:ByteArray).size=1 from rfl);omega);clear cg ch hx e gl gm b7;have gv:Hid (T2.data.toList=l++Ai ((E.first.take (k+1)).map (D0 E))):=G (by
    rw[cb.out,b6.out,<-F6,<-hS.out];rw[ce,cd,cc];simp)
   clear cc gb cd g2 ce g3 gp;go_wp2_with fail;go_quiet (fail);go_wp2_with fail;go_roundw;case rel=>exact⟨k+1,T2,by omega,rfl,by go_num,gv,he.keep (Ck _ (Ac.refl (fun _=>False) _)) (fun _ h _=>h.elim)⟩
   case measure=>simp[intOf];omega
  ·have cj:k=E.first.length:=by omega
   have gf:Hid (S.data.toList=l++Ai (E.first.map (D0 E))):=G (by rw[hS.out,cj,Zz2]);clear cj;go_wp2_with fail;exact HEXIT _ _ _ _ _ _ _ _ _ _ _ _ _ _ _ _ _ _ _ _ _ _ _ gf he.out
