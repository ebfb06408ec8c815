import Derived.Test.YtikehilbmldadaaGreatDoorP08
import Derived.Shelf.Abstract
set_option maxHeartbeats 4000000
set_option maxRecDepth 100000
set_option linter.unusedVariables false
namespace Go.Proofs.YtikehilbmldadaaGreatDoor
open Proofs.Tryz YtikehilbmldadaaGreatDoor.Tryz RowKit
open Go renaming World->V,Value->ZE,RowKit.Below->ZF,RowKit.Hid->ZG,Calls->ZH,Value.int->I,IntKind.i64->J,Value.slice->F,Ending.returned->ZD,Value.tuple->ZM,Proofs.Tryz.prog->ZI
open Option renaming some->U,none->O
theorem Av.later{R:Nat->Prop}{w w':V}{v:ZE}{e:Nat}{a:List ZE}{n:Nat}(h:Av R w v e a n)(k:ZF w.heap.size w w'):Av R w' v e a n:=by
 obtain⟨q,f,cap,y,h1,h2,h3,g⟩:=h;refine⟨q,f,cap,y,h1,h2,h3,fun s=>?_⟩;obtain⟨b,off,l,i,d,o⟩:=g s;exact⟨b,off,l,i,F5 d k.size,fun j u t=>by rw[k.cell (p:=⟨b,off+j,O⟩) d];exact o j u t⟩
structure RSt (B:Nat) (sa:Nat->Addr) (w0:V) (rg c rb cap:Nat) (m:CM) (dead:Bool) (L:List Ap) (lv:ZE) (w:V):Prop where
 ring:tW w rg c lv dead L (fun b=>b≠c/\b≠rb/\b≠rg)
 mem:A7 w c rb (U ⟨rb,0,O⟩) cap m
 se:Hk B sa w
 bel:ZF w0.heap.size w0 w
 lay:w0.heap.size<=c/\w0.heap.size<=rb/\w0.heap.size<=rg/\B<=w0.heap.size/\rg≠c/\rg≠rb
section
variable {B:Nat} {sa:Nat->Addr} {w0 w w':V} {rg c rb cap:Nat} {m m':CM} {dead:Bool} {L:List Ap} {lv:ZE}
theorem RSt.below(h:RSt B sa w0 rg c rb cap m dead L lv w)(b:ZF w.heap.size w w'):RSt B sa w0 rg c rb cap m dead L lv w':=
 ⟨⟨Ae b h.ring.box (Aa h.ring.box),h.ring.row.later b⟩,h.mem.keep (Al b) (fun _ h=>h.elim),h.se.below b,h.bel.trans (b.mono h.bel.size),h.lay⟩
theorem RSt.write(h:RSt B sa w0 rg c rb cap m dead L lv w)(k:Ac (fun b=>b=c\/b=rb) w w')(d:A7 w' c rb (U ⟨rb,0,O⟩) cap m'):RSt B sa w0 rg c rb cap m' dead L lv w':=by
 obtain⟨j,l,n,o,g,i⟩:=h.lay;exact⟨⟨k.get h.ring.box (by rintro(e|e);exact g e;exact i e),h.ring.row.keep k (fun b a f=>by rcases f with e|e;exact a.1 e;exact a.2.1 e)⟩,d,h.se.keep k (fun b a=>by rcases a with rfl|rfl<;>omega),h.bel.trans (k.below h.bel.size (fun b a=>by rcases a with rfl|rfl<;>omega)),h.lay⟩
theorem RSt.fin2(h:RSt B sa w0 rg c rb cap m dead L lv w)(k:Ac (fun b=>b=c\/b=rb\/b=rg\/w.heap.size<=b) w w'){a:Bool}{lv':ZE}{L':List Ap}(d:w'.heap[rg]? =U (Io c lv' a))(e:A7 w' c rb (U ⟨rb,0,O⟩) cap m')
  (f:Av (fun b=>b≠c/\b≠rb/\b≠rg) w' lv' 4 (L'.flatMap Ao) L'.length):RSt B sa w0 rg c rb cap m' a L' lv' w':=by
 obtain⟨j,l,n,o,p,q⟩:=h.lay;have g:=h.se.top;have i:=h.bel.size;exact⟨⟨d,f⟩,e,h.se.keep k (fun b d=>by omega),h.bel.trans (k.below h.bel.size (fun b d=>by omega)),h.lay⟩
theorem RSt.fin(h:RSt B sa w0 rg c rb cap m dead L lv w)(k:Ac (fun b=>b=c\/b=rb\/b=rg\/w.heap.size<=b) w w'){a:Bool}(f:w'.heap[rg]? =U (Io c lv a))(s:A7 w' c rb (U ⟨rb,0,O⟩) cap m'):RSt B sa w0 rg c rb cap m' a L lv w':=by
 obtain⟨E,H,K,M,N,P⟩:=h.lay;have C:=h.se.top;have D:=h.bel.size;refine⟨⟨f,?_⟩,s,h.se.keep k (fun b f=>by omega),h.bel.trans (k.below h.bel.size (fun b f=>by omega)),h.lay⟩;obtain⟨q,g,i,A,h1,h2,h3,l⟩:=h.ring.row;refine⟨q,g,i,A,h1,h2,h3,fun v=>?_⟩;obtain⟨b,off,n,e,d,o⟩:=l v;have t:¬(b=c\/b=rb\/b=rg\/w.heap.size<=b):=by have:=e.1;have:=e.2.1;have:=e.2.2;omega
 exact⟨b,off,n,e,F5 d k.size,fun j u y=>by rw[k.cell (p:=⟨b,off+j,O⟩) d t];exact o j u y⟩
end
def Z0(w w':V)(v:ZE):Prop:=∀b,v.ownBlock=U b->w.heap.size<=b/\b<w'.heap.size
theorem Ir{w w':V}{c rb rg:Nat}(h:ZF w.heap.size w w'):Ac (fun b=>b=c\/b=rb\/b=rg\/w.heap.size<=b) w w':=(Ac.of_below h).mono (fun b _ hb=>.inr (.inr (.inr hb)))
def Aew(e k t:Int):Bool:=decide (0<=e/\e<=255/\0<=k/\k<=255/\0<=t/\t<281474976710656)
def Gx(L:List Ap)(e k t:Int):Ap:=⟨(Gd L).seq+1,e.toNat,k.toNat,t.toNat⟩
def Bu(m:CM)(L:List Ap)(dead:Bool)(e k t:Int):Nat × Ap × CM × List Ap × Bool:=
 if dead=true then (8,⟨0,0,0,0⟩,m,L,true) else if Aew e k t=false then (2,⟨0,0,0,0⟩,m,L,false) else if 4294967296<=(Gd L).seq+1 then (7,⟨0,0,0,0⟩,m,L,false)
 else if (A4 m (Gx L e k t)).1=0 then (0,Gx L e k t,(A4 m (Gx L e k t)).2,(L++ [Gx L e k t]).drop (L.length+1-8),false)
 else ((A4 m (Gx L e k t)).1,⟨0,0,0,0⟩,(A4 m (Gx L e k t)).2,L,true)
theorem pN{w:V}{b d:Nat}{e:TypeId}{size:Nat}{v:ZE}{n:Nat}{f:List ZE}(h:w.ownsRow b e size v n f)(i:d<=b):w.ownsRow d e size v n f:=by
 refine⟨h.1,?_⟩;rcases h.2 with l|⟨g,cap,a,rfl,j,rest⟩
 ·exact .inl l
 ·exact .inr ⟨g,cap,a,rfl,No i j,rest⟩
theorem Ag5{w0 W a:V}{e:TypeId}{size n:Nat}{v:ZE}{i:List ZE}(h:ZF w0.heap.size w0 W)(g:W.ownsRow w0.heap.size e size v n i)(d:W.grownBy a v.ownBlock):ZF w0.heap.size w0 a:=
 h.grown d h.size (fun k f=>(g.lt k f).1)
theorem Li(w:V)(g N cap lo:Nat)(h1:lo<cap)(h2:lo<=N):
  (Instr.slice 68 (F (U ⟨g,0,O⟩) N cap) (U (I J lo)) O O).run ZI w=.ok (F (U ⟨g,lo*4,O⟩) (N-lo) (cap-lo)) w:=by
 have d:ZI.underlying 68=U (.slice (ZI.elem 68)):=by kernel_rfl
 have a:((sizeOf (ZI.elem 68)).run ZI w)=.ok 4 w:=by kernel_rfl
 rw[run_slice_l w 68 (U ⟨g,0,O⟩) N cap d J lo (by omega) (by omega),a];show Result.ok (sliced _ _ _ _ _) w=_
 unfold sliced;rw[show((lo:Int)).toNat=lo from by omega,if_neg (by omega)];show Result.ok (Value.slice (U (Addr.add ⟨g,0,O⟩ (lo*4))) _ _) w=_
 rw[Dt,Zzt]
theorem qG(l:List Ap)(k:Nat):(l.drop k).flatMap Ao=(l.flatMap Ao).drop (k*4):=by
 induction k generalizing l with
 |zero=>simp
 |succ k ih=>
  cases l with
  |nil=>simp
  |cons x l=>
   rw[List.drop_succ_cons,ih,Zz6,show(k+1)*4=4+k*4 by omega,<-Zyd];congr 1
theorem Nz{R:Nat->Prop}{w:V}{g a:Nat}{l:List Ap}(h:Av R w (F (U ⟨g,0,O⟩) l.length a) 4 (l.flatMap Ao) l.length)(lo:Nat)(o:lo<l.length):
  Av R w (F (U ⟨g,lo*4,O⟩) (l.length-lo) (a-lo)) 4 ((l.drop lo).flatMap Ao) (l.drop lo).length:=by
 obtain⟨s,q,cap,p,h1,h2,h3,e⟩:=h;obtain⟨rfl,rfl,rfl⟩:=p;obtain⟨b,off,i,f,j,n⟩:=e (by rw[Ot];omega);obtain⟨rfl,rfl,_⟩:=Option.some.inj i;rw[B2];refine⟨by rw[Ot,B2],_,_,rfl,by omega,by omega,(fun h=>by cases h),fun _=>⟨g,lo*4,rfl,f,j,fun k u d=>?_⟩⟩;rw[qG,Zyu]at d;have:=n _ _ d;rwa [Zzt]at this
theorem Wj{w:V}{a:Nat}{e:TypeId}{size n cap:Nat}{ao:Option Addr}{l:List ZE}(h:w.ownsRow a e size (F ao n cap) n l)(p:0<n):∃g,ao=U ⟨g,0,O⟩/\a<=g/\n<=cap:=by
 obtain⟨_,d⟩:=h;rcases d with⟨h1,h2⟩|⟨g,f,i,d,j,o,h1,h2,_⟩
 ·omega
 ·injection d with e1 e2 e3;exact⟨g,e1,j,by omega⟩
theorem Ab7{w w':V}{a:Addr}{l:List ZE}(b:ZF w.heap.size w w')(h:∀j u,l[j]? =U u->w.cell? (a.add j)=U u):∀j u,l[j]? =U u->w'.cell? (a.add j)=U u:=fun j u d=>by
 have:=h j u d
 rw[Zy7 (w:=w) (b.block _ (R3 _ _ this))];exact this
theorem Ada{w w':V}{a b:Nat}{d e g i j:ZE}(k:ZF w.heap.size w w')(h:w.cell? ⟨a,1,O⟩=U d/\w.cell? ⟨b,0,O⟩=U e/\w.cell? ⟨b,1,O⟩=U g/\w.cell? ⟨b,2,O⟩=U i/\w.cell? ⟨b,3,O⟩=U j):
  w'.cell? ⟨a,1,O⟩=U d/\w'.cell? ⟨b,0,O⟩=U e/\w'.cell? ⟨b,1,O⟩=U g/\w'.cell? ⟨b,2,O⟩=U i/\w'.cell? ⟨b,3,O⟩=U j:=by
 have f:∀{p:Addr} {u:ZE},w.cell? p=U u->w'.cell? p=U u:=fun {p u} h=>(k.cell (R3 _ p h)).trans h;exact⟨f h.1,f h.2.1,f h.2.2.1,f h.2.2.2.1,f h.2.2.2.2⟩
theorem Ka(w:V)(z:Nat)(a b c d:ZE):Ac (· =z) w ((((w.setCell ⟨z,0,O⟩ a).setCell ⟨z,1,O⟩ b).setCell ⟨z,2,O⟩ c).setCell ⟨z,3,O⟩ d):=
 ((Fo (Fo (Af w z 0 a) 1 b) 2 c)).trans (Af _ z 3 d)
theorem kL(w:V)(a b:Obj):((w.alloc a).alloc b).heap[w.heap.size]? =U a/\((w.alloc a).alloc b).heap[w.heap.size+1]? =U b/\ZF w.heap.size w ((w.alloc a).alloc b)/\((w.alloc a).alloc b).heap.size=w.heap.size+2:=by
 have n1:=Ab (w.alloc a) b;rw[H7]at n1;exact⟨Bp _ (Ab _ _),n1,((R1 _ _).alloc (Y2 _) _).alloc (by simp) _,by simp⟩
theorem Bd{w w1:V}(h:ZF w.heap.size w w1){a b c d:ZE}:ZF w.heap.size w ((((w1.setCell ⟨w.heap.size,0,O⟩ a).setCell ⟨w.heap.size,1,O⟩ b).setCell ⟨w.heap.size,2,O⟩ c).setCell ⟨w.heap.size,3,O⟩ d):=
 (((h.setCell (p:=⟨w.heap.size,0,O⟩) (Y2 _) _).setCell (p:=⟨w.heap.size,1,O⟩) (Y2 _) _).setCell (p:=⟨w.heap.size,2,O⟩) (Y2 _) _).setCell (p:=⟨w.heap.size,3,O⟩) (Y2 _) _
theorem X6(B:Nat)(sa:Nat->Addr)(w0:V)(rg c rb cap:Nat)(m:CM)(dead:Bool)(L:List Ap)(lv:ZE)(l n tk:Int)(kk:Int)(w:V)(h:RSt B sa w0 rg c rb cap m dead L lv w)(hk:J3 m kk)(bn:kk<=900000000)(hl:153<=m.bs.length)(hL:L.length<=100)(hS:(Gd L).seq<4294967296):
  ZH ZI 152 #[.pointer (U ⟨rg,0,O⟩),I J l,I J n,I J tk] w fun e w'=>e=ZD (ZM #[Aq (Bu m L dead l n tk).2.1,errv sa (Bu m L dead l n tk).1])/\
   ∃lv',RSt B sa w0 rg c rb cap (Bu m L dead l n tk).2.2.1 (Bu m L dead l n tk).2.2.2.2 (Bu m L dead l n tk).2.2.2.1 lv' w'/\Ac (fun b=>b=c\/b=rb\/b=rg\/w.heap.size<=b) w w'/\(lv'=lv\/Z0 w w' lv'):=by
 have ba:ZF w.heap.size w (w.alloc (D7 ⟨0,0,0,0⟩)):=(R1 _ _).alloc (Y2 _) _;have na:=Ab w (D7 ⟨0,0,0,0⟩);have d:=G h;have H:=G (h.below ba);have HN:=G na;have f:=G ba;clear h ba na;unfold D7 at H HN f;go_enter func152,ntmps152;go_upto_region 1 with fail;generalize w.alloc _=w1 at H HN f ⊢;obtain⟨r0,r1,r2,rf⟩:=Ha H.ring.box;obtain⟨A,z1,z2,D⟩:=Ay HN.out;have zf:∀o,w1.frozen? ⟨w.heap.size,o,O⟩=false:=fun o=>Eu HN.out;obtain⟨g1,g2,g6,g7,nb,_⟩:=H.se;have dp:B<=w.heap.size:=d.se.top;have e1:¬0=w.heap.size:=by have:=nb.1;omega
 have e6:¬6=w.heap.size:=by have:=nb.2.2.1;omega
 have e7:¬7=w.heap.size:=by have:=nb.2.2.2;omega
 have f1:¬w.heap.size=0:=fun h=>e1 h.symm;have f6:¬w.heap.size=6:=fun h=>e6 h.symm;have f7:¬w.heap.size=7:=fun h=>e7 h.symm;clear nb;cases dead with
 |true=>
  have HE:ZG (Bu m L true l n tk=(8,⟨0,0,0,0⟩,m,L,true)):=(rfl:Bu m L true l n tk=(8,⟨0,0,0,0⟩,m,L,true))
  go_wp2_with fail;go_region;all_goals
   go_wp2_with fail;refine bodyPost_ret (v:=ZM #[Aq ⟨0,0,0,0⟩,errv sa 8]) (by simp[Aq,errv,results,results152,go_sem,A,z1,z2,D,O2,O1]) rfl ?_;rw[HE.out];exact⟨rfl,lv,d.below (Bd f.out).drew,Ir (Bd f.out).drew,.inl rfl⟩
 |false=>
 by_cases Y:Aew l n tk=true
 ·have a:0<=l/\l<=255/\0<=n/\n<=255/\0<=tk/\tk<281474976710656:=Zyq Y;have bl:Bu m L false l n tk=if 4294967296<=(Gd L).seq+1 then (7,⟨0,0,0,0⟩,m,L,false)
   else if (A4 m (Gx L l n tk)).1=0 then (0,Gx L l n tk,(A4 m (Gx L l n tk)).2,(L++ [Gx L l n tk]).drop (L.length+1-8),false) else ((A4 m (Gx L l n tk)).1,⟨0,0,0,0⟩,(A4 m (Gx L l n tk)).2,L,true):=by
   unfold Bu;rw[if_neg (by decide),Y,if_neg (by decide)]
  have Q:=G bl;clear bl;obtain⟨b1,b2,b3,b4,b5,b6⟩:=a;clear Y;go_wp2_with fail;refine(Tw w1 rg c lv false L (fun b=>b<w1.heap.size) ⟨H.ring.box,H.ring.row.here⟩ (fun b h=>h) (by omega)).mono ?_;rintro e w2 ⟨rfl,bb⟩;obtain⟨E,rfl⟩:∃E:Nat,l=E:=⟨l.toNat,by omega⟩
  obtain⟨K,rfl⟩:∃K:Nat,n=K:=⟨n.toNat,by omega⟩
  obtain⟨T,rfl⟩:∃T:Nat,tk=T:=⟨tk.toNat,by omega⟩
  obtain⟨x,hx⟩:∃x,x=Gx L E K T:=⟨_,rfl⟩
  rw[<-hx]at Q;obtain⟨S,az⟩:∃S,S=(Gd L).seq:=⟨_,rfl⟩
  have HX:ZG (x=⟨S+1,E,K,T⟩):=G (by rw[hx,az];rfl);have R:=G (f.trans (bb.mono f.size));have av:=G (Ae bb HN (Aa HN.out));have q3:=kL w2 (D7 (Gd L)) (.cells #[I J ((S:Int)+1),I J E,I J K,I J T] 147);unfold D7 at q3;unfold Aq;rw[<-az]at q3 Q hS ⊢;clear r0 r1 r2 rf A z1 z2 D zf g1 g2 g6 g7 f HN bb H hx az;have eS:ZG (((S:Int)+1)=((S+1:Nat):Int)):=G (by omega);have aj:(S:Int)+1<=4294967296:=by omega
  go_upto_region 7 with fail;generalize(w2.alloc _).alloc _=w3 at q3 ⊢;obtain⟨cu,a4,a5,d6⟩:=q3;have bk:ZG (w3.heap[w2.heap.size+1]? =U (D7 x)):=G (by rw[a4,HX.out,eS.out];rfl);have X:=G (R.trans (a5.mono R.size));have ag:=G (Ae a5 av (Aa av.out));have y:=G (d.below X.out);obtain⟨r0,r1,r2,rf⟩:=Ha y.ring.box;obtain⟨A,z1,z2,D⟩:=Ay ag.out;have zf:∀o,w3.frozen? ⟨w.heap.size,o,O⟩=false:=fun o=>Eu ag.out;obtain⟨x0,x1,x2,x3⟩:=Ay a4;obtain⟨g1,g2,g6,g7,_,_⟩:=y.se;have dy:w.heap.size<=w2.heap.size:=R.size;clear cu a4 a5 av R eS g1 g2;by_cases M:4294967296<=S+1
  ·have a2:(4294967296:Int)<=(S:Int)+1:=by omega
   rw[if_pos M]at Q;go_wp2_with fail;go_region;all_goals
    go_wp2_with fail;refine bodyPost_ret (v:=ZM #[Aq ⟨0,0,0,0⟩,errv sa 7]) (by simp[Aq,errv,results,results152,go_sem,A,z1,z2,D,O2,O1]) rfl ?_;rw[Q.out];exact⟨rfl,lv,d.below (Bd X.out).drew,Ir (Bd X.out).drew,.inl rfl⟩
  have a2:decide ((4294967296:Int)<=(S:Int)+1)=false:=N1 (by omega);rw[if_neg M]at Q;have a3:Kv x:=by rw[HX.out];exact⟨by show 1<=S+1;omega,by show S+1<_;omega,by show E<256;omega,by show K<256;omega,by show T<_;omega⟩
  have dh:=G a3;have ce:B<=c/\B<=rb:=by have:=d.lay;omega
  have aw:ZG (ZH ZI 198 #[.pointer (U ⟨rg,0,O⟩),.agg #[I J ((S:Int)+1),I J E,I J K,I J T]] w3 fun e w'=>e=ZD (errv sa (A4 m x).1)/\RSt B sa w0 rg c rb cap (A4 m x).2 false L lv w'/\Ac (fun b=>b=c\/b=rb) w3 w'):=(show _ from by
   have bp:=gC B sa rg c rb cap lv false m x kk w3 y.ring.box y.mem y.se y.lay.2.2.2.2 ce a3 hk bn hl;rw[show Aq x=.agg #[I J ((S:Int)+1),I J E,I J K,I J T] from by rw[HX.out];rfl]at bp;refine bp.mono ?_;rintro e w' ⟨rfl,h1,h2⟩;exact⟨rfl,y.write h2 h1,h2⟩)
  clear a3 M g6 g7 hS aj;have df:=G hk;have dg:=G hl;have b0:=G hL;clear b1 b2 b3 b4 b5 b6 hk bn hl hL;obtain⟨S1,aj⟩:∃S1:Int,S1=(S:Int)+1:=⟨_,rfl⟩
  rw[<-aj]at x0 a2 aw ⊢;clear aj;go_wp2_with fail;refine aw.mono ?_;rintro e s ⟨rfl,h4,k4⟩;obtain⟨p,hp⟩:∃p,p=A4 m x:=⟨_,rfl⟩
  rw[<-hp]at Q h4 ⊢;clear hp aw;obtain⟨pe,pm⟩:=p;simp only at Q h4 ⊢;have dt:=Aa d.mem.box;have ds:rb<w.heap.size:=by
   obtain⟨C,t,hh,_⟩:=d.mem.row rfl;exact Aa hh
  have du:=Aa d.ring.box;have dx:=X.size;have H4:=G h4;have br:Ac (fun b=>b=c\/b=rb\/b=rg\/w.heap.size<=b) w s:=((Ac.of_below X.out).mono (fun b _ a=>.inr (.inr (.inr a)))).step (k4.mono (T:=fun b=>b=c\/b=rb\/b=rg\/w.heap.size<=b) (fun b _ a=>by omega)) (fun b a _=>a);have ay:=G br;have Z:=G (k4.get ag (by omega));have ax:=G (k4.get bk (by omega));clear r0 r1 r2 rf A z1 z2 D zf x0 x1 x2 x3 h4 br k4 ag bk X y a2;obtain⟨r0,r1,r2,rf⟩:=Ha H4.ring.box;obtain⟨A,z1,z2,D⟩:=Ay Z.out;have zf:∀o,s.frozen? ⟨w.heap.size,o,O⟩=false:=fun o=>Eu Z.out;have hne:¬rg=w.heap.size:=by omega
  have c7:¬w.heap.size=rg:=by omega
  by_cases ae:pe=0
  ·rw[if_pos ae]at Q;rw[ae,Fe];clear ae;obtain⟨i0,ch,cn,co,cq⟩:=info_parts infoRec;obtain⟨x0,x1,x2,x3⟩:=Ay ax.out;have dr:=b0.out;have bi:ZG (∀W,ZF s.heap.size s W->ZH ZI 95 #[lv] W fun e w'=>∃ao q,e=ZD (F ao L.length q)/\w'.ownsRow s.heap.size 147 4 (F ao L.length q) L.length (L.flatMap Ao)/\ZF W.heap.size W w'/\ZF s.heap.size s w'):=G (by
    intro W hW;refine(Ns _ L lv W (H4.ring.row.later hW) (by omega)).mono ?_;rintro e w' ⟨ao,q,rfl,ho,b⟩;exact⟨ao,q,rfl,pN ho hW.size,b,hW.trans (b.mono hW.size)⟩)
   have cd:ZG (L.length+1<=maxLen):=by show L.length+1<=maxLen;unfold maxLen;omega
   have cf:ZG ((L.length+1)*32<=140737488355328):=by show(L.length+1)*32<=140737488355328;omega
   clear r0 r2 rf A z1 z2 D zf;go_upto_region 13 with fail;go_cut [14] (fun cv wx=>∃(ao:Option Addr) (q:Nat),cv=F ao (L.length+1) q/\ZG (wx.ownsRow s.heap.size 147 4 (F ao (L.length+1) q) (L.length+1) (L.flatMap Ao++Ao x))/\ZG (ZF s.heap.size s wx));case first=>
    go_region_held3 (fun w'=>w'.cell? ⟨rg,1,O⟩=U lv/\w'.cell? ⟨w2.heap.size+1,0,O⟩=U (I J x.seq)/\w'.cell? ⟨w2.heap.size+1,1,O⟩=U (I J x.ent)/\w'.cell? ⟨w2.heap.size+1,2,O⟩=U (I J x.kind)/\w'.cell? ⟨w2.heap.size+1,3,O⟩=U (I J x.tick))
     (first|exact⟨r1,x0,x1,x2,x3⟩|exact Ada (by repeat(first|assumption|exact R1 _ _|refine H5 ?_|refine Zzv ?_ (by first|exact Below.size b5|simp) _)) ⟨r1,x0,x1,x2,x3⟩)
     (first|(go_at_call 95;refine(bi _ ?_).mono ?_;(repeat(first|exact R1 _ _|refine H5 ?_|refine Zzv ?_ (by simp) _));rintro e w5 ⟨ao,q,rfl,ak,d5,b5⟩)|(refine Jw rfl (.tmp 76) (.tmp 78) 68 rfl s.heap.size 147 i0 _ 4 32 underlying68 ch cn co cq rfl (by decide) _ L.length _ rfl (by first|exact ak.alloc _|exact ak) _ 1 1 (Ao x) rfl rfl (by first|exact A1 _ (Ao x) _|exact Ab7 d5 (A1 _ (Ao x) _)) (by intro u hu;simp[Ao]at hu;rcases hu with rfl|rfl|rfl|rfl<;>rfl) cd cf.out ?_ ?_;(first|exact Below.size b5|exact No (Below.size b5) (by simp));intro a1 k1 w6 cl cg;have b6:=Ag5 (by repeat(first|exact Zzv b5 (Below.size b5) _|exact b5|refine H5 ?_)) (by first|exact ak.alloc _|exact ak) cg))
    all_goals(go_wp2_with fail;go_meet)
    all_goals exact⟨a1,k1,rfl,cl,b6⟩
   case rest=>
   obtain⟨ao,q,rfl,ho,ab⟩:=hcut;clear r1 x0 x1 x2 x3 bi;obtain⟨lo,ad⟩:∃lo,lo=L.length+1-8:=⟨_,rfl⟩
   rw[<-ad]at Q;obtain⟨g,q1,q2,q3⟩:=Wj ho (Nat.succ_pos _);subst q1;have H6:=G (H4.below ab.out);have bj:=G (Ae ab Z (Aa Z.out));have ca:=G (Ae ab ax (Aa ax.out));obtain⟨r0,r1,r2,rf⟩:=Ha H6.ring.box;obtain⟨A,z1,z2,D⟩:=Ay bj.out;have zf:∀o,wc.frozen? ⟨w.heap.size,o,O⟩=false:=fun o=>Eu bj.out;obtain⟨x0,x1,x2,x3⟩:=Ay ca.out;have dw:¬rg=w2.heap.size+1:=by omega
   have dz:¬w2.heap.size+1=rg:=by omega
   have bq:w.heap.size<s.heap.size:=Aa Z.out;have aa:(L++ [x]).length=L.length+1:=by simp
   have N:=Ge ho.out;rw[show L.flatMap Ao++Ao x=(L++ [x]).flatMap Ao by simp,<-aa]at N;by_cases h8:L.length<=7
   ·have bo:lo=0:=by omega
    rw[bo,Zx8]at Q;have ar:ZG (Av (fun b=>s.heap.size<=b) wc (F (U ⟨g,0,O⟩) (L.length+1) q) 4 ((L++ [x]).flatMap Ao) (L++ [x]).length):=G (by rw[<-aa];exact N);have dn:(L.length:Int)<=7:=by omega
    have ac:(wc.setCell ⟨rg,1,O⟩ (F (U ⟨g,0,O⟩) (L.length+1) q)).heap[rg]? =U (Io c (F (U ⟨g,0,O⟩) (L.length+1) q) false):=by
     have:=H6.ring.box;unfold Io at this ⊢;rw[Ah _ this];rfl
    have aq:=G ac;have b8:=G N;have b7:=G ad;clear r0 N ac aa ad h8;go_wp2_with fail;refine bodyPost_ret (v:=ZM #[Aq x,errv sa 0]) (by simp[Aq,errv,results,results152,go_sem,A,z1,z2,D,O2,O1]) rfl ?_;rw[Q.out];have P:=Ka (wc.setCell ⟨rg,1,O⟩ (F (U ⟨g,0,O⟩) (L.length+1) q)) w.heap.size (I J x.seq) (I J x.ent) (I J x.kind) (I J x.tick);have k7:=Af wc rg 1 (F (U ⟨g,0,O⟩) (L.length+1) q);have kb:Ac (fun b=>b=c\/b=rb\/b=rg\/w.heap.size<=b) s wc:=(Ac.of_below ab.out).mono (fun b _ a=>by omega);have i:=((ay.trans kb).trans (k7.mono (fun b _ a=>.inr (.inr (.inl a))))).trans (P.mono (T:=fun b=>b=c\/b=rb\/b=rg\/w.heap.size<=b) (fun b _ a=>.inr (.inr (.inr (by omega)))));refine⟨rfl,_,d.fin2 i (P.get aq hne) ?_ (L':=(L++ [x])) ?_,i,.inr (fun b a=>by obtain rfl:=Option.some.inj a;exact⟨No (Zyi bq) q2,F5 (ho.lt _ rfl).2 (No k7.size P.size)⟩)⟩
    ·exact((H6.mem.keep k7 (fun b a=>by subst a;exact d.lay.2.2.2.2)).keep P (fun b a=>by omega))
    ·exact((ar.keep k7 (fun b a h=>by omega)).keep P (fun b a h=>by omega)).mono (fun b a=>by omega)
   ·have hI:(L.length:Int)+1-8=(lo:Int):=by omega
    have dq:(1:Int)<=lo:=by omega
    have a0:=Nz N lo (by omega);rw[aa]at a0;have ar:=G a0;have c9:=fun w=>Li w g (L.length+1) q lo (by omega) (by omega);clear a0;have ac:(wc.setCell ⟨rg,1,O⟩ (F (U ⟨g,lo*4,O⟩) (L.length+1-lo) (q-lo))).heap[rg]? =U (Io c (F (U ⟨g,lo*4,O⟩) (L.length+1-lo) (q-lo)) false):=by
     have:=H6.ring.box;unfold Io at this ⊢;rw[Ah _ this];rfl
    have aq:=G ac;have b8:=G N;have b7:=G ad;clear r0 N ac aa ad h8;go_wp2_with fail;refine bodyPost_ret (v:=ZM #[Aq x,errv sa 0]) (by simp[Aq,errv,results,results152,go_sem,A,z1,z2,D,O2,O1]) rfl ?_;rw[Q.out];have P:=Ka (wc.setCell ⟨rg,1,O⟩ (F (U ⟨g,lo*4,O⟩) (L.length+1-lo) (q-lo))) w.heap.size (I J x.seq) (I J x.ent) (I J x.kind) (I J x.tick);have k7:=Af wc rg 1 (F (U ⟨g,lo*4,O⟩) (L.length+1-lo) (q-lo));have kb:Ac (fun b=>b=c\/b=rb\/b=rg\/w.heap.size<=b) s wc:=(Ac.of_below ab.out).mono (fun b _ a=>by omega);have i:=((ay.trans kb).trans (k7.mono (fun b _ a=>.inr (.inr (.inl a))))).trans (P.mono (T:=fun b=>b=c\/b=rb\/b=rg\/w.heap.size<=b) (fun b _ a=>.inr (.inr (.inr (by omega)))));refine⟨rfl,_,d.fin2 i (P.get aq hne) ?_ (L':=((L++ [x]).drop lo)) ?_,i,.inr (fun b a=>by obtain rfl:=Option.some.inj a;exact⟨No (Zyi bq) q2,F5 (ho.lt _ rfl).2 (No k7.size P.size)⟩)⟩
    ·exact((H6.mem.keep k7 (fun b a=>by subst a;exact d.lay.2.2.2.2)).keep P (fun b a=>by omega))
    ·exact((ar.keep k7 (fun b a h=>by omega)).keep P (fun b a h=>by omega)).mono (fun b a=>by omega)
  ·obtain⟨j,hj⟩:∃j,pe=j+1:=⟨pe-1,by omega⟩
   rw[if_neg ae,hj]at Q;rw[hj,Py];clear ae hj;have bm:(s.setCell ⟨rg,2,O⟩ (.bool true)).heap[rg]? =U (Io c lv true):=by
    have:=H4.ring.box;unfold Io at this ⊢;rw[Ah _ this];rfl
   have k5:=Af s rg 2 (.bool true);have bz:=G bm;have K5:=G k5;clear bm k5;go_wp2_with fail;refine bodyPost_ret (v:=ZM #[Aq ⟨0,0,0,0⟩,errv sa (j+1)]) (by simp[Aq,errv,results,results152,go_sem,A,z1,z2,D,O2,O1]) rfl ?_;rw[Q.out];have P:=Ka (s.setCell ⟨rg,2,O⟩ (.bool true)) w.heap.size (I J 0) (I J 0) (I J 0) (I J 0);have i:=(ay.trans (K5.mono (fun b _ a=>.inr (.inr (.inl a))))).trans (P.mono (T:=fun b=>b=c\/b=rb\/b=rg\/w.heap.size<=b) (fun b _ a=>.inr (.inr (.inr (by omega)))));refine⟨rfl,lv,d.fin i (P.get bz hne) ?_,i,.inl rfl⟩;exact((H4.mem.keep K5 (fun b a=>by subst a;exact d.lay.2.2.2.2)).keep P (fun b a=>by omega))
 ·have HE:ZG (Bu m L false l n tk=(2,⟨0,0,0,0⟩,m,L,false)):=G (by
   unfold Bu;rw[if_neg (by decide),if_pos (by simpa using Y)])
  have a:¬(0<=l/\l<=255/\0<=n/\n<=255/\0<=tk/\tk<281474976710656):=fun h=>Y (On h);clear Y;by_cases b1:l<0
  ·clear a;go_wp2_with fail;go_region;all_goals
    go_wp2_with fail;refine bodyPost_ret (v:=ZM #[Aq ⟨0,0,0,0⟩,errv sa 2]) (by simp[Aq,errv,results,results152,go_sem,A,z1,z2,D,O2,O1]) rfl ?_;rw[HE.out];exact⟨rfl,lv,d.below (Bd f.out).drew,Ir (Bd f.out).drew,.inl rfl⟩
  by_cases b2:255<l
  ·clear a;go_wp2_with fail;go_region;all_goals
    go_wp2_with fail;refine bodyPost_ret (v:=ZM #[Aq ⟨0,0,0,0⟩,errv sa 2]) (by simp[Aq,errv,results,results152,go_sem,A,z1,z2,D,O2,O1]) rfl ?_;rw[HE.out];exact⟨rfl,lv,d.below (Bd f.out).drew,Ir (Bd f.out).drew,.inl rfl⟩
  by_cases b3:n<0
  ·clear a;go_wp2_with fail;go_region;all_goals
    go_wp2_with fail;refine bodyPost_ret (v:=ZM #[Aq ⟨0,0,0,0⟩,errv sa 2]) (by simp[Aq,errv,results,results152,go_sem,A,z1,z2,D,O2,O1]) rfl ?_;rw[HE.out];exact⟨rfl,lv,d.below (Bd f.out).drew,Ir (Bd f.out).drew,.inl rfl⟩
  by_cases b4:255<n
  ·clear a;go_wp2_with fail;go_region;all_goals
    go_wp2_with fail;refine bodyPost_ret (v:=ZM #[Aq ⟨0,0,0,0⟩,errv sa 2]) (by simp[Aq,errv,results,results152,go_sem,A,z1,z2,D,O2,O1]) rfl ?_;rw[HE.out];exact⟨rfl,lv,d.below (Bd f.out).drew,Ir (Bd f.out).drew,.inl rfl⟩
  by_cases b5:tk<0
  ·clear a;go_wp2_with fail;go_region;all_goals
    go_wp2_with fail;refine bodyPost_ret (v:=ZM #[Aq ⟨0,0,0,0⟩,errv sa 2]) (by simp[Aq,errv,results,results152,go_sem,A,z1,z2,D,O2,O1]) rfl ?_;rw[HE.out];exact⟨rfl,lv,d.below (Bd f.out).drew,Ir (Bd f.out).drew,.inl rfl⟩
  have b6:281474976710656<=tk:=by omega
  clear a;go_wp2_with fail;go_region;all_goals
   go_wp2_with fail;refine bodyPost_ret (v:=ZM #[Aq ⟨0,0,0,0⟩,errv sa 2]) (by simp[Aq,errv,results,results152,go_sem,A,z1,z2,D,O2,O1]) rfl ?_;rw[HE.out];exact⟨rfl,lv,d.below (Bd f.out).drew,Ir (Bd f.out).drew,.inl rfl⟩
def zr:Ap:=⟨0,0,0,0⟩
def sq(l:List Ap)(k:Nat):Nat:=(l.getD k zr).seq
def swp(l:List Ap)(j:Nat):List Ap:=(l.set j (l.getD (j-1) zr)).set (j-1) (l.getD j zr)
theorem Aaw(l:List Ap)(j:Nat):(swp l j).length=l.length:=by simp[swp]
theorem Wa{l:List Ap}{k:Nat}(h:k<l.length):sq l k=l[k].seq:=by
 unfold sq;rw[Of,R4 h];rfl
theorem Ol{l:List Ap}{k:Nat}(h:k<l.length):l.getD k zr=l[k]:=by
 rw[Of,R4 h];rfl
theorem Ah1{l:List Ap}{j:Nat}(h0:0<j)(h:j<l.length):(swp l j).Perm l:=by
 unfold swp;rw[Ol h,Ol (show j-1<l.length by omega)];exact List.set_set_perm h (by omega)
theorem rC{l:List Ap}{j:Nat}(h0:0<j)(h:j<l.length)(k:Nat):sq (swp l j) k=if k=j then sq l (j-1) else if k=j-1 then sq l j else sq l k:=by
 unfold sq swp;simp only[Of,Zxn,Zyz];by_cases a:k=j
 ·subst a;rw[if_neg (by omega),if_pos rfl,if_pos h];simp
 ·by_cases d:k=j-1
  ·subst d;rw[if_pos rfl,if_pos (by omega),if_neg (by omega),if_pos rfl];simp
  ·rw[if_neg (fun h=>d h.symm),if_neg (fun h=>a h.symm),if_neg a,if_neg d]
structure Aeg (l:List Ap) (i j:Nat):Prop where
 pre:∀a b,a<b->b<=i->a≠j->b≠j->sq l a<=sq l b
 up:∀b,j<b->b<=i->sq l j<=sq l b
def Ku(l:List Ap)(i:Nat):Prop:=∀a b,a<b->b<i->sq l a<=sq l b
theorem Acw{l:List Ap}{i:Nat}(h:Ku l i):Aeg l i i:=⟨fun a b hab hb ha hbi=>h a b hab (by omega),fun b h1 h2=>by omega⟩
theorem xV{l:List Ap}{i j:Nat}(h:Aeg l i j)(o:j<=i)(h0:j=0\/sq l (j-1)<=sq l j):Ku l (i+1):=by
 intro a b d n;by_cases e:a=j
 ·subst e;exact h.up b d (by omega)
 ·by_cases f:b=j
  ·subst f;rcases h0 with h0|h0
   ·omega
   ·by_cases g:a=b-1
    ·subst g;exact h0
    ·exact No (h.pre a (b-1) (by omega) (by omega) e (by omega)) h0
  ·exact h.pre a b d (by omega) e f
theorem Agw{l:List Ap}{i j:Nat}(h:Aeg l i j)(h0:0<j)(s:j<=i)(g:j<l.length)(q:sq l j<sq l (j-1)):Aeg (swp l j) i (j-1):=by
 constructor
 ·intro a b n o p e;rw[rC h0 g,rC h0 g];by_cases f:a=j
  ·subst f;rw[if_pos rfl,if_neg (by omega),if_neg e];exact h.pre _ _ (by omega) o (by omega) (by omega)
  ·rw[if_neg f,if_neg p];by_cases d:b=j
   ·subst d;rw[if_pos rfl];exact h.pre _ _ (by omega) (by omega) f (by omega)
   ·rw[if_neg d,if_neg e];exact h.pre _ _ n o f d
 ·intro b h1 h2;rw[rC h0 g,rC h0 g,if_neg (by omega),if_pos rfl];by_cases d:b=j
  ·subst d;rw[if_pos rfl];omega
  ·rw[if_neg d,if_neg (by omega)];exact h.up b (by omega) h2
def O4(w:V)(g:Nat)(l:List Ap):Prop:=∃C t,w.heap[g]? =U (.cells C t (0,0))/\l.length*4<=C.size/\∀k (hk:k<l.length),C[k*4]? =U (I J l[k].seq)/\C[k*4+1]? =U (I J l[k].ent)/\C[k*4+2]? =U (I J l[k].kind)/\C[k*4+3]? =U (I J l[k].tick)
theorem O4.cells{w:V}{g:Nat}{l:List Ap}(h:O4 w g l)(k:Nat)(a:k<l.length):
  w.cell? ⟨g,k*4,O⟩=U (I J (l.getD k zr).seq)/\w.cell? ⟨g,k*4+1,O⟩=U (I J (l.getD k zr).ent)/\w.cell? ⟨g,k*4+2,O⟩=U (I J (l.getD k zr).kind)/\w.cell? ⟨g,k*4+3,O⟩=U (I J (l.getD k zr).tick):=by
 obtain⟨C,t,h1,h2,h3⟩:=h;obtain⟨d,e,f,i⟩:=h3 k a;rw[Ol a];simp[World.cell?,h1,d,e,f,i]
theorem O4.free{w:V}{g:Nat}{l:List Ap}(h:O4 w g l)(o:Nat):w.frozen? ⟨g,o,O⟩=false:=by
 obtain⟨C,t,h1,h2,h3⟩:=h;simp[World.frozen?,h1]
theorem O4.set4{w:V}{g:Nat}{l:List Ap}(h:O4 w g l)(j:Nat)(D:j<l.length)(r:Ap):
  O4 ((((w.setCell ⟨g,j*4,O⟩ (I J r.seq)).setCell ⟨g,j*4+1,O⟩ (I J r.ent)).setCell ⟨g,j*4+2,O⟩ (I J r.kind)).setCell ⟨g,j*4+3,O⟩ (I J r.tick)) g (l.set j r):=by
 obtain⟨C,t,h1,h2,h3⟩:=h;refine⟨_,t,Ah _ (Ah _ (Ah _ (Ah _ h1))),by simpa using h2,fun k d=>?_⟩;simp only[Zyz]at d;obtain⟨q,s,u,v⟩:=h3 k d;by_cases e:k=j
 ·subst e;have s0:k*4<C.size:=by omega
  have s1:k*4+1<C.size:=by omega
  have s2:k*4+2<C.size:=by omega
  have y:k*4+3<C.size:=by omega
  simp[s0,s1,s2,y]
 ·have n:∀a b:Nat,a<4->b<4->¬j*4+a=k*4+b:=by omega
  have f:=fun b o=>n 0 b (by omega) o;simp only[Zzw]at f;have p:∀a:Nat,a<4->¬j*4+a=k*4:=fun a i=>by have:=n a 0 i (by omega);omega
  have A:¬j*4=k*4:=by omega
  rw[List.getElem_set_ne (fun h=>e h.symm)];simp[n,f,p,A,q,s,u,v]
theorem Aeb(a b:Ap)(g:a.seq<4294967296)(i:b.seq<4294967296)(w:V):ZH ZI 186 #[Aq a,Aq b] w fun e w'=>e=ZD (I J ((a.seq:Int)-b.seq))/\ZF w.heap.size w w':=by
 have d:(a.seq:Int)<4294967296:=by omega
 have f:(b.seq:Int)<4294967296:=by omega
 unfold Aq;go_enter func186,ntmps186;go_wp2_with fail;go_ret;exact⟨rfl,((R1 _ _).alloc (Y2 _) _).alloc (by simp) _⟩
def Vy:ZE:=.func (.func 186) #[] #[]
structure Kx (g:Nat) (l0 l:List Ap) (w0 w:V):Prop where
 perm:l.Perm l0
 row:O4 w g l
 kp:Ac (· =g) w0 w
theorem Kx.len{g:Nat}{l0 l:List Ap}{w0 w:V}(h:Kx g l0 l w0 w):l.length=l0.length:=h.perm.length_eq
theorem Kx.below{g:Nat}{l0 l:List Ap}{w0 w w':V}(h:Kx g l0 l w0 w)(b:ZF w.heap.size w w'):Kx g l0 l w0 w':=by
 obtain⟨C,t,h1,h2,h3⟩:=h.row;exact⟨h.perm,⟨C,t,Ae b h1 (Aa h1),h2,h3⟩,h.kp.trans ((Al b).mono (fun _ _ h=>h.elim))⟩
theorem Yv(w:V)(g o:Nat)(a b c d:ZE):Ac (· =g) w ((((w.setCell ⟨g,o,O⟩ a).setCell ⟨g,o+1,O⟩ b).setCell ⟨g,o+2,O⟩ c).setCell ⟨g,o+3,O⟩ d):=
 ((Fo (Fo (Af w g o a) (o+1) b) (o+2) c)).trans (Af _ g (o+3) d)
theorem Kx.drewN{g:Nat}{l0 l:List Ap}{w0 w:V}(h:Kx g l0 l w0 w)(n:Nat):Kx g l0 l w0 (w.drewN n):=⟨h.perm,h.row,Ck n h.kp⟩
theorem Kx.drew{g:Nat}{l0 l:List Ap}{w0 w:V}(h:Kx g l0 l w0 w):Kx g l0 l w0 w.drew:=⟨h.perm,h.row,h.kp.drew⟩
theorem Agv{g:Nat}{l0 l:List Ap}{w0 wc:V}{a:Nat}{e d:Ap}(h:Kx g l0 l w0 wc)(f:a+1<l.length)(n:e=l.getD (a+1) zr)(o:d=l.getD a zr):
  Kx g l0 (swp l (a+1)) w0 ((((((((wc.setCell ⟨g,(a+1)*4,O⟩ (I J d.seq)).setCell ⟨g,(a+1)*4+1,O⟩ (I J d.ent)).setCell ⟨g,(a+1)*4+2,O⟩ (I J d.kind)).setCell ⟨g,(a+1)*4+3,O⟩ (I J d.tick)).setCell ⟨g,a*4,O⟩ (I J e.seq)).setCell ⟨g,a*4+1,O⟩ (I J e.ent)).setCell ⟨g,a*4+2,O⟩ (I J e.kind)).setCell ⟨g,a*4+3,O⟩ (I J e.tick)).drew:=by
 have s:=h.row.set4 (a+1) f d;have i:=s.set4 a (by rw[Zyz];omega) e;have es:(l.set (a+1) d).set a e=swp l (a+1):=by rw[n,o];rfl
 rw[es]at i;have k1:=Yv wc g ((a+1)*4) (I J d.seq) (I J d.ent) (I J d.kind) (I J d.tick);have q:=Yv ((((wc.setCell ⟨g,(a+1)*4,O⟩ (I J d.seq)).setCell ⟨g,(a+1)*4+1,O⟩ (I J d.ent)).setCell ⟨g,(a+1)*4+2,O⟩ (I J d.kind)).setCell ⟨g,(a+1)*4+3,O⟩ (I J d.tick)) g (a*4) (I J e.seq) (I J e.ent) (I J e.kind) (I J e.tick);have p:=(Ah1 (l:=l) (j:=a+1) (Nat.succ_pos a) f).trans h.perm;exact Kx.drew ⟨p,i,(h.kp.trans k1).trans q⟩
theorem Acv{l:List Ap}{i a:Nat}{e d:Ap}(h:Aeg l i (a+1))(j:a+1<=i)(n:a+1<l.length)(f:e=l.getD (a+1) zr)(g:d=l.getD a zr)(o:(e.seq:Int)-d.seq<0):Aeg (swp l (a+1)) i a:=by
 have:=Agw h (Nat.succ_pos a) j n (by
  show sq l (a+1)<sq l a
  unfold sq;rw[<-f,<-g];omega)
 exact this
theorem xU(w:V)(g cap:Nat)(l0:List Ap)(hr:O4 w g l0)(hs:∀r∈l0,r.seq<4294967296)(hn:l0.length<=100):
  ZH ZI 263 #[F (U ⟨g,0,O⟩) l0.length cap,I J 0,I J l0.length,Vy] w fun e w'=>e=ZD (ZM #[])/\∃l,Ku l l0.length/\Kx g l0 l w w':=by
 have eg:∀args w,(callFunc 186 args).run ZI w=.ok (.enter 186 args) w:=enters_of func186 (by kernel_rfl) rfl;have HS:=G hs;have H0:ZG (Kx g l0 l0 w w):=G (⟨List.Perm.refl _,hr,Ac.refl _ _⟩);clear hs hr;unfold Vy;go_enter func263,ntmps263;go_wp2_with fail;go_loopw [8] (fun s8 wr=>∃(i:Nat) (l:List Ap),1<=i/\i<=l0.length+1/\s8=I J i/\ZG (Kx g l0 l w wr)/\ZG (Ku l i)/\ZG (l.length=l0.length)) (fun s8 _=>l0.length+1-(intOf s8).toNat);case atStart=>exact⟨1,l0,Y2 _,by omega,rfl,H0,fun a b h1 h2=>by omega,rfl⟩
 case round=>
  obtain⟨i,l,a3,a4,rfl,u,s,f⟩:=hrel;clear H0;by_cases a5:i<l0.length
  ·go_wp2_with fail;go_loopw [9] (fun s9 wm=>∃(j:Nat) (l:List Ap),j<=i/\s9=I J j/\ZG (Kx g l0 l w wm)/\ZG (Aeg l i j)/\ZG (l.length=l0.length)) (fun s9 _=>(intOf s9).toNat);case atStart=>exact⟨i,l,Y2 _,rfl,u,Acw s.out,f⟩
   case round=>
    obtain⟨j,l,hj,rfl,u,hJ,f⟩:=hrel;by_cases h0:j=0
    ·have R:decide ((0:Int)<(j:Int))=false:=N1 (by omega);have a1:decide (0<j)=false:=N1 (by omega);have s:=G (xV hJ hj (.inl h0));clear h0;go_wp2_with fail;go_quiet (fail);have ag:=G (u.drewN nq);go_wp2_with fail;go_roundw;case rel=>exact⟨i+1,l,by omega,by omega,by go_num,ag,s,f⟩
     case measure=>simp[intOf];omega
    ·obtain⟨d,rfl⟩:∃d,j=d+1:=⟨j-1,by omega⟩
     have D:d+1<l.length:=by have:=f.out;omega
     obtain⟨q0,q1,q2,q3⟩:=u.row.cells (d+1) D;obtain⟨T,X,Y,Z⟩:=u.row.cells d (by omega);have N:(l.getD (d+1) zr).seq<4294967296:=by rw[Ol D];exact HS _ (u.perm.subset (M2 _))
     have M:(l.getD d zr).seq<4294967296:=by rw[Ol (show d<l.length by omega)];exact HS _ (u.perm.subset (M2 _))
     obtain⟨H,Q⟩:∃r,r=l.getD (d+1) zr:=⟨_,rfl⟩
     obtain⟨E,P⟩:∃r,r=l.getD d zr:=⟨_,rfl⟩
     rw[<-Q]at q0 q1 q2 q3 N;rw[<-P]at T X Y Z M;have A:=G Q;have y:=G P;have v:=G D;have qf:=u.row.free;have az:d+1<l0.length:=by omega
     have a0:d<l0.length:=by omega
     have ax:(d:Int)+1<(l0.length:Int):=by omega
     have ay:(d:Int)<(l0.length:Int):=by omega
     have a6:IntKind.i64.wrap (d:Int)=(d:Int):=Zz0 _ (by omega);have a7:IntKind.i64.wrap ((H.seq:Int)-E.seq)=(H.seq:Int)-E.seq:=Zz0 _ (by omega);have HC:ZG (∀W,Kx g l0 l w W->ZH ZI 186 #[Aq H,Aq E] W fun e w'=>e=ZD (I J ((H.seq:Int)-E.seq))/\Kx g l0 l w w'/\∀o,w'.cell? ⟨g,o,O⟩=W.cell? ⟨g,o,O⟩):=G (by
      intro W hW;refine(Aeb _ _ N M W).mono ?_;rintro e w' ⟨rfl,b⟩;obtain⟨C,t,hg,_⟩:=hW.row;exact⟨rfl,hW.below b,fun o=>b.cell (p:=⟨g,o,O⟩) (Aa hg)⟩)
     clear Q P D N M;unfold Aq at HC;go_wp2_with fail;go_cut [34] (fun ak wx=>ak=.bool (decide ((H.seq:Int)-E.seq<0))/\Kx g l0 l w wx);case first=>
      go_region_held (fun w'=>∀o,w'.cell? ⟨g,o,O⟩=wr.cell? ⟨g,o,O⟩)
       (first|exact fun _=>rfl|exact fun o=>c2 o)
       (first|(go_at_call 186;refine(HC _ ?_).mono ?_;(repeat(first|exact u.out|refine Kx.drew ?_));rintro e w2 ⟨rfl,k2,c2⟩))
      all_goals(go_wp2_with fail;go_meet)
      all_goals exact⟨rfl,by repeat(first|exact k2|refine Kx.drew ?_)⟩
     case rest=>
     obtain⟨rfl,q⟩:=hcut;clear q0 q1 q2 q3 T X Y Z qf HC;by_cases n:(H.seq:Int)-E.seq<0
     ·have R:decide ((H.seq:Int)-E.seq<0)=true:=On n;rw[R];obtain⟨q0,q1,q2,q3⟩:=q.row.cells (d+1) v.out;obtain⟨T,X,Y,Z⟩:=q.row.cells d (by have:=v.out;omega);rw[<-A.out]at q0 q1 q2 q3;rw[<-y.out]at T X Y Z;have qf:=q.row.free;have K:=G q;have af:=G n;clear q n R;go_wp2_with fail;go_region;have nI:=G (Agv K v A y.out);have nJ:=G (Acv hJ hj v A y af.out);have nL:ZG ((swp l (d+1)).length=l0.length):=G (by rw[Aaw];exact f.out);clear q0 q1 q2 q3 T X Y Z qf;go_wp2_with fail;go_roundw;case rel=>exact⟨d,swp l (d+1),by omega,by go_num,nI,nJ,nL⟩
      case measure=>simp[intOf]
     ·have R:decide ((H.seq:Int)-E.seq<0)=false:=N1 n;rw[R];have s:=G (xV hJ hj (.inr (by
       have e1:=A.out;have e2:=y.out;show sq l d<=sq l (d+1)
       unfold sq;rw[<-e1,<-e2];omega)))
      have K:=G q;clear q n;go_wp2_with fail;go_roundw;case rel=>exact⟨i+1,l,by omega,by omega,by go_num,K,s,f⟩
      case measure=>simp[intOf];omega
  ·have S:ZG (Ku l l0.length):=G (fun a b h1 h2=>s a b h1 (by omega));go_wp2_with fail;go_end0;exact⟨rfl,l,S.out,u.out⟩
