import Derived.Test.YtikehilbmldadaaGreatDoorP24
set_option maxHeartbeats 8000000
set_option maxRecDepth 100000
set_option linter.unusedVariables false
namespace Go.Proofs.YtikehilbmldadaaGreatDoor
open Proofs.Tryz YtikehilbmldadaaGreatDoor.Tryz RowKit
open Go renaming World->V,Value->ZE,RowKit.Below->ZF,RowKit.Hid->ZG,Calls->ZH,Value.int->I,IntKind.i64->J,Value.slice->F,Value.pointer->ZA,Value.string->ZB,Ending.returned->ZD,Value.tuple->ZM,Proofs.Tryz.prog->ZI
open Option renaming some->U,none->O
theorem Ang(r:Nat)(m:CM)(a:Nat)(l:List UInt8)(w:V)(h:RC w r m)(k:Int)(f:J3 m k)(d:k<=1000000000)(g:m.off=false)(i:a+l.length<=m.bs.length):
  ZH ZI 220 #[ZA (U ⟨r,0,O⟩),I J a,ZB (Aw l)] w fun e w'=>e=ZD (I J (Bb m.cut l.length:Nat))/\RC w' r (Be m a l)/\Ac (· =r) w w':=by
 have h0:Fm m.off m.bs.length a (Aw l).size=0:=by rw[g];exact Lo (by rw[Bz];omega)
 have:=Aij r m a (Aw l) w h k f d;unfold Ak2 Ak1 at this;rw[if_pos h0,if_pos h0,Bz,Ik]at this;simpa using this
def st1(m:CM)(x:Ap):Nat × CM:=
 if Fm m.off m.bs.length (C9 x+16:Nat) 1=0 then (if m.bs.getD (C9 x+16) 0=0 then (0,m) else (Bb m.cut 1,Be m (C9 x+16) [0])) else (Fm m.off m.bs.length (C9 x+16:Nat) 1,m)
def st2(p:Nat × CM)(x:Ap):Nat × CM:=if p.1=0 then (Bb p.2.cut 16,Be p.2 (C9 x) (A0 x)) else p
def st3(p:Nat × CM)(x:Ap):Nat × CM:=if p.1=0 then (Bb p.2.cut 1,Be p.2 (C9 x+16) [165]) else p
theorem Sz(m:CM)(x:Ap):A4 m x=st3 (st2 (st1 m x) x) x:=by
 unfold A4 A4.put2 st1;by_cases h1:Fm m.off m.bs.length (C9 x+16:Nat) 1=0
 ·rw[if_pos h1,if_pos h1];by_cases h2:m.bs.getD (C9 x+16) 0=0
  ·rw[if_pos h2,if_pos h2];unfold st2;rw[if_pos rfl];by_cases h3:Bb m.cut 16=0
   ·rw[if_pos h3];unfold st3;rw[if_pos h3]
   ·rw[if_neg h3];unfold st3;rw[if_neg h3]
  ·rw[if_neg h2,if_neg h2];by_cases a:Bb m.cut 1=0
   ·rw[if_pos a];unfold st2;rw[if_pos a];by_cases h3:Bb (Be m (C9 x+16) [0]).cut 16=0
    ·rw[if_pos h3];unfold st3;rw[if_pos h3]
    ·rw[if_neg h3];unfold st3;rw[if_neg h3]
   ·rw[if_neg a];unfold st2;rw[if_neg a];unfold st3;rw[if_neg a]
 ·rw[if_neg h1,if_neg h1];unfold st2;rw[if_neg h1];unfold st3;rw[if_neg h1]
structure tV (p:Nat × CM) (n:Nat) (k:Int):Prop where
 off:p.1=0->p.2.off=false
 len:p.2.bs.length=n
 ok:J3 p.2 k
theorem vN{m:CM}{n:Nat}{k:Int}(a:Nat)(l:List UInt8)(e:m.bs.length=n)(d:J3 m k)(f:a+l.length<=n):tV (Bb m.cut l.length,Be m a l) n (k+l.length):=by
 refine⟨fun h=>?_,?_,d.write a l⟩
 ·have:=J4 h;show decide (Bj m.cut l.length<l.length)=false
  rw[this];simp
 ·show(Dy m.bs a l (Bj m.cut l.length)).length=n
  rw[Ei m.bs a l _ (Hx _ _) (by have:=Hx m.cut l.length;omega)];exact e
theorem tV.mono{p:Nat × CM}{n:Nat}{k k':Int}(h:tV p n k)(hk:k<=k'):tV p n k':=⟨h.off,h.len,h.ok.mono hk⟩
theorem Va(x:Ap):C9 x+17<=153:=by unfold C9;omega
theorem Ai3(m:CM)(x:Ap)(h:153<=m.bs.length):Fm m.off m.bs.length (C9 x+16:Nat) 1=if m.off=true then 8 else 0:=by
 have:=Va x;unfold Fm;rw[if_neg (by omega)]
theorem Amr{m:CM}{k:Int}(x:Ap)(h:153<=m.bs.length)(a:J3 m k):tV (st1 m x) m.bs.length (k+1):=by
 have e:=Va x;unfold st1;rw[Ai3 m x h];cases d:m.off with
 |true=>
  rw[show(if true=true then 8 else 0)=8 from rfl,if_neg (by decide)];exact⟨fun h=>(by cases h),rfl,a.mono (by omega)⟩
 |false=>
  rw[show(if false=true then 8 else 0)=0 from rfl,if_pos rfl];split
  ·exact⟨fun _=>d,rfl,a.mono (by omega)⟩
  ·exact vN _ [0] rfl a (by rw[G3];omega)
structure RQ (w0 w:V) (rr r:Nat) (m:CM) (L:List Ap) (lv:ZE) (xb:Nat) (x:Ap) (W:V):Prop where
 rf:Iw w0 rr r m false L lv W
 res:W.heap[w.heap.size]? =U (D7 ⟨0,0,0,0⟩)
 box:W.heap[xb]? =U (D7 x)
 kep:Ac (fun b=>b=r\/w.heap.size<=b) w W
 lo:w.heap.size<xb/\r<w.heap.size/\rr<w.heap.size
 lob:∀b,lv.ownBlock=U b->b<w.heap.size
section
variable {w0 w W W':V} {rr r:Nat} {m m':CM} {L:List Ap} {lv:ZE} {xb:Nat} {x:Ap}
theorem RQ.below(h:RQ w0 w rr r m L lv xb x W)(b:ZF W.heap.size W W'):RQ w0 w rr r m L lv xb x W':=
 ⟨h.rf.below b,Ae b h.res (Aa h.res),Ae b h.box (Aa h.box),h.kep.step (Ac.of_below b) (fun k h1 h2=>by have:=h.kep.size;omega),h.lo,h.lob⟩
theorem RQ.drew(h:RQ w0 w rr r m L lv xb x W):RQ w0 w rr r m L lv xb x W.drew:=h.below ((R1 _ _).drew)
theorem RQ.write(h:RQ w0 w rr r m L lv xb x W)(k:Ac (· =r) W W')(a:RC W' r m'):RQ w0 w rr r m' L lv xb x W':=by
 obtain⟨d,e,f⟩:=h.lo;exact⟨h.rf.write k a,k.get h.res (by omega),k.get h.box (by omega),h.kep.step k (fun b h1 _=>.inl h1),h.lo,h.lob⟩
theorem RQ.cells(h:RQ w0 w rr r m L lv xb x W):W.cell? ⟨rr,0,O⟩=U (ZA (U ⟨r,0,O⟩))/\W.cell? ⟨xb,0,O⟩=U (I J x.seq)/\W.cell? ⟨xb,1,O⟩=U (I J x.ent)/\W.cell? ⟨xb,2,O⟩=U (I J x.kind)/\W.cell? ⟨xb,3,O⟩=U (I J x.tick):=by
 obtain⟨a,d,e,f⟩:=Ay h.box;exact⟨(D6 h.rf.box).1,a,d,e,f⟩
theorem RQ.c0(h:RQ w0 w rr r m L lv xb x W):W.cell? ⟨rr,0,O⟩=U (ZA (U ⟨r,0,O⟩)):=h.cells.1
theorem RQ.seq(h:RQ w0 w rr r m L lv xb x W)(s:Nat):RQ w0 w rr r m L lv xb ⟨s,x.ent,x.kind,x.tick⟩ (W.setCell ⟨xb,0,O⟩ (I J s)):=by
 obtain⟨d,e,f⟩:=h.lo;have k:=Af W xb 0 (I J s);have a:=h.box;unfold D7 at a;refine⟨h.rf.keep k (by omega) (by omega) (fun b a=>by have:=h.lob b a;omega),k.get h.res (by omega),?_,h.kep.step k (fun b h1 _=>.inr (by omega)),h.lo,h.lob⟩;rw[Ah _ a];rfl
theorem RQ.end0(h:RQ w0 w rr r m L lv xb x W)(a b c d:ZE):Iw w0 rr r m false L lv ((((W.setCell ⟨w.heap.size,0,O⟩ a).setCell ⟨w.heap.size,1,O⟩ b).setCell ⟨w.heap.size,2,O⟩ c).setCell ⟨w.heap.size,3,O⟩ d)/\
  V2 rr r lv lv w ((((W.setCell ⟨w.heap.size,0,O⟩ a).setCell ⟨w.heap.size,1,O⟩ b).setCell ⟨w.heap.size,2,O⟩ c).setCell ⟨w.heap.size,3,O⟩ d):=by
 obtain⟨g,i,j⟩:=h.lo;have k:=Ka W w.heap.size a b c d;exact⟨h.rf.keep k (by omega) (by omega) (fun b f=>by have:=h.lob b f;omega),⟨(h.kep.step k (fun b h1 _=>.inr (by omega))).mono (fun b _ f=>by rcases f with e|e;exact .inr (.inl e);exact .inr (.inr (.inr e))),.inl rfl⟩⟩
theorem RQ.dead(h:RQ w0 w rr r m L lv xb x W)(a b c d:ZE):Iw w0 rr r m true L lv (((((W.setCell ⟨rr,2,O⟩ (.bool true)).setCell ⟨w.heap.size,0,O⟩ a).setCell ⟨w.heap.size,1,O⟩ b).setCell ⟨w.heap.size,2,O⟩ c).setCell ⟨w.heap.size,3,O⟩ d)/\
  V2 rr r lv lv w (((((W.setCell ⟨rr,2,O⟩ (.bool true)).setCell ⟨w.heap.size,0,O⟩ a).setCell ⟨w.heap.size,1,O⟩ b).setCell ⟨w.heap.size,2,O⟩ c).setCell ⟨w.heap.size,3,O⟩ d):=by
 obtain⟨i,j,l⟩:=h.lo;have k1:=Af W rr 2 (.bool true);have f:=h.rf.box;unfold Im at f;have h1:Iw w0 rr r m true L lv (W.setCell ⟨rr,2,O⟩ (.bool true)):=h.rf.set k1 (by rw[Ah _ f];rfl);have k:=Ka (W.setCell ⟨rr,2,O⟩ (.bool true)) w.heap.size a b c d;refine⟨h1.keep k (by omega) (by omega) (fun b f=>by have:=h.lob b f;omega),⟨?_,.inl rfl⟩⟩;have g:Ac (fun b=>b=rr\/b=r\/lv.ownBlock=U b\/w.heap.size<=b) w W:=h.kep.mono (fun b _ f=>by rcases f with e|e;exact .inr (.inl e);exact .inr (.inr (.inr e)));exact(g.step k1 (fun b h1 _=>.inl h1)).step k (fun b h1 _=>.inr (.inr (.inr (by omega))))
structure RQ2 (w0 w:V) (rr r:Nat) (m:CM) (lv:ZE) (xb:Nat) (x:Ap) (W:V):Prop where
 box:W.heap[rr]? =U (Im r lv false)
 mem:RC W r m
 res:W.heap[w.heap.size]? =U (D7 ⟨0,0,0,0⟩)
 xbox:W.heap[xb]? =U (D7 x)
 kep:Ac (fun b=>b=rr\/b=r\/lv.ownBlock=U b\/w.heap.size<=b) w W
 ne:rr≠r
 lo0:w0.heap.size<=rr/\w0.heap.size<=r
 lo:w.heap.size<xb/\r<w.heap.size/\rr<w.heap.size
theorem RQ.app{W1 a:V}(h:RQ w0 w rr r m L lv xb x W)(b:ZF W.heap.size W W1)(g:W1.grownBy a lv.ownBlock):RQ2 w0 w rr r m lv xb x a:=by
 obtain⟨i,j,l⟩:=h.lo;have h1:=h.below b;have k:=Ac.of_grown g;refine⟨k.get h1.rf.box (fun e=>(h.rf.off _ e.symm).1 rfl),h1.rf.mem.keep k (fun e=>(h.rf.off _ e.symm).2 rfl),k.get h1.res (fun e=>by have:=h.lob _ e.symm;omega),k.get h1.box (fun e=>by have:=h.lob _ e.symm;omega),?_,h.rf.ne,h.rf.lo,h.lo⟩;have d:Ac (fun b=>b=rr\/b=r\/lv.ownBlock=U b\/w.heap.size<=b) w W1:=h1.kep.mono (fun b _ f=>by rcases f with e|e;exact .inr (.inl e);exact .inr (.inr (.inr e)));exact d.step k (fun b h1 _=>.inr (.inr (.inl h1.symm)))
theorem RQ.cells1(h:RQ w0 w rr r m L lv xb x W):W.cell? ⟨rr,1,O⟩=U lv/\W.cell? ⟨xb,0,O⟩=U (I J x.seq)/\W.cell? ⟨xb,1,O⟩=U (I J x.ent)/\W.cell? ⟨xb,2,O⟩=U (I J x.kind)/\W.cell? ⟨xb,3,O⟩=U (I J x.tick):=
 ⟨(D6 h.rf.box).2.1,h.cells.2⟩
theorem RQ.app2{W1 d:V}{lv':ZE}{n:Nat}{j:List ZE}(h:RQ w0 w rr r m L lv xb x W)(b:ZF W.heap.size W W1)(i:Ax d w0.heap.size 147 4 lv' n j)(g:W1.grownBy d lv.ownBlock)(f:lv'.ownBlock=lv.ownBlock\/∀k,lv'.ownBlock=U k->W1.heap.size<=k):
  RQ2 w0 w rr r m lv xb x d/\(lv'.ownBlock=lv.ownBlock\/Z0 w d lv')/\∀k,lv'.ownBlock=U k->k≠w.heap.size:=by
 have l:=b.size;have o:=Aa h.res;refine⟨h.app b g,?_,fun k a=>?_⟩
 ·rcases f with e|e
  ·exact .inl e
  ·exact .inr (fun k a=>⟨by have:=e k a;omega,(i.lt k a).2⟩)
 ·rcases f with e|e
  ·rw[e]at a;have:=h.lob k a;omega
  ·have:=e k a;omega
theorem RQ2.cells1(h:RQ2 w0 w rr r m lv xb x W):W.cell? ⟨rr,1,O⟩=U lv/\W.cell? ⟨xb,0,O⟩=U (I J x.seq)/\W.cell? ⟨xb,1,O⟩=U (I J x.ent)/\W.cell? ⟨xb,2,O⟩=U (I J x.kind)/\W.cell? ⟨xb,3,O⟩=U (I J x.tick):=
 ⟨(D6 h.box).2.1,Ay h.xbox⟩
theorem Ax.pos{w:V}{a:Nat}{e:TypeId}{size n cap:Nat}{ao:Option Addr}{l:List ZE}(h:Ax w a e size (F ao n cap) n l)(o:0<n):∃g off,ao=U ⟨g,off,O⟩/\n<=cap:=by
 rcases h.2 with⟨_,h⟩|⟨g,off,d,f,j,_,_,i,_⟩
 ·omega
 ·obtain⟨rfl,_,rfl⟩:=Value.slice.inj j;exact⟨g,off,rfl,i⟩
theorem Tu(w:V)(g off N cap lo:Nat)(h1:lo<cap)(h2:lo<=N):
  (Instr.slice 68 (F (U ⟨g,off,O⟩) N cap) (U (I J lo)) O O).run ZI w=.ok (F (U ⟨g,off+lo*4,O⟩) (N-lo) (cap-lo)) w:=by
 have d:ZI.underlying 68=U (.slice (ZI.elem 68)):=by kernel_rfl
 have a:((sizeOf (ZI.elem 68)).run ZI w)=.ok 4 w:=by kernel_rfl
 rw[run_slice_l w 68 (U ⟨g,off,O⟩) N cap d J lo (by omega) (by omega),a];show Result.ok (sliced _ _ _ _ _) w=_
 unfold sliced;rw[show((lo:Int)).toNat=lo from by omega,if_neg (by omega)];show Result.ok (Value.slice (U (Addr.add ⟨g,off,O⟩ (lo*4))) _ _) w=_
 rw[Dt]
theorem RQ2.fin{lv':ZE}{L':List Ap}(h:RQ2 w0 w rr r m lv xb x W)(o:Ax W w0.heap.size 147 4 lv' L'.length (L'.flatMap Ao))(n:lv'.ownBlock=lv.ownBlock\/Z0 w W lv')(j:∀b,lv.ownBlock=U b->b≠rr/\b≠r/\b<w.heap.size)(l:∀b,lv'.ownBlock=U b->b≠w.heap.size)(a b c d:ZE):
  Iw w0 rr r m false L' lv' (((((W.setCell ⟨rr,1,O⟩ lv').setCell ⟨w.heap.size,0,O⟩ a).setCell ⟨w.heap.size,1,O⟩ b).setCell ⟨w.heap.size,2,O⟩ c).setCell ⟨w.heap.size,3,O⟩ d)/\
  V2 rr r lv lv' w (((((W.setCell ⟨rr,1,O⟩ lv').setCell ⟨w.heap.size,0,O⟩ a).setCell ⟨w.heap.size,1,O⟩ b).setCell ⟨w.heap.size,2,O⟩ c).setCell ⟨w.heap.size,3,O⟩ d):=by
 obtain⟨p,q,s⟩:=h.lo;have g:∀b,lv'.ownBlock=U b->b≠rr/\b≠r:=fun b f=>by
  rcases n with e|e
  ·rw[e]at f;exact⟨(j b f).1,(j b f).2.1⟩
  ·have:=(e b f).1;omega
 have k1:=Af W rr 1 lv';have i:=h.box;unfold Im at i;have h1:Iw w0 rr r m false L' lv' (W.setCell ⟨rr,1,O⟩ lv'):=⟨by rw[Ah _ i];rfl,h.mem.keep k1 (fun e=>h.ne e.symm),o.keep k1 (fun b f=>(g b f).1),h.ne,g,h.lo0⟩
 have k:=Ka (W.setCell ⟨rr,1,O⟩ lv') w.heap.size a b c d;refine⟨h1.keep k (by omega) (by omega) (fun b f=>l b f),⟨(h.kep.step k1 (fun b h1 _=>.inl h1)).step k (fun b h1 _=>.inr (.inr (.inr (by omega)))),?_⟩⟩;rcases n with e|e
 ·exact .inl e
 ·exact .inr (fun b f=>⟨(e b f).1,F5 (e b f).2 (No k1.size k.size)⟩)
end
theorem wO(w0:V)(rr r:Nat)(m:CM)(dead:Bool)(L:List Ap)(lv:ZE)(H M tk:Int)(kk:Int)(w:V)(h:Iw w0 rr r m dead L lv w)(di:w0.heap.size<=w.heap.size)(hk:J3 m kk)(ad:kk<=900000000)(hl:153<=m.bs.length)(hL:L.length<=8)(hS:(Gd L).seq<4294967296):
  ZH ZI 174 #[ZA (U ⟨rr,0,O⟩),I J H,I J M,I J tk] w fun e w'=>e=ZD (ZM #[Aq (Bu m L dead H M tk).2.1,I J ((Bu m L dead H M tk).1:Nat)])/\
   ∃lv',Iw w0 rr r (Bu m L dead H M tk).2.2.1 (Bu m L dead H M tk).2.2.2.2 (Bu m L dead H M tk).2.2.2.1 lv' w'/\V2 rr r lv lv' w w':=by
 obtain⟨f,d,rfl⟩:=h.own.val;have ba:ZF w.heap.size w (w.alloc (D7 ⟨0,0,0,0⟩)):=(R1 _ _).alloc (Y2 _) _;have na:=Ab w (D7 ⟨0,0,0,0⟩);have Y:=G h;have au:=G (h.below ba);have HN:=G na;have i:=G ba;have cc:=G di;clear h ba na di;unfold D7 at au HN i;go_enter func174,ntmps174;go_upto_region 1 with fail;generalize w.alloc _=w1 at au HN i ⊢;obtain⟨r0,r1,r2,rf⟩:=D6 au.box;obtain⟨z0,z1,z2,z3⟩:=Ay HN.out;have zf:∀o,w1.frozen? ⟨w.heap.size,o,O⟩=false:=fun o=>Eu HN.out;cases dead with
 |true=>
  have HE:ZG (Bu m L true H M tk=(8,⟨0,0,0,0⟩,m,L,true)):=(rfl:Bu m L true H M tk=(8,⟨0,0,0,0⟩,m,L,true))
  go_wp2_with fail;refine bodyPost_ret (v:=ZM #[Aq ⟨0,0,0,0⟩,I J 8]) (by simp[Aq,results,results174,go_sem,z0,z1,z2,z3,O2,O1]) rfl ?_;rw[HE.out];exact⟨rfl,_,Y.below (Bd i.out),⟨(Ac.of_below (Bd i.out)).mono (fun b _ B=>.inr (.inr (.inr B))),.inl rfl⟩⟩
 |false=>
 by_cases al:Aew H M tk=true
 ·have B:0<=H/\H<=255/\0<=M/\M<=255/\0<=tk/\tk<281474976710656:=Zyq al;have bh:Bu m L false H M tk=if 4294967296<=(Gd L).seq+1 then (7,⟨0,0,0,0⟩,m,L,false)
   else if (A4 m (Gx L H M tk)).1=0 then (0,Gx L H M tk,(A4 m (Gx L H M tk)).2,(L++ [Gx L H M tk]).drop (L.length+1-8),false) else ((A4 m (Gx L H M tk)).1,⟨0,0,0,0⟩,(A4 m (Gx L H M tk)).2,L,true):=by
   unfold Bu;rw[if_neg (by decide),al,if_neg (by decide)]
  obtain⟨b1,b2,b3,b4,b5,b6⟩:=B;clear al;have c4:=G hS;have c1:=G hL;have c6:=G hl;have c5:=G ad;clear hS hL hl ad;go_upto_region 5 with fail;have hS:=c4.out;have hL:=c1.out;have hl:=c6.out;have ad:=c5.out;clear c4 c1 c6 c5 z0 z1 z2 z3 zf r0 r1 r2 rf;obtain⟨E,rfl⟩:∃E:Nat,H=E:=⟨H.toNat,by omega⟩
  obtain⟨K,rfl⟩:∃K:Nat,M=K:=⟨M.toNat,by omega⟩
  obtain⟨T,rfl⟩:∃T:Nat,tk=T:=⟨tk.toNat,by omega⟩
  obtain⟨x,hx⟩:∃x,x=Gx L E K T:=⟨_,rfl⟩
  rw[<-hx]at bh;obtain⟨S,bi⟩:∃S,S=(Gd L).seq:=⟨_,rfl⟩
  have HX:ZG (x=⟨S+1,E,K,T⟩):=G (by rw[hx,bi];rfl);rw[<-bi]at hS bh;have HR:=G bh;have cb:=G bi;have bk:x.seq=S+1:=by rw[HX.out]
  have bj:ZF w1.heap.size w1 (w1.alloc (D7 ⟨1,E,K,T⟩)):=(R1 _ _).alloc (Y2 _) _;have hq:RQ w0 w rr r m L (F f L.length d) w1.heap.size ⟨1,E,K,T⟩ (w1.alloc (D7 ⟨1,E,K,T⟩)):=by
   have ed:=i.out.trans (bj.mono i.size);exact⟨au.below bj,Ae bj HN (Aa HN.out),Ab _ _,(Ac.of_below ed).mono (fun b _ B=>.inr B),⟨Aa HN.out,Y.mem.lt,Aa Y.box⟩,fun b B=>(Y.own.lt b B).2⟩
  have HQ:ZG (RQ w0 w rr r m L (F f L.length d) w1.heap.size ⟨1,E,K,T⟩ (w1.alloc (.cells #[I J 1,I J E,I J K,I J T] 147))):=hq;clear bh hx bi bj hq i HN au;go_upto_region 6 with fail;obtain⟨xb,dj⟩:∃xb,xb=w1.heap.size:=⟨_,rfl⟩
  rw[<-dj]at HQ ⊢;generalize w1.alloc _=w2 at HQ ⊢;clear dj b1 b2 b3 b4 b5 b6;obtain⟨y0,y1,y2,y3,y4⟩:=HQ.cells;obtain⟨r0,r1,r2,rf⟩:=D6 HQ.rf.box;have xf:∀o,w2.frozen? ⟨xb,o,O⟩=false:=fun o=>Eu HQ.box;go_upto_if 52 with fail;go_cut [53] (fun fy wx=>ZG (RQ w0 w rr r m L (F f L.length d) xb x wx));case first=>
   by_cases h0:L.length=0
   ·have hd:¬(0:Int)<(L.length:Int):=by omega
    have d5:ZG (x=⟨1,E,K,T⟩):=G (by rw[HX.out,cb.out,H3 h0];rfl);clear h0;go_wp2_with fail;go_meet;exact(show RQ _ _ _ _ _ _ _ _ x _ from by rw[d5.out];exact HQ.out)
   ·obtain⟨N,hN⟩:∃N,L.length=N+1:=⟨L.length-1,by omega⟩
    obtain⟨lb,lo,rfl,_,ei,hc⟩:=K7 HQ.rf.own.slOf (by omega);have q0:=(hc N (by omega)).1;have a0:(L[N]'(by omega)).seq=S:=by rw[cb.out,xJ hN]
    rw[a0]at q0;have ej:lb<w.heap.size:=HQ.lob lb rfl;have ep:=HQ.lo.1;have fp:¬lb=xb:=by omega
    have fq:¬xb=lb:=by omega
    have fk:(L.length:Int)-1=(N:Int):=by omega
    have fv:IntKind.i64.wrap (N:Int)=(N:Int):=Zz0 _ (by omega);have fl:(0:Int)<=(N:Int):=by omega
    have fm:(N:Int)<(L.length:Int):=by omega
    have hd:(0:Int)<(L.length:Int):=by omega
    have fw:IntKind.i64.wrap ((S:Int)+1)=(S:Int)+1:=Zz0 _ (by omega);have HF:ZG (RQ w0 w rr r m L (F (U ⟨lb,lo,O⟩) L.length d) xb x ((w2.setCell ⟨xb,0,O⟩ (I J ((S:Int)+1))).drew)):=G (by
     have:=(HQ.seq (S+1)).drew;rw[HX.out];exact this)
    clear hc hN h0 a0 ei ej ep bk;go_wp2_with fail;go_region;all_goals(go_wp2_with fail;go_meet)
    all_goals exact HF.out
  case rest=>
  have n:=hcut;clear hcut HQ y0 y1 y2 y3 y4 r0 r1 r2 rf xf;obtain⟨q,hq⟩:∃q,q=x.seq:=⟨_,rfl⟩
  have a0:q=S+1:=by rw[hq,bk]
  by_cases ac:4294967296<=S+1
  ·have ef:(4294967296:Int)<=(q:Int):=by omega
   rw[if_pos ac]at HR;obtain⟨y0,y1,y2,y3,y4⟩:=n.cells;obtain⟨z0,z1,z2,z3⟩:=Ay n.res;have zf:∀o,wc.frozen? ⟨w.heap.size,o,O⟩=false:=fun o=>Eu n.res;rw[<-hq]at y1;clear hq a0 bk ac;go_wp2_with fail;refine bodyPost_ret (v:=ZM #[Aq ⟨0,0,0,0⟩,I J 7]) (by simp[Aq,results,results174,go_sem,z0,z1,z2,z3,O2,O1]) rfl ?_;rw[HR.out];exact⟨rfl,_,n.end0 _ _ _ _⟩
  have ef:decide ((4294967296:Int)<=(q:Int))=false:=N1 (by omega);rw[if_neg ac]at HR;have bb:ZG (∀(j:Nat) (m':CM),A4 m x=(j+1,m')->Bu m L false E K T=(j+1,⟨0,0,0,0⟩,m',L,true)):=(show _ from fun j m' hp=>by rw[HR.out,hp,if_neg (by simp)])
  have d4:ZG (∀m':CM,A4 m x=(0,m')->Bu m L false E K T=(0,x,m',(L++ [x]).drop (L.length+1-8),false)):=(show _ from fun m' hp=>by rw[HR.out,hp,if_pos rfl])
  have dk:qU x:=by rw[HX.out];exact⟨by show S+1<_;omega,by show E<_;omega,by show K<_;omega,by show T<_;omega⟩
  have d6:=G dk;have cf:=Va x;obtain⟨A,hA⟩:∃A,A=C9 x:=⟨_,rfl⟩
  obtain⟨k9,ci⟩:∃k,k=(q-1)%9:=⟨_,rfl⟩
  have ea:A=k9*17:=by rw[hA,ci,hq];rfl
  have bc:=G (Qt q (by omega) (by omega));rw[<-ci]at bc;rw[<-hA]at cf;have HA:=G hA;have fe:=G hq;obtain⟨C,hC⟩:∃C,C=A+16:=⟨_,rfl⟩
  have fh:(k9:Int)*17=(A:Int):=by omega
  have ft:IntKind.i64.wrap (A:Int)=(A:Int):=Zz0 _ (by omega);have fi:(A:Int)+17-1=(C:Int):=by omega
  have fj:(A:Int)+16=(C:Int):=by omega
  have fu:IntKind.i64.wrap (C:Int)=(C:Int):=Zz0 _ (by omega);have em:IntKind.i64.wrap ((A:Int)+17)=(A:Int)+17:=Zz0 _ (by omega);have c8:C<m.bs.length:=by omega
  have p:Fm m.off m.bs.length C 1=if m.off=true then 8 else 0:=by rw[hC,hA];exact Ai3 m x hl
  have HC:=G hC;have a6:=G c8;have HK:=G hk;have b0:=G ad;have b8:=G hl;have b7:=G hL;have cv:=G cf;obtain⟨y0,y1,y2,y3,y4⟩:=n.cells;rw[<-hq]at y1;clear hA ci ea cf hq a0 bk ac hC c8 dk hk ad hl hL HR cb;cases ho:m.off with
  |true=>
   rw[ho,if_pos rfl]at p;have a8:ZG (∀W,RQ w0 w rr r m L (F f L.length d) xb x W->ZH ZI 219 #[ZA (U ⟨r,0,O⟩),I J C,I J 1] W fun e w'=>e=ZD (I J 8)/\W=w'):=(show _ from fun W R=>by
    obtain⟨left,af,a2⟩:=R.rf.mem;have:=K8 r m left af C 1 W a2;rw[ho,p]at this;exact this)
   have HP:ZG (A4 m x=(7+1,m)):=G (by
    unfold A4;rw[<-HA.out,<-HC.out,ho,p,if_neg (by decide)])
   clear p ho;go_wp2_with fail;refine(bc _).mono ?_;rintro e w' ⟨rfl,rfl⟩;go_wp2_with fail;refine(a8 _ n.out).mono ?_;rintro e w' ⟨rfl,rfl⟩;have bm:¬rr=w.heap.size:=by have:=n.lo;omega
   have ai:¬w.heap.size=rr:=by have:=n.lo;omega
   obtain⟨q0,q1,q2,qf⟩:=D6 n.rf.box;obtain⟨z0,z1,z2,z3⟩:=Ay n.res;have zf:∀o,World.frozen? _ ⟨w.heap.size,o,O⟩=false:=fun o=>Eu n.res;go_wp2_with fail;refine bodyPost_ret (v:=ZM #[Aq ⟨0,0,0,0⟩,I J 8]) (by simp[Aq,results,results174,go_sem,z0,z1,z2,z3,O2,O1]) rfl ?_;rw[bb.out 7 _ HP.out];exact⟨rfl,_,n.dead _ _ _ _⟩
  |false=>
  rw[ho,if_neg (by decide)]at p;have a8:ZG (∀W,RQ w0 w rr r m L (F f L.length d) xb x W->ZH ZI 219 #[ZA (U ⟨r,0,O⟩),I J C,I J 1] W fun e w'=>e=ZD (I J 0)/\W=w'):=(show _ from fun W R=>by
   obtain⟨left,af,a2⟩:=R.rf.mem;have:=K8 r m left af C 1 W a2;rw[ho,p]at this;exact this)
  obtain⟨s,hs⟩:∃s,s=Aw m.bs:=⟨_,rfl⟩
  have ec:C<s.size:=by rw[hs,Bz];exact a6.out
  have bq:(C:Int)<(s.size:Int):=by omega
  have cg:s[C]'ec=m.bs.getD C 0:=by
   subst hs;rw[Of,R4 a6.out];rfl
  obtain⟨yb,ck⟩:∃y,y=m.bs.getD C 0:=⟨_,rfl⟩
  rw[<-ck]at cg;have dg:wc.cell? ⟨r,0,O⟩=U (ZB s):=by
   obtain⟨left,af,a2⟩:=n.rf.mem;rw[hs];exact(Hp a2).1
  have bd:ZG (st1 m x=if yb=0 then (0,m) else (Bb m.cut 1,Be m C [0])):=G (by
   unfold st1;rw[<-HA.out,<-HC.out,ho,p,if_pos rfl,ck])
  obtain⟨zb,dl⟩:∃zb,((yb.toNat:Int) != 0)=zb:=⟨_,rfl⟩
  have bg:ZG (zb=false↔yb=0):=G (by
   rw[<-dl];constructor
   ·intro h;have h2:(yb.toNat:Int)=0:=by simpa using h
    apply UInt8.toNat_inj.1;show yb.toNat=0
    omega
   ·intro h;rw[h];rfl)
  have HO:=G ho;clear p hs ck ho;go_wp2_with fail;refine(bc _).mono ?_;rintro e w' ⟨rfl,rfl⟩;go_wp2_with fail;refine(a8 _ n.out).mono ?_;rintro e w' ⟨rfl,rfl⟩;clear bc a8;have HBy0:ZG (∀(m:CM) W,RQ w0 w rr r m L (F f L.length d) xb x W->ZH ZI 162 #[I J 0] W fun e w'=>e=ZD (ZB (Aw [0]))/\RQ w0 w rr r m L (F f L.length d) xb x w'):=(show _ from fun m W R=>(Vi 0 W).mono (fun _ _ ⟨he,b⟩=>⟨he,R.below b⟩))
  have HBy1:ZG (∀(m:CM) W,RQ w0 w rr r m L (F f L.length d) xb x W->ZH ZI 162 #[I J 165] W fun e w'=>e=ZD (ZB (Aw [165]))/\RQ w0 w rr r m L (F f L.length d) xb x w'):=(show _ from fun m W R=>(Vj W).mono (fun _ _ ⟨he,b⟩=>⟨he,R.below b⟩))
  have cw:ZG (∀(m:CM) W,RQ w0 w rr r m L (F f L.length d) xb x W->ZH ZI 217 #[.agg #[I J x.seq,I J x.ent,I J x.kind,I J x.tick]] W fun e w'=>e=ZD (ZB (Aw (A0 x)))/\RQ w0 w rr r m L (F f L.length d) xb x w'):=(show _ from fun m W R=>(Vk x d6 W).mono (fun _ _ ⟨he,b⟩=>⟨he,R.below b⟩))
  have bf:ZG (∀(D:CM) (a:Nat) (l:List UInt8) (k:Int) W,RQ w0 w rr r D L (F f L.length d) xb x W->J3 D k->k<=1000000000->D.off=false->a+l.length<=D.bs.length->ZH ZI 220 #[ZA (U ⟨r,0,O⟩),I J a,ZB (Aw l)] W fun e w'=>e=ZD (I J (Bb D.cut l.length:Nat))/\RQ w0 w rr r (Be D a l) L (F f L.length d) xb x w'):=(show _ from fun D a l k W R hk ad ho hn=>(Ang r D a l W R.rf.mem k hk ad ho hn).mono (fun _ _ ⟨he,h1,h2⟩=>⟨he,R.write h2 h1⟩))
  go_upto_if 98 with fail;go_cut [13] (fun a3 wx=>∃(E1:Nat) (D:CM),a3=I J E1/\Eqd (E1,D) (st1 m x)/\ZG (RQ w0 w rr r D L (F f L.length d) xb x wx));case first=>
   cases zb with
   |false=>
    have bl:=G (bg.1 rfl);have aj:Eqd ((0:Nat),m) (st1 m x):=⟨by rw[bd.out,if_pos bl.out]⟩
    go_wp2_with fail;go_meet;exact⟨0,m,rfl,aj,n.out⟩
   |true=>
    have bl:yb≠0:=fun h=>by have:=bg.2 h;cases this
    have aj:Eqd (Bb m.cut 1,Be m C [0]) (st1 m x):=⟨by rw[bd.out,if_neg bl]⟩
    have cc:ZG (∀W,RQ w0 w rr r m L (F f L.length d) xb x W->ZH ZI 220 #[ZA (U ⟨r,0,O⟩),I J C,ZB (Aw [0])] W fun e w'=>e=ZD (I J (Bb m.cut 1:Nat))/\RQ w0 w rr r (Be m C [0]) L (F f L.length d) xb x w'):=(show _ from fun W R=>bf m C [0] kk W R HK (by have:=b0.out;omega) HO (by have:=a6.out;rw[G3];omega))
    clear bl cg dg bq bg bd;go_wp2_with fail;go_region_held3 (fun w'=>w'.cell? ⟨rr,0,O⟩=U (ZA (U ⟨r,0,O⟩)))
     (first|exact n.cells.1|exact RQ.c0 (by repeat(first|exact kF|exact kE|exact n.out|refine RQ.drew ?_)))
     (first|(go_at_call 162;refine(HBy0 m _ ?_).mono ?_;(repeat(first|exact n.out|refine RQ.drew ?_));rintro e w' ⟨rfl,kE⟩)|(go_at_call 220;refine(cc _ ?_).mono ?_;(repeat(first|exact kE|refine RQ.drew ?_));rintro e w' ⟨rfl,kF⟩))
    all_goals(go_wp2_with fail;go_meet)
    all_goals exact⟨_,_,rfl,aj,by repeat(first|exact kF|refine RQ.drew ?_)⟩
  case rest=>
  obtain⟨E1,D,rfl,ay,P⟩:=hcut;have ak:ZG (tV (E1,D) m.bs.length (kk+1)):=G (by rw[ay.out];exact Amr x b8 HK.out);clear y0 y1 y2 y3 y4 cg dg bq bg bd n dl;obtain⟨y0,y1,y2,y3,y4⟩:=P.cells;by_cases h1:E1=0
  ·subst h1;have aj:ZG (st1 m x=(0,D)):=ay.out.symm;have cd:ZG (∀W,RQ w0 w rr r D L (F f L.length d) xb x W->ZH ZI 220 #[ZA (U ⟨r,0,O⟩),I J A,ZB (Aw (A0 x))] W fun e w'=>e=ZD (I J (Bb D.cut 16:Nat))/\RQ w0 w rr r (Be D A (A0 x)) L (F f L.length d) xb x w'):=(show _ from fun W R=>by
    have:=bf D A (A0 x) (kk+1) W R ak.ok (by have:=b0.out;omega) (ak.off rfl) (by have h1:D.bs.length=m.bs.length:=ak.len;rw[h1,B7];have:=cv.out;have:=b8.out;omega);rw[B7]at this;exact this)
   have aw:ZG (tV (Bb D.cut 16,Be D A (A0 x)) m.bs.length (kk+17)):=G (by
    have:=vN A (A0 x) ak.len ak.ok (by rw[B7];have:=cv.out;have:=b8.out;omega);rw[B7]at this;exact this.mono (by simp;omega))
   have a7:ZG (st2 (st1 m x) x=(Bb D.cut 16,Be D A (A0 x))):=G (by rw[aj.out,HA.out];rfl);rw[show(((0:Nat):Int))=0 from rfl];obtain⟨E2,c9⟩:∃E,E=Bb D.cut 16:=⟨_,rfl⟩
   obtain⟨m2,dd⟩:∃mm,mm=Be D A (A0 x):=⟨_,rfl⟩
   rw[<-c9,<-dd]at cd aw a7;clear c9 dd ay aj;go_upto_region 16 with fail;go_cut [13] (fun a3 wx=>a3=I J E2/\ZG (RQ w0 w rr r m2 L (F f L.length d) xb x wx));case first=>
    go_region_held3 (fun w'=>w'.cell? ⟨rr,0,O⟩=U (ZA (U ⟨r,0,O⟩))/\w'.cell? ⟨xb,0,O⟩=U (I J x.seq)/\w'.cell? ⟨xb,1,O⟩=U (I J x.ent)/\w'.cell? ⟨xb,2,O⟩=U (I J x.kind)/\w'.cell? ⟨xb,3,O⟩=U (I J x.tick))
     (first|exact P.cells|exact RQ.cells (by repeat(first|exact kF|exact kE|exact P.out|refine RQ.drew ?_)))
     (first|(go_at_call 217;refine(cw D _ ?_).mono ?_;(repeat(first|exact P.out|refine RQ.drew ?_));rintro e w' ⟨rfl,kE⟩)|(go_at_call 220;refine(cd _ ?_).mono ?_;(repeat(first|exact kE|refine RQ.drew ?_));rintro e w' ⟨rfl,kF⟩))
    all_goals(go_wp2_with fail;go_meet)
    all_goals exact⟨rfl,by repeat(first|exact kF|refine RQ.drew ?_)⟩
   case rest=>
   obtain⟨rfl,Q⟩:=hcut;clear y0 y1 y2 y3 y4 P cd cw;obtain⟨y0,y1,y2,y3,y4⟩:=Q.cells;by_cases h2:E2=0
   ·subst h2;have bo:ZG (st2 (st1 m x) x=(0,m2)):=a7;have ce:ZG (∀W,RQ w0 w rr r m2 L (F f L.length d) xb x W->ZH ZI 220 #[ZA (U ⟨r,0,O⟩),I J C,ZB (Aw [165])] W fun e w'=>e=ZD (I J (Bb m2.cut 1:Nat))/\RQ w0 w rr r (Be m2 C [165]) L (F f L.length d) xb x w'):=(show _ from fun W R=>
     bf m2 C [165] (kk+17) W R aw.ok (by have:=b0.out;omega) (aw.off rfl) (by have h1:m2.bs.length=m.bs.length:=aw.len;rw[h1,G3];have:=a6.out;omega))
    have bz:ZG (A4 m x=(Bb m2.cut 1,Be m2 C [165])):=G (by rw[Sz,bo.out,HC.out,HA.out];rfl);rw[show(((0:Nat):Int))=0 from rfl];obtain⟨E3,da⟩:∃E,E=Bb m2.cut 1:=⟨_,rfl⟩
    obtain⟨m3,de⟩:∃mm,mm=Be m2 C [165]:=⟨_,rfl⟩
    rw[<-da,<-de]at ce bz;clear da de a7 bo;go_upto_region 18 with fail;go_cut [13] (fun a3 wx=>a3=I J E3/\ZG (RQ w0 w rr r m3 L (F f L.length d) xb x wx));case first=>
     go_region_held3 (fun w'=>w'.cell? ⟨rr,0,O⟩=U (ZA (U ⟨r,0,O⟩)))
      (first|exact Q.cells.1|exact RQ.c0 (by repeat(first|exact kF|exact kE|exact Q.out|refine RQ.drew ?_)))
      (first|(go_at_call 162;refine(HBy1 m2 _ ?_).mono ?_;(repeat(first|exact Q.out|refine RQ.drew ?_));rintro e w' ⟨rfl,kE⟩)|(go_at_call 220;refine(ce _ ?_).mono ?_;(repeat(first|exact kE|refine RQ.drew ?_));rintro e w' ⟨rfl,kF⟩))
     all_goals(go_wp2_with fail;go_meet)
     all_goals exact⟨rfl,by repeat(first|exact kF|refine RQ.drew ?_)⟩
    case rest=>
    obtain⟨rfl,t⟩:=hcut;clear y0 y1 y2 y3 y4 Q ce HBy0 HBy1 bf aw ak;by_cases h3:E3=0
    ·subst h3;rw[show(((0:Nat):Int))=0 from rfl];obtain⟨y0,y1,y2,y3,y4⟩:=t.cells;obtain⟨r0,r1,r2,rf⟩:=D6 t.rf.box;obtain⟨i0,eh,er,es,et⟩:=info_parts infoRec;have c3:=G (d4 m3 bz.out);have d8:ZG (L.length+1<=maxLen):=G (by unfold maxLen;have:=b7.out;omega);have ee:ZG ((L.length+1)*32<=140737488355328):=G (by have:=b7.out;omega);go_upto_region 22 with fail;have b9:ZG (∀W,ZF wc.heap.size wc W->Ax W w0.heap.size 147 4 (F f L.length d) L.length (L.flatMap Ao)/\w0.heap.size<=W.heap.size):=(show _ from fun W R=>⟨t.rf.own.later R,No (No cc t.kep.size) R.size⟩)
     have cx:ZG (∀W,ZF wc.heap.size wc W->W.cell? ⟨rr,1,O⟩=U (F f L.length d)/\W.cell? ⟨xb,0,O⟩=U (I J x.seq)/\W.cell? ⟨xb,1,O⟩=U (I J x.ent)/\W.cell? ⟨xb,2,O⟩=U (I J x.kind)/\W.cell? ⟨xb,3,O⟩=U (I J x.tick)):=(show _ from fun W R=>(t.below R).cells1)
     have cz:ZG (∀b,(Value.slice f L.length d).ownBlock=U b->b≠rr/\b≠r/\b<w.heap.size):=(show _ from fun b B=>⟨(t.rf.off b B).1,(t.rf.off b B).2,t.lob b B⟩)
     go_cut [14] (fun ex wx=>∃(ao:Option Addr) (cp:Nat),ex=F ao (L.length+1) cp/\ZG (Ax wx w0.heap.size 147 4 (F ao (L.length+1) cp) (L.length+1) (L.flatMap Ao++Ao x))/\ZG (RQ2 w0 w rr r m3 (F f L.length d) xb x wx/\((Value.slice ao (L.length+1) cp).ownBlock=(Value.slice f L.length d).ownBlock\/Z0 w wx (F ao (L.length+1) cp))/\∀k,(Value.slice ao (L.length+1) cp).ownBlock=U k->k≠w.heap.size));case first=>
      go_region_held3 (fun w'=>w'.cell? ⟨rr,1,O⟩=U (F f L.length d)/\w'.cell? ⟨xb,0,O⟩=U (I J x.seq)/\w'.cell? ⟨xb,1,O⟩=U (I J x.ent)/\w'.cell? ⟨xb,2,O⟩=U (I J x.kind)/\w'.cell? ⟨xb,3,O⟩=U (I J x.tick))
       (first|exact bt.1.cells1|exact cx _ (by repeat(first|exact R1 _ _|refine H5 ?_|refine Zzv ?_ (by simp) _)))
       (first|(refine Dh rfl (.tmp 135) (.tmp 137) 68 rfl w0.heap.size 147 i0 _ 4 32 underlying68 eh er es et rfl (by decide) (.slice f L.length d) L.length (L.flatMap Ao) rfl ?_ ⟨wc.heap.size,0,O⟩ 1 1 (Ao x) rfl rfl ?_ (by intro u hu;simp[Ao]at hu;rcases hu with rfl|rfl|rfl|rfl<;>rfl) d8 ee.out ?_ ?_;exact(b9 _ (by repeat(first|exact R1 _ _|refine H5 ?_|refine Zzv ?_ (by simp) _))).1;exact A1 _ (Ao x) _;exact(b9 _ (by repeat(first|exact R1 _ _|refine H5 ?_|refine Zzv ?_ (by simp) _))).2;intro a1 k1 w6 df eg ek;have bt:=t.app2 (by repeat(first|exact R1 _ _|refine H5 ?_|refine Zzv ?_ (by simp) _)) df eg ek))
      all_goals(go_wp2_with fail;go_meet)
      all_goals exact⟨a1,k1,rfl,df,bt⟩
     case rest=>
     obtain⟨ao,cp,rfl,ho,cj⟩:=hcut;clear y0 y1 y2 y3 y4 r0 r1 r2 rf cx b9 t;have Z:ZG (RQ2 w0 w rr r m3 (F f L.length d) xb x wc):=cj.1;have a9:=G cj.2;obtain⟨g,off,rfl,br⟩:=ho.pos (Nat.succ_pos _);have az:(L++ [x]).length=L.length+1:=by simp
     have c2:ZG (Ax wc w0.heap.size 147 4 (F (U ⟨g,off,O⟩) (L.length+1) cp) (L++ [x]).length ((L++ [x]).flatMap Ao)):=G (by
      have h:=ho.out;rw[az,show(L++ [x]).flatMap Ao=L.flatMap Ao++Ao x by simp];exact h)
     obtain⟨r0,r1,r2,rf⟩:=D6 Z.box;obtain⟨z0,z1,z2,z3⟩:=Ay Z.res;have zf:∀o,World.frozen? _ ⟨w.heap.size,o,O⟩=false:=fun o=>Eu Z.res;obtain⟨x0,x1,x2,x3⟩:=Ay Z.xbox;have bm:¬rr=w.heap.size:=by have:=Z.lo;omega
     have ai:¬w.heap.size=rr:=by have:=Z.lo;omega
     have f0:¬rr=xb:=by have:=Z.lo;omega
     have fb:¬xb=rr:=by have:=Z.lo;omega
     clear cj ho;by_cases h8:L.length<=7
     ·have HD:ZG ((L++ [x]).drop (L.length+1-8)=L++ [x]):=G (by rw[show L.length+1-8=0 by omega];rfl);have d9:(L.length:Int)<=7:=by omega
      clear h8 az br;go_wp2_with fail;refine bodyPost_ret (v:=ZM #[Aq x,I J 0]) (by simp[Aq,results,results174,go_sem,z0,z1,z2,z3,O2,O1]) rfl ?_;rw[c3.out,HD.out];exact⟨rfl,_,Z.fin (lv':=(F (U ⟨g,off,O⟩) (L.length+1) cp)) (L':=(L++ [x])) c2 a9.1 cz a9.2 _ _ _ _⟩
     ·have dc:L.length=8:=by have:=b7.out;omega
      have HD:ZG ((L++ [x]).drop (L.length+1-8)=(L++ [x]).drop 1):=G (by rw[dc]);have d3:ZG (Ax wc w0.heap.size 147 4 (F (U ⟨g,off+1*4,O⟩) (L.length+1-1) (cp-1)) ((L++ [x]).drop 1).length (((L++ [x]).drop 1).flatMap Ao)):=G (by
       have h:=c2.out;rw[az]at h;have:=h.dropAt 1 (by omega);rw[B2,az,qG];exact this)
      have dh:=fun w=>Tu w g off (L.length+1) cp 1 (by omega) (by omega);simp only[Int.natCast_one]at dh;have d9:(8:Int)<(L.length:Int)+1:=by omega
      have fg:(8:Int)<=(L.length:Int):=by omega
      clear h8 az br dc;go_wp2_with fail;refine bodyPost_ret (v:=ZM #[Aq x,I J 0]) (by simp[Aq,results,results174,go_sem,z0,z1,z2,z3,O2,O1]) rfl ?_;rw[c3.out,HD.out];exact⟨rfl,_,Z.fin (lv':=(F (U ⟨g,off+1*4,O⟩) (L.length+1-1) (cp-1))) (L':=((L++ [x]).drop 1)) d3 a9.1 cz a9.2 _ _ _ _⟩
    ·obtain⟨j,rfl⟩:∃j,E3=j+1:=⟨E3-1,by omega⟩
     have HP:ZG (A4 m x=(j+1,m3)):=bz;obtain⟨jj,X⟩:∃jj:Int,jj=((j+1:Nat):Int):=⟨_,rfl⟩
     have bu:0<jj:=by omega
     rw[<-X];have HJ:=G X;clear h3 X;have bm:¬rr=w.heap.size:=by have:=t.lo;omega
     have ai:¬w.heap.size=rr:=by have:=t.lo;omega
     obtain⟨q0,q1,q2,qf⟩:=D6 t.rf.box;obtain⟨z0,z1,z2,z3⟩:=Ay t.res;have zf:∀o,World.frozen? _ ⟨w.heap.size,o,O⟩=false:=fun o=>Eu t.res;go_wp2_with fail;refine bodyPost_ret (v:=ZM #[Aq ⟨0,0,0,0⟩,I J jj]) (by simp[Aq,results,results174,go_sem,z0,z1,z2,z3,O2,O1]) rfl ?_;rw[bb j _ HP.out,HJ.out];exact⟨rfl,_,t.dead _ _ _ _⟩
   ·obtain⟨j,rfl⟩:∃j,E2=j+1:=⟨E2-1,by omega⟩
    have HP:ZG (A4 m x=(j+1,m2)):=G (by rw[Sz,a7.out];rfl);obtain⟨jj,X⟩:∃jj:Int,jj=((j+1:Nat):Int):=⟨_,rfl⟩
    have bu:0<jj:=by omega
    rw[<-X];have HJ:=G X;clear h2 X y0 y1 y2 y3 y4;have bm:¬rr=w.heap.size:=by have:=Q.lo;omega
    have ai:¬w.heap.size=rr:=by have:=Q.lo;omega
    obtain⟨q0,q1,q2,qf⟩:=D6 Q.rf.box;obtain⟨z0,z1,z2,z3⟩:=Ay Q.res;have zf:∀o,World.frozen? _ ⟨w.heap.size,o,O⟩=false:=fun o=>Eu Q.res;go_wp2_with fail;refine bodyPost_ret (v:=ZM #[Aq ⟨0,0,0,0⟩,I J jj]) (by simp[Aq,results,results174,go_sem,z0,z1,z2,z3,O2,O1]) rfl ?_;rw[bb j _ HP.out,HJ.out];exact⟨rfl,_,Q.dead _ _ _ _⟩
  ·obtain⟨j,rfl⟩:∃j,E1=j+1:=⟨E1-1,by omega⟩
   have HP:ZG (A4 m x=(j+1,D)):=G (by rw[Sz,<-ay.out];rfl);obtain⟨jj,X⟩:∃jj:Int,jj=((j+1:Nat):Int):=⟨_,rfl⟩
   have bu:0<jj:=by omega
   rw[<-X];have HJ:=G X;clear h1 X ay y0 y1 y2 y3 y4;have bm:¬rr=w.heap.size:=by have:=P.lo;omega
   have ai:¬w.heap.size=rr:=by have:=P.lo;omega
   obtain⟨q0,q1,q2,qf⟩:=D6 P.rf.box;obtain⟨z0,z1,z2,z3⟩:=Ay P.res;have zf:∀o,World.frozen? _ ⟨w.heap.size,o,O⟩=false:=fun o=>Eu P.res;go_wp2_with fail;refine bodyPost_ret (v:=ZM #[Aq ⟨0,0,0,0⟩,I J jj]) (by simp[Aq,results,results174,go_sem,z0,z1,z2,z3,O2,O1]) rfl ?_;rw[bb j _ HP.out,HJ.out];exact⟨rfl,_,P.dead _ _ _ _⟩
 ·have HE:ZG (Bu m L false H M tk=(2,⟨0,0,0,0⟩,m,L,false)):=G (by
   unfold Bu;rw[if_neg (by decide),if_pos (by simpa using al)])
  have B:¬(0<=H/\H<=255/\0<=M/\M<=255/\0<=tk/\tk<281474976710656):=fun h=>al (On h);clear al;by_cases b1:H<0
  ·clear B;go_wp2_with fail;refine bodyPost_ret (v:=ZM #[Aq ⟨0,0,0,0⟩,I J 2]) (by simp[Aq,results,results174,go_sem,z0,z1,z2,z3,O2,O1]) rfl ?_;rw[HE.out];exact⟨rfl,_,Y.below (Bd i.out),⟨(Ac.of_below (Bd i.out)).mono (fun b _ B=>.inr (.inr (.inr B))),.inl rfl⟩⟩
  by_cases b2:255<H
  ·clear B;go_wp2_with fail;refine bodyPost_ret (v:=ZM #[Aq ⟨0,0,0,0⟩,I J 2]) (by simp[Aq,results,results174,go_sem,z0,z1,z2,z3,O2,O1]) rfl ?_;rw[HE.out];exact⟨rfl,_,Y.below (Bd i.out),⟨(Ac.of_below (Bd i.out)).mono (fun b _ B=>.inr (.inr (.inr B))),.inl rfl⟩⟩
  by_cases b3:M<0
  ·clear B;go_wp2_with fail;refine bodyPost_ret (v:=ZM #[Aq ⟨0,0,0,0⟩,I J 2]) (by simp[Aq,results,results174,go_sem,z0,z1,z2,z3,O2,O1]) rfl ?_;rw[HE.out];exact⟨rfl,_,Y.below (Bd i.out),⟨(Ac.of_below (Bd i.out)).mono (fun b _ B=>.inr (.inr (.inr B))),.inl rfl⟩⟩
  by_cases b4:255<M
  ·clear B;go_wp2_with fail;refine bodyPost_ret (v:=ZM #[Aq ⟨0,0,0,0⟩,I J 2]) (by simp[Aq,results,results174,go_sem,z0,z1,z2,z3,O2,O1]) rfl ?_;rw[HE.out];exact⟨rfl,_,Y.below (Bd i.out),⟨(Ac.of_below (Bd i.out)).mono (fun b _ B=>.inr (.inr (.inr B))),.inl rfl⟩⟩
  by_cases b5:tk<0
  ·clear B;go_wp2_with fail;refine bodyPost_ret (v:=ZM #[Aq ⟨0,0,0,0⟩,I J 2]) (by simp[Aq,results,results174,go_sem,z0,z1,z2,z3,O2,O1]) rfl ?_;rw[HE.out];exact⟨rfl,_,Y.below (Bd i.out),⟨(Ac.of_below (Bd i.out)).mono (fun b _ B=>.inr (.inr (.inr B))),.inl rfl⟩⟩
  have b6:281474976710656<=tk:=by omega
  clear B;go_wp2_with fail;refine bodyPost_ret (v:=ZM #[Aq ⟨0,0,0,0⟩,I J 2]) (by simp[Aq,results,results174,go_sem,z0,z1,z2,z3,O2,O1]) rfl ?_;rw[HE.out];exact⟨rfl,_,Y.below (Bd i.out),⟨(Ac.of_below (Bd i.out)).mono (fun b _ B=>.inr (.inr (.inr B))),.inl rfl⟩⟩
