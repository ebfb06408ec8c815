import Derived.Test.YtikehilbmldadaaGreatDoorP07
import Derived.Test.YtikehilbmldadaaGreatDoorP14
set_option maxHeartbeats 4000000
set_option maxRecDepth 20000
set_option linter.unusedVariables false
namespace Go.Proofs.YtikehilbmldadaaGreatDoor
open Proofs.Tryz YtikehilbmldadaaGreatDoor.Tryz RowKit
open Go renaming World->V,Value->ZE,Calls->ZH,Value.int->I,IntKind.i64->J,Value.slice->F,Obj.cells->ZC,Ending.returned->ZD,Proofs.Tryz.prog->ZI
open Option renaming some->U,none->O
def H8(l:List Int):Bool:=(List.range l.length).any (fun i=>decide (l.getD i 0∈l.take i))
theorem Xn{l:List Int}(i:Nat)(hi:i<l.length)(h:l[i]∈l.take i):H8 l=true:=by
 unfold H8;rw[Zy5];exact⟨i,List.mem_range.2 hi,by rw[Of,R4 hi];exact On h⟩
theorem V6{l:List Int}(h:∀i (hi:i<l.length),l[i]∉l.take i):H8 l=false:=by
 unfold H8;rw[Zy1];intro i hi;have hi:=List.mem_range.1 hi;rw[Of,R4 hi];simpa using h i hi
theorem Av.take{R:Nat->Prop}{w:V}{ao:Option Addr}{cap:Nat}{l:List Int}(h:Av R w (F ao l.length cap) 1 (Ad l) l.length)(k:Nat)(v:k<=l.length):Av R w (F ao k cap) 1 (Ad (l.take k)) (l.take k).length:=by
 obtain⟨y,i,f,g,h1,h2,h3,m⟩:=h;simp at g;obtain⟨rfl,rfl⟩:=g;have a:(l.take k).length=k:=by simp;omega
 refine⟨by simp[Ad],ao,cap,by rw[a],by rw[a];omega,h2,h3,fun t=>?_⟩;have d:0<(Ad l).length:=by simp[Ad]at t ⊢;omega
 obtain⟨b,off,o,n,p,q⟩:=m d;refine⟨b,off,o,n,p,fun j u e=>q j u ?_⟩;have s:j<k:=by
  have:=(List.getElem?_eq_some_iff.1 e).1;simp[Ad]at this;omega
 simp[Ad,s]at e ⊢;exact e
theorem Ek{P:Program}{f:FuncId}{args:Array ZE}{w:V}{n:Nat}{v:ZE}
  (h:ZH P f args (w.drewN n) fun e w'=>e=ZD v/\w.drewN n=w'):ZH P f args (w.drewN n) fun e w''=>e=ZD v/\∃m,w''=w.drewN m:=
 h.mono fun _ _ ⟨a,d⟩=>⟨a,n,d.symm⟩
theorem Pe(w:V)(b off len cap i:Nat)(hi:i<=cap):
  (Instr.slice 48 (F (U ⟨b,off,O⟩) len cap) O (U (I J i)) O).run ZI w=.ok (F (U ⟨b,off,O⟩) i cap) w:=by
 have d:ZI.underlying 48=U (.slice (ZI.elem 48)):=by kernel_rfl
 have a:((sizeOf (ZI.elem 48)).run ZI w)=.ok 1 w:=by kernel_rfl
 rw[run_slice_h w 48 (U ⟨b,off,O⟩) len cap d J i (by omega) (by omega),a];show Result.ok (sliced _ _ _ _ _) w=_
 unfold sliced;simp;intro _;rw[Dt,Zzw]
theorem kM(R:Nat->Prop)(l:List Int)(v:ZE)(w:V)(h:Av R w v 1 (Ad l) l.length)(Z:l.length<=100000):
  ZH ZI 88 #[v] w fun e w'=>e=ZD (.bool (H8 l))/\∃q,w'=w.drewN q:=by
 obtain⟨Y,cap,rfl⟩:=h.val;have H:=G h;have a:(l.length:Int)<=(cap:Int)/\(cap:Int)<=9223372036854775807:=by
  obtain⟨_,_,_,M,h1,h2,_⟩:=h;simp at M;obtain⟨rfl,rfl⟩:=M;unfold maxLen at h2;omega
 have P:=a.1;have Q:=a.2;clear h a;go_enter func88,ntmps88;go_wp2_with fail;go_loopw [3] (fun s wr=>∃i q:Nat,i<=l.length/\s=I J i/\Hid (∀j (y:j<l.length),j<i->l[j]∉l.take j)/\wr=w.drewN q) (fun s _=>l.length-(intOf s).toNat);case atStart=>exact⟨0,0,In _,rfl,fun j _ h=>by omega,rfl⟩
 case round=>
  obtain⟨i,q,hi,rfl,f,rfl⟩:=hrel;by_cases A:i<l.length
  ·obtain⟨b,off,rfl,_,_,B⟩:=I4 H (by omega);generalize d:World.drewN w q=wq;have q1:wq.cell? ⟨b,off+i,O⟩=U (I J l[i]):=by rw[<-d];exact B i A
   clear B;have K:Av R wq (F (U ⟨b,off,O⟩) i cap) 1 (Ad (l.take i)) (l.take i).length:=by
    rw[<-d];exact(H.take i (by omega)).keep (Ck q (Ac.refl (fun _=>False) w)) (fun _ _ h=>h)
   have C:=G d;clear d;have D:Hid (∀n,ZH ZI 158 #[F (U ⟨b,off,O⟩) i cap,I J l[i]] (wq.drewN n) fun e w'=>e=ZD (.bool (decide (l[i]∈l.take i)))/\wq.drewN n=w'):=G (fun n=>Q5 R (l.take i) _ l[i] _ (K.keep (Ck n (Ac.refl (fun _=>False) wq)) (fun _ _ h=>h)));clear K;obtain⟨tb,m⟩:∃tb,tb=decide (l[i]∈l.take i):=⟨_,rfl⟩
   rw[<-m]at D;have p:=G m;clear m;have T:(i:Int)<=(cap:Int):=by omega
   have L:=fun W=>Pe W b off l.length cap i (by omega);go_wp2_with fail;go_quiet ((go_at_call 158;exact Ek (D _)));have u:∀n,∃c,wq.drewN n=w.drewN c:=fun n=>by rw[<-C.out];exact drewN_drewN _ _ _
   have o:=G u;clear u;cases tb with
   |true=>
    have t:=G (Xn i A (Zyq p.symm));go_wp2_with fail;go_ret;exact⟨Am t.symm,o _⟩
   |false=>
    have g:=G (of_decide_eq_false p.symm);go_wp2_with fail;go_roundw;case rel=>
     obtain⟨c,B⟩:=o _;exact⟨i+1,c,by omega,by go_num,(show ∀j (y:j<l.length),j<i+1->l[j]∉l.take j from fun j y X=>by
      by_cases e:j=i
      ·subst e;exact g.out
      ·exact f j y (by omega)),B⟩
    case measure=>simp[intOf];omega
  ·have N:=G (V6 (l:=l) (fun j y=>f j y (by omega)));go_wp2_with fail;go_ret;exact⟨Am N.symm,_,rfl⟩
structure EB (w0:V) (R:Nat->Prop) (E:Ak) (vp vg ve vf vl:ZE) (eb:Nat) (w:V):Prop where
 box:w.heap[eb]? =U (ZC (As E vp vg ve vf vl) 50)
 sl:Dk R w E vp vg ve vf vl
 bel:Below w0.heap.size w0 w
 lo:∀b,R b->b<w0.heap.size
 hi:w0.heap.size<=eb
section
variable {w0 w w':V} {R S:Nat->Prop} {E:Ak} {vp vg ve vf vl:ZE} {eb:Nat}
theorem EB.keep(h:EB w0 R E vp vg ve vf vl eb w)(k:Ac S w w')(g:∀b,S b->b<w.heap.size->w0.heap.size<=b/\b≠eb):EB w0 R E vp vg ve vf vl eb w':=by
 have e:Ac (fun b=>w0.heap.size<=b/\b≠eb) w w':=k.mono (fun b a f=>g b f a);have d:=h.lo;have i:=h.hi;exact⟨e.get h.box (fun x=>x.2 rfl),h.sl.keep e (fun b a f=>by have:=d b a;omega),h.bel.trans (e.below h.bel.size (fun b a=>a.1)),h.lo,h.hi⟩
theorem EB.below(h:EB w0 R E vp vg ve vf vl eb w)(b:Below w.heap.size w w'):EB w0 R E vp vg ve vf vl eb w':=h.keep (Al b) (fun _ h _=>h.elim)
theorem EB.cells(h:EB w0 R E vp vg ve vf vl eb w):
  w.cell? ⟨eb,0,O⟩=U (.string E.name)/\w.cell? ⟨eb,1,O⟩=U (I J E.tol)/\w.cell? ⟨eb,2,O⟩=U vp/\w.cell? ⟨eb,3,O⟩=U (I J E.count)/\w.cell? ⟨eb,4,O⟩=U (I J E.mn)/\
  w.cell? ⟨eb,5,O⟩=U (I J E.mx)/\w.cell? ⟨eb,6,O⟩=U vg/\w.cell? ⟨eb,7,O⟩=U ve/\w.cell? ⟨eb,8,O⟩=U vf/\w.cell? ⟨eb,9,O⟩=U vl:=by
 have:=h.box;unfold As at this;simp[World.cell?,this]
end
theorem Aah{w w1:V}{o:Option Nat}{a:Nat}(e:w.grownBy w1 o)(g:∀b,o=U b->a<=b)(d:a<=w.heap.size):Below a w w1:=
 (Ac.of_grown e).below d (fun k f=>g k f.symm)
theorem Ke{P:Program}{w:V}{N:Array Oper}{rest:List Oper}{o:Oper}{a:Act}{Q:Exit->Act->V->Prop}(L:o.guard=O)(s x:Operand)(t:TypeId)
  (ho:o.op=.call { callee:=.builtin .append,args:=#[s,x],argTypes:=#[t,t]})
  (f:Nat) (e:TypeId) (i:TypeInfo) (z:ZE) (size l:Nat) (ht:P.underlying t=U (.slice e)) (hi:P.info? e=U i) (hz:i.zero=U z)
  (H:i.size=size) (Z:i.bytes=l) (ac:z.cells.size=size) (ab:0<size)
  (v:ZE) (n:Nat) (T:List ZE) (hs:a.eval s=v) (d:w.ownsRow f e size v n T)
  (R:Nat->Prop) (y:ZE) (m:Nat) (A:List ZE) (hx:a.eval x=y) (aa:Av R w y size A m) (h1:∀u∈A,u.oneCell'=true)
  (Y:n+m<=maxLen) (p:(n+m)*l<=140737488355328) (B:f<=w.heap.size)
  (h:∀ao cap w',w'.ownsRow f e size (F ao (n+m) cap) (n+m) (T++A)->w.grownBy w' v.ownBlock->wpList P N Q rest (a.put o.dst (F ao (n+m) cap)) w'):
  wpList P N Q (o::rest) a w:=by
 obtain⟨hl,ao,cap,rfl,aq,an,D,q⟩:=aa;cases ao with
 |none=>
  obtain rfl:=D rfl;obtain rfl:m=0:=by omega
  obtain rfl:A= []:=H3 (by simpa using hl);refine wpList_append_own_none L s x t ho f e i size ht hi v n T hs d hx ?_;have K:w.grownBy w v.ownBlock:=⟨rfl,rfl,rfl,Y2 _,fun _ _ _=>rfl⟩
  rw[Zz8,Zzw]at h;rcases d.2 with⟨M,hn⟩|⟨g,cap,ak,M,_⟩
  ·subst hn;have X:=h O 0 w (by rw[M]at d;exact d) K;rw[M];exact X
  ·have X:=h (U ⟨g,0,O⟩) cap w (by rw[M]at d;exact d) K;rw[M];exact X
 |some ad=>
  have C:∀j u,A[j]? =U u->w.cell? (ad.add j)=U u:=by
   intro j u hu;have hj:j<A.length:=(List.getElem?_eq_some_iff.1 hu).1;obtain⟨b,off,ha,_,_,hc⟩:=q (by omega);obtain rfl:=Option.some.inj ha;rw[Dt];exact hc j u hu
  exact Bc L s x t ho f e i z size l ht hi hz H Z ac ab v n T hs d ad m cap A hx hl C h1 Y p B h
def Il(E:Ak):List Int:=E.first++E.last++E.gaps.flatMap (fun g=>[g.fr,g.dst])++E.edges.flatMap (fun x=>[x.1,x.2])
def Jh(E:Ak):Bool:=(Il E).any (fun p=>decide (p<0\/(E.points.length:Int)<=p))
def Ju(E:Ak)(k:Nat):List Int:=E.first++E.last++(E.gaps.take k).flatMap (fun g=>[g.fr,g.dst])
def Nt(E:Ak)(k:Nat):List Int:=E.first++E.last++E.gaps.flatMap (fun g=>[g.fr,g.dst])++(E.edges.take k).flatMap (fun x=>[x.1,x.2])
theorem qR(E:Ak)(k:Nat)(a:k<E.gaps.length):Ju E (k+1)=Ju E k++ [E.gaps[k].fr,E.gaps[k].dst]:=by
 unfold Ju;rw[If a,B1];simp
theorem qS(E:Ak)(k:Nat)(a:k<E.edges.length):Nt E (k+1)=Nt E k++ [E.edges[k].1,E.edges[k].2]:=by
 unfold Nt;rw[If a,B1];simp
theorem Aam(E:Ak)(k:Nat):(Ju E k).length<=E.first.length+E.last.length+2*E.gaps.length:=by
 unfold Ju;rw[R2,R2,Hj _ 2 (fun _=>rfl)];have:(E.gaps.take k).length<=E.gaps.length:=by simp;omega
 omega
theorem Uz(E:Ak)(k:Nat):(Nt E k).length<=E.first.length+E.last.length+2*E.gaps.length+2*E.edges.length:=by
 unfold Nt;rw[R2,R2,R2,Hj _ 2 (fun _=>rfl),Hj _ 2 (fun _=>rfl)];have:(E.edges.take k).length<=E.edges.length:=by simp;omega
 omega
theorem Mf(a b:List Int):Ad (a++b)=Ad a++Ad b:=by simp[Ad]
theorem vL{w wr wA w1:V}{R:Nat->Prop}{E:Ak}{vp vg ve vf vl:ZE}{eb n cap:Nat}{ao:Option Addr}{d a:List Int}{x y:Int}{a1:Option Addr}{k1:Nat}
  (q:wr.ownsRow (eb+1) 3 1 (F ao n cap) n (Ad d)) (i:EB w R E vp vg ve vf vl eb wr) (f:eb+1<=wr.heap.size) (p:n=d.length) (g:a=d++ [x,y]) (s:Ac (fun _=>False) wr wA)
  (o:wA.grownBy w1 (Value.slice ao n cap).ownBlock) (e:w1.ownsRow (eb+1) 3 1 (F a1 (n+2) k1) (n+2) (Ad d++ [I J x,I J y])):
  n+2=a.length/\w1.ownsRow (eb+1) 3 1 (F a1 a.length k1) a.length (Ad a)/\EB w R E vp vg ve vf vl eb w1/\eb+1<=w1.heap.size:=by
 have j:n+2=a.length:=by rw[g,R2,<-p];rfl
 have l:Ac (fun b=>eb+1<=b) wr w1:=(s.mono (fun _ _ h=>h.elim)).trans ((Ac.of_grown o).mono (fun b m f=>(q.lt _ f.symm).1));refine⟨j,?_,i.keep l (fun b m _=>by have:=i.hi;omega),No f l.size⟩;rw[<-j,g,Mf];exact e
theorem Amj(w:V)(o:Obj):Ac (fun _=>False) w (w.alloc o).drew:=((Ac.refl _ _).alloc _).drew
theorem V9{E:Ak}{i:Nat}(hi:i<(Il E).length)(h:(Il E)[i]<0\/(E.points.length:Int)<=(Il E)[i]):Jh E=true:=by
 unfold Jh;rw[Zy5];exact⟨_,M2 hi,On h⟩
theorem rB{E:Ak}(h:∀i (hi:i<(Il E).length),¬((Il E)[i]<0\/(E.points.length:Int)<=(Il E)[i])):Jh E=false:=by
 unfold Jh;rw[Zy1];intro x a;obtain⟨i,hi,rfl⟩:=List.mem_iff_getElem.1 a;simpa using h i hi
structure G6 (E:Ak):Prop where
 p:E.points.length<=1000
 g:E.gaps.length<=1000
 e:E.edges.length<=1000
 f:E.first.length<=1000
 l:E.last.length<=1000
theorem Z3(R:Nat->Prop)(E:Ak)(vp vg ve vf vl:ZE)(w:V)(h:Dk R w E vp vg ve vf vl)(hR:∀b,R b->b<w.heap.size)(hE:G6 E):
  ZH ZI 87 #[.agg (As E vp vg ve vf vl)] w fun e w'=>e=ZD (.bool (Jh E))/\Below w.heap.size w w':=by
 obtain⟨i0,ai,aj,ak,al⟩:=info_parts infoInt;obtain⟨e1,e2,e3,e4,e5⟩:=hE;have bc:EB w R E vp vg ve vf vl w.heap.size (w.alloc (ZC (As E vp vg ve vf vl) 50)):=
  ⟨Ab _ _,h.keep (Al ((R1 _ _).alloc (Y2 _) _)) (fun _ _ h=>h),(R1 _ _).alloc (Y2 _) _,hR,Y2 _⟩
 have HE:=G bc;have bg:w.heap.size+1<=(w.alloc (ZC (As E vp vg ve vf vl) 50)).heap.size:=by simp
 have HS:=G bg;clear h hR bc bg;unfold As;go_enter func87,ntmps87;go_upto_region 2 with fail;have hx:(w.alloc (ZC (As E vp vg ve vf vl) 50))=w.alloc (ZC #[.string E.name,I J E.tol,vp,I J E.count,I J E.mn,I J E.mx,vg,ve,vf,vl] 50):=rfl;rw[<-hx];clear hx;generalize w.alloc _=w1 at HE HS ⊢;generalize aq:w.heap.size=eb at HE HS ⊢;have bz:=G aq;clear aq;obtain⟨c0,c1,D,H,K,L,s,A,M,N⟩:=HE.cells;go_upto_region 3 with(at_builtin;go_must (refine Ke rfl (.tmp 7) (.tmp 9) 48 rfl (eb+1) 3 i0 _ 1 8 underlying48 ai aj ak al rfl (by decide) (.slice O 0 0) 0 _ rfl (Zzr _ _ _ _) R vf E.first.length (Ad E.first) rfl HE.sl.f (El _) (by unfold maxLen;omega) (by omega) HS.out ?_;intro a2 k2 w2 t au))
 have m:=G (HE.keep (Ac.of_grown au) (fun b hb _=>by cases hb));rw[Zzt,Zyp]at t;have B:=G t;have C:Hid (eb+1<=w2.heap.size):=G (No HS au.size);clear c0 c1 D H K L s A M N HE HS au t;obtain⟨c0,c1,D,H,K,L,s,A,M,N⟩:=m.cells;go_upto_region 4 with(at_builtin;go_must (refine Ke rfl (.tmp 11) (.tmp 13) 48 rfl (eb+1) 3 i0 _ 1 8 underlying48 ai aj ak al rfl (by decide) (.slice a2 E.first.length k2) E.first.length _ rfl B R vl E.last.length (Ad E.last) rfl m.sl.l (El _) (by unfold maxLen;omega) (by omega) C.out ?_;intro a3 k3 w3 ax av))
 have a:=G (m.keep (Ac.of_grown av) (fun b hb _=>by have:=(B.lt b hb.symm).1;have:=m.hi;omega));rw[<-Mf]at ax;have X:Hid (eb+1<=w3.heap.size):=G (No C av.size);have o:Hid (w3.ownsRow (eb+1) 3 1 (F a3 (Ju E 0).length k3) (Ju E 0).length (Ad (Ju E 0))):=G (by
  have e:Ju E 0=E.first++E.last:=by simp[Ju]
  rw[e,R2];exact ax)
 have hl3:E.first.length+E.last.length=(Ju E 0).length:=by simp[Ju]
 rw[hl3];clear c0 c1 D H K L s A M N m C B av ax hl3;go_wp2_with fail;go_loopw [3,4] (fun s3 s4 wr=>∃(k:Nat) (ao:Option Addr) (cap:Nat),k<=E.gaps.length/\s4=I J k/\s3=F ao (Ju E k).length cap/\Hid (wr.ownsRow (eb+1) 3 1 (F ao (Ju E k).length cap) (Ju E k).length (Ad (Ju E k)))/\Hid (EB w R E vp vg ve vf vl eb wr)/\Hid (eb+1<=wr.heap.size)) (fun _ s4 _=>E.gaps.length-(intOf s4).toNat);case atStart=>exact⟨0,a3,k3,In _,rfl,rfl,o,a,X⟩
 case round=>
  obtain⟨k,ao,cap,hk,rfl,rfl,T,P,hs⟩:=hrel;clear o a X;obtain⟨c0,c1,D,H,K,L,s,A,M,N⟩:=P.cells;obtain⟨ag,kg,v⟩:=P.sl.g.val;rw[v]at s;have ar:=G v;clear v;by_cases d:k<E.gaps.length
  ·have az:=P.sl.g;rw[ar.out]at az;obtain⟨b,off,Y,bl,hb,hc⟩:=az.elem (fun _=>rfl) (by decide) (by omega);have Z:ag=U ⟨b,off,O⟩:=Y;subst Z;have q0:=hc k d 0 _ rfl;have q1:=hc k d 1 _ rfl;rw[Zzw]at q0;clear hc az Y;obtain⟨n,hn⟩:∃n,n=(Ju E k).length:=⟨_,rfl⟩
   have Q:=Aam E k;have HN:=G hn;rw[<-hn]at Q T ⊢;clear hn;go_upto_region 7 with fail;go_region_law (refine Jw rfl (.tmp 22) (.tmp 35) 48 rfl (eb+1) 3 i0 _ 1 8 underlying48 ai aj ak al rfl (by decide) _ n _ rfl (T.alloc _) ⟨wr.heap.size,0,O⟩ 2 2 [I J E.gaps[k].fr,I J E.gaps[k].dst] rfl rfl (by exact A1 _ [I J E.gaps[k].fr,I J E.gaps[k].dst] _) (by intro u hu;simp at hu;rcases hu with rfl|rfl<;>rfl) (by unfold maxLen;omega) (by omega) (by have:=hs.out;simp;omega) ?_;intro a1 k1 w1 ac y);all_goals
    obtain⟨hl2,t,ab,ad⟩:=vL T P hs HN (qR E k d) (Amj _ _) y ac;rw[hl2];have B:=G t;have m:=G ab;have C:=G ad;clear ac y t ab ad hl2 q0 q1 c0 c1 D H K L s A M N T P hs HN Q;go_wp2_with fail;go_roundw;case rel=>exact⟨k+1,a1,k1,by omega,by go_num,rfl,B,m,C⟩
    case measure=>simp[intOf];omega
  ·obtain rfl:k=E.gaps.length:=by omega
   have e0:Ju E E.gaps.length=Nt E 0:=by simp[Ju,Nt]
   rw[e0]at T ⊢;rw[<-ar.out]at s;clear e0 c0 c1 D H K L s A M N d ar;have o:=T;have a:=P;have X:=hs;clear T P hs;obtain⟨c0,c1,D,H,K,L,s,A,M,N⟩:=a.cells;obtain⟨ag,kg,v⟩:=a.sl.g.val;rw[v]at s;clear c0 c1 D H K L s A M N v;obtain⟨c0,c1,D,H,K,L,s,A,M,N⟩:=a.cells;obtain⟨ag,kg,v⟩:=a.sl.g.val;rw[v]at s;clear v;go_wp2_with fail;clear c0 c1 D H K L s A M N;generalize a4:wr=wo at o a X ⊢;clear a4;go_loopw [3,5] (fun s3 s5 wr=>∃(k:Nat) (ao:Option Addr) (cap:Nat),k<=E.edges.length/\s5=I J k/\s3=F ao (Nt E k).length cap/\Hid (wr.ownsRow (eb+1) 3 1 (F ao (Nt E k).length cap) (Nt E k).length (Ad (Nt E k)))/\Hid (EB w R E vp vg ve vf vl eb wr)/\Hid (eb+1<=wr.heap.size)) (fun _ s5 _=>E.edges.length-(intOf s5).toNat);case atStart=>exact⟨0,ao,cap,In _,rfl,rfl,o,a,X⟩
   case round=>
    obtain⟨k,ao,cap,hk,rfl,rfl,T,P,hs⟩:=hrel;clear o a X;obtain⟨c0,c1,D,H,K,L,s,A,M,N⟩:=P.cells;obtain⟨ae,ke,a0⟩:=P.sl.e.val;rw[a0]at A;have ba:=G a0;clear a0;by_cases d:k<E.edges.length
    ·have ay:=P.sl.e;rw[ba.out]at ay;obtain⟨b,off,Y,bl,hb,hc⟩:=ay.elem (fun _=>rfl) (by decide) (by omega);have Z:ae=U ⟨b,off,O⟩:=Y;subst Z;have q0:=hc k d 0 _ rfl;have q1:=hc k d 1 _ rfl;rw[Zzw]at q0;clear hc ay Y;obtain⟨n,hn⟩:∃n,n=(Nt E k).length:=⟨_,rfl⟩
     have Q:=Uz E k;have HN:=G hn;rw[<-hn]at Q T ⊢;clear hn;go_upto_region 11 with fail;go_region_law (refine Jw rfl (.tmp 44) (.tmp 57) 48 rfl (eb+1) 3 i0 _ 1 8 underlying48 ai aj ak al rfl (by decide) _ n _ rfl (T.alloc _) ⟨wr.heap.size,0,O⟩ 2 2 [I J E.edges[k].1,I J E.edges[k].2] rfl rfl (by exact A1 _ [I J E.edges[k].1,I J E.edges[k].2] _) (by intro u hu;simp at hu;rcases hu with rfl|rfl<;>rfl) (by unfold maxLen;omega) (by omega) (by have:=hs.out;simp;omega) ?_;intro a1 k1 w1 ac y);all_goals
      obtain⟨hl2,t,ab,ad⟩:=vL T P hs HN (qS E k d) (Amj _ _) y ac;rw[hl2];have B:=G t;have m:=G ab;have C:=G ad;clear ac y t ab ad hl2 q0 q1 c0 c1 D H K L s A M N T P hs HN Q;go_wp2_with fail;go_roundw;case rel=>exact⟨k+1,a1,k1,by omega,by go_num,rfl,B,m,C⟩
      case measure=>simp[intOf];omega
    ·obtain rfl:k=E.edges.length:=by omega
     have e0:Nt E E.edges.length=Il E:=by simp[Il,Nt]
     have Q:=Uz E E.edges.length;rw[e0]at T Q ⊢;have o:=G (Ge T.out);have a:=P;clear e0 d T P hs;go_wp2_with fail;clear c0 c1 D H K L s A M N ba;generalize a4:wr=wo at o a ⊢;clear a4;go_loopw [6] (fun s6 wr=>∃i q:Nat,i<=(Il E).length/\s6=I J i/\wr=wo.drewN q/\Hid (∀j (hj:j<(Il E).length),j<i->¬((Il E)[j]<0\/(E.points.length:Int)<=(Il E)[j]))) (fun s6 _=>(Il E).length-(intOf s6).toNat);case atStart=>exact⟨0,0,In _,rfl,rfl,fun j _ h=>by omega⟩
     case round=>
      obtain⟨i,q,hi,rfl,rfl,an⟩:=hrel;have aa:=G (Ag q a.bel);by_cases d:i<(Il E).length
      ·obtain⟨b,off,rfl,_,_,hc⟩:=I4 o (by omega);have q0:=hc i d;clear hc;obtain⟨c0,c1,D,H,K,L,s,A,M,N⟩:=a.cells;obtain⟨ap,kp,bi⟩:=a.sl.p.val;rw[bi]at D;clear bi c0 c1 H K L s A M N;by_cases h1:(Il E)[i]<0
       ·have HB:=G (V9 d (.inl h1));go_wp2_with fail;go_quiet (fail);go_wp2_with fail;go_ret;exact⟨Am HB.symm,Ag _ aa.out⟩
       ·have b2:decide ((Il E)[i]<0)=false:=N1 h1;by_cases h2:(E.points.length:Int)<=(Il E)[i]
        ·have HB:=G (V9 d (.inr h2));go_wp2_with fail;go_quiet (fail);go_wp2_with fail;go_ret;exact⟨Am HB.symm,Ag _ aa.out⟩
        ·have bm:=G (show ¬((Il E)[i]<0\/(E.points.length:Int)<=(Il E)[i])from fun h=>h.elim h1 h2);go_wp2_with fail;go_quiet (fail);go_wp2_with fail;go_roundw;case rel=>
          exact⟨i+1,_,by omega,by go_num,rfl,(show ∀j (hj:j<(Il E).length),j<i+1->¬((Il E)[j]<0\/(E.points.length:Int)<=(Il E)[j])from fun j hj b4=>by
           by_cases e:j=i
           ·subst e;exact bm.out
           ·exact an j hj (by omega))⟩
         case measure=>simp[intOf];omega
      ·have HB:=G (rB (E:=E) (fun j hj=>an j hj (by omega)));go_wp2_with fail;go_ret;exact⟨Am HB.symm,aa.out⟩
