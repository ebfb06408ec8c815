import Derived.Test.YtikehilbmldadaaGreatDoorP08
import Derived.Test.YtikehilbmldadaaGreatDoorP12
import Derived.LaidLaws
import Derived.LaidHandle
import Derived.Stop.Joined
set_option maxHeartbeats 4000000
set_option maxRecDepth 100000
set_option linter.unusedVariables false
namespace Go.Proofs.YtikehilbmldadaaGreatDoor
open Proofs.Tryz YtikehilbmldadaaGreatDoor.Tryz RowKit
open Go renaming World->V,Value->ZE,RowKit.Below->ZF,Calls->ZH,Value.int->I,IntKind.i64->J,Value.slice->F,Value.pointer->ZA,Value.string->ZB,Ending.returned->ZD,Value.agg->ZJ,Proofs.Tryz.prog->ZI
open Option renaming some->U,none->O
def Am0(l:Nat)(w:V):ZE:=(w.cell? ⟨l,0,O⟩).getD undef
theorem Ml{w:V}{l:Nat}{p:Option Addr}{E:Ak}{g e ve d vl:ZE}(h:w.heap[l]? =U (Lw p E g e ve d vl)):
  (w.cell? ⟨l,0,O⟩=U (Am0 l w)/\w.frozen? ⟨l,0,O⟩=false)/\w.cell? ⟨l,1,O⟩=U (ZB E.name)/\w.cell? ⟨l,2,O⟩=U (I J E.tol)/\w.cell? ⟨l,3,O⟩=U g/\w.cell? ⟨l,4,O⟩=U (I J E.count)/\
  w.cell? ⟨l,5,O⟩=U (I J E.mn)/\w.cell? ⟨l,6,O⟩=U (I J E.mx)/\w.cell? ⟨l,7,O⟩=U e/\w.cell? ⟨l,8,O⟩=U ve/\w.cell? ⟨l,9,O⟩=U d/\w.cell? ⟨l,10,O⟩=U vl:=by
 obtain⟨c0,c1,i,j,m,n,o,q,s,t,a,u⟩:=D8 h;exact⟨⟨by unfold Am0;rw[c0];rfl,u 0⟩,c1,i,j,m,n,o,q,s,t,a⟩
theorem Aen{w:V}{l:Nat}{p:Option Addr}{E:Ak}{e d ve a vl:ZE}(h:w.heap[l]? =U (Lw p E e d ve a vl))(q:Option Addr):(w.setCell ⟨l,0,O⟩ (ZA q)).heap[l]? =U (Lw q E e d ve a vl):=by
 unfold Lw at h ⊢;rw[Ah _ h];rfl
theorem W7{w w1 w2 w3 W:V}{l a g f hi i:Nat}{t:Option Nat}{E:Ak}{D C ve B vl:ZE}(h1:w.heap[l]? =U (Lw O E D C ve B vl))(K:E.gaps.length<=100)
  (L:w.heap.size<=a) (v:w1.heap[a]? =U (Iu (Mw E) E.mn E.mx 0)) (q:ZF w.heap.size w w1)
  (Q:w1.heap.size<=g) (A:Hm i t w2 g (E.gaps.map gs0) false) (s:∀b,t=U b->w1.heap.size<=b) (o:ZF w1.heap.size w1 w2)
  (y:Ex w2.heap.size hi E E.edges w3 f (-1) false) (n:ZF w2.heap.size w2 w3)
  (u:W=(w3.alloc (Ij a g f false false 0)).setCell ⟨l,0,O⟩ (ZA (U ⟨w3.heap.size,0,O⟩))):
  G5 l w.heap.size (w3.heap.size+1) E D C ve B vl (Iq E) W/\Ac (· =l) w W:=by
 have X:=Aa h1;have s1:=q.size;have s2:=o.size;have Y:=n.size;have M:=Aa v;have j:=A.lt;have N:=y.ftop;have p:Ac (fun _=>False) w3 (w3.alloc (Ij a g f false false 0)):=(Ac.refl _ _).alloc _;have m:Ac (· =l) (w3.alloc (Ij a g f false false 0)) W:=by rw[u];exact Af _ l 0 _
 have T:=(Al n).get ((Al o).get ((Al q).get h1 id) id) id;have H:=Ab w3 (Ij a g f false false 0);refine⟨⟨⟨w3.heap.size,a,g,f,t,i,w2.heap.size,hi,?_,?_⟩,by omega⟩,?_⟩
 ·rw[u];exact Aen (Bp _ T) _
 ·refine⟨⟨by omega,by omega,by omega,fun b d=>?_,by omega,by omega,by omega,fun d=>?_,by omega,?_,fun d=>?_,by omega,by omega,fun b d=>?_⟩,?_,?_,?_,?_,xD E K,?_⟩
  ·have h:=s b d;have h2:=(j.2.2 b d).2;omega
  ·have h2:=(j.2.2 _ d).2;omega
  ·omega
  ·have h:=s _ d;omega
  ·have h2:=(j.2.2 b d).2;omega
  ·exact m.get H (by omega)
  ·exact m.get (p.get ((Al n).get ((Al o).get v id) id) id) (by omega)
  ·exact((A.keep (Al n) (fun _ _ h=>h)).keep p (fun _ _ h=>h)).keep m (fun b d e=>by
    rcases d with h|h
    ·omega
    ·have:=s b h;omega)
  ·exact(y.keep p (fun _ _ _ h=>h)).keep m (fun b h1 h2 e=>by omega)
  ·have:=m.size;rw[H7]at this;exact this
 ·have R:Ac (· =l) w w3:=(((Al q).trans (Ac.step (S:=fun _=>False) (Ac.refl _ w1) (Al o) (fun _ h _=>h))).mono (fun _ _ h=>h.elim)).step (Al n) (fun _ h _=>h.elim);exact(R.step p (fun _ h _=>h.elim)).trans m
theorem Yo(R:Nat->Prop)(l:Nat)(E:Ak)(X T ve S vl:ZE)(w:V)(h1:w.heap[l]? =U (Lw O E X T ve S vl))(h:Dk R w E X T ve S vl)(B:∀b,R b->b<w.heap.size)(A:O7 E):
  ZH ZI 49 #[ZA (U ⟨l,0,O⟩)] w fun e w'=>e=ZD .nilIface/\∃t,G5 l w.heap.size t E X T ve S vl (Iq E) w'/\Ac (· =l) w w':=by
 obtain⟨pa,K,rfl⟩:=h.p.val;obtain⟨ga,n,rfl⟩:=h.g.val;obtain⟨s,u,rfl⟩:=h.e.val;obtain⟨v,y,rfl⟩:=h.f.val;obtain⟨D,H,rfl⟩:=h.l.val;have hA:Hid (∀W,ZF w.heap.size w W->ZH ZI 89 #[ZJ #[ZB E.name,I J E.tol,F pa E.points.length K,I J E.count,I J E.mn,I J E.mx,F ga E.gaps.length n,F s E.edges.length u,F v E.first.length y,F D E.last.length H]] W
   fun e w'=>∃a,e=ZD (ZA (U ⟨a,0,O⟩))/\w.heap.size<=a/\w'.heap[a]? =U (Iu (Mw E) E.mn E.mx 0)/\ZF w.heap.size w w'):=by
  intro W d;refine(tT _ _ _ _ _ _ _ _ _ _ _ _ W).mono ?_;rintro e w1 ⟨a,rfl,q1,q2,j⟩;exact⟨a,rfl,No d.size q1,q2,d.trans (j.mono d.size)⟩
 have hG:Hid (∀W,ZF w.heap.size w W->ZH ZI 90 #[ZJ #[ZB E.name,I J E.tol,F pa E.points.length K,I J E.count,I J E.mn,I J E.mx,F ga E.gaps.length n,F s E.edges.length u,F v E.first.length y,F D E.last.length H]] W
   fun e w'=>∃g o i,e=ZD (ZA (U ⟨g,0,O⟩))/\W.heap.size<=g/\Hm i o w' g (E.gaps.map gs0) false/\(∀b,o=U b->W.heap.size<=b)/\ZF W.heap.size W w'/\ZF w.heap.size w w'):=by
  intro W d;refine(yF R _ _ _ _ _ _ _ _ _ E.gaps ga n W (h.g.below d B) (Lv B d) A.g).mono ?_;rintro e w1 ⟨rfl,⟨o,C⟩,j⟩;exact⟨_,o,_,rfl,by omega,C,fun b hb=>by have:=(C.lt.2.2 b hb).1;omega,j,d.trans (j.mono d.size)⟩
 have hF:Hid (∀W,ZF w.heap.size w W->ZH ZI 91 #[ZJ #[ZB E.name,I J E.tol,F pa E.points.length K,I J E.count,I J E.mn,I J E.mx,F ga E.gaps.length n,F s E.edges.length u,F v E.first.length y,F D E.last.length H]] W
   fun e w'=>∃f hi,e=ZD (ZA (U ⟨f,0,O⟩))/\Ex W.heap.size hi E E.edges w' f (-1) false/\ZF W.heap.size W w'/\ZF w.heap.size w w'):=by
  intro W d;refine(yK R E _ _ _ _ _ W (h.below d B) (Lv B d) A).mono ?_;rintro e w1 ⟨f,hi,rfl,N,j⟩;exact⟨f,hi,rfl,N,j,d.trans (j.mono d.size)⟩
 have m:=G h1;have M:=A.g;obtain⟨c0,c1,c2,c3,c4,c5,c6,c7,c8,c9,ab,cf⟩:=D8 h1;have aj:=Aa h1;clear h1 h A;go_enter func49,ntmps49;go_wp2_with fail;go_region_held3 (fun w'=>(w'.cell? ⟨l,0,O⟩=U (Am0 l w')/\w'.frozen? ⟨l,0,O⟩=false)/\w'.cell? ⟨l,1,O⟩=U (ZB E.name)/\w'.cell? ⟨l,2,O⟩=U (I J E.tol)/\w'.cell? ⟨l,3,O⟩=U (F pa E.points.length K)/\w'.cell? ⟨l,4,O⟩=U (I J E.count)/\
  w'.cell? ⟨l,5,O⟩=U (I J E.mn)/\w'.cell? ⟨l,6,O⟩=U (I J E.mx)/\w'.cell? ⟨l,7,O⟩=U (F ga E.gaps.length n)/\w'.cell? ⟨l,8,O⟩=U (F s E.edges.length u)/\w'.cell? ⟨l,9,O⟩=U (F v E.first.length y)/\w'.cell? ⟨l,10,O⟩=U (F D E.last.length H))
  (first|exact Ml m.out|exact Ml l1.out|exact Ml l2.out|exact Ml Q.out|exact Ml (Bp _ Q.out)|exact Ml (Aen (Bp _ Q.out) _))
  (first|(go_at_call 89;refine(hA _ ?_).mono ?_;(repeat(first|exact R1 _ _|refine H5 ?_));rintro e w1 ⟨a,rfl,qa,ha,L⟩;have l1:=G ((Al L).get m id))|(go_at_call 90;refine(hG _ ?_).mono ?_;(repeat(first|exact L|refine H5 ?_));rintro e q ⟨g,o,i,rfl,qg,C,hr,d2,Z⟩;have l2:=G ((Al Z).get m id))|(go_at_call 91;refine(hF _ ?_).mono ?_;(repeat(first|exact Z|refine H5 ?_));rintro e Y ⟨f,hi,rfl,N,d3,b3⟩;have Q:=G ((Al b3).get m id)))
 all_goals(go_wp2_with fail)
 go_ret;have e2:ZF w1.heap.size w1 q:=⟨d2.os,d2.tape,d2.output,d2.size,d2.block⟩
 have e3:ZF q.heap.size q Y:=⟨d3.os,d3.tape,d3.output,d3.size,d3.block⟩
 have fin:=W7 (w:=w) (w1:=w1) (w2:=q) (w3:=Y) m M qa ha L qg C hr e2 N e3 rfl;exact⟨rfl,_,fin⟩
def Fd(E:Ak)(l:List Bm):Int:=match l.getLast? with|none=>-1|some m=>Ds E m.point
theorem Q7(E:Ak)(l:List Bm)(m:Bm):Fd E (l++ [m])=Ds E m.point:=by simp[Fd]
theorem yJ(E:Ak)(p:Int):Ds E p= -1\/0<=Ds E p:=by
 unfold Ds;split
 ·exact .inl rfl
 ·right;omega
theorem tD(E:Ak)(l:List Bm):Fd E l= -1\/0<=Fd E l:=by
 unfold Fd;split
 ·exact .inl rfl
 ·exact yJ _ _
def Oq(E:Ak)(ahead:List Bm)(m:Bm)(c:Int):Bool:=decide (m.cycle=c)&& !Fz E (Fd E ahead) m.point
def D9(E:Ak)(l:List Bm)(c:Int)(n:Nat):Bool:=(List.range n).any fun i=>match l[i]? with|some m=>Oq E (l.take i) m c|none=>false
theorem Sk(E:Ak)(l:List Bm)(c:Int)(n:Nat)(a:n<l.length):D9 E l c (n+1)=(D9 E l c n||Oq E (l.take n) l[n] c):=by
 unfold D9;rw[Zz4,List.any_append];simp[a]
theorem gZ(E:Ak)(l:List Bm)(c:Int)(n m:Nat)(h:D9 E l c n=true)(d:n<=m):D9 E l c m=true:=by
 unfold D9 at h ⊢;rw[Zy5]at h ⊢;obtain⟨i,hi,a⟩:=h;exact⟨i,by rw[List.mem_range]at hi ⊢;omega,a⟩
theorem gY(E:Ak)(l:List Bm)(m:Bm)(c:Int):D9 E (l++ [m]) c (l++ [m]).length=(D9 E l c l.length||Oq E l m c):=by
 have e:(l++ [m]).length=l.length+1:=by simp
 rw[e,Sk _ _ _ _ (by omega)];have h1:(l++ [m]).take l.length=l:=by simp
 have h2:(l++ [m])[l.length]'(by omega)=m:=by simp
 rw[h1,h2];congr 1;unfold D9;rw[Bool.eq_iff_iff,Zy5,Zy5];constructor<;>rintro⟨i,hi,d⟩<;>refine⟨i,hi,?_⟩<;>have a:=List.mem_range.1 hi
 ·rw[Zz9 a,Zym (by omega)]at d;exact d
 ·rw[Zz9 a,Zym (by omega)];exact d
theorem Y6(E:Ak)(l:List Bm)(c:Int)(h:∀m∈l,m.cycle≠c):D9 E l c l.length=false:=by
 unfold D9;rw[Zy1];intro i hi;have a:=List.mem_range.1 hi;rw[R4 a];simp[Oq,h l[i] (M2 _)]
def Aiu(P:Program)(t:TypeId):Prop:=∀(w:V) (a b c d:Int),(Op.equalIn 10000 t (ZJ #[I J a,I J b]) (ZJ #[I J c,I J d])).run P w=.ok (decide ((a,b)=(c,d))) w
theorem Tryz.pairEq:Aiu ZI 127:=fun w a b c d=>pairMap.equal w (a,b) (c,d)
theorem tC(R:Nat->Prop)(E:Ak)(vp vg ve Z vl:ZE)(a p:Int)(w:V)(h:Dk R w E vp vg ve Z vl)(T:∀b,R b->b<w.heap.size)(hL:O7 E)(X:a= -1\/0<=a):
  ZH ZI 284 #[ZJ (As E vp vg ve Z vl),I J a,I J p] w fun e w'=>e=ZD (.bool (Fz E a p))/\ZF w.heap.size w w':=by
 obtain⟨pa,pc,rfl⟩:=h.p.val;obtain⟨ga,gc,rfl⟩:=h.g.val;obtain⟨N,Q,rfl⟩:=h.e.val;obtain⟨fa,fc,rfl⟩:=h.f.val;obtain⟨la,lc,rfl⟩:=h.l.val;have H:=G h;have le:=hL.e;have d:=Tryz.pairEq;unfold Aiu at d;clear h;unfold As;go_enter func284,ntmps284;by_cases h0:E.edges= []
 ·have i:=G (Uo E a p h0);have A:E.edges.length=0:=by rw[h0];rfl
  clear h0;go_wp2_with fail;go_ret;exact⟨Am i.symm,(R1 _ _).alloc (Y2 _) _⟩
 have A:0<E.edges.length:=List.length_pos_iff.2 h0;by_cases h1:p<0\/(E.points.length:Int)<=p
 ·have i:=G (Q6 E a p h0 h1);clear h0;rcases h1 with h1|h1
  ·go_wp2_with fail;go_ret;exact⟨Am i.symm,(R1 _ _).alloc (Y2 _) _⟩
  ·have h2:¬p<0:=by omega
   go_wp2_with fail;go_ret;exact⟨Am i.symm,(R1 _ _).alloc (Y2 _) _⟩
 have h2:¬p<0:=by omega
 have h3:¬(E.points.length:Int)<=p:=by omega
 by_cases B:a= -1
 ·subst B;have i:=G (Sj E p h0 h1);clear h0 h1 X;go_wp2_with fail;refine(Q5 R E.first _ p _ (H.f.below ((R1 _ _).alloc (Y2 _) _) T)).mono ?_;rintro e w' ⟨rfl,rfl⟩;go_wp2_with fail;go_ret;exact⟨Am i.symm,(R1 _ _).alloc (Y2 _) _⟩
 ·have i:=G (Up E a p h0 h1 B);have af:0<=a:=by omega
  clear h0 h1 X B;go_wp2_with fail;generalize o:w.alloc _=wa;have D:ZF w.heap.size w wa:=by rw[<-o];exact(R1 _ _).alloc (Y2 _) _
  have y:wa.cell? ⟨w.heap.size,7,O⟩=U (F N E.edges.length Q):=by rw[<-o];exact(Bo (Ab w _)).2.2.2.2.2.2.2.1
  clear o;go_loopw [7] (fun s wr=>∃k:Nat,k<=E.edges.length/\s=I J k/\ZF w.heap.size w wr/\wr.cell? ⟨w.heap.size,7,O⟩=U (F N E.edges.length Q)/\Hid (∀j (t:j<E.edges.length),j<k->E.edges[j]≠(a,p))) (fun s _=>E.edges.length-(intOf s).toNat);case atStart=>exact⟨0,In _,rfl,D,y,fun j t h=>by omega⟩
  case round=>
   obtain⟨k,hk,rfl,u,y,m⟩:=hrel;by_cases n:k<E.edges.length
   ·obtain⟨eb,S,rfl,C,_,K⟩:=H.e.elem (f:=Cn) (fun _=>rfl) (by decide) (by omega);have Y:=K k n 0 _ rfl;have q1:=K k n 1 _ rfl;rw[<-u.cell (T eb C)]at Y q1;rw[Zzw]at Y;clear K;by_cases q:E.edges[k]=(a,p)
    ·have v:=G (show(a,p)∈E.edges from q▸M2 n);have M:=fun w=>d w E.edges[k].1 E.edges[k].2 a p;rw[On (show(E.edges[k].1,E.edges[k].2)=(a,p)from q)]at M;clear q d;go_wp2_with fail;go_ret;exact⟨Am ((On v.out).symm.trans i.symm),u⟩
    ·have M:=fun w=>d w E.edges[k].1 E.edges[k].2 a p;rw[N1 (show ¬(E.edges[k].1,E.edges[k].2)=(a,p)from q)]at M;have HX:=G q;clear q d;go_wp2_with fail;go_roundw;case rel=>
      refine⟨k+1,by omega,by go_num,u,y,fun j t h=>?_⟩;by_cases L:j=k
      ·subst L;exact HX.out
      ·exact m j t (by omega)
     case measure=>simp[intOf];omega
   ·have v:=G (show(a,p)∉E.edges from fun h=>by
     obtain⟨j,t,e⟩:=List.mem_iff_getElem.1 h;exact m j t (by omega) e)
    go_wp2_with fail;go_ret;exact⟨Am ((N1 v.out).symm.trans i.symm),u⟩
theorem Y7(E:Ak)(l:List Bm):Fd E (l.take 0)= -1:=by simp[Fd]
theorem Y8(E:Ak)(l:List Bm)(k:Nat)(a:k<l.length):Fd E (l.take (k+1))=Ds E l[k].point:=by
 rw[If a,Q7]
theorem hU(R:Nat->Prop)(E:Ak)(l:List Bm)(i:Nat)(u t ve s vl v:ZE)(w:V)(h:Dk R w E u t ve s vl)(m:Av R w v 3 (l.flatMap Dn) l.length)(n:∀b,R b->b<w.heap.size)(T:l.length<=1000)(hi:i<=l.length):
  ZH ZI 285 #[ZJ (As E u t ve s vl),v,I J i] w fun e w'=>e=ZD (I J (Fd E (l.take i)))/\ZF w.heap.size w w':=by
 obtain⟨pa,pc,rfl⟩:=h.p.val;obtain⟨ga,S,rfl⟩:=h.g.val;obtain⟨L,M,rfl⟩:=h.e.val;obtain⟨N,Q,rfl⟩:=h.f.val;obtain⟨X,Y,rfl⟩:=h.l.val;obtain⟨Z,mc,rfl⟩:=m.val;have H:=G h;have y:=G m;clear h m;unfold As;go_enter func285,ntmps285;cases i with
 |zero=>
  have a:=G (Y7 E l);go_wp2_with fail;go_ret;exact⟨A6 a.symm,(R1 _ _).alloc (Y2 _) _⟩
 |succ k=>
  obtain⟨D,q,rfl,j,_,o⟩:=Pj y (by omega);obtain⟨K,_,_⟩:=o k (by omega);clear o;have a:=Y8 E l k (by omega);have d:=G a;have C:(((k+1:Nat):Int)==0)=false:=by simp;omega
  have B:(((k+1:Nat):Int)-1)=k:=by omega
  have A:=n D j;clear a;generalize l[k].point=p at K d;by_cases h1:p<0
  ·have a:=G (d.trans (Um E p h1));go_wp2_with fail;go_ret;exact⟨A6 a.symm,(R1 _ _).alloc (Y2 _) _⟩
  by_cases h2:(E.points.length:Int)<=p
  ·have a:=G (d.trans (Si E p h2));go_wp2_with fail;go_ret;exact⟨A6 a.symm,(R1 _ _).alloc (Y2 _) _⟩
  go_wp2_with fail;refine(Q5 R E.last _ p _ (H.l.below ((R1 _ _).alloc (Y2 _) _) n)).mono ?_;rintro e w' ⟨rfl,rfl⟩;by_cases h3:p∈E.last
  ·have a:=G (d.trans (Sh E p h3));rw[On h3];go_wp2_with fail;go_ret;exact⟨A6 a.symm,(R1 _ _).alloc (Y2 _) _⟩
  ·have a:=G (d.trans (Wq E p (by omega) (by omega) h3));rw[N1 h3];go_wp2_with fail;go_ret;exact⟨A6 a.symm,(R1 _ _).alloc (Y2 _) _⟩
theorem Akc{B C:Nat}{w1 w':V}(a:B<w1.heap.size)(d:C<w1.heap.size)(h:ZF w1.heap.size w1 w'):(∀o,w'.cell? ⟨B,o,O⟩=w1.cell? ⟨B,o,O⟩)/\(∀o,w'.cell? ⟨C,o,O⟩=w1.cell? ⟨C,o,O⟩)/\ZF w1.heap.size w1 w':=
 ⟨fun o=>h.cell (p:=⟨B,o,O⟩) a,fun o=>h.cell (p:=⟨C,o,O⟩) d,h⟩
theorem yN(R:Nat->Prop)(E:Ak)(l:List Bm)(c:Int)(vp vg ve vf vl v:ZE)(w:V)(h:Dk R w E vp vg ve vf vl)(hm:Av R w v 3 (l.flatMap Dn) l.length)(t:∀b,R b->b<w.heap.size)(hL:O7 E)(hl:l.length<=1000):
    ZH ZI 255 #[ZJ (As E vp vg ve vf vl),v,I J c] w fun e w'=>e=ZD (.bool (D9 E l c l.length))/\ZF w.heap.size w w':=by
  obtain⟨pa,L,rfl⟩:=h.p.val;obtain⟨ga,gc,rfl⟩:=h.g.val;obtain⟨ea,ec,rfl⟩:=h.e.val;obtain⟨fa,fc,rfl⟩:=h.f.val;obtain⟨la,lc,rfl⟩:=h.l.val;obtain⟨ma,mc,rfl⟩:=hm.val;have H:=G h;have HM:=G hm;clear h hm;unfold As;go_enter func255,ntmps255;go_wp2_with fail;generalize D:w.alloc _=wa;have S:ZF w.heap.size w wa:=by rw[<-D];exact(R1 _ _).alloc (Y2 _) _
  have aa:wa.heap[w.heap.size]? =U (.cells (As E (F pa E.points.length L) (F ga E.gaps.length gc) (F ea E.edges.length ec) (F fa E.first.length fc) (F la E.last.length lc)) 50):=by rw[<-D];exact Ab w _
  have Q:=G aa;clear D aa;go_loopw [7] (fun s wr=>∃i:Nat,i<=l.length/\s=I J i/\ZF w.heap.size w wr/\Hid (wr.heap[w.heap.size]? =U (.cells (As E (F pa E.points.length L) (F ga E.gaps.length gc) (F ea E.edges.length ec) (F fa E.first.length fc) (F la E.last.length lc)) 50))/\Hid (D9 E l c i=false)) (fun s _=>l.length-(intOf s).toNat);case atStart=>exact⟨0,In _,rfl,S,Q,rfl⟩
  case round=>
    obtain⟨i,hi,rfl,a,Y,hg⟩:=hrel;clear Q S;by_cases T:i<l.length
    · obtain⟨n,j,rfl,y,_,hc⟩:=Pj HM (by omega)
      obtain⟨q0,q1,q2⟩:=hc i T;rw[<-a.cell (p:=⟨n,j+i*3,O⟩) (t n y)]at q0;rw[<-a.cell (p:=⟨n,j+i*3+2,O⟩) (t n y)]at q2;clear hc q1;have C:=Y.out;unfold As at C;obtain⟨c0,c1,c2,c3,c4,c5,c6,c7,c8,c9,cf⟩:=Bo C;clear C cf;have ai:=t n y;have am:=Aa Y.out;have X:n<wr.heap.size:=F5 ai a.size;have ha:=tD E (l.take i);have u:=fun W (m:ZF wr.heap.size wr W)=>hU R E l i (F pa E.points.length L) (F ga E.gaps.length gc) (F ea E.edges.length ec) (F fa E.first.length fc) (F la E.last.length lc) (F (U ⟨n,j,O⟩) l.length mc) W (Dk.below H (a.trans (m.mono a.size)) t) (Av.below HM (a.trans (m.mono a.size)) t) (Lv t (a.trans (m.mono a.size))) hl hi;have A:=fun W (m:ZF wr.heap.size wr W)=>tC R E (F pa E.points.length L) (F ga E.gaps.length gc) (F ea E.edges.length ec) (F fa E.first.length fc) (F la E.last.length lc) (Fd E (l.take i)) l[i].point W (Dk.below H (a.trans (m.mono a.size)) t) (Lv t (a.trans (m.mono a.size))) hL ha;simp only[As]at u A;have M:=G u;have N:=G A;clear u A ha;go_upto_region 4 with fail;go_cut [8] (fun s wx=>s=.bool (Fz E (Fd E (l.take i)) l[i].point)/\ZF wr.heap.size wr wx);case first=>
       go_region_held3 (fun w'=>(∀o,w'.cell? ⟨w.heap.size,o,O⟩=wr.cell? ⟨w.heap.size,o,O⟩)/\(∀o,w'.cell? ⟨n,o,O⟩=wr.cell? ⟨n,o,O⟩)/\ZF wr.heap.size wr w')
        (first|(refine Akc am X ?_;repeat(first|exact R1 _ _|assumption|refine H5 ?_|refine Dp ?_ _|refine Hc ?_ (by assumption))))
        (first|(go_at_call_of 285 (Value.slice pa E.points.length L);refine(M _ ?_).mono ?_;(repeat(first|exact R1 _ _|assumption|refine H5 ?_|refine Dp ?_ _|refine Hc ?_ (by assumption)));rintro e wf ⟨rfl,bf⟩)|(go_at_call_of 284 (Value.slice pa E.points.length L);refine(N _ ?_).mono ?_;(repeat(first|exact R1 _ _|assumption|refine H5 ?_|refine Dp ?_ _|refine Hc ?_ (by assumption)));rintro e wl ⟨rfl,bl⟩))
       all_goals(go_wp2_with fail;go_meet)
       all_goals exact⟨rfl,by repeat(first|exact R1 _ _|assumption|refine H5 ?_|refine Dp ?_ _|refine Hc ?_ (by assumption))⟩
      case rest=>
      obtain⟨rfl,m⟩:=hcut;have q:=Sk E l c i T;rw[hg.out,Bool.false_or]at q;unfold Oq at q;have B:=a.trans (m.mono a.size);have Z:=G (Ae m Y (Aa Y.out));rw[<-m.cell (p:=⟨n,j+i*3+2,O⟩) X]at q2;have K:=G q;clear q q0 c0 c1 c2 c3 c4 c5 c6 c7 c8 c9 M N Y m;generalize Fz E (Fd E (l.take i)) l[i].point=ok at K ⊢;by_cases d:l[i].cycle=c
      · have aj:(l[i].cycle==c)=true:=beq_iff_eq.2 d
        rw[On d]at K;have az:=G d;clear d;cases ok
        · have hF:D9 E l c l.length=true:=gZ _ _ _ _ _ K (show i+1<=l.length by omega)
          have HF:=G hF;clear hF;go_wp2_with fail;go_ret;exact⟨Am HF.symm,B⟩
        · go_wp2_with fail
          go_roundw;case rel=>exact⟨i+1,by omega,by go_num,B,Z,K⟩
          case measure=>simp[intOf];omega
      · have aj:(l[i].cycle==c)=false:=by simp[d]
        rw[N1 d,Bool.false_and]at K;clear d;go_wp2_with fail;go_roundw;case rel=>exact⟨i+1,by omega,by go_num,B,Z,K⟩
        case measure=>simp[intOf];omega
    · have ak:i=l.length:=by omega
      subst ak;go_wp2_with fail;go_ret;exact⟨Am hg.symm,a⟩
section
open Go.ChangeShapes Go.WideShapes Go.ChangeAt Go.RowKit
def kV(t:List UInt8):DataW Unit:=.iface "*errors.errorString" (.ptr (.agg [.lit (.string t)]))
theorem Tryz.starE: "*"++ "errors.errorString"= "*errors.errorString":=by decide
theorem Tryz.rowE(u:TypeId)(h:ZI.typeName? 3 u=U "*errors.errorString"):u=372:=
 typeName_ptr_named (nm:= "errors.errorString") (by rw[starE];kernel_rfl) (by kernel_rfl) (by decide) u (by rw[starE];exact h)
theorem Tryz.cellsE:ZI.cellsOf 374=1:=by kernel_rfl
theorem Tryz.cellsS:ZI.cellsOf 9=1:=by kernel_rfl
section
variable {P:Program} {ti tp te ts:TypeId} {ms:Array (String × TypeId)} {f:Field}
theorem pV(hi:P.underlying ti=U (.interface ms))(d:∀u,P.typeName? 3 u=U "*errors.errorString"->u=tp)(D:P.underlying tp=U (.pointer te))(C:P.underlying te=U (.struct #[f]))(m:f.type=ts)(l:f.offset=0)
  (E:P.underlying ts=U .string) (B:P.cellsOf te=1) (j:P.cellsOf ts=1) {W:V}:
  ∀(L:List (String × List UInt8)) (gs:List Nat),gs.length=L.length->(∀k (h1:k<L.length) (h2:k<gs.length),P.globalNamed (L[k]).1=U gs[k]/\(P.globals[gs[k]]?).map (·.type)=U ti)->
  ∀ps,DataW.LaidVars P W (L.map fun x=>(x.1,kV x.2)) ps->ps.Nodup->
  (∀b off,MemPlace.cell b off∈ps->(∃c t,W.heap[b]? =U (.cells c t (0,0)))/\∀u v,W.cell? ⟨b,off,O⟩=U (.iface u v)->Value.okWide P W .any 0 u v)->
  ∃bs:List Addr,bs.length=L.length/\bs.Nodup/\(∀a∈bs,a.spot=O/\MemPlace.cell a.block a.off∈ps)/\∀k (h1:k<L.length) (h2:k<gs.length) (h3:k<bs.length),W.cell? ⟨gs[k],0,O⟩=U (.iface tp (ZA (U bs[k])))
 |[],gs,_,_,ps,_,_,_=>⟨[],rfl,List.nodup_nil,(fun a ha=>by simp at ha),(fun k h=>by simp at h)⟩
 |x::L,[],hl,_,_,_,_,_=>by simp at hl
 |x::L,g::gs,hl,hg,ps,hv,hnd,hrows=>by
  obtain⟨g0,t0,cs0,f0,p0,q0,hg0,ht0,hv0,hd0,hr0,rfl⟩:=hv
  have n:P.globalNamed x.1=U g/\(P.globals[g]?).map (·.type)=U ti:=hg 0 (by simp) (by simp)
  obtain rfl:g=g0:=Option.some.inj (n.1.symm.trans hg0)
  obtain rfl:ti=t0:=Option.some.inj (n.2.symm.trans ht0)
  obtain⟨l0⟩:=cs0
  have s:∀u v,l0= [.iface u v]->Value.okWide P W .any 0 u v:=fun u v e=>by
   subst e
   exact(hrows g 0 (by simp[MemPlace.row])).2 u v (by simpa using Zxu hg0 hv0 0)
  obtain⟨i,s0,rfl,p,M,N,rfl⟩:=errorString_of_trod hi d D C m l E B j hd0 s
  have o:MemPlace.cell i.block i.off∈MemPlace.row i 1:=by simp[MemPlace.row]
  obtain⟨bs,h1,h2,h3,H⟩:=pV hi d D C m l E B j L gs (by simpa using hl) (fun k y A=>by
   have:=hg (k+1) (by simpa using y) (by simpa using A)
   simpa using this) q0 hr0 ((List.nodup_append.1 hnd).2.1) (fun b off q=>hrows b off (Zzz _ q))
  refine⟨i::bs,by simp[h1],List.nodup_cons.2 ⟨fun q=>?_,h2⟩,fun a ha=>?_,fun k y A Q=>?_⟩
  ·have K:=(h3 i q).2
   exact(List.nodup_append.1 hnd).2.2 _ (Zzz _ o) _ K rfl
  ·rcases List.mem_cons.1 ha with rfl|ha
   ·exact⟨World.cell?_spot p,Zzf _ (Zzz _ o)⟩
   ·exact⟨(h3 a ha).1,Zzz _ (h3 a ha).2⟩
  ·cases k with
   |zero=>simpa using Zxu hg0 hv0 0
   |succ k=>exact H k (by simpa using y) (by simpa using A) (by simpa using Q)
end
def Ts:List (String × List UInt8):=[("nightwatch/api.ErrText",[110,105,103,104,116,119,97,116,99,104,58,32,116,101,120,116]),("nightwatch/api.ErrBound",[110,105,103,104,116,119,97,116,99,104,58,32,98,111,117,110,100]),
 ("nightwatch/api.ErrShape",[110,105,103,104,116,119,97,116,99,104,58,32,115,104,97,112,101]),("nightwatch/api.ErrName",[110,105,103,104,116,119,97,116,99,104,58,32,110,97,109,101]),
 ("nightwatch/api.ErrNone",[110,105,103,104,116,119,97,116,99,104,58,32,110,111,110,101]),("nightwatch/api.ErrExist",[110,105,103,104,116,119,97,116,99,104,58,32,101,120,105,115,116]),
 ("nightwatch/api.ErrFull",[110,105,103,104,116,119,97,116,99,104,58,32,102,117,108,108]),("nightwatch/api.ErrOff",[110,105,103,104,116,119,97,116,99,104,58,32,111,102,102]),
 ("nightwatch/api.ErrIdle",[110,105,103,104,116,119,97,116,99,104,58,32,105,100,108,101]),("nightwatch/api.ErrHeld",[110,105,103,104,116,119,97,116,99,104,58,32,104,101,108,100]),("nightwatch/api.ErrReset",[110,105,103,104,116,119,97,116,99,104,58,32,114,101,115,101,116])]
def Qq:List Nat:=[1,0,2,3,4,5,6,7,8,9,10]
def Aeu:DataW Unit:=.iface "internal/reflectlite.rtype" (.agg [.ptr (.lit (.string [101,114,114,111,114]))])
theorem Tryz.sentNames:Ts.map (fun x=>ZI.globalNamed x.1)=Qq.map U:=by kernel_rfl
theorem Tryz.sentTypes:Qq.map (fun g=>(ZI.globals[g]?).map (·.type))=Qq.map (fun _=>U 25):=by kernel_rfl
theorem Tryz.etName:ZI.globalNamed "errors.errorType"=U 11:=by kernel_rfl
theorem Tryz.rtName:(ZI.cutTypes.find? (·.1== "internal/reflectlite.rtype")).map (·.2)=U 283:=by kernel_rfl
theorem Tryz.oneError:((List.range 414).filter fun t=>ZI.rowNamed t [101,114,114,111,114])= [25]:=by kernel_rfl
theorem Tryz.nTypes:ZI.types.size=414:=by kernel_rfl
theorem Tryz.handleE:typeHandle ZI 25=ZA (U ⟨25,25,O⟩):=by kernel_rfl
