import Derived.Test.YtikehilbmldadaaGreatDoorP18
import Derived.Lib.AppendZerosOnto
set_option maxHeartbeats 4000000
set_option maxRecDepth 100000
set_option linter.unusedVariables false
namespace Go.Proofs.YtikehilbmldadaaGreatDoor
open Proofs.Tryz YtikehilbmldadaaGreatDoor.Tryz RowKit
open Go renaming World->V,Value->ZE,RowKit.Below->ZF,RowKit.Hid->ZG,Calls->ZH,Value.int->I,IntKind.i64->J,Value.slice->F,Obj.cells->ZC,Ending.returned->ZD,Value.agg->ZJ,Value.bool->ZK,Proofs.Tryz.prog->ZI
open Option renaming some->U,none->O
theorem rH(w:V)(b off len cap i:Nat)(hi:i<=cap):
  (Instr.slice 22 (F (U ⟨b,off,O⟩) len cap) O (U (I J i)) O).run ZI w=.ok (F (U ⟨b,off,O⟩) i cap) w:=by
 have d:ZI.underlying 22=U (.slice (ZI.elem 22)):=by kernel_rfl
 have a:((sizeOf (ZI.elem 22)).run ZI w)=.ok 1 w:=by kernel_rfl
 rw[run_slice_h w 22 (U ⟨b,off,O⟩) len cap d J i (by omega) (by omega),a];show Result.ok (sliced _ _ _ _ _) w=_
 unfold sliced;simp;intro _;rw[Dt,Zzw]
theorem Z6(w:V)(b off len cap i:Nat)(hi:i<=cap):
  (Instr.slice 47 (F (U ⟨b,off,O⟩) len cap) O (U (I J i)) O).run ZI w=.ok (F (U ⟨b,off,O⟩) i cap) w:=by
 have d:ZI.underlying 47=U (.slice (ZI.elem 47)):=by kernel_rfl
 have a:((sizeOf (ZI.elem 47)).run ZI w)=.ok 2 w:=by kernel_rfl
 rw[run_slice_h w 47 (U ⟨b,off,O⟩) len cap d J i (by omega) (by omega),a];show Result.ok (sliced _ _ _ _ _) w=_
 unfold sliced;simp;intro _;rw[Dt,Zzw]
theorem rI(w:V)(b off len cap i:Nat)(hi:i<=cap):
  (Instr.slice 28 (F (U ⟨b,off,O⟩) len cap) O (U (I J i)) O).run ZI w=.ok (F (U ⟨b,off,O⟩) i cap) w:=by
 have d:ZI.underlying 28=U (.slice (ZI.elem 28)):=by kernel_rfl
 have a:((sizeOf (ZI.elem 28)).run ZI w)=.ok 10 w:=by kernel_rfl
 rw[run_slice_h w 28 (U ⟨b,off,O⟩) len cap d J i (by omega) (by omega),a];show Result.ok (sliced _ _ _ _ _) w=_
 unfold sliced;simp;intro _;rw[Dt,Zzw]
theorem Av.cut{α:Type}{f:α->List ZE}{R:Nat->Prop}{w:V}{ao:Option Addr}{cap a:Nat}{l:List α}(h:Av R w (F ao l.length cap) a (l.flatMap f) l.length)(t:∀x,(f x).length=a)(k:Nat)(y:k<=l.length):Av R w (F ao k cap) a ((l.take k).flatMap f) (l.take k).length:=by
 obtain⟨A,n,g,v,h1,h2,h3,o⟩:=h;obtain⟨rfl,_,rfl⟩:=Value.slice.inj v;have e:(l.take k).length=k:=by rw[By];omega
 refine⟨Hj f a t _,ao,cap,by rw[e],by omega,h2,h3,fun B=>?_⟩;have m:l.flatMap f=(l.take k).flatMap f++(l.drop k).flatMap f:=by rw[<-B1,Zxz]
 obtain⟨b,off,p,hR,q,s⟩:=o (by rw[m,R2];omega);refine⟨b,off,p,hR,q,fun j u i=>s j u ?_⟩;have d:=(List.getElem?_eq_some_iff.1 i).1;rw[m,Zz9 d];exact i
theorem Av.capB{R:Nat->Prop}{w:V}{ao:Option Addr}{n cap e:Nat}{a:List ZE}(h:Av R w (F ao n cap) e a n):(n:Int)<=(cap:Int)/\(cap:Int)<=9223372036854775807:=by
 obtain⟨_,_,_,d,h1,h2,_⟩:=h;obtain⟨_,_,rfl⟩:=Value.slice.inj d;unfold maxLen at h2;omega
theorem Vv{R:Nat->Prop}{w:V}{ao:Option Addr}{n cap:Nat}{l:List (Int × Int)}(h:Av R w (F ao n cap) 2 (l.flatMap Cn) l.length)(h0:0<l.length):
  ∃b off,ao=U ⟨b,off,O⟩/\R b/\b<w.heap.size/\∀k (hk:k<l.length),w.cell? ⟨b,off+k*2,O⟩=U (I J l[k].1)/\w.cell? ⟨b,off+k*2+1,O⟩=U (I J l[k].2):=by
 obtain⟨b,off,d,hR,e,a⟩:=h.elem (fun _=>rfl) (by decide) h0;exact⟨b,off,d,hR,e,fun k hk=>⟨a k hk 0 _ rfl,a k hk 1 _ rfl⟩⟩
theorem xW(R:Nat->Prop)(l:List (Int × Int))(v:ZE)(x:Int × Int)(w:V)(h:Av R w v 2 (l.flatMap Cn) l.length)(hR:∀b,R b->b<w.heap.size)(P:l.length<=100000):
  ZH ZI 279 #[v,ZJ #[I J x.1,I J x.2]] w fun e w'=>∃r:Int,e=ZD (I J r)/\decide (0<=r)=decide (x∈l)/\ZF w.heap.size w w':=by
 obtain⟨M,cap,rfl⟩:=h.val;have H:=G h;have d:=Tryz.pairEqE;unfold sA at d;clear h;go_enter func279,ntmps279;go_wp2_with fail;generalize g:w.alloc _=wa;have n:ZF w.heap.size w wa:=by rw[<-g];exact(R1 _ _).alloc (Y2 _) _
 have p:wa.heap[w.heap.size]? =U (ZC #[I J x.1,I J x.2] 127):=by rw[<-g];exact Ab w _
 obtain⟨A,z1,L⟩:=Au p;clear g p L;go_loopw [8] (fun t wr=>∃k:Nat,k<=l.length/\t=I J k/\ZF w.heap.size w wr/\wr.cell? ⟨w.heap.size,0,O⟩=U (I J x.1)/\wr.cell? ⟨w.heap.size,1,O⟩=U (I J x.2)/\ZG (∀j (i:j<l.length),j<k->l[j]≠x)) (fun t _=>l.length-(intOf t).toNat);case atStart=>exact⟨0,In _,rfl,n,A,z1,fun j i h=>by omega⟩
 case round=>
  obtain⟨k,N,rfl,f,c0,c1,a⟩:=hrel;clear n A z1;by_cases o:k<l.length
  ·obtain⟨b,off,rfl,s,_,y⟩:=Vv H (by omega);obtain⟨D,K⟩:=y k o;rw[<-f.cell (hR b s)]at D K;clear y;by_cases m:x=l[k]
   ·have u:=fun W=>d W x.1 x.2 l[k].1 l[k].2;rw[On (show(x.1,x.2)=(l[k].1,l[k].2)from m)]at u;have q:ZG (x∈l):=m▸M2 o;clear m a d;go_wp2_with fail;go_quiet (fail);go_wp2_with fail;go_ret;exact⟨_,rfl,by rw[On q.out];exact On (by omega),Ag _ f⟩
   ·have u:=fun W=>d W x.1 x.2 l[k].1 l[k].2;rw[N1 (show ¬(x.1,x.2)=(l[k].1,l[k].2)from m)]at u;have C:ZG (∀j (i:j<l.length),j<k+1->l[j]≠x):=G (fun j i h=>by
     by_cases e:j=k
     ·subst e;exact fun e=>m e.symm
     ·exact a j i (by omega))
    clear m a d;go_wp2_with fail;go_quiet (fail);go_wp2_with fail;go_roundw;case rel=>exact⟨k+1,by omega,by go_num,Ag _ f,c0,c1,C⟩
    case measure=>simp[intOf];omega
  ·have q:ZG (x∉l):=G (fun B=>by
    obtain⟨j,i,e⟩:=List.mem_iff_getElem.1 B;exact a j i (by omega) e)
   clear a d;go_wp2_with fail;go_ret;exact⟨_,rfl,by rw[N1 q.out];rfl,f⟩
theorem zZ(R:Nat->Prop)(l:List (Int × Int))(v:ZE)(x:Int × Int)(w:V)(h:Av R w v 2 (l.flatMap Cn) l.length)(hR:∀b,R b->b<w.heap.size)(m:l.length<=100000):
  ZH ZI 246 #[v,ZJ #[I J x.1,I J x.2]] w fun e w'=>e=ZD (ZK (decide (x∈l)))/\ZF w.heap.size w w':=by
 obtain⟨n,cap,rfl⟩:=h.val;have d:ZF w.heap.size w (w.alloc (ZC #[I J x.1,I J x.2] 127)):=(R1 _ _).alloc (Y2 _) _;have H:=G (xW R l _ x _ (h.below d hR) (Bw hR d) m);have f:=G d;clear h d;go_enter func246,ntmps246;go_wp2_with fail;refine H.mono ?_;rintro e w' ⟨r,rfl,g,a⟩;have j:=f.trans (a.mono f.size);clear a;have i:=G g;clear g;go_wp2_with fail;go_ret;exact⟨Am i.out,j⟩
theorem Xm(R:Nat->Prop)(l:List Int)(v:ZE)(w:V)(h:Av R w v 1 (Ad l) l.length)(D:l.length<=100000):
  ZH ZI 212 #[v] w fun e w'=>e=ZD (ZK (H8 l))/\w=w':=by
 obtain⟨C,cap,rfl⟩:=h.val;have H:=G h;obtain⟨t,u⟩:=h.capB;clear h;go_enter func212,ntmps212;go_wp2_with fail;go_loop [7] (fun s=>∃i:Nat,i<=l.length/\s=I J i/\ZG (∀j (m:j<l.length),j<i->l[j]∉l.take j)) (fun s=>l.length-(intOf s).toNat);case atStart=>exact⟨0,In _,rfl,fun j _ h=>by omega⟩
 case round=>
  obtain⟨i,hi,rfl,a⟩:=hrel;by_cases n:i<l.length
  ·obtain⟨b,off,rfl,_,_,p⟩:=I4 H (by omega);have K:=p i n;have o:=G (Lg R (l.take i) (F (U ⟨b,off,O⟩) i cap) l[i] w (H.take i (by omega)));have y:(i:Int)<=(cap:Int):=by omega
   have q:=fun W=>Pe W b off l.length cap i (by omega);clear p;by_cases f:l[i]∈l.take i
   ·rw[On f]at o;have g:=G (Xn i n f);clear f a;go_wp2_with fail;refine o.mono ?_;rintro e w' ⟨rfl,rfl⟩;go_wp2_with fail;go_ret;exact⟨Am g.symm,rfl⟩
   ·rw[N1 f]at o;have B:ZG (∀j (m:j<l.length),j<i+1->l[j]∉l.take j):=G (fun j m A=>by
     by_cases e:j=i
     ·subst e;exact f
     ·exact a j m (by omega))
    clear f a;go_wp2_with fail;refine o.mono ?_;rintro e w' ⟨rfl,rfl⟩;go_wp2_with fail;go_round;case rel=>exact⟨i+1,by omega,by go_num,B⟩
    case measure=>simp[intOf];omega
  ·have d:=G (V6 (l:=l) (fun j m=>a j m (by omega)));clear a;go_wp2_with fail;go_ret;exact⟨Am d.symm,rfl⟩
theorem Aat(R:Nat->Prop)(l:List (Int × Int))(v:ZE)(w:V)(h:Av R w v 2 (l.flatMap Cn) l.length)(hR:∀b,R b->b<w.heap.size)(hn:l.length<=100000):
    ZH ZI 211 #[v] w fun e w'=>e=ZD (ZK (Fq l))/\ZF w.heap.size w w':=by
  obtain⟨ao,cap,rfl⟩:=h.val;have H:=G h;obtain⟨Y,Z⟩:=h.capB;clear h;go_enter func211,ntmps211;go_wp2_with fail;go_loopw [7] (fun s wr=>∃i:Nat,i<=l.length/\s=I J i/\ZF w.heap.size w wr/\ZG (∀j (C:j<l.length),j<i->l[j]∉l.take j)) (fun s _=>l.length-(intOf s).toNat);case atStart=>exact⟨0,In _,rfl,R1 _ _,fun j _ h=>by omega⟩
  case round=>
    obtain⟨i,hi,rfl,g,a⟩:=hrel;by_cases D:i<l.length
    · obtain⟨b,off,rfl,K,_,P⟩:=Vv H (by omega)
      obtain⟨S,T⟩:=P i D;rw[<-g.cell (hR b K)]at S T;have aa:(i:Int)<=(cap:Int):=by omega
      have Q:=fun W=>Z6 W b off l.length cap i (by omega);have L:=G (fun W (N:ZF w.heap.size w W)=>zZ R (l.take i) (F (U ⟨b,off,O⟩) i cap) l[i] W ((Av.cut (f:=Cn) H (fun _=>rfl) i (by omega)).below N hR) (Bw hR N) (by rw[By];omega));clear P;go_upto_region 4 with fail;have m:=Ab wr (ZC #[I J l[i].1,I J l[i].2] 127);have d:ZF w.heap.size w (wr.alloc (ZC #[I J l[i].1,I J l[i].2] 127)):=g.alloc g.size _;generalize wr.alloc _=wb at m d ⊢;obtain⟨X,z1,zf⟩:=Au m;have A:=Aa m;obtain⟨t,B⟩:∃t,t=wr.heap.size:=⟨_,rfl⟩
      rw[<-B]at X z1 A ⊢;clear B m zf S T;go_cut [16] (fun s wx=>s=ZK (decide (l[i]∈l.take i))/\ZF w.heap.size w wx);case first=>
       go_region_held3 (fun w'=>∀o,w'.cell? ⟨t,o,O⟩=wb.cell? ⟨t,o,O⟩)
        (first|exact fun _=>rfl|exact fun o=>d1.cell (p:=⟨t,o,O⟩) A)
        (first|(go_at_call 246;refine(L _ ?_).mono ?_;(repeat(first|exact d|refine H5 ?_));rintro e w2 ⟨rfl,M⟩;have d1:ZF wb.heap.size wb w2:=(by repeat(first|exact R1 _ _|exact M|refine H5 ?_|refine Zyh ?_ M))))
       all_goals(go_wp2_with fail;go_meet)
       all_goals exact⟨rfl,by repeat(first|exact d.trans (d1.mono d.size)|refine H5 ?_)⟩
      case rest=>
      obtain⟨rfl,u⟩:=hcut;clear X z1 L d;by_cases q:l[i]∈l.take i
      · rw[On q]
        have y:=G (Ra i D q);clear q a;go_wp2_with fail;go_ret;exact⟨Am y.symm,u⟩
      · rw[N1 q]
        have nx:ZG (∀j (C:j<l.length),j<i+1->l[j]∉l.take j):=G (fun j C ab=>by
          by_cases e:j=i
          · subst e;exact q
          · exact a j C (by omega))
        clear q a;go_wp2_with fail;go_roundw;case rel=>exact⟨i+1,by omega,by go_num,u,nx⟩
        case measure=>simp[intOf];omega
    · have n:=G (Qg (l:=l) (fun j C=>a j C (by omega)))
      clear a;go_wp2_with fail;go_ret;exact⟨Am n.symm,g⟩
theorem kT{P:List ByteArray}{k:Nat}(g:k<P.length):B3 (P.take k) P[k]=decide (G9 P P[k]<k):=by
 unfold G9;cases h:P.findIdx? (fun y=>y.toList==P[k].toList)with
 |none=>
  rw[Zze]at h;have:=h P[k] (M2 g);simp at this
 |some i=>
  rw[Zzi]at h;obtain⟨hi,d,a⟩:=h;by_cases e:i<k
  ·rw[On (by simp only;omega)];exact Pt i (by rw[By];omega) (by simpa using d)
  ·rw[N1 (by simp only;omega)];exact Q4 (fun j f=>by
    rw[By]at f;have:=a j (by omega);simpa using this)
theorem Aiq{P:List ByteArray}{k:Nat}(hk:k<P.length)(h:Bt P[k]=false):ptE P k=4:=by rw[Yf hk,if_pos h]
theorem pK{P:List ByteArray}{k:Nat}(a:k<P.length)(h:Bt P[k]=true)(h2:B3 (P.take k) P[k]=true):ptE P k=6:=by
 rw[kT a]at h2;rw[Yf a,if_neg (by rw[h];decide),if_pos (Zyq h2)]
theorem Air{P:List ByteArray}{k:Nat}(a:k<P.length)(h:Bt P[k]=true)(h2:B3 (P.take k) P[k]=false):ptE P k=0:=by
 rw[kT a]at h2;rw[Yf a,if_neg (by rw[h];decide),if_neg (of_decide_eq_false h2)]
theorem Av.cutS{R:Nat->Prop}{w:V}{ao:Option Addr}{cap:Nat}{l:List ByteArray}(h:Av R w (F ao l.length cap) 1 (Aj l) l.length)(k:Nat)(a:k<=l.length):Av R w (F ao k cap) 1 (Aj (l.take k)) (l.take k).length:=by
 rw[<-qE]at h ⊢;exact Av.cut (f:=fun x=>[Value.string x]) h (fun _=>rfl) k a
theorem Aby(B:Nat)(L:Nat->Addr)(R:Nat->Prop)(l:List ByteArray)(v:ZE)(w:V)(C:Hl B L w)(h:Av R w v 1 (Aj l) l.length)(hR:∀b,R b->b<w.heap.size)(hn:l.length<=100000):
  ZH ZI 166 #[v] w fun e w'=>e=ZD (errv L (Kw l))/\ZF w.heap.size w w':=by
 obtain⟨Y,cap,rfl⟩:=h.val;have H:=G h;have A:=G C;obtain⟨N,Q⟩:=h.capB;clear h C;go_enter func166,ntmps166;go_wp2_with fail;go_loopw [7] (fun s wr=>∃i:Nat,i<=l.length/\s=I J i/\ZF w.heap.size w wr/\ZG (∀j,j<i->ptE l j=0)) (fun s _=>l.length-(intOf s).toNat);case atStart=>exact⟨0,In _,rfl,R1 _ _,fun j h=>by omega⟩
 case round=>
  obtain⟨i,hi,rfl,f,a⟩:=hrel;by_cases m:i<l.length
  ·obtain⟨b,off,rfl,y,_,D⟩:=E8 H (by omega);have q:=D i m;rw[<-f.cell (hR b y)]at q;have p:=G (Uu l[i] wr);clear D;cases g:Bt l[i]
   ·rw[g]at p;have t:=G (show Kw l=4 from by
     have e:=Aiq m g;rw[N9 m (by rw[e];decide) a.out,e])
    clear g a;go_wp2_with fail;refine p.mono ?_;rintro e w1 ⟨rfl,n⟩;have d:=f.trans (n.mono f.size);obtain⟨_,_,_,Z,_,_⟩:=(A.on d).all;go_wp2_with fail;go_ret;rw[t.out];exact⟨rfl,d⟩
   ·rw[g]at p;have S:(i:Int)<=(cap:Int):=by omega
    have K:=fun W=>rH W b off l.length cap i (by omega);have u:=G (fun W (M:ZF w.heap.size w W)=>Lf R (l.take i) (F (U ⟨b,off,O⟩) i cap) l[i] W ((H.cutS i (by omega)).below M hR));cases o:B3 (l.take i) l[i]
    ·rw[o]at u;have X:ZG (∀j,j<i+1->ptE l j=0):=G (fun j T=>by
      by_cases e:j=i
      ·subst e;exact Air m g o
      ·exact a j (by omega))
     clear g o a;go_wp2_with fail;refine p.mono ?_;rintro e w1 ⟨rfl,n⟩;have d:=f.trans (n.mono f.size);clear n q;go_wp2_with fail;refine(u w1 d).mono ?_;rintro e w' ⟨rfl,rfl⟩;go_wp2_with fail;go_roundw;case rel=>exact⟨i+1,by omega,by go_num,d,X⟩
     case measure=>simp[intOf];omega
    ·rw[o]at u;have t:=G (show Kw l=6 from by
      have e:=pK m g o;rw[N9 m (by rw[e];decide) a.out,e])
     clear g o a;go_wp2_with fail;refine p.mono ?_;rintro e w1 ⟨rfl,n⟩;have d:=f.trans (n.mono f.size);clear n q;go_wp2_with fail;refine(u w1 d).mono ?_;rintro e w' ⟨rfl,rfl⟩;obtain⟨_,_,_,_,_,g5⟩:=(A.on d).all;go_wp2_with fail;go_ret;rw[t.out];exact⟨rfl,d⟩
  ·have t:=G (pJ (P:=l) (fun j T=>a j (by omega)));clear a;go_wp2_with fail;go_ret;rw[t.out];exact⟨rfl,f⟩
theorem Z9(n:Nat)(h0:0<n)(m:n<=1000000)(w:V):∃cap w',(∀ty,(Builtin.append_ #[48,3] ty #[F O 0 0,I J n]).run ZI w=.ok (F (U ⟨w.heap.size,0,O⟩) n cap) w')/\n<=cap/\cap<=9223372036854775807/\
  w'.ownsRow w.heap.size 3 1 (F (U ⟨w.heap.size,0,O⟩) 0 cap) 0 []/\ZF w.heap.size w w':=by
 obtain⟨l,e,f,g,d⟩:=info_parts infoInt;have i:=grownCap_ge w (0+n) 0 3;have a:=grownCap_le_maxLen w (0+n) 0 3 (by unfold maxLen;omega);have j:=fun ty=>Lib.run_append_grow_zeros w 48 3 ty 3 l (I J 0) J J underlying48 underlying3 e f O 0 0 [] (run_firstCells_none w.drew l.size 0 0 0) n h0 (by rw[g];decide) (by omega) (by omega) (by rw[d];omega) (growslice_fits (by omega) (by rw[d];omega));rw[Zzt]at j i a;refine⟨_,_,j,i,a,⟨rfl,.inr ⟨_,_,_,rfl,Y2 _,Ab _ _,In _,a,?_,by simp⟩⟩,((R1 _ _).drew).alloc (Y2 _) _⟩;simp only[Builtin.zeroCells,Array.size_append,Array.size_map,Array.size_range,show(Value.int IntKind.i64 0).cells.size=1 from rfl,Zxo,Zyy];omega
theorem Aka(n:Nat)(o:n<=1000000)(w:V):
  ZH ZI 277 #[F O 0 0,I J n] w fun e w'=>∃ao cap,e=ZD (F ao 0 cap)/\w'.ownsRow w.heap.size 3 1 (F ao 0 cap) 0 []/\ZF w.heap.size w w':=by
 by_cases h0:n=0
 ·subst h0;go_enter func277,ntmps277;go_wp2_with fail;go_ret;exact⟨_,_,rfl,Zzr _ _ _ _,R1 _ _⟩
 ·have g:0<(n:Int):=by omega
  have p:¬(n:Int)<0:=by omega
  obtain⟨cap,w1,d,l,m,a,f⟩:=Z9 n (by omega) o w;have s:∀W:V,(Instr.slice 48 (F (U ⟨w.heap.size,0,O⟩) n cap) O (U (I J 0)) O).run ZI W=.ok (F (U ⟨w.heap.size,0,O⟩) 0 cap) W:=fun W=>Pe W w.heap.size 0 n cap 0 (In _);have j:=G a;have i:=G f;have u:(Instr.slice 48 (F O 0 0) O (U (I J 0)) O).run ZI w=.ok (F O 0 0) w:=by
   have t:ZI.underlying 48=U (.slice (ZI.elem 48)):=by kernel_rfl
   have q:((sizeOf (ZI.elem 48)).run ZI w)=.ok 1 w:=by kernel_rfl
   rw[run_slice_h w 48 O 0 0 t J 0 (by omega) (by omega),q];show Result.ok (sliced _ _ _ _ _) w=_
   unfold sliced;simp
  clear a f h0;go_enter func277,ntmps277;go_wp2_with (at_builtin;refine Lib.wpList_append_run _ rfl _ _ _ _ rfl _ _ rfl rfl _ _ (d _) ?_);all_goals
   go_ret;exact⟨_,_,rfl,j.out,i.out⟩
def O0(a b:List Int)(k:Nat):List Int:=if k=0 then [] else if k=1 then a else a++b
def el2{α:Type}(a b:α)(k:Nat):α:=if k=0 then a else b
theorem qQ(a b:List Int)(k:Nat)(d:k<2):O0 a b (k+1)=O0 a b k++el2 a b k:=by
 match k,d with
 |0,_=>simp[O0,el2]
 |1,_=>simp[O0,el2]
theorem Aag(a b:List Int)(k:Nat)(h1:2<=k):O0 a b k=a++b:=by
 unfold O0;rw[if_neg (by omega),if_neg (by omega)]
theorem Am8{R:Nat->Prop}{w:V}{a b:List Int}{d vb:ZE}(e:Av R w d 1 (Ad a) a.length)(f:Av R w vb 1 (Ad b) b.length)(k:Nat):Av R w (el2 d vb k) 1 (Ad (el2 a b k)) (el2 a b k).length:=by
 unfold el2;by_cases h:k=0
 ·simp only[if_pos h];exact e
 ·simp only[if_neg h];exact f
theorem Akf{w:V}{a:Nat}{d vb:ZE}(h0:w.cell? ⟨a,0,O⟩=U d)(h1:w.cell? ⟨a,1,O⟩=U vb)(k:Nat)(e:k<2):w.cell? ⟨a,k,O⟩=U (el2 d vb k):=by
 match k,e with
 |0,_=>exact h0
 |1,_=>exact h1
theorem Akz{a b:List Int}(d:a.length<=1000)(e:b.length<=1000)(k:Nat):(O0 a b k).length<=2000:=by
 unfold O0;split
 ·simp
 ·split
  ·omega
  ·rw[R2];omega
theorem Al3{a b:List Int}(d:a.length<=1000)(e:b.length<=1000)(k:Nat):(el2 a b k).length<=1000:=by
 unfold el2;split<;>omega
theorem Ad6(R:Nat->Prop)(a b:List Int)(va vb:ZE)(y:Nat)(w:V)(ha:Av R w va 1 (Ad a) a.length)(Q:Av R w vb 1 (Ad b) b.length)(hR:∀b,R b->b<w.heap.size)(h0:w.cell? ⟨y,0,O⟩=U va)(h1:w.cell? ⟨y,1,O⟩=U vb)(la:a.length<=1000)(lb:b.length<=1000):
  ZH ZI 242 #[F (U ⟨y,0,O⟩) 2 2] w fun e w'=>∃ao cap,e=ZD (F ao (a++b).length cap)/\w'.ownsRow w.heap.size 3 1 (F ao (a++b).length cap) (a++b).length (Ad (a++b))/\ZF w.heap.size w w':=by
 obtain⟨i0,aa,ad,ae,af⟩:=info_parts infoInt;have HQ:=G (Akf h0 h1);have B:=R3 _ ⟨y,0,O⟩ h0;have HS:=G (Am8 ha Q);have t:=G (Akz la lb);have u:=G (Al3 la lb);simp only at B;obtain⟨c,S⟩:∃c,c=a++b:=⟨_,rfl⟩
 have HC:=G S;have ax:c.length<=2000:=by rw[S,R2];omega
 rw[<-S];clear S ha Q h0 h1;go_enter func242,ntmps242;go_wp2_with fail;go_loop [3,11] (fun s3 ag=>∃k:Nat,k<=2/\s3=I J (O0 a b k).length/\ag=I J k) (fun _ s=>2-(intOf s).toNat);case atStart=>exact⟨0,In _,rfl,rfl⟩
 case round=>
  obtain⟨k,hk,rfl,rfl⟩:=hrel;by_cases M:k<2
  ·have N:(k:Int)<2:=by omega
   have q:=HQ k M;obtain⟨xa,xc,P⟩:=(HS k).val;rw[P]at q;have hl1:=t k;have hl2:=u k;have g:ZG (((O0 a b k).length:Int)+((el2 a b k).length:Int)=((O0 a b (k+1)).length:Nat)):=by
    show((O0 a b k).length:Int)+((el2 a b k).length:Int)=((O0 a b (k+1)).length:Nat)
    rw[qQ a b k M,R2];omega
   clear P;generalize(el2 a b k).length=m at q hl2 g;generalize(O0 a b k).length=n at hl1 g ⊢;go_wp2_with fail;go_round;case rel=>exact⟨k+1,by omega,by rw[g.out],by go_num⟩
   case measure=>simp[intOf];omega
  ·have N:(2:Int)<=k:=by omega
   have L:=(Aag a b k (by omega)).trans HC.symm;rw[L];have HG:=G (Aka c.length (by omega) w);clear L;go_wp2_with fail;refine HG.mono ?_;rintro e w1 ⟨Y,X,rfl,d,A⟩;have v:=G d;clear HG d;go_wp2_with fail;go_loopw [6,27] (fun s6 ah wr=>∃(j:Nat) (ao:Option Addr) (cap:Nat),j<=2/\s6=F ao (O0 a b j).length cap/\ah=I J j/\ZF w.heap.size w wr/\ZG (wr.ownsRow w.heap.size 3 1 (F ao (O0 a b j).length cap) (O0 a b j).length (Ad (O0 a b j)))) (fun _ s _=>2-(intOf s).toNat);case atStart=>exact⟨0,Y,X,In _,rfl,rfl,A,v⟩
   case round=>
    obtain⟨j,ao,cap,hj,rfl,rfl,f,d⟩:=hrel;clear v A;by_cases H:j<2
    ·have K:(j:Int)<2:=by omega
     have q:=HQ j H;rw[<-f.cell (p:=⟨y,j,O⟩) B]at q;have l:=(HS j).below f hR;obtain⟨xa,xc,P⟩:=l.val;rw[P]at q l;have o:=G l;have hl1:=t j;have hl2:=u j;have g:=G (qQ a b j H);clear P l;obtain⟨n,hn⟩:∃n,n=(O0 a b j).length:=⟨_,rfl⟩
     obtain⟨m,hm⟩:∃m,m=(el2 a b j).length:=⟨_,rfl⟩
     rw[<-hm]at q hl2 o;rw[<-hn]at hl1 d ⊢;have HN:=G hn;have HM:=G hm;clear hn hm;go_wp2_with (at_builtin;go_must (refine Ke rfl (.tmp 31) (.tmp 32) 48 rfl w.heap.size 3 i0 _ 1 8 underlying48 aa ad ae af rfl (by decide) _ n _ rfl d R _ m (Ad (el2 a b j)) rfl o (El _) (by unfold maxLen;omega) (by omega) f.size ?_;intro a1 k1 w6 i C));have Z:ZF w.heap.size w w6:=f.trans (Aah C (fun b Q=>(d.lt b Q).1) f.size);rw[<-Mf,<-g.out]at i;have e6:n+m=(O0 a b (j+1)).length:=by rw[g.out,R2,HN.out,HM.out]
     rw[e6]at i ⊢;have T:=G i;clear i C e6 o d q;go_roundw;case rel=>exact⟨j+1,a1,k1,by omega,rfl,by go_num,Z,T⟩
     case measure=>simp[intOf];omega
    ·have K:(2:Int)<=j:=by omega
     have D:=(Aag a b j (by omega)).trans HC.symm;rw[D]at d ⊢;clear D;go_wp2_with fail;go_ret;exact⟨_,_,rfl,d.out,f⟩
structure ST (w0:V) (R:Nat->Prop) (E:Ak) (vp vg ve vf vl:ZE) (eb base:Nat) (acc:List Int) (ao:Option Addr) (cap:Nat) (w:V):Prop where
 ebx:EB w0 R E vp vg ve vf vl eb w
 nb:w.heap[eb+1]? =U (ZC #[I J E.points.length] 3)
 own:w.ownsRow base 3 1 (F ao acc.length cap) acc.length (Ad acc)
 lay:eb+2<=base/\base<=w.heap.size
theorem ST.step{w0 wr wA w1:V}{R:Nat->Prop}{E:Ak}{vp vg ve vf vl:ZE}{j d n:Nat}{e a:List Int}{ao a1:Option Addr}{cap k1:Nat}{x y:Int}(h:ST w0 R E vp vg ve vf vl j d e ao cap wr)(t:Ac (fun _=>False) wr wA)(q:n=e.length)(l:a=e++ [x,y])
  (p:wA.grownBy w1 (Value.slice ao n cap).ownBlock) (g:w1.ownsRow d 3 1 (F a1 (n+2) k1) (n+2) (Ad e++ [I J x,I J y])):n+2=a.length/\ST w0 R E vp vg ve vf vl j d a a1 k1 w1:=by
 subst q;have m:e.length+2=a.length:=by rw[l,R2];rfl
 have f:=h.lay;have i:Ac (fun b=>d<=b) wr w1:=(t.mono (fun _ _ h=>h.elim)).trans ((Ac.of_grown p).mono (fun b o s=>(h.own.lt _ s.symm).1));refine⟨m,h.ebx.keep i (fun b o _=>by have:=h.ebx.hi;omega),i.get h.nb (by omega),?_,f.1,No f.2 i.size⟩;rw[<-m,l,Mf];exact g
theorem Aix{w:V}{b:Nat}{c0:ZE}{t:TypeId}(h:w.heap[b]? =U (ZC #[c0] t)):w.cell? ⟨b,0,O⟩=U c0:=by simp[World.cell?,h]
def Kf(E:Ak):Bool:=Xf E||Jh E
theorem Xq(R:Nat->Prop)(E:Ak)(vp vg ve vf vl:ZE)(w:V)(h:Dk R w E vp vg ve vf vl)(hR:∀b,R b->b<w.heap.size)(hE:G6 E):
  ZH ZI 204 #[ZJ (As E vp vg ve vf vl)] w fun e w'=>e=ZD (ZK (Kf E))/\ZF w.heap.size w w':=by
 obtain⟨i0,bc,bh,bi,bj⟩:=info_parts infoInt;obtain⟨e1,e2,e3,e4,e5⟩:=hE;obtain⟨pa,pc,rfl⟩:=h.p.val;obtain⟨ga,gc,rfl⟩:=h.g.val;obtain⟨ea,ec,rfl⟩:=h.e.val;obtain⟨fa,fc,rfl⟩:=h.f.val;obtain⟨la,lc,rfl⟩:=h.l.val;have A:EB w R E (F pa E.points.length pc) (F ga E.gaps.length gc) (F ea E.edges.length ec) (F fa E.first.length fc) (F la E.last.length lc) w.heap.size (w.alloc (ZC (As E (F pa E.points.length pc) (F ga E.gaps.length gc) (F ea E.edges.length ec) (F fa E.first.length fc) (F la E.last.length lc)) 50)):=
  ⟨Ab _ _,h.keep (Al ((R1 _ _).alloc (Y2 _) _)) (fun _ _ h=>h),(R1 _ _).alloc (Y2 _) _,hR,Y2 _⟩
 have ae:(w.alloc (ZC (As E (F pa E.points.length pc) (F ga E.gaps.length gc) (F ea E.edges.length ec) (F fa E.first.length fc) (F la E.last.length lc)) 50)).heap.size=w.heap.size+1:=H7 _ _;have bw:=G hR;clear h hR;unfold As at A ae ⊢;go_enter func204,ntmps204;go_upto_region 1 with fail;generalize w.alloc _=w1 at A ae ⊢;obtain⟨c0,c1,N,P,Q,S,T,X,Y,Z⟩:=A.cells;have ah:=G A;have M:=G ae;clear A ae;obtain⟨o,ax⟩:∃o,o=w.heap.size:=⟨_,rfl⟩
 rw[<-ax]at c0 c1 N P Q S T X Y Z ah M ⊢;have bu:=G ax;clear ax;go_upto_region 2 with fail;have ad:=Ab w1 (ZC #[I J E.points.length] 3);have av:ZF w1.heap.size w1 (w1.alloc (ZC #[I J E.points.length] 3)):=(R1 _ _).alloc (Y2 _) _;have bf:(w1.alloc (ZC #[I J E.points.length] 3)).heap.size=w1.heap.size+1:=H7 _ _;generalize w1.alloc _=w2 at ad av bf ⊢;obtain⟨nb,az⟩:∃nb,nb=w1.heap.size:=⟨_,rfl⟩
 rw[<-az]at ad ⊢;have a7:ZG (nb=o+1):=az.trans M.out;have ai:=G (ah.below av);have al:=G ad;have a8:ZG (w2.heap.size=o+2):=G (by have:=M.out;omega);clear az ad av bf c0 c1 N P Q S T X Y Z ah;obtain⟨c0,c1,N,P,Q,S,T,X,Y,Z⟩:=ai.cells;have b3:ZF w2.heap.size w2 (w2.alloc (ZC #[F fa E.first.length fc,F la E.last.length lc] 48)):=(R1 _ _).alloc (Y2 _) _;have bb:=Ab w2 (ZC #[F fa E.first.length fc,F la E.last.length lc] 48);obtain⟨z0,z1,zf⟩:=Au bb;have v:=G (ai.below b3);have am:=G (Ae b3 al (Aa al.out));have ap:=G (show(w2.alloc (ZC #[F fa E.first.length fc,F la E.last.length lc] 48)).heap.size=o+3 from by rw[H7,a8.out]);have HCat:=G (Ad6 R E.first E.last _ _ w2.heap.size _ v.sl.f v.sl.l (fun b hb=>by have h1:=v.lo b hb;have h2:=v.bel.size;omega) z0 z1 e4 e5);clear z0 z1 zf bb b3;go_wp2_with fail;refine HCat.mono ?_;rintro e w4 ⟨y,cap,rfl,H,b4⟩;have a9:ST w R E (F pa E.points.length pc) (F ga E.gaps.length gc) (F ea E.edges.length ec) (F fa E.first.length fc) (F la E.last.length lc) o (o+3) (Ju E 0) y cap w4:=by
  have e0:Ju E 0=E.first++E.last:=by simp[Ju]
  rw[e0];rw[ap.out]at H;exact⟨v.below b4,by rw[<-a7.out];exact Ae b4 am (Aa am.out),H,by omega,by have:=ap.out;have:=b4.size;omega⟩
 have hl4:(E.first++E.last).length=(Ju E 0).length:=by simp[Ju]
 rw[hl4];have d:=G a9;clear a9 hl4 H b4 HCat v am ap ai al a8 c0 c1 N P Q S X Y Z T M;obtain⟨c0,c1,N,P,Q,S,T,X,Y,Z⟩:=d.ebx.cells;go_wp2_with fail;go_loopw [4,21] (fun s4 bq wr=>∃(k:Nat) (y:Option Addr) (cap:Nat),k<=E.gaps.length/\s4=F y (Ju E k).length cap/\bq=I J k/\ZG (ST w R E (F pa E.points.length pc) (F ga E.gaps.length gc) (F ea E.edges.length ec) (F fa E.first.length fc) (F la E.last.length lc) o (o+3) (Ju E k) y cap wr)) (fun _ s _=>E.gaps.length-(intOf s).toNat);case atStart=>exact⟨0,y,cap,In _,rfl,rfl,d⟩
 case round=>
  obtain⟨k,y,cap,hk,rfl,rfl,a⟩:=hrel;clear d c0 c1 N P Q S T X Y Z;by_cases j:k<E.gaps.length
  ·obtain⟨b,off,rfl,bo,hb,hc⟩:=a.ebx.sl.g.elem (f:=Cu) (fun _=>rfl) (by decide) (by omega);have q0:=hc k j 0 _ rfl;have q1:=hc k j 1 _ rfl;have q2:=hc k j 2 _ rfl;have q3:=hc k j 3 _ rfl;rw[Zzw]at q0;have L:=G a.lay;clear hc;go_upto_region 6 with fail;have t:=Ab wr (ZC #[I J E.gaps[k].fr,I J E.gaps[k].dst,I J E.gaps[k].mn,I J E.gaps[k].mx] 126);have i:Ac (fun _=>False) wr (wr.alloc (ZC #[I J E.gaps[k].fr,I J E.gaps[k].dst,I J E.gaps[k].mn,I J E.gaps[k].mx] 126)):=(Ac.refl _ _).alloc _;generalize wr.alloc _=wb at t i ⊢;obtain⟨z0,z1,z2,z3⟩:=Ay t;have ak:=G i;have m:=G (Ff a.own i (fun _ _ _ h=>h));have ar:ZG (o+3<=wb.heap.size):=No L.2 i.size;have q:=Aam E k;obtain⟨n,hn⟩:∃n,n=(Ju E k).length:=⟨_,rfl⟩
   rw[<-hn]at q m ⊢;have an:=G hn;clear hn t i q0 q1 q2 q3 hb L;go_wp2_with (at_builtin;go_must (refine Bc rfl (.tmp 25) (.tmp 30) 48 rfl (o+3) 3 i0 _ 1 8 underlying48 bc bh bi bj rfl (by decide) _ n _ rfl (m.alloc _) ⟨wb.heap.size,0,O⟩ 2 2 [I J E.gaps[k].fr,I J E.gaps[k].dst] rfl rfl (by exact A1 _ [I J E.gaps[k].fr,I J E.gaps[k].dst] _) (by intro u hu;simp at hu;rcases hu with rfl|rfl<;>rfl) (by unfold maxLen;omega) (by omega) (by have:=ar.out;simp;omega) ?_;intro a1 k1 w6 D B));obtain⟨C,K⟩:=a.step (ak.alloc _) an (qR E k j) B D;rw[C];have aq:=G K;clear C K D B m z0 z1 z2 z3 q;go_roundw;case rel=>exact⟨k+1,a1,k1,by omega,rfl,by go_num,aq⟩
   case measure=>simp[intOf];omega
  ·obtain rfl:k=E.gaps.length:=by omega
   have e0:Ju E E.gaps.length=Nt E 0:=by simp[Ju,Nt]
   rw[e0]at a ⊢;have d:=a;clear a e0;obtain⟨c0,c1,N,P,Q,S,T,X,Y,Z⟩:=d.ebx.cells;go_wp2_with fail;go_loopw [4,36] (fun s4 br wr=>∃(k:Nat) (y:Option Addr) (cap:Nat),k<=E.edges.length/\s4=F y (Nt E k).length cap/\br=I J k/\ZG (ST w R E (F pa E.points.length pc) (F ga E.gaps.length gc) (F ea E.edges.length ec) (F fa E.first.length fc) (F la E.last.length lc) o (o+3) (Nt E k) y cap wr)) (fun _ s _=>E.edges.length-(intOf s).toNat);case atStart=>exact⟨0,y,cap,In _,rfl,rfl,d⟩
   case round=>
    obtain⟨k,y,cap,hk,rfl,rfl,a⟩:=hrel;clear d c0 c1 N P Q S T X Y Z;by_cases j:k<E.edges.length
    ·obtain⟨b,off,rfl,bo,hb,hc⟩:=a.ebx.sl.e.elem (f:=Cn) (fun _=>rfl) (by decide) (by omega);have q0:=hc k j 0 _ rfl;have q1:=hc k j 1 _ rfl;rw[Zzw]at q0;have L:=G a.lay;clear hc;go_upto_region 11 with fail;have t:=Ab wr (ZC #[I J E.edges[k].1,I J E.edges[k].2] 127);have i:Ac (fun _=>False) wr (wr.alloc (ZC #[I J E.edges[k].1,I J E.edges[k].2] 127)):=(Ac.refl _ _).alloc _;generalize wr.alloc _=wb at t i ⊢;obtain⟨z0,z1,zf⟩:=Au t;have ak:=G i;have m:=G (Ff a.own i (fun _ _ _ h=>h));have ar:ZG (o+3<=wb.heap.size):=No L.2 i.size;have q:=Uz E k;obtain⟨n,hn⟩:∃n,n=(Nt E k).length:=⟨_,rfl⟩
     rw[<-hn]at q m ⊢;have an:=G hn;clear hn t i q0 q1 hb L zf;go_wp2_with (at_builtin;go_must (refine Bc rfl (.tmp 40) (.tmp 45) 48 rfl (o+3) 3 i0 _ 1 8 underlying48 bc bh bi bj rfl (by decide) _ n _ rfl (m.alloc _) ⟨wb.heap.size,0,O⟩ 2 2 [I J E.edges[k].1,I J E.edges[k].2] rfl rfl (by exact A1 _ [I J E.edges[k].1,I J E.edges[k].2] _) (by intro u hu;simp at hu;rcases hu with rfl|rfl<;>rfl) (by unfold maxLen;omega) (by omega) (by have:=ar.out;simp;omega) ?_;intro a1 k1 w6 D B));obtain⟨C,K⟩:=a.step (ak.alloc _) an (qS E k j) B D;rw[C];have aq:=G K;clear C K D B m z0 z1 q;go_roundw;case rel=>exact⟨k+1,a1,k1,by omega,rfl,by go_num,aq⟩
     case measure=>simp[intOf];omega
    ·obtain rfl:k=E.edges.length:=by omega
     have e0:Nt E E.edges.length=Il E:=by simp[Nt,Il]
     have q:=Uz E E.edges.length;rw[e0]at a q ⊢;have d:=a;clear a e0;obtain⟨c0,c1,N,P,Q,S,T,X,Y,Z⟩:=d.ebx.cells;have bd:=Aix d.nb;rw[<-a7.out]at bd;have aj:=G (Ad7 _ (Il E) _ E.points.length nb wr (Ge d.own) (by omega) bd);unfold vK at aj;have aw:=d.ebx.bel;by_cases h1:E.count< -1
     ·have HV:=G (show Kf E=true from by unfold Kf Xf;rw[On (.inl h1)];rfl);go_wp2_with fail;go_ret;exact⟨Am HV.symm,aw⟩
     by_cases h2:(E.points.length:Int)<=E.count
     ·have HV:=G (show Kf E=true from by unfold Kf Xf;rw[On (.inr h2)];rfl);go_wp2_with fail;go_ret;exact⟨Am HV.symm,aw⟩
     have HV:=G (show Kf E=(Il E).any (Nx E.points.length)from by unfold Kf Xf;rw[N1 (by omega)];rfl);generalize(Il E).any (Nx E.points.length)=ans at aj HV;go_wp2_with fail;refine aj.mono ?_;rintro e w' ⟨rfl,rfl⟩;go_wp2_with fail;go_ret;exact⟨Am HV.symm,aw⟩
def Sr(E:Ak):Bool:=Fq E.edges||(H8 E.first||H8 E.last)
def C6(E:Ak):Nat->Bool
 |0=>Kf E
 |1=>Tl E
 |2=>Ve E
 |3=>E.gaps.any Ce
 |4=>Sr E
 |5=>s1W E
 |6=>s2W E
 |_=>false
def Anh:Nat->Nat
 |0=>5
 |1=>3
 |2=>2
 |3=>2
 |4=>6
 |_=>3
def V8(E:Ak):Nat:=
 if C6 E 0=true then 5 else if C6 E 1=true then 3 else if C6 E 2=true then 2 else if C6 E 3=true then 2 else if C6 E 4=true then 6 else if C6 E 5=true then 3 else if C6 E 6=true then 3 else 0
theorem J5{E:Ak}(k:Nat)(d:k<7)(h:C6 E k=true)(a:∀j,j<k->C6 E j=false):V8 E=Anh k:=by
 unfold V8;match k,d with
 |0,_=>rw[h];rfl
 |1,_=>rw[a 0 (by decide),h];rfl
 |2,_=>rw[a 0 (by decide),a 1 (by decide),h];rfl
 |3,_=>rw[a 0 (by decide),a 1 (by decide),a 2 (by decide),h];rfl
 |4,_=>rw[a 0 (by decide),a 1 (by decide),a 2 (by decide),a 3 (by decide),h];rfl
 |5,_=>rw[a 0 (by decide),a 1 (by decide),a 2 (by decide),a 3 (by decide),a 4 (by decide),h];rfl
 |6,_=>rw[a 0 (by decide),a 1 (by decide),a 2 (by decide),a 3 (by decide),a 4 (by decide),a 5 (by decide),h];rfl
theorem Aav{E:Ak}(a:∀j,j<7->C6 E j=false):V8 E=0:=by
 unfold V8;rw[a 0 (by decide),a 1 (by decide),a 2 (by decide),a 3 (by decide),a 4 (by decide),a 5 (by decide),a 6 (by decide)];rfl
theorem zC{ahead:List ByteArray}{E:Ak}(h1:Bt E.name=true)(h2:B3 ahead E.name=false)(h3:R0 E=false)(a:tA E=false)(d:Kw E.points=0):A8 ahead E=V8 E:=by
 unfold A8 V8;rw[h1,h2,h3,a,d];simp only[C6,Kf,Sr];cases Xf E
 ·cases Jh E
  ·cases Tl E
   ·cases Ve E
    ·cases E.gaps.any Ce
     ·cases Fq E.edges
      ·cases H8 E.first
       ·cases H8 E.last<;>rfl
       ·rfl
      ·rfl
     ·rfl
    ·rfl
   ·rfl
  ·rfl
 ·rfl
section
variable (E:Ak) (vp vg ve vf vl:ZE) (w:V)
theorem Afs:ZH ZI 205 #[ZJ (As E vp vg ve vf vl)] w fun e w'=>e=ZD (ZK (Tl E))/\ZF w.heap.size w w':=by
 unfold As;have f:ZF w.heap.size w (w.alloc (ZC (As E vp vg ve vf vl) 50)):=(R1 _ _).alloc (Y2 _) _;unfold As at f;have d:=G f;clear f;by_cases h1:E.count= -1
 ·have g:(E.count== -1)=true:=by simp[h1]
  by_cases h2:E.mn=0
  ·have i:(E.mn != 0)=false:=by simp[h2]
   by_cases h3:E.mx=0
   ·have j:(E.mx != 0)=false:=by simp[h3]
    have a:=G (show Tl E=false from N1 (by omega));clear h1 h2 h3;go_enter func205,ntmps205;go_wp2_with fail;go_ret;exact⟨Am a.symm,d.out⟩
   ·have j:(E.mx != 0)=true:=by simp[h3]
    have a:=G (show Tl E=true from On ⟨h1,.inr h3⟩);clear h1 h2 h3;go_enter func205,ntmps205;go_wp2_with fail;go_ret;exact⟨Am a.symm,d.out⟩
  ·have i:(E.mn != 0)=true:=by simp[h2]
   have a:=G (show Tl E=true from On ⟨h1,.inl h2⟩);clear h1 h2;go_enter func205,ntmps205;go_wp2_with fail;go_ret;exact⟨Am a.symm,d.out⟩
 ·have g:(E.count== -1)=false:=by simp[h1]
  have a:=G (show Tl E=false from N1 (fun h=>h1 h.1));clear h1;go_enter func205,ntmps205;go_wp2_with fail;go_ret;exact⟨Am a.symm,d.out⟩
theorem Afr:ZH ZI 206 #[ZJ (As E vp vg ve vf vl)] w fun e w'=>e=ZD (ZK (Ve E))/\ZF w.heap.size w w':=by
 unfold As;have f:ZF w.heap.size w (w.alloc (ZC (As E vp vg ve vf vl) 50)):=(R1 _ _).alloc (Y2 _) _;unfold As at f;have d:=G f;clear f;by_cases h1:E.mn<0
 ·have a:=G (show Ve E=true from On (.inl h1));go_enter func206,ntmps206;go_wp2_with fail;go_ret;exact⟨Am a.symm,d.out⟩
 ·by_cases h2:E.mx<E.mn
  ·have a:=G (show Ve E=true from On (.inr (.inl h2)));go_enter func206,ntmps206;go_wp2_with fail;go_ret;exact⟨Am a.symm,d.out⟩
  ·have a:=G (show Ve E=decide (1000<=E.mx)from by unfold Ve;rw[decide_eq_decide];omega);go_enter func206,ntmps206;go_wp2_with fail;go_ret;exact⟨Am a.symm,d.out⟩
end
section
variable (R:Nat->Prop) (E:Ak) (vp vg ve vf vl:ZE) (w:V) (h:Dk R w E vp vg ve vf vl) (hR:∀b,R b->b<w.heap.size) (hE:G6 E)
include h hR hE
theorem Afq:ZH ZI 207 #[ZJ (As E vp vg ve vf vl)] w fun e w'=>e=ZD (ZK (E.gaps.any Ce))/\ZF w.heap.size w w':=by
 unfold As;have f:ZF w.heap.size w (w.alloc (ZC (As E vp vg ve vf vl) 50)):=(R1 _ _).alloc (Y2 _) _;unfold As at f;have a:=G f;clear f;obtain⟨ga,l,rfl⟩:=h.g.val;have d:=G (fun W (i:ZF w.heap.size w W)=>Ad8 R E.gaps _ W (h.g.below i hR) (Bw hR i) (by have:=hE.g;omega));unfold yH at d;generalize E.gaps.any Ce=ans at d ⊢;clear h hR hE;go_enter func207,ntmps207;go_wp2_with fail;refine(d _ a.out).mono ?_;rintro e m ⟨rfl,j⟩;go_wp2_with fail;go_ret;exact⟨rfl,a.trans (j.mono a.size)⟩
theorem Afp:ZH ZI 210 #[ZJ (As E vp vg ve vf vl)] w fun e w'=>e=ZD (ZK (Sr E))/\ZF w.heap.size w w':=by
 obtain⟨D,K,rfl⟩:=h.e.val;obtain⟨L,M,rfl⟩:=h.f.val;obtain⟨N,P,rfl⟩:=h.l.val;have H:=G h;have a:EB w R E vp vg (F D E.edges.length K) (F L E.first.length M) (F N E.last.length P) w.heap.size (w.alloc (ZC (As E vp vg (F D E.edges.length K) (F L E.first.length M) (F N E.last.length P)) 50)):=
  ⟨Ab _ _,h.keep (Al ((R1 _ _).alloc (Y2 _) _)) (fun _ _ h=>h),(R1 _ _).alloc (Y2 _) _,hR,Y2 _⟩
 have y:=G (fun W (j:ZF w.heap.size w W)=>Aat R E.edges _ W (h.e.below j hR) (Bw hR j) (by have:=hE.e;omega));have u:=G (fun W (j:ZF w.heap.size w W)=>Xm R E.first _ W (h.f.below j hR) (by have:=hE.f;omega));have v:=G (fun W (j:ZF w.heap.size w W)=>Xm R E.last _ W (h.l.below j hR) (by have:=hE.l;omega));have i:ZG (Sr E=(Fq E.edges||(H8 E.first||H8 E.last))):=rfl;generalize Fq E.edges=t1 at y i;generalize H8 E.first=t2 at u i;generalize H8 E.last=t3 at v i;clear h hE;unfold As at a ⊢;go_enter func210,ntmps210;go_upto_region 1 with fail;generalize w.alloc _=w1 at a ⊢;obtain⟨c0,c1,n,o,p,q,s,t,B,C⟩:=a.cells;have g:=G a;clear a c0 c1 n o p q s;go_wp2_with fail;refine(y _ g.bel).mono ?_;rintro e Q ⟨rfl,A⟩;have HEB2:=G (g.below A);clear t B C A g;obtain⟨c0,c1,n,o,p,q,s,t,B,C⟩:=HEB2.cells;clear c0 c1 n o p q s t;have d:=HEB2.bel;cases t1 with
 |true=>
  have m:=G (show Sr E=true from i.out);go_wp2_with fail;go_ret;exact⟨Am m.symm,d⟩
 |false=>
  go_wp2_with fail;refine(u _ d).mono ?_;rintro e w' ⟨rfl,rfl⟩;cases t2 with
  |true=>
   have m:=G (show Sr E=true from i.out);go_wp2_with fail;go_ret;exact⟨Am m.symm,d⟩
  |false=>
   go_wp2_with fail;refine(v _ d).mono ?_;rintro e w' ⟨rfl,rfl⟩;have m:=G (show Sr E=t3 from i.out);go_wp2_with fail;go_ret;exact⟨Am m.symm,d⟩
end
theorem Afo(R:Nat->Prop)(E:Ak)(vp vg ve vf vl:ZE)(w:V)(h:Dk R w E vp vg ve vf vl)(hR:∀b,R b->b<w.heap.size)(hE:G6 E):ZH ZI 213 #[ZJ (As E vp vg ve vf vl)] w fun e w'=>e=ZD (ZK (s1W E))/\ZF w.heap.size w w':=by
 unfold As;have g:ZF w.heap.size w (w.alloc (ZC (As E vp vg ve vf vl) 50)):=(R1 _ _).alloc (Y2 _) _;unfold As at g;have d:=G g;clear g;obtain⟨j,l,rfl⟩:=h.e.val;obtain⟨m,n,rfl⟩:=h.f.val;clear h hR hE;by_cases h1:0<E.edges.length
 ·by_cases h2:E.first.length=0
  ·have i:((E.first.length:Int)==0)=true:=by simp[h2]
   have a:=G (show s1W E=true from On ⟨h1,h2⟩);clear h2;go_enter func213,ntmps213;go_wp2_with fail;go_ret;exact⟨Am a.symm,d.out⟩
  ·have i:((E.first.length:Int)==0)=false:=by simp;intro e;exact h2 (by rw[e];rfl)
   have a:=G (show s1W E=false from N1 (fun h=>h2 h.2));clear h2;go_enter func213,ntmps213;go_wp2_with fail;go_ret;exact⟨Am a.symm,d.out⟩
 ·have a:=G (show s1W E=false from N1 (fun h=>h1 h.1));go_enter func213,ntmps213;go_wp2_with fail;go_ret;exact⟨Am a.symm,d.out⟩
theorem Afn(R:Nat->Prop)(E:Ak)(vp vg ve vf vl:ZE)(w:V)(h:Dk R w E vp vg ve vf vl)(hR:∀b,R b->b<w.heap.size)(hE:G6 E):ZH ZI 214 #[ZJ (As E vp vg ve vf vl)] w fun e w'=>e=ZD (ZK (s2W E))/\ZF w.heap.size w w':=by
 unfold As;have g:ZF w.heap.size w (w.alloc (ZC (As E vp vg ve vf vl) 50)):=(R1 _ _).alloc (Y2 _) _;unfold As at g;have d:=G g;clear g;have j:=hE.f;have m:=hE.l;obtain⟨n,o,rfl⟩:=h.e.val;obtain⟨p,q,rfl⟩:=h.f.val;obtain⟨s,t,rfl⟩:=h.l.val;clear h hR hE;by_cases h1:E.edges.length=0
 ·have i:((E.edges.length:Int)==0)=true:=by simp[h1]
  by_cases h2:0<(E.first.length:Int)+(E.last.length:Int)
  ·have a:=G (show s2W E=true from On ⟨h1,by omega⟩);clear h1;go_enter func214,ntmps214;go_wp2_with fail;go_ret;exact⟨Am a.symm,d.out⟩
  ·have a:=G (show s2W E=false from N1 (fun h=>h2 (by have:=h.2;omega)));clear h1;go_enter func214,ntmps214;go_wp2_with fail;go_ret;exact⟨Am a.symm,d.out⟩
 ·have i:((E.edges.length:Int)==0)=false:=by simp;intro e;exact h1 (by rw[e];rfl)
  have a:=G (show s2W E=false from N1 (fun h=>h1 h.1));clear h1;go_enter func214,ntmps214;go_wp2_with fail;go_ret;exact⟨Am a.symm,d.out⟩
