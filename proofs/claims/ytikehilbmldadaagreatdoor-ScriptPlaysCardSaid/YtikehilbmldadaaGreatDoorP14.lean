import Derived.Test.YtikehilbmldadaaGreatDoorP09
import Derived.Deep.RegionHeld3
set_option maxHeartbeats 2000000
set_option maxRecDepth 100000
set_option linter.unusedVariables false
namespace Go.Proofs.YtikehilbmldadaaGreatDoor
open Proofs.Tryz YtikehilbmldadaaGreatDoor.Tryz RowKit
open Go renaming World->V,Value->ZE,RowKit.Below->ZF,Value.int->I,IntKind.i64->J,Value.slice->F,Obj.cells->ZC,Value.bool->ZK,Proofs.Tryz.prog->ZI
open Option renaming some->U,none->O
theorem Aev{B:Nat}{w1 w':V}(hs:B<w1.heap.size)(h:ZF w1.heap.size w1 w'):(∀o,w'.cell? ⟨B,o,O⟩=w1.cell? ⟨B,o,O⟩)/\ZF w1.heap.size w1 w':=⟨fun o=>h.cell (p:=⟨B,o,O⟩) hs,h⟩
theorem Dp{w1 w':V}(h:ZF w1.heap.size w1 w')(o:Obj):ZF w1.heap.size w1 (w'.alloc o):=h.alloc h.size o
theorem Hc{w1 w' w'':V}(h:ZF w1.heap.size w1 w')(k:ZF w'.heap.size w' w''):ZF w1.heap.size w1 w'':=h.trans (k.mono h.size)
structure Ex (lo hi:Nat) (E:Ak) (es:List (Int × Int)) (w:V) (f:Nat) (at':Int) (bad:Bool):Prop where
 ex:∃(mb:Nat) (a1:Option Addr) (k1:Nat) (a2:Option Addr) (k2:Nat) (K:List (Int × Int)),
  w.heap[f]? =U (ZC #[.map (U mb),I J E.points.length,F a1 E.first.length k1,F a2 E.last.length k2,I J at',ZK bad] 255)/\
  Jx w mb K/\(∀q,q∈K↔q∈es)/\Av (fun b=>lo<=b/\b<hi/\b≠f/\b≠mb) w (F a1 E.first.length k1) 1 (Ad E.first) E.first.length/\
  Av (fun b=>lo<=b/\b<hi/\b≠f/\b≠mb) w (F a2 E.last.length k2) 1 (Ad E.last) E.last.length/\lo<=mb/\mb<hi/\mb≠f
 flo:lo<=f
 fhi:f<hi
 ftop:hi<=w.heap.size
theorem Ex.keep{S:Nat->Prop}{lo hi:Nat}{E:Ak}{es:List (Int × Int)}{w w':V}{f:Nat}{a:Int}{d:Bool}(h:Ex lo hi E es w f a d)(g:Ac S w w')(i:∀b,lo<=b->b<hi->¬S b):Ex lo hi E es w' f a d:=by
 obtain⟨⟨o,p,k1,q,y,K,h1,h2,h3,s,t,j,l,u⟩,n,m,v⟩:=h;exact⟨⟨o,p,k1,q,y,K,g.get h1 (i f n m),h2.keep g (i o j l),h3,s.keep g (fun b e=>i b e.1 e.2.1),t.keep g (fun b e=>i b e.1 e.2.1),j,l,u⟩,n,m,No v g.size⟩
theorem Av.imp{R S:Nat->Prop}{w:V}{v:ZE}{e:Nat}{a:List ZE}{n:Nat}(h:Av R w v e a n)(m:∀b,R b->b<w.heap.size->S b):Av S w v e a n:=by
 obtain⟨o,f,cap,q,h1,h2,h3,g⟩:=h;refine⟨o,f,cap,q,h1,h2,h3,fun p=>?_⟩;obtain⟨b,off,j,i,d,l⟩:=g p;exact⟨b,off,j,m b i d,d,l⟩
theorem Qu(w:V):Jx (w.alloc (.map #[] 0)) w.heap.size []:=⟨#[],0,heap_alloc_new w _,rfl⟩
theorem Px{w w1 a W:V}{E:Ak}{a1 a2:Option Addr}{k1 k2 d:Nat}(o:ZF w.heap.size w w1)(f:ZF w1.heap.size w1 a)(p:Jx a d [])(i:w.heap.size<=d/\d<a.heap.size)
  (h1:Av (fun b=>w.heap.size<=b/\b≠d) a (F a1 E.first.length k1) 1 (Ad E.first) E.first.length) (h2:Av (fun b=>w.heap.size<=b/\b≠d) a (F a2 E.last.length k2) 1 (Ad E.last) E.last.length)
  (n:W=a.alloc (ZC #[.map (U d),I J E.points.length,F a1 E.first.length k1,F a2 E.last.length k2,I J (-1),ZK false] 255)):
  Ex w.heap.size (a.heap.size+1) E [] W a.heap.size (-1) false/\ZF w1.heap.size w1 W:=by
 subst n;have l:Ac (fun _=>False) a (a.alloc (ZC #[.map (U d),I J E.points.length,F a1 E.first.length k1,F a2 E.last.length k2,I J (-1),ZK false] 255)):=(Ac.refl _ _).alloc _;have j:=f.size;have m:=o.size;refine⟨⟨⟨d,a1,k1,a2,k2,[],Ab _ _,p.keep l (fun h=>h),fun q=>by simp,?_,?_,i.1,by omega,by omega⟩,by omega,by omega,by simp⟩,f.alloc j _⟩
 ·exact(h1.imp (fun b e g=>⟨e.1,by omega,by omega,e.2⟩)).keep l (fun _ _ h=>h)
 ·exact(h2.imp (fun b e g=>⟨e.1,by omega,by omega,e.2⟩)).keep l (fun _ _ h=>h)
theorem Ahb{w w1 wf a:V}{E:Ak}{a1 a2:Option Addr}{k1 k2:Nat}(i:ZF w.heap.size w w1)(d:ZF (w1.alloc (.map #[] 0)).drew.heap.size (w1.alloc (.map #[] 0)).drew wf)(bl:ZF wf.heap.size wf a)
  (j:Av (fun b=>(w1.alloc (.map #[] 0)).drew.heap.size<=b) wf (F a1 E.first.length k1) 1 (Ad E.first) E.first.length) (sl:Av (fun b=>wf.heap.size<=b) a (F a2 E.last.length k2) 1 (Ad E.last) E.last.length):
  Ex w.heap.size (a.heap.size+1) E [] (a.alloc (ZC #[.map (U w1.heap.size),I J E.points.length,F a1 E.first.length k1,F a2 E.last.length k2,I J (-1),ZK false] 255)) a.heap.size (-1) false/\ZF w1.heap.size w1 (a.alloc (ZC #[.map (U w1.heap.size),I J E.points.length,F a1 E.first.length k1,F a2 E.last.length k2,I J (-1),ZK false] 255)):=by
 have e:=i.size;have f:(w1.alloc (.map #[] 0)).drew.heap.size=w1.heap.size+1:=H7 w1 _;have s1:=d.size;rw[f]at s1;have s2:=bl.size;refine Px i ((Hc (((R1 _ w1).alloc (Y2 _) _).drew) d).trans (bl.mono (by omega))) (((show Jx (w1.alloc (.map #[] 0)).drew w1.heap.size [] from Qu w1).keep (Al d) (fun h=>h)).keep (Al bl) (fun h=>h)) ⟨e,by omega⟩ ?_ ?_ rfl
 ·exact(j.imp (S:=fun b=>w.heap.size<=b/\b≠w1.heap.size) (fun b g _=>by rw[f]at g;omega)).keep (Al bl) (fun _ _ h=>h)
 ·exact sl.imp (fun b g _=>by omega)
theorem Aha{w w1 wf a:V}{E:Ak}{a1 a2:Option Addr}{k1 k2:Nat}(i:ZF w.heap.size w w1)(f:ZF w1.drew.heap.size w1.drew wf)(bl:ZF (wf.alloc (.map #[] 0)).heap.size (wf.alloc (.map #[] 0)) a)
  (l:Av (fun b=>w1.drew.heap.size<=b) wf (F a1 E.first.length k1) 1 (Ad E.first) E.first.length) (sl:Av (fun b=>(wf.alloc (.map #[] 0)).heap.size<=b) a (F a2 E.last.length k2) 1 (Ad E.last) E.last.length):
  Ex w.heap.size (a.heap.size+1) E [] (a.alloc (ZC #[.map (U wf.heap.size),I J E.points.length,F a1 E.first.length k1,F a2 E.last.length k2,I J (-1),ZK false] 255)) a.heap.size (-1) false/\ZF w1.heap.size w1 (a.alloc (ZC #[.map (U wf.heap.size),I J E.points.length,F a1 E.first.length k1,F a2 E.last.length k2,I J (-1),ZK false] 255)):=by
 have e:=i.size;have s1:w1.heap.size<=wf.heap.size:=f.size;have g:(wf.alloc (.map #[] 0)).heap.size=wf.heap.size+1:=H7 wf _;have s2:=bl.size;rw[g]at s2;refine Px i ((Dp (Hc ((R1 _ w1).drew) f) (.map #[] 0)).trans (bl.mono (by omega))) ((Qu wf).keep (Al bl) (fun h=>h)) ⟨by omega,by omega⟩ ?_ ?_ rfl
 ·exact((l.imp (S:=fun b=>w.heap.size<=b/\b≠wf.heap.size) (fun b d j=>⟨No e d,by omega⟩)).keep ((Ac.refl (fun _=>False) wf).alloc (.map #[] 0)) (fun _ _ h=>h)).keep (Al bl) (fun _ _ h=>h)
 ·exact sl.imp (fun b d _=>by rw[g]at d;omega)
theorem Ag9{w w1 wf a:V}{E:Ak}{a1 a2:Option Addr}{k1 k2:Nat}(j:ZF w.heap.size w w1)(f:ZF w1.drew.heap.size w1.drew wf)(bl:ZF wf.heap.size wf a)
  (l:Av (fun b=>w1.drew.heap.size<=b) wf (F a1 E.first.length k1) 1 (Ad E.first) E.first.length) (sl:Av (fun b=>wf.heap.size<=b) a (F a2 E.last.length k2) 1 (Ad E.last) E.last.length):
  Ex w.heap.size (a.heap.size+1+1) E [] ((a.alloc (.map #[] 0)).alloc (ZC #[.map (U a.heap.size),I J E.points.length,F a1 E.first.length k1,F a2 E.last.length k2,I J (-1),ZK false] 255)) (a.heap.size+1) (-1) false/\ZF w1.heap.size w1 ((a.alloc (.map #[] 0)).alloc (ZC #[.map (U a.heap.size),I J E.points.length,F a1 E.first.length k1,F a2 E.last.length k2,I J (-1),ZK false] 255)):=by
 have e:=j.size;have s1:w1.heap.size<=wf.heap.size:=f.size;have s2:=bl.size;have g:(a.alloc (.map #[] 0)).heap.size=a.heap.size+1:=H7 a _;have:=Px (W:=(a.alloc (.map #[] 0)).alloc (ZC #[.map (U a.heap.size),I J E.points.length,F a1 E.first.length k1,F a2 E.last.length k2,I J (-1),ZK false] 255)) (E:=E) (a1:=a1) (a2:=a2) (k1:=k1) (k2:=k2) j (Dp ((Hc ((R1 _ w1).drew) f).trans (bl.mono (by omega))) (.map #[] 0)) (Qu a) ⟨by omega,by rw[g];omega⟩ ?_ ?_ rfl
 ·rw[g]at this;exact this
 ·exact((l.keep (Al bl) (fun _ _ h=>h)).imp (S:=fun b=>w.heap.size<=b/\b≠a.heap.size) (fun b i d=>⟨No e i,by omega⟩)).keep ((Ac.refl (fun _=>False) a).alloc (.map #[] 0)) (fun _ _ h=>h)
 ·exact(sl.imp (S:=fun b=>w.heap.size<=b/\b≠a.heap.size) (fun b i d=>by omega)).keep ((Ac.refl (fun _=>False) a).alloc (.map #[] 0)) (fun _ _ h=>h)
theorem Ro{w:V}{b:Nat}{c0 c1 a d e f:ZE}{t:TypeId}(h:w.heap[b]? =U (ZC #[c0,c1,a,d,e,f] t)):
  w.cell? ⟨b,0,O⟩=U c0/\w.cell? ⟨b,1,O⟩=U c1/\w.cell? ⟨b,2,O⟩=U a/\w.cell? ⟨b,3,O⟩=U d/\w.cell? ⟨b,4,O⟩=U e/\w.cell? ⟨b,5,O⟩=U f/\∀o,w.frozen? ⟨b,o,O⟩=false:=by
 simp[World.cell?,World.frozen?,h]
theorem Tryz.pairInfo:(ZI.info? 3).map (·.size)=U 1:=by kernel_rfl
theorem Tryz.pairZero:(ZI.info? 4).map (·.zero)=U (U (ZK false)):=by kernel_rfl
theorem Tryz.pairMap:Mk ZI 252 127 3 4 where
 um:=by kernel_rfl
 ut:=by kernel_rfl
 ue:=by kernel_rfl
 us:=by
  have:=pairInfo;cases h:ZI.info? 3 with
  |none=>rw[h]at this;cases this
  |some i=>rw[h]at this;exact⟨i,rfl,by simpa using this⟩
 uz:=by
  intro w;have:=pairZero;cases h:ZI.info? 4 with
  |none=>rw[h]at this;cases this
  |some i=>rw[h]at this;simp at this;simp[zeroValue,typeInfo,h,this]
theorem yK(R:Nat->Prop)(E:Ak)(vp vg ve vf vl:ZE)(w:V)(h:Dk R w E vp vg ve vf vl)(hR:∀b,R b->b<w.heap.size)(hL:O7 E):
    Calls ZI 91 #[.agg (As E vp vg ve vf vl)] w fun e w'=>∃f hi,e=.returned (.pointer (U ⟨f,0,O⟩))/\Ex w.heap.size hi E E.edges w' f (-1) false/\ZF w.heap.size w w':=by
  obtain⟨pa,Q,rfl⟩:=h.p.val;obtain⟨ga,M,rfl⟩:=h.g.val;obtain⟨D,L,rfl⟩:=h.e.val;obtain⟨t,u,rfl⟩:=h.f.val;obtain⟨B,C,rfl⟩:=h.l.val;have bs:= @run_makeMap ZI;have H:=G h;have lf:=hL.f;have ll:=hL.l;have le:=hL.e;clear h;unfold As;go_enter func91,ntmps91;go_upto_region 1 with fail;have a:(w.alloc (ZC (As E (F pa E.points.length Q) (F ga E.gaps.length M) (F D E.edges.length L) (F t E.first.length u) (F B E.last.length C)) 50)).heap[w.heap.size]? =U (ZC (As E (F pa E.points.length Q) (F ga E.gaps.length M) (F D E.edges.length L) (F t E.first.length u) (F B E.last.length C)) 50):=Ab _ _;have d:ZF w.heap.size w (w.alloc (ZC (As E (F pa E.points.length Q) (F ga E.gaps.length M) (F D E.edges.length L) (F t E.first.length u) (F B E.last.length C)) 50)):=(R1 _ _).alloc (Y2 _) _;have j:(w.alloc (ZC (As E (F pa E.points.length Q) (F ga E.gaps.length M) (F D E.edges.length L) (F t E.first.length u) (F B E.last.length C)) 50)).heap.size=w.heap.size+1:=by simp
  simp only[As]at a d j;generalize w.alloc _=w1 at a d j ⊢;have A:w.heap.size<w1.heap.size:=by omega
  obtain⟨c0,c1,c2,c3,c4,c5,c6,c7,c8,c9,cf⟩:=Bo a;have a8:=G j;have a6:=G a;clear j a c0 c1 c3 c4 c5 c6 cf;go_cut [3] (fun s3 m=>∃f hi,s3=.pointer (U ⟨f,0,O⟩)/\Ex w.heap.size hi E [] m f (-1) false/\ZF w1.heap.size w1 m);case first=>
   go_region_held3 (fun w'=>(∀o,w'.cell? ⟨w.heap.size,o,O⟩=w1.cell? ⟨w.heap.size,o,O⟩)/\ZF w1.heap.size w1 w')
    (first|(refine Aev A ?_;repeat(first|exact R1 _ _|assumption|refine H5 ?_|refine Dp ?_ _|refine Hc ?_ (by assumption))))
    (first|(go_at_call_of 159 (Value.slice t E.first.length u);refine(Sn R E.first _ _ ?_ (by omega)).mono ?_;(exact H.f.below (d.trans (Below.mono (by repeat(first|exact R1 _ _|assumption|refine H5 ?_|refine Dp ?_ _|refine Hc ?_ (by assumption))) (Zyi A))) hR);rintro e wf ⟨a1,k1,rfl,sf,S⟩)|(go_at_call_of 159 (Value.slice B E.last.length C);refine(Sn R E.last _ _ ?_ (by omega)).mono ?_;(exact H.l.below (d.trans (Below.mono (by repeat(first|exact R1 _ _|assumption|refine H5 ?_|refine Dp ?_ _|refine Hc ?_ (by assumption))) (Zyi A))) hR);rintro e wl ⟨a2,k2,rfl,sl,bl⟩))
   all_goals(go_wp2_with fail;go_meet)
   · exact⟨_,_,rfl,Ahb d S bl sf sl⟩
   · exact⟨_,_,rfl,Aha d S bl sf sl⟩
   · exact⟨_,_,rfl,Ag9 d S bl sf sl⟩
  case rest=>
  obtain⟨f,hi,rfl,hF,hB⟩:=hcut;have HF:=G hF;clear hF;have Z:=d.trans (hB.mono (Zyi A));have d7:=Aev A hB;rw[<-d7.1 7]at c7;clear c2 c8 c9 d7;go_wp2_with fail;go_loopw [21] (fun s wr=>∃k:Nat,k<=E.edges.length/\s=I J k/\ZF w.heap.size w wr/\Hid (Ex w.heap.size hi E (E.edges.take k) wr f (-1) false)) (fun s _=>E.edges.length-(intOf s).toNat);case atStart=>exact⟨0,In _,rfl,Z,HF⟩
  case round=>
    obtain⟨k,hk,rfl,i,N⟩:=hrel;by_cases n:k<E.edges.length
    · obtain⟨eb,an,rfl,ac,_,hc⟩:=H.e.elem (f:=Cn) (fun _=>rfl) (by decide) (by omega)
      have q0:=hc k n 0 _ rfl;have q1:=hc k n 1 _ rfl;rw[<-i.cell (hR eb ac)]at q0 q1;rw[Zzw]at q0;clear hc;go_upto_region 5 with fail;have P:Ac (fun _=>False) wr (wr.alloc (ZC #[I J E.edges[k].1,I J E.edges[k].2] 127)):=(Ac.refl _ _).alloc _;have gx:=Ab wr (ZC #[I J E.edges[k].1,I J E.edges[k].2] 127);have a:ZF w.heap.size w (wr.alloc (ZC #[I J E.edges[k].1,I J E.edges[k].2] 127)):=i.alloc i.size _;have v:=N.keep P (fun _ _ _ h=>h);have ag:=P.size;have br:=N.ftop;generalize wr.alloc _=m at P gx a v ag ⊢;obtain⟨x0,x1,xf⟩:=Au gx;obtain⟨⟨mb,a1,k1,a2,k2,K,T,f2,f3,f4,f5,f6,f7,f8⟩,f9,X,Y⟩:=v;obtain⟨m0,m1,m2,m3,m4,m5,mf⟩:=Ro T;obtain⟨W,af,⟨K',y,hq⟩,kp⟩:=pairMap.update m.drew mb K E.edges[k] (show Jx m.drew mb K from f2);unfold Hw at af;have st:Ex w.heap.size hi E (E.edges.take (k+1)) W f (-1) false/\ZF w.heap.size w W:=by
        refine⟨⟨⟨mb,a1,k1,a2,k2,K',kp.get (w:=m.drew) T (fun h=>f8 h.symm),y,fun q=>?_,Av.keep (w:=m.drew) f4 kp (fun b i h=>i.2.2.2 h),Av.keep (w:=m.drew) f5 kp (fun b i h=>i.2.2.2 h),f6,f7,f8⟩,f9,X,No Y kp.size⟩,a.drew.trans (kp.below (show w.heap.size<=m.drew.heap.size from a.size) (fun b bq=>by omega))⟩;rw[hq,f3,If n,List.mem_append,List.mem_singleton];exact or_comm
      have ST:=G st;clear st kp hq y T f2 f3 f4 f5 q0 q1 N i P;go_region;all_goals
        go_wp2_with fail;go_roundw;case rel=>exact⟨k+1,by omega,by go_num,ST.2,ST.1⟩
        case measure=>simp[intOf];omega
    · go_wp2_with fail
      go_ret;have ae:k=E.edges.length:=by omega
      have:=N.out;rw[ae,Zz2]at this;exact⟨f,hi,rfl,this,i⟩
