import Derived.Test.YtikehilbmldadaaGreatDoorP03
set_option maxHeartbeats 1000000
set_option linter.unusedVariables false
namespace Go.Proofs.YtikehilbmldadaaGreatDoor
open Proofs.Tryz YtikehilbmldadaaGreatDoor.Tryz RowKit
open Go renaming World->V,Value->ZE,RowKit.Below->ZF,Calls->ZH,Value.int->I,IntKind.i64->J,Value.slice->F,Value.string->ZB,Obj.cells->ZC,Ending.returned->ZD,Proofs.Tryz.prog->ZI
open Option renaming some->U,none->O
structure Ix where
 fr:Int
 dst:Int
 mn:Int
 mx:Int
structure Ak where
 name:ByteArray
 tol:Int
 points:List ByteArray
 count:Int
 mn:Int
 mx:Int
 gaps:List Ix
 edges:List (Int × Int)
 first:List Int
 last:List Int
def Cu(g:Ix):List ZE:=[I J g.fr,I J g.dst,I J g.mn,I J g.mx]
def Cn(x:Int × Int):List ZE:=[I J x.1,I J x.2]
def Aj(l:List ByteArray):List ZE:=l.map Value.string
def Ad(l:List Int):List ZE:=l.map (Value.int J )
structure Dk (R:Nat->Prop) (w:V) (E:Ak) (vp vg ve vf vl:ZE):Prop where
 p:Av R w vp 1 (Aj E.points) E.points.length
 g:Av R w vg 4 (E.gaps.flatMap Cu) E.gaps.length
 e:Av R w ve 2 (E.edges.flatMap Cn) E.edges.length
 f:Av R w vf 1 (Ad E.first) E.first.length
 l:Av R w vl 1 (Ad E.last) E.last.length
def As(E:Ak)(vp vg ve vf vl:ZE):Array ZE:=#[ZB E.name,I J E.tol,vp,I J E.count,I J E.mn,I J E.mx,vg,ve,vf,vl]
def Amp(R:Nat->Prop)(w:V)(v:ZE)(E:Ak):Prop:=∃vp vg ve vf vl,v=.agg (As E vp vg ve vf vl)/\Dk R w E vp vg ve vf vl
theorem Dk.keep{R S:Nat->Prop}{w w':V}{E:Ak}{m j ve i vl:ZE}(h:Dk R w E m j ve i vl)(d:Ac S w w')(a:∀b,R b->¬S b):Dk R w' E m j ve i vl:=
 ⟨h.p.keep d a,h.g.keep d a,h.e.keep d a,h.f.keep d a,h.l.keep d a⟩
theorem Bo{w:V}{b:Nat}{c0 c1 a d e f g i j l:ZE}{t:TypeId}(h:w.heap[b]? =U (ZC #[c0,c1,a,d,e,f,g,i,j,l] t)):
  w.cell? ⟨b,0,O⟩=U c0/\w.cell? ⟨b,1,O⟩=U c1/\w.cell? ⟨b,2,O⟩=U a/\w.cell? ⟨b,3,O⟩=U d/\w.cell? ⟨b,4,O⟩=U e/\w.cell? ⟨b,5,O⟩=U f/\
  w.cell? ⟨b,6,O⟩=U g/\w.cell? ⟨b,7,O⟩=U i/\w.cell? ⟨b,8,O⟩=U j/\w.cell? ⟨b,9,O⟩=U l/\∀o,w.frozen? ⟨b,o,O⟩=false:=by
 simp[World.cell?,World.frozen?,h]
theorem Tryz.infoStr:(ZI.info? 9).map (fun i=>(i.zero,i.size,i.bytes))=U (U (ZB ByteArray.empty),1,16):=by kernel_rfl
theorem Tryz.infoGap:(ZI.info? 126).map (fun i=>(i.zero,i.size,i.bytes))=U (U (.agg #[I J 0,I J 0,I J 0,I J 0]),4,32):=by kernel_rfl
theorem Tryz.infoEdge:(ZI.info? 127).map (fun i=>(i.zero,i.size,i.bytes))=U (U (.agg #[I J 0,I J 0]),2,16):=by kernel_rfl
theorem Tryz.infoInt:(ZI.info? 3).map (fun i=>(i.zero,i.size,i.bytes))=U (U (I J 0),1,8):=by kernel_rfl
theorem Av.val{R:Nat->Prop}{w:V}{v:ZE}{e:Nat}{a:List ZE}{n:Nat}(h:Av R w v e a n):∃ao cap,v=F ao n cap:=by
 obtain⟨_,ao,cap,d,_⟩:=h;exact⟨ao,cap,d⟩
structure U1 (w0:V) (E:Ak) (i o:ZE × ZE × ZE × ZE × ZE) (w:V):Prop where
 below:ZF w0.heap.size w0 w
 h0:w.heap[w0.heap.size]? =U (ZC (As E i.1 i.2.1 i.2.2.1 i.2.2.2.1 i.2.2.2.2) 50)
 h1:w.heap[w0.heap.size+1]? =U (ZC (As ⟨ByteArray.empty,0,[],0,0,0,[],[],[],[]⟩ (F O 0 0) (F O 0 0) (F O 0 0) (F O 0 0) (F O 0 0)) 50)
 h2:w.heap[w0.heap.size+1+1]? =U (ZC (As E o.1 o.2.1 o.2.2.1 o.2.2.2.1 o.2.2.2.2) 50)
theorem U1.cells0{w0 w:V}{E:Ak}{i o:ZE × ZE × ZE × ZE × ZE}(h:U1 w0 E i o w):
  w.cell? ⟨w0.heap.size,2,O⟩=U i.1/\w.cell? ⟨w0.heap.size,6,O⟩=U i.2.1/\w.cell? ⟨w0.heap.size,7,O⟩=U i.2.2.1/\w.cell? ⟨w0.heap.size,8,O⟩=U i.2.2.2.1/\w.cell? ⟨w0.heap.size,9,O⟩=U i.2.2.2.2:=by
 have:=Bo h.h0;exact⟨this.2.2.1,this.2.2.2.2.2.2.1,this.2.2.2.2.2.2.2.1,this.2.2.2.2.2.2.2.2.1,this.2.2.2.2.2.2.2.2.2.1⟩
theorem U1.cells2{w0 w w1:V}{E:Ak}{i o:ZE × ZE × ZE × ZE × ZE}(h:U1 w0 E i o w)(a:ZF w.heap.size w w1):
  w1.cell? ⟨w0.heap.size+1+1,2,O⟩=U o.1/\w1.cell? ⟨w0.heap.size+1+1,6,O⟩=U o.2.1/\w1.cell? ⟨w0.heap.size+1+1,7,O⟩=U o.2.2.1/\w1.cell? ⟨w0.heap.size+1+1,8,O⟩=U o.2.2.2.1/\
  w1.cell? ⟨w0.heap.size+1+1,9,O⟩=U o.2.2.2.2/\∀k,w1.frozen? ⟨w0.heap.size+1+1,k,O⟩=false:=by
 have:=Bo (Ae a h.h2 (Aa h.h2));exact⟨this.2.2.1,this.2.2.2.2.2.2.1,this.2.2.2.2.2.2.2.1,this.2.2.2.2.2.2.2.2.1,this.2.2.2.2.2.2.2.2.2.1,this.2.2.2.2.2.2.2.2.2.2⟩
theorem U1.step{w0 w w1:V}{E:Ak}{i o o':ZE × ZE × ZE × ZE × ZE}(h:U1 w0 E i o w)(d:ZF w.heap.size w w1){k:Nat}{v:ZE}
  (e:(As E o.1 o.2.1 o.2.2.1 o.2.2.2.1 o.2.2.2.2).setIfInBounds k v=As E o'.1 o'.2.1 o'.2.2.1 o'.2.2.2.1 o'.2.2.2.2):
  U1 w0 E i o' (w1.setCell ⟨w0.heap.size+1+1,k,O⟩ v)/\Ac (· =w0.heap.size+1+1) w (w1.setCell ⟨w0.heap.size+1+1,k,O⟩ v):=by
 have g2:=Ae d h.h2 (Aa h.h2);have a:Ac (· =w0.heap.size+1+1) w (w1.setCell ⟨w0.heap.size+1+1,k,O⟩ v):=
  (Ac.step (S:=(· =w0.heap.size+1+1)) (T:=fun _=>False) (Ac.refl _ w) (Al d) (fun _ h _=>h.elim)).setCell (p:=⟨w0.heap.size+1+1,k,O⟩) (fun _=>rfl) v
 refine⟨⟨?_,?_,?_,?_⟩,a⟩
 ·exact h.below.trans (a.below h.below.size (by intro j f;omega))
 ·exact a.get h.h0 (by omega)
 ·exact a.get h.h1 (by omega)
 ·rw[Ah _ g2,e]
theorem wR(w:V)(E:Ak)(i:ZE × ZE × ZE × ZE × ZE):U1 w E i i (((w.alloc (ZC (As E i.1 i.2.1 i.2.2.1 i.2.2.2.1 i.2.2.2.2) 50)).alloc (ZC (As ⟨ByteArray.empty,0,[],0,0,0,[],[],[],[]⟩ (F O 0 0) (F O 0 0) (F O 0 0) (F O 0 0) (F O 0 0)) 50)).alloc (ZC (As E i.1 i.2.1 i.2.2.1 i.2.2.2.1 i.2.2.2.2) 50)):=by
 have n1:=Ab w (ZC (As E i.1 i.2.1 i.2.2.1 i.2.2.2.1 i.2.2.2.2) 50);have a:=Ab (w.alloc (ZC (As E i.1 i.2.1 i.2.2.1 i.2.2.2.1 i.2.2.2.2) 50)) (ZC (As ⟨ByteArray.empty,0,[],0,0,0,[],[],[],[]⟩ (F O 0 0) (F O 0 0) (F O 0 0) (F O 0 0) (F O 0 0)) 50);have d:=Ab ((w.alloc (ZC (As E i.1 i.2.1 i.2.2.1 i.2.2.2.1 i.2.2.2.2) 50)).alloc (ZC (As ⟨ByteArray.empty,0,[],0,0,0,[],[],[],[]⟩ (F O 0 0) (F O 0 0) (F O 0 0) (F O 0 0) (F O 0 0)) 50)) (ZC (As E i.1 i.2.1 i.2.2.1 i.2.2.2.1 i.2.2.2.2) 50);rw[H7]at a;rw[H7,H7]at d;exact⟨(((R1 _ _).alloc (Y2 _) _).alloc (by simp) _).alloc (by simp;omega) _,Bp _ (Bp _ n1),Bp _ a,d⟩
theorem Pi{α:Type}(f:α->List ZE)(a:∀x,∀u∈f x,u.oneCell'=true)(l:List α):∀u∈l.flatMap f,u.oneCell'=true:=by
 intro u d;obtain⟨x,_,e⟩:=List.mem_flatMap.1 d;exact a x u e
theorem sC(l:List Ix):∀u∈l.flatMap Cu,u.oneCell'=true:=Pi _ (by intro x u hu;simp[Cu]at hu;rcases hu with rfl|rfl|rfl|rfl<;>rfl) l
theorem gK(l:List (Int × Int)):∀u∈l.flatMap Cn,u.oneCell'=true:=Pi _ (by intro x u hu;simp[Cn]at hu;rcases hu with rfl|rfl<;>rfl) l
theorem Ph(l:List ByteArray):∀u∈Aj l,u.oneCell'=true:=by intro u hu;simp[Aj]at hu;obtain⟨x,_,rfl⟩:=hu;rfl
theorem El(l:List Int):∀u∈Ad l,u.oneCell'=true:=by intro u hu;simp[Ad]at hu;obtain⟨x,_,rfl⟩:=hu;rfl
structure O7 (E:Ak):Prop where
 p:E.points.length<=100
 g:E.gaps.length<=100
 e:E.edges.length<=100
 f:E.first.length<=100
 l:E.last.length<=100
structure Na (w0:V) (E:Ak) (i:ZE × ZE × ZE × ZE × ZE) (k:Nat) (w:V) (o:ZE × ZE × ZE × ZE × ZE):Prop where
 st:U1 w0 E i o w
 d0:0<k->Av (fun b=>w0.heap.size+3<=b) w o.1 1 (Aj E.points) E.points.length
 d1:1<k->Av (fun b=>w0.heap.size+3<=b) w o.2.1 4 (E.gaps.flatMap Cu) E.gaps.length
 d2:2<k->Av (fun b=>w0.heap.size+3<=b) w o.2.2.1 2 (E.edges.flatMap Cn) E.edges.length
 d3:3<k->Av (fun b=>w0.heap.size+3<=b) w o.2.2.2.1 1 (Ad E.first) E.first.length
 d4:4<k->Av (fun b=>w0.heap.size+3<=b) w o.2.2.2.2 1 (Ad E.last) E.last.length
theorem Na.step0{w0 w w1:V}{E:Ak}{i o:ZE × ZE × ZE × ZE × ZE}(h:Na w0 E i 0 w o)(a:ZF w.heap.size w w1){v:ZE}(e:Av (fun b=>w.heap.size<=b) w1 v 1 (Aj E.points) E.points.length):
  Na w0 E i 1 (w1.setCell ⟨w0.heap.size+1+1,2,O⟩ v) (v,o.2.1,o.2.2.1,o.2.2.2.1,o.2.2.2.2):=by
 obtain⟨s,g⟩:=h.st.step a (k:=2) (v:=v) (o':=(v,o.2.1,o.2.2.1,o.2.2.2.1,o.2.2.2.2)) (by simp[As]);have d:=Aa h.st.h2;have f:=Af w1 (w0.heap.size+1+1) 2 v;refine⟨s,fun _=>?_,fun h=>by omega,fun h=>by omega,fun h=>by omega,fun h=>by omega⟩
 ·exact(e.mono (S:=fun b=>w0.heap.size+3<=b) (fun b a=>by omega)).keep f (fun b a=>by omega)
theorem Na.step1{w0 w w1:V}{E:Ak}{i o:ZE × ZE × ZE × ZE × ZE}(h:Na w0 E i 1 w o)(a:ZF w.heap.size w w1){v:ZE}(e:Av (fun b=>w.heap.size<=b) w1 v 4 (E.gaps.flatMap Cu) E.gaps.length):
  Na w0 E i 2 (w1.setCell ⟨w0.heap.size+1+1,6,O⟩ v) (o.1,v,o.2.2.1,o.2.2.2.1,o.2.2.2.2):=by
 obtain⟨s,f⟩:=h.st.step a (k:=6) (v:=v) (o':=(o.1,v,o.2.2.1,o.2.2.2.1,o.2.2.2.2)) (by simp[As]);have d:=Aa h.st.h2;have g:=Af w1 (w0.heap.size+1+1) 6 v;refine⟨s,fun _=>(h.d0 (by omega)).keep f (fun b a=>by omega),fun _=>?_,fun h=>by omega,fun h=>by omega,fun h=>by omega⟩
 ·exact(e.mono (S:=fun b=>w0.heap.size+3<=b) (fun b a=>by omega)).keep g (fun b a=>by omega)
theorem Na.step2{w0 w w1:V}{E:Ak}{i o:ZE × ZE × ZE × ZE × ZE}(h:Na w0 E i 2 w o)(a:ZF w.heap.size w w1){v:ZE}(f:Av (fun b=>w.heap.size<=b) w1 v 2 (E.edges.flatMap Cn) E.edges.length):
  Na w0 E i 3 (w1.setCell ⟨w0.heap.size+1+1,7,O⟩ v) (o.1,o.2.1,v,o.2.2.2.1,o.2.2.2.2):=by
 obtain⟨s,d⟩:=h.st.step a (k:=7) (v:=v) (o':=(o.1,o.2.1,v,o.2.2.2.1,o.2.2.2.2)) (by simp[As]);have e:=Aa h.st.h2;have g:=Af w1 (w0.heap.size+1+1) 7 v;refine⟨s,fun _=>(h.d0 (by omega)).keep d (fun b a=>by omega),fun _=>(h.d1 (by omega)).keep d (fun b a=>by omega),fun _=>?_,fun h=>by omega,fun h=>by omega⟩
 ·exact(f.mono (S:=fun b=>w0.heap.size+3<=b) (fun b a=>by omega)).keep g (fun b a=>by omega)
theorem Na.step3{w0 w w1:V}{E:Ak}{i o:ZE × ZE × ZE × ZE × ZE}(h:Na w0 E i 3 w o)(a:ZF w.heap.size w w1){v:ZE}(f:Av (fun b=>w.heap.size<=b) w1 v 1 (Ad E.first) E.first.length):
  Na w0 E i 4 (w1.setCell ⟨w0.heap.size+1+1,8,O⟩ v) (o.1,o.2.1,o.2.2.1,v,o.2.2.2.2):=by
 obtain⟨s,d⟩:=h.st.step a (k:=8) (v:=v) (o':=(o.1,o.2.1,o.2.2.1,v,o.2.2.2.2)) (by simp[As]);have e:=Aa h.st.h2;have g:=Af w1 (w0.heap.size+1+1) 8 v;refine⟨s,fun _=>(h.d0 (by omega)).keep d (fun b a=>by omega),fun _=>(h.d1 (by omega)).keep d (fun b a=>by omega),fun _=>(h.d2 (by omega)).keep d (fun b a=>by omega),fun _=>?_,fun h=>by omega⟩
 ·exact(f.mono (S:=fun b=>w0.heap.size+3<=b) (fun b a=>by omega)).keep g (fun b a=>by omega)
theorem Na.step4{w0 w w1:V}{E:Ak}{i o:ZE × ZE × ZE × ZE × ZE}(h:Na w0 E i 4 w o)(a:ZF w.heap.size w w1){v:ZE}(f:Av (fun b=>w.heap.size<=b) w1 v 1 (Ad E.last) E.last.length):
  Na w0 E i 5 (w1.setCell ⟨w0.heap.size+1+1,9,O⟩ v) (o.1,o.2.1,o.2.2.1,o.2.2.2.1,v):=by
 obtain⟨s,d⟩:=h.st.step a (k:=9) (v:=v) (o':=(o.1,o.2.1,o.2.2.1,o.2.2.2.1,v)) (by simp[As]);have e:=Aa h.st.h2;have g:=Af w1 (w0.heap.size+1+1) 9 v;refine⟨s,fun _=>(h.d0 (by omega)).keep d (fun b a=>by omega),fun _=>(h.d1 (by omega)).keep d (fun b a=>by omega),fun _=>(h.d2 (by omega)).keep d (fun b a=>by omega),fun _=>(h.d3 (by omega)).keep d (fun b a=>by omega),fun _=>?_⟩
 ·exact(f.mono (S:=fun b=>w0.heap.size+3<=b) (fun b a=>by omega)).keep g (fun b a=>by omega)
theorem Na.cells{w0 w w1:V}{E:Ak}{i o:ZE × ZE × ZE × ZE × ZE}{k:Nat}(h:Na w0 E i k w o)(a:ZF w.heap.size w w1):
  w1.cell? ⟨w0.heap.size+1+1,2,O⟩=U o.1/\w1.cell? ⟨w0.heap.size+1+1,6,O⟩=U o.2.1/\w1.cell? ⟨w0.heap.size+1+1,7,O⟩=U o.2.2.1/\w1.cell? ⟨w0.heap.size+1+1,8,O⟩=U o.2.2.2.1/\
  w1.cell? ⟨w0.heap.size+1+1,9,O⟩=U o.2.2.2.2/\∀k,w1.frozen? ⟨w0.heap.size+1+1,k,O⟩=false:=h.st.cells2 a
theorem gH{w wc w':V}{E:Ak}{i g ve f vl:ZE}(bl:ZF w.heap.size w wc)
  (h0:Av (fun b=>w.heap.size+3<=b) wc i 1 (Aj E.points) E.points.length) (h1:Av (fun b=>w.heap.size+3<=b) wc g 4 (E.gaps.flatMap Cu) E.gaps.length)
  (h2:Av (fun b=>w.heap.size+3<=b) wc ve 2 (E.edges.flatMap Cn) E.edges.length) (h3:Av (fun b=>w.heap.size+3<=b) wc f 1 (Ad E.first) E.first.length)
  (j:Av (fun b=>w.heap.size+3<=b) wc vl 1 (Ad E.last) E.last.length) (m:w.heap.size<=wc.heap.size) (a:Ac (· =w.heap.size+1) wc w'):
  ∃v,Ending.returned (.agg (As E i g ve f vl))=ZD v/\Amp (fun b=>w.heap.size<=b) w' v E/\ZF w.heap.size w w':=by
 have d:∀b,w.heap.size+3<=b->¬b=w.heap.size+1:=fun b l=>by omega
 have e:∀b,w.heap.size+3<=b->w.heap.size<=b:=fun b l=>by omega
 refine⟨_,rfl,⟨i,g,ve,f,vl,rfl,?_⟩,bl.trans (a.below m (fun k n=>by omega))⟩;exact⟨(h0.keep a d).mono e,(h1.keep a d).mono e,(h2.keep a d).mono e,(h3.keep a d).mono e,(j.keep a d).mono e⟩
theorem gI(R:Nat->Prop)(E:Ak)(vp vg ve vf vl:ZE)(w:V)(h:Dk R w E vp vg ve vf vl)(T:∀b,R b->b<w.heap.size)(hL:O7 E):
  ZH ZI 60 #[.agg (As E vp vg ve vf vl)] w fun e w'=>∃v,e=ZD v/\Amp (fun b=>w.heap.size<=b) w' v E/\ZF w.heap.size w w':=by
 obtain⟨i1,aa,ag,ad,X⟩:=info_parts infoStr;obtain⟨i2,ab,ah,ae,Y⟩:=info_parts infoGap;obtain⟨i3,ac,ai,af,Z⟩:=info_parts infoEdge;obtain⟨i4,C,H,D,B⟩:=info_parts infoInt;obtain⟨pa,M,rfl⟩:=h.p.val;obtain⟨ga,A,rfl⟩:=h.g.val;obtain⟨s,t,rfl⟩:=h.e.val;obtain⟨u,y,rfl⟩:=h.f.val;obtain⟨K,L,rfl⟩:=h.l.val;obtain⟨lp,lg,le,lf,ll⟩:=hL;have a:Na w E (F pa E.points.length M,F ga E.gaps.length A,F s E.edges.length t,F u E.first.length y,F K E.last.length L) 0 _ (F pa E.points.length M,F ga E.gaps.length A,F s E.edges.length t,F u E.first.length y,F K E.last.length L):=⟨wR w E _,fun h=>by omega,fun h=>by omega,fun h=>by omega,fun h=>by omega,fun h=>by omega⟩
 simp only[As]at a;unfold As;go_enter func60,ntmps60;go_upto_region 3 with fail;go_cut [] (fun q=>∃o,Na w E (F pa E.points.length M,F ga E.gaps.length A,F s E.edges.length t,F u E.first.length y,F K E.last.length L) 1 q o);case first=>
  have st:=a.st;obtain⟨c0,c1,N,P,Q⟩:=st.cells0;have j:=h.p.below st.below T;go_wp2_with (at_builtin;refine Gh rfl (.tmp 10) (.tmp 12) 22 rfl 9 i1 _ 1 16 underlying22 aa ag ad X rfl (by decide) rfl R _ _ _ rfl j (Ph _) (by omega) ?_;intro a1 k1 w1 n i;have m:=a.step0 i n;obtain⟨d0,d1,d2,d3,d4,S⟩:=a.cells i);go_meet;exact⟨_,m⟩
 case rest=>
 clear a;obtain⟨o1,a⟩:=hcut;go_upto_region 5 with fail;go_cut [] (fun q=>∃o,Na w E (F pa E.points.length M,F ga E.gaps.length A,F s E.edges.length t,F u E.first.length y,F K E.last.length L) 2 q o);case first=>
  have st:=a.st;obtain⟨c0,c1,N,P,Q⟩:=st.cells0;have j:=h.g.below st.below T;go_wp2_with (at_builtin;refine Gh rfl (.tmp 15) (.tmp 17) 46 rfl 126 i2 _ 4 32 underlying46 ab ah ae Y rfl (by decide) rfl R _ _ _ rfl j (sC _) (by omega) ?_;intro a1 k1 w1 n i;have m:=a.step1 i n;obtain⟨d0,d1,d2,d3,d4,S⟩:=a.cells i);go_meet;exact⟨_,m⟩
 case rest=>
 clear a;obtain⟨o2,a⟩:=hcut;go_upto_region 7 with fail;go_cut [] (fun q=>∃o,Na w E (F pa E.points.length M,F ga E.gaps.length A,F s E.edges.length t,F u E.first.length y,F K E.last.length L) 3 q o);case first=>
  have st:=a.st;obtain⟨c0,c1,N,P,Q⟩:=st.cells0;have j:=h.e.below st.below T;go_wp2_with (at_builtin;refine Gh rfl (.tmp 20) (.tmp 22) 47 rfl 127 i3 _ 2 16 underlying47 ac ai af Z rfl (by decide) rfl R _ _ _ rfl j (gK _) (by omega) ?_;intro a1 k1 w1 n i;have m:=a.step2 i n;obtain⟨d0,d1,d2,d3,d4,S⟩:=a.cells i);go_meet;exact⟨_,m⟩
 case rest=>
 clear a;obtain⟨o3,a⟩:=hcut;go_upto_region 9 with fail;go_cut [] (fun q=>∃o,Na w E (F pa E.points.length M,F ga E.gaps.length A,F s E.edges.length t,F u E.first.length y,F K E.last.length L) 4 q o);case first=>
  have st:=a.st;obtain⟨c0,c1,N,P,Q⟩:=st.cells0;have j:=h.f.below st.below T;go_wp2_with (at_builtin;refine Gh rfl (.tmp 25) (.tmp 27) 48 rfl 3 i4 _ 1 8 underlying48 C H D B rfl (by decide) rfl R _ _ _ rfl j (El _) (by omega) ?_;intro a1 k1 w1 n i;have m:=a.step3 i n;obtain⟨d0,d1,d2,d3,d4,S⟩:=a.cells i);go_meet;exact⟨_,m⟩
 case rest=>
 clear a;obtain⟨o4,a⟩:=hcut;go_upto_region 11 with fail;go_cut [] (fun q=>∃o,Na w E (F pa E.points.length M,F ga E.gaps.length A,F s E.edges.length t,F u E.first.length y,F K E.last.length L) 5 q o);case first=>
  have st:=a.st;obtain⟨c0,c1,N,P,Q⟩:=st.cells0;have j:=h.l.below st.below T;go_wp2_with (at_builtin;refine Gh rfl (.tmp 30) (.tmp 32) 48 rfl 3 i4 _ 1 8 underlying48 C H D B rfl (by decide) rfl R _ _ _ rfl j (El _) (by omega) ?_;intro a1 k1 w1 n i;have m:=a.step4 i n;obtain⟨d0,d1,d2,d3,d4,S⟩:=a.cells i);go_meet;exact⟨_,m⟩
 case rest=>
 clear a;obtain⟨o5,a⟩:=hcut;obtain⟨pv,gv,ev,fv,lv⟩:=o5;have S0:=a.d0 (by omega);have S1:=a.d1 (by omega);have S2:=a.d2 (by omega);have S3:=a.d3 (by omega);have S4:=a.d4 (by omega);obtain⟨xa,xc,rfl⟩:=S0.val;obtain⟨ya,yc,rfl⟩:=S1.val;obtain⟨za,zc,rfl⟩:=S2.val;obtain⟨sa,sc,rfl⟩:=S3.val;obtain⟨ta,tc,rfl⟩:=S4.val;have sz:w.heap.size+1+1<wc.heap.size:=Aa a.st.h2;have bl:=a.st.below;have c:=Bo a.st.h2;have d:=Bo a.st.h1;have ST:=G a;clear a;have T0:=G S0;clear S0;have T1:=G S1;clear S1;have T2:=G S2;clear S2;have T3:=G S3;clear S3;have T4:=G S4;clear S4;obtain⟨c0,c1,N,P,Q,c5,c6,c7,c8,c9,cf⟩:=c;obtain⟨d0,d1,d2,d3,d4,d5,d6,d7,d8,d9,S⟩:=d;clear aa ag ad X ab ah ae Y ac ai af Z C H D B i1 i2 i3 i4 cf;go_wp2_with fail;refine bodyPost_ret (v:=.agg #[ZB E.name,I J E.tol,F xa E.points.length xc,I J E.count,I J E.mn,I J E.mx,F ya E.gaps.length yc,F za E.edges.length zc,F sa E.first.length sc,F ta E.last.length tc]) (by simp[results,results60,go_sem,d0,d1,d2,d3,d4,d5,d6,d7,d8,d9,O2,O1]) rfl ?_;clear c0 c1 N P Q c5 c6 c7 c8 c9 d0 d1 d2 d3 d4 d5 d6 d7 d8 d9 S;have key:=fun w'=> @gH w wc w' E _ _ _ _ _ bl T0 T1 T2 T3 T4 bl.size;simp only[As]at key;refine key _ ?_;clear key;iterate 10 refine Fo ?_ _ _
 exact Ac.refl _ _
def Nb(E:Ak):Prop:=60<E.name.size\/30<E.points.length\/30<E.gaps.length\/80<E.edges.length\/30<E.first.length\/30<E.last.length
instance (E:Ak):Decidable (Nb E):=by unfold Nb;infer_instance
def Aj5(E:Ak):Bool:=decide (Nb E)
theorem Ld{E:Ak}(h:Nb E):Aj5 E=true:=On h
theorem qD{E:Ak}(h:¬Nb E):Aj5 E=false:=N1 h
def Nl(E:Ak):Prop:=Nb E\/∃s∈E.points,60<s.size
instance (E:Ak):Decidable (Nl E):=by unfold Nl;infer_instance
def Ac4(E:Ak):Int:=if Nl E then 1 else 0
theorem Tg{E:Ak}(h:Nl E):Ac4 E=1:=if_pos h
theorem Y1{E:Ak}(h:¬Nl E):Ac4 E=0:=if_neg h
theorem xI{E:Ak}(h:¬Nl E):O7 E:=by
 unfold Nl Nb at h;refine⟨?_,?_,?_,?_,?_⟩<;>(apply Nat.le_of_not_lt;intro a;apply h;omega)
theorem W9(R:Nat->Prop)(E:Ak)(vp vg ve vf vl:ZE)(w:V)(h:Dk R w E vp vg ve vf vl)(hR:∀b,R b->b<w.heap.size):
  ZH ZI 45 #[.agg (As E vp vg ve vf vl)] w fun e w'=>e=ZD (I J (Ac4 E))/\ZF w.heap.size w w':=by
 obtain⟨K,pa,v,rfl,D,n,H,o⟩:=h.p;obtain⟨ga,S,rfl⟩:=h.g.val;obtain⟨M,N,rfl⟩:=h.e.val;obtain⟨P,Q,rfl⟩:=h.f.val;obtain⟨Z,lc,rfl⟩:=h.l.val;have ai:E.points.length<=9223372036854775807:=by unfold maxLen at n;omega
 clear h D n K;unfold As;go_enter func45,ntmps45;go_upto_region 1 with fail;go_cut [37] (fun c wx=>c=.bool (Aj5 E)/\wx.cell? ⟨w.heap.size,2,O⟩=U (F pa E.points.length v)/\ZF w.heap.size w wx);case first=>
  have L:(w.alloc (ZC #[ZB E.name,I J E.tol,F pa E.points.length v,I J E.count,I J E.mn,I J E.mx,F ga E.gaps.length S,F M E.edges.length N,F P E.first.length Q,F Z E.last.length lc] 50)).cell? ⟨w.heap.size,2,O⟩=U (F pa E.points.length v)/\ZF w.heap.size w (w.alloc (ZC #[ZB E.name,I J E.tol,F pa E.points.length v,I J E.count,I J E.mn,I J E.mx,F ga E.gaps.length S,F M E.edges.length N,F P E.first.length Q,F Z E.last.length lc] 50)):=
   ⟨(Bo (Ab w _)).2.2.1,(R1 _ _).alloc (Y2 _) _⟩
  have d:=G L;clear L;by_cases h1:(60:Int)<(E.name.size:Int)
  ·go_wp2_with fail;go_meet;exact⟨Bs (Ld (show Nb E by unfold Nb;omega)).symm,d.out⟩
  by_cases h2:(30:Int)<(E.points.length:Int)
  ·go_wp2_with fail;go_meet;exact⟨Bs (Ld (show Nb E by unfold Nb;omega)).symm,d.out⟩
  by_cases h3:(30:Int)<(E.gaps.length:Int)
  ·go_wp2_with fail;go_meet;exact⟨Bs (Ld (show Nb E by unfold Nb;omega)).symm,d.out⟩
  by_cases h4:(80:Int)<(E.edges.length:Int)
  ·go_wp2_with fail;go_meet;exact⟨Bs (Ld (show Nb E by unfold Nb;omega)).symm,d.out⟩
  by_cases h5:(30:Int)<(E.first.length:Int)
  ·go_wp2_with fail;go_meet;exact⟨Bs (Ld (show Nb E by unfold Nb;omega)).symm,d.out⟩
  by_cases h6:(30:Int)<(E.last.length:Int)
  ·go_wp2_with fail;go_meet;exact⟨Bs (Ld (show Nb E by unfold Nb;omega)).symm,d.out⟩
  go_wp2_with fail;go_meet;exact⟨Bs (qD (show ¬Nb E by unfold Nb;omega)).symm,d.out⟩
 case rest=>
 obtain⟨rfl,c2,t⟩:=hcut;by_cases q:Nb E
 ·rw[Ld q];go_wp2_with fail;go_ret;exact⟨A6 (Tg (.inl q)).symm,t⟩
 rw[qD q];have T:Hid (Nl E↔∃s∈E.points,60<s.size):=by show Nl E↔_;simp[Nl,q]
 clear q;go_wp2_with fail;go_loop [3] (fun i=>∃k:Nat,k<=E.points.length/\i=I J k/\Hid (∀j (u:j<k) (m:j<E.points.length),¬60<E.points[j].size)) (fun i=>E.points.length-(intOf i).toNat);case atStart=>exact⟨0,In _,rfl,fun j u=>by omega⟩
 case round=>
  obtain⟨k,hk,rfl,a⟩:=hrel;by_cases C:k<E.points.length
  ·obtain⟨b,off,rfl,A,ag,X⟩:=o (by simp[Aj];omega);have ck:wc.cell? ⟨b,off+k,O⟩=U (ZB E.points[k]):=by
    rw[t.cell (p:=⟨b,off+k,O⟩) (hR b A)];exact X k _ (by simp[Aj,C])
   clear X o H;by_cases Y:(60:Int)<(E.points[k].size:Int)
   ·go_wp2_with fail;go_ret;exact⟨A6 (Tg (T.2 ⟨E.points[k],M2 _,by omega⟩)).symm,t⟩
   ·go_wp2_with fail;go_round;case rel=>
     refine⟨k+1,by omega,by go_num,?_⟩;intro j u m;by_cases B:j=k
     ·subst B;omega
     ·exact a j (by omega) m
    case measure=>simp[intOf];omega
  ·go_wp2_with fail;go_ret;refine⟨A6 (Y1 ?_).symm,t⟩;intro hh;obtain⟨s,Y,y⟩:=T.1 hh;obtain⟨j,u,rfl⟩:=List.mem_iff_getElem.1 Y;exact a j (by omega) u y
theorem Av.cases{R:Nat->Prop}{w:V}{ao:Option Addr}{n cap l:Nat}{e:List ZE}(h:Av R w (F ao n cap) l e n):(ao=O/\n=0/\cap=0/\e= [])\/∃a,ao=U a:=by
 obtain⟨i,g,d,f,h1,h2,h3,m⟩:=h;simp at f;obtain⟨rfl,rfl⟩:=f;cases ao with
 |none=>
  have:=h3 rfl;have j:n=0:=by omega
  subst j;exact .inl ⟨rfl,rfl,this,H3 (by simpa using i)⟩
 |some a=>exact .inr ⟨a,rfl⟩
theorem kS{R:Nat->Prop}{w:V}{a:Addr}{n cap i:Nat}{d:List ZE}(h:Av R w (F (U a) n cap) i d n):d.length=n*i/\n<=maxLen/\∀j u,d[j]? =U u->w.cell? (a.add j)=U u:=by
 obtain⟨q,l,e,g,h1,h2,h3,m⟩:=h;simp at g;obtain⟨rfl,rfl⟩:=g;refine⟨q,by omega,fun j u f=>?_⟩;have s:j<d.length:=(List.getElem?_eq_some_iff.1 f).1;obtain⟨b,off,o,_,_,p⟩:=m (by omega);obtain rfl:=Option.some.inj o;rw[Dt];exact p j u f
theorem Sn(R:Nat->Prop)(l:List Int)(v:ZE)(w:V)(h:Av R w v 1 (Ad l) l.length)(N:l.length<=1000):
  ZH ZI 159 #[v] w fun e w'=>∃ao cap,e=ZD (F ao l.length cap)/\Av (fun b=>w.heap.size<=b) w' (F ao l.length cap) 1 (Ad l) l.length/\ZF w.heap.size w w':=by
 obtain⟨M,s,A,B,C⟩:=info_parts infoInt;have P:∀(w:V) (a:Option Addr) (n c D g:Nat),(binOp .eql 48 (F a n c) (F O D g)).run ZI w=.ok (.bool a.isNone) w:=fun w a n c D g=>Lib.run_eql_slice_nil w _ _ a n c D g underlying48;obtain⟨ao,cap,rfl⟩:=h.val;rcases h.cases with⟨rfl,E,rfl,K⟩|⟨a,rfl⟩
 ·have t:l= []:=H3 E;subst t;clear h E K;go_enter func159,ntmps159;go_wp2_with fail;go_ret;exact⟨O,0,rfl,Av.nil _ _ _,R1 _ _⟩
 ·obtain⟨h1,h2,h3⟩:=kS h;have i:Hid (∀j u,(Ad l)[j]? =U u->∀o,(w.alloc o).cell? (a.add j)=U u):=fun j u y o=>by
   have:=h3 j u y;rw[Zy7 (w:=w) (Zyb _ _ _ (R3 _ _ this))];exact this
  have d:Hid (0+l.length<=maxLen):=by show 0+l.length<=maxLen;omega
  have p:Hid ((0+l.length)*8<=140737488355328):=by show(0+l.length)*8<=_;omega
  have m:Hid (∀o,w.heap.size<=(w.alloc o).heap.size):=fun o=>by simp
  clear h h2 h3;go_enter func159,ntmps159;go_wp2_with (at_builtin;refine Bc rfl (.tmp 5) (.tmp 6) 48 rfl w.heap.size 3 M _ 1 8 underlying48 s A B C rfl (by decide) _ 0 [] rfl (World.ownsRow_made w #[] 0 (Y2 _) (by decide) rfl) a l.length cap (Ad l) rfl h1 (fun j u y=>i j u y _) (El l) d p (m _) ?_;intro H k1 Q f q);go_ret;rw[Zzt,Zyp]at f;refine⟨H,k1,rfl,Ge f,?_⟩;exact((R1 _ _).alloc (Y2 _) _).grown q (by simp) (fun k L=>by have h:U w.heap.size=U k:=L;simp at h;omega)
def Yz(l:List Int)(x:Int):Int:=match l.findIdx? (fun y=>y==x)with|some i=>(i:Int)|none=>-1
theorem Agx{l:List Int}{x:Int}{k:Nat}(d:k<l.length)(e:l[k]=x)(a:∀j (hj:j<l.length),j<k->l[j]≠x):Yz l x=k:=by
 have:l.findIdx? (fun y=>y==x)=U k:=by
  rw[Zzi];exact⟨d,by simp[e],fun j hj=>by have:=a j (by omega) hj;simpa using this⟩
 simp[Yz,this]
theorem Acy{l:List Int}{x:Int}(h:∀j (hj:j<l.length),l[j]≠x):Yz l x= -1:=by
 have:l.findIdx? (fun y=>y==x)=O:=by
  rw[Zze];intro y a;obtain⟨j,hj,rfl⟩:=List.mem_iff_getElem.1 a;simpa using h j hj
 simp[Yz,this]
theorem sP{l:List Int}{x:Int}:0<=Yz l x↔x∈l:=by
 unfold Yz;cases h:l.findIdx? (fun y=>y==x)with
 |none=>
  rw[Zze]at h;simp;intro d;have:=h x d;simp at this
 |some i=>
  rw[Zzi]at h;obtain⟨hi,a,_⟩:=h;simp at a;subst a;simp
theorem Ahc(l:List Int):l.flatMap (fun x=>[Value.int J x])=Ad l:=by
 unfold Ad;induction l with
 |nil=>rfl
 |cons x l ih=>simp[ih]
theorem I4{R:Nat->Prop}{w:V}{ao:Option Addr}{n cap:Nat}{l:List Int}(h:Av R w (F ao n cap) 1 (Ad l) l.length)(h0:0<l.length):
  ∃b off,ao=U ⟨b,off,O⟩/\R b/\b<w.heap.size/\∀k (hk:k<l.length),w.cell? ⟨b,off+k,O⟩=U (I J l[k]):=by
 have a:Av R w (F ao n cap) 1 (l.flatMap (fun x=>[Value.int J x])) l.length:=by
  rw[Ahc];exact h
 obtain⟨b,off,e,d,f,g⟩:=a.elem (fun _=>rfl) (by decide) h0;refine⟨b,off,e,d,f,fun k hk=>?_⟩;have:=g k hk 0 _ rfl;simpa using this
theorem gT(R:Nat->Prop)(l:List Int)(v:ZE)(x:Int)(w:V)(h:Av R w v 1 (Ad l) l.length):
  ZH ZI 240 #[v,I J x] w fun e w'=>e=ZD (I J (Yz l x))/\w=w':=by
 obtain⟨y,A,cap,rfl,h1,h2,h3,t⟩:=h;have i:Av R w (F A l.length cap) 1 (Ad l) l.length:=⟨y,_,_,rfl,h1,h2,h3,t⟩
 have D:l.length<=9223372036854775807:=by unfold maxLen at h2;omega
 have H:=G i;clear y h1 h2 h3 t i;go_enter func240,ntmps240;go_wp2_with fail;go_loop [8] (fun s=>∃k:Nat,k<=l.length/\s=I J k/\Hid (∀j (f:j<l.length),j<k->l[j]≠x)) (fun s=>l.length-(intOf s).toNat);case atStart=>exact⟨0,In _,rfl,fun j f h=>by omega⟩
 case round=>
  obtain⟨k,C,rfl,a⟩:=hrel;by_cases g:k<l.length
  ·obtain⟨b,off,rfl,B,_,u⟩:=I4 H (by omega);have q:=u k g;clear u;by_cases m:x=l[k]
   ·have p:(x==l[k])=true:=beq_iff_eq.2 m;have d:=Agx g m.symm a.out;have n:=G d;clear m d;go_wp2_with fail;go_ret;exact⟨A6 n.symm,rfl⟩
   ·have p:(x==l[k])=false:=by simp[m]
    go_wp2_with fail;go_round;case rel=>
     refine⟨k+1,by omega,by go_num,fun j f h=>?_⟩;by_cases o:j=k
     ·subst o;exact fun h=>m h.symm
     ·exact a j f (by omega)
    case measure=>simp[intOf];omega
  ·have d:=Acy (l:=l) (x:=x) (fun j f=>a j f (by omega));have n:=G d;clear d;go_wp2_with fail;go_ret;exact⟨A6 n.symm,rfl⟩
theorem Lg(R:Nat->Prop)(l:List Int)(v:ZE)(x:Int)(w:V)(h:Av R w v 1 (Ad l) l.length):
  ZH ZI 200 #[v,I J x] w fun e w'=>e=ZD (.bool (decide (x∈l)))/\w=w':=by
 obtain⟨a,cap,rfl⟩:=h.val;have H:=G h;clear h;go_enter func200,ntmps200;go_wp2_with fail;refine(gT R l _ x _ H.out).mono ?_;rintro e w' ⟨rfl,rfl⟩;go_wp2_with fail;go_ret;exact⟨Am (decide_eq_decide.2 sP),rfl⟩
