import Derived.Test.YtikehilbmldadaaGreatDoorP31
import Derived.Test.YtikehilbmldadaaGreatDoorP20
import Derived.Shelf.RegionOpenPlain
import Derived.Lib.ItoaLen
import Derived.Test.YtikehilbmldadaaGreatDoorP33
set_option maxHeartbeats 1000000
set_option maxRecDepth 100000
set_option linter.unusedVariables false
namespace Go.Proofs.YtikehilbmldadaaGreatDoor
open Proofs.Tryz YtikehilbmldadaaGreatDoor.Tryz RowKit
open Go renaming Value.slice->F,Value.pointer->ZA,Obj.cells->ZC,Proofs.Tryz.prog->ZI
open Option renaming some->U,none->O
theorem rZ(B b:Nat)(l:List UInt8)(w:World)(h:Pg B b l w)(h0:l≠ []):
  Calls ZI 59 #[ZA (U ⟨b,0,O⟩)] w fun e w'=>e=.returned (.string ⟨l.toArray⟩)/\Below B w w':=by
 obtain⟨p,L,v,m,d,hne⟩:=h.at_;have o:l.length≠0:=by simpa using h0
 rw[Zyr]at d;obtain⟨g,cap,a,rfl,i,A,u,n,s,f⟩:∃g cap a,v=F (U ⟨g,0,O⟩) l.length cap/\B<=g/\w.heap[g]? =U (ZC a 5 (0,0))/\l.length<=cap/\cap<=maxLen/\a.size=cap*1/\a.toList.take (l.length*1)=Lib.byteCells l:=by
  rcases d.2 with⟨_,K⟩|⟨g,cap,a,E,r⟩
  ·exact absurd K o
  ·exact⟨g,cap,a,E,r⟩
 have c1:w.drew.cell? ⟨b,1,O⟩=U (F (U ⟨g,0,O⟩) l.length cap):=by
  have:w.drew.heap[b]? =U (ZC #[p,F (U ⟨g,0,O⟩) l.length cap] 123 (0,0)):=m;rw[Zy6 this];rfl
 have C:(Builtin.unsafeSliceData_ #[85] 199 #[F (U ⟨g,0,O⟩) l.length cap]).run ZI w.drew=.ok (ZA (U ⟨g,0,O⟩)) w.drew:=
  Lib.run_unsafeSliceData_row _ _ _ _ _ _ (by omega)
 have D:(Builtin.unsafeString_ #[199,3] 9 #[ZA (U ⟨g,0,O⟩),.int .i64 l.length]).run ZI w.drew=.ok (.string ⟨l.toArray⟩) (w.drew.freeze ⟨g,0,O⟩ l.length):=by
  refine Lib.run_unsafeString_row w.drew 199 3 9 5 underlying199 cellsByteP g a.size (by have t:w.drew.heap[g]? =U (ZC a 5 (0,0)):=A;simp[World.shape?,t]) l h0 (by omega) (by unfold maxLen at n;omega) ?_;intro j x H;have:=d.cells (g:=g) rfl j (.int .u8 x.toNat) (by simp[Lib.byteCells,H]);exact this
 have q:=G i;have y:ZI.follows Departure.mixedOrders=true:=by kernel_rfl
 clear d m A f s n u h0 o h hne i;go_enter func59,ntmps59;go_wp2;go_region_o;all_goals(go_wp2;go_ret;exact⟨rfl,Lib.below_freeze (H5 (R1 B w)) (p:=⟨g,0,O⟩) q _⟩)
def Nu:ByteArray:=⟨#[119,105,110,100,111,119]⟩
def Qm:ByteArray:=⟨#[99,121,99,108,101]⟩
def Tj:ByteArray:=⟨#[100,101,108,97,121]⟩
def Is(C:Ar):List (List W1):=[[.str Nu,.num C.closed,.num C.opn],[.str Qm,.num C.cycle],[.str Tj,.num C.delay]]
def Gw(C:Ar):List UInt8:=(Is C).flatMap Br
theorem kK(a:List W1)(d:∀x∈a,(Ch x).length<=40):∀k,k<=a.length->(upB a k).length<=41*k
 |0,_=>by simp[upB]
 |k+1,hk=>by
  have ih:=kK a d k (by omega)
  have h1:=d a[k] (M2 (by omega))
  rw[vD a k (by omega),R2]
  unfold Np
  split
  ·omega
  ·rw[Zz7];omega
theorem xH(a:List W1)(d:∀x∈a,(Ch x).length<=40):(Br a).length<=41*a.length+1:=by
 unfold Br;rw[R2,G3];have:=kK a d a.length (Y2 _);omega
theorem pO(n:Int)(h:Aef (.num n)):(Ch (.num n)).length<=40:=No (Lib.itoa_length_le n h.1 h.2) (by decide)
theorem Aff(s:ByteArray)(h:s.size<=40):(Ch (.str s)).length<=40:=by
 show s.data.toList.length<=40
 rw[C2];exact h
structure Hu (ws:List W1):Prop where
 ok:∀x∈ws,Aef x/\(Ch x).length<=40
 len:ws.length<=5
theorem Hu.line{a:List W1}(h:Hu a):(Br a).length<=206:=by
 have:=xH a (fun x d=>(h.ok x d).2);have:=h.len;omega
theorem Hu.nil:Hu []:=⟨fun x hx=>(by cases hx),by decide⟩
theorem Hu.str{d:List W1}(h:Hu d)(f:d.length<=4)(s:ByteArray)(e:s.size<=40):Hu (.str s::d):=
 ⟨fun x a=>by
  rcases List.mem_cons.1 a with rfl|a
  ·exact⟨trivial,Aff s e⟩
  ·exact h.ok x a,by simp;omega⟩
theorem Hu.num{d:List W1}(h:Hu d)(f:d.length<=4)(n:Int)(e:-9223372036854775808<=n/\n<=9223372036854775807):Hu (.num n::d):=
 ⟨fun x a=>by
  rcases List.mem_cons.1 a with rfl|a
  ·exact⟨e,pO n e⟩
  ·exact h.ok x a,by simp;omega⟩
theorem Lb{B b:Nat}{l:List UInt8}{d:List W1}{w0 a:World}(h:PG B b l w0 a)(i:L9 B w0)(g:Hu d)(p:l.length<=900000):
  Calls ZI 58 #[ZA (U ⟨b,0,O⟩),F (U ⟨a.heap.size,0,O⟩) d.length d.length] (a.alloc (ZC (d.map Wx).toArray 20)) fun e w'=>e=.returned (.tuple #[])/\PG B b (l++Br d) w0 w':=by
 have j:Below a.heap.size a (a.alloc (ZC (d.map Wx).toArray 20)):=(R1 _ _).alloc (Y2 _) _;have h1:=h.below j;have n:=h.pg.lt;have m:=g.line;refine(Ua B b l d a.heap.size _ h1.pg (by have:=h1.pg.lt;omega) (i.low h1.bel (Y2 _)) (fun x o=>(g.ok x o).1) (Ab _ _) (by omega) (by omega) (by have:=g.len;omega)).mono ?_;rintro e w' ⟨rfl,f⟩;exact⟨rfl,f.pg,h1.bel.trans f.bel,h1.oth.trans f.oth⟩
structure Ed (E:Ak):Prop where
 name:E.name.size<=12
 tol:0<=E.tol/\E.tol<=20
 pl:E.points.length<=16
 ps:∀s∈E.points,s.size<=12
 cnt:-1<=E.count/\E.count<(E.points.length:Int)\/E.count= -1
 rng:0<=E.mn/\E.mn<=E.mx/\E.mx<1000
 gl:E.gaps.length<=8
 gs:∀g∈E.gaps,(0<=g.fr/\g.fr<(E.points.length:Int))/\(0<=g.dst/\g.dst<(E.points.length:Int))/\0<=g.mn/\g.mn<=g.mx/\g.mx<=1099511627776
 el:E.edges.length<=64
 es:∀x∈E.edges,(0<=x.1/\x.1<(E.points.length:Int))/\(0<=x.2/\x.2<(E.points.length:Int))
 fl:E.first.length<=16
 fs:∀k∈E.first,0<=k/\k<(E.points.length:Int)
 ll:E.last.length<=16
 ls:∀k∈E.last,0<=k/\k<(E.points.length:Int)
theorem Wl{s:ByteArray}(h:Bt s=true):s.size<=12:=by
 by_cases a:1<=s.size/\s.size<=12
 ·exact a.2
 ·rw[Hz a]at h;cases h
theorem Ta{P:List ByteArray}(h:Kw P=0):∀s∈P,Bt s=true:=by
 intro s l;obtain⟨k,d,rfl⟩:=List.mem_iff_getElem.1 l;have a:∀n,∀j,j<n->j<P.length->ptE P j=0:=by
  intro n;induction n with
  |zero=>intro j h1;omega
  |succ n ih=>
   intro j h1 h2;by_cases f:j<n
   ·exact ih j f h2
   ·obtain rfl:j=n:=by omega
    by_cases e:ptE P j=0
    ·exact e
    ·rw[N9 h2 e (fun i hi=>ih i hi (by omega))]at h;exact h
 have:=a (k+1) k (by omega) d;rw[Yf d]at this;cases g:Bt P[k]
 ·rw[g,if_pos rfl]at this;cases this
 ·rfl
theorem Xp{E:Ak}(h:V8 E=0):∀j,j<7->C6 E j=false:=by
 intro j l;cases m:C6 E j
 ·rfl
 ·exfalso;have a:∃k,k<7/\C6 E k=true/\∀i,i<k->C6 E i=false:=by
   have:∀n,(∃k,k<n/\C6 E k=true)->∃k,k<n/\C6 E k=true/\∀i,i<k->C6 E i=false:=by
    intro n;induction n with
    |zero=>rintro⟨k,f,_⟩;omega
    |succ n ih=>
     rintro⟨k,f,g⟩;by_cases e:∃k,k<n/\C6 E k=true
     ·obtain⟨o,h1,h2,h3⟩:=ih e;exact⟨o,by omega,h2,h3⟩
     ·refine⟨k,f,g,fun i hi=>?_⟩;cases d:C6 E i
      ·rfl
      ·exact absurd ⟨i,by omega,d⟩ e
   exact this 7 ⟨j,l,m⟩
  obtain⟨k,h1,h2,h3⟩:=a;rw[J5 k h1 h2 h3]at h;match k,h1 with
  |0,_=>cases h
  |1,_=>cases h
  |2,_=>cases h
  |3,_=>cases h
  |4,_=>cases h
  |5,_=>cases h
  |6,_=>cases h
theorem Xk{ah:List ByteArray}{E:Ak}(h:A8 ah E=0):Ed E:=by
 have h1:Bt E.name=true:=by
  cases d:Bt E.name
  ·rw[Q9 d]at h;cases h
  ·rfl
 have h2:B3 ah E.name=false:=by
  cases d:B3 ah E.name
  ·rfl
  ·rw[P1 h1 d]at h;cases h
 have h3:Gp E=false:=by
  cases d:Gp E
  ·rfl
  ·rw[P3 h1 h2 d]at h;cases h
 have n:Kw E.points=0:=by
  by_cases d:Kw E.points=0
  ·exact d
  ·rw[Ti h1 h2 h3 d]at h;exact h
 rw[P0 h1 h2 h3 n]at h;have f:=Xp h;have e:=f 0 (by decide);have u:=f 1 (by decide);have o:=f 2 (by decide);have p:=f 3 (by decide);simp only[C6]at e u o p;unfold Gp at h3;rw[Bool.or_eq_false_iff]at h3;obtain⟨v,y⟩:=h3;simp only[R0,tA,decide_eq_false_iff_not]at v y;have m:Jh E=false/\Xf E=false:=by
  unfold Kf at e;rw[Bool.or_eq_false_iff]at e;exact⟨e.2,e.1⟩
 obtain⟨s1,s2⟩:=m;have a:∀x∈Il E,0<=x/\x<(E.points.length:Int):=by
  intro x i;have:=List.any_eq_false.1 s1 x i;simp only[decide_eq_true_eq]at this;omega
 simp only[Xf,Ve,decide_eq_false_iff_not]at s2 o;refine⟨Wl h1,by omega,by omega,fun s t=>Wl (Ta n s t),by omega,by omega,by omega,fun g j=>?_,by omega,fun x i=>?_,by omega,fun k l=>?_,by omega,fun k l=>?_⟩
 ·have q:=List.any_eq_false.1 p g j;simp only[Ce,decide_eq_true_eq]at q;refine⟨a _ ?_,a _ ?_,by omega,by omega,by omega⟩
  ·unfold Il;exact Zzf _ (Zzz _ (List.mem_flatMap.2 ⟨g,j,by simp⟩))
  ·unfold Il;exact Zzf _ (Zzz _ (List.mem_flatMap.2 ⟨g,j,by simp⟩))
 ·refine⟨a _ ?_,a _ ?_⟩
  ·unfold Il;exact Zzz _ (List.mem_flatMap.2 ⟨x,i,by simp⟩)
  ·unfold Il;exact Zzz _ (List.mem_flatMap.2 ⟨x,i,by simp⟩)
 ·refine a _ ?_;unfold Il;exact Zzf _ (Zzf _ (Zzf _ l))
 ·refine a _ ?_;unfold Il;exact Zzf _ (Zzf _ (Zzz _ l))
def Kt:ByteArray:=⟨#[101,110,116,105,116,121]⟩
def Abz:ByteArray:=⟨#[112,111,105,110,116]⟩
def Rc:ByteArray:=⟨#[99,111,117,110,116]⟩
def Xc:ByteArray:=⟨#[103,97,112]⟩
def Xd:ByteArray:=⟨#[101,100,103,101]⟩
def gX:ByteArray:=⟨#[102,105,114,115,116]⟩
def gN:ByteArray:=⟨#[108,97,115,116]⟩
def A9(E:Ak)(k:Int):ByteArray:=E.points.getD k.toNat ByteArray.empty
def Gt(s:ByteArray):List W1:=[.str Abz,.str s]
def Dj(E:Ak)(g:Ix):List W1:=[.str Xc,.str (A9 E g.fr),.str (A9 E g.dst),.num g.mn,.num g.mx]
def Dg(E:Ak)(x:Int × Int):List W1:=[.str Xd,.str (A9 E x.1),.str (A9 E x.2)]
def D0(E:Ak)(k:Int):List W1:=[.str gX,.str (A9 E k)]
def D3(E:Ak)(k:Int):List W1:=[.str gN,.str (A9 E k)]
def Ep(E:Ak):List (List W1):=if 0<=E.count then [[.str Rc,.str (A9 E E.count),.num E.mn,.num E.mx]] else []
def B5(E:Ak):List (List W1):=[.str Kt,.str E.name,.num E.tol]::(E.points.map Gt++Ep E++E.gaps.map (Dj E)++E.edges.map (Dg E)++E.first.map (D0 E)++E.last.map (D3 E))
def Ai(L:List (List W1)):List UInt8:=L.flatMap Br
def C4(C:Ar):List UInt8:=Gw C++C.ents.flatMap (fun E=>Ai (B5 E))
theorem Cj(L M:List (List W1)):Ai (L++M)=Ai L++Ai M:=B1
theorem Dv(ws:List W1):Ai [ws]=Br ws:=by simp[Ai]
theorem D1{L:List (List W1)}(h:∀ws∈L,Hu ws):(Ai L).length<=206*L.length:=by
 induction L with
 |nil=>simp[Ai]
 |cons ws L ih=>
  have h1:=(h ws (Zzo ..)).line;have h2:=ih (fun x a=>h x (Zz5 _ a));show(Br ws++Ai L).length<=_
  rw[R2,Zz7];omega
theorem Hq{E:Ak}(h:Ed E)(k:Int):(A9 E k).size<=40:=by
 unfold A9;rw[Of];cases a:E.points[k.toNat]? with
 |none=>exact In _
 |some s=>
  have:=h.ps s (At a);show s.size<=40
  omega
theorem M7{E:Ak}(h:Ed E):Hu [.str Kt,.str E.name,.num E.tol]:=
 ((Hu.nil.num (by simp) _ (by have:=h.tol;omega)).str (by simp) _ (by have:=h.name;omega)).str (by simp) _ (by decide)
theorem Rq{E:Ak}(h:Ed E){s:ByteArray}(hs:s∈E.points):Hu (Gt s):=(Hu.nil.str (by simp) _ (by have:=h.ps s hs;omega)).str (by simp) _ (by decide)
theorem Uv{E:Ak}(h:Ed E):Hu [.str Rc,.str (A9 E E.count),.num E.mn,.num E.mx]:=
 (((Hu.nil.num (by simp) _ (by have:=h.rng;omega)).num (by simp) _ (by have:=h.rng;omega)).str (by simp) _ (Hq h _)).str (by simp) _ (by decide)
theorem Om{E:Ak}(h:Ed E){g:Ix}(a:g∈E.gaps):Hu (Dj E g):=
 ((((Hu.nil.num (by simp) _ (by have:=h.gs g a;omega)).num (by simp) _ (by have:=h.gs g a;omega)).str (by simp) _ (Hq h _)).str (by simp) _ (Hq h _)).str (by simp) _ (by decide)
theorem Ow{E:Ak}(h:Ed E)(x:Int × Int):Hu (Dg E x):=((Hu.nil.str (by simp) _ (Hq h _)).str (by simp) _ (Hq h _)).str (by simp) _ (by decide)
theorem Oo{E:Ak}(h:Ed E)(k:Int):Hu (D0 E k):=(Hu.nil.str (by simp) _ (Hq h _)).str (by simp) _ (by decide)
theorem Qy{E:Ak}(h:Ed E)(k:Int):Hu (D3 E k):=(Hu.nil.str (by simp) _ (Hq h _)).str (by simp) _ (by decide)
structure RdS where
 c:Ar
 stage:Int
def RdS.start:RdS:=⟨⟨0,0,0,0,[]⟩,-1⟩
def noE:Ak:=⟨ByteArray.empty,0,[],-1,0,0,[],[],[],[]⟩
def Cd(L:List Ak):Ak:=L.getLast?.getD noE
def Vo(name:ByteArray)(tol:Int):Ak:=⟨name,tol,[],-1,0,0,[],[],[],[]⟩
def Fv(k:Nat)(name:ByteArray)(n:List Int)(E:Ak):Ak:=
 if k=4 then { E with points:=E.points++ [name]}
 else if k=5 then { E with count:=n.getD 0 0,mn:=n.getD 1 0,mx:=n.getD 2 0}
 else if k=6 then { E with gaps:=E.gaps++ [⟨n.getD 0 0,n.getD 1 0,n.getD 2 0,n.getD 3 0⟩]}
 else if k=7 then { E with edges:=E.edges++ [(n.getD 0 0,n.getD 1 0)]}
 else if k=8 then { E with first:=E.first++ [n.getD 0 0]}
 else if k=9 then { E with last:=E.last++ [n.getD 0 0]}
 else E
def Cc(k:Nat)(name:ByteArray)(n:List Int)(C:Ar):Ar:=
 if k=0 then { C with closed:=n.getD 0 0,opn:=n.getD 1 0}
 else if k=1 then { C with cycle:=n.getD 0 0}
 else if k=2 then { C with delay:=n.getD 0 0}
 else if k=3 then { C with ents:=C.ents++ [Vo name (n.getD 0 0)]}
 else { C with ents:=C.ents.dropLast++ [Fv k name n (Cd C.ents)]}
def Dr(l:List ByteArray)(s:ByteArray):Int:=G9 l s
def Co(pts:List ByteArray)(f:UInt8)(t:ByteArray)(p:List Int × Bool):Option (List Int × Bool):=
 if f=110 then (match Fx t with|some k=>U (p.1++ [(k:Int)],p.2)|none=>O)
 else if t.size=0 then O
 else if f=112 then U (p.1++ [Dr pts t],p.2||decide (Dr pts t<0))
 else U p
def Bk(pts:List ByteArray)(fs:List UInt8)(ts:List ByteArray):Nat->Option (List Int × Bool)
 |0=>U ([],false)
 |k+1=>match Bk pts fs ts k with
  |none=>O
  |some p=>Co pts (fs.getD k 0) (ts.getD k ByteArray.empty) p
theorem Pa{pts:List ByteArray}{fs:List UInt8}{ts:List ByteArray}{k:Nat}(h:Bk pts fs ts k=O):∀m,k<=m->Bk pts fs ts m=O:=by
 intro m;induction m with
 |zero=>intro d;have a:k=0:=Nat.le_zero.1 d;rw[a]at h;exact h
 |succ m ih=>
  intro d;by_cases e:k=m+1
  ·subst e;exact h
  ·unfold Bk;rw[ih (by omega)]
def Ky(s:ByteArray):List ByteArray:=Cx 32 s
def Jf(s:ByteArray):ByteArray:=(Ky s).headD ByteArray.empty
def Gl(st:RdS)(s:ByteArray):Bool:=Ia (Jf s)&&Cb st.stage (Ca (Jf s))&&((Ky s).length-1==(Cm (Jf s)).size)
def Pn(st:RdS)(s:ByteArray):Option (List Int × Bool):=Bk (Cd st.c.ents).points (Cm (Jf s)).data.toList (Ky s).tail (Cm (Jf s)).size
def Cp(st:RdS)(s:ByteArray):Nat × RdS:=
 if Gl st s=true then
  match Pn st s with
  |none=>(1,st)
  |some p=>if p.2=true then (5,st) else (0,⟨Cc (Ca (Jf s)) ((Ky s).getD 1 ByteArray.empty) p.1 st.c,Ca (Jf s)⟩)
 else (1,st)
def Da(ls:List ByteArray):Nat->RdS
 |0=>RdS.start
 |k+1=>(Cp (Da ls k) (ls.getD k ByteArray.empty)).2
def Gy(ls:List ByteArray)(i:Nat):Nat:=(Cp (Da ls i) (ls.getD i ByteArray.empty)).1
def Vr(ls:List ByteArray):Nat × Int:=match (List.range ls.length).find? (fun i=>Gy ls i != 0)with|some i=>(Gy ls i,(i:Int))|none=>(0,-1)
theorem Yp{L:List ByteArray}{k:Nat}(e:k<L.length)(h:Gy L k≠0)(a:∀j,j<k->Gy L j=0):Vr L=(Gy L k,(k:Int)):=by
 have:(List.range L.length).find? (fun i=>Gy L i != 0)=U k:=by
  rw[Zxm];refine⟨by simpa using h,List.mem_range.2 e,fun j d=>?_⟩;simp[a j d]
 unfold Vr;rw[this]
theorem Wn{L:List ByteArray}(h:∀j,j<L.length->Gy L j=0):Vr L=(0,-1):=by
 have:(List.range L.length).find? (fun i=>Gy L i != 0)=O:=by
  rw[Zx3];intro i hi;simp[h i (List.mem_range.1 hi)]
 unfold Vr;rw[this]
def Lh(s:ByteArray):ByteArray:=if s.data.toList.getLast? =U 10 then s.extract 0 (s.size-1) else s
def Cl(s:ByteArray):List ByteArray:=if s.size=0 then [] else Cx 10 (Lh s)
def Fu:Ar:=⟨0,0,0,0,[]⟩
def Hh(s:ByteArray):Ar × (Nat × Int):=
 if 8000<s.size then (Fu,(2,-1))
 else if (Vr (Cl s)).1≠0 then (Fu,Vr (Cl s))
 else if (Da (Cl s) (Cl s).length).stage<2 then (Fu,(1,((Cl s).length:Int)))
 else if (B4 (Da (Cl s) (Cl s).length).c).1≠0 then (Fu,B4 (Da (Cl s) (Cl s).length).c)
 else ((Da (Cl s) (Cl s).length).c,(0,-1))
