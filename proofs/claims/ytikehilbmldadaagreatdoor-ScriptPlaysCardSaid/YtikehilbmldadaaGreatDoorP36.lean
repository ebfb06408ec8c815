import Derived.Test.YtikehilbmldadaaGreatDoorP35
import Derived.Test.YtikehilbmldadaaGreatDoorP44
import Derived.Test.YtikehilbmldadaaGreatDoorP41
set_option maxHeartbeats 8000000
set_option maxRecDepth 100000
set_option linter.unusedVariables false
namespace Go.Proofs.YtikehilbmldadaaGreatDoor
open Proofs.Tryz YtikehilbmldadaaGreatDoor.Tryz RowKit
open Go renaming World->V,RowKit.Below->ZF,Value.int->I,IntKind.i64->J,Value.slice->F,Value.string->ZB,Proofs.Tryz.prog->ZI
open Option renaming some->U,none->O
def cfg(C:Ar)(L:List Ak):Ar:={ C with ents:=L}
def Yg(E:Ak)(done:List ByteArray):Ak:=⟨E.name,E.tol,done,-1,0,0,[],[],[],[]⟩
def Xb(E:Ak)(l:List Ix):Ak:=⟨E.name,E.tol,E.points,E.count,E.mn,E.mx,l,[],[],[]⟩
def kC(E:Ak)(l:List (Int × Int)):Ak:=⟨E.name,E.tol,E.points,E.count,E.mn,E.mx,E.gaps,l,[],[]⟩
def tB(E:Ak)(l:List Int):Ak:=⟨E.name,E.tol,E.points,E.count,E.mn,E.mx,E.gaps,E.edges,l,[]⟩
def wZ(E:Ak)(l:List Int):Ak:=⟨E.name,E.tol,E.points,E.count,E.mn,E.mx,E.gaps,E.edges,E.first,l⟩
theorem Nw(C:Ar)(pre:List Ak)(e:Ak)(k:Nat)(f:4<=k)(name:ByteArray)(n:List Int):Cc k name n (cfg C (pre++ [e]))=cfg C (pre++ [Fv k name n e]):=by
 unfold Cc;rw[if_neg (by omega),if_neg (by omega),if_neg (by omega),if_neg (by omega)];show cfg C ((pre++ [e]).dropLast++ [Fv k name n (Cd (pre++ [e]))])=_
 rw[List.dropLast_concat,J8]
theorem N3{α:Type}(f:α->ByteArray)(ok:α->Prop)(lo hi:Int)(g:lo<=hi)(mk:List α->Ar)
  (e:∀done x st,lo<=st->st<=hi->ok x->Cp ⟨mk done,st⟩ (f x)=(0,⟨mk (done++ [x]),hi⟩)):
  ∀(rest done:List α) (st:Int),lo<=st->st<=hi->(∀x∈rest,ok x)->∃st',lo<=st'/\st'<=hi/\Lm ⟨mk done,st⟩ (rest.map f)=U ⟨mk (done++rest),st'⟩
 |[],done,st,h1,h2,_=>⟨st,h1,h2,by rw[Zz8];rfl⟩
 |x::rest,done,st,h1,h2,h=>by
  obtain⟨st',h3,h4,h5⟩:=N3 f ok lo hi g mk e rest (done++ [x]) hi g (Int.le_refl _) (fun y l=>h y (Zz5 _ l))
  refine⟨st',h3,h4,?_⟩
  rw[Zz1,Rp (e done x st h1 h2 (h x (Zzo ..))) h5,F6]
  rfl
theorem N6(k:Nat)(f:4<=k)(e:k≠5){st:Int}(h1:3<=st)(h2:st<=k):Cb st k=true:=by
 unfold Cb;rw[if_neg (by omega),if_neg (by omega),if_neg e];simp[h1,h2]
theorem Afv{st:Int}(h1:3<=st)(h2:st<=4):Cb st 5=true:=by
 unfold Cb;rw[if_neg (by omega),if_neg (by omega),if_pos rfl];have:st=3\/st=4:=by omega
 rcases this with rfl|rfl<;>rfl
theorem M6{E:Ak}(h:Qa E){k:Int}(h0:0<=k)(hk:k<(E.points.length:Int)):U0 (.str (A9 E k)):=.inl (Ls h h0 hk).2
theorem Jm{s:ByteArray}(h:s∈ [Nu,Qm,Tj,Kt,Abz,Rc,Xc,Xd,gX,gN]):U0 (.str s):=.inr h
theorem kI{p:W1->Prop}{a:W1}(ha:p a):∀x∈ [a],p x:=fun x hx=>by obtain rfl:=List.mem_singleton.1 hx;exact ha
theorem E7{p:W1->Prop}{a:W1}{l:List W1}(f:p a)(h:∀x∈l,p x):∀x∈a::l,p x:=fun x e=>by
 rcases List.mem_cons.1 e with rfl|e
 ·exact f
 ·exact h x e
def Fl(ws:List W1):Prop:=(1<=ws.length/\ws.length<=5)/\∀x∈ws,U0 x
theorem Fl.w{ws:List W1}(h:Fl ws):Ky (Ci ws)=ws.map Nc:=Ajh (by intro e;have:=h.1;rw[e]at this;simp at this) (Zc h.2 32 (by decide))
theorem Fl.no{ws:List W1}(h:Fl ws):10∉(Ci ws).data.toList:=Agd (Zc h.2 10 (by decide))
theorem Fl.b{ws:List W1}(h:Fl ws):Br ws=(Ci ws).data.toList++ [10]:=Aji ws h.1.1 h.1.2
section
variable {pts:List ByteArray} {a b c d:ByteArray} {i j x y:Int}
theorem go_n(f:∃k:Nat,x=k/\Fx a=U k):Bk pts [110] [a] 1=U ([x],false):=by
 obtain⟨k,rfl,e⟩:=f;exact Hf (p:=([],false)) rfl (vG e)
theorem go_nn(g:∃k:Nat,x=k/\Fx a=U k)(l:∃k:Nat,y=k/\Fx b=U k):Bk pts [110,110] [a,b] 2=U ([x,y],false):=by
 obtain⟨k,rfl,e⟩:=g;obtain⟨m,rfl,f⟩:=l;exact Hf (p:=([(k:Int)],false)) (Hf (p:=([],false)) rfl (vG e)) (vG f)
theorem go_sn(e:a.size≠0)(g:∃k:Nat,y=k/\Fx b=U k):Bk pts [115,110] [a,b] 2=U ([y],false):=by
 obtain⟨m,rfl,f⟩:=g;exact Hf (p:=([],false)) (Hf (p:=([],false)) rfl (Ane e)) (vG f)
theorem go_s(ha:a.size≠0):Bk pts [115] [a] 1=U ([],false):=Hf (p:=([],false)) rfl (Ane ha)
theorem go_p(ha:Dr pts a=i)(hi:0<=i)(hs:a.size≠0):Bk pts [112] [a] 1=U ([i],false):=Hf (p:=([],false)) rfl (Ae2 ha hi hs)
theorem go_pp(e:Dr pts a=i)(hi:0<=i)(l:a.size≠0)(f:Dr pts b=j)(g:0<=j)(m:b.size≠0):Bk pts [112,112] [a,b] 2=U ([i,j],false):=
 Hf (p:=([i],false)) (go_p' e hi l) (Ae2 f g m)
where go_p' (ha:Dr pts a=i) (hi:0<=i) (hs:a.size≠0):Bk pts [112,112] [a,b] 1=U ([i],false):=Hf (p:=([],false)) rfl (Ae2 ha hi hs)
theorem go_pnn(e:Dr pts a=i)(hi:0<=i)(l:a.size≠0)(n:∃k:Nat,x=k/\Fx b=U k)(o:∃k:Nat,y=k/\Fx c=U k):Bk pts [112,110,110] [a,b,c] 3=U ([i,x,y],false):=by
 obtain⟨k,rfl,f⟩:=n;obtain⟨m,rfl,g⟩:=o;exact Hf (p:=([i,(k:Int)],false)) (Hf (p:=([i],false)) (Hf (p:=([],false)) rfl (Ae2 e hi l)) (vG f)) (vG g)
theorem go_ppnn(e:Dr pts a=i)(hi:0<=i)(o:a.size≠0)(f:Dr pts b=j)(g:0<=j)(q:b.size≠0)(s:∃k:Nat,x=k/\Fx c=U k)(t:∃k:Nat,y=k/\Fx d=U k):Bk pts [112,112,110,110] [a,b,c,d] 4=U ([i,j,x,y],false):=by
 obtain⟨k,rfl,l⟩:=s;obtain⟨m,rfl,n⟩:=t;exact Hf (p:=([i,j,(k:Int)],false)) (Hf (p:=([i,j],false)) (Hf (p:=([i],false)) (Hf (p:=([],false)) rfl (Ae2 e hi o)) (Ae2 f g q)) (vG l)) (vG n)
end
section
variable {E:Ak} (h:Qa E)
include h
theorem Ajo:Fl [.str Kt,.str E.name,.num E.tol]:=⟨by simp,E7 (Jm (by simp)) (E7 (.inl h.name) (kI h.good.tol.1))⟩
theorem Ajj{s:ByteArray}(hs:s∈E.points):Fl (Gt s):=⟨by simp[Gt],E7 (Jm (by simp)) (kI (.inl (h.pts s hs)))⟩
theorem Ajq(h0:0<=E.count):Fl [.str Rc,.str (A9 E E.count),.num E.mn,.num E.mx]:=by
 have e:=h.cnt;have f:=h.good.rng;exact⟨by simp,E7 (Jm (by simp)) (E7 (M6 h h0 (by omega)) (E7 (show 0<=E.mn by omega) (kI (show 0<=E.mx by omega))))⟩
theorem Ajl{g:Ix}(e:g∈E.gaps):Fl (Dj E g):=by
 obtain⟨a,b,c,d,_⟩:=h.good.gs g e;exact⟨by simp[Dj],E7 (Jm (by simp)) (E7 (M6 h a.1 a.2) (E7 (M6 h b.1 b.2) (E7 c (kI (show 0<=g.mx by omega)))))⟩
theorem Ajp{x:Int × Int}(e:x∈E.edges):Fl (Dg E x):=by
 obtain⟨a,b⟩:=h.good.es x e;exact⟨by simp[Dg],E7 (Jm (by simp)) (E7 (M6 h a.1 a.2) (kI (M6 h b.1 b.2)))⟩
theorem Ajm{k:Int}(e:k∈E.first):Fl (D0 E k):=by
 have a:=h.good.fs k e;exact⟨by simp[D0],E7 (Jm (by simp)) (kI (M6 h a.1 a.2))⟩
theorem Ajk{k:Int}(e:k∈E.last):Fl (D3 E k):=by
 have a:=h.good.ls k e;exact⟨by simp[D3],E7 (Jm (by simp)) (kI (M6 h a.1 a.2))⟩
theorem Ah4(C:Ar)(pre:List Ak)(done:List ByteArray){s:ByteArray}(e:s∈E.points){st:Int}(h1:3<=st)(h2:st<=4):
  Cp ⟨cfg C (pre++ [Yg E done]),st⟩ (Ci (Gt s))=(0,⟨cfg C (pre++ [Yg E (done++ [s])]),4⟩):=by
 have f:=(Ajj h e).w;rw[Jl (w0:=Abz) (ts:=[s]) (k:=4) (fs:=⟨#[115]⟩) (n:=[]) f (by decide) rfl (N6 4 (by decide) (by decide) h1 h2) (go_s (I3 (h.pts s e)))];congr 2;exact Nw C pre _ 4 (by decide) s []
theorem Ah9(C:Ar)(pre:List Ak)(h0:0<=E.count){st:Int}(h1:3<=st)(h2:st<=4):
  Cp ⟨cfg C (pre++ [Yg E E.points]),st⟩ (Ci [.str Rc,.str (A9 E E.count),.num E.mn,.num E.mx])=(0,⟨cfg C (pre++ [Xb E []]),5⟩):=by
 have g:=(Ajq h h0).w;have l:=h.cnt;have m:=h.good.rng;obtain⟨hi,f⟩:=Ls h h0 (by omega);have e:(Cd (pre++ [Yg E E.points])).points=E.points:=by rw[J8];rfl
 rw[Jl (w0:=Rc) (ts:=[A9 E E.count,Nc (.num E.mn),Nc (.num E.mx)]) (k:=5) (fs:=⟨#[112,110,110]⟩) (n:=[E.count,E.mn,E.mx]) g (by decide) rfl (Afv h1 h2)
  (go_pnn (by show Dr (Cd (pre++ [Yg E E.points])).points _=_;rw[e];exact hi) h0 (I3 f) (Kh (n:=E.mn) (by omega) (by omega)) (Kh (n:=E.mx) (by omega) (by omega)))]
 congr 2;exact Nw C pre _ 5 (by decide) _ _
theorem Ah6(C:Ar)(pre:List Ak)(done:List Ix){g:Ix}(f:g∈E.gaps){st:Int}(h1:3<=st)(h2:st<=6):
  Cp ⟨cfg C (pre++ [Xb E done]),st⟩ (Ci (Dj E g))=(0,⟨cfg C (pre++ [Xb E (done++ [g])]),6⟩):=by
 have q:=(Ajl h f).w;obtain⟨a,b,c,d,e⟩:=h.good.gs g f;obtain⟨hi,p⟩:=Ls h a.1 a.2;obtain⟨m,o⟩:=Ls h b.1 b.2;have l:(Cd (pre++ [Xb E done])).points=E.points:=by rw[J8];rfl
 rw[Jl (w0:=Xc) (ts:=[A9 E g.fr,A9 E g.dst,Nc (.num g.mn),Nc (.num g.mx)]) (k:=6) (fs:=⟨#[112,112,110,110]⟩) (n:=[g.fr,g.dst,g.mn,g.mx]) q (by decide) rfl (N6 6 (by decide) (by decide) h1 h2)
  (go_ppnn (by show Dr (Cd (pre++ [Xb E done])).points _=_;rw[l];exact hi) a.1 (I3 p) (by show Dr (Cd (pre++ [Xb E done])).points _=_;rw[l];exact m) b.1 (I3 o) (Kh (n:=g.mn) (by omega) (by omega)) (Kh (n:=g.mx) (by omega) (by omega)))]
 congr 2;exact Nw C pre _ 6 (by decide) _ _
theorem Ah8(C:Ar)(pre:List Ak)(done:List (Int × Int)){x:Int × Int}(f:x∈E.edges){st:Int}(h1:3<=st)(h2:st<=7):
  Cp ⟨cfg C (pre++ [kC E done]),st⟩ (Ci (Dg E x))=(0,⟨cfg C (pre++ [kC E (done++ [x])]),7⟩):=by
 have o:=(Ajp h f).w;obtain⟨a,b⟩:=h.good.es x f;obtain⟨hi,m⟩:=Ls h a.1 a.2;obtain⟨g,l⟩:=Ls h b.1 b.2;have e:(Cd (pre++ [kC E done])).points=E.points:=by rw[J8];rfl
 rw[Jl (w0:=Xd) (ts:=[A9 E x.1,A9 E x.2]) (k:=7) (fs:=⟨#[112,112]⟩) (n:=[x.1,x.2]) o (by decide) rfl (N6 7 (by decide) (by decide) h1 h2)
  (go_pp (by show Dr (Cd (pre++ [kC E done])).points _=_;rw[e];exact hi) a.1 (I3 m) (by show Dr (Cd (pre++ [kC E done])).points _=_;rw[e];exact g) b.1 (I3 l))]
 congr 2;exact Nw C pre _ 7 (by decide) _ _
theorem Ah7(C:Ar)(pre:List Ak)(done:List Int){x:Int}(e:x∈E.first){st:Int}(h1:3<=st)(h2:st<=8):
  Cp ⟨cfg C (pre++ [tB E done]),st⟩ (Ci (D0 E x))=(0,⟨cfg C (pre++ [tB E (done++ [x])]),8⟩):=by
 have l:=(Ajm h e).w;have a:=h.good.fs x e;obtain⟨hi,g⟩:=Ls h a.1 a.2;have f:(Cd (pre++ [tB E done])).points=E.points:=by rw[J8];rfl
 rw[Jl (w0:=gX) (ts:=[A9 E x]) (k:=8) (fs:=⟨#[112]⟩) (n:=[x]) l (by decide) rfl (N6 8 (by decide) (by decide) h1 h2)
  (go_p (by show Dr (Cd (pre++ [tB E done])).points _=_;rw[f];exact hi) a.1 (I3 g))]
 congr 2;exact Nw C pre _ 8 (by decide) _ _
theorem Ah5(C:Ar)(pre:List Ak)(done:List Int){x:Int}(e:x∈E.last){st:Int}(h1:3<=st)(h2:st<=9):
  Cp ⟨cfg C (pre++ [wZ E done]),st⟩ (Ci (D3 E x))=(0,⟨cfg C (pre++ [wZ E (done++ [x])]),9⟩):=by
 have l:=(Ajk h e).w;have a:=h.good.ls x e;obtain⟨hi,g⟩:=Ls h a.1 a.2;have f:(Cd (pre++ [wZ E done])).points=E.points:=by rw[J8];rfl
 rw[Jl (w0:=gN) (ts:=[A9 E x]) (k:=9) (fs:=⟨#[112]⟩) (n:=[x]) l (by decide) rfl (N6 9 (by decide) (by decide) h1 h2)
  (go_p (by show Dr (Cd (pre++ [wZ E done])).points _=_;rw[f];exact hi) a.1 (I3 g))]
 congr 2;exact Nw C pre _ 9 (by decide) _ _
theorem Aic(C:Ar)(pre:List Ak){st:Int}(h1:3<=st)(h2:st<=4):∃st',3<=st'/\st'<=4/\Lm ⟨cfg C (pre++ [Yg E []]),st⟩ (E.points.map (fun s=>Ci (Gt s)))=U ⟨cfg C (pre++ [Yg E E.points]),st'⟩:=by
 have f:= @Ah4 E h C pre;exact N3 (fun s=>Ci (Gt s)) (· ∈E.points) 3 4 (by decide) (fun done=>cfg C (pre++ [Yg E done])) (fun done x st h1 h2 e=>f done e h1 h2) E.points [] st h1 h2 (fun x e=>e)
theorem Aie(C:Ar)(pre:List Ak){st:Int}(h1:3<=st)(h2:st<=6):∃st',3<=st'/\st'<=6/\Lm ⟨cfg C (pre++ [Xb E []]),st⟩ (E.gaps.map (fun g=>Ci (Dj E g)))=U ⟨cfg C (pre++ [Xb E E.gaps]),st'⟩:=by
 have f:= @Ah6 E h C pre;exact N3 (fun g=>Ci (Dj E g)) (· ∈E.gaps) 3 6 (by decide) (fun done=>cfg C (pre++ [Xb E done])) (fun done x st h1 h2 e=>f done e h1 h2) E.gaps [] st h1 h2 (fun x e=>e)
theorem Aig(C:Ar)(pre:List Ak){st:Int}(h1:3<=st)(h2:st<=7):∃st',3<=st'/\st'<=7/\Lm ⟨cfg C (pre++ [kC E []]),st⟩ (E.edges.map (fun g=>Ci (Dg E g)))=U ⟨cfg C (pre++ [kC E E.edges]),st'⟩:=by
 have f:= @Ah8 E h C pre;exact N3 (fun g=>Ci (Dg E g)) (· ∈E.edges) 3 7 (by decide) (fun done=>cfg C (pre++ [kC E done])) (fun done x st h1 h2 e=>f done e h1 h2) E.edges [] st h1 h2 (fun x e=>e)
theorem Aif(C:Ar)(pre:List Ak){st:Int}(h1:3<=st)(h2:st<=8):∃st',3<=st'/\st'<=8/\Lm ⟨cfg C (pre++ [tB E []]),st⟩ (E.first.map (fun g=>Ci (D0 E g)))=U ⟨cfg C (pre++ [tB E E.first]),st'⟩:=by
 have f:= @Ah7 E h C pre;exact N3 (fun g=>Ci (D0 E g)) (· ∈E.first) 3 8 (by decide) (fun done=>cfg C (pre++ [tB E done])) (fun done x st h1 h2 e=>f done e h1 h2) E.first [] st h1 h2 (fun x e=>e)
theorem Aid(C:Ar)(pre:List Ak){st:Int}(h1:3<=st)(h2:st<=9):∃st',3<=st'/\st'<=9/\Lm ⟨cfg C (pre++ [wZ E []]),st⟩ (E.last.map (fun g=>Ci (D3 E g)))=U ⟨cfg C (pre++ [wZ E E.last]),st'⟩:=by
 have f:= @Ah5 E h C pre;exact N3 (fun g=>Ci (D3 E g)) (· ∈E.last) 3 9 (by decide) (fun done=>cfg C (pre++ [wZ E done])) (fun done x st h1 h2 e=>f done e h1 h2) E.last [] st h1 h2 (fun x e=>e)
theorem Alf(C:Ar)(pre:List Ak){st:Int}(h1:2<=st):∃st',2<=st'/\Lm ⟨cfg C pre,st⟩ ((B5 E).map Ci)=U ⟨cfg C (pre++ [E]),st'⟩:=by
 have K:Cp ⟨cfg C pre,st⟩ (Ci [.str Kt,.str E.name,.num E.tol])=(0,⟨cfg C (pre++ [Yg E []]),3⟩):=by
  have L:=(Ajo h).w;have Z:=h.good.tol;rw[Jl (w0:=Kt) (ts:=[E.name,Nc (.num E.tol)]) (k:=3) (fs:=⟨#[115,110]⟩) (n:=[E.tol]) L (by decide) rfl (by unfold Cb;simp;exact h1)
   (go_sn (I3 h.name) (Kh (n:=E.tol) (by omega) (by omega)))]
  rfl
 obtain⟨s1,o,H,M⟩:=Aic h C pre (st:=3) (by decide) (by decide);have f:∃s2,3<=s2/\s2<=5/\Lm ⟨cfg C (pre++ [Yg E E.points]),s1⟩ ((Ep E).map Ci)=U ⟨cfg C (pre++ [Xb E []]),s2⟩:=by
  by_cases h0:0<=E.count
  ·refine⟨5,by decide,by decide,?_⟩;unfold Ep;rw[if_pos h0,Zzb];exact vY (Ah9 h C pre h0 o H)
  ·refine⟨s1,o,by omega,?_⟩;unfold Ep;rw[if_neg h0];have e:E.count= -1:=by have:=h.cnt;omega
   obtain⟨p,q⟩:=h.cmm e;show U _=U _
   congr 5;unfold Yg;cases E;simp only at e p q;simp[e,p,q,Xb]
 obtain⟨s2,v,R,f⟩:=f;obtain⟨P,A,S,N⟩:=Aie h C pre v (by omega);obtain⟨s,B,T,l⟩:=Aig h C pre A (by omega);obtain⟨t,D,X,m⟩:=Aif h C pre B (by omega);obtain⟨u,Q,Y,r6⟩:=Aid h C pre D (by omega);refine⟨u,by omega,?_⟩;unfold B5;rw[Zz1,B0,B0,B0,B0,B0,Zyo,Zyo,Zyo,Zyo,Zyo];refine Rp K ?_;have l:Lm ⟨cfg C (pre++ [Xb E E.gaps]),P⟩ (E.edges.map (fun g=>Ci (Dg E g)))=U ⟨cfg C (pre++ [kC E E.edges]),s⟩:=l;have m:Lm ⟨cfg C (pre++ [kC E E.edges]),s⟩ (E.first.map (fun g=>Ci (D0 E g)))=U ⟨cfg C (pre++ [tB E E.first]),t⟩:=m;have r6:Lm ⟨cfg C (pre++ [tB E E.first]),t⟩ (E.last.map (fun g=>Ci (D3 E g)))=U ⟨cfg C (pre++ [wZ E E.last]),u⟩:=r6;rw[F6,F6,F6,F6];exact(Mt _ _ _ M).trans ((Mt _ _ _ f).trans ((Mt _ _ _ N).trans ((Mt _ _ _ l).trans ((Mt _ _ _ m).trans r6))))
end
theorem vW(C:Ar):∀(L pre:List Ak) {st:Int},2<=st->(∀E∈L,Qa E)->∃st',2<=st'/\Lm ⟨cfg C pre,st⟩ ((L.flatMap B5).map Ci)=U ⟨cfg C (pre++L),st'⟩
 |[],pre,st,h,_=>⟨st,h,by rw[Zz8];rfl⟩
 |E::L,pre,st,h,hf=>by
  obtain⟨s1,h1,r1⟩:=Alf (hf E (Zzo ..)) C pre h
  obtain⟨s2,h2,f⟩:=vW C L (pre++ [E]) h1 (fun x e=>hf x (Zz5 _ e))
  refine⟨s2,h2,?_⟩
  rw[Zz6,B0,Mt _ _ _ r1,f,F6]
  rfl
def Jb(C:Ar):List (List W1):=Is C++C.ents.flatMap B5
theorem qH{C:Ar}(h:B4 C=(0,-1)):∀E∈C.ents,Qa E:=by
 intro E e;obtain⟨i,hi,rfl⟩:=List.mem_iff_getElem.1 e;have:=(Cv h).2.2 i hi;rw[Ov hi]at this;exact Al1 this
theorem Aep{C:Ar}(h:B4 C=(0,-1)):∀ws∈Is C,Fl ws:=by
 have f:=(Cv h).1;unfold Es at f;rw[decide_eq_false_iff_not]at f;intro ws e;simp only[Is,List.mem_cons,List.not_mem_nil,or_false]at e;rcases e with rfl|rfl|rfl
 ·exact⟨by simp,E7 (Jm (by simp)) (E7 (show 0<=C.closed by omega) (kI (show 0<=C.opn by omega)))⟩
 ·exact⟨by simp,E7 (Jm (by simp)) (kI (show 0<=C.cycle by omega))⟩
 ·exact⟨by simp,E7 (Jm (by simp)) (kI (show 0<=C.delay by omega))⟩
theorem Ajn{E:Ak}(h:Qa E):∀ws∈B5 E,Fl ws:=by
 intro ws e;unfold B5 at e;rcases List.mem_cons.1 e with rfl|e
 ·exact Ajo h
 simp only[List.mem_append,List.mem_map]at e;rcases e with((((⟨x,f,rfl⟩|e)|⟨x,f,rfl⟩)|⟨x,f,rfl⟩)|⟨x,f,rfl⟩)|⟨x,f,rfl⟩
 ·exact Ajj h f
 ·unfold Ep at e;split at e
  ·next h0=>obtain rfl:=List.mem_singleton.1 e;exact Ajq h h0
  ·cases e
 ·exact Ajl h f
 ·exact Ajp h f
 ·exact Ajm h f
 ·exact Ajk h f
theorem Am3{C:Ar}(h:B4 C=(0,-1)):∀ws∈Jb C,Fl ws:=by
 intro ws e;rcases List.mem_append.1 e with e|e
 ·exact Aep h ws e
 ·obtain⟨E,f,g⟩:=List.mem_flatMap.1 e;exact Ajn (qH h E f) ws g
theorem Aih{C:Ar}(h:B4 C=(0,-1)):Lm RdS.start ((Is C).map Ci)=U ⟨cfg C [],2⟩:=by
 have f:=(Cv h).1;unfold Es at f;rw[decide_eq_false_iff_not]at f;have e:=Aep h;have w1:=(e [.str Nu,.num C.closed,.num C.opn] (by simp[Is])).w;have o:=(e [.str Qm,.num C.cycle] (by simp[Is])).w;have p:=(e [.str Tj,.num C.delay] (by simp[Is])).w;have g:Cp RdS.start (Ci [.str Nu,.num C.closed,.num C.opn])=(0,⟨⟨C.closed,C.opn,0,0,[]⟩,0⟩):=
  Jl (w0:=Nu) (ts:=[Nc (.num C.closed),Nc (.num C.opn)]) (k:=0) (fs:=⟨#[110,110]⟩) (n:=[C.closed,C.opn]) w1 (by decide) rfl (by decide) (go_nn (Kh (n:=C.closed) (by omega) (by omega)) (Kh (n:=C.opn) (by omega) (by omega)))
 have l:Cp ⟨⟨C.closed,C.opn,0,0,[]⟩,0⟩ (Ci [.str Qm,.num C.cycle])=(0,⟨⟨C.closed,C.opn,C.cycle,0,[]⟩,1⟩):=
  Jl (w0:=Qm) (ts:=[Nc (.num C.cycle)]) (k:=1) (fs:=⟨#[110]⟩) (n:=[C.cycle]) o (by decide) rfl (by show Cb 0 1=true;decide) (go_n (Kh (n:=C.cycle) (by omega) (by omega)))
 have m:Cp ⟨⟨C.closed,C.opn,C.cycle,0,[]⟩,1⟩ (Ci [.str Tj,.num C.delay])=(0,⟨⟨C.closed,C.opn,C.cycle,C.delay,[]⟩,2⟩):=
  Jl (w0:=Tj) (ts:=[Nc (.num C.delay)]) (k:=2) (fs:=⟨#[110]⟩) (n:=[C.delay]) p (by decide) rfl (by show Cb 1 2=true;decide) (go_n (Kh (n:=C.delay) (by omega) (by omega)))
 exact Rp g (Rp l (vY m))
theorem Aek(ls:List ByteArray):∀(k:Nat) {st:RdS},k<=ls.length->Lm (Da ls k) (ls.drop k)=U st->(∀j,k<=j->j<ls.length->Gy ls j=0)/\Da ls ls.length=st
 |k,st,hk,h=>by
  by_cases he:k=ls.length
  ·subst he
   rw[List.drop_length]at h
   exact⟨fun j h1 h2=>by omega,Option.some.inj h⟩
  ·have hlt:k<ls.length:=by omega
   have f:ls.getD k ByteArray.empty=ls[k]:=by rw[Of,R4 hlt];rfl
   rw[Zy3 hlt]at h
   simp only[Lm]at h
   split at h
   ·next hz=>
    have l:Da ls (k+1)=(Cp (Da ls k) ls[k]).2:=by
     show(Cp (Da ls k) (ls.getD k ByteArray.empty)).2=_
     rw[f]
    rw[<-l]at h;obtain⟨h1,h2⟩:=Aek ls (k+1) (by omega) h;refine⟨fun j m g=>?_,h2⟩;by_cases e:j=k
    ·subst e;unfold Gy;rw[f];exact hz
    ·exact h1 j (by omega) g
   ·cases h
 termination_by k=>ls.length-k
theorem V7(C:Ar):C4 C=Ai (Jb C):=by
 unfold C4 Gw Jb;rw[Cj];show Ai _++_=Ai _++_
 congr 1;unfold Ai;rw[List.flatMap_assoc]
theorem Xo{C:Ar}(h:B4 C=(0,-1)):Cl ⟨(C4 C).toArray⟩=(Jb C).map Ci:=by
 have n:=Am3 h;have hne:(Jb C).map Ci≠ []:=by simp[Jb,Is]
 have q:C4 C=((Jb C).map Ci).flatMap (fun s=>s.data.toList++ [10]):=by
  rw[V7,Zyc];unfold Ai;have:∀L:List (List W1),(∀g∈L,Fl g)->L.flatMap Br=L.flatMap (fun a=>(Ci a).data.toList++ [10]):=by
   intro L;induction L with
   |nil=>intro _;rfl
   |cons g L ih=>
    intro m;rw[Zz6,Zz6,ih (fun x v=>m x (Zz5 _ v)),(m g (Zzo ..)).b]
  exact this _ n
 have e:=Zb 10 (((Jb C).map Ci).map (·.data.toList)) (by simpa using hne);rw[Zyc]at e;rw[<-q]at e;have f:(⟨(C4 C).toArray⟩:ByteArray).size=(C4 C).length:=by simp[ByteArray.size]
 have o:1<=(C4 C).length:=by rw[e,R2];simp
 have hcut:Lh ⟨(C4 C).toArray⟩=⟨(Cy 10 (((Jb C).map Ci).map (·.data.toList))).toArray⟩:=by
  unfold Lh;rw[if_pos (by show(C4 C).toArray.toList.getLast? =_;rw[Zy9,e];simp)];refine Kd ?_;rw[Zyj,Zye,f];show List.extract (C4 C).toArray.toList 0 _=(Cy 10 _).toArray.toList
  rw[Zy9,Zy9,List.extract_eq_take_drop,Zx8];conv=>lhs;rw[e]
  rw[R2,G3];simp
 unfold Cl;rw[if_neg (by rw[f];omega),hcut];refine Pk ?_;rw[J0];show Lz 10 (Cy 10 _).toArray.toList=_
 rw[Zy9];exact Rw 10 _ (by simpa using hne) (fun p t=>by
  obtain⟨s,u,rfl⟩:=List.mem_map.1 t;obtain⟨g,l,rfl⟩:=List.mem_map.1 u;exact(n g l).no)
theorem Zs{C:Ar}(h:B4 C=(0,-1))(m:¬8000<(C4 C).length):Hh ⟨(C4 C).toArray⟩=(C,(0,-1)):=by
 have l:(⟨(C4 C).toArray⟩:ByteArray).size=(C4 C).length:=by simp[ByteArray.size]
 obtain⟨e,h2,o⟩:=vW C C.ents [] (st:=2) (by decide) (qH h);have f:Lm RdS.start ((Jb C).map Ci)=U ⟨C,e⟩:=by
  unfold Jb;rw[B0,Mt _ _ _ (Aih h),o];rfl
 have g:=Aek ((Jb C).map Ci) 0 (In _) (st:=⟨C,e⟩) (by rw[Zx8];exact f);unfold Hh;rw[Xo h,l,if_neg m,Wn (fun j n=>g.1 j (In _) n),if_neg (by decide),g.2,if_neg (by show ¬e<2;omega),h,if_neg (by decide)]
theorem Ajd(E:Ak):Br [.str Kt,.str E.name,.num E.tol]= [101,110,116,105,116,121,32]++E.name.data.toList++ [32]++Lib.itoa E.tol++ [10]:=by simp[Br,upB,Np,Ch,Kt,Zz4]
theorem Ajf(E:Ak):Br [.str Rc,.str (A9 E E.count),.num E.mn,.num E.mx]= [99,111,117,110,116,32]++(A9 E E.count).data.toList++ [32]++Lib.itoa E.mn++ [32]++Lib.itoa E.mx++ [10]:=by simp[Br,upB,Np,Ch,Rc,Zz4]
theorem qJ(E:Ak):Ai (B5 E)=Br [.str Kt,.str E.name,.num E.tol]++Ai (E.points.map Gt)++Ai (Ep E)++Ai (E.gaps.map (Dj E))++Ai (E.edges.map (Dg E))++Ai (E.first.map (D0 E))++Ai (E.last.map (D3 E)):=by
 unfold B5;rw[show([.str Kt,.str E.name,.num E.tol]::(E.points.map Gt++Ep E++E.gaps.map (Dj E)++E.edges.map (Dg E)++E.first.map (D0 E)++E.last.map (D3 E)):List (List W1))= [[.str Kt,.str E.name,.num E.tol]]++(E.points.map Gt++Ep E++E.gaps.map (Dj E)++E.edges.map (Dg E)++E.first.map (D0 E)++E.last.map (D3 E))from rfl];simp only[Cj,Dv,F6]
theorem P6{α:Type}(f:α->List W1)(L:List α)(n:Nat)(e:L.length<=n)(h:∀x∈L,Hu (f x)):(Ai (L.map f)).length<=206*n:=by
 have:=Oh f L L.length n e h;rwa [Zz2]at this
theorem An0(wr:V)(R:Nat->Prop)(E:Ak)(pa ga ea fa la:Option Addr)(pc gc ec fc lc b off cap n i q:Nat)(f:Hid (Ed E))(S0:ByteArray)(l:List UInt8)(hl:Hid (S0.data.toList=l))(az:l.length<=800000)(c4:wr.cell? ⟨q,4,O⟩=U (F (U ⟨b,off,O⟩) n cap))(lf:i<n)(bl:(n:Int)<=(cap:Int))
  (p0:wr.cell? ⟨b,off+i*10,O⟩=U (ZB E.name)) (p1:wr.cell? ⟨b,off+i*10+1,O⟩=U (I J E.tol)) (p2:wr.cell? ⟨b,off+i*10+2,O⟩=U (F pa E.points.length pc)) (p3:wr.cell? ⟨b,off+i*10+3,O⟩=U (I J E.count)) (p4:wr.cell? ⟨b,off+i*10+4,O⟩=U (I J E.mn)) (p5:wr.cell? ⟨b,off+i*10+5,O⟩=U (I J E.mx)) (p6:wr.cell? ⟨b,off+i*10+6,O⟩=U (F ga E.gaps.length gc)) (p7:wr.cell? ⟨b,off+i*10+7,O⟩=U (F ea E.edges.length ec)) (p8:wr.cell? ⟨b,off+i*10+8,O⟩=U (F fa E.first.length fc)) (p9:wr.cell? ⟨b,off+i*10+9,O⟩=U (F la E.last.length lc))
  (iu:Hid (Dk R wr E (F pa E.points.length pc) (F ga E.gaps.length gc) (F ea E.edges.length ec) (F fa E.first.length fc) (F la E.last.length lc))) (hR:∀b,R b->b<wr.heap.size) (Q0:Exit->Act->V->Prop) (x0 x2 x5 x6 x7 x8 x9 ix iy ck cv dg ds d6 ek ex fb fo fy fz f0 f1 f2 f3 f4 f5 f6 f7 f8 f9 gb gd ge gf gg gh iz i0 i1 i2 i3 i4 i5 i6 i7 i8 i9 ja jb jc jd je jf jg jh ji jj jk jl jm jn jo jp jq jr js jt ju jv jw jx jy jz j0 j2 j3 j4 j5 j6 j7 j8 j9 ka kb kc kd ke kf kg kh ki kj kk kl km kn ko b0 b1 b2 b3 b4 b5 b6 b7 b8 b9 ca cb cc cd ce cf cg ch ci cj cl cm cn co cp cq cr cs ct cu cw cx cy cz da db dc dd de df dh di dj dk dl dm dn dp dq dr dt du dv dw dx dy dz d3 d4 d5 d7 d8 d9 ed ee ef eg eh ei ej em en eo ep er es et eu ev ew ey ez e0 e3 e4 e5 e6 e7 e8 e9 fd fe ff fg fh fi fj fk fm fn fp fq ft fu fv fw fx a0:Value)
  (aa:∀(y5 y6 y7 y8 y9 y10 y11 y39 y40 y41 y42 y43 y44 y45 y46 y47 y48 y49 y50 y51 y52 y53 y54 y55 y56 y57 y58 y59 y60 y61 y62 y63 y64 y65 y66 y67 y68 y69 y70 y71 y72 y73 y74 y75 y76 y77 y78 y79 y80 y81 y82 y83 y84 y85 y86 y87 y88 y89 y90 y91 y92 y93 y94 y95 y96 y97 y98 y99 y100 y101 y102 y103 y104 y105 y106 y107 y108 y109 y110 y111 y112 y113 y114 y115 y116 y117 y118 y119 y120 y121 y122 y123 y124 y125 y126 y127 y128 y129 y130 y131 y132 y133 y134 y135 y136 y137 y138 y139 y140 y141 y142 y143 y144 y145 y146 y147 y148 y149 y150 y151 y152 y153 y154 y155 y156 y157 y158 y159 y160 y161 y162 y163 y164 y165 y166 y167 y168 y169 y170 y171 y172 y173 y174 y175 y176 y177 y178 y179 y180 y181 y182 y183 y184 y185 y186 y187 y188 y189 y190 y191 y192 y193 y194 y195 y196 y197 y198 y199 y200 y201 y202 y203 y204 y205 y206:Value) (S1:ByteArray) (w':V),S1.data.toList=l++Ai (B5 E)->ZF wr.heap.size wr w'->Q0 .normal ⟨(List.toArray (x0::(.pointer (U ⟨q,0,O⟩))::x2::(ZB S1)::(I J (i:Int))::y5::y6::y7::y8::y9::y10::y11::ck::cv::dg::ds::d6::ek::ex::fb::fo::fy::fz::f0::f1::f2::f3::f4::f5::f6::f7::f8::f9::gb::gd::ge::gf::gg::gh::y39::y40::y41::y42::y43::y44::y45::y46::y47::y48::y49::y50::y51::y52::y53::y54::y55::y56::y57::y58::y59::y60::y61::y62::y63::y64::y65::y66::y67::y68::y69::y70::y71::y72::y73::y74::y75::y76::y77::y78::y79::y80::y81::y82::y83::y84::y85::y86::y87::y88::y89::y90::y91::y92::y93::y94::y95::y96::y97::y98::y99::y100::y101::y102::y103::y104::y105::y106::y107::y108::y109::y110::y111::y112::y113::y114::y115::y116::y117::y118::y119::y120::y121::y122::y123::y124::y125::y126::y127::y128::y129::y130::y131::y132::y133::y134::y135::y136::y137::y138::y139::y140::y141::y142::y143::y144::y145::y146::y147::y148::y149::y150::y151::y152::y153::y154::y155::y156::y157::y158::y159::y160::y161::y162::y163::y164::y165::y166::y167::y168::y169::y170::y171::y172::y173::y174::y175::y176::y177::y178::y179::y180::y181::y182::y183::y184::y185::y186::y187::y188::y189::y190::y191::y192::y193::y194::y195::y196::y197::y198::y199::y200::y201::y202::y203::y204::y205::y206::a0:: [])),[]⟩ w'):
  Code.wp ZI (qN 1) Q0 ⟨(List.toArray (x0::(.pointer (U ⟨q,0,O⟩))::x2::(ZB S0)::(I J (i:Int))::x5::x6::x7::x8::x9::ix::iy::ck::cv::dg::ds::d6::ek::ex::fb::fo::fy::fz::f0::f1::f2::f3::f4::f5::f6::f7::f8::f9::gb::gd::ge::gf::gg::gh::iz::i0::i1::i2::i3::i4::i5::i6::i7::i8::i9::ja::jb::jc::jd::je::jf::jg::jh::ji::jj::jk::jl::jm::jn::jo::jp::jq::jr::js::jt::ju::jv::jw::jx::jy::jz::j0::j2::j3::j4::j5::j6::j7::j8::j9::ka::kb::kc::kd::ke::kf::kg::kh::ki::kj::kk::kl::km::kn::ko::b0::b1::b2::b3::b4::b5::b6::b7::b8::b9::ca::cb::cc::cd::ce::cf::cg::ch::ci::cj::cl::cm::cn::co::cp::cq::cr::cs::ct::cu::cw::cx::cy::cz::da::db::dc::dd::de::df::dh::di::dj::dk::dl::dm::dn::dp::dq::dr::dt::du::dv::dw::dx::dy::dz::d3::d4::d5::d7::d8::d9::ed::ee::ef::eg::eh::ei::ej::em::en::eo::ep::er::es::et::eu::ev::ew::ey::ez::e0::e3::e4::e5::e6::e7::e8::e9::fd::fe::ff::fg::fh::fi::fj::fk::fm::fn::fp::fq::ft::fu::fv::fw::fx::a0:: [])),[]⟩ wr:=by
 have HEXIT:=G aa;have HLen:=G az;have bs:EB wr R E (F pa E.points.length pc) (F ga E.gaps.length gc) (F ea E.edges.length ec) (F fa E.first.length fc) (F la E.last.length lc) wr.heap.size (wr.alloc (.cells (As E (F pa E.points.length pc) (F ga E.gaps.length gc) (F ea E.edges.length ec) (F fa E.first.length fc) (F la E.last.length lc)) 50)):=
  ⟨Ab _ _,iu.keep (Al ((R1 _ _).alloc (Y2 _) _)) (fun _ _ h=>h),(R1 _ _).alloc (Y2 _) _,hR,Y2 _⟩
 have A:=G bs;unfold As at A;clear aa az bs hR;conv=>arg 2;whnf
 go_upto_region 6 with fail;generalize wr.alloc _=wb at A ⊢;obtain⟨u,ax⟩:∃u,u=wr.heap.size:=⟨_,rfl⟩
 rw[<-ax]at A ⊢;have io:=Aa A.box;clear ax p0 p1 p2 p3 p4 p5 p6 p7 p8 p9 c4 bl;obtain⟨c0,c1,c2,c3,c4,c5,c6,c7,c8,c9⟩:=A.cells;have iq:=f.name;have iv:=f.tol;obtain⟨v1,m⟩:∃v,v=E.tol:=⟨_,rfl⟩
 have bv:=Kn v1 (by omega) (by omega);have a6:=fun W=>Dm v1 (by omega) (by omega) W;obtain⟨n1,g⟩:∃n,n=B6 (Lib.itoa v1):=⟨_,rfl⟩
 rw[<-g]at a6;have HD:=G (fun W (hW:ZF wb.heap.size wb W)=>(a6 W).mono (R':=fun e w'=>e=.returned (ZB n1)/\ZF wb.heap.size wb w') (fun e w' h=>⟨h.1,hW.trans (h.2.mono hW.size)⟩));have a9:n1.size<=40:=by rw[g,Dx];exact bv
 have a3:=G (Ajd E);rw[<-m,show Lib.itoa v1=n1.data.toList from by rw[g,Cw]]at a3;rw[<-m]at c1;have a5:S0.size<=800000:=by rw[dsize,hl.out];exact HLen.out
 obtain⟨T0,C,ad,M⟩:=Bh (P:=ZI) S0 ⟨#[101,110,116,105,116,121,32]⟩ (by have:=(show(⟨#[101,110,116,105,116,121,32]⟩:ByteArray).size=7 from rfl);omega);rw[(show(⟨#[101,110,116,105,116,121,32]⟩:ByteArray).size=7 from rfl)]at ad;obtain⟨T1,D,ba,N⟩:=Bh (P:=ZI) T0 E.name (by omega);obtain⟨T2,H,ae,Q⟩:=Bh (P:=ZI) T1 ⟨#[32]⟩ (by have:=(show(⟨#[32]⟩:ByteArray).size=1 from rfl);omega);rw[(show(⟨#[32]⟩:ByteArray).size=1 from rfl)]at ae;obtain⟨T3,K,bb,T⟩:=Bh (P:=ZI) T2 n1 (by omega);obtain⟨T4,L,av,X⟩:=Bh (P:=ZI) T3 ⟨#[10]⟩ (by have:=(show(⟨#[10]⟩:ByteArray).size=1 from rfl);omega);have g3:Hid (T4.data.toList=l++Br [.str Kt,.str E.name,.num E.tol]):=G (by
  rw[m]at a3;rw[a3.out,L,K,H,D,C,hl.out];simp)
 clear C ad D ba H ae K bb L av iq iv bv a6 g a9 a5 m;go_region_held3 (fun w'=>∀o,w'.cell? ⟨u,o,O⟩=wb.cell? ⟨u,o,O⟩)
  (first|exact fun _=>rfl|exact fun o=>d1.cell (p:=⟨u,o,O⟩) io)
  (first|(go_at_call_of 56 (Value.int J v1);refine(HD _ ?_).mono ?_;(repeat(first|exact R1 _ _|refine H5 ?_));rintro e wA ⟨rfl,d1⟩))
 have gu:=G (A.below d1);clear c0 c1 c2 c3 c4 c5 c6 c7 c8 c9 M N Q T X;have L1:(l++Br [.str Kt,.str E.name,.num E.tol]).length<=900000:=by
  have h1:=(M7 f.out).line;have h2:=HLen.out;rw[R2];omega
 go_upto_block 2 with fail;refine Anz wr _ R E pa ga ea fa la pc gc ec fc lc u f gu T4 _ g3 L1 _ _ _ _ _ _ _ _ _ _ _ _ _ _ _ _ _ _ _ _ _ _ _ _ _ _ _ _ _ _ _ _ _ _ _ _ _ _ _ _ _ _ _ _ _ _ _ _ _ _ _ _ _ _ _ _ _ _ _ _ _ _ _ _ _ _ _ _ _ _ _ _ _ _ _ _ _ _ _ _ _ _ _ _ _ _ _ _ _ _ _ _ _ _ _ _ _ _ _ _ _ _ _ _ _ _ _ _ _ _ _ _ _ _ _ _ _ _ _ _ _ _ _ _ _ _ _ _ _ _ _ _ _ _ _ _ _ _ _ _ _ _ _ _ _ _ _ _ _ _ _ _ _ _ _ _ _ _ _ _ _ _ _ _ _ _ _ _ _ _ _ _ _ _ _ _ _ _ _ _ _ _ _ _ _ _ _ _ _ _ _ _ _ _ _ _ _ _ _ _ _ _ _ _ _ _ ?_;intro y6 y55 y56 y57 y58 y59 y60 y61 y62 y63 y64 y65 y66 y67 y68 y69 y70 S1 w2 bg bn;have ap:=G bg;have B:=G bn;clear bg bn;have L2:(l++Br [.str Kt,.str E.name,.num E.tol]++Ai (E.points.map Gt)).length<=803708:=by
  have h1:=(M7 f.out).line;have h2:=HLen.out;have h3:=P6 Gt E.points 16 f.pl (fun x hx=>Rq f hx);rw[R2,R2];omega
 obtain⟨c0,c1,c2,c3,c4,c5,c6,c7,c8,c9⟩:=B.cells;go_upto_if 73 with fail;go_cut [3] from 72 to 93 (fun s3 wx=>∃S,s3=ZB S/\Hid (S.data.toList=l++Br [.str Kt,.str E.name,.num E.tol]++Ai (E.points.map Gt)++Ai (Ep E))/\Hid (EB wr R E (F pa E.points.length pc) (F ga E.gaps.length gc) (F ea E.edges.length ec) (F fa E.first.length fc) (F la E.last.length lc) u wx));case first=>
  by_cases hc:0<=E.count
  ·have im:=f.cnt;have a7:=f.rng;obtain⟨j1,aq⟩:∃j:Nat,E.count=(j:Int):=⟨E.count.toNat,by omega⟩
   have au:j1<E.points.length:=by omega
   obtain⟨pb,po,rfl,lb,ir,bm⟩:=E8 B.sl.p (by omega);have q1:=bm j1 au;have it:=f.ps _ (M2 au);have t:=G (Ajf E);rw[Ng aq au]at t;obtain⟨s1,ab⟩:∃s,s=E.points[j1]:=⟨_,rfl⟩
   rw[<-ab]at q1 it t;have a1:Hid (Ai (Ep E)=Br [.str Rc,.str (A9 E E.count),.num E.mn,.num E.mx]):=(show _=_ from by unfold Ep;rw[if_pos hc,Dv])
   rw[aq]at c3;have ld:(0:Int)<=(j1:Int):=by omega
   obtain⟨v1,m⟩:∃v,v=E.mn:=⟨_,rfl⟩
   obtain⟨v2,a8⟩:∃v,v=E.mx:=⟨_,rfl⟩
   rw[<-m]at c4 t a7;rw[<-a8]at c5 t a7;obtain⟨a4,ii,ij⟩:=a7;have bt:=Kn v1 a4 (by omega);have bu:=Kn v2 (by omega) (by omega);have Y:=fun W=>Dm v1 a4 (by omega) W;have Z:=fun W=>Dm v2 (by omega) (by omega) W;obtain⟨n1,g⟩:∃n,n=B6 (Lib.itoa v1):=⟨_,rfl⟩
   obtain⟨n2,ar⟩:∃n,n=B6 (Lib.itoa v2):=⟨_,rfl⟩
   rw[<-g]at Y;rw[<-ar]at Z;have gs:=G (fun W (hW:ZF w2.heap.size w2 W)=>(Y W).mono (R':=fun e w'=>e=.returned (ZB n1)/\ZF w2.heap.size w2 w') (fun e w' h=>⟨h.1,hW.trans (h.2.mono hW.size)⟩));have gt:=G (fun W (hW:ZF w2.heap.size w2 W)=>(Z W).mono (R':=fun e w'=>e=.returned (ZB n2)/\ZF w2.heap.size w2 w') (fun e w' h=>⟨h.1,hW.trans (h.2.mono hW.size)⟩));have a9:n1.size<=40:=by rw[g,Dx];exact bt
   have iw:n2.size<=40:=by rw[ar,Dx];exact bu
   rw[show Lib.itoa v1=n1.data.toList from by rw[g,Cw],show Lib.itoa v2=n2.data.toList from by rw[ar,Cw]]at t;have a5:S1.size<=803708:=by rw[dsize,ap.out];exact L2
   obtain⟨T0,C,ad,M⟩:=Bh (P:=ZI) S1 ⟨#[99,111,117,110,116,32]⟩ (by have:=(show(⟨#[99,111,117,110,116,32]⟩:ByteArray).size=6 from rfl);omega);rw[(show(⟨#[99,111,117,110,116,32]⟩:ByteArray).size=6 from rfl)]at ad;obtain⟨T1,D,ba,N⟩:=Bh (P:=ZI) T0 s1 (by omega);obtain⟨T2,H,ae,Q⟩:=Bh (P:=ZI) T1 ⟨#[32]⟩ (by have:=(show(⟨#[32]⟩:ByteArray).size=1 from rfl);omega);rw[(show(⟨#[32]⟩:ByteArray).size=1 from rfl)]at ae;obtain⟨T3,K,bb,T⟩:=Bh (P:=ZI) T2 n1 (by omega);obtain⟨T4,L,av,X⟩:=Bh (P:=ZI) T3 ⟨#[32]⟩ (by have:=(show(⟨#[32]⟩:ByteArray).size=1 from rfl);omega);rw[(show(⟨#[32]⟩:ByteArray).size=1 from rfl)]at av;obtain⟨T5,bd,kp,ik⟩:=Bh (P:=ZI) T4 n2 (by omega);obtain⟨T6,bf,kq,il⟩:=Bh (P:=ZI) T5 ⟨#[10]⟩ (by have:=(show(⟨#[10]⟩:ByteArray).size=1 from rfl);omega);have g4:Hid (T6.data.toList=l++Br [.str Kt,.str E.name,.num E.tol]++Ai (E.points.map Gt)++Ai (Ep E)):=G (by
    rw[a1.out,Ng aq au,<-ab,<-m,<-a8];have ip:=t.out;rw[ip,bf,bd,L,K,H,D,C,ap.out];simp)
   have bw:=ir;have ay:=Aa B.box;clear C ad D ba H ae K bb L av bd kp bf kq bt bu Y Z g ar a9 iw a5 m a8 aq ab bm im a4 ii ij t;go_upto_region 12 with fail;refine wp_region_noPanic ?_;go_region_held3 (fun w'=>(∀o,w'.cell? ⟨u,o,O⟩=w2.cell? ⟨u,o,O⟩)/\(∀o,w'.cell? ⟨pb,o,O⟩=w2.cell? ⟨pb,o,O⟩))
    (first|exact⟨fun _=>rfl,fun _=>rfl⟩|exact⟨fun o=>e2.cell (p:=⟨u,o,O⟩) ay,fun o=>e2.cell (p:=⟨pb,o,O⟩) bw⟩|exact⟨fun o=>e1.cell (p:=⟨u,o,O⟩) ay,fun o=>e1.cell (p:=⟨pb,o,O⟩) bw⟩)
    (first|(go_at_call_of 56 (Value.int J v1);refine(gs _ ?_).mono ?_;(repeat(first|exact R1 _ _|refine H5 ?_));rintro e wA ⟨rfl,e1⟩)|(go_at_call_of 56 (Value.int J v2);refine(gt _ ?_).mono ?_;(repeat(first|exact e1|refine H5 ?_));rintro e wB ⟨rfl,e2⟩))
   have a2:=G (B.below e2);refine NoPanic.normal ?_;go_wp2_with fail;go_meet;exact⟨T6,rfl,g4,a2⟩
  ·have a1:Hid (S1.data.toList=l++Br [.str Kt,.str E.name,.num E.tol]++Ai (E.points.map Gt)++Ai (Ep E)):=(show _=_ from by unfold Ep;rw[if_neg hc,ap.out];simp[Ai])
   go_wp2_with fail;go_meet;exact⟨S1,rfl,a1,B⟩
 case rest=>
 obtain⟨S2,rfl,gy,a2⟩:=hcut;clear c0 c1 c2 c3 c4 c5 c6 c7 c8 c9 B ap;have K1:(Ai (Ep E)).length<=206:=by
  unfold Ep;split
  ·rw[Dv];exact(Uv f.out).line
  ·simp[Ai]
 have K2:=P6 (Dj E) E.gaps 8 f.gl (fun x hx=>Om f hx);have K3:=P6 (Dg E) E.edges 64 f.el (fun x hx=>Ow f x);have K4:=P6 (D0 E) E.first 16 f.fl (fun x hx=>Oo f x);have ao:=G (And.intro L2 (And.intro K1 (And.intro K2 (And.intro K3 K4))));clear L1 L2 K1 K2 K3 K4;go_upto_block 4 with fail;refine An2 wr _ R E pa ga ea fa la pc gc ec fc lc u f a2 S2 _ gy (by obtain⟨a,b,c,d,e⟩:=ao.out;rw[R2];omega) _ _ _ _ _ _ _ _ _ _ _ _ _ _ _ _ _ _ _ _ _ _ _ _ _ _ _ _ _ _ _ _ _ _ _ _ _ _ _ _ _ _ _ _ _ _ _ _ _ _ _ _ _ _ _ _ _ _ _ _ _ _ _ _ _ _ _ _ _ _ _ _ _ _ _ _ _ _ _ _ _ _ _ _ _ _ _ _ _ _ _ _ _ _ _ _ _ _ _ _ _ _ _ _ _ _ _ _ _ _ _ _ _ _ _ _ _ _ _ _ _ _ _ _ _ _ _ _ _ _ _ _ _ _ _ _ _ _ _ _ _ _ _ _ _ _ _ _ _ _ _ _ _ _ _ _ _ _ _ _ _ _ _ _ _ _ _ _ _ _ _ _ _ _ _ _ _ _ _ _ _ _ _ _ _ _ _ _ _ _ _ _ _ _ _ _ _ _ _ _ _ _ _ _ _ _ ?_;intro y7 y8 y94 y95 y96 y97 y98 y99 y100 y101 y102 y103 y104 y105 y106 y107 y108 y109 y110 y111 y112 y113 y114 y115 y116 y117 y118 y119 y120 y121 y122 y123 y124 y125 y126 y127 y128 y129 y130 y131 y132 y133 S3 w3 bh bo;have gz:=G bh;have gv:=G bo;clear bh bo;go_upto_block 6 with fail;refine An4 wr _ R E pa ga ea fa la pc gc ec fc lc u f gv S3 _ gz (by obtain⟨a,b,c,d,e⟩:=ao.out;rw[R2,R2];omega) _ _ _ _ _ _ _ _ _ _ _ _ _ _ _ _ _ _ _ _ _ _ _ _ _ _ _ _ _ _ _ _ _ _ _ _ _ _ _ _ _ _ _ _ _ _ _ _ _ _ _ _ _ _ _ _ _ _ _ _ _ _ _ _ _ _ _ _ _ _ _ _ _ _ _ _ _ _ _ _ _ _ _ _ _ _ _ _ _ _ _ _ _ _ _ _ _ _ _ _ _ _ _ _ _ _ _ _ _ _ _ _ _ _ _ _ _ _ _ _ _ _ _ _ _ _ _ _ _ _ _ _ _ _ _ _ _ _ _ _ _ _ _ _ _ _ _ _ _ _ _ _ _ _ _ _ _ _ _ _ _ _ _ _ _ _ _ _ _ _ _ _ _ _ _ _ _ _ _ _ _ _ _ _ _ _ _ _ _ _ _ _ _ _ _ _ _ _ _ _ _ _ _ _ _ _ ?_;intro y9 y134 y135 y136 y137 y138 y139 y140 y141 y142 y143 y144 y145 y146 y147 y148 y149 y150 y151 y152 y153 y154 y155 y156 y157 y158 y159 y160 y161 y162 y163 y164 y165 y166 S4 w4 bi bp;have g0:=G bi;have gw:=G bp;clear bi bp;go_upto_block 8 with fail;refine An3 wr _ R E pa ga ea fa la pc gc ec fc lc u f gw S4 _ g0 (by obtain⟨a,b,c,d,e⟩:=ao.out;rw[R2,R2,R2];omega) _ _ _ _ _ _ _ _ _ _ _ _ _ _ _ _ _ _ _ _ _ _ _ _ _ _ _ _ _ _ _ _ _ _ _ _ _ _ _ _ _ _ _ _ _ _ _ _ _ _ _ _ _ _ _ _ _ _ _ _ _ _ _ _ _ _ _ _ _ _ _ _ _ _ _ _ _ _ _ _ _ _ _ _ _ _ _ _ _ _ _ _ _ _ _ _ _ _ _ _ _ _ _ _ _ _ _ _ _ _ _ _ _ _ _ _ _ _ _ _ _ _ _ _ _ _ _ _ _ _ _ _ _ _ _ _ _ _ _ _ _ _ _ _ _ _ _ _ _ _ _ _ _ _ _ _ _ _ _ _ _ _ _ _ _ _ _ _ _ _ _ _ _ _ _ _ _ _ _ _ _ _ _ _ _ _ _ _ _ _ _ _ _ _ _ _ _ _ _ _ _ _ _ _ _ _ ?_;intro y10 y167 y168 y169 y170 y171 y172 y173 y174 y175 y176 y177 y178 y179 y180 y181 y182 y183 y184 y185 y186 S5 w5 bj bq;have g1:=G bj;have gx:=G bq;clear bj bq;go_upto_block 10 with fail;refine An1 wr _ R E pa ga ea fa la pc gc ec fc lc u f gx S5 _ g1 (by obtain⟨a,b,c,d,e⟩:=ao.out;rw[R2,R2,R2,R2];omega) _ _ _ _ _ _ _ _ _ _ _ _ _ _ _ _ _ _ _ _ _ _ _ _ _ _ _ _ _ _ _ _ _ _ _ _ _ _ _ _ _ _ _ _ _ _ _ _ _ _ _ _ _ _ _ _ _ _ _ _ _ _ _ _ _ _ _ _ _ _ _ _ _ _ _ _ _ _ _ _ _ _ _ _ _ _ _ _ _ _ _ _ _ _ _ _ _ _ _ _ _ _ _ _ _ _ _ _ _ _ _ _ _ _ _ _ _ _ _ _ _ _ _ _ _ _ _ _ _ _ _ _ _ _ _ _ _ _ _ _ _ _ _ _ _ _ _ _ _ _ _ _ _ _ _ _ _ _ _ _ _ _ _ _ _ _ _ _ _ _ _ _ _ _ _ _ _ _ _ _ _ _ _ _ _ _ _ _ _ _ _ _ _ _ _ _ _ _ _ _ _ _ _ _ _ _ ?_;intro y11 y187 y188 y189 y190 y191 y192 y193 y194 y195 y196 y197 y198 y199 y200 y201 y202 y203 y204 y205 y206 S6 w6 bk br;have g2:Hid (S6.data.toList=l++Ai (B5 E)):=G (by
  rw[bk,qJ];simp only[F6])
 have gr:=G br.bel;clear bk br;go_wp2_with fail;exact HEXIT _ _ _ _ _ _ _ _ _ _ _ _ _ _ _ _ _ _ _ _ _ _ _ _ _ _ _ _ _ _ _ _ _ _ _ _ _ _ _ _ _ _ _ _ _ _ _ _ _ _ _ _ _ _ _ _ _ _ _ _ _ _ _ _ _ _ _ _ _ _ _ _ _ _ _ _ _ _ _ _ _ _ _ _ _ _ _ _ _ _ _ _ _ _ _ _ _ _ _ _ _ _ _ _ _ _ _ _ _ _ _ _ _ _ _ _ _ _ _ _ _ _ _ _ _ _ _ _ _ _ _ _ _ _ _ _ _ _ _ _ _ _ _ _ _ _ _ _ _ _ _ _ _ _ _ _ _ _ _ _ _ _ _ _ _ _ _ _ _ _ _ _ _ _ _ _ _ g2 gr.out
