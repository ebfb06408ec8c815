import Derived.Test.YtikehilbmldadaaGreatDoorP32
set_option linter.unusedVariables false
namespace Go.Proofs.YtikehilbmldadaaGreatDoor
open Proofs.Tryz YtikehilbmldadaaGreatDoor.Tryz RowKit
open Option renaming some->U
theorem Ann(a:W1):Br [a]=Ch a++ [10]:=by simp[Br,upB,Np,Zz4]
theorem pT(a b:W1):Br [a,b]=Ch a++32::Ch b++ [10]:=by simp[Br,upB,Np,Zz4]
theorem Aeo(a b c:W1):Br [a,b,c]=Ch a++32::Ch b++32::Ch c++ [10]:=by simp[Br,upB,Np,Zz4]
theorem Ami(a b c d:W1):Br [a,b,c,d]=Ch a++32::Ch b++32::Ch c++32::Ch d++ [10]:=by simp[Br,upB,Np,Zz4]
theorem Amh(a b c d e:W1):Br [a,b,c,d,e]=Ch a++32::Ch b++32::Ch c++32::Ch d++32::Ch e++ [10]:=by simp[Br,upB,Np,Zz4]
structure tZ (E:Ak) (k:Int):Prop where
 c:k<5->E.count= -1
 g:k<6->E.gaps= []
 e:k<7->E.edges= []
 f:k<8->E.first= []
 l:k<9->E.last= []
structure Zx (st:RdS):Prop where
 lo:-1<=st.stage/\st.stage<=9
 no:st.stage<3->st.c.ents= []
 ne:3<=st.stage->st.c.ents≠ []
 fit:3<=st.stage->tZ (Cd st.c.ents) st.stage
def Ae0(st:RdS):List (List W1):=(Is st.c).take (st.stage+1).toNat++st.c.ents.flatMap B5
def txt(st:RdS):List UInt8:=Ai (Ae0 st)
theorem Agu:Zx RdS.start:=⟨⟨by decide,by decide⟩,fun _=>rfl,fun h=>absurd h (by decide),fun h=>absurd h (by decide)⟩
theorem Aez:txt RdS.start= []:=rfl
theorem I2{t:ByteArray}{k:Nat}(h:Fx t=U k):Lib.itoa (k:Int)=t.data.toList:=by
 unfold Fx at h;split at h
 ·split at h
  ·next v hv hc=>
   obtain rfl:=Option.some.inj h;rw[Zzu hc.2.1];exact hc.2.2
  ·cases h
 ·cases h
theorem Kd{a b:ByteArray}(h:a.data.toList=b.data.toList):a=b:=by
 cases a;cases b;exact congrArg ByteArray.mk (Array.toList_inj.1 h)
theorem Aly{l:List ByteArray}{t:ByteArray}(h:0<=Dr l t):l.getD (Dr l t).toNat ByteArray.empty=t/\(Dr l t).toNat<l.length:=by
 unfold Dr G9 at h ⊢;cases e:l.findIdx? (fun x=>x.toList==t.toList)with
 |none=>rw[e]at h;simp at h
 |some k=>
  obtain⟨f,h1,_⟩:=List.findIdx?_eq_some_iff_getElem.1 e;simp only[Zzc];refine⟨?_,f⟩;rw[Of,R4 f];have h2:=eq_of_beq h1;rw[Zz3,Zz3]at h2;exact Kd h2
theorem Acg{L:List Ak}(h:L≠ []):L=L.dropLast++ [Cd L]:=by
 have:=Zzh h;rw[Cd,Zxx h];exact this.symm
theorem J8(L:List Ak)(E:Ak):Cd (L++ [E])=E:=by simp[Cd]
theorem G1{pts:List ByteArray}{fs:List UInt8}{ts:List ByteArray}{k:Nat}{q:List Int × Bool}(h:Bk pts fs ts (k+1)=U q):∃p,Bk pts fs ts k=U p/\Co pts (fs.getD k 0) (ts.getD k ByteArray.empty) p=U q:=by
 unfold Bk at h;cases e:Bk pts fs ts k with
 |none=>rw[e]at h;cases h
 |some p=>rw[e]at h;exact⟨p,rfl,h⟩
theorem Qp{pts:List ByteArray}{t:ByteArray}{p q:List Int × Bool}(h:Co pts 110 t p=U q):∃k:Nat,Fx t=U k/\q=(p.1++ [(k:Int)],p.2):=by
 unfold Co at h;rw[if_pos rfl]at h;cases e:Fx t with
 |none=>rw[e]at h;cases h
 |some k=>rw[e]at h;exact⟨k,rfl,(Option.some.inj h).symm⟩
theorem U9{pts:List ByteArray}{t:ByteArray}{p q:List Int × Bool}(h:Co pts 112 t p=U q):q=(p.1++ [Dr pts t],p.2||decide (Dr pts t<0)):=by
 unfold Co at h;rw[if_neg (by decide)]at h;split at h
 ·cases h
 ·rw[if_pos rfl]at h;exact(Option.some.inj h).symm
theorem Ah3{pts:List ByteArray}{t:ByteArray}{p q:List Int × Bool}(h:Co pts 115 t p=U q):q=p:=by
 unfold Co at h;rw[if_neg (by decide)]at h;split at h
 ·cases h
 ·rw[if_neg (by decide)]at h;exact(Option.some.inj h).symm
theorem Ul{s:ByteArray}(h:Ia s=true):∃p∈Fj,p.1=s/\Ca s=p.2.1/\Cm s=p.2.2:=by
 unfold Ia Kp at h;unfold Ca Cm Kp;cases e:Fj.find? (fun p=>p.1.data.toList==s.data.toList)with
 |none=>rw[e]at h;cases h
 |some p=>
  have h1:=List.find?_some e;exact⟨p,List.mem_of_find?_eq_some e,Kd (eq_of_beq h1),rfl,rfl⟩
theorem Agh(s:ByteArray):Cy 32 ((Ky s).map (·.data.toList))=s.data.toList:=by
 unfold Ky;rw[J0,qB]
theorem xF(s:ByteArray):Ky s≠ []:=by
 intro h;have:=J0 32 s;rw[show Cx 32 s= [] from h]at this;exact Ad1 32 _ this.symm
theorem Ajc{st:RdS}{s:ByteArray}(h:Gl st s=true):∃p∈Fj,∃ts,Ky s=p.1::ts/\Jf s=p.1/\ts.length=p.2.2.size/\Cb st.stage p.2.1=true/\Ca p.1=p.2.1/\Cm p.1=p.2.2:=by
 unfold Gl at h;rw[Zyk,Zyk]at h;obtain⟨⟨h1,h2⟩,h3⟩:=h;obtain⟨p,l,e,g,i⟩:=Ul h1;have h3:=eq_of_beq h3;cases f:Ky s with
 |nil=>exact absurd f (xF s)
 |cons a ts=>
  have j:Jf s=a:=by unfold Jf;rw[f];rfl
  rw[g]at h2;rw[f,i]at h3;refine⟨p,l,ts,?_,e.symm,by simpa using h3,h2,by rw[e];exact g,by rw[e];exact i⟩;rw[e,j]
theorem xG{st st':RdS}{s:ByteArray}(h:Cp st s=(0,st')):Gl st s=true/\∃n,Pn st s=U (n,false)/\st'=⟨Cc (Ca (Jf s)) ((Ky s).getD 1 ByteArray.empty) n st.c,Ca (Jf s)⟩:=by
 unfold Cp at h;split at h
 ·next hf=>
  refine⟨hf,?_⟩;cases e:Pn st s with
  |none=>rw[e]at h;cases h
  |some p=>
   rw[e]at h;obtain⟨n,z⟩:=p;cases z
   ·exact⟨n,rfl,((Prod.mk.inj h).2).symm⟩
   ·cases h
 ·cases h
theorem U8{C:Ar}{k:Int}(h:2<=k):(Is C).take (k+1).toNat=Is C:=Zy0 (by show 3<=_;omega)
theorem Nv{st:RdS}{k:Nat}{e:Ak}{f:List W1}{C':Ar}(h2:2<=st.stage)(l:2<=k)(hne:st.c.ents≠ [])(i:Is C'=Is st.c)(g:C'.ents=st.c.ents.dropLast++ [e])(j:B5 e=B5 (Cd st.c.ents)++ [f]):
  txt ⟨C',(k:Int)⟩=txt st++Br f:=by
 unfold txt Ae0;show Ai ((Is C').take ((k:Int)+1).toNat++C'.ents.flatMap B5)=_
 rw[U8 (by omega),U8 h2,i,g];conv=>rhs;rw[Acg hne]
 rw[B1,B1,Zzj,Zzj,j,Cj,Cj,Cj,Cj,Cj,Dv];simp only[F6]
theorem Ok{st:RdS}{k:Nat}{e:Ak}{C':Ar}(j:3<=k)(i:k<=9)(f:C'.ents=st.c.ents.dropLast++ [e])(g:tZ e (k:Int)):Zx ⟨C',(k:Int)⟩:=by
 refine⟨⟨by show(-1:Int)<=k;omega,by show(k:Int)<=9;omega⟩,fun h=>absurd h (by show ¬(k:Int)<3;omega),fun _=>?_,fun _=>?_⟩
 ·show C'.ents≠ []
  rw[f];simp
 ·show tZ (Cd C'.ents) (k:Int)
  rw[f,J8];exact g
theorem Mv{E:Ak}{t:ByteArray}(h:0<=Dr E.points t):A9 E (Dr E.points t)=t:=(Aly h).1
theorem Yy{C:Ar}{k:Int}(h1:-1<=k)(h2:k<3)(e:C.ents= []):Zx ⟨C,k⟩:=
 ⟨⟨h1,by show k<=9;omega⟩,fun _=>e,fun h=>absurd (show 3<=k from h) (by omega),fun h=>absurd (show 3<=k from h) (by omega)⟩
theorem Ajr{ts:List ByteArray}(h:ts.length=1):∃a,ts= [a]:=by
 match ts,h with
 |[a],_=>exact⟨a,rfl⟩
theorem Am4{ts:List ByteArray}(h:ts.length=2):∃a b,ts= [a,b]:=by
 match ts,h with
 |[a,b],_=>exact⟨a,b,rfl⟩
theorem Anw{ts:List ByteArray}(h:ts.length=3):∃a b c,ts= [a,b,c]:=by
 match ts,h with
 |[a,b,c],_=>exact⟨a,b,c,rfl⟩
theorem Anv{ts:List ByteArray}(h:ts.length=4):∃a b c d,ts= [a,b,c,d]:=by
 match ts,h with
 |[a,b,c,d],_=>exact⟨a,b,c,d,rfl⟩
theorem Mb{pts:List ByteArray}{fs:List UInt8}{ts:List ByteArray}{q:List Int × Bool}(h:Bk pts fs ts 0=U q):q=([],false):=(Option.some.inj h).symm
section
variable {pts:List ByteArray} {a b c d:ByteArray} {n:List Int}
theorem Amd(h:Bk pts [110] [a] 1=U (n,false)):∃k:Nat,Fx a=U k/\n= [(k:Int)]:=by
 obtain⟨g,h1,s1⟩:=G1 h;obtain rfl:=Mb h1;obtain⟨k,f,e⟩:=Qp s1;exact⟨k,f,(Prod.mk.inj e).1⟩
theorem Amv(h:Bk pts [110,110] [a,b] 2=U (n,false)):∃k m:Nat,Fx a=U k/\Fx b=U m/\n= [(k:Int),(m:Int)]:=by
 obtain⟨j,h2,s2⟩:=G1 h;obtain⟨i,h1,s1⟩:=G1 h2;obtain rfl:=Mb h1;obtain⟨k,f,rfl⟩:=Qp s1;obtain⟨m,g,e⟩:=Qp s2;exact⟨k,m,f,g,(Prod.mk.inj e).1⟩
theorem Ani(h:Bk pts [115] [a] 1=U (n,false)):n= []:=by
 obtain⟨e,h1,s1⟩:=G1 h;obtain rfl:=Mb h1;exact(Prod.mk.inj (Ah3 s1)).1
theorem Amt(h:Bk pts [115,110] [a,b] 2=U (n,false)):∃m:Nat,Fx b=U m/\n= [(m:Int)]:=by
 obtain⟨i,h2,s2⟩:=G1 h;obtain⟨g,h1,s1⟩:=G1 h2;obtain rfl:=Mb h1;obtain rfl:=Ah3 s1;obtain⟨m,f,e⟩:=Qp s2;exact⟨m,f,(Prod.mk.inj e).1⟩
theorem Amc(h:Bk pts [112] [a] 1=U (n,false)):0<=Dr pts a/\n= [Dr pts a]:=by
 obtain⟨g,h1,s1⟩:=G1 h;obtain rfl:=Mb h1;have e:=U9 s1;have f:=(Prod.mk.inj e).2;simp at f;exact⟨f,(Prod.mk.inj e).1⟩
theorem Amu(h:Bk pts [112,112] [a,b] 2=U (n,false)):0<=Dr pts a/\0<=Dr pts b/\n= [Dr pts a,Dr pts b]:=by
 obtain⟨i,h2,s2⟩:=G1 h;obtain⟨g,h1,s1⟩:=G1 h2;obtain rfl:=Mb h1;obtain rfl:=U9 s1;have e:=U9 s2;have f:=(Prod.mk.inj e).2;simp at f;exact⟨f.1,f.2,(Prod.mk.inj e).1⟩
theorem Alh(h:Bk pts [112,110,110] [a,b,c] 3=U (n,false)):∃k m:Nat,0<=Dr pts a/\Fx b=U k/\Fx c=U m/\n= [Dr pts a,(k:Int),(m:Int)]:=by
 obtain⟨p,h3,j⟩:=G1 h;obtain⟨o,h2,s2⟩:=G1 h3;obtain⟨l,h1,s1⟩:=G1 h2;obtain rfl:=Mb h1;obtain rfl:=U9 s1;obtain⟨k,g,rfl⟩:=Qp s2;obtain⟨m,i,e⟩:=Qp j;have f:=(Prod.mk.inj e).2;simp at f;exact⟨k,m,f,g,i,(Prod.mk.inj e).1⟩
theorem Aik(h:Bk pts [112,112,110,110] [a,b,c,d] 4=U (n,false)):∃k m:Nat,0<=Dr pts a/\0<=Dr pts b/\Fx c=U k/\Fx d=U m/\n= [Dr pts a,Dr pts b,(k:Int),(m:Int)]:=by
 obtain⟨t,g,o⟩:=G1 h;obtain⟨s,h3,l⟩:=G1 g;obtain⟨q,h2,s2⟩:=G1 h3;obtain⟨p,h1,s1⟩:=G1 h2;obtain rfl:=Mb h1;obtain rfl:=U9 s1;obtain rfl:=U9 s2;obtain⟨k,i,rfl⟩:=Qp l;obtain⟨m,j,e⟩:=Qp o;have f:=(Prod.mk.inj e).2;simp at f;exact⟨k,m,f.1,f.2,i,j,(Prod.mk.inj e).1⟩
end
theorem Ai7{st st':RdS}{s:ByteArray}(N:Zx st)(h:Cp st s=(0,st')):Zx st'/\txt st'=txt st++(s.data.toList++ [10]):=by
 obtain⟨Y,n,y,rfl⟩:=xG h;obtain⟨p,X,ts,P,T,j,u,hs,hw⟩:=Ajc Y;have B:=Agh s;unfold Pn at y;rw[T,hw,P,List.tail_cons]at y;rw[P]at B;rw[T,hs,P];have Z:=N.lo;simp only[Fj,List.mem_cons,List.not_mem_nil,or_false]at X;rcases X with rfl|rfl|rfl|rfl|rfl|rfl|rfl|rfl|rfl|rfl
 ·obtain⟨a,b,rfl⟩:=Am4 j;obtain⟨k,m,H,M,rfl⟩:=Amv y;have q:st.stage= -1:=by simpa [Cb] using u
  have A:=N.no (by omega);refine⟨Yy (by decide) (by decide) A,?_⟩;have L:txt st= []:=by unfold txt Ae0;rw[q,A];rfl
  rw[L,<-B,Zyp];show Ai ([[.str Nu,.num k,.num m]]++st.c.ents.flatMap B5)=_
  rw[A];show Ai [[.str Nu,.num k,.num m]]=_
  rw[Dv,Aeo];simp only[Ch,I2 H,I2 M,Zz1,Zzk,Cy,Nu];simp
 ·obtain⟨a,rfl⟩:=Ajr j;obtain⟨k,H,rfl⟩:=Amd y;have q:st.stage=0:=by simpa [Cb] using u
  have A:=N.no (by omega);refine⟨Yy (by decide) (by decide) A,?_⟩;have L:txt st=Ai [[.str Nu,.num st.c.closed,.num st.c.opn]]:=by unfold txt Ae0;rw[q,A];rfl
  rw[L,<-B];show Ai ([[.str Nu,.num st.c.closed,.num st.c.opn],[.str Qm,.num k]]++st.c.ents.flatMap B5)=_
  rw[A];show Ai ([[.str Nu,.num st.c.closed,.num st.c.opn]]++ [[.str Qm,.num k]])=_
  rw[Cj,Dv [.str Qm,.num k],pT];simp only[Ch,I2 H,Zz1,Zzk,Cy,Qm]
 ·obtain⟨a,rfl⟩:=Ajr j;obtain⟨k,H,rfl⟩:=Amd y;have q:st.stage=1:=by simpa [Cb] using u
  have A:=N.no (by omega);refine⟨Yy (by decide) (by decide) A,?_⟩;have L:txt st=Ai [[.str Nu,.num st.c.closed,.num st.c.opn],[.str Qm,.num st.c.cycle]]:=by unfold txt Ae0;rw[q,A];rfl
  rw[L,<-B];show Ai ([[.str Nu,.num st.c.closed,.num st.c.opn],[.str Qm,.num st.c.cycle],[.str Tj,.num k]]++st.c.ents.flatMap B5)=_
  rw[A];show Ai ([[.str Nu,.num st.c.closed,.num st.c.opn],[.str Qm,.num st.c.cycle]]++ [[.str Tj,.num k]])=_
  rw[Cj,Dv [.str Tj,.num k],pT];simp only[Ch,I2 H,Zz1,Zzk,Cy,Tj]
 ·obtain⟨a,b,rfl⟩:=Am4 j;obtain⟨m,M,rfl⟩:=Amt y;have q:2<=st.stage:=by simpa [Cb] using u
  refine⟨⟨⟨(by decide:(-1:Int)<=3),(by decide:(3:Int)<=9)⟩,fun h=>absurd h (by decide:¬(3:Int)<3),fun _=>?_,fun _=>?_⟩,?_⟩
  ·show st.c.ents++ [Vo a m]≠ []
   simp
  ·show tZ (Cd (st.c.ents++ [Vo a m])) 3
   rw[J8];exact⟨fun _=>rfl,fun _=>rfl,fun _=>rfl,fun _=>rfl,fun _=>rfl⟩
  ·rw[<-B];unfold txt Ae0;rw[U8 q];show Ai (Is st.c++(st.c.ents++ [Vo a m]).flatMap B5)=_
   rw[B1,Zzj,show B5 (Vo a m)= [[.str Kt,.str a,.num m]] from rfl,Cj,Cj,Cj,Dv,Aeo];simp only[Ch,I2 M,Zz1,Zzk,Cy,Kt];simp
 all_goals
  have K:3<=st.stage:=by
   simp[Cb]at u;omega
  have hne:=N.ne K;have i:=N.fit K;obtain⟨E,v⟩:∃E,E=Cd st.c.ents:=⟨_,rfl⟩
 ·obtain⟨a,rfl⟩:=Ajr j;have q:st.stage<=4:=by simp[Cb]at u;omega
  obtain rfl:=Ani y;have t:B5 (Fv 4 a [] (Cd st.c.ents))=B5 (Cd st.c.ents)++ [Gt a]:=by
   rw[<-v]at i ⊢;have h1:=i.c (by omega);have h2:=i.g (by omega);have h3:=i.e (by omega);have R:=i.f (by omega);have S:=i.l (by omega);cases E;simp only at h1 h2 h3 R S;subst h1 h2 h3 R S;simp[B5,Fv,Ep]
  refine⟨Ok (k:=4) (by decide) (by decide) rfl ?_,?_⟩
  ·rw[<-v]at i ⊢;show tZ (Fv 4 a [] E) 4
   exact⟨fun _=>i.c (by omega),fun _=>i.g (by omega),fun _=>i.e (by omega),fun _=>i.f (by omega),fun _=>i.l (by omega)⟩
  ·refine(Nv (st:=st) (k:=4) (C':=Cc 4 a [] st.c) (by omega) (by decide) hne rfl rfl t).trans ?_;rw[<-B];unfold Gt;rw[pT];simp only[Ch,Zz1,Zzk,Cy,Abz]
 ·obtain⟨a,b,c,rfl⟩:=Anw j;have q:st.stage<=4:=by simp[Cb]at u;omega
  obtain⟨k,m,D,H,M,rfl⟩:=Alh y;have o:=Mv D;rw[<-v]at D o;have t:B5 (Fv 5 a [Dr (Cd st.c.ents).points a,(k:Int),(m:Int)] (Cd st.c.ents))=B5 (Cd st.c.ents)++ [[.str Rc,.str a,.num k,.num m]]:=by
   rw[<-v]at i ⊢;have h1:=i.c (by omega);have L:Ep E= []:=by unfold Ep;rw[h1];rfl
   show [.str Kt,.str E.name,.num E.tol]::(E.points.map Gt++(if 0<=Dr E.points a then [[.str Rc,.str (A9 E (Dr E.points a)),.num k,.num m]] else [])++E.gaps.map (Dj E)++E.edges.map (Dg E)++E.first.map (D0 E)++E.last.map (D3 E))=_
   rw[if_pos D,o];unfold B5;rw[L,i.g (by omega),i.e (by omega),i.f (by omega),i.l (by omega)];simp
  refine⟨Ok (k:=5) (by decide) (by decide) rfl ?_,?_⟩
  ·rw[<-v]at i ⊢;show tZ (Fv 5 a [Dr E.points a,(k:Int),(m:Int)] E) 5
   exact⟨fun h=>absurd h (by decide),fun _=>i.g (by omega),fun _=>i.e (by omega),fun _=>i.f (by omega),fun _=>i.l (by omega)⟩
  ·refine(Nv (st:=st) (k:=5) (C':=Cc 5 a [Dr (Cd st.c.ents).points a,(k:Int),(m:Int)] st.c) (by omega) (by decide) hne rfl rfl t).trans ?_;rw[<-B,Ami];simp only[Ch,I2 H,I2 M,Zz1,Zzk,Cy,Rc];simp
 ·obtain⟨a,b,c,d,rfl⟩:=Anv j;have q:st.stage<=6:=by simp[Cb]at u;omega
  obtain⟨k,m,D,Q,H,M,rfl⟩:=Aik y;have o:=Mv D;have C:=Mv Q;rw[<-v]at o C;have t:B5 (Fv 6 a [Dr (Cd st.c.ents).points a,Dr (Cd st.c.ents).points b,(k:Int),(m:Int)] (Cd st.c.ents))=B5 (Cd st.c.ents)++ [[.str Xc,.str a,.str b,.num k,.num m]]:=by
   rw[<-v]at i ⊢;show [.str Kt,.str E.name,.num E.tol]::(E.points.map Gt++Ep E++(E.gaps++ [(⟨Dr E.points a,Dr E.points b,(k:Int),(m:Int)⟩:Ix)]).map (Dj E)++E.edges.map (Dg E)++E.first.map (D0 E)++E.last.map (D3 E))=_
   unfold B5;rw[i.e (by omega),i.f (by omega),i.l (by omega),B0,Zzb];unfold Dj;rw[o,C];simp
  refine⟨Ok (k:=6) (by decide) (by decide) rfl ?_,?_⟩
  ·rw[<-v]at i ⊢;show tZ (Fv 6 a [Dr E.points a,Dr E.points b,(k:Int),(m:Int)] E) 6
   exact⟨fun h=>absurd h (by decide),fun h=>absurd h (by decide),fun _=>i.e (by omega),fun _=>i.f (by omega),fun _=>i.l (by omega)⟩
  ·refine(Nv (st:=st) (k:=6) (C':=Cc 6 a [Dr (Cd st.c.ents).points a,Dr (Cd st.c.ents).points b,(k:Int),(m:Int)] st.c) (by omega) (by decide) hne rfl rfl t).trans ?_;rw[<-B,Amh];simp only[Ch,I2 H,I2 M,Zz1,Zzk,Cy,Xc];simp
 ·obtain⟨a,b,rfl⟩:=Am4 j;have q:st.stage<=7:=by simp[Cb]at u;omega
  obtain⟨D,Q,rfl⟩:=Amu y;have o:=Mv D;have C:=Mv Q;rw[<-v]at o C;have t:B5 (Fv 7 a [Dr (Cd st.c.ents).points a,Dr (Cd st.c.ents).points b] (Cd st.c.ents))=B5 (Cd st.c.ents)++ [[.str Xd,.str a,.str b]]:=by
   rw[<-v]at i ⊢;show [.str Kt,.str E.name,.num E.tol]::(E.points.map Gt++Ep E++E.gaps.map (Dj E)++(E.edges++ [(Dr E.points a,Dr E.points b)]).map (Dg E)++E.first.map (D0 E)++E.last.map (D3 E))=_
   unfold B5;rw[i.f (by omega),i.l (by omega),B0,Zzb];unfold Dg;rw[o,C];simp
  refine⟨Ok (k:=7) (by decide) (by decide) rfl ?_,?_⟩
  ·rw[<-v]at i ⊢;show tZ (Fv 7 a [Dr E.points a,Dr E.points b] E) 7
   exact⟨fun h=>absurd h (by decide),fun h=>absurd h (by decide),fun h=>absurd h (by decide),fun _=>i.f (by omega),fun _=>i.l (by omega)⟩
  ·refine(Nv (st:=st) (k:=7) (C':=Cc 7 a [Dr (Cd st.c.ents).points a,Dr (Cd st.c.ents).points b] st.c) (by omega) (by decide) hne rfl rfl t).trans ?_;rw[<-B,Aeo];simp only[Ch,Zz1,Zzk,Cy,Xd];simp
 ·obtain⟨a,rfl⟩:=Ajr j;have q:st.stage<=8:=by simp[Cb]at u;omega
  obtain⟨D,rfl⟩:=Amc y;have o:=Mv D;rw[<-v]at o;have t:B5 (Fv 8 a [Dr (Cd st.c.ents).points a] (Cd st.c.ents))=B5 (Cd st.c.ents)++ [[.str gX,.str a]]:=by
   rw[<-v]at i ⊢;show [.str Kt,.str E.name,.num E.tol]::(E.points.map Gt++Ep E++E.gaps.map (Dj E)++E.edges.map (Dg E)++(E.first++ [Dr E.points a]).map (D0 E)++E.last.map (D3 E))=_
   unfold B5;rw[i.l (by omega),B0,Zzb];unfold D0;rw[o];simp
  refine⟨Ok (k:=8) (by decide) (by decide) rfl ?_,?_⟩
  ·rw[<-v]at i ⊢;show tZ (Fv 8 a [Dr E.points a] E) 8
   exact⟨fun h=>absurd h (by decide),fun h=>absurd h (by decide),fun h=>absurd h (by decide),fun h=>absurd h (by decide),fun _=>i.l (by omega)⟩
  ·refine(Nv (st:=st) (k:=8) (C':=Cc 8 a [Dr (Cd st.c.ents).points a] st.c) (by omega) (by decide) hne rfl rfl t).trans ?_;rw[<-B,pT];simp only[Ch,Zz1,Zzk,Cy,gX]
 ·obtain⟨a,rfl⟩:=Ajr j;obtain⟨D,rfl⟩:=Amc y;have o:=Mv D;rw[<-v]at o;have t:B5 (Fv 9 a [Dr (Cd st.c.ents).points a] (Cd st.c.ents))=B5 (Cd st.c.ents)++ [[.str gN,.str a]]:=by
   rw[<-v]at i ⊢;show [.str Kt,.str E.name,.num E.tol]::(E.points.map Gt++Ep E++E.gaps.map (Dj E)++E.edges.map (Dg E)++E.first.map (D0 E)++(E.last++ [Dr E.points a]).map (D3 E))=_
   unfold B5;rw[B0,Zzb];unfold D3;rw[o];simp
  refine⟨Ok (k:=9) (by decide) (by decide) rfl ?_,?_⟩
  ·exact⟨fun h=>absurd h (by decide),fun h=>absurd h (by decide),fun h=>absurd h (by decide),fun h=>absurd h (by decide),fun h=>absurd h (by decide)⟩
  ·refine(Nv (st:=st) (k:=9) (C':=Cc 9 a [Dr (Cd st.c.ents).points a] st.c) (by omega) (by decide) hne rfl rfl t).trans ?_;rw[<-B,pT];simp only[Ch,Zz1,Zzk,Cy,gN]
theorem Vq(ls:List ByteArray):∀k,k<=ls.length->(∀j,j<k->Gy ls j=0)->Zx (Da ls k)/\txt (Da ls k)=(ls.take k).flatMap (fun s=>s.data.toList++ [10])
 |0,_,_=>⟨Agu,by rw[List.take_zero];exact Aez⟩
 |k+1,hk,h=>by
  obtain⟨h1,h2⟩:=Vq ls k (by omega) (fun j i=>h j (by omega))
  have h0:=h k (by omega)
  unfold Gy at h0
  have e:ls.getD k ByteArray.empty=ls[k]:=by rw[Of,R4 (by omega)];rfl
  rw[e]at h0
  have g:Cp (Da ls k) ls[k]=(0,Da ls (k+1)):=by
   show _=(0,(Cp (Da ls k) (ls.getD k ByteArray.empty)).2)
   rw[e];exact Prod.ext h0 rfl
  obtain⟨h3,f⟩:=Ai7 h1 g;refine⟨h3,?_⟩;rw[f,h2,If (by omega),B1,Zzj]
theorem Zb(c:UInt8):∀(L:List (List UInt8)),L≠ []->L.flatMap (fun s=>s++ [c])=Cy c L++ [c]
 |[],h=>absurd rfl h
 |[p],_=>by simp[Cy]
 |p::q::ps,_=>by
  have:=Zb c (q::ps) (by simp)
  rw[Zz6,this]
  simp[Cy]
