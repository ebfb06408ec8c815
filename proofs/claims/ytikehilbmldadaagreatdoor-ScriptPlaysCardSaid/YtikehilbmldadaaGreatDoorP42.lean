import Derived.Test.YtikehilbmldadaaGreatDoorP41
import Derived.Test.YtikehilbmldadaaGreatDoorP34
set_option maxHeartbeats 8000000
set_option maxRecDepth 100000
set_option linter.unusedVariables false
namespace Go.Proofs.YtikehilbmldadaaGreatDoor
open Proofs.Tryz YtikehilbmldadaaGreatDoor.Tryz RowKit
open Go renaming World->V,Value->ZE,RowKit.Below->ZF,RowKit.Hid->ZG,Calls->ZH,Value.int->I,IntKind.i64->J,Value.slice->F,Value.pointer->ZA,Value.string->ZB,Obj.cells->ZC,Ending.returned->ZD,Value.agg->ZJ,Value.iface->ZL,Value.tuple->ZM,Proofs.Tryz.prog->ZI
open Option renaming some->U,none->O
def Ak3(rb:Nat)(o:Nat->Option Nat)(w:V)(nv:ZE)(n:List Int):Prop:=
 n= []\/∃nb noff ncap,nv=F (U ⟨nb,noff,O⟩) n.length ncap/\nb<w.heap.size/\(o nb=O/\nb≠rb)/\∀(i:Nat) x,n[i]? =U x->w.cell? ⟨nb,noff+i,O⟩=U (I J x)
def Alq(k:Nat):Nat:=[2,1,1,1,0,3,4,2,1,1].getD k 0
structure Few (Y:List A2):Prop where
 n:Y.length<=100000
 each:∀y∈Y,y.E.points.length<=100000/\y.E.gaps.length<=100000/\y.E.edges.length<=100000/\y.E.first.length<=100000/\y.E.last.length<=100000
theorem Jy{Y:List A2}(h:Y≠ []):∃Z y,Y=Z++ [y]:=⟨Y.dropLast,Y.getLast h,(Zzh h).symm⟩
theorem wV{n:List Int}(h:n.length=1):∃a,n= [a]:=by
 match n,h with
 |[a],_=>exact⟨a,rfl⟩
theorem Amf{n:List Int}(h:n.length=2):∃a b,n= [a,b]:=by
 match n,h with
 |[a,b],_=>exact⟨a,b,rfl⟩
theorem Ank{n:List Int}(h:n.length=3):∃a b c,n= [a,b,c]:=by
 match n,h with
 |[a,b,c],_=>exact⟨a,b,c,rfl⟩
theorem Anj{n:List Int}(h:n.length=4):∃a b c d,n= [a,b,c,d]:=by
 match n,h with
 |[a,b,c,d],_=>exact⟨a,b,c,d,rfl⟩
theorem Ah0(i rb:Nat)(o:Nat->Option Nat)(C:Ar)(k:Nat)(t:k<=9)(v:ZE)(Y:List A2)(w:V)(h:Gg i rb o C (k:Int) v Y w)(j:Few Y)(hne:4<=k->Y≠ [])(name:ByteArray)(s:ZE)(n:List Int)(m:n.length=Alq k)(q:Ak3 rb o w s n):
  ZH ZI 114 #[ZA (U ⟨rb,0,O⟩),I J k,ZB name,s] w fun e w'=>e=ZD (ZM #[])/\Iv i rb o (Cc k name n C) (k:Int) w w':=by
 match k,t with
 |0,_=>
  obtain⟨a,b,rfl⟩:=Amf m;rcases q with h0|⟨nb,g,f,rfl,h1,⟨h2,p⟩,h3⟩
  ·cases h0
  ·exact Afe i rb o C v Y w h name nb g f a b (h3 0 _ rfl) (h3 1 _ rfl) p
 |1,_=>
  obtain⟨a,rfl⟩:=wV m;rcases q with h0|⟨nb,g,f,rfl,h1,⟨h2,p⟩,h3⟩
  ·cases h0
  ·exact Afd i rb o C v Y w h name nb g f a (h3 0 _ rfl)
 |2,_=>
  obtain⟨a,rfl⟩:=wV m;rcases q with h0|⟨nb,g,f,rfl,h1,⟨h2,p⟩,h3⟩
  ·cases h0
  ·exact Afc i rb o C v Y w h name nb g f a (h3 0 _ rfl)
 |3,_=>
  obtain⟨a,rfl⟩:=wV m;rcases q with h0|⟨nb,g,f,rfl,h1,⟨h2,p⟩,h3⟩
  ·cases h0
  ·exact Afb i rb o C v Y w h j.n name nb g f a (h3 0 _ rfl) h1 h2
 |4,_=>
  obtain⟨Z,y,rfl⟩:=Jy (hne (by decide));obtain rfl:=H3 m;have l:=j.n;rw[R2,G3]at l;exact Afa i rb o C v Z y w h (by omega) (j.each y (by simp)).1 name s
 |5,_=>
  obtain⟨Z,y,rfl⟩:=Jy (hne (by decide));obtain⟨a,b,c,rfl⟩:=Ank m;have l:=j.n;rw[R2,G3]at l;rcases q with h0|⟨nb,g,f,rfl,h1,⟨h2,p⟩,h3⟩
  ·cases h0
  ·exact Ae9 i rb o C v Z y w h (by omega) name nb g f a b c (h3 0 _ rfl) (h3 1 _ rfl) (h3 2 _ rfl) h1 h2
 |6,_=>
  obtain⟨Z,y,rfl⟩:=Jy (hne (by decide));obtain⟨a,b,c,d,rfl⟩:=Anj m;have l:=j.n;rw[R2,G3]at l;rcases q with h0|⟨nb,g,f,rfl,h1,⟨h2,p⟩,h3⟩
  ·cases h0
  ·exact Ae8 i rb o C v Z y w h (by omega) (j.each y (by simp)).2.1 name nb g f a b c d (h3 0 _ rfl) (h3 1 _ rfl) (h3 2 _ rfl) (h3 3 _ rfl) h1 h2
 |7,_=>
  obtain⟨Z,y,rfl⟩:=Jy (hne (by decide));obtain⟨a,b,rfl⟩:=Amf m;have l:=j.n;rw[R2,G3]at l;rcases q with h0|⟨nb,g,f,rfl,h1,⟨h2,p⟩,h3⟩
  ·cases h0
  ·exact Ae7 i rb o C v Z y w h (by omega) (j.each y (by simp)).2.2.1 name nb g f a b (h3 0 _ rfl) (h3 1 _ rfl) h1 h2
 |8,_=>
  obtain⟨Z,y,rfl⟩:=Jy (hne (by decide));obtain⟨a,rfl⟩:=wV m;have l:=j.n;rw[R2,G3]at l;rcases q with h0|⟨nb,g,f,rfl,h1,⟨h2,p⟩,h3⟩
  ·cases h0
  ·exact Ae6 i rb o C v Z y w h (by omega) (j.each y (by simp)).2.2.2.1 name nb g f a (h3 0 _ rfl) h1 h2
 |9,_=>
  obtain⟨Z,y,rfl⟩:=Jy (hne (by decide));obtain⟨a,rfl⟩:=wV m;have l:=j.n;rw[R2,G3]at l;rcases q with h0|⟨nb,g,f,rfl,h1,⟨h2,p⟩,h3⟩
  ·cases h0
  ·exact Ae5 i rb o C v Z y w h (by omega) (j.each y (by simp)).2.2.2.2 name nb g f a (h3 0 _ rfl) h1 h2
def Qj(sa:Nat->Addr)(base rb:Nat)(r:Nat × RdS)(w:V)(e:Ending)(w':V):Prop:=
 e=ZD (errv sa r.1)/\(r.1=0->∃o' v' Y',Gg base rb o' r.2.c r.2.stage v' Y' w')/\Ac (fun b=>b=rb\/base<=b) w w'
theorem yI{s:ByteArray}(h:Ia s=true):∃k fs,k<=9/\Kp s=U (k,fs)/\Ca s=k/\Cm s=fs/\1<=fs.size/\fs.size<=4:=by
 obtain⟨p,g,e,h1,h2⟩:=Ul h;have d:∀p∈Fj,p.2.1<=9/\1<=p.2.2.size/\p.2.2.size<=4:=by decide
 obtain⟨a,b,c⟩:=d p g;refine⟨p.2.1,p.2.2,a,?_,h1,h2,b,c⟩;simp only[Ca]at h1;simp only[Cm]at h2;unfold Ia at h;cases f:Kp s with
 |none=>rw[f]at h;cases h
 |some q=>
  rw[f]at h1 h2;exact congrArg U (Prod.ext h1 h2)
theorem qM(c:UInt8):∀l:List UInt8,(Lz c l).length<=l.length+1/\∀p∈Lz c l,p.length<=l.length
 |[]=>by simp[Lz]
 |x::l=>by
  obtain⟨h1,h2⟩:=qM c l
  have hne:=Ad1 c l
  unfold Lz
  split
  ·refine⟨by simp;omega,fun p a=>?_⟩
   rcases List.mem_cons.1 a with rfl|a
   ·simp
   ·have:=h2 p a;simp;omega
  ·split
   ·next he=>exact absurd he hne
   ·next hd t he=>
    rw[he]at h1 h2
    refine⟨by simp at h1 ⊢;omega,fun p a=>?_⟩
    rcases List.mem_cons.1 a with rfl|a
    ·have:=h2 hd (Zzo ..);simp;omega
    ·have:=h2 p (Zz5 _ a);simp;omega
theorem Pf(c:UInt8)(s:ByteArray):(Cx c s).length<=s.size+1/\∀t∈Cx c s,t.size<=s.size:=by
 have f:s.data.toList.length=s.size:=by rw[C2];rfl
 obtain⟨h1,h2⟩:=qM c s.data.toList;have e:=J0 c s;refine⟨by rw[<-e,Fn]at h1;omega,fun t a=>?_⟩;have:=h2 t.data.toList (by rw[<-e];exact List.mem_map.2 ⟨t,a,rfl⟩);rw[C2]at this;have d:t.data.size=t.size:=rfl;omega
theorem xE(s:ByteArray):(Ky s).length<=s.size+1/\∀t∈Ky s,t.size<=s.size:=Pf 32 s
theorem Ab6{s:ByteArray}(h:s.size=0):Fx s=O:=by
 have:s.data.toList= []:=H3 (by rw[C2];exact h);unfold Fx;rw[this];rfl
theorem Alg{w0 fs:ByteArray}{k i:Nat}{x:Int}(h:Kp w0=U (k,fs))(f:fs.data.toList.getD i 0=112)(g:Cb x k=true):3<=x:=by
 have j:Ia w0=true:=by unfold Ia;rw[h];rfl
 obtain⟨p,l,e,h1,h2⟩:=Ul j;have n:p.2.1=k:=by rw[<-h1];unfold Ca;rw[h];rfl
 have o:p.2.2=fs:=by rw[<-h2];unfold Cm;rw[h];rfl
 have d:(112:UInt8)∈p.2.2.data.toList:=by
  rw[o];rw[Of]at f;cases m:fs.data.toList[i]? with
  |none=>rw[m]at f;cases f
  |some c=>
   rw[m]at f;obtain rfl:c=112:=f;exact At m
 have a:∀p∈Fj,(112:UInt8)∈p.2.2.data.toList->5<=p.2.1:=by decide
 have:=a p l d;rw[n]at this;unfold Cb at g;rw[if_neg (by omega),if_neg (by omega)]at g;split at g
 ·simp at g;omega
 ·simp at g;omega
theorem X7{k:Nat}{x:Int}(d:4<=k)(a:Cb x k=true):3<=x:=by
 unfold Cb at a;rw[if_neg (by omega),if_neg (by omega)]at a;split at a
 ·simp at a;omega
 ·simp at a;omega
def sD(fs:List UInt8):Nat:=(fs.filter (fun c=>c==110||c==112)).length
theorem V4{pts:List ByteArray}{fs:List UInt8}{ts:List ByteArray}:∀{k:Nat} {l:List Int} {z:Bool},Bk pts fs ts k=U (l,z)->l.length=sD ((List.range k).map (fun i=>fs.getD i 0))
 |0,l,z,h=>by
  have:=(Prod.mk.inj (Mb h)).1
  rw[this];rfl
 |k+1,l,z,h=>by
  obtain⟨⟨f,g⟩,e,a⟩:=G1 h
  have d:=V4 e
  rw[Zz4,B0,Zzb]
  unfold sD at d ⊢
  rw[List.filter_append,R2,<-d]
  unfold Co at a
  split at a
  ·next h1=>
   rw[h1]
   split at a
   ·obtain⟨h3,_⟩:=Prod.mk.inj (Option.some.inj a)
    rw[<-h3]
    simp
   ·cases a
  ·split at a
   ·cases a
   ·split at a
    ·next h2=>
     rw[h2]
     obtain⟨h3,_⟩:=Prod.mk.inj (Option.some.inj a)
     rw[<-h3]
     simp
    ·next h1 _ h2=>
     obtain⟨h3,_⟩:=Prod.mk.inj (Option.some.inj a)
     rw[<-h3]
     rw[Of]at h1 h2
     simp[h1,h2]
theorem Akl{w0 fs:ByteArray}{k g:Nat}(h:Kp w0=U (k,fs))(m:fs.size=g):sD ((List.range g).map (fun i=>fs.data.toList.getD i 0))=Alq k:=by
 have d:Ia w0=true:=by unfold Ia;rw[h];rfl
 obtain⟨p,f,e,h1,h2⟩:=Ul d;have j:p.2.1=k:=by rw[<-h1];unfold Ca;rw[h];rfl
 have l:p.2.2=fs:=by rw[<-h2];unfold Cm;rw[h];rfl
 have a:∀p∈Fj,sD ((List.range p.2.2.size).map (fun i=>p.2.2.data.toList.getD i 0))=Alq p.2.1:=by decide
 have:=a p f;rw[j,l,m]at this;exact this
theorem Vu{s:ByteArray}(h:s.size=0):s.toList.isEmpty=true:=by
 rw[Zz3,List.isEmpty_iff];exact H3 (by rw[C2];exact h)
theorem Uq{s:ByteArray}(h:¬s.size=0):s.toList.isEmpty=false:=by
 rw[Zz3,List.isEmpty_eq_false_iff];intro e;apply h;have:=congrArg List.length e;rw[C2]at this;exact this
theorem Aas{pts:List ByteArray}{fs:List UInt8}{ts:List ByteArray}{i:Nat}{p:List Int × Bool}(h:Bk pts fs ts i=U p)(h2:Co pts (fs.getD i 0) (ts.getD i ByteArray.empty) p=O):Bk pts fs ts (i+1)=O:=by
 show(match Bk pts fs ts i with|none=>O|some p=>Co pts (fs.getD i 0) (ts.getD i ByteArray.empty) p)=O
 rw[h];exact h2
theorem Aai{pts:List ByteArray}{f:UInt8}{t:ByteArray}{p:List Int × Bool}(h:t.size=0)(a:f≠110):Co pts f t p=O:=by
 unfold Co;rw[if_neg a,if_pos h]
theorem Aax{pts:List ByteArray}{f:UInt8}{t:ByteArray}{p:List Int × Bool}(h1:f≠110)(h2:f≠112)(h:t.size≠0):Co pts f t p=U p:=by
 unfold Co;rw[if_neg h1,if_neg h,if_neg h2]
theorem V0{pts:List ByteArray}{fs:List UInt8}{ts:List ByteArray}{k:Nat}{p q:List Int × Bool}(h:Bk pts fs ts k=U p)(h2:Co pts (fs.getD k 0) (ts.getD k ByteArray.empty) p=U q):Bk pts fs ts (k+1)=U q:=by
 show(match Bk pts fs ts k with|none=>O|some p=>Co pts (fs.getD k 0) (ts.getD k ByteArray.empty) p)=U q
 rw[h];exact h2
theorem Ajg(B:Nat)(sa:Nat->Addr)(R rb:Nat)(o:Nat->Option Nat)(st:RdS)(v:ZE)(Y:List A2)(s:ByteArray)(w:V)(hS:Hl B sa w)(hN:U3 B w)(e0:B<=rb)(h:Gg R rb o st.c st.stage v Y w)(hI:Zx st)(hF:Few Y)(hs:s.size<=100000):
  ZH ZI 73 #[ZA (U ⟨rb,0,O⟩),ZB s] w (Qj sa R rb (Cp st s) w):=by
 obtain⟨w0,X,bt⟩:∃w0 X,Ky s=w0::X:=by
  cases hl:Ky s with
  |nil=>exact absurd hl (xF s)
  |cons a X=>exact⟨a,X,rfl⟩
 have dq:Jf s=w0:=by unfold Jf;rw[bt];rfl
 obtain⟨nW,cw⟩:∃nW,nW=X.length+1:=⟨_,rfl⟩
 obtain⟨br,bs⟩:=xE s;rw[bt]at br bs;have eo:X.length<=100000:=by rw[Zz7]at br;omega
 have ec:ZG (∀i,(X.getD i ByteArray.empty).size<=100000):=G (fun i=>by
  rw[Of];cases hi:X[i]? with
  |none=>exact In _
  |some t=>
   have:=bs t (Zz5 _ (At hi));show t.size<=100000
   omega)
 have co:=G (Rn s 32 w (by omega));rw[show Cx 32 s=w0::X from bt,Zz7,<-cw]at co;have f1:(1:Int)<=(nW:Int):=by omega
 have f2:(nW:Int)<=100001:=by omega
 have c6:ZF w.heap.size w (w.alloc (ZC ((w0::X).map Value.string).toArray 9)):=(R1 _ _).alloc (Y2 _) _;have a3:=Ab w (ZC ((w0::X).map Value.string).toArray 9);have H:=G h;have HI:=G hI;have HF:=G hF;have HS:=G hS;have HN:=G hN;have bi:=G dq;have cp:=G bt;have cl:=G cw;clear h hI hF hS hN dq bt cw eo hs br bs;go_enter func73,ntmps73;go_wp2_with fail;refine co.mono ?_;rintro e w1 ⟨rfl,rfl⟩;generalize w.alloc _=w1 at c6 a3 ⊢;have ci:=G c6;have bz:=G a3;have c0:w1.cell? ⟨w.heap.size,0,O⟩=U (ZB w0):=by simp[World.cell?,bz.out]
 have ck:=G (Ag7 w0 w1);unfold Sg at ck;clear c6 a3 co;go_wp2_with fail;refine ck.mono ?_;rintro e w2 ⟨rfl,b2⟩;have cj:=G (ci.trans (b2.mono ci.size));have b0:=G (Ae b2 bz (Aa bz.out));clear c0 b2 ck ci bz;go_upto_region 3 with fail;have b5:ZF w2.heap.size w2 (w2.alloc (ZC #[I J (Ca w0),ZB (Cm w0)] 207)):=(R1 _ _).alloc (Y2 _) _;have b8:=Ab w2 (ZC #[I J (Ca w0),ZB (Cm w0)] 207);generalize w2.alloc _=wF at b5 b8 ⊢;have aa:=G (cj.trans (b5.mono cj.size));have b1:=G (Ae b5 b0 (Aa b0.out));obtain⟨fb,cs⟩:∃fb,fb=w2.heap.size:=⟨_,rfl⟩
 have fw:w.heap.size<fb:=by rw[cs];exact Aa b0.out
 rw[<-cs]at b8 ⊢;have bh:ZG (wF.heap[fb]? =U (ZC #[I J (Ca w0),ZB (Cm w0)] 207)):=b8;clear cs b5 b8 cj b0;have cm:=G (H.later aa.out);have L:=G (HS.on aa.out);have ad:ZG (Ac (fun b=>b=rb\/R<=b) w wF):=G ((Ac.of_below aa.out).mono (fun b M hs=>by omega));by_cases bo:Ia w0=true
 ·obtain⟨k,fs,cu,dn,cy,c7,eg,eh⟩:=yI bo;have z0:wF.cell? ⟨fb,0,O⟩=U (I J k):=by have:=bh.out;rw[cy]at this;simp[World.cell?,this]
  have z1:wF.cell? ⟨fb,1,O⟩=U (ZB fs):=by have:=bh.out;rw[c7]at this;simp[World.cell?,this]
  have al:=G (And.intro dn (And.intro cy c7));have bx:=G (Afw st.stage k cu rb wF (Gk cm.blk).2.2.2.2.2.1);obtain⟨zr,c8⟩:∃zr,zr=Cb st.stage k:=⟨_,rfl⟩
  rw[<-c8]at bx;have b4:=G c8;have d7:=G cu;have ei:(fs.size:Int)<=4:=by omega
  have dm:(1:Int)<=(fs.size:Int):=by omega
  clear dn cy c7 c8 cu eg eh;cases zr
  ·have HL:ZG (Cp st s=(1,st)):=G (by
    have:Gl st s=false:=by unfold Gl;rw[bi.out,al.2.1,<-b4.out];simp
    unfold Cp;rw[this];rfl)
   have e1:=L.all.1;go_wp2_with fail;refine bx.mono ?_;rintro e w' ⟨rfl,rfl⟩;go_wp2_with fail;go_ret;unfold Qj;rw[HL.out];exact⟨rfl,fun hh=>(by cases hh),ad.out⟩
  ·by_cases a7:(nW:Int)-1=(fs.size:Int)
   ·obtain⟨nf,b7⟩:∃nf,nf=X.length:=⟨_,rfl⟩
    obtain rfl:nW=nf+1:=by rw[b7];exact cl.out
    have a6:fs.size=nf:=by omega
    have e8:(1:Int)<=(nf:Int):=by omega
    have bf:ZG (Cp st s=match Bk (Cd st.c.ents).points fs.data.toList X nf with|none=>(1,st)|some p=>if p.2=true then (5,st) else (0,⟨Cc k (X.getD 0 ByteArray.empty) p.1 st.c,(k:Int)⟩)):=G (by
     have hf:Gl st s=true:=by
      unfold Gl;rw[bi.out,bo,al.2.1,al.2.2,<-b4.out,cp.out,Zz7,Zxr,<-b7,a6];simp
     unfold Cp;rw[if_pos hf];unfold Pn;rw[bi.out,al.2.1,al.2.2,cp.out,a6];rfl)
    have dg:=G b7;have fa:(nf:Int)<=4:=by omega
    clear a7 b7 cl ei dm;go_wp2_with fail;refine bx.mono ?_;rintro e w' ⟨rfl,rfl⟩;go_wp2_with fail;have de:=G a6;clear a6;obtain⟨pts,bp⟩:∃pts,pts=(Cd st.c.ents).points:=⟨_,rfl⟩
    rw[<-bp]at bf;have eb:=G bp;clear bp;go_loopw [8,9,46] (fun s8 s9 c9 wr=>∃(i n:Nat) (l:List Int) (z:Bool) (na:Option Addr) (nc:Nat),i<=nf/\n<=i/\c9=I J i/\s8=F na n nc/\s9=.bool z/\ZG (Bk pts fs.data.toList X i=U (l,z))/\ZG (l.length=n)/\ZG (Ax wr wF.heap.size 3 1 (F na n nc) n (Ad l))/\ZG (ZF wF.heap.size wF wr)) (fun _ _ c9 _=>nf-(intOf c9).toNat);case atStart=>exact⟨0,0,[],false,O,0,In _,Y2 _,rfl,rfl,rfl,rfl,rfl,(show Ax wF wF.heap.size 3 1 (F O 0 0) 0 [] from⟨rfl,.inl ⟨rfl,rfl⟩⟩),R1 _ _⟩
    case round=>
     obtain⟨i,n,l,z,na,nc,hi,ds,rfl,rfl,rfl,ai,a0,P,d⟩:=hrel;by_cases dr:i<nf
     ·have ca:i<X.length:=by rw[<-dg.out];exact dr
      have cb:i<fs.size:=by rw[de.out];exact dr
      obtain⟨tw,cz⟩:∃tw,tw=X[i]:=⟨_,rfl⟩
      have ht:wr.cell? ⟨w.heap.size,1+i,O⟩=U (ZB tw):=by
       rw[d.cell (p:=⟨w.heap.size,1+i,O⟩) (Aa b1.out),cz,Nat.add_comm 1 i];have:=b1.out;simp[World.cell?,this,ca]
      have y0:wr.cell? ⟨fb,0,O⟩=U (I J k):=by rw[d.cell (p:=⟨fb,0,O⟩) (Aa bh.out)];exact z0
      have y1:wr.cell? ⟨fb,1,O⟩=U (ZB fs):=by rw[d.cell (p:=⟨fb,1,O⟩) (Aa bh.out)];exact z1
      have ay:ZG (X.getD i ByteArray.empty=tw):=G (by rw[cz,Of,R4 ca];rfl);clear cz z0 z1;go_upto_region 11 with fail;generalize dl:fs[i].toNat=cn;have bd:ZG ((fs.data.toList.getD i 0).toNat=cn):=G (by rw[Rt fs i cb];exact dl);clear dl cb;by_cases bk:cn=110
      ·obtain rfl:=bk;have cx:(((110:Nat):Int)==110)=true:=rfl;have bc:ZG (fs.data.toList.getD i 0=110):=G (UInt8.toNat_inj.1 bd.out);have bw:=G (Ab5 B tw (by rw[<-ay.out];exact ec i) wr ((HN.below aa HS.top).below d (by have:=aa.size;have:=HS.top;omega)) (by have:=aa.size;have:=HS.top;have:=d.size;omega));cases hv:Fx tw with
       |none=>
        rw[hv]at bw;have HL:ZG (Cp st s=(1,st)):=G (by
         rw[bf.out,Pa (Aas ai (by rw[ay.out,bc.out];unfold Co;rw[if_pos rfl,hv])) nf (by omega)])
        clear hv cx;go_wp2_with fail;refine bw.mono ?_;rintro e w3 ⟨nn,rfl,-,b3⟩;have ax:=G (d.trans (b3.mono d.size));have e1:=(L.on ax.out).all.1;clear b3;go_wp2_with fail;go_ret;unfold Qj;rw[HL.out];exact⟨rfl,fun hh=>(by cases hh),ad.step (Ac.of_below ax.out) (fun b M hs=>by have:=aa.size;omega)⟩
       |some kk=>
        rw[hv]at bw;have Q:ZG (Bk pts fs.data.toList X (i+1)=U (l++ [(kk:Int)],z)):=G (V0 ai (by
         rw[ay.out,bc.out];unfold Co;rw[if_pos rfl,hv]))
        have b6:tw.toList.isEmpty=false:=Uq (fun h0=>by rw[Ab6 h0]at hv;cases hv);have d9:=G ds;have ek:n<=100:=by omega
        clear hv cx;go_wp2_with fail;refine bw.mono ?_;rintro e w3 ⟨nn,rfl,dt,b3⟩;obtain rfl:nn=kk:=dt kk rfl;have ax:=G (d.trans (b3.mono d.size));have dh:=G (P.later b3);clear b3 dt;obtain⟨i0,ap,aq,ar,au⟩:=info_parts infoInt;go_wp2_with (at_builtin;go_must (refine A3 rfl (.tmp 65) (.tmp 67) 48 rfl wF.heap.size 3 i0 _ 1 8 underlying48 ap aq ar au rfl (by decide) (.slice na n nc) n (Ad l) rfl (dh.later ((R1 _ _).alloc (Y2 _) _)) ⟨w3.heap.size,0,O⟩ 1 1 [I J kk] rfl rfl (A1 _ [I J kk] _) (by intro u hu;simp at hu;subst hu;rfl) (by unfold maxLen;omega) (by omega) (by have:=ax.size;rw[H7];omega) ?_;intro a4 k4 w4 D A C;have ae:=G D;have K:=G ((ax.alloc ax.size _).trans ((Ac.of_grown A).below (by have:=ax.size;rw[H7];omega) (fun b M=>(dh.lt b M.symm).1)));clear D A C));go_roundw;case rel=>exact⟨i+1,n+1,l++ [(kk:Int)],z,a4,k4,by omega,by omega,by go_num,rfl,rfl,Q,(show(l++ [(kk:Int)]).length=n+1 from by rw[R2,a0.out];rfl),(show Ax w4 wF.heap.size 3 1 (F a4 (n+1) k4) (n+1) (Ad (l++ [(kk:Int)]))from by unfold Ad;rw[B0];exact ae.out),K⟩
        case measure=>simp[intOf];omega
      ·have cx:((cn:Int)==110)=false:=by rw[Zzg];omega
       have bc:=G bk;by_cases bl:cn=112
       ·obtain rfl:=bl;have en:(((112:Nat):Int)==112)=true:=rfl;have bv:ZG (fs.data.toList.getD i 0=112):=G (UInt8.toNat_inj.1 bd.out);have ce:3<=st.stage:=Alg al.1 bv b4.symm;have an:Y≠ []:=fun e=>HI.ne ce (by rw[H.eq,e];rfl);obtain⟨Z,y,rfl⟩:=Jy an;have ah:=cm.later d.out;obtain⟨g,off,cap,rfl,⟨ef,fu⟩,el,ft,fy,fx,bm⟩:=ah.form;have az:=ah.last;obtain⟨dw,em⟩:=az 0 (by decide);obtain⟨pa,pc,bq⟩:=dw.val;have bq:y.p=F pa y.E.points.length pc:=bq;have q2:=bm 2 _ rfl;rw[bq,<-Zzm]at q2;obtain⟨c0,c1,c2,c3,c4,c5,cf⟩:=Gk ah.blk;have dv:pts=y.E.points:=by rw[eb.out,(Ud H.eq).1]
        have am:ZG (∀q,ZH ZI 113 #[F pa y.E.points.length pc,ZB tw] (wr.drewN q) fun e w'=>e=ZD (I J (Dr pts tw))/\wr.drewN q=w'):=(show _ from fun q=>by
         rw[dv,<-bq];exact Se _ _ _ _ _ (az.slOf.p.below (Ag q (R1 wr.heap.size wr)) (fun b M=>M.2)))
        obtain⟨m,hm⟩:∃m,m=Z.length:=⟨_,rfl⟩
        obtain⟨np,du⟩:∃np,np=y.E.points.length:=⟨_,rfl⟩
        rw[<-hm]at ef q2 c4;rw[<-du]at am q2;obtain⟨T,cv⟩:∃T,T=Dr pts tw:=⟨_,rfl⟩
        rw[<-cv]at am;have d8:=G cv;have d9:=G ds;have ek:n<=100:=by omega
        have fz:m<=100000:=by rw[hm];have:=HF.n;rw[R2,G3]at this;omega
        obtain⟨i0,ap,aq,ar,au⟩:=info_parts infoInt;clear ce an ah az dw em bq bm dv hm du cv el c0 c1 c2 c3 c5 cf;by_cases S:tw.size=0
        ·have b6:tw.toList.isEmpty=true:=Vu S;have HL:ZG (Cp st s=(1,st)):=G (by
          rw[bf.out,Pa (Aas ai (by rw[ay.out];exact Aai S (fun e=>bc (by rw[<-bd.out,e];rfl)))) nf (by omega)])
         clear S;cases z
         ·by_cases ct:T<0
          ·skip;go_upto_region 17 with fail;go_quiet ((go_at_call 113;exact Ek (am _)));generalize hq:World.drewN wr _=wq;have f:ZG (ZF wF.heap.size wF wq):=G (by rw[<-hq];exact Ag _ d.out);have N:ZG (Ax wq wF.heap.size 3 1 (F na n nc) n (Ad l)):=G (by rw[<-hq];exact P.later (Ag _ (R1 _ _)));have e1:=(L.on f.out).all.1;clear hq;go_wp2_with (at_builtin;go_must (refine A3 rfl (.tmp 93) (.tmp 95) 48 rfl wF.heap.size 3 i0 _ 1 8 underlying48 ap aq ar au rfl (by decide) (.slice na n nc) n (Ad l) rfl (N.later ((R1 _ _).alloc (Y2 _) _)) ⟨wq.heap.size,0,O⟩ 1 1 [I J T] rfl rfl (A1 _ [I J T] _) (by intro u hu;simp at hu;subst hu;rfl) (by unfold maxLen;omega) (by omega) (by have:=f.size;rw[H7];omega) ?_;intro a4 k4 w4 D A C;have ae:=G D;have K:=G ((f.alloc f.size _).trans ((Ac.of_grown A).below (by have:=f.size;rw[H7];omega) (fun b M=>(N.lt b M.symm).1)));have e1:=(L.on K.out).all.1;clear D A C));go_ret;unfold Qj;rw[HL.out];exact⟨rfl,fun hh=>(by cases hh),ad.step (Ac.of_below K.out) (fun b M hs=>by have:=aa.size;omega)⟩
          ·skip;go_upto_region 17 with fail;go_quiet ((go_at_call 113;exact Ek (am _)));generalize hq:World.drewN wr _=wq;have f:ZG (ZF wF.heap.size wF wq):=G (by rw[<-hq];exact Ag _ d.out);have N:ZG (Ax wq wF.heap.size 3 1 (F na n nc) n (Ad l)):=G (by rw[<-hq];exact P.later (Ag _ (R1 _ _)));have e1:=(L.on f.out).all.1;clear hq;go_wp2_with (at_builtin;go_must (refine A3 rfl (.tmp 93) (.tmp 95) 48 rfl wF.heap.size 3 i0 _ 1 8 underlying48 ap aq ar au rfl (by decide) (.slice na n nc) n (Ad l) rfl (N.later ((R1 _ _).alloc (Y2 _) _)) ⟨wq.heap.size,0,O⟩ 1 1 [I J T] rfl rfl (A1 _ [I J T] _) (by intro u hu;simp at hu;subst hu;rfl) (by unfold maxLen;omega) (by omega) (by have:=f.size;rw[H7];omega) ?_;intro a4 k4 w4 D A C;have ae:=G D;have K:=G ((f.alloc f.size _).trans ((Ac.of_grown A).below (by have:=f.size;rw[H7];omega) (fun b M=>(N.lt b M.symm).1)));have e1:=(L.on K.out).all.1;clear D A C));go_ret;unfold Qj;rw[HL.out];exact⟨rfl,fun hh=>(by cases hh),ad.step (Ac.of_below K.out) (fun b M hs=>by have:=aa.size;omega)⟩
         ·skip;go_upto_region 17 with fail;go_quiet ((go_at_call 113;exact Ek (am _)));generalize hq:World.drewN wr _=wq;have f:ZG (ZF wF.heap.size wF wq):=G (by rw[<-hq];exact Ag _ d.out);have N:ZG (Ax wq wF.heap.size 3 1 (F na n nc) n (Ad l)):=G (by rw[<-hq];exact P.later (Ag _ (R1 _ _)));have e1:=(L.on f.out).all.1;clear hq;go_wp2_with (at_builtin;go_must (refine A3 rfl (.tmp 93) (.tmp 95) 48 rfl wF.heap.size 3 i0 _ 1 8 underlying48 ap aq ar au rfl (by decide) (.slice na n nc) n (Ad l) rfl (N.later ((R1 _ _).alloc (Y2 _) _)) ⟨wq.heap.size,0,O⟩ 1 1 [I J T] rfl rfl (A1 _ [I J T] _) (by intro u hu;simp at hu;subst hu;rfl) (by unfold maxLen;omega) (by omega) (by have:=f.size;rw[H7];omega) ?_;intro a4 k4 w4 D A C;have ae:=G D;have K:=G ((f.alloc f.size _).trans ((Ac.of_grown A).below (by have:=f.size;rw[H7];omega) (fun b M=>(N.lt b M.symm).1)));have e1:=(L.on K.out).all.1;clear D A C));go_ret;unfold Qj;rw[HL.out];exact⟨rfl,fun hh=>(by cases hh),ad.step (Ac.of_below K.out) (fun b M hs=>by have:=aa.size;omega)⟩
        ·have bj:=G S;have b6:tw.toList.isEmpty=false:=Uq S;have Q:ZG (Bk pts fs.data.toList X (i+1)=U (l++ [T],z||decide (T<0))):=G (V0 ai (by
          rw[ay.out,bv.out,d8.out];unfold Co;rw[if_neg (by decide),if_neg bj.out,if_pos rfl]))
         clear S;cases z
         ·by_cases ct:T<0
          ·rw[On ct]at Q;go_upto_region 17 with fail;go_quiet ((go_at_call 113;exact Ek (am _)));generalize hq:World.drewN wr _=wq;have f:ZG (ZF wF.heap.size wF wq):=G (by rw[<-hq];exact Ag _ d.out);have N:ZG (Ax wq wF.heap.size 3 1 (F na n nc) n (Ad l)):=G (by rw[<-hq];exact P.later (Ag _ (R1 _ _)));have e1:=(L.on f.out).all.1;clear hq;go_wp2_with (at_builtin;go_must (refine A3 rfl (.tmp 93) (.tmp 95) 48 rfl wF.heap.size 3 i0 _ 1 8 underlying48 ap aq ar au rfl (by decide) (.slice na n nc) n (Ad l) rfl (N.later ((R1 _ _).alloc (Y2 _) _)) ⟨wq.heap.size,0,O⟩ 1 1 [I J T] rfl rfl (A1 _ [I J T] _) (by intro u hu;simp at hu;subst hu;rfl) (by unfold maxLen;omega) (by omega) (by have:=f.size;rw[H7];omega) ?_;intro a4 k4 w4 D A C;have ae:=G D;have K:=G ((f.alloc f.size _).trans ((Ac.of_grown A).below (by have:=f.size;rw[H7];omega) (fun b M=>(N.lt b M.symm).1)));have e1:=(L.on K.out).all.1;clear D A C));go_roundw;case rel=>exact⟨i+1,n+1,l++ [T],true,a4,k4,by omega,by omega,by go_num,rfl,rfl,Q,(show(l++ [T]).length=n+1 from by rw[R2,a0.out];rfl),(show Ax w4 wF.heap.size 3 1 (F a4 (n+1) k4) (n+1) (Ad (l++ [T]))from by unfold Ad;rw[B0];exact ae.out),K⟩
           case measure=>simp[intOf];omega
          ·rw[N1 ct]at Q;go_upto_region 17 with fail;go_quiet ((go_at_call 113;exact Ek (am _)));generalize hq:World.drewN wr _=wq;have f:ZG (ZF wF.heap.size wF wq):=G (by rw[<-hq];exact Ag _ d.out);have N:ZG (Ax wq wF.heap.size 3 1 (F na n nc) n (Ad l)):=G (by rw[<-hq];exact P.later (Ag _ (R1 _ _)));have e1:=(L.on f.out).all.1;clear hq;go_wp2_with (at_builtin;go_must (refine A3 rfl (.tmp 93) (.tmp 95) 48 rfl wF.heap.size 3 i0 _ 1 8 underlying48 ap aq ar au rfl (by decide) (.slice na n nc) n (Ad l) rfl (N.later ((R1 _ _).alloc (Y2 _) _)) ⟨wq.heap.size,0,O⟩ 1 1 [I J T] rfl rfl (A1 _ [I J T] _) (by intro u hu;simp at hu;subst hu;rfl) (by unfold maxLen;omega) (by omega) (by have:=f.size;rw[H7];omega) ?_;intro a4 k4 w4 D A C;have ae:=G D;have K:=G ((f.alloc f.size _).trans ((Ac.of_grown A).below (by have:=f.size;rw[H7];omega) (fun b M=>(N.lt b M.symm).1)));have e1:=(L.on K.out).all.1;clear D A C));go_roundw;case rel=>exact⟨i+1,n+1,l++ [T],false,a4,k4,by omega,by omega,by go_num,rfl,rfl,Q,(show(l++ [T]).length=n+1 from by rw[R2,a0.out];rfl),(show Ax w4 wF.heap.size 3 1 (F a4 (n+1) k4) (n+1) (Ad (l++ [T]))from by unfold Ad;rw[B0];exact ae.out),K⟩
           case measure=>simp[intOf];omega
         ·rw[Bool.true_or]at Q;go_upto_region 17 with fail;go_quiet ((go_at_call 113;exact Ek (am _)));generalize hq:World.drewN wr _=wq;have f:ZG (ZF wF.heap.size wF wq):=G (by rw[<-hq];exact Ag _ d.out);have N:ZG (Ax wq wF.heap.size 3 1 (F na n nc) n (Ad l)):=G (by rw[<-hq];exact P.later (Ag _ (R1 _ _)));have e1:=(L.on f.out).all.1;clear hq;go_wp2_with (at_builtin;go_must (refine A3 rfl (.tmp 93) (.tmp 95) 48 rfl wF.heap.size 3 i0 _ 1 8 underlying48 ap aq ar au rfl (by decide) (.slice na n nc) n (Ad l) rfl (N.later ((R1 _ _).alloc (Y2 _) _)) ⟨wq.heap.size,0,O⟩ 1 1 [I J T] rfl rfl (A1 _ [I J T] _) (by intro u hu;simp at hu;subst hu;rfl) (by unfold maxLen;omega) (by omega) (by have:=f.size;rw[H7];omega) ?_;intro a4 k4 w4 D A C;have ae:=G D;have K:=G ((f.alloc f.size _).trans ((Ac.of_grown A).below (by have:=f.size;rw[H7];omega) (fun b M=>(N.lt b M.symm).1)));have e1:=(L.on K.out).all.1;clear D A C));go_roundw;case rel=>exact⟨i+1,n+1,l++ [T],true,a4,k4,by omega,by omega,by go_num,rfl,rfl,Q,(show(l++ [T]).length=n+1 from by rw[R2,a0.out];rfl),(show Ax w4 wF.heap.size 3 1 (F a4 (n+1) k4) (n+1) (Ad (l++ [T]))from by unfold Ad;rw[B0];exact ae.out),K⟩
          case measure=>simp[intOf];omega
       ·have en:((cn:Int)==112)=false:=by rw[Zzg];omega
        have bv:=G bl;clear bk bl;by_cases S:tw.size=0
        ·have bj:=G S;have b6:tw.toList.isEmpty=true:=Vu S;have e1:=(L.on d.out).all.1;have HL:ZG (Cp st s=(1,st)):=G (by
          rw[bf.out,Pa (Aas ai (by rw[ay.out];exact Aai bj (fun e=>bc (by rw[<-bd.out,e];rfl)))) nf (by omega)])
         clear S;go_wp2_with fail;go_ret;unfold Qj;rw[HL.out];exact⟨rfl,fun hh=>(by cases hh),ad.step (Ac.of_below d.out) (fun b M hs=>by have:=aa.size;omega)⟩
        ·have bj:=G S;have b6:tw.toList.isEmpty=false:=Uq S;have Q:ZG (Bk pts fs.data.toList X (i+1)=U (l,z)):=G (V0 ai (by
          rw[ay.out];exact Aax (fun e=>bc (by rw[<-bd.out,e];rfl)) (fun e=>bv (by rw[<-bd.out,e];rfl)) bj.out))
         clear S;go_wp2_with fail;go_roundw;case rel=>exact⟨i+1,n,l,z,na,nc,by omega,by omega,by go_num,rfl,rfl,Q,a0,P,d⟩
         case measure=>simp[intOf];omega
     ·obtain rfl:i=nf:=by omega
      have fq:=aa.size;have a3:wr.cell? ⟨w.heap.size,1,O⟩=U (ZB (X.getD 0 ByteArray.empty)):=by
       rw[d.cell (p:=⟨w.heap.size,1,O⟩) (Aa b1.out)];have h1:1<=X.length:=by have:=dg.out;omega
       have:=b1.out;rw[Of];simp[World.cell?,this,R4 h1]
      have y0:wr.cell? ⟨fb,0,O⟩=U (I J k):=by rw[d.cell (p:=⟨fb,0,O⟩) (Aa bh.out)];exact z0
      cases z
      ·have HL:ZG (Cp st s=(0,⟨Cc k (X.getD 0 ByteArray.empty) l st.c,(k:Int)⟩)):=G (by rw[bf.out,ai.out];rfl);obtain⟨t0,dy⟩:∃t0,t0=X.getD 0 ByteArray.empty:=⟨_,rfl⟩
       rw[<-dy]at a3 HL;have ah:=cm.later d.out;have dx:=ah.set (C':=st.c) (st':=(k:Int)) 5 (I J k) rfl rfl;have an:4<=k->Y≠ []:=fun h4 e=>HI.ne (X7 h4 b4.symm) (by rw[H.eq,e];rfl);have a7:l.length=Alq k:=by rw[V4 ai.out,Akl al.1 de.out]
       have f0:=Aa ah.blk;have cc:o fb=O:=H.fr fb (by omega);have cd:o w.heap.size=O:=H.fr _ (Y2 _);have dp:¬fb=rb:=by have:=Aa H.blk;omega
       have dz:¬w.heap.size=rb:=by have:=Aa H.blk;omega
       have bn:Ak3 rb o wr (F na n nc) l:=by
        rcases P.2 with⟨_,h0⟩|⟨nb,ba,ch,fo,hv,h2,h3,_⟩
        ·exact .inl (H3 (by rw[a0.out];exact h0))
        ·obtain⟨rfl,_,rfl⟩:=Value.slice.inj hv;refine .inr ⟨nb,ba,nc,by rw[a0.out],Aa h3,⟨H.fr nb (by omega),by have:=Aa H.blk;omega⟩,fun j x hx=>?_⟩;have:=P.cells j (I J x) (by unfold Ad;rw[Zzl,hx];rfl);rw[Dt]at this;exact this
       have dk:ZG (∀W,ZF (wr.setCell ⟨rb,5,O⟩ (I J k)).heap.size (wr.setCell ⟨rb,5,O⟩ (I J k)) W->ZH ZI 114 #[ZA (U ⟨rb,0,O⟩),I J k,ZB t0,F na n nc] W fun e w'=>e=ZD (ZM #[])/\Iv R rb o (Cc k t0 l st.c) (k:Int) W w'):=(show _ from fun W hW=>by
        refine Ah0 R rb o st.c k d7 v Y W (dx.later hW) HF an t0 _ l a7 ?_;rcases bn with h0|⟨nb,ba,ch,hv,h1,h2,h3⟩
        ·exact .inl h0
        ·have ks:=(Af wr rb 5 (I J k)).step (Ac.of_below hW) (fun b M hl=>by have:=(Af wr rb 5 (I J k)).size;omega);refine .inr ⟨nb,ba,ch,hv,F5 h1 ks.size,h2,fun j x hx=>?_⟩;rw[ks.cell (p:=⟨nb,ba+j,O⟩) h1 (fun e=>h2.2 e)];exact h3 j x hx)
       have df:ZG (Ac (fun b=>b=rb\/R<=b) w (wr.setCell ⟨rb,5,O⟩ (I J k))):=(show Ac (fun b=>b=rb\/R<=b) w (wr.setCell ⟨rb,5,O⟩ (I J k))from
        ((ad.step (Ac.of_below d.out) (fun b M hs=>by omega)).step (Af wr rb 5 (I J k)) (fun b M hs=>.inl M)))
       have ea:=G H.ob;obtain⟨_,_,_,_,_,c5,cf⟩:=Gk ah.blk;have fn:=cf 5;have cq:∀W,ZF (wr.setCell ⟨rb,5,O⟩ (I J k)).heap.size (wr.setCell ⟨rb,5,O⟩ (I J k)) W->W.cell? ⟨fb,0,O⟩=U (I J k)/\W.cell? ⟨w.heap.size,1,O⟩=U (ZB t0):=fun W hW=>by
        have ks:=(Af wr rb 5 (I J k)).step (Ac.of_below hW) (fun b M hl=>by have:=(Af wr rb 5 (I J k)).size;omega);rw[ks.cell (p:=⟨fb,0,O⟩) (by have:=R3 _ ⟨fb,0,O⟩ y0;exact this) dp,ks.cell (p:=⟨w.heap.size,1,O⟩) (by have:=R3 _ ⟨w.heap.size,1,O⟩ a3;exact this) dz];exact⟨y0,a3⟩
       have di:=G cq;have dj:ZG (∀W w',ZF (wr.setCell ⟨rb,5,O⟩ (I J k)).heap.size (wr.setCell ⟨rb,5,O⟩ (I J k)) W->Iv R rb o (Cc k t0 l st.c) (k:Int) W w'->w'.cell? ⟨fb,0,O⟩=U (I J k)/\w'.cell? ⟨w.heap.size,1,O⟩=U (ZB t0)):=(show _ from fun W w' hW hT=>by
        obtain⟨a1,a2⟩:=cq W hW;rw[hT.2.cell (p:=⟨fb,0,O⟩) (by have:=R3 _ ⟨fb,0,O⟩ a1;exact this) (fun hs=>by rcases hs with hs|⟨tg,hs⟩;exact dp hs;rw[cc]at hs;cases hs),hT.2.cell (p:=⟨w.heap.size,1,O⟩) (by have:=R3 _ ⟨w.heap.size,1,O⟩ a2;exact this) (fun hs=>by rcases hs with hs|⟨tg,hs⟩;exact dz hs;rw[cd]at hs;cases hs)];exact⟨a1,a2⟩)
       have e9:(0:Int)<(i:Int)+1:=by omega
       have fc:(1:Int)<(i:Int)+1:=by omega
       clear ah dx an a7 cc cd bn dy cf cq;go_upto_region 26 with fail;generalize ep:wr.setCell _ _=wS at dk df di dj ⊢;clear ep;go_region_held3 (fun w'=>w'.cell? ⟨fb,0,O⟩=U (I J k)/\w'.cell? ⟨w.heap.size,1,O⟩=U (ZB t0))
        (first|exact dj _ _ ((R1 _ _).drew) cr|exact di _ (by repeat(first|exact R1 _ _|refine H5 ?_)))
        (first|(go_at_call 114;refine(dk _ (by repeat(first|exact R1 _ _|refine H5 ?_))).mono ?_;rintro e w7 ⟨rfl,cr⟩))
       go_wp2_with fail;go_ret;unfold Qj;rw[HL.out];refine⟨rfl,fun _=>cr.1,?_⟩;exact df.step ((Ac.refl (fun _=>False) wS).drew.mono (fun b _ h=>h.elim) |>.step cr.2 (fun b M _=>M)) (fun b M hl=>by
        rcases M with M|⟨tg,M⟩
        ·exact .inl M
        ·right;by_cases ee:b<R
         ·rw[ea b ee]at M;cases M
         ·omega)
      ·have HL:ZG (Cp st s=(5,st)):=G (by rw[bf.out,ai.out];rfl);have e5:=(L.on d.out).all.2.2.2.2.1;go_wp2_with fail;go_ret;unfold Qj;rw[HL.out];exact⟨rfl,fun hh=>(by cases hh),ad.step (Ac.of_below d.out) (fun b M hs=>by omega)⟩
   ·have HL:ZG (Cp st s=(1,st)):=G (by
     have:Gl st s=false:=by
      unfold Gl;rw[bi.out,al.2.2,cp.out,Zz7,Zxr];have:(X.length==fs.size)=false:=by
       rw[Zzg];have:=cl.out;omega
      rw[this,Bool.and_false]
     unfold Cp;rw[this];rfl)
    have e1:=L.all.1;go_wp2_with fail;refine bx.mono ?_;rintro e w' ⟨rfl,rfl⟩;go_wp2_with fail;go_ret;unfold Qj;rw[HL.out];exact⟨rfl,fun hh=>(by cases hh),ad.out⟩
 ·have bo:Ia w0=false:=by simpa using bo
  have HL:ZG (Cp st s=(1,st)):=G (by
   have:Gl st s=false:=by unfold Gl;rw[bi.out,bo];rfl
   unfold Cp;rw[this];rfl)
  have e1:=L.all.1;go_wp2_with fail;go_ret;unfold Qj;rw[HL.out];exact⟨rfl,fun hh=>(by cases hh),ad.out⟩
theorem vF(s:ByteArray):(⟨(Lib.trimSuffix s.data.toList [10]).toArray⟩:ByteArray)=Lh s:=by
 have f:s.data.toList.length=s.size:=by rw[C2];rfl
 refine Kd ?_;show(Lib.trimSuffix s.data.toList [10]).toArray.toList=_
 rw[Zy9];unfold Lib.trimSuffix Lh;by_cases h:s.data.toList.getLast? =U 10
 ·have hne:s.data.toList≠ []:=by intro e;rw[e]at h;cases h
  have l:s.data.toList.getLast hne=10:=by rw[Zxx hne]at h;exact Option.some.inj h
  have g:=Zzh hne;rw[l]at g;have d:Lib.hasSuffix s.data.toList [10]=true:=by
   rw[<-g];exact List.isSuffixOf_iff_suffix.2 ⟨_,rfl⟩
  rw[if_pos d,if_pos h,Zyj,Zye,List.extract_eq_take_drop,Zx8,Nat.sub_zero,f];rfl
 ·have d:¬Lib.hasSuffix s.data.toList [10]=true:=by
   intro i;apply h;unfold Lib.hasSuffix at i;obtain⟨a,j⟩:=List.isSuffixOf_iff_suffix.1 i;rw[<-j];simp
  rw[if_neg d,if_neg h]
structure Qi (C:Ar) (k:Nat):Prop where
 n:C.ents.length<=k
 each:∀E∈C.ents,E.points.length<=k/\E.gaps.length<=k/\E.edges.length<=k/\E.first.length<=k/\E.last.length<=k
theorem Qi.mono{C:Ar}{k m:Nat}(h:Qi C k)(g:k<=m):Qi C m:=
 ⟨No h.n g,fun E f=>by obtain⟨a,b,c,d,e⟩:=h.each E f;exact⟨by omega,by omega,by omega,by omega,by omega⟩⟩
theorem vI{E:Ak}{k m:Nat}(name:ByteArray)(n:List Int)(h:E.points.length<=m/\E.gaps.length<=m/\E.edges.length<=m/\E.first.length<=m/\E.last.length<=m):
  (Fv k name n E).points.length<=m+1/\(Fv k name n E).gaps.length<=m+1/\(Fv k name n E).edges.length<=m+1/\(Fv k name n E).first.length<=m+1/\(Fv k name n E).last.length<=m+1:=by
 obtain⟨a,b,c,d,e⟩:=h;unfold Fv;repeat' split
 all_goals
  refine⟨?_,?_,?_,?_,?_⟩<;>(try simp only[R2,G3])<;>omega
theorem Agk{L:List Ak}{E:Ak}(h:Cd L=E):E∈L\/E=noE:=by
 unfold Cd at h;cases a:L.getLast? with
 |none=>rw[a]at h;exact .inr h.symm
 |some ZQ=>
  rw[a]at h;obtain rfl:ZQ=E:=h;exact .inl (List.mem_of_getLast? a)
theorem vJ{C:Ar}{m:Nat}(k:Nat)(e:4<=k->C.ents≠ [])(name:ByteArray)(n:List Int)(h:Qi C m):Qi (Cc k name n C) (m+1):=by
 have h1:=h.mono (Zxt m);unfold Cc;split
 ·exact⟨h1.n,h1.each⟩
 split
 ·exact⟨h1.n,h1.each⟩
 split
 ·exact⟨h1.n,h1.each⟩
 split
 ·refine⟨by show(C.ents++ [Vo name (n.getD 0 0)]).length<=_;rw[R2,G3];have:=h.n;omega,fun E a=>?_⟩;rcases List.mem_append.1 a with a|a
  ·exact h1.each E a
  ·obtain rfl:=List.mem_singleton.1 a;exact⟨In _,In _,In _,In _,In _⟩
 ·next h0 h1' h2 h3=>
  have hne:=e (by omega);have f:=List.length_pos_iff.2 hne;refine⟨by show(C.ents.dropLast++ [_]).length<=_;rw[R2,G3,Zyg];have:=h.n;omega,fun E a=>?_⟩;rcases List.mem_append.1 a with a|a
  ·exact h1.each E (Zxv _ a)
  ·obtain rfl:=List.mem_singleton.1 a;refine vI name n ?_;rcases Agk (L:=C.ents) rfl with d|d
   ·exact h.each _ d
   ·rw[d];exact⟨In _,In _,In _,In _,In _⟩
theorem Xl(ls:List ByteArray):∀k,k<=ls.length->(∀j,j<k->Gy ls j=0)->Qi (Da ls k).c k
 |0,_,_=>⟨Y2 _,fun E hE=>by cases hE⟩
 |k+1,hk,h=>by
  have ih:=Xl ls k (by omega) (fun j g=>h j (by omega))
  have f:=(Vq ls k (by omega) (fun j g=>h j (by omega))).1
  have h0:=h k (by omega)
  unfold Gy at h0
  show Qi (Cp (Da ls k) (ls.getD k ByteArray.empty)).2.c (k+1)
  obtain⟨a,n,i,e⟩:=xG (st:=Da ls k) (s:=ls.getD k ByteArray.empty) (st':=(Cp (Da ls k) (ls.getD k ByteArray.empty)).2) (Prod.ext h0 rfl)
  rw[e]
  refine vJ _ (fun d=>?_) _ _ ih
  unfold Gl at a
  rw[Zyk,Zyk]at a
  exact f.ne (X7 d a.1.2)
theorem Qi.few{C:Ar}{k:Nat}{Y:List A2}(h:Qi C k)(i:k<=100000)(f:C.ents=Y.map A2.E):Few Y:=by
 refine⟨by have:=h.n;rw[f,Fn]at this;omega,fun y g=>?_⟩;obtain⟨a,b,c,d,e⟩:=h.each y.E (by rw[f];exact List.mem_map.2 ⟨y,g,rfl⟩);exact⟨by omega,by omega,by omega,by omega,by omega⟩
theorem Qi.small{C:Ar}{k:Nat}{Y:List A2}(h:Qi C k)(i:k<=1000)(f:C.ents=Y.map A2.E):Y.length<=1000/\∀y∈Y,G6 y.E:=by
 refine⟨by have:=h.n;rw[f,Fn]at this;omega,fun y g=>?_⟩;obtain⟨a,b,c,d,e⟩:=h.each y.E (by rw[f];exact List.mem_map.2 ⟨y,g,rfl⟩);exact⟨by omega,by omega,by omega,by omega,by omega⟩
theorem Gg.conf{a rb:Nat}{o:Nat->Option Nat}{C:Ar}{st:Int}{v:ZE}{Y:List A2}{w:V}(h:Gg a rb o C st v Y w){k:Nat}(q:Qi C k)(m:k<=1000):Gb (fun b=>a<=b/\b<w.heap.size) w C v Y:=by
 obtain⟨h1,h2⟩:=q.small m h.eq;refine⟨⟨?_,fun x t=>?_⟩,h.eq,h2,h1⟩
 ·obtain⟨n,e,cap,s,h1,h2,h3,f⟩:=h.row.slOf;refine⟨n,e,cap,s,h1,h2,h3,fun p=>?_⟩;obtain⟨b,off,j,g,d,l⟩:=f p;exact⟨b,off,j,⟨g.1,d⟩,d,l⟩
 ·obtain⟨i,hi,rfl⟩:=List.mem_iff_getElem.1 t;exact(h.own i hi).slOf
theorem Abw(w:V)(rb:Nat)(a:w.heap[rb]? =U (ZC (R7 Fu (F O 0 0) (-1)) 150)):Gg w.heap.size rb (fun _=>O) RdS.start.c RdS.start.stage (F O 0 0) [] w:=
 ⟨a,Aa a,Y2 _,fun _ _=>rfl,fun _ _=>rfl,⟨rfl,.inl ⟨rfl,rfl⟩⟩,fun b a=>(by cases a),fun i hi=>(by cases hi),rfl⟩
def Rj(sa:Nat->Addr)(B:Nat)(r:Ar × (Nat × Int))(w:V)(e:Ending)(w':V):Prop:=
 ∃ao n cap u X,e=ZD (ZM #[ZJ (Az r.1 (F ao n cap)),u])/\Qk sa w' u r.2/\(r.2.1=0->Gb (fun b=>B<=b/\b<w'.heap.size) w' r.1 (F ao n cap) X)/\(r.2.1≠0->Value.slice ao n cap=F O 0 0)/\ZF w.heap.size w w'
theorem Mm(w:V)(q:Nat)(a b c d e:ZE):Ac (· =q) w (((((w.setCell ⟨q,0,O⟩ a).setCell ⟨q,1,O⟩ b).setCell ⟨q,2,O⟩ c).setCell ⟨q,3,O⟩ d).setCell ⟨q,4,O⟩ e):=
 ((((Af w q 0 a).setCell (p:=⟨q,1,O⟩) (fun _=>rfl) b).setCell (p:=⟨q,2,O⟩) (fun _=>rfl) c).setCell (p:=⟨q,3,O⟩) (fun _=>rfl) d).setCell (p:=⟨q,4,O⟩) (fun _=>rfl) e
theorem J2{w w1:V}(h:ZF w.heap.size w w1)(a b c d e:ZE):ZF w.heap.size w (((((w1.setCell ⟨w.heap.size,0,O⟩ a).setCell ⟨w.heap.size,1,O⟩ b).setCell ⟨w.heap.size,2,O⟩ c).setCell ⟨w.heap.size,3,O⟩ d).setCell ⟨w.heap.size,4,O⟩ e):=
 h.trans ((Mm w1 w.heap.size a b c d e).below h.size (fun k f=>by rw[f];exact Y2 _))
theorem Add{w f:V}(h:ZF w.heap.size w f)(j:w.heap.size<f.heap.size)(i:Int)(g a b c d e:ZE):
  P9 (((((((f.alloc (ZC #[I J i,g] 156)).setCell ⟨w.heap.size,0,O⟩ a).setCell ⟨w.heap.size,1,O⟩ b).setCell ⟨w.heap.size,2,O⟩ c).setCell ⟨w.heap.size,3,O⟩ d).setCell ⟨w.heap.size,4,O⟩ e)) f.heap.size i g/\
   ZF w.heap.size w (((((((f.alloc (ZC #[I J i,g] 156)).setCell ⟨w.heap.size,0,O⟩ a).setCell ⟨w.heap.size,1,O⟩ b).setCell ⟨w.heap.size,2,O⟩ c).setCell ⟨w.heap.size,3,O⟩ d).setCell ⟨w.heap.size,4,O⟩ e)):=
 ⟨(Mm _ w.heap.size a b c d e).get (Ab f _) (by show ¬f.heap.size=w.heap.size;omega),J2 (h.alloc h.size _) a b c d e⟩
theorem Th{w f:V}(h:ZF w.heap.size w f)(i:Int)(g a b c d e:ZE):
  P9 ((((((f.setCell ⟨w.heap.size,0,O⟩ a).setCell ⟨w.heap.size,1,O⟩ b).setCell ⟨w.heap.size,2,O⟩ c).setCell ⟨w.heap.size,3,O⟩ d).setCell ⟨w.heap.size,4,O⟩ e).alloc (ZC #[I J i,g] 156)) f.heap.size i g/\
   ZF w.heap.size w ((((((f.setCell ⟨w.heap.size,0,O⟩ a).setCell ⟨w.heap.size,1,O⟩ b).setCell ⟨w.heap.size,2,O⟩ c).setCell ⟨w.heap.size,3,O⟩ d).setCell ⟨w.heap.size,4,O⟩ e).alloc (ZC #[I J i,g] 156)):=by
 have j:=J2 h a b c d e;refine⟨?_,j.alloc j.size _⟩;have:=Ab (((((f.setCell ⟨w.heap.size,0,O⟩ a).setCell ⟨w.heap.size,1,O⟩ b).setCell ⟨w.heap.size,2,O⟩ c).setCell ⟨w.heap.size,3,O⟩ d).setCell ⟨w.heap.size,4,O⟩ e) (ZC #[I J i,g] 156);simpa [P9] using this
theorem Ru{sa:Nat->Addr}{w:V}{fb:Nat}{i:Int}{c:Nat}(hF:P9 w fb i (errv sa c))(hi:0<=i)(hc:0<c):Qk sa w (ZL 154 (ZA (U ⟨fb,0,O⟩))) (c,i):=.inr ⟨hi,hc,fb,rfl,hF⟩
theorem N7{a:Nat->Addr}{B:Nat}{w w':V}{u:ZE}{c:Nat}{i:Int}(d:Qk a w' u (c,i))(f:c≠0)(e:ZF w.heap.size w w'):
  Rj a B (Fu,(c,i)) w (ZD (ZM #[ZJ #[I J 0,I J 0,I J 0,I J 0,F O 0 0],u])) w':=
 ⟨O,0,0,u,[],rfl,d,fun h=>absurd h f,fun _=>rfl,e⟩
theorem Gb.mono{R S:Nat->Prop}{w:V}{C:Ar}{v:ZE}{X:List A2}(h:Gb R w C v X)(a:∀b,R b->S b):Gb S w C v X:=
 ⟨⟨h.sl.row.mono a,fun x d=>by have:=h.sl.each x d;exact⟨this.p.mono a,this.g.mono a,this.e.mono a,this.f.mono a,this.l.mono a⟩⟩,h.eq,h.small,h.len⟩
theorem Ace(st:RdS)(s:ByteArray):(Cp st s).1=0\/(Cp st s).1=1\/(Cp st s).1=5:=by
 unfold Cp;split
 ·split
  ·exact .inr (.inl rfl)
  ·split
   ·exact .inr (.inr rfl)
   ·exact .inl rfl
 ·exact .inr (.inl rfl)
theorem Tp(s:ByteArray):(Lh s).size<=s.size:=by
 rw[<-vF];have h:=Lib.trimSuffix_le s.data.toList [10];rw[C2]at h;show(Lib.trimSuffix s.data.toList [10]).toArray.size<=s.data.size
 rw[Zxo];exact h
theorem Qb(s:ByteArray):(Cl s).length<=s.size+1/\∀t∈Cl s,t.size<=s.size:=by
 unfold Cl;split
 ·exact⟨In _,fun t a=>(by cases a)⟩
 ·obtain⟨h1,h2⟩:=Pf 10 (Lh s);have:=Tp s;exact⟨by omega,fun t a=>No (h2 t a) this⟩
theorem wL(B:Nat)(y:Nat->Addr)(s:ByteArray)(w:V)(hS:Hl B y w)(hN:U3 B w)(l:s.size<=100000)(hK:∀k,k<=(Cl s).length->(∀j,j<k->Gy (Cl s) j=0)->k<=1000):
  ZH ZI 36 #[ZB s] w (Rj y w.heap.size (Hh s) w):=by
 have HS:=G hS;have HN:=G hN;have HK:=G hK;have A:ZF w.heap.size w (w.alloc (ZC (Az Fu (F O 0 0)) 30)):=(R1 _ _).alloc (Y2 _) _;have K:=Ab w (ZC (Az Fu (F O 0 0)) 30);unfold Az Fu at K A;clear hS hN hK;by_cases h8:(8000:Int)<(s.size:Int)
 ·have HR:ZG (Hh s=(Fu,(2,-1))):=G (by unfold Hh;rw[if_pos (by omega)]);go_enter func36,ntmps36;go_upto_region 1 with fail;generalize w.alloc _=w1 at K A ⊢;have e2:=(HS.on A).all.2.1;have N:=G A;obtain⟨c0,c1,c2,c3,c4⟩:=Ba (C:=Fu) K;have cf:∀o,w1.frozen? ⟨w.heap.size,o,O⟩=false:=fun o=>by simp[World.frozen?,K]
  have hg:0<B:=HS.nb 1 (by decide);have hB:=HS.top;have ci:¬0=w.heap.size:=by omega
  have cj:¬w.heap.size=0:=by omega
  clear A hg hB;go_wp2_with fail;go_region;all_goals
   go_wp2_with fail;refine bodyPost_ret (v:=ZM #[ZJ #[I J 0,I J 0,I J 0,I J 0,F O 0 0],ZL 372 (ZA (U (y 1)))]) (by simp[c0,c1,c2,c3,c4,results,results36,go_sem,O2,O1]) rfl ?_;unfold Rj;rw[HR.out];exact⟨O,0,0,errv y 2,[],rfl,.inl ⟨rfl,rfl⟩,fun h=>absurd h (by decide),fun _=>rfl,by first|exact J2 N _ _ _ _ _|exact(J2 N _ _ _ _ _).drew⟩
 ·go_enter func36,ntmps36;go_upto_region 1 with fail;generalize w.alloc _=w1 at K A ⊢;have N:=G A;have ai:=G K;clear A K;go_upto_region 4 with fail;have ab:ZF w1.heap.size w1 (w1.alloc (ZC (R7 Fu (F O 0 0) (-1)) 150)):=(R1 _ _).alloc (Y2 _) _;have ae:=Ab w1 (ZC (R7 Fu (F O 0 0) (-1)) 150);unfold R7 Fu at ae ab;generalize w1.alloc _=w2 at ae ab ⊢;obtain⟨rb,a6⟩:∃rb,rb=w1.heap.size:=⟨_,rfl⟩
  have d9:w.heap.size<rb:=by rw[a6];exact Aa ai.out
  have av:=G (N.trans (ab.mono N.size));have a0:=G (Ae ab ai (Aa ai.out));rw[<-a6]at ae ⊢;have aa:=G ae;obtain⟨ls,al⟩:∃ls,ls=Cl s:=⟨_,rfl⟩
  rw[<-al]at HK;have P:=G al;obtain⟨L,hL⟩:∃L,L=ls.length:=⟨_,rfl⟩
  have HL:=G hL;have d5:(L:Int)<=100001:=by
   rw[hL,al];have:=Qb s;omega
  clear ab a6 ae N ai al hL;obtain⟨zb,X⟩:∃zb,s.toList.isEmpty=zb:=⟨_,rfl⟩
  have dw:=G X;go_upto_if 18 with fail;go_cut [5] (fun s5 wx=>∃la,s5=F la L L/\ZG (∀(i:Nat) x,ls[i]? =U x->∃lb,la=U ⟨lb,0,O⟩/\lb<wx.heap.size/\lb≠rb/\lb≠w.heap.size/\wx.cell? ⟨lb,i,O⟩=U (ZB x))/\ZG (ZF w2.heap.size w2 wx));case first=>
   cases zb;rotate_left
   ·have h0:s.size=0:=Decidable.byContradiction (fun h=>by rw[Uq h]at X;cases X);have HE:ZG (ls= []):=G (by rw[P.out];unfold Cl;rw[if_pos h0]);have b5:ZG (L=0):=G (by rw[HL.out,HE.out];rfl);clear h0;go_wp2_with fail;go_meet;refine⟨O,by rw[b5.out],(show _ from fun i x hx=>by rw[HE.out]at hx;simp at hx),R1 _ _⟩
   ·have h0:¬s.size=0:=fun h=>by rw[Vu h]at X;cases X
    have a5:ls=Cx 10 (Lh s):=by rw[P.out];unfold Cl;rw[if_neg h0]
    have cg:=Tp s;have HT:=G (Tryz.strings_TrimSuffix s ⟨#[10]⟩ w2 (by omega));rw[show(⟨(Lib.trimSuffix s.data.toList (⟨#[10]⟩:ByteArray).data.toList).toArray⟩:ByteArray)=Lh s from vF s]at HT;have bi:=G (Rn (Lh s) 10 w2 (by omega));rw[<-a5,<-HL.out]at bi;have dt:=G a5;clear h0 a5 cg;go_wp2_with fail;refine HT.mono ?_;rintro e w3 ⟨rfl,rfl⟩;go_wp2_with fail;refine bi.mono ?_;rintro e w4 ⟨rfl,rfl⟩;go_wp2_with fail;go_meet;refine⟨U ⟨w3.heap.size,0,O⟩,rfl,(show _ from fun i x hx=>⟨w3.heap.size,rfl,by simp,by have:=Aa aa.out;omega,by have:=Aa aa.out;omega,?_⟩),(R1 _ _).alloc (Y2 _) _⟩;rw[cell_of_row _ _ i _ _ _ (Ab w3 (ZC (ls.map Value.string).toArray 9))];simp[hx]
  case rest=>
  obtain⟨la,rfl,bm,ak⟩:=hcut;have bh:ZG (wc.heap[rb]? =U (ZC (R7 Fu (F O 0 0) (-1)) 150)):=G (Ae ak aa (Aa aa.out));have az:=G (Ae ak a0 (Aa a0.out));have M:=G (av.trans (ak.mono av.size));have b9:=G (Abw wc rb bh.out);have b2:=G bm.out;clear ak av a0 aa bh bm X;go_wp2_with fail;go_loopw [24] (fun a9 wr=>∃(i:Nat) (o:Nat->Option Nat) (v:ZE) (Y:List A2),i<=L/\a9=I J i/\ZG (∀j,j<i->Gy ls j=0)/\ZG (Gg wc.heap.size rb o (Da ls i).c (Da ls i).stage v Y wr)/\ZG (Ac (fun b=>b=rb\/wc.heap.size<=b) wc wr)) (fun a9 _=>L-(intOf a9).toNat);case atStart=>exact⟨0,_,_,_,In _,rfl,(show _ from fun j hj=>by omega),b9,Ac.refl _ _⟩
  case round=>
   obtain⟨i,o,v,Y,hi,rfl,t,am,ad⟩:=hrel;have d8:=Aa az.out;have H:=G (ad.get az (fun l=>by rcases l with l|l<;>omega));have a:ZG (ZF w.heap.size w wr):=G (M.trans (ad.below M.size (fun b q=>by have:=M.size;rcases q with q|q<;>omega)));obtain⟨c0,c1,c2,c3,c4⟩:=Ba (C:=Fu) H.out;have cf:∀o,wr.frozen? ⟨w.heap.size,o,O⟩=false:=fun o=>by have:=H.out;simp[World.frozen?,this]
   by_cases co:i<L
   ·have R:i<ls.length:=by rw[<-HL.out];exact co
    obtain⟨lb,rfl,bq,bs,cn,br⟩:=b2 i ls[i] (R4 R);have ht:wr.cell? ⟨lb,i,O⟩=U (ZB (ls.getD i ByteArray.empty)):=by
     rw[ad.cell (p:=⟨lb,i,O⟩) bq (fun l=>by rcases l with l|l;exact bs l;have l:wc.heap.size<=lb:=l;omega),Of,R4 R];exact br
    have bu:(ls.getD i ByteArray.empty).size<=100000:=by
     rw[Of,R4 R];have:=(Qb s).2 ls[i] (by rw[<-P.out];exact M2 R);show ls[i].size<=100000
     omega
    have aq:B<=rb:=by have:=HS.top;omega
    have d:=G (Ajg B y wc.heap.size rb o (Da ls i) v Y (ls.getD i ByteArray.empty) wr (HS.on a.out) (HN.below a HS.top) aq am (Vq ls i (by omega) t.out).1 ((Xl ls i (by omega) t.out).few (by omega) am.eq) bu);obtain⟨tl,a8⟩:∃tl,tl=ls.getD i ByteArray.empty:=⟨_,rfl⟩
    rw[<-a8]at ht d;have ah:=G a8;have bf:=G R;unfold Qj at d;clear bu bq bs cn br a8 R aq;rcases Ace (Da ls i) tl with hc|hc|hc
    ·rw[hc]at d;have e0:errv y 0=.nilIface:=rfl;rw[e0]at d;have HC:=G hc;clear hc;go_wp2_with fail;refine d.mono ?_;rintro e m ⟨rfl,bt,n⟩;have b8:=G (bt trivial);have b4:=G n;clear bt n c0 c1 c2 c3 c4 cf ht;go_wp2_with fail;go_roundw;case rel=>
      obtain⟨o',v',Y',h'⟩:=b8.out;refine⟨i+1,o',v',Y',by omega,by go_num,(show _ from fun j hj=>?_),(show Gg wc.heap.size rb o' (Da ls (i+1)).c (Da ls (i+1)).stage v' Y' m from ?_),(show Ac (fun b=>b=rb\/wc.heap.size<=b) wc m from ad.step b4 (fun b q _=>q))⟩
      ·by_cases cm:j=i
       ·subst cm;unfold Gy;rw[<-ah.out];exact HC.out
       ·exact t j (by omega)
      ·show Gg wc.heap.size rb o' (Cp (Da ls i) (ls.getD i ByteArray.empty)).2.c (Cp (Da ls i) (ls.getD i ByteArray.empty)).2.stage v' Y' m
       rw[<-ah.out];exact h'
     case measure=>simp[intOf];omega
    ·rw[hc]at d;have ay:ZG (Hh s=(Fu,(1,(i:Int)))):=G (by
      have hh:Gy ls i=1:=by unfold Gy;rw[<-ah.out];exact hc
      have hf:=Yp (L:=ls) (k:=i) bf (by rw[hh];decide) t.out;rw[hh]at hf;unfold Hh;rw[if_neg (by omega),<-P.out,hf,if_pos (by simp)])
     have e0:errv y 1=ZL 372 (ZA (U (y 0))):=rfl;rw[e0]at d;clear hc;go_wp2_with fail;refine d.mono ?_;rintro e m ⟨rfl,-,n⟩;have g:=G (n.get H (fun l=>by rcases l with l|l<;>omega));have D:ZG (ZF w.heap.size w m):=G (a.trans (n.below a.size (fun b q=>by have:=M.size;rcases q with q|q<;>omega)));obtain⟨d0,d1,d2,d3,d4⟩:=Ba (C:=Fu) g.out;have df:∀o,m.frozen? ⟨w.heap.size,o,O⟩=false:=fun o=>by have:=g.out;simp[World.frozen?,this]
     have T:w.heap.size<m.heap.size:=Aa g.out;have HF:=G (Th D (i:Int) (errv y 1) (I J 0) (I J 0) (I J 0) (I J 0) (F O 0 0));have ar:¬w.heap.size=m.heap.size:=by omega
     have au:¬m.heap.size=w.heap.size:=by omega
     clear n c0 c1 c2 c3 c4 cf ht;go_wp2_with fail;refine bodyPost_ret (v:=ZM #[ZJ #[I J 0,I J 0,I J 0,I J 0,F O 0 0],ZL 154 (ZA (U ⟨m.heap.size,0,O⟩))]) (by simp[d0,d1,d2,d3,d4,T,results,results36,go_sem,O2,O1]) rfl ?_;rw[ay.out];exact N7 (Ru HF.1 (by omega) (by decide)) (by decide) HF.2
    ·rw[hc]at d;have ay:ZG (Hh s=(Fu,(5,(i:Int)))):=G (by
      have hh:Gy ls i=5:=by unfold Gy;rw[<-ah.out];exact hc
      have hf:=Yp (L:=ls) (k:=i) bf (by rw[hh];decide) t.out;rw[hh]at hf;unfold Hh;rw[if_neg (by omega),<-P.out,hf,if_pos (by simp)])
     have e0:errv y 5=ZL 372 (ZA (U (y 4))):=rfl;rw[e0]at d;clear hc;go_wp2_with fail;refine d.mono ?_;rintro e m ⟨rfl,-,n⟩;have g:=G (n.get H (fun l=>by rcases l with l|l<;>omega));have D:ZG (ZF w.heap.size w m):=G (a.trans (n.below a.size (fun b q=>by have:=M.size;rcases q with q|q<;>omega)));obtain⟨d0,d1,d2,d3,d4⟩:=Ba (C:=Fu) g.out;have df:∀o,m.frozen? ⟨w.heap.size,o,O⟩=false:=fun o=>by have:=g.out;simp[World.frozen?,this]
     have T:w.heap.size<m.heap.size:=Aa g.out;have HF:=G (Th D (i:Int) (errv y 5) (I J 0) (I J 0) (I J 0) (I J 0) (F O 0 0));have ar:¬w.heap.size=m.heap.size:=by omega
     have au:¬m.heap.size=w.heap.size:=by omega
     clear n c0 c1 c2 c3 c4 cf ht;go_wp2_with fail;refine bodyPost_ret (v:=ZM #[ZJ #[I J 0,I J 0,I J 0,I J 0,F O 0 0],ZL 154 (ZA (U ⟨m.heap.size,0,O⟩))]) (by simp[d0,d1,d2,d3,d4,T,results,results36,go_sem,O2,O1]) rfl ?_;rw[ay.out];exact N7 (Ru HF.1 (by omega) (by decide)) (by decide) HF.2
   ·obtain rfl:i=L:=by omega
    have ce:i<=1000:=HK i (by rw[HL.out];exact Y2 _) t.out;have b6:=G (Wn (L:=ls) (fun j hj=>t j (by rw[HL.out];exact hj)));obtain⟨st,an⟩:∃st,st=Da ls i:=⟨_,rfl⟩
    have Q:ZG (Gg wc.heap.size rb o st.c st.stage v Y wr):=G (by rw[an];exact am.out);have a7:=Xl ls i (by rw[HL.out];exact Y2 _) t.out;rw[<-an]at a7;have aw:=G (Q.conf a7 ce);have HRdF:ZG (∀r,(if st.stage<2 then (Fu,(1,(i:Int))) else if (B4 st.c).1≠0 then (Fu,B4 st.c) else (st.c,(0,-1)))=r->Hh s=r):=(show _ from by
     intro r hr;unfold Hh;rw[if_neg (by omega),<-P.out,b6.out,if_neg (by simp),<-HL.out,<-an];exact hr)
    obtain⟨ao,cap,hv⟩:=Q.row.val;rw[hv]at aw Q;obtain⟨y0,y1,y2,y3,y4,y5,yf⟩:=Gk Q.blk;have dh:¬w.heap.size=rb:=by omega
    have di:¬rb=w.heap.size:=by omega
    clear an a7 hv am t ad;by_cases h2:st.stage<2
    ·have E:ZG (Hh s=(Fu,(1,(i:Int)))):=G (HRdF _ (by rw[if_pos h2]));have e1:=(HS.on a.out).all.1;have ck:1<B:=HS.nb 0 (by decide);have cc:=HS.top;have ci:¬1=w.heap.size:=by omega
     have cj:¬w.heap.size=1:=by omega
     have T:w.heap.size<wr.heap.size:=Aa H.out;have d7:1<wr.heap.size:=by omega
     have ar:¬w.heap.size=wr.heap.size:=by omega
     have au:¬wr.heap.size=w.heap.size:=by omega
     have dg:¬1=wr.heap.size:=by omega
     have F1:=G (Th a (i:Int) (errv y 1) (I J 0) (I J 0) (I J 0) (I J 0) (F O 0 0));have F2:=G (Add a T (i:Int) (errv y 1) (I J 0) (I J 0) (I J 0) (I J 0) (F O 0 0));clear ck cc;go_wp2_with fail;go_region;all_goals
      go_wp2_with fail;refine bodyPost_ret (v:=ZM #[ZJ #[I J 0,I J 0,I J 0,I J 0,F O 0 0],ZL 154 (ZA (U ⟨wr.heap.size,0,O⟩))]) (by simp[c0,c1,c2,c3,c4,T,results,results36,go_sem,O2,O1]) rfl ?_;rw[E.out];first
       |exact N7 (Ru (show P9 (World.drew _) _ _ _ from F1.1) (by omega) (by decide)) (by decide) F1.2.drew
       |exact N7 (Ru (show P9 (World.drew _) _ _ _ from F2.1) (by omega) (by decide)) (by decide) F2.2.drew
    ·have hC:=G (qP B y _ st.c (F ao Y.length cap) Y wr (HS.on a.out) aw (fun b q=>q.2));have H2:=G h2;unfold Az at hC;go_wp2_with fail;refine hC.mono ?_;rintro e m ⟨u,rfl,hu,b7⟩;have g:=G (Ae b7 H (Aa H.out));have D:=G (a.trans (b7.mono a.size));have bv:=b7.size;obtain⟨d0,d1,d2,d3,d4⟩:=Ba (C:=Fu) g.out;have df:∀o,m.frozen? ⟨w.heap.size,o,O⟩=false:=fun o=>by have:=g.out;simp[World.frozen?,this]
     have HRB7:=G (Ae b7 Q.blk (Aa Q.blk));obtain⟨x0,x1,x2,x3,x4,x5,xf⟩:=Gk HRB7.out;have b1:=G ((aw.below b7 (fun b q=>q.2)));clear c0 c1 c2 c3 c4 cf y0 y1 y2 y3 y4 y5 yf b7 h2;obtain⟨⟨fc,fi⟩,bo⟩:∃f,f=B4 st.c:=⟨_,rfl⟩
     rw[<-bo]at hu HRdF;clear bo;have HU:=G hu;rcases hu with⟨ch,rfl⟩|⟨cb,a4,fb,rfl,hF⟩
     ·obtain rfl:fi= -1:=ch;cases fc with
      |zero=>
       have E:ZG (Hh s=(st.c,(0,-1))):=G (HRdF _ (by rw[if_neg (show ¬st.stage<2 from by have:=H2.out;omega),if_neg (by simp)]));have bg:=G (Mm m w.heap.size (I J st.c.closed) (I J st.c.opn) (I J st.c.cycle) (I J st.c.delay) (F ao Y.length cap));have Z:=G (J2 D (I J st.c.closed) (I J st.c.opn) (I J st.c.cycle) (I J st.c.delay) (F ao Y.length cap));have cq:=M.size;have b3:=G ((b1.keep bg (fun b q l=>by have h1:b=w.heap.size:=l;have:=Aa az.out;omega)).mono (S:=fun b=>w.heap.size<=b/\b<(((((m.setCell ⟨w.heap.size,0,O⟩ (I J st.c.closed)).setCell ⟨w.heap.size,1,O⟩ (I J st.c.opn)).setCell ⟨w.heap.size,2,O⟩ (I J st.c.cycle)).setCell ⟨w.heap.size,3,O⟩ (I J st.c.delay)).setCell ⟨w.heap.size,4,O⟩ (F ao Y.length cap)).heap.size) (fun b q=>⟨by omega,by have h1:=a.size;have h2:=bg.size;have h3:=bv;omega⟩));clear HU HRdF cq;have e0:errv y 0=.nilIface:=rfl;rw[e0];go_wp2_with fail;refine bodyPost_ret (v:=ZM #[ZJ #[I J st.c.closed,I J st.c.opn,I J st.c.cycle,I J st.c.delay,F ao Y.length cap],.nilIface]) (by simp[d0,d1,d2,d3,d4,results,results36,go_sem,O2,O1]) rfl ?_;rw[E.out];exact⟨ao,Y.length,cap,.nilIface,Y,rfl,.inl ⟨rfl,rfl⟩,fun _=>b3.out,fun h=>absurd rfl h,Z.out⟩
      |succ k=>
       have E:ZG (Hh s=(Fu,(k+1,-1))):=G (HRdF _ (by rw[if_neg (show ¬st.stage<2 from by have:=H2.out;omega),if_pos (by simp)]));have ag:=G (HU.keep (Mm m w.heap.size (I J 0) (I J 0) (I J 0) (I J 0) (F O 0 0)) (fun fb h=>by cases h));have Z:=G (J2 D (I J 0) (I J 0) (I J 0) (I J 0) (F O 0 0));clear x0 x1 x2 x3 x4 x5 xf HU HRdF;have e0:errv y (k+1)=ZL 372 (ZA (U (y k))):=rfl;rw[e0]at ag ⊢;go_wp2_with fail;refine bodyPost_ret (v:=ZM #[ZJ #[I J 0,I J 0,I J 0,I J 0,F O 0 0],ZL 372 (ZA (U (y k)))]) (by simp[d0,d1,d2,d3,d4,results,results36,go_sem,O2,O1]) rfl ?_;rw[E.out];exact N7 ag (by omega) Z.out
     ·have E:ZG (Hh s=(Fu,(fc,fi))):=G (HRdF _ (by rw[if_neg (show ¬st.stage<2 from by have:=H2.out;omega),if_pos (by show fc≠0;have h:0<fc:=a4;omega)]));have ag:=G (HU.keep (Mm m w.heap.size (I J 0) (I J 0) (I J 0) (I J 0) (F O 0 0)) (fun bl h l=>by
       have h1:bl=w.heap.size:=l;have h2:fb=bl:=by injection h with _ h;injection h with h;injection h with h;injection h
       have h3:=g.out;rw[<-h1,<-h2,hF]at h3;have h4:=Option.some.inj h3;injection h4 with _ h5;exact absurd h5 (by decide)))
      have Z:=G (J2 D (I J 0) (I J 0) (I J 0) (I J 0) (F O 0 0));have b0:ZG (fc≠0):=G (by have h:0<fc:=a4;omega);clear x0 x1 x2 x3 x4 x5 xf HU HRdF hF cb a4;go_wp2_with fail;refine bodyPost_ret (v:=ZM #[ZJ #[I J 0,I J 0,I J 0,I J 0,F O 0 0],ZL 154 (ZA (U ⟨fb,0,O⟩))]) (by simp[d0,d1,d2,d3,d4,results,results36,go_sem,O2,O1]) rfl ?_;rw[E.out];exact N7 ag b0 Z.out
def lnF(word:ByteArray)(ns:List Int):Option (Nat × List Nat):=match C8 word with
 |none=>O
 |some i=>if ns.length≠Ee i then O else if (∀k∈ns,0<=k/\k<=99999)/\(0<ns.length->ns.getD 0 0<=(Kq i:Int)) then U (i,ns.map Int.toNat) else O
def gR(word:ByteArray)(ns:List Int)(j:Nat):List UInt8:=word.data.toList++(ns.take j).flatMap (fun k=>32::Lib.itoa k)
theorem Agf{word:ByteArray}{ns:List Int}{j:Nat}(h:j<ns.length):gR word ns (j+1)=gR word ns j++(32::Lib.itoa ns[j]):=by
 unfold gR;rw[If h,B1];simp
theorem Te(c:UInt8):∀(L:List (List UInt8)) (x:List UInt8),Cy c (x::L)=x++L.flatMap (fun y=>c::y)
 |[],x=>by simp[Cy]
 |y::L,x=>by
  rw[Pq c _ (by simp),Te c L y]
  simp
theorem Wr{α:Type}{f g:α->List UInt8}:∀(l:List α),(∀k∈l,f k=g k)->l.flatMap f=l.flatMap g
 |[],_=>rfl
 |a::l,h=>by
  rw[Zz6,Zz6,h a Zzo,Wr l (fun k hk=>h k (Zz5 _ hk))]
theorem Alr{word:ByteArray}{ns:List Int}{i:Nat}(hi:C8 word=U i)(d:∀k∈ns,0<=k/\k<=99999):gR word ns ns.length=Oi i (ns.map Int.toNat):=by
 unfold gR Oi;rw[Zz2,<-Sw hi,Te,Zyo,Zyc];congr 1;refine Wr ns (fun k a=>?_);have:=d k a;show 32::Lib.itoa k=32::Lib.itoa ((k.toNat:Nat):Int)
 rw[show((k.toNat:Nat):Int)=k by omega]
def Hv(word:ByteArray)(ns:List Int)(S:ByteArray)(is:Bool):Prop:=match lnF word ns with
 |none=>is=false
 |some (i,nn)=>is=true/\S.data.toList=Oi i nn
theorem Ai4{word:ByteArray}{ns:List Int}(h:C8 word=O):lnF word ns=O:=by unfold lnF;rw[h]
theorem Ai5{word:ByteArray}{ns:List Int}{i:Nat}(h:C8 word=U i)(hl:ns.length≠Ee i):lnF word ns=O:=by unfold lnF;rw[h];exact if_pos hl
theorem Als{word:ByteArray}{ns:List Int}{i j:Nat}(h:C8 word=U i)(e:j<ns.length)(d:ns[j]<0\/(if j=0 then (Kq i:Int) else 99999)<ns[j]):lnF word ns=O:=by
 unfold lnF;rw[h];simp only;split
 ·rfl
 ·rw[if_neg];rintro⟨h1,h2⟩;have h3:=h1 ns[j] (M2 e);by_cases h0:j=0
  ·subst h0;rw[if_pos rfl]at d;have a:=h2 (by omega);rw[Of,R4 e]at a;have a:ns[0]<=(Kq i:Int):=a;omega
  ·rw[if_neg h0]at d;omega
theorem Y4(i:Nat)(h:i<14):Kq i<=99999:=by
 have a:∀i:Fin 14,Kq i.1<=99999:=by decide
 exact a ⟨i,h⟩
theorem Ai6{word:ByteArray}{ns:List Int}{i:Nat}(h:C8 word=U i)(g:ns.length=Ee i)(d:∀j (hj:j<ns.length),0<=ns[j]/\ns[j]<=(if j=0 then (Kq i:Int) else 99999)):lnF word ns=U (i,ns.map Int.toNat)/\∀k∈ns,0<=k/\k<=99999:=by
 have l:=Y4 i (Hg h);have a:∀k∈ns,0<=k/\k<=99999:=fun k f=>by
  obtain⟨j,hj,rfl⟩:=List.mem_iff_getElem.1 f;have:=d j hj;split at this<;>omega
 refine⟨?_,a⟩;unfold lnF;rw[h];simp only;rw[if_neg (fun e=>e g),if_pos];refine⟨a,fun h0=>?_⟩;have:=(d 0 h0).2;rw[if_pos rfl]at this;rw[Of,R4 h0];exact this
theorem Alt{word:ByteArray}{ns:List Int}{i:Nat}{f:List Nat}{S:ByteArray}(h:lnF word ns=U (i,f))(l:S.data.toList=Oi i f):Jc S=U (i,f)/\C8 word=U i/\f=ns.map Int.toNat/\f.length=Ee i/\∀k∈ns,0<=k/\k<=99999:=by
 unfold lnF at h;split at h
 ·cases h
 ·rename_i q hq;split at h
  ·cases h
  ·rename_i hl;split at h
   ·rename_i hc;obtain⟨rfl,rfl⟩:=Prod.mk.inj (Option.some.inj h);have d:(ns.map Int.toNat).length=Ee q:=by rw[Fn];omega
    refine⟨Mq (Hg hq) d (fun k m=>?_) (fun h3 j=>?_) l,hq,rfl,d,hc.1⟩
    ·obtain⟨z,n,rfl⟩:=List.mem_map.1 m;have:=hc.1 z n;omega
    ·cases g:ns with
     |nil=>simp
     |cons a r=>
      have h0:=hc.2 (by rw[g];simp);rw[g]at h0;have o:Kq q<=9:=by
       have e:∀i:Fin 14,i.1≠3->i.1≠4->Kq i.1<=9:=by decide
       exact e ⟨q,Hg hq⟩ h3 j
      simp at h0 ⊢;omega
   ·cases h
theorem Pr{R:Nat->Prop}{w:V}{ao:Option Addr}{n cap:Nat}{l:List Int}(h:Av R w (F ao n cap) 1 (Ad l) l.length)(h0:0<l.length):
  ∃b off,ao=U ⟨b,off,O⟩/\R b/\b<w.heap.size/\∀k (hk:k<l.length),w.cell? ⟨b,off+k,O⟩=U (I J l[k]):=by
 obtain⟨o,d,a,m,h1,h2,h3,e⟩:=h;injection m with e1 e2 e3;subst e1;obtain⟨b,off,g,f,i,j⟩:=e (by simp[Ad];exact h0);exact⟨b,off,g,f,i,fun k hk=>j k _ (by simp[Ad,hk])⟩
def Ak4(word:ByteArray)(ns:List Int)(w:V)(e:Ending)(w':V):Prop:=∃S is,e=ZD (ZM #[ZB S,.bool is])/\Hv word ns S is/\ZF w.heap.size w w'
theorem Acf(R:Nat->Prop)(word:ByteArray)(ns:List Int)(vn:ZE)(w:V)(h:Av R w vn 1 (Ad ns) ns.length)(hR:∀b,R b->b<w.heap.size)(hw:word.size<=60)(hl:ns.length<=5)(ao:∀k∈ns,-9223372036854775808<=k/\k<=9223372036854775807):
  ZH ZI 29 #[ZJ #[ZB word,vn]] w (Ak4 word ns w):=by
 obtain⟨ag,Y,rfl⟩:=h.val;have a:ZF w.heap.size w (w.alloc (ZC #[ZB word,F ag ns.length Y] 73)):=(R1 _ _).alloc (Y2 _) _;have d:=Ab w (ZC #[ZB word,F ag ns.length Y] 73);have H:=G (h.below a (fun b K=>hR b K));cases hi:C8 word with
 |none=>
  have o:=G (Ai4 (ns:=ns) hi);have q:=G (fun W=>vV word W hi);clear h hR hi;go_enter func29,ntmps29;go_upto_region 1 with fail;generalize w.alloc _=w1 at a d H ⊢;obtain⟨x0,x1,xf⟩:=Au d;go_wp2_with fail;refine(q w1).mono ?_;rintro e w2 ⟨rfl,rfl⟩;go_wp2_with fail;go_ret2;exact⟨_,_,rfl,by unfold Hv;rw[o.out],a⟩
 |some i=>
  have q:=G (fun W=>vU word W hi);have HI:=G hi;obtain⟨m,hm⟩:∃m,m=Ee i:=⟨_,rfl⟩
  obtain⟨f0,T⟩:∃f0,f0=Kq i:=⟨_,rfl⟩
  have a1:=G hm;have aj:=G T;rw[<-hm,<-T]at q;by_cases ad:ns.length=m
  ·have Q:ZG (∀j (hj:j<ns.length),∃nb no,ag=U ⟨nb,no,O⟩/\nb<w.heap.size/\w.cell? ⟨nb,no+j,O⟩=U (I J ns[j])):=G (fun j hj=>by
    obtain⟨nb,no,e1,e2,e3,e4⟩:=Pr h (by omega);exact⟨nb,no,e1,e3,e4 j hj⟩)
   have a6:((ns.length:Int) != (m:Int))=false:=by rw[ad];simp
   have M:=G ad;have bl:m<=5:=by omega
   have al:ZG (word.data.toList=gR word ns 0/\word.size<=60+10*0/\∀k (hk:k<ns.length),k<0->0<=ns[k]/\ns[k]<=(if k=0 then (Kq i:Int) else 99999)):=G (⟨by simp[gR],by omega,fun k _ h=>absurd h (by omega)⟩);clear h hR hi hm T ad;go_enter func29,ntmps29;go_upto_region 1 with fail;generalize w.alloc _=w1 at a d H ⊢;obtain⟨x0,x1,xf⟩:=Au d;have HX:=G (And.intro d a);clear d a xf;go_wp2_with fail;refine(q w1).mono ?_;rintro e w2 ⟨rfl,rfl⟩;have ai:=G (R1 w1.heap.size w1);go_wp2_with fail;clear x0 x1;go_loopw [7,8] (fun s7 s8 wr=>∃(j:Nat) (W:ByteArray),j<=m/\s7=ZB W/\s8=I J j/\ZG (W.data.toList=gR word ns j/\W.size<=60+10*j/\∀k (hk:k<ns.length),k<j->0<=ns[k]/\ns[k]<=(if k=0 then (Kq i:Int) else 99999))/\ZG (ZF w1.heap.size w1 wr)) (fun _ s8 _=>m-(intOf s8).toNat);case atStart=>exact⟨0,word,In _,rfl,rfl,al,ai⟩
   case round=>
    obtain⟨j,W,hj,rfl,rfl,hW,K⟩:=hrel;clear al ai;have P:=HX.2.trans (K.mono HX.2.size);obtain⟨x0,x1,xf⟩:=Au (Ae K HX.1 (Aa HX.1));have l:=G P;by_cases ap:j<m
    ·have bb:(j:Int)<(m:Int):=by omega
     have X:j<ns.length:=by have:=M.out;omega
     obtain⟨nb,no,rfl,a7,C⟩:=Q j X;have hc:wr.cell? ⟨nb,no+j,O⟩=U (I J ns[j]):=by rw[P.cell (p:=⟨nb,no+j,O⟩) a7];exact C
     have HBad:=G (fun K=>Als (word:=word) (ns:=ns) (j:=j) HI X K);have ac:=ao ns[j] (M2 X);have N:=G (fun(z:Int) (L:z=ns[j]) (h1:0<=z) (h2:z<=(if j=0 then (Kq i:Int) else 99999)) (D S:ByteArray) (v:D.data.toList=Lib.itoa z) (hS:S.data.toList=W.data.toList++(32::D.data.toList)) (B:S.size<=60+10*(j+1))=>(show S.data.toList=gR word ns (j+1)/\S.size<=60+10*(j+1)/\∀k (hk:k<ns.length),k<j+1->0<=ns[k]/\ns[k]<=(if k=0 then (Kq i:Int) else 99999)from
      ⟨by rw[hS,v,hW.1,Agf X,L],B,fun k hk bj=>by
       by_cases e:k=j
       ·subst e;rw[<-L];exact⟨h1,h2⟩
       ·exact hW.2.2 k hk (by omega)⟩))
     have bh:=hW.2.1;have hmes:ZG (m-(j+1)<m-j):=G (by omega);obtain⟨z,L⟩:∃z,z=ns[j]:=⟨_,rfl⟩
     have HZ:=G L;rw[<-L]at hc HBad ac;clear hW C L P;by_cases g:j=0
     ·have a5:((j:Int)==0)=true:=by rw[g];rfl
      simp only[g,if_true]at HBad;rw[<-aj.out]at HBad;have HL:ZG (∀z:Int,z<=(f0:Int)->z<=(if j=0 then (Kq i:Int) else 99999)):=G (fun z L=>by rw[if_pos g,<-aj.out];exact L);clear g;by_cases ae:z<0
      ·have o:=G (HBad (.inl ae));have f:ZG (Hv word ns ⟨#[]⟩ false):=G (by unfold Hv;rw[o.out]);go_wp2_with fail;go_ret2;refine⟨⟨#[]⟩,false,?_,f.out,l.out⟩;rfl
      ·by_cases af:(f0:Int)<z
       ·have o:=G (HBad (.inr af));have f:ZG (Hv word ns ⟨#[]⟩ false):=G (by unfold Hv;rw[o.out]);go_wp2_with fail;go_ret2;refine⟨⟨#[]⟩,false,?_,f.out,l.out⟩;rfl
       ·have E:0<=z:=by omega
        have t:=G (HL z (by omega));have a8:z<=99999:=by have h1:=t.out;have h2:=Y4 i (Hg HI.out);split at h1<;>omega
        have n:=G (Dm z E (by omega) wr);have A:(Lib.itoa z).length<=5:=by
         obtain⟨u,rfl⟩:∃u:Nat,z=u:=⟨z.toNat,by omega⟩
         rw[Ko];exact M9 (by omega) (by omega)
        obtain⟨D,v⟩:∃D,D=B6 (Lib.itoa z):=⟨_,rfl⟩
        have y:D.data.toList=Lib.itoa z:=by rw[v];exact Cw _
        have a2:D.size<=5:=by rw[v,Dx];exact A
        rw[<-v]at n;have s:=G (fun S hS B=>N z HZ E t D S y hS B);clear A v y N HBad;go_wp2_with fail;refine n.mono ?_;rintro e w4 ⟨rfl,b4⟩;have Z:=G (K.trans (b4.mono K.size));have aa:=G (s (W++(⟨#[32]⟩:ByteArray)++D) (by rw[Zzy,Zzq,Zzy,Zzq];simp) (by rw[Zzn,Zzn];have:(⟨#[32]⟩:ByteArray).size=1:=rfl;omega));clear b4 s;go_wp2_with fail;go_roundw;case rel=>exact⟨j+1,_,ap,rfl,by go_num,aa,Z⟩
        case measure=>simp[intOf];have:=hmes.out;omega
     ·have a5:((j:Int)==0)=false:=beq_eq_false_iff_ne.2 (by omega);simp only[g,if_false]at HBad;have HL:ZG (∀z:Int,z<=99999->z<=(if j=0 then (Kq i:Int) else 99999)):=G (fun z L=>by rw[if_neg g];exact L);clear g;by_cases ae:z<0
      ·have o:=G (HBad (.inl ae));have f:ZG (Hv word ns ⟨#[]⟩ false):=G (by unfold Hv;rw[o.out]);go_wp2_with fail;go_ret2;refine⟨⟨#[]⟩,false,?_,f.out,l.out⟩;rfl
      ·by_cases af:((99999):Int)<z
       ·have o:=G (HBad (.inr af));have f:ZG (Hv word ns ⟨#[]⟩ false):=G (by unfold Hv;rw[o.out]);go_wp2_with fail;go_ret2;refine⟨⟨#[]⟩,false,?_,f.out,l.out⟩;rfl
       ·have E:0<=z:=by omega
        have t:=G (HL z (by omega));have a8:z<=99999:=by have h1:=t.out;have h2:=Y4 i (Hg HI.out);split at h1<;>omega
        have n:=G (Dm z E (by omega) wr);have A:(Lib.itoa z).length<=5:=by
         obtain⟨u,rfl⟩:∃u:Nat,z=u:=⟨z.toNat,by omega⟩
         rw[Ko];exact M9 (by omega) (by omega)
        obtain⟨D,v⟩:∃D,D=B6 (Lib.itoa z):=⟨_,rfl⟩
        have y:D.data.toList=Lib.itoa z:=by rw[v];exact Cw _
        have a2:D.size<=5:=by rw[v,Dx];exact A
        rw[<-v]at n;have s:=G (fun S hS B=>N z HZ E t D S y hS B);clear A v y N HBad;go_wp2_with fail;refine n.mono ?_;rintro e w4 ⟨rfl,b4⟩;have Z:=G (K.trans (b4.mono K.size));have aa:=G (s (W++(⟨#[32]⟩:ByteArray)++D) (by rw[Zzy,Zzq,Zzy,Zzq];simp) (by rw[Zzn,Zzn];have:(⟨#[32]⟩:ByteArray).size=1:=rfl;omega));clear b4 s;go_wp2_with fail;go_roundw;case rel=>exact⟨j+1,_,ap,rfl,by go_num,aa,Z⟩
        case measure=>simp[intOf];have:=hmes.out;omega
    ·obtain rfl:j=m:=by omega
     have hg:=Ai6 (ns:=ns) HI (by rw[M.out];exact a1.out) (fun k hk=>hW.2.2 k hk (by have:=M.out;omega));have a0:ZG (Hv word ns W true):=G (by
      unfold Hv;rw[hg.1];exact⟨rfl,by rw[hW.1,<-M.out];exact Alr HI hg.2⟩)
     clear hg hW P;have bk:¬(j:Int)<(j:Int):=by omega
     go_wp2_with fail;go_ret2;refine⟨W,true,?_,a0.out,l.out⟩;rfl
  ·have o:=G (Ai5 (ns:=ns) hi (by omega));have a6:((ns.length:Int) != (m:Int))=true:=bne_iff_ne.2 (by omega);clear h hR hi hm T;go_enter func29,ntmps29;go_upto_region 1 with fail;generalize w.alloc _=w1 at a d H ⊢;obtain⟨x0,x1,xf⟩:=Au d;go_wp2_with fail;refine(q w1).mono ?_;rintro e w2 ⟨rfl,rfl⟩;go_wp2_with fail;go_ret2;exact⟨_,_,rfl,by unfold Hv;rw[o.out],a⟩
