import Derived.Test.YtikehilbmldadaaGreatDoorP11
import Derived.Test.YtikehilbmldadaaGreatDoorP20
set_option linter.unusedVariables false
namespace Go.Proofs.YtikehilbmldadaaGreatDoor
open Proofs.Tryz YtikehilbmldadaaGreatDoor.Tryz RowKit
open Option renaming some->U,none->O
structure KpM where
 C:Ar
 D:Dd
 m:CM
 L:List Ap
 dead:Bool
 A:List (Option Di)
 sn:Int
 st:St
def Anx:Ak:=⟨ByteArray.empty,0,[],0,0,0,[],[],[],[]⟩
def Cq(M:KpM)(j:Nat):Ak:=M.C.ents.getD j Anx
def B9(M:KpM)(j:Nat):Option Di:=M.A.getD j O
def Fi(M:KpM)(j:Nat)(a:Option Di):KpM:={ M with A:=M.A.set j a}
def Hs(M:KpM):Nat:=if M.m.off=true then 8 else if M.D.reset=true then 11 else 0
def Gv(M:KpM)(i:Int):Nat:=if Hs M≠0 then Hs M else if i<0\/(M.A.length:Int)<=i then 5 else 0
def Ig(M:KpM)(i:Int):Nat × KpM:=if Gv M i≠0 then (Gv M i,M) else match B9 M i.toNat with
 |none=>(0,Fi M i.toNat (U (Iq (Cq M i.toNat))))
 |some _=>(10,M)
def Kk(M:KpM)(i:Int):Nat × KpM:=if Gv M i≠0 then (Gv M i,M) else match B9 M i.toNat with
 |none=>(9,M)
 |some _=>(0,Fi M i.toNat O)
def Gm(M:KpM)(i p:Int):Nat × KpM:=if Gv M i≠0 then (Gv M i,M) else match B9 M i.toNat with
 |none=>(9,M)
 |some a=>if p<0\/((Cq M i.toNat).points.length:Int)<=p then (5,M) else (0,Fi M i.toNat (U (Og (Cq M i.toNat) a p M.D.now)))
def Ano:ByteArray:=⟨#[105,100,108,101]⟩
def Cs:Option Di->ByteArray
 |none=>Ano
 |some a=>Oe a
def Fb(M:KpM)(j:Nat):Nat × KpM:=match B9 M j with
 |none=>(0,M)
 |some a=>if Kj (Cq M j) a=true then
   ((Bu M.m M.L M.dead j (Eb (Cq M j) a) M.D.now).1,{ Fi M j (U (Du (Cq M j) a))with m:=(Bu M.m M.L M.dead j (Eb (Cq M j) a) M.D.now).2.2.1,L:=(Bu M.m M.L M.dead j (Eb (Cq M j) a) M.D.now).2.2.2.1,dead:=(Bu M.m M.L M.dead j (Eb (Cq M j) a) M.D.now).2.2.2.2})
  else (0,Fi M j (U (Du (Cq M j) a)))
def Df(M:KpM):Nat->Nat × KpM
 |0=>(0,M)
 |j+1=>if (Df M j).1≠0 then Df M j else Fb (Df M j).2 j
def Qz(M:KpM):KpM:={ M with sn:=(St.next M.C.delay M.sn M.st (M.A.map Cs)).1,st:=(St.next M.C.delay M.sn M.st (M.A.map Cs)).2}
def Hi(M:KpM):KpM:=if M.st≠.stopped/\Ht M.D=true then { M with D:=I7 M.D} else M
def Q2(M:KpM):Nat × KpM:=if (Df M M.A.length).1≠0 then Df M M.A.length else (0,Hi (Qz (Df M M.A.length).2))
def Kl(M:KpM):KpM:={ M with D:=Ec M.D}
def Hr(M:KpM):Nat × KpM:=if Hs M≠0 then (Hs M,M) else if Fk M.D≠0 then (Fk M.D,Kl M) else if (Ec M.D).reset=true then (11,Kl M)
 else if (Ec M.D).now%M.C.cycle=0 then Q2 (Kl M) else (0,Kl M)
def Bi(M:KpM):Nat->Nat × KpM
 |0=>(0,M)
 |k+1=>if (Bi M k).1≠0 then Bi M k else Hr (Bi M k).2
def Hb(C:Ar)(D:Dd)(m:CM):KpM:=⟨C,D,m,Fg m.bs,false,List.replicate C.ents.length O,0,.ok⟩
def Lx(M:KpM):Nat × KpM:=if Hs M=0 then (10,M) else (0,Hb M.C (Ox M.D) ⟨M.m.bs,false,-1,M.m.wr⟩)
def Me(M:KpM):ByteArray:=if M.m.off=true then ⟨#[111,102,102]⟩ else if M.D.reset=true then ⟨#[114,101,115,101,116]⟩ else ⟨#[111,110]⟩
structure Bn (M:KpM) (T:Nat):Prop where
 bound:Es M.C=false
 small:∀E∈M.C.ents,O7 E
 dog:K6 M.D
 now:M.D.now<=T
 kicks:M.D.kicks<=T
 cm:J3 M.m (200*T)
 len:M.m.bs.length=4096
 An:M.A.length=M.C.ents.length
 run:∀a,U a∈M.A->0<=a.run/\a.run<=T
 tin:Zu M.C.delay M.sn M.st
 log:∃D,O5 M.m.bs D/\D.length<=8*T/\M.L=Lq D
 dead:M.dead=true->M.m.off=true
 t:T<=400000
theorem Bn.up{M:KpM}{T T':Nat}(h:Bn M T)(e:T<=T')(h2:T'<=400000):Bn M T':=by
 obtain⟨D,d1,d2,d3⟩:=h.log;refine⟨h.bound,h.small,h.dog,by have:=h.now;omega,by have:=h.kicks;omega,h.cm.mono (by omega),h.len,h.An,fun a d=>?_,h.tin,⟨D,d1,by omega,d3⟩,h.dead,h2⟩;have:=h.run a d;omega
theorem Er{C:Ar}(h:Es C=false):0<=C.closed/\C.closed<=1000/\1<=C.opn/\C.opn<=1000/\1<=C.cycle/\C.cycle<=100/\0<=C.delay/\C.delay<=20/\C.ents.length<=8:=by
 unfold Es at h;rw[decide_eq_false_iff_not]at h;omega
theorem Bn.an8{M:KpM}{T:Nat}(h:Bn M T):M.A.length<=8:=by
 have:=Er h.bound;have:=h.An;omega
theorem Bn.l8{M:KpM}{T:Nat}(h:Bn M T):M.L.length<=8/\(Gd M.L).seq<=8*T:=by
 obtain⟨D,d1,d2,d3⟩:=h.log;rw[d3,Lp (fun j a=>(d1.seq j a).1),Oj];omega
theorem pY{M:KpM}{j:Nat}{a:Di}(h:B9 M j=U a):j<M.A.length/\U a∈M.A:=by
 unfold B9 at h;rw[Of]at h;by_cases d:j<M.A.length
 ·rw[R4 d]at h;have e:M.A[j]=U a:=h;exact⟨d,by rw[<-e];exact M2 d⟩
 ·rw[List.getElem?_eq_none (by omega)]at h;cases h
theorem Bn.set{M:KpM}{T:Nat}(h:Bn M T){j:Nat}{a:Option Di}(e:∀x,a=U x->0<=x.run/\x.run<=T):Bn (Fi M j a) T:=by
 refine⟨h.bound,h.small,h.dog,h.now,h.kicks,h.cm,h.len,?_,fun x f=>?_,h.tin,h.log,h.dead,h.t⟩
 ·show(M.A.set j a).length=_
  rw[Zyz];exact h.An
 ·have d:U x∈M.A.set j a:=f;rcases List.mem_or_eq_of_mem_set d with h1|h1
  ·exact h.run x h1
  ·exact e x h1.symm
theorem Age{E:Ak}{a:Di}{T:Nat}(h:0<=a.run/\a.run<=T):0<=(Du E a).run/\(Du E a).run<=T+1:=by
 show 0<=Je E a/\Je E a<=_
 unfold Je;split<;>omega
theorem Acn{M:KpM}{T:Nat}(h:Bn M T)(i:Int):Bn (Ig M i).2 T:=by
 unfold Ig;split
 ·exact h
 ·split
  ·exact h.set (fun x a=>by obtain rfl:=Option.some.inj a;simp[Iq])
  ·exact h
theorem Agn{M:KpM}{T:Nat}(h:Bn M T)(i:Int):Bn (Kk M i).2 T:=by
 unfold Kk;split
 ·exact h
 ·split
  ·exact h
  ·exact h.set (fun x a=>by cases a)
theorem xN{M:KpM}{T:Nat}(h:Bn M T)(i p:Int):Bn (Gm M i p).2 T:=by
 unfold Gm;split
 ·exact h
 ·split
  ·exact h
  ·rename_i a ha;split
   ·exact h
   ·exact h.set (fun x d=>by obtain rfl:=Option.some.inj d;exact h.run a (pY ha).2)
theorem Abe{m:CM}{L D:List Ap}{dead:Bool}{p:Int}{e k t:Int}(d1:O5 m.bs D)(d2:D.length<=4000000)(d3:L=Lq D)(q:dead=false)(l:m.off=false)(a:J3 m p)(i:m.bs.length=4096)(f:Aew e k t=true):
  ∃m' L' dd r D',Bu m L dead e k t=(r.1,r.2,m',L',dd)/\J3 m' (p+18)/\m'.bs.length=4096/\(dd=true->m'.off=true)/\(r.1=0->m'.off=false)/\(r.1=0\/r.1=8)/\O5 m'.bs D'/\L'=Lq D'/\D'.length<=D.length+1/\
   (m.cut= -1->r=((0:Nat),Ki D e k t)/\D'=D++ [Ki D e k t]/\m'.cut= -1):=by
 have n:=fun j s=>(d1.seq j s).1;have A:=Lp n;have v:=rW n e k t;have y:Kv (Ki D e k t):=by
  have:=Zyq f;exact⟨by show 1<=D.length+1;omega,by show D.length+1<_;omega,by show e.toNat<_;omega,by show k.toNat<_;omega,by show t.toNat<_;omega⟩
 have u:=Aip d1 a.c0 l (rfl:(Ki D e k t).seq=D.length+1) y;have o:=fun a=>Af4 (Ki D e k t) a l d1.len;have d:=Amz (Ki D e k t) a;unfold Bu;rw[q,d3,if_neg (by decide),f,if_neg (by decide),if_neg (by rw[A];omega),v,Ach];obtain⟨_,hl2,h1|h1⟩:=u
 ·refine⟨_,Lq (D++ [Ki D e k t]),false,(0,Ki D e k t),D++ [Ki D e k t],by rw[if_pos h1.1],d,by rw[hl2,i],(fun g=>by cases g),fun _=>h1.2.1,.inl rfl,h1.2.2,rfl,by simp,fun a=>⟨rfl,rfl,(o a).2⟩⟩
 ·refine⟨_,Lq D,true,(8,⟨0,0,0,0⟩),D,by rw[if_neg (by omega),h1.1],d,by rw[hl2,i],fun _=>h1.2.1,(fun g=>by cases g),.inr rfl,h1.2.2,rfl,by omega,fun a=>?_⟩;have:=(o a).1;omega
theorem Acc(E:Ak)(a:Di):0<=Eb E a/\Eb E a<=3:=by
 unfold Eb;split
 ·decide
 ·split
  ·decide
  ·split<;>decide
structure O8 (M0:KpM) (T k:Nat) (M:KpM):Prop where
 eC:M.C=M0.C
 eD:M.D=M0.D
 es:M.sn=M0.sn
 et:M.st=M0.st
 eA:M.A.length=M0.A.length
 cm:J3 M.m (200*T+18*k)
 len:M.m.bs.length=4096
 run:∀j a,B9 M j=U a->0<=a.run/\a.run<=(if j<k then (T:Int)+1 else T)
 log:∃D,O5 M.m.bs D/\D.length<=8*T+k/\M.L=Lq D
 dead:M.dead=true->M.m.off=true
theorem O8.up{M0 M:KpM}{T k:Nat}(h:O8 M0 T k M):O8 M0 T (k+1) M:=by
 obtain⟨D,d1,d2,d3⟩:=h.log;refine⟨h.eC,h.eD,h.es,h.et,h.eA,h.cm.mono (by omega),h.len,fun j a e=>?_,⟨D,d1,by omega,d3⟩,h.dead⟩;have:=h.run j a e;refine⟨this.1,?_⟩;by_cases d:j<k
 ·rw[if_pos d]at this;rw[if_pos (by omega)];exact this.2
 ·rw[if_neg d]at this;split
  ·omega
  ·exact this.2
theorem Ys{M:KpM}{j i:Nat}{a:Option Di}(d:j<M.A.length):B9 (Fi M j a) i=if i=j then a else B9 M i:=by
 unfold B9 Fi;rw[Of,Of,Zxn];by_cases e:i=j
 ·subst e;rw[if_pos rfl,if_pos d,if_pos rfl];rfl
 ·rw[if_neg (fun h=>e h.symm),if_neg e]
theorem Lr{M:KpM}{j:Nat}(h:B9 M j=O):Fb M j=(0,M):=by unfold Fb;rw[h]
theorem M3{M:KpM}{j:Nat}{a:Di}(h:B9 M j=U a)(d:¬Kj (Cq M j) a=true):Fb M j=(0,Fi M j (U (Du (Cq M j) a))):=by
 unfold Fb;rw[h];exact if_neg d
theorem M1{M:KpM}{j:Nat}{a:Di}{r:Nat × Ap × CM × List Ap × Bool}(h:B9 M j=U a)(d:Kj (Cq M j) a=true)(e:Bu M.m M.L M.dead j (Eb (Cq M j) a) M.D.now=r):
  Fb M j=(r.1,{ Fi M j (U (Du (Cq M j) a))with m:=r.2.2.1,L:=r.2.2.2.1,dead:=r.2.2.2.2}):=by
 subst e;unfold Fb;rw[h];exact if_pos d
theorem Td{M0 M:KpM}{T j:Nat}(h:O8 M0 T j M)(hT:T<=400000)(p:j<M.A.length)(Z:M.A.length<=8)(o:M.m.off=false)(P:0<=M.D.now)(Q:M.D.now<=1099511627776):
  O8 M0 T (j+1) (Fb M j).2/\((Fb M j).1=0->(Fb M j).2.m.off=false)/\((Fb M j).1=0\/(Fb M j).1=8):=by
 cases n:B9 M j with
 |none=>rw[Lr n];exact⟨h.up,fun _=>o,.inl rfl⟩
 |some a=>
  have q:=h.run j a n;rw[if_neg (by omega)]at q;have l:=h.up;have g:∀i b,(if i=j then U (Du (Cq M j) a) else B9 M i)=U b->0<=b.run/\b.run<=(if i<j+1 then (T:Int)+1 else T):=fun i b d=>by
   by_cases e:i=j
   ·rw[if_pos e]at d;obtain rfl:=Option.some.inj d;rw[if_pos (by omega)];exact Age q
   ·rw[if_neg e]at d;exact l.run i b d
  have R:O8 M0 T (j+1) (Fi M j (U (Du (Cq M j) a))):=⟨h.eC,h.eD,h.es,h.et,by show(M.A.set j _).length=_;rw[Zyz];exact h.eA,l.cm,l.len,fun i b d=>g i b (by rw[<-d,Ys p]),l.log,l.dead⟩
  by_cases f:Kj (Cq M j) a=true
  ·obtain⟨D,d1,d2,d3⟩:=h.log;have L:M.dead=false:=by
    cases N:M.dead
    ·rfl
    ·have:=h.dead N;rw[o]at this;cases this
   have hk:=Acc (Cq M j) a;obtain⟨m',S,X,r,s,u,v,y,B,C,E,H,K,Y,_⟩:=Abe (e:=(j:Int)) (k:=Eb (Cq M j) a) (t:=M.D.now) d1 (by omega) d3 L o h.cm h.len (On (by omega));rw[M1 n f u];refine⟨⟨h.eC,h.eD,h.es,h.et,by show(M.A.set j _).length=_;rw[Zyz];exact h.eA,v.mono (by omega),y,fun i b d=>g i b (by rw[<-d];exact(Ys p).symm),⟨s,H,by omega,K⟩,B⟩,C,E⟩
  ·rw[M3 n f];exact⟨R,fun _=>o,.inl rfl⟩
theorem Mz{M:KpM}{T:Nat}(h:Bn M T)(f:M.m.off=false):∀k,k<=M.A.length->O8 M T k (Df M k).2/\((Df M k).1=0->(Df M k).2.m.off=false)/\((Df M k).1=0\/(Df M k).1=8)
 |0,_=>by
  refine⟨⟨rfl,rfl,rfl,rfl,rfl,h.cm.mono (by omega),h.len,fun j a ha=>?_,?_,h.dead⟩,fun _=>f,.inl rfl⟩
  ·have:=h.run a (pY ha).2
   rw[if_neg (by omega)];exact this
  ·obtain⟨D,d1,d2,d3⟩:=h.log
   exact⟨D,d1,by omega,d3⟩
 |k+1,hk=>by
  obtain⟨h1,h2,h3⟩:=Mz h f k (by omega)
  have d:=h.dog
  unfold Df
  by_cases e:(Df M k).1≠0
  ·rw[if_pos e]
   exact⟨h1.up,fun i=>absurd i e,h3⟩
  ·rw[if_neg e]
   have g:=h.an8
   exact Td h1 h.t (by rw[h1.eA];omega) (by rw[h1.eA];exact g) (h2 (by omega)) (by rw[h1.eD];have:=d.l0;have:=d.ln;omega) (by rw[h1.eD];exact d.n1)
theorem O8.ok{M0 M:KpM}{T k:Nat}(h:O8 M0 T k M)(h0:Bn M0 T)(l:k<=8)(d:T+1<=400000):Bn M (T+1):=by
 obtain⟨D,d1,d2,d3⟩:=h.log;refine⟨by rw[h.eC];exact h0.bound,by rw[h.eC];exact h0.small,by rw[h.eD];exact h0.dog,by rw[h.eD];have:=h0.now;omega,by rw[h.eD];have:=h0.kicks;omega,h.cm.mono (by omega),h.len,by rw[h.eA,h.eC];exact h0.An,fun a f=>?_,by rw[h.eC,h.es,h.et];exact h0.tin,⟨D,d1,by omega,d3⟩,h.dead,d⟩;obtain⟨j,i,e⟩:=List.mem_iff_getElem.1 f;have g:B9 M j=U a:=by
  unfold B9;rw[Of,R4 i,e];rfl
 have:=h.run j a g;refine⟨this.1,?_⟩;have h2:=this.2;split at h2<;>omega
theorem Ajt{M:KpM}{T:Nat}(h:Bn M T):Bn (Qz M) T:=
 ⟨h.bound,h.small,h.dog,h.now,h.kicks,h.cm,h.len,h.An,h.run,h.tin.next _,h.log,h.dead,h.t⟩
theorem Agq{M:KpM}{T:Nat}(h:Bn M (T+1))(a:M.D.kicks<=T):Bn (Hi M) (T+1):=by
 unfold Hi;split
 ·rename_i hh;have d:=h.t;refine⟨h.bound,h.small,Adl h.dog (by omega),?_,?_,h.cm,h.len,h.An,h.run,h.tin,h.log,h.dead,h.t⟩
  ·show(I7 M.D).now<=_
   rw[Nj hh.2];exact h.now
  ·show(I7 M.D).kicks<=_
   rw[Nj hh.2];show M.D.kicks+1<=_
   omega
 ·exact h
theorem Ajz{M:KpM}{T:Nat}(h:Bn M T)(e:M.m.off=false)(d:T+1<=400000):Bn (Q2 M).2 (T+1):=by
 obtain⟨h1,h2,h3⟩:=Mz h e M.A.length (Y2 _);have a:=h1.ok h h.an8 d;unfold Q2;split
 ·exact a
 ·refine Agq (Ajt a) ?_;show(Df M M.A.length).2.D.kicks<=_
  rw[h1.eD];exact h.kicks
theorem Uh{M:KpM}{T:Nat}(h:Bn M T)(j:T+1<=400000)(a:Fk M.D=0):Bn (Kl M) (T+1)/\(Ec M.D).now=M.D.now+1/\(Ec M.D).kicks=M.D.kicks:=by
 have e:M.D.reset=false:=by
  cases d:M.D.reset
  ·rfl
  ·unfold Fk at a;rw[d]at a;simp at a
 have l:¬1099511627776<=M.D.now:=fun d=>by unfold Fk at a;rw[e,if_neg (by decide),if_pos d]at a;cases a
 have g:(Ec M.D).now=M.D.now+1:=by unfold Ec;rw[e,if_neg (by decide),if_neg l]
 have i:(Ec M.D).kicks=M.D.kicks:=by unfold Ec;rw[e,if_neg (by decide),if_neg l]
 have f:=h.up (Zxt T) j;refine⟨⟨h.bound,h.small,Adk h.dog,?_,?_,f.cm,h.len,h.An,f.run,h.tin,f.log,h.dead,j⟩,g,i⟩
 ·show(Ec M.D).now<=_
  rw[g];have:=h.now;omega
 ·show(Ec M.D).kicks<=_
  rw[i];have:=h.kicks;omega
theorem Agl{M:KpM}{T:Nat}(h:Bn M T)(a:T+2<=400000):Bn (Hr M).2 (T+2):=by
 unfold Hr;split
 ·exact h.up (by omega) a
 ·rename_i hon;by_cases d:Fk M.D=0
  ·rw[if_neg (by omega)];obtain⟨h1,_,_⟩:=Uh h (by omega) d;split
   ·exact h1.up (by omega) a
   ·split
    ·refine Ajz h1 ?_ a;show M.m.off=false
     cases f:M.m.off
     ·rfl
     ·exfalso;apply hon;unfold Hs;rw[if_pos f];decide
    ·exact h1.up (by omega) a
  ·rw[if_pos d];have j:=h.dog;have l:=h.now;have n:=h.t;unfold Fk at d;have g:M.D.reset=true:=by
    cases f:M.D.reset
    ·rw[f,if_neg (by decide),if_neg (by omega)]at d;exact absurd rfl d
    ·rfl
   have i:=h.up (Nat.le_add_right T 2) a;have e:Kl M=M:=by unfold Kl Ec;rw[g,if_pos rfl]
   rw[e];exact i
theorem My{M:KpM}{T:Nat}(h:Bn M T):∀k,T+2*k<=400000->Bn (Bi M k).2 (T+2*k)
 |0,_=>h
 |k+1,hk=>by
  have ih:=My h k (by omega)
  unfold Bi
  split
  ·exact ih.up (by omega) hk
  ·exact(Agl ih (by omega)).up (by omega) hk
theorem Xj:(-1:Int)<= -1/\(-1:Int)<=9223372036854775807:=by omega
theorem Ala{d:Int}(h:0<=d):Zu d 0 .ok:=⟨by omega,h,fun _=>rfl,fun hh=>by cases hh⟩
theorem Ajv(C:Ar)(D:Dd)(m:CM):(Hb C D m).L=Fg m.bs:=by simp only[Hb]
theorem xO(C:Ar)(D:Dd)(m:CM):(Hb C D m).dead=false:=rfl
theorem pW{C:Ar}{D:Dd}{m:CM}{E:List Ap}{T:Nat}(h1:Es C=false)(h2:∀E∈C.ents,O7 E)(h3:K6 D)(i:D.now<=T)(j:D.kicks<=T)(l:J3 m (200*T))(n:m.bs.length=4096)(f:O5 m.bs E)(o:E.length<=8*T)(d:T<=400000):Bn (Hb C D m) T:=by
 have s:=Er h1;have e:Zu C.delay 0 .ok:=Ala (by omega);refine⟨h1,h2,h3,i,j,l,n,by simp[Hb],fun a p=>?_,e,⟨E,f,o,?_⟩,fun g=>?_,d⟩
 ·have:U a∈List.replicate C.ents.length (O:Option Di):=p;rw[List.mem_replicate]at this;cases this.2
 ·have q:=pF f;rw[Ajv];unfold Lq;exact q
 ·rw[xO]at g;exact absurd g (by decide)
theorem Agt{M:KpM}{T:Nat}(h:Bn M T):Bn (Lx M).2 T:=by
 unfold Lx;split
 ·exact h
 ·obtain⟨D,d1,d2,d3⟩:=h.log;have a:J3 ⟨M.m.bs,false,-1,M.m.wr⟩ (200*T):=⟨Xj.1,Xj.2,h.cm.w0,h.cm.w1⟩
  exact pW h.bound h.small (zH h.dog) h.now h.kicks a h.len d1 d2 h.t
theorem Akk{m:CM}{k n:Int}(h:J3 m k)(a:n<=9223372036854775807):J3 (Qn m n) k:=by
 unfold Qn;split
 ·exact h
 ·split
  ·exact h
  ·exact⟨by show -1<=n;omega,a,h.w0,h.w1⟩
theorem Aj1{M:KpM}{T:Nat}(h:Bn M T){n:Int}(g:n<=9223372036854775807):Bn { M with m:=Qn M.m n} T:=by
 have a:(Qn M.m n).bs=M.m.bs:=by unfold Qn;split<;>(try split)<;>rfl
 have e:M.m.off=true->(Qn M.m n).off=true:=fun d=>by unfold Qn;rw[if_pos d];split<;>exact d
 obtain⟨D,d1,d2,d3⟩:=h.log;exact⟨h.bound,h.small,h.dog,h.now,h.kicks,Akk h.cm g,by show(Qn M.m n).bs.length=_;rw[a];exact h.len,h.An,h.run,h.tin,⟨D,by show O5 (Qn M.m n).bs D;rw[a];exact d1,d2,d3⟩,fun f=>e (h.dead f),h.t⟩
