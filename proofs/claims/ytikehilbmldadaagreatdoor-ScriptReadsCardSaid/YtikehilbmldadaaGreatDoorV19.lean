import Derived.Test.YtikehilbmldadaaGreatDoorV10
import Derived.Test.YtikehilbmldadaaGreatDoorV15
import Derived.Test.YtikehilbmldadaaGreatDoorV18
set_option linter.unusedVariables false
open Go.Proofs.Tryz Go.Proofs.YtikehilbmldadaaGreatDoor.Tryz
namespace Go.Proofs.YtikehilbmldadaaGreatDoor
open Go.RowKit
structure KpM where
 C:Al
 D:D3
 m:CM
 L:List Ar
 dead:Bool
 A:List (Option C0)
 sn:Int
 st:St
def Ah6:Ap:=⟨ByteArray.empty,0,[],0,0,0,[],[],[],[]⟩
def Cy(M:KpM)(j:Nat):Ap:=M.C.ents.getD j Ah6
def Cq(M:KpM)(j:Nat):Option C0:=M.A.getD j none
def Ge(M:KpM)(j:Nat)(a:Option C0):KpM:={ M with A:=M.A.set j a}
def Jz(M:KpM):Nat:=if M.m.off=true then 8 else if M.D.reset=true then 11 else 0
def Hb(M:KpM)(i:Int):Nat:=if Jz M≠0 then Jz M else if i<0\/(M.A.length:Int)<=i then 5 else 0
def Kd(M:KpM)(i:Int):Nat × KpM:=if Hb M i≠0 then (Hb M i,M) else match Cq M i.toNat with
 |none=>(0,Ge M i.toNat (some (Iv (Cy M i.toNat))))
 |some _=>(10,M)
def Nd(M:KpM)(i:Int):Nat × KpM:=if Hb M i≠0 then (Hb M i,M) else match Cq M i.toNat with
 |none=>(9,M)
 |some _=>(0,Ge M i.toNat none)
def Ix(M:KpM)(i p:Int):Nat × KpM:=if Hb M i≠0 then (Hb M i,M) else match Cq M i.toNat with
 |none=>(9,M)
 |some a=>if p<0\/((Cy M i.toNat).points.length:Int)<=p then (5,M) else (0,Ge M i.toNat (some (X3 (Cy M i.toNat) a p M.D.now)))
def Aea:ByteArray:=⟨#[105,100,108,101]⟩
def Cr:Option C0->ByteArray
 |none=>Aea
 |some a=>Kl a
def D9(M:KpM)(j:Nat):Nat × KpM:=match Cq M j with
 |none=>(0,M)
 |some a=>if Hx (Cy M j) a=true then
   ((Dl M.m M.L M.dead j (Dh (Cy M j) a) M.D.now).1,{ Ge M j (some (D1 (Cy M j) a))with m:=(Dl M.m M.L M.dead j (Dh (Cy M j) a) M.D.now).2.2.1,L:=(Dl M.m M.L M.dead j (Dh (Cy M j) a) M.D.now).2.2.2.1,dead:=(Dl M.m M.L M.dead j (Dh (Cy M j) a) M.D.now).2.2.2.2})
  else (0,Ge M j (some (D1 (Cy M j) a)))
def Ci(M:KpM):Nat->Nat × KpM
 |0=>(0,M)
 |j+1=>if (Ci M j).1≠0 then Ci M j else D9 (Ci M j).2 j
def Nz(M:KpM):KpM:={ M with sn:=(St.next M.C.delay M.sn M.st (M.A.map Cr)).1,st:=(St.next M.C.delay M.sn M.st (M.A.map Cr)).2}
def J0(M:KpM):KpM:=if M.st≠.stopped/\Gv M.D=true then { M with D:=Hu M.D} else M
def Ou(M:KpM):Nat × KpM:=if (Ci M M.A.length).1≠0 then Ci M M.A.length else (0,J0 (Nz (Ci M M.A.length).2))
def I5(M:KpM):KpM:={ M with D:=Dm M.D}
def Iw(M:KpM):Nat × KpM:=if Jz M≠0 then (Jz M,M) else if Eo M.D≠0 then (Eo M.D,I5 M) else if (Dm M.D).reset=true then (11,I5 M)
 else if (Dm M.D).now%M.C.cycle=0 then Ou (I5 M) else (0,I5 M)
def Bz(M:KpM):Nat->Nat × KpM
 |0=>(0,M)
 |k+1=>if (Bz M k).1≠0 then Bz M k else Iw (Bz M k).2
def Iy(C:Al)(D:D3)(m:CM):KpM:=⟨C,D,m,Ir m.bs,false,List.replicate C.ents.length none,0,.ok⟩
def Ov(M:KpM):Nat × KpM:=if Jz M=0 then (10,M) else (0,Iy M.C (Ru M.D) ⟨M.m.bs,false,-1,M.m.wr⟩)
def Pv(M:KpM):ByteArray:=if M.m.off=true then ⟨#[111,102,102]⟩ else if M.D.reset=true then ⟨#[114,101,115,101,116]⟩ else ⟨#[111,110]⟩
structure B8 (M:KpM) (T:Nat):Prop where
 bound:Dt M.C=false
 small:∀E∈M.C.ents,Yr E
 dog:Mw M.D
 now:M.D.now<=T
 kicks:M.D.kicks<=T
 cm:Kj M.m (200*T)
 len:M.m.bs.length=4096
 An:M.A.length=M.C.ents.length
 run:∀a,some a∈M.A->0<=a.run/\a.run<=T
 tin:gM M.C.delay M.sn M.st
 log:∃D,Lu M.m.bs D/\D.length<=8*T/\M.L=J6 D
 dead:M.dead=true->M.m.off=true
 t:T<=400000
theorem B8.up{M:KpM}{T T':Nat}(h:B8 M T)(hT:T<=T')(h2:T'<=400000):B8 M T':=by
 obtain⟨D,d1,d2,d3⟩:=h.log
 refine⟨h.bound,h.small,h.dog,by have:=h.now;omega,by have:=h.kicks;omega,h.cm.mono (by omega),h.len,h.An,fun a ha=>?_,h.tin,⟨D,d1,by omega,d3⟩,h.dead,h2⟩
 have:=h.run a ha
 omega
theorem Fh{C:Al}(h:Dt C=false):0<=C.closed/\C.closed<=1000/\1<=C.opn/\C.opn<=1000/\1<=C.cycle/\C.cycle<=100/\0<=C.delay/\C.delay<=20/\C.ents.length<=8:=by
 unfold Dt at h
 rw[decide_eq_false_iff_not]at h
 omega
theorem B8.an8{M:KpM}{T:Nat}(h:B8 M T):M.A.length<=8:=by
 have:=Fh h.bound
 have:=h.An
 omega
theorem B8.l8{M:KpM}{T:Nat}(h:B8 M T):M.L.length<=8/\(Gz M.L).seq<=8*T:=by
 obtain⟨D,d1,d2,d3⟩:=h.log
 rw[d3,Lg (fun j hj=>(d1.seq j hj).1),Pu]
 omega
theorem So{M:KpM}{j:Nat}{a:C0}(h:Cq M j=some a):j<M.A.length/\some a∈M.A:=by
 unfold Cq at h
 rw[List.getD_eq_getElem?_getD]at h
 by_cases hj:j<M.A.length
 ·rw[List.getElem?_eq_getElem hj]at h
  have e:M.A[j]=some a:=h
  exact⟨hj,by rw[<-e];exact List.getElem_mem hj⟩
 ·rw[List.getElem?_eq_none (by omega)]at h
  cases h
theorem B8.set{M:KpM}{T:Nat}(h:B8 M T){j:Nat}{a:Option C0}(ha:∀x,a=some x->0<=x.run/\x.run<=T):B8 (Ge M j a) T:=by
 refine⟨h.bound,h.small,h.dog,h.now,h.kicks,h.cm,h.len,?_,fun x hx=>?_,h.tin,h.log,h.dead,h.t⟩
 ·show(M.A.set j a).length=_
  rw[List.length_set];exact h.An
 ·have hx':some x∈M.A.set j a:=hx
  rcases List.mem_or_eq_of_mem_set hx' with h1|h1
  ·exact h.run x h1
  ·exact ha x h1.symm
theorem Aam{E:Ap}{a:C0}{T:Nat}(h:0<=a.run/\a.run<=T):0<=(D1 E a).run/\(D1 E a).run<=T+1:=by
 show 0<=Hc E a/\Hc E a<=_
 unfold Hc
 split<;>omega
theorem vB{M:KpM}{T:Nat}(h:B8 M T)(i:Int):B8 (Kd M i).2 T:=by
 unfold Kd
 split
 ·exact h
 ·split
  ·exact h.set (fun x hx=>by obtain rfl:=Option.some.inj hx;simp[Iv])
  ·exact h
theorem Aat{M:KpM}{T:Nat}(h:B8 M T)(i:Int):B8 (Nd M i).2 T:=by
 unfold Nd
 split
 ·exact h
 ·split
  ·exact h
  ·exact h.set (fun x hx=>by cases hx)
theorem pL{M:KpM}{T:Nat}(h:B8 M T)(i p:Int):B8 (Ix M i p).2 T:=by
 unfold Ix
 split
 ·exact h
 ·split
  ·exact h
  ·rename_i a ha
   split
   ·exact h
   ·exact h.set (fun x hx=>by obtain rfl:=Option.some.inj hx;exact h.run a (So ha).2)
theorem sM{m:CM}{L D:List Ar}{dead:Bool}{kk:Int}{e k t:Int}(d1:Lu m.bs D)(d2:D.length<=4000000)(d3:L=J6 D)(hd:dead=false)(ho:m.off=false)(hc:Kj m kk)(hl:m.bs.length=4096)(hok:Afc e k t=true):
  ∃m' L' dd r D',Dl m L dead e k t=(r.1,r.2,m',L',dd)/\Kj m' (kk+18)/\m'.bs.length=4096/\(dd=true->m'.off=true)/\(r.1=0->m'.off=false)/\(r.1=0\/r.1=8)/\Lu m'.bs D'/\L'=J6 D'/\D'.length<=D.length+1/\
   (m.cut= -1->r=((0:Nat),Iu D e k t)/\D'=D++ [Iu D e k t]/\m'.cut= -1):=by
 have hs:=fun j hj=>(d1.seq j hj).1
 have hz:=Lg hs
 have hr:=Y9 hs e k t
 have hx:J8 (Iu D e k t):=by
  have:=of_decide_eq_true hok
  exact⟨by show 1<=D.length+1;omega,by show D.length+1<_;omega,by show e.toNat<_;omega,by show k.toNat<_;omega,by show t.toNat<_;omega⟩
 have hp:=Adc d1 hc.c0 ho (rfl:(Iu D e k t).seq=D.length+1) hx
 have hu:=fun hc=>zY (Iu D e k t) hc ho d1.len
 have hok2:=Ag2 (Iu D e k t) hc
 unfold Dl
 rw[hd,d3,if_neg (by decide),hok,if_neg (by decide),if_neg (by rw[hz];omega),hr,tV]
 obtain⟨_,hl2,h1|h1⟩:=hp
 ·refine⟨_,J6 (D++ [Iu D e k t]),false,(0,Iu D e k t),D++ [Iu D e k t],by rw[if_pos h1.1],hok2,by rw[hl2,hl],(fun hh=>by cases hh),fun _=>h1.2.1,.inl rfl,h1.2.2,rfl,by simp,fun hc=>⟨rfl,rfl,(hu hc).2⟩⟩
 ·refine⟨_,J6 D,true,(8,⟨0,0,0,0⟩),D,by rw[if_neg (by omega),h1.1],hok2,by rw[hl2,hl],fun _=>h1.2.1,(fun hh=>by cases hh),.inr rfl,h1.2.2,rfl,by omega,fun hc=>?_⟩
  have:=(hu hc).1
  omega
theorem tS(E:Ap)(a:C0):0<=Dh E a/\Dh E a<=3:=by
 unfold Dh
 split
 ·decide
 ·split
  ·decide
  ·split<;>decide
structure Ph (M0:KpM) (T k:Nat) (M:KpM):Prop where
 eC:M.C=M0.C
 eD:M.D=M0.D
 es:M.sn=M0.sn
 et:M.st=M0.st
 eA:M.A.length=M0.A.length
 cm:Kj M.m (200*T+18*k)
 len:M.m.bs.length=4096
 run:∀j a,Cq M j=some a->0<=a.run/\a.run<=(if j<k then (T:Int)+1 else T)
 log:∃D,Lu M.m.bs D/\D.length<=8*T+k/\M.L=J6 D
 dead:M.dead=true->M.m.off=true
theorem Ph.up{M0 M:KpM}{T k:Nat}(h:Ph M0 T k M):Ph M0 T (k+1) M:=by
 obtain⟨D,d1,d2,d3⟩:=h.log
 refine⟨h.eC,h.eD,h.es,h.et,h.eA,h.cm.mono (by omega),h.len,fun j a ha=>?_,⟨D,d1,by omega,d3⟩,h.dead⟩
 have:=h.run j a ha
 refine⟨this.1,?_⟩
 by_cases hj:j<k
 ·rw[if_pos hj]at this;rw[if_pos (by omega)];exact this.2
 ·rw[if_neg hj]at this
  split
  ·omega
  ·exact this.2
theorem Vg{M:KpM}{j i:Nat}{a:Option C0}(hj:j<M.A.length):Cq (Ge M j a) i=if i=j then a else Cq M i:=by
 unfold Cq Ge
 rw[List.getD_eq_getElem?_getD,List.getD_eq_getElem?_getD,List.getElem?_set]
 by_cases e:i=j
 ·subst e;rw[if_pos rfl,if_pos hj,if_pos rfl];rfl
 ·rw[if_neg (fun h=>e h.symm),if_neg e]
theorem Ot{M:KpM}{j:Nat}(h:Cq M j=none):D9 M j=(0,M):=by unfold D9;rw[h]
theorem Q1{M:KpM}{j:Nat}{a:C0}(h:Cq M j=some a)(hn:¬Hx (Cy M j) a=true):D9 M j=(0,Ge M j (some (D1 (Cy M j) a))):=by
 unfold D9;rw[h];exact if_neg hn
theorem Qz{M:KpM}{j:Nat}{a:C0}{r:Nat × Ar × CM × List Ar × Bool}(h:Cq M j=some a)(hn:Hx (Cy M j) a=true)(hr:Dl M.m M.L M.dead j (Dh (Cy M j) a) M.D.now=r):
  D9 M j=(r.1,{ Ge M j (some (D1 (Cy M j) a))with m:=r.2.2.1,L:=r.2.2.2.1,dead:=r.2.2.2.2}):=by
 subst hr;unfold D9;rw[h];exact if_pos hn
theorem Vi{M0 M:KpM}{T j:Nat}(h:Ph M0 T j M)(hT:T<=400000)(hj:j<M.A.length)(h8:M.A.length<=8)(ho:M.m.off=false)(hn0:0<=M.D.now)(hn1:M.D.now<=1099511627776):
  Ph M0 T (j+1) (D9 M j).2/\((D9 M j).1=0->(D9 M j).2.m.off=false)/\((D9 M j).1=0\/(D9 M j).1=8):=by
 cases ha:Cq M j with
 |none=>rw[Ot ha];exact⟨h.up,fun _=>ho,.inl rfl⟩
 |some a=>
  have hr:=h.run j a ha
  rw[if_neg (by omega)]at hr
  have hm:=h.up
  have hrun:∀i b,(if i=j then some (D1 (Cy M j) a) else Cq M i)=some b->0<=b.run/\b.run<=(if i<j+1 then (T:Int)+1 else T):=fun i b hb=>by
   by_cases e:i=j
   ·rw[if_pos e]at hb
    obtain rfl:=Option.some.inj hb
    rw[if_pos (by omega)]
    exact Aam hr
   ·rw[if_neg e]at hb
    exact hm.run i b hb
  have hs:Ph M0 T (j+1) (Ge M j (some (D1 (Cy M j) a))):=⟨h.eC,h.eD,h.es,h.et,by show(M.A.set j _).length=_;rw[List.length_set];exact h.eA,hm.cm,hm.len,fun i b hb=>hrun i b (by rw[<-hb,Vg hj]),hm.log,hm.dead⟩
  by_cases hnow:Hx (Cy M j) a=true
  ·obtain⟨D,d1,d2,d3⟩:=h.log
   have hd:M.dead=false:=by
    cases hh:M.dead
    ·rfl
    ·have:=h.dead hh
     rw[ho]at this;cases this
   have hk:=tS (Cy M j) a
   obtain⟨m',L',dd,r,D',e1,e2,e3,e4,e5,e6,e7,e8,e9,_⟩:=sM (e:=(j:Int)) (k:=Dh (Cy M j) a) (t:=M.D.now) d1 (by omega) d3 hd ho h.cm h.len (decide_eq_true (by omega))
   rw[Qz ha hnow e1]
   refine⟨⟨h.eC,h.eD,h.es,h.et,by show(M.A.set j _).length=_;rw[List.length_set];exact h.eA,e2.mono (by omega),e3,fun i b hb=>hrun i b (by rw[<-hb];exact(Vg hj).symm),⟨D',e7,by omega,e8⟩,e4⟩,e5,e6⟩
  ·rw[Q1 ha hnow];exact⟨hs,fun _=>ho,.inl rfl⟩
theorem Nf{M:KpM}{T:Nat}(h:B8 M T)(ho:M.m.off=false):∀k,k<=M.A.length->Ph M T k (Ci M k).2/\((Ci M k).1=0->(Ci M k).2.m.off=false)/\((Ci M k).1=0\/(Ci M k).1=8)
 |0,_=>by
  refine⟨⟨rfl,rfl,rfl,rfl,rfl,h.cm.mono (by omega),h.len,fun j a ha=>?_,?_,h.dead⟩,fun _=>ho,.inl rfl⟩
  ·have:=h.run a (So ha).2
   rw[if_neg (by omega)];exact this
  ·obtain⟨D,d1,d2,d3⟩:=h.log
   exact⟨D,d1,by omega,d3⟩
 |k+1,hk=>by
  obtain⟨h1,h2,h3⟩:=Nf h ho k (by omega)
  have hd:=h.dog
  unfold Ci
  by_cases he:(Ci M k).1≠0
  ·rw[if_pos he]
   exact⟨h1.up,fun hh=>absurd hh he,h3⟩
  ·rw[if_neg he]
   have h8:=h.an8
   exact Vi h1 h.t (by rw[h1.eA];omega) (by rw[h1.eA];exact h8) (h2 (by omega)) (by rw[h1.eD];have:=hd.l0;have:=hd.ln;omega) (by rw[h1.eD];exact hd.n1)
theorem Ph.ok{M0 M:KpM}{T k:Nat}(h:Ph M0 T k M)(h0:B8 M0 T)(hk:k<=8)(hT:T+1<=400000):B8 M (T+1):=by
 obtain⟨D,d1,d2,d3⟩:=h.log
 refine⟨by rw[h.eC];exact h0.bound,by rw[h.eC];exact h0.small,by rw[h.eD];exact h0.dog,by rw[h.eD];have:=h0.now;omega,by rw[h.eD];have:=h0.kicks;omega,h.cm.mono (by omega),h.len,by rw[h.eA,h.eC];exact h0.An,fun a ha=>?_,by rw[h.eC,h.es,h.et];exact h0.tin,⟨D,d1,by omega,d3⟩,h.dead,hT⟩
 obtain⟨j,hj,e⟩:=List.mem_iff_getElem.1 ha
 have hg:Cq M j=some a:=by
  unfold Cq
  rw[List.getD_eq_getElem?_getD,List.getElem?_eq_getElem hj,e];rfl
 have:=h.run j a hg
 refine⟨this.1,?_⟩
 have h2:=this.2
 split at h2<;>omega
theorem Ad2{M:KpM}{T:Nat}(h:B8 M T):B8 (Nz M) T:=
 ⟨h.bound,h.small,h.dog,h.now,h.kicks,h.cm,h.len,h.An,h.run,h.tin.next _,h.log,h.dead,h.t⟩
theorem Aax{M:KpM}{T:Nat}(h:B8 M (T+1))(hk:M.D.kicks<=T):B8 (J0 M) (T+1):=by
 unfold J0
 split
 ·rename_i hh
  have ht:=h.t
  refine⟨h.bound,h.small,wK h.dog (by omega),?_,?_,h.cm,h.len,h.An,h.run,h.tin,h.log,h.dead,h.t⟩
  ·show(Hu M.D).now<=_
   rw[Li hh.2];exact h.now
  ·show(Hu M.D).kicks<=_
   rw[Li hh.2]
   show M.D.kicks+1<=_
   omega
 ·exact h
theorem Ad5{M:KpM}{T:Nat}(h:B8 M T)(ho:M.m.off=false)(hT:T+1<=400000):B8 (Ou M).2 (T+1):=by
 obtain⟨h1,h2,h3⟩:=Nf h ho M.A.length (Nat.le_refl _)
 have h4:=h1.ok h h.an8 hT
 unfold Ou
 split
 ·exact h4
 ·refine Aax (Ad2 h4) ?_
  show(Ci M M.A.length).2.D.kicks<=_
  rw[h1.eD];exact h.kicks
theorem Vj{M:KpM}{T:Nat}(h:B8 M T)(hT:T+1<=400000)(he:Eo M.D=0):B8 (I5 M) (T+1)/\(Dm M.D).now=M.D.now+1/\(Dm M.D).kicks=M.D.kicks:=by
 have hr:M.D.reset=false:=by
  cases hh:M.D.reset
  ·rfl
  ·unfold Eo at he;rw[hh]at he;simp at he
 have hn:¬1099511627776<=M.D.now:=fun hh=>by unfold Eo at he;rw[hr,if_neg (by decide),if_pos hh]at he;cases he
 have e1:(Dm M.D).now=M.D.now+1:=by unfold Dm;rw[hr,if_neg (by decide),if_neg hn]
 have e2:(Dm M.D).kicks=M.D.kicks:=by unfold Dm;rw[hr,if_neg (by decide),if_neg hn]
 have hu:=h.up (Nat.le_succ T) hT
 refine⟨⟨h.bound,h.small,wJ h.dog,?_,?_,hu.cm,h.len,h.An,hu.run,h.tin,hu.log,h.dead,hT⟩,e1,e2⟩
 ·show(Dm M.D).now<=_
  rw[e1];have:=h.now;omega
 ·show(Dm M.D).kicks<=_
  rw[e2];have:=h.kicks;omega
theorem Aar{M:KpM}{T:Nat}(h:B8 M T)(hT:T+2<=400000):B8 (Iw M).2 (T+2):=by
 unfold Iw
 split
 ·exact h.up (by omega) hT
 ·rename_i hon
  by_cases he:Eo M.D=0
  ·rw[if_neg (by omega)]
   obtain⟨h1,_,_⟩:=Vj h (by omega) he
   split
   ·exact h1.up (by omega) hT
   ·split
    ·refine Ad5 h1 ?_ hT
     show M.m.off=false
     cases hh:M.m.off
     ·rfl
     ·exfalso;apply hon;unfold Jz;rw[if_pos hh];decide
    ·exact h1.up (by omega) hT
  ·rw[if_pos he]
   have hd:=h.dog
   have hn:=h.now
   have ht:=h.t
   unfold Eo at he
   have hr:M.D.reset=true:=by
    cases hh:M.D.reset
    ·rw[hh,if_neg (by decide),if_neg (by omega)]at he;exact absurd rfl he
    ·rfl
   have hu:=h.up (Nat.le_add_right T 2) hT
   have e:I5 M=M:=by unfold I5 Dm;rw[hr,if_pos rfl]
   rw[e];exact hu
theorem Nc{M:KpM}{T:Nat}(h:B8 M T):∀k,T+2*k<=400000->B8 (Bz M k).2 (T+2*k)
 |0,_=>h
 |k+1,hk=>by
  have ih:=Nc h k (by omega)
  unfold Bz
  split
  ·exact ih.up (by omega) hk
  ·exact(Aar ih (by omega)).up (by omega) hk
theorem T4:(-1:Int)<= -1/\(-1:Int)<=9223372036854775807:=by omega
theorem Afn{d:Int}(h:0<=d):gM d 0 .ok:=⟨by omega,h,fun _=>rfl,fun hh=>by cases hh⟩
theorem pN(C:Al)(D:D3)(m:CM):(Iy C D m).L=Ir m.bs:=by simp only[Iy]
theorem pM(C:Al)(D:D3)(m:CM):(Iy C D m).dead=false:=rfl
theorem Ya{C:Al}{D:D3}{m:CM}{E:List Ar}{T:Nat}(h1:Dt C=false)(h2:∀E∈C.ents,Yr E)(h3:Mw D)(h4:D.now<=T)(h5:D.kicks<=T)(h6:Kj m (200*T))(h7:m.bs.length=4096)(h8:Lu m.bs E)(h9:E.length<=8*T)(h10:T<=400000):B8 (Iy C D m) T:=by
 have hb:=Fh h1
 have hti:gM C.delay 0 .ok:=Afn (by omega)
 refine⟨h1,h2,h3,h4,h5,h6,h7,by simp[Iy],fun a ha=>?_,hti,⟨E,h8,h9,?_⟩,fun hh=>?_,h10⟩
 ·have:some a∈List.replicate C.ents.length (none:Option C0):=ha
  rw[List.mem_replicate]at this
  cases this.2
 ·have hr:=Xr h8
  rw[pN]
  unfold J6
  exact hr
 ·rw[pM]at hh
  exact absurd hh (by decide)
theorem Aa3{M:KpM}{T:Nat}(h:B8 M T):B8 (Ov M).2 T:=by
 unfold Ov
 split
 ·exact h
 ·obtain⟨D,d1,d2,d3⟩:=h.log
  have hc:Kj ⟨M.m.bs,false,-1,M.m.wr⟩ (200*T):=⟨T4.1,T4.2,h.cm.w0,h.cm.w1⟩
  exact Ya h.bound h.small (qP h.dog) h.now h.kicks hc h.len d1 d2 h.t
theorem Aer{m:CM}{k n:Int}(h:Kj m k)(hn:n<=9223372036854775807):Kj (Rw m n) k:=by
 unfold Rw
 split
 ·exact h
 ·split
  ·exact h
  ·exact⟨by show -1<=n;omega,hn,h.w0,h.w1⟩
theorem Ad7{M:KpM}{T:Nat}(h:B8 M T){n:Int}(hn:n<=9223372036854775807):B8 { M with m:=Rw M.m n} T:=by
 have e1:(Rw M.m n).bs=M.m.bs:=by unfold Rw;split<;>(try split)<;>rfl
 have e2:M.m.off=true->(Rw M.m n).off=true:=fun ho=>by unfold Rw;rw[if_pos ho];split<;>exact ho
 obtain⟨D,d1,d2,d3⟩:=h.log
 exact⟨h.bound,h.small,h.dog,h.now,h.kicks,Aer h.cm hn,by show(Rw M.m n).bs.length=_;rw[e1];exact h.len,h.An,h.run,h.tin,⟨D,by show Lu (Rw M.m n).bs D;rw[e1];exact d1,d2,d3⟩,fun hd=>e2 (h.dead hd),h.t⟩
end Go.Proofs.YtikehilbmldadaaGreatDoor
