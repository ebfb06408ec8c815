import Derived.Test.YtikehilbmldadaaGreatDoorV42
import Derived.Test.YtikehilbmldadaaGreatDoorV32
set_option maxHeartbeats 4000000
set_option maxRecDepth 100000
set_option linter.unusedVariables false
open Go.Proofs.Tryz Go.Proofs.YtikehilbmldadaaGreatDoor.Tryz
namespace Go.Proofs.YtikehilbmldadaaGreatDoor
section
open Go.RowKit
theorem kH(l:List UInt8):(⟨l.toArray⟩:ByteArray).size=l.length:=by simp[ByteArray.size]
def Sm(kb d c rb a b:Nat):Nat->Nat:=fun k=>if k=kb then 1 else if k=d then 2 else if k=c then 3 else if k=rb then 4 else if a<=k/\k<b then 8 else 0
theorem Af2{B:Nat}{sa:Nat->Addr}{w0 w w2 w3 w4 w5:World}{c rb cap:Nat}{C:Al}{v:Value}{X:List Aw}{m:CM}{kb d:Nat}{D:D3}
  (hS:Eb B sa w) (bel:Below w0.heap.size w0 w) (hB:B<=w0.heap.size) (hm:A1 w c rb (some ⟨rb,0,none⟩) cap m) (hc:w0.heap.size<=c/\w0.heap.size<=rb)
  (b2:Below w.heap.size w w2) (hX:Ez (fun b=>w2.heap.size<=b/\b<w3.heap.size) w3 C v X) (b3:Below w2.heap.size w2 w3) (k4:Ae (fun b=>b<w2.heap.size) w3 w4) (bw:Below w.heap.size w w4) (hd:C7 w5 d D) (hd4:w4.heap.size<=d) (b5:Below w4.heap.size w4 w5)
  (o:Obj) (hk:kb=w5.heap.size):
  KpB B sa w0 kb c ⟨d,rb,cap,0,0,v,v,v,X,[]⟩ C D m (Sm kb d c rb w2.heap.size w3.heap.size) (w5.alloc o)/\Below w.heap.size w (w5.alloc o):=by
 have hcl:=Aa hm.box
 have hrl:rb<w.heap.size:=by
  obtain⟨C,t,hh,_⟩:=hm.row rfl
  exact Aa hh
 have hdl:=Aa hd
 have s0:=bel.size
 have s2:=b2.size
 have s3:=b3.size
 have s4:=k4.size
 have s5:=b5.size
 have hne:=hm.ne
 have hbo:Below w5.heap.size w5 (w5.alloc o):=(Below.refl _ _).alloc (Nat.le_refl _) _
 have hw5:Below w.heap.size w w5:=bw.trans (b5.mono bw.size)
 have hw6:Below w.heap.size w (w5.alloc o):=hw5.trans (hbo.mono hw5.size)
 have hsz:(w5.alloc o).heap.size=w5.heap.size+1:=World.size_alloc _ _
 have n1:Sm kb d c rb w2.heap.size w3.heap.size kb=1:=if_pos rfl
 have n2:Sm kb d c rb w2.heap.size w3.heap.size d=2:=by unfold Sm;rw[if_neg (by omega),if_pos rfl]
 have n3:Sm kb d c rb w2.heap.size w3.heap.size c=3:=by unfold Sm;rw[if_neg (by omega),if_neg (by omega),if_pos rfl]
 have n4:Sm kb d c rb w2.heap.size w3.heap.size rb=4:=by unfold Sm;rw[if_neg (by omega),if_neg (by omega),if_neg (by omega),if_pos rfl]
 refine⟨⟨hS.below hw6,bel.trans (hw6.mono s0),hB,fun b hb=>?_,(Ak hbo).get hd (fun h=>h),hm.keep (Ak hw6) (fun _ h=>h.elim),?_,hX.eq,n1,n2,n3,n4⟩,hw6⟩
 ·unfold Sm at hb
  repeat' split at hb
  all_goals omega
 ·have e4:La (fun b=>w2.heap.size<=b/\b<w3.heap.size) w4 v X:=hX.sl.keep k4 (fun b h1 h2=>by omega)
  have e5:La (fun b=>w2.heap.size<=b/\b<w3.heap.size) w5 v X:=e4.keep (Ae.of_below b5) (fun b h1 h2=>by omega)
  have e6:La (fun b=>w2.heap.size<=b/\b<w3.heap.size) (w5.alloc o) v X:=e5.keep (Ae.of_below hbo) (fun b h1 h2=>by omega)
  have hR:∀b,(w2.heap.size<=b/\b<w3.heap.size)->Sm kb d c rb w2.heap.size w3.heap.size b=8:=fun b hb=>by
   unfold Sm
   rw[if_neg (by omega),if_neg (by omega),if_neg (by omega),if_neg (by omega),if_pos hb]
  exact⟨e6.row.mono hR,fun x hx=>by have:=e6.each x hx;exact⟨this.p.mono hR,this.g.mono hR,this.e.mono hR,this.f.mono hR,this.l.mono hR⟩⟩
theorem Abz{w:World}{b:Nat}{C C':Al}{v v':Value}(h:w.heap[b]? =some (.cells (A4 C v) 30)):
  (((((w.setCell ⟨b,0,none⟩ (.int .i64 C'.closed)).setCell ⟨b,1,none⟩ (.int .i64 C'.opn)).setCell ⟨b,2,none⟩ (.int .i64 C'.cycle)).setCell ⟨b,3,none⟩ (.int .i64 C'.delay)).setCell ⟨b,4,none⟩ v').heap[b]? =some (.cells (A4 C' v') 30):=by
 unfold A4 at h ⊢
 rw[Am _ (Am _ (Am _ (Am _ (Am _ h))))];rfl
theorem Aav(B:Nat)(sa:Nat->Addr)(R:Nat->Prop)(C:Al)(v:Value)(X:List Aw)(w0 w:World)(c rb cap:Nat)(m:CM)(hS:Eb B sa w)(hN:Ra B w)(hT:J4 w.heap.size w)(h:Ez R w C v X)(hR:∀b,R b->b<w.heap.size)(hC:B7 C=(0,-1))(h8:(Df C).length<=8000)
  (bel:Below w0.heap.size w0 w) (hB:B<=w0.heap.size) (hm:A1 w c rb (some ⟨rb,0,none⟩) cap m) (hc:w0.heap.size<=c/\w0.heap.size<=rb) (hl:153<=m.bs.length) (ho:m.off=false):
  Calls Tryz.prog 38 #[.agg (A4 C v),.pointer (some ⟨c,0,none⟩)] w fun e w'=>∃kb x o,e=.returned (.tuple #[.pointer (some ⟨kb,0,none⟩),.nilIface])/\Bh B sa w0 kb c ⟨(Df C).toArray⟩ x (Iy C ⟨C.closed,C.opn,0,0,false,0⟩ m) o w'/\(∀b,b<w.heap.size->o b≠0->b=c\/b=rb)/\Ae (fun b=>b=c\/b=rb) w w':=by
 obtain⟨ao,cap',rfl⟩:=h.sl.row.val
 have hb:=Fh (Cw hC).1
 have hxa:=Ab w (.cells (A4 C (.slice ao X.length cap')) 30)
 have hba:Below w.heap.size w (w.alloc (.cells (A4 C (.slice ao X.length cap')) 30)):=(Below.refl _ _).alloc (Nat.le_refl _) _
 have HTx:=Aia (fun W (hW:Below w.heap.size w W)=>Acc B sa R C (.slice ao X.length cap') X W (hS.below hW).c (fun W' hW'=>hT W' (hW.trans (hW'.mono hW.size))) (h.below hW hR) (fun b hb=>Nat.lt_of_lt_of_le (hR b hb) hW.size) hC)
 have HS:=Aia hS
 have HN:=Aia hN
 have HC:=Aia hC
 have HB8:=Aia h8
 have HM:=Aia (And.intro hm (And.intro hc (And.intro hl (And.intro ho (And.intro bel hB)))))
 obtain⟨tt,htt⟩:∃tt:ByteArray,tt=⟨(Df C).toArray⟩:=⟨_,rfl⟩
 have hsz:tt.size=(Df C).length:=by rw[htt,kH]
 have HRd:=Aia (fun W (hW:Below w.heap.size w W)=>Uu B sa tt W (hS.below hW).c (hN.below hW hS.top) (by omega) (fun k hk _=>Ag8 hC k (by rw[<-htt];exact hk)))
 have hbk:Cg tt=(C,(0,-1)):=by rw[htt];exact rK hC (by omega)
 rw[hbk]at HRd
 rw[<-htt]at HTx ⊢
 have HTT:=Aia htt
 have HDN:=Aia (fun W=>Abu C.closed C.opn W (by omega) (by omega) (by omega) (by omega))
 clear hS hN hT h hR hC h8 bel hB hm hc hl ho hb hsz hbk htt
 unfold A4 at hxa hba HTx ⊢
 go_enter func38,ntmps38
 go_upto_region 1 with fail
 generalize w.alloc _=w1 at hxa hba ⊢
 have hxa2:w1.heap[w.heap.size]? =some (.cells (A4 C (.slice ao X.length cap')) 30):=hxa
 obtain⟨c0,c1,c2,c3,c4⟩:=Br hxa2
 have HXA:=Aia hxa2
 clear hxa hxa2
 go_wp2_with fail
 refine(HTx.out w1 hba).mono ?_
 rintro e w2 ⟨rfl,b2⟩
 have HX2:=Aia (Af b2 HXA.out (Aa HXA.out))
 have HW2:=Aia (hba.trans (b2.mono hba.size))
 have HQ2:=Aia (Aa HX2.out)
 clear c0 c1 c2 c3 c4 HTx HXA hba b2
 go_wp2_with fail
 refine(HRd.out w2 HW2.out).mono ?_
 unfold Mv
 rintro e w3 ⟨a9,n9,k9,u,X9,rfl,hu,hcs,-,b9⟩
 have hu0:u=.nilIface:=by
  rcases hu with⟨_,hu⟩|⟨_,hc0,_⟩
  ·rw[hu];rfl
  ·exact absurd hc0 (Nat.lt_irrefl 0)
 subst hu0
 have HCS:=Aia (hcs rfl)
 have hx3:=Af b9 HX2.out (Aa HX2.out)
 obtain⟨c0,c1,c2,c3,c4⟩:=Br hx3
 have cf:∀f,w3.frozen? ⟨w.heap.size,f,none⟩=false:=fun f=>by simp[World.frozen?,hx3]
 have HX4:=Aia (Abz (C':=C) (v':=.slice a9 n9 k9) hx3)
 have HK4:=Aia (Jd w3 w.heap.size (.int .i64 C.closed) (.int .i64 C.opn) (.int .i64 C.cycle) (.int .i64 C.delay) (.slice a9 n9 k9))
 have HB9:=Aia b9
 clear hu hcs b9 hx3 HRd
 unfold A4
 go_upto_region 5 with fail
 generalize World.setCell _ _ _=w4 at HX4 HK4 ⊢
 have HX4:Hid (w4.heap[w.heap.size]? =some (.cells (A4 C (.slice a9 n9 k9)) 30)):=HX4
 obtain⟨d0,d1,d2,d3,d4⟩:=Br HX4.out
 clear c0 c1 c2 c3 c4 cf HX2
 go_wp2_with fail
 refine(HDN.out w4).mono ?_
 rintro e w5 ⟨rfl,g5,b5⟩
 have hx5:=Af b5 HX4.out (Aa HX4.out)
 obtain⟨e0,e1,e2,e3,e4⟩:=Br hx5
 have HG5:=Aia g5
 have HB5:=Aia b5
 clear d0 d1 d2 d3 d4 hx5 g5 b5 HX4
 go_upto_region 11 with fail
 have hw3:=HW2.out.trans (HB9.out.mono HW2.out.size)
 have hw4:=hw3.trans (HK4.out.below hw3.size (fun b hb=>Nat.le_of_eq hb.symm))
 obtain⟨p1,p2⟩:=Af2 HS.out HM.out.2.2.2.2.1 HM.out.2.2.2.2.2 HM.out.1 HM.out.2.1 HW2.out HCS.out HB9.out (HK4.out.mono (fun b _ e=>by rw[e];exact HQ2.out)) hw4 HG5.out (Nat.le_refl _) HB5.out (kpC w4.heap.size C (.slice a9 n9 k9) c (.pointer none) (.slice none 0 0) (.pointer none) tt) rfl
 have hbx:=Ab w5 (kpC w4.heap.size C (.slice a9 n9 k9) c (.pointer none) (.slice none 0 0) (.pointer none) tt)
 have HOp:=Aia (Vf p1 hbx (Cw HC.out).1 HM.out.2.2.1 HM.out.2.2.2.1)
 have hz:w.heap.size<=w2.heap.size:=HW2.out.size
 have hz5:w.heap.size<=w5.heap.size:=Nat.le_trans hw4.size HB5.out.size
 have HP2:=Aia p2
 have HZ:=Aia (And.intro hz (And.intro hz5 hw4.size))
 unfold kpC at HOp HP2
 clear hw3 hw4 p1 p2 hbx hz hz5 e0 e1 e2 e3 e4 HX4 HK4 HG5 HB5
 generalize w5.alloc _=w6 at HOp HP2 ⊢
 go_wp2_with fail
 refine HOp.out.mono ?_
 rintro e w7 ⟨rfl,x',o',z1,z2⟩
 have hz:=HZ.out
 have Z1:=Aia z1
 have hkk:Ae (fun b=>b=c\/b=rb) w w7:=((Ak HP2.out).mono (fun _ _ h=>h.elim)).step z2.kp (fun b hb hl=>by
  unfold Sm at hb
  repeat' split at hb
  all_goals omega)
 have hoo:∀b,b<w.heap.size->o' b≠0->b=c\/b=rb:=fun b hl hb=>by
  rw[z2.agree b (Nat.lt_of_lt_of_le hl HP2.out.size)]at hb
  unfold Sm at hb
  repeat' split at hb
  all_goals omega
 have HK:=Aia (And.intro hoo hkk)
 clear z1 z2 hkk hoo hz HOp
 go_wp2_with fail
 go_ret2
 exact⟨_,x',o',rfl,Z1.out,HK.out.1,HK.out.2⟩
end
section
open Go.RowKit
structure Pe (a:C0):Prop where
 x:a.exp=false
 r:a.run=0
 g:a.gs= []
 b:a.gbad=false
 f:a.fbad=false
structure QOk (C:Al):Prop where
 bound:Dt C=false
 cyc:C.cycle<=C.opn
 q:∀E∈C.ents,Sz E
 tol:∀E∈C.ents,0<=E.tol
structure QB (C:Al) (M:KpM):Prop where
 eC:M.C=C
 off:M.m.off=false
 L:M.L= []
 A:∀a,some a∈M.A->Pe a
 An:M.A.length=C.ents.length
 sn:M.sn=0
 st:M.st=.ok
def tH(C:Al)(n:Nat):D3:=⟨C.closed,C.opn,n,(Sv C.closed.toNat C.cycle.toNat n).1,false,(Sv C.closed.toNat C.cycle.toNat n).2⟩
structure QAt (C:Al) (M:KpM) (n:Nat):Prop where
 b:QB C M
 D:M.D=tH C n
theorem QAt.on{C:Al}{M:KpM}{n:Nat}(h:QAt C M n):Jz M=0:=by
 unfold Jz
 rw[h.b.off,h.D];rfl
theorem tG{E:Ap}(h:Sz E){a:C0}(ha:Pe a):Dh E a=0:=by
 have h1:G9 (Ny E) E.mn E.mx a.cnt a.whole=true:=by
  unfold G9 Ny Ll
  rw[if_pos (.inl (by rw[h.c];decide))]
  simp
 unfold Dh
 rw[h1,ha.b,ha.f]
 simp
theorem zU{E:Ap}(h:Sz E){a:C0}(ha:Pe a):Hc E a=0:=by unfold Hc;rw[if_pos (tG h ha)]
theorem zX{E:Ap}(h:Sz E)(ht:0<=E.tol){a:C0}(ha:Pe a):Pe (D1 E a)/\Hx E a=false:=by
 have hr:=zU h ha
 have hd:decide (E.tol<Hc E a)=false:=by rw[hr];simp;omega
 exact⟨⟨by simp[D1,ha.x,hd],hr,ha.g,rfl,rfl⟩,by simp[Hx,hd]⟩
theorem Aaz{M:KpM}{j:Nat}(h:j<M.C.ents.length):Cy M j∈M.C.ents:=by
 unfold Cy
 rw[List.getD_eq_getElem?_getD,List.getElem?_eq_getElem h]
 exact List.getElem_mem h
section
variable {C:Al} {M:KpM} {n:Nat}
theorem QB.set(h:QB C M){j:Nat}{a:Option C0}(ha:∀x,a=some x->Pe x):QB C (Ge M j a):=by
 refine⟨h.eC,h.off,h.L,fun x hx=>?_,?_,h.sn,h.st⟩
 ·rcases List.mem_or_eq_of_mem_set (show some x∈M.A.set j a from hx)with h1|h1
  ·exact h.A x h1
  ·exact ha x h1.symm
 ·show(M.A.set j a).length=_
  rw[List.length_set];exact h.An
theorem Ad6(M:KpM)(j:Nat):(D9 M j).2.D=M.D:=by
 unfold D9
 split
 ·rfl
 ·split<;>rfl
theorem Vh(M:KpM):∀k,(Ci M k).2.D=M.D
 |0=>rfl
 |k+1=>by
  unfold Ci
  split
  ·exact Vh M k
  ·rw[Ad6];exact Vh M k
theorem QB.end1(h:QB C M)(q:QOk C){j:Nat}(hj:j<C.ents.length):(D9 M j).1=0/\QB C (D9 M j).2:=by
 unfold D9
 cases ha:Cq M j with
 |none=>exact⟨rfl,h⟩
 |some a=>
  have hm:=Aaz (M:=M) (j:=j) (by rw[h.eC];exact hj)
  rw[h.eC]at hm
  have he:=zX (q.q _ hm) (q.tol _ hm) (h.A a (So ha).2)
  have hf:¬Hx (Cy M j) a=true:=by rw[he.2];decide
  show(if Hx (Cy M j) a=true then _ else _:Nat × KpM).1=0/\QB C (if Hx (Cy M j) a=true then _ else _:Nat × KpM).2
  rw[if_neg hf]
  exact⟨rfl,h.set (fun x hx=>by obtain rfl:=Option.some.inj hx;exact he.1)⟩
theorem QB.endN(h:QB C M)(q:QOk C):∀k,k<=C.ents.length->(Ci M k).1=0/\QB C (Ci M k).2
 |0,_=>⟨rfl,h⟩
 |k+1,hk=>by
  obtain⟨h1,h2⟩:=h.endN q k (by omega)
  unfold Ci
  rw[if_neg (by rw[h1];decide)]
  exact h2.end1 q (by omega)
theorem tF{a:Option C0}(h:∀x,a=some x->Pe x):Cr a=Aea\/Cr a=St.ok.str:=by
 cases a with
 |none=>exact .inl rfl
 |some x=>
  have hx:=h x rfl
  right
  show Kl x=_
  unfold Kl
  rw[hx.x,hx.r];rfl
theorem zV{l:List (Option C0)}(h:∀a,some a∈l->Pe a):Cj (l.map Cr) St.expired.str=false/\Cj (l.map Cr) St.failed.str=false:=by
 have hq:∀s∈l.map Cr,s=Aea\/s=St.ok.str:=fun s hs=>by
  obtain⟨a,ha,rfl⟩:=List.mem_map.1 hs
  exact tF (fun x hx=>h x (hx▸ha))
 constructor
 ·unfold Cj
  rw[List.any_eq_false]
  intro s hs
  rcases hq s hs with rfl|rfl<;>decide+kernel
 ·unfold Cj
  rw[List.any_eq_false]
  intro s hs
  rcases hq s hs with rfl|rfl<;>decide+kernel
theorem QB.tot(h:QB C M):QB C (Nz M):=by
 have hs:=zV h.A
 have e:St.next M.C.delay M.sn M.st (M.A.map Cr)=(0,.ok):=by
  rw[h.st,h.sn]
  unfold St.next
  simp only[hs.1,hs.2]
  rfl
 exact⟨h.eC,h.off,h.L,h.A,h.An,by show(St.next _ _ _ _).1=_;rw[e],by show(St.next _ _ _ _).2=_;rw[e]⟩
theorem QB.dogD(h:QB C M)(D:D3):QB C { M with D:=D}:=⟨h.eC,h.off,h.L,h.A,h.An,h.sn,h.st⟩
theorem QAt.tick(h:QAt C M n)(q:QOk C)(hn:n<=1000000):(Iw M).1=0/\QAt C (Iw M).2 (n+1):=by
 have hb:=Fh q.bound
 have hcy:=q.cyc
 have hs:=Abv (closed:=C.closed.toNat) (opn:=C.opn.toNat) (cycle:=C.cycle.toNat) (by omega) (by omega) n
 have hD:=h.D
 obtain⟨K,hK⟩:∃K,Sv C.closed.toNat C.cycle.toNat n=K:=⟨_,rfl⟩
 have hKn:Sv C.closed.toNat C.cycle.toNat (n+1)=if (n+1)%C.cycle.toNat=0/\C.closed.toNat<n+1-K.1 then (n+1,K.2+1) else K:=by rw[Sv,hK]
 unfold tH at hD
 rw[hK]at hD hs
 have e0:Eo M.D=0:=by
  rw[hD]
  unfold Eo
  rw[if_neg Bool.false_ne_true,if_neg (by show ¬(1099511627776<=(n:Int));omega)]
 have e1:Dm M.D=⟨C.closed,C.opn,(n:Int)+1,K.1,false,K.2⟩:=by
  rw[hD]
  unfold Dm
  rw[if_neg Bool.false_ne_true,if_neg (by show ¬(1099511627776<=(n:Int));omega)]
  have:decide (C.closed+C.opn<(n:Int)+1-(K.1:Int))=false:=by
   rw[decide_eq_false_iff_not];omega
  simp only[this]
 have hmod:((n:Int)+1)%C.cycle=0↔(n+1)%C.cycle.toNat=0:=by
  have:((n+1:Nat):Int)%((C.cycle.toNat:Nat):Int)=(((n+1)%C.cycle.toNat:Nat):Int):=rfl
  rw[Int.toNat_of_nonneg (by omega)]at this
  have e:((n+1:Nat):Int)=(n:Int)+1:=by omega
  rw[e]at this
  omega
 unfold Iw
 rw[h.on,if_neg (by decide),e0,if_neg (by decide),e1,if_neg Bool.false_ne_true]
 by_cases hc:((n:Int)+1)%M.C.cycle=0
 ·rw[if_pos hc]
  rw[h.b.eC]at hc
  have hAn:(I5 M).A.length=C.ents.length:=h.b.An
  have hN:=(show QB C (I5 M)from h.b.dogD _).endN q (I5 M).A.length (by rw[hAn];exact Nat.le_refl _)
  have hNd:=Vh (I5 M) (I5 M).A.length
  obtain⟨r,hr⟩:∃r,Ci (I5 M) (I5 M).A.length=r:=⟨_,rfl⟩
  unfold Ou
  rw[hr]at hN hNd ⊢
  rw[if_neg (by rw[hN.1];decide)]
  have ht:=hN.2.tot
  have hD2:(Nz r.2).D=⟨C.closed,C.opn,(n:Int)+1,K.1,false,K.2⟩:=by
   show r.2.D=_
   rw[hNd];exact e1
  refine⟨rfl,?_⟩
  show QAt C (J0 (Nz r.2)) (n+1)
  unfold J0
  have hst:(Nz r.2).st=.ok:=ht.st
  by_cases ho:Gv (Nz r.2).D=true
  ·rw[if_pos ⟨by rw[hst];decide,ho⟩]
   refine⟨ht.dogD _,?_⟩
   show Hu (Nz r.2).D=_
   rw[Li ho,hD2]
   rw[hD2]at ho
   have:C.closed<(n:Int)+1-K.1:=by simpa [Gv] using ho
   unfold tH
   rw[hKn,if_pos ⟨hmod.1 hc,by omega⟩]
   simp
  ·rw[if_neg (fun hh=>ho hh.2)]
   refine⟨ht,?_⟩
   rw[hD2]
   rw[hD2]at ho
   have:¬C.closed<(n:Int)+1-K.1:=by simpa [Gv] using ho
   unfold tH
   rw[hKn,if_neg (fun hh=>this (by have:=hh.2;omega))]
   simp
 ·rw[if_neg hc]
  rw[h.b.eC]at hc
  refine⟨rfl,h.b.dogD _,?_⟩
  show Dm M.D=_
  unfold tH
  rw[e1,hKn,if_neg (fun hh=>hc (hmod.2 hh.1))]
  simp
theorem QAt.ticks(h:QAt C M n)(q:QOk C):∀k,n+k<=1000000->(Bz M k).1=0/\QAt C (Bz M k).2 (n+k)
 |0,_=>⟨rfl,h⟩
 |k+1,hk=>by
  obtain⟨h1,h2⟩:=h.ticks q k (by omega)
  unfold Bz
  rw[if_neg (by rw[h1];decide)]
  exact h2.tick q (by omega)
theorem Afy(q:QOk C){m:CM}(hm:m.off=false)(hr:Ir m.bs= []):QAt C (Iy C ⟨C.closed,C.opn,0,0,false,0⟩ m) 0:=by
 refine⟨⟨rfl,hm,by rw[pN];exact hr,fun a ha=>?_,by simp[Iy],rfl,rfl⟩,?_⟩
 ·have:some a∈List.replicate C.ents.length (none:Option C0):=ha
  rw[List.mem_replicate]at this
  cases this.2
 ·rfl
end
end
section
open Go.RowKit
def blank:CM:=⟨List.replicate 4096 0,false,-1,0⟩
theorem Ym:blank.bs.length=4096:=by show(List.replicate 4096 (0:UInt8)).length=_;rw[List.length_replicate]
theorem xB:Ir blank.bs= []:=zR 4096 (by decide)
theorem Ab6:Lu blank.bs []:=Xq 4096 (by decide)
theorem Wa(w:World):Calls Tryz.prog 37 #[.int .i64 4096] w fun e w'=>∃c rb cap,e=.returned (.tuple #[.pointer (some ⟨c,0,none⟩),.nilIface])/\A1 w' c rb (some ⟨rb,0,none⟩) cap blank/\(w.heap.size<=c/\w.heap.size<=rb)/\Below w.heap.size w w':=by
 refine(rC 4096 w (Nat.le_refl _)).mono ?_
 rintro e w' ⟨rfl,h1,h2⟩
 exact⟨_,_,_,rfl,h1,⟨by omega,Nat.le_refl _⟩,h2⟩
def Ah7(C:Al):D3:=⟨C.closed,C.opn,0,0,false,0⟩
def Jp(C:Al):ByteArray:=⟨(Df C).toArray⟩
def kp0(C:Al):KpM:=Iy C (Ah7 C) blank
theorem Ag9{C:Al}(hC:B7 C=(0,-1)):B8 (kp0 C) 0:=by
 have hb:=Fh (Cw hC).1
 refine Ya (Cw hC).1 (fun E hE=>vU (Yi hC E hE)) ⟨hb.1,hb.2.1,hb.2.2.1,hb.2.2.2.1,?_,?_,?_,?_,?_⟩ ?_ ?_ ⟨T4.1,T4.2,?_,?_⟩ Ym Ab6 ?_ ?_
 all_goals(first|exact Int.le_refl (0:Int)|(show(0:Int)<=(1099511627776:Int);omega)|(show(0:Int)<=(1000000:Int);omega)|(show(0:Nat)<=_;omega)|decide)
end
section
open Go.RowKit
def Hr:Al:=⟨1,2,2,0,[]⟩
theorem Rc:B7 Hr=(0,-1):=by decide
theorem Xd:QOk Hr:=⟨by decide,by decide,fun E hE=>(by cases hE),fun E hE=>(by cases hE)⟩
theorem Yt:(Df Hr).length<=8000:=tE Rc (fun E hE=>by cases hE)
theorem Ahv{C:Al}(q:QOk C):QAt C (kp0 C) 0:=Afy q rfl xB
theorem gV:(tH Hr 2).kicks=1/\(tH Hr 2).now=2:=by decide
end
section
open Go.RowKit
def hcfg:ByteArray:=⟨#[119,105,110,100,111,119,32,49,32,50,10,99,121,99,108,101,32,50,10,100,101,108,97,121,32,48,10]⟩
theorem d0:Lib.itoa 0= [48]:=by rw[show(0:Int)=((0:Nat):Int)from rfl,Lib.itoa_nonneg,Lib.decDigits_one (by decide)];rfl
theorem d1:Lib.itoa 1= [49]:=by rw[show(1:Int)=((1:Nat):Int)from rfl,Lib.itoa_nonneg,Lib.decDigits_one (by decide)];rfl
theorem d2:Lib.itoa 2= [50]:=by rw[show(2:Int)=((2:Nat):Int)from rfl,Lib.itoa_nonneg,Lib.decDigits_one (by decide)];rfl
theorem Vp:Df Hr=hcfg.data.toList:=by
 simp[Df,Hm,G2,Hr,Ca,upB,Ob,B3,d0,d1,d2,List.range_succ,Ii,Je,N6,hcfg]
theorem Aa9:Jp Hr=hcfg:=by unfold Jp;rw[Vp]
theorem vQ:Cg hcfg=(Hr,(0,-1)):=by
 have:=rK Rc (Nat.not_lt.2 Yt)
 rw[Vp]at this
 exact this
def hl1:ByteArray:=⟨#[116,105,99,107,32,50]⟩
def hl2:ByteArray:=⟨#[107,105,99,107,115]⟩
def hl3:ByteArray:=⟨#[99,97,117,115,101]⟩
def hl4:ByteArray:=⟨#[99,111,110,102,105,103]⟩
theorem Agt:Hf hl1=some (3,[2]):=M4 (by decide) rfl (by decide) (by decide) (by simp[X5,hl1,Cb,d2,Dx])
theorem Ags:Hf hl2=some (8,[]):=M4 (by decide) rfl (by decide) (by decide) (by simp[X5,hl2,Cb,Dx])
theorem Agr:Hf hl3=some (11,[]):=M4 (by decide) rfl (by decide) (by decide) (by simp[X5,hl3,Cb,Dx])
theorem Agq:Hf hl4=some (13,[]):=M4 (by decide) rfl (by decide) (by decide) (by simp[X5,hl4,Cb,Dx])
theorem Aba:Ip [hl1,hl2,hl3,hl4]=2:=by
 simp[Ip,I8 Agt,I8 Ags,I8 Agr,I8 Agq]
theorem M3{txt:ByteArray}{M:KpM}{s:ByteArray}{i:Nat}{ns:List Nat}(h:Hf s=some (i,ns)):Da txt M s=(if (Es txt M i ns).1=0 then (Es txt M i ns).2.1 else Ib (Es txt M i ns).1,(Es txt M i ns).2.2):=by
 unfold Da Dg
 rw[h]
def J1:ByteArray:=⟨#[119,105,110,100,111,119,32,49,32,50,59,32,99,121,99,108,101,32,50,59,32,100,101,108,97,121,32,48]⟩
theorem vR:Lo hcfg=J1:=by
 unfold Lo hcfg J1
 decide
theorem Abb:(Dw (Jp Hr) (kp0 Hr) [hl1,hl2,hl3,hl4]).1= [okS,⟨#[49]⟩,Em,J1]:=by
 rw[Aa9]
 have hq0:=Ahv Xd
 obtain⟨e1,hq2⟩:=hq0.ticks Xd 2 (by decide)
 obtain⟨M0,hM0⟩:∃M0,M0=kp0 Hr:=⟨_,rfl⟩
 rw[<-hM0]at e1 hq2 ⊢
 have l1:Da hcfg M0 hl1=(okS,(Bz M0 2).2):=by
  rw[M3 Agt]
  show(if (Bz M0 2).1=0 then okS else Ib (Bz M0 2).1,(Bz M0 2).2)=_
  rw[if_pos e1]
 obtain⟨M2,hM2⟩:∃M2,M2=(Bz M0 2).2:=⟨_,rfl⟩
 rw[<-hM2]at hq2 l1
 have l2:Da hcfg M2 hl2=(⟨#[49]⟩,M2):=by
  rw[M3 Ags]
  show(Fc (Lib.itoa M2.D.kicks),M2)=_
  rw[hq2.D,show(0+2:Nat)=2 from rfl,gV.1,d1];rfl
 have l3:Da hcfg M2 hl3=(Em,M2):=by
  rw[M3 Agr]
  show((if M2.L= [] then Em else Fc (Fd (Gz M2.L))),M2)=_
  rw[if_pos hq2.b.L]
 have l4:Da hcfg M2 hl4=(J1,M2):=by
  rw[M3 Agq]
  show(Lo hcfg,M2)=_
  rw[vR]
 simp only[Dw,l1,l2,l3,l4]
end
section
open Go.RowKit
theorem Acb(C:Al):∃t,Df C=119::105::t:=by
 simp[Df,Hm,G2,Ca,upB,Ob,B3,List.range_succ,Ii]
theorem Afx{l:List UInt8}(h:l≠ []):P8 l≠ []:=by
 cases l with
 |nil=>exact absurd rfl h
 |cons c t=>
  rw[Pp]
  split<;>simp
theorem zE(C:Al):Lo (Jp C)≠ByteArray.empty:=by
 unfold Lo
 refine Re (Afx ?_)
 obtain⟨t,ht⟩:=Acb C
 have e:(Jp C).data.toList=119::105::t:=by unfold Jp;simp[ht]
 rw[e]
 unfold Qr Lib.trimSuffix
 split
 ·intro h
  have:=congrArg List.length h
  simp at this
 ·simp
theorem vG{s:ByteArray}(h:s≠ByteArray.empty):s.toList.isEmpty=false:=by
 rw[ByteArray.toList_eq]
 cases hh:s.data.toList with
 |nil=>
  exfalso;apply h
  cases s with
  |mk a=>simp at hh;rw[hh];rfl
 |cons a l=>rfl
def We(x:ByteArray)(k:Nat)(W:ByteArray):Prop:=W.data.toList=x.data.toList.take k/\∀c∈x.data.toList.take k,c≠32
theorem gS(x:ByteArray):We x 0 ⟨#[]⟩:=⟨by simp,by simp⟩
theorem gT{x W:ByteArray}{k:Nat}(h:We x k W)(hk:k<x.size)(hc:x[k]≠32):We x (k+1) (W++x.extract k (k+1)):=by
 have hz:x.data.toList.length=x.size:=by rw[Array.length_toList];rfl
 have hk':k<x.data.toList.length:=by omega
 have he:x.data.toList[k]=x[k]:=by simp[ByteArray.getElem_eq_getElem_data]
 have et:x.data.toList.take (k+1)=x.data.toList.take k++ [x[k]]:=by rw[List.take_succ_eq_append_getElem hk',he]
 refine⟨?_,fun c hc2=>?_⟩
 ·rw[et,<-h.1]
  have hx:(x.extract k (k+1)).data.toList= [x[k]]:=by
   rw[Lib.extract_data,Nat.add_sub_cancel_left,List.drop_eq_getElem_cons hk',he]
   rfl
  have ha:(W++x.extract k (k+1)).data.toList=W.data.toList++(x.extract k (k+1)).data.toList:=by
   rw[ByteArray.data_append,Array.toList_append]
  rw[ha,hx]
 ·rw[et]at hc2
  rcases List.mem_append.1 hc2 with h1|h1
  ·exact h.2 c h1
  ·rw[List.mem_singleton.1 h1];exact hc
theorem T9{x W:ByteArray}{k:Nat}(h:We x k W)(he:x.size<=k\/∃hk:k<x.size,x[k]=32):W.data.toList=x.data.toList.takeWhile (fun c=>c != 32):=by
 have hz:x.data.toList.length=x.size:=by rw[Array.length_toList];rfl
 have hd:x.data.toList=x.data.toList.take k++x.data.toList.drop k:=(List.take_append_drop k _).symm
 have hall:∀c∈x.data.toList.take k,(fun c:UInt8=>c != 32) c=true:=fun c hc=>bne_iff_ne.2 (h.2 c hc)
 rw[h.1]
 conv=>rhs;rw[hd]
 rw[List.takeWhile_append_of_pos hall]
 have:(x.data.toList.drop k).takeWhile (fun c=>c != 32)= []:=by
  rcases he with he|⟨hk,he⟩
  ·rw[List.drop_eq_nil_of_le (by omega)];rfl
  ·have hk':k<x.data.toList.length:=by omega
   have e:x.data.toList[k]=x[k]:=by simp[ByteArray.getElem_eq_getElem_data]
   rw[List.drop_eq_getElem_cons hk',List.takeWhile_cons_of_neg (by rw[e,he];decide)]
 rw[this,List.append_nil]
theorem Ab7{txt:ByteArray}{M0:KpM}{l:List ByteArray}(hx:Lo txt≠ByteArray.empty)(k:Nat)(hk:k<l.length):∃A,(Dw txt M0 l).1[k]? =some A/\A.toList.isEmpty=false/\(∀W:ByteArray,W.data.toList=l[k].data.toList.takeWhile (fun c=>c != 32)->Cp W=none->A=Ib 1):=by
 have h:=kJ (txt:=txt) l k hk M0
 refine⟨_,h,vG (yZ hx _ _),fun W hW hi=>?_⟩
 rw[kR txt _ l[k] hW hi]
end
end Go.Proofs.YtikehilbmldadaaGreatDoor
