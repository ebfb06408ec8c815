import Derived.Test.YtikehilbmldadaaGreatDoorV26
set_option maxHeartbeats 4000000
set_option maxRecDepth 100000
set_option linter.unusedVariables false
open Go.Proofs.Tryz Go.Proofs.YtikehilbmldadaaGreatDoor.Tryz
namespace Go.Proofs.YtikehilbmldadaaGreatDoor
section
open Go.RowKit
theorem Rq{M:KpM}{k:Nat}(h:(Ci M k).1≠0):∀j,Ci M (k+j)=Ci M k
 |0=>rfl
 |j+1=>by
  have ih:=Rq h j
  show(if (Ci M (k+j)).1≠0 then Ci M (k+j) else D9 (Ci M (k+j)).2 (k+j))=_
  rw[ih,if_pos h]
theorem Aa0{M:KpM}{k q:Nat}{M':KpM}(h:Ci M k=(q+1,M'))(hk:k<=M.A.length):Ou M=(q+1,M'):=by
 have h1:(Ci M k).1≠0:=by rw[h];exact Nat.succ_ne_zero q
 have h2:=Rq h1 (M.A.length-k)
 rw[show k+(M.A.length-k)=M.A.length by omega,h]at h2
 unfold Ou
 rw[h2,if_pos (Nat.succ_ne_zero q)]
theorem tZ{M M':KpM}(h:Ci M M.A.length=(0,M')):Ou M=(0,J0 (Nz M')):=by
 unfold Ou
 rw[h,if_neg (fun h=>h rfl)]
theorem Oq{M M':KpM}{k:Nat}(h:Ci M k=(0,M')):Ci M (k+1)=D9 M' k:=by
 show(if (Ci M k).1≠0 then Ci M k else D9 (Ci M k).2 k)=_
 rw[h,if_neg (fun h=>h rfl)]
theorem Ve(M:KpM)(k:Nat)(a:Option C0):(Ge M k a).A.take k=M.A.take k:=by
 show(M.A.set k a).take k=_
 rw[List.take_set_of_le (Nat.le_refl k)]
theorem yE{M:KpM}{k:Nat}(h:k<M.A.length):(M.A.take (k+1)).map Cr=(M.A.take k).map Cr++ [Cr (Cq M k)]:=by
 rw[List.take_succ_eq_append_getElem h,List.map_append]
 unfold Cq
 rw[List.getD_eq_getElem?_getD,List.getElem?_eq_getElem h];rfl
theorem Qd(l:List ByteArray)(s:ByteArray):Ad (l++ [s])=Ad l++ [.string s]:=by simp[Ad]
def xLv(x:KpX)(lv:Value):KpX:=⟨x.d,x.rb,x.cap,x.rg,x.tb,lv,x.ve,x.vl,x.X,x.ls⟩
structure Dd (B:Nat) (sa:Nat->Addr) (w0:World) (kb c:Nat) (txt:ByteArray) (x:KpX) (M:KpM) (T:Nat) (o:Nat->Nat) (w:World) (q j k:Nat) (v:Value) (M':KpM) (lv:Value) (o':Nat->Nat) (wr:World):Prop where
 e:Ci M j=(q,M')
 st:Bh B sa w0 kb c txt (xLv x lv) M' o' wr
 fr:Fr o o' w wr
 row:As wr w.heap.size 9 1 v k (Ad ((M'.A.take k).map Cr))
 rb:∀b,v.ownBlock=some b->o' b=0
 mid:Ph M T j M'
 off:q=0->M'.m.off=false
section
variable {B:Nat} {sa:Nat->Addr} {w0:World} {kb c:Nat} {txt:ByteArray} {x:KpX} {M M':KpM} {T:Nat} {o o':Nat->Nat} {w wr w1:World} {q j k:Nat} {v lv:Value}
theorem qM(h:Bh B sa w0 kb c txt x M o w)(hO:B8 M T)(ho:M.m.off=false):Dd B sa w0 kb c txt x M T o w 0 0 0 (.slice none 0 0) M x.lv o w:=
 ⟨rfl,h,Fr.refl _ _,⟨rfl,.inl ⟨rfl,rfl⟩⟩,(fun b hb=>by cases hb),(Nf hO ho 0 (Nat.zero_le _)).1,fun _=>ho⟩
theorem Dd.below(h:Dd B sa w0 kb c txt x M T o w q j k v M' lv o' wr)(b:Below wr.heap.size wr w1):Dd B sa w0 kb c txt x M T o w q j k v M' lv o' w1:=
 ⟨h.e,h.st.below b,h.fr.trans (Fr.below _ b),h.row.later b,h.rb,h.mid,h.off⟩
theorem Dd.rowk{o2:Nat->Nat}(h:Dd B sa w0 kb c txt x M T o w q j k v M' lv o' wr)(f:Fr o' o2 wr w1):As w1 w.heap.size 9 1 v k (Ad ((M'.A.take k).map Cr))/\∀b,v.ownBlock=some b->o2 b=0:=
 ⟨h.row.keep f.kp (fun b hb hh=>hh (h.rb b hb)),fun b hb=>by rw[f.agree b (h.row.lt b hb).2];exact h.rb b hb⟩
theorem Dd.mid1(h:Dd B sa w0 kb c txt x M T o w 0 k k v M' lv o' wr)(hO:B8 M T)(hk:k<M.A.length):
  Ph M T (k+1) (D9 M' k).2/\((D9 M' k).1=0->(D9 M' k).2.m.off=false)/\((D9 M' k).1=0\/(D9 M' k).1=8):=by
 have h8:=hO.an8
 have hd:=hO.dog
 exact Vi h.mid hO.t (by rw[h.mid.eA];exact hk) (by rw[h.mid.eA];exact h8) (h.off rfl) (by rw[h.mid.eD];have:=hd.l0;have:=hd.ln;omega) (by rw[h.mid.eD];exact hd.n1)
theorem Dd.idle(h:Dd B sa w0 kb c txt x M T o w 0 k k v M' lv o' wr)(hO:B8 M T)(hk:k<M.A.length)(ha:Cq M' k=none):Dd B sa w0 kb c txt x M T o w 0 (k+1) k v M' lv o' wr:=by
 have hm:=h.mid1 hO hk
 rw[Ot ha]at hm
 exact⟨by rw[Oq h.e,Ot ha],h.st,h.fr,h.row,h.rb,hm.1,hm.2.1⟩
theorem Dd.ended{l p t:Nat}{y:Aw}{a:C0}(h:Dd B sa w0 kb c txt x M T o w 0 k k v M' lv o' wr)(hO:B8 M T)(hk:k<M.A.length)(ha:Cq M' k=some a)(h1:x.ls[k]? =some l)(h2:x.X[k]? =some y)(hE:Cy M' k=y.E)(hw:∀b,p<=b->b<t->o' b=11+2*k)
  (kk:Ae (fun b=>p<=b/\b<t) wr w1) (hl:Fi l p t y.E y.p y.g y.e y.f y.l (D1 y.E a) w1) (hn:Hx (Cy M' k) a=false):
  Dd B sa w0 kb c txt x M T o w 0 (k+1) k v (Ge M' k (some (D1 (Cy M' k) a))) lv o' w1:=by
 have hm:=h.mid1 hO hk
 have hn':¬Hx (Cy M' k) a=true:=by rw[hn];decide
 rw[Q1 ha hn']at hm
 obtain⟨z1,z2⟩:=Bh.watch (x:=xLv x lv) h.st h1 h2 hw kk hl
 rw[<-hE]at z1
 obtain⟨r1,r2⟩:=h.rowk z2
 exact⟨by rw[Oq h.e,Q1 ha hn'],z1,h.fr.trans z2,by rw[Ve];exact r1,r2,hm.1,hm.2.1⟩
theorem Dd.logged{l p t:Nat}{y:Aw}{a:C0}{lv':Value}{W w2:World}{r:Nat × Ar × CM × List Ar × Bool}(h:Dd B sa w0 kb c txt x M T o w 0 k k v M' lv o' wr)(hO:B8 M T)(hk:k<M.A.length)(ha:Cq M' k=some a)(h1:x.ls[k]? =some l)(h2:x.X[k]? =some y)(hE:Cy M' k=y.E)(hw:∀b,p<=b->b<t->o' b=11+2*k)
  (kk:Ae (fun b=>p<=b/\b<t) wr w1) (hl:Fi l p t y.E y.p y.g y.e y.f y.l (D1 y.E a) w1) (hn:Hx (Cy M' k) a=true) (hb:Below w1.heap.size w1 W) (hr:Dl M'.m M'.L M'.dead k (Dh (Cy M' k) a) M'.D.now=r)
  (h3:RSt B sa w0 x.rg c x.rb x.cap r.2.2.1 r.2.2.2.2 r.2.2.2.1 lv' w2) (k2:Ae (fun b=>b=c\/b=x.rb\/b=x.rg\/W.heap.size<=b) W w2) (hv:lv'=lv\/Agi W w2 lv'):
  (r.1=0\/r.1=8)/\∃o2,Dd B sa w0 kb c txt x M T o w r.1 (k+1) k v { Ge M' k (some (D1 (Cy M' k) a))with m:=r.2.2.1,L:=r.2.2.2.1,dead:=r.2.2.2.2} lv' o2 w2/\∀b,w1.heap.size<=b->b<W.heap.size->o2 b=0:=by
 have hm:=h.mid1 hO hk
 rw[Qz ha hn hr]at hm
 obtain⟨z1,z2⟩:=Bh.watch (x:=xLv x lv) h.st h1 h2 hw kk hl
 rw[<-hE]at z1
 obtain⟨o2,z3,z4⟩:=(z1.below hb).app (lv':=lv') h3 k2 hv
 obtain⟨r1,r2⟩:=h.rowk ((z2.trans (Fr.below _ hb)).trans z4)
 exact⟨hm.2.2,o2,⟨by rw[Oq h.e,Qz ha hn hr],z3,h.fr.trans ((z2.trans (Fr.below _ hb)).trans z4),by
  show As w2 w.heap.size _ 1 v k (Ad (((Ge M' k (some (D1 (Cy M' k) a))).A.take k).map Cr))
  rw[Ve];exact r1,r2,hm.1,hm.2.1⟩,fun b hb1 hb2=>by
   rw[z4.agree b hb2]
   cases hz:o' b with
   |zero=>rfl
   |succ z=>have:=(z1.b.low b (by rw[hz];exact Nat.succ_ne_zero z)).2;omega⟩
theorem Dd.rst{l p t:Nat}{y:Aw}{a:C0}{W:World}(h:Dd B sa w0 kb c txt x M T o w 0 k k v M' lv o' wr)(h1:x.ls[k]? =some l)(h2:x.X[k]? =some y)(hw:∀b,p<=b->b<t->o' b=11+2*k)
  (kk:Ae (fun b=>p<=b/\b<t) wr w1) (hl:Fi l p t y.E y.p y.g y.e y.f y.l (D1 y.E a) w1) (hb:Below w1.heap.size w1 W):RSt B sa w0 x.rg c x.rb x.cap M'.m M'.dead M'.L lv W:=by
 obtain⟨z1,z2⟩:=Bh.watch (x:=xLv x lv) h.st h1 h2 hw kk hl
 exact(z1.below hb).rst
theorem Dd.next{a2:Option Addr}{k2:Nat}(h:Dd B sa w0 kb c txt x M T o w 0 (k+1) k v M' lv o' wr)(hk:k<M.A.length)(hw0:w0.heap.size<=w.heap.size){W:World}(hb:Below wr.heap.size wr W)(ho:As w1 w.heap.size 9 1 (.slice a2 (k+1) k2) (k+1) (Ad ((M'.A.take k).map Cr)++ [.string (Cr (Cq M' k))]))
  (hg:W.grownBy w1 v.ownBlock) (hn:(Value.slice a2 (k+1) k2).ownBlock=v.ownBlock\/∀b,(Value.slice a2 (k+1) k2).ownBlock=some b->W.heap.size<=b):
  Dd B sa w0 kb c txt x M T o w 0 (k+1) (k+1) (.slice a2 (k+1) k2) M' lv o' w1:=by
 have hW:=h.below hb
 have kg:Ae (fun b=>some b=v.ownBlock) W w1:=Ae.of_grown hg
 have hrl:=fun b hh=>(hW.row.lt b hh)
 have kt:Bh B sa w0 kb c txt (xLv x lv) M' o' w1:=hW.st.far kg (fun b hl hh=>⟨h.rb b hh.symm,Nat.le_trans hw0 (hrl b hh.symm).1⟩)
 refine⟨h.e,kt,⟨hW.fr.kp.step kg (fun b hb hl=>by have:=(hrl b hb.symm).1;omega),hW.fr.agree⟩,?_,fun b hb=>?_,h.mid,h.off⟩
 ·rw[yE (by rw[h.mid.eA];exact hk),Qd];exact ho
 ·rcases hn with hn|hn
  ·rw[hn]at hb;exact h.rb b hb
  ·have h2:=hn b hb
   cases hz:o' b with
   |zero=>rfl
   |succ z=>
    have:=(hW.st.b.low b (by rw[hz];exact Nat.succ_ne_zero z)).2
    omega
theorem Dd.stat{l:Nat}{y:Aw}(h:Dd B sa w0 kb c txt x M T o w q j k v M' lv o' wr)(i:Nat)(h1:x.ls[i]? =some l)(h2:x.X[i]? =some y):
  Calls Tryz.prog 153 #[.pointer (some ⟨l,0,none⟩)] wr fun e w'=>e=.returned (.string (Cr (Cq M' i)))/\wr=w':=by
 obtain⟨p1,p,t,p2,p3⟩:=h.st.loc i l y h1 h2
 cases ha:Cq M' i with
 |none=>
  rw[ha]at p3
  exact Mk l y.E y.p y.g y.e y.f y.l wr p3
 |some a=>
  rw[ha]at p3
  exact Nx l p t y.E y.p y.g y.e y.f y.l a wr p3
theorem Dd.lay(h:Dd B sa w0 kb c txt x M T o w 0 (k+1) k v M' lv o' wr)(hk:k<M.A.length)(hw0:w0.heap.size<=w.heap.size):
  (∀x:Obj,As (wr.alloc x) w.heap.size 9 1 v k (Ad ((M'.A.take k).map Cr))/\w.heap.size<=(wr.alloc x).heap.size)/\
  ∀(x2:Obj) (W4:World) (a2:Option Addr) (k2:Nat),As W4 w.heap.size 9 1 (.slice a2 (k+1) k2) (k+1) (Ad ((M'.A.take k).map Cr)++ [.string (Cr (Cq M' k))])->(wr.alloc x2).grownBy W4 v.ownBlock->
   ((Value.slice a2 (k+1) k2).ownBlock=v.ownBlock\/∀b,(Value.slice a2 (k+1) k2).ownBlock=some b->(wr.alloc x2).heap.size<=b)->Dd B sa w0 kb c txt x M T o w 0 (k+1) (k+1) (.slice a2 (k+1) k2) M' lv o' W4:=
 ⟨fun x=>⟨h.row.later ((Below.refl _ _).alloc (Nat.le_refl _) x),by rw[World.size_alloc];have:=h.fr.kp.size;omega⟩,fun x2 W4 a2 k2 ho hg hn=>h.next hk hw0 ((Below.refl _ _).alloc (Nat.le_refl _) x2) ho hg hn⟩
theorem Dd.half{l p t:Nat}{y:Aw}{a:C0}(h:Dd B sa w0 kb c txt x M T o w 0 k k v M' lv o' wr)(h1:x.ls[k]? =some l)(h2:x.X[k]? =some y)(hw:∀b,p<=b->b<t->o' b=11+2*k)
  (kk:Ae (fun b=>p<=b/\b<t) wr w1) (hl:Fi l p t y.E y.p y.g y.e y.f y.l (D1 y.E a) w1):
  w1.cell? ⟨kb,0,none⟩=some (.pointer (some ⟨x.d,0,none⟩))/\w1.cell? ⟨kb,7,none⟩=some (.pointer (some ⟨x.rg,0,none⟩))/\C7 w1 x.d M'.D:=by
 obtain⟨z1,z2⟩:=Bh.watch (x:=xLv x lv) h.st h1 h2 hw kk hl
 obtain⟨k0,_,_,_,_,_,_,k7,_⟩:=Bm z1.box
 exact⟨k0,k7,z1.b.dog⟩
theorem A1.lts{w:World}{c rb cap:Nat}{m:CM}(h:A1 w c rb (some ⟨rb,0,none⟩) cap m):c<w.heap.size/\rb<w.heap.size:=by
 obtain⟨C,t,hh,_⟩:=h.row rfl
 exact⟨Aa h.box,Aa hh⟩
theorem Dd.lts(h:Dd B sa w0 kb c txt x M T o w q j k v M' lv o' wr):c<wr.heap.size/\x.rb<wr.heap.size/\x.rg<wr.heap.size:=by
 have:=A1.lts (rb:=x.rb) h.st.b.mem
 exact⟨this.1,this.2,Aa h.st.rbox⟩
theorem Dd.bds(h:Dd B sa w0 kb c txt x M T o w 0 k k v M' lv o' wr)(hT:T<=400000)(hk:k<=8):Kj M'.m (200*T+18*k)/\((200*T+18*k:Nat):Int)<=900000000/\153<=M'.m.bs.length/\M'.L.length<=100/\(Gz M'.L).seq<4294967296:=by
 obtain⟨D,d1,d2,d3⟩:=h.mid.log
 have hl:=h.mid.len
 refine⟨h.mid.cm.mono (by omega),by omega,by omega,?_,?_⟩
 ·rw[d3,Pu];omega
 ·rw[d3,Lg (fun j hj=>(d1.seq j hj).1)];omega
theorem Dd.boxB(h:Dd B sa w0 kb c txt x M T o w q j k v M' lv o' wr){z:Nat}(hz:o' z=0)(h0:w0.heap.size<=w.heap.size)(hw:w.heap.size<=z)(hv:∀b,v.ownBlock=some b->b≠z)(a b d e:Value):
  Dd B sa w0 kb c txt x M T o w q j k v M' lv o' ((((wr.setCell ⟨z,0,none⟩ a).setCell ⟨z,1,none⟩ b).setCell ⟨z,2,none⟩ d).setCell ⟨z,3,none⟩ e):=by
 have k:=Px wr z a b d e
 exact⟨h.e,h.st.far k (fun b _ hb=>by rw[hb];exact⟨hz,Nat.le_trans h0 hw⟩),⟨h.fr.kp.step k (fun b hb hl=>by omega),h.fr.agree⟩,h.row.keep k (fun b hb hh=>hv b hb hh),h.rb,h.mid,h.off⟩
theorem Dd.fin(h:Dd B sa w0 kb c txt x M T o w q j M.A.length v M' lv o' wr):Ay (fun b=>w.heap.size<=b/\v.ownBlock=some b) wr v 1 (Ad (M'.A.map Cr)) (M'.A.map Cr).length:=by
 have:=h.row.slOf
 rw[<-h.mid.eA,List.take_length]at this
 rwa [List.length_map]
end
end
section
open Go.RowKit
section
variable {B:Nat} {sa:Nat->Addr} {w0:World} {kb c:Nat} {txt:ByteArray} {x:KpX} {M:KpM} {o:Nat->Nat} {w:World} {T:Nat}
theorem Aa1(h:Bh B sa w0 kb c txt x M o w)(hO:B8 M T)(ho:M.m.off=false):
  Calls Tryz.prog 85 #[.pointer (some ⟨kb,0,none⟩)] w (Ec B sa w0 kb c txt (Ou M) o w):=by
 unfold Ec
 obtain⟨i0,hi0,hz0,hz1,hz2⟩:=info_parts infoStr
 obtain⟨k0,k1,k2,k3,k4,k5,k6,k7,k8,k9,k10,kf⟩:=Bm h.box
 obtain⟨ao,cap,hv,hc1,hc2,_⟩:=h.row
 rw[hv]at k8
 have h8:=hO.an8
 have H:=Aia h
 have HOk:=Aia hO
 have HW0:=Aia h.b.bel.size
 have HST0:=Aia (qM h hO ho)
 have HKP:=Aia hv
 clear h hO ho k0 k1 k2 k3 k4 k5 k6 k7 k9 k10 kf hv
 go_enter func85,ntmps85
 go_wp2_with fail
 go_loopw [3,15] (fun s3 s15 wr=>∃(i:Nat) (a1:Option Addr) (j1:Nat) (M':KpM) (lv:Value) (o':Nat->Nat),i<=M.A.length/\s3=.slice a1 i j1/\s15=.int .i64 i/\Hid (Dd B sa w0 kb c txt x M T o w 0 i i (.slice a1 i j1) M' lv o' wr)) (fun _ s15 _=>M.A.length-(intOf s15).toNat)
 case atStart=>exact⟨0,none,0,M,x.lv,o,Nat.zero_le _,rfl,rfl,HST0⟩
 case round=>
  obtain⟨i,a1,j1,M',lv,o',hi,rfl,rfl,hst⟩:=hrel
  clear HST0 k8
  by_cases hlt:i<M.A.length
  ·have hltI:(i:Int)<M.A.length:=by omega
   obtain⟨ao',cap',hv',hc1',hc2',hrow⟩:=hst.out.st.row
   have hAe:=hst.out.mid.eA
   obtain⟨b,off,l,y,hao,q1,q2,q3,q4⟩:=hrow i (by omega)
   have hvv:=HKP.out
   rw[show x.vl=(xLv x lv).vl from rfl,hv',hao,hAe]at hvv
   injection hvv with e1 e2 e3
   subst e1
   obtain⟨p1,p,t,p2,p3⟩:=hst.out.st.loc i l y q2 q3
   have Q:=Aia (And.intro q2 (And.intro q3 (And.intro q4 (And.intro p1 p2))))
   clear hv' hc1' hc2' hrow hAe hao e2 e3 q2 q3 q4 p1 p2
   cases ha:Cq M' i with
   |none=>
    rw[ha]at p3
    have HEn:=Aia (Wy l y.E y.p y.g y.e y.f y.l wr p3)
    have HE:=Aia (hst.out.idle HOk.out hlt ha)
    clear p3 ha hst
    go_wp2_with fail
    refine HEn.out.mono ?_
    rintro e w1 ⟨rfl,rfl⟩
    clear HEn
    have HStat:=Aia (HE.out.stat i Q.out.1 Q.out.2.1)
    have HLay:=Aia (HE.out.lay hlt HW0.out)
    obtain⟨S,hS⟩:∃S,S=Cr (Cq M' i):=⟨_,rfl⟩
    rw[<-hS]at HStat HLay
    have h63:Hid (i+1<=maxLen):=Aia (by unfold maxLen;omega)
    have hby:Hid ((i+1)*16<=140737488355328):=Aia (by omega)
    clear hS
    go_wp2_with fail
    refine HStat.out.mono ?_
    rintro e wz ⟨rfl,rfl⟩
    go_wp2_with (at_builtin;go_must (refine A5 rfl (.tmp 44) (.tmp 47) 22 rfl w.heap.size 9 i0 _ 1 16 underlying22 hi0 hz0 hz1 hz2 rfl (by decide) _ i _ rfl (HLay.out.1 _).1 ⟨World.heap wr |>.size,0,none⟩ 1 1 [.string S] rfl rfl (Av _ [.string S] _) (by intro u hu;simp at hu;subst hu;rfl) h63.out hby.out (HLay.out.1 _).2 ?_;intro a2 k2 w4 ho hg hn;have nx:=Aia (HLay.out.2 _ w4 a2 k2 ho hg hn);clear ho hg hn))
    go_roundw
    case rel=>exact⟨i+1,a2,k2,M',lv,o',by omega,rfl,by go_num,nx⟩
    case measure=>simp[intOf];omega
   |some a=>
    rw[ha]at p3
    have hr:=hst.out.mid.run i a ha
    rw[if_neg (by omega)]at hr
    have hT:=HOk.out.t
    have HEn:=Aia (Zl l p t y.E y.p y.g y.e y.f y.l a wr p3 hr.1 (by omega))
    obtain⟨kd,hkd⟩:∃kd,kd=Dh y.E a:=⟨_,rfl⟩
    rw[<-hkd]at HEn
    cases hn:Hx y.E a with
    |false=>
     rw[hn]at HEn
     have HE1:=Aia (fun w1 (kk:Ae (fun b=>p<=b/\b<t) wr w1) (hl:Fi l p t y.E y.p y.g y.e y.f y.l (D1 y.E a) w1)=>hst.out.ended HOk.out hlt ha Q.out.1 Q.out.2.1 Q.out.2.2.1 Q.out.2.2.2.2 kk hl (by rw[Q.out.2.2.1];exact hn))
     obtain⟨MM,hMM⟩:∃MM,MM=Ge M' i (some (D1 (Cy M' i) a)):=⟨_,rfl⟩
     rw[<-hMM]at HE1
     clear p3 ha hst hr hT hn hkd hMM
     go_wp2_with fail
     refine HEn.out.mono ?_
     rintro e w1 ⟨rfl,l1,k1⟩
     have HE:=Aia (HE1.out w1 k1 l1)
     clear HEn l1 k1 HE1 q1
     have HStat:=Aia (HE.out.stat i Q.out.1 Q.out.2.1)
     have HLay:=Aia (HE.out.lay hlt HW0.out)
     obtain⟨S,hS⟩:∃S,S=Cr (Cq MM i):=⟨_,rfl⟩
     rw[<-hS]at HStat HLay
     have h63:Hid (i+1<=maxLen):=Aia (by unfold maxLen;omega)
     have hby:Hid ((i+1)*16<=140737488355328):=Aia (by omega)
     clear hS
     go_wp2_with fail
     refine HStat.out.mono ?_
     rintro e wz ⟨rfl,rfl⟩
     go_wp2_with (at_builtin;go_must (refine A5 rfl (.tmp 44) (.tmp 47) 22 rfl w.heap.size 9 i0 _ 1 16 underlying22 hi0 hz0 hz1 hz2 rfl (by decide) _ i _ rfl (HLay.out.1 _).1 ⟨World.heap w1 |>.size,0,none⟩ 1 1 [.string S] rfl rfl (Av _ [.string S] _) (by intro u hu;simp at hu;subst hu;rfl) h63.out hby.out (HLay.out.1 _).2 ?_;intro a2 k2 w4 ho hg hn;have nx:=Aia (HLay.out.2 _ w4 a2 k2 ho hg hn);clear ho hg hn))
     go_roundw
     case rel=>exact⟨i+1,a2,k2,MM,lv,o',by omega,rfl,by go_num,nx⟩
     case measure=>simp[intOf];omega
    |true=>
     rw[hn]at HEn
     obtain⟨r,hR⟩:∃r,r=Dl M'.m M'.L M'.dead i kd M'.D.now:=⟨_,rfl⟩
     have hR2:Dl M'.m M'.L M'.dead i (Dh (Cy M' i) a) M'.D.now=r:=by rw[Q.out.2.2.1,<-hkd];exact hR.symm
     have HE1:=Aia (fun(w1 W w2:World) (lv':Value) (kk:Ae (fun b=>p<=b/\b<t) wr w1) (hl:Fi l p t y.E y.p y.g y.e y.f y.l (D1 y.E a) w1) (hb:Below w1.heap.size w1 W) h3 k2 hv=>hst.out.logged (w2:=w2) (lv':=lv') HOk.out hlt ha Q.out.1 Q.out.2.1 Q.out.2.2.1 Q.out.2.2.2.2 kk hl (by rw[Q.out.2.2.1];exact hn) hb hR2 h3 k2 hv)
     have HB:=Aia (hst.out.bds hT (by omega))
     have HLT:=Aia hst.out.lts
     have HVB:=Aia (And.intro hst.out.fr.kp.size (fun b hb=>(hst.out.row.lt b hb).2))
     have HAp:=Aia (fun(w1 W:World) (kk:Ae (fun b=>p<=b/\b<t) wr w1) (hl:Fi l p t y.E y.p y.g y.e y.f y.l (D1 y.E a) w1) (hb:Below w1.heap.size w1 W)=>(Ut B sa w0 x.rg c x.rb x.cap M'.m M'.dead M'.L lv i kd M'.D.now _ W (hst.out.rst Q.out.1 Q.out.2.1 Q.out.2.2.2.2 kk hl hb) HB.out.1 HB.out.2.1 HB.out.2.2.1 HB.out.2.2.2.1 HB.out.2.2.2.2).mono
      (R':=fun e w2=>e=.returned (.tuple #[A3 r.2.1,errv sa r.1])/\(r.1=0\/r.1=8)/\∃lv' o2,Dd B sa w0 kb c txt x M T o w r.1 (i+1) i (.slice a1 i j1) { Ge M' i (some (D1 (Cy M' i) a))with m:=r.2.2.1,L:=r.2.2.2.1,dead:=r.2.2.2.2} lv' o2 w2/\∀b,w1.heap.size<=b->b<W.heap.size->w2.heap[b]? =W.heap[b]? /\o2 b=0)
      (fun e w2 hh=>by
       rw[<-hR]at hh
       obtain⟨g1,lv',g2,g3,g4⟩:=hh
       obtain⟨g5,o2,g6,g7⟩:=HE1.out w1 W w2 lv' kk hl hb g2 g3 g4
       exact⟨g1,g5,lv',o2,g6,fun b h1 h2=>⟨g3.block b h2 (fun hh=>by have:=HLT.out;have:=kk.size;omega),g7 b h1 h2⟩⟩))
     have HHf:=Aia (fun w1 (kk:Ae (fun b=>p<=b/\b<t) wr w1) (hl:Fi l p t y.E y.p y.g y.e y.f y.l (D1 y.E a) w1)=>hst.out.half Q.out.1 Q.out.2.1 Q.out.2.2.2.2 kk hl)
     obtain⟨MM,hMM⟩:∃MM:KpM,MM= { Ge M' i (some (D1 (Cy M' i) a))with m:=r.2.2.1,L:=r.2.2.2.1,dead:=r.2.2.2.2}:=⟨_,rfl⟩
     rw[<-hMM]at HAp
     obtain⟨rr,rq⟩:=r
     obtain⟨rx,rs⟩:=rq
     unfold A3 at HAp
     simp only at HAp
     clear p3 ha hst hr hn hkd hMM hR hR2 HE1 HB HLT
     go_wp2_with fail
     refine HEn.out.mono ?_
     rintro e w1 ⟨rfl,l1,k1⟩
     obtain⟨c0,c7,dg⟩:=HHf.out w1 k1 l1
     have hkb:kb<w1.heap.size:=World.block_lt_of_cell? w1 ⟨kb,0,none⟩ c0
     have HNow:=Aia (fun W (hW:Below w1.heap.size w1 W)=>Nt x.d M'.D W (C7.keep dg (Ak hW) (fun h=>h)))
     have HAp1:=Aia (fun W (hW:Below w1.heap.size w1 W)=>HAp.out w1 W k1 l1 hW)
     obtain⟨nw,hnw⟩:∃nw,nw=M'.D.now:=⟨_,rfl⟩
     rw[<-hnw]at HNow HAp1
     have hw1:=k1.size
     clear HEn HAp HHf l1 k1 dg hnw q1
     go_upto_region 7 with fail
     go_region_law (first|(go_simp;go_at_call 26;refine(HNow.out _ ?_).mono ?_;(repeat(first|exact Below.refl _ _|refine Below.drew ?_|refine Below.alloc ?_ (Nat.le_refl _) _));rintro e wN ⟨rfl,rfl⟩)|(go_simp;go_at_call 152;refine(HAp1.out _ ?_).mono ?_;(repeat(first|exact Below.refl _ _|refine Below.drew ?_|refine Below.alloc ?_ (Nat.le_refl _) _));rintro e w2 ⟨rfl,hq,lv2,o2,hE2,hk2⟩;(try(have hx9:=hk2 w1.heap.size (Nat.le_refl _) (by simp);have hx2:=hx9.1.trans (Ab w1 (.cells #[.int .i64 0,.int .i64 0,.int .i64 0,.int .i64 0] 147));obtain⟨x0,x1,x2,x3⟩:=Bn hx2;have xf:∀o,w2.frozen? ⟨w1.heap.size,o,none⟩=false:=(fun o=>Jc hx2)))))
     all_goals
      first
       |(have HE2:=Aia (hE2.boxB hx9.2 HW0.out (Nat.le_trans HVB.out.1 hw1) (fun b hb=>by have:=HVB.out.2 b hb;omega) (.int .i64 rx.seq) (.int .i64 rx.ent) (.int .i64 rx.kind) (.int .i64 rx.tick));clear hx9 hx2 x0 x1 x2 x3 xf hE2 hk2 c0 c7 hkb;go_upto_region 8 with fail;generalize World.setCell _ _ _=w3 at HE2 ⊢)
       |(have HE2:=Aia (hE2.below ((Below.refl _ _).alloc (Nat.le_refl _) (.cells #[.int .i64 rx.seq,.int .i64 rx.ent,.int .i64 rx.kind,.int .i64 rx.tick] 147)));clear hE2 hk2 c0 c7 hkb;go_upto_region 8 with fail;generalize World.alloc _ _=w3 at HE2 ⊢)
      rcases hq with rfl|rfl
      ·rw[Ds]
       have HStat:=Aia (HE2.out.stat i Q.out.1 Q.out.2.1)
       have HLay:=Aia (HE2.out.lay hlt HW0.out)
       obtain⟨S,hS⟩:∃S,S=Cr (Cq MM i):=⟨_,rfl⟩
       rw[<-hS]at HStat HLay
       have h63:Hid (i+1<=maxLen):=Aia (by unfold maxLen;omega)
       have hby:Hid ((i+1)*16<=140737488355328):=Aia (by omega)
       clear hS
       go_wp2_with fail
       refine HStat.out.mono ?_
       rintro e wz ⟨rfl,rfl⟩
       go_wp2_with (at_builtin;go_must (refine A5 rfl (.tmp 44) (.tmp 47) 22 rfl w.heap.size 9 i0 _ 1 16 underlying22 hi0 hz0 hz1 hz2 rfl (by decide) _ i _ rfl (HLay.out.1 _).1 ⟨World.heap w3 |>.size,0,none⟩ 1 1 [.string S] rfl rfl (Av _ [.string S] _) (by intro u hu;simp at hu;subst hu;rfl) h63.out hby.out (HLay.out.1 _).2 ?_;intro a2 k2 w4 ho hg hn;have nx:=Aia (HLay.out.2 _ w4 a2 k2 ho hg hn);clear ho hg hn))
       go_roundw
       case rel=>exact⟨i+1,a2,k2,MM,lv2,o2,by omega,rfl,by go_num,nx⟩
       case measure=>simp[intOf];omega
      ·rw[show errv sa 8=.iface 372 (.pointer (some (sa 7)))from rfl]
       go_wp2_with fail
       go_ret
       rw[Aa0 HE2.out.e hlt]
       exact⟨rfl,_,o2,HE2.out.st,HE2.out.fr⟩
  ·have hin:i=M.A.length:=by omega
   subst hin
   have HEg:=Aia (tZ hst.out.e)
   obtain⟨k0,k1,k2,k3,k4,k5,k6,k7,k8,k9,k10,kf⟩:=Bm hst.out.st.box
   clear k0 k1 k2 k3 k4 k5 k6 k7 k8 k10 kf
   have htn:gM M'.C.delay M'.sn M'.st:=by rw[hst.out.mid.eC,hst.out.mid.es,hst.out.mid.et];exact HOk.out.tin
   have hdl:=Fh HOk.out.bound
   rw[<-hst.out.mid.eC]at hdl
   have HTe:=Aia (Yw _ x.tb M'.C.delay M'.sn M'.st (M'.A.map Cr) (.slice a1 M.A.length j1) wr hst.out.st.tot htn.s0 (by have:=htn.s1;omega) hst.out.fin)
   have HTt:=Aia (fun w1 (k:Ae (· =x.tb) wr w1) (t:Cf w1 x.tb M'.C.delay (St.next M'.C.delay M'.sn M'.st (M'.A.map Cr)).1 (St.next M'.C.delay M'.sn M'.st (M'.A.map Cr)).2)=>(show Bh B sa w0 kb c txt (xLv x lv) (Nz M') o' w1/\Fr o o' w w1 from⟨hst.out.st.tot' k t,hst.out.fr.trans (Fr.of k (fun b hb=>by rw[hb];have:o' x.tb=7:=hst.out.st.ot;omega))⟩))
   have HDk:=Aia (show Mw (Nz M').D from by show Mw M'.D;rw[hst.out.mid.eD];exact HOk.out.dog)
   obtain⟨N,hN⟩:∃N,N=Nz M':=⟨_,rfl⟩
   rw[<-hN]at HEg HTt HDk
   clear htn hdl hst hN
   go_wp2_with fail
   refine HTe.out.mono ?_
   rintro e w1 ⟨rfl,t1,q1⟩
   obtain⟨z1,z2⟩:=HTt.out w1 q1 t1
   have HZ:=Aia z1
   have HF:=Aia z2
   obtain⟨k0,k1,k2,k3,k4,k5,k6,k7,k8,k9,k10,kf⟩:=Bm z1.box
   have HMy:=Aia (Yv x.tb _ _ _ w1 z1.tot)
   have HOp:=Aia (Tm x.d N.D w1 z1.b.dog HDk.out)
   clear k1 k2 k3 k4 k5 k6 k7 k8 k10 kf t1 q1 z1 z2 HTe HTt
   by_cases hs:N.st=.stopped
   ·rw[show decide (N.st≠.stopped)=false by rw[hs];rfl]at HMy
    have hkk:J0 N=N:=by unfold J0;rw[if_neg (fun hh=>hh.1 hs)]
    have HKK:=Aia hkk
    clear hkk hs
    go_wp2_with fail
    refine HMy.out.mono ?_
    rintro e w2 ⟨rfl,rfl⟩
    go_wp2_with fail
    go_ret
    rw[HEg.out,HKK.out]
    exact⟨rfl,_,o',HZ.out,HF.out⟩
   ·rw[show decide (N.st≠.stopped)=true by rw[decide_eq_true_eq];exact hs]at HMy
    cases hop:Gv N.D with
    |false=>
     rw[hop]at HOp
     have hkk:J0 N=N:=by unfold J0;rw[if_neg (fun hh=>by rw[hop]at hh;exact absurd hh.2 (by decide))]
     have HKK:=Aia hkk
     clear hkk hs hop
     go_wp2_with fail
     refine HMy.out.mono ?_
     rintro e w2 ⟨rfl,rfl⟩
     go_wp2_with fail
     refine HOp.out.mono ?_
     rintro e w2 ⟨rfl,kq⟩
     have HZ2:=Aia (HZ.out.below kq.new)
     have HF2:=Aia (HF.out.trans (Fr.below o' kq.new))
     clear kq
     go_wp2_with fail
     go_ret
     rw[HEg.out,HKK.out]
     exact⟨rfl,_,o',HZ2.out,HF2.out⟩
    |true=>
     rw[hop]at HOp
     have hkk:J0 N= { N with D:=Hu N.D}:=by unfold J0;rw[if_pos ⟨hs,hop⟩]
     have HKK:=Aia hkk
     have HKe:=Aia (Rv hop)
     clear hkk hs hop
     go_wp2_with fail
     refine HMy.out.mono ?_
     rintro e w2 ⟨rfl,rfl⟩
     go_wp2_with fail
     refine HOp.out.mono ?_
     rintro e w2 ⟨rfl,kq⟩
     have HZ2:=Aia (HZ.out.below kq.new)
     have HF2:=Aia (HF.out.trans (Fr.below o' kq.new))
     have hbd:B<=x.d:=by
      have h1:o' x.d=2:=HZ.out.b.od
      exact Nat.le_trans HZ.out.b.bl (HZ.out.b.low x.d (by omega)).1
     have HKi:=Aia (qQ B sa x.d N.D w2 HZ2.out.b.dog HDk.out HZ2.out.b.se hbd)
     rw[HKe.out,Ds]at HKi
     obtain⟨k0',v1,v2,v3,v4,v5,v6,v7,v8,v9,v10,vf⟩:=Bm HZ2.out.box
     clear kq hbd v1 v2 v3 v4 v5 v6 v7 v8 v9 v10 vf k0 k9
     go_wp2_with fail
     refine HKi.out.mono ?_
     rintro e w3 ⟨rfl,g1,g2⟩
     have HZ3:=Aia (HZ2.out.dog' g2 g1)
     have HF3:=Aia (HF2.out.trans (Fr.of g2 (fun b hb=>by rw[hb];have:o' x.d=2:=HZ2.out.b.od;omega)))
     clear g1 g2
     go_wp2_with fail
     go_ret
     rw[HEg.out,HKK.out]
     exact⟨rfl,_,o',HZ3.out,HF3.out⟩
end
end
section
open Go.RowKit
section
variable {B:Nat} {sa:Nat->Addr} {w0:World} {kb c:Nat} {txt:ByteArray} {x:KpX} {M:KpM} {o:Nat->Nat} {w:World} {T:Nat}
theorem Ad4(h:Jz M=0):M.m.off=false/\M.D.reset=false:=by
 unfold Jz at h
 cases h1:M.m.off
 ·rw[h1,if_neg (by decide)]at h
  cases h2:M.D.reset
  ·exact⟨rfl,rfl⟩
  ·rw[h2,if_pos rfl]at h;cases h
 ·rw[h1,if_pos rfl]at h;cases h
theorem tW(h:Bh B sa w0 kb c txt x M o w)(hO:B8 M T)(hT:T+2<=400000):
  Calls Tryz.prog 44 #[.pointer (some ⟨kb,0,none⟩)] w (Ec B sa w0 kb c txt (Iw M) o w):=by
 unfold Ec
 have HOn:=Aia (Rp h)
 have H:=Aia h
 have HOk:=Aia hO
 unfold Iw
 by_cases h0:Jz M=0
 ·rw[h0]at HOn ⊢
  rw[if_neg (by decide)]
  obtain⟨hoff,hres⟩:=Ad4 h0
  obtain⟨k0,k1,k2,k3,k4,k5,k6,k7,k8,k9,k10,kf⟩:=Bm h.box
  clear k1 k2 k3 k4 k5 k6 k7 k8 k9 k10 kf
  have hd:=hO.dog
  have he:Eo M.D=0:=by
   have hn:=hO.now
   unfold Eo
   rw[hres,if_neg (by decide),if_neg (by omega)]
  rw[he,if_neg (by decide)]
  have HTi:=Aia (qN B sa x.d M.D w h.b.dog hd h.b.se)
  rw[he,Ds]at HTi
  obtain⟨hk1,hk2,_⟩:=Vj hO (by omega) he
  have HK1:=Aia hk1
  have HDg:=Aia (fun w1 (k:Ae (· =x.d) w w1) (g:C7 w1 x.d (Dm M.D))=>(show Bh B sa w0 kb c txt x (I5 M) o w1/\Fr o o w w1 from⟨h.dog' k g,Fr.of k (fun b hb=>by rw[hb];have:=h.b.od;omega)⟩))
  have HOf:=Aia hoff
  have hn0:0<=(Dm M.D).now:=by have:=hk1.dog.l0;have:=hk1.dog.ln;exact Int.le_trans ‹_› ‹_›
  obtain⟨N,hN⟩:∃N,N=I5 M:=⟨_,rfl⟩
  have hND:Dm M.D=N.D:=by rw[hN];rfl
  have hNC:M.C=N.C:=by rw[hN];rfl
  have hNm:M.m=N.m:=by rw[hN];rfl
  rw[hND,hNC,<-hN]
  rw[hND]at hn0 HTi HDg
  rw[<-hN]at HDg HK1
  rw[hNm]at HOf
  have hcy:=Fh HK1.out.bound
  obtain⟨cy,hcyE⟩:∃cy,cy=N.C.cycle:=⟨_,rfl⟩
  obtain⟨nw,hnwE⟩:∃nw,nw=N.D.now:=⟨_,rfl⟩
  rw[<-hcyE,<-hnwE]
  rw[<-hcyE]at hcy
  rw[<-hnwE]at hn0
  have hcy1:1<=cy:=hcy.2.2.2.2.1
  have hcyH:=Aia hcyE
  have hnwH:=Aia hnwE
  clear h hO h0 hoff hres hd he hk1 hk2 hN hND hNC hNm hcy hcyE hnwE
  cases hr:N.D.reset with
  |true=>
   rw[if_pos rfl]
   have HRe:=Aia (fun w1 (g:C7 w1 x.d N.D)=>(by have:=Kg x.d N.D w1 g;rw[hr]at this;exact this:Calls Tryz.prog 53 #[.pointer (some ⟨x.d,0,none⟩)] w1 fun e w'=>e=.returned (.bool true)/\w1=w'))
   clear hr
   go_enter func44,ntmps44
   go_wp2_with fail
   refine HOn.out.mono ?_
   rintro e w1 ⟨rfl,rfl⟩
   rw[Ds]
   go_wp2_with fail
   refine HTi.out.mono ?_
   rintro e w1 ⟨rfl,g1,g2⟩
   have HR1:=Aia (HRe.out w1 g1)
   obtain⟨z1,z2⟩:=HDg.out w1 g2 g1
   have Z:=Aia (And.intro z1 z2)
   obtain⟨j0,k1,k2,k3,k4,k5,k6,k7,k8,k9,k10,kf⟩:=Bm z1.box
   obtain⟨_,_,_,_,_,_,_,_,_,_,s10⟩:=z1.b.se.all
   clear g1 g2 z1 z2 k0 k1 k2 k3 k4 k5 k6 k7 k8 k9 k10 kf
   go_wp2_with fail
   refine HR1.out.mono ?_
   rintro e w2 ⟨rfl,rfl⟩
   go_wp2_with fail
   go_ret
   exact⟨rfl,x,o,Z.out.1,Z.out.2⟩
  |false=>
   rw[if_neg (by decide)]
   have HRe:=Aia (fun w1 (g:C7 w1 x.d N.D)=>(by have:=Kg x.d N.D w1 g;rw[hr]at this;exact this:Calls Tryz.prog 53 #[.pointer (some ⟨x.d,0,none⟩)] w1 fun e w'=>e=.returned (.bool false)/\w1=w'))
   have HNw:=Aia (fun w1 q (g:C7 w1 x.d N.D)=>(by have:=Nt x.d N.D (w1.drewN q) (Sq q g);rw[<-hnwH.out]at this;exact this:Calls Tryz.prog 26 #[.pointer (some ⟨x.d,0,none⟩)] (w1.drewN q) fun e w'=>e=.returned (.int .i64 nw)/\w1.drewN q=w'))
   have htm:nw.tmod cy=nw%cy:=Int.tmod_eq_emod_of_nonneg hn0
   by_cases hc:nw%cy=0
   ·rw[if_pos hc]
    have hte:(nw%cy==0)=true:=by rw[hc];rfl
    have HEnd:=Aia (fun w1 (g:Bh B sa w0 kb c txt x N o w1)=>Aa1 g HK1.out HOf.out)
    unfold Ec at HEnd
    obtain⟨r,hre⟩:∃r,r=Ou N:=⟨_,rfl⟩
    rw[<-hre]at HEnd ⊢
    obtain⟨re,rM⟩:=r
    clear hr htm hc hre
    go_enter func44,ntmps44
    go_wp2_with fail
    refine HOn.out.mono ?_
    rintro e w1 ⟨rfl,rfl⟩
    rw[Ds]
    go_wp2_with fail
    refine HTi.out.mono ?_
    rintro e w1 ⟨rfl,g1,g2⟩
    have HR1:=Aia (HRe.out w1 g1)
    have HN1:=Aia (fun q=>HNw.out w1 q g1)
    obtain⟨z1,z2⟩:=HDg.out w1 g2 g1
    have Z:=Aia (And.intro z1 z2)
    obtain⟨j0,k1,k2,j3,k4,k5,k6,k7,k8,k9,k10,kf⟩:=Bm z1.box
    rw[<-hcyH.out]at j3
    clear g1 g2 z1 z2 k0 k1 k2 k4 k5 k6 k7 k8 k9 k10 kf HNw HRe HTi HDg
    go_wp2_with fail
    refine HR1.out.mono ?_
    rintro e w2 ⟨rfl,rfl⟩
    go_wp2_with fail
    go_quiet (first|(go_at_call 26;exact C5 (HN1.out _)))
    generalize hq:World.drewN w1 _=wq
    have hb:Below w1.heap.size w1 wq:=by rw[<-hq];exact Ag _ (Below.refl _ _)
    have HZq:=Aia (And.intro (Z.out.1.below hb) (Z.out.2.trans (Fr.below o hb)))
    have HEq:=Aia (HEnd.out wq HZq.out.1)
    clear hq hb j0 j3 HN1 HR1 Z HEnd
    go_wp2_with fail
    refine HEq.out.mono ?_
    rintro e w2 ⟨rfl,x',o',z1,z2⟩
    have Z2:=Aia (And.intro z1 (HZq.out.2.trans z2))
    clear z1 z2
    go_wp2_with fail
    go_ret
    exact⟨rfl,x',o',Z2.out.1,Z2.out.2⟩
   ·rw[if_neg hc]
    have hte:(nw%cy==0)=false:=beq_eq_false_iff_ne.2 hc
    clear hr htm hc
    go_enter func44,ntmps44
    go_wp2_with fail
    refine HOn.out.mono ?_
    rintro e w1 ⟨rfl,rfl⟩
    rw[Ds]
    go_wp2_with fail
    refine HTi.out.mono ?_
    rintro e w1 ⟨rfl,g1,g2⟩
    have HR1:=Aia (HRe.out w1 g1)
    have HN1:=Aia (fun q=>HNw.out w1 q g1)
    obtain⟨z1,z2⟩:=HDg.out w1 g2 g1
    have Z:=Aia (And.intro z1 z2)
    obtain⟨j0,k1,k2,j3,k4,k5,k6,k7,k8,k9,k10,kf⟩:=Bm z1.box
    rw[<-hcyH.out]at j3
    clear g1 g2 z1 z2 k0 k1 k2 k4 k5 k6 k7 k8 k9 k10 kf HNw HRe HTi HDg
    go_wp2_with fail
    refine HR1.out.mono ?_
    rintro e w2 ⟨rfl,rfl⟩
    go_wp2_with fail
    go_quiet (first|(go_at_call 26;exact C5 (HN1.out _)))
    generalize hq:World.drewN w1 _=wq
    have hb:Below w1.heap.size w1 wq:=by rw[<-hq];exact Ag _ (Below.refl _ _)
    have HZq:=Aia (And.intro (Z.out.1.below hb) (Z.out.2.trans (Fr.below o hb)))
    clear hq hb j0 j3 HN1 HR1 Z
    go_wp2_with fail
    go_ret
    exact⟨rfl,x,o,HZq.out.1,HZq.out.2⟩
 ·rw[if_pos h0]
  obtain⟨q,hq⟩:∃q,Jz M=q+1:=⟨Jz M-1,by omega⟩
  rw[hq]at HOn ⊢
  clear h hO h0 hq
  go_enter func44,ntmps44
  go_wp2_with fail
  refine HOn.out.mono ?_
  rintro e w1 ⟨rfl,rfl⟩
  rw[D4]
  go_wp2_with fail
  go_ret
  exact⟨rfl,x,o,H.out,Fr.refl _ _⟩
end
end
section
open Go.RowKit
theorem Qh{M:KpM}{k:Nat}(h:(Bz M k).1≠0):∀j,Bz M (k+j)=Bz M k
 |0=>rfl
 |j+1=>by
  have ih:=Qh h j
  show(if (Bz M (k+j)).1≠0 then Bz M (k+j) else Iw (Bz M (k+j)).2)=_
  rw[ih,if_pos h]
theorem Zp{M M':KpM}{k:Nat}(h:Bz M k=(0,M')):Bz M (k+1)=Iw M':=by
 show(if (Bz M k).1≠0 then Bz M k else Iw (Bz M k).2)=_
 rw[h,if_neg (fun h=>h rfl)]
section
variable {B:Nat} {sa:Nat->Addr} {w0:World} {kb c:Nat} {txt:ByteArray} {x:KpX} {M:KpM} {o:Nat->Nat} {w:World} {T:Nat}
end
end
end Go.Proofs.YtikehilbmldadaaGreatDoor
