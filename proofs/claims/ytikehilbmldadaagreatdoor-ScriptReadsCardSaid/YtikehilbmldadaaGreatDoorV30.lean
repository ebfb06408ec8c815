import Derived.Test.YtikehilbmldadaaGreatDoorV28
import Derived.Test.YtikehilbmldadaaGreatDoorV31
import Derived.Test.YtikehilbmldadaaGreatDoorV40
import Derived.Test.YtikehilbmldadaaGreatDoorV38
set_option maxHeartbeats 4000000
set_option maxRecDepth 100000
set_option linter.unusedVariables false
open Go.Proofs.Tryz Go.Proofs.YtikehilbmldadaaGreatDoor.Tryz
namespace Go.Proofs.YtikehilbmldadaaGreatDoor
section
open Go.RowKit
section
variable {B:Nat} {sa:Nat->Addr} {w0:World} {kb c:Nat} {txt:ByteArray} {x:KpX} {M:KpM} {o:Nat->Nat} {w:World} {T:Nat}
theorem Bh.stat(h:Bh B sa w0 kb c txt x M o w){i l:Nat}{y:Aw}(h1:x.ls[i]? =some l)(h2:x.X[i]? =some y):
  Calls Tryz.prog 153 #[.pointer (some ⟨l,0,none⟩)] w fun e w'=>e=.returned (.string (Cr (Cq M i)))/\w=w':=by
 obtain⟨p1,p,t,p2,p3⟩:=h.loc i l y h1 h2
 cases ha:Cq M i with
 |none=>
  rw[ha]at p3
  exact Mk l y.E y.p y.g y.e y.f y.l w p3
 |some a=>
  rw[ha]at p3
  exact Nx l p t y.E y.p y.g y.e y.f y.l a w p3
theorem pJ(h:Bh B sa w0 kb c txt x M o w)(n:Nat)(hn:n<M.A.length):
  Calls Tryz.prog 129 #[.pointer (some ⟨kb,0,none⟩),.int .i64 n] w fun e w'=>e=.returned (.tuple #[.string (Cr (Cq M n)),.nilIface])/\w=w':=by
 obtain⟨k0,k1,k2,k3,k4,k5,k6,k7,k8,k9,k10,kf⟩:=Bm h.box
 obtain⟨ao,cap,hv,hc1,hc2,hr⟩:=h.row
 rw[hv]at k8
 obtain⟨b,off,l,y,rfl,q1,q2,q3,q4⟩:=hr n hn
 have HS:=Aia (h.stat q2 q3)
 have hn2:(n:Int)<M.A.length:=by omega
 clear h hv hn q2 q3 q4 hr k0 k1 k2 k3 k4 k5 k6 k7 k9 k10 kf
 go_enter func129,ntmps129
 go_wp2_with fail
 refine HS.out.mono ?_
 rintro e w1 ⟨rfl,rfl⟩
 go_wp2_with fail
 go_ret2
 exact⟨rfl,rfl⟩
theorem Zq(h:Bh B sa w0 kb c txt x M o w)(n:Nat)(hn:¬n<M.A.length):
  Calls Tryz.prog 129 #[.pointer (some ⟨kb,0,none⟩),.int .i64 n] w fun e w'=>e=.returned (.tuple #[.string ByteArray.empty,errv sa 5])/\Below w.heap.size w w':=by
 obtain⟨k0,k1,k2,k3,k4,k5,k6,k7,k8,k9,k10,kf⟩:=Bm h.box
 obtain⟨_,_,_,_,s4,_⟩:=h.b.se.all
 obtain⟨ao,cap,hv,hc1,hc2,_⟩:=h.row
 rw[hv]at k8
 have hn2:(M.A.length:Int)<=n:=by omega
 clear h hv hn k0 k1 k2 k3 k4 k5 k6 k7 k9 k10 kf
 go_enter func129,ntmps129
 go_wp2_with fail
 go_quiet (fail)
 go_wp2_with fail
 go_ret2
 exact⟨rfl,Ag _ (Below.refl _ _)⟩
theorem Wt(h:Bh B sa w0 kb c txt x M o w)(hO:B8 M T)(n:Nat)(hT:T+2*n<=400000):
  Calls Tryz.prog 123 #[.pointer (some ⟨kb,0,none⟩),.int .i64 n] w (Ec B sa w0 kb c txt (Bz M n) o w):=by
 unfold Ec
 have H:=Aia h
 have HOk:=Aia (fun k (hk:k<=n)=>Nc hO k (by omega))
 have HT:=Aia hT
 clear h hO hT
 go_enter func123,ntmps123
 go_wp2_with fail
 go_loopw [7] (fun s wr=>∃(i:Nat) (x':KpX) (o':Nat->Nat) (M':KpM),i<=n/\s=.int .i64 i/\Hid (Bz M i=(0,M'))/\Hid (Bh B sa w0 kb c txt x' M' o' wr)/\Hid (Fr o o' w wr)) (fun s _=>n-(intOf s).toNat)
 case atStart=>exact⟨0,x,o,M,Nat.zero_le _,rfl,rfl,H,Aia (Fr.refl _ _)⟩
 case round=>
  obtain⟨i,x',o',M',hi,rfl,he,hk,hf⟩:=hrel
  by_cases hlt:i<n
  ·have hO1:=HOk.out i hi
   rw[he.out]at hO1
   have HTk:=Aia (tW hk.out hO1 (by have:=HT.out;omega))
   unfold Ec at HTk
   have HN:=Aia (Zp he.out)
   obtain⟨r,hr⟩:∃r,r=Iw M':=⟨_,rfl⟩
   rw[<-hr]at HTk HN
   obtain⟨re,rM⟩:=r
   have hi64:(i:Int)<=400000:=by have:=HT.out;omega
   clear hr hO1
   go_wp2_with fail
   refine HTk.out.mono ?_
   rintro e w1 ⟨rfl,x2,o2,z1,z2⟩
   have HZ:=Aia z1
   have HF:=Aia (hf.out.trans z2)
   clear z1 z2 HTk hk hf
   cases re with
   |zero=>
    rw[Ds]
    go_wp2_with fail
    go_roundw
    case rel=>exact⟨i+1,x2,o2,rM,by omega,by go_num,HN,HZ,HF⟩
    case measure=>simp[intOf];omega
   |succ q=>
    rw[D4]
    have HE:=Aia (show Bz M n=(q+1,rM)from by
     have h1:=Qh (M:=M) (k:=i+1) (by rw[HN.out];exact Nat.succ_ne_zero q) (n-(i+1))
     rw[show i+1+(n-(i+1))=n by omega,HN.out]at h1
     exact h1)
    go_wp2_with fail
    go_ret
    rw[HE.out]
    exact⟨rfl,x2,o2,HZ.out,HF.out⟩
  ·have HE:=Aia (show Bz M n=(0,M')from by rw[show n=i by omega];exact he.out)
   go_wp2_with fail
   go_ret
   rw[HE.out]
   exact⟨rfl,x',o',hk.out,hf.out⟩
theorem Aa2(h:Bh B sa w0 kb c txt x M o w)(n:Int):
  Calls Tryz.prog 125 #[.pointer (some ⟨c,0,none⟩),.int .i64 n] w (Ec B sa w0 kb c txt (Abx M.m.off n,{ M with m:=Rw M.m n}) o w):=by
 refine(gH B sa c x.rb _ x.cap M.m n w h.b.mem h.b.se).mono ?_
 rintro e w' ⟨rfl,h1,h2⟩
 exact⟨rfl,x,o,h.cell' h2 h1,Fr.of h2 (fun b hb=>by rw[hb,h.b.oc];decide)⟩
end
end
section
open Go.RowKit
theorem Y3(B:Nat)(s:ByteArray)(hs:s.size<=100000)(w:World)(hN:Ra B w)(hB:B<=w.heap.size):
  Calls Tryz.prog 77 #[.string s] w fun e w'=>∃n,e=.returned (.tuple #[.int .i64 n,.bool (Ej s).isSome])/\(∀k,Ej s=some k->n=k)/\Below w.heap.size w w':=by
 have HN:=Aia hN
 have HB:=Aia hB
 cases hA:Lib.atoiAll s.data.toList
 case ok v=>
  obtain⟨b0,b1⟩:=Lib.atoiAll_bounds hA
  have HC:=Aia (Tryz.strconv_Atoi_ok s (by omega) v hA w)
  have HNV:=Aia (show Ej s=if s.size<=5/\0<=v/\Lib.itoa v=s.data.toList then some v.toNat else none from by unfold Ej;rw[hA])
  have HIT:=Aia (fun W (hW:Below w.heap.size w W)=>K3 B v W ((hN.below hW hB).tab) b0 b1)
  clear hA hN b0 b1 hB hs
  go_enter func77,ntmps77
  go_wp2_with fail
  refine HC.out.mono ?_
  rintro e w1 ⟨rfl,hw⟩
  have hb1:Below w.heap.size w w1:=by
   rcases hw with rfl|⟨t,rfl⟩
   ·exact Below.refl _ _
   ·exact Lib.bytesWorld_below _ _ _
  clear hw HC
  have HI:=Aia (HIT.out w1 hb1)
  clear HIT
  by_cases h5:(s.size:Int)<=5
  ·by_cases h0:0<=v
   ·obtain⟨z,hz⟩:∃z,(Lib.itoa v==s.toList)=z:=⟨_,rfl⟩
    have HZ:=Aia hz
    have H13:=Aia (show s.size<=5 from by omega)
    have H0:=Aia h0
    have hdat:(Lib.itoa v=s.data.toList)↔z=true:=by
     rw[<-HZ.out,beq_iff_eq,ByteArray.toList_eq]
    have HD:=Aia hdat
    clear hdat
    have HR:Hid (z=(Ej s).isSome):=Aia (by
     rw[HNV.out]
     cases z
     ·rw[if_neg (fun hh=>by have:=HD.out.1 hh.2.2;cases this)];rfl
     ·rw[if_pos ⟨H13.out,H0.out,HD.out.2 rfl⟩];rfl)
    have HK:Hid (∀k,Ej s=some k->v=k):=Aia (by
     intro k hk
     rw[HNV.out]at hk
     split at hk
     ·have:=Option.some.inj hk
      have:=H0.out
      omega
     ·cases hk)
    go_wp2_with fail
    refine HI.out.mono ?_
    rintro e w2 ⟨rfl,b2⟩
    have hb2:=hb1.trans (b2.mono hb1.size)
    go_wp2_with fail
    refine bodyPost_ret (results_tmp2 rfl _ _ _) rfl ?_
    exact⟨_,by rw[<-HR.out];rfl,HK.out,hb2⟩
   ·have HR:Hid (Ej s=none):=Aia (by rw[HNV.out,if_neg (fun hh=>h0 hh.2.1)])
    clear HNV
    go_wp2_with fail
    refine bodyPost_ret (results_tmp2 rfl _ _ _) rfl ?_
    exact⟨_,by rw[HR.out];rfl,(fun k hk=>by rw[HR.out]at hk;cases hk),hb1⟩
  ·have HR:Hid (Ej s=none):=Aia (by rw[HNV.out,if_neg (fun hh=>h5 (by omega))])
   clear HNV
   go_wp2_with fail
   refine bodyPost_ret (results_tmp2 rfl _ _ _) rfl ?_
   exact⟨_,by rw[HR.out];rfl,(fun k hk=>by rw[HR.out]at hk;cases hk),hb1⟩
 case range=>
  obtain⟨t,p,her⟩:=hN.er
  have HR:Hid (Ej s=none):=Aia (by unfold Ej;rw[hA])
  have HC:=Aia (Tryz.strconv_Atoi_range s (by omega) hA (.iface t p) w her (.inr ⟨_,_,rfl⟩))
  clear hA hN her hB hs
  go_enter func77,ntmps77
  go_wp2_with fail
  refine HC.out.mono ?_
  rintro e w1 ⟨N,rfl,_,_,hb1⟩
  clear HC
  go_wp2_with fail
  refine bodyPost_ret (results_tmp2 rfl _ _ _) rfl ?_
  exact⟨_,by rw[HR.out];rfl,(fun k hk=>by rw[HR.out]at hk;cases hk),hb1⟩
 all_goals
  obtain⟨t,p,hes⟩:=hN.es
  have HR:Hid (Ej s=none):=Aia (by unfold Ej;rw[hA])
  have HC:=Aia (strconv_Atoi_bad s (by omega) (fun v hv=>by rw[hA]at hv;cases hv) (fun hv=>by rw[hA]at hv;cases hv) (.iface t p) w hes (.inr ⟨_,_,rfl⟩))
  clear hA hN hes hB hs
  go_enter func77,ntmps77
  go_wp2_with fail
  refine HC.out.mono ?_
  rintro e w1 ⟨N,rfl,_,_,hb1⟩
  clear HC
  go_wp2_with fail
  refine bodyPost_ret (results_tmp2 rfl _ _ _) rfl ?_
  exact⟨_,by rw[HR.out];rfl,(fun k hk=>by rw[HR.out]at hk;cases hk),hb1⟩
end
section
open Go.RowKit
theorem Afb(B:Nat)(sa:Nat->Addr)(k:Nat)(w:World)(hS:Dp B sa w):
  Calls Tryz.prog 40 #[errv sa (k+1)] w fun e w'=>e=.returned (errv sa (k+1))/\Below w.heap.size w w':=by
 have hb:=(Below.refl w.heap.size w).alloc (Nat.le_refl _) (.cells #[.pointer none] 154)
 have HC:=Aia (xX (sa k) ⟨w.heap.size,0,none⟩ (w.alloc (.cells #[.pointer none] 154)) (by have:=hS.below hb;exact this.et))
 have HB:=Aia hb
 clear hS hb
 rw[D4]
 go_enter func40,ntmps40
 go_wp2_with fail
 refine HC.out.mono ?_
 rintro e w1 ⟨rfl,b1⟩
 have HB1:=Aia (HB.out.trans (b1.mono (by simp)))
 clear b1 HC HB
 go_wp2_with fail
 go_ret
 exact⟨rfl,HB1.out⟩
theorem L9(v:Value)(w:World):Calls Tryz.prog 119 #[v] w fun e w'=>e=.returned (.tuple #[.string okS,v])/\w=w':=by
 go_enter func119,ntmps119
 go_wp2_with fail
 go_ret2
 exact⟨rfl,rfl⟩
end
section
open Go.RowKit
def plC(kb c:Nat):Obj:=.cells #[.pointer (some ⟨kb,0,none⟩),.pointer (some ⟨c,0,none⟩)] 98
theorem Fe{w:World}{pb kb c:Nat}(h:w.heap[pb]? =some (plC kb c)):w.cell? ⟨pb,0,none⟩=some (.pointer (some ⟨kb,0,none⟩))/\w.cell? ⟨pb,1,none⟩=some (.pointer (some ⟨c,0,none⟩)):=by
 unfold plC at h
 simp[World.cell?,h]
section
variable {B:Nat} {sa:Nat->Addr} {w0:World} {kb c pb:Nat} {txt:ByteArray} {x:KpX} {M:KpM} {o:Nat->Nat} {w:World} {T:Nat}
def Er(B:Nat)(sa:Nat->Addr)(w0:World)(kb c:Nat)(txt:ByteArray)(r:Nat × ByteArray × KpM)(o:Nat->Nat)(w:World)(e:Ending)(w':World):Prop:=
 e=.returned (.tuple #[.string r.2.1,errv sa r.1])/\∃x' o',Bh B sa w0 kb c txt x' r.2.2 o' w'/\Fr o o' w w'
theorem Ec.from{W W':World}{r:Nat × KpM}{e:Ending}(hW:Below w.heap.size w W)(hh:Ec B sa w0 kb c txt r o W e W'):
  e=.returned (errv sa r.1)/\(∀b i v,w.cell? ⟨b,i,none⟩=some v->o b=0->W'.cell? ⟨b,i,none⟩=some v)/\∃x' o',Bh B sa w0 kb c txt x' r.2 o' W'/\Fr o o' w W':=by
 obtain⟨h1,x',o',h2,h3⟩:=hh
 have hf:Fr o o' w W':=(Fr.below o hW).trans h3
 refine⟨h1,fun b i v hv ho=>?_,x',o',h2,hf⟩
 rw[hf.kp.cell (p:=⟨b,i,none⟩) (World.block_lt_of_cell? w ⟨b,i,none⟩ hv) (by simp only[ho];exact fun h=>h rfl)]
 exact hv
theorem Mq{M':KpM}{w1 W:World}(h:∃x' o',Bh B sa w0 kb c txt x' M' o' w1/\Fr o o' w w1)(b:Below w1.heap.size w1 W):∃x' o',Bh B sa w0 kb c txt x' M' o' W/\Fr o o' w W:=by
 obtain⟨x',o',h1,h2⟩:=h
 exact⟨x',o',h1.below b,h2.trans (Fr.below o' b)⟩
theorem Zr(h:Bh B sa w0 kb c txt x M o w)(n:Nat):
  Calls Tryz.prog 129 #[.pointer (some ⟨kb,0,none⟩),.int .i64 n] w fun e w'=>e=.returned (.tuple #[.string (Es txt M 6 [n]).2.1,errv sa (Es txt M 6 [n]).1])/\Below w.heap.size w w':=by
 by_cases hn:n<M.A.length
 ·have e:Es txt M 6 [n]=(0,Cr (Cq M n),M):=by
   unfold Es
   simp only[List.getD_cons_zero]
   rw[if_pos (by omega)]
   simp
  rw[e]
  exact(pJ h n hn).mono (fun e w' ⟨h1,h2⟩=>⟨h1,h2▸Below.refl _ _⟩)
 ·have e:Es txt M 6 [n]=(5,ByteArray.empty,M):=by
   unfold Es
   simp only[List.getD_cons_zero]
   rw[if_neg (by omega)]
  rw[e]
  exact Zq h n hn
theorem Ahi(txt:ByteArray)(M:KpM)(n:Nat):(Es txt M 6 [n]).2.2=M:=by
 unfold Es
 simp only
 split<;>rfl
theorem Ae8(h:Bh B sa w0 kb c txt x M o w)(hO:B8 M T)(hp:w.heap[pb]? =some (plC kb c))(ho:o pb=0)(nb cap n0:Nat)(hn0:w.cell? ⟨nb,0,none⟩=some (.int .i64 n0))(hnb:o nb=0):
  Calls Tryz.prog 118 #[.pointer (some ⟨pb,0,none⟩),.slice (some ⟨nb,0,none⟩) 1 cap] w (Er B sa w0 kb c txt (Es txt M 0 [n0]) o w):=by
 obtain⟨p0,p1⟩:=Fe hp
 obtain⟨r,hr⟩:∃r:Nat × KpM,r=Kd M (n0:Int):=⟨_,rfl⟩
 have HB:=Aia (fun W (hW:Below w.heap.size w W)=>(pP (h.below hW) hO (n0:Int)).mono (fun e w' hh=>Ec.from hW hh))
 have hd:Es txt M 0 [n0]=(r.1,okS,r.2):=by rw[hr];rfl
 rw[hd]
 rw[<-hr]at HB
 have HC:=Aia (fun(w':World) (hc:∀b i v,w.cell? ⟨b,i,none⟩=some v->o b=0->w'.cell? ⟨b,i,none⟩=some v)=>(show w'.cell? ⟨pb,0,none⟩=some (.pointer (some ⟨kb,0,none⟩))/\w'.cell? ⟨nb,0,none⟩=some (.int .i64 n0)from⟨hc pb 0 _ p0 ho,hc nb 0 _ hn0 hnb⟩))
 obtain⟨re,rM⟩:=r
 unfold Er
 clear h hO hp ho hr hd hnb
 go_enter func118,ntmps118
 go_wp2_with fail
 go_region_held3 (fun w'=>w'.cell? ⟨pb,0,none⟩=some (.pointer (some ⟨kb,0,none⟩))/\w'.cell? ⟨nb,0,none⟩=some (.int .i64 n0))
  (first|exact⟨p0,hn0⟩|exact HC.out _ hcx.out)
  (first|(go_at_call 20;refine(HB.out _ ?_).mono ?_;(repeat(first|exact Below.refl _ _|refine Below.drew ?_));rintro e w1 ⟨rfl,hc,z⟩;have hcx:=Aia hc;have HZ:=Aia z;clear hc z)|(go_at_call 119;refine(L9 _ _).mono ?_;rintro e w2 ⟨rfl,rfl⟩))
 all_goals
  go_wp2_with fail
  go_ret2
  exact⟨rfl,Mq HZ.out (by repeat(first|exact Below.refl _ _|refine Below.drew ?_))⟩
theorem Ae7(h:Bh B sa w0 kb c txt x M o w)(hO:B8 M T)(hp:w.heap[pb]? =some (plC kb c))(ho:o pb=0)(nb cap n0:Nat)(hn0:w.cell? ⟨nb,0,none⟩=some (.int .i64 n0))(hnb:o nb=0):
  Calls Tryz.prog 120 #[.pointer (some ⟨pb,0,none⟩),.slice (some ⟨nb,0,none⟩) 1 cap] w (Er B sa w0 kb c txt (Es txt M 1 [n0]) o w):=by
 obtain⟨p0,p1⟩:=Fe hp
 obtain⟨r,hr⟩:∃r:Nat × KpM,r=Nd M (n0:Int):=⟨_,rfl⟩
 have HB:=Aia (fun W (hW:Below w.heap.size w W)=>(tY (h.below hW) hO (n0:Int)).mono (fun e w' hh=>Ec.from hW hh))
 have hd:Es txt M 1 [n0]=(r.1,okS,r.2):=by rw[hr];rfl
 rw[hd]
 rw[<-hr]at HB
 have HC:=Aia (fun(w':World) (hc:∀b i v,w.cell? ⟨b,i,none⟩=some v->o b=0->w'.cell? ⟨b,i,none⟩=some v)=>(show w'.cell? ⟨pb,0,none⟩=some (.pointer (some ⟨kb,0,none⟩))/\w'.cell? ⟨nb,0,none⟩=some (.int .i64 n0)from⟨hc pb 0 _ p0 ho,hc nb 0 _ hn0 hnb⟩))
 obtain⟨re,rM⟩:=r
 unfold Er
 clear h hO hp ho hr hd hnb
 go_enter func120,ntmps120
 go_wp2_with fail
 go_region_held3 (fun w'=>w'.cell? ⟨pb,0,none⟩=some (.pointer (some ⟨kb,0,none⟩))/\w'.cell? ⟨nb,0,none⟩=some (.int .i64 n0))
  (first|exact⟨p0,hn0⟩|exact HC.out _ hcx.out)
  (first|(go_at_call 21;refine(HB.out _ ?_).mono ?_;(repeat(first|exact Below.refl _ _|refine Below.drew ?_));rintro e w1 ⟨rfl,hc,z⟩;have hcx:=Aia hc;have HZ:=Aia z;clear hc z)|(go_at_call 119;refine(L9 _ _).mono ?_;rintro e w2 ⟨rfl,rfl⟩))
 all_goals
  go_wp2_with fail
  go_ret2
  exact⟨rfl,Mq HZ.out (by repeat(first|exact Below.refl _ _|refine Below.drew ?_))⟩
theorem Ae6(h:Bh B sa w0 kb c txt x M o w)(hO:B8 M T)(hp:w.heap[pb]? =some (plC kb c))(ho:o pb=0)(nb cap n0 n1:Nat)(hn0:w.cell? ⟨nb,0,none⟩=some (.int .i64 n0))(hn1:w.cell? ⟨nb,1,none⟩=some (.int .i64 n1))(hnb:o nb=0):
  Calls Tryz.prog 121 #[.pointer (some ⟨pb,0,none⟩),.slice (some ⟨nb,0,none⟩) 2 cap] w (Er B sa w0 kb c txt (Es txt M 2 [n0,n1]) o w):=by
 obtain⟨p0,p1⟩:=Fe hp
 obtain⟨r,hr⟩:∃r:Nat × KpM,r=Ix M (n0:Int) (n1:Int):=⟨_,rfl⟩
 have HB:=Aia (fun W (hW:Below w.heap.size w W)=>(Zs (h.below hW) hO (n0:Int) (n1:Int)).mono (fun e w' hh=>Ec.from hW hh))
 have hd:Es txt M 2 [n0,n1]=(r.1,okS,r.2):=by rw[hr];rfl
 rw[hd]
 rw[<-hr]at HB
 have HC:=Aia (fun(w':World) (hc:∀b i v,w.cell? ⟨b,i,none⟩=some v->o b=0->w'.cell? ⟨b,i,none⟩=some v)=>(show w'.cell? ⟨pb,0,none⟩=some (.pointer (some ⟨kb,0,none⟩))/\w'.cell? ⟨nb,0,none⟩=some (.int .i64 n0)/\w'.cell? ⟨nb,1,none⟩=some (.int .i64 n1)from⟨hc pb 0 _ p0 ho,hc nb 0 _ hn0 hnb,hc nb 1 _ hn1 hnb⟩))
 obtain⟨re,rM⟩:=r
 unfold Er
 clear h hO hp ho hr hd hnb
 go_enter func121,ntmps121
 go_wp2_with fail
 go_region_held3 (fun w'=>w'.cell? ⟨pb,0,none⟩=some (.pointer (some ⟨kb,0,none⟩))/\w'.cell? ⟨nb,0,none⟩=some (.int .i64 n0)/\w'.cell? ⟨nb,1,none⟩=some (.int .i64 n1))
  (first|exact⟨p0,hn0,hn1⟩|exact HC.out _ hcx.out)
  (first|(go_at_call 22;refine(HB.out _ ?_).mono ?_;(repeat(first|exact Below.refl _ _|refine Below.drew ?_));rintro e w1 ⟨rfl,hc,z⟩;have hcx:=Aia hc;have HZ:=Aia z;clear hc z)|(go_at_call 119;refine(L9 _ _).mono ?_;rintro e w2 ⟨rfl,rfl⟩))
 all_goals
  go_wp2_with fail
  go_ret2
  exact⟨rfl,Mq HZ.out (by repeat(first|exact Below.refl _ _|refine Below.drew ?_))⟩
theorem Ae5(h:Bh B sa w0 kb c txt x M o w)(hO:B8 M T)(hp:w.heap[pb]? =some (plC kb c))(ho:o pb=0)(nb cap n0:Nat)(hn0:w.cell? ⟨nb,0,none⟩=some (.int .i64 n0))(hnb:o nb=0)(hT:T+2*n0<=400000):
  Calls Tryz.prog 122 #[.pointer (some ⟨pb,0,none⟩),.slice (some ⟨nb,0,none⟩) 1 cap] w (Er B sa w0 kb c txt (Es txt M 3 [n0]) o w):=by
 obtain⟨p0,p1⟩:=Fe hp
 obtain⟨r,hr⟩:∃r:Nat × KpM,r=Bz M n0:=⟨_,rfl⟩
 have HB:=Aia (fun W (hW:Below w.heap.size w W)=>(Wt (h.below hW) hO n0 hT).mono (fun e w' hh=>Ec.from hW hh))
 have hd:Es txt M 3 [n0]=(r.1,okS,r.2):=by rw[hr];rfl
 rw[hd]
 rw[<-hr]at HB
 have HC:=Aia (fun(w':World) (hc:∀b i v,w.cell? ⟨b,i,none⟩=some v->o b=0->w'.cell? ⟨b,i,none⟩=some v)=>(show w'.cell? ⟨pb,0,none⟩=some (.pointer (some ⟨kb,0,none⟩))/\w'.cell? ⟨nb,0,none⟩=some (.int .i64 n0)from⟨hc pb 0 _ p0 ho,hc nb 0 _ hn0 hnb⟩))
 obtain⟨re,rM⟩:=r
 unfold Er
 clear h hO hp ho hr hd hnb hT
 go_enter func122,ntmps122
 go_wp2_with fail
 go_region_held3 (fun w'=>w'.cell? ⟨pb,0,none⟩=some (.pointer (some ⟨kb,0,none⟩))/\w'.cell? ⟨nb,0,none⟩=some (.int .i64 n0))
  (first|exact⟨p0,hn0⟩|exact HC.out _ hcx.out)
  (first|(go_at_call 123;refine(HB.out _ ?_).mono ?_;(repeat(first|exact Below.refl _ _|refine Below.drew ?_));rintro e w1 ⟨rfl,hc,z⟩;have hcx:=Aia hc;have HZ:=Aia z;clear hc z)|(go_at_call 119;refine(L9 _ _).mono ?_;rintro e w2 ⟨rfl,rfl⟩))
 all_goals
  go_wp2_with fail
  go_ret2
  exact⟨rfl,Mq HZ.out (by repeat(first|exact Below.refl _ _|refine Below.drew ?_))⟩
theorem Ae4(h:Bh B sa w0 kb c txt x M o w)(hO:B8 M T)(hp:w.heap[pb]? =some (plC kb c))(ho:o pb=0)(nb cap n0:Nat)(hn0:w.cell? ⟨nb,0,none⟩=some (.int .i64 n0))(hnb:o nb=0):
  Calls Tryz.prog 124 #[.pointer (some ⟨pb,0,none⟩),.slice (some ⟨nb,0,none⟩) 1 cap] w (Er B sa w0 kb c txt (Es txt M 4 [n0]) o w):=by
 obtain⟨p0,p1⟩:=Fe hp
 obtain⟨r,hr⟩:∃r:Nat × KpM,r=((Abx M.m.off (n0:Int),{ M with m:=Rw M.m (n0:Int)}):Nat × KpM):=⟨_,rfl⟩
 have HB:=Aia (fun W (hW:Below w.heap.size w W)=>(Aa2 (h.below hW) (n0:Int)).mono (fun e w' hh=>Ec.from hW hh))
 have hd:Es txt M 4 [n0]=(r.1,okS,r.2):=by rw[hr];rfl
 rw[hd]
 rw[<-hr]at HB
 have HC:=Aia (fun(w':World) (hc:∀b i v,w.cell? ⟨b,i,none⟩=some v->o b=0->w'.cell? ⟨b,i,none⟩=some v)=>(show w'.cell? ⟨pb,1,none⟩=some (.pointer (some ⟨c,0,none⟩))/\w'.cell? ⟨nb,0,none⟩=some (.int .i64 n0)from⟨hc pb 1 _ p1 ho,hc nb 0 _ hn0 hnb⟩))
 obtain⟨re,rM⟩:=r
 unfold Er
 clear h hO hp ho hr hd hnb
 go_enter func124,ntmps124
 go_wp2_with fail
 go_region_held3 (fun w'=>w'.cell? ⟨pb,1,none⟩=some (.pointer (some ⟨c,0,none⟩))/\w'.cell? ⟨nb,0,none⟩=some (.int .i64 n0))
  (first|exact⟨p1,hn0⟩|exact HC.out _ hcx.out)
  (first|(go_at_call 125;refine(HB.out _ ?_).mono ?_;(repeat(first|exact Below.refl _ _|refine Below.drew ?_));rintro e w1 ⟨rfl,hc,z⟩;have hcx:=Aia hc;have HZ:=Aia z;clear hc z)|(go_at_call 119;refine(L9 _ _).mono ?_;rintro e w2 ⟨rfl,rfl⟩))
 all_goals
  go_wp2_with fail
  go_ret2
  exact⟨rfl,Mq HZ.out (by repeat(first|exact Below.refl _ _|refine Below.drew ?_))⟩
theorem Ae3(h:Bh B sa w0 kb c txt x M o w)(hO:B8 M T)(hp:w.heap[pb]? =some (plC kb c))(ho:o pb=0)(nv:Value):
  Calls Tryz.prog 126 #[.pointer (some ⟨pb,0,none⟩),nv] w (Er B sa w0 kb c txt (Es txt M 5 []) o w):=by
 obtain⟨p0,p1⟩:=Fe hp
 obtain⟨r,hr⟩:∃r:Nat × KpM,r=Ov M:=⟨_,rfl⟩
 have HB:=Aia (fun W (hW:Below w.heap.size w W)=>(vA (h.below hW) hO).mono (fun e w' hh=>Ec.from hW hh))
 have hd:Es txt M 5 []=(r.1,okS,r.2):=by rw[hr];rfl
 rw[hd]
 rw[<-hr]at HB
 obtain⟨re,rM⟩:=r
 unfold Er
 clear h hO hp ho hr hd
 go_enter func126,ntmps126
 go_wp2_with fail
 refine(HB.out _ (Below.refl _ _)).mono ?_
 rintro e w1 ⟨rfl,hc,z⟩
 have HZ:=Aia z
 clear hc z
 go_wp2_with fail
 refine(L9 _ _).mono ?_
 rintro e w2 ⟨rfl,rfl⟩
 go_wp2_with fail
 go_ret2
 exact⟨rfl,HZ.out⟩
theorem Ae2(h:Bh B sa w0 kb c txt x M o w)(hp:w.heap[pb]? =some (plC kb c))(nb cap n0:Nat)(hn0:w.cell? ⟨nb,0,none⟩=some (.int .i64 n0)):
  Calls Tryz.prog 128 #[.pointer (some ⟨pb,0,none⟩),.slice (some ⟨nb,0,none⟩) 1 cap] w (Er B sa w0 kb c txt (Es txt M 6 [n0]) o w):=by
 obtain⟨p0,p1⟩:=Fe hp
 have HB:=Aia (fun W (hW:Below w.heap.size w W)=>(Zr (h.below hW) n0).mono (fun e w' hh=>And.intro hh.1 (hW.trans (hh.2.mono hW.size))))
 have HC:=Aia (fun(w':World) (hw:Below w.heap.size w w')=>(show w'.cell? ⟨pb,0,none⟩=some (.pointer (some ⟨kb,0,none⟩))/\w'.cell? ⟨nb,0,none⟩=some (.int .i64 n0)from
  ⟨by rw[hw.cell (p:=⟨pb,0,none⟩) (World.block_lt_of_cell? w ⟨pb,0,none⟩ p0)];exact p0,by rw[hw.cell (p:=⟨nb,0,none⟩) (World.block_lt_of_cell? w ⟨nb,0,none⟩ hn0)];exact hn0⟩))
 have HD:=Aia (Ahi txt M n0)
 have H:=Aia h
 obtain⟨re,hr⟩:∃r,r=Es txt M 6 [n0]:=⟨_,rfl⟩
 rw[<-hr]at HB HD ⊢
 obtain⟨re,rs,rM⟩:=re
 unfold Er
 clear h hp hr
 go_enter func128,ntmps128
 go_wp2_with fail
 go_region_held3 (fun w'=>w'.cell? ⟨pb,0,none⟩=some (.pointer (some ⟨kb,0,none⟩))/\w'.cell? ⟨nb,0,none⟩=some (.int .i64 n0))
  (first|exact⟨p0,hn0⟩|exact HC.out _ hb1.out)
  (first|(go_at_call 129;refine(HB.out _ ?_).mono ?_;(repeat(first|exact Below.refl _ _|refine Below.drew ?_));rintro e w1 ⟨rfl,b1⟩;have hb1:=Aia b1;clear b1))
 all_goals
  go_wp2_with fail
  go_ret2
  rw[show rM=M from HD.out]
  refine⟨rfl,x,o,H.out.below ?_,Fr.below o ?_⟩<;>(repeat(first|exact hb1.out|refine Below.drew ?_))
def Cc(s:ByteArray)(w:World)(e:Ending)(w':World):Prop:=e=.returned (.string s)/\Below w.heap.size w w'
theorem Ae1(h:Bh B sa w0 kb c txt x M o w)(hO:B8 M T)(hT:J4 B w)(hp:w.heap[pb]? =some (plC kb c)):
  Calls Tryz.prog 131 #[.pointer (some ⟨pb,0,none⟩)] w (Cc (Es txt M 7 []).2.1 w):=by
 obtain⟨p0,p1⟩:=Fe hp
 obtain⟨k0,k1,k2,k3,k4,k5,k6,k7,k8,k9,k10,kf⟩:=Bm h.box
 have hd:=hO.dog
 have h1:=hd.l0
 have h2:=hd.ln
 have h3:=hd.n1
 have h4:=hd.k0
 have h5:=hd.k1
 have HB:=Aia (Nt x.d M.D w h.b.dog)
 have HI:=Aia (K3 B M.D.now w hT (by omega) (by omega))
 obtain⟨nn,hnn⟩:∃nn,nn=M.D.now:=⟨_,rfl⟩
 show Calls _ _ _ _ (Cc (Fc (Lib.itoa M.D.now)) w)
 rw[<-hnn]at HB HI ⊢
 unfold Cc Fc
 clear h hO hT hp k1 k2 k3 k4 k5 k6 k7 k8 k9 k10 kf hd h1 h2 h3 h4 h5 hnn
 go_enter func131,ntmps131
 go_wp2_with fail
 refine HB.out.mono ?_
 rintro e w1 ⟨rfl,rfl⟩
 go_wp2_with fail
 refine HI.out.mono ?_
 rintro e w1 ⟨rfl,b1⟩
 go_wp2_with fail
 go_ret
 exact⟨rfl,b1⟩
theorem Ae0(h:Bh B sa w0 kb c txt x M o w)(hO:B8 M T)(hT:J4 B w)(hp:w.heap[pb]? =some (plC kb c)):
  Calls Tryz.prog 132 #[.pointer (some ⟨pb,0,none⟩)] w (Cc (Es txt M 8 []).2.1 w):=by
 obtain⟨p0,p1⟩:=Fe hp
 obtain⟨k0,k1,k2,k3,k4,k5,k6,k7,k8,k9,k10,kf⟩:=Bm h.box
 have hd:=hO.dog
 have h1:=hd.l0
 have h2:=hd.ln
 have h3:=hd.n1
 have h4:=hd.k0
 have h5:=hd.k1
 have HB:=Aia (gA x.d M.D w h.b.dog)
 have HI:=Aia (K3 B M.D.kicks w hT (by omega) (by omega))
 obtain⟨nn,hnn⟩:∃nn,nn=M.D.kicks:=⟨_,rfl⟩
 show Calls _ _ _ _ (Cc (Fc (Lib.itoa M.D.kicks)) w)
 rw[<-hnn]at HB HI ⊢
 unfold Cc Fc
 clear h hO hT hp k1 k2 k3 k4 k5 k6 k7 k8 k9 k10 kf hd h1 h2 h3 h4 h5 hnn
 go_enter func132,ntmps132
 go_wp2_with fail
 refine HB.out.mono ?_
 rintro e w1 ⟨rfl,rfl⟩
 go_wp2_with fail
 refine HI.out.mono ?_
 rintro e w1 ⟨rfl,b1⟩
 go_wp2_with fail
 go_ret
 exact⟨rfl,b1⟩
theorem Ab5(h:Bh B sa w0 kb c txt x M o w)(hp:w.heap[pb]? =some (plC kb c)):
  Calls Tryz.prog 133 #[.pointer (some ⟨pb,0,none⟩)] w (Cc (Es txt M 9 []).2.1 w):=by
 obtain⟨p0,p1⟩:=Fe hp
 have HB:=Aia (pI h)
 show Calls _ _ _ _ (Cc (M.st.str) w)
 obtain⟨s,hs⟩:∃s,s=M.st.str:=⟨_,rfl⟩
 rw[<-hs]at HB ⊢
 unfold Cc
 clear h hp hs
 go_enter func133,ntmps133
 go_wp2_with fail
 refine HB.out.mono ?_
 rintro e w1 ⟨rfl,rfl⟩
 go_wp2_with fail
 go_ret
 exact⟨rfl,Below.refl _ _⟩
theorem Ab4(h:Bh B sa w0 kb c txt x M o w)(hp:w.heap[pb]? =some (plC kb c)):
  Calls Tryz.prog 134 #[.pointer (some ⟨pb,0,none⟩)] w (Cc (Es txt M 10 []).2.1 w):=by
 obtain⟨p0,p1⟩:=Fe hp
 have HB:=Aia (pK h)
 show Calls _ _ _ _ (Cc (Pv M) w)
 obtain⟨s,hs⟩:∃s,s=Pv M:=⟨_,rfl⟩
 rw[<-hs]at HB ⊢
 unfold Cc
 clear h hp hs
 go_enter func134,ntmps134
 go_wp2_with fail
 refine HB.out.mono ?_
 rintro e w1 ⟨rfl,rfl⟩
 go_wp2_with fail
 go_ret
 exact⟨rfl,Below.refl _ _⟩
end
end
section
open Go.RowKit
theorem Pw{α β:Type}(f:α->List β)(n:Nat):∀L:List α,(∀x∈L,(f x).length<=n)->(L.flatMap f).length<=n*L.length
 |[],_=>by simp
 |a::L,h=>by
  have h1:=Pw f n L (fun x hx=>h x (List.mem_cons_of_mem _ hx))
  have h2:=h a (List.mem_cons_self ..)
  rw[List.flatMap_cons,List.length_append,List.length_cons,Nat.mul_succ]
  omega
theorem vC{E:Ap}(h:Fu E):(B6 E).length<=122:=by
 have K1:(Ew E).length<=1:=by
  unfold Ew
  split<;>simp
 have h1:=h.pl
 have h2:=h.gl
 have h3:=h.el
 have h4:=h.fl
 have h5:=h.ll
 unfold B6
 simp only[List.length_cons,List.length_append,List.length_map]
 omega
theorem Yi{C:Al}(hC:B7 C=(0,-1)):∀E∈C.ents,Fu E:=fun E hE=>by
 obtain⟨i,hi,rfl⟩:=List.getElem_of_mem hE
 have:=(Cw hC).2.2 i hi
 rw[Mp hi]at this
 exact T6 this
theorem Ad1{C:Al}(hC:B7 C=(0,-1)):(Ld C).length<=1000:=by
 have hb:=(Cw hC).1
 unfold Dt at hb
 rw[decide_eq_false_iff_not]at hb
 have h1:=Pw B6 122 C.ents (fun x hx=>vC (Yi hC x hx))
 have h2:C.ents.length<=8:=by omega
 have h3:=Nat.mul_le_mul_left 122 h2
 unfold Ld
 rw[List.length_append]
 have h4:(G2 C).length=3:=rfl
 omega
theorem Ag8{C:Al}(hC:B7 C=(0,-1))(k:Nat)(hk:k<=(Ao ⟨(Df C).toArray⟩).length):k<=1000:=by
 rw[Ud hC,List.length_map]at hk
 have:=Ad1 hC
 omega
theorem vU{E:Ap}(h:Fu E):Yr E:=by
 have h1:=h.pl
 have h2:=h.gl
 have h3:=h.el
 have h4:=h.fl
 have h5:=h.ll
 exact⟨by omega,by omega,by omega,by omega,by omega⟩
end
section
open Go.RowKit
theorem gY(s:ByteArray):(⟨(Lib.trimSuffix s.data.toList [10]).toArray⟩:ByteArray)=C4 s:=by
 have hsz:s.data.toList.length=s.size:=by rw[Array.length_toList];rfl
 refine Jh ?_
 show(Lib.trimSuffix s.data.toList [10]).toArray.toList=_
 rw[List.toList_toArray]
 unfold Lib.trimSuffix C4
 by_cases h:s.data.toList.getLast? =some 10
 ·have hne:s.data.toList≠ []:=by intro e;rw[e]at h;cases h
  have hg:s.data.toList.getLast hne=10:=by rw[List.getLast?_eq_some_getLast hne]at h;exact Option.some.inj h
  have hd:=List.dropLast_concat_getLast hne
  rw[hg]at hd
  have hs:Lib.hasSuffix s.data.toList [10]=true:=by
   rw[<-hd]
   exact List.isSuffixOf_iff_suffix.2 ⟨_,rfl⟩
  rw[if_pos hs,if_pos h,ByteArray.data_extract,Array.toList_extract,List.extract_eq_take_drop,List.drop_zero,Nat.sub_zero,hsz]
  rfl
 ·have hs:¬Lib.hasSuffix s.data.toList [10]=true:=by
   intro hh
   apply h
   unfold Lib.hasSuffix at hh
   obtain⟨a,ha⟩:=List.isSuffixOf_iff_suffix.1 hh
   rw[<-ha]
   simp
  rw[if_neg hs,if_neg h]
structure Mt (C:Al) (k:Nat):Prop where
 n:C.ents.length<=k
 each:∀E∈C.ents,E.points.length<=k/\E.gaps.length<=k/\E.edges.length<=k/\E.first.length<=k/\E.last.length<=k
theorem Mt.mono{C:Al}{k m:Nat}(h:Mt C k)(hm:k<=m):Mt C m:=
 ⟨Nat.le_trans h.n hm,fun E hE=>by obtain⟨a,b,c,d,e⟩:=h.each E hE;exact⟨by omega,by omega,by omega,by omega,by omega⟩⟩
theorem hU{E:Ap}{k m:Nat}(name:ByteArray)(n:List Int)(h:E.points.length<=m/\E.gaps.length<=m/\E.edges.length<=m/\E.first.length<=m/\E.last.length<=m):
  (Bl k name n E).points.length<=m+1/\(Bl k name n E).gaps.length<=m+1/\(Bl k name n E).edges.length<=m+1/\(Bl k name n E).first.length<=m+1/\(Bl k name n E).last.length<=m+1:=by
 obtain⟨a,b,c,d,e⟩:=h
 unfold Bl
 repeat' split
 all_goals
  refine⟨?_,?_,?_,?_,?_⟩<;>(try simp only[List.length_append,List.length_singleton])<;>omega
theorem Aaq{L:List Ap}{E:Ap}(h:Bo L=E):E∈L\/E=noE:=by
 unfold Bo at h
 cases hl:L.getLast? with
 |none=>rw[hl]at h;exact .inr h.symm
 |some F=>
  rw[hl]at h
  obtain rfl:F=E:=h
  exact .inl (List.mem_of_getLast? hl)
theorem kB{C:Al}{m:Nat}(k:Nat)(hk:4<=k->C.ents≠ [])(name:ByteArray)(n:List Int)(h:Mt C m):Mt (Bf k name n C) (m+1):=by
 have h1:=h.mono (Nat.le_succ m)
 unfold Bf
 split
 ·exact⟨h1.n,h1.each⟩
 split
 ·exact⟨h1.n,h1.each⟩
 split
 ·exact⟨h1.n,h1.each⟩
 split
 ·refine⟨by show(C.ents++ [Mi name (n.getD 0 0)]).length<=_;rw[List.length_append,List.length_singleton];have:=h.n;omega,fun E hE=>?_⟩
  rcases List.mem_append.1 hE with hE|hE
  ·exact h1.each E hE
  ·obtain rfl:=List.mem_singleton.1 hE
   exact⟨Nat.zero_le _,Nat.zero_le _,Nat.zero_le _,Nat.zero_le _,Nat.zero_le _⟩
 ·next h0 h1' h2 h3=>
  have hne:=hk (by omega)
  have hl:=List.length_pos_iff.2 hne
  refine⟨by show(C.ents.dropLast++ [_]).length<=_;rw[List.length_append,List.length_singleton,List.length_dropLast];have:=h.n;omega,fun E hE=>?_⟩
  rcases List.mem_append.1 hE with hE|hE
  ·exact h1.each E (List.dropLast_subset _ hE)
  ·obtain rfl:=List.mem_singleton.1 hE
   refine hU name n ?_
   rcases Aaq (L:=C.ents) rfl with hm|hm
   ·exact h.each _ hm
   ·rw[hm];exact⟨Nat.zero_le _,Nat.zero_le _,Nat.zero_le _,Nat.zero_le _,Nat.zero_le _⟩
theorem N9(ls:List ByteArray):∀k,k<=ls.length->(∀j,j<k->B5 ls j=0)->Mt (Bg ls k).c k
 |0,_,_=>⟨Nat.le_refl _,fun E hE=>by cases hE⟩
 |k+1,hk,h=>by
  have ih:=N9 ls k (by omega) (fun j hj=>h j (by omega))
  have hI:=(Km ls k (by omega) (fun j hj=>h j (by omega))).1
  have h0:=h k (by omega)
  unfold B5 at h0
  show Mt (A8 (Bg ls k) (ls.getD k ByteArray.empty)).2.c (k+1)
  obtain⟨hf,n,hr,e⟩:=Vb (st:=Bg ls k) (s:=ls.getD k ByteArray.empty) (st':=(A8 (Bg ls k) (ls.getD k ByteArray.empty)).2) (Prod.ext h0 rfl)
  rw[e]
  refine kB _ (fun h4=>?_) _ _ ih
  unfold Ch at hf
  rw[Bool.and_eq_true,Bool.and_eq_true]at hf
  exact hI.ne (Qu h4 hf.1.2)
theorem Mt.few{C:Al}{k:Nat}{Y:List Aw}(h:Mt C k)(hk:k<=100000)(he:C.ents=Y.map Aw.E):Few Y:=by
 refine⟨by have:=h.n;rw[he,List.length_map]at this;omega,fun y hy=>?_⟩
 obtain⟨a,b,c,d,e⟩:=h.each y.E (by rw[he];exact List.mem_map.2 ⟨y,hy,rfl⟩)
 exact⟨by omega,by omega,by omega,by omega,by omega⟩
theorem Mt.small{C:Al}{k:Nat}{Y:List Aw}(h:Mt C k)(hk:k<=1000)(he:C.ents=Y.map Aw.E):Y.length<=1000/\∀y∈Y,Fx y.E:=by
 refine⟨by have:=h.n;rw[he,List.length_map]at this;omega,fun y hy=>?_⟩
 obtain⟨a,b,c,d,e⟩:=h.each y.E (by rw[he];exact List.mem_map.2 ⟨y,hy,rfl⟩)
 exact⟨by omega,by omega,by omega,by omega,by omega⟩
theorem Ei.conf{base rb:Nat}{o:Nat->Option Nat}{C:Al}{st:Int}{v:Value}{Y:List Aw}{w:World}(h:Ei base rb o C st v Y w){k:Nat}(hs:Mt C k)(hk:k<=1000):Ez (fun b=>base<=b/\b<w.heap.size) w C v Y:=by
 obtain⟨h1,h2⟩:=hs.small hk h.eq
 refine⟨⟨?_,fun x hx=>?_⟩,h.eq,h2,h1⟩
 ·obtain⟨hl,ao,cap,hv,h1,h2,h3,h4⟩:=h.row.slOf
  refine⟨hl,ao,cap,hv,h1,h2,h3,fun hp=>?_⟩
  obtain⟨b,off,ha,hR,hb,hc⟩:=h4 hp
  exact⟨b,off,ha,⟨hR.1,hb⟩,hb,hc⟩
 ·obtain⟨i,hi,rfl⟩:=List.mem_iff_getElem.1 hx
  exact(h.own i hi).slOf
theorem tB(w:World)(rb:Nat)(hb:w.heap[rb]? =some (.cells (P9 Bw (.slice none 0 0) (-1)) 150)):Ei w.heap.size rb (fun _=>none) RdS.start.c RdS.start.stage (.slice none 0 0) [] w:=
 ⟨hb,Aa hb,Nat.le_refl _,fun _ _=>rfl,fun _ _=>rfl,⟨rfl,.inl ⟨rfl,rfl⟩⟩,fun b hb=>(by cases hb),fun i hi=>(by cases hi),rfl⟩
end
section
open Go.ChangeShapes Go.WideShapes Go.ChangeAt Go.RowKit
section
variable {P:Program} {ti tp te ts:TypeId} {ms:Array (String × TypeId)} {f:Field}
theorem X7(hi:P.underlying ti=some (.interface ms))(hrow:∀u,P.typeName? 3 u=some "*errors.errorString"->u=tp)(hp:P.underlying tp=some (.pointer te))(he:P.underlying te=some (.struct #[f]))(hft:f.type=ts)(hfo:f.offset=0)
  (hs:P.underlying ts=some .string) (hc:P.cellsOf te=1) (hcs:P.cellsOf ts=1) {W:World}:
  ∀(L:List (String × List UInt8)) (gs:List Nat),gs.length=L.length->(∀k (h1:k<L.length) (h2:k<gs.length),P.globalNamed (L[k]).1=some gs[k]/\(P.globals[gs[k]]?).map (·.type)=some ti)->
  ∀ps,DataW.LaidVars P W (L.map fun x=>(x.1,Xj x.2)) ps->ps.Nodup->
  (∀b off,MemPlace.cell b off∈ps->(∃c t,W.heap[b]? =some (.cells c t (0,0)))/\∀u v,W.cell? ⟨b,off,none⟩=some (.iface u v)->Value.okWide P W .any 0 u v)->
  ∃bs:List Addr,bs.length=L.length/\bs.Nodup/\(∀a∈bs,a.spot=none/\MemPlace.cell a.block a.off∈ps)/\∀k (h1:k<L.length) (h2:k<gs.length) (h3:k<bs.length),W.cell? ⟨gs[k],0,none⟩=some (.iface tp (.pointer (some bs[k])))/\W.cell? bs[k]=some (.string ⟨(L[k]).2.toArray⟩)
 |[],gs,_,_,ps,_,_,_=>⟨[],rfl,List.nodup_nil,(fun a ha=>by simp at ha),(fun k h=>by simp at h)⟩
 |x::L,[],hl,_,_,_,_,_=>by simp at hl
 |x::L,g::gs,hl,hg,ps,hv,hnd,hrows=>by
  obtain⟨g0,t0,cs0,f0,p0,q0,hg0,ht0,hv0,hd0,hr0,rfl⟩:=hv
  have hgx:P.globalNamed x.1=some g/\(P.globals[g]?).map (·.type)=some ti:=hg 0 (by simp) (by simp)
  obtain rfl:g=g0:=Option.some.inj (hgx.1.symm.trans hg0)
  obtain rfl:ti=t0:=Option.some.inj (hgx.2.symm.trans ht0)
  obtain⟨l0⟩:=cs0
  have ok0:∀u v,l0= [.iface u v]->Value.okWide P W .any 0 u v:=fun u v e=>by
   subst e
   exact(hrows g 0 (by simp[MemPlace.row])).2 u v (by simpa using World.var?_cell hg0 hv0 0)
  obtain⟨a0,s0,rfl,hc0,hs0,hz0,rfl⟩:=errorString_of_trod hi hrow hp he hft hfo hs hc hcs hd0 ok0
  have hin:MemPlace.cell a0.block a0.off∈MemPlace.row a0 1:=by simp[MemPlace.row]
  obtain⟨bs,h1,h2,h3,h4⟩:=X7 hi hrow hp he hft hfo hs hc hcs L gs (by simpa using hl) (fun k q1 q2=>by
   have:=hg (k+1) (by simpa using q1) (by simpa using q2)
   simpa using this) q0 hr0 ((List.nodup_append.1 hnd).2.1) (fun b off hm=>hrows b off (List.mem_append_right _ hm))
  refine⟨a0::bs,by simp[h1],List.nodup_cons.2 ⟨fun hm=>?_,h2⟩,fun a ha=>?_,fun k q1 q2 q3=>?_⟩
  ·have hq:=(h3 a0 hm).2
   exact(List.nodup_append.1 hnd).2.2 _ (List.mem_append_right _ hin) _ hq rfl
  ·rcases List.mem_cons.1 ha with rfl|ha
   ·exact⟨World.cell?_spot hc0,List.mem_append_left _ (List.mem_append_right _ hin)⟩
   ·exact⟨(h3 a ha).1,List.mem_append_right _ (h3 a ha).2⟩
  ·cases k with
   |zero=>exact⟨by simpa using World.var?_cell hg0 hv0 0,by
    have e:s0=⟨x.2.toArray⟩:=by rw[<-hs0]
    show W.cell? a0=some (Value.string ⟨x.2.toArray⟩)
    rw[<-e];exact hc0⟩
   |succ k=>exact h4 k (by simpa using q1) (by simpa using q2) (by simpa using q3)
end
theorem yU{W:World}(h:laidMet Tryz.prog (Rh.map fun x=>(x.1,Xj x.2)) W)(h2:handlesMet Tryz.prog [("errors.errorType",xU)] W):∃sa,Dp W.heap.size sa W/\∀k,k<11->W.cell? (sa k)=some (.string (Ib (k+1))):=by
 obtain⟨ps,hv,hnd,hrows⟩:=h
 obtain⟨bs,q1,q2,q3,q4⟩:=X7 underlying25 rowE underlying372 underlying374 rfl rfl underlying9 cellsE cellsS Rh Oc rfl (fun k h1 h2=>by
  have e1:=congrArg (fun l=>l[k]?) sentNames
  have e2:=congrArg (fun l=>l[k]?) sentTypes
  simp only[List.getElem?_map,List.getElem?_eq_getElem h1,List.getElem?_eq_getElem h2,Option.map_some,Option.some.injEq]at e1 e2
  exact⟨e1,e2⟩) ps hv hnd hrows
 have h11:bs.length=11:=q1
 refine⟨fun k=>bs.getD k ⟨0,0,none⟩,Dp.mk' (fun k hk=>?_) (fun i j hi hj hij=>?_) (fun k hk=>?_) ?_,fun k hk=>?_⟩
 ·have hk2:k<Rh.length:=hk
  have hk3:k<Oc.length:=hk
  have hk4:k<bs.length:=by omega
  have:=(q4 k hk2 hk3 hk4).1
  have e:sg k=Oc[k]:=by unfold sg;rw[List.getD_eq_getElem?_getD];show(Oc[k]?).getD 0=_;rw[List.getElem?_eq_getElem hk3];rfl
  rw[e,this]
  show _=some (Value.iface _ (.pointer (some (bs.getD k _))))
  rw[List.getD_eq_getElem?_getD,List.getElem?_eq_getElem hk4];rfl
 ·have hi4:i<bs.length:=by omega
  have hj4:j<bs.length:=by omega
  show bs.getD i _≠bs.getD j _
  rw[List.getD_eq_getElem?_getD,List.getD_eq_getElem?_getD,List.getElem?_eq_getElem hi4,List.getElem?_eq_getElem hj4]
  have hp:=List.pairwise_iff_getElem.1 q2
  rcases Nat.lt_or_gt_of_ne hij with h|h
  ·exact hp i j hi4 hj4 h
  ·exact fun e=>hp j i hj4 hi4 h e.symm
 ·have hk4:k<bs.length:=by omega
  show(bs.getD k _).block<_/\∃c t,W.heap[(bs.getD k _).block]? =_
  rw[List.getD_eq_getElem?_getD,List.getElem?_eq_getElem hk4]
  obtain⟨c,t,hc⟩:=(hrows _ _ (q3 _ (List.getElem_mem hk4)).2).1
  exact⟨Aa hc,c,t,hc⟩
 ·obtain⟨name,u,ty,e1,e2,e3,e4,e5⟩:=h2 _ (List.mem_singleton.2 rfl)
  have en:name= [101,114,114,111,114]:=(Option.some.inj e1).symm
  subst en
  obtain rfl:=Option.some.inj (rtName.symm.trans e2)
  have hm:ty∈(List.range 414).filter fun t=>Tryz.prog.rowNamed t [101,114,114,111,114]:=List.mem_filter.2 ⟨List.mem_range.2 (by rw[<-nTypes];exact e3),e4⟩
  rw[oneError]at hm
  obtain rfl:=List.mem_singleton.1 hm
  rw[handleE]at e5
  simpa using World.var?_cell etName e5 0
 ·have hk2:k<Rh.length:=hk
  have hk3:k<Oc.length:=hk
  have hk4:k<bs.length:=by omega
  have:=(q4 k hk2 hk3 hk4).2
  show W.cell? (bs.getD k _)=_
  rw[List.getD_eq_getElem?_getD,List.getElem?_eq_getElem hk4]
  show W.cell? bs[k]=_
  rw[this]
  congr 2
  have hall:∀k:Fin 11,(⟨(Rh.getD k.1 ("",[])).2.toArray⟩:ByteArray)=Ib (k.1+1):=by decide
  rw[<-hall ⟨k,hk⟩,List.getD_eq_getElem?_getD,List.getElem?_eq_getElem hk2]
  rfl
end
end Go.Proofs.YtikehilbmldadaaGreatDoor
