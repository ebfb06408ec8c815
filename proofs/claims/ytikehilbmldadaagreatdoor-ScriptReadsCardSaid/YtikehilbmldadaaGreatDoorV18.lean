import Derived.Test.YtikehilbmldadaaGreatDoorV17
import Derived.Laws.EntriesVeiled
set_option maxHeartbeats 8000000
set_option maxRecDepth 100000
set_option linter.unusedVariables false
open Go.Proofs.Tryz Go.Proofs.YtikehilbmldadaaGreatDoor.Tryz
namespace Go.Proofs.YtikehilbmldadaaGreatDoor
open Go.RowKit
def Sg(sa:Nat->Addr):Array Value:=#[.func (.func 204) #[] #[],.iface 372 (.pointer (some (sa 4))),.func (.func 205) #[] #[],.iface 372 (.pointer (some (sa 2))),.func (.func 206) #[] #[],.iface 372 (.pointer (some (sa 1))),
 .func (.func 207) #[] #[],.iface 372 (.pointer (some (sa 1))),.func (.func 210) #[] #[],.iface 372 (.pointer (some (sa 5))),.func (.func 213) #[] #[],.iface 372 (.pointer (some (sa 2))),.func (.func 214) #[] #[],.iface 372 (.pointer (some (sa 2)))]
theorem zF(B:Nat)(sa:Nat->Addr)(w:World)(hS:Fv B sa w):
  Calls Tryz.prog 167 #[] w fun e w'=>e=.returned (.slice (some ⟨w.heap.size,0,none⟩) 7 7)/\w'.heap[w.heap.size]? =some (.cells (Sg sa) 263)/\Below w.heap.size w w':=by
 obtain⟨g0,g1,g2,g3,g4,g5⟩:=hS.all
 have hn:=Aia (Ab w (.cells (Sg sa) 263))
 have hb:=Aia ((Below.refl w.heap.size w).alloc (Nat.le_refl _) (.cells (Sg sa) 263))
 clear hS
 go_enter func167,ntmps167
 go_wp2_with fail
 go_ret
 exact⟨rfl,hn.out,hb.out⟩
theorem Cu{w:World}{b:Nat}{sa:Nat->Addr}(h:w.heap[b]? =some (.cells (Sg sa) 263))(j:Nat)(hj:j<14):w.cell? ⟨b,j,none⟩=(Sg sa)[j]? :=by
 simp[World.cell?,h]
def Ep(E:Ap):Bool:=P6 E||Z4 E
theorem O5{ah:List ByteArray}{E:Ap}(h:Bk E.name=false):A0 ah E=4:=by
 unfold A0
 rw[if_pos h]
theorem Nr{ah:List ByteArray}{E:Ap}(h1:Bk E.name=true)(h:Cj ah E.name=true):A0 ah E=6:=by
 unfold A0
 rw[if_neg (by rw[h1];decide),if_pos h]
theorem Ns{ah:List ByteArray}{E:Ap}(h1:Bk E.name=true)(h2:Cj ah E.name=false)(h:Ep E=true):A0 ah E=2:=by
 unfold A0
 rw[if_neg (by rw[h1];decide),if_neg (by rw[h2];decide)]
 unfold Ep at h
 cases h3:P6 E
 ·rw[h3,Bool.false_or]at h
  rw[if_neg (by decide),if_pos h]
 ·rw[if_pos rfl]
theorem Q6{ah:List ByteArray}{E:Ap}(h1:Bk E.name=true)(h2:Cj ah E.name=false)(h3:Ep E=false)(h:Ij E.points≠0):A0 ah E=Ij E.points:=by
 unfold Ep at h3
 obtain⟨h4,h5⟩:=Bool.or_eq_false_iff.1 h3
 unfold A0
 rw[if_neg (by rw[h1];decide),if_neg (by rw[h2];decide),if_neg (by rw[h4];decide),if_neg (by rw[h5];decide),if_pos h]
theorem Nq{ah:List ByteArray}{E:Ap}(h1:Bk E.name=true)(h2:Cj ah E.name=false)(h3:Ep E=false)(h:Ij E.points=0):A0 ah E=S5 E:=by
 unfold Ep at h3
 obtain⟨h4,h5⟩:=Bool.or_eq_false_iff.1 h3
 exact qL h1 h2 h4 h5 h
theorem D4(sa:Nat->Addr)(n:Nat):errv sa (n+1)=.iface 372 (.pointer (some (sa n))):=rfl
theorem wC(B:Nat)(sa:Nat->Addr)(R:Nat->Prop)(X:List Aw)(v:Value)(E:Ap)(vp vg ve vf vl:Value)(w:World)(hS:Fv B sa w)(h:Ih R w E vp vg ve vf vl)(hv:Ay R w v 10 (X.flatMap Aj) X.length)(hR:∀b,R b->b<w.heap.size)(hE:Fx E)(hX:X.length<=1000):
  Calls Tryz.prog 97 #[.agg (A7 E vp vg ve vf vl),v] w fun e w'=>e=.returned (errv sa (A0 (X.map J5) E))/\Below w.heap.size w w':=by
 obtain⟨ao,cap,rfl⟩:=hv.val
 obtain⟨pa,pc,rfl⟩:=h.p.val
 obtain⟨ga,gc,rfl⟩:=h.g.val
 obtain⟨ea,ec,rfl⟩:=h.e.val
 obtain⟨fa,fc,rfl⟩:=h.f.val
 obtain⟨la,lc,rfl⟩:=h.l.val
 have hEB:EB w R E (.slice pa E.points.length pc) (.slice ga E.gaps.length gc) (.slice ea E.edges.length ec) (.slice fa E.first.length fc) (.slice la E.last.length lc) w.heap.size (w.alloc (.cells (A7 E (.slice pa E.points.length pc) (.slice ga E.gaps.length gc) (.slice ea E.edges.length ec) (.slice fa E.first.length fc) (.slice la E.last.length lc)) 50)):=
  ⟨Ab _ _,h.keep (Ak ((Below.refl _ _).alloc (Nat.le_refl _) _)) (fun _ _ h=>h),(Below.refl _ _).alloc (Nat.le_refl _) _,hR,Nat.le_refl _⟩
 have HV:=Aia hv
 have HSl:=Aia (fun W (hB:Below w.heap.size w W)=>h.keep (Ae.of_below hB) (fun b hb hS=>by have:=hR b hb;omega))
 have HS:=Aia hS
 have HRw:=Aia hR
 obtain⟨e1,e2,e3,e4,e5⟩:=hE
 have HE:Hid (Fx E):=⟨e1,e2,e3,e4,e5⟩
 clear h hv hS hR
 unfold A7 at hEB ⊢
 go_enter func97,ntmps97
 go_upto_region 1 with fail
 generalize w.alloc _=w1 at hEB ⊢
 obtain⟨c0,c1,c2,c3,c4,c5,c6,c7,c8,c9⟩:=hEB.cells
 have HEB:=Aia hEB
 clear hEB
 go_cut [5] (fun s wx=>∃M:Int,s=.int .i64 M/\Hid (16<M↔16<E.points.length\/16<E.first.length\/16<E.last.length)/\w1=wx)
 case first=>
  go_wp2_with fail
  all_goals
   go_meet
   refine⟨_,rfl,?_,rfl⟩
   show _↔_
   first|omega|(split<;>omega)|(split<;>split<;>omega)
 case rest=>
 obtain⟨M,rfl,HM,rfl⟩:=hcut
 have HN:=Aia (Ry E.name w1)
 cases hnm:Bk E.name
 ·rw[hnm]at HN
  have HT:=Aia (O5 (ah:=X.map J5) hnm)
  clear hnm
  go_wp2_with fail
  refine HN.out.mono ?_
  rintro e w2 ⟨rfl,b2⟩
  have hbl:=(HEB.out.below b2).bel
  obtain⟨_,_,_,g3,_,_⟩:=(HS.out.on hbl).all
  go_wp2_with fail
  go_ret
  rw[HT.out]
  exact⟨rfl,hbl⟩
 rw[hnm]at HN
 have HNM:=Aia hnm
 clear hnm
 go_wp2_with fail
 refine HN.out.mono ?_
 rintro e w2 ⟨rfl,b2⟩
 have HEB2:=Aia (HEB.out.below b2)
 clear c0 c1 c2 c3 c4 c5 c6 c7 c8 c9 b2 HEB HN
 have hbl2:=HEB2.out.bel
 have HCE:=Aia (wX R X _ E.name w.heap.size w2 (HV.out.below hbl2 HRw.out) (Du HRw.out hbl2) (by omega) HEB2.out.cells.1)
 unfold qK at HCE
 cases hex:Cj (X.map J5) E.name
 case true=>
  rw[hex]at HCE
  have HT:=Aia (Nr HNM.out hex)
  clear hex
  go_wp2_with fail
  refine HCE.out.mono ?_
  rintro e w3 ⟨rfl,b3⟩
  have hbl:=(HEB2.out.below b3).bel
  obtain⟨_,_,_,_,_,g5⟩:=(HS.out.on hbl).all
  go_wp2_with fail
  go_ret
  rw[HT.out]
  exact⟨rfl,hbl⟩
 case false=>
 rw[hex]at HCE
 have HEX:=Aia hex
 clear hex
 go_wp2_with fail
 refine HCE.out.mono ?_
 rintro e w3 ⟨rfl,b3⟩
 have HEB3:=Aia (HEB2.out.below b3)
 clear b3 HEB2 HCE hbl2
 obtain⟨c0,c1,c2,c3,c4,c5,c6,c7,c8,c9⟩:=HEB3.out.cells
 go_upto_region 6 with fail
 go_cut [30] (fun s wx=>s=.bool (Ep E)/\w3=wx)
 case first=>
  by_cases h1:E.tol<0
  ·have HB:=Aia (show Ep E=true from by unfold Ep P6;rw[decide_eq_true (.inl h1)];rfl)
   go_wp2_with fail
   go_meet
   exact⟨De HB.out.symm,rfl⟩
  by_cases h2:20<E.tol
  ·have HB:=Aia (show Ep E=true from by unfold Ep P6;rw[decide_eq_true (.inr (.inl h2))];rfl)
   go_wp2_with fail
   go_meet
   exact⟨De HB.out.symm,rfl⟩
  by_cases h3:16<M
  ·have HB:=Aia (show Ep E=true from by
    have:=HM.out.1 h3
    unfold Ep P6 Z4
    rcases this with h|h|h
    ·rw[decide_eq_true (.inr (.inr (.inl h)))];rfl
    ·rw[Bool.or_eq_true];exact .inr (decide_eq_true (.inl h))
    ·rw[Bool.or_eq_true];exact .inr (decide_eq_true (.inr h)))
   go_wp2_with fail
   go_meet
   exact⟨De HB.out.symm,rfl⟩
  by_cases h4:8<(E.gaps.length:Int)
  ·have HB:=Aia (show Ep E=true from by unfold Ep P6;rw[decide_eq_true (.inr (.inr (.inr (.inl (by omega)))))];rfl)
   go_wp2_with fail
   go_meet
   exact⟨De HB.out.symm,rfl⟩
  have HB:=Aia (show Ep E=decide (64<(E.edges.length:Int))from by
   have hm:¬(16<E.points.length\/16<E.first.length\/16<E.last.length):=fun h=>h3 (HM.out.2 h)
   unfold Ep P6 Z4
   rw[decide_eq_false (show ¬(16<E.first.length\/16<E.last.length)from by omega),Bool.or_false,decide_eq_decide]
   omega)
  go_wp2_with fail
  go_meet
  exact⟨De (by rw[HB.out]),rfl⟩
 case rest=>
 obtain⟨rfl,rfl⟩:=hcut
 have hbl3:=HEB3.out.bel
 cases hbd:Ep E
 case true=>
  have HT:=Aia (Ns HNM.out HEX.out hbd)
  obtain⟨_,g1,_,_,_,_⟩:=(HS.out.on hbl3).all
  clear hbd
  go_wp2_with fail
  go_ret
  rw[HT.out]
  exact⟨rfl,hbl3⟩
 case false=>
 have HBD:=Aia hbd
 have HPt:=Aia (tI B sa R E.points _ w3 (HS.out.on hbl3) (HEB3.out.sl.p) (Du HRw.out hbl3) (by omega))
 clear hbd
 have HPE:Hid (Ij E.points=Ij E.points):=rfl
 obtain⟨pe,hpe⟩:∃pe,pe=Ij E.points:=⟨_,rfl⟩
 rw[<-hpe]at HPt
 have HPQ:=Aia hpe
 clear hpe HPE
 go_wp2_with fail
 refine HPt.out.mono ?_
 rintro e w4 ⟨rfl,b4⟩
 have HEB4:=Aia (HEB3.out.below b4)
 have hbl4:=HEB4.out.bel
 clear c0 c1 c2 c3 c4 c5 c6 c7 c8 c9 b4 HEB3 hbl3 HPt
 cases pe with
 |succ n=>
  have HT:=Aia (show A0 (X.map J5) E=n+1 from by rw[Q6 HNM.out HEX.out HBD.out (by rw[<-HPQ.out];omega),<-HPQ.out])
  rw[D4]
  go_wp2_with fail
  go_ret
  rw[HT.out,D4]
  exact⟨rfl,hbl4⟩
 |zero=>
  rw[show errv sa 0=.nilIface from rfl]
  have HTl:=Aia (Nq (ah:=X.map J5) HNM.out HEX.out HBD.out HPQ.out.symm)
  have HRu:=Aia (zF B sa w4 (HS.out.on hbl4))
  go_wp2_with fail
  refine HRu.out.mono ?_
  rintro e w5 ⟨rfl,hru,b5⟩
  have HRU5:=Aia hru
  have HEB5:=Aia (HEB4.out.below b5)
  clear hru b5 HRu HEB4 hbl4
  obtain⟨rb,hrb⟩:∃rb,rb=w4.heap.size:=⟨_,rfl⟩
  rw[<-hrb]at HRU5 ⊢
  clear hrb
  go_wp2_with fail
  go_loopw [64] (fun s wr=>∃k:Nat,k<=7/\s=.int .i64 k/\Hid (EB w R E (.slice pa E.points.length pc) (.slice ga E.gaps.length gc) (.slice ea E.edges.length ec) (.slice fa E.first.length fc) (.slice la E.last.length lc) w.heap.size wr)/\Hid (wr.heap[rb]? =some (.cells (Sg sa) 263))/\Hid (∀j,j<k->B9 E j=false)) (fun s _=>7-(intOf s).toNat)
  case atStart=>exact⟨0,Nat.zero_le _,rfl,HEB5,HRU5,fun j h=>by omega⟩
  case round=>
   obtain⟨k,hk,rfl,heb,hru,hall⟩:=hrel
   clear HEB5 HRU5
   by_cases hlt:k<7
   ·have hlt2:(k:Int)<7:=by omega
    by_cases hkj:k=0
    ·have q0:wr.cell? ⟨rb,k*2,none⟩=some (.func (.func 204) #[] #[]):=by rw[hkj];exact Cu hru.out (0*2) (by decide)
     have q1:wr.cell? ⟨rb,k*2+1,none⟩=some (.iface 372 (.pointer (some (sa 4)))):=by rw[hkj];exact Cu hru.out (0*2+1) (by decide)
     have HC:Hid (∀W,Below w.heap.size w W->Calls Tryz.prog 204 #[.agg (A7 E (.slice pa E.points.length pc) (.slice ga E.gaps.length gc) (.slice ea E.edges.length ec) (.slice fa E.first.length fc) (.slice la E.last.length lc))] W fun e w'=>e=.returned (.bool (B9 E 0))/\Below W.heap.size W w'):=fun W hB=>Uf R E _ _ _ _ _ W (HSl.out W hB) (Du HRw.out hB) HE.out
     have HKJ:=Aia hkj
     unfold A7 at HC
     clear hkj
     go_upto_region 14 with fail
     have hxb:=Ab wr (.cells #[.func (.func 204) #[] #[],.iface 372 (.pointer (some (sa 4)))] 263)
     have hbb:Below wr.heap.size wr (wr.alloc (.cells #[.func (.func 204) #[] #[],.iface 372 (.pointer (some (sa 4)))] 263)):=(Below.refl _ _).alloc (Nat.le_refl _) _
     generalize wr.alloc _=wb at hxb hbb ⊢
     obtain⟨z0,z1,zf⟩:=Au hxb
     have HEBb:=Aia (heb.out.below hbb)
     have HRUb:=Aia (Af hbb hru.out (Aa hru.out))
     have HXB:=Aia hxb
     obtain⟨c0,c1,c2,c3,c4,c5,c6,c7,c8,c9⟩:=HEBb.out.cells
     clear q0 q1 zf hxb hbb
     go_wp2_with fail
     refine(HC.out _ HEBb.out.bel).mono ?_
     rintro e w6 ⟨rfl,b6⟩
     have HEB6:=Aia (HEBb.out.below b6)
     have HRU6:=Aia (Af b6 HRUb.out (Aa HRUb.out))
     obtain⟨y0,y1,yf⟩:=Au (Af b6 HXB.out (Aa HXB.out))
     clear c0 c1 c2 c3 c4 c5 c6 c7 c8 c9 z0 z1 yf b6
     cases hrb:B9 E 0
     ·have nx:Hid (∀j,j<k+1->B9 E j=false):=Aia (fun j hj=>by
       by_cases e:j=k
       ·rw[e,HKJ.out];exact hrb
       ·exact hall.out j (by omega))
      clear hrb hall
      go_wp2_with fail
      go_roundw
      case rel=>exact⟨k+1,by omega,by go_num,HEB6,HRU6,nx⟩
      case measure=>simp[intOf];omega
     ·have HT:=Aia (Ia 0 (by decide) hrb (fun j hj=>hall.out j (by have:=HKJ.out;omega)))
      have hbl6:=HEB6.out.bel
      clear hrb hall
      go_wp2_with fail
      go_ret
      rw[HTl.out,HT.out]
      exact⟨rfl,hbl6⟩
    by_cases hkj:k=1
    ·have q0:wr.cell? ⟨rb,k*2,none⟩=some (.func (.func 205) #[] #[]):=by rw[hkj];exact Cu hru.out (1*2) (by decide)
     have q1:wr.cell? ⟨rb,k*2+1,none⟩=some (.iface 372 (.pointer (some (sa 2)))):=by rw[hkj];exact Cu hru.out (1*2+1) (by decide)
     have HC:Hid (∀W,Below w.heap.size w W->Calls Tryz.prog 205 #[.agg (A7 E (.slice pa E.points.length pc) (.slice ga E.gaps.length gc) (.slice ea E.edges.length ec) (.slice fa E.first.length fc) (.slice la E.last.length lc))] W fun e w'=>e=.returned (.bool (B9 E 1))/\Below W.heap.size W w'):=fun W hB=>zL E _ _ _ _ _ W
     have HKJ:=Aia hkj
     unfold A7 at HC
     clear hkj
     go_upto_region 14 with fail
     have hxb:=Ab wr (.cells #[.func (.func 205) #[] #[],.iface 372 (.pointer (some (sa 2)))] 263)
     have hbb:Below wr.heap.size wr (wr.alloc (.cells #[.func (.func 205) #[] #[],.iface 372 (.pointer (some (sa 2)))] 263)):=(Below.refl _ _).alloc (Nat.le_refl _) _
     generalize wr.alloc _=wb at hxb hbb ⊢
     obtain⟨z0,z1,zf⟩:=Au hxb
     have HEBb:=Aia (heb.out.below hbb)
     have HRUb:=Aia (Af hbb hru.out (Aa hru.out))
     have HXB:=Aia hxb
     obtain⟨c0,c1,c2,c3,c4,c5,c6,c7,c8,c9⟩:=HEBb.out.cells
     clear q0 q1 zf hxb hbb
     go_wp2_with fail
     refine(HC.out _ HEBb.out.bel).mono ?_
     rintro e w6 ⟨rfl,b6⟩
     have HEB6:=Aia (HEBb.out.below b6)
     have HRU6:=Aia (Af b6 HRUb.out (Aa HRUb.out))
     obtain⟨y0,y1,yf⟩:=Au (Af b6 HXB.out (Aa HXB.out))
     clear c0 c1 c2 c3 c4 c5 c6 c7 c8 c9 z0 z1 yf b6
     cases hrb:B9 E 1
     ·have nx:Hid (∀j,j<k+1->B9 E j=false):=Aia (fun j hj=>by
       by_cases e:j=k
       ·rw[e,HKJ.out];exact hrb
       ·exact hall.out j (by omega))
      clear hrb hall
      go_wp2_with fail
      go_roundw
      case rel=>exact⟨k+1,by omega,by go_num,HEB6,HRU6,nx⟩
      case measure=>simp[intOf];omega
     ·have HT:=Aia (Ia 1 (by decide) hrb (fun j hj=>hall.out j (by have:=HKJ.out;omega)))
      have hbl6:=HEB6.out.bel
      clear hrb hall
      go_wp2_with fail
      go_ret
      rw[HTl.out,HT.out]
      exact⟨rfl,hbl6⟩
    by_cases hkj:k=2
    ·have q0:wr.cell? ⟨rb,k*2,none⟩=some (.func (.func 206) #[] #[]):=by rw[hkj];exact Cu hru.out (2*2) (by decide)
     have q1:wr.cell? ⟨rb,k*2+1,none⟩=some (.iface 372 (.pointer (some (sa 1)))):=by rw[hkj];exact Cu hru.out (2*2+1) (by decide)
     have HC:Hid (∀W,Below w.heap.size w W->Calls Tryz.prog 206 #[.agg (A7 E (.slice pa E.points.length pc) (.slice ga E.gaps.length gc) (.slice ea E.edges.length ec) (.slice fa E.first.length fc) (.slice la E.last.length lc))] W fun e w'=>e=.returned (.bool (B9 E 2))/\Below W.heap.size W w'):=fun W hB=>zK E _ _ _ _ _ W
     have HKJ:=Aia hkj
     unfold A7 at HC
     clear hkj
     go_upto_region 14 with fail
     have hxb:=Ab wr (.cells #[.func (.func 206) #[] #[],.iface 372 (.pointer (some (sa 1)))] 263)
     have hbb:Below wr.heap.size wr (wr.alloc (.cells #[.func (.func 206) #[] #[],.iface 372 (.pointer (some (sa 1)))] 263)):=(Below.refl _ _).alloc (Nat.le_refl _) _
     generalize wr.alloc _=wb at hxb hbb ⊢
     obtain⟨z0,z1,zf⟩:=Au hxb
     have HEBb:=Aia (heb.out.below hbb)
     have HRUb:=Aia (Af hbb hru.out (Aa hru.out))
     have HXB:=Aia hxb
     obtain⟨c0,c1,c2,c3,c4,c5,c6,c7,c8,c9⟩:=HEBb.out.cells
     clear q0 q1 zf hxb hbb
     go_wp2_with fail
     refine(HC.out _ HEBb.out.bel).mono ?_
     rintro e w6 ⟨rfl,b6⟩
     have HEB6:=Aia (HEBb.out.below b6)
     have HRU6:=Aia (Af b6 HRUb.out (Aa HRUb.out))
     obtain⟨y0,y1,yf⟩:=Au (Af b6 HXB.out (Aa HXB.out))
     clear c0 c1 c2 c3 c4 c5 c6 c7 c8 c9 z0 z1 yf b6
     cases hrb:B9 E 2
     ·have nx:Hid (∀j,j<k+1->B9 E j=false):=Aia (fun j hj=>by
       by_cases e:j=k
       ·rw[e,HKJ.out];exact hrb
       ·exact hall.out j (by omega))
      clear hrb hall
      go_wp2_with fail
      go_roundw
      case rel=>exact⟨k+1,by omega,by go_num,HEB6,HRU6,nx⟩
      case measure=>simp[intOf];omega
     ·have HT:=Aia (Ia 2 (by decide) hrb (fun j hj=>hall.out j (by have:=HKJ.out;omega)))
      have hbl6:=HEB6.out.bel
      clear hrb hall
      go_wp2_with fail
      go_ret
      rw[HTl.out,HT.out]
      exact⟨rfl,hbl6⟩
    by_cases hkj:k=3
    ·have q0:wr.cell? ⟨rb,k*2,none⟩=some (.func (.func 207) #[] #[]):=by rw[hkj];exact Cu hru.out (3*2) (by decide)
     have q1:wr.cell? ⟨rb,k*2+1,none⟩=some (.iface 372 (.pointer (some (sa 1)))):=by rw[hkj];exact Cu hru.out (3*2+1) (by decide)
     have HC:Hid (∀W,Below w.heap.size w W->Calls Tryz.prog 207 #[.agg (A7 E (.slice pa E.points.length pc) (.slice ga E.gaps.length gc) (.slice ea E.edges.length ec) (.slice fa E.first.length fc) (.slice la E.last.length lc))] W fun e w'=>e=.returned (.bool (B9 E 3))/\Below W.heap.size W w'):=fun W hB=>zJ R E _ _ _ _ _ W (HSl.out W hB) (Du HRw.out hB) HE.out
     have HKJ:=Aia hkj
     unfold A7 at HC
     clear hkj
     go_upto_region 14 with fail
     have hxb:=Ab wr (.cells #[.func (.func 207) #[] #[],.iface 372 (.pointer (some (sa 1)))] 263)
     have hbb:Below wr.heap.size wr (wr.alloc (.cells #[.func (.func 207) #[] #[],.iface 372 (.pointer (some (sa 1)))] 263)):=(Below.refl _ _).alloc (Nat.le_refl _) _
     generalize wr.alloc _=wb at hxb hbb ⊢
     obtain⟨z0,z1,zf⟩:=Au hxb
     have HEBb:=Aia (heb.out.below hbb)
     have HRUb:=Aia (Af hbb hru.out (Aa hru.out))
     have HXB:=Aia hxb
     obtain⟨c0,c1,c2,c3,c4,c5,c6,c7,c8,c9⟩:=HEBb.out.cells
     clear q0 q1 zf hxb hbb
     go_wp2_with fail
     refine(HC.out _ HEBb.out.bel).mono ?_
     rintro e w6 ⟨rfl,b6⟩
     have HEB6:=Aia (HEBb.out.below b6)
     have HRU6:=Aia (Af b6 HRUb.out (Aa HRUb.out))
     obtain⟨y0,y1,yf⟩:=Au (Af b6 HXB.out (Aa HXB.out))
     clear c0 c1 c2 c3 c4 c5 c6 c7 c8 c9 z0 z1 yf b6
     cases hrb:B9 E 3
     ·have nx:Hid (∀j,j<k+1->B9 E j=false):=Aia (fun j hj=>by
       by_cases e:j=k
       ·rw[e,HKJ.out];exact hrb
       ·exact hall.out j (by omega))
      clear hrb hall
      go_wp2_with fail
      go_roundw
      case rel=>exact⟨k+1,by omega,by go_num,HEB6,HRU6,nx⟩
      case measure=>simp[intOf];omega
     ·have HT:=Aia (Ia 3 (by decide) hrb (fun j hj=>hall.out j (by have:=HKJ.out;omega)))
      have hbl6:=HEB6.out.bel
      clear hrb hall
      go_wp2_with fail
      go_ret
      rw[HTl.out,HT.out]
      exact⟨rfl,hbl6⟩
    by_cases hkj:k=4
    ·have q0:wr.cell? ⟨rb,k*2,none⟩=some (.func (.func 210) #[] #[]):=by rw[hkj];exact Cu hru.out (4*2) (by decide)
     have q1:wr.cell? ⟨rb,k*2+1,none⟩=some (.iface 372 (.pointer (some (sa 5)))):=by rw[hkj];exact Cu hru.out (4*2+1) (by decide)
     have HC:Hid (∀W,Below w.heap.size w W->Calls Tryz.prog 210 #[.agg (A7 E (.slice pa E.points.length pc) (.slice ga E.gaps.length gc) (.slice ea E.edges.length ec) (.slice fa E.first.length fc) (.slice la E.last.length lc))] W fun e w'=>e=.returned (.bool (B9 E 4))/\Below W.heap.size W w'):=fun W hB=>zI R E _ _ _ _ _ W (HSl.out W hB) (Du HRw.out hB) HE.out
     have HKJ:=Aia hkj
     unfold A7 at HC
     clear hkj
     go_upto_region 14 with fail
     have hxb:=Ab wr (.cells #[.func (.func 210) #[] #[],.iface 372 (.pointer (some (sa 5)))] 263)
     have hbb:Below wr.heap.size wr (wr.alloc (.cells #[.func (.func 210) #[] #[],.iface 372 (.pointer (some (sa 5)))] 263)):=(Below.refl _ _).alloc (Nat.le_refl _) _
     generalize wr.alloc _=wb at hxb hbb ⊢
     obtain⟨z0,z1,zf⟩:=Au hxb
     have HEBb:=Aia (heb.out.below hbb)
     have HRUb:=Aia (Af hbb hru.out (Aa hru.out))
     have HXB:=Aia hxb
     obtain⟨c0,c1,c2,c3,c4,c5,c6,c7,c8,c9⟩:=HEBb.out.cells
     clear q0 q1 zf hxb hbb
     go_wp2_with fail
     refine(HC.out _ HEBb.out.bel).mono ?_
     rintro e w6 ⟨rfl,b6⟩
     have HEB6:=Aia (HEBb.out.below b6)
     have HRU6:=Aia (Af b6 HRUb.out (Aa HRUb.out))
     obtain⟨y0,y1,yf⟩:=Au (Af b6 HXB.out (Aa HXB.out))
     clear c0 c1 c2 c3 c4 c5 c6 c7 c8 c9 z0 z1 yf b6
     cases hrb:B9 E 4
     ·have nx:Hid (∀j,j<k+1->B9 E j=false):=Aia (fun j hj=>by
       by_cases e:j=k
       ·rw[e,HKJ.out];exact hrb
       ·exact hall.out j (by omega))
      clear hrb hall
      go_wp2_with fail
      go_roundw
      case rel=>exact⟨k+1,by omega,by go_num,HEB6,HRU6,nx⟩
      case measure=>simp[intOf];omega
     ·have HT:=Aia (Ia 4 (by decide) hrb (fun j hj=>hall.out j (by have:=HKJ.out;omega)))
      have hbl6:=HEB6.out.bel
      clear hrb hall
      go_wp2_with fail
      go_ret
      rw[HTl.out,HT.out]
      exact⟨rfl,hbl6⟩
    by_cases hkj:k=5
    ·have q0:wr.cell? ⟨rb,k*2,none⟩=some (.func (.func 213) #[] #[]):=by rw[hkj];exact Cu hru.out (5*2) (by decide)
     have q1:wr.cell? ⟨rb,k*2+1,none⟩=some (.iface 372 (.pointer (some (sa 2)))):=by rw[hkj];exact Cu hru.out (5*2+1) (by decide)
     have HC:Hid (∀W,Below w.heap.size w W->Calls Tryz.prog 213 #[.agg (A7 E (.slice pa E.points.length pc) (.slice ga E.gaps.length gc) (.slice ea E.edges.length ec) (.slice fa E.first.length fc) (.slice la E.last.length lc))] W fun e w'=>e=.returned (.bool (B9 E 5))/\Below W.heap.size W w'):=fun W hB=>zH R E _ _ _ _ _ W (HSl.out W hB) (Du HRw.out hB) HE.out
     have HKJ:=Aia hkj
     unfold A7 at HC
     clear hkj
     go_upto_region 14 with fail
     have hxb:=Ab wr (.cells #[.func (.func 213) #[] #[],.iface 372 (.pointer (some (sa 2)))] 263)
     have hbb:Below wr.heap.size wr (wr.alloc (.cells #[.func (.func 213) #[] #[],.iface 372 (.pointer (some (sa 2)))] 263)):=(Below.refl _ _).alloc (Nat.le_refl _) _
     generalize wr.alloc _=wb at hxb hbb ⊢
     obtain⟨z0,z1,zf⟩:=Au hxb
     have HEBb:=Aia (heb.out.below hbb)
     have HRUb:=Aia (Af hbb hru.out (Aa hru.out))
     have HXB:=Aia hxb
     obtain⟨c0,c1,c2,c3,c4,c5,c6,c7,c8,c9⟩:=HEBb.out.cells
     clear q0 q1 zf hxb hbb
     go_wp2_with fail
     refine(HC.out _ HEBb.out.bel).mono ?_
     rintro e w6 ⟨rfl,b6⟩
     have HEB6:=Aia (HEBb.out.below b6)
     have HRU6:=Aia (Af b6 HRUb.out (Aa HRUb.out))
     obtain⟨y0,y1,yf⟩:=Au (Af b6 HXB.out (Aa HXB.out))
     clear c0 c1 c2 c3 c4 c5 c6 c7 c8 c9 z0 z1 yf b6
     cases hrb:B9 E 5
     ·have nx:Hid (∀j,j<k+1->B9 E j=false):=Aia (fun j hj=>by
       by_cases e:j=k
       ·rw[e,HKJ.out];exact hrb
       ·exact hall.out j (by omega))
      clear hrb hall
      go_wp2_with fail
      go_roundw
      case rel=>exact⟨k+1,by omega,by go_num,HEB6,HRU6,nx⟩
      case measure=>simp[intOf];omega
     ·have HT:=Aia (Ia 5 (by decide) hrb (fun j hj=>hall.out j (by have:=HKJ.out;omega)))
      have hbl6:=HEB6.out.bel
      clear hrb hall
      go_wp2_with fail
      go_ret
      rw[HTl.out,HT.out]
      exact⟨rfl,hbl6⟩
    by_cases hkj:k=6
    ·have q0:wr.cell? ⟨rb,k*2,none⟩=some (.func (.func 214) #[] #[]):=by rw[hkj];exact Cu hru.out (6*2) (by decide)
     have q1:wr.cell? ⟨rb,k*2+1,none⟩=some (.iface 372 (.pointer (some (sa 2)))):=by rw[hkj];exact Cu hru.out (6*2+1) (by decide)
     have HC:Hid (∀W,Below w.heap.size w W->Calls Tryz.prog 214 #[.agg (A7 E (.slice pa E.points.length pc) (.slice ga E.gaps.length gc) (.slice ea E.edges.length ec) (.slice fa E.first.length fc) (.slice la E.last.length lc))] W fun e w'=>e=.returned (.bool (B9 E 6))/\Below W.heap.size W w'):=fun W hB=>zG R E _ _ _ _ _ W (HSl.out W hB) (Du HRw.out hB) HE.out
     have HKJ:=Aia hkj
     unfold A7 at HC
     clear hkj
     go_upto_region 14 with fail
     have hxb:=Ab wr (.cells #[.func (.func 214) #[] #[],.iface 372 (.pointer (some (sa 2)))] 263)
     have hbb:Below wr.heap.size wr (wr.alloc (.cells #[.func (.func 214) #[] #[],.iface 372 (.pointer (some (sa 2)))] 263)):=(Below.refl _ _).alloc (Nat.le_refl _) _
     generalize wr.alloc _=wb at hxb hbb ⊢
     obtain⟨z0,z1,zf⟩:=Au hxb
     have HEBb:=Aia (heb.out.below hbb)
     have HRUb:=Aia (Af hbb hru.out (Aa hru.out))
     have HXB:=Aia hxb
     obtain⟨c0,c1,c2,c3,c4,c5,c6,c7,c8,c9⟩:=HEBb.out.cells
     clear q0 q1 zf hxb hbb
     go_wp2_with fail
     refine(HC.out _ HEBb.out.bel).mono ?_
     rintro e w6 ⟨rfl,b6⟩
     have HEB6:=Aia (HEBb.out.below b6)
     have HRU6:=Aia (Af b6 HRUb.out (Aa HRUb.out))
     obtain⟨y0,y1,yf⟩:=Au (Af b6 HXB.out (Aa HXB.out))
     clear c0 c1 c2 c3 c4 c5 c6 c7 c8 c9 z0 z1 yf b6
     cases hrb:B9 E 6
     ·have nx:Hid (∀j,j<k+1->B9 E j=false):=Aia (fun j hj=>by
       by_cases e:j=k
       ·rw[e,HKJ.out];exact hrb
       ·exact hall.out j (by omega))
      clear hrb hall
      go_wp2_with fail
      go_roundw
      case rel=>exact⟨k+1,by omega,by go_num,HEB6,HRU6,nx⟩
      case measure=>simp[intOf];omega
     ·have HT:=Aia (Ia 6 (by decide) hrb (fun j hj=>hall.out j (by have:=HKJ.out;omega)))
      have hbl6:=HEB6.out.bel
      clear hrb hall
      go_wp2_with fail
      go_ret
      rw[HTl.out,HT.out]
      exact⟨rfl,hbl6⟩
    exact absurd hlt (by omega)
   ·have hge:(7:Int)<=k:=by omega
    have HT:=Aia (rU (E:=E) (fun j hj=>hall.out j (by omega)))
    have hbl:=heb.out.bel
    go_wp2_with fail
    go_ret
    rw[HTl.out,HT.out]
    exact⟨rfl,hbl⟩
structure Al where
 closed:Int
 opn:Int
 cycle:Int
 delay:Int
 ents:List Ap
def A4(C:Al)(v:Value):Array Value:=#[.int .i64 C.closed,.int .i64 C.opn,.int .i64 C.cycle,.int .i64 C.delay,v]
theorem Br{w:World}{b:Nat}{C:Al}{v:Value}(h:w.heap[b]? =some (.cells (A4 C v) 30)):
  w.cell? ⟨b,0,none⟩=some (.int .i64 C.closed)/\w.cell? ⟨b,1,none⟩=some (.int .i64 C.opn)/\w.cell? ⟨b,2,none⟩=some (.int .i64 C.cycle)/\w.cell? ⟨b,3,none⟩=some (.int .i64 C.delay)/\w.cell? ⟨b,4,none⟩=some v:=by
 unfold A4 at h
 simp[World.cell?,h]
def Dt(C:Al):Bool:=decide (C.closed<0\/1000<C.closed\/C.opn<1\/1000<C.opn\/C.cycle<1\/100<C.cycle\/C.delay<0\/20<C.delay\/8<C.ents.length)
def Gf(L:List Ap)(i:Nat):Nat:=match L[i]? with|some E=>A0 ((L.take i).map Ap.name) E|none=>0
theorem Mp{L:List Ap}{i:Nat}(h:i<L.length):Gf L i=A0 ((L.take i).map Ap.name) L[i]:=by
 unfold Gf
 rw[List.getElem?_eq_getElem h]
def J7(L:List Ap):Nat × Int:=match (List.range L.length).find? (fun i=>Gf L i != 0)with|some i=>(Gf L i,(i:Int))|none=>(0,-1)
theorem Ye{L:List Ap}{k:Nat}(hk:k<L.length)(h:Gf L k≠0)(hb:∀j,j<k->Gf L j=0):J7 L=(Gf L k,(k:Int)):=by
 have:(List.range L.length).find? (fun i=>Gf L i != 0)=some k:=by
  rw[List.find?_range_eq_some]
  refine⟨by simpa using h,List.mem_range.2 hk,fun j hj=>?_⟩
  simp[hb j hj]
 unfold J7
 rw[this]
theorem Vx{L:List Ap}(h:∀j,j<L.length->Gf L j=0):J7 L=(0,-1):=by
 have:(List.range L.length).find? (fun i=>Gf L i != 0)=none:=by
  rw[List.find?_eq_none]
  intro i hi
  simp[h i (List.mem_range.1 hi)]
 unfold J7
 rw[this]
def B7(C:Al):Nat × Int:=if Dt C=true then (2,-1) else if C.opn<C.cycle then (3,-1) else J7 C.ents
def I7(sa:Nat->Addr)(w:World)(v:Value)(f:Nat × Int):Prop:=
 (f.2= -1/\v=errv sa f.1)\/(0<=f.2/\0<f.1/\∃fb,v=.iface 154 (.pointer (some ⟨fb,0,none⟩))/\Lm w fb f.2 (errv sa f.1))
theorem I7.keep{S:Nat->Prop}{sa:Nat->Addr}{w w':World}{v:Value}{f:Nat × Int}(h:I7 sa w v f)(k:Ae S w w')(hS:∀fb,v=.iface 154 (.pointer (some ⟨fb,0,none⟩))->¬S fb):I7 sa w' v f:=by
 rcases h with h|⟨h1,h2,fb,h3,h4⟩
 ·exact .inl h
 ·exact .inr ⟨h1,h2,fb,h3,k.get h4 (hS fb h3)⟩
theorem I7.below{sa:Nat->Addr}{w w':World}{v:Value}{f:Nat × Int}(h:I7 sa w v f)(b:Below w.heap.size w w'):I7 sa w' v f:=h.keep (Ak b) (fun _ _ h=>h)
theorem I7.bare(sa:Nat->Addr)(w:World)(n:Nat):I7 sa w (errv sa n) (n,-1):=.inl ⟨rfl,rfl⟩
structure Ez (R:Nat->Prop) (w:World) (C:Al) (v:Value) (X:List Aw):Prop where
 sl:La R w v X
 eq:C.ents=X.map Aw.E
 small:∀x∈X,Fx x.E
 len:X.length<=1000
theorem Ez.keep{R S:Nat->Prop}{w w':World}{C:Al}{v:Value}{X:List Aw}(h:Ez R w C v X)(k:Ae S w w')(hd:∀b,R b->¬S b):Ez R w' C v X:=⟨h.sl.keep k hd,h.eq,h.small,h.len⟩
theorem Ez.below{B:Nat}{R:Nat->Prop}{w w':World}{C:Al}{v:Value}{X:List Aw}(h:Ez R w C v X)(b:Below B w w')(hd:∀b,R b->b<B):Ez R w' C v X:=h.keep (Ae.of_below b) (fun b hb hS=>by have:=hd b hb;omega)
theorem Yk(B:Nat)(sa:Nat->Addr)(R:Nat->Prop)(C:Al)(v:Value)(X:List Aw)(w:World)(hS:Fv B sa w)(h:Ez R w C v X)(hR:∀b,R b->b<w.heap.size):
    Calls Tryz.prog 57 #[.agg (A4 C v)] w fun e w'=>∃u,e=.returned u/\I7 sa w' u (B7 C)/\Below w.heap.size w w':=by
  obtain⟨ao,cap,rfl⟩:=h.sl.row.val
  obtain⟨hc1,hc2⟩:=h.sl.row.capB
  have hlen:C.ents.length=X.length:=by rw[h.eq,List.length_map]
  have hXl:=h.len
  have H:=Aia h
  have HS:=Aia hS
  have HRw:=Aia hR
  have hxa:=Ab w (.cells (A4 C (.slice ao X.length cap)) 30)
  have hba:Below w.heap.size w (w.alloc (.cells (A4 C (.slice ao X.length cap)) 30)):=(Below.refl _ _).alloc (Nat.le_refl _) _
  clear h hS hR
  unfold A4 at hxa hba ⊢
  go_enter func57,ntmps57
  go_upto_region 1 with fail
  generalize w.alloc _=w1 at hxa hba ⊢
  have HXA:Hid (w1.heap[w.heap.size]? =some (.cells (A4 C (.slice ao X.length cap)) 30)):=hxa
  obtain⟨c0,c1,c2,c3,c4⟩:=Br HXA.out
  clear hxa
  go_cut [6] (fun s wx=>s=.bool (Dt C)/\w1=wx)
  case first=>
    by_cases h1:C.closed<0
    · have HB:=Aia (show Dt C=true from decide_eq_true (.inl h1))
      go_wp2_with fail
      go_meet
      exact⟨De HB.out.symm,rfl⟩
    by_cases h2:1000<C.closed
    · have HB:=Aia (show Dt C=true from decide_eq_true (by omega))
      go_wp2_with fail
      go_meet
      exact⟨De HB.out.symm,rfl⟩
    by_cases h3:C.opn<1
    · have HB:=Aia (show Dt C=true from decide_eq_true (by omega))
      go_wp2_with fail
      go_meet
      exact⟨De HB.out.symm,rfl⟩
    by_cases h4:1000<C.opn
    · have HB:=Aia (show Dt C=true from decide_eq_true (by omega))
      go_wp2_with fail
      go_meet
      exact⟨De HB.out.symm,rfl⟩
    by_cases h5:C.cycle<1
    · have HB:=Aia (show Dt C=true from decide_eq_true (by omega))
      go_wp2_with fail
      go_meet
      exact⟨De HB.out.symm,rfl⟩
    by_cases h6:100<C.cycle
    · have HB:=Aia (show Dt C=true from decide_eq_true (by omega))
      go_wp2_with fail
      go_meet
      exact⟨De HB.out.symm,rfl⟩
    by_cases h7:C.delay<0
    · have HB:=Aia (show Dt C=true from decide_eq_true (by omega))
      go_wp2_with fail
      go_meet
      exact⟨De HB.out.symm,rfl⟩
    by_cases h8:20<C.delay
    · have HB:=Aia (show Dt C=true from decide_eq_true (by omega))
      go_wp2_with fail
      go_meet
      exact⟨De HB.out.symm,rfl⟩
    have HB:=Aia (show Dt C=decide (8<(X.length:Int))from by unfold Dt;rw[decide_eq_decide];omega)
    go_wp2_with fail
    go_meet
    exact⟨De HB.out.symm,rfl⟩
  case rest=>
  obtain⟨rfl,rfl⟩:=hcut
  cases hbd:Dt C
  case true=>
    have HT:=Aia (show B7 C=(2,-1)from if_pos hbd)
    obtain⟨_,g1,_,_,_,_⟩:=(HS.out.on hba).all
    clear hbd
    go_wp2_with fail
    go_ret
    exact⟨_,rfl,by rw[HT.out];exact I7.bare sa _ 2,hba⟩
  case false=>
  by_cases hcy:C.opn<C.cycle
  · have HT:=Aia (show B7 C=(3,-1)from by unfold B7;rw[if_neg (by rw[hbd];decide),if_pos hcy])
    obtain⟨_,_,g2,_,_,_⟩:=(HS.out.on hba).all
    clear hbd
    go_wp2_with fail
    go_ret
    exact⟨_,rfl,by rw[HT.out];exact I7.bare sa _ 3,hba⟩
  have HT:=Aia (show B7 C=J7 C.ents from by unfold B7;rw[if_neg (by rw[hbd];decide),if_neg hcy])
  clear hbd
  go_wp2_with fail
  go_loopw [62] (fun s wr=>∃i:Nat,i<=X.length/\s=.int .i64 i/\Below w.heap.size w wr/\Hid (wr.heap[w.heap.size]? =some (.cells (A4 C (.slice ao X.length cap)) 30))/\Hid (∀j,j<i->Gf C.ents j=0)) (fun s _=>X.length-(intOf s).toNat)
  case atStart=>exact⟨0,Nat.zero_le _,rfl,hba,HXA,fun j h=>by omega⟩
  case round=>
    obtain⟨i,hi,rfl,hbl,hxc,hall⟩:=hrel
    clear HXA hba c0 c1 c2 c3 c4
    by_cases hlt:i<X.length
    · obtain⟨b,off,rfl,hRb,hb,hc⟩:=O4 H.out.sl.row (by omega)
      obtain⟨q0,q1,q2,q3,q4,q5,q6,q7,q8,q9⟩:=hc i hlt
      have hRb':=HRw.out b hRb
      rw[<-hbl.cell hRb']at q0 q1 q2 q3 q4 q5 q6 q7 q8 q9
      have hi2:(i:Int)<=(cap:Int):=by omega
      have hsub:=fun W=>Y7 W b off X.length cap i (by omega)
      have HEr:=Aia (show Gf C.ents i=A0 ((X.take i).map J5) X[i].E from by
        rw[Mp (by omega)]
        simp only[H.out.eq,List.getElem_map,<-List.map_take,List.map_map]
        rfl)
      have HCe:=Aia (fun W (hB:Below w.heap.size w W)=>wC B sa R (X.take i) (.slice (some ⟨b,off,none⟩) i cap) X[i].E X[i].p X[i].g X[i].e X[i].f X[i].l W (HS.out.on hB) ((H.out.sl.each X[i] (List.getElem_mem hlt)).keep (Ae.of_below hB) (fun b hb hS=>by have:=HRw.out b hb;omega)) ((Ay.cut (f:=Aj) H.out.sl.row (fun _=>rfl) i (by omega)).below hB HRw.out) (Du HRw.out hB) (H.out.small X[i] (List.getElem_mem hlt)) (by rw[List.length_take];omega))
      unfold A7 at HCe
      rw[<-HEr.out]at HCe
      obtain⟨er,her⟩:∃er,er=Gf C.ents i:=⟨_,rfl⟩
      rw[<-her]at HCe
      have HQ:=Aia her
      obtain⟨vE,hvE⟩:∃vE,vE=errv sa er:=⟨_,rfl⟩
      rw[<-hvE]at HCe
      have HVE:=Aia hvE
      have hEs:=H.out.sl.each X[i] (List.getElem_mem hlt)
      obtain⟨pa,pc,hvp⟩:=hEs.p.val
      obtain⟨ga,gc,hvg⟩:=hEs.g.val
      obtain⟨ea,ec,hve⟩:=hEs.e.val
      obtain⟨fa,fc,hvf⟩:=hEs.f.val
      obtain⟨la,lc,hvl⟩:=hEs.l.val
      rw[hvp,hvg,hve,hvf,hvl]at HCe
      rw[hvp]at q2
      rw[hvg]at q6
      rw[hve]at q7
      rw[hvf]at q8
      rw[hvl]at q9
      obtain⟨xe,hxe⟩:∃xe,xe=X[i].E:=⟨_,rfl⟩
      rw[<-hxe]at HCe q0 q1 q2 q3 q4 q5 q6 q7 q8 q9
      clear hc hvE her HEr hvp hvg hve hvf hvl hEs hxe
      go_upto_region 8 with fail
      have hxb:=Ab wr (.cells (A7 xe (.slice pa xe.points.length pc) (.slice ga xe.gaps.length gc) (.slice ea xe.edges.length ec) (.slice fa xe.first.length fc) (.slice la xe.last.length lc)) 50)
      have hbb:Below wr.heap.size wr (wr.alloc (.cells (A7 xe (.slice pa xe.points.length pc) (.slice ga xe.gaps.length gc) (.slice ea xe.edges.length ec) (.slice fa xe.first.length fc) (.slice la xe.last.length lc)) 50)):=(Below.refl _ _).alloc (Nat.le_refl _) _
      unfold A7 at hxb hbb
      generalize wr.alloc _=wb at hxb hbb ⊢
      obtain⟨z0,z1,z2,z3,z4,z5,z6,z7,z8,z9,zf⟩:=Bs hxb
      have hxcb:=Af hbb hxc.out (Aa hxc.out)
      obtain⟨c0,c1,c2,c3,c4⟩:=Br hxcb
      have hbw:=hbl.trans (hbb.mono hbl.size)
      have hlb:=Aa hxb
      have hlc:=Aa hxcb
      have HXCB:=Aia hxcb
      obtain⟨bb,hbq⟩:∃bb,bb=wr.heap.size:=⟨_,rfl⟩
      rw[<-hbq]at z0 z1 z2 z3 z4 z5 z6 z7 z8 z9 hlb ⊢
      clear hbq hxb hbb hxcb zf q0 q1 q2 q3 q4 q5 q6 q7 q8 q9 c0 c1 c2 c3
      go_cut [5] (fun s wx=>s=vE/\Below w.heap.size w wx/\Below wb.heap.size wb wx)
      case first=>
       go_region_held3 (fun w'=>(∀o,w'.cell? ⟨bb,o,none⟩=wb.cell? ⟨bb,o,none⟩)/\(∀o,w'.cell? ⟨w.heap.size,o,none⟩=wb.cell? ⟨w.heap.size,o,none⟩))
        (first|exact⟨fun _=>rfl,fun _=>rfl⟩|exact⟨fun o=>d1.cell (p:=⟨bb,o,none⟩) hlb,fun o=>d1.cell (p:=⟨w.heap.size,o,none⟩) hlc⟩)
        (first|(go_at_call 97;refine(HCe.out _ ?_).mono ?_;(repeat(first|exact hbw|refine Below.drew ?_));rintro e w2 ⟨rfl,b2⟩;have d1:Below wb.heap.size wb w2:=(by repeat(first|exact Below.refl _ _|exact b2|refine Below.drew ?_|refine Below.trans ?_ b2))))
       all_goals(go_wp2_with fail;go_meet)
       all_goals exact⟨rfl,by repeat(first|exact hbw.trans (d1.mono hbw.size)|refine Below.drew ?_),by repeat(first|exact d1|refine Below.drew ?_)⟩
      case rest=>
      obtain⟨rfl,hb2,hb3⟩:=hcut
      have HXC2:=Aia (Af hb3 HXCB.out hlc)
      clear z0 z1 z2 z3 z4 z5 z6 z7 z8 z9 c4 HCe hbw hb3
      cases er with
      |zero=>
        have nx:Hid (∀j,j<i+1->Gf C.ents j=0):=Aia (fun j hj=>by
          by_cases e:j=i
          · rw[e];exact HQ.out.symm
          · exact hall.out j (by omega))
        rw[HVE.out,show errv sa 0=.nilIface from rfl]
        clear hall
        go_wp2_with fail
        go_roundw
        case rel=>exact⟨i+1,by omega,by go_num,hb2,HXC2,nx⟩
        case measure=>simp[intOf];omega
      |succ n=>
        have HT2:=Aia (show J7 C.ents=(n+1,(i:Int))from by rw[Ye (by omega) (by rw[<-HQ.out];omega) hall.out,<-HQ.out])
        have hF:=Ab wc (.cells #[.int .i64 i,errv sa (n+1)] 156)
        have hB9:Below w.heap.size w (wc.alloc (.cells #[.int .i64 i,errv sa (n+1)] 156)):=hb2.alloc hb2.size _
        have HF:=Aia hF
        have HB9:=Aia hB9
        rw[HVE.out,D4]
        rw[D4]at HF HB9
        clear hF hB9 hall
        go_wp2_with fail
        go_ret
        refine⟨_,rfl,?_,HB9.out⟩
        rw[HT.out,HT2.out]
        exact .inr ⟨by show(0:Int)<=(i:Int);omega,Nat.succ_pos _,_,rfl,HF.out⟩
    · have HT2:=Aia (Vx (L:=C.ents) (fun j hj=>hall.out j (by omega)))
      go_wp2_with fail
      go_ret
      exact⟨_,rfl,by rw[HT.out,HT2.out];exact I7.bare sa _ 0,hbl⟩
end Go.Proofs.YtikehilbmldadaaGreatDoor
