import Derived.Test.YtikehilbmldadaaGreatDoorV49
import Derived.Test.YtikehilbmldadaaGreatDoorV42
set_option maxHeartbeats 8000000
set_option maxRecDepth 100000
set_option linter.unusedVariables false
open Go.Proofs.Tryz Go.Proofs.YtikehilbmldadaaGreatDoor.Tryz
namespace Go.Proofs.YtikehilbmldadaaGreatDoor
open Go.RowKit
theorem D0.conf{base rb:Nat}{o:Nat->Option Nat}{C:Al}{st:ByteArray}{v:Value}{Y:List Aw}{w:World}(h:D0 base rb o C st v Y w){k:Nat}(hs:Mt C k)(hk:k<=1000):Ez (fun b=>base<=b/\b<w.heap.size) w C v Y:=by
 obtain⟨h1,h2⟩:=hs.small hk h.eq
 refine⟨⟨?_,fun x hx=>?_⟩,h.eq,h2,h1⟩
 ·obtain⟨hl,ao,cap,hv,h1,h2,h3,h4⟩:=h.row.slOf
  refine⟨hl,ao,cap,hv,h1,h2,h3,fun hp=>?_⟩
  obtain⟨b,off,ha,hR,hb,hc⟩:=h4 hp
  exact⟨b,off,ha,⟨hR.1,hb⟩,hb,hc⟩
 ·obtain⟨i,hi,rfl⟩:=List.mem_iff_getElem.1 hx
  exact(h.own i hi).slOf
theorem sJ(w:World)(rb:Nat)(hb:w.heap[rb]? =some (.cells (Tt Bw (.slice none 0 0) ByteArray.empty) 103)):D0 w.heap.size rb (fun _=>none) RdS.start.c (stB RdS.start.stage) (.slice none 0 0) [] w:=
 ⟨hb,Aa hb,Nat.le_refl _,fun _ _=>rfl,fun _ _=>rfl,⟨rfl,.inl ⟨rfl,rfl⟩⟩,fun b hb=>(by cases hb),fun i hi=>(by cases hi),rfl⟩
theorem Afr(st:Int)(h:-1<=st/\st<=9):(stB st).toList.isEmpty=decide (st= -1)/\((stB st).toList== [119,105,110,100,111,119])=decide (st=0)/\((stB st).toList== [99,121,99,108,101])=decide (st=1):=by
 have hall:∀i:Nat,i<11->(stB ((i:Int)-1)).data.toList.isEmpty=decide ((i:Int)-1= -1)/\((stB ((i:Int)-1)).data.toList== [119,105,110,100,111,119])=decide ((i:Int)-1=0)/\((stB ((i:Int)-1)).data.toList== [99,121,99,108,101])=decide ((i:Int)-1=1):=by decide+kernel
 obtain⟨i,hi⟩:∃i:Nat,st=(i:Int)-1:=⟨(st+1).toNat,by omega⟩
 rw[ByteArray.toList_eq,hi]
 exact hall i (by omega)
theorem wR{C:Al}(h:(B7 C).1=0):B7 C=(0,-1):=by
 unfold B7 at h ⊢
 split
 ·next h1=>rw[if_pos h1]at h;cases h
 next h1=>
 rw[if_neg h1]at h
 split
 ·next h2=>rw[if_pos h2]at h;cases h
 next h2=>
 rw[if_neg h2]at h
 unfold J7 at h ⊢
 split
 ·next i hi=>
  rw[hi]at h
  have:=List.find?_some hi
  simp at this
  exact absurd h this
 ·rfl
def Rb(r:Al × (Nat × Int))(w:World)(e:Ending)(w':World):Prop:=
 ∃ao n cap X,e=.returned (.tuple #[.agg (A4 r.1 (.slice ao n cap)),Q4 r.2])/\(r.2.1=0->Ez (fun b=>w.heap.size<=b/\b<w'.heap.size) w' r.1 (.slice ao n cap) X)/\(r.2.1≠0->Value.slice ao n cap=.slice none 0 0)/\Below w.heap.size w w'
def Ui(w:World)(q q2:Nat)(a b c d e f g:Value):World:=((((((w.setCell ⟨q,0,none⟩ a).setCell ⟨q,1,none⟩ b).setCell ⟨q,2,none⟩ c).setCell ⟨q,3,none⟩ d).setCell ⟨q,4,none⟩ e).setCell ⟨q2,0,none⟩ f).setCell ⟨q2,1,none⟩ g
theorem Uh(w:World)(q q2:Nat)(a b c d e f g:Value):Ae (fun x=>x=q\/x=q2) w (Ui w q q2 a b c d e f g):=
 (((Jd w q a b c d e).mono (fun _ _ h=>.inl h)).step (Ai _ q2 0 f) (fun _ h _=>.inr h)).step (Ai _ q2 1 g) (fun _ h _=>.inr h)
theorem Ig{w w7:World}{q q2:Nat}(h:Below w.heap.size w w7)(hq:w.heap.size<=q)(hq2:w.heap.size<=q2)(a b c d e f g:Value):Below w.heap.size w (Ui w7 q q2 a b c d e f g):=
 h.trans ((Uh w7 q q2 a b c d e f g).below h.size (fun k hk=>by rcases hk with rfl|rfl<;>assumption))
theorem Sl{w w':World}{c:Nat}{i:Int}(hc:c≠0)(hb:Below w.heap.size w w'):Rb (Bw,(c,i)) w (.returned (.tuple #[.agg (A4 Bw (.slice none 0 0)),.agg #[.int .i64 (c:Int),.int .i64 i]])) w':=
 ⟨none,0,0,[],rfl,fun h=>absurd h hc,fun _=>rfl,hb⟩
theorem Ws(s:ByteArray)(w:World)(hs:s.size<=100000)(hK:∀k,k<=(Ao s).length->(∀j,j<k->B5 (Ao s) j=0)->k<=1000):
  Calls Tryz.prog 9 #[.string s] w (Rb (Cg s) w):=by
 have HK:=Aia hK
 have hba:Below w.heap.size w (w.alloc (.cells (A4 Bw (.slice none 0 0)) 30)):=(Below.refl _ _).alloc (Nat.le_refl _) _
 have hxa:=Ab w (.cells (A4 Bw (.slice none 0 0)) 30)
 obtain⟨w1,hw1⟩:∃w1,w1=w.alloc (.cells (A4 Bw (.slice none 0 0)) 30):=⟨_,rfl⟩
 rw[<-hw1]at hxa hba
 have hsz1:w1.heap.size=w.heap.size+1:=by rw[hw1];simp
 have hxr:=Ab w1 (.cells #[.int .i64 0,.int .i64 0] 32)
 have hbr:Below w1.heap.size w1 (w1.alloc (.cells #[.int .i64 0,.int .i64 0] 32)):=(Below.refl _ _).alloc (Nat.le_refl _) _
 unfold A4 Bw at hw1
 clear hK
 go_enter func9,ntmps9
 go_upto_region 1 with fail
 rw[<-hw1]
 generalize hw2:w1.alloc _=w2 at hxr hbr ⊢
 have hsz2:w2.heap.size=w.heap.size+2:=by rw[<-hw2,World.size_alloc,hsz1]
 rw[hsz1]at hxr
 obtain⟨q2,hq2⟩:∃q2,q2=w.heap.size+1:=⟨_,rfl⟩
 obtain⟨q,hq⟩:∃q,q=w.heap.size:=⟨_,rfl⟩
 have hne1:¬q=q2:=by omega
 have hne2:¬q2=q:=by omega
 have HX2:Hid (w2.heap[q]? =some (.cells (A4 Bw (.slice none 0 0)) 30)):=(show _ from by rw[hq];exact Af hbr hxa (Aa hxa))
 have HY2:Hid (w2.heap[q2]? =some (.cells #[.int .i64 0,.int .i64 0] 32)):=(show _ from by rw[hq2];exact hxr)
 have HB2:=Aia (hba.trans (hbr.mono hba.size))
 have HQ:Hid (w.heap.size<=q/\w.heap.size<=q2):=(show _ from⟨by omega,by omega⟩)
 have HQW:=Aia hq
 rw[<-hq2,<-hq]
 have HQ2:Hid (q<w2.heap.size/\q2<w2.heap.size):=(show _ from⟨by omega,by omega⟩)
 clear hxa hba hxr hbr hw1 hsz1 hw2 hq2 hq hsz2
 by_cases h8:(8000:Int)<(s.size:Int)
 ·have HR:Hid (Cg s=(Bw,(2,-1))):=Aia (by unfold Cg;rw[if_pos (by omega)])
  have HBr:=Aia (Pr 2 w2)
  go_wp2_with fail
  refine HBr.out.mono ?_
  rintro e w3 ⟨rfl,b3⟩
  obtain⟨d0,d1,d2,d3,d4⟩:=Br (C:=Bw) (Af b3 HX2.out (Aa HX2.out))
  obtain⟨g0,g1,gf⟩:=Au (Af b3 HY2.out (Aa HY2.out))
  have df:∀o,w3.frozen? ⟨q,o,none⟩=false:=fun o=>by have:=Af b3 HX2.out (Aa HX2.out);simp[World.frozen?,this]
  have HB3:=Aia (HB2.out.trans (b3.mono HB2.out.size))
  clear b3
  go_wp2_with fail
  refine bodyPost_ret (v:=.tuple #[.agg #[.int .i64 0,.int .i64 0,.int .i64 0,.int .i64 0,.slice none 0 0],.agg #[.int .i64 2,.int .i64 (-1)]]) (by simp[d0,d1,d2,d3,d4,g0,g1,results,results9,go_sem,World.cell?_setCell_same,World.cell?_setCell_other]) rfl ?_
  rw[HR.out]
  exact Sl (by decide) (Ig HB3.out HQ.out.1 HQ.out.2 _ _ _ _ _ _ _)
 ·go_upto_region 4 with fail
  have hbr:Below w2.heap.size w2 (w2.alloc (.cells #[.int .i64 0,.int .i64 0,.int .i64 0,.int .i64 0,.slice none 0 0,.string ⟨#[]⟩] 103)):=(Below.refl _ _).alloc (Nat.le_refl _) _
  have hxr:=Ab w2 (.cells #[.int .i64 0,.int .i64 0,.int .i64 0,.int .i64 0,.slice none 0 0,.string ⟨#[]⟩] 103)
  generalize w2.alloc _=w3 at hxr hbr ⊢
  obtain⟨rb,hrb⟩:∃rb,rb=w2.heap.size:=⟨_,rfl⟩
  rw[<-hrb]at hxr ⊢
  have hqr:q<rb/\q2<rb:=by have:=HQ2.out;omega
  have HQR:=Aia hqr
  have HB3:=Aia (HB2.out.trans (hbr.mono HB2.out.size))
  have HX3:=Aia (Af hbr HX2.out (Aa HX2.out))
  have HY3:=Aia (Af hbr HY2.out (Aa HY2.out))
  have HR3:Hid (w3.heap[rb]? =some (.cells (Tt Bw (.slice none 0 0) ByteArray.empty) 103)):=hxr
  obtain⟨ls,hls⟩:∃ls,ls=Ao s:=⟨_,rfl⟩
  rw[<-hls]at HK
  have HLS:=Aia hls
  obtain⟨L,hL⟩:∃L,L=ls.length:=⟨_,rfl⟩
  have HL:=Aia hL
  have hLb:(L:Int)<=100001:=by
   rw[hL,hls]
   have:=Hs s
   omega
  have H8:=Aia h8
  clear hbr hrb hxr hls hL HX2 HY2 HB2 hqr h8
  obtain⟨zb,hzb⟩:∃zb,s.toList.isEmpty=zb:=⟨_,rfl⟩
  go_upto_if 17 with fail
  go_cut [0,5] (fun s0 s5 wx=>∃ao cap,(∃x,s0=.string x)/\s5=.slice ao L cap/\Hid (Ay (fun b=>w3.heap.size<=b/\b<wx.heap.size) wx (.slice ao L cap) 1 (Ad ls) L)/\Hid (Below w3.heap.size w3 wx))
  case first=>
   cases zb
   rotate_left
   ·have h0:s.size=0:=Decidable.byContradiction (fun h=>by rw[K8 h]at hzb;cases hzb)
    have HE:Hid (ls= []):=Aia (by rw[HLS.out];unfold Ao;rw[if_pos h0])
    have HL0:Hid (L=0):=Aia (by rw[HL.out,HE.out];rfl)
    clear h0
    go_wp2_with fail
    go_meet
    exact⟨none,0,⟨_,rfl⟩,by rw[HL0.out],(show Ay _ w3 (.slice none L 0) 1 (Ad ls) L from by rw[HE.out,HL0.out];exact Ay.nil _ _ _),Below.refl _ _⟩
   ·have h0:¬s.size=0:=fun h=>by rw[Kq h]at hzb;cases hzb
    have hpl:ls=Bj 10 (C4 s):=by rw[HLS.out];unfold Ao;rw[if_neg h0]
    have hcs:=Ka s
    obtain⟨n,hn⟩:∃n,s.size=n+1:=⟨s.size-1,by omega⟩
    have hn2:n<=100000:=by omega
    have hin:n<s.size:=by omega
    have hCu:Calls Tryz.prog 41 #[.string (C4 s),.int .u8 10] w3 fun e w'=>∃ao cap,e=.returned (.slice ao L cap)/\As w' w3.heap.size 9 1 (.slice ao L cap) L (Ad ls)/\Below w3.heap.size w3 w':=by
     have:=kX (C4 s) 10 w3 (by omega)
     rw[<-hpl,<-HL.out]at this
     exact this
    have hget:s.data.toList.getLast? =some s[n]:=by
     have hd:s.data.toList.length=n+1:=by rw[Gh];exact hn
     rw[List.getLast?_eq_getElem?,hd,Nat.add_sub_cancel,List.getElem?_eq_getElem (by omega)]
     rfl
    by_cases hb:s[n]=10
    ·have htc:C4 s=s.extract 0 n:=by unfold C4;rw[hget,hb,if_pos rfl,hn,Nat.add_sub_cancel]
     rw[htc]at hCu
     have HCu:=Aia hCu
     have hbb:((s[n].toNat:Int)==10)=true:=by rw[hb];rfl
     clear hb htc hCu hget hcs hpl h0
     go_wp2_with fail
     refine HCu.out.mono ?_
     rintro e w4 ⟨ao,cap,rfl,ho4,b4⟩
     have HO4:=Aia ho4
     have HB4:=Aia b4
     clear ho4 b4
     go_wp2_with fail
     go_meet
     refine⟨ao,cap,⟨_,rfl⟩,rfl,?_,HB4⟩
     exact(show Ay _ w4 (.slice ao L cap) 1 (Ad ls) L from by
      obtain⟨hl,ao',cap',hv,h1,h2,h3,h4⟩:=HO4.out.slOf
      exact⟨hl,ao',cap',hv,h1,h2,h3,fun hp=>by obtain⟨b,off,ha,hR,hb,hc⟩:=h4 hp;exact⟨b,off,ha,⟨hR.1,hb⟩,hb,hc⟩⟩)
    ·have htc:C4 s=s:=by unfold C4;rw[hget,if_neg (fun e=>hb (Option.some.inj e))]
     rw[htc]at hCu
     have HCu:=Aia hCu
     have hbb:((s[n].toNat:Int)==10)=false:=by rw[beq_eq_false_iff_ne];intro e;exact hb (UInt8.toNat_inj.1 (show s[n].toNat=10 from by omega))
     clear hb htc hCu hget hcs hpl h0
     go_wp2_with fail
     refine HCu.out.mono ?_
     rintro e w4 ⟨ao,cap,rfl,ho4,b4⟩
     have HO4:=Aia ho4
     have HB4:=Aia b4
     clear ho4 b4
     go_wp2_with fail
     go_meet
     refine⟨ao,cap,⟨_,rfl⟩,rfl,?_,HB4⟩
     exact(show Ay _ w4 (.slice ao L cap) 1 (Ad ls) L from by
      obtain⟨hl,ao',cap',hv,h1,h2,h3,h4⟩:=HO4.out.slOf
      exact⟨hl,ao',cap',hv,h1,h2,h3,fun hp=>by obtain⟨b,off,ha,hR,hb,hc⟩:=h4 hp;exact⟨b,off,ha,⟨hR.1,hb⟩,hb,hc⟩⟩)
  case rest=>
  obtain⟨ao,cap,⟨x0,rfl⟩,rfl,hcl,hbc⟩:=hcut
  have HR0:Hid (wc.heap[rb]? =some (.cells (Tt Bw (.slice none 0 0) ByteArray.empty) 103)):=(show _ from Af hbc.out HR3.out (Aa HR3.out))
  have HX0:=Aia (Af hbc.out HX3.out (Aa HX3.out))
  have HY0:=Aia (Af hbc.out HY3.out (Aa HY3.out))
  have HB0:=Aia (HB3.out.trans (hbc.out.mono HB3.out.size))
  have HST:=Aia (sJ wc rb HR0.out)
  have hrw3:=Aa HR3.out
  have HCL:Hid (∀(i:Nat) x,ls[i]? =some x->∃lb lo,ao=some ⟨lb,lo,none⟩/\lb<wc.heap.size/\lb≠rb/\wc.cell? ⟨lb,lo+i,none⟩=some (.string x)):=(show _ from fun i x hx=>by
   have hl:=hcl.out
   rw[HL.out]at hl
   obtain⟨b,off,ha,hR,hb,hc⟩:=Eh hl (by have:=(List.getElem?_eq_some_iff.1 hx).1;omega)
   obtain⟨hk,rfl⟩:=List.getElem?_eq_some_iff.1 hx
   exact⟨b,off,ha,hb,by have:=hR.1;omega,hc i hk⟩)
  have hLc:(L:Int)<=(cap:Int):=hcl.out.capB.1
  clear hbc HB3 HX3 HY3 HR3 HR0 hcl hzb hrw3
  go_wp2_with fail
  go_loopw [6] (fun s6 wr=>∃(i:Nat) (o:Nat->Option Nat) (v:Value) (Y:List Aw),i<=L/\s6=.int .i64 i/\Hid (∀j,j<i->B5 ls j=0)/\Hid (D0 wc.heap.size rb o (Bg ls i).c (stB (Bg ls i).stage) v Y wr)/\Hid (Ae (fun b=>b=rb\/wc.heap.size<=b) wc wr)) (fun s6 _=>L-(intOf s6).toNat)
  case atStart=>exact⟨0,_,_,_,Nat.zero_le _,rfl,(show _ from fun j hj=>by omega),HST,Ae.refl _ _⟩
  case round=>
   obtain⟨i,o,v,Y,hi,rfl,hgd,hrd,hkp⟩:=hrel
   have hqb:=Aa HX0.out
   have hqb2:=Aa HY0.out
   have hqr:=HQR.out
   have HXr:=Aia (hkp.out.get HX0.out (fun hs=>by rcases hs with hs|hs<;>omega))
   have HYr:=Aia (hkp.out.get HY0.out (fun hs=>by rcases hs with hs|hs<;>omega))
   have HBr:Hid (Below w.heap.size w wr):=Aia (HB0.out.trans (hkp.out.below HB0.out.size (fun b hb=>by have:=HB0.out.size;have:=HQ.out;rcases hb with hb|hb<;>omega)))
   by_cases hlt:i<L
   ·have hil:i<ls.length:=by rw[<-HL.out];exact hlt
    obtain⟨lb,lo,rfl,hlb,hlr,hlc⟩:=HCL.out i ls[i] (List.getElem?_eq_getElem hil)
    have ht:wr.cell? ⟨lb,lo+i,none⟩=some (.string (ls.getD i ByteArray.empty)):=by
     rw[hkp.out.cell (p:=⟨lb,lo+i,none⟩) hlb (fun hs=>by rcases hs with hs|hs;exact hlr hs;have hs:wc.heap.size<=lb:=hs;omega),List.getD_eq_getElem?_getD,List.getElem?_eq_getElem hil]
     exact hlc
    have hsz:(ls.getD i ByteArray.empty).size<=100000:=by
     rw[List.getD_eq_getElem?_getD,List.getElem?_eq_getElem hil]
     have:=(Hs s).2 ls[i] (by rw[<-HLS.out];exact List.getElem_mem hil)
     show ls[i].size<=100000
     omega
    have HLn:=Aia (zS wc.heap.size rb o (Bg ls i) v Y (ls.getD i ByteArray.empty) wr hrd.out (Km ls i (by omega) hgd.out).1 ((N9 ls i (by omega) hgd.out).few (by omega) hrd.out.eq) hsz)
    obtain⟨tl,htl⟩:∃tl,tl=ls.getD i ByteArray.empty:=⟨_,rfl⟩
    rw[<-htl]at ht HLn
    have HTL:=Aia htl
    have HIL:=Aia hil
    unfold gO at HLn
    obtain⟨cd,hcd⟩:∃cd,cd=(A8 (Bg ls i) tl).1:=⟨_,rfl⟩
    rw[<-hcd]at HLn
    have HCD:=Aia hcd
    clear hsz hlb hlr hlc htl hil hcd
    by_cases hz:(0:Int)<(cd:Int)
    ·have HRF:Hid (Cg s=(Bw,(cd,(i:Int)))):=Aia (by
      have hh:B5 ls i=cd:=by unfold B5;rw[<-HTL.out,HCD.out]
      have hf:=Na (L:=ls) (k:=i) HIL.out (by rw[hh];omega) hgd.out
      rw[hh]at hf
      have h8:=H8.out
      unfold Cg
      rw[if_neg (by omega),<-HLS.out,hf,if_pos (by show cd≠0;omega)])
     go_wp2_with fail
     refine HLn.out.mono ?_
     rintro e w7 ⟨rfl,-,hk7⟩
     have HX7:=Aia (hk7.get HXr.out (fun hs=>by rcases hs with hs|hs<;>omega))
     have HY7:=Aia (hk7.get HYr.out (fun hs=>by rcases hs with hs|hs<;>omega))
     have HB7:Hid (Below w.heap.size w w7):=Aia (HBr.out.trans (hk7.below HBr.out.size (fun b hb=>by have:=HB0.out.size;have:=HQ.out;rcases hb with hb|hb<;>omega)))
     obtain⟨d0,d1,d2,d3,d4⟩:=Br (C:=Bw) HX7.out
     obtain⟨g0,g1,gf⟩:=Au HY7.out
     have df:∀o,w7.frozen? ⟨q,o,none⟩=false:=fun o=>by have:=HX7.out;simp[World.frozen?,this]
     have HCD0:Hid (cd≠0):=Aia (by omega)
     clear hk7 ht
     go_wp2_with fail
     refine bodyPost_ret (v:=.tuple #[.agg #[.int .i64 0,.int .i64 0,.int .i64 0,.int .i64 0,.slice none 0 0],.agg #[.int .i64 cd,.int .i64 i]]) (by simp[d0,d1,d2,d3,d4,g0,g1,results,results9,go_sem,World.cell?_setCell_same,World.cell?_setCell_other]) rfl ?_
     rw[HRF.out]
     exact Sl HCD0.out (Ig HB7.out HQ.out.1 HQ.out.2 _ _ _ _ _ _ _)
    ·have HC0:Hid (cd=0):=Aia (by omega)
     go_wp2_with fail
     refine HLn.out.mono ?_
     rintro e w7 ⟨rfl,hr7,hk7⟩
     have HR7:=Aia (hr7 HC0.out)
     have HK7:=Aia hk7
     clear hr7 hk7 ht
     go_wp2_with fail
     go_roundw
     case rel=>
      obtain⟨o',v',Y',h'⟩:=HR7.out
      refine⟨i+1,o',v',Y',by omega,by go_num,(show _ from fun j hj=>?_),(show D0 wc.heap.size rb o' (Bg ls (i+1)).c (stB (Bg ls (i+1)).stage) v' Y' w7 from ?_),(show Ae (fun b=>b=rb\/wc.heap.size<=b) wc w7 from hkp.out.step HK7.out (fun b hb _=>hb))⟩
      ·by_cases hji:j=i
       ·subst hji
        unfold B5
        rw[<-HTL.out,<-HCD.out]
        exact HC0.out
       ·exact hgd.out j (by omega)
      ·show D0 wc.heap.size rb o' (A8 (Bg ls i) (ls.getD i ByteArray.empty)).2.c (stB (A8 (Bg ls i) (ls.getD i ByteArray.empty)).2.stage) v' Y' w7
       rw[<-HTL.out]
       exact h'
     case measure=>simp[intOf];omega
   ·obtain rfl:i=L:=by omega
    have hL1:i<=1000:=HK.out i (by rw[HL.out];exact Nat.le_refl _) hgd.out
    have HMS:=Aia (Ol (L:=ls) (fun j hj=>hgd.out j (by rw[HL.out];exact hj)))
    have hlo:=(Km ls i (by rw[HL.out];exact Nat.le_refl _) hgd.out).1.lo
    obtain⟨st,hst⟩:∃st,st=Bg ls i:=⟨_,rfl⟩
    have HRD:Hid (D0 wc.heap.size rb o st.c (stB st.stage) v Y wr):=Aia (by rw[hst];exact hrd.out)
    have hsd:=N9 ls i (by rw[HL.out];exact Nat.le_refl _) hgd.out
    rw[<-hst]at hsd hlo
    have HCF:=Aia (HRD.out.conf hsd hL1)
    have h8:=H8.out
    have HRdF:Hid (∀r,(if st.stage<2 then (Bw,(1,(i:Int))) else if (B7 st.c).1≠0 then (Bw,B7 st.c) else (st.c,(0,-1)))=r->Cg s=r):=(show _ from by
     intro r hr
     unfold Cg
     rw[if_neg (by omega),<-HLS.out,HMS.out,if_neg (by simp),<-HL.out,<-hst]
     exact hr)
    obtain⟨ao2,cap2,hv⟩:=HRD.out.row.val
    rw[hv]at HCF HRD
    obtain⟨y0,y1,y2,y3,y4,y5,yf⟩:=Hg HRD.out.blk
    obtain⟨s1,s2,s3⟩:=Afr st.stage hlo
    obtain⟨sb,hsb⟩:∃sb,sb=stB st.stage:=⟨_,rfl⟩
    rw[<-hsb]at y5 s1 s2 s3
    obtain⟨d0,d1,d2,d3,d4⟩:=Br (C:=Bw) HXr.out
    obtain⟨g0,g1,gf⟩:=Au HYr.out
    have df:∀o,wr.frozen? ⟨q,o,none⟩=false:=fun o=>by have:=HXr.out;simp[World.frozen?,this]
    have HLO:=Aia hlo
    clear hst hsd hv hrd hgd hkp hsb h8 hlo hqr
    by_cases h2:st.stage<2
    ·have HR1:Hid (Cg s=(Bw,(1,(i:Int)))):=Aia (HRdF.out _ (by rw[if_pos h2]))
     by_cases k0:st.stage= -1
     ·have e1:sb.toList.isEmpty=true:=s1.trans (decide_eq_true k0)
      clear s1 s2 s3 h2 k0
      go_wp2_with fail
      refine bodyPost_ret (v:=.tuple #[.agg #[.int .i64 0,.int .i64 0,.int .i64 0,.int .i64 0,.slice none 0 0],.agg #[.int .i64 1,.int .i64 i]]) (by simp[d0,d1,d2,d3,d4,g0,g1,results,results9,go_sem,World.cell?_setCell_same,World.cell?_setCell_other]) rfl ?_
      rw[HR1.out]
      exact Sl (by decide) (Ig HBr.out HQ.out.1 HQ.out.2 _ _ _ _ _ _ _)
     have e1:sb.toList.isEmpty=false:=s1.trans (decide_eq_false k0)
     by_cases k1:st.stage=0
     ·have e2:(sb.toList== [119,105,110,100,111,119])=true:=s2.trans (decide_eq_true k1)
      clear s1 s2 s3 h2 k0 k1
      go_wp2_with fail
      refine bodyPost_ret (v:=.tuple #[.agg #[.int .i64 0,.int .i64 0,.int .i64 0,.int .i64 0,.slice none 0 0],.agg #[.int .i64 1,.int .i64 i]]) (by simp[d0,d1,d2,d3,d4,g0,g1,results,results9,go_sem,World.cell?_setCell_same,World.cell?_setCell_other]) rfl ?_
      rw[HR1.out]
      exact Sl (by decide) (Ig HBr.out HQ.out.1 HQ.out.2 _ _ _ _ _ _ _)
     have e2:(sb.toList== [119,105,110,100,111,119])=false:=s2.trans (decide_eq_false k1)
     have e3:(sb.toList== [99,121,99,108,101])=true:=s3.trans (decide_eq_true (by have:=HLO.out;omega))
     clear s1 s2 s3 h2 k0 k1
     go_wp2_with fail
     refine bodyPost_ret (v:=.tuple #[.agg #[.int .i64 0,.int .i64 0,.int .i64 0,.int .i64 0,.slice none 0 0],.agg #[.int .i64 1,.int .i64 i]]) (by simp[d0,d1,d2,d3,d4,g0,g1,results,results9,go_sem,World.cell?_setCell_same,World.cell?_setCell_other]) rfl ?_
     rw[HR1.out]
     exact Sl (by decide) (Ig HBr.out HQ.out.1 HQ.out.2 _ _ _ _ _ _ _)
    ·have e1:sb.toList.isEmpty=false:=s1.trans (decide_eq_false (by omega))
     have e2:(sb.toList== [119,105,110,100,111,119])=false:=s2.trans (decide_eq_false (by omega))
     have e3:(sb.toList== [99,121,99,108,101])=false:=s3.trans (decide_eq_false (by omega))
     have hC:=Aia (Sj _ st.c (.slice ao2 Y.length cap2) Y wr HCF.out (fun b hb=>hb.2))
     have H2:=Aia h2
     unfold A4 at hC
     obtain⟨⟨fc,fi⟩,hfc⟩:∃f,f=B7 st.c:=⟨_,rfl⟩
     rw[<-hfc]at hC HRdF
     have HFC:=Aia hfc
     unfold Q4 at hC
     clear s1 s2 s3 h2 hfc
     go_wp2_with fail
     refine hC.out.mono ?_
     rintro e w7 ⟨rfl,b7⟩
     have HX7:=Aia (Af b7 HXr.out (Aa HXr.out))
     have HY7:=Aia (Af b7 HYr.out (Aa HYr.out))
     have HB7:=Aia (HBr.out.trans (b7.mono HBr.out.size))
     have HRB7:=Aia (Af b7 HRD.out.blk (Aa HRD.out.blk))
     have HC7:=Aia ((HCF.out.below b7 (fun b hb=>hb.2)))
     have hs7:=b7.size
     clear y0 y1 y2 y3 y4 y5 yf b7 d0 d1 d2 d3 d4 g0 g1 gf df e1 e2 e3
     go_upto_region 18 with fail
     have hxf:=Ab w7 (.cells #[.int .i64 (fc:Int),.int .i64 fi] 32)
     have hbf:Below w7.heap.size w7 (w7.alloc (.cells #[.int .i64 (fc:Int),.int .i64 fi] 32)):=(Below.refl _ _).alloc (Nat.le_refl _) _
     generalize w7.alloc _=w8 at hxf hbf ⊢
     obtain⟨fb,hfb⟩:∃fb,fb=w7.heap.size:=⟨_,rfl⟩
     rw[<-hfb]at hxf ⊢
     have hfq:¬fb=q/\¬fb=q2:=by have:=Aa HX7.out;have:=Aa HY7.out;omega
     obtain⟨hf1,hf2⟩:=hfq
     have hf3:¬q=fb:=fun e=>hf1 e.symm
     have hf4:¬q2=fb:=fun e=>hf2 e.symm
     obtain⟨k0,k1,kf⟩:=Au hxf
     have HX8:=Aia (Af hbf HX7.out (Aa HX7.out))
     have HY8:=Aia (Af hbf HY7.out (Aa HY7.out))
     have HB8:=Aia (HB7.out.trans (hbf.mono HB7.out.size))
     have HRB8:=Aia (Af hbf HRB7.out (Aa HRB7.out))
     have HC8:=Aia ((HC7.out.below hbf (fun b hb=>by have:=hb.2;omega)))
     have hs8:=hbf.size
     obtain⟨d0,d1,d2,d3,d4⟩:=Br (C:=Bw) HX8.out
     obtain⟨g0,g1,gf⟩:=Au HY8.out
     have df:∀o,w8.frozen? ⟨q,o,none⟩=false:=fun o=>by have:=HX8.out;simp[World.frozen?,this]
     obtain⟨y0,y1,y2,y3,y4,y5,yf⟩:=Hg HRB8.out
     have hqr:=HQR.out
     have hr1:¬rb=q:=by omega
     have hr2:¬rb=q2:=by omega
     have hr3:¬q=rb:=by omega
     have hr4:¬q2=rb:=by omega
     clear hxf hbf hfb kf y5 yf hqr
     by_cases hz:(0:Int)<(fc:Int)
     ·have HR1:Hid (Cg s=(Bw,(fc,fi))):=Aia (HRdF.out _ (by rw[if_neg (show ¬st.stage<2 from by have:=H2.out;omega),if_pos (by show fc≠0;omega)]))
      have HF0:Hid (fc≠0):=Aia (by omega)
      go_upto_region 19 with fail
      go_region
      all_goals
       go_wp2_with fail
       refine bodyPost_ret (v:=.tuple #[.agg #[.int .i64 0,.int .i64 0,.int .i64 0,.int .i64 0,.slice none 0 0],.agg #[.int .i64 fc,.int .i64 fi]]) (by simp[d0,d1,d2,d3,d4,g0,g1,results,results9,go_sem,World.cell?_setCell_same,World.cell?_setCell_other]) rfl ?_
       rw[HR1.out]
       refine Sl HF0.out ?_
       exact(Ig HB8.out HQ.out.1 HQ.out.2 _ _ _ _ _ _ _).drew
     ·have hf0:fc=0:=by omega
      have hfi:fi= -1:=by
       have:=wR (C:=st.c) (by rw[<-HFC.out];exact hf0)
       rw[<-HFC.out]at this
       exact(Prod.mk.inj this).2
      subst hf0 hfi
      have HR1:Hid (Cg s=(st.c,(0,-1))):=Aia (HRdF.out _ (by rw[if_neg (show ¬st.stage<2 from by have:=H2.out;omega),if_neg (by simp)]))
      have HKX:Hid (∀W,Ae (fun x=>x=q\/x=q2) w8 W->Ez (fun b=>w.heap.size<=b/\b<W.heap.size) W st.c (.slice ao2 Y.length cap2) Y/\Below w.heap.size w W):=(show _ from fun W kW=>by
       have h1:=HQR.out
       have h2:=HB0.out.size
       have h3:=kW.size
       refine⟨(HC8.out.keep kW (fun b hb hs=>by have:=hb.1;have:=HST.out.lo;rcases hs with rfl|rfl<;>omega)).mono (fun b hb=>⟨by omega,by omega⟩),HB8.out.trans (kW.below HB8.out.size (fun k hk=>by rcases hk with rfl|rfl;exact HQ.out.1;exact HQ.out.2))⟩)
      go_upto_region 20 with fail
      go_region
      all_goals
       go_wp2_with fail
       refine bodyPost_ret (v:=.tuple #[.agg #[.int .i64 st.c.closed,.int .i64 st.c.opn,.int .i64 st.c.cycle,.int .i64 st.c.delay,.slice ao2 Y.length cap2],.agg #[.int .i64 0,.int .i64 (-1)]]) (by simp[d0,d1,d2,d3,d4,g0,g1,results,results9,go_sem,World.cell?_setCell_same,World.cell?_setCell_other]) rfl ?_
       rw[HR1.out]
       have hk:=HKX.out (Ui w8 q q2 (.int .i64 st.c.closed) (.int .i64 st.c.opn) (.int .i64 st.c.cycle) (.int .i64 st.c.delay) (.slice ao2 Y.length cap2) (.int .i64 0) (.int .i64 (-1))).drew (Uh _ _ _ _ _ _ _ _ _ _).drew
       exact⟨ao2,Y.length,cap2,Y,rfl,fun _=>hk.1,fun h=>absurd rfl h,hk.2⟩
theorem qI(n:Nat)(a:Int):Q5 (n,a) (n:Int) a=true:=decide_eq_true ⟨rfl,.inr rfl⟩
theorem Afz(P:List ByteArray):Ij P<=11:=by
 unfold Ij
 cases(List.range P.length).find? (fun k=>ptE P k != 0)with
 |none=>exact Nat.zero_le _
 |some k=>
  show ptE P k<=11
  unfold ptE
  split
  ·decide
  ·split<;>decide
theorem Aha{c:Prop}[Decidable c]{a b n:Nat}(ha:a<=n)(hb:b<=n):(if c then a else b)<=n:=by split<;>assumption
theorem Abt(ah:List ByteArray)(E:Ap):A0 ah E<=11:=by
 have:=Afz E.points
 unfold A0
 repeat(first|exact this|refine Aha ?_ ?_|decide)
theorem Aet(C:Al):(B7 C).1<=11:=by
 unfold B7
 split
 ·decide
 split
 ·decide
 unfold J7
 split
 ·show Gf C.ents _<=11
  unfold Gf
  split
  ·exact Abt _ _
  ·decide
 ·decide
theorem Aan(ls:List ByteArray):(Lr ls).1<=11:=by
 unfold Lr
 split
 ·show B5 ls _<=11
  unfold B5
  rcases Vc (Bg ls _) _ with h|h|h<;>rw[h]<;>decide
 ·decide
theorem Adb(s:ByteArray):(Cg s).2.1<=11:=by
 unfold Cg
 split
 ·decide
 split
 ·exact Aan _
 split
 ·exact(show(1:Nat)<=11 from by decide)
 split
 ·exact Aet _
 ·exact Nat.zero_le _
end Go.Proofs.YtikehilbmldadaaGreatDoor
