import Derived.Test.YtikehilbmldadaaGreatDoorV30
import Derived.Test.YtikehilbmldadaaGreatDoorV34
set_option maxHeartbeats 3000000
set_option maxRecDepth 100000
set_option linter.unusedVariables false
open Go.Proofs.Tryz Go.Proofs.YtikehilbmldadaaGreatDoor.Tryz
namespace Go.Proofs.YtikehilbmldadaaGreatDoor
open Go.RowKit
def Mv(sa:Nat->Addr)(B:Nat)(r:Al × (Nat × Int))(w:World)(e:Ending)(w':World):Prop:=
 ∃ao n cap u X,e=.returned (.tuple #[.agg (A4 r.1 (.slice ao n cap)),u])/\I7 sa w' u r.2/\(r.2.1=0->Ez (fun b=>B<=b/\b<w'.heap.size) w' r.1 (.slice ao n cap) X)/\(r.2.1≠0->Value.slice ao n cap=.slice none 0 0)/\Below w.heap.size w w'
theorem Jd(w:World)(q:Nat)(a b c d e:Value):Ae (· =q) w (((((w.setCell ⟨q,0,none⟩ a).setCell ⟨q,1,none⟩ b).setCell ⟨q,2,none⟩ c).setCell ⟨q,3,none⟩ d).setCell ⟨q,4,none⟩ e):=
 ((((Ai w q 0 a).setCell (p:=⟨q,1,none⟩) (fun _=>rfl) b).setCell (p:=⟨q,2,none⟩) (fun _=>rfl) c).setCell (p:=⟨q,3,none⟩) (fun _=>rfl) d).setCell (p:=⟨q,4,none⟩) (fun _=>rfl) e
theorem Hy{w w1:World}(h:Below w.heap.size w w1)(a b c d e:Value):Below w.heap.size w (((((w1.setCell ⟨w.heap.size,0,none⟩ a).setCell ⟨w.heap.size,1,none⟩ b).setCell ⟨w.heap.size,2,none⟩ c).setCell ⟨w.heap.size,3,none⟩ d).setCell ⟨w.heap.size,4,none⟩ e):=
 h.trans ((Jd w1 w.heap.size a b c d e).below h.size (fun k hk=>by rw[hk];exact Nat.le_refl _))
theorem vY{w w7:World}(h:Below w.heap.size w w7)(hq:w.heap.size<w7.heap.size)(i:Int)(ev a b c d e:Value):
  Lm (((((((w7.alloc (.cells #[.int .i64 i,ev] 156)).setCell ⟨w.heap.size,0,none⟩ a).setCell ⟨w.heap.size,1,none⟩ b).setCell ⟨w.heap.size,2,none⟩ c).setCell ⟨w.heap.size,3,none⟩ d).setCell ⟨w.heap.size,4,none⟩ e)) w7.heap.size i ev/\
   Below w.heap.size w (((((((w7.alloc (.cells #[.int .i64 i,ev] 156)).setCell ⟨w.heap.size,0,none⟩ a).setCell ⟨w.heap.size,1,none⟩ b).setCell ⟨w.heap.size,2,none⟩ c).setCell ⟨w.heap.size,3,none⟩ d).setCell ⟨w.heap.size,4,none⟩ e)):=
 ⟨(Jd _ w.heap.size a b c d e).get (Ab w7 _) (by show ¬w7.heap.size=w.heap.size;omega),Hy (h.alloc h.size _) a b c d e⟩
theorem Q3{w w7:World}(h:Below w.heap.size w w7)(i:Int)(ev a b c d e:Value):
  Lm ((((((w7.setCell ⟨w.heap.size,0,none⟩ a).setCell ⟨w.heap.size,1,none⟩ b).setCell ⟨w.heap.size,2,none⟩ c).setCell ⟨w.heap.size,3,none⟩ d).setCell ⟨w.heap.size,4,none⟩ e).alloc (.cells #[.int .i64 i,ev] 156)) w7.heap.size i ev/\
   Below w.heap.size w ((((((w7.setCell ⟨w.heap.size,0,none⟩ a).setCell ⟨w.heap.size,1,none⟩ b).setCell ⟨w.heap.size,2,none⟩ c).setCell ⟨w.heap.size,3,none⟩ d).setCell ⟨w.heap.size,4,none⟩ e).alloc (.cells #[.int .i64 i,ev] 156)):=by
 have hb:=Hy h a b c d e
 refine⟨?_,hb.alloc hb.size _⟩
 have:=Ab (((((w7.setCell ⟨w.heap.size,0,none⟩ a).setCell ⟨w.heap.size,1,none⟩ b).setCell ⟨w.heap.size,2,none⟩ c).setCell ⟨w.heap.size,3,none⟩ d).setCell ⟨w.heap.size,4,none⟩ e) (.cells #[.int .i64 i,ev] 156)
 simpa [Lm] using this
theorem P0{sa:Nat->Addr}{w:World}{fb:Nat}{i:Int}{c:Nat}(hF:Lm w fb i (errv sa c))(hi:0<=i)(hc:0<c):I7 sa w (.iface 154 (.pointer (some ⟨fb,0,none⟩))) (c,i):=.inr ⟨hi,hc,fb,rfl,hF⟩
theorem Me{sa:Nat->Addr}{B:Nat}{w w':World}{u:Value}{c:Nat}{i:Int}(hE:I7 sa w' u (c,i))(hc:c≠0)(hb:Below w.heap.size w w'):
  Mv sa B (Bw,(c,i)) w (.returned (.tuple #[.agg #[.int .i64 0,.int .i64 0,.int .i64 0,.int .i64 0,.slice none 0 0],u])) w':=
 ⟨none,0,0,u,[],rfl,hE,fun h=>absurd h hc,fun _=>rfl,hb⟩
theorem Ez.mono{R S:Nat->Prop}{w:World}{C:Al}{v:Value}{X:List Aw}(h:Ez R w C v X)(hd:∀b,R b->S b):Ez S w C v X:=
 ⟨⟨h.sl.row.mono hd,fun x hx=>by have:=h.sl.each x hx;exact⟨this.p.mono hd,this.g.mono hd,this.e.mono hd,this.f.mono hd,this.l.mono hd⟩⟩,h.eq,h.small,h.len⟩
theorem Vc(st:RdS)(s:ByteArray):(A8 st s).1=0\/(A8 st s).1=1\/(A8 st s).1=5:=by
 unfold A8
 split
 ·split
  ·exact .inr (.inl rfl)
  ·split
   ·exact .inr (.inr rfl)
   ·exact .inl rfl
 ·exact .inr (.inl rfl)
theorem Ka(s:ByteArray):(C4 s).size<=s.size:=by
 rw[<-gY]
 have h:=Lib.trimSuffix_le s.data.toList [10]
 rw[Array.length_toList]at h
 show(Lib.trimSuffix s.data.toList [10]).toArray.size<=s.data.size
 rw[List.size_toArray]
 exact h
theorem Hs(s:ByteArray):(Ao s).length<=s.size+1/\∀t∈Ao s,t.size<=s.size:=by
 unfold Ao
 split
 ·exact⟨Nat.zero_le _,fun t ht=>(by cases ht)⟩
 ·obtain⟨h1,h2⟩:=M8 10 (C4 s)
  have:=Ka s
  exact⟨by omega,fun t ht=>Nat.le_trans (h2 t ht) this⟩
theorem Uu(B:Nat)(sa:Nat->Addr)(s:ByteArray)(w:World)(hS:Fv B sa w)(hN:Ra B w)(hs:s.size<=100000)(hK:∀k,k<=(Ao s).length->(∀j,j<k->B5 (Ao s) j=0)->k<=1000):
  Calls Tryz.prog 36 #[.string s] w (Mv sa w.heap.size (Cg s) w):=by
 have HS:=Aia hS
 have HN:=Aia hN
 have HK:=Aia hK
 have hba:Below w.heap.size w (w.alloc (.cells (A4 Bw (.slice none 0 0)) 30)):=(Below.refl _ _).alloc (Nat.le_refl _) _
 have hxa:=Ab w (.cells (A4 Bw (.slice none 0 0)) 30)
 unfold A4 Bw at hxa hba
 clear hS hN hK
 by_cases h8:(8000:Int)<(s.size:Int)
 ·have HR:Hid (Cg s=(Bw,(2,-1))):=Aia (by unfold Cg;rw[if_pos (by omega)])
  go_enter func36,ntmps36
  go_upto_region 1 with fail
  generalize w.alloc _=w1 at hxa hba ⊢
  have e2:=(HS.out.on hba).all.2.1
  have HBA:=Aia hba
  obtain⟨c0,c1,c2,c3,c4⟩:=Br (C:=Bw) hxa
  have cf:∀o,w1.frozen? ⟨w.heap.size,o,none⟩=false:=fun o=>by simp[World.frozen?,hxa]
  have hg:0<B:=HS.out.nb 1 (by decide)
  have hB:=HS.out.top
  have hg1:¬0=w.heap.size:=by omega
  have hg2:¬w.heap.size=0:=by omega
  clear hba hg hB
  go_wp2_with fail
  go_region
  all_goals
   go_wp2_with fail
   refine bodyPost_ret (v:=.tuple #[.agg #[.int .i64 0,.int .i64 0,.int .i64 0,.int .i64 0,.slice none 0 0],.iface 372 (.pointer (some (sa 1)))]) (by simp[c0,c1,c2,c3,c4,results,results36,go_sem,World.cell?_setCell_same,World.cell?_setCell_other]) rfl ?_
   unfold Mv
   rw[HR.out]
   exact⟨none,0,0,errv sa 2,[],rfl,.inl ⟨rfl,rfl⟩,fun h=>absurd h (by decide),fun _=>rfl,by first|exact Hy HBA.out _ _ _ _ _|exact(Hy HBA.out _ _ _ _ _).drew⟩
 ·go_enter func36,ntmps36
  go_upto_region 1 with fail
  generalize w.alloc _=w1 at hxa hba ⊢
  have HBA:=Aia hba
  have HXA:=Aia hxa
  clear hba hxa
  go_upto_region 4 with fail
  have hbr:Below w1.heap.size w1 (w1.alloc (.cells (P9 Bw (.slice none 0 0) (-1)) 150)):=(Below.refl _ _).alloc (Nat.le_refl _) _
  have hxr:=Ab w1 (.cells (P9 Bw (.slice none 0 0) (-1)) 150)
  unfold P9 Bw at hxr hbr
  generalize w1.alloc _=w2 at hxr hbr ⊢
  obtain⟨rb,hrb⟩:∃rb,rb=w1.heap.size:=⟨_,rfl⟩
  have hqr:w.heap.size<rb:=by rw[hrb];exact Aa HXA.out
  have HB2:=Aia (HBA.out.trans (hbr.mono HBA.out.size))
  have HX2:=Aia (Af hbr HXA.out (Aa HXA.out))
  rw[<-hrb]at hxr ⊢
  have HR2:=Aia hxr
  obtain⟨ls,hls⟩:∃ls,ls=Ao s:=⟨_,rfl⟩
  rw[<-hls]at HK
  have HLS:=Aia hls
  obtain⟨L,hL⟩:∃L,L=ls.length:=⟨_,rfl⟩
  have HL:=Aia hL
  have hLb:(L:Int)<=100001:=by
   rw[hL,hls]
   have:=Hs s
   omega
  clear hbr hrb hxr HBA HXA hls hL
  obtain⟨zb,hzb⟩:∃zb,s.toList.isEmpty=zb:=⟨_,rfl⟩
  have HZB:=Aia hzb
  go_upto_if 18 with fail
  go_cut [5] (fun s5 wx=>∃la,s5=.slice la L L/\Hid (∀(i:Nat) x,ls[i]? =some x->∃lb,la=some ⟨lb,0,none⟩/\lb<wx.heap.size/\lb≠rb/\lb≠w.heap.size/\wx.cell? ⟨lb,i,none⟩=some (.string x))/\Hid (Below w2.heap.size w2 wx))
  case first=>
   cases zb
   rotate_left
   ·have h0:s.size=0:=Decidable.byContradiction (fun h=>by rw[K8 h]at hzb;cases hzb)
    have HE:Hid (ls= []):=Aia (by rw[HLS.out];unfold Ao;rw[if_pos h0])
    have HL0:Hid (L=0):=Aia (by rw[HL.out,HE.out];rfl)
    clear h0
    go_wp2_with fail
    go_meet
    refine⟨none,by rw[HL0.out],(show _ from fun i x hx=>by rw[HE.out]at hx;simp at hx),Below.refl _ _⟩
   ·have h0:¬s.size=0:=fun h=>by rw[Kq h]at hzb;cases hzb
    have hpl:ls=Bj 10 (C4 s):=by rw[HLS.out];unfold Ao;rw[if_neg h0]
    have hcs:=Ka s
    have HT:=Aia (Tryz.strings_TrimSuffix s ⟨#[10]⟩ w2 (by omega))
    rw[show(⟨(Lib.trimSuffix s.data.toList (⟨#[10]⟩:ByteArray).data.toList).toArray⟩:ByteArray)=C4 s from gY s]at HT
    have HSp:=Aia (Pm (C4 s) 10 w2 (by omega))
    rw[<-hpl,<-HL.out]at HSp
    have HLP:=Aia hpl
    clear h0 hpl hcs
    go_wp2_with fail
    refine HT.out.mono ?_
    rintro e w3 ⟨rfl,rfl⟩
    go_wp2_with fail
    refine HSp.out.mono ?_
    rintro e w4 ⟨rfl,rfl⟩
    go_wp2_with fail
    go_meet
    refine⟨some ⟨w3.heap.size,0,none⟩,rfl,(show _ from fun i x hx=>⟨w3.heap.size,rfl,by simp,by have:=Aa HR2.out;omega,by have:=Aa HR2.out;omega,?_⟩),(Below.refl _ _).alloc (Nat.le_refl _) _⟩
    rw[cell_of_row _ _ i _ _ _ (Ab w3 (.cells (ls.map Value.string).toArray 9))]
    simp[hx]
  case rest=>
  obtain⟨la,rfl,hcl,hbc⟩:=hcut
  have HR0:Hid (wc.heap[rb]? =some (.cells (P9 Bw (.slice none 0 0) (-1)) 150)):=Aia (Af hbc.out HR2.out (Aa HR2.out))
  have HX0:=Aia (Af hbc.out HX2.out (Aa HX2.out))
  have HB0:=Aia (HB2.out.trans (hbc.out.mono HB2.out.size))
  have HST:=Aia (tB wc rb HR0.out)
  have HCL:=Aia hcl.out
  clear hbc HB2 HX2 HR2 HR0 hcl hzb
  go_wp2_with fail
  go_loopw [24] (fun s24 wr=>∃(i:Nat) (o:Nat->Option Nat) (v:Value) (Y:List Aw),i<=L/\s24=.int .i64 i/\Hid (∀j,j<i->B5 ls j=0)/\Hid (Ei wc.heap.size rb o (Bg ls i).c (Bg ls i).stage v Y wr)/\Hid (Ae (fun b=>b=rb\/wc.heap.size<=b) wc wr)) (fun s24 _=>L-(intOf s24).toNat)
  case atStart=>exact⟨0,_,_,_,Nat.zero_le _,rfl,(show _ from fun j hj=>by omega),HST,Ae.refl _ _⟩
  case round=>
   obtain⟨i,o,v,Y,hi,rfl,hgd,hrd,hkp⟩:=hrel
   have hqb:=Aa HX0.out
   have HXr:=Aia (hkp.out.get HX0.out (fun hs=>by rcases hs with hs|hs<;>omega))
   have HBr:Hid (Below w.heap.size w wr):=Aia (HB0.out.trans (hkp.out.below HB0.out.size (fun b hb=>by have:=HB0.out.size;rcases hb with hb|hb<;>omega)))
   obtain⟨c0,c1,c2,c3,c4⟩:=Br (C:=Bw) HXr.out
   have cf:∀o,wr.frozen? ⟨w.heap.size,o,none⟩=false:=fun o=>by have:=HXr.out;simp[World.frozen?,this]
   by_cases hlt:i<L
   ·have hil:i<ls.length:=by rw[<-HL.out];exact hlt
    obtain⟨lb,rfl,hlb,hlr,hlq,hlc⟩:=HCL.out i ls[i] (List.getElem?_eq_getElem hil)
    have ht:wr.cell? ⟨lb,i,none⟩=some (.string (ls.getD i ByteArray.empty)):=by
     rw[hkp.out.cell (p:=⟨lb,i,none⟩) hlb (fun hs=>by rcases hs with hs|hs;exact hlr hs;have hs:wc.heap.size<=lb:=hs;omega),List.getD_eq_getElem?_getD,List.getElem?_eq_getElem hil]
     exact hlc
    have hsz:(ls.getD i ByteArray.empty).size<=100000:=by
     rw[List.getD_eq_getElem?_getD,List.getElem?_eq_getElem hil]
     have:=(Hs s).2 ls[i] (by rw[<-HLS.out];exact List.getElem_mem hil)
     show ls[i].size<=100000
     omega
    have hBrb:B<=rb:=by have:=HS.out.top;omega
    have HLn:=Aia (Adp B sa wc.heap.size rb o (Bg ls i) v Y (ls.getD i ByteArray.empty) wr (HS.out.on HBr.out) (HN.out.below HBr.out HS.out.top) hBrb hrd.out (Km ls i (by omega) hgd.out).1 ((N9 ls i (by omega) hgd.out).few (by omega) hrd.out.eq) hsz)
    obtain⟨tl,htl⟩:∃tl,tl=ls.getD i ByteArray.empty:=⟨_,rfl⟩
    rw[<-htl]at ht HLn
    have HTL:=Aia htl
    have HIL:=Aia hil
    unfold N4 at HLn
    clear hsz hlb hlr hlq hlc htl hil hBrb
    rcases Vc (Bg ls i) tl with hc|hc|hc
    ·rw[hc]at HLn
     have e0:errv sa 0=.nilIface:=rfl
     rw[e0]at HLn
     have HC:=Aia hc
     clear hc
     go_wp2_with fail
     refine HLn.out.mono ?_
     rintro e w7 ⟨rfl,hr7,hk7⟩
     have HR7:=Aia (hr7 trivial)
     have HK7:=Aia hk7
     clear hr7 hk7 c0 c1 c2 c3 c4 cf ht
     go_wp2_with fail
     go_roundw
     case rel=>
      obtain⟨o',v',Y',h'⟩:=HR7.out
      refine⟨i+1,o',v',Y',by omega,by go_num,(show _ from fun j hj=>?_),(show Ei wc.heap.size rb o' (Bg ls (i+1)).c (Bg ls (i+1)).stage v' Y' w7 from ?_),(show Ae (fun b=>b=rb\/wc.heap.size<=b) wc w7 from hkp.out.step HK7.out (fun b hb _=>hb))⟩
      ·by_cases hji:j=i
       ·subst hji
        unfold B5
        rw[<-HTL.out]
        exact HC.out
       ·exact hgd.out j (by omega)
      ·show Ei wc.heap.size rb o' (A8 (Bg ls i) (ls.getD i ByteArray.empty)).2.c (A8 (Bg ls i) (ls.getD i ByteArray.empty)).2.stage v' Y' w7
       rw[<-HTL.out]
       exact h'
     case measure=>simp[intOf];omega
    ·rw[hc]at HLn
     have HRF:Hid (Cg s=(Bw,(1,(i:Int)))):=Aia (by
      have hh:B5 ls i=1:=by unfold B5;rw[<-HTL.out];exact hc
      have hf:=Na (L:=ls) (k:=i) HIL.out (by rw[hh];decide) hgd.out
      rw[hh]at hf
      unfold Cg
      rw[if_neg (by omega),<-HLS.out,hf,if_pos (by simp)])
     have e0:errv sa 1=.iface 372 (.pointer (some (sa 0))):=rfl
     rw[e0]at HLn
     clear hc
     go_wp2_with fail
     refine HLn.out.mono ?_
     rintro e w7 ⟨rfl,-,hk7⟩
     have HX7:=Aia (hk7.get HXr.out (fun hs=>by rcases hs with hs|hs<;>omega))
     have HB7:Hid (Below w.heap.size w w7):=Aia (HBr.out.trans (hk7.below HBr.out.size (fun b hb=>by have:=HB0.out.size;rcases hb with hb|hb<;>omega)))
     obtain⟨d0,d1,d2,d3,d4⟩:=Br (C:=Bw) HX7.out
     have df:∀o,w7.frozen? ⟨w.heap.size,o,none⟩=false:=fun o=>by have:=HX7.out;simp[World.frozen?,this]
     have hq7:w.heap.size<w7.heap.size:=Aa HX7.out
     have HF:=Aia (Q3 HB7.out (i:Int) (errv sa 1) (.int .i64 0) (.int .i64 0) (.int .i64 0) (.int .i64 0) (.slice none 0 0))
     have hne7:¬w.heap.size=w7.heap.size:=by omega
     have hne8:¬w7.heap.size=w.heap.size:=by omega
     clear hk7 c0 c1 c2 c3 c4 cf ht
     go_wp2_with fail
     refine bodyPost_ret (v:=.tuple #[.agg #[.int .i64 0,.int .i64 0,.int .i64 0,.int .i64 0,.slice none 0 0],.iface 154 (.pointer (some ⟨w7.heap.size,0,none⟩))]) (by simp[d0,d1,d2,d3,d4,hq7,results,results36,go_sem,World.cell?_setCell_same,World.cell?_setCell_other]) rfl ?_
     rw[HRF.out]
     exact Me (P0 HF.out.1 (by omega) (by decide)) (by decide) HF.out.2
    ·rw[hc]at HLn
     have HRF:Hid (Cg s=(Bw,(5,(i:Int)))):=Aia (by
      have hh:B5 ls i=5:=by unfold B5;rw[<-HTL.out];exact hc
      have hf:=Na (L:=ls) (k:=i) HIL.out (by rw[hh];decide) hgd.out
      rw[hh]at hf
      unfold Cg
      rw[if_neg (by omega),<-HLS.out,hf,if_pos (by simp)])
     have e0:errv sa 5=.iface 372 (.pointer (some (sa 4))):=rfl
     rw[e0]at HLn
     clear hc
     go_wp2_with fail
     refine HLn.out.mono ?_
     rintro e w7 ⟨rfl,-,hk7⟩
     have HX7:=Aia (hk7.get HXr.out (fun hs=>by rcases hs with hs|hs<;>omega))
     have HB7:Hid (Below w.heap.size w w7):=Aia (HBr.out.trans (hk7.below HBr.out.size (fun b hb=>by have:=HB0.out.size;rcases hb with hb|hb<;>omega)))
     obtain⟨d0,d1,d2,d3,d4⟩:=Br (C:=Bw) HX7.out
     have df:∀o,w7.frozen? ⟨w.heap.size,o,none⟩=false:=fun o=>by have:=HX7.out;simp[World.frozen?,this]
     have hq7:w.heap.size<w7.heap.size:=Aa HX7.out
     have HF:=Aia (Q3 HB7.out (i:Int) (errv sa 5) (.int .i64 0) (.int .i64 0) (.int .i64 0) (.int .i64 0) (.slice none 0 0))
     have hne7:¬w.heap.size=w7.heap.size:=by omega
     have hne8:¬w7.heap.size=w.heap.size:=by omega
     clear hk7 c0 c1 c2 c3 c4 cf ht
     go_wp2_with fail
     refine bodyPost_ret (v:=.tuple #[.agg #[.int .i64 0,.int .i64 0,.int .i64 0,.int .i64 0,.slice none 0 0],.iface 154 (.pointer (some ⟨w7.heap.size,0,none⟩))]) (by simp[d0,d1,d2,d3,d4,hq7,results,results36,go_sem,World.cell?_setCell_same,World.cell?_setCell_other]) rfl ?_
     rw[HRF.out]
     exact Me (P0 HF.out.1 (by omega) (by decide)) (by decide) HF.out.2
   ·obtain rfl:i=L:=by omega
    have hL1:i<=1000:=HK.out i (by rw[HL.out];exact Nat.le_refl _) hgd.out
    have HMS:=Aia (Ol (L:=ls) (fun j hj=>hgd.out j (by rw[HL.out];exact hj)))
    obtain⟨st,hst⟩:∃st,st=Bg ls i:=⟨_,rfl⟩
    have HRD:Hid (Ei wc.heap.size rb o st.c st.stage v Y wr):=Aia (by rw[hst];exact hrd.out)
    have hsd:=N9 ls i (by rw[HL.out];exact Nat.le_refl _) hgd.out
    rw[<-hst]at hsd
    have HCF:=Aia (HRD.out.conf hsd hL1)
    have HRdF:Hid (∀r,(if st.stage<2 then (Bw,(1,(i:Int))) else if (B7 st.c).1≠0 then (Bw,B7 st.c) else (st.c,(0,-1)))=r->Cg s=r):=(show _ from by
     intro r hr
     unfold Cg
     rw[if_neg (by omega),<-HLS.out,HMS.out,if_neg (by simp),<-HL.out,<-hst]
     exact hr)
    obtain⟨ao,cap,hv⟩:=HRD.out.row.val
    rw[hv]at HCF HRD
    obtain⟨y0,y1,y2,y3,y4,y5,yf⟩:=Ek HRD.out.blk
    have hqr2:¬w.heap.size=rb:=by omega
    have hqr3:¬rb=w.heap.size:=by omega
    clear hst hsd hv hrd hgd hkp
    by_cases h2:st.stage<2
    ·have HR1:Hid (Cg s=(Bw,(1,(i:Int)))):=Aia (HRdF.out _ (by rw[if_pos h2]))
     have e1:=(HS.out.on HBr.out).all.1
     have hgt:1<B:=HS.out.nb 0 (by decide)
     have hBt:=HS.out.top
     have hg1:¬1=w.heap.size:=by omega
     have hg2:¬w.heap.size=1:=by omega
     have hq7:w.heap.size<wr.heap.size:=Aa HXr.out
     have hgr:1<wr.heap.size:=by omega
     have hne7:¬w.heap.size=wr.heap.size:=by omega
     have hne8:¬wr.heap.size=w.heap.size:=by omega
     have hne9:¬1=wr.heap.size:=by omega
     have F1:=Aia (Q3 HBr.out (i:Int) (errv sa 1) (.int .i64 0) (.int .i64 0) (.int .i64 0) (.int .i64 0) (.slice none 0 0))
     have F2:=Aia (vY HBr.out hq7 (i:Int) (errv sa 1) (.int .i64 0) (.int .i64 0) (.int .i64 0) (.int .i64 0) (.slice none 0 0))
     clear hgt hBt
     go_wp2_with fail
     go_region
     all_goals
      go_wp2_with fail
      refine bodyPost_ret (v:=.tuple #[.agg #[.int .i64 0,.int .i64 0,.int .i64 0,.int .i64 0,.slice none 0 0],.iface 154 (.pointer (some ⟨wr.heap.size,0,none⟩))]) (by simp[c0,c1,c2,c3,c4,hq7,results,results36,go_sem,World.cell?_setCell_same,World.cell?_setCell_other]) rfl ?_
      rw[HR1.out]
      first
       |exact Me (P0 (show Lm (World.drew _) _ _ _ from F1.out.1) (by omega) (by decide)) (by decide) F1.out.2.drew
       |exact Me (P0 (show Lm (World.drew _) _ _ _ from F2.out.1) (by omega) (by decide)) (by decide) F2.out.2.drew
    ·have hC:=Aia (Yk B sa _ st.c (.slice ao Y.length cap) Y wr (HS.out.on HBr.out) HCF.out (fun b hb=>hb.2))
     have H2:=Aia h2
     unfold A4 at hC
     go_wp2_with fail
     refine hC.out.mono ?_
     rintro e w7 ⟨u,rfl,hu,b7⟩
     have HX7:=Aia (Af b7 HXr.out (Aa HXr.out))
     have HB7:=Aia (HBr.out.trans (b7.mono HBr.out.size))
     have hsz7:=b7.size
     obtain⟨d0,d1,d2,d3,d4⟩:=Br (C:=Bw) HX7.out
     have df:∀o,w7.frozen? ⟨w.heap.size,o,none⟩=false:=fun o=>by have:=HX7.out;simp[World.frozen?,this]
     have HRB7:=Aia (Af b7 HRD.out.blk (Aa HRD.out.blk))
     obtain⟨x0,x1,x2,x3,x4,x5,xf⟩:=Ek HRB7.out
     have HC7:=Aia ((HCF.out.below b7 (fun b hb=>hb.2)))
     clear c0 c1 c2 c3 c4 cf y0 y1 y2 y3 y4 y5 yf b7 h2
     obtain⟨⟨fc,fi⟩,hfc⟩:∃f,f=B7 st.c:=⟨_,rfl⟩
     rw[<-hfc]at hu HRdF
     clear hfc
     have HU:=Aia hu
     rcases hu with⟨hfi,rfl⟩|⟨h0i,hc0,fb,rfl,hF⟩
     ·obtain rfl:fi= -1:=hfi
      cases fc with
      |zero=>
       have HR1:Hid (Cg s=(st.c,(0,-1))):=Aia (HRdF.out _ (by rw[if_neg (show ¬st.stage<2 from by have:=H2.out;omega),if_neg (by simp)]))
       have HK9:=Aia (Jd w7 w.heap.size (.int .i64 st.c.closed) (.int .i64 st.c.opn) (.int .i64 st.c.cycle) (.int .i64 st.c.delay) (.slice ao Y.length cap))
       have HBX:=Aia (Hy HB7.out (.int .i64 st.c.closed) (.int .i64 st.c.opn) (.int .i64 st.c.cycle) (.int .i64 st.c.delay) (.slice ao Y.length cap))
       have hwb:=HB0.out.size
       have HCX:=Aia ((HC7.out.keep HK9.out (fun b hb hs=>by have h1:b=w.heap.size:=hs;have:=Aa HX0.out;omega)).mono (S:=fun b=>w.heap.size<=b/\b<(((((w7.setCell ⟨w.heap.size,0,none⟩ (.int .i64 st.c.closed)).setCell ⟨w.heap.size,1,none⟩ (.int .i64 st.c.opn)).setCell ⟨w.heap.size,2,none⟩ (.int .i64 st.c.cycle)).setCell ⟨w.heap.size,3,none⟩ (.int .i64 st.c.delay)).setCell ⟨w.heap.size,4,none⟩ (.slice ao Y.length cap)).heap.size) (fun b hb=>⟨by omega,by have h1:=HBr.out.size;have h2:=HK9.out.size;have h3:=hsz7;omega⟩))
       clear HU HRdF hwb
       have e0:errv sa 0=.nilIface:=rfl
       rw[e0]
       go_wp2_with fail
       refine bodyPost_ret (v:=.tuple #[.agg #[.int .i64 st.c.closed,.int .i64 st.c.opn,.int .i64 st.c.cycle,.int .i64 st.c.delay,.slice ao Y.length cap],.nilIface]) (by simp[d0,d1,d2,d3,d4,results,results36,go_sem,World.cell?_setCell_same,World.cell?_setCell_other]) rfl ?_
       rw[HR1.out]
       exact⟨ao,Y.length,cap,.nilIface,Y,rfl,.inl ⟨rfl,rfl⟩,fun _=>HCX.out,fun h=>absurd rfl h,HBX.out⟩
      |succ k=>
       have HR1:Hid (Cg s=(Bw,(k+1,-1))):=Aia (HRdF.out _ (by rw[if_neg (show ¬st.stage<2 from by have:=H2.out;omega),if_pos (by simp)]))
       have HEI:=Aia (HU.out.keep (Jd w7 w.heap.size (.int .i64 0) (.int .i64 0) (.int .i64 0) (.int .i64 0) (.slice none 0 0)) (fun fb h=>by cases h))
       have HBX:=Aia (Hy HB7.out (.int .i64 0) (.int .i64 0) (.int .i64 0) (.int .i64 0) (.slice none 0 0))
       clear x0 x1 x2 x3 x4 x5 xf HU HRdF
       have e0:errv sa (k+1)=.iface 372 (.pointer (some (sa k))):=rfl
       rw[e0]at HEI ⊢
       go_wp2_with fail
       refine bodyPost_ret (v:=.tuple #[.agg #[.int .i64 0,.int .i64 0,.int .i64 0,.int .i64 0,.slice none 0 0],.iface 372 (.pointer (some (sa k)))]) (by simp[d0,d1,d2,d3,d4,results,results36,go_sem,World.cell?_setCell_same,World.cell?_setCell_other]) rfl ?_
       rw[HR1.out]
       exact Me HEI.out (by omega) HBX.out
     ·have HR1:Hid (Cg s=(Bw,(fc,fi))):=Aia (HRdF.out _ (by rw[if_neg (show ¬st.stage<2 from by have:=H2.out;omega),if_pos (by show fc≠0;have h:0<fc:=hc0;omega)]))
      have HEI:=Aia (HU.out.keep (Jd w7 w.heap.size (.int .i64 0) (.int .i64 0) (.int .i64 0) (.int .i64 0) (.slice none 0 0)) (fun fb' h hs=>by
       have h1:fb'=w.heap.size:=hs
       have h2:fb=fb':=by injection h with _ h;injection h with h;injection h with h;injection h
       have h3:=HX7.out
       rw[<-h1,<-h2,hF]at h3
       have h4:=Option.some.inj h3
       injection h4 with _ h5
       exact absurd h5 (by decide)))
      have HBX:=Aia (Hy HB7.out (.int .i64 0) (.int .i64 0) (.int .i64 0) (.int .i64 0) (.slice none 0 0))
      have HC0:Hid (fc≠0):=Aia (by have h:0<fc:=hc0;omega)
      clear x0 x1 x2 x3 x4 x5 xf HU HRdF hF h0i hc0
      go_wp2_with fail
      refine bodyPost_ret (v:=.tuple #[.agg #[.int .i64 0,.int .i64 0,.int .i64 0,.int .i64 0,.slice none 0 0],.iface 154 (.pointer (some ⟨fb,0,none⟩))]) (by simp[d0,d1,d2,d3,d4,results,results36,go_sem,World.cell?_setCell_same,World.cell?_setCell_other]) rfl ?_
      rw[HR1.out]
      exact Me HEI.out HC0.out HBX.out
theorem Abh{st:RdS}{s:ByteArray}(h:(A8 st s).1=0):4<=s.size:=by
 obtain⟨hf,n,hr,e⟩:=Vb (st:=st) (s:=s) (st':=(A8 st s).2) (Prod.ext h rfl)
 obtain⟨p,hp,ts,hl,hh,hlen,_⟩:=pG hf
 have hj:=X4 s
 rw[hl]at hj
 have hall:∀p∈Dj,3<=p.1.size/\1<=p.2.2.size:=by decide
 obtain⟨h3,h1⟩:=hall p hp
 have h2:=congrArg List.length hj
 rw[List.map_cons,Ng 32 _ (by intro e;have:=congrArg List.length e;simp at this;rw[this]at hlen;simp at hlen;omega),List.length_append,List.length_cons]at h2
 have e1:p.1.data.toList.length=p.1.size:=by rw[Array.length_toList];rfl
 have e2:s.data.toList.length=s.size:=by rw[Array.length_toList];rfl
 omega
theorem Yc(ls:List ByteArray):∀k,k<=ls.length->(∀j,j<k->B5 ls j=0)->5*k<=((ls.take k).flatMap (fun s=>s.data.toList++ [10])).length
 |0,_,_=>Nat.zero_le _
 |k+1,hk,h=>by
  have ih:=Yc ls k (by omega) (fun j hj=>h j (by omega))
  have h0:=h k (by omega)
  unfold B5 at h0
  have hg:=Abh h0
  rw[List.getD_eq_getElem?_getD,List.getElem?_eq_getElem (by omega)]at hg
  have hg:4<=(ls[k]'(by omega)).size:=hg
  rw[List.take_succ_eq_append_getElem (by omega),List.flatMap_append,List.flatMap_singleton,List.length_append,List.length_append]
  have e1:(ls[k]'(by omega)).data.toList.length=(ls[k]'(by omega)).size:=by rw[Array.length_toList];rfl
  have e3:([10]:List UInt8).length=1:=rfl
  omega
theorem Agb(ls:List ByteArray)(k:Nat):((ls.take k).flatMap (fun s=>s.data.toList++ [10])).length<=(ls.flatMap (fun s=>s.data.toList++ [10])).length:=by
 conv=>rhs;rw[<-List.take_append_drop k ls]
 rw[List.flatMap_append,List.length_append]
 omega
theorem Ok{s:ByteArray}{k:Nat}(hk:k<=(Ao s).length)(h:∀j,j<k->B5 (Ao s) j=0):5*k<=s.size+1:=by
 have h1:=Yc _ k hk h
 have h2:=Agb (Ao s) k
 by_cases hne:Ao s= []
 ·rw[hne]at hk;simp at hk;omega
 ·have hcut:Ao s=Bj 10 (C4 s):=by
   unfold Ao at hne ⊢
   split at hne
   ·exact absurd rfl hne
   ·next h0=>rw[if_neg h0]
  have e2:=Nm 10 ((Ao s).map (·.data.toList)) (by simpa using hne)
  rw[List.flatMap_map]at e2
  have e5:((Ao s).flatMap (fun s=>s.data.toList++ [10])).length=(C4 s).size+1:=by
   rw[e2,hcut,El,Mm,List.length_append,Array.length_toList]
   rfl
  have h3:=Ka s
  omega
theorem wB{L:List Ap}(h:(J7 L).1=0):J7 L=(0,-1):=by
 unfold J7 at h ⊢
 split
 ·next i hi=>
  exfalso
  have h1:=List.find?_some hi
  rw[hi]at h
  have:Gf L i=0:=h
  rw[this]at h1
  simp at h1
 ·rfl
theorem wT{C:Al}(h:(B7 C).1=0):B7 C=(0,-1):=by
 unfold B7 at h ⊢
 split at h
 ·cases h
 ·next h1=>
  rw[if_neg h1]
  split at h
  ·cases h
  ·next h2=>rw[if_neg h2];exact wB h
theorem Uv{s:ByteArray}(h:(Cg s).2.1=0):∃C,Cg s=(C,(0,-1))/\B7 C=(0,-1)/\Df C=(C4 s).data.toList++ [10]:=by
 unfold Cg at h ⊢
 split at h
 ·cases h
 next h8=>
 rw[if_neg h8]
 split at h
 ·next hl=>exact absurd h hl
 next hl=>
 rw[if_neg hl]
 split at h
 ·cases h
 next hst=>
 rw[if_neg hst]
 split at h
 ·next hc=>exact absurd h hc
 next hc=>
 rw[if_neg hc]
 have hl0:(Lr (Ao s)).1=0:=by omega
 exact⟨_,rfl,wT (by omega),yC h8 hl0 hst⟩
theorem Aeq(s:ByteArray):(C4 s).data.toList++ [10]=s.data.toList\/(C4 s).data.toList++ [10]=s.data.toList++ [10]:=by
 unfold C4
 have hsz:s.data.toList.length=s.size:=by rw[Array.length_toList];rfl
 by_cases h:s.data.toList.getLast? =some 10
 ·left
  have hne:s.data.toList≠ []:=by intro e;rw[e]at h;cases h
  have hg:s.data.toList.getLast hne=10:=by rw[List.getLast?_eq_some_getLast hne]at h;exact Option.some.inj h
  have hd:=List.dropLast_concat_getLast hne
  rw[hg]at hd
  rw[if_pos h,ByteArray.data_extract,Array.toList_extract,List.extract_eq_take_drop,List.drop_zero,Nat.sub_zero]
  rw[List.dropLast_eq_take,hsz]at hd
  exact hd
 ·right
  rw[if_neg h]
def Ahy(i:Nat):Nat:=[9,9,9,99999,99999,0,9,0,0,0,0,0,0,0].getD i 0
theorem Gt{s:ByteArray}{i k:Nat}(h:Cp s=some i)(hk:k<14):(s.toList==(Dx.getD k (ByteArray.empty,0)).1.data.toList)=decide (k=i):=by
 have hw:=Uq h
 have hl:=Ma h
 rw[ByteArray.toList_eq,hw]
 have hall:∀i k:Fin 14,((Dx.getD i.1 (ByteArray.empty,0)).1.data.toList==(Dx.getD k.1 (ByteArray.empty,0)).1.data.toList)=decide (k.1=i.1):=by decide
 exact hall ⟨i,hl⟩ ⟨k,hk⟩
theorem Gs{s:ByteArray}{k:Nat}(h:Cp s=none)(hk:k<14):(s.toList==(Dx.getD k (ByteArray.empty,0)).1.data.toList)=false:=by
 unfold Cp at h
 rw[List.findIdx?_eq_none_iff]at h
 have hl:k<Dx.length:=hk
 have:=h Dx[k] (List.getElem_mem hl)
 rw[ByteArray.toList_eq,List.getD_eq_getElem?_getD,List.getElem?_eq_getElem hl]
 show(s.data.toList==Dx[k].1.data.toList)=false
 rw[Bool.eq_false_iff]at this ⊢
 intro hh
 apply this
 rw[beq_iff_eq]at hh ⊢
 exact hh.symm
theorem E9{s:ByteArray}{i:Nat}(h:Cp s=some i):(s.toList== [98,101,103,105,110])=decide (0=i)/\(s.toList== [115,116,111,112])=decide (1=i)/\(s.toList== [114,101,112,111,114,116])=decide (2=i)/\(s.toList== [116,105,99,107])=decide (3=i)/\(s.toList== [99,117,116])=decide (4=i)/\(s.toList== [98,111,111,116])=decide (5=i)/\(s.toList== [115,116,97,116,117,115])=decide (6=i)/\(s.toList== [110,111,119])=decide (7=i)/\(s.toList== [107,105,99,107,115])=decide (8=i)/\(s.toList== [116,111,116,97,108])=decide (9=i)/\(s.toList== [115,116,97,116,101])=decide (10=i)/\(s.toList== [99,97,117,115,101])=decide (11=i)/\(s.toList== [108,111,103])=decide (12=i)/\(s.toList== [99,111,110,102,105,103])=decide (13=i):=
 ⟨Gt h (k:=0) (by decide),Gt h (k:=1) (by decide),Gt h (k:=2) (by decide),Gt h (k:=3) (by decide),Gt h (k:=4) (by decide),Gt h (k:=5) (by decide),Gt h (k:=6) (by decide),Gt h (k:=7) (by decide),Gt h (k:=8) (by decide),Gt h (k:=9) (by decide),Gt h (k:=10) (by decide),Gt h (k:=11) (by decide),Gt h (k:=12) (by decide),Gt h (k:=13) (by decide)⟩
theorem Acy(s:ByteArray)(w:World)(h:Cp s=some 0):Calls Tryz.prog 12 #[.string s] w fun e w'=>e=.returned (.tuple #[.int .i64 1,.int .i64 9,.bool true])/\w=w':=by
 obtain⟨f0,f1,f2,f3,f4,f5,f6,f7,f8,f9,f10,f11,f12,f13⟩:_=true/\_=false/\_=false/\_=false/\_=false/\_=false/\_=false/\_=false/\_=false/\_=false/\_=false/\_=false/\_=false/\_=false:=E9 h
 clear h
 go_enter func12,ntmps12
 go_wp2_with fail
 go_ret3
 exact⟨rfl,rfl⟩
theorem Acx(s:ByteArray)(w:World)(h:Cp s=some 1):Calls Tryz.prog 12 #[.string s] w fun e w'=>e=.returned (.tuple #[.int .i64 1,.int .i64 9,.bool true])/\w=w':=by
 obtain⟨f0,f1,f2,f3,f4,f5,f6,f7,f8,f9,f10,f11,f12,f13⟩:_=false/\_=true/\_=false/\_=false/\_=false/\_=false/\_=false/\_=false/\_=false/\_=false/\_=false/\_=false/\_=false/\_=false:=E9 h
 clear h
 go_enter func12,ntmps12
 go_wp2_with fail
 go_ret3
 exact⟨rfl,rfl⟩
theorem Acw(s:ByteArray)(w:World)(h:Cp s=some 2):Calls Tryz.prog 12 #[.string s] w fun e w'=>e=.returned (.tuple #[.int .i64 2,.int .i64 9,.bool true])/\w=w':=by
 obtain⟨f0,f1,f2,f3,f4,f5,f6,f7,f8,f9,f10,f11,f12,f13⟩:_=false/\_=false/\_=true/\_=false/\_=false/\_=false/\_=false/\_=false/\_=false/\_=false/\_=false/\_=false/\_=false/\_=false:=E9 h
 clear h
 go_enter func12,ntmps12
 go_wp2_with fail
 go_ret3
 exact⟨rfl,rfl⟩
theorem Acv(s:ByteArray)(w:World)(h:Cp s=some 3):Calls Tryz.prog 12 #[.string s] w fun e w'=>e=.returned (.tuple #[.int .i64 1,.int .i64 99999,.bool true])/\w=w':=by
 obtain⟨f0,f1,f2,f3,f4,f5,f6,f7,f8,f9,f10,f11,f12,f13⟩:_=false/\_=false/\_=false/\_=true/\_=false/\_=false/\_=false/\_=false/\_=false/\_=false/\_=false/\_=false/\_=false/\_=false:=E9 h
 clear h
 go_enter func12,ntmps12
 go_wp2_with fail
 go_ret3
 exact⟨rfl,rfl⟩
theorem Acu(s:ByteArray)(w:World)(h:Cp s=some 4):Calls Tryz.prog 12 #[.string s] w fun e w'=>e=.returned (.tuple #[.int .i64 1,.int .i64 99999,.bool true])/\w=w':=by
 obtain⟨f0,f1,f2,f3,f4,f5,f6,f7,f8,f9,f10,f11,f12,f13⟩:_=false/\_=false/\_=false/\_=false/\_=true/\_=false/\_=false/\_=false/\_=false/\_=false/\_=false/\_=false/\_=false/\_=false:=E9 h
 clear h
 go_enter func12,ntmps12
 go_wp2_with fail
 go_ret3
 exact⟨rfl,rfl⟩
theorem Acs(s:ByteArray)(w:World)(h:Cp s=some 5):Calls Tryz.prog 12 #[.string s] w fun e w'=>e=.returned (.tuple #[.int .i64 0,.int .i64 0,.bool true])/\w=w':=by
 obtain⟨f0,f1,f2,f3,f4,f5,f6,f7,f8,f9,f10,f11,f12,f13⟩:_=false/\_=false/\_=false/\_=false/\_=false/\_=true/\_=false/\_=false/\_=false/\_=false/\_=false/\_=false/\_=false/\_=false:=E9 h
 clear h
 go_enter func12,ntmps12
 go_wp2_with fail
 go_ret3
 exact⟨rfl,rfl⟩
theorem Acr(s:ByteArray)(w:World)(h:Cp s=some 6):Calls Tryz.prog 12 #[.string s] w fun e w'=>e=.returned (.tuple #[.int .i64 1,.int .i64 9,.bool true])/\w=w':=by
 obtain⟨f0,f1,f2,f3,f4,f5,f6,f7,f8,f9,f10,f11,f12,f13⟩:_=false/\_=false/\_=false/\_=false/\_=false/\_=false/\_=true/\_=false/\_=false/\_=false/\_=false/\_=false/\_=false/\_=false:=E9 h
 clear h
 go_enter func12,ntmps12
 go_wp2_with fail
 go_ret3
 exact⟨rfl,rfl⟩
theorem Acq(s:ByteArray)(w:World)(h:Cp s=some 7):Calls Tryz.prog 12 #[.string s] w fun e w'=>e=.returned (.tuple #[.int .i64 0,.int .i64 0,.bool true])/\w=w':=by
 obtain⟨f0,f1,f2,f3,f4,f5,f6,f7,f8,f9,f10,f11,f12,f13⟩:_=false/\_=false/\_=false/\_=false/\_=false/\_=false/\_=false/\_=true/\_=false/\_=false/\_=false/\_=false/\_=false/\_=false:=E9 h
 clear h
 go_enter func12,ntmps12
 go_wp2_with fail
 go_ret3
 exact⟨rfl,rfl⟩
theorem Acp(s:ByteArray)(w:World)(h:Cp s=some 8):Calls Tryz.prog 12 #[.string s] w fun e w'=>e=.returned (.tuple #[.int .i64 0,.int .i64 0,.bool true])/\w=w':=by
 obtain⟨f0,f1,f2,f3,f4,f5,f6,f7,f8,f9,f10,f11,f12,f13⟩:_=false/\_=false/\_=false/\_=false/\_=false/\_=false/\_=false/\_=false/\_=true/\_=false/\_=false/\_=false/\_=false/\_=false:=E9 h
 clear h
 go_enter func12,ntmps12
 go_wp2_with fail
 go_ret3
 exact⟨rfl,rfl⟩
theorem Aco(s:ByteArray)(w:World)(h:Cp s=some 9):Calls Tryz.prog 12 #[.string s] w fun e w'=>e=.returned (.tuple #[.int .i64 0,.int .i64 0,.bool true])/\w=w':=by
 obtain⟨f0,f1,f2,f3,f4,f5,f6,f7,f8,f9,f10,f11,f12,f13⟩:_=false/\_=false/\_=false/\_=false/\_=false/\_=false/\_=false/\_=false/\_=false/\_=true/\_=false/\_=false/\_=false/\_=false:=E9 h
 clear h
 go_enter func12,ntmps12
 go_wp2_with fail
 go_ret3
 exact⟨rfl,rfl⟩
theorem zD(s:ByteArray)(w:World)(h:Cp s=some 10):Calls Tryz.prog 12 #[.string s] w fun e w'=>e=.returned (.tuple #[.int .i64 0,.int .i64 0,.bool true])/\w=w':=by
 obtain⟨f0,f1,f2,f3,f4,f5,f6,f7,f8,f9,f10,f11,f12,f13⟩:_=false/\_=false/\_=false/\_=false/\_=false/\_=false/\_=false/\_=false/\_=false/\_=false/\_=true/\_=false/\_=false/\_=false:=E9 h
 clear h
 go_enter func12,ntmps12
 go_wp2_with fail
 go_ret3
 exact⟨rfl,rfl⟩
theorem zC(s:ByteArray)(w:World)(h:Cp s=some 11):Calls Tryz.prog 12 #[.string s] w fun e w'=>e=.returned (.tuple #[.int .i64 0,.int .i64 0,.bool true])/\w=w':=by
 obtain⟨f0,f1,f2,f3,f4,f5,f6,f7,f8,f9,f10,f11,f12,f13⟩:_=false/\_=false/\_=false/\_=false/\_=false/\_=false/\_=false/\_=false/\_=false/\_=false/\_=false/\_=true/\_=false/\_=false:=E9 h
 clear h
 go_enter func12,ntmps12
 go_wp2_with fail
 go_ret3
 exact⟨rfl,rfl⟩
theorem zB(s:ByteArray)(w:World)(h:Cp s=some 12):Calls Tryz.prog 12 #[.string s] w fun e w'=>e=.returned (.tuple #[.int .i64 0,.int .i64 0,.bool true])/\w=w':=by
 obtain⟨f0,f1,f2,f3,f4,f5,f6,f7,f8,f9,f10,f11,f12,f13⟩:_=false/\_=false/\_=false/\_=false/\_=false/\_=false/\_=false/\_=false/\_=false/\_=false/\_=false/\_=false/\_=true/\_=false:=E9 h
 clear h
 go_enter func12,ntmps12
 go_wp2_with fail
 go_ret3
 exact⟨rfl,rfl⟩
theorem zA(s:ByteArray)(w:World)(h:Cp s=some 13):Calls Tryz.prog 12 #[.string s] w fun e w'=>e=.returned (.tuple #[.int .i64 0,.int .i64 0,.bool true])/\w=w':=by
 obtain⟨f0,f1,f2,f3,f4,f5,f6,f7,f8,f9,f10,f11,f12,f13⟩:_=false/\_=false/\_=false/\_=false/\_=false/\_=false/\_=false/\_=false/\_=false/\_=false/\_=false/\_=false/\_=false/\_=true:=E9 h
 clear h
 go_enter func12,ntmps12
 go_wp2_with fail
 go_ret3
 exact⟨rfl,rfl⟩
theorem Tc(s:ByteArray)(w:World)(h:Cp s=none):Calls Tryz.prog 12 #[.string s] w fun e w'=>e=.returned (.tuple #[.int .i64 0,.int .i64 0,.bool false])/\w=w':=by
 have f0:(s.toList== [98,101,103,105,110])=false:=by have:=Gs h (k:=0) (by decide);exact this
 have f1:(s.toList== [115,116,111,112])=false:=by have:=Gs h (k:=1) (by decide);exact this
 have f2:(s.toList== [114,101,112,111,114,116])=false:=by have:=Gs h (k:=2) (by decide);exact this
 have f3:(s.toList== [116,105,99,107])=false:=by have:=Gs h (k:=3) (by decide);exact this
 have f4:(s.toList== [99,117,116])=false:=by have:=Gs h (k:=4) (by decide);exact this
 have f5:(s.toList== [98,111,111,116])=false:=by have:=Gs h (k:=5) (by decide);exact this
 have f6:(s.toList== [115,116,97,116,117,115])=false:=by have:=Gs h (k:=6) (by decide);exact this
 have f7:(s.toList== [110,111,119])=false:=by have:=Gs h (k:=7) (by decide);exact this
 have f8:(s.toList== [107,105,99,107,115])=false:=by have:=Gs h (k:=8) (by decide);exact this
 have f9:(s.toList== [116,111,116,97,108])=false:=by have:=Gs h (k:=9) (by decide);exact this
 have f10:(s.toList== [115,116,97,116,101])=false:=by have:=Gs h (k:=10) (by decide);exact this
 have f11:(s.toList== [99,97,117,115,101])=false:=by have:=Gs h (k:=11) (by decide);exact this
 have f12:(s.toList== [108,111,103])=false:=by have:=Gs h (k:=12) (by decide);exact this
 have f13:(s.toList== [99,111,110,102,105,103])=false:=by have:=Gs h (k:=13) (by decide);exact this
 clear h
 go_enter func12,ntmps12
 go_wp2_with fail
 go_ret3
 exact⟨rfl,rfl⟩
theorem Tb(s:ByteArray)(w:World){i:Nat}(h:Cp s=some i):Calls Tryz.prog 12 #[.string s] w fun e w'=>e=.returned (.tuple #[.int .i64 (Gm i),.int .i64 (Ahy i),.bool true])/\w=w':=by
 have hl:=Ma h
 match i,hl with
 |0,_=>exact Acy s w h
 |1,_=>exact Acx s w h
 |2,_=>exact Acw s w h
 |3,_=>exact Acv s w h
 |4,_=>exact Acu s w h
 |5,_=>exact Acs s w h
 |6,_=>exact Acr s w h
 |7,_=>exact Acq s w h
 |8,_=>exact Acp s w h
 |9,_=>exact Aco s w h
 |10,_=>exact zD s w h
 |11,_=>exact zC s w h
 |12,_=>exact zB s w h
 |13,_=>exact zA s w h
end Go.Proofs.YtikehilbmldadaaGreatDoor
