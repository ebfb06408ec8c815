import Derived.Test.YtikehilbmldadaaGreatDoorV44
import Derived.Test.YtikehilbmldadaaGreatDoorV50
import Derived.Test.YtikehilbmldadaaGreatDoorCards
import Derived.Test.YtikehilbmldadaaGreatDoorTie
import Derived.SevenTiedAt
set_option maxHeartbeats 8000000
set_option maxRecDepth 100000
set_option linter.unusedVariables false
open Go.Proofs.Tryz Go.Proofs.YtikehilbmldadaaGreatDoor.Tryz
namespace Go.Proofs.YtikehilbmldadaaGreatDoor
open Go.RowKit
def ShortL(s:ByteArray):Prop:=s.size<=40/\(s.size<=8\/s.data.toList.take 4≠ [116,105,99,107])
theorem short_tks{l:List ByteArray}(h:∀s∈l,ShortL s):Ip l<=l.length*999:=by
 induction l with
 |nil=>simp[Ip]
 |cons s l ih=>
  have h1:=sC (h s List.mem_cons_self).2
  have h2:=ih (fun t ht=>h t (List.mem_cons_of_mem _ ht))
  simp only[Ip,List.map_cons,List.sum_cons,List.length_cons]at h2 ⊢
  omega
structure OwnTx (w w1:World) (l:List ByteArray) (i:Nat) (v:Value) (wr:World):Prop where
 own:wr.ownsRow w1.heap.size 9 1 v i (Ad (l.take i))
 bel:Below w1.heap.size w1 wr
 sh:∀j (hj:j<l.length),j<i->ShortL l[j]
theorem OwnTx.next{w w1 wr W w':World}{l:List ByteArray}{i:Nat}{v v':Value}(h:OwnTx w w1 l i v wr)(hi:i<l.length)(hs:ShortL l[i])(hb:Below wr.heap.size wr W)(ho:w'.ownsRow w1.heap.size 9 1 v' (i+1) (Ad (l.take i)++Ad [l[i]]))(hg:W.grownBy w' v.ownBlock):OwnTx w w1 l (i+1) v' w':=by
 have hW:W.ownsRow w1.heap.size 9 1 v i (Ad (l.take i)):=Dy h.own (Ak hb) (fun _ _ _ h=>h)
 have kg:Ae (fun b=>some b=v.ownBlock) W w':=Ae.of_grown hg
 have hbW:=h.bel.trans (hb.mono h.bel.size)
 refine⟨?_,hbW.trans (kg.below hbW.size (fun b hb=>(hW.lt b hb.symm).1)),fun j hj hji=>?_⟩
 ·rw[List.take_succ_eq_append_getElem hi,M1];exact ho
 ·by_cases e:j=i
  ·subst e;exact hs
  ·exact h.sh j hj (by omega)
theorem first4(s:ByteArray)(h:4<=s.size):((s.extract 0 4).toList== [116,105,99,107])=decide (s.data.toList.take 4= [116,105,99,107]):=by
 rw[ByteArray.toList_eq,Lib.extract_data]
 simp only[List.drop_zero,Nat.sub_zero]
 rw[Bool.eq_iff_iff]
 simp
theorem scriptReads_any(B:Nat)(sa:Nat->Addr)(config:ByteArray)(l:List ByteArray)(v:Value)(w:World)(hS:Dp B sa w)(hE:∀k,k<11->w.cell? (sa k)=some (.string (Ib (k+1))))(hN:Ra B w)(hT:J4 w.heap.size w)(hl:Ay (· <w.heap.size) w v 1 (Ad l) l.length):
  Calls Tryz.prog 3 #[.string config,v] w fun e w'=>e=.returned (.bool true)/\Below w.heap.size w w':=by
 obtain⟨i0,hi0,hz0,hz1,hz2⟩:=info_parts infoStr
 obtain⟨sao,scap,rfl⟩:=hl.val
 have HHe:=Aia (Abc B sa w hS hE hN hT)
 have HS:=Aia hS
 have HE:=Aia hE
 have HN:=Aia hN
 have HT:=Aia hT
 have HL:=Aia hl
 obtain⟨n,hn⟩:∃n,n=l.length:=⟨_,rfl⟩
 have HLn:=Aia hn
 rw[<-hn]
 have HC:Hid (∀k (hk:k<l.length),∃lb lo,sao=some ⟨lb,lo,none⟩/\lb<w.heap.size/\w.cell? ⟨lb,lo+k,none⟩=some (.string l[k])):=Aia (fun k hk=>by
  obtain⟨lb,lo,e1,e2,e3,e4⟩:=Eh hl (by omega)
  exact⟨lb,lo,e1,e3,e4 k hk⟩)
 clear hS hE hN hT hl hn
 by_cases h2:(2000:Int)<(config.size:Int)
 ·go_enter func3,ntmps3
  go_wp2_with fail
  refine HHe.out.mono ?_
  rintro e w1 ⟨rfl,b1⟩
  go_wp2_with fail
  go_ret
  exact⟨rfl,b1⟩
 ·have h2':(config.size:Int)<=2000:=by omega
  by_cases h3:(110:Int)<(n:Int)
  ·go_enter func3,ntmps3
   go_wp2_with fail
   refine HHe.out.mono ?_
   rintro e w1 ⟨rfl,b1⟩
   go_wp2_with fail
   go_ret
   exact⟨rfl,b1⟩
  ·have h3':(n:Int)<=110:=by omega
   clear h2 h3
   go_enter func3,ntmps3
   go_wp2_with fail
   refine HHe.out.mono ?_
   rintro e w1 ⟨rfl,b1⟩
   have HB1:=Aia b1
   have HST0:Hid (OwnTx w w1 l 0 (.slice none 0 0) w1):=Aia (⟨World.ownsRow_nil _ _ _ _,Below.refl _ _,fun j hj h=>by omega⟩)
   clear b1 HHe
   go_wp2_with fail
   go_loopw [6,7] (fun s6 s7 wr=>∃(i:Nat) (a1:Option Addr) (j1:Nat),i<=n/\s7=.int .i64 i/\s6=.slice a1 i j1/\Hid (OwnTx w w1 l i (.slice a1 i j1) wr)) (fun _ s7 _=>n-(intOf s7).toNat)
   case atStart=>exact⟨0,none,0,Nat.zero_le _,rfl,rfl,HST0⟩
   case round=>
    obtain⟨i,a1,j1,hi,rfl,rfl,hst⟩:=hrel
    clear HST0
    by_cases hlt:i<n
    ·have hil:i<l.length:=by have:=HLn.out;omega
     have hltI:(i:Int)<(n:Int):=by omega
     obtain⟨lb,lo,rfl,hlb,hcell⟩:=HC.out i hil
     have hbr:=HB1.out.trans (hst.out.bel.mono HB1.out.size)
     have hcr:wr.cell? ⟨lb,lo+i,none⟩=some (.string l[i]):=by rw[hbr.cell (p:=⟨lb,lo+i,none⟩) hlb];exact hcell
     have HNx:=Aia (fun(hs:ShortL l[i]) (W w':World) v' hb ho hg=>hst.out.next (W:=W) (w':=w') (v':=v') hil hs hb ho hg)
     have HLay:=Aia (fun(y:Obj)=>And.intro (hst.out.own.alloc y) (show w1.heap.size<=(wr.alloc y).heap.size by rw[World.size_alloc];have:=hst.out.bel.size;omega))
     have HBR:=Aia hbr
     have h63:Hid (i+1<=maxLen):=Aia (by unfold maxLen;omega)
     have hby:Hid ((i+1)*16<=140737488355328):=Aia (by omega)
     obtain⟨x,hx⟩:∃x,x=l[i]:=⟨_,rfl⟩
     rw[<-hx]at hcr HNx
     clear hst hbr hcell hx
     by_cases h40:(40:Int)<(x.size:Int)
     ·go_wp2_with fail
      go_ret
      exact⟨rfl,HBR.out⟩
     ·by_cases h8:(8:Int)<(x.size:Int)
      ·have h4:=first4 x (by omega)
       by_cases ht:x.data.toList.take 4= [116,105,99,107]
       ·rw[decide_eq_true ht]at h4
        clear ht
        go_wp2_with fail
        go_ret
        exact⟨rfl,HBR.out⟩
       ·rw[decide_eq_false ht]at h4
        have HSH:=Aia (show ShortL x from⟨by omega,.inr ht⟩)
        clear ht
        go_wp2_with (at_builtin;go_must (refine A9 rfl (.tmp 60) (.tmp 65) 22 rfl w1.heap.size 9 i0 _ 1 16 underlying22 hi0 hz0 hz1 hz2 rfl (by decide) _ i _ rfl (HLay.out _).1 ⟨wr.heap.size,0,none⟩ 1 1 (Ad [x]) rfl rfl (Av _ (Ad [x]) _) (Kb _) h63.out hby.out (HLay.out _).2 ?_;intro a2 k2 w4 ho hg;have nx:=Aia (HNx.out HSH.out _ w4 _ ((Below.refl _ _).alloc (Nat.le_refl _) _) ho hg);clear ho hg))
        go_wp2_with fail
        go_roundw
        case rel=>exact⟨i+1,a2,k2,hlt,by go_num,rfl,nx⟩
        case measure=>simp[intOf];omega
      ·have HSH:=Aia (show ShortL x from⟨by omega,.inl (by omega)⟩)
       go_wp2_with (at_builtin;go_must (refine A9 rfl (.tmp 60) (.tmp 65) 22 rfl w1.heap.size 9 i0 _ 1 16 underlying22 hi0 hz0 hz1 hz2 rfl (by decide) _ i _ rfl (HLay.out _).1 ⟨wr.heap.size,0,none⟩ 1 1 (Ad [x]) rfl rfl (Av _ (Ad [x]) _) (Kb _) h63.out hby.out (HLay.out _).2 ?_;intro a2 k2 w4 ho hg;have nx:=Aia (HNx.out HSH.out _ w4 _ ((Below.refl _ _).alloc (Nat.le_refl _) _) ho hg);clear ho hg))
       go_wp2_with fail
       go_roundw
       case rel=>exact⟨i+1,a2,k2,hlt,by go_num,rfl,nx⟩
       case measure=>simp[intOf];omega
    ·obtain rfl:i=n:=by omega
     have hlI:¬(i:Int)<(i:Int):=by omega
     have hio:=HLn.out
     have hown:=hst.out.own
     rw[show l.take i=l from List.take_of_length_le (by omega)]at hown
     have hsl:Ay (· <wr.heap.size) wr (.slice a1 i j1) 1 (Ad l) l.length:=by have:=(E7 hown).here;rw[hio]at this;rw[hio];exact this
     have hbr:=HB1.out.trans (hst.out.bel.mono HB1.out.size)
     have HSh:Hid (∀s∈l,ShortL s):=Aia (fun s hs=>by
      obtain⟨j,hj,rfl⟩:=List.mem_iff_getElem.1 hs
      exact hst.out.sh j hj (by omega))
     have HSL:=Aia hsl
     have HBR:=Aia hbr
     have HSr:=Aia (HS.out.below hbr)
     have HNr:=Aia (HN.out.below hbr HS.out.top)
     have HCo:=Aia (fun W=>Ws config W (by omega) (fun k hk h=>by have:=Ok hk h;omega))
     have HLE:=Aia (Adb config)
     obtain⟨⟨C,fc,fi⟩,hr⟩:∃r,r=Cg config:=⟨_,rfl⟩
     have HR:=Aia hr
     rw[<-hr]at HCo HLE
     unfold Rb at HCo
     have HLE:Hid (fc<=11):=HLE
     have h23:config.size<=4000:=by omega
     have H23:=Aia h23
     have hlc:=hst.out.bel.size
     clear hst hown hsl hbr hr h23 hio
     by_cases h100:100<i
     ·have HRun:=Aia (sD B sa config i a1 j1 wr HSr.out h100)
      have h100I:(100:Int)<(i:Int):=by omega
      rw[show errv sa 2=.iface 372 (.pointer (some (sa 1)))from rfl]at HRun
      clear h100
      go_wp2_with fail
      refine HRun.out.mono ?_
      rintro e w2 ⟨rfl,b2⟩
      have HB2:=Aia (HBR.out.trans (b2.mono HBR.out.size))
      clear b2 HRun
      go_wp2_with fail
      refine(HCo.out w2).mono ?_
      rintro e w3 ⟨bo,m,cap2,X2,rfl,-,-,b3⟩
      unfold A4 Q4
      go_upto_region 13 with fail
      have hb4:Below w3.heap.size w3 (w3.alloc (.cells (A4 C (.slice bo m cap2)) 30)):=(Below.refl _ _).alloc (Nat.le_refl _) _
      obtain⟨w4,hw4⟩:∃w4,w4=w3.alloc (.cells (A4 C (.slice bo m cap2)) 30):=⟨_,rfl⟩
      rw[<-hw4]at hb4
      have hx5:=Ab w4 (.cells #[.int .i64 (fc:Int),.int .i64 fi] 32)
      have hb5:Below w4.heap.size w4 (w4.alloc (.cells #[.int .i64 (fc:Int),.int .i64 fi] 32)):=(Below.refl _ _).alloc (Nat.le_refl _) _
      have hs4:w4.heap.size=w3.heap.size+1:=by rw[hw4];simp
      unfold A4 at hw4
      rw[<-hw4]
      generalize w4.alloc _=w5 at hx5 hb5 ⊢
      rw[hs4]at hx5
      obtain⟨fb,hfb⟩:∃fb,fb=w3.heap.size+1:=⟨_,rfl⟩
      rw[<-hfb]at hx5 ⊢
      have HX5:=Aia hx5
      have hlo:w2.heap.size<=fb:=by have:=b3.size;omega
      have HLO:=Aia hlo
      have HB25:=Aia (b3.trans ((hb4.trans (hb5.mono hb4.size)).mono b3.size))
      obtain⟨k0,k1,kf⟩:=Au hx5
      clear b3 hb4 hx5 hb5 hw4 hs4 hfb hlo
      have HBa:=Aia (Pr 2 w5)
      go_wp2_with fail
      refine HBa.out.mono ?_
      rintro e w6 ⟨rfl,b6⟩
      have hx6:=Af b6 HX5.out (Aa HX5.out)
      obtain⟨m0,m1,mf⟩:=Au hx6
      have kk:=(Ai w6 fb 0 (.int .i64 2)).setCell (p:=⟨fb,1,none⟩) (fun _=>rfl) (.int .i64 (-1))
      have hx7:((w6.setCell ⟨fb,0,none⟩ (.int .i64 2)).setCell ⟨fb,1,none⟩ (.int .i64 (-1))).heap[fb]? =some (.cells #[.int .i64 2,.int .i64 (-1)] 32):=by rw[Am _ (Am _ hx6)];rfl
      have hb26:=HB2.out.trans ((HB25.out.trans (b6.mono HB25.out.size)).mono HB2.out.size)
      have hb7:Below w.heap.size w ((w6.setCell ⟨fb,0,none⟩ (.int .i64 2)).setCell ⟨fb,1,none⟩ (.int .i64 (-1))):=hb26.trans (kk.below hb26.size (fun b hb=>by rw[hb];exact Nat.le_trans HB2.out.size HLO.out))
      have HX7:=Aia hx7
      have HB7:=Aia hb7
      clear b6 hx6 kk hx7 hb26 hb7 k0 k1 kf HBa
      go_upto_region 15 with fail
      generalize World.setCell _ _ _=w7 at HX7 HB7 ⊢
      clear m0 m1 mf
      obtain⟨k0,k1,kf⟩:=Au HX7.out
      have HF:=Aia (Rt B sa (errv sa 2) (2,-1) (by decide) 2 (-1) w7 (HS.out.below HB7.out) (.inl ⟨rfl,rfl⟩))
      rw[show Q5 (2,-1) 2 (-1)=true from by decide,show errv sa 2=.iface 372 (.pointer (some (sa 1)))from rfl]at HF
      go_wp2_with fail
      refine HF.out.mono ?_
      rintro e w8 ⟨rfl,b8⟩
      have HB8:=Aia (HB7.out.trans (b8.mono HB7.out.size))
      clear b8
      go_wp2_with fail
      go_ret
      exact⟨rfl,HB8.out⟩
     ·have h100I:¬(100:Int)<(i:Int):=by omega
      by_cases hf0:fc=0
      ·subst hf0
       obtain⟨C2,hr2,-,-⟩:=Uv (s:=config) (by rw[<-HR.out])
       obtain⟨rfl,rfl⟩:C=C2/\fi= -1:=by
        have:=HR.out.trans hr2
        exact⟨(Prod.mk.inj this).1,(Prod.mk.inj (Prod.mk.inj this).2).2⟩
       have hsz:=HLn.out
       have htks:=short_tks HSh.out
       have HRun0:=Uo B sa config l (.slice a1 i j1) (· <wr.heap.size) wr HSr.out (fun k hk=>by
        have h1:=HE.out k hk
        rw[HBR.out.cell (World.block_lt_of_cell? w (sa k) h1)];exact h1) HNr.out (fun W hW=>HT.out W (HBR.out.trans (hW.mono HBR.out.size))) HSL.out (fun b hb=>hb) H23.out (fun s hs=>by have:=(HSh.out s hs).1;omega) (by omega) (by omega) HR.out.symm
       have hans:=Xk (Jp C) l (kp0 C)
       have HAn:=Aia (fun k (hk:k<l.length)=>Ab7 (M0:=kp0 C) (zE C) k hk)
       obtain⟨ans,ha⟩:∃ans,ans=(Dw (Jp C) (kp0 C) l).1:=⟨_,rfl⟩
       rw[<-ha]at HRun0 hans HAn
       have HRun:Hid (Calls Tryz.prog 8 #[.string config,.slice a1 i j1] wr fun e w'=>∃ao cap,e=.returned (.tuple #[.slice ao i cap,.nilIface])/\(∀k (hk:k<l.length),∃ob oo A,ao=some ⟨ob,oo,none⟩/\ob<w'.heap.size/\w'.cell? ⟨ob,oo+k,none⟩=some (.string A)/\A.toList.isEmpty=false/\(∀W:ByteArray,W.data.toList=l[k].data.toList.takeWhile (fun c=>c != 32)->Cp W=none->A=Ib 1))/\Below wr.heap.size wr w'):=HRun0.mono (fun e w' hh=>by
        obtain⟨ao,cap,he,ho,hb⟩:=hh
        refine⟨ao,cap,by rw[he,<-hsz],fun k hk=>?_,hb⟩
        have hs:=ho.slOf
        rw[<-hans]at hs
        obtain⟨ob,oo,e1,e2,e3,e4⟩:=Eh hs (by omega)
        obtain⟨A,h1,h2,h3⟩:=HAn.out k hk
        have hka:k<ans.length:=by omega
        have h5:=e4 k hka
        rw[List.getElem?_eq_getElem hka]at h1
        rw[Option.some.inj h1]at h5
        exact⟨ob,oo,A,e1,e3,h5,h2,h3⟩)
       clear hr2 hsz htks HRun0 hans HAn ha h100 hlc HR
       go_wp2_with fail
       refine HRun.out.mono ?_
       rintro e w2 ⟨ao,cap,rfl,hcells,b2⟩
       have HB2:=Aia (HBR.out.trans (b2.mono HBR.out.size))
       have HCE:=Aia hcells
       clear b2 HRun hcells
       go_wp2_with fail
       refine(HCo.out w2).mono ?_
       rintro e w3 ⟨bo,m,cap2,X2,rfl,-,-,b3⟩
       unfold A4 Q4
       go_upto_region 13 with fail
       have hb4:Below w3.heap.size w3 (w3.alloc (.cells (A4 C (.slice bo m cap2)) 30)):=(Below.refl _ _).alloc (Nat.le_refl _) _
       obtain⟨w4,hw4⟩:∃w4,w4=w3.alloc (.cells (A4 C (.slice bo m cap2)) 30):=⟨_,rfl⟩
       rw[<-hw4]at hb4
       have hx5:=Ab w4 (.cells #[.int .i64 (0:Int),.int .i64 (-1)] 32)
       have hb5:Below w4.heap.size w4 (w4.alloc (.cells #[.int .i64 (0:Int),.int .i64 (-1)] 32)):=(Below.refl _ _).alloc (Nat.le_refl _) _
       have hs4:w4.heap.size=w3.heap.size+1:=by rw[hw4];simp
       unfold A4 at hw4
       rw[<-hw4]
       generalize w4.alloc _=w5 at hx5 hb5 ⊢
       rw[hs4]at hx5
       obtain⟨fb,hfb⟩:∃fb,fb=w3.heap.size+1:=⟨_,rfl⟩
       rw[<-hfb]at hx5 ⊢
       have HX5:=Aia hx5
       have hlo:w2.heap.size<=fb:=by have:=b3.size;omega
       have HLO:=Aia hlo
       have HB25:=Aia (b3.trans ((hb4.trans (hb5.mono hb4.size)).mono b3.size))
       obtain⟨k0,k1,kf⟩:=Au hx5
       clear b3 hb4 hx5 hb5 hw4 hs4 hfb hlo
       have HB5:=Aia (HB2.out.trans (HB25.out.mono HB2.out.size))
       have HBf:=Aia (Below.refl w5.heap.size w5)
       go_wp2_with fail
       go_loopw [12] (fun s12 wx=>∃k:Nat,k<=i/\s12=.int .i64 k/\Hid (Below w5.heap.size w5 wx)) (fun s12 _=>i-(intOf s12).toNat)
       case atStart=>exact⟨0,Nat.zero_le _,rfl,HBf⟩
       case round=>
        obtain⟨k,hk,rfl,hbx⟩:=hrel
        clear HBf
        obtain⟨wx,rfl⟩:∃wx,wx=wr:=⟨_,rfl⟩
        by_cases hlt:k<i
        ·have hkl:k<l.length:=by have:=HLn.out;omega
         have hltI:(k:Int)<(i:Int):=by omega
         obtain⟨lb,lo,rfl,hlb,hcell⟩:=HC.out k hkl
         obtain⟨ob,oo,A,rfl,hob,ho2,hAe,hAw⟩:=HCE.out k hkl
         have hwx:=HB5.out.trans (hbx.out.mono HB5.out.size)
         have hcr:wx.cell? ⟨lb,lo+k,none⟩=some (.string l[k]):=by rw[hwx.cell (p:=⟨lb,lo+k,none⟩) hlb];exact hcell
         have hor:wx.cell? ⟨ob,oo+k,none⟩=some (.string A):=by
          rw[hbx.out.cell (p:=⟨ob,oo+k,none⟩) (Nat.lt_of_lt_of_le hob HB25.out.size),HB25.out.cell (p:=⟨ob,oo+k,none⟩) hob];exact ho2
         obtain⟨x,hx⟩:∃x,x=l[k]:=⟨_,rfl⟩
         rw[<-hx]at hcr hAw
         have HAW:=Aia hAw
         have HWX:=Aia hwx
         have hxs:=(HSh.out x (by rw[hx];exact List.getElem_mem hkl)).1
         have HW0:=Aia (gS x)
         clear hcell ho2 hAw hwx hx hob hlb hkl k0 k1 kf
         go_wp2_with fail
         go_loopw [13,14] (fun s13 s14 wy=>∃(j:Nat) (W:ByteArray),j<=x.size/\W.size<=j/\s13=.string W/\s14=.int .i64 j/\wy=wx/\Hid (We x j W)) (fun _ s14 _=>x.size-(intOf s14).toNat)
         case atStart=>exact⟨0,⟨#[]⟩,Nat.zero_le _,Nat.le_refl _,rfl,rfl,rfl,HW0⟩
         case round=>
          obtain⟨j,W,hj,hWs,rfl,rfl,rfl,hW⟩:=hrel
          clear HW0
          by_cases hjl:j<x.size
          ·have hjI:(j:Int)<(x.size:Int):=by omega
           by_cases hc:x[j]=32
           ·have hcb:((x[j].toNat:Int) != 32)=false:=by rw[hc];rfl
            have hwe:=T9 hW.out (.inr ⟨hjl,hc⟩)
            clear hc
            cases hi:Cp W with
            |none=>
             have hA:=HAW.out W hwe hi
             have HFo:=Aia (Tc W wr hi)
             have HET:=Aia (fun W' (hW':Below wr.heap.size wr W')=>(Tl W').mono (fun e w' hh=>(show e=.returned (.string A)/\Below wr.heap.size wr w' from⟨by rw[hh.1,hA],hW'.trans (hh.2.mono hW'.size)⟩)))
             have hAA:(A.toList != A.toList)=false:=by simp
             have HKE:=Aia (fun(w':World) (hw:Below wr.heap.size wr w')=>(show w'.cell? ⟨ob,oo+k,none⟩=some (.string A)from by rw[hw.cell (p:=⟨ob,oo+k,none⟩) (World.block_lt_of_cell? wr ⟨ob,oo+k,none⟩ hor)];exact hor))
             clear hA hwe hi hW
             go_wp2_with fail
             refine HFo.out.mono ?_
             rintro e w6 ⟨rfl,rfl⟩
             go_upto_region 28 with fail
             go_region_held3 (fun w'=>w'.cell? ⟨ob,oo+k,none⟩=some (.string A))
              (first|exact hor|exact HKE.out _ hb6.out)
              (first|(go_at_call 13;refine(HET.out _ ?_).mono ?_;(repeat(first|exact Below.refl _ _|refine Below.drew ?_));rintro e w7 ⟨rfl,b6⟩;have hb6:=Aia b6;clear b6))
             all_goals
              go_wp2_with fail
              go_roundw
              case rel=>exact⟨k+1,hlt,by go_num,hbx.out.trans (Below.mono (by repeat(first|exact hb6.out|refine Below.drew ?_)) hbx.out.size)⟩
              case measure=>simp[intOf];omega
            |some q=>
             have HFo:=Aia (Tb W wr hi)
             clear hwe hi hW
             go_wp2_with fail
             refine HFo.out.mono ?_
             rintro e w6 ⟨rfl,rfl⟩
             go_upto_region 28 with fail
             go_quiet (fail)
             go_wp2_with fail
             go_roundw
             case rel=>exact⟨k+1,hlt,by go_num,Ag _ hbx.out⟩
             case measure=>simp[intOf];omega
           ·have hcb:((x[j].toNat:Int) != 32)=true:=by
             rw[bne_iff_ne]
             intro e
             apply hc
             have e2:x[j].toNat=32:=by omega
             exact UInt8.toNat_inj.1 e2
            have HWn:=Aia (gT hW.out hjl hc)
            have hxe:(x.extract j (j+1)).size=1:=by rw[ByteArray.size_extract];omega
            have hWn:Hid ((W++x.extract j (j+1)).size<=j+1):=Aia (by rw[ByteArray.size_append];omega)
            have c1:(0:Int)<=(j:Int):=by omega
            have c2:(j:Int)+1<=(x.size:Int):=by omega
            have hjl2:Hid (j+1<=x.size):=hjl
            have hmes:Hid (x.size-(j+1)<x.size-j):=Aia (by omega)
            clear hW hc
            go_wp2_with fail
            go_roundw
            case rel=>exact⟨j+1,W++x.extract j (j+1),hjl2.out,hWn.out,(by first|rfl|trivial),by go_num,(by first|rfl|trivial),HWn⟩
            case measure=>simp[intOf];have:=hmes.out;omega
          ·have hjI:¬(j:Int)<(x.size:Int):=by omega
           have hwe:=T9 hW.out (.inl (by omega))
           cases hi:Cp W with
           |none=>
            have hA:=HAW.out W hwe hi
            have HFo:=Aia (Tc W wr hi)
            have HET:=Aia (fun W' (hW':Below wr.heap.size wr W')=>(Tl W').mono (fun e w' hh=>(show e=.returned (.string A)/\Below wr.heap.size wr w' from⟨by rw[hh.1,hA],hW'.trans (hh.2.mono hW'.size)⟩)))
            have hAA:(A.toList != A.toList)=false:=by simp
            have HKE:=Aia (fun(w':World) (hw:Below wr.heap.size wr w')=>(show w'.cell? ⟨ob,oo+k,none⟩=some (.string A)from by rw[hw.cell (p:=⟨ob,oo+k,none⟩) (World.block_lt_of_cell? wr ⟨ob,oo+k,none⟩ hor)];exact hor))
            clear hA hwe hi hW
            go_wp2_with fail
            refine HFo.out.mono ?_
            rintro e w6 ⟨rfl,rfl⟩
            go_upto_region 28 with fail
            go_region_held3 (fun w'=>w'.cell? ⟨ob,oo+k,none⟩=some (.string A))
             (first|exact hor|exact HKE.out _ hb6.out)
             (first|(go_at_call 13;refine(HET.out _ ?_).mono ?_;(repeat(first|exact Below.refl _ _|refine Below.drew ?_));rintro e w7 ⟨rfl,b6⟩;have hb6:=Aia b6;clear b6))
            all_goals
             go_wp2_with fail
             go_roundw
             case rel=>exact⟨k+1,hlt,by go_num,hbx.out.trans (Below.mono (by repeat(first|exact hb6.out|refine Below.drew ?_)) hbx.out.size)⟩
             case measure=>simp[intOf];omega
           |some q=>
            have HFo:=Aia (Tb W wr hi)
            clear hwe hi hW
            go_wp2_with fail
            refine HFo.out.mono ?_
            rintro e w6 ⟨rfl,rfl⟩
            go_upto_region 28 with fail
            go_quiet (fail)
            go_wp2_with fail
            go_roundw
            case rel=>exact⟨k+1,hlt,by go_num,Ag _ hbx.out⟩
            case measure=>simp[intOf];omega
        ·go_wp2_with fail
         go_ret
         exact⟨rfl,HB5.out.trans (hbx.out.mono HB5.out.size)⟩
      ·have HRun:=Aia (yV B sa config i a1 j1 wr HSr.out HNr.out H23.out (by omega) HR.out.symm (fun h=>hf0 h))
       have hfI:(0:Int)<(fc:Int):=by omega
       clear h100
       go_wp2_with fail
       refine HRun.out.mono ?_
       rintro e w2 ⟨u,rfl,hu,b2⟩
       have HU:=Aia hu
       have HB2:=Aia (HBR.out.trans (b2.mono HBR.out.size))
       clear b2 HRun hu
       go_wp2_with fail
       refine(HCo.out w2).mono ?_
       rintro e w3 ⟨bo,m,cap2,X2,rfl,-,-,b3⟩
       unfold A4 Q4
       go_upto_region 13 with fail
       have hb4:Below w3.heap.size w3 (w3.alloc (.cells (A4 C (.slice bo m cap2)) 30)):=(Below.refl _ _).alloc (Nat.le_refl _) _
       obtain⟨w4,hw4⟩:∃w4,w4=w3.alloc (.cells (A4 C (.slice bo m cap2)) 30):=⟨_,rfl⟩
       rw[<-hw4]at hb4
       have hx5:=Ab w4 (.cells #[.int .i64 (fc:Int),.int .i64 fi] 32)
       have hb5:Below w4.heap.size w4 (w4.alloc (.cells #[.int .i64 (fc:Int),.int .i64 fi] 32)):=(Below.refl _ _).alloc (Nat.le_refl _) _
       have hs4:w4.heap.size=w3.heap.size+1:=by rw[hw4];simp
       unfold A4 at hw4
       rw[<-hw4]
       generalize w4.alloc _=w5 at hx5 hb5 ⊢
       rw[hs4]at hx5
       obtain⟨fb,hfb⟩:∃fb,fb=w3.heap.size+1:=⟨_,rfl⟩
       rw[<-hfb]at hx5 ⊢
       have HX5:=Aia hx5
       have hlo:w2.heap.size<=fb:=by have:=b3.size;omega
       have HLO:=Aia hlo
       have HB25:=Aia (b3.trans ((hb4.trans (hb5.mono hb4.size)).mono b3.size))
       obtain⟨k0,k1,kf⟩:=Au hx5
       clear b3 hb4 hx5 hb5 hw4 hs4 hfb hlo
       have hb5:=HB2.out.trans (HB25.out.mono HB2.out.size)
       have HF:=Aia (Rt B sa u (fc,fi) HLE.out (fc:Int) fi w5 (HS.out.below hb5) (HU.out.below HB25.out))
       rw[qI]at HF
       have HB5:=Aia hb5
       clear hb5
       go_wp2_with fail
       refine HF.out.mono ?_
       rintro e w8 ⟨rfl,b8⟩
       have HB8:=Aia (HB5.out.trans (b8.mono HB5.out.size))
       clear b8
       go_wp2_with fail
       go_ret
       exact⟨rfl,HB8.out⟩
end Go.Proofs.YtikehilbmldadaaGreatDoor
namespace Go.Proofs.YtikehilbmldadaaGreatDoor.scriptReads
open Go.ChangeShapes Go.WideShapes Go.ChangeAt Go.RowKit
theorem own:ownKnob Tryz.prog.godebug=none:=by kernel_rfl
theorem laidOut:laidOutB Tryz.prog=true:=by kernel_rfl
theorem lifted(os:Os)(started:os.Started)(H:Type)(enc:TypeId × Value->H):
  ReturnsInHanded {} Tryz.checked os 3 .any (fun w args=>(Rows.scriptReadsSpec.pre enc Tryz.prog Tryz.f3 Rows.scriptReadsRow.domain false w args/\laidMetH Tryz.prog Rows.scriptReadsRow.laid w)/\sizedMet enc Tryz.prog Tryz.f3 (OpenSpec.ofChange Rows.scriptReadsSpec) false w args) (Rows.scriptReadsSpec.post enc Tryz.prog Tryz.f3 false true false false):=by
 refine returnsInHanded_of_change_and (C:=Tryz.checked) (X:=fun w _=>laidMetH Tryz.prog Rows.scriptReadsRow.laid w) (fun _ _ _ hh h=>h.of_heap hh) own started (by kernel_rfl) func3
  (ChangeSpec.witness_shaped (enc:=enc) (C:=Tryz.checked) (os:=os) (X:=fun w _=>laidMetH Tryz.prog Rows.scriptReadsRow.laid w) false (doorW os) #[.string ByteArray.empty,.slice none 0 0] 8 (doorW_os os) (World.shaped_of_ZipB (by kernel_rfl) (by kernel_rfl)) (by kernel_rfl) (by kernel_rfl) (by kernel_rfl) (door_met os _)) ?_
 intro W base args ds gs before hval0 hW hcnd _ hL _
 have hval:∀(j:Nat) t v,Tryz.f3.params[j]? =some t->args[j]? =some v->Value.okWide Tryz.prog W .any base t v:=hval0
 have hW':=hW
 obtain⟨p,q,hA0,hV,rfl,hfz,hnd⟩:=hW
 have hA:DataW.TrodAll enc Tryz.prog W 0 (fun _=>true) true Tryz.f3.params.toList args.toList ds p:=hA0
 rw[params3]at hA hval
 obtain⟨v0,vs0,d0,ds0,p0,q0,hargs,rfl,rfl,h0,r0⟩:=trodAll_cons hA
 obtain⟨v1,vs1,d1,ds1,p1,q1,rfl,rfl,rfl,h1,r1⟩:=trodAll_cons r0
 obtain⟨rfl,rfl,rfl⟩:=trodAll_nil r1
 obtain rfl:args=#[v0,v1]:=by cases args;simp_all
 obtain⟨rfl,rfl⟩:=trodVars_none hV
 obtain⟨s0,rfl,rfl,rfl,z0⟩:=Go.ChangeMaps.open_string underlying9 (hval 0 9 v0 rfl rfl) h0
 obtain⟨a1,n1,c1,hv1⟩:=okWide_slice underlying22 (hval 1 22 v1 rfl rfl)
 obtain⟨l1,sl1,wf1⟩:=(show Rd enc Tryz.prog W 22 [v1] from by rw[hv1];rw[hv1]at h1;exact Ahl h1).rows (fun x:ByteArray=>[Value.string x]) 1 (fun _=>rfl) (by decide) underlying22 cStr _ Ag1
 rw[Ss]at sl1
 obtain⟨sa,hSn,hTx,hNum,hTab⟩:=laid_all hL
 clear hA0 hval0
 simp only[List.append_nil]at hW'
 refine(scriptReads_any _ sa s0 l1 v1 W hSn hTx hNum hTab sl1).mono fun e W' ⟨he,hb⟩=>?_
 subst he
 exact⟨_,rfl,Adf laidOut (by kernel_rfl) rfl rfl underlying4 hW' rfl hb⟩
theorem over:Rows.scriptReadsRow.holds Tryz.pinned (OpenSpec.ofChange Rows.scriptReadsSpec):=
 OpenClaim.holds_of_wide 3 Tryz.f3 rfl rfl rfl rfl rfl rfl rfl ⟨rfl,rfl,rfl,rfl,rfl⟩ rfl rfl rfl rfl rfl (by as_aux_lemma=>kernel_rfl) func3 scriptReads.closed
  (of_decide_eq_true (by as_aux_lemma=>kernel_rfl)) (by unfold Func.isWrapper;first|(rw[if_pos (by decide+kernel)];kernel_rfl)|(rw[if_neg (by decide+kernel)];exact⟨rfl,rfl⟩))
  (fun os started H enc _=>lifted os started H enc)
theorem proved:Rows.ScriptReadsSaid:=over
theorem card:Rows.ScriptReadsCardSaid:=
 Claim7.holds_tied_plain_at .later [] Rows.scriptReadsCard.laidKinds true Rows.scriptReadsCard.stood.harness Rows.scriptReadsCard.stood.looks
  proved (fun _ h=>by cases h) (by as_aux_lemma=>kernel_rfl) (fun _ h=>by cases h) scriptReads_row_tie rfl ⟨rfl,rfl⟩ (by as_aux_lemma=>kernel_rfl) rfl
  (fun f fn hf hfn=>by
   obtain rfl:f=3:=Option.some.inj ((show Tryz.prog.funcNamed "nightwatch/nightwatchlaw3.ScriptReads"=some 3 by as_aux_lemma=>kernel_rfl).symm.trans hf) |>.symm
   obtain rfl:fn=Tryz.f3:=(Option.some.inj (func3.symm.trans hfn)).symm
   exact⟨by as_aux_lemma=>kernel_rfl,fun j t ht=>by
    rw[params3]at ht
    have hall:((#[9,22]:Array TypeId).toList.all fun u=>!Tryz.prog.wantsStandIn u)=true:=by as_aux_lemma=>kernel_rfl
    exact(show Tryz.prog.wantsStandIn t=false by simpa using List.all_eq_true.1 hall t (Array.mem_toList_iff.2 (Array.mem_of_getElem? ht)))⟩)
  (by as_aux_lemma=>kernel_rfl)
#print axioms card
end Go.Proofs.YtikehilbmldadaaGreatDoor.scriptReads

