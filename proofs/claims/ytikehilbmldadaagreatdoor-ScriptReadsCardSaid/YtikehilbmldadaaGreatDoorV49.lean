import Derived.Test.YtikehilbmldadaaGreatDoorV46
import Derived.Test.YtikehilbmldadaaGreatDoorV47
import Derived.Test.YtikehilbmldadaaGreatDoorV48
set_option maxHeartbeats 8000000
set_option maxRecDepth 100000
set_option linter.unusedVariables false
open Go.Proofs.Tryz Go.Proofs.YtikehilbmldadaaGreatDoor.Tryz
namespace Go.Proofs.YtikehilbmldadaaGreatDoor
open Go.RowKit
theorem zS(base rb:Nat)(o:Nat->Option Nat)(st:RdS)(v:Value)(Y:List Aw)(s:ByteArray)(w:World)(h:D0 base rb o st.c (stB st.stage) v Y w)(hI:R7 st)(hF:Few Y)(hs:s.size<=100000):
  Calls Tryz.prog 42 #[.pointer (some ⟨rb,0,none⟩),.string s] w (gO base rb (A8 st s) w):=by
 obtain⟨w0,ts,hws⟩:∃w0 ts,Ic s=w0::ts:=by
  cases hl:Ic s with
  |nil=>exact absurd hl (Va s)
  |cons a ts=>exact⟨a,ts,rfl⟩
 have hhd:Gq s=w0:=by unfold Gq;rw[hws];rfl
 obtain⟨nW,hnW⟩:∃nW,nW=ts.length+1:=⟨_,rfl⟩
 obtain⟨hsz1,hszt⟩:=Ti s
 rw[hws]at hsz1 hszt
 have hsz:ts.length<=100000:=by rw[List.length_cons]at hsz1;omega
 have HTZ:Hid (∀i,(ts.getD i ByteArray.empty).size<=100000):=Aia (fun i=>by
  rw[List.getD_eq_getElem?_getD]
  cases hi:ts[i]? with
  |none=>exact Nat.zero_le _
  |some t=>
   have:=hszt t (List.mem_cons_of_mem _ (List.mem_of_getElem? hi))
   show t.size<=100000
   omega)
 have HCu:Hid (Calls Tryz.prog 41 #[.string s,.int .u8 32] w fun e w'=>∃ao cap,e=.returned (.slice ao nW cap)/\As w' w.heap.size 9 1 (.slice ao nW cap) nW (Ad (w0::ts))/\Below w.heap.size w w'):=(show _ from by
  have:=kX s 32 w hs
  rw[show Bj 32 s=w0::ts from hws,List.length_cons,<-hnW]at this
  exact this)
 have hw1:(1:Int)<=(nW:Int):=by omega
 have hw2:(nW:Int)<=100001:=by omega
 have H:=Aia h
 have HI:=Aia hI
 have HF:=Aia hF
 have HHD:=Aia hhd
 have HWS:=Aia hws
 have HNW:=Aia hnW
 clear h hI hF hhd hws hsz hs hsz1 hszt
 go_enter func42,ntmps42
 go_wp2_with fail
 refine HCu.out.mono ?_
 rintro e w1 ⟨ao,cap,rfl,hown,hb1⟩
 obtain⟨cb,coff,rfl,hcb,hcw,hcc⟩:∃cb coff,ao=some ⟨cb,coff,none⟩/\w.heap.size<=cb/\cb<w1.heap.size/\∀k x,(w0::ts)[k]? =some x->w1.cell? ⟨cb,coff+k,none⟩=some (.string x):=by
  have hso:=hown.slOf
  have hl:(w0::ts).length=nW:=by rw[hnW];rfl
  rw[<-hl]at hso
  obtain⟨b,off,ha,hR,hb,hc⟩:=Eh hso (by simp)
  refine⟨b,off,ha,hR.1,hb,fun k x hx=>?_⟩
  obtain⟨hk,rfl⟩:=List.getElem?_eq_some_iff.1 hx
  exact hc k hk
 have HB1:=Aia hb1
 have HCC:=Aia hcc
 have c0:w1.cell? ⟨cb,coff,none⟩=some (.string w0):=hcc 0 w0 rfl
 have hcap:(nW:Int)<=(cap:Int):=by
  rcases hown.2 with⟨h,h0⟩|⟨g,off,cap',cur,hv,h2,h3,h4,_⟩
  ·cases h
  ·obtain⟨_,_,rfl⟩:=Value.slice.inj hv
   omega
 clear hown hb1 hcc HCu hnW
 go_upto_block 0 with fail
 go_cut [6] (fun s6 wx=>s6=.string (Ba w0)/\w1=wx)
 case first=>
  refine Af6 w1 w0 cb coff nW cap _ _ _ _ _ _ _ _ _ _ _ _ _ _ _ _ _ _ _ _ _ _ _ _ _ _ _ _ _ _ _ _ _ _ _ _ _ _ _ _ _ _ _ _ _ _ _ _ _ _ _ _ _ _ _ _ _ _ _ _ _ _ _ _ _ _ _ _ _ _ _ _ _ _ _ _ _ _ _ _ _ _ _ _ _ _ _ _ _ _ _ _ _ _ _ _ _ _ _ _ _ _ _ _ _ _ _ _ _ _ _ _ _ _ _ _ _ _ _ _ _ _ _ _ _ _ _ _ _ _ _ _ _ _ _ _ _ _ _ _ _ _ _ _ _ _ _ _ _ _ _ _ _ _ _ _ _ _ _ _ _ _ _ _ _ _ _ _ _ _ _ _ _ _ _ _ _ _ _ _ _ _ _ _ _ _ _ _ _ _ _ _ _ _ _ _ _ _ _ _ _ _ _ _ _ _ _ _ _ _ _ _ _ _ _ _ _ _ _ _ _ _ _ _ _ _ _ _ _ _ _ _ _ _ _ _ _ _ _ _ _ _ _ _ _ _ _ _ _ _ _ _ _ _ ?_ _ _ _ _ _ _ _ _ _ _ _ _ _ _ _ _ _ _
  intro y20 y21 y22 y23 y24 y25 y26 y27 y28 y29 y30 y31 y32 y33 y34 y35 y36 y37
  go_wp2_with fail
  go_meet
  exact⟨rfl,rfl⟩
 case rest=>
 obtain⟨rfl,rfl⟩:=hcut
 have HRt:Hid (Calls Tryz.prog 79 #[.pointer (some ⟨rb,0,none⟩),.string w0] w1 fun e w'=>e=.returned (.bool (Gn (stB st.stage) w0))/\Below w1.heap.size w1 w'):=
  (show _ from tC (stB st.stage) w0 rb w1 (Hg (H.out.later HB1.out).blk).2.2.2.2.2.1)
 obtain⟨zr,hzr⟩:∃zr,zr=Gn (stB st.stage) w0:=⟨_,rfl⟩
 rw[<-hzr]at HRt
 have HZR:=Aia hzr
 clear hzr
 have HW1:Hid (Ae (fun b=>b=rb\/base<=b) w w1):=Aia ((Ae.of_below HB1.out).mono (fun b hb hs=>by omega))
 cases hok:Dr w0
 case false=>
  have HL:Hid (A8 st s=(1,st)):=Aia (by
   have:Ch st s=false:=by unfold Ch;rw[HHD.out,hok];rfl
   unfold A8;rw[this];rfl)
  have hfw:(Ba w0).toList.isEmpty=true:=by
   have:Ba w0=ByteArray.empty:=by unfold Ba;unfold Dr at hok;cases hf:Gb w0 with|none=>rfl|some q=>rw[hf]at hok;cases hok
   rw[this];exact Kq rfl
  clear hok
  go_wp2_with fail
  refine HRt.out.mono ?_
  rintro e w2 ⟨rfl,b2⟩
  go_wp2_with fail
  go_ret
  exact Kx HL.out (by decide) (HW1.out.step (Ae.of_below b2) (fun b hb hs=>by have:=HB1.out.size;omega))
 case true=>
 obtain⟨k,fs,hk9,hfo,hst,hwd,hf1,hf4⟩:=Oz hok
 obtain⟨hkw,hkf⟩:=xV hfo
 rw[hwd]
 have HFO:=Aia (And.intro hfo (And.intro hst hwd))
 have HKW:=Aia (And.intro hkw hkf)
 have HK9:=Aia hk9
 have HZ2:Hid (zr=Bi st.stage k):=Aia (by rw[HZR.out,hkw];exact zQ st.stage HI.out.lo k hk9)
 have hfi:(fs.size:Int)<=4:=by omega
 have hfi1:(1:Int)<=(fs.size:Int):=by omega
 have hfe:fs.toList.isEmpty=false:=K8 (by omega)
 have HOK:=Aia hok
 clear hfo hst hwd hkw hkf hk9 hf1 hf4 hok
 cases zr
 case false=>
  have HL:Hid (A8 st s=(1,st)):=Aia (by
   have:Ch st s=false:=by unfold Ch;rw[HHD.out,HFO.out.2.1,<-HZ2.out];simp
   unfold A8;rw[this];rfl)
  go_wp2_with fail
  refine HRt.out.mono ?_
  rintro e w2 ⟨rfl,b2⟩
  go_wp2_with fail
  go_ret
  exact Kx HL.out (by decide) (HW1.out.step (Ae.of_below b2) (fun b hb hs=>by have:=HB1.out.size;omega))
 case true=>
 by_cases hlen:(nW:Int)=(fs.size:Int)+1
 case neg=>
  have hle2:((nW:Int)==(fs.size:Int)+1)=false:=by rw[beq_eq_false_iff_ne];exact hlen
  have HL:Hid (A8 st s=(1,st)):=Aia (by
   have:Ch st s=false:=by
    unfold Ch
    rw[HHD.out,HFO.out.2.2,HWS.out,List.length_cons,Nat.add_sub_cancel]
    have:(ts.length==fs.size)=false:=by
     rw[beq_eq_false_iff_ne]
     have:=HNW.out
     omega
    rw[this,Bool.and_false]
   unfold A8;rw[this];rfl)
  clear hlen
  go_wp2_with fail
  refine HRt.out.mono ?_
  rintro e w2 ⟨rfl,b2⟩
  go_wp2_with fail
  go_ret
  exact Kx HL.out (by decide) (HW1.out.step (Ae.of_below b2) (fun b hb hs=>by have:=HB1.out.size;omega))
 case pos=>
 obtain⟨nf,hnf⟩:∃nf,nf=ts.length:=⟨_,rfl⟩
 obtain rfl:nW=nf+1:=by rw[hnf];exact HNW.out
 have hfsz:fs.size=nf:=by omega
 have hnf1:(1:Int)<=(nf:Int):=by omega
 have hnf4:(nf:Int)<=4:=by omega
 have hle2:(((nf+1:Nat):Int)==(fs.size:Int)+1)=true:=by rw[beq_iff_eq];exact hlen
 have HLR:Hid (A8 st s=match Az (Bo st.c.ents).points fs.data.toList ts nf with|none=>(1,st)|some p=>if p.2=true then (5,st) else (0,⟨Bf k (ts.getD 0 ByteArray.empty) p.1 st.c,(k:Int)⟩)):=Aia (by
  have hf:Ch st s=true:=by
   unfold Ch
   rw[HHD.out,HOK.out,HFO.out.2.1,HFO.out.2.2,<-HZ2.out,HWS.out,List.length_cons,Nat.add_sub_cancel,<-hnf,hfsz]
   simp
  unfold A8
  rw[if_pos hf]
  unfold Lf
  rw[HHD.out,HFO.out.2.1,HFO.out.2.2,HWS.out,hfsz]
  rfl)
 have HNF:=Aia hnf
 clear hlen hnf HNW hfi hfi1
 obtain⟨vo,vc,hvv⟩:=H.out.row.val
 subst hvv
 obtain⟨m,hm⟩:∃m,m=Y.length:=⟨_,rfl⟩
 have hmZ:m<=100000:=by rw[hm];exact HF.out.n
 obtain⟨kx,hkx⟩:∃kx:Int,kx=(m:Int)-1:=⟨_,rfl⟩
 have hwk:wrap64 kx=kx:=by rw[hkx];exact IntWalk.wrap64_in _ (by omega)
 have hkx1:(m:Int)-1=kx:=hkx.symm
 have HM:=Aia hm
 have HKX:=Aia hkx
 rw[<-hm]at H
 clear hkx hm
 go_upto_region 23 with fail
 go_wp2_with fail
 refine HRt.out.mono ?_
 rintro e w2 ⟨rfl,b2⟩
 have HB2:=Aia (HB1.out.trans (b2.mono HB1.out.size))
 have HR2:=Aia (H.out.later HB2.out)
 have HCC2:Hid (∀k x,(w0::ts)[k]? =some x->w2.cell? ⟨cb,coff+k,none⟩=some (.string x)):=Aia (fun k x hx=>by rw[b2.cell (p:=⟨cb,coff+k,none⟩) hcw];exact HCC.out k x hx)
 obtain⟨d0,d1,d2,d3,d4,d5,df⟩:=Hg HR2.out.blk
 clear b2 c0 hcw HCC
 go_upto_block 1 with fail
 have HFZ:=Aia hfsz
 clear hfsz hkx1 hwk
 obtain⟨pts,hpts⟩:∃pts,pts=(Bo st.c.ents).points:=⟨_,rfl⟩
 rw[<-hpts]at HLR
 have HPT:=Aia hpts
 have HKF:Hid (Ae (fun b=>b=rb\/base<=b) w w2):=Aia ((Ae.of_below HB2.out).mono (fun b hb hs=>by omega))
 clear hpts
 have HFO1:Hid (Gb w0=some (k,fs)):=HFO.out.1
 have HKW2:Hid (fs=fwB k):=HKW.out.2
 have HRG:Hid (Bi st.stage k=true):=Aia (HZ2.out.symm)
 obtain⟨i,hi⟩:∃i,i=nf:=⟨_,rfl⟩
 subst hi
 refine Af4 w2 base rb o st m vc vo Y w0 fs ts pts i k cb coff cap kx HKX HM HR2 HI HPT HFO1 HK9 HKW2 HRG HFZ HNF HTZ HCC2 hcap hmZ hnf4 hle2 _ _ _ _ _ _ _ _ _ _ _ _ _ _ _ _ _ _ _ _ _ _ _ _ _ _ _ _ _ _ _ _ _ _ _ _ _ _ _ _ _ _ _ _ _ _ _ _ _ _ _ _ _ _ _ _ _ _ _ _ _ _ _ _ _ _ _ _ _ _ _ _ _ _ _ _ _ _ _ _ _ _ _ _ _ _ _ _ _ _ _ _ _ _ _ _ _ _ _ _ _ _ _ _ _ _ _ _ _ _ _ _ _ _ _ _ _ _ _ _ _ _ _ _ _ _ _ _ _ _ _ _ _ _ _ _ _ _ _ _ _ _ _ _ _ _ _ _ _ _ _ _ _ _ _ _ _ _ _ _ _ _ _ _ _ _ _ _ _ _ _ _ _ _ _ _ _ _ _ _ _ _ _ _ _ _ _ _ _ _ _ _ _ _ _ _ _ _ _ _ _ _ _ _ _ _ _ _ _ _ _ _ _ _ _ _ _ _ _ ?_ ?_ _ _ _ _ _ _ _ _ _ _ _ _ _ _ _ _ _ _ _ _ _ _ _ _ _ _ _ _ _ _ _ _ _ _ _ _ _ _ _ _ _ _ _ _ _ _ _ _ _
 case refine_1=>
  intro y9 y10 y11 y12 y64 y65 y66 y67 y68 y69 y70 y71 y72 y73 y74 y75 y76 y77 y78 y79 y80 y81 y82 y83 y84 y85 y86 y87 y88 y89 y90 y91 y92 y93 y94 y95 y96 y97 y98 y99 y100 y101 y102 y103 y104 y105 y106 y107 y108 y109 y110 y111 w' hn hb
  have HL:Hid (A8 st s=(1,st)):=Aia (by rw[HLR.out,hn])
  have HBX:=Aia hb
  clear hn hb
  go_wp2_with fail
  go_ret
  exact Kx HL.out (by decide) (HKF.out.step (Ae.of_below HBX.out) (fun b hb hs=>by have:=HB2.out.size;omega))
 case refine_2=>
  intro y4 y12 y64 y65 y66 y67 y68 y69 y70 y71 y72 y73 y74 y75 y76 y77 y78 y79 y80 y81 y82 y83 y84 y85 y86 y87 y88 y89 y90 y91 y92 y93 y94 y95 y96 y97 y98 y99 y100 y101 y102 y103 y104 y105 y106 y107 y108 y109 y110 y111 d z na nc wr hup0 hdl0 hown0 hbel0
  have hup:=Aia hup0
  have hdl:=Aia hdl0
  have hown:=Aia hown0
  have hbel:=Aia hbel0
  clear hup0 hdl0 hown0 hbel0
  skip
  cases z
  case true=>
   have HL:Hid (A8 st s=(5,st)):=Aia (by rw[HLR.out,hup.out];rfl)
   have hfs2:(fs.size:Int)=(i:Int):=by have:=HFZ.out;omega
   clear hnf1 hnf4 hw1 hw2 hfe hle2 hmZ d0 d1 d2 d3 d4 d5 df hcap
   go_wp2_with fail
   go_ret
   exact Kx HL.out (by decide) (HKF.out.step (Ae.of_below hbel.out) (fun b hb hs=>by have:=HB2.out.size;omega))
  case false=>
  have HL:Hid (A8 st s=(0,⟨Bf k (ts.getD 0 ByteArray.empty) (pick fs.data.toList d) st.c,(k:Int)⟩)):=Aia (by rw[HLR.out,hup.out];rfl)
  have hRr:=HR2.out.later hbel.out
  have hrs:=hRr.set (C':=st.c) (st':=w0) 5 (.string w0) rfl rfl
  have hrl:=Aa H.out.blk
  have hb2:=HB2.out.size
  have hbr:=hbel.out.size
  have hts1:1<=ts.length:=by have:=HNF.out;omega
  have u0:w2.cell? ⟨cb,coff,none⟩=some (.string w0):=HCC2.out 0 w0 rfl
  have u1:w2.cell? ⟨cb,coff+1,none⟩=some (.string (ts.getD 0 ByteArray.empty)):=HCC2.out 1 _ (by rw[List.getElem?_cons_succ,List.getD_eq_getElem?_getD,List.getElem?_eq_getElem hts1];rfl)
  have hcw2:cb<w2.heap.size:=World.block_lt_of_cell? _ ⟨cb,coff,none⟩ u0
  rw[<-hbel.out.cell (p:=⟨cb,coff,none⟩) hcw2]at u0
  rw[<-hbel.out.cell (p:=⟨cb,coff+1,none⟩) hcw2]at u1
  obtain⟨t0,ht0⟩:∃t0,t0=ts.getD 0 ByteArray.empty:=⟨_,rfl⟩
  rw[<-ht0]at u1 HL
  obtain⟨nb,noff,hna,hnb1,hnb2,hnc⟩:∃nb noff,na=some ⟨nb,noff,none⟩/\w2.heap.size<=nb/\nb<wr.heap.size/\∀(j:Nat) x,d[j]? =some x->wr.cell? ⟨nb,noff+j,none⟩=some (.int .i64 x):=by
   rcases hown.out.2 with⟨_,h0⟩|⟨nb,noff,ncap,cur,hv,h2,h3,_⟩
   ·omega
   ·obtain⟨rfl,_,rfl⟩:=Value.slice.inj hv
    refine⟨nb,noff,rfl,h2,Aa h3,fun j x hx=>?_⟩
    have:=hown.out.cells j (.int .i64 x) (by unfold Ac;rw[List.getElem?_map,hx];rfl)
    rw[Cz]at this
    exact this
  have hncap:(i:Int)<=(nc:Int):=by
   rcases hown.out.2 with⟨h,h0⟩|⟨g,off,cap',cur,hv,h2,h3,h4,_⟩
   ·rw[hna]at h;cases h
   ·obtain⟨_,_,rfl⟩:=Value.slice.inj hv
    omega
  subst hna
  have hcr:¬cb=rb:=by omega
  have hnr:¬nb=rb:=by omega
  have hocb:o cb=none:=H.out.fr cb hcb
  have honb:o nb=none:=H.out.fr nb (by omega)
  have ks:=Ai wr rb 5 (.string w0)
  obtain⟨c0,c1,c2,c3,c4,c5,cf⟩:=Hg hRr.blk
  have cfr:=cf 5
  have hnf0:(0:Int)<(i:Int)+1:=by omega
  have hnf1':(1:Int)<(i:Int)+1:=by omega
  have HNL:Hid (∀(j:Nat) x,d[j]? =some x->(wr.setCell ⟨rb,5,none⟩ (.string w0)).cell? ⟨nb,noff+j,none⟩=some (.int .i64 x)):=Aia (fun j x hx=>by
   rw[ks.cell (p:=⟨nb,noff+j,none⟩) hnb2 hnr]
   exact hnc j x hx)
  have HU:Hid ((wr.setCell ⟨rb,5,none⟩ (.string w0)).cell? ⟨cb,coff,none⟩=some (.string w0)/\(wr.setCell ⟨rb,5,none⟩ (.string w0)).cell? ⟨cb,coff+1,none⟩=some (.string t0)):=Aia (by
   rw[ks.cell (p:=⟨cb,coff,none⟩) (by show cb<_;omega) hcr,ks.cell (p:=⟨cb,coff+1,none⟩) (by show cb<_;omega) hcr]
   exact⟨u0,u1⟩)
  have HR5:=Aia hrs
  have HK5:Hid (Ae (fun b=>b=rb\/base<=b) w (wr.setCell ⟨rb,5,none⟩ (.string w0))):=Aia ((HKF.out.step (Ae.of_below hbel.out) (fun b hb hs=>by omega)).step ks (fun b hb _=>.inl hb))
  have hsz5:(wr.setCell ⟨rb,5,none⟩ (.string w0)).heap.size=wr.heap.size:=by simp[World.setCell]
  have HTP:=Aia H.out.top
  clear hRr hrs hts1 u1 ht0 hnc ks cf c0 c1 c2 c3 c4 hnf1 hnf4 hw1 hw2 hfe
  go_upto_region 47 with fail
  generalize wr.setCell _ _=w5 at HNL HU HR5 HK5 hsz5 ⊢
  rw[<-hsz5]at hbr hnb2
  clear hsz5
  obtain⟨u0,u1⟩:=HU.out
  obtain⟨c0,c1,c2,c3,c4,c5,cf⟩:=Hg HR5.out.blk
  have hcmp:=Nb HKW.out.1 HK9.out
  have hpk:=HKW.out.2
  have hnfv:=HFZ.out
  have hdl2:=hdl.out
  rcases(show k=0\/k=1\/k=2\/k=3\/4<=k from by omega)with rfl|rfl|rfl|rfl|hk4
  ·obtain⟨pa,pb,rfl⟩:=kZ (n:=d) (by rw[hdl2,<-hnfv,hpk];rfl)
   rw[show pick fs.data.toList [pa,pb]= [pa,pb] from by rw[hpk];rfl]at HL
   have m0:w5.cell? ⟨nb,noff,none⟩=some (.int .i64 pa):=HNL.out 0 _ rfl
   have m1:w5.cell? ⟨nb,noff+1,none⟩=some (.int .i64 pb):=HNL.out 1 _ rfl
   have hnf2k:i=2:=by rw[hpk]at hnfv;exact hnfv.symm
   have hnfn0:0<i:=by omega
   have hnfn1:1<i:=by omega
   have hnfk0:(0:Int)<(i:Int):=by omega
   have hnfk1:(1:Int)<(i:Int):=by omega
   obtain⟨e0,e1,e2,e3,e4,e5,e6,e7,e8,e9⟩:_=true/\_=false/\_=false/\_=false/\_=false/\_=false/\_=false/\_=false/\_=false/\_=false:=id hcmp
   clear hcmp hpk hnfv hdl2 hnf2k c4 c5 u1
   go_wp2_with fail
   go_ret
   exact Jr HL.out ⟨o,_,Y,(HR5.out.set (C':={ st.c with closed:=pa}) (st':=w0) 0 (.int .i64 pa) rfl rfl).set (C':=Bf 0 t0 [pa,pb] st.c) (st':=kwB 0) 1 (.int .i64 pb) (by rw[<-HKW.out.1];rfl) rfl⟩ (T5 (T5 HK5.out 0 _) 1 _)
  ·obtain⟨pa,rfl⟩:=Qf (n:=d) (by rw[hdl2,<-hnfv,hpk];rfl)
   rw[show pick fs.data.toList [pa]= [pa] from by rw[hpk];rfl]at HL
   have m0:w5.cell? ⟨nb,noff,none⟩=some (.int .i64 pa):=HNL.out 0 _ rfl
   have hnf2k:i=1:=by rw[hpk]at hnfv;exact hnfv.symm
   have hnfn0:0<i:=by omega
   have hnfk0:(0:Int)<(i:Int):=by omega
   obtain⟨e0,e1,e2,e3,e4,e5,e6,e7,e8,e9⟩:_=false/\_=true/\_=false/\_=false/\_=false/\_=false/\_=false/\_=false/\_=false/\_=false:=id hcmp
   clear hcmp hpk hnfv hdl2 hnf2k c4 c5 u1
   go_wp2_with fail
   go_ret
   exact Jr HL.out ⟨o,_,Y,HR5.out.set (C':=Bf 1 t0 [pa] st.c) (st':=kwB 1) 2 (.int .i64 pa) (by rw[<-HKW.out.1];rfl) rfl⟩ (T5 HK5.out 2 _)
  ·obtain⟨pa,rfl⟩:=Qf (n:=d) (by rw[hdl2,<-hnfv,hpk];rfl)
   rw[show pick fs.data.toList [pa]= [pa] from by rw[hpk];rfl]at HL
   have m0:w5.cell? ⟨nb,noff,none⟩=some (.int .i64 pa):=HNL.out 0 _ rfl
   have hnf2k:i=1:=by rw[hpk]at hnfv;exact hnfv.symm
   have hnfn0:0<i:=by omega
   have hnfk0:(0:Int)<(i:Int):=by omega
   obtain⟨e0,e1,e2,e3,e4,e5,e6,e7,e8,e9⟩:_=false/\_=false/\_=true/\_=false/\_=false/\_=false/\_=false/\_=false/\_=false/\_=false:=id hcmp
   clear hcmp hpk hnfv hdl2 hnf2k c4 c5 u1
   go_wp2_with fail
   go_ret
   exact Jr HL.out ⟨o,_,Y,HR5.out.set (C':=Bf 2 t0 [pa] st.c) (st':=kwB 2) 3 (.int .i64 pa) (by rw[<-HKW.out.1];rfl) rfl⟩ (T5 HK5.out 3 _)
  ·obtain⟨pa,pb,rfl⟩:=kZ (n:=d) (by rw[hdl2,<-hnfv,hpk];rfl)
   rw[show pick fs.data.toList [pa,pb]= [pb] from by rw[hpk];rfl]at HL
   have m0:w5.cell? ⟨nb,noff,none⟩=some (.int .i64 pa):=HNL.out 0 _ rfl
   have m1:w5.cell? ⟨nb,noff+1,none⟩=some (.int .i64 pb):=HNL.out 1 _ rfl
   have hnf2k:i=2:=by rw[hpk]at hnfv;exact hnfv.symm
   have hnfn0:0<i:=by omega
   have hnfn1:1<i:=by omega
   have hnfk0:(0:Int)<(i:Int):=by omega
   have hnfk1:(1:Int)<(i:Int):=by omega
   obtain⟨e0,e1,e2,e3,e4,e5,e6,e7,e8,e9⟩:_=false/\_=false/\_=false/\_=true/\_=false/\_=false/\_=false/\_=false/\_=false/\_=false:=id hcmp
   clear hcmp hpk hnfv hdl2
   obtain rfl:m=Y.length:=HM.out
   clear c0 c1 c2 c3 c4 c5 cf
   go_upto_block 4 with fail
   refine Af5 w w5 base rb o st.c w0 t0 vo vc Y cb coff i cap nb noff nc pa pb HKW.out.1 HR5 HK5 hmZ u0 u1 m0 m1 (by omega) hocb hnb2 honb hcap hncap hnf2k _ _ _ _ _ _ _ _ _ _ _ _ _ _ _ _ _ _ _ _ _ _ _ _ _ _ _ _ _ _ _ _ _ _ _ _ _ _ _ _ _ _ _ _ _ _ _ _ _ _ _ _ _ _ _ _ _ _ _ _ _ _ _ _ _ _ _ _ _ _ _ _ _ _ _ _ _ _ _ _ _ _ _ _ _ _ _ _ _ _ _ _ _ _ _ _ _ _ _ _ _ _ _ _ _ _ _ _ _ _ _ _ _ _ _ _ _ _ _ _ _ _ _ _ _ _ _ _ _ _ _ _ _ _ _ _ _ _ _ _ _ _ _ _ _ _ _ _ _ _ _ _ _ _ _ _ _ _ _ _ _ _ _ _ _ _ _ _ _ _ _ _ _ _ _ _ _ _ _ _ _ _ _ _ _ _ _ _ _ _ _ _ _ _ _ _ _ _ _ _ _ _ _ _ _ _ _ _ _ _ _ _ _ _ ?_ _ _ _ _ _ _ _ _ _ _ _ _ _ _ _ _ _ _ _ _ _ _ _ _ _ _ _ _ _ _ _ _ _ _ _ _ _ _ _ _ _ _ _ _ _ _ _ _ _ _ _ _ _ _ _ _ _
   intro y13 y122 y123 y124 y125 y126 y127 y128 y129 y130 y131 y132 y133 y134 y135 y136 y137 y138 y139 y140 y141 y142 y143 y144 y145 y146 y147 y148 y149 y150 y151 y152 y153 y154 y155 y156 y157 y158 y159 y160 y161 y162 y163 y164 y165 y166 y167 y168 y169 y170 y171 y172 y173 y174 y175 y176 w7 h7
   have H7:=Aia h7
   clear h7
   go_wp2_with fail
   go_ret
   exact Jr HL.out H7.out.1 H7.out.2
  ·have e0:(w0.toList== [119,105,110,100,111,119])=false:=hcmp.1.trans (decide_eq_false (by omega))
   have e1:(w0.toList== [99,121,99,108,101])=false:=hcmp.2.1.trans (decide_eq_false (by omega))
   have e2:(w0.toList== [100,101,108,97,121])=false:=hcmp.2.2.1.trans (decide_eq_false (by omega))
   have e3:(w0.toList== [101,110,116,105,116,121])=false:=hcmp.2.2.2.1.trans (decide_eq_false (by omega))
   clear hcmp
   have hYne:Y≠ []:=fun e=>HI.out.ne (Qu hk4 HZ2.out.symm) (by rw[H.out.eq,e];rfl)
   obtain⟨Z,y,rfl⟩:=Fz hYne
   have hmz:m=Z.length+1:=by rw[HM.out,List.length_append,List.length_singleton]
   obtain⟨mz,hmz2⟩:∃mz,mz=Z.length:=⟨_,rfl⟩
   obtain rfl:m=mz+1:=by rw[hmz,hmz2]
   obtain rfl:kx=(mz:Int):=by rw[HKX.out];omega
   obtain⟨g,off,vc2,hv2,⟨hc1,hc2⟩,hog,hbg,hgw,hgr,hcell⟩:=HR5.out.form
   obtain⟨rfl,-,rfl⟩:=Value.slice.inj hv2
   rw[<-hmz2]at hc1 hcell
   have HMZ:=Aia hmz2
   obtain⟨⟨pa',pc',hvp⟩,⟨ga',gc',hvg⟩,⟨ea',ec',hve⟩,⟨fa',fc',hvf⟩,⟨la',lc',hvl⟩⟩:=K7 HR5.out.last
   have q0:=hcell 0 _ rfl
   have q1:=hcell 1 _ rfl
   have q2:=hcell 2 _ rfl
   have q3:=hcell 3 _ rfl
   have q4:=hcell 4 _ rfl
   have q5:=hcell 5 _ rfl
   have q6:=hcell 6 _ rfl
   have q7:=hcell 7 _ rfl
   have q8:=hcell 8 _ rfl
   have q9:=hcell 9 _ rfl
   simp only[<-Nat.add_assoc,Nat.add_zero]at q0 q1 q2 q3 q4 q5 q6 q7 q8 q9
   rw[hvp]at q2
   rw[hvg]at q6
   rw[hve]at q7
   rw[hvf]at q8
   rw[hvl]at q9
   have HVS:=Aia (And.intro hvp (And.intro hvg (And.intro hve (And.intro hvf hvl))))
   clear hmz hmz2 hv2 hcell hvp hvg hve hvf hvl hYne
   go_upto_region 63 with fail
   have hxe:=Ab w5 (.cells #[.string y.E.name,.int .i64 y.E.tol,.slice pa' y.E.points.length pc',.int .i64 y.E.count,.int .i64 y.E.mn,.int .i64 y.E.mx,.slice ga' y.E.gaps.length gc',.slice ea' y.E.edges.length ec',.slice fa' y.E.first.length fc',.slice la' y.E.last.length lc'] 50)
   have hbe:Below w5.heap.size w5 (w5.alloc (.cells #[.string y.E.name,.int .i64 y.E.tol,.slice pa' y.E.points.length pc',.int .i64 y.E.count,.int .i64 y.E.mn,.int .i64 y.E.mx,.slice ga' y.E.gaps.length gc',.slice ea' y.E.edges.length ec',.slice fa' y.E.first.length fc',.slice la' y.E.last.length lc'] 50)):=(Below.refl _ _).alloc (Nat.le_refl _) _
   generalize w5.alloc _=w6 at hxe hbe ⊢
   obtain⟨eb,hebq⟩:∃eb,eb=w5.heap.size:=⟨_,rfl⟩
   rw[<-hebq]at hxe ⊢
   have hrl5:=Aa HR5.out.blk
   have hel:=Aa hxe
   have HXE:Hid (w6.heap[eb]? =some (.cells (Aj y).toArray 50)):=Aia (by
    rw[show(Aj y).toArray=#[.string y.E.name,.int .i64 y.E.tol,.slice pa' y.E.points.length pc',.int .i64 y.E.count,.int .i64 y.E.mn,.int .i64 y.E.mx,.slice ga' y.E.gaps.length gc',.slice ea' y.E.edges.length ec',.slice fa' y.E.first.length fc',.slice la' y.E.last.length lc'] from by
     obtain⟨v1,v2,v3,v4,v5⟩:=HVS.out
     show #[.string y.E.name,.int .i64 y.E.tol,y.p,.int .i64 y.E.count,.int .i64 y.E.mn,.int .i64 y.E.mx,y.g,y.e,y.f,y.l]=_
     rw[v1,v2,v3,v4,v5]]
    exact hxe)
   have HBE:=Aia hbe
   have hcb5:cb<w5.heap.size:=by omega
   rw[<-hbe.cell (p:=⟨cb,coff,none⟩) hcb5]at u0
   rw[<-hbe.cell (p:=⟨cb,coff+1,none⟩) hcb5]at u1
   have HN6:Hid (∀(j:Nat) x,d[j]? =some x->w6.cell? ⟨nb,noff+j,none⟩=some (.int .i64 x)):=Aia (fun j x hx=>by rw[hbe.cell (p:=⟨nb,noff+j,none⟩) hnb2];exact HNL.out j x hx)
   have HEB:=Aia (show w5.heap.size<=eb from by omega)
   clear hebq hxe hbe c0 c1 c2 c3 c4 c5 cf q0 q1 q2 q3 q4 q5 q6 q7 q8 q9
   go_upto_block 5 with fail
   go_cut [] (fun wx=>∃y':Aw,Hid (BX w5 base o Z.length eb (Bl k t0 (pick fs.data.toList d) y.E) y y' wx))
   case first=>
    have hn5:=HF.out.each y (by simp)
    have hk9:=HK9.out
    rcases(show k=4\/k=5\/k=6\/k=7\/k=8\/k=9 from by omega)with rfl|rfl|rfl|rfl|rfl|rfl
    ·obtain⟨pa,rfl⟩:=Qf (n:=d) (by rw[hdl2,<-hnfv,hpk];rfl)
     have hnf2k:i=1:=by rw[hpk]at hnfv;exact hnfv.symm
     have hpe:=Aia (show pick fs.data.toList [pa]= [] from by rw[hpk];rfl)
     refine Aht w5 w6 base rb o st.c w0 t0 _ Z y eb cb coff i cap nb noff nc pa HKW.out.1 HR5 HBE HEB HXE hn5 u0 u1 (HN6.out 0 _ rfl) hcb5 hocb hnb2 honb hcap hncap (by omega) (by omega) (by omega) _ _ _ _ _ _ _ _ _ _ _ _ _ _ _ _ _ _ _ _ _ _ _ _ _ _ _ _ _ _ _ _ _ _ _ _ _ _ _ _ _ _ _ _ _ _ _ _ _ _ _ _ _ _ _ _ _ _ _ _ _ _ _ _ _ _ _ _ _ _ _ _ _ _ _ _ _ _ _ _ _ _ _ _ _ _ _ _ _ _ _ _ _ _ _ _ _ _ _ _ _ _ _ _ _ _ _ _ _ _ _ _ _ _ _ _ _ _ _ _ _ _ _ _ _ _ _ _ _ _ _ _ _ _ _ _ _ _ _ _ _ _ _ _ _ _ _ _ _ _ _ _ _ _ _ _ _ _ _ _ _ _ _ _ _ _ _ _ _ _ _ _ _ _ _ _ _ _ _ _ _ _ _ _ _ _ _ _ _ _ _ _ _ ?_ _ _ _ _ _ _ _ _ _ _ _ _ _ _ _ _ _ _ _ _ _ _ _ _ _ _ _ _ _ _ _ _ _ _ _ _ _ _ _ _ _ _ _ _ _ _ _ _ _ _ _ _ _ _ _ _ _ _ _ _ _ _ _ _ _ _ _ _ _ _ _ _ _ _ _ _ _ _
     intro y188 y189 y190 y191 y192 y193 y194 y195 y196 y197 y198 y199 y200 y201 y202 y203 y204 y205 y206 y207 y208 y209 y210 y211 y212 y213 y214 y215 y216 y217 y218 y219 y220 y221 y222 y223 y224 y225 y226 y227 y228 y229 y230 y231 y232 y233 y234 y235 y236 y237 y238 y239 y240 y241 y242 y243 y244 y245 y246 y247 y248 y249 y250 y251 y252 y253 y254 y255 y256 y257 y258 y259 y260 y261 y262 y263 y264 y265 w7 h7
     have H7:Hid (∃y':Aw,Hid (BX w5 base o Z.length eb (Bl 4 t0 [] y.E) y y' w7)):=h7
     clear h7
     go_wp2_with fail
     go_meet
     rw[hpe.out]
     exact H7.out
    ·obtain⟨pa,pb,pc,rfl⟩:=Agm (n:=d) (by rw[hdl2,<-hnfv,hpk];rfl)
     have hnf2k:i=3:=by rw[hpk]at hnfv;exact hnfv.symm
     have hpe:=Aia (show pick fs.data.toList [pa,pb,pc]= [pa,pb,pc] from by rw[hpk];rfl)
     refine Ahs w5 w6 base rb o st.c w0 t0 _ Z y eb cb coff i cap nb noff nc pa pb pc HKW.out.1 HR5 HBE HEB HXE hn5 u0 u1 (HN6.out 0 _ rfl) (HN6.out 1 _ rfl) (HN6.out 2 _ rfl) hcb5 hocb hnb2 honb hcap hncap (by omega) (by omega) (by omega) (by omega) (by omega) (by omega) (by omega) _ _ _ _ _ _ _ _ _ _ _ _ _ _ _ _ _ _ _ _ _ _ _ _ _ _ _ _ _ _ _ _ _ _ _ _ _ _ _ _ _ _ _ _ _ _ _ _ _ _ _ _ _ _ _ _ _ _ _ _ _ _ _ _ _ _ _ _ _ _ _ _ _ _ _ _ _ _ _ _ _ _ _ _ _ _ _ _ _ _ _ _ _ _ _ _ _ _ _ _ _ _ _ _ _ _ _ _ _ _ _ _ _ _ _ _ _ _ _ _ _ _ _ _ _ _ _ _ _ _ _ _ _ _ _ _ _ _ _ _ _ _ _ _ _ _ _ _ _ _ _ _ _ _ _ _ _ _ _ _ _ _ _ _ _ _ _ _ _ _ _ _ _ _ _ _ _ _ _ _ _ _ _ _ _ _ _ _ _ _ _ _ _ ?_ _ _ _ _ _ _ _ _ _ _ _ _ _ _ _ _ _ _ _ _ _ _ _ _ _ _ _ _ _ _ _ _ _ _ _ _ _ _ _ _ _ _ _ _ _ _ _ _ _ _ _ _ _ _ _ _ _ _ _ _ _ _ _ _ _ _ _ _ _ _ _ _ _ _ _ _ _ _
     intro y188 y189 y190 y191 y192 y193 y194 y195 y196 y197 y198 y199 y200 y201 y202 y203 y204 y205 y206 y207 y208 y209 y210 y211 y212 y213 y214 y215 y216 y217 y218 y219 y220 y221 y222 y223 y224 y225 y226 y227 y228 y229 y230 y231 y232 y233 y234 y235 y236 y237 y238 y239 y240 y241 y242 y243 y244 y245 y246 y247 y248 y249 y250 y251 y252 y253 y254 y255 y256 y257 y258 y259 y260 y261 y262 y263 y264 y265 w7 h7
     have H7:Hid (∃y':Aw,Hid (BX w5 base o Z.length eb (Bl 5 t0 [pa,pb,pc] y.E) y y' w7)):=h7
     clear h7
     go_wp2_with fail
     go_meet
     rw[hpe.out]
     exact H7.out
    ·obtain⟨pa,pb,pc,pd,rfl⟩:=Agl (n:=d) (by rw[hdl2,<-hnfv,hpk];rfl)
     have hnf2k:i=4:=by rw[hpk]at hnfv;exact hnfv.symm
     have hpe:=Aia (show pick fs.data.toList [pa,pb,pc,pd]= [pa,pb,pc,pd] from by rw[hpk];rfl)
     refine Ahr w5 w6 base rb o st.c w0 t0 _ Z y eb cb coff i cap nb noff nc pa pb pc pd HKW.out.1 HR5 HBE HEB HXE hn5 u0 u1 (HN6.out 0 _ rfl) (HN6.out 1 _ rfl) (HN6.out 2 _ rfl) (HN6.out 3 _ rfl) hcb5 hocb hnb2 honb hcap hncap (by omega) (by omega) (by omega) (by omega) (by omega) (by omega) (by omega) (by omega) (by omega) _ _ _ _ _ _ _ _ _ _ _ _ _ _ _ _ _ _ _ _ _ _ _ _ _ _ _ _ _ _ _ _ _ _ _ _ _ _ _ _ _ _ _ _ _ _ _ _ _ _ _ _ _ _ _ _ _ _ _ _ _ _ _ _ _ _ _ _ _ _ _ _ _ _ _ _ _ _ _ _ _ _ _ _ _ _ _ _ _ _ _ _ _ _ _ _ _ _ _ _ _ _ _ _ _ _ _ _ _ _ _ _ _ _ _ _ _ _ _ _ _ _ _ _ _ _ _ _ _ _ _ _ _ _ _ _ _ _ _ _ _ _ _ _ _ _ _ _ _ _ _ _ _ _ _ _ _ _ _ _ _ _ _ _ _ _ _ _ _ _ _ _ _ _ _ _ _ _ _ _ _ _ _ _ _ _ _ _ _ _ _ _ _ ?_ _ _ _ _ _ _ _ _ _ _ _ _ _ _ _ _ _ _ _ _ _ _ _ _ _ _ _ _ _ _ _ _ _ _ _ _ _ _ _ _ _ _ _ _ _ _ _ _ _ _ _ _ _ _ _ _ _ _ _ _ _ _ _ _ _ _ _ _ _ _ _ _ _ _ _ _ _ _
     intro y188 y189 y190 y191 y192 y193 y194 y195 y196 y197 y198 y199 y200 y201 y202 y203 y204 y205 y206 y207 y208 y209 y210 y211 y212 y213 y214 y215 y216 y217 y218 y219 y220 y221 y222 y223 y224 y225 y226 y227 y228 y229 y230 y231 y232 y233 y234 y235 y236 y237 y238 y239 y240 y241 y242 y243 y244 y245 y246 y247 y248 y249 y250 y251 y252 y253 y254 y255 y256 y257 y258 y259 y260 y261 y262 y263 y264 y265 w7 h7
     have H7:Hid (∃y':Aw,Hid (BX w5 base o Z.length eb (Bl 6 t0 [pa,pb,pc,pd] y.E) y y' w7)):=h7
     clear h7
     go_wp2_with fail
     go_meet
     rw[hpe.out]
     exact H7.out
    ·obtain⟨pa,pb,rfl⟩:=kZ (n:=d) (by rw[hdl2,<-hnfv,hpk];rfl)
     have hnf2k:i=2:=by rw[hpk]at hnfv;exact hnfv.symm
     have hpe:=Aia (show pick fs.data.toList [pa,pb]= [pa,pb] from by rw[hpk];rfl)
     refine Ahq w5 w6 base rb o st.c w0 t0 _ Z y eb cb coff i cap nb noff nc pa pb HKW.out.1 HR5 HBE HEB HXE hn5 u0 u1 (HN6.out 0 _ rfl) (HN6.out 1 _ rfl) hcb5 hocb hnb2 honb hcap hncap (by omega) (by omega) (by omega) (by omega) (by omega) _ _ _ _ _ _ _ _ _ _ _ _ _ _ _ _ _ _ _ _ _ _ _ _ _ _ _ _ _ _ _ _ _ _ _ _ _ _ _ _ _ _ _ _ _ _ _ _ _ _ _ _ _ _ _ _ _ _ _ _ _ _ _ _ _ _ _ _ _ _ _ _ _ _ _ _ _ _ _ _ _ _ _ _ _ _ _ _ _ _ _ _ _ _ _ _ _ _ _ _ _ _ _ _ _ _ _ _ _ _ _ _ _ _ _ _ _ _ _ _ _ _ _ _ _ _ _ _ _ _ _ _ _ _ _ _ _ _ _ _ _ _ _ _ _ _ _ _ _ _ _ _ _ _ _ _ _ _ _ _ _ _ _ _ _ _ _ _ _ _ _ _ _ _ _ _ _ _ _ _ _ _ _ _ _ _ _ _ _ _ _ _ _ ?_ _ _ _ _ _ _ _ _ _ _ _ _ _ _ _ _ _ _ _ _ _ _ _ _ _ _ _ _ _ _ _ _ _ _ _ _ _ _ _ _ _ _ _ _ _ _ _ _ _ _ _ _ _ _ _ _ _ _ _ _ _ _ _ _ _ _ _ _ _ _ _ _ _ _ _ _ _ _
     intro y188 y189 y190 y191 y192 y193 y194 y195 y196 y197 y198 y199 y200 y201 y202 y203 y204 y205 y206 y207 y208 y209 y210 y211 y212 y213 y214 y215 y216 y217 y218 y219 y220 y221 y222 y223 y224 y225 y226 y227 y228 y229 y230 y231 y232 y233 y234 y235 y236 y237 y238 y239 y240 y241 y242 y243 y244 y245 y246 y247 y248 y249 y250 y251 y252 y253 y254 y255 y256 y257 y258 y259 y260 y261 y262 y263 y264 y265 w7 h7
     have H7:Hid (∃y':Aw,Hid (BX w5 base o Z.length eb (Bl 7 t0 [pa,pb] y.E) y y' w7)):=h7
     clear h7
     go_wp2_with fail
     go_meet
     rw[hpe.out]
     exact H7.out
    ·obtain⟨pa,rfl⟩:=Qf (n:=d) (by rw[hdl2,<-hnfv,hpk];rfl)
     have hnf2k:i=1:=by rw[hpk]at hnfv;exact hnfv.symm
     have hpe:=Aia (show pick fs.data.toList [pa]= [pa] from by rw[hpk];rfl)
     refine Ahp w5 w6 base rb o st.c w0 t0 _ Z y eb cb coff i cap nb noff nc pa HKW.out.1 HR5 HBE HEB HXE hn5 u0 u1 (HN6.out 0 _ rfl) hcb5 hocb hnb2 honb hcap hncap (by omega) (by omega) (by omega) _ _ _ _ _ _ _ _ _ _ _ _ _ _ _ _ _ _ _ _ _ _ _ _ _ _ _ _ _ _ _ _ _ _ _ _ _ _ _ _ _ _ _ _ _ _ _ _ _ _ _ _ _ _ _ _ _ _ _ _ _ _ _ _ _ _ _ _ _ _ _ _ _ _ _ _ _ _ _ _ _ _ _ _ _ _ _ _ _ _ _ _ _ _ _ _ _ _ _ _ _ _ _ _ _ _ _ _ _ _ _ _ _ _ _ _ _ _ _ _ _ _ _ _ _ _ _ _ _ _ _ _ _ _ _ _ _ _ _ _ _ _ _ _ _ _ _ _ _ _ _ _ _ _ _ _ _ _ _ _ _ _ _ _ _ _ _ _ _ _ _ _ _ _ _ _ _ _ _ _ _ _ _ _ _ _ _ _ _ _ _ _ _ ?_ _ _ _ _ _ _ _ _ _ _ _ _ _ _ _ _ _ _ _ _ _ _ _ _ _ _ _ _ _ _ _ _ _ _ _ _ _ _ _ _ _ _ _ _ _ _ _ _ _ _ _ _ _ _ _ _ _ _ _ _ _ _ _ _ _ _ _ _ _ _ _ _ _ _ _ _ _ _
     intro y188 y189 y190 y191 y192 y193 y194 y195 y196 y197 y198 y199 y200 y201 y202 y203 y204 y205 y206 y207 y208 y209 y210 y211 y212 y213 y214 y215 y216 y217 y218 y219 y220 y221 y222 y223 y224 y225 y226 y227 y228 y229 y230 y231 y232 y233 y234 y235 y236 y237 y238 y239 y240 y241 y242 y243 y244 y245 y246 y247 y248 y249 y250 y251 y252 y253 y254 y255 y256 y257 y258 y259 y260 y261 y262 y263 y264 y265 w7 h7
     have H7:Hid (∃y':Aw,Hid (BX w5 base o Z.length eb (Bl 8 t0 [pa] y.E) y y' w7)):=h7
     clear h7
     go_wp2_with fail
     go_meet
     rw[hpe.out]
     exact H7.out
    ·obtain⟨pa,rfl⟩:=Qf (n:=d) (by rw[hdl2,<-hnfv,hpk];rfl)
     have hnf2k:i=1:=by rw[hpk]at hnfv;exact hnfv.symm
     have hpe:=Aia (show pick fs.data.toList [pa]= [pa] from by rw[hpk];rfl)
     refine Aho w5 w6 base rb o st.c w0 t0 _ Z y eb cb coff i cap nb noff nc pa HKW.out.1 HR5 HBE HEB HXE hn5 u0 u1 (HN6.out 0 _ rfl) hcb5 hocb hnb2 honb hcap hncap (by omega) (by omega) (by omega) _ _ _ _ _ _ _ _ _ _ _ _ _ _ _ _ _ _ _ _ _ _ _ _ _ _ _ _ _ _ _ _ _ _ _ _ _ _ _ _ _ _ _ _ _ _ _ _ _ _ _ _ _ _ _ _ _ _ _ _ _ _ _ _ _ _ _ _ _ _ _ _ _ _ _ _ _ _ _ _ _ _ _ _ _ _ _ _ _ _ _ _ _ _ _ _ _ _ _ _ _ _ _ _ _ _ _ _ _ _ _ _ _ _ _ _ _ _ _ _ _ _ _ _ _ _ _ _ _ _ _ _ _ _ _ _ _ _ _ _ _ _ _ _ _ _ _ _ _ _ _ _ _ _ _ _ _ _ _ _ _ _ _ _ _ _ _ _ _ _ _ _ _ _ _ _ _ _ _ _ _ _ _ _ _ _ _ _ _ _ _ _ _ ?_ _ _ _ _ _ _ _ _ _ _ _ _ _ _ _ _ _ _ _ _ _ _ _ _ _ _ _ _ _ _ _ _ _ _ _ _ _ _ _ _ _ _ _ _ _ _ _ _ _ _ _ _ _ _ _ _ _ _ _ _ _ _ _ _ _ _ _ _ _ _ _ _ _ _ _ _ _ _
     intro y188 y189 y190 y191 y192 y193 y194 y195 y196 y197 y198 y199 y200 y201 y202 y203 y204 y205 y206 y207 y208 y209 y210 y211 y212 y213 y214 y215 y216 y217 y218 y219 y220 y221 y222 y223 y224 y225 y226 y227 y228 y229 y230 y231 y232 y233 y234 y235 y236 y237 y238 y239 y240 y241 y242 y243 y244 y245 y246 y247 y248 y249 y250 y251 y252 y253 y254 y255 y256 y257 y258 y259 y260 y261 y262 y263 y264 y265 w7 h7
     have H7:Hid (∃y':Aw,Hid (BX w5 base o Z.length eb (Bl 9 t0 [pa] y.E) y y' w7)):=h7
     clear h7
     go_wp2_with fail
     go_meet
     rw[hpe.out]
     exact H7.out
   case rest=>
   obtain⟨y',hbx⟩:=hcut
   have HR5':Hid (D0 base rb o st.c w0 (.slice (some ⟨g,off,none⟩) (Z.length+1) vc) (Z++ [y]) w5):=Aia (by have:=HR5.out;rw[HMZ.out]at this;exact this)
   obtain⟨h4,hrow,⟨xp,xpc,hxp⟩,⟨xg,xgc,hxg⟩,⟨xe,xec,hxe⟩,⟨xf,xfc,hxf⟩,⟨xl,xlc,hxl⟩⟩:=hbx.out.here HR5'.out
   obtain⟨hold,hfz⟩:=Afl hrow
   have hend:=hbx.out.end hk4 HR5'.out
   have hbox:=hbx.out.box
   rw[show(Aj y').toArray=#[.string y'.E.name,.int .i64 y'.E.tol,.slice xp y'.E.points.length xpc,.int .i64 y'.E.count,.int .i64 y'.E.mn,.int .i64 y'.E.mx,.slice xg y'.E.gaps.length xgc,.slice xe y'.E.edges.length xec,.slice xf y'.E.first.length xfc,.slice xl y'.E.last.length xlc] from by
    show #[.string y'.E.name,.int .i64 y'.E.tol,y'.p,.int .i64 y'.E.count,.int .i64 y'.E.mn,.int .i64 y'.E.mx,y'.g,y'.e,y'.f,y'.l]=_
    rw[hxp,hxg,hxe,hxf,hxl]]at hbox
   unfold Sd at hend
   rw[hxp,hxg,hxe,hxf,hxl]at hend
   rw[<-HMZ.out]at h4 hold hfz hend
   obtain⟨z0,z1,z2,z3,z4,z5,z6,z7,z8,z9,zf⟩:=Bs hbox
   have q0:=hold 0 _ rfl
   have q1:=hold 1 _ rfl
   have q2:=hold 2 _ rfl
   have q3:=hold 3 _ rfl
   have q4:=hold 4 _ rfl
   have q5:=hold 5 _ rfl
   have q6:=hold 6 _ rfl
   have q7:=hold 7 _ rfl
   have q8:=hold 8 _ rfl
   have q9:=hold 9 _ rfl
   have f0:=hfz 0 (by decide)
   have f1:=hfz 1 (by decide)
   have f2:=hfz 2 (by decide)
   have f3:=hfz 3 (by decide)
   have f4:=hfz 4 (by decide)
   have f5:=hfz 5 (by decide)
   have f6:=hfz 6 (by decide)
   have f7:=hfz 7 (by decide)
   have f8:=hfz 8 (by decide)
   have f9:=hfz 9 (by decide)
   simp only[Nat.add_zero]at q0 f0
   have HEND:Hid ((∃o' v' Y',D0 base rb o' (Bf k t0 (pick fs.data.toList d) st.c) (kwB k) v' Y' _)/\Ae (fun b=>b=rb\/base<=b) w _):=Aia (by
    obtain⟨⟨o',hA⟩,hK⟩:=hend
    rw[HKW.out.1]at hA
    refine⟨⟨o',_,_,hA⟩,HK5.out.step hK (fun b hb hl=>?_)⟩
    obtain⟨tg,hb⟩:=hb
    right
    by_cases hbb:b<base
    ·rw[HR5.out.ob b hbb]at hb;cases hb
    ·omega)
   clear hold hfz hend hbox hrow hxp hxg hxe hxf hxl
   go_upto_region 78 with fail
   go_region
   all_goals
    go_wp2_with fail
    go_ret
    exact Jr HL.out (Afv HEND.out.1) HEND.out.2.drew
end Go.Proofs.YtikehilbmldadaaGreatDoor
