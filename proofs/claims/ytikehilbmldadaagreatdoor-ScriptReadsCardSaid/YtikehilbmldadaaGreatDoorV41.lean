import Derived.Test.YtikehilbmldadaaGreatDoorV36
import Derived.Test.YtikehilbmldadaaGreatDoorV26
set_option maxHeartbeats 8000000
set_option maxRecDepth 100000
set_option linter.unusedVariables false
open Go.Proofs.Tryz Go.Proofs.YtikehilbmldadaaGreatDoor.Tryz
namespace Go.Proofs.YtikehilbmldadaaGreatDoor
open Go.RowKit
theorem PG.drewP{B b:Nat}{l:List UInt8}{w0 w:World}(h:PG B b l w0 w):PG B b l w0 w.drew:=h.below (Below.drew (Below.refl _ _))
theorem PG.allocP{B b:Nat}{l:List UInt8}{w0 w:World}(h:PG B b l w0 w)(o:Obj):PG B b l w0 (w.alloc o):=h.below ((Below.refl _ _).alloc (Nat.le_refl _) _)
theorem PG.self{B b:Nat}{l:List UInt8}{w0 w:World}(h:PG B b l w0 w):PG B b l w w:=⟨h.pg,Below.refl _ _,Oth.refl _ _⟩
theorem PG.more{B b:Nat}{l l':List UInt8}{w0 w w':World}(h:PG B b l w0 w)(k:PG B b l' w w'):PG B b l' w0 w':=⟨k.pg,h.bel.trans k.bel,h.oth.trans k.oth⟩
theorem Zm{B b:Nat}{l:List UInt8}{ws:List W1}{w0 wk:World}{wb:Nat}(h:PG B b l w0 wk)(hv:wk.heap[wb]? =some (.cells (ws.map Tp).toArray 20))(hne:wb≠b)(hT:J4 B w0)(hw:Gr ws)(hl:l.length<=900000):
  Calls Tryz.prog 58 #[.pointer (some ⟨b,0,none⟩),.slice (some ⟨wb,0,none⟩) ws.length ws.length] wk fun e w'=>e=.returned (.tuple #[])/\PG B b (l++Ca ws) w0 w':=by
 have hlt:=h.pg.lt
 have hln:=hw.line
 refine(Rl B b l ws wb wk h.pg (by omega) (hT.low h.bel (Nat.le_refl _)) (fun x hx=>(hw.ok x hx).1) hv hne (by omega) (by have:=hw.len;omega)).mono ?_
 rintro e w' ⟨rfl,hp⟩
 exact⟨rfl,h.more hp⟩
theorem tQ{E:Ap}{k:Nat}(h:k<E.points.length):Bb E (k:Int)=E.points[k]:=by
 unfold Bb
 rw[Int.toNat_natCast,List.getD_eq_getElem?_getD,List.getElem?_eq_getElem h];rfl
theorem Mj{R:Nat->Prop}{w:World}{E:Ap}{ao:Option Addr}{cap:Nat}(h:Ay R w (.slice ao E.points.length cap) 1 (Ad E.points) E.points.length){k:Nat}(hk:k<E.points.length):
  ∃bp offp,ao=some ⟨bp,offp,none⟩/\R bp/\bp<w.heap.size/\∀j,j<E.points.length->w.cell? ⟨bp,offp+j,none⟩=some (.string (Bb E (j:Int))):=by
 obtain⟨_,ao',cap',hv',hp1,hp2,hp3,hp4⟩:=h
 obtain⟨rfl,_,rfl⟩:=Value.slice.inj hv'
 obtain⟨bp,offp,hpa,hRp,hbp,hcp⟩:=hp4 (by simp[Ad];omega)
 refine⟨bp,offp,hpa,hRp,hbp,fun j hj=>?_⟩
 rw[tQ hj]
 exact hcp j _ (by simp[Ad,hj])
theorem Acc(B:Nat)(sa:Nat->Addr)(R:Nat->Prop)(C:Al)(v:Value)(X:List Aw)(w:World)(hS:Fv B sa w)(hT:J4 w.heap.size w)(h:Ez R w C v X)(hR:∀b,R b->b<w.heap.size)(hC:B7 C=(0,-1)):
  Calls Tryz.prog 31 #[.agg (A4 C v)] w fun e w'=>e=.returned (.tuple #[.string ⟨(Df C).toArray⟩,.nilIface])/\Below w.heap.size w w':=by
 obtain⟨ao,cap,rfl⟩:=h.sl.row.val
 obtain⟨hc1,hc2⟩:=h.sl.row.capB
 have hbC:=(Cw hC).1
 unfold Dt at hbC
 rw[decide_eq_false_iff_not]at hbC
 have h1:xE (.num C.closed):=⟨by omega,by omega⟩
 have h2:xE (.num C.opn):=⟨by omega,by omega⟩
 have h3:xE (.num C.cycle):=⟨by omega,by omega⟩
 have h4:xE (.num C.delay):=⟨by omega,by omega⟩
 clear hbC
 have hxa:=Ab w (.cells (A4 C (.slice ao X.length cap)) 30)
 have hba:Below w.heap.size w (w.alloc (.cells (A4 C (.slice ao X.length cap)) 30)):=(Below.refl _ _).alloc (Nat.le_refl _) _
 have w1ok:Gr [.str Ii,.num C.closed,.num C.opn]:=((Gr.nil.num (by simp) _ h2).num (by simp) _ h1).str (by simp) _ (by decide)
 have w2ok:Gr [.str Je,.num C.cycle]:=(Gr.nil.num (by simp) _ h3).str (by simp) _ (by decide)
 have w3ok:Gr [.str N6,.num C.delay]:=(Gr.nil.num (by simp) _ h4).str (by simp) _ (by decide)
 have HW1:=Aia w1ok
 have HW2:=Aia w2ok
 have HW3:=Aia w3ok
 have HT:=Aia hT
 have hck:∀W,Below w.heap.size w W->Calls Tryz.prog 57 #[.agg (A4 C (.slice ao X.length cap))] W fun e w'=>e=.returned .nilIface/\Below W.heap.size W w':=fun W hB=>by
  refine(Yk B sa R C (.slice ao X.length cap) X W (hS.on hB) (h.below hB hR) (Du hR hB)).mono ?_
  rintro e w' ⟨u,rfl,hu,hb⟩
  rw[hC]at hu
  rcases hu with⟨_,hu⟩|⟨hu,_⟩
  ·exact⟨by rw[hu];rfl,hb⟩
  ·exact absurd hu (by decide)
 have HCk:=Aia hck
 have HGood:Hid (∀i (hi:i<X.length),Fu X[i].E):=Aia (fun i hi=>by
  have hl:i<C.ents.length:=by rw[h.eq,List.length_map];exact hi
  have:=(Cw hC).2.2 i hl
  rw[Mp hl]at this
  have hg:=T6 this
  simpa [h.eq] using hg)
 have H:=Aia h
 have HRw:=Aia hR
 have HL8:=Aia (show X.length<=8 from by
  have:=(Cw hC).1
  unfold Dt at this
  rw[decide_eq_false_iff_not]at this
  rw[h.eq,List.length_map]at this
  omega)
 clear h1 h2 h3 h4 w1ok w2ok w3ok hT hck hS hC h hR
 unfold A4 at hxa hba HCk ⊢
 go_enter func31,ntmps31
 go_upto_region 1 with fail
 generalize w.alloc _=w1 at hxa hba ⊢
 have HXA:Hid (w1.heap[w.heap.size]? =some (.cells (A4 C (.slice ao X.length cap)) 30)):=hxa
 obtain⟨c0,c1,c2,c3,c4⟩:=Br HXA.out
 clear hxa
 go_wp2_with fail
 refine(HCk.out w1 hba).mono ?_
 rintro e w2 ⟨rfl,b2⟩
 have HX2:=Aia (Af b2 HXA.out (Aa HXA.out))
 have HB2:=Aia (hba.trans (b2.mono hba.size))
 clear c0 c1 c2 c3 c4 hba b2 HXA HCk
 go_upto_region 5 with fail
 have hp3:PG w2.heap.size w2.heap.size [] (w2.alloc (.cells #[.pointer none,.slice none 0 0] 123)) (w2.alloc (.cells #[.pointer none,.slice none 0 0] 123)):=⟨Lib.fresh_isBuilder _ _ w2,Below.refl _ _,Oth.refl _ _⟩
 have b3:Below w2.heap.size w2 (w2.alloc (.cells #[.pointer none,.slice none 0 0] 123)):=(Below.refl _ _).alloc (Nat.le_refl _) _
 generalize w2.alloc _=w3 at hp3 b3 ⊢
 obtain⟨b,hbq⟩:∃b,b=w2.heap.size:=⟨_,rfl⟩
 have HX3:=Aia (Af b3 HX2.out (Aa HX2.out))
 have HB3:=Aia (HB2.out.trans (b3.mono HB2.out.size))
 have HT3:=Aia ((HT.out.low HB3.out (Nat.le_refl _)).low (Below.refl w3.heap.size w3) HB3.out.size)
 have hwb:=HB2.out.size
 have hxlt:=Aa HX2.out
 rw[<-hbq]at hp3 hwb hxlt ⊢
 have HP3:=Aia hp3
 have HTB:Hid (J4 b w3):=fun W hW=>HT3.out W (hW.mono hwb)
 obtain⟨c0,c1,c2,c3,c4⟩:=Br HX3.out
 clear hp3 b3 HX2 HB2 hbq
 have HL1:=Aia (Jb HP3.out HTB.out HW1.out (by decide))
 go_wp2_with fail
 refine HL1.out.mono ?_
 rintro e w4 ⟨rfl,hp4⟩
 have HP4:=Aia hp4
 have HX4:=Aia (Af hp4.bel HX3.out hxlt)
 clear c0 c1 c2 c3 c4 hp4 HL1
 obtain⟨c0,c1,c2,c3,c4⟩:=Br HX4.out
 have HL2:=Aia (Jb HP4.out HTB.out HW2.out (by have:=HW1.out.line;rw[List.length_append];simp;omega))
 go_wp2_with fail
 refine HL2.out.mono ?_
 rintro e w5 ⟨rfl,hp5⟩
 have HP5:=Aia hp5
 have HX5:=Aia (Af hp5.bel HX3.out hxlt)
 clear c0 c1 c2 c3 c4 hp5 HL2
 obtain⟨c0,c1,c2,c3,c4⟩:=Br HX5.out
 have HL3:=Aia (Jb HP5.out HTB.out HW3.out (by have:=HW1.out.line;have:=HW2.out.line;simp only[List.length_append,List.length_nil];omega))
 go_wp2_with fail
 refine HL3.out.mono ?_
 rintro e w6 ⟨rfl,hp6⟩
 have HX6:=Aia (Af hp6.bel HX3.out hxlt)
 have hh:([]++Ca [.str Ii,.num C.closed,.num C.opn]++Ca [.str Je,.num C.cycle]++Ca [.str N6,.num C.delay]:List UInt8)=Hm C:=by simp[Hm,G2]
 rw[hh]at hp6
 have HP6:=Aia hp6
 clear hp6 HL3 hh
 obtain⟨c0,c1,c2,c3,c4⟩:=Br HX6.out
 have HHL:=Aia (show(Hm C).length<=618 from by
  have h1:=HW1.out.line
  have h2:=HW2.out.line
  have h3:=HW3.out.line
  simp only[Hm,G2,List.flatMap_cons,List.flatMap_nil,List.length_append,List.length_nil]
  omega)
 go_wp2_with fail
 go_loopw [52] (fun s wr=>∃i:Nat,i<=X.length/\s=.int .i64 i/\Hid (PG b b (Hm C++(X.take i).flatMap (fun x=>Aq (B6 x.E))) w3 wr)/\Hid ((Hm C++(X.take i).flatMap (fun x=>Aq (B6 x.E))).length<=618+26000*i)) (fun s _=>X.length-(intOf s).toNat)
 case atStart=>exact⟨0,Nat.zero_le _,rfl,(show PG b b (Hm C++ []) w3 w6 from by rw[List.append_nil];exact HP6.out),(show(Hm C++ []).length<=618+26000*0 from by rw[List.append_nil];exact HHL.out)⟩
 case round=>
  obtain⟨i,hi,rfl,hp,hlen⟩:=hrel
  obtain⟨L0,hL0⟩:∃L0,L0=Hm C++(X.take i).flatMap (fun x=>Aq (B6 x.E)):=⟨_,rfl⟩
  rw[<-hL0]at hp hlen
  have HL0:=Aia hL0
  clear hL0 HP6 HHL HX6 c0 c1 c2 c3 c4
  by_cases hlt:i<X.length
  ·obtain⟨eb0,off,rfl,hRb,hb,hc⟩:=O4 H.out.sl.row (by omega)
   obtain⟨q0,q1,q2,q3,q4,q5,q6,q7,q8,q9⟩:=hc i hlt
   have hRb':=HRw.out eb0 hRb
   have HBR:=Aia (show Below w.heap.size w wr from HB3.out.trans (hp.out.bel.mono hwb))
   rw[<-HBR.out.cell hRb']at q0 q1 q2 q3 q4 q5 q6 q7 q8 q9
   have hEs:=H.out.sl.each X[i] (List.getElem_mem hlt)
   have HG:=Aia (HGood.out i hlt)
   have HTk:=Aia (show(X.take (i+1)).flatMap (fun x=>Aq (B6 x.E))=(X.take i).flatMap (fun x=>Aq (B6 x.E))++Aq (B6 X[i].E)from by rw[List.take_succ_eq_append_getElem hlt,List.flatMap_append,List.flatMap_singleton])
   have hEs0:=hEs
   obtain⟨xe,hxe⟩:∃xe,xe=X[i].E:=⟨_,rfl⟩
   obtain⟨pa,pc,hvp⟩:=hEs.p.val
   obtain⟨ga,gc,hvg⟩:=hEs.g.val
   obtain⟨ea,ec,hve⟩:=hEs.e.val
   obtain⟨fa,fc,hvf⟩:=hEs.f.val
   obtain⟨la,lc,hvl⟩:=hEs.l.val
   rw[hvp,hvg,hve,hvf,hvl]at hEs0
   rw[hvp]at q2
   rw[hvg]at q6
   rw[hve]at q7
   rw[hvf]at q8
   rw[hvl]at q9
   rw[<-hxe]at HG HTk hEs0 q0 q1 q2 q3 q4 q5 q6 q7 q8 q9
   have HES:=Aia hEs0
   clear hEs hEs0 hc hvp hvg hve hvf hvl hxe
   go_upto_region 11 with fail
   have hxb:=Ab wr (.cells (A7 xe (.slice pa xe.points.length pc) (.slice ga xe.gaps.length gc) (.slice ea xe.edges.length ec) (.slice fa xe.first.length fc) (.slice la xe.last.length lc)) 50)
   have hbb:Below wr.heap.size wr (wr.alloc (.cells (A7 xe (.slice pa xe.points.length pc) (.slice ga xe.gaps.length gc) (.slice ea xe.edges.length ec) (.slice fa xe.first.length fc) (.slice la xe.last.length lc)) 50)):=(Below.refl _ _).alloc (Nat.le_refl _) _
   unfold A7 at hxb hbb
   generalize wr.alloc _=wE at hxb hbb ⊢
   have hpE:=hp.out.below hbb
   have hbE:=hp.out.pg.lt
   obtain⟨eb,heb⟩:∃eb,eb=wr.heap.size:=⟨_,rfl⟩
   rw[<-heb]at hxb hbE ⊢
   have HXB:Hid (wE.heap[eb]? =some (.cells (A7 xe (.slice pa xe.points.length pc) (.slice ga xe.gaps.length gc) (.slice ea xe.edges.length ec) (.slice fa xe.first.length fc) (.slice la xe.last.length lc)) 50)):=hxb
   have HPE:=Aia hpE
   have HP1:Hid (PG b b L0 wE wE):=Aia (⟨hpE.pg,Below.refl _ _,Oth.refl _ _⟩)
   have HTE:Hid (J4 b wE):=Aia (HTB.out.low hpE.bel (Nat.le_refl _))
   have HSl:Hid (Ih R wE xe (.slice pa xe.points.length pc) (.slice ga xe.gaps.length gc) (.slice ea xe.edges.length ec) (.slice fa xe.first.length fc) (.slice la xe.last.length lc)):=(show Ih R wE xe _ _ _ _ _ from HES.out.keep (Ae.of_below (HB3.out.trans (hpE.bel.mono hwb))) (fun b hb hS=>by have:=HRw.out b hb;omega))
   have HRb:Hid (∀b',R b'->b'<b):=Aia (fun b' hb'=>Nat.lt_of_lt_of_le (HRw.out b' hb') hwb)
   have HXK:Hid (∀l' wk,PG b b l' wE wk->wk.heap[eb]? =some (.cells (A7 xe (.slice pa xe.points.length pc) (.slice ga xe.gaps.length gc) (.slice ea xe.edges.length ec) (.slice fa xe.first.length fc) (.slice la xe.last.length lc)) 50)):=(show _ from fun l' wk hk=>by
    refine hk.oth.block _ _ HXB.out (by omega) ?_
    show ¬(50=5)
    decide)
   obtain⟨z0,z1,z2,z3,z4,z5,z6,z7,z8,z9,zf⟩:=Bs hxb
   have HL1:=Aia (Jb HP1.out HTE.out (V0 HG.out) (by have:=hlen.out;have:=HL8.out;omega))
   clear q0 q1 q2 q3 q4 q5 q6 q7 q8 q9 hbb hxb hpE heb HES HBR hp HXB HP1
   go_wp2_with fail
   refine HL1.out.mono ?_
   rintro e w7 ⟨rfl,hp7⟩
   have HP7:=Aia hp7
   clear hp7 HL1 z0 z1 z2 z3 z4 z5 z6 z7 z8 z9 zf
   obtain⟨z0,z1,z2,z3,z4,z5,z6,z7,z8,z9,zf⟩:=Bs (HXK.out _ _ HP7.out)
   go_wp2_with fail
   obtain⟨L1,hL1⟩:∃L1,L1=L0++Ca [.str J2,.str xe.name,.num xe.tol]:=⟨_,rfl⟩
   have HL1l:=Aia (show L1.length<=619+26000*i+206 from by rw[hL1,List.length_append];have:=(V0 HG.out).line;have:=hlen.out;omega)
   have HP7:Hid (PG b b L1 wE w7):=Aia (by rw[hL1];exact HP7.out)
   have HL1:=Aia hL1
   clear hL1
   go_loopw [69] (fun s wk=>∃k:Nat,k<=xe.points.length/\s=.int .i64 k/\Hid (PG b b (L1++Aq ((xe.points.take k).map Hi)) wE wk)) (fun s _=>xe.points.length-(intOf s).toNat)
   case atStart=>exact⟨0,Nat.zero_le _,rfl,(show PG b b (L1++ []) wE w7 from by rw[List.append_nil];exact HP7.out)⟩
   case round=>
    obtain⟨k,hk,rfl,hpk⟩:=hrel
    clear HP7 z0 z1 z2 z3 z4 z5 z6 z7 z8 z9 zf
    by_cases hkl:k<xe.points.length
    ·obtain⟨_,ao',cap',hv',hp1,hp2,hp3,hp4⟩:=HSl.out.p
     obtain⟨rfl,_,rfl⟩:=Value.slice.inj hv'
     obtain⟨bp,offp,hpa,hRp,hbp,hcp⟩:=hp4 (by simp[Ad];omega)
     have ck:wr.cell? ⟨bp,offp+k,none⟩=some (.string xe.points[k]):=by
      rw[hpk.out.bel.cell (p:=⟨bp,offp+k,none⟩) (HRb.out bp hRp)]
      exact hcp k _ (by simp[Ad,hkl])
     have hTk:=Aia (show Aq ((xe.points.take (k+1)).map Hi)=Aq ((xe.points.take k).map Hi)++Ca (Hi xe.points[k])from by rw[List.take_succ_eq_append_getElem hkl,List.map_append,B4,List.map_cons,List.map_nil,D8])
     have hsm:(L1++Aq ((xe.points.take k).map Hi)).length<=900000:=by
      have h1:=Di (L:=(xe.points.take k).map Hi) (fun ws hws=>by
       obtain⟨s,hs,rfl⟩:=List.mem_map.1 hws
       exact Za HG.out (List.mem_of_mem_take hs))
      rw[List.length_map,List.length_take]at h1
      rw[List.length_append]
      have:=HL1l.out
      have:=HG.out.pl
      have:=HL8.out
      omega
     have HLp:=Aia (Jb hpk.out HTE.out (Za HG.out (List.getElem_mem hkl)) hsm)
     unfold Hi at HLp
     clear hp1 hp2 hp3 hp4 hcp hsm hv' hbp hRp
     have hpl:xe.points.length<=16:=HG.out.pl
     subst hpa
     go_wp2_with fail
     refine HLp.out.mono ?_
     rintro e w8 ⟨rfl,hp8⟩
     have HP8:Hid (PG b b (L1++Aq ((xe.points.take (k+1)).map Hi)) wE w8):=(show PG b b _ wE w8 from by rw[hTk.out,<-List.append_assoc];exact hp8)
     clear hp8 HLp
     go_wp2_with fail
     go_roundw
     case rel=>exact⟨k+1,by omega,by go_num,HP8⟩
     case measure=>simp[intOf];omega
    ·have HPk:Hid (PG b b (L1++Aq (xe.points.map Hi)) wE wr):=(show PG b b _ wE wr from by
      have:=hpk.out
      rw[(show k=xe.points.length by omega),List.take_length]at this
      exact this)
     obtain⟨L2,hL2⟩:∃L2,L2=L1++Aq (xe.points.map Hi):=⟨_,rfl⟩
     rw[<-hL2]at HPk
     have HL2l:=Aia (show L2.length<=619+26000*i+206+206*16 from by
      have h1:=Di (L:=xe.points.map Hi) (fun ws hws=>by
       obtain⟨s,hs,rfl⟩:=List.mem_map.1 hws
       exact Za HG.out hs)
      rw[List.length_map]at h1
      rw[hL2,List.length_append]
      have:=HL1l.out
      have:=HG.out.pl
      omega)
     have HL2:=Aia hL2
     clear hL2 hpk
     obtain⟨z0,z1,z2,z3,z4,z5,z6,z7,z8,z9,zf⟩:=Bs (HXK.out _ _ HPk.out)
     go_upto_if 82 with fail
     go_cut [] (fun wx=>Hid (PG b b (L2++Aq (Ew xe)) wE wx))
     case first=>
      by_cases hc0:0<=xe.count
      ·obtain⟨cn,hcnq⟩:∃cn:Nat,xe.count=cn:=⟨xe.count.toNat,(Int.toNat_of_nonneg hc0).symm⟩
       have hcn:cn<xe.points.length:=by
        have:=HG.out.cnt
        omega
       obtain⟨bp,offp,rfl,hRp,hbp,hcp⟩:=Mj HSl.out.p hcn
       have hRp2:=HRb.out bp hRp
       have ck:wr.cell? ⟨bp,offp+cn,none⟩=some (.string (Bb xe (cn:Int))):=by
        rw[HPk.out.bel.cell (p:=⟨bp,offp+cn,none⟩) hRp2]
        exact hcp cn hcn
       have HWs:=qZ HG.out
       rw[hcnq]at HWs z3
       have HLc:Hid (∀W wb,PG b b L2 wr W->W.heap[wb]? =some (.cells #[.iface 9 (.string N7),.iface 9 (.string (Bb xe (cn:Int))),.iface 3 (.int .i64 xe.mn),.iface 3 (.int .i64 xe.mx)] 20)->wb≠b->Calls Tryz.prog 58 #[.pointer (some ⟨b,0,none⟩),.slice (some ⟨wb,0,none⟩) 4 4] W fun e w'=>e=.returned (.tuple #[])/\PG b b (L2++Ca [.str N7,.str (Bb xe (cn:Int)),.num xe.mn,.num xe.mx]) wr w'):=(show _ from fun W wb hW hrow hne=>Zm hW hrow hne (HTE.out.low HPk.out.bel (Nat.le_refl _)) HWs (by have:=HL2l.out;have:=HL8.out;omega))
       have HCt:=Aia (show Ew xe= [[.str N7,.str (Bb xe (cn:Int)),.num xe.mn,.num xe.mx]] from by unfold Ew;rw[if_pos hc0,hcnq])
       have hcn2:(cn:Int)<(xe.points.length:Int):=by omega
       obtain⟨nm0,hnm0⟩:∃nm0,nm0=Bb xe (cn:Int):=⟨_,rfl⟩
       rw[<-hnm0]at ck HLc HCt
       obtain⟨np,hnp⟩:∃np,np=xe.points.length:=⟨_,rfl⟩
       rw[<-hnp]at z2 hcn2
       have HXr:=Aia (HXK.out _ _ HPk.out)
       have HSP:Hid (∀l W,PG b b l wr W->W.cell? ⟨eb,2,none⟩=some (.slice (some ⟨bp,offp,none⟩) np pc)/\W.cell? ⟨eb,3,none⟩=some (.int .i64 cn)/\W.cell? ⟨eb,4,none⟩=some (.int .i64 xe.mn)/\W.cell? ⟨eb,5,none⟩=some (.int .i64 xe.mx)/\W.cell? ⟨bp,offp+cn,none⟩=some (.string nm0)):=(show _ from fun l W hW=>by
        have hx:=HXK.out _ _ (HPk.out.more hW)
        obtain⟨q0,q1,q2,q3,q4,q5,q6,q7,q8,q9,qf⟩:=Bs hx
        rw[hcnq]at q3
        rw[hnp]
        exact⟨q2,q3,q4,q5,by rw[hW.bel.cell (p:=⟨bp,offp+cn,none⟩) hRp2];exact ck⟩)
       have HPs:=Aia HPk.out.self
       have hbw:=HPk.out.pg.lt
       clear hcp hRp hbp hcn hnm0 HWs hnp hRp2
       go_upto_region 18 with fail
       go_region_held3 (fun w'=>w'.cell? ⟨eb,2,none⟩=some (.slice (some ⟨bp,offp,none⟩) np pc)/\w'.cell? ⟨eb,3,none⟩=some (.int .i64 cn)/\w'.cell? ⟨eb,4,none⟩=some (.int .i64 xe.mn)/\w'.cell? ⟨eb,5,none⟩=some (.int .i64 xe.mx)/\w'.cell? ⟨bp,offp+cn,none⟩=some (.string nm0))
        (first|exact HSP.out _ _ hp8|exact HSP.out L2 _ (by repeat(first|exact HPs.out|refine PG.drewP ?_|refine PG.allocP ?_ _)))
        (first|(go_at_call 58;refine(HLc.out _ _ ?_ ?_ ?_).mono ?_;(repeat(first|exact HPs.out|refine PG.drewP ?_|refine PG.allocP ?_ _));exact Ab _ _;omega;rintro e w8 ⟨rfl,hp8⟩))
       go_wp2_with fail
       go_meet
       show PG b b (L2++Aq (Ew xe)) wE w8
       rw[HCt.out,D8]
       exact HPk.out.more hp8
      ·have HQ:Hid (PG b b (L2++Aq (Ew xe)) wE wr):=(show PG b b _ wE wr from by
        unfold Ew
        rw[if_neg hc0]
        show PG b b (L2++ []) wE wr
        rw[List.append_nil]
        exact HPk.out)
       go_wp2_with fail
       go_meet
       exact HQ
     case rest=>
     obtain⟨L3,hL3⟩:∃L3,L3=L2++Aq (Ew xe):=⟨_,rfl⟩
     have HPL3:Hid (PG b b L3 wE wc):=Aia (by rw[hL3];exact hcut.out)
     have HL3l:=Aia (show L3.length<=619+26000*i+206*18 from by
      have h1:=Di (L:=Ew xe) (fun ws hws=>by
       unfold Ew at hws
       split at hws
       ·obtain rfl:=List.mem_singleton.1 hws;exact qZ HG.out
       ·cases hws)
      have h2:(Ew xe).length<=1:=by unfold Ew;split<;>simp
      rw[hL3,List.length_append]
      have:=HL2l.out
      omega)
     have HL3:=Aia hL3
     clear hL3 hcut z0 z1 z2 z3 z4 z5 z6 z7 z8 z9 zf HPk
     obtain⟨z0,z1,z2,z3,z4,z5,z6,z7,z8,z9,zf⟩:=Bs (HXK.out _ _ HPL3.out)
     go_wp2_with fail
     go_loopw [103] (fun s wk=>∃k:Nat,k<=xe.gaps.length/\s=.int .i64 k/\Hid (PG b b (L3++Aq ((xe.gaps.take k).map (Ed xe))) wE wk)) (fun s _=>xe.gaps.length-(intOf s).toNat)
     case atStart=>exact⟨0,Nat.zero_le _,rfl,(show PG b b (L3++ []) wE _ from by rw[List.append_nil];exact HPL3.out)⟩
     case round=>
      obtain⟨k,hk,rfl,hpk⟩:=hrel
      clear HPL3 z0 z1 z2 z3 z4 z5 z6 z7 z8 z9 zf
      by_cases hkl:k<xe.gaps.length
      ·have hmem:xe.gaps[k]∈xe.gaps:=List.getElem_mem hkl
       have hTk:=Aia (show Aq ((xe.gaps.take (k+1)).map (Ed xe))=Aq ((xe.gaps.take k).map (Ed xe))++Ca (Ed xe xe.gaps[k])from by rw[List.take_succ_eq_append_getElem hkl,List.map_append,B4,List.map_cons,List.map_nil,D8])
       have hlb:xe.gaps.length<=8:=HG.out.gl
       have hsm:(L3++Aq ((xe.gaps.take k).map (Ed xe))).length<=900000:=by
        have h1:=Di (L:=(xe.gaps.take k).map (Ed xe)) (fun ws hws=>by
         obtain⟨s,hs,rfl⟩:=List.mem_map.1 hws
         exact Vr HG.out (List.mem_of_mem_take hs))
        rw[List.length_map,List.length_take]at h1
        rw[List.length_append]
        have:=HL3l.out
        have:=HL8.out
        omega
       obtain⟨⟨g1,g2⟩,⟨g3,g4⟩,_⟩:=HG.out.gs _ hmem
       obtain⟨fn,hfn⟩:∃fn:Nat,xe.gaps[k].fr=fn:=⟨_,(Int.toNat_of_nonneg g1).symm⟩
       have fnl:fn<xe.points.length:=by omega
       obtain⟨dn,hdn⟩:∃dn:Nat,xe.gaps[k].dst=dn:=⟨_,(Int.toNat_of_nonneg g3).symm⟩
       have dnl:dn<xe.points.length:=by omega
       obtain⟨bp,offp,rfl,hRp,hbp,hcp⟩:=Mj HSl.out.p fnl
       have hRp2:=HRb.out bp hRp
       have ckfn:wr.cell? ⟨bp,offp+fn,none⟩=some (.string (Bb xe (fn:Int))):=by rw[hpk.out.bel.cell (p:=⟨bp,offp+fn,none⟩) hRp2];exact hcp fn fnl
       have fni:(fn:Int)<(xe.points.length:Int):=by omega
       have ckdn:wr.cell? ⟨bp,offp+dn,none⟩=some (.string (Bb xe (dn:Int))):=by rw[hpk.out.bel.cell (p:=⟨bp,offp+dn,none⟩) hRp2];exact hcp dn dnl
       have dni:(dn:Int)<(xe.points.length:Int):=by omega
       have HWs:Gr [.str Sr,.str (Bb xe (fn:Int)),.str (Bb xe (dn:Int)),.num xe.gaps[k].mn,.num xe.gaps[k].mx]:=by have:=Vr HG.out hmem;unfold Ed at this;rw[hfn,hdn]at this;exact this
       have hLE:Ed xe xe.gaps[k]= [.str Sr,.str (Bb xe (fn:Int)),.str (Bb xe (dn:Int)),.num xe.gaps[k].mn,.num xe.gaps[k].mx]:=by unfold Ed;rw[hfn,hdn]
       rw[hLE]at hTk
       obtain⟨nm0,hnm0⟩:∃nm0,nm0=Bb xe (fn:Int):=⟨_,rfl⟩
       rw[<-hnm0]at ckfn HWs hTk
       obtain⟨nm1,hnm1⟩:∃nm1,nm1=Bb xe (dn:Int):=⟨_,rfl⟩
       rw[<-hnm1]at ckdn HWs hTk
       obtain⟨np,hnp⟩:∃np,np=xe.points.length:=⟨_,rfl⟩
       obtain⟨z0,z1,z2,z3,z4,z5,z6,z7,z8,z9,zf⟩:=Bs (HXK.out _ _ hpk.out)
       rw[<-hnp]at fni dni z2
       obtain⟨xb,xoff,rfl,hRx,hbx,hcx⟩:=HSl.out.g.elem (f:=Ck) (fun _=>rfl) (by decide) (by omega)
       have hRx2:=HRb.out xb hRx
       have x0:wr.cell? ⟨xb,xoff+k*4,none⟩=some (.int .i64 fn):=by rw[hpk.out.bel.cell (p:=⟨xb,xoff+k*4,none⟩) hRx2];have:=hcx k hkl 0 _ rfl;rw[hfn]at this;exact this
       have x1:wr.cell? ⟨xb,xoff+k*4+1,none⟩=some (.int .i64 dn):=by rw[hpk.out.bel.cell (p:=⟨xb,xoff+k*4+1,none⟩) hRx2];have:=hcx k hkl 1 _ rfl;rw[hdn]at this;exact this
       have x2:wr.cell? ⟨xb,xoff+k*4+2,none⟩=some (.int .i64 xe.gaps[k].mn):=by rw[hpk.out.bel.cell (p:=⟨xb,xoff+k*4+2,none⟩) hRx2];have:=hcx k hkl 2 _ rfl;exact this
       have x3:wr.cell? ⟨xb,xoff+k*4+3,none⟩=some (.int .i64 xe.gaps[k].mx):=by rw[hpk.out.bel.cell (p:=⟨xb,xoff+k*4+3,none⟩) hRx2];have:=hcx k hkl 3 _ rfl;exact this
       clear hcx hcp hRx hbx hRp hbp fnl dnl g1 g2 g3 g4 hLE hnm0 hnm1
       have hpg:PG b b (L3++Aq ((xe.gaps.take k).map (Ed xe))) wE (wr.alloc (.cells #[.int .i64 fn,.int .i64 dn,.int .i64 xe.gaps[k].mn,.int .i64 xe.gaps[k].mx] 126)):=hpk.out.allocP _
       have hgx:=Ab wr (.cells #[.int .i64 fn,.int .i64 dn,.int .i64 xe.gaps[k].mn,.int .i64 xe.gaps[k].mx] 126)
       obtain⟨gmn,hgmn⟩:∃x,x=xe.gaps[k].mn:=⟨_,rfl⟩
       obtain⟨gmx,hgmx⟩:∃x,x=xe.gaps[k].mx:=⟨_,rfl⟩
       rw[<-hgmn]at x2 hpg hgx HWs hTk
       rw[<-hgmx]at x3 hpg hgx HWs hTk
       clear hgmn hgmx hfn hdn
       go_upto_region 22 with fail
       generalize wr.alloc _=wg at hpg hgx ⊢
       obtain⟨gb,hgb⟩:∃gb,gb=wr.heap.size:=⟨_,rfl⟩
       have hbw:=hpk.out.pg.lt
       rw[<-hgb]at hgx hbw ⊢
       have HPG:=Aia hpg
       have HGX:=Aia hgx
       have HSP:Hid (∀l W,PG b b l wg W->W.cell? ⟨eb,2,none⟩=some (.slice (some ⟨bp,offp,none⟩) np pc)/\W.cell? ⟨bp,offp+fn,none⟩=some (.string nm0)/\W.cell? ⟨bp,offp+dn,none⟩=some (.string nm1)/\W.cell? ⟨gb,0,none⟩=some (.int .i64 fn)/\W.cell? ⟨gb,1,none⟩=some (.int .i64 dn)/\W.cell? ⟨gb,2,none⟩=some (.int .i64 gmn)/\W.cell? ⟨gb,3,none⟩=some (.int .i64 gmx)):=(show _ from fun l W hW=>by
        obtain⟨q0,q1,q2,q3,q4,q5,q6,q7,q8,q9,qf⟩:=Bs (HXK.out _ _ (HPG.out.more hW))
        have hgW:=hW.oth.block gb _ HGX.out (by omega) (by show ¬(126=5);decide)
        rw[hnp]
        refine⟨q2,?_,?_,?_,?_,?_,?_⟩
        ·rw[(HPG.out.more hW).bel.cell (p:=⟨bp,offp+fn,none⟩) hRp2,<-hpk.out.bel.cell (p:=⟨bp,offp+fn,none⟩) hRp2];exact ckfn
        ·rw[(HPG.out.more hW).bel.cell (p:=⟨bp,offp+dn,none⟩) hRp2,<-hpk.out.bel.cell (p:=⟨bp,offp+dn,none⟩) hRp2];exact ckdn
        ·simp[World.cell?,hgW]
        ·simp[World.cell?,hgW]
        ·simp[World.cell?,hgW]
        ·simp[World.cell?,hgW])
       have HPs:=Aia HPG.out.self
       have HLc:Hid (∀W wb,PG b b (L3++Aq ((xe.gaps.take k).map (Ed xe))) wg W->W.heap[wb]? =some (.cells #[.iface 9 (.string Sr),.iface 9 (.string nm0),.iface 9 (.string nm1),.iface 3 (.int .i64 gmn),.iface 3 (.int .i64 gmx)] 20)->wb≠b->Calls Tryz.prog 58 #[.pointer (some ⟨b,0,none⟩),.slice (some ⟨wb,0,none⟩) 5 5] W fun e w'=>e=.returned (.tuple #[])/\PG b b ((L3++Aq ((xe.gaps.take k).map (Ed xe)))++Ca [.str Sr,.str nm0,.str nm1,.num gmn,.num gmx]) wg w'):=(show _ from fun W wb hW hrow hne=>Zm hW hrow hne (HTE.out.low HPG.out.bel (Nat.le_refl _)) HWs hsm)
       obtain⟨q0,q1,q2,q3,q4,q5,q6,q7,q8,q9,qf⟩:=Bs (HXK.out _ _ HPG.out)
       rw[<-hnp]at q2
       have hbs:=hpg.pg.lt
       obtain⟨Lk,hLk⟩:∃Lk,Lk=(L3++Aq ((xe.gaps.take k).map (Ed xe))):=⟨_,rfl⟩
       rw[<-hLk]at HLc HPs
       have HLk:=Aia hLk
       clear hgx hpg hgb z0 z1 z2 z3 z4 z5 z6 z7 z8 z9 zf x0 x1 x2 x3 HWs hsm hnp hLk q0 q1 q3 q4 q5 q6 q7 q8 q9 qf ckfn ckdn
       go_region_held3 (fun W=>W.cell? ⟨eb,2,none⟩=some (.slice (some ⟨bp,offp,none⟩) np pc)/\W.cell? ⟨bp,offp+fn,none⟩=some (.string nm0)/\W.cell? ⟨bp,offp+dn,none⟩=some (.string nm1)/\W.cell? ⟨gb,0,none⟩=some (.int .i64 fn)/\W.cell? ⟨gb,1,none⟩=some (.int .i64 dn)/\W.cell? ⟨gb,2,none⟩=some (.int .i64 gmn)/\W.cell? ⟨gb,3,none⟩=some (.int .i64 gmx))
        (first|exact HSP.out _ _ hp8|exact HSP.out Lk _ (by repeat(first|exact HPs.out|refine PG.drewP ?_|refine PG.allocP ?_ _)))
        (first|(go_at_call 58;refine(HLc.out _ _ ?_ ?_ ?_).mono ?_;(repeat(first|exact HPs.out|refine PG.drewP ?_|refine PG.allocP ?_ _));exact Ab _ _;omega;rintro e w8 ⟨rfl,hp8⟩))
       have HP8:Hid (PG b b (L3++Aq ((xe.gaps.take (k+1)).map (Ed xe))) wE w8):=(show PG b b _ wE w8 from by rw[hTk.out,<-List.append_assoc,<-HLk.out];exact HPG.out.more hp8)
       clear hp8 HLc
       go_wp2_with fail
       go_roundw
       case rel=>exact⟨k+1,by omega,by go_num,HP8⟩
       case measure=>simp[intOf];omega
      ·have HPk:Hid (PG b b (L3++Aq (xe.gaps.map (Ed xe))) wE wr):=(show PG b b _ wE wr from by
        have:=hpk.out
        rw[(show k=xe.gaps.length by omega),List.take_length]at this
        exact this)
       obtain⟨L4,hL4⟩:∃L4,L4=L3++Aq (xe.gaps.map (Ed xe)):=⟨_,rfl⟩
       rw[<-hL4]at HPk
       have HPL4:=HPk
       have HL4l:=Aia (show L4.length<=619+26000*i+206*26 from by
        have h1:=Di (L:=xe.gaps.map (Ed xe)) (fun ws hws=>by
         obtain⟨s,hs,rfl⟩:=List.mem_map.1 hws
         exact Vr HG.out hs)
        rw[List.length_map]at h1
        rw[hL4,List.length_append]
        have:=HL3l.out
        have hlb:xe.gaps.length<=8:=HG.out.gl
        omega)
       have HL4:=Aia hL4
       clear hL4 hpk HPk
       obtain⟨z0,z1,z2,z3,z4,z5,z6,z7,z8,z9,zf⟩:=Bs (HXK.out _ _ HPL4.out)
       go_wp2_with fail
       go_loopw [135] (fun s wk=>∃k:Nat,k<=xe.edges.length/\s=.int .i64 k/\Hid (PG b b (L4++Aq ((xe.edges.take k).map (D5 xe))) wE wk)) (fun s _=>xe.edges.length-(intOf s).toNat)
       case atStart=>exact⟨0,Nat.zero_le _,rfl,(show PG b b (L4++ []) wE _ from by rw[List.append_nil];exact HPL4.out)⟩
       case round=>
        obtain⟨k,hk,rfl,hpk⟩:=hrel
        clear HPL4 z0 z1 z2 z3 z4 z5 z6 z7 z8 z9 zf
        by_cases hkl:k<xe.edges.length
        ·have hmem:xe.edges[k]∈xe.edges:=List.getElem_mem hkl
         have hTk:=Aia (show Aq ((xe.edges.take (k+1)).map (D5 xe))=Aq ((xe.edges.take k).map (D5 xe))++Ca (D5 xe xe.edges[k])from by rw[List.take_succ_eq_append_getElem hkl,List.map_append,B4,List.map_cons,List.map_nil,D8])
         have hlb:xe.edges.length<=64:=HG.out.el
         have hsm:(L4++Aq ((xe.edges.take k).map (D5 xe))).length<=900000:=by
          have h1:=Di (L:=(xe.edges.take k).map (D5 xe)) (fun ws hws=>by
           obtain⟨s,hs,rfl⟩:=List.mem_map.1 hws
           exact V1 HG.out _)
          rw[List.length_map,List.length_take]at h1
          rw[List.length_append]
          have:=HL4l.out
          have:=HL8.out
          omega
         obtain⟨⟨g1,g2⟩,⟨g3,g4⟩⟩:=HG.out.es _ hmem
         obtain⟨fn,hfn⟩:∃fn:Nat,xe.edges[k].1=fn:=⟨_,(Int.toNat_of_nonneg g1).symm⟩
         have fnl:fn<xe.points.length:=by omega
         obtain⟨dn,hdn⟩:∃dn:Nat,xe.edges[k].2=dn:=⟨_,(Int.toNat_of_nonneg g3).symm⟩
         have dnl:dn<xe.points.length:=by omega
         obtain⟨bp,offp,rfl,hRp,hbp,hcp⟩:=Mj HSl.out.p fnl
         have hRp2:=HRb.out bp hRp
         have ckfn:wr.cell? ⟨bp,offp+fn,none⟩=some (.string (Bb xe (fn:Int))):=by rw[hpk.out.bel.cell (p:=⟨bp,offp+fn,none⟩) hRp2];exact hcp fn fnl
         have fni:(fn:Int)<(xe.points.length:Int):=by omega
         have ckdn:wr.cell? ⟨bp,offp+dn,none⟩=some (.string (Bb xe (dn:Int))):=by rw[hpk.out.bel.cell (p:=⟨bp,offp+dn,none⟩) hRp2];exact hcp dn dnl
         have dni:(dn:Int)<(xe.points.length:Int):=by omega
         have HWs:Gr [.str Su,.str (Bb xe (fn:Int)),.str (Bb xe (dn:Int))]:=by have:=V1 HG.out xe.edges[k];unfold D5 at this;rw[hfn,hdn]at this;exact this
         have hLE:D5 xe xe.edges[k]= [.str Su,.str (Bb xe (fn:Int)),.str (Bb xe (dn:Int))]:=by unfold D5;rw[hfn,hdn]
         rw[hLE]at hTk
         obtain⟨nm0,hnm0⟩:∃nm0,nm0=Bb xe (fn:Int):=⟨_,rfl⟩
         rw[<-hnm0]at ckfn HWs hTk
         obtain⟨nm1,hnm1⟩:∃nm1,nm1=Bb xe (dn:Int):=⟨_,rfl⟩
         rw[<-hnm1]at ckdn HWs hTk
         obtain⟨np,hnp⟩:∃np,np=xe.points.length:=⟨_,rfl⟩
         obtain⟨z0,z1,z2,z3,z4,z5,z6,z7,z8,z9,zf⟩:=Bs (HXK.out _ _ hpk.out)
         rw[<-hnp]at fni dni z2
         obtain⟨xb,xoff,rfl,hRx,hbx,hcx⟩:=HSl.out.e.elem (f:=Cd) (fun _=>rfl) (by decide) (by omega)
         have hRx2:=HRb.out xb hRx
         have x0:wr.cell? ⟨xb,xoff+k*2,none⟩=some (.int .i64 fn):=by rw[hpk.out.bel.cell (p:=⟨xb,xoff+k*2,none⟩) hRx2];have:=hcx k hkl 0 _ rfl;rw[hfn]at this;exact this
         have x1:wr.cell? ⟨xb,xoff+k*2+1,none⟩=some (.int .i64 dn):=by rw[hpk.out.bel.cell (p:=⟨xb,xoff+k*2+1,none⟩) hRx2];have:=hcx k hkl 1 _ rfl;rw[hdn]at this;exact this
         clear hcx hcp hRx hbx hRp hbp fnl dnl g1 g2 g3 g4 hLE hnm0 hnm1
         have hpg:PG b b (L4++Aq ((xe.edges.take k).map (D5 xe))) wE (wr.alloc (.cells #[.int .i64 fn,.int .i64 dn] 127)):=hpk.out.allocP _
         have hgx:=Ab wr (.cells #[.int .i64 fn,.int .i64 dn] 127)
         clear hfn hdn
         go_upto_region 27 with fail
         generalize wr.alloc _=wg at hpg hgx ⊢
         obtain⟨gb,hgb⟩:∃gb,gb=wr.heap.size:=⟨_,rfl⟩
         have hbw:=hpk.out.pg.lt
         rw[<-hgb]at hgx hbw ⊢
         have HPG:=Aia hpg
         have HGX:=Aia hgx
         have HSP:Hid (∀l W,PG b b l wg W->W.cell? ⟨eb,2,none⟩=some (.slice (some ⟨bp,offp,none⟩) np pc)/\W.cell? ⟨bp,offp+fn,none⟩=some (.string nm0)/\W.cell? ⟨bp,offp+dn,none⟩=some (.string nm1)/\W.cell? ⟨gb,0,none⟩=some (.int .i64 fn)/\W.cell? ⟨gb,1,none⟩=some (.int .i64 dn)):=(show _ from fun l W hW=>by
          obtain⟨q0,q1,q2,q3,q4,q5,q6,q7,q8,q9,qf⟩:=Bs (HXK.out _ _ (HPG.out.more hW))
          have hgW:=hW.oth.block gb _ HGX.out (by omega) (by show ¬(127=5);decide)
          rw[hnp]
          refine⟨q2,?_,?_,?_,?_⟩
          ·rw[(HPG.out.more hW).bel.cell (p:=⟨bp,offp+fn,none⟩) hRp2,<-hpk.out.bel.cell (p:=⟨bp,offp+fn,none⟩) hRp2];exact ckfn
          ·rw[(HPG.out.more hW).bel.cell (p:=⟨bp,offp+dn,none⟩) hRp2,<-hpk.out.bel.cell (p:=⟨bp,offp+dn,none⟩) hRp2];exact ckdn
          ·simp[World.cell?,hgW]
          ·simp[World.cell?,hgW])
         have HPs:=Aia HPG.out.self
         have HLc:Hid (∀W wb,PG b b (L4++Aq ((xe.edges.take k).map (D5 xe))) wg W->W.heap[wb]? =some (.cells #[.iface 9 (.string Su),.iface 9 (.string nm0),.iface 9 (.string nm1)] 20)->wb≠b->Calls Tryz.prog 58 #[.pointer (some ⟨b,0,none⟩),.slice (some ⟨wb,0,none⟩) 3 3] W fun e w'=>e=.returned (.tuple #[])/\PG b b ((L4++Aq ((xe.edges.take k).map (D5 xe)))++Ca [.str Su,.str nm0,.str nm1]) wg w'):=(show _ from fun W wb hW hrow hne=>Zm hW hrow hne (HTE.out.low HPG.out.bel (Nat.le_refl _)) HWs hsm)
         obtain⟨q0,q1,q2,q3,q4,q5,q6,q7,q8,q9,qf⟩:=Bs (HXK.out _ _ HPG.out)
         rw[<-hnp]at q2
         have hbs:=hpg.pg.lt
         obtain⟨Lk,hLk⟩:∃Lk,Lk=(L4++Aq ((xe.edges.take k).map (D5 xe))):=⟨_,rfl⟩
         rw[<-hLk]at HLc HPs
         have HLk:=Aia hLk
         clear hgx hpg hgb z0 z1 z2 z3 z4 z5 z6 z7 z8 z9 zf x0 x1 HWs hsm hnp hLk q0 q1 q3 q4 q5 q6 q7 q8 q9 qf ckfn ckdn
         go_region_held3 (fun W=>W.cell? ⟨eb,2,none⟩=some (.slice (some ⟨bp,offp,none⟩) np pc)/\W.cell? ⟨bp,offp+fn,none⟩=some (.string nm0)/\W.cell? ⟨bp,offp+dn,none⟩=some (.string nm1)/\W.cell? ⟨gb,0,none⟩=some (.int .i64 fn)/\W.cell? ⟨gb,1,none⟩=some (.int .i64 dn))
          (first|exact HSP.out _ _ hp8|exact HSP.out Lk _ (by repeat(first|exact HPs.out|refine PG.drewP ?_|refine PG.allocP ?_ _)))
          (first|(go_at_call 58;refine(HLc.out _ _ ?_ ?_ ?_).mono ?_;(repeat(first|exact HPs.out|refine PG.drewP ?_|refine PG.allocP ?_ _));exact Ab _ _;omega;rintro e w8 ⟨rfl,hp8⟩))
         have HP8:Hid (PG b b (L4++Aq ((xe.edges.take (k+1)).map (D5 xe))) wE w8):=(show PG b b _ wE w8 from by rw[hTk.out,<-List.append_assoc,<-HLk.out];exact HPG.out.more hp8)
         clear hp8 HLc
         go_wp2_with fail
         go_roundw
         case rel=>exact⟨k+1,by omega,by go_num,HP8⟩
         case measure=>simp[intOf];omega
        ·have HPk:Hid (PG b b (L4++Aq (xe.edges.map (D5 xe))) wE wr):=(show PG b b _ wE wr from by
          have:=hpk.out
          rw[(show k=xe.edges.length by omega),List.take_length]at this
          exact this)
         obtain⟨L5,hL5⟩:∃L5,L5=L4++Aq (xe.edges.map (D5 xe)):=⟨_,rfl⟩
         rw[<-hL5]at HPk
         have HPL5:=HPk
         have HL5l:=Aia (show L5.length<=619+26000*i+206*90 from by
          have h1:=Di (L:=xe.edges.map (D5 xe)) (fun ws hws=>by
           obtain⟨s,hs,rfl⟩:=List.mem_map.1 hws
           exact V1 HG.out _)
          rw[List.length_map]at h1
          rw[hL5,List.length_append]
          have:=HL4l.out
          have hlb:xe.edges.length<=64:=HG.out.el
          omega)
         have HL5:=Aia hL5
         clear hL5 hpk HPk
         obtain⟨z0,z1,z2,z3,z4,z5,z6,z7,z8,z9,zf⟩:=Bs (HXK.out _ _ HPL5.out)
         go_wp2_with fail
         go_loopw [161] (fun s wk=>∃k:Nat,k<=xe.first.length/\s=.int .i64 k/\Hid (PG b b (L5++Aq ((xe.first.take k).map (Ev xe))) wE wk)) (fun s _=>xe.first.length-(intOf s).toNat)
         case atStart=>exact⟨0,Nat.zero_le _,rfl,(show PG b b (L5++ []) wE _ from by rw[List.append_nil];exact HPL5.out)⟩
         case round=>
          obtain⟨k,hk,rfl,hpk⟩:=hrel
          clear HPL5 z0 z1 z2 z3 z4 z5 z6 z7 z8 z9 zf
          by_cases hkl:k<xe.first.length
          ·have hmem:xe.first[k]∈xe.first:=List.getElem_mem hkl
           have hTk:=Aia (show Aq ((xe.first.take (k+1)).map (Ev xe))=Aq ((xe.first.take k).map (Ev xe))++Ca (Ev xe xe.first[k])from by rw[List.take_succ_eq_append_getElem hkl,List.map_append,B4,List.map_cons,List.map_nil,D8])
           have hlb:xe.first.length<=16:=HG.out.fl
           have hsm:(L5++Aq ((xe.first.take k).map (Ev xe))).length<=900000:=by
            have h1:=Di (L:=(xe.first.take k).map (Ev xe)) (fun ws hws=>by
             obtain⟨s,hs,rfl⟩:=List.mem_map.1 hws
             exact Vs HG.out _)
            rw[List.length_map,List.length_take]at h1
            rw[List.length_append]
            have:=HL5l.out
            have:=HL8.out
            omega
           obtain⟨g1,g2⟩:=HG.out.fs _ hmem
           obtain⟨fn,hfn⟩:∃fn:Nat,xe.first[k]=fn:=⟨_,(Int.toNat_of_nonneg g1).symm⟩
           have fnl:fn<xe.points.length:=by omega
           obtain⟨bp,offp,rfl,hRp,hbp,hcp⟩:=Mj HSl.out.p fnl
           have hRp2:=HRb.out bp hRp
           have ckfn:wr.cell? ⟨bp,offp+fn,none⟩=some (.string (Bb xe (fn:Int))):=by rw[hpk.out.bel.cell (p:=⟨bp,offp+fn,none⟩) hRp2];exact hcp fn fnl
           have fni:(fn:Int)<(xe.points.length:Int):=by omega
           have HWs:Gr [.str Vt,.str (Bb xe (fn:Int))]:=by have:=Vs HG.out xe.first[k];unfold Ev at this;rw[hfn]at this;exact this
           have hLE:Ev xe xe.first[k]= [.str Vt,.str (Bb xe (fn:Int))]:=by unfold Ev;rw[hfn]
           rw[hLE]at hTk
           obtain⟨nm0,hnm0⟩:∃nm0,nm0=Bb xe (fn:Int):=⟨_,rfl⟩
           rw[<-hnm0]at ckfn HWs hTk
           obtain⟨np,hnp⟩:∃np,np=xe.points.length:=⟨_,rfl⟩
           obtain⟨z0,z1,z2,z3,z4,z5,z6,z7,z8,z9,zf⟩:=Bs (HXK.out _ _ hpk.out)
           rw[<-hnp]at fni z2
           obtain⟨_,ax,cx,hvx,hx1,hx2,hx3,hx4⟩:=HSl.out.f
           obtain⟨rfl,_,rfl⟩:=Value.slice.inj hvx
           obtain⟨xb,xoff,hxa,hRx,hbx,hcx⟩:=hx4 (by simp[Ac];omega)
           subst hxa
           have hRx2:=HRb.out xb hRx
           have x0:wr.cell? ⟨xb,xoff+k,none⟩=some (.int .i64 fn):=by rw[hpk.out.bel.cell (p:=⟨xb,xoff+k,none⟩) hRx2];exact hcx k _ (by simp[Ac,hkl,hfn])
           have HLc:=Aia (Jb hpk.out HTE.out HWs hsm)
           clear hcx hcp hRx hbx hRp hbp fnl g1 g2 hLE hnm0 HWs hsm hvx hx1 hx2 hx3 hx4 hnp hfn
           go_wp2_with fail
           refine HLc.out.mono ?_
           rintro e w8 ⟨rfl,hp8⟩
           have HP8:Hid (PG b b (L5++Aq ((xe.first.take (k+1)).map (Ev xe))) wE w8):=(show PG b b _ wE w8 from by rw[hTk.out,<-List.append_assoc];exact hp8)
           clear hp8 HLc
           go_wp2_with fail
           go_roundw
           case rel=>exact⟨k+1,by omega,by go_num,HP8⟩
           case measure=>simp[intOf];omega
          ·have HPk:Hid (PG b b (L5++Aq (xe.first.map (Ev xe))) wE wr):=(show PG b b _ wE wr from by
            have:=hpk.out
            rw[(show k=xe.first.length by omega),List.take_length]at this
            exact this)
           obtain⟨L6,hL6⟩:∃L6,L6=L5++Aq (xe.first.map (Ev xe)):=⟨_,rfl⟩
           rw[<-hL6]at HPk
           have HPL6:=HPk
           have HL6l:=Aia (show L6.length<=619+26000*i+206*106 from by
            have h1:=Di (L:=xe.first.map (Ev xe)) (fun ws hws=>by
             obtain⟨s,hs,rfl⟩:=List.mem_map.1 hws
             exact Vs HG.out _)
            rw[List.length_map]at h1
            rw[hL6,List.length_append]
            have:=HL5l.out
            have hlb:xe.first.length<=16:=HG.out.fl
            omega)
           have HL6:=Aia hL6
           clear hL6 hpk HPk
           obtain⟨z0,z1,z2,z3,z4,z5,z6,z7,z8,z9,zf⟩:=Bs (HXK.out _ _ HPL6.out)
           go_wp2_with fail
           go_loopw [179] (fun s wk=>∃k:Nat,k<=xe.last.length/\s=.int .i64 k/\Hid (PG b b (L6++Aq ((xe.last.take k).map (Et xe))) wE wk)) (fun s _=>xe.last.length-(intOf s).toNat)
           case atStart=>exact⟨0,Nat.zero_le _,rfl,(show PG b b (L6++ []) wE _ from by rw[List.append_nil];exact HPL6.out)⟩
           case round=>
            obtain⟨k,hk,rfl,hpk⟩:=hrel
            clear HPL6 z0 z1 z2 z3 z4 z5 z6 z7 z8 z9 zf
            by_cases hkl:k<xe.last.length
            ·have hmem:xe.last[k]∈xe.last:=List.getElem_mem hkl
             have hTk:=Aia (show Aq ((xe.last.take (k+1)).map (Et xe))=Aq ((xe.last.take k).map (Et xe))++Ca (Et xe xe.last[k])from by rw[List.take_succ_eq_append_getElem hkl,List.map_append,B4,List.map_cons,List.map_nil,D8])
             have hlb:xe.last.length<=16:=HG.out.ll
             have hsm:(L6++Aq ((xe.last.take k).map (Et xe))).length<=900000:=by
              have h1:=Di (L:=(xe.last.take k).map (Et xe)) (fun ws hws=>by
               obtain⟨s,hs,rfl⟩:=List.mem_map.1 hws
               exact U4 HG.out _)
              rw[List.length_map,List.length_take]at h1
              rw[List.length_append]
              have:=HL6l.out
              have:=HL8.out
              omega
             obtain⟨g1,g2⟩:=HG.out.ls _ hmem
             obtain⟨fn,hfn⟩:∃fn:Nat,xe.last[k]=fn:=⟨_,(Int.toNat_of_nonneg g1).symm⟩
             have fnl:fn<xe.points.length:=by omega
             obtain⟨bp,offp,rfl,hRp,hbp,hcp⟩:=Mj HSl.out.p fnl
             have hRp2:=HRb.out bp hRp
             have ckfn:wr.cell? ⟨bp,offp+fn,none⟩=some (.string (Bb xe (fn:Int))):=by rw[hpk.out.bel.cell (p:=⟨bp,offp+fn,none⟩) hRp2];exact hcp fn fnl
             have fni:(fn:Int)<(xe.points.length:Int):=by omega
             have HWs:Gr [.str U5,.str (Bb xe (fn:Int))]:=by have:=U4 HG.out xe.last[k];unfold Et at this;rw[hfn]at this;exact this
             have hLE:Et xe xe.last[k]= [.str U5,.str (Bb xe (fn:Int))]:=by unfold Et;rw[hfn]
             rw[hLE]at hTk
             obtain⟨nm0,hnm0⟩:∃nm0,nm0=Bb xe (fn:Int):=⟨_,rfl⟩
             rw[<-hnm0]at ckfn HWs hTk
             obtain⟨np,hnp⟩:∃np,np=xe.points.length:=⟨_,rfl⟩
             obtain⟨z0,z1,z2,z3,z4,z5,z6,z7,z8,z9,zf⟩:=Bs (HXK.out _ _ hpk.out)
             rw[<-hnp]at fni z2
             obtain⟨_,ax,cx,hvx,hx1,hx2,hx3,hx4⟩:=HSl.out.l
             obtain⟨rfl,_,rfl⟩:=Value.slice.inj hvx
             obtain⟨xb,xoff,hxa,hRx,hbx,hcx⟩:=hx4 (by simp[Ac];omega)
             subst hxa
             have hRx2:=HRb.out xb hRx
             have x0:wr.cell? ⟨xb,xoff+k,none⟩=some (.int .i64 fn):=by rw[hpk.out.bel.cell (p:=⟨xb,xoff+k,none⟩) hRx2];exact hcx k _ (by simp[Ac,hkl,hfn])
             have HLc:=Aia (Jb hpk.out HTE.out HWs hsm)
             clear hcx hcp hRx hbx hRp hbp fnl g1 g2 hLE hnm0 HWs hsm hvx hx1 hx2 hx3 hx4 hnp hfn
             go_wp2_with fail
             refine HLc.out.mono ?_
             rintro e w8 ⟨rfl,hp8⟩
             have HP8:Hid (PG b b (L6++Aq ((xe.last.take (k+1)).map (Et xe))) wE w8):=(show PG b b _ wE w8 from by rw[hTk.out,<-List.append_assoc];exact hp8)
             clear hp8 HLc
             go_wp2_with fail
             go_roundw
             case rel=>exact⟨k+1,by omega,by go_num,HP8⟩
             case measure=>simp[intOf];omega
            ·have HPk:Hid (PG b b (L6++Aq (xe.last.map (Et xe))) wE wr):=(show PG b b _ wE wr from by
              have:=hpk.out
              rw[(show k=xe.last.length by omega),List.take_length]at this
              exact this)
             obtain⟨L7,hL7⟩:∃L7,L7=L6++Aq (xe.last.map (Et xe)):=⟨_,rfl⟩
             rw[<-hL7]at HPk
             have HPL7:=HPk
             have HL7l:=Aia (show L7.length<=619+26000*i+206*122 from by
              have h1:=Di (L:=xe.last.map (Et xe)) (fun ws hws=>by
               obtain⟨s,hs,rfl⟩:=List.mem_map.1 hws
               exact U4 HG.out _)
              rw[List.length_map]at h1
              rw[hL7,List.length_append]
              have:=HL6l.out
              have hlb:xe.last.length<=16:=HG.out.ll
              omega)
             have HL7:=Aia hL7
             clear hL7 hpk HPk
             go_wp2_with fail
             go_roundw
             case rel=>
              refine⟨i+1,by omega,by go_num,?_,?_⟩
              ·show PG b b (Hm C++(X.take (i+1)).flatMap (fun x=>Aq (B6 x.E))) w3 _
               have hfin:Hm C++(X.take (i+1)).flatMap (fun x=>Aq (B6 x.E))=L7:=by
                rw[HTk.out,<-List.append_assoc,<-HL0.out,HL7.out,HL6.out,HL5.out,HL4.out,HL3.out,HL2.out,HL1.out]
                unfold B6
                rw[show(∀(ws:List W1) (M:List (List W1)),Aq (ws::M)=Ca ws++Aq M)from fun _ _=>rfl]
                simp only[B4,List.append_assoc]
               rw[hfin]
               exact⟨HPL7.out.pg,HPE.out.bel.trans HPL7.out.bel,HPE.out.oth.trans HPL7.out.oth⟩
              ·show(Hm C++(X.take (i+1)).flatMap (fun x=>Aq (B6 x.E))).length<=618+26000*(i+1)
               have hfin:Hm C++(X.take (i+1)).flatMap (fun x=>Aq (B6 x.E))=L7:=by
                rw[HTk.out,<-List.append_assoc,<-HL0.out,HL7.out,HL6.out,HL5.out,HL4.out,HL3.out,HL2.out,HL1.out]
                unfold B6
                rw[show(∀(ws:List W1) (M:List (List W1)),Aq (ws::M)=Ca ws++Aq M)from fun _ _=>rfl]
                simp only[B4,List.append_assoc]
               rw[hfin]
               have:=HL7l.out
               omega
             case measure=>simp[intOf];omega
  ·have hT:L0=Df C:=by
    rw[HL0.out,(show i=X.length by omega),List.take_length]
    unfold Df
    rw[H.out.eq,List.flatMap_map]
   have hne:Df C≠ []:=by
    intro e
    have:(Df C).length=0:=by rw[e];rfl
    simp[Df,Hm,G2,Ca]at this
   rw[hT]at hp
   have HPx:=Aia hp
   have HSt:=Aia (Zc b b (Df C) wr hp.out.pg hne)
   clear hT hne hp hlen HL0
   go_wp2_with fail
   refine HSt.out.mono ?_
   rintro e w7 ⟨rfl,b7⟩
   go_wp2_with fail
   go_ret2
   exact⟨rfl,HB3.out.trans ((HPx.out.out.bel.trans b7).mono hwb)⟩
end Go.Proofs.YtikehilbmldadaaGreatDoor
