import Derived.Test.YtikehilbmldadaaGreatDoorP32
import Derived.Test.YtikehilbmldadaaGreatDoorP22
set_option maxHeartbeats 8000000
set_option maxRecDepth 100000
set_option linter.unusedVariables false
namespace Go.Proofs.YtikehilbmldadaaGreatDoor
open Proofs.Tryz YtikehilbmldadaaGreatDoor.Tryz RowKit
open Go renaming World->V,RowKit.Below->ZF,RowKit.Hid->ZG,Calls->ZH,Value.int->I,IntKind.i64->J,Value.slice->F,Value.pointer->ZA,Value.string->ZB,Obj.cells->ZC,Ending.returned->ZD,Value.iface->ZL,Value.tuple->ZM,Proofs.Tryz.prog->ZI
open Option renaming some->U,none->O
theorem PG.drewP{B b:Nat}{l:List UInt8}{w0 w:V}(h:PG B b l w0 w):PG B b l w0 w.drew:=h.below (H5 (R1 _ _))
theorem PG.allocP{B b:Nat}{l:List UInt8}{w0 w:V}(h:PG B b l w0 w)(o:Obj):PG B b l w0 (w.alloc o):=h.below ((R1 _ _).alloc (Y2 _) _)
theorem PG.self{B b:Nat}{l:List UInt8}{w0 w:V}(h:PG B b l w0 w):PG B b l w w:=⟨h.pg,R1 _ _,Oth.refl _ _⟩
theorem PG.more{B b:Nat}{l l':List UInt8}{w0 w w':V}(h:PG B b l w0 w)(k:PG B b l' w w'):PG B b l' w0 w':=⟨k.pg,h.bel.trans k.bel,h.oth.trans k.oth⟩
theorem sH{B b:Nat}{l:List UInt8}{a:List W1}{w0 f:V}{d:Nat}(h:PG B b l w0 f)(o:f.heap[d]? =U (ZC (a.map Wx).toArray 20))(hne:d≠b)(i:L9 B w0)(g:Hu a)(q:l.length<=900000):
  ZH ZI 58 #[ZA (U ⟨b,0,O⟩),F (U ⟨d,0,O⟩) a.length a.length] f fun e w'=>e=ZD (ZM #[])/\PG B b (l++Br a) w0 w':=by
 have m:=h.pg.lt;have j:=g.line;refine(Ua B b l a d f h.pg (by omega) (i.low h.bel (Y2 _)) (fun x p=>(g.ok x p).1) o hne (by omega) (by have:=g.len;omega)).mono ?_;rintro e w' ⟨rfl,n⟩;exact⟨rfl,h.more n⟩
theorem Ab8{E:Ak}{k:Nat}(h:k<E.points.length):A9 E (k:Int)=E.points[k]:=by
 unfold A9;rw[Zzc,Of,R4 h];rfl
theorem Oc{R:Nat->Prop}{w:V}{E:Ak}{ao:Option Addr}{cap:Nat}(h:Av R w (F ao E.points.length cap) 1 (Aj E.points) E.points.length){k:Nat}(s:k<E.points.length):
  ∃bp offp,ao=U ⟨bp,offp,O⟩/\R bp/\bp<w.heap.size/\∀j,j<E.points.length->w.cell? ⟨bp,offp+j,O⟩=U (ZB (A9 E (j:Int))):=by
 obtain⟨_,n,l,i,o,p,q,f⟩:=h;obtain⟨rfl,_,rfl⟩:=Value.slice.inj i;obtain⟨bp,offp,g,a,d,e⟩:=f (by simp[Aj];omega);refine⟨bp,offp,g,a,d,fun j m=>?_⟩;rw[Ab8 m];exact e j _ (by simp[Aj,m])
theorem vH(B:Nat)(sa:Nat->Addr)(R:Nat->Prop)(C:Ar)(v:Value)(X:List A2)(w:V)(hS:Hl B sa w)(hT:L9 w.heap.size w)(h:Gb R w C v X)(hR:∀b,R b->b<w.heap.size)(hC:B4 C=(0,-1)):
  ZH ZI 31 #[.agg (Az C v)] w fun e w'=>e=ZD (ZM #[ZB ⟨(C4 C).toArray⟩,.nilIface])/\ZF w.heap.size w w':=by
 obtain⟨ao,cap,rfl⟩:=h.sl.row.val;obtain⟨iq,ir⟩:=h.sl.row.capB;have ej:=(Cv hC).1;unfold Es at ej;rw[decide_eq_false_iff_not]at ej;have h1:Aef (.num C.closed):=⟨by omega,by omega⟩
 have h2:Aef (.num C.opn):=⟨by omega,by omega⟩
 have h3:Aef (.num C.cycle):=⟨by omega,by omega⟩
 have h4:Aef (.num C.delay):=⟨by omega,by omega⟩
 clear ej;have bf:=Ab w (ZC (Az C (F ao X.length cap)) 30);have b0:ZF w.heap.size w (w.alloc (ZC (Az C (F ao X.length cap)) 30)):=(R1 _ _).alloc (Y2 _) _;have d3:Hu [.str Nu,.num C.closed,.num C.opn]:=((Hu.nil.num (by simp) _ h2).num (by simp) _ h1).str (by simp) _ (by decide);have d4:Hu [.str Qm,.num C.cycle]:=(Hu.nil.num (by simp) _ h3).str (by simp) _ (by decide);have d5:Hu [.str Tj,.num C.delay]:=(Hu.nil.num (by simp) _ h4).str (by simp) _ (by decide);have c9:=G d3;have ef:=G d4;have fe:=G d5;have HT:=G hT;have fy:∀W,ZF w.heap.size w W->ZH ZI 57 #[.agg (Az C (F ao X.length cap))] W fun e w'=>e=ZD .nilIface/\ZF W.heap.size W w':=fun W hB=>by
  refine(qP B sa R C (F ao X.length cap) X W (hS.on hB) (h.below hB hR) (Bw hR hB)).mono ?_;rintro e w' ⟨u,rfl,hu,hb⟩;rw[hC]at hu;rcases hu with⟨_,hu⟩|⟨hu,_⟩
  ·exact⟨by rw[hu];rfl,hb⟩
  ·exact absurd hu (by decide)
 have d6:=G fy;have HGood:ZG (∀i (hi:i<X.length),Ed X[i].E):=G (fun i hi=>by
  have hl:i<C.ents.length:=by rw[h.eq,Fn];exact hi
  have:=(Cv hC).2.2 i hl;rw[Ov hl]at this;have hg:=Xk this;simpa [h.eq] using hg)
 have H:=G h;have ed:=G hR;have bj:=G (show X.length<=8 from by
  have:=(Cv hC).1;unfold Es at this;rw[decide_eq_false_iff_not]at this;rw[h.eq,Fn]at this;omega)
 clear h1 h2 h3 h4 d3 d4 d5 hT fy hS hC h hR;unfold Az at bf b0 d6 ⊢;go_enter func31,ntmps31;go_upto_region 1 with fail;generalize w.alloc _=w1 at bf b0 ⊢;have dc:ZG (w1.heap[w.heap.size]? =U (ZC (Az C (F ao X.length cap)) 30)):=bf;obtain⟨c0,c1,c2,c3,c4⟩:=Ba dc.out;clear bf;go_wp2_with fail;refine(d6 w1 b0).mono ?_;rintro e w2 ⟨rfl,b2⟩;have da:=G (Ae b2 dc (Aa dc.out));have c6:=G (b0.trans (b2.mono b0.size));clear c0 c1 c2 c3 c4 b0 b2 dc d6;go_upto_region 5 with fail;have b1:PG w2.heap.size w2.heap.size [] (w2.alloc (ZC #[ZA O,F O 0 0] 123)) (w2.alloc (ZC #[ZA O,F O 0 0] 123)):=⟨Lib.fresh_isBuilder _ _ w2,R1 _ _,Oth.refl _ _⟩
 have b3:ZF w2.heap.size w2 (w2.alloc (ZC #[ZA O,F O 0 0] 123)):=(R1 _ _).alloc (Y2 _) _;generalize w2.alloc _=w3 at b1 b3 ⊢;obtain⟨b,fx⟩:∃b,b=w2.heap.size:=⟨_,rfl⟩
 have db:=G (Ae b3 da (Aa da.out));have cb:=G (c6.trans (b3.mono c6.size));have gj:=G ((HT.low cb (Y2 _)).low (R1 w3.heap.size w3) cb.size);have b6:=c6.size;have bv:=Aa da.out;rw[<-fx]at b1 b6 bv ⊢;have ge:=G b1;have c8:ZG (L9 b w3):=fun W hW=>gj W (hW.mono b6);obtain⟨c0,c1,c2,c3,c4⟩:=Ba db.out;clear b1 b3 da c6 fx;have a9:=G (Lb ge c8 c9 (by decide));go_wp2_with fail;refine a9.mono ?_;rintro e w4 ⟨rfl,b4⟩;have gf:=G b4;have gk:=G (Ae b4.bel db bv);clear c0 c1 c2 c3 c4 b4 a9;obtain⟨c0,c1,c2,c3,c4⟩:=Ba gk.out;have cc:=G (Lb gf c8 ef (by have:=c9.line;rw[R2];simp;omega));go_wp2_with fail;refine cc.mono ?_;rintro e w5 ⟨rfl,en⟩;have gg:=G en;have gm:=G (Ae en.bel db bv);clear c0 c1 c2 c3 c4 en cc;obtain⟨c0,c1,c2,c3,c4⟩:=Ba gm.out;have cd:=G (Lb gg c8 fe (by have:=c9.line;have:=ef.line;simp only[R2,Zyy];omega));go_wp2_with fail;refine cd.mono ?_;rintro e w6 ⟨rfl,du⟩;have ff:=G (Ae du.bel db bv);have hh:([]++Br [.str Nu,.num C.closed,.num C.opn]++Br [.str Qm,.num C.cycle]++Br [.str Tj,.num C.delay]:List UInt8)=Gw C:=by simp[Gw,Is]
 rw[hh]at du;have fb:=G du;clear du cd hh;obtain⟨c0,c1,c2,c3,c4⟩:=Ba ff.out;have e4:=G (show(Gw C).length<=618 from by
  have h1:=c9.line;have h2:=ef.line;have h3:=fe.line;simp only[Gw,Is,Zz6,List.flatMap_nil,R2,Zyy];omega)
 go_wp2_with fail;go_loopw [52] (fun s wr=>∃i:Nat,i<=X.length/\s=I J i/\ZG (PG b b (Gw C++(X.take i).flatMap (fun x=>Ai (B5 x.E))) w3 wr)/\ZG ((Gw C++(X.take i).flatMap (fun x=>Ai (B5 x.E))).length<=618+26000*i)) (fun s _=>X.length-(intOf s).toNat);case atStart=>exact⟨0,In _,rfl,(show PG b b (Gw C++ []) w3 w6 from by rw[Zz8];exact fb.out),(show(Gw C++ []).length<=618+26000*0 from by rw[Zz8];exact e4.out)⟩
 case round=>
  obtain⟨i,hi,rfl,hp,bu⟩:=hrel;obtain⟨L0,ei⟩:∃L0,L0=Gw C++(X.take i).flatMap (fun x=>Ai (B5 x.E)):=⟨_,rfl⟩
  rw[<-ei]at hp bu;have c7:=G ei;clear ei fb e4 ff c0 c1 c2 c3 c4;by_cases ds:i<X.length
  ·obtain⟨gq,off,rfl,gu,hb,hc⟩:=Ks H.sl.row (by omega);obtain⟨q0,q1,q2,q3,q4,q5,q6,q7,q8,q9⟩:=hc i ds;have fv:=ed gq gu;have e1:=G (show ZF w.heap.size w wr from cb.trans (hp.bel.mono b6));rw[<-e1.cell fv]at q0 q1 q2 q3 q4 q5 q6 q7 q8 q9;have bm:=H.sl.each X[i] (M2 ds);have T:=G (HGood i ds);have ee:=G (show(X.take (i+1)).flatMap (fun x=>Ai (B5 x.E))=(X.take i).flatMap (fun x=>Ai (B5 x.E))++Ai (B5 X[i].E)from by rw[If ds,B1,Zzj]);have bt:=bm;obtain⟨xe,f3⟩:∃xe,xe=X[i].E:=⟨_,rfl⟩
   obtain⟨pa,pc,eu⟩:=bm.p.val;obtain⟨ga,gc,er⟩:=bm.g.val;obtain⟨ea,ec,eo⟩:=bm.e.val;obtain⟨fa,fc,ep⟩:=bm.f.val;obtain⟨la,lc,et⟩:=bm.l.val;rw[eu,er,eo,ep,et]at bt;rw[eu]at q2;rw[er]at q6;rw[eo]at q7;rw[ep]at q8;rw[et]at q9;rw[<-f3]at T ee bt q0 q1 q2 q3 q4 q5 q6 q7 q8 q9;have e3:=G bt;clear bm bt hc eu er eo ep et f3;go_upto_region 11 with fail;have b8:=Ab wr (ZC (As xe (F pa xe.points.length pc) (F ga xe.gaps.length gc) (F ea xe.edges.length ec) (F fa xe.first.length fc) (F la xe.last.length lc)) 50);have dq:ZF wr.heap.size wr (wr.alloc (ZC (As xe (F pa xe.points.length pc) (F ga xe.gaps.length gc) (F ea xe.edges.length ec) (F fa xe.first.length fc) (F la xe.last.length lc)) 50)):=(R1 _ _).alloc (Y2 _) _;unfold As at b8 dq;generalize wr.alloc _=wE at b8 dq ⊢;have cl:=hp.below dq;have gx:=hp.pg.lt;obtain⟨eb,f0⟩:∃eb,eb=wr.heap.size:=⟨_,rfl⟩
   rw[<-f0]at b8 gx ⊢;have fg:ZG (wE.heap[eb]? =U (ZC (As xe (F pa xe.points.length pc) (F ga xe.gaps.length gc) (F ea xe.edges.length ec) (F fa xe.first.length fc) (F la xe.last.length lc)) 50)):=b8;have fd:=G cl;have e9:ZG (PG b b L0 wE wE):=G (⟨cl.pg,R1 _ _,Oth.refl _ _⟩);have bk:ZG (L9 b wE):=G (c8.low cl.bel (Y2 _));have au:ZG (Dk R wE xe (F pa xe.points.length pc) (F ga xe.gaps.length gc) (F ea xe.edges.length ec) (F fa xe.first.length fc) (F la xe.last.length lc)):=(show Dk R wE xe _ _ _ _ _ from e3.keep (Ac.of_below (cb.trans (cl.bel.mono b6))) (fun b hb hS=>by have:=ed b hb;omega))
   have ar:ZG (∀b',R b'->b'<b):=G (fun b' gw=>F5 (ed b' gw) b6);have ac:ZG (∀l' wk,PG b b l' wE wk->wk.heap[eb]? =U (ZC (As xe (F pa xe.points.length pc) (F ga xe.gaps.length gc) (F ea xe.edges.length ec) (F fa xe.first.length fc) (F la xe.last.length lc)) 50)):=(show _ from fun l' wk hk=>by
    refine hk.oth.block _ _ fg (by omega) ?_;show ¬(50=5)
    decide)
   obtain⟨z0,z1,z2,z3,z4,z5,z6,z7,z8,z9,zf⟩:=Bo b8;have a9:=G (Lb e9 bk (M7 T.out) (by have:=bu.out;have:=bj.out;omega));clear q0 q1 q2 q3 q4 q5 q6 q7 q8 q9 dq b8 cl f0 e3 e1 hp fg e9;go_wp2_with fail;refine a9.mono ?_;rintro e w7 ⟨rfl,f1⟩;have ce:=G f1;clear f1 a9 z0 z1 z2 z3 z4 z5 z6 z7 z8 z9 zf;obtain⟨z0,z1,z2,z3,z4,z5,z6,z7,z8,z9,zf⟩:=Bo (ac _ _ ce.out);go_wp2_with fail;obtain⟨L1,dh⟩:∃L1,L1=L0++Br [.str Kt,.str xe.name,.num xe.tol]:=⟨_,rfl⟩
   have HL1l:=G (show L1.length<=619+26000*i+206 from by rw[dh,R2];have:=(M7 T.out).line;have:=bu.out;omega);have ce:ZG (PG b b L1 wE w7):=G (by rw[dh];exact ce.out);have a9:=G dh;clear dh;go_loopw [69] (fun s wk=>∃k:Nat,k<=xe.points.length/\s=I J k/\ZG (PG b b (L1++Ai ((xe.points.take k).map Gt)) wE wk)) (fun s _=>xe.points.length-(intOf s).toNat);case atStart=>exact⟨0,In _,rfl,(show PG b b (L1++ []) wE w7 from by rw[Zz8];exact ce.out)⟩
   case round=>
    obtain⟨k,hk,rfl,d⟩:=hrel;clear ce z0 z1 z2 z3 z4 z5 z6 z7 z8 z9 zf;by_cases y:k<xe.points.length
    ·obtain⟨_,il,g8,f2,gz,g0,b1,b4⟩:=au.p;obtain⟨rfl,_,rfl⟩:=Value.slice.inj f2;obtain⟨bp,a,g5,Z,al,N⟩:=b4 (by simp[Aj];omega);have ck:wr.cell? ⟨bp,a+k,O⟩=U (ZB xe.points[k]):=by
      rw[d.bel.cell (p:=⟨bp,a+k,O⟩) (ar bp Z)];exact N k _ (by simp[Aj,y])
     have D:=G (show Ai ((xe.points.take (k+1)).map Gt)=Ai ((xe.points.take k).map Gt)++Br (Gt xe.points[k])from by rw[If y,B0,Cj,Zz1,Zzk,Dv]);have ag:(L1++Ai ((xe.points.take k).map Gt)).length<=900000:=by
      have h1:=D1 (L:=(xe.points.take k).map Gt) (fun ws q=>by
       obtain⟨s,hs,rfl⟩:=List.mem_map.1 q;exact Rq T (List.mem_of_mem_take hs))
      rw[Fn,By]at h1;rw[R2];have:=HL1l.out;have:=T.pl;have:=bj.out;omega
     have d9:=G (Lb d bk (Rq T (M2 y)) ag);unfold Gt at d9;clear gz g0 b1 b4 N ag f2 al Z;have iu:xe.points.length<=16:=T.pl;subst g5;go_wp2_with fail;refine d9.mono ?_;rintro e w8 ⟨rfl,S⟩;have az:ZG (PG b b (L1++Ai ((xe.points.take (k+1)).map Gt)) wE w8):=(show PG b b _ wE w8 from by rw[D.out,<-F6];exact S)
     clear S d9;go_wp2_with fail;go_roundw;case rel=>exact⟨k+1,by omega,by go_num,az⟩
     case measure=>simp[intOf];omega
    ·have o:ZG (PG b b (L1++Ai (xe.points.map Gt)) wE wr):=(show PG b b _ wE wr from by
      have:=d.out;rw[(show k=xe.points.length by omega),Zz2]at this;exact this)
     obtain⟨L2,di⟩:∃L2,L2=L1++Ai (xe.points.map Gt):=⟨_,rfl⟩
     rw[<-di]at o;have HL2l:=G (show L2.length<=619+26000*i+206+206*16 from by
      have h1:=D1 (L:=xe.points.map Gt) (fun ws q=>by
       obtain⟨s,hs,rfl⟩:=List.mem_map.1 q;exact Rq T hs)
      rw[Fn]at h1;rw[di,R2];have:=HL1l.out;have:=T.pl;omega)
     have cc:=G di;clear di d;obtain⟨z0,z1,z2,z3,z4,z5,z6,z7,z8,z9,zf⟩:=Bo (ac _ _ o.out);go_upto_if 82 with fail;go_cut [] (fun wx=>ZG (PG b b (L2++Ai (Ep xe)) wE wx));case first=>
      by_cases ek:0<=xe.count
      ·obtain⟨cn,ch⟩:∃cn:Nat,xe.count=cn:=⟨xe.count.toNat,(Zzu ek).symm⟩
       have em:cn<xe.points.length:=by
        have:=T.cnt;omega
       obtain⟨bp,a,rfl,Z,al,N⟩:=Oc au.p em;have m:=ar bp Z;have ck:wr.cell? ⟨bp,a+cn,O⟩=U (ZB (A9 xe (cn:Int))):=by
        rw[o.bel.cell (p:=⟨bp,a+cn,O⟩) m];exact N cn em
       have t:=Uv T.out;rw[ch]at t z3;have ab:ZG (∀W wb,PG b b L2 wr W->W.heap[wb]? =U (ZC #[ZL 9 (ZB Rc),ZL 9 (ZB (A9 xe (cn:Int))),ZL 3 (I J xe.mn),ZL 3 (I J xe.mx)] 20)->wb≠b->ZH ZI 58 #[ZA (U ⟨b,0,O⟩),F (U ⟨wb,0,O⟩) 4 4] W fun e w'=>e=ZD (ZM #[])/\PG b b (L2++Br [.str Rc,.str (A9 xe (cn:Int)),.num xe.mn,.num xe.mx]) wr w'):=(show _ from fun W wb hW bd hne=>sH hW bd hne (bk.low o.bel (Y2 _)) t (by have:=HL2l.out;have:=bj.out;omega))
       have e2:=G (show Ep xe= [[.str Rc,.str (A9 xe (cn:Int)),.num xe.mn,.num xe.mx]] from by unfold Ep;rw[if_pos ek,ch]);have fz:(cn:Int)<(xe.points.length:Int):=by omega
       obtain⟨nm0,A⟩:∃nm0,nm0=A9 xe (cn:Int):=⟨_,rfl⟩
       rw[<-A]at ck ab e2;obtain⟨np,Q⟩:∃np,np=xe.points.length:=⟨_,rfl⟩
       rw[<-Q]at z2 fz;have ik:=G (ac _ _ o.out);have ba:ZG (∀l W,PG b b l wr W->W.cell? ⟨eb,2,O⟩=U (F (U ⟨bp,a,O⟩) np pc)/\W.cell? ⟨eb,3,O⟩=U (I J cn)/\W.cell? ⟨eb,4,O⟩=U (I J xe.mn)/\W.cell? ⟨eb,5,O⟩=U (I J xe.mx)/\W.cell? ⟨bp,a+cn,O⟩=U (ZB nm0)):=(show _ from fun l W hW=>by
        have hx:=ac _ _ (o.more hW);obtain⟨q0,q1,q2,q3,q4,q5,q6,q7,q8,q9,qf⟩:=Bo hx;rw[ch]at q3;rw[Q];exact⟨q2,q3,q4,q5,by rw[hW.bel.cell (p:=⟨bp,a+cn,O⟩) m];exact ck⟩)
       have aq:=G o.self;have dr:=o.pg.lt;clear N Z al em A t Q m;go_upto_region 18 with fail;go_region_held3 (fun w'=>w'.cell? ⟨eb,2,O⟩=U (F (U ⟨bp,a,O⟩) np pc)/\w'.cell? ⟨eb,3,O⟩=U (I J cn)/\w'.cell? ⟨eb,4,O⟩=U (I J xe.mn)/\w'.cell? ⟨eb,5,O⟩=U (I J xe.mx)/\w'.cell? ⟨bp,a+cn,O⟩=U (ZB nm0))
        (first|exact ba _ _ S|exact ba L2 _ (by repeat(first|exact aq.out|refine PG.drewP ?_|refine PG.allocP ?_ _)))
        (first|(go_at_call 58;refine(ab _ _ ?_ ?_ ?_).mono ?_;(repeat(first|exact aq.out|refine PG.drewP ?_|refine PG.allocP ?_ _));exact Ab _ _;omega;rintro e w8 ⟨rfl,S⟩))
       go_wp2_with fail;go_meet;show PG b b (L2++Ai (Ep xe)) wE w8
       rw[e2.out,Dv];exact o.more S
      ·have HQ:ZG (PG b b (L2++Ai (Ep xe)) wE wr):=(show PG b b _ wE wr from by
        unfold Ep;rw[if_neg ek];show PG b b (L2++ []) wE wr
        rw[Zz8];exact o.out)
       go_wp2_with fail;go_meet;exact HQ
     case rest=>
     obtain⟨L3,dj⟩:∃L3,L3=L2++Ai (Ep xe):=⟨_,rfl⟩
     have HPL3:ZG (PG b b L3 wE wc):=G (by rw[dj];exact hcut.out);have HL3l:=G (show L3.length<=619+26000*i+206*18 from by
      have h1:=D1 (L:=Ep xe) (fun ws q=>by
       unfold Ep at q;split at q
       ·obtain rfl:=List.mem_singleton.1 q;exact Uv T.out
       ·cases q)
      have h2:(Ep xe).length<=1:=by unfold Ep;split<;>simp
      rw[dj,R2];have:=HL2l.out;omega)
     have cd:=G dj;clear dj hcut z0 z1 z2 z3 z4 z5 z6 z7 z8 z9 zf o;obtain⟨z0,z1,z2,z3,z4,z5,z6,z7,z8,z9,zf⟩:=Bo (ac _ _ HPL3.out);go_wp2_with fail;go_loopw [103] (fun s wk=>∃k:Nat,k<=xe.gaps.length/\s=I J k/\ZG (PG b b (L3++Ai ((xe.gaps.take k).map (Dj xe))) wE wk)) (fun s _=>xe.gaps.length-(intOf s).toNat);case atStart=>exact⟨0,In _,rfl,(show PG b b (L3++ []) wE _ from by rw[Zz8];exact HPL3.out)⟩
     case round=>
      obtain⟨k,hk,rfl,d⟩:=hrel;clear HPL3 z0 z1 z2 z3 z4 z5 z6 z7 z8 z9 zf;by_cases y:k<xe.gaps.length
      ·have ah:xe.gaps[k]∈xe.gaps:=M2 y;have D:=G (show Ai ((xe.gaps.take (k+1)).map (Dj xe))=Ai ((xe.gaps.take k).map (Dj xe))++Br (Dj xe xe.gaps[k])from by rw[If y,B0,Cj,Zz1,Zzk,Dv]);have br:xe.gaps.length<=8:=T.gl;have ag:(L3++Ai ((xe.gaps.take k).map (Dj xe))).length<=900000:=by
        have h1:=D1 (L:=(xe.gaps.take k).map (Dj xe)) (fun ws q=>by
         obtain⟨s,hs,rfl⟩:=List.mem_map.1 q;exact Om T (List.mem_of_mem_take hs))
        rw[Fn,By]at h1;rw[R2];have:=HL3l.out;have:=bj.out;omega
       obtain⟨⟨g1,g2⟩,⟨g3,g4⟩,_⟩:=T.gs _ ah;obtain⟨j,P⟩:∃j:Nat,xe.gaps[k].fr=j:=⟨_,(Zzu g1).symm⟩
       have ae:j<xe.points.length:=by omega
       obtain⟨K,a0⟩:∃K:Nat,xe.gaps[k].dst=K:=⟨_,(Zzu g3).symm⟩
       have cg:K<xe.points.length:=by omega
       obtain⟨bp,a,rfl,Z,al,N⟩:=Oc au.p ae;have m:=ar bp Z;have Y:wr.cell? ⟨bp,a+j,O⟩=U (ZB (A9 xe (j:Int))):=by rw[d.bel.cell (p:=⟨bp,a+j,O⟩) m];exact N j ae
       have bl:(j:Int)<(xe.points.length:Int):=by omega
       have ai:wr.cell? ⟨bp,a+K,O⟩=U (ZB (A9 xe (K:Int))):=by rw[d.bel.cell (p:=⟨bp,a+K,O⟩) m];exact N K cg
       have eh:(K:Int)<(xe.points.length:Int):=by omega
       have t:Hu [.str Xc,.str (A9 xe (j:Int)),.str (A9 xe (K:Int)),.num xe.gaps[k].mn,.num xe.gaps[k].mx]:=by have:=Om T ah;unfold Dj at this;rw[P,a0]at this;exact this
       have aj:Dj xe xe.gaps[k]= [.str Xc,.str (A9 xe (j:Int)),.str (A9 xe (K:Int)),.num xe.gaps[k].mn,.num xe.gaps[k].mx]:=by unfold Dj;rw[P,a0]
       rw[aj]at D;obtain⟨nm0,A⟩:∃nm0,nm0=A9 xe (j:Int):=⟨_,rfl⟩
       rw[<-A]at Y t D;obtain⟨nm1,bc⟩:∃nm1,nm1=A9 xe (K:Int):=⟨_,rfl⟩
       rw[<-bc]at ai t D;obtain⟨np,Q⟩:∃np,np=xe.points.length:=⟨_,rfl⟩
       obtain⟨z0,z1,z2,z3,z4,z5,z6,z7,z8,z9,zf⟩:=Bo (ac _ _ d.out);rw[<-Q]at bl eh z2;obtain⟨xb,n,rfl,ak,bo,af⟩:=au.g.elem (f:=Cu) (fun _=>rfl) (by decide) (by omega);have aa:=ar xb ak;have x0:wr.cell? ⟨xb,n+k*4,O⟩=U (I J j):=by rw[d.bel.cell (p:=⟨xb,n+k*4,O⟩) aa];have:=af k y 0 _ rfl;rw[P]at this;exact this
       have x1:wr.cell? ⟨xb,n+k*4+1,O⟩=U (I J K):=by rw[d.bel.cell (p:=⟨xb,n+k*4+1,O⟩) aa];have:=af k y 1 _ rfl;rw[a0]at this;exact this
       have x2:wr.cell? ⟨xb,n+k*4+2,O⟩=U (I J xe.gaps[k].mn):=by rw[d.bel.cell (p:=⟨xb,n+k*4+2,O⟩) aa];have:=af k y 2 _ rfl;exact this
       have x3:wr.cell? ⟨xb,n+k*4+3,O⟩=U (I J xe.gaps[k].mx):=by rw[d.bel.cell (p:=⟨xb,n+k*4+3,O⟩) aa];have:=af k y 3 _ rfl;exact this
       clear af N ak bo Z al ae cg g1 g2 g3 g4 aj A bc;have an:PG b b (L3++Ai ((xe.gaps.take k).map (Dj xe))) wE (wr.alloc (ZC #[I J j,I J K,I J xe.gaps[k].mn,I J xe.gaps[k].mx] 126)):=d.allocP _;have am:=Ab wr (ZC #[I J j,I J K,I J xe.gaps[k].mn,I J xe.gaps[k].mx] 126);obtain⟨df,dy⟩:∃x,x=xe.gaps[k].mn:=⟨_,rfl⟩
       obtain⟨dg,dz⟩:∃x,x=xe.gaps[k].mx:=⟨_,rfl⟩
       rw[<-dy]at x2 an am t D;rw[<-dz]at x3 an am t D;clear dy dz P a0;go_upto_region 22 with fail;generalize wr.alloc _=wg at an am ⊢;obtain⟨gb,cj⟩:∃gb,gb=wr.heap.size:=⟨_,rfl⟩
       have dr:=d.pg.lt;rw[<-cj]at am dr ⊢;have ad:=G an;have d7:=G am;have ba:ZG (∀l W,PG b b l wg W->W.cell? ⟨eb,2,O⟩=U (F (U ⟨bp,a,O⟩) np pc)/\W.cell? ⟨bp,a+j,O⟩=U (ZB nm0)/\W.cell? ⟨bp,a+K,O⟩=U (ZB nm1)/\W.cell? ⟨gb,0,O⟩=U (I J j)/\W.cell? ⟨gb,1,O⟩=U (I J K)/\W.cell? ⟨gb,2,O⟩=U (I J df)/\W.cell? ⟨gb,3,O⟩=U (I J dg)):=(show _ from fun l W hW=>by
        obtain⟨q0,q1,q2,q3,q4,q5,q6,q7,q8,q9,qf⟩:=Bo (ac _ _ (ad.more hW));have bq:=hW.oth.block gb _ d7 (by omega) (by show ¬(126=5);decide);rw[Q];refine⟨q2,?_,?_,?_,?_,?_,?_⟩
        ·rw[(ad.more hW).bel.cell (p:=⟨bp,a+j,O⟩) m,<-d.bel.cell (p:=⟨bp,a+j,O⟩) m];exact Y
        ·rw[(ad.more hW).bel.cell (p:=⟨bp,a+K,O⟩) m,<-d.bel.cell (p:=⟨bp,a+K,O⟩) m];exact ai
        ·simp[World.cell?,bq]
        ·simp[World.cell?,bq]
        ·simp[World.cell?,bq]
        ·simp[World.cell?,bq])
       have aq:=G ad.self;have ab:ZG (∀W wb,PG b b (L3++Ai ((xe.gaps.take k).map (Dj xe))) wg W->W.heap[wb]? =U (ZC #[ZL 9 (ZB Xc),ZL 9 (ZB nm0),ZL 9 (ZB nm1),ZL 3 (I J df),ZL 3 (I J dg)] 20)->wb≠b->ZH ZI 58 #[ZA (U ⟨b,0,O⟩),F (U ⟨wb,0,O⟩) 5 5] W fun e w'=>e=ZD (ZM #[])/\PG b b ((L3++Ai ((xe.gaps.take k).map (Dj xe)))++Br [.str Xc,.str nm0,.str nm1,.num df,.num dg]) wg w'):=(show _ from fun W wb hW bd hne=>sH hW bd hne (bk.low ad.bel (Y2 _)) t ag)
       obtain⟨q0,q1,q2,q3,q4,q5,q6,q7,q8,q9,qf⟩:=Bo (ac _ _ ad.out);rw[<-Q]at q2;have gy:=an.pg.lt;obtain⟨Lk,bn⟩:∃Lk,Lk=(L3++Ai ((xe.gaps.take k).map (Dj xe))):=⟨_,rfl⟩
       rw[<-bn]at ab aq;have d8:=G bn;clear am an cj z0 z1 z2 z3 z4 z5 z6 z7 z8 z9 zf x0 x1 x2 x3 t ag Q bn q0 q1 q3 q4 q5 q6 q7 q8 q9 qf Y ai;go_region_held3 (fun W=>W.cell? ⟨eb,2,O⟩=U (F (U ⟨bp,a,O⟩) np pc)/\W.cell? ⟨bp,a+j,O⟩=U (ZB nm0)/\W.cell? ⟨bp,a+K,O⟩=U (ZB nm1)/\W.cell? ⟨gb,0,O⟩=U (I J j)/\W.cell? ⟨gb,1,O⟩=U (I J K)/\W.cell? ⟨gb,2,O⟩=U (I J df)/\W.cell? ⟨gb,3,O⟩=U (I J dg))
        (first|exact ba _ _ S|exact ba Lk _ (by repeat(first|exact aq.out|refine PG.drewP ?_|refine PG.allocP ?_ _)))
        (first|(go_at_call 58;refine(ab _ _ ?_ ?_ ?_).mono ?_;(repeat(first|exact aq.out|refine PG.drewP ?_|refine PG.allocP ?_ _));exact Ab _ _;omega;rintro e w8 ⟨rfl,S⟩))
       have az:ZG (PG b b (L3++Ai ((xe.gaps.take (k+1)).map (Dj xe))) wE w8):=(show PG b b _ wE w8 from by rw[D.out,<-F6,<-d8.out];exact ad.more S)
       clear S ab;go_wp2_with fail;go_roundw;case rel=>exact⟨k+1,by omega,by go_num,az⟩
       case measure=>simp[intOf];omega
      ·have o:ZG (PG b b (L3++Ai (xe.gaps.map (Dj xe))) wE wr):=(show PG b b _ wE wr from by
        have:=d.out;rw[(show k=xe.gaps.length by omega),Zz2]at this;exact this)
       obtain⟨L4,dk⟩:∃L4,L4=L3++Ai (xe.gaps.map (Dj xe)):=⟨_,rfl⟩
       rw[<-dk]at o;have HPL4:=o;have HL4l:=G (show L4.length<=619+26000*i+206*26 from by
        have h1:=D1 (L:=xe.gaps.map (Dj xe)) (fun ws q=>by
         obtain⟨s,hs,rfl⟩:=List.mem_map.1 q;exact Om T hs)
        rw[Fn]at h1;rw[dk,R2];have:=HL3l.out;have br:xe.gaps.length<=8:=T.gl;omega)
       have e5:=G dk;clear dk d o;obtain⟨z0,z1,z2,z3,z4,z5,z6,z7,z8,z9,zf⟩:=Bo (ac _ _ HPL4.out);go_wp2_with fail;go_loopw [135] (fun s wk=>∃k:Nat,k<=xe.edges.length/\s=I J k/\ZG (PG b b (L4++Ai ((xe.edges.take k).map (Dg xe))) wE wk)) (fun s _=>xe.edges.length-(intOf s).toNat);case atStart=>exact⟨0,In _,rfl,(show PG b b (L4++ []) wE _ from by rw[Zz8];exact HPL4.out)⟩
       case round=>
        obtain⟨k,hk,rfl,d⟩:=hrel;clear HPL4 z0 z1 z2 z3 z4 z5 z6 z7 z8 z9 zf;by_cases y:k<xe.edges.length
        ·have ah:xe.edges[k]∈xe.edges:=M2 y;have D:=G (show Ai ((xe.edges.take (k+1)).map (Dg xe))=Ai ((xe.edges.take k).map (Dg xe))++Br (Dg xe xe.edges[k])from by rw[If y,B0,Cj,Zz1,Zzk,Dv]);have br:xe.edges.length<=64:=T.el;have ag:(L4++Ai ((xe.edges.take k).map (Dg xe))).length<=900000:=by
          have h1:=D1 (L:=(xe.edges.take k).map (Dg xe)) (fun ws q=>by
           obtain⟨s,hs,rfl⟩:=List.mem_map.1 q;exact Ow T _)
          rw[Fn,By]at h1;rw[R2];have:=HL4l.out;have:=bj.out;omega
         obtain⟨⟨g1,g2⟩,⟨g3,g4⟩⟩:=T.es _ ah;obtain⟨j,P⟩:∃j:Nat,xe.edges[k].1=j:=⟨_,(Zzu g1).symm⟩
         have ae:j<xe.points.length:=by omega
         obtain⟨K,a0⟩:∃K:Nat,xe.edges[k].2=K:=⟨_,(Zzu g3).symm⟩
         have cg:K<xe.points.length:=by omega
         obtain⟨bp,a,rfl,Z,al,N⟩:=Oc au.p ae;have m:=ar bp Z;have Y:wr.cell? ⟨bp,a+j,O⟩=U (ZB (A9 xe (j:Int))):=by rw[d.bel.cell (p:=⟨bp,a+j,O⟩) m];exact N j ae
         have bl:(j:Int)<(xe.points.length:Int):=by omega
         have ai:wr.cell? ⟨bp,a+K,O⟩=U (ZB (A9 xe (K:Int))):=by rw[d.bel.cell (p:=⟨bp,a+K,O⟩) m];exact N K cg
         have eh:(K:Int)<(xe.points.length:Int):=by omega
         have t:Hu [.str Xd,.str (A9 xe (j:Int)),.str (A9 xe (K:Int))]:=by have:=Ow T xe.edges[k];unfold Dg at this;rw[P,a0]at this;exact this
         have aj:Dg xe xe.edges[k]= [.str Xd,.str (A9 xe (j:Int)),.str (A9 xe (K:Int))]:=by unfold Dg;rw[P,a0]
         rw[aj]at D;obtain⟨nm0,A⟩:∃nm0,nm0=A9 xe (j:Int):=⟨_,rfl⟩
         rw[<-A]at Y t D;obtain⟨nm1,bc⟩:∃nm1,nm1=A9 xe (K:Int):=⟨_,rfl⟩
         rw[<-bc]at ai t D;obtain⟨np,Q⟩:∃np,np=xe.points.length:=⟨_,rfl⟩
         obtain⟨z0,z1,z2,z3,z4,z5,z6,z7,z8,z9,zf⟩:=Bo (ac _ _ d.out);rw[<-Q]at bl eh z2;obtain⟨xb,n,rfl,ak,bo,af⟩:=au.e.elem (f:=Cn) (fun _=>rfl) (by decide) (by omega);have aa:=ar xb ak;have x0:wr.cell? ⟨xb,n+k*2,O⟩=U (I J j):=by rw[d.bel.cell (p:=⟨xb,n+k*2,O⟩) aa];have:=af k y 0 _ rfl;rw[P]at this;exact this
         have x1:wr.cell? ⟨xb,n+k*2+1,O⟩=U (I J K):=by rw[d.bel.cell (p:=⟨xb,n+k*2+1,O⟩) aa];have:=af k y 1 _ rfl;rw[a0]at this;exact this
         clear af N ak bo Z al ae cg g1 g2 g3 g4 aj A bc;have an:PG b b (L4++Ai ((xe.edges.take k).map (Dg xe))) wE (wr.alloc (ZC #[I J j,I J K] 127)):=d.allocP _;have am:=Ab wr (ZC #[I J j,I J K] 127);clear P a0;go_upto_region 27 with fail;generalize wr.alloc _=wg at an am ⊢;obtain⟨gb,cj⟩:∃gb,gb=wr.heap.size:=⟨_,rfl⟩
         have dr:=d.pg.lt;rw[<-cj]at am dr ⊢;have ad:=G an;have d7:=G am;have ba:ZG (∀l W,PG b b l wg W->W.cell? ⟨eb,2,O⟩=U (F (U ⟨bp,a,O⟩) np pc)/\W.cell? ⟨bp,a+j,O⟩=U (ZB nm0)/\W.cell? ⟨bp,a+K,O⟩=U (ZB nm1)/\W.cell? ⟨gb,0,O⟩=U (I J j)/\W.cell? ⟨gb,1,O⟩=U (I J K)):=(show _ from fun l W hW=>by
          obtain⟨q0,q1,q2,q3,q4,q5,q6,q7,q8,q9,qf⟩:=Bo (ac _ _ (ad.more hW));have bq:=hW.oth.block gb _ d7 (by omega) (by show ¬(127=5);decide);rw[Q];refine⟨q2,?_,?_,?_,?_⟩
          ·rw[(ad.more hW).bel.cell (p:=⟨bp,a+j,O⟩) m,<-d.bel.cell (p:=⟨bp,a+j,O⟩) m];exact Y
          ·rw[(ad.more hW).bel.cell (p:=⟨bp,a+K,O⟩) m,<-d.bel.cell (p:=⟨bp,a+K,O⟩) m];exact ai
          ·simp[World.cell?,bq]
          ·simp[World.cell?,bq])
         have aq:=G ad.self;have ab:ZG (∀W wb,PG b b (L4++Ai ((xe.edges.take k).map (Dg xe))) wg W->W.heap[wb]? =U (ZC #[ZL 9 (ZB Xd),ZL 9 (ZB nm0),ZL 9 (ZB nm1)] 20)->wb≠b->ZH ZI 58 #[ZA (U ⟨b,0,O⟩),F (U ⟨wb,0,O⟩) 3 3] W fun e w'=>e=ZD (ZM #[])/\PG b b ((L4++Ai ((xe.edges.take k).map (Dg xe)))++Br [.str Xd,.str nm0,.str nm1]) wg w'):=(show _ from fun W wb hW bd hne=>sH hW bd hne (bk.low ad.bel (Y2 _)) t ag)
         obtain⟨q0,q1,q2,q3,q4,q5,q6,q7,q8,q9,qf⟩:=Bo (ac _ _ ad.out);rw[<-Q]at q2;have gy:=an.pg.lt;obtain⟨Lk,bn⟩:∃Lk,Lk=(L4++Ai ((xe.edges.take k).map (Dg xe))):=⟨_,rfl⟩
         rw[<-bn]at ab aq;have d8:=G bn;clear am an cj z0 z1 z2 z3 z4 z5 z6 z7 z8 z9 zf x0 x1 t ag Q bn q0 q1 q3 q4 q5 q6 q7 q8 q9 qf Y ai;go_region_held3 (fun W=>W.cell? ⟨eb,2,O⟩=U (F (U ⟨bp,a,O⟩) np pc)/\W.cell? ⟨bp,a+j,O⟩=U (ZB nm0)/\W.cell? ⟨bp,a+K,O⟩=U (ZB nm1)/\W.cell? ⟨gb,0,O⟩=U (I J j)/\W.cell? ⟨gb,1,O⟩=U (I J K))
          (first|exact ba _ _ S|exact ba Lk _ (by repeat(first|exact aq.out|refine PG.drewP ?_|refine PG.allocP ?_ _)))
          (first|(go_at_call 58;refine(ab _ _ ?_ ?_ ?_).mono ?_;(repeat(first|exact aq.out|refine PG.drewP ?_|refine PG.allocP ?_ _));exact Ab _ _;omega;rintro e w8 ⟨rfl,S⟩))
         have az:ZG (PG b b (L4++Ai ((xe.edges.take (k+1)).map (Dg xe))) wE w8):=(show PG b b _ wE w8 from by rw[D.out,<-F6,<-d8.out];exact ad.more S)
         clear S ab;go_wp2_with fail;go_roundw;case rel=>exact⟨k+1,by omega,by go_num,az⟩
         case measure=>simp[intOf];omega
        ·have o:ZG (PG b b (L4++Ai (xe.edges.map (Dg xe))) wE wr):=(show PG b b _ wE wr from by
          have:=d.out;rw[(show k=xe.edges.length by omega),Zz2]at this;exact this)
         obtain⟨L5,dl⟩:∃L5,L5=L4++Ai (xe.edges.map (Dg xe)):=⟨_,rfl⟩
         rw[<-dl]at o;have HPL5:=o;have HL5l:=G (show L5.length<=619+26000*i+206*90 from by
          have h1:=D1 (L:=xe.edges.map (Dg xe)) (fun ws q=>by
           obtain⟨s,hs,rfl⟩:=List.mem_map.1 q;exact Ow T _)
          rw[Fn]at h1;rw[dl,R2];have:=HL4l.out;have br:xe.edges.length<=64:=T.el;omega)
         have e6:=G dl;clear dl d o;obtain⟨z0,z1,z2,z3,z4,z5,z6,z7,z8,z9,zf⟩:=Bo (ac _ _ HPL5.out);go_wp2_with fail;go_loopw [161] (fun s wk=>∃k:Nat,k<=xe.first.length/\s=I J k/\ZG (PG b b (L5++Ai ((xe.first.take k).map (D0 xe))) wE wk)) (fun s _=>xe.first.length-(intOf s).toNat);case atStart=>exact⟨0,In _,rfl,(show PG b b (L5++ []) wE _ from by rw[Zz8];exact HPL5.out)⟩
         case round=>
          obtain⟨k,hk,rfl,d⟩:=hrel;clear HPL5 z0 z1 z2 z3 z4 z5 z6 z7 z8 z9 zf;by_cases y:k<xe.first.length
          ·have ah:xe.first[k]∈xe.first:=M2 y;have D:=G (show Ai ((xe.first.take (k+1)).map (D0 xe))=Ai ((xe.first.take k).map (D0 xe))++Br (D0 xe xe.first[k])from by rw[If y,B0,Cj,Zz1,Zzk,Dv]);have br:xe.first.length<=16:=T.fl;have ag:(L5++Ai ((xe.first.take k).map (D0 xe))).length<=900000:=by
            have h1:=D1 (L:=(xe.first.take k).map (D0 xe)) (fun ws q=>by
             obtain⟨s,hs,rfl⟩:=List.mem_map.1 q;exact Oo T _)
            rw[Fn,By]at h1;rw[R2];have:=HL5l.out;have:=bj.out;omega
           obtain⟨g1,g2⟩:=T.fs _ ah;obtain⟨j,P⟩:∃j:Nat,xe.first[k]=j:=⟨_,(Zzu g1).symm⟩
           have ae:j<xe.points.length:=by omega
           obtain⟨bp,a,rfl,Z,al,N⟩:=Oc au.p ae;have m:=ar bp Z;have Y:wr.cell? ⟨bp,a+j,O⟩=U (ZB (A9 xe (j:Int))):=by rw[d.bel.cell (p:=⟨bp,a+j,O⟩) m];exact N j ae
           have bl:(j:Int)<(xe.points.length:Int):=by omega
           have t:Hu [.str gX,.str (A9 xe (j:Int))]:=by have:=Oo T xe.first[k];unfold D0 at this;rw[P]at this;exact this
           have aj:D0 xe xe.first[k]= [.str gX,.str (A9 xe (j:Int))]:=by unfold D0;rw[P]
           rw[aj]at D;obtain⟨nm0,A⟩:∃nm0,nm0=A9 xe (j:Int):=⟨_,rfl⟩
           rw[<-A]at Y t D;obtain⟨np,Q⟩:∃np,np=xe.points.length:=⟨_,rfl⟩
           obtain⟨z0,z1,z2,z3,z4,z5,z6,z7,z8,z9,zf⟩:=Bo (ac _ _ d.out);rw[<-Q]at bl z2;obtain⟨_,ax,cx,cm,ev,ew,ex,co⟩:=au.f;obtain⟨rfl,_,rfl⟩:=Value.slice.inj cm;obtain⟨xb,n,bf,ak,bo,af⟩:=co (by simp[Ad];omega);subst bf;have aa:=ar xb ak;have x0:wr.cell? ⟨xb,n+k,O⟩=U (I J j):=by rw[d.bel.cell (p:=⟨xb,n+k,O⟩) aa];exact af k _ (by simp[Ad,y,P])
           have ab:=G (Lb d bk t ag);clear af N ak bo Z al ae g1 g2 aj A t ag cm ev ew ex co Q P;go_wp2_with fail;refine ab.mono ?_;rintro e w8 ⟨rfl,S⟩;have az:ZG (PG b b (L5++Ai ((xe.first.take (k+1)).map (D0 xe))) wE w8):=(show PG b b _ wE w8 from by rw[D.out,<-F6];exact S)
           clear S ab;go_wp2_with fail;go_roundw;case rel=>exact⟨k+1,by omega,by go_num,az⟩
           case measure=>simp[intOf];omega
          ·have o:ZG (PG b b (L5++Ai (xe.first.map (D0 xe))) wE wr):=(show PG b b _ wE wr from by
            have:=d.out;rw[(show k=xe.first.length by omega),Zz2]at this;exact this)
           obtain⟨L6,dm⟩:∃L6,L6=L5++Ai (xe.first.map (D0 xe)):=⟨_,rfl⟩
           rw[<-dm]at o;have HPL6:=o;have HL6l:=G (show L6.length<=619+26000*i+206*106 from by
            have h1:=D1 (L:=xe.first.map (D0 xe)) (fun ws q=>by
             obtain⟨s,hs,rfl⟩:=List.mem_map.1 q;exact Oo T _)
            rw[Fn]at h1;rw[dm,R2];have:=HL5l.out;have br:xe.first.length<=16:=T.fl;omega)
           have e7:=G dm;clear dm d o;obtain⟨z0,z1,z2,z3,z4,z5,z6,z7,z8,z9,zf⟩:=Bo (ac _ _ HPL6.out);go_wp2_with fail;go_loopw [179] (fun s wk=>∃k:Nat,k<=xe.last.length/\s=I J k/\ZG (PG b b (L6++Ai ((xe.last.take k).map (D3 xe))) wE wk)) (fun s _=>xe.last.length-(intOf s).toNat);case atStart=>exact⟨0,In _,rfl,(show PG b b (L6++ []) wE _ from by rw[Zz8];exact HPL6.out)⟩
           case round=>
            obtain⟨k,hk,rfl,d⟩:=hrel;clear HPL6 z0 z1 z2 z3 z4 z5 z6 z7 z8 z9 zf;by_cases y:k<xe.last.length
            ·have ah:xe.last[k]∈xe.last:=M2 y;have D:=G (show Ai ((xe.last.take (k+1)).map (D3 xe))=Ai ((xe.last.take k).map (D3 xe))++Br (D3 xe xe.last[k])from by rw[If y,B0,Cj,Zz1,Zzk,Dv]);have br:xe.last.length<=16:=T.ll;have ag:(L6++Ai ((xe.last.take k).map (D3 xe))).length<=900000:=by
              have h1:=D1 (L:=(xe.last.take k).map (D3 xe)) (fun ws q=>by
               obtain⟨s,hs,rfl⟩:=List.mem_map.1 q;exact Qy T _)
              rw[Fn,By]at h1;rw[R2];have:=HL6l.out;have:=bj.out;omega
             obtain⟨g1,g2⟩:=T.ls _ ah;obtain⟨j,P⟩:∃j:Nat,xe.last[k]=j:=⟨_,(Zzu g1).symm⟩
             have ae:j<xe.points.length:=by omega
             obtain⟨bp,a,rfl,Z,al,N⟩:=Oc au.p ae;have m:=ar bp Z;have Y:wr.cell? ⟨bp,a+j,O⟩=U (ZB (A9 xe (j:Int))):=by rw[d.bel.cell (p:=⟨bp,a+j,O⟩) m];exact N j ae
             have bl:(j:Int)<(xe.points.length:Int):=by omega
             have t:Hu [.str gN,.str (A9 xe (j:Int))]:=by have:=Qy T xe.last[k];unfold D3 at this;rw[P]at this;exact this
             have aj:D3 xe xe.last[k]= [.str gN,.str (A9 xe (j:Int))]:=by unfold D3;rw[P]
             rw[aj]at D;obtain⟨nm0,A⟩:∃nm0,nm0=A9 xe (j:Int):=⟨_,rfl⟩
             rw[<-A]at Y t D;obtain⟨np,Q⟩:∃np,np=xe.points.length:=⟨_,rfl⟩
             obtain⟨z0,z1,z2,z3,z4,z5,z6,z7,z8,z9,zf⟩:=Bo (ac _ _ d.out);rw[<-Q]at bl z2;obtain⟨_,ax,cx,cm,ev,ew,ex,co⟩:=au.l;obtain⟨rfl,_,rfl⟩:=Value.slice.inj cm;obtain⟨xb,n,bf,ak,bo,af⟩:=co (by simp[Ad];omega);subst bf;have aa:=ar xb ak;have x0:wr.cell? ⟨xb,n+k,O⟩=U (I J j):=by rw[d.bel.cell (p:=⟨xb,n+k,O⟩) aa];exact af k _ (by simp[Ad,y,P])
             have ab:=G (Lb d bk t ag);clear af N ak bo Z al ae g1 g2 aj A t ag cm ev ew ex co Q P;go_wp2_with fail;refine ab.mono ?_;rintro e w8 ⟨rfl,S⟩;have az:ZG (PG b b (L6++Ai ((xe.last.take (k+1)).map (D3 xe))) wE w8):=(show PG b b _ wE w8 from by rw[D.out,<-F6];exact S)
             clear S ab;go_wp2_with fail;go_roundw;case rel=>exact⟨k+1,by omega,by go_num,az⟩
             case measure=>simp[intOf];omega
            ·have o:ZG (PG b b (L6++Ai (xe.last.map (D3 xe))) wE wr):=(show PG b b _ wE wr from by
              have:=d.out;rw[(show k=xe.last.length by omega),Zz2]at this;exact this)
             obtain⟨L7,dp⟩:∃L7,L7=L6++Ai (xe.last.map (D3 xe)):=⟨_,rfl⟩
             rw[<-dp]at o;have HPL7:=o;have HL7l:=G (show L7.length<=619+26000*i+206*122 from by
              have h1:=D1 (L:=xe.last.map (D3 xe)) (fun ws q=>by
               obtain⟨s,hs,rfl⟩:=List.mem_map.1 q;exact Qy T _)
              rw[Fn]at h1;rw[dp,R2];have:=HL6l.out;have br:xe.last.length<=16:=T.ll;omega)
             have e8:=G dp;clear dp d o;go_wp2_with fail;go_roundw;case rel=>
              refine⟨i+1,by omega,by go_num,?_,?_⟩
              ·show PG b b (Gw C++(X.take (i+1)).flatMap (fun x=>Ai (B5 x.E))) w3 _
               have ci:Gw C++(X.take (i+1)).flatMap (fun x=>Ai (B5 x.E))=L7:=by
                rw[ee.out,<-F6,<-c7.out,e8.out,e7.out,e6.out,e5.out,cd.out,cc.out,a9.out];unfold B5;rw[show(∀(ws:List W1) (M:List (List W1)),Ai (ws::M)=Br ws++Ai M)from fun _ _=>rfl];simp only[Cj,F6]
               rw[ci];exact⟨HPL7.pg,fd.bel.trans HPL7.bel,fd.oth.trans HPL7.oth⟩
              ·show(Gw C++(X.take (i+1)).flatMap (fun x=>Ai (B5 x.E))).length<=618+26000*(i+1)
               have ci:Gw C++(X.take (i+1)).flatMap (fun x=>Ai (B5 x.E))=L7:=by
                rw[ee.out,<-F6,<-c7.out,e8.out,e7.out,e6.out,e5.out,cd.out,cc.out,a9.out];unfold B5;rw[show(∀(ws:List W1) (M:List (List W1)),Ai (ws::M)=Br ws++Ai M)from fun _ _=>rfl];simp only[Cj,F6]
               rw[ci];have:=HL7l.out;omega
             case measure=>simp[intOf];omega
  ·have hT:L0=C4 C:=by
    rw[c7.out,(show i=X.length by omega),Zz2];unfold C4;rw[H.eq,Zyc]
   have hne:C4 C≠ []:=by
    intro e;have:(C4 C).length=0:=by rw[e];rfl
    simp[C4,Gw,Is,Br]at this
   rw[hT]at hp;have gh:=G hp;have gi:=G (rZ b b (C4 C) wr hp.pg hne);clear hT hne hp bu c7;go_wp2_with fail;refine gi.mono ?_;rintro e w7 ⟨rfl,b7⟩;go_wp2_with fail;go_ret2;exact⟨rfl,cb.trans ((gh.bel.trans b7).mono b6)⟩
