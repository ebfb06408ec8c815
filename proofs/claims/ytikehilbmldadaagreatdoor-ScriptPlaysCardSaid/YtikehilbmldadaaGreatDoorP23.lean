import Derived.Test.YtikehilbmldadaaGreatDoorP11
set_option maxHeartbeats 4000000
set_option maxRecDepth 100000
set_option linter.unusedVariables false
namespace Go.Proofs.YtikehilbmldadaaGreatDoor
open Proofs.Tryz YtikehilbmldadaaGreatDoor.Tryz RowKit
open Go renaming World->V,Value->ZE,RowKit.Below->ZF,Calls->ZH,Value.int->I,IntKind.i64->J,Value.slice->F,Value.pointer->ZA,Obj.cells->ZC,Ending.returned->ZD,Value.bool->ZK,Proofs.Tryz.prog->ZI
open Option renaming some->U,none->O
def Ef(E:Ak)(vp vg ve vf vl:ZE)(m:Bl)(lv:ZE):Obj:=
 ZC #[.string E.name,I J E.tol,vp,I J E.count,I J E.mn,I J E.mx,vg,ve,vf,vl,ZK m.act,I J m.since,lv,I J m.run,ZK m.exp] 203
theorem Fa{w:V}{b:Nat}{E:Ak}{vp vg ve vf vl:ZE}{m:Bl}{lv:ZE}(h:w.heap[b]? =U (Ef E vp vg ve vf vl m lv)):
  (w.cell? ⟨b,0,O⟩=U (.string E.name)/\w.cell? ⟨b,1,O⟩=U (I J E.tol)/\w.cell? ⟨b,2,O⟩=U vp/\w.cell? ⟨b,3,O⟩=U (I J E.count)/\w.cell? ⟨b,4,O⟩=U (I J E.mn)/\w.cell? ⟨b,5,O⟩=U (I J E.mx)/\
  w.cell? ⟨b,6,O⟩=U vg/\w.cell? ⟨b,7,O⟩=U ve/\w.cell? ⟨b,8,O⟩=U vf/\w.cell? ⟨b,9,O⟩=U vl)/\w.cell? ⟨b,10,O⟩=U (ZK m.act)/\w.cell? ⟨b,11,O⟩=U (I J m.since)/\w.cell? ⟨b,12,O⟩=U lv/\
  w.cell? ⟨b,13,O⟩=U (I J m.run)/\w.cell? ⟨b,14,O⟩=U (ZK m.exp)/\∀o,w.frozen? ⟨b,o,O⟩=false:=by
 unfold Ef at h;simp[World.cell?,World.frozen?,h]
theorem Akm{E:Ak}{l:List Bm}{c:Int}{i:Nat}(hl:l.length<=200):Gn E (l.take i) c<=200:=No (Zm _ _ _) (No (by rw[By];exact Nat.min_le_right _ _) hl)
theorem zX(R:Nat->Prop)(E:Ak)(l:List Bm)(c:Int)(vp vg ve vf vl v:ZE)(w:V)(N:Av R w v 3 (l.flatMap Dn) l.length)(P:∀b,R b->b<w.heap.size)(X:l.length<=200):
  ZH ZI 253 #[.agg (As E vp vg ve vf vl),v,I J c] w fun e w'=>e=ZD (I J (Gn E l c:Nat))/\ZF w.heap.size w w':=by
 obtain⟨ma,mc,rfl⟩:=N.val;have T:=G N;clear N;unfold As;go_enter func253,ntmps253;go_wp2_with fail;generalize f:w.alloc _=wa;have t:ZF w.heap.size w wa:=by rw[<-f];exact(R1 _ _).alloc (Y2 _) _
 have A:wa.heap[w.heap.size]? =U (ZC (As E vp vg ve vf vl) 50):=by rw[<-f];exact Ab w _
 have o:=G A;clear f A;go_loopw [7,8] (fun s7 s8 wr=>∃i:Nat,i<=l.length/\s7=I J (Gn E (l.take i) c:Nat)/\s8=I J i/\ZF w.heap.size w wr/\Hid (wr.heap[w.heap.size]? =U (ZC (As E vp vg ve vf vl) 50))) (fun _ s _=>l.length-(intOf s).toNat);case atStart=>exact⟨0,In _,rfl,rfl,t,o⟩
 case round=>
  obtain⟨i,hi,rfl,rfl,g,C⟩:=hrel;clear o t;by_cases u:i<l.length
  ·obtain⟨D,a,rfl,q,_,Q⟩:=Pj T (by omega);obtain⟨Y,Z,q2⟩:=Q i u;rw[<-g.cell (p:=⟨D,a+i*3,O⟩) (P D q)]at Y;rw[<-g.cell (p:=⟨D,a+i*3+2,O⟩) (P D q)]at q2;clear Q Z;have d:=C.out;unfold As at d;obtain⟨_,_,_,c3,_⟩:=Bo d;clear d;have M:=Akm (E:=E) (c:=c) (i:=i) X;have y:=Aea E l c i u;have B:=G y;clear y;generalize Gn E (l.take i) c=n at B M ⊢;by_cases h1:l[i].cycle=c
   ·have H:(l[i].cycle==c)=true:=by simp[h1]
    have S:=G h1;clear h1;by_cases h2:l[i].point=E.count
    ·have K:(l[i].point==E.count)=true:=by simp[h2]
     have j:Hid (((n:Int)+1)=(Gn E (l.take (i+1)) c:Nat)):=by
      show((n:Int)+1)=(Gn E (l.take (i+1)) c:Nat)
      rw[B.out,if_pos (by simp[Uj,S.out,h2])];rfl
     clear h2;go_wp2_with fail;go_quiet (fail);go_wp2_with fail;go_roundw;case rel=>exact⟨i+1,by omega,by rw[j.out],by go_num,Ag _ g,C⟩
     case measure=>simp[intOf];omega
    ·have K:(l[i].point==E.count)=false:=by simp[h2]
     have j:Hid ((n:Int)=(Gn E (l.take (i+1)) c:Nat)):=by
      show(n:Int)=(Gn E (l.take (i+1)) c:Nat)
      rw[B.out,if_neg (by simp[Uj,h2])];rfl
     clear h2;go_wp2_with fail;go_quiet (fail);go_wp2_with fail;go_roundw;case rel=>exact⟨i+1,by omega,by rw[j.out],by go_num,Ag _ g,C⟩
     case measure=>simp[intOf];omega
   ·have H:(l[i].cycle==c)=false:=by simp[h1]
    have j:Hid ((n:Int)=(Gn E (l.take (i+1)) c:Nat)):=by
     show(n:Int)=(Gn E (l.take (i+1)) c:Nat)
     rw[B.out,if_neg (by simp[Uj,h1])];rfl
    clear h1;go_wp2_with fail;go_quiet (fail);go_wp2_with fail;go_roundw;case rel=>exact⟨i+1,by omega,by rw[j.out],by go_num,Ag _ g,C⟩
    case measure=>simp[intOf];omega
  ·have L:i=l.length:=by omega
   subst L;rw[Zz2];go_wp2_with fail;go_ret;exact⟨rfl,g⟩
theorem sW{E:Ak}{l:List Bm}{c:Int}{k:Nat}(a:k<E.gaps.length)(h:En E.gaps[k] l c l.length=true):Jo E l c=true:=
 List.any_eq_true.2 ⟨_,M2 a,h⟩
theorem sY{E:Ak}{l:List Bm}{c:Int}(h:∀k (hk:k<E.gaps.length),En E.gaps[k] l c l.length=false):Jo E l c=false:=
 List.any_eq_false.2 (fun x a=>by
  obtain⟨k,hk,rfl⟩:=List.mem_iff_getElem.1 a
  rw[h k hk];decide)
def Jt(E:Ak)(n:Int)(c:Int):Bool:=decide (0<=E.count/\0<c/\(n<E.mn\/E.mx<n))
theorem Alx{E:Ak}{l:List Bm}{c:Int}(h:Jt E (Gn E l c:Nat) c=true):Kz E l c=1:=if_pos (Zyq h)
theorem Alw{E:Ak}{l:List Bm}{c:Int}(h:Jt E (Gn E l c:Nat) c=false)(h2:Jo E l c=true):Kz E l c=2:=by
 unfold Kz;rw[if_neg (of_decide_eq_false h),if_pos h2]
theorem Alv{E:Ak}{l:List Bm}{c:Int}(h:Jt E (Gn E l c:Nat) c=false)(h2:Jo E l c=false):Kz E l c=if D9 E l c l.length=true then 3 else 0:=by
 unfold Kz;rw[if_neg (of_decide_eq_false h),if_neg (by rw[h2];decide)]
theorem Aco(R:Nat->Prop)(E:Ak)(l:List Bm)(c:Int)(vp vg ve vf vl v:ZE)(w:V)(h:Dk R w E vp vg ve vf vl)(hm:Av R w v 3 (l.flatMap Dn) l.length)(C:∀b,R b->b<w.heap.size)(hL:O7 E)(hl:l.length<=200)(a4:Rz l):
  ZH ZI 218 #[.agg (As E vp vg ve vf vl),v,I J c] w fun e w'=>e=ZD (I J (Kz E l c))/\ZF w.heap.size w w':=by
 obtain⟨pa,pc,rfl⟩:=h.p.val;obtain⟨ga,gc,rfl⟩:=h.g.val;obtain⟨ea,ec,rfl⟩:=h.e.val;obtain⟨fa,fc,rfl⟩:=h.f.val;obtain⟨la,lc,rfl⟩:=h.l.val;obtain⟨ma,mc,rfl⟩:=hm.val;have H:=G h;have HM:=G hm;have lg:=hL.g;clear h hm;have HCnt:=G (fun W (t:ZF w.heap.size w W)=>zX R E l c (F pa E.points.length pc) (F ga E.gaps.length gc) (F ea E.edges.length ec) (F fa E.first.length fc) (F la E.last.length lc) (F ma l.length mc) W (HM.below t C) (Lv C t) hl);have HGap:=G (fun W (g:Ix) (t:ZF w.heap.size w W)=>Ac9 R g l c (F ma l.length mc) W (HM.below t C) (Lv C t) hl a4);have T:=G (fun W (t:ZF w.heap.size w W)=>yN R E l c (F pa E.points.length pc) (F ga E.gaps.length gc) (F ea E.edges.length ec) (F fa E.first.length fc) (F la E.last.length lc) (F ma l.length mc) W (H.below t C) (HM.below t C) (Lv C t) hL (by omega));unfold As at HCnt T ⊢;go_enter func218,ntmps218;go_upto_region 2 with fail;generalize Q:w.alloc _=wa;have al:ZF w.heap.size w wa:=by rw[<-Q];exact(R1 _ _).alloc (Y2 _) _
 have A:wa.heap[w.heap.size]? =U (ZC (As E (F pa E.points.length pc) (F ga E.gaps.length gc) (F ea E.edges.length ec) (F fa E.first.length fc) (F la E.last.length lc)) 50):=by rw[<-Q];exact Ab w _
 have D:=G A;have q:=G al;unfold As at A;obtain⟨c0,c1,c2,c3,c4,c5,c6,c7,c8,c9,cf⟩:=Bo A;clear Q A al cf;go_wp2_with fail;refine(HCnt wa q.out).mono ?_;rintro e w1 ⟨rfl,b1⟩;have M:=q.trans (b1.mono q.size);have y:=Ae b1 D (Aa D.out);have Y:=G y;unfold As at y;clear c0 c1 c2 c3 c4 c5 c6 c7 c8 c9 D q b1;obtain⟨c0,c1,c2,c3,c4,c5,c6,c7,c8,c9,cf⟩:=Bo y;clear y cf;have P:=Zm E l c;obtain⟨n,hn⟩:∃n,n=Gn E l c:=⟨_,rfl⟩
 rw[<-hn]at P ⊢;have HN:=G hn;clear hn;go_upto_region 2 with fail;go_cut [33] (fun s wx=>s=ZK (Jt E (n:Int) c)/\w1=wx);case first=>
  by_cases h1:0<=E.count
  ·by_cases h2:0<c
   ·by_cases h3:(n:Int)<E.mn
    ·go_wp2_with fail;go_meet;exact⟨Bs (by unfold Jt;rw[On (by omega)]),rfl⟩
    ·by_cases h4:E.mx<(n:Int)
     ·go_wp2_with fail;go_meet;exact⟨Bs (by unfold Jt;rw[On (by omega)]),rfl⟩
     ·go_wp2_with fail;go_meet;exact⟨Bs (by unfold Jt;rw[N1 (by omega)]),rfl⟩
   ·go_wp2_with fail;go_meet;exact⟨Bs (by unfold Jt;rw[N1 (by omega)]),rfl⟩
  ·go_wp2_with fail;go_meet;exact⟨Bs (by unfold Jt;rw[N1 (by omega)]),rfl⟩
 case rest=>
 obtain⟨rfl,rfl⟩:=hcut;cases hA:Jt E (n:Int) c
 ·have K:=hA;rw[HN.out]at K;have HA:=G K;clear hA K;go_wp2_with fail;go_loopw [8] (fun s8 wr=>∃k:Nat,k<=E.gaps.length/\s8=I J k/\ZF w.heap.size w wr/\Hid (wr.heap[w.heap.size]? =U (ZC (As E (F pa E.points.length pc) (F ga E.gaps.length gc) (F ea E.edges.length ec) (F fa E.first.length fc) (F la E.last.length lc)) 50))/\Hid (∀j (S:j<E.gaps.length),j<k->En E.gaps[j] l c l.length=false)) (fun s _=>E.gaps.length-(intOf s).toNat);case atStart=>exact⟨0,In _,rfl,M,Y,fun j S h=>by omega⟩
  case round=>
   obtain⟨k,hk,rfl,L,hx,a⟩:=hrel;clear M Y c0 c1 c2 c3 c4 c5 c6 c7 c8 c9;have N:=hx.out;unfold As at N;obtain⟨c0,c1,c2,c3,c4,c5,c6,c7,c8,c9,cf⟩:=Bo N;clear N cf;by_cases o:k<E.gaps.length
   ·obtain⟨gb,bb,rfl,a0,_,i⟩:=H.g.elem (f:=Cu) (fun _=>rfl) (by decide) (by omega);have x0:=i k o 0 _ rfl;have x1:=i k o 1 _ rfl;have x2:=i k o 2 _ rfl;have x3:=i k o 3 _ rfl;rw[<-L.cell (C gb a0)]at x0 x1 x2 x3;rw[Zzw]at x0;have ak:=HGap wr E.gaps[k] L;have X:=G ak;clear i ak;go_wp2_with fail;refine X.mono ?_;rintro e w2 ⟨rfl,Z⟩;have d:=L.trans (Z.mono L.size);have a6:=G (Ae Z hx (Aa hx.out));clear x0 x1 x2 x3 c0 c1 c2 c3 c4 c5 c6 c7 c8 c9 Z X;cases u:En E.gaps[k] l c l.length
    ·have nx:Hid (∀j (S:j<E.gaps.length),j<k+1->En E.gaps[j] l c l.length=false):=G (fun j S h=>by
      by_cases a1:j=k
      ·subst a1;exact u
      ·exact a j S (by omega))
     clear u a;go_wp2_with fail;go_roundw;case rel=>exact⟨k+1,by omega,by go_num,d,a6,nx⟩
     case measure=>simp[intOf];omega
    ·have B:=G (Alw HA (sW o u));clear u a;go_wp2_with fail;go_ret;exact⟨A6 B.symm,d⟩
   ·have B:=G (Alv HA (sY (fun j S=>a j S (by omega))));have aw:=G (T wr L);clear a;go_wp2_with fail;refine aw.mono ?_;rintro e w2 ⟨rfl,Z⟩;have d:=L.trans (Z.mono L.size);cases u:D9 E l c l.length
    ·rw[u,if_neg (by decide)]at B;clear u;go_wp2_with fail;go_ret;exact⟨A6 B.symm,d⟩
    ·rw[u,if_pos rfl]at B;clear u;go_wp2_with fail;go_ret;exact⟨A6 B.symm,d⟩
 ·rw[HN.out]at hA;have B:=G (Alx hA);rw[<-HN.out]at hA;go_wp2_with fail;go_ret;exact⟨A6 B.symm,M⟩
theorem Tryz.infoMarkL:(ZI.info? 266).map (fun i=>(i.zero,i.size,i.bytes))=U (U (.agg #[I J 0,I J 0,I J 0]),3,24):=by kernel_rfl
section
variable {base rl:Nat} {E:Ak} {vp vg ve vf vl:ZE} {m:Bl} {lv:ZE} {w:V}
theorem X4(h:w.heap[rl]? =U (Ef E vp vg ve vf vl m lv))(x:Bool):(w.setCell ⟨rl,10,O⟩ (ZK x)).heap[rl]? =U (Ef E vp vg ve vf vl ⟨x,m.since,m.L,m.run,m.exp⟩ lv):=by
 unfold Ef at h ⊢;rw[Ah _ h];rfl
theorem X3(h:w.heap[rl]? =U (Ef E vp vg ve vf vl m lv))(x:Nat):(w.setCell ⟨rl,11,O⟩ (I J x)).heap[rl]? =U (Ef E vp vg ve vf vl ⟨m.act,x,m.L,m.run,m.exp⟩ lv):=by
 unfold Ef at h ⊢;rw[Ah _ h];rfl
theorem wC(h:w.heap[rl]? =U (Ef E vp vg ve vf vl m lv)):(w.setCell ⟨rl,11,O⟩ (I J ((m.since:Int)+1))).heap[rl]? =U (Ef E vp vg ve vf vl ⟨m.act,m.since+1,m.L,m.run,m.exp⟩ lv):=by
 rw[show((m.since:Int)+1)=((m.since+1:Nat):Int)from by omega];exact X3 h _
theorem X2(h:w.heap[rl]? =U (Ef E vp vg ve vf vl m lv))(L:List Bm)(v:ZE):(w.setCell ⟨rl,12,O⟩ v).heap[rl]? =U (Ef E vp vg ve vf vl ⟨m.act,m.since,L,m.run,m.exp⟩ v):=by
 unfold Ef at h ⊢;rw[Ah _ h];rfl
theorem Sy(h:w.heap[rl]? =U (Ef E vp vg ve vf vl m lv))(x:Int):(w.setCell ⟨rl,13,O⟩ (I J x)).heap[rl]? =U (Ef E vp vg ve vf vl ⟨m.act,m.since,m.L,x,m.exp⟩ lv):=by
 unfold Ef at h ⊢;rw[Ah _ h];rfl
theorem X1(h:w.heap[rl]? =U (Ef E vp vg ve vf vl m lv))(x:Bool):(w.setCell ⟨rl,14,O⟩ (ZK x)).heap[rl]? =U (Ef E vp vg ve vf vl ⟨m.act,m.since,m.L,m.run,x⟩ lv):=by
 unfold Ef at h ⊢;rw[Ah _ h];rfl
theorem Aa9(h:w.heap[rl]? =U (Ef E vp vg ve vf vl m lv)):(((((w.setCell ⟨rl,10,O⟩ (ZK true)).setCell ⟨rl,11,O⟩ (I J 0)).setCell ⟨rl,12,O⟩ (F O 0 0)).setCell ⟨rl,13,O⟩ (I J 0)).setCell ⟨rl,14,O⟩ (ZK false)).heap[rl]? =U (Ef E vp vg ve vf vl rl0 (F O 0 0))/\
  Ac (· =rl) w (((((w.setCell ⟨rl,10,O⟩ (ZK true)).setCell ⟨rl,11,O⟩ (I J 0)).setCell ⟨rl,12,O⟩ (F O 0 0)).setCell ⟨rl,13,O⟩ (I J 0)).setCell ⟨rl,14,O⟩ (ZK false)):=
 ⟨X1 (Sy (X2 (X3 (X4 h true) 0) [] (F O 0 0)) 0) false,Fo (Fo (Fo (Fo (Af w rl 10 _) 11 _) 12 _) 13 _) 14 _⟩
end
theorem wG(rl:Nat)(E:Ak)(vp vg ve vf vl:ZE)(m:Bl)(lv:ZE)(w:V)(h:w.heap[rl]? =U (Ef E vp vg ve vf vl m lv))(d:m.act=false):
  ZH ZI 103 #[ZA (U ⟨rl,0,O⟩)] w fun e w'=>e=ZD (I J 0)/\w'.heap[rl]? =U (Ef E vp vg ve vf vl rl0 (F O 0 0))/\Ac (· =rl) w w':=by
 obtain⟨_,a,g,i,j,l,n⟩:=Fa h;have f:=G (Aa9 h);rw[d]at a;clear h d;go_enter func103,ntmps103;go_wp2_with fail;go_ret;exact⟨rfl,f.out⟩
theorem rS(rl:Nat)(E:Ak)(vp vg ve vf vl:ZE)(m:Bl)(lv:ZE)(w:V)(h:w.heap[rl]? =U (Ef E vp vg ve vf vl m lv))(d:m.act=true):
  ZH ZI 103 #[ZA (U ⟨rl,0,O⟩)] w fun e w'=>e=ZD (I J 10)/\w=w':=by
 obtain⟨_,a,f,g,i,j,l⟩:=Fa h;rw[d]at a;clear h d;go_enter func103,ntmps103;go_wp2_with fail;go_ret;exact⟨rfl,rfl⟩
theorem Abb(rl:Nat)(E:Ak)(vp vg ve vf vl:ZE)(m:Bl)(lv:ZE)(w:V)(h:w.heap[rl]? =U (Ef E vp vg ve vf vl m lv))(d:m.act=true):
  ZH ZI 104 #[ZA (U ⟨rl,0,O⟩)] w fun e w'=>e=ZD (I J 0)/\w'.heap[rl]? =U (Ef E vp vg ve vf vl ⟨false,m.since,m.L,m.run,m.exp⟩ lv)/\Ac (· =rl) w w':=by
 obtain⟨_,a,g,i,j,l,n⟩:=Fa h;have f:=G (And.intro (X4 h false) (Af w rl 10 (ZK false)));rw[d]at a;clear h d;go_enter func104,ntmps104;go_wp2_with fail;go_ret;exact⟨rfl,f.out⟩
theorem wD(rl:Nat)(E:Ak)(vp vg ve vf vl:ZE)(m:Bl)(lv:ZE)(w:V)(h:w.heap[rl]? =U (Ef E vp vg ve vf vl m lv))(d:m.act=false):
  ZH ZI 104 #[ZA (U ⟨rl,0,O⟩)] w fun e w'=>e=ZD (I J 9)/\w=w':=by
 obtain⟨_,a,f,g,i,j,l⟩:=Fa h;rw[d]at a;clear h d;go_enter func104,ntmps104;go_wp2_with fail;go_ret;exact⟨rfl,rfl⟩
theorem Md(rl:Nat)(E:Ak)(vp vg ve vf vl:ZE)(m:Bl)(lv:ZE)(w:V)(h:w.heap[rl]? =U (Ef E vp vg ve vf vl m lv)):
  ZH ZI 67 #[ZA (U ⟨rl,0,O⟩)] w fun e w'=>e=ZD (.string (Jj m))/\w=w':=by
 obtain⟨_,a,i,j,l,d,n⟩:=Fa h;clear h;unfold Jj;cases f:m.act
 ·rw[f]at a;go_enter func67,ntmps67;go_wp2_with fail;go_ret;exact⟨by simp,rfl⟩
 ·rw[f]at a;cases g:m.exp
  ·rw[g]at d;by_cases o:0<m.run
   ·go_enter func67,ntmps67;go_wp2_with fail;go_ret;exact⟨by simp,rfl⟩
   ·go_enter func67,ntmps67;go_wp2_with fail;go_ret;exact⟨by simp,rfl⟩
  ·rw[g]at d;go_enter func67,ntmps67;go_wp2_with fail;go_ret;exact⟨by simp,rfl⟩
theorem gB(rl:Nat)(E:Ak)(vp vg ve vf vl:ZE)(m:Bl)(lv:ZE)(p t:Int)(w:V)(h:w.heap[rl]? =U (Ef E vp vg ve vf vl m lv))(d:m.act=false):
  ZH ZI 105 #[ZA (U ⟨rl,0,O⟩),I J p,I J t] w fun e w'=>e=ZD (I J 9)/\w=w':=by
 obtain⟨_,a,f,g,i,j,l⟩:=Fa h;rw[d]at a;clear h d;go_enter func105,ntmps105;go_wp2_with fail;go_ret;exact⟨rfl,rfl⟩
theorem rQ(rl:Nat)(E:Ak)(pa:Option Addr)(o:Nat)(vg ve vf vl:ZE)(m:Bl)(lv:ZE)(p t:Int)(w:V)(h:w.heap[rl]? =U (Ef E (F pa E.points.length o) vg ve vf vl m lv))(d:m.act=true)(f:p<0\/(E.points.length:Int)<=p):
  ZH ZI 105 #[ZA (U ⟨rl,0,O⟩),I J p,I J t] w fun e w'=>e=ZD (I J 5)/\w=w':=by
 obtain⟨⟨_,_,q,_⟩,a,g,i,j,l,s⟩:=Fa h;rw[d]at a;clear h d;by_cases h0:p<0
 ·clear f;go_enter func105,ntmps105;go_wp2_with fail;go_ret;exact⟨rfl,rfl⟩
 ·have n:(E.points.length:Int)<=p:=by omega
  clear f;go_enter func105,ntmps105;go_wp2_with fail;go_ret;exact⟨rfl,rfl⟩
theorem Abc(rl:Nat)(E:Ak)(vp vg ve vf vl:ZE)(m:Bl)(lv:ZE)(w:V)(h:w.heap[rl]? =U (Ef E vp vg ve vf vl m lv))(d:m.act=false):
  ZH ZI 173 #[ZA (U ⟨rl,0,O⟩)] w fun e w'=>e=ZD (.tuple #[I J 0,ZK false])/\w=w':=by
 obtain⟨_,a,f,g,i,j,l⟩:=Fa h;rw[d]at a;clear h d;go_enter func173,ntmps173;go_wp2_with fail;go_ret2;exact⟨rfl,rfl⟩
structure RLo (base rl:Nat) (E:Ak) (vp vg ve vf vl:ZE) (m:Bl) (lv:ZE) (w:V):Prop where
 box:w.heap[rl]? =U (Ef E vp vg ve vf vl m lv)
 own:m.act=true->Ax w base 266 3 lv m.L.length (m.L.flatMap Dn)
 ne:m.act=true->lv.ownBlock≠U rl
 val:∃ao n cap,lv=F ao n cap
theorem RLo.keep{S:Nat->Prop}{base rl:Nat}{E:Ak}{vp vg ve vf vl:ZE}{m:Bl}{lv:ZE}{w w':V}(h:RLo base rl E vp vg ve vf vl m lv w)(k:Ac S w w')(h1:¬S rl)(h2:m.act=true->∀b,lv.ownBlock=U b->¬S b):RLo base rl E vp vg ve vf vl m lv w':=
 ⟨k.get h.box h1,fun a=>(h.own a).keep k (h2 a),h.ne,h.val⟩
theorem RLo.idle{base rl:Nat}{E:Ak}{vp vg ve vf vl:ZE}{m:Bl}{lv:ZE}{w:V}(d:w.heap[rl]? =U (Ef E vp vg ve vf vl m lv))(a:m.act=false)(e:∃ao n cap,lv=F ao n cap):RLo base rl E vp vg ve vf vl m lv w:=
 ⟨d,fun h=>(by rw[a]at h;cases h),fun h=>(by rw[a]at h;cases h),e⟩
theorem RLo.fresh{base rl:Nat}{E:Ak}{vp vg ve vf vl:ZE}{w:V}(a:w.heap[rl]? =U (Ef E vp vg ve vf vl rl0 (F O 0 0))):RLo base rl E vp vg ve vf vl rl0 (F O 0 0) w:=
 ⟨a,fun _=>⟨rfl,.inl ⟨rfl,rfl⟩⟩,fun _ h=>(by cases h),⟨_,_,_,rfl⟩⟩
theorem Aii{base rl:Nat}{E:Ak}{vp vg ve vf vl:ZE}{m:Bl}{lv:ZE}{w W w1:V}{p t:Int}{ao:Option Addr}{cap:Nat}(h:RLo base rl E vp vg ve vf vl m lv w)(q:m.act=true)(k:Ac (fun _=>False) w W)(g:W.grownBy w1 lv.ownBlock)
  (f:Ax w1 base 266 3 (F ao (m.L.length+1) cap) (m.L.length+1) (m.L.flatMap Dn++Dn ⟨p,t,m.since⟩))
  (d:(Value.slice ao (m.L.length+1) cap).ownBlock=lv.ownBlock\/∀b,(Value.slice ao (m.L.length+1) cap).ownBlock=U b->W.heap.size<=b):
  RLo base rl E vp vg ve vf vl (rR m p t) (F ao (m.L.length+1) cap) (w1.setCell ⟨rl,12,O⟩ (F ao (m.L.length+1) cap))/\Ac (fun b=>b=rl\/lv.ownBlock=U b) w (w1.setCell ⟨rl,12,O⟩ (F ao (m.L.length+1) cap))/\
   ((Value.slice ao (m.L.length+1) cap).ownBlock=lv.ownBlock\/Z0 w (w1.setCell ⟨rl,12,O⟩ (F ao (m.L.length+1) cap)) (F ao (m.L.length+1) cap)):=by
 have u:=Ac.of_grown g;have s:=Aa h.box;have hne:=h.ne q;have l:=k.size;have k1:Ac (fun b=>lv.ownBlock=U b) w w1:=Ac.step (S:=fun b=>lv.ownBlock=U b) (k.mono (fun _ _ h=>h.elim)) u (fun b a _=>a.symm);have j:=k1.get h.box hne;have o:=Af w1 rl 12 (F ao (m.L.length+1) cap);have i:(Value.slice ao (m.L.length+1) cap).ownBlock≠U rl:=fun e=>by
  rcases d with d|d
  ·rw[d]at e;exact hne e
  ·have:=d rl e;omega
 have n:=f.lt;refine⟨⟨X2 j _ _,fun _=>?_,fun _=>i,⟨_,_,_,rfl⟩⟩,?_,?_⟩
 ·have e:(m.L++ [(⟨p,t,m.since⟩:Bm)]).length=m.L.length+1:=by simp
  show Ax _ _ _ _ _ (m.L++ [(⟨p,t,m.since⟩:Bm)]).length ((m.L++ [(⟨p,t,m.since⟩:Bm)]).flatMap Dn)
  rw[e,B1];have:([(⟨p,t,m.since⟩:Bm)]).flatMap Dn=Dn ⟨p,t,m.since⟩:=by simp
  rw[this];exact f.keep o (fun b a e=>by subst e;exact i a)
 ·exact(k1.mono (fun b _ a=>.inr a)).step o (fun b a _=>.inl a)
 ·rcases d with d|d
  ·exact .inl d
  ·exact .inr (fun b a=>⟨No l (d b a),F5 (n b a).2 o.size⟩)
theorem rP(base rl:Nat)(E:Ak)(pa:Option Addr)(Q:Nat)(vg ve vf vl:ZE)(m:Bl)(lv:ZE)(p t:Int)(w:V)(h:RLo base rl E (F pa E.points.length Q) vg ve vf vl m lv w)(a:base<=w.heap.size)(j:m.act=true)(hp:0<=p)(ac:p<E.points.length)(hl:m.L.length<=1000):
  ZH ZI 105 #[ZA (U ⟨rl,0,O⟩),I J p,I J t] w fun e w'=>e=ZD (I J 0)/\∃lv',RLo base rl E (F pa E.points.length Q) vg ve vf vl (rR m p t) lv' w'/\Ac (fun b=>b=rl\/lv.ownBlock=U b) w w'/\(lv'.ownBlock=lv.ownBlock\/Z0 w w' lv'):=by
 obtain⟨⟨_,_,S,_⟩,i,q,s,u,v,T⟩:=Fa h.box;obtain⟨i0,y,A,B,C⟩:=info_parts infoMarkL;rw[j]at i;have H:=G h;have HO:=G (h.own j);have f:=G j;have ad:=Aa h.box;have g:Hid (∀W,ZF w.heap.size w W->Ax W base 266 3 lv m.L.length (m.L.flatMap Dn)/\base<=W.heap.size):=(show _ from fun W M=>⟨(h.own j).later M,No a M.size⟩)
 obtain⟨D,ln,o,rfl⟩:=h.val;have hne:¬rl=w.heap.size:=by omega
 have N:¬w.heap.size=rl:=by omega
 clear h j u v a;go_enter func105,ntmps105;go_upto_region 5 with fail;go_region_law (refine Dh rfl (.tmp 28) (.tmp 36) 201 rfl base 266 i0 _ 3 24 underlying201 y A B C rfl (by decide) (.slice D ln o) m.L.length (m.L.flatMap Dn) rfl ?_ ⟨w.heap.size,0,O⟩ 1 1 (Dn ⟨p,t,m.since⟩) rfl rfl (by exact A1 _ (Dn ⟨p,t,m.since⟩) _) (Ai1 _) (by unfold maxLen;omega) (by omega) ?_ ?_;exact(g _ (by repeat(first|exact R1 _ _|refine H5 ?_|refine Zzv ?_ (by simp) _))).1;exact(g _ (by repeat(first|exact R1 _ _|refine H5 ?_|refine Zzv ?_ (by simp) _))).2;intro a1 k1 w1 n d l);all_goals
  have P:=Aii (p:=p) (t:=t) H f (((Ac.refl (fun _=>False) w).alloc _).drew) d n l;have K:=(Ac.of_grown d).get (Bp (ZC (Dn ⟨p,t,m.since⟩).toArray 266) H.box) (fun e=>H.ne f e.symm);obtain⟨_,X,Y,Z,aa,ab,df⟩:=Fa K;have R:=G P;clear P n d l K S i q s T;go_wp2_with fail;go_ret;exact⟨rfl,_,R.out⟩
theorem rO{base rl:Nat}{E:Ak}{vp vg ve vf vl:ZE}{m f:Bl}{lv:ZE}{w w':V}(h:RLo base rl E vp vg ve vf vl m lv w)(b:w'.heap[rl]? =U (Ef E vp vg ve vf vl f lv))(k:Ac (fun b=>b=rl\/w.heap.size<=b) w w')(i:f.L=m.L)(d:f.act=m.act):
  RLo base rl E vp vg ve vf vl f lv w':=by
 refine⟨b,fun a=>?_,fun a=>h.ne (d▸a),h.val⟩;rw[i];refine(h.own (d▸a)).keep k (fun b g e=>?_);rcases e with e|e
 ·subst e;exact h.ne (d▸a) g
 ·have:=((h.own (d▸a)).lt b g).2;omega
theorem Aba(R:Nat->Prop)(base rl:Nat)(E:Ak)(vp vg ve vf vl:ZE)(m:Bl)(lv:ZE)(w:V)(h:RLo base rl E vp vg ve vf vl m lv w)(N:Dk R w E vp vg ve vf vl)(hR:∀b,R b->b<w.heap.size)(hL:O7 E)(ha:m.act=true)(hl:m.L.length<=200)(X:Rz m.L)(hs:m.since<=100000)(hr:0<=m.run/\m.run<=100000):
    ZH ZI 173 #[ZA (U ⟨rl,0,O⟩)] w fun e w'=>e=ZD (.tuple #[I J (Kz E m.L m.since),ZK (Wf E m)])/\RLo base rl E vp vg ve vf vl (Ln E m) lv w'/\Ac (fun b=>b=rl\/w.heap.size<=b) w w':=by
  have H:=G h;have Y:=Aa h.box;have D:=h.box;obtain⟨ai,ln,aa,rfl⟩:=h.val;have Z:=(h.own ha).slOf.here;have A:=G (fun W (u:ZF w.heap.size w W)=>Aco (· <w.heap.size) E m.L m.since vp vg ve vf vl _ W (show Dk (· <w.heap.size) W E vp vg ve vf vl from
      ⟨N.p.here.below u (fun _ h=>h),N.g.here.below u (fun _ h=>h),N.e.here.below u (fun _ h=>h),N.f.here.below u (fun _ h=>h),N.l.here.below u (fun _ h=>h)⟩) (Z.below u (fun _ h=>h)) (Lv (fun _ h=>h) u) hL hl X)
  clear h N Z X hL;obtain⟨⟨c0,c1,c2,c3,c4,c5,c6,c7,c8,c9⟩,i,j,t,n,a,cf⟩:=Fa D;rw[ha]at i;unfold As at A;obtain⟨K,hK⟩:∃K,K=Kz E m.L m.since:=⟨_,rfl⟩
  rw[<-hK]at A ⊢;have HK:=G hK;clear hK;have Q:=G D;clear D;go_enter func173,ntmps173;go_upto_region 3 with fail;go_cut [4] (fun s wx=>s=I J K/\ZF w.heap.size w wx);case first=>
   go_region_held3 (fun w'=>(∀o,w'.cell? ⟨rl,o,O⟩=w.cell? ⟨rl,o,O⟩))
    (first|exact fun _=>rfl|exact fun o=>b1.cell (p:=⟨rl,o,O⟩) Y)
    (first|(go_at_call 218;refine(A _ ?_).mono ?_;(repeat(first|exact R1 _ _|refine H5 ?_));rintro e w1 ⟨rfl,d1⟩;have b1:ZF w.heap.size w w1:=(by repeat(first|exact R1 _ _|exact d1|refine H5 ?_|refine Zyh ?_ d1))))
   all_goals(go_wp2_with fail;go_meet)
   all_goals exact⟨rfl,by repeat(first|exact R1 _ _|assumption|refine H5 ?_)⟩
  case rest=>
  obtain⟨rfl,u⟩:=hcut;have y:=Ae u Q Y;have HB:=G u;have S:=G y;have B:=G (wC y);clear u c0 c1 c2 c3 c4 c5 c6 c7 c8 c9 i j t n a cf A;obtain⟨_,i,j,t,n,a,cf⟩:=Fa y;have a0:=Aa y;clear y;go_upto_if 31 with fail;go_cut [] (fun wx=>wx.heap[rl]? =U (Ef E vp vg ve vf vl ⟨m.act,m.since+1,m.L,N5 E m,m.exp⟩ (F ai ln aa))/\Ac (fun b=>b=rl\/w.heap.size<=b) w wx);case first=>
    have T:Hid (∀(v:ZE),Ac (fun b=>b=rl\/w.heap.size<=b) w ((wc.setCell ⟨rl,11,O⟩ (I J ((m.since:Int)+1))).setCell ⟨rl,13,O⟩ v)):=fun v=>
      ((Ac.of_below HB.out).mono (fun b _ y=>.inr y)).step (Fo (Af wc rl 11 _) 13 _) (fun b y _=>.inl y)
    by_cases P:K=0
    · have ah:(K==0)=true:=by simp[P]
      have HR:Hid (N5 E m=0):=if_pos (HK.symm.trans P);clear P;go_wp2_with fail;go_meet;rw[HR.out];exact⟨Sy B.out 0,T _⟩
    · have ah:(K==0)=false:=by simp[P]
      have HR:Hid (N5 E m=m.run+1):=if_neg (fun e=>P (HK.trans e));clear P;go_wp2_with fail;go_meet;rw[HR.out];exact⟨Sy B (m.run+1),T _⟩
  case rest=>
  obtain⟨C,k2⟩:=hcut;have d:=G C;have q:=G k2;clear i j t n a cf k2;obtain⟨⟨_,c1,_⟩,i,j,t,n,a,cf⟩:=Fa C;have HN:Hid (Wf E m=(decide (E.tol<N5 E m)&& !m.exp)):=rfl;have HE:Hid (Ln E m=⟨m.act,m.since+1,m.L,N5 E m,m.exp||decide (E.tol<N5 E m)⟩):=rfl;simp only at i j n a;clear C j t B S Q HB;generalize N5 E m=r at HN HE n d;cases M:m.exp
  · rw[M]at a
    by_cases ht:E.tol<r
    · go_wp2_with fail
      go_quiet (fail);go_wp2_with fail;go_ret2;rw[HN.out,HE.out,M,On ht];refine⟨rfl,rO H (X1 (Kb _ d.out) true) ?_ rfl rfl,?_⟩<;>exact(Ck _ q.out).step (Af _ rl 14 _) (fun b y _=>.inl y)
    · go_wp2_with fail
      go_quiet (fail);go_wp2_with fail;go_ret2;rw[HN.out,HE.out,M,N1 (show ¬E.tol<r by omega)];rw[M]at d;exact⟨rfl,rO H (Kb _ d.out) (Ck _ q.out) rfl rfl,Ck _ q.out⟩
  · rw[M]at a
    go_wp2_with fail;go_quiet (fail);go_wp2_with fail;go_ret2;rw[HN.out,HE.out,M];rw[M]at d;exact⟨by simp,rO H (Kb _ d.out) (Ck _ q.out) rfl rfl,Ck _ q.out⟩
