import Derived.Test.YtikehilbmldadaaGreatDoorV18
import Derived.Test.YtikehilbmldadaaGreatDoorV15
set_option maxHeartbeats 4000000
set_option maxRecDepth 100000
set_option linter.unusedVariables false
open Go.Proofs.Tryz Go.Proofs.YtikehilbmldadaaGreatDoor.Tryz
namespace Go.Proofs.YtikehilbmldadaaGreatDoor
open Go.RowKit
def Aff(X:List Aw):Prop:=12<X.length\/∃x∈X,Afg x.E
instance (X:List Aw):Decidable (Aff X):=by unfold Aff;infer_instance
theorem wZ(B:Nat)(sa:Nat->Addr)(v:Value)(f:Nat × Int)(hf:f.1<=11)(w:World)(hS:Dp B sa w)(h:I7 sa w v f):
  Calls Tryz.prog 43 #[v] w fun e w'=>e=.returned (.tuple #[.int .i64 f.1,.int .i64 f.2])/\Below w.heap.size w w':=by
 obtain⟨n,a⟩:=f
 rcases h with⟨h1,h2⟩|⟨h1,h2,fb,h3,h4⟩
 ·obtain rfl:a= -1:=h1
  subst h2
  exact Aev B sa n hf w hS
 ·subst h3
  obtain⟨k,rfl⟩:∃k,n=k+1:=⟨n-1,by simp at h2;omega⟩
  exact wY B sa k (by simp at hf;omega) fb a w hS h4
def Q5(f:Nat × Int)(cd at_:Int):Bool:=decide ((f.1:Int)=cd/\((f.1:Int)=0\/f.2=at_))
theorem Aca(w:World)(q:Nat)(a b:Value):Ae (· =q) w ((w.setCell ⟨q,0,none⟩ a).setCell ⟨q,1,none⟩ b):=Gi (Ai _ _ _ _) _ _
theorem D6{w w1:World}{q:Nat}(h:Below w.heap.size w w1)(hq:w.heap.size<=q)(a b:Value):Below w.heap.size w ((w1.setCell ⟨q,0,none⟩ a).setCell ⟨q,1,none⟩ b):=
 h.trans ((Aca w1 q a b).below h.size (fun k hk=>by omega))
theorem Pr(n:Int)(w:World):Calls Tryz.prog 10 #[.int .i64 n] w fun e w'=>e=.returned (.agg #[.int .i64 n,.int .i64 (-1)])/\Below w.heap.size w w':=by
 have hxa:=Ab w (.cells #[.int .i64 0,.int .i64 0] 32)
 have hba:Below w.heap.size w (w.alloc (.cells #[.int .i64 0,.int .i64 0] 32)):=(Below.refl _ _).alloc (Nat.le_refl _) _
 go_enter func10,ntmps10
 go_upto_region 1 with fail
 generalize w.alloc _=w1 at hxa hba ⊢
 obtain⟨z0,z1,zf⟩:=Au hxa
 clear hxa
 go_wp2_with fail
 refine bodyPost_ret (v:=.agg #[.int .i64 n,.int .i64 (-1)]) (by simp[results,results10,go_sem,z0,z1,World.cell?_setCell_same,World.cell?_setCell_other]) rfl ?_
 exact⟨rfl,D6 hba (Nat.le_refl _) _ _⟩
theorem zT(w:World):Calls Tryz.prog 47 #[] w fun e w'=>e=.returned (.agg #[.int .i64 0,.int .i64 (-1)])/\Below w.heap.size w w':=by
 have hxa:=Ab w (.cells #[.int .i64 0,.int .i64 0] 32)
 have hba:Below w.heap.size w (w.alloc (.cells #[.int .i64 0,.int .i64 0] 32)):=(Below.refl _ _).alloc (Nat.le_refl _) _
 go_enter func47,ntmps47
 go_upto_region 1 with fail
 generalize w.alloc _=w1 at hxa hba ⊢
 obtain⟨z0,z1,zf⟩:=Au hxa
 clear hxa
 go_wp2_with fail
 refine bodyPost_ret (v:=.agg #[.int .i64 0,.int .i64 (-1)]) (by simp[results,results47,go_sem,z0,z1,World.cell?_setCell_same,World.cell?_setCell_other]) rfl ?_
 exact⟨rfl,D6 hba (Nat.le_refl _) _ _⟩
def Q4(f:Nat × Int):Value:=.agg #[.int .i64 f.1,.int .i64 f.2]
theorem E8{f:Nat × Int}{c:Nat}{i:Int}(h:f=(c,i)):Ending.returned (.agg #[.int .i64 (c:Int),.int .i64 i])=.returned (Q4 f):=by rw[h];rfl
theorem Sj(R:Nat->Prop)(C:Al)(v:Value)(X:List Aw)(w:World)(h:Ez R w C v X)(hR:∀b,R b->b<w.heap.size):
  Calls Tryz.prog 16 #[.agg (A4 C v)] w fun e w'=>e=.returned (Q4 (B7 C))/\Below w.heap.size w w':=by
 obtain⟨ao,cap,rfl⟩:=h.sl.row.val
 obtain⟨hc1,hc2⟩:=h.sl.row.capB
 have hlen:C.ents.length=X.length:=by rw[h.eq,List.length_map]
 have hXl:=h.len
 have H:=Aia h
 have HRw:=Aia hR
 have hxa:=Ab w (.cells (A4 C (.slice ao X.length cap)) 30)
 have hba:Below w.heap.size w (w.alloc (.cells (A4 C (.slice ao X.length cap)) 30)):=(Below.refl _ _).alloc (Nat.le_refl _) _
 obtain⟨w1,hw1⟩:∃w1,w1=w.alloc (.cells (A4 C (.slice ao X.length cap)) 30):=⟨_,rfl⟩
 rw[<-hw1]at hxa hba
 have hxr:=Ab w1 (.cells #[.int .i64 0,.int .i64 0] 32)
 have hbr:Below w1.heap.size w1 (w1.alloc (.cells #[.int .i64 0,.int .i64 0] 32)):=(Below.refl _ _).alloc (Nat.le_refl _) _
 have hsz1:w1.heap.size=w.heap.size+1:=by rw[hw1];simp
 clear h hR
 unfold A4 at hw1 ⊢
 go_enter func16,ntmps16
 go_upto_region 1 with fail
 rw[<-hw1]
 generalize w1.alloc _=w2 at hxr hbr ⊢
 rw[hsz1]at hxr
 obtain⟨rb,hrb⟩:∃rb,rb=w.heap.size+1:=⟨_,rfl⟩
 have HQ:=Aia (show w.heap.size<=rb from by omega)
 have hne:¬rb=w.heap.size:=by omega
 rw[<-hrb]at hxr ⊢
 have HX2:=Aia hxr
 have HXA:=Aia (Af hbr hxa (Aa hxa))
 have HB2:=Aia (hba.trans (hbr.mono hba.size))
 obtain⟨c0,c1,c2,c3,c4⟩:=Br HXA.out
 have HBr:=Aia (Pr 2 w2)
 clear hxa hba hxr hbr hrb hw1 hsz1
 by_cases h1:C.closed<0
 ·have HT:=Aia (show B7 C=(2,-1)from if_pos (decide_eq_true (by omega)))
  go_wp2_with fail
  refine HBr.out.mono ?_
  rintro e w3 ⟨rfl,b3⟩
  have hx3:=Af b3 HX2.out (Aa HX2.out)
  obtain⟨z0,z1,zf⟩:=Au hx3
  clear hx3
  go_wp2_with fail
  refine bodyPost_ret (v:=.agg #[.int .i64 2,.int .i64 (-1)]) (by simp[results,results16,go_sem,z0,z1,World.cell?_setCell_same,World.cell?_setCell_other]) rfl ?_
  exact⟨E8 HT.out,D6 (HB2.out.trans (b3.mono HB2.out.size)) HQ.out _ _⟩
 by_cases h2:1000<C.closed
 ·have HT:=Aia (show B7 C=(2,-1)from if_pos (decide_eq_true (by omega)))
  go_wp2_with fail
  refine HBr.out.mono ?_
  rintro e w3 ⟨rfl,b3⟩
  have hx3:=Af b3 HX2.out (Aa HX2.out)
  obtain⟨z0,z1,zf⟩:=Au hx3
  clear hx3
  go_wp2_with fail
  refine bodyPost_ret (v:=.agg #[.int .i64 2,.int .i64 (-1)]) (by simp[results,results16,go_sem,z0,z1,World.cell?_setCell_same,World.cell?_setCell_other]) rfl ?_
  exact⟨E8 HT.out,D6 (HB2.out.trans (b3.mono HB2.out.size)) HQ.out _ _⟩
 by_cases h3:C.opn<1
 ·have HT:=Aia (show B7 C=(2,-1)from if_pos (decide_eq_true (by omega)))
  go_wp2_with fail
  refine HBr.out.mono ?_
  rintro e w3 ⟨rfl,b3⟩
  have hx3:=Af b3 HX2.out (Aa HX2.out)
  obtain⟨z0,z1,zf⟩:=Au hx3
  clear hx3
  go_wp2_with fail
  refine bodyPost_ret (v:=.agg #[.int .i64 2,.int .i64 (-1)]) (by simp[results,results16,go_sem,z0,z1,World.cell?_setCell_same,World.cell?_setCell_other]) rfl ?_
  exact⟨E8 HT.out,D6 (HB2.out.trans (b3.mono HB2.out.size)) HQ.out _ _⟩
 by_cases h4:1000<C.opn
 ·have HT:=Aia (show B7 C=(2,-1)from if_pos (decide_eq_true (by omega)))
  go_wp2_with fail
  refine HBr.out.mono ?_
  rintro e w3 ⟨rfl,b3⟩
  have hx3:=Af b3 HX2.out (Aa HX2.out)
  obtain⟨z0,z1,zf⟩:=Au hx3
  clear hx3
  go_wp2_with fail
  refine bodyPost_ret (v:=.agg #[.int .i64 2,.int .i64 (-1)]) (by simp[results,results16,go_sem,z0,z1,World.cell?_setCell_same,World.cell?_setCell_other]) rfl ?_
  exact⟨E8 HT.out,D6 (HB2.out.trans (b3.mono HB2.out.size)) HQ.out _ _⟩
 by_cases h5:C.cycle<1
 ·have HT:=Aia (show B7 C=(2,-1)from if_pos (decide_eq_true (by omega)))
  go_wp2_with fail
  refine HBr.out.mono ?_
  rintro e w3 ⟨rfl,b3⟩
  have hx3:=Af b3 HX2.out (Aa HX2.out)
  obtain⟨z0,z1,zf⟩:=Au hx3
  clear hx3
  go_wp2_with fail
  refine bodyPost_ret (v:=.agg #[.int .i64 2,.int .i64 (-1)]) (by simp[results,results16,go_sem,z0,z1,World.cell?_setCell_same,World.cell?_setCell_other]) rfl ?_
  exact⟨E8 HT.out,D6 (HB2.out.trans (b3.mono HB2.out.size)) HQ.out _ _⟩
 by_cases h6:100<C.cycle
 ·have HT:=Aia (show B7 C=(2,-1)from if_pos (decide_eq_true (by omega)))
  go_wp2_with fail
  refine HBr.out.mono ?_
  rintro e w3 ⟨rfl,b3⟩
  have hx3:=Af b3 HX2.out (Aa HX2.out)
  obtain⟨z0,z1,zf⟩:=Au hx3
  clear hx3
  go_wp2_with fail
  refine bodyPost_ret (v:=.agg #[.int .i64 2,.int .i64 (-1)]) (by simp[results,results16,go_sem,z0,z1,World.cell?_setCell_same,World.cell?_setCell_other]) rfl ?_
  exact⟨E8 HT.out,D6 (HB2.out.trans (b3.mono HB2.out.size)) HQ.out _ _⟩
 by_cases h7:C.delay<0
 ·have HT:=Aia (show B7 C=(2,-1)from if_pos (decide_eq_true (by omega)))
  go_wp2_with fail
  refine HBr.out.mono ?_
  rintro e w3 ⟨rfl,b3⟩
  have hx3:=Af b3 HX2.out (Aa HX2.out)
  obtain⟨z0,z1,zf⟩:=Au hx3
  clear hx3
  go_wp2_with fail
  refine bodyPost_ret (v:=.agg #[.int .i64 2,.int .i64 (-1)]) (by simp[results,results16,go_sem,z0,z1,World.cell?_setCell_same,World.cell?_setCell_other]) rfl ?_
  exact⟨E8 HT.out,D6 (HB2.out.trans (b3.mono HB2.out.size)) HQ.out _ _⟩
 by_cases h8:20<C.delay
 ·have HT:=Aia (show B7 C=(2,-1)from if_pos (decide_eq_true (by omega)))
  go_wp2_with fail
  refine HBr.out.mono ?_
  rintro e w3 ⟨rfl,b3⟩
  have hx3:=Af b3 HX2.out (Aa HX2.out)
  obtain⟨z0,z1,zf⟩:=Au hx3
  clear hx3
  go_wp2_with fail
  refine bodyPost_ret (v:=.agg #[.int .i64 2,.int .i64 (-1)]) (by simp[results,results16,go_sem,z0,z1,World.cell?_setCell_same,World.cell?_setCell_other]) rfl ?_
  exact⟨E8 HT.out,D6 (HB2.out.trans (b3.mono HB2.out.size)) HQ.out _ _⟩
 by_cases h9:(8:Int)<(X.length:Int)
 ·have HT:=Aia (show B7 C=(2,-1)from if_pos (decide_eq_true (by omega)))
  go_wp2_with fail
  refine HBr.out.mono ?_
  rintro e w3 ⟨rfl,b3⟩
  have hx3:=Af b3 HX2.out (Aa HX2.out)
  obtain⟨z0,z1,zf⟩:=Au hx3
  clear hx3
  go_wp2_with fail
  refine bodyPost_ret (v:=.agg #[.int .i64 2,.int .i64 (-1)]) (by simp[results,results16,go_sem,z0,z1,World.cell?_setCell_same,World.cell?_setCell_other]) rfl ?_
  exact⟨E8 HT.out,D6 (HB2.out.trans (b3.mono HB2.out.size)) HQ.out _ _⟩
 have hbd:Dt C=false:=decide_eq_false (by omega)
 clear HBr
 by_cases hcy:C.opn<C.cycle
 ·have HT:=Aia (show B7 C=(3,-1)from by unfold B7;rw[if_neg (by rw[hbd];decide),if_pos hcy])
  have HBr:=Aia (Pr 3 w2)
  clear hbd
  go_wp2_with fail
  refine HBr.out.mono ?_
  rintro e w3 ⟨rfl,b3⟩
  have hx3:=Af b3 HX2.out (Aa HX2.out)
  obtain⟨z0,z1,zf⟩:=Au hx3
  clear hx3
  go_wp2_with fail
  refine bodyPost_ret (v:=.agg #[.int .i64 3,.int .i64 (-1)]) (by simp[results,results16,go_sem,z0,z1,World.cell?_setCell_same,World.cell?_setCell_other]) rfl ?_
  exact⟨E8 HT.out,D6 (HB2.out.trans (b3.mono HB2.out.size)) HQ.out _ _⟩
 have HT:=Aia (show B7 C=J7 C.ents from by unfold B7;rw[if_neg (by rw[hbd];decide),if_neg hcy])
 clear hbd
 go_wp2_with fail
 go_loopw [3] (fun s wr=>∃i:Nat,i<=X.length/\s=.int .i64 i/\Hid (Below w.heap.size w wr)/\Hid (wr.heap[w.heap.size]? =some (.cells (A4 C (.slice ao X.length cap)) 30))/\Hid (wr.heap[rb]? =some (.cells #[.int .i64 0,.int .i64 0] 32))/\Hid (∀j,j<i->Gf C.ents j=0)) (fun s _=>X.length-(intOf s).toNat)
 case atStart=>exact⟨0,Nat.zero_le _,rfl,HB2,HXA,HX2,fun j h=>by omega⟩
 case round=>
  obtain⟨i,hi,rfl,hbl,hxc,hxr,hall⟩:=hrel
  clear HXA HB2 HX2 c0 c1 c2 c3 c4 h1 h2 h3 h4 h5 h6 h7 h8 h9 hcy
  obtain⟨c0,c1,c2,c3,c4⟩:=Br hxc.out
  by_cases hlt:i<X.length
  ·have HEr:=Aia (show Gf C.ents i=A0 ((X.take i).map J5) X[i].E from by
    rw[Mp (by omega)]
    simp only[H.out.eq,List.getElem_map,<-List.map_take,List.map_map]
    rfl)
   have HCe:=Aia (wG R X (.slice ao X.length cap) i hlt wr (H.out.sl.keep (Ae.of_below hbl.out) (fun b hb hS=>by have:=HRw.out b hb;omega)) (Du HRw.out hbl.out) (H.out.small X[i] (List.getElem_mem hlt)) hXl)
   rw[<-HEr.out]at HCe
   obtain⟨er,her⟩:∃er,er=Gf C.ents i:=⟨_,rfl⟩
   rw[<-her]at HCe
   have HQ2:=Aia her
   clear HEr her
   go_wp2_with fail
   refine HCe.out.mono ?_
   rintro e w3 ⟨rfl,b3⟩
   have HB3:=Aia (hbl.out.trans (b3.mono hbl.out.size))
   have hx3:=Aia (Af b3 hxc.out (Aa hxc.out))
   have hr3:=Aia (Af b3 hxr.out (Aa hxr.out))
   clear b3 HCe c0 c1 c2 c3 c4
   by_cases hz:(0:Int)<(er:Int)
   ·have HT2:=Aia (show J7 C.ents=(er,(i:Int))from by rw[Ye (by omega) (by rw[<-HQ2.out];omega) hall.out,<-HQ2.out])
    obtain⟨z0,z1,zf⟩:=Au hr3.out
    go_wp2_with fail
    refine bodyPost_ret (v:=.agg #[.int .i64 er,.int .i64 i]) (by simp[results,results16,go_sem,z0,z1,World.cell?_setCell_same,World.cell?_setCell_other]) rfl ?_
    exact⟨E8 (HT.out.trans HT2.out),D6 HB3.out HQ.out _ _⟩
   ·have nx:Hid (∀j,j<i+1->Gf C.ents j=0):=Aia (fun j hj=>by
     by_cases e:j=i
     ·rw[e,<-HQ2.out];omega
     ·exact hall.out j (by omega))
    clear hall
    go_wp2_with fail
    go_roundw
    case rel=>exact⟨i+1,by omega,by go_num,HB3,hx3,hr3,nx⟩
    case measure=>simp[intOf];omega
  ·have HT2:=Aia (Vx (L:=C.ents) (fun j hj=>hall.out j (by omega)))
   have HBr:=Aia (zT wr)
   have HX2:=hxr
   go_wp2_with fail
   refine HBr.out.mono ?_
   rintro e w3 ⟨rfl,b3⟩
   have hx3:=Af b3 HX2.out (Aa HX2.out)
   obtain⟨z0,z1,zf⟩:=Au hx3
   clear hx3
   go_wp2_with fail
   refine bodyPost_ret (v:=.agg #[.int .i64 0,.int .i64 (-1)]) (by simp[results,results16,go_sem,z0,z1,World.cell?_setCell_same,World.cell?_setCell_other]) rfl ?_
   exact⟨E8 (HT.out.trans HT2.out),D6 (hbl.out.trans (b3.mono hbl.out.size)) HQ.out _ _⟩
theorem Y5(R R':Nat->Prop)(l:List ByteArray)(va vb:Value)(w:World)(ha:Ay R w va 1 (Ad l) l.length)(hb:Ay R' w vb 1 (Ad l) l.length)(hn:l.length<=100000):
  Calls Tryz.prog 30 #[va,vb] w fun e w'=>e=.returned (.bool true)/\∃q,w'=w.drewN q:=by
 obtain⟨ao,cap,rfl⟩:=ha.val
 obtain⟨bo,cap2,rfl⟩:=hb.val
 have HA:=Aia ha
 have HB:=Aia hb
 clear ha hb
 go_enter func30,ntmps30
 go_wp2_with fail
 go_loopw [5] (fun s wr=>∃i q:Nat,i<=l.length/\s=.int .i64 i/\wr=w.drewN q) (fun s _=>l.length-(intOf s).toNat)
 case atStart=>exact⟨0,0,Nat.zero_le _,rfl,rfl⟩
 case round=>
  obtain⟨i,q,hi,rfl,rfl⟩:=hrel
  by_cases hlt:i<l.length
  ·obtain⟨b1,o1,rfl,_,hb1,hc1⟩:=Eh HA.out (by omega)
   obtain⟨b2,o2,rfl,_,hb2,hc2⟩:=Eh HB.out (by omega)
   have q1:=hc1 i hlt
   have q2:=hc2 i hlt
   clear hc1 hc2
   obtain⟨x,hx⟩:∃x,x=l[i]:=⟨_,rfl⟩
   rw[<-hx]at q1 q2
   have heb:(x.toList==x.toList)=true:=by simp
   have heb2:(x.toList != x.toList)=false:=by simp
   clear hx
   go_wp2_with fail
   go_quiet (fail)
   go_wp2_with fail
   go_roundw
   case rel=>exact⟨i+1,_,by omega,by go_num,rfl⟩
   case measure=>simp[intOf];omega
  ·go_wp2_with fail
   go_ret
   exact⟨rfl,_,rfl⟩
end Go.Proofs.YtikehilbmldadaaGreatDoor
