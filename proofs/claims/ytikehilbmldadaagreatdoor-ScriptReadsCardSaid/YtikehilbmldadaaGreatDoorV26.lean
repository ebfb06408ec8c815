import Derived.Test.YtikehilbmldadaaGreatDoorV25
import Derived.Test.YtikehilbmldadaaGreatDoorV29
set_option maxHeartbeats 4000000
set_option maxRecDepth 100000
set_option linter.unusedVariables false
open Go.Proofs.Tryz Go.Proofs.YtikehilbmldadaaGreatDoor.Tryz
namespace Go.Proofs.YtikehilbmldadaaGreatDoor
section
open Go.RowKit
section
variable {B:Nat} {sa:Nat->Addr} {w0:World} {kb c:Nat} {txt:ByteArray} {x:KpX} {M:KpM} {o:Nat->Nat} {w:World} {T:Nat}
theorem pK(h:Bh B sa w0 kb c txt x M o w):Calls Tryz.prog 24 #[.pointer (some ⟨kb,0,none⟩)] w fun e w'=>e=.returned (.string (Pv M))/\w=w':=by
 obtain⟨k0,k1,k2,k3,k4,k5,k6,k7,k8,k9,k10,kf⟩:=Bm h.box
 have HP:=Aia (Pa c x.rb _ x.cap M.m w h.b.mem)
 have HR:=Aia (Kg x.d M.D w h.b.dog)
 clear h k1 k2 k3 k4 k5 k7 k8 k9 k10 kf
 unfold Pv
 cases hx:M.m.off
 ·rw[hx]at HP
  cases hr:M.D.reset
  ·rw[hr]at HR
   go_enter func24,ntmps24
   go_wp2_with fail
   refine HP.out.mono ?_
   rintro e w1 ⟨rfl,rfl⟩
   go_wp2_with fail
   refine HR.out.mono ?_
   rintro e w1 ⟨rfl,rfl⟩
   go_wp2_with fail
   go_ret
   exact⟨rfl,rfl⟩
  ·rw[hr]at HR
   go_enter func24,ntmps24
   go_wp2_with fail
   refine HP.out.mono ?_
   rintro e w1 ⟨rfl,rfl⟩
   go_wp2_with fail
   refine HR.out.mono ?_
   rintro e w1 ⟨rfl,rfl⟩
   go_wp2_with fail
   go_ret
   exact⟨rfl,rfl⟩
 ·rw[hx]at HP
  go_enter func24,ntmps24
  go_wp2_with fail
  refine HP.out.mono ?_
  rintro e w1 ⟨rfl,rfl⟩
  go_wp2_with fail
  go_ret
  exact⟨rfl,rfl⟩
theorem pI(h:Bh B sa w0 kb c txt x M o w):Calls Tryz.prog 25 #[.pointer (some ⟨kb,0,none⟩)] w fun e w'=>e=.returned (.string M.st.str)/\w=w':=by
 obtain⟨k0,k1,k2,k3,k4,k5,k6,k7,k8,k9,k10,kf⟩:=Bm h.box
 have HP:=Aia (Ts x.tb _ _ _ w h.tot)
 clear h k0 k1 k2 k3 k4 k5 k6 k7 k8 k10 kf
 go_enter func25,ntmps25
 go_wp2_with fail
 refine HP.out.mono ?_
 rintro e w1 ⟨rfl,rfl⟩
 go_wp2_with fail
 go_ret
 exact⟨rfl,rfl⟩
theorem tX(h:Bh B sa w0 kb c txt x M o w):Calls Tryz.prog 142 #[.pointer (some ⟨kb,0,none⟩)] w fun e w'=>e=.returned (.string txt)/\w=w':=by
 obtain⟨k0,k1,k2,k3,k4,k5,k6,k7,k8,k9,k10,kf⟩:=Bm h.box
 clear h k0 k1 k2 k3 k4 k5 k6 k7 k8 k9 kf
 go_enter func142,ntmps142
 go_wp2_with fail
 go_ret
 exact⟨rfl,rfl⟩
theorem Aaw(h:Bh B sa w0 kb c txt x M o w)(hO:B8 M T):Calls Tryz.prog 28 #[.pointer (some ⟨kb,0,none⟩)] w fun e w'=>∃v,e=.returned v/\Ay (fun b=>w.heap.size<=b) w' v 4 (M.L.flatMap Ax) M.L.length/\Below w.heap.size w w':=by
 obtain⟨k0,k1,k2,k3,k4,k5,k6,k7,k8,k9,k10,kf⟩:=Bm h.box
 have HP:=Aia (Tu w x.rg c x.lv M.dead M.L _ ⟨h.rbox,h.rrow⟩ (by have:=hO.l8;omega))
 clear h k0 k1 k2 k3 k4 k5 k6 k8 k9 k10 kf
 go_enter func28,ntmps28
 go_wp2_with fail
 refine HP.out.mono ?_
 rintro e w1 ⟨v,rfl,h1,h2⟩
 have H1:=Aia h1
 have H2:=Aia h2
 obtain⟨ao,cap,rfl⟩:=h1.val
 clear h1 h2
 go_wp2_with fail
 go_ret
 exact⟨_,rfl,H1.out,H2.out⟩
theorem pO(h:Bh B sa w0 kb c txt x M o w)(hO:B8 M T):Calls Tryz.prog 136 #[.pointer (some ⟨kb,0,none⟩)] w fun e w'=>e=.returned (.tuple #[A3 (Gz M.L),.bool (!M.L.isEmpty)])/\Below w.heap.size w w':=by
 have hba:Below w.heap.size w (w.alloc (Fq ⟨0,0,0,0⟩)):=(Below.refl _ _).alloc (Nat.le_refl _) _
 have hna:=Ab w (Fq ⟨0,0,0,0⟩)
 have HBA:=Aia hba
 have HNA:=Aia hna
 have H:=Aia (h.below hba)
 have HL8:=Aia hO.l8.1
 clear h hba hna
 unfold Fq at HBA HNA H
 go_enter func136,ntmps136
 go_upto_region 1 with fail
 generalize w.alloc _=w1 at HBA HNA H ⊢
 obtain⟨k0,k1,k2,k3,k4,k5,k6,k7,k8,k9,k10,kf⟩:=Bm H.out.box
 have HP:=Aia (Ri w1 x.rg c x.lv M.dead M.L _ ⟨H.out.rbox,H.out.rrow.here⟩ (fun b h=>h) (by have:=HL8.out;omega))
 clear k0 k1 k2 k3 k4 k5 k6 k8 k9 k10 kf
 unfold A3 at HP
 go_wp2_with fail
 refine HP.out.mono ?_
 rintro e w2 ⟨rfl,b2⟩
 have hn2:=Af b2 HNA.out (Aa HNA.out)
 obtain⟨z0,z1,z2,z3⟩:=Bn hn2
 have zf:∀o,w2.frozen? ⟨w.heap.size,o,none⟩=false:=fun o=>Jc hn2
 have HB2:=Aia (HBA.out.trans (b2.mono HBA.out.size))
 clear k7 hn2 b2
 go_wp2_with fail
 refine bodyPost_ret (v:=.tuple #[A3 (Gz M.L),.bool (!M.L.isEmpty)]) (by simp[A3,results,results136,go_sem,z0,z1,z2,z3,World.cell?_setCell_same,World.cell?_setCell_other]) rfl ?_
 exact⟨rfl,Cl HB2.out⟩
end
end
section
open Go.RowKit
structure rO (B:Nat) (sa:Nat->Addr) (w0:World) (kb c:Nat) (txt:ByteArray) (x:KpX) (C:Al) (D:D3) (m:CM) (rg:Nat) (lv:Value) (L:List Ar) (vt:Value) (o0:Nat->Nat) (wa:World) (v:Value) (k:Nat) (ls:List Nat) (o:Nat->Nat) (w:World):Prop where
 b:KpB B sa w0 kb c x C D m o w
 box:w.heap[kb]? =some (kpC x.d C x.ve c (.pointer (some ⟨rg,0,none⟩)) v vt txt)
 rbox:w.heap[rg]? =some (Gy c lv false)
 rrow:Ay (fun b=>o b=6) w lv 4 (L.flatMap Ax) L.length
 row:As w w0.heap.size 112 1 v k (Nw ls)
 vb:∀b,v.ownBlock=some b->o b=9
 ln:ls.length=k
 loc:∀(j l:Nat) (y:Aw),ls[j]? =some l->x.X[j]? =some y->o l=10+2*j/\w.heap[l]? =some (Jy none y.E y.p y.g y.e y.f y.l)
 org:o rg=5
 fr:Fr o0 o wa w
section
variable {B:Nat} {sa:Nat->Addr} {w0:World} {kb c:Nat} {txt:ByteArray} {x:KpX} {C:Al} {D:D3} {m:CM} {rg:Nat} {lv:Value} {L:List Ar} {vt:Value} {o0:Nat->Nat} {wa:World} {v:Value} {k:Nat} {ls:List Nat} {o:Nat->Nat} {w w1 w2 w3 w4:World}
theorem As.stay{o o':Nat->Nat}{N:Nat->Prop}{w0 w w':World}(s:Stp o o' N w0 w w'){base:Nat}{e:TypeId}{size:Nat}{v:Value}{n:Nat}{xs:List Value}(h:As w base e size v n xs){k:Nat}(hb:∀b,v.ownBlock=some b->o b=k)(hN:¬N k):As w' base e size v n xs:=
 h.keep s.kp (fun b hh=>by rw[hb b hh];exact hN)
theorem tM{vlog vl:Value}(h:KpB B sa w0 kb c x C D m o w)(hbox:w.heap[kb]? =some (kpC x.d C x.ve c vlog vl vt txt))(hr:RSt B sa w0 rg c x.rb x.cap m false L lv w1)(hn:gP w w1 rg lv):
  ∃o',rO B sa w0 kb c txt x C D m rg lv L vt o w (.slice none 0 0) 0 [] o' ((w1.setCell ⟨kb,7,none⟩ (.pointer (some ⟨rg,0,none⟩))).setCell ⟨kb,8,none⟩ (.slice none 0 0)):=by
 have hkb:=Aa hbox
 have k1:Ae (fun _=>False) w w1:=Ak hn.bel
 have b1:=k1.get hbox (fun h=>h)
 have rgl:=Aa hr.ring.box
 have rgn:=hn.rg
 have bx:((w1.setCell ⟨kb,7,none⟩ (.pointer (some ⟨rg,0,none⟩))).setCell ⟨kb,8,none⟩ (.slice none 0 0)).heap[kb]? =some (kpC x.d C x.ve c (.pointer (some ⟨rg,0,none⟩)) (.slice none 0 0) vt txt):=by
  unfold kpC at b1 ⊢
  rw[Am _ (Am _ b1)];rfl
 obtain⟨W,hW⟩:∃W,W=(w1.setCell ⟨kb,7,none⟩ (.pointer (some ⟨rg,0,none⟩))).setCell ⟨kb,8,none⟩ (.slice none 0 0):=⟨_,rfl⟩
 have kk:Ae (· =kb) w1 W:=by rw[hW];exact Gi (Ai _ _ _ _) _ _
 rw[<-hW]at bx ⊢
 have hsz:w1.heap.size=W.heap.size:=by rw[hW];simp[World.setCell]
 have kw:Ae (· =kb) w W:=(k1.mono (fun _ _ h=>h.elim)).trans kk
 have hs1:=k1.size
 have bel:=h.bel.size
 have s:Stp o (fun b=>if b=rg then 5 else ext o w.heap.size w1.heap.size 6 b) (fun n=>n=1) w0 w W:=by
  refine⟨kw.mono (fun b _ e=>by rw[e];exact h.ok),fun b hb=>?_,fun b hb=>?_,?_⟩
  ·show(if b=rg then _ else _)=_
   rw[if_neg (by omega),Py hb]
  ·by_cases e:b=rg
   ·omega
   ·simp only[e,if_false]at hb
    by_cases e2:w.heap.size<=b/\b<w1.heap.size
    ·omega
    ·unfold ext at hb
     rw[if_neg e2]at hb
     have:=h.low b hb
     omega
  ·exact h.bel.trans ((kw.mono (fun b _ e=>by rw[e];exact(h.low kb (by rw[h.ok];decide)).1):Ae (fun b=>w0.heap.size<=b) w W).below bel (fun b hb=>hb))
 have hne:rg≠kb:=by omega
 refine⟨_,⟨h.keep s (h.sen s (by decide)) (by decide) (by decide) (by decide) (by decide),bx,kk.get hr.ring.box hne,?_,⟨rfl,.inl ⟨rfl,rfl⟩⟩,(fun b hb=>by cases hb),rfl,(fun j l y h1 _=>by simp at h1),if_pos rfl,s.fr (by decide)⟩⟩
 refine((hr.ring.row.reR (R':=fun b=>w.heap.size<=b/\b<w1.heap.size/\b≠rg) (fun b hb hp=>?_)).keep kk (fun b hb e=>by omega)).mono (fun b hb=>?_)
 ·have h1:=hn.lv b hb
  exact⟨h1.1,h1.2,(hr.ring.row.inR hb hp).1.2.2⟩
 ·show(if b=rg then 5 else _)=6
  rw[if_neg hb.2.2]
  exact Pz hb.1 hb.2.1
theorem rO.next{l:Nat}{y:Aw}{v':Value}(h:rO B sa w0 kb c txt x C D m rg lv L vt o0 wa v k ls o w)(hb:Below w.heap.size w w3)(hl:w3.heap[l]? =some (Jy none y.E y.p y.g y.e y.f y.l))(hlo:w.heap.size<=l)(hy:x.X[k]? =some y)
  (ho:As w4 w0.heap.size 112 1 v' (k+1) (Nw ls++ [.pointer (some ⟨l,0,none⟩)])) (hg:w3.grownBy w4 v.ownBlock) (hn:v'.ownBlock=v.ownBlock\/∀b,v'.ownBlock=some b->w3.heap.size<=b):
  (∃o',rO B sa w0 kb c txt x C D m rg lv L vt o0 wa v' (k+1) (ls++ [l]) o' (w4.setCell ⟨kb,8,none⟩ v'))/\(∃u,w4.cell? ⟨kb,8,none⟩=some u)/\∀f,w4.frozen? ⟨kb,f,none⟩=false:=by
 have k3:Ae (fun _=>False) w w3:=Ak hb
 have k4:Ae (fun b=>some b=v.ownBlock) w3 w4:=Ae.of_grown hg
 have hl3:=Aa hl
 have hkb:=Aa h.box
 have b3:=k3.get h.box (fun h=>h)
 have hkv:¬some kb=v.ownBlock:=fun e=>by have:=h.vb kb e.symm;have:=h.b.ok;omega
 have b4:=k4.get b3 hkv
 have bx:(w4.setCell ⟨kb,8,none⟩ v').heap[kb]? =some (kpC x.d C x.ve c (.pointer (some ⟨rg,0,none⟩)) v' vt txt):=by
  unfold kpC at b4 ⊢
  rw[Am _ b4];rfl
 have kk:Ae (· =kb) w4 (w4.setCell ⟨kb,8,none⟩ v'):=Ai _ _ _ _
 have hsz:w4.heap.size=(w4.setCell ⟨kb,8,none⟩ v').heap.size:=by simp[World.setCell]
 obtain⟨W,hW⟩:∃W,W=w4.setCell ⟨kb,8,none⟩ v':=⟨_,rfl⟩
 rw[<-hW]at bx kk hsz ⊢
 have s3:=k3.size
 have s4:=k4.size
 have bel:=h.b.bel.size
 have kw:Ae (fun b=>o b=1\/o b=9) w W:=by
  have e4:Ae (fun b=>o b=1\/o b=9) w w4:=(k3.mono (fun _ _ h=>h.elim)).step k4 (fun b hb _=>.inr (h.vb b hb.symm))
  exact e4.step kk (fun b hb _=>by rw[hb];exact .inl h.b.ok)
 have s:Stp o (ext (ext o w.heap.size w3.heap.size (10+2*k)) w3.heap.size w4.heap.size 9) (fun n=>n=1\/n=9) w0 w W:=by
  refine⟨kw,fun b hb=>?_,fun b hb=>?_,?_⟩
  ·rw[Py (by omega),Py hb]
  ·unfold ext at hb
   by_cases e1:w3.heap.size<=b/\b<w4.heap.size
   ·omega
   ·rw[if_neg e1]at hb
    by_cases e2:w.heap.size<=b/\b<w3.heap.size
    ·omega
    ·rw[if_neg e2]at hb
     have:=h.b.low b hb
     omega
  ·refine h.b.bel.trans (kw.below bel (fun b hb=>?_))
   have:o b≠0:=by omega
   exact(h.b.low b this).1
 have hlk:l≠kb:=by omega
 have hlv:¬some l=v.ownBlock:=fun e=>by have:=(h.row.lt l e.symm).2;omega
 have hl4:=kk.get (k4.get hl hlv) hlk
 refine⟨⟨_,⟨h.b.keep s (h.b.sen s (by decide)) (by decide) (by decide) (by decide) (by decide),bx,s.get h.rbox h.org (by decide),s.sl h.rrow (by decide),?_,fun b hb=>?_,by rw[List.length_append,h.ln];rfl,fun j l' y' h1 h2=>?_,s.eq h.b.low h.org (by decide),h.fr.trans (s.fr (by decide))⟩⟩,?_,?_⟩
 ·have e:Nw (ls++ [l])=Nw ls++ [.pointer (some ⟨l,0,none⟩)]:=by simp[Nw]
  rw[e]
  refine ho.keep kk (fun b hb e=>?_)
  rcases hn with hn|hn
  ·rw[hn]at hb
   rw[e]at hb
   exact hkv hb.symm
  ·have:=hn b hb
   omega
 ·have hlt:=(ho.lt b hb).2
  rcases hn with hn|hn
  ·rw[hn]at hb
   exact s.eq h.b.low (h.vb b hb) (by decide)
  ·exact Pz (hn b hb) hlt
 ·by_cases hj:j<ls.length
  ·rw[List.getElem?_append_left hj]at h1
   have q:=h.loc j l' y' h1 h2
   exact⟨s.eq h.b.low q.1 (by omega),s.get q.2 q.1 (by omega)⟩
  ·rw[List.getElem?_append_right (by omega)]at h1
   have hj0:j-ls.length=0:=by
    have:=(List.getElem?_eq_some_iff.1 h1).1
    simpa using this
   have hjk:j=k:=by have:=h.ln;omega
   rw[hj0]at h1
   obtain rfl:=Option.some.inj (show some l=some l' from h1)
   subst hjk
   rw[hy]at h2
   obtain rfl:=Option.some.inj h2
   refine⟨?_,hl4⟩
   rw[Py hl3,Pz hlo hl3]
 ·obtain⟨_,_,_,_,_,_,_,_,q8,_⟩:=Bm b4
  exact⟨_,q8⟩
 ·obtain⟨_,_,_,_,_,_,_,_,_,_,_,qf⟩:=Bm b4
  exact qf
theorem rO.done{tb:Nat}(h:rO B sa w0 kb c txt x C D m rg lv L vt o0 wa v k ls o w)(hk:k=x.X.length)(hb:Below w.heap.size w w1)(ht:Cf w1 tb C.delay 0 .ok)(hn:w.heap.size<=tb):
  ∃o',Bh B sa w0 kb c txt ⟨x.d,x.rb,x.cap,rg,tb,lv,x.ve,v,x.X,ls⟩ ⟨C,D,m,L,false,List.replicate C.ents.length none,0,.ok⟩ o' (w1.setCell ⟨kb,9,none⟩ (.pointer (some ⟨tb,0,none⟩)))/\Fr o0 o' wa (w1.setCell ⟨kb,9,none⟩ (.pointer (some ⟨tb,0,none⟩))):=by
 have k1:Ae (fun _=>False) w w1:=Ak hb
 have hkb:=Aa h.box
 have htl:=Aa ht
 have b1:=k1.get h.box (fun h=>h)
 have bx:(w1.setCell ⟨kb,9,none⟩ (.pointer (some ⟨tb,0,none⟩))).heap[kb]? =some (kpC x.d C x.ve c (.pointer (some ⟨rg,0,none⟩)) v (.pointer (some ⟨tb,0,none⟩)) txt):=by
  unfold kpC at b1 ⊢
  rw[Am _ b1];rfl
 have kk:Ae (· =kb) w1 (w1.setCell ⟨kb,9,none⟩ (.pointer (some ⟨tb,0,none⟩))):=Ai _ _ _ _
 have hsz:w1.heap.size=(w1.setCell ⟨kb,9,none⟩ (.pointer (some ⟨tb,0,none⟩))).heap.size:=by simp[World.setCell]
 obtain⟨W,hW⟩:∃W,W=w1.setCell ⟨kb,9,none⟩ (.pointer (some ⟨tb,0,none⟩)):=⟨_,rfl⟩
 rw[<-hW]at bx kk hsz ⊢
 have s1:=k1.size
 have bel:=h.b.bel.size
 have kw:Ae (fun b=>o b=1) w W:=(k1.mono (fun _ _ h=>h.elim)).step kk (fun b hb _=>by rw[hb];exact h.b.ok)
 have s:Stp o (ext o w.heap.size w1.heap.size 7) (fun n=>n=1) w0 w W:=by
  refine⟨kw,fun b hb=>Py hb,fun b hb=>?_,?_⟩
  ·unfold ext at hb
   by_cases e1:w.heap.size<=b/\b<w1.heap.size
   ·omega
   ·rw[if_neg e1]at hb
    have:=h.b.low b hb
    omega
  ·refine h.b.bel.trans (kw.below bel (fun b hb=>?_))
   have:o b≠0:=by omega
   exact(h.b.low b this).1
 have hce:C.ents.length=x.X.length:=by rw[h.b.xe,List.length_map]
 have hln:=h.ln
 refine⟨_,⟨(h.b.keep s (h.b.sen s (by decide)) (by decide) (by decide) (by decide) (by decide)).re _ _ _ _ _,bx,s.get h.rbox h.org (by decide),s.sl h.rrow (by decide),?_,⟨by show ls.length=x.X.length;omega,by show(List.replicate C.ents.length (none:Option C0)).length=x.X.length;rw[List.length_replicate,hce]⟩,
  fun j l y h1 h2=>?_,kk.get ht (fun e=>by have e2:tb=kb:=e;omega),s.eq h.b.low h.org (by decide),Pz hn htl⟩,h.fr.trans (s.fr (by decide))⟩
 ·have hr:=h.row.stay s h.vb (by decide)
  have hk2:k=ls.length:=hln.symm
  rw[hk2]at hr
  refine hr.slOf.reR (fun b hb _=>?_)
  exact s.eq h.b.low (h.vb b hb) (by decide)
 ·have q:=h.loc j l y h1 h2
  have hg:Cq ⟨C,D,m,L,false,List.replicate C.ents.length none,0,.ok⟩ j=none:=by
   unfold Cq
   rw[List.getD_eq_getElem?_getD,List.getElem?_replicate]
   split<;>rfl
  rw[hg]
  exact⟨s.eq h.b.low q.1 (by omega),0,0,fun b _ h=>by omega,s.get q.2 q.1 (by omega)⟩
end
end
section
open Go.RowKit
theorem Tryz.infoPtrL:(Tryz.prog.info? 112).map (fun i=>(i.zero,i.size,i.bytes))=some (some (.pointer none),1,8):=by kernel_rfl
section
variable {B:Nat} {sa:Nat->Addr} {w0:World} {kb c:Nat} {txt:ByteArray} {x:KpX} {C:Al} {D:D3} {m:CM} {o:Nat->Nat} {w:World}
theorem Vf{vlog vl vt:Value}(h:KpB B sa w0 kb c x C D m o w)(hbox:w.heap[kb]? =some (kpC x.d C x.ve c vlog vl vt txt))(hb:Dt C=false)(hl:153<=m.bs.length)(ho:m.off=false):
  Calls Tryz.prog 75 #[.pointer (some ⟨kb,0,none⟩)] w fun e w'=>e=.returned .nilIface/\∃x' o',Bh B sa w0 kb c txt x' (Iy C D m) o' w'/\Fr o o' w w':=by
 obtain⟨i0,hi0,hz0,hz1,hz2⟩:=info_parts infoPtrL
 obtain⟨k0,k1,k2,k3,k4,k5,k6,k7,k8,k9,k10,kf⟩:=Bm hbox
 obtain⟨ao,cap,hve⟩:=h.ents.row.val
 have hcp:=h.ents.row
 rw[hve]at hcp
 obtain⟨hc1,hc2⟩:=hcp.capB
 have hbp:=Fh hb
 have hx8:x.X.length<=8:=by have:=congrArg List.length h.xe;rw[List.length_map]at this;omega
 have HOp:=Aia (Zf B sa c x.rb x.cap m w0 w h.mem h.se hl ho h.bel ⟨(h.low c (by rw[h.oc];decide)).1,(h.low x.rb (by rw[h.orb];decide)).1,h.bl⟩)
 have H:=Aia h
 have HBX:=Aia hbox
 have HD0:=Aia (show 0<=C.delay/\C.delay<=20 by omega)
 clear h hbox hb hl ho hbp hcp k0 k1 k2 k3 k4 k5 k9 k10
 go_enter func75,ntmps75
 go_wp2_with fail
 refine HOp.out.mono ?_
 rintro e w1 ⟨rg,lv,rfl,hr,hn⟩
 obtain⟨o1,st1⟩:=tM H.out HBX.out hr hn
 have ST1:=Aia st1
 have k1:=(Ak hn.bel).get HBX.out (fun h=>h)
 obtain⟨q0,q1,q2,q3,q4,q5,q6,q7,q8,q9,q10,qf⟩:=Bm k1
 clear q0 q1 q2 q3 q4 q5 q6 q9 q10 hr hn st1 k1 HOp HBX k6 k7 k8 kf
 go_upto_region 5 with fail
 generalize World.setCell _ _ _=w2 at ST1 ⊢
 obtain⟨k0,k1,k2,k3,k4,k5,k6,k7,k8,k9,k10,kf⟩:=Bm ST1.out.box
 rw[hve]at k5
 clear q7 q8 qf k0 k1 k2 k3 k4 k6 k7 k8 k9 k10 kf
 go_wp2_with fail
 go_loopw [31] (fun s wr=>∃(i:Nat) (a1:Option Addr) (k1:Nat) (ls:List Nat) (o1:Nat->Nat),i<=x.X.length/\s=.int .i64 i/\Hid (rO B sa w0 kb c txt x C D m rg lv (Ir m.bs) vt o w (.slice a1 i k1) i ls o1 wr)) (fun s _=>x.X.length-(intOf s).toNat)
 case atStart=>exact⟨0,none,0,[],o1,Nat.zero_le _,rfl,ST1⟩
 case round=>
  obtain⟨i,a1,j1,ls,o2,hi,rfl,hst⟩:=hrel
  clear ST1 k5
  by_cases hlt:i<x.X.length
  ·have hrow:=hst.out.b.ents.row
   rw[hve]at hrow
   obtain⟨b,off,rfl,hRb,hbl,hc⟩:=O4 hrow (by omega)
   obtain⟨q0,q1,q2,q3,q4,q5,q6,q7,q8,q9⟩:=hc i hlt
   obtain⟨y,hy⟩:∃y,y=x.X[i]:=⟨_,rfl⟩
   rw[<-hy]at q0 q1 q2 q3 q4 q5 q6 q7 q8 q9
   have hyi:x.X[i]? =some y:=by rw[List.getElem?_eq_getElem hlt,hy]
   have hEs:=hst.out.b.ents.each y (by rw[hy];exact List.getElem_mem hlt)
   obtain⟨pa,pc,hvp⟩:=hEs.p.val
   obtain⟨ga,gc,hvg⟩:=hEs.g.val
   obtain⟨ea,ec,hve2⟩:=hEs.e.val
   obtain⟨fa,fc,hvf⟩:=hEs.f.val
   obtain⟨la,lc,hvl⟩:=hEs.l.val
   rw[hvp]at q2
   rw[hvg]at q6
   rw[hve2]at q7
   rw[hvf]at q8
   rw[hvl]at q9
   obtain⟨xe,hxe⟩:∃xe,xe=y.E:=⟨_,rfl⟩
   have HNW:Hid (∀W,Below wr.heap.size wr W->Calls Tryz.prog 116 #[.agg #[.string xe.name,.int .i64 xe.tol,.slice pa xe.points.length pc,.int .i64 xe.count,.int .i64 xe.mn,.int .i64 xe.mx,.slice ga xe.gaps.length gc,.slice ea xe.edges.length ec,.slice fa xe.first.length fc,.slice la xe.last.length lc]] W
     fun e w'=>∃l,e=.returned (.pointer (some ⟨l,0,none⟩))/\wr.heap.size<=l/\w'.heap[l]? =some (Jy none y.E y.p y.g y.e y.f y.l)/\Below wr.heap.size wr w'):=(show _ from by
    intro W hW
    rw[hxe,<-hvp,<-hvg,<-hve2,<-hvf,<-hvl]
    refine(Zk y.E y.p y.g y.e y.f y.l W).mono ?_
    rintro e w1 ⟨rfl,h1,h2⟩
    exact⟨_,rfl,Nat.le_trans hW.size (by omega),h1,hW.trans (h2.mono hW.size)⟩)
   rw[<-hxe]at q0 q1 q2 q3 q4 q5 q6 q7 q8 q9
   have HA:Hid (∀(l:Nat) (W W4:World) (a2:Option Addr) (k2:Nat),Below wr.heap.size wr W->W.heap[l]? =some (Jy none y.E y.p y.g y.e y.f y.l)->wr.heap.size<=l->As W4 w0.heap.size 112 1 (.slice a2 (i+1) k2) (i+1) (Nw ls++ [.pointer (some ⟨l,0,none⟩)])->W.grownBy W4 (Value.slice a1 i j1).ownBlock->
     ((Value.slice a2 (i+1) k2).ownBlock=(Value.slice a1 i j1).ownBlock\/∀b,(Value.slice a2 (i+1) k2).ownBlock=some b->W.heap.size<=b)->
     (∃o',Hid (rO B sa w0 kb c txt x C D m rg lv (Ir m.bs) vt o w (.slice a2 (i+1) k2) (i+1) (ls++ [l]) o' (W4.setCell ⟨kb,8,none⟩ (.slice a2 (i+1) k2))))/\(∃u,W4.cell? ⟨kb,8,none⟩=some u)/\∀f,W4.frozen? ⟨kb,f,none⟩=false):=(show _ from by
    intro l W W4 a2 k2 h1 h2 h3 h4 h5 h6
    exact hst.out.next h1 h2 h3 hyi h4 h5 h6)
   have HOW:Hid (∀W,Below wr.heap.size wr W->As W w0.heap.size 112 1 (.slice a1 i j1) i (Nw ls)/\w0.heap.size<=W.heap.size):=(show _ from fun W hW=>⟨hst.out.row.later hW,by have:=hW.size;have:=hst.out.b.bel.size;omega⟩)
   obtain⟨v0,v1,v2,v3,v4,v5,v6,v7,k8,v9,v10,kf⟩:=Bm hst.out.box
   clear v0 v1 v2 v3 v4 v5 v6 v7 v9 v10 hrow hc hy hEs hvp hvg hve2 hvf hvl hyi
   have hkb:kb<wr.heap.size:=Aa hst.out.box
   have HST:=Aia hst.out
   have HXE:=Aia hxe
   clear hst hxe
   have HK8:Hid (∀W,Below wr.heap.size wr W->W.cell? ⟨kb,8,none⟩=some (.slice a1 i j1)/\kb<W.heap.size):=(show _ from fun W hW=>⟨by rw[hW.cell (p:=⟨kb,8,none⟩) hkb];exact k8,by have:=hW.size;omega⟩)
   go_upto_region 8 with fail
   have hxb:=Ab wr (.cells (A7 xe (.slice pa xe.points.length pc) (.slice ga xe.gaps.length gc) (.slice ea xe.edges.length ec) (.slice fa xe.first.length fc) (.slice la xe.last.length lc)) 50)
   have hbb:Below wr.heap.size wr (wr.alloc (.cells (A7 xe (.slice pa xe.points.length pc) (.slice ga xe.gaps.length gc) (.slice ea xe.edges.length ec) (.slice fa xe.first.length fc) (.slice la xe.last.length lc)) 50)):=(Below.refl _ _).alloc (Nat.le_refl _) _
   unfold A7 at hxb hbb
   rw[<-hbb.cell (p:=⟨kb,8,none⟩) hkb]at k8
   have kf':∀f,(wr.alloc (.cells #[.string xe.name,.int .i64 xe.tol,.slice pa xe.points.length pc,.int .i64 xe.count,.int .i64 xe.mn,.int .i64 xe.mx,.slice ga xe.gaps.length gc,.slice ea xe.edges.length ec,.slice fa xe.first.length fc,.slice la xe.last.length lc] 50)).frozen? ⟨kb,f,none⟩=false:=by
    obtain⟨_,_,_,_,_,_,_,_,_,_,_,kf2⟩:=Bm ((Ak hbb).get HST.out.box (fun h=>h))
    exact kf2
   clear kf q0 q1 q2 q3 q4 q5 q6 q7 q8 q9
   generalize wr.alloc _=w3 at hxb hbb k8 kf' ⊢
   obtain⟨z0,z1,z2,z3,z4,z5,z6,z7,z8,z9,zf⟩:=Bs hxb
   obtain⟨eb,heb⟩:∃eb,eb=wr.heap.size:=⟨_,rfl⟩
   have heb2:eb<w3.heap.size:=by rw[heb];exact Aa hxb
   rw[<-heb]at z0 z1 z2 z3 z4 z5 z6 z7 z8 z9 ⊢
   clear heb hxb zf
   go_region_law (first|(go_simp;go_at_call 116;refine(HNW.out _ ?_).mono ?_;(repeat(first|exact hbb|refine Below.drew ?_));rintro e w5 ⟨l,rfl,l1,l2,b5⟩;obtain⟨k85,hk5⟩:=HK8.out w5 b5)|(refine Bq rfl (.tmp 39) (.tmp 42) 64 rfl w0.heap.size 112 i0 _ 1 8 underlying64 hi0 hz0 hz1 hz2 rfl (by decide) (.slice a1 i j1) i (Nw ls) rfl ?_ ⟨w5.heap.size,0,none⟩ 1 1 [.pointer (some ⟨l,0,none⟩)] rfl rfl ?_ (by intro u hu;simp at hu;subst hu;rfl) (by unfold maxLen;omega) (by omega) ?_ ?_;exact(HOW.out _ (by repeat(first|exact b5|refine Below.drew ?_|refine Below.alloc ?_ (Below.size b5) _))).1;exact Av _ [.pointer (some ⟨l,0,none⟩)] _;exact(HOW.out _ (by repeat(first|exact b5|refine Below.drew ?_|refine Below.alloc ?_ (Below.size b5) _))).2;intro a2 k2 w6 ho6 hg6 hn6;obtain⟨⟨o3,F1⟩,⟨u8,d8⟩,df⟩:=HA.out l _ w6 _ _ (by repeat(first|exact b5|refine Below.drew ?_|refine Below.alloc ?_ (Below.size b5) _)) (Cm _ l2) l1 ho6 hg6 hn6;clear ho6 hg6 hn6))
   all_goals
    go_wp2_with fail
    go_roundw
    case rel=>exact⟨i+1,a2,k2,ls++ [l],o3,by omega,by go_num,F1⟩
    case measure=>simp[intOf];omega
  ·have hie:i=x.X.length:=by omega
   obtain⟨v0,v1,v2,v3,k4,v5,v6,v7,v8,v9,v10,v11⟩:=Bm hst.out.box
   have HT:=Aia (Yu C.delay wr HD0.out.1 HD0.out.2)
   have HIE:=Aia hie
   clear v0 v1 v2 v3 v5 v6 v7 v8 v9 v10 v11 hie
   go_wp2_with fail
   refine HT.out.mono ?_
   rintro e w3 ⟨rfl,t1,b3⟩
   obtain⟨o',z1,z2⟩:=hst.out.done HIE.out b3 t1 (Nat.le_refl _)
   have Z:=Aia (And.intro z1 z2)
   obtain⟨v0,v1,v2,v3,v4,v5,v6,v7,v8,k9,v10,kf⟩:=Bm ((Ak b3).get hst.out.box (fun h=>h))
   clear v0 v1 v2 v3 v4 v5 v6 v7 v8 v10 t1 b3 z1 z2 k4 hst
   go_wp2_with fail
   go_ret
   exact⟨rfl,_,o',Z.out.1,Z.out.2⟩
end
end
section
open Go.RowKit
section
variable {B:Nat} {sa:Nat->Addr} {w0:World} {kb c:Nat} {txt:ByteArray} {x:KpX} {M:KpM} {o:Nat->Nat} {w:World} {T:Nat}
theorem Ad3(C:Al)(D D':D3)(m:CM):({ Iy C D m with D:=D'}:KpM)=Iy C D' m:=by simp only[Iy]
theorem vA(h:Bh B sa w0 kb c txt x M o w)(hO:B8 M T):
  Calls Tryz.prog 127 #[.pointer (some ⟨kb,0,none⟩)] w (Ec B sa w0 kb c txt (Ov M) o w):=by
 unfold Ec
 have HOn:=Aia (Rp h)
 have H:=Aia h
 have HOk:=Aia hO
 obtain⟨k0,k1,k2,k3,k4,k5,k6,k7,k8,k9,k10,kf⟩:=Bm h.box
 unfold Ov
 by_cases h0:Jz M=0
 ·rw[h0]at HOn
  rw[if_pos h0]
  obtain⟨_,_,_,_,_,_,_,_,_,s9,_⟩:=h.b.se.all
  clear h hO h0 k0 k1 k2 k3 k4 k5 k6 k7 k8 k9 k10 kf
  go_enter func127,ntmps127
  go_wp2_with fail
  refine HOn.out.mono ?_
  rintro e w1 ⟨rfl,rfl⟩
  rw[Ds]
  go_wp2_with fail
  go_ret
  exact⟨rfl,x,o,H.out,Fr.refl _ _⟩
 ·rw[if_neg h0]
  obtain⟨q,hq⟩:∃q,Jz M=q+1:=⟨Jz M-1,by omega⟩
  rw[hq]at HOn
  have HCo:=Aia (rB c x.rb _ x.cap M.m w h.b.mem)
  have HK:=Aia (fun w1 (k:Ae (· =c) w w1) (g:A1 w1 c x.rb (some ⟨x.rb,0,none⟩) x.cap ⟨M.m.bs,false,-1,M.m.wr⟩)=>(show Bh B sa w0 kb c txt x { M with m:=⟨M.m.bs,false,-1,M.m.wr⟩} o w1/\Fr o o w w1 from⟨h.cell' k g,Fr.of k (fun b hb=>by rw[hb];have:=h.b.oc;omega)⟩))
  have HBl:=Aia hO.len
  clear h hO h0 hq k0 k1 k2 k3 k4 k5 k7 k8 k9 k10 kf
  go_enter func127,ntmps127
  go_wp2_with fail
  refine HOn.out.mono ?_
  rintro e w1 ⟨rfl,rfl⟩
  rw[D4]
  go_wp2_with fail
  refine HCo.out.mono ?_
  rintro e w1 ⟨rfl,g1,g2⟩
  obtain⟨z1,z2⟩:=HK.out w1 g2 g1
  have HOp:=Aia (Vf z1.b z1.box HOk.out.bound (by show 153<=M.m.bs.length;rw[HBl.out];decide) rfl)
  have HF:=Aia z2
  clear g1 g2 z1 z2 k6 HK HCo
  go_wp2_with fail
  refine HOp.out.mono ?_
  rintro e w2 ⟨rfl,x',o',z1,z2⟩
  have HZ:=Aia z1
  have HF2:=Aia (HF.out.trans z2)
  obtain⟨j0,k1,k2,k3,k4,k5,k6,k7,k8,k9,k10,kf⟩:=Bm z1.box
  have HSt:=Aia (Z9 x'.d M.D w2 z1.b.dog)
  clear z1 z2 k1 k2 k3 k4 k5 k6 k7 k8 k9 k10 kf HOp HF
  go_wp2_with fail
  refine HSt.out.mono ?_
  rintro e w3 ⟨rfl,g1,g2⟩
  have z3:=HZ.out.dog' g2 g1
  rw[Ad3]at z3
  have HZ3:=Aia z3
  have HF3:=Aia (HF2.out.trans (Fr.of g2 (fun b hb=>by rw[hb];have:=HZ.out.b.od;omega)))
  clear g1 g2 j0 HSt z3
  go_wp2_with fail
  go_ret
  exact⟨rfl,x',o',HZ3.out,HF3.out⟩
end
end
section
open Go.RowKit
theorem vZ{L:List Ap}(h:J7 L=(0,-1)):∀j,j<L.length->Gf L j=0:=by
 intro j hj
 unfold J7 at h
 split at h
 ·next i hi=>
  have:=(Prod.mk.inj h).2
  omega
 ·next hn=>
  rw[List.find?_range_eq_none]at hn
  simpa using hn j hj
theorem Cw{C:Al}(h:B7 C=(0,-1)):Dt C=false/\¬C.opn<C.cycle/\∀j,j<C.ents.length->Gf C.ents j=0:=by
 unfold B7 at h
 split at h
 ·cases h
 split at h
 ·cases h
 next h1 h2=>exact⟨by simpa using h1,h2,vZ h⟩
end
end Go.Proofs.YtikehilbmldadaaGreatDoor
