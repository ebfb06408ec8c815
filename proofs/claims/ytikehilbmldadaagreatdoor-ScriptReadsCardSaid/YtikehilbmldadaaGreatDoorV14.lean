import Derived.Test.YtikehilbmldadaaGreatDoorV01
import Derived.Deep.RegionHeld3
set_option maxHeartbeats 4000000
set_option maxRecDepth 100000
set_option linter.unusedVariables false
open Go.Proofs.Tryz Go.Proofs.YtikehilbmldadaaGreatDoor.Tryz
namespace Go.Proofs.YtikehilbmldadaaGreatDoor
section
open Go.RowKit
theorem xW{B:Nat}{w1 w':World}(hs:B<w1.heap.size)(h:Below w1.heap.size w1 w'):(∀o,w'.cell? ⟨B,o,none⟩=w1.cell? ⟨B,o,none⟩)/\Below w1.heap.size w1 w':=⟨fun o=>h.cell (p:=⟨B,o,none⟩) hs,h⟩
theorem Cs{w1 w':World}(h:Below w1.heap.size w1 w')(o:Obj):Below w1.heap.size w1 (w'.alloc o):=h.alloc h.size o
theorem Ji{w1 w' w'':World}(h:Below w1.heap.size w1 w')(k:Below w'.heap.size w' w''):Below w1.heap.size w1 w'':=h.trans (k.mono h.size)
structure Dk (lo hi:Nat) (E:Ap) (es:List (Int × Int)) (w:World) (f:Nat) (at':Int) (bad:Bool):Prop where
 ex:∃(mb:Nat) (a1:Option Addr) (k1:Nat) (a2:Option Addr) (k2:Nat) (K:List (Int × Int)),
  w.heap[f]? =some (.cells #[.map (some mb),.int .i64 E.points.length,.slice a1 E.first.length k1,.slice a2 E.last.length k2,.int .i64 at',.bool bad] 255)/\
  Hv w mb K/\(∀q,q∈K↔q∈es)/\Ay (fun b=>lo<=b/\b<hi/\b≠f/\b≠mb) w (.slice a1 E.first.length k1) 1 (Ac E.first) E.first.length/\
  Ay (fun b=>lo<=b/\b<hi/\b≠f/\b≠mb) w (.slice a2 E.last.length k2) 1 (Ac E.last) E.last.length/\lo<=mb/\mb<hi/\mb≠f
 flo:lo<=f
 fhi:f<hi
 ftop:hi<=w.heap.size
theorem Dk.keep{S:Nat->Prop}{lo hi:Nat}{E:Ap}{es:List (Int × Int)}{w w':World}{f:Nat}{at':Int}{bad:Bool}(h:Dk lo hi E es w f at' bad)(hk:Ae S w w')(hS:∀b,lo<=b->b<hi->¬S b):Dk lo hi E es w' f at' bad:=by
 obtain⟨⟨mb,a1,k1,a2,k2,K,h1,h2,h3,h4,h5,h6,h7,h8⟩,hl,hh,ht⟩:=h
 exact⟨⟨mb,a1,k1,a2,k2,K,hk.get h1 (hS f hl hh),h2.keep hk (hS mb h6 h7),h3,h4.keep hk (fun b hb=>hS b hb.1 hb.2.1),h5.keep hk (fun b hb=>hS b hb.1 hb.2.1),h6,h7,h8⟩,hl,hh,Nat.le_trans ht hk.size⟩
theorem Ay.imp{R S:Nat->Prop}{w:World}{v:Value}{sz:Nat}{cs:List Value}{n:Nat}(h:Ay R w v sz cs n)(hd:∀b,R b->b<w.heap.size->S b):Ay S w v sz cs n:=by
 obtain⟨hl,ao,cap,hv,h1,h2,h3,h4⟩:=h
 refine⟨hl,ao,cap,hv,h1,h2,h3,fun hp=>?_⟩
 obtain⟨b,off,ha,hR,hb,hc⟩:=h4 hp
 exact⟨b,off,ha,hd b hR hb,hb,hc⟩
theorem Oe(w:World):Hv (w.alloc (.map #[] 0)) w.heap.size []:=⟨#[],0,heap_alloc_new w _,rfl⟩
theorem Nl{w w1 wl W:World}{E:Ap}{a1 a2:Option Addr}{k1 k2 mb:Nat}(hb:Below w.heap.size w w1)(hb1:Below w1.heap.size w1 wl)(hm:Hv wl mb [])(hlt:w.heap.size<=mb/\mb<wl.heap.size)
  (h1:Ay (fun b=>w.heap.size<=b/\b≠mb) wl (.slice a1 E.first.length k1) 1 (Ac E.first) E.first.length) (h2:Ay (fun b=>w.heap.size<=b/\b≠mb) wl (.slice a2 E.last.length k2) 1 (Ac E.last) E.last.length)
  (hW:W=wl.alloc (.cells #[.map (some mb),.int .i64 E.points.length,.slice a1 E.first.length k1,.slice a2 E.last.length k2,.int .i64 (-1),.bool false] 255)):
  Dk w.heap.size (wl.heap.size+1) E [] W wl.heap.size (-1) false/\Below w1.heap.size w1 W:=by
 subst hW
 have kk:Ae (fun _=>False) wl (wl.alloc (.cells #[.map (some mb),.int .i64 E.points.length,.slice a1 E.first.length k1,.slice a2 E.last.length k2,.int .i64 (-1),.bool false] 255)):=(Ae.refl _ _).alloc _
 have hsz:=hb1.size
 have hsz0:=hb.size
 refine⟨⟨⟨mb,a1,k1,a2,k2,[],Ab _ _,hm.keep kk (fun h=>h),fun q=>by simp,?_,?_,hlt.1,by omega,by omega⟩,by omega,by omega,by simp⟩,hb1.alloc hsz _⟩
 ·exact(h1.imp (fun b hR hbb=>⟨hR.1,by omega,by omega,hR.2⟩)).keep kk (fun _ _ h=>h)
 ·exact(h2.imp (fun b hR hbb=>⟨hR.1,by omega,by omega,hR.2⟩)).keep kk (fun _ _ h=>h)
theorem Abn{w w1 wf wl:World}{E:Ap}{a1 a2:Option Addr}{k1 k2:Nat}(hb:Below w.heap.size w w1)(bf:Below (w1.alloc (.map #[] 0)).drew.heap.size (w1.alloc (.map #[] 0)).drew wf)(bl:Below wf.heap.size wf wl)
  (sf:Ay (fun b=>(w1.alloc (.map #[] 0)).drew.heap.size<=b) wf (.slice a1 E.first.length k1) 1 (Ac E.first) E.first.length) (sl:Ay (fun b=>wf.heap.size<=b) wl (.slice a2 E.last.length k2) 1 (Ac E.last) E.last.length):
  Dk w.heap.size (wl.heap.size+1) E [] (wl.alloc (.cells #[.map (some w1.heap.size),.int .i64 E.points.length,.slice a1 E.first.length k1,.slice a2 E.last.length k2,.int .i64 (-1),.bool false] 255)) wl.heap.size (-1) false/\Below w1.heap.size w1 (wl.alloc (.cells #[.map (some w1.heap.size),.int .i64 E.points.length,.slice a1 E.first.length k1,.slice a2 E.last.length k2,.int .i64 (-1),.bool false] 255)):=by
 have hs0:=hb.size
 have e1:(w1.alloc (.map #[] 0)).drew.heap.size=w1.heap.size+1:=World.size_alloc w1 _
 have s1:=bf.size
 rw[e1]at s1
 have s2:=bl.size
 refine Nl hb ((Ji (((Below.refl _ w1).alloc (Nat.le_refl _) _).drew) bf).trans (bl.mono (by omega))) (((show Hv (w1.alloc (.map #[] 0)).drew w1.heap.size [] from Oe w1).keep (Ak bf) (fun h=>h)).keep (Ak bl) (fun h=>h)) ⟨hs0,by omega⟩ ?_ ?_ rfl
 ·exact(sf.imp (S:=fun b=>w.heap.size<=b/\b≠w1.heap.size) (fun b hR _=>by rw[e1]at hR;omega)).keep (Ak bl) (fun _ _ h=>h)
 ·exact sl.imp (fun b hR _=>by omega)
theorem Abm{w w1 wf wl:World}{E:Ap}{a1 a2:Option Addr}{k1 k2:Nat}(hb:Below w.heap.size w w1)(bf:Below w1.drew.heap.size w1.drew wf)(bl:Below (wf.alloc (.map #[] 0)).heap.size (wf.alloc (.map #[] 0)) wl)
  (sf:Ay (fun b=>w1.drew.heap.size<=b) wf (.slice a1 E.first.length k1) 1 (Ac E.first) E.first.length) (sl:Ay (fun b=>(wf.alloc (.map #[] 0)).heap.size<=b) wl (.slice a2 E.last.length k2) 1 (Ac E.last) E.last.length):
  Dk w.heap.size (wl.heap.size+1) E [] (wl.alloc (.cells #[.map (some wf.heap.size),.int .i64 E.points.length,.slice a1 E.first.length k1,.slice a2 E.last.length k2,.int .i64 (-1),.bool false] 255)) wl.heap.size (-1) false/\Below w1.heap.size w1 (wl.alloc (.cells #[.map (some wf.heap.size),.int .i64 E.points.length,.slice a1 E.first.length k1,.slice a2 E.last.length k2,.int .i64 (-1),.bool false] 255)):=by
 have hs0:=hb.size
 have s1:w1.heap.size<=wf.heap.size:=bf.size
 have e1:(wf.alloc (.map #[] 0)).heap.size=wf.heap.size+1:=World.size_alloc wf _
 have s2:=bl.size
 rw[e1]at s2
 refine Nl hb ((Cs (Ji ((Below.refl _ w1).drew) bf) (.map #[] 0)).trans (bl.mono (by omega))) ((Oe wf).keep (Ak bl) (fun h=>h)) ⟨by omega,by omega⟩ ?_ ?_ rfl
 ·exact((sf.imp (S:=fun b=>w.heap.size<=b/\b≠wf.heap.size) (fun b hR hb'=>⟨Nat.le_trans hs0 hR,by omega⟩)).keep ((Ae.refl (fun _=>False) wf).alloc (.map #[] 0)) (fun _ _ h=>h)).keep (Ak bl) (fun _ _ h=>h)
 ·exact sl.imp (fun b hR _=>by rw[e1]at hR;omega)
theorem Abl{w w1 wf wl:World}{E:Ap}{a1 a2:Option Addr}{k1 k2:Nat}(hb:Below w.heap.size w w1)(bf:Below w1.drew.heap.size w1.drew wf)(bl:Below wf.heap.size wf wl)
  (sf:Ay (fun b=>w1.drew.heap.size<=b) wf (.slice a1 E.first.length k1) 1 (Ac E.first) E.first.length) (sl:Ay (fun b=>wf.heap.size<=b) wl (.slice a2 E.last.length k2) 1 (Ac E.last) E.last.length):
  Dk w.heap.size (wl.heap.size+1+1) E [] ((wl.alloc (.map #[] 0)).alloc (.cells #[.map (some wl.heap.size),.int .i64 E.points.length,.slice a1 E.first.length k1,.slice a2 E.last.length k2,.int .i64 (-1),.bool false] 255)) (wl.heap.size+1) (-1) false/\Below w1.heap.size w1 ((wl.alloc (.map #[] 0)).alloc (.cells #[.map (some wl.heap.size),.int .i64 E.points.length,.slice a1 E.first.length k1,.slice a2 E.last.length k2,.int .i64 (-1),.bool false] 255)):=by
 have hs0:=hb.size
 have s1:w1.heap.size<=wf.heap.size:=bf.size
 have s2:=bl.size
 have e1:(wl.alloc (.map #[] 0)).heap.size=wl.heap.size+1:=World.size_alloc wl _
 have:=Nl (W:=(wl.alloc (.map #[] 0)).alloc (.cells #[.map (some wl.heap.size),.int .i64 E.points.length,.slice a1 E.first.length k1,.slice a2 E.last.length k2,.int .i64 (-1),.bool false] 255)) (E:=E) (a1:=a1) (a2:=a2) (k1:=k1) (k2:=k2) hb (Cs ((Ji ((Below.refl _ w1).drew) bf).trans (bl.mono (by omega))) (.map #[] 0)) (Oe wl) ⟨by omega,by rw[e1];omega⟩ ?_ ?_ rfl
 ·rw[e1]at this;exact this
 ·exact((sf.keep (Ak bl) (fun _ _ h=>h)).imp (S:=fun b=>w.heap.size<=b/\b≠wl.heap.size) (fun b hR hb'=>⟨Nat.le_trans hs0 hR,by omega⟩)).keep ((Ae.refl (fun _=>False) wl).alloc (.map #[] 0)) (fun _ _ h=>h)
 ·exact(sl.imp (S:=fun b=>w.heap.size<=b/\b≠wl.heap.size) (fun b hR hb'=>by omega)).keep ((Ae.refl (fun _=>False) wl).alloc (.map #[] 0)) (fun _ _ h=>h)
theorem Pn{w:World}{b:Nat}{c0 c1 c2 c3 c4 c5:Value}{t:TypeId}(h:w.heap[b]? =some (.cells #[c0,c1,c2,c3,c4,c5] t)):
  w.cell? ⟨b,0,none⟩=some c0/\w.cell? ⟨b,1,none⟩=some c1/\w.cell? ⟨b,2,none⟩=some c2/\w.cell? ⟨b,3,none⟩=some c3/\w.cell? ⟨b,4,none⟩=some c4/\w.cell? ⟨b,5,none⟩=some c5/\∀o,w.frozen? ⟨b,o,none⟩=false:=by
 simp[World.cell?,World.frozen?,h]
theorem Tryz.pairInfo:(Tryz.prog.info? 3).map (·.size)=some 1:=by kernel_rfl
theorem Tryz.pairZero:(Tryz.prog.info? 4).map (·.zero)=some (some (.bool false)):=by kernel_rfl
theorem Tryz.pairMap:Ki Tryz.prog 252 127 3 4 where
 um:=by kernel_rfl
 ut:=by kernel_rfl
 ue:=by kernel_rfl
 us:=by
  have:=pairInfo
  cases h:Tryz.prog.info? 3 with
  |none=>rw[h]at this;cases this
  |some i=>rw[h]at this;exact⟨i,rfl,by simpa using this⟩
 uz:=by
  intro w
  have:=pairZero
  cases h:Tryz.prog.info? 4 with
  |none=>rw[h]at this;cases this
  |some i=>rw[h]at this;simp at this;simp[zeroValue,typeInfo,h,this]
theorem qF(R:Nat->Prop)(E:Ap)(vp vg ve vf vl:Value)(w:World)(h:Ih R w E vp vg ve vf vl)(hR:∀b,R b->b<w.heap.size)(hL:Yr E):
    Calls Tryz.prog 91 #[.agg (A7 E vp vg ve vf vl)] w fun e w'=>∃f hi,e=.returned (.pointer (some ⟨f,0,none⟩))/\Dk w.heap.size hi E E.edges w' f (-1) false/\Below w.heap.size w w':=by
  obtain⟨pa,pc,rfl⟩:=h.p.val
  obtain⟨ga,gc,rfl⟩:=h.g.val
  obtain⟨ea,ec,rfl⟩:=h.e.val
  obtain⟨fa,fc,rfl⟩:=h.f.val
  obtain⟨la,lc,rfl⟩:=h.l.val
  have hmm:= @run_makeMap Tryz.prog
  have H:=Aia h
  have lf:=hL.f
  have ll:=hL.l
  have le:=hL.e
  clear h
  unfold A7
  go_enter func91,ntmps91
  go_upto_region 1 with fail
  have hbx:(w.alloc (.cells (A7 E (.slice pa E.points.length pc) (.slice ga E.gaps.length gc) (.slice ea E.edges.length ec) (.slice fa E.first.length fc) (.slice la E.last.length lc)) 50)).heap[w.heap.size]? =some (.cells (A7 E (.slice pa E.points.length pc) (.slice ga E.gaps.length gc) (.slice ea E.edges.length ec) (.slice fa E.first.length fc) (.slice la E.last.length lc)) 50):=Ab _ _
  have hb1:Below w.heap.size w (w.alloc (.cells (A7 E (.slice pa E.points.length pc) (.slice ga E.gaps.length gc) (.slice ea E.edges.length ec) (.slice fa E.first.length fc) (.slice la E.last.length lc)) 50)):=(Below.refl _ _).alloc (Nat.le_refl _) _
  have hs1:(w.alloc (.cells (A7 E (.slice pa E.points.length pc) (.slice ga E.gaps.length gc) (.slice ea E.edges.length ec) (.slice fa E.first.length fc) (.slice la E.last.length lc)) 50)).heap.size=w.heap.size+1:=by simp
  simp only[A7]at hbx hb1 hs1
  generalize w.alloc _=w1 at hbx hb1 hs1 ⊢
  have hs:w.heap.size<w1.heap.size:=by omega
  obtain⟨c0,c1,c2,c3,c4,c5,c6,c7,c8,c9,cf⟩:=Bs hbx
  have HS1:=Aia hs1
  have HBX:=Aia hbx
  clear hs1 hbx c0 c1 c3 c4 c5 c6 cf
  go_cut [3] (fun s3 wx=>∃f hi,s3=.pointer (some ⟨f,0,none⟩)/\Dk w.heap.size hi E [] wx f (-1) false/\Below w1.heap.size w1 wx)
  case first=>
   go_region_held3 (fun w'=>(∀o,w'.cell? ⟨w.heap.size,o,none⟩=w1.cell? ⟨w.heap.size,o,none⟩)/\Below w1.heap.size w1 w')
    (first|(refine xW hs ?_;repeat(first|exact Below.refl _ _|assumption|refine Below.drew ?_|refine Cs ?_ _|refine Ji ?_ (by assumption))))
    (first|(go_at_call_of 159 (Value.slice fa E.first.length fc);refine(Qm R E.first _ _ ?_ (by omega)).mono ?_;(exact H.out.f.below (hb1.trans (Below.mono (by repeat(first|exact Below.refl _ _|assumption|refine Below.drew ?_|refine Cs ?_ _|refine Ji ?_ (by assumption))) (Nat.le_of_lt hs))) hR);rintro e wf ⟨a1,k1,rfl,sf,bf⟩)|(go_at_call_of 159 (Value.slice la E.last.length lc);refine(Qm R E.last _ _ ?_ (by omega)).mono ?_;(exact H.out.l.below (hb1.trans (Below.mono (by repeat(first|exact Below.refl _ _|assumption|refine Below.drew ?_|refine Cs ?_ _|refine Ji ?_ (by assumption))) (Nat.le_of_lt hs))) hR);rintro e wl ⟨a2,k2,rfl,sl,bl⟩))
   all_goals(go_wp2_with fail;go_meet)
   · exact⟨_,_,rfl,Abn hb1 bf bl sf sl⟩
   · exact⟨_,_,rfl,Abm hb1 bf bl sf sl⟩
   · exact⟨_,_,rfl,Abl hb1 bf bl sf sl⟩
  case rest=>
  obtain⟨f,hi,rfl,hF,hB⟩:=hcut
  have HF:=Aia hF
  clear hF
  have hB0:=hb1.trans (hB.mono (Nat.le_of_lt hs))
  have d7:=xW hs hB
  rw[<-d7.1 7]at c7
  clear c2 c8 c9 d7
  go_wp2_with fail
  go_loopw [21] (fun s wr=>∃k:Nat,k<=E.edges.length/\s=.int .i64 k/\Below w.heap.size w wr/\Hid (Dk w.heap.size hi E (E.edges.take k) wr f (-1) false)) (fun s _=>E.edges.length-(intOf s).toNat)
  case atStart=>exact⟨0,Nat.zero_le _,rfl,hB0,HF⟩
  case round=>
    obtain⟨k,hk,rfl,hb,hg⟩:=hrel
    by_cases hlt:k<E.edges.length
    · obtain⟨eb,eoff,rfl,hRb,_,hc⟩:=H.out.e.elem (f:=Cd) (fun _=>rfl) (by decide) (by omega)
      have q0:=hc k hlt 0 _ rfl
      have q1:=hc k hlt 1 _ rfl
      rw[<-hb.cell (hR eb hRb)]at q0 q1
      rw[Nat.add_zero]at q0
      clear hc
      go_upto_region 5 with fail
      have kx:Ae (fun _=>False) wr (wr.alloc (.cells #[.int .i64 E.edges[k].1,.int .i64 E.edges[k].2] 127)):=(Ae.refl _ _).alloc _
      have gx:=Ab wr (.cells #[.int .i64 E.edges[k].1,.int .i64 E.edges[k].2] 127)
      have hbx:Below w.heap.size w (wr.alloc (.cells #[.int .i64 E.edges[k].1,.int .i64 E.edges[k].2] 127)):=hb.alloc hb.size _
      have hFx:=hg.out.keep kx (fun _ _ _ h=>h)
      have hxs:=kx.size
      have hfi:=hg.out.ftop
      generalize wr.alloc _=wx at kx gx hbx hFx hxs ⊢
      obtain⟨x0,x1,xf⟩:=Au gx
      obtain⟨⟨mb,a1,k1,a2,k2,K,f1,f2,f3,f4,f5,f6,f7,f8⟩,f9,f10,f11⟩:=hFx
      obtain⟨m0,m1,m2,m3,m4,m5,mf⟩:=Pn f1
      obtain⟨W,hup,⟨K',hK',hq⟩,kp⟩:=pairMap.update wx.drew mb K E.edges[k] (show Hv wx.drew mb K from f2)
      unfold Gd at hup
      have st:Dk w.heap.size hi E (E.edges.take (k+1)) W f (-1) false/\Below w.heap.size w W:=by
        refine⟨⟨⟨mb,a1,k1,a2,k2,K',kp.get (w:=wx.drew) f1 (fun h=>f8 h.symm),hK',fun q=>?_,Ay.keep (w:=wx.drew) f4 kp (fun b hb h=>hb.2.2.2 h),Ay.keep (w:=wx.drew) f5 kp (fun b hb h=>hb.2.2.2 h),f6,f7,f8⟩,f9,f10,Nat.le_trans f11 kp.size⟩,hbx.drew.trans (kp.below (show w.heap.size<=wx.drew.heap.size from hbx.size) (fun b hb'=>by omega))⟩
        rw[hq,f3,List.take_succ_eq_append_getElem hlt,List.mem_append,List.mem_singleton]
        exact or_comm
      have ST:=Aia st
      clear st kp hq hK' f1 f2 f3 f4 f5 q0 q1 hg hb kx
      go_region
      all_goals
        go_wp2_with fail
        go_roundw
        case rel=>exact⟨k+1,by omega,by go_num,ST.out.2,ST.out.1⟩
        case measure=>simp[intOf];omega
    · go_wp2_with fail
      go_ret
      have hkk:k=E.edges.length:=by omega
      have:=hg.out
      rw[hkk,List.take_length]at this
      exact⟨f,hi,rfl,this,hb⟩
end
section
open Go.RowKit
def Gl(l:List Int):Bool:=(List.range l.length).any (fun i=>decide (l.getD i 0∈l.take i))
theorem Uc{l:List Int}(i:Nat)(hi:i<l.length)(h:l[i]∈l.take i):Gl l=true:=by
 unfold Gl
 rw[List.any_eq_true]
 exact⟨i,List.mem_range.2 hi,by rw[List.getD_eq_getElem?_getD,List.getElem?_eq_getElem hi];exact decide_eq_true h⟩
theorem S4{l:List Int}(h:∀i (hi:i<l.length),l[i]∉l.take i):Gl l=false:=by
 unfold Gl
 rw[List.any_eq_false]
 intro i hi
 have hi:=List.mem_range.1 hi
 rw[List.getD_eq_getElem?_getD,List.getElem?_eq_getElem hi]
 simpa using h i hi
theorem Ay.take{R:Nat->Prop}{w:World}{ao:Option Addr}{cap:Nat}{l:List Int}(h:Ay R w (.slice ao l.length cap) 1 (Ac l) l.length)(k:Nat)(hk:k<=l.length):Ay R w (.slice ao k cap) 1 (Ac (l.take k)) (l.take k).length:=by
 obtain⟨hl,ao',cap',hv,h1,h2,h3,h4⟩:=h
 simp at hv
 obtain⟨rfl,rfl⟩:=hv
 have hlt:(l.take k).length=k:=by simp;omega
 refine⟨by simp[Ac],ao,cap,by rw[hlt],by rw[hlt];omega,h2,h3,fun hp=>?_⟩
 have hp2:0<(Ac l).length:=by simp[Ac]at hp ⊢;omega
 obtain⟨b,off,ha,hR,hb,hc⟩:=h4 hp2
 refine⟨b,off,ha,hR,hb,fun j u hu=>hc j u ?_⟩
 have hj:j<k:=by
  have:=(List.getElem?_eq_some_iff.1 hu).1
  simp[Ac]at this;omega
 simp[Ac,hj]at hu ⊢
 exact hu
theorem C5{P:Program}{f:FuncId}{args:Array Value}{w:World}{n:Nat}{v:Value}
  (h:Calls P f args (w.drewN n) fun e w'=>e=.returned v/\w.drewN n=w'):Calls P f args (w.drewN n) fun e w''=>e=.returned v/\∃m,w''=w.drewN m:=
 h.mono fun _ _ ⟨he,hm⟩=>⟨he,n,hm.symm⟩
theorem M6(w:World)(b off len cap i:Nat)(hi:i<=cap):
  (Instr.slice 48 (.slice (some ⟨b,off,none⟩) len cap) none (some (.int .i64 i)) none).run Tryz.prog w=.ok (.slice (some ⟨b,off,none⟩) i cap) w:=by
 have ht:Tryz.prog.underlying 48=some (.slice (Tryz.prog.elem 48)):=by kernel_rfl
 have hs:((sizeOf (Tryz.prog.elem 48)).run Tryz.prog w)=.ok 1 w:=by kernel_rfl
 rw[run_slice_h w 48 (some ⟨b,off,none⟩) len cap ht .i64 i (by omega) (by omega),hs]
 show Result.ok (sliced _ _ _ _ _) w=_
 unfold sliced
 simp
 intro _
 rw[Cz,Nat.add_zero]
theorem Xf(R:Nat->Prop)(l:List Int)(v:Value)(w:World)(h:Ay R w v 1 (Ac l) l.length)(hn:l.length<=100000):
  Calls Tryz.prog 88 #[v] w fun e w'=>e=.returned (.bool (Gl l))/\∃q,w'=w.drewN q:=by
 obtain⟨ao,cap,rfl⟩:=h.val
 have H:=Aia h
 have hcap:(l.length:Int)<=(cap:Int)/\(cap:Int)<=9223372036854775807:=by
  obtain⟨_,_,_,hv,h1,h2,_⟩:=h
  simp at hv
  obtain⟨rfl,rfl⟩:=hv
  unfold maxLen at h2
  omega
 have hc1:=hcap.1
 have hc2:=hcap.2
 clear h hcap
 go_enter func88,ntmps88
 go_wp2_with fail
 go_loopw [3] (fun s wr=>∃i q:Nat,i<=l.length/\s=.int .i64 i/\Hid (∀j (hj:j<l.length),j<i->l[j]∉l.take j)/\wr=w.drewN q) (fun s _=>l.length-(intOf s).toNat)
 case atStart=>exact⟨0,0,Nat.zero_le _,rfl,fun j _ h=>by omega,rfl⟩
 case round=>
  obtain⟨i,q,hi,rfl,hall,rfl⟩:=hrel
  by_cases hlt:i<l.length
  ·obtain⟨b,off,rfl,_,_,hc⟩:=Kn H.out (by omega)
   generalize hwq:World.drewN w q=wq
   have q1:wq.cell? ⟨b,off+i,none⟩=some (.int .i64 l[i]):=by rw[<-hwq];exact hc i hlt
   clear hc
   have hs:Ay R wq (.slice (some ⟨b,off,none⟩) i cap) 1 (Ac (l.take i)) (l.take i).length:=by
    rw[<-hwq]
    exact(H.out.take i (by omega)).keep (Dq q (Ae.refl (fun _=>False) w)) (fun _ _ h=>h)
   have HWQ:=Aia hwq
   clear hwq
   have hT:Hid (∀n,Calls Tryz.prog 158 #[.slice (some ⟨b,off,none⟩) i cap,.int .i64 l[i]] (wq.drewN n) fun e w'=>e=.returned (.bool (decide (l[i]∈l.take i)))/\wq.drewN n=w'):=Aia (fun n=>pW R (l.take i) _ l[i] _ (hs.keep (Dq n (Ae.refl (fun _=>False) wq)) (fun _ _ h=>h)))
   clear hs
   obtain⟨tb,htb⟩:∃tb,tb=decide (l[i]∈l.take i):=⟨_,rfl⟩
   rw[<-htb]at hT
   have HTB:=Aia htb
   clear htb
   have hi2:(i:Int)<=(cap:Int):=by omega
   have hsub:=fun W=>M6 W b off l.length cap i (by omega)
   go_wp2_with fail
   go_quiet ((go_at_call 158;exact C5 (hT.out _)))
   have hdd:∀n,∃c,wq.drewN n=w.drewN c:=fun n=>by rw[<-HWQ.out];exact drewN_drewN _ _ _
   have HDD:=Aia hdd
   clear hdd
   cases tb with
   |true=>
    have hbad:=Aia (Uc i hlt (of_decide_eq_true HTB.out.symm))
    go_wp2_with fail
    go_ret
    exact⟨Ah hbad.out.symm,HDD.out _⟩
   |false=>
    have hgood:=Aia (of_decide_eq_false HTB.out.symm)
    go_wp2_with fail
    go_roundw
    case rel=>
     obtain⟨c,hc⟩:=HDD.out _
     exact⟨i+1,c,by omega,by go_num,(show ∀j (hj:j<l.length),j<i+1->l[j]∉l.take j from fun j hj hji=>by
      by_cases e:j=i
      ·subst e;exact hgood.out
      ·exact hall.out j hj (by omega)),hc⟩
    case measure=>simp[intOf];omega
  ·have HB:=Aia (S4 (l:=l) (fun j hj=>hall.out j hj (by omega)))
   go_wp2_with fail
   go_ret
   exact⟨Ah HB.out.symm,_,rfl⟩
end
section
open Go.RowKit
structure EB (w0:World) (R:Nat->Prop) (E:Ap) (vp vg ve vf vl:Value) (eb:Nat) (w:World):Prop where
 box:w.heap[eb]? =some (.cells (A7 E vp vg ve vf vl) 50)
 sl:Ih R w E vp vg ve vf vl
 bel:Below w0.heap.size w0 w
 lo:∀b,R b->b<w0.heap.size
 hi:w0.heap.size<=eb
section
variable {w0 w w':World} {R S:Nat->Prop} {E:Ap} {vp vg ve vf vl:Value} {eb:Nat}
theorem EB.keep(h:EB w0 R E vp vg ve vf vl eb w)(k:Ae S w w')(hS:∀b,S b->b<w.heap.size->w0.heap.size<=b/\b≠eb):EB w0 R E vp vg ve vf vl eb w':=by
 have k2:Ae (fun b=>w0.heap.size<=b/\b≠eb) w w':=k.mono (fun b hb hs=>hS b hs hb)
 have hlo:=h.lo
 have hhi:=h.hi
 exact⟨k2.get h.box (fun x=>x.2 rfl),h.sl.keep k2 (fun b hb hs=>by have:=hlo b hb;omega),h.bel.trans (k2.below h.bel.size (fun b hb=>hb.1)),h.lo,h.hi⟩
theorem EB.below(h:EB w0 R E vp vg ve vf vl eb w)(b:Below w.heap.size w w'):EB w0 R E vp vg ve vf vl eb w':=h.keep (Ak b) (fun _ h _=>h.elim)
theorem EB.cells(h:EB w0 R E vp vg ve vf vl eb w):
  w.cell? ⟨eb,0,none⟩=some (.string E.name)/\w.cell? ⟨eb,1,none⟩=some (.int .i64 E.tol)/\w.cell? ⟨eb,2,none⟩=some vp/\w.cell? ⟨eb,3,none⟩=some (.int .i64 E.count)/\w.cell? ⟨eb,4,none⟩=some (.int .i64 E.mn)/\
  w.cell? ⟨eb,5,none⟩=some (.int .i64 E.mx)/\w.cell? ⟨eb,6,none⟩=some vg/\w.cell? ⟨eb,7,none⟩=some ve/\w.cell? ⟨eb,8,none⟩=some vf/\w.cell? ⟨eb,9,none⟩=some vl:=by
 have:=h.box
 unfold A7 at this
 simp[World.cell?,this]
end
theorem rG{w w1:World}{o:Option Nat}{base:Nat}(hg:w.grownBy w1 o)(ho:∀b,o=some b->base<=b)(hb:base<=w.heap.size):Below base w w1:=
 (Ae.of_grown hg).below hb (fun k hk=>ho k hk.symm)
theorem Il{P:Program}{w:World}{ops:Array Oper}{rest:List Oper}{o:Oper}{a:Act}{Q:Exit->Act->World->Prop}(hgd:o.guard=none)(s x:Operand)(t:TypeId)
  (ho:o.op=.call { callee:=.builtin .append,args:=#[s,x],argTypes:=#[t,t]})
  (base:Nat) (e:TypeId) (i:TypeInfo) (z:Value) (size bytes:Nat) (ht:P.underlying t=some (.slice e)) (hi:P.info? e=some i) (hz:i.zero=some z)
  (hsize:i.size=size) (hby:i.bytes=bytes) (hzs:z.cells.size=size) (hsz:0<size)
  (v:Value) (n:Nat) (xs:List Value) (hs:a.eval s=v) (hown:w.ownsRow base e size v n xs)
  (R:Nat->Prop) (y:Value) (m:Nat) (cs:List Value) (hx:a.eval x=y) (hsl:Ay R w y size cs m) (h1:∀u∈cs,u.oneCell'=true)
  (h63:n+m<=maxLen) (hbytes:(n+m)*bytes<=140737488355328) (hbase:base<=w.heap.size)
  (h:∀ao cap w',w'.ownsRow base e size (.slice ao (n+m) cap) (n+m) (xs++cs)->w.grownBy w' v.ownBlock->wpList P ops Q rest (a.put o.dst (.slice ao (n+m) cap)) w'):
  wpList P ops Q (o::rest) a w:=by
 obtain⟨hl,ao,cap,rfl,hnc,hcm,hnone,hcells⟩:=hsl
 cases ao with
 |none=>
  obtain rfl:=hnone rfl
  obtain rfl:m=0:=by omega
  obtain rfl:cs= []:=List.eq_nil_of_length_eq_zero (by simpa using hl)
  refine wpList_append_own_none hgd s x t ho base e i size ht hi v n xs hs hown hx ?_
  have hg0:w.grownBy w v.ownBlock:=⟨rfl,rfl,rfl,Nat.le_refl _,fun _ _ _=>rfl⟩
  rw[List.append_nil,Nat.add_zero]at h
  rcases hown.2 with⟨hv,hn⟩|⟨g,cap,cur,hv,_⟩
  ·subst hn
   have h':=h none 0 w (by rw[hv]at hown;exact hown) hg0
   rw[hv];exact h'
  ·have h':=h (some ⟨g,0,none⟩) cap w (by rw[hv]at hown;exact hown) hg0
   rw[hv];exact h'
 |some ad=>
  have hnews:∀j u,cs[j]? =some u->w.cell? (ad.add j)=some u:=by
   intro j u hu
   have hj:j<cs.length:=(List.getElem?_eq_some_iff.1 hu).1
   obtain⟨b,off,ha,_,_,hc⟩:=hcells (by omega)
   obtain rfl:=Option.some.inj ha
   rw[Cz]
   exact hc j u hu
  exact A9 hgd s x t ho base e i z size bytes ht hi hz hsize hby hzs hsz v n xs hs hown ad m cap cs hx hl hnews h1 h63 hbytes hbase h
def Gx(E:Ap):List Int:=E.first++E.last++E.gaps.flatMap (fun g=>[g.fr,g.dst])++E.edges.flatMap (fun x=>[x.1,x.2])
def He(E:Ap):Bool:=(Gx E).any (fun p=>decide (p<0\/(E.points.length:Int)<=p))
def Hp(E:Ap)(k:Nat):List Int:=E.first++E.last++(E.gaps.take k).flatMap (fun g=>[g.fr,g.dst])
def Lt(E:Ap)(k:Nat):List Int:=E.first++E.last++E.gaps.flatMap (fun g=>[g.fr,g.dst])++(E.edges.take k).flatMap (fun x=>[x.1,x.2])
theorem Yo(E:Ap)(k:Nat)(hk:k<E.gaps.length):Hp E (k+1)=Hp E k++ [E.gaps[k].fr,E.gaps[k].dst]:=by
 unfold Hp
 rw[List.take_succ_eq_append_getElem hk,List.flatMap_append]
 simp
theorem Yp(E:Ap)(k:Nat)(hk:k<E.edges.length):Lt E (k+1)=Lt E k++ [E.edges[k].1,E.edges[k].2]:=by
 unfold Lt
 rw[List.take_succ_eq_append_getElem hk,List.flatMap_append]
 simp
theorem rN(E:Ap)(k:Nat):(Hp E k).length<=E.first.length+E.last.length+2*E.gaps.length:=by
 unfold Hp
 rw[List.length_append,List.length_append,Dn _ 2 (fun _=>rfl)]
 have:(E.gaps.take k).length<=E.gaps.length:=by simp;omega
 omega
theorem R5(E:Ap)(k:Nat):(Lt E k).length<=E.first.length+E.last.length+2*E.gaps.length+2*E.edges.length:=by
 unfold Lt
 rw[List.length_append,List.length_append,List.length_append,Dn _ 2 (fun _=>rfl),Dn _ 2 (fun _=>rfl)]
 have:(E.edges.take k).length<=E.edges.length:=by simp;omega
 omega
theorem Kf(a b:List Int):Ac (a++b)=Ac a++Ac b:=by simp[Ac]
theorem kD{w wr wA w1:World}{R:Nat->Prop}{E:Ap}{vp vg ve vf vl:Value}{eb n cap:Nat}{ao:Option Addr}{acc acc':List Int}{x y:Int}{a1:Option Addr}{k1:Nat}
  (ho:wr.ownsRow (eb+1) 3 1 (.slice ao n cap) n (Ac acc)) (he:EB w R E vp vg ve vf vl eb wr) (hs:eb+1<=wr.heap.size) (hn:n=acc.length) (ha:acc'=acc++ [x,y]) (kA:Ae (fun _=>False) wr wA)
  (hg:wA.grownBy w1 (Value.slice ao n cap).ownBlock) (ho1:w1.ownsRow (eb+1) 3 1 (.slice a1 (n+2) k1) (n+2) (Ac acc++ [.int .i64 x,.int .i64 y])):
  n+2=acc'.length/\w1.ownsRow (eb+1) 3 1 (.slice a1 acc'.length k1) acc'.length (Ac acc')/\EB w R E vp vg ve vf vl eb w1/\eb+1<=w1.heap.size:=by
 have hl:n+2=acc'.length:=by rw[ha,List.length_append,<-hn];rfl
 have kk:Ae (fun b=>eb+1<=b) wr w1:=(kA.mono (fun _ _ h=>h.elim)).trans ((Ae.of_grown hg).mono (fun b hb hs=>(ho.lt _ hs.symm).1))
 refine⟨hl,?_,he.keep kk (fun b hb _=>by have:=he.hi;omega),Nat.le_trans hs kk.size⟩
 rw[<-hl,ha,Kf]
 exact ho1
theorem Agp(w:World)(o:Obj):Ae (fun _=>False) w (w.alloc o).drew:=((Ae.refl _ _).alloc _).drew
theorem S6{E:Ap}{i:Nat}(hi:i<(Gx E).length)(h:(Gx E)[i]<0\/(E.points.length:Int)<=(Gx E)[i]):He E=true:=by
 unfold He
 rw[List.any_eq_true]
 exact⟨_,List.getElem_mem hi,decide_eq_true h⟩
theorem Yy{E:Ap}(h:∀i (hi:i<(Gx E).length),¬((Gx E)[i]<0\/(E.points.length:Int)<=(Gx E)[i])):He E=false:=by
 unfold He
 rw[List.any_eq_false]
 intro x hx
 obtain⟨i,hi,rfl⟩:=List.mem_iff_getElem.1 hx
 simpa using h i hi
structure Fx (E:Ap):Prop where
 p:E.points.length<=1000
 g:E.gaps.length<=1000
 e:E.edges.length<=1000
 f:E.first.length<=1000
 l:E.last.length<=1000
theorem Wh(R:Nat->Prop)(E:Ap)(vp vg ve vf vl:Value)(w:World)(h:Ih R w E vp vg ve vf vl)(hR:∀b,R b->b<w.heap.size)(hE:Fx E):
  Calls Tryz.prog 87 #[.agg (A7 E vp vg ve vf vl)] w fun e w'=>e=.returned (.bool (He E))/\Below w.heap.size w w':=by
 obtain⟨i0,hi0,hz0,hz1,hz2⟩:=info_parts infoInt
 obtain⟨e1,e2,e3,e4,e5⟩:=hE
 have hEB:EB w R E vp vg ve vf vl w.heap.size (w.alloc (.cells (A7 E vp vg ve vf vl) 50)):=
  ⟨Ab _ _,h.keep (Ak ((Below.refl _ _).alloc (Nat.le_refl _) _)) (fun _ _ h=>h),(Below.refl _ _).alloc (Nat.le_refl _) _,hR,Nat.le_refl _⟩
 have HE:=Aia hEB
 have hs1:w.heap.size+1<=(w.alloc (.cells (A7 E vp vg ve vf vl) 50)).heap.size:=by simp
 have HS:=Aia hs1
 clear h hR hEB hs1
 unfold A7
 go_enter func87,ntmps87
 go_upto_region 2 with fail
 have hx:(w.alloc (.cells (A7 E vp vg ve vf vl) 50))=w.alloc (.cells #[.string E.name,.int .i64 E.tol,vp,.int .i64 E.count,.int .i64 E.mn,.int .i64 E.mx,vg,ve,vf,vl] 50):=rfl
 rw[<-hx]
 clear hx
 generalize w.alloc _=w1 at HE HS ⊢
 generalize hebq:w.heap.size=eb at HE HS ⊢
 have HEB:=Aia hebq
 clear hebq
 obtain⟨c0,c1,c2,c3,c4,c5,c6,c7,c8,c9⟩:=HE.out.cells
 go_upto_region 3 with(at_builtin;go_must (refine Il rfl (.tmp 7) (.tmp 9) 48 rfl (eb+1) 3 i0 _ 1 8 underlying48 hi0 hz0 hz1 hz2 rfl (by decide) (.slice none 0 0) 0 _ rfl (World.ownsRow_nil _ _ _ _) R vf E.first.length (Ac E.first) rfl HE.out.sl.f (Ff _) (by unfold maxLen;omega) (by omega) HS.out ?_;intro a2 k2 w2 ho2 hg2))
 have HE2:=Aia (HE.out.keep (Ae.of_grown hg2) (fun b hb _=>by cases hb))
 rw[Nat.zero_add,List.nil_append]at ho2
 have HO2:=Aia ho2
 have HS2:Hid (eb+1<=w2.heap.size):=Aia (Nat.le_trans HS.out hg2.size)
 clear c0 c1 c2 c3 c4 c5 c6 c7 c8 c9 HE HS hg2 ho2
 obtain⟨c0,c1,c2,c3,c4,c5,c6,c7,c8,c9⟩:=HE2.out.cells
 go_upto_region 4 with(at_builtin;go_must (refine Il rfl (.tmp 11) (.tmp 13) 48 rfl (eb+1) 3 i0 _ 1 8 underlying48 hi0 hz0 hz1 hz2 rfl (by decide) (.slice a2 E.first.length k2) E.first.length _ rfl HO2.out R vl E.last.length (Ac E.last) rfl HE2.out.sl.l (Ff _) (by unfold maxLen;omega) (by omega) HS2.out ?_;intro a3 k3 w3 ho3 hg3))
 have HE3:=Aia (HE2.out.keep (Ae.of_grown hg3) (fun b hb _=>by have:=(HO2.out.lt b hb.symm).1;have:=HE2.out.hi;omega))
 rw[<-Kf]at ho3
 have HS3:Hid (eb+1<=w3.heap.size):=Aia (Nat.le_trans HS2.out hg3.size)
 have HO3:Hid (w3.ownsRow (eb+1) 3 1 (.slice a3 (Hp E 0).length k3) (Hp E 0).length (Ac (Hp E 0))):=Aia (by
  have e:Hp E 0=E.first++E.last:=by simp[Hp]
  rw[e,List.length_append];exact ho3)
 have hl3:E.first.length+E.last.length=(Hp E 0).length:=by simp[Hp]
 rw[hl3]
 clear c0 c1 c2 c3 c4 c5 c6 c7 c8 c9 HE2 HS2 HO2 hg3 ho3 hl3
 go_wp2_with fail
 go_loopw [3,4] (fun s3 s4 wr=>∃(k:Nat) (ao:Option Addr) (cap:Nat),k<=E.gaps.length/\s4=.int .i64 k/\s3=.slice ao (Hp E k).length cap/\Hid (wr.ownsRow (eb+1) 3 1 (.slice ao (Hp E k).length cap) (Hp E k).length (Ac (Hp E k)))/\Hid (EB w R E vp vg ve vf vl eb wr)/\Hid (eb+1<=wr.heap.size)) (fun _ s4 _=>E.gaps.length-(intOf s4).toNat)
 case atStart=>exact⟨0,a3,k3,Nat.zero_le _,rfl,rfl,HO3,HE3,HS3⟩
 case round=>
  obtain⟨k,ao,cap,hk,rfl,rfl,ho,he,hs⟩:=hrel
  clear HO3 HE3 HS3
  obtain⟨c0,c1,c2,c3,c4,c5,c6,c7,c8,c9⟩:=he.out.cells
  obtain⟨ag,kg,hvg⟩:=he.out.sl.g.val
  rw[hvg]at c6
  have HVG:=Aia hvg
  clear hvg
  by_cases hlt:k<E.gaps.length
  ·have hsg:=he.out.sl.g
   rw[HVG.out]at hsg
   obtain⟨b,off,hag,hRb,hb,hc⟩:=hsg.elem (fun _=>rfl) (by decide) (by omega)
   have hag2:ag=some ⟨b,off,none⟩:=hag
   subst hag2
   have q0:=hc k hlt 0 _ rfl
   have q1:=hc k hlt 1 _ rfl
   rw[Nat.add_zero]at q0
   clear hc hsg hag
   obtain⟨n,hn⟩:∃n,n=(Hp E k).length:=⟨_,rfl⟩
   have hnb:=rN E k
   have HN:=Aia hn
   rw[<-hn]at hnb ho ⊢
   clear hn
   go_upto_region 7 with fail
   go_region_law (refine Ht rfl (.tmp 22) (.tmp 35) 48 rfl (eb+1) 3 i0 _ 1 8 underlying48 hi0 hz0 hz1 hz2 rfl (by decide) _ n _ rfl (ho.out.alloc _) ⟨wr.heap.size,0,none⟩ 2 2 [.int .i64 E.gaps[k].fr,.int .i64 E.gaps[k].dst] rfl rfl (by exact Av _ [.int .i64 E.gaps[k].fr,.int .i64 E.gaps[k].dst] _) (by intro u hu;simp at hu;rcases hu with rfl|rfl<;>rfl) (by unfold maxLen;omega) (by omega) (by have:=hs.out;simp;omega) ?_;intro a1 k1 w1 ho1 hgr1)
   all_goals
    obtain⟨hl2,ho2,he2,hs2⟩:=kD ho.out he.out hs.out HN.out (Yo E k hlt) (Agp _ _) hgr1 ho1
    rw[hl2]
    have HO2:=Aia ho2
    have HE2:=Aia he2
    have HS2:=Aia hs2
    clear ho1 hgr1 ho2 he2 hs2 hl2 q0 q1 c0 c1 c2 c3 c4 c5 c6 c7 c8 c9 ho he hs HN hnb
    go_wp2_with fail
    go_roundw
    case rel=>exact⟨k+1,a1,k1,by omega,by go_num,rfl,HO2,HE2,HS2⟩
    case measure=>simp[intOf];omega
  ·obtain rfl:k=E.gaps.length:=by omega
   have e0:Hp E E.gaps.length=Lt E 0:=by simp[Hp,Lt]
   rw[e0]at ho ⊢
   rw[<-HVG.out]at c6
   clear e0 c0 c1 c2 c3 c4 c5 c6 c7 c8 c9 hlt HVG
   have HO3:=ho
   have HE3:=he
   have HS3:=hs
   clear ho he hs
   obtain⟨c0,c1,c2,c3,c4,c5,c6,c7,c8,c9⟩:=HE3.out.cells
   obtain⟨ag,kg,hvg⟩:=HE3.out.sl.g.val
   rw[hvg]at c6
   clear c0 c1 c2 c3 c4 c5 c6 c7 c8 c9 hvg
   obtain⟨c0,c1,c2,c3,c4,c5,c6,c7,c8,c9⟩:=HE3.out.cells
   obtain⟨ag,kg,hvg⟩:=HE3.out.sl.g.val
   rw[hvg]at c6
   clear hvg
   go_wp2_with fail
   clear c0 c1 c2 c3 c4 c5 c6 c7 c8 c9
   generalize hwo:wr=wo at HO3 HE3 HS3 ⊢
   clear hwo
   go_loopw [3,5] (fun s3 s5 wr=>∃(k:Nat) (ao:Option Addr) (cap:Nat),k<=E.edges.length/\s5=.int .i64 k/\s3=.slice ao (Lt E k).length cap/\Hid (wr.ownsRow (eb+1) 3 1 (.slice ao (Lt E k).length cap) (Lt E k).length (Ac (Lt E k)))/\Hid (EB w R E vp vg ve vf vl eb wr)/\Hid (eb+1<=wr.heap.size)) (fun _ s5 _=>E.edges.length-(intOf s5).toNat)
   case atStart=>exact⟨0,ao,cap,Nat.zero_le _,rfl,rfl,HO3,HE3,HS3⟩
   case round=>
    obtain⟨k,ao,cap,hk,rfl,rfl,ho,he,hs⟩:=hrel
    clear HO3 HE3 HS3
    obtain⟨c0,c1,c2,c3,c4,c5,c6,c7,c8,c9⟩:=he.out.cells
    obtain⟨ae,ke,hve⟩:=he.out.sl.e.val
    rw[hve]at c7
    have HVE:=Aia hve
    clear hve
    by_cases hlt:k<E.edges.length
    ·have hse:=he.out.sl.e
     rw[HVE.out]at hse
     obtain⟨b,off,hag,hRb,hb,hc⟩:=hse.elem (fun _=>rfl) (by decide) (by omega)
     have hag2:ae=some ⟨b,off,none⟩:=hag
     subst hag2
     have q0:=hc k hlt 0 _ rfl
     have q1:=hc k hlt 1 _ rfl
     rw[Nat.add_zero]at q0
     clear hc hse hag
     obtain⟨n,hn⟩:∃n,n=(Lt E k).length:=⟨_,rfl⟩
     have hnb:=R5 E k
     have HN:=Aia hn
     rw[<-hn]at hnb ho ⊢
     clear hn
     go_upto_region 11 with fail
     go_region_law (refine Ht rfl (.tmp 44) (.tmp 57) 48 rfl (eb+1) 3 i0 _ 1 8 underlying48 hi0 hz0 hz1 hz2 rfl (by decide) _ n _ rfl (ho.out.alloc _) ⟨wr.heap.size,0,none⟩ 2 2 [.int .i64 E.edges[k].1,.int .i64 E.edges[k].2] rfl rfl (by exact Av _ [.int .i64 E.edges[k].1,.int .i64 E.edges[k].2] _) (by intro u hu;simp at hu;rcases hu with rfl|rfl<;>rfl) (by unfold maxLen;omega) (by omega) (by have:=hs.out;simp;omega) ?_;intro a1 k1 w1 ho1 hgr1)
     all_goals
      obtain⟨hl2,ho2,he2,hs2⟩:=kD ho.out he.out hs.out HN.out (Yp E k hlt) (Agp _ _) hgr1 ho1
      rw[hl2]
      have HO2:=Aia ho2
      have HE2:=Aia he2
      have HS2:=Aia hs2
      clear ho1 hgr1 ho2 he2 hs2 hl2 q0 q1 c0 c1 c2 c3 c4 c5 c6 c7 c8 c9 ho he hs HN hnb
      go_wp2_with fail
      go_roundw
      case rel=>exact⟨k+1,a1,k1,by omega,by go_num,rfl,HO2,HE2,HS2⟩
      case measure=>simp[intOf];omega
    ·obtain rfl:k=E.edges.length:=by omega
     have e0:Lt E E.edges.length=Gx E:=by simp[Gx,Lt]
     have hnb:=R5 E E.edges.length
     rw[e0]at ho hnb ⊢
     have HO3:=Aia (E7 ho.out)
     have HE3:=he
     clear e0 hlt ho he hs
     go_wp2_with fail
     clear c0 c1 c2 c3 c4 c5 c6 c7 c8 c9 HVE
     generalize hwo:wr=wo at HO3 HE3 ⊢
     clear hwo
     go_loopw [6] (fun s6 wr=>∃i q:Nat,i<=(Gx E).length/\s6=.int .i64 i/\wr=wo.drewN q/\Hid (∀j (hj:j<(Gx E).length),j<i->¬((Gx E)[j]<0\/(E.points.length:Int)<=(Gx E)[j]))) (fun s6 _=>(Gx E).length-(intOf s6).toNat)
     case atStart=>exact⟨0,0,Nat.zero_le _,rfl,rfl,fun j _ h=>by omega⟩
     case round=>
      obtain⟨i,q,hi,rfl,rfl,hall⟩:=hrel
      have hbel:=Aia (Ag q HE3.out.bel)
      by_cases hlt:i<(Gx E).length
      ·obtain⟨b,off,rfl,_,_,hc⟩:=Kn HO3.out (by omega)
       have q0:=hc i hlt
       clear hc
       obtain⟨c0,c1,c2,c3,c4,c5,c6,c7,c8,c9⟩:=HE3.out.cells
       obtain⟨ap,kp,hvp⟩:=HE3.out.sl.p.val
       rw[hvp]at c2
       clear hvp c0 c1 c3 c4 c5 c6 c7 c8 c9
       by_cases h1:(Gx E)[i]<0
       ·have HB:=Aia (S6 hlt (.inl h1))
        go_wp2_with fail
        go_quiet (fail)
        go_wp2_with fail
        go_ret
        exact⟨Ah HB.out.symm,Ag _ hbel.out⟩
       ·have h1d:decide ((Gx E)[i]<0)=false:=decide_eq_false h1
        by_cases h2:(E.points.length:Int)<=(Gx E)[i]
        ·have HB:=Aia (S6 hlt (.inr h2))
         go_wp2_with fail
         go_quiet (fail)
         go_wp2_with fail
         go_ret
         exact⟨Ah HB.out.symm,Ag _ hbel.out⟩
        ·have hok:=Aia (show ¬((Gx E)[i]<0\/(E.points.length:Int)<=(Gx E)[i])from fun h=>h.elim h1 h2)
         go_wp2_with fail
         go_quiet (fail)
         go_wp2_with fail
         go_roundw
         case rel=>
          exact⟨i+1,_,by omega,by go_num,rfl,(show ∀j (hj:j<(Gx E).length),j<i+1->¬((Gx E)[j]<0\/(E.points.length:Int)<=(Gx E)[j])from fun j hj hji=>by
           by_cases e:j=i
           ·subst e;exact hok.out
           ·exact hall.out j hj (by omega))⟩
         case measure=>simp[intOf];omega
      ·have HB:=Aia (Yy (E:=E) (fun j hj=>hall.out j hj (by omega)))
       go_wp2_with fail
       go_ret
       exact⟨Ah HB.out.symm,hbel.out⟩
end
end Go.Proofs.YtikehilbmldadaaGreatDoor
