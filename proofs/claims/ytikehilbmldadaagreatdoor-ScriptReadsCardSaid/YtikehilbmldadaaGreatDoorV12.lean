import Derived.Test.YtikehilbmldadaaGreatDoorV01
set_option maxHeartbeats 4000000
set_option linter.unusedVariables false
open Go.Proofs.Tryz Go.Proofs.YtikehilbmldadaaGreatDoor.Tryz
namespace Go.Proofs.YtikehilbmldadaaGreatDoor
open Go.RowKit
inductive St where|ok|failed|expired|stopped deriving DecidableEq
def St.str:St->ByteArray
 |.ok=>⟨#[111,107]⟩
 |.failed=>⟨#[102,97,105,108,101,100]⟩
 |.expired=>⟨#[101,120,112,105,114,101,100]⟩
 |.stopped=>⟨#[115,116,111,112,112,101,100]⟩
def Cf(w:World)(t:Nat)(delay since:Int)(st:St):Prop:=w.heap[t]? =some (.cells #[.int .i64 delay,.int .i64 since,.string st.str] 190)
theorem Db{w:World}{b:Nat}{c0 c1 c2:Value}{t:TypeId}(h:w.heap[b]? =some (.cells #[c0,c1,c2] t)):
  w.cell? ⟨b,0,none⟩=some c0/\w.cell? ⟨b,1,none⟩=some c1/\w.cell? ⟨b,2,none⟩=some c2/\∀o,w.frozen? ⟨b,o,none⟩=false:=by
 simp[World.cell?,World.frozen?,h]
def St.close(d s:Int)(st:St):Int × St:=if st=.expired/\d<=s then (s,.stopped) else (s,st)
def St.next(d s:Int)(st:St)(l:List ByteArray):Int × St:=match st with
 |.stopped=>(s,.stopped)
 |.expired=>St.close d (s+1) .expired
 |_=>St.close d s (if Cj l St.expired.str then .expired else if Cj l St.failed.str then .failed else .ok)
theorem Yu(d:Int)(w:World)(h0:0<=d)(h1:d<=20):
  Calls Tryz.prog 117 #[.int .i64 d] w fun e w'=>e=.returned (.tuple #[.pointer (some ⟨w.heap.size,0,none⟩),.nilIface])/\Cf w' w.heap.size d 0 .ok/\Below w.heap.size w w':=by
 go_enter func117,ntmps117
 go_wp2_with fail
 all_goals first|omega|skip
 all_goals
  refine bodyPost_ret (results_tmp2 rfl _ _ _) rfl ?_
  exact⟨rfl,Ab _ _,(Below.refl _ _).alloc (Nat.le_refl _) _⟩
theorem Cf.since{w:World}{t:Nat}{d s:Int}{st:St}(h:Cf w t d s st)(s':Int):Cf (w.setCell ⟨t,1,none⟩ (.int .i64 s')) t d s' st:=by
 unfold Cf at h ⊢
 rw[Am _ h];rfl
theorem Cf.status{w:World}{t:Nat}{d s:Int}{st:St}(h:Cf w t d s st)(st':St):Cf (w.setCell ⟨t,2,none⟩ (.string st'.str)) t d s st':=by
 unfold Cf at h ⊢
 rw[Am _ h];rfl
theorem Fk{w:World}{t:Nat}{d s:Int}{st:St}(q:Nat)(h:Cf w t d s st):Cf (w.drewN q) t d s st:=Sq q h
theorem G1(S:Nat->Prop)(w:World)(q:Nat):Ae S w (w.drewN q):=(Ak (Ag q (Below.refl w.heap.size w))).mono (fun _ _ h=>h.elim)
theorem Sb(t:Nat)(d s:Int)(v:Value)(w:World)(h:Cf w t d s .stopped):
  Calls Tryz.prog 154 #[.pointer (some ⟨t,0,none⟩),v] w fun e w'=>e=.returned (.string St.stopped.str)/\Cf w' t d s .stopped/\Ae (· =t) w w':=by
 have H:=Aia h
 obtain⟨c0,c1,c2,cf⟩:=Db h
 unfold St.str at c2
 clear h
 go_enter func154,ntmps154
 go_wp2_with fail
 go_quiet (fail)
 go_wp2_with fail
 go_ret
 exact⟨rfl,Fk _ H.out,G1 _ _ _⟩
theorem Sc(t:Nat)(d s:Int)(v:Value)(w:World)(h:Cf w t d s .expired)(h0:0<=s)(h1:s<=1000):
  Calls Tryz.prog 154 #[.pointer (some ⟨t,0,none⟩),v] w fun e w'=>e=.returned (.string (St.close d (s+1) .expired).2.str)/\Cf w' t d (s+1) (St.close d (s+1) .expired).2/\Ae (· =t) w w':=by
 have H:=Aia h
 obtain⟨c0,c1,c2,cf⟩:=Db h
 unfold St.str at c2
 clear h
 have h1':=Aia (H.out.since (s+1))
 have k1':=Aia (Ai w t 1 (.int .i64 (s+1)))
 go_enter func154,ntmps154
 by_cases hd:d<=s+1
 ·have hc:(St.close d (s+1) .expired).2=.stopped:=by simp[St.close,hd]
  rw[hc]
  go_wp2_with fail
  generalize World.setCell _ _ _=w1 at h1' k1' ⊢
  obtain⟨x0,x1,x2,xf⟩:=Db h1'.out
  simp only[St.str]at x2
  go_quiet (fail)
  have h2:=Fk nq h1'.out
  have k2:=Ae.trans k1'.out (G1 (· =t) w1 nq)
  generalize World.drewN _ _=w2 at h2 k2 ⊢
  have h3:=Aia (h2.status .stopped)
  have k3:=Aia (k2.trans (Ai w2 t 2 (.string St.stopped.str)))
  obtain⟨y0,y1,y2,yf⟩:=Db h2
  clear h2 k2
  simp only[St.str]at y2
  go_wp2_with fail
  go_ret
  exact⟨rfl,h3.out,k3.out⟩
 ·have hc:(St.close d (s+1) .expired).2=.expired:=by simp[St.close,hd]
  rw[hc]
  go_wp2_with fail
  generalize World.setCell _ _ _=w1 at h1' k1' ⊢
  obtain⟨x0,x1,x2,xf⟩:=Db h1'.out
  simp only[St.str]at x2
  go_quiet (fail)
  have h2:=Fk nq h1'.out
  have k2:=Ae.trans k1'.out (G1 (· =t) w1 nq)
  generalize World.drewN _ _=w2 at h2 k2 ⊢
  obtain⟨y0,y1,y2,yf⟩:=Db h2
  have h3:=Aia h2
  have k3:=Aia k2
  clear h2 k2
  simp only[St.str]at y2
  go_wp2_with fail
  go_ret
  exact⟨rfl,h3.out,k3.out⟩
theorem Yv(t:Nat)(d s:Int)(st:St)(w:World)(h:Cf w t d s st):
  Calls Tryz.prog 155 #[.pointer (some ⟨t,0,none⟩)] w fun e w'=>e=.returned (.bool (decide (st≠.stopped)))/\w=w':=by
 obtain⟨c0,c1,c2,cf⟩:=Db h
 clear h
 go_enter func155,ntmps155
 cases st
 all_goals
  simp only[St.str]at c2
  go_wp2_with fail
  go_ret
  exact⟨rfl,rfl⟩
theorem Qc(R:Nat->Prop)(t:Nat)(d s:Int)(st:St)(l:List ByteArray)(v:Value)(w:World)(h:Cf w t d s st)(hst:st=.ok\/st=.failed)(hl:Ay R w v 1 (Ad l) l.length):
  Calls Tryz.prog 154 #[.pointer (some ⟨t,0,none⟩),v] w fun e w'=>e=.returned (.string (St.next d s st l).2.str)/\Cf w' t d s (St.next d s st l).2/\Ae (· =t) w w':=by
 obtain⟨ao,cap,rfl⟩:=hl.val
 have H:=Aia h
 have HL:=Aia hl
 obtain⟨c0,c1,c2,cf⟩:=Db h
 clear h hl
 have hE:=Aia (H.out.status .expired)
 have hF:=Aia (H.out.status .failed)
 have hO:=Aia (H.out.status .ok)
 have kE:=Aia (Ai w t 2 (.string St.expired.str))
 have kF:=Aia (Ai w t 2 (.string St.failed.str))
 have kO:=Aia (Ai w t 2 (.string St.ok.str))
 have nE:Cj l St.expired.str=true->(St.next d s st l).2=(St.close d s .expired).2:=by rcases hst with rfl|rfl<;>intro h<;>simp[St.next,h]
 have nF:Cj l St.expired.str=false->Cj l St.failed.str=true->(St.next d s st l).2=.failed:=by rcases hst with rfl|rfl<;>intro h h2<;>simp[St.next,h,h2,St.close]
 have nO:Cj l St.expired.str=false->Cj l St.failed.str=false->(St.next d s st l).2=.ok:=by rcases hst with rfl|rfl<;>intro h h2<;>simp[St.next,h,h2,St.close]
 have NE:=Aia nE
 have NF:=Aia nF
 have NO:=Aia nO
 clear nE nF nO
 go_enter func154,ntmps154
 rcases hst with rfl|rfl
 all_goals
  simp only[St.str]at c2
  go_wp2_with fail
  refine(Jf R l _ _ w HL.out).mono ?_
  rintro e w' ⟨rfl,rfl⟩
  cases h1:Cj l ⟨#[101,120,112,105,114,101,100]⟩
  ·go_wp2_with fail
   refine(Jf R l _ _ w HL.out).mono ?_
   rintro e w' ⟨rfl,rfl⟩
   cases h2:Cj l ⟨#[102,97,105,108,101,100]⟩
   ·have HN:=Aia (NO.out h1 h2)
    go_wp2_with fail
    simp only[St.str]at hO kO
    generalize World.setCell _ _ _=w1 at hO kO ⊢
    obtain⟨x0,x1,x2,xf⟩:=Db (show Cf w1 t d s .ok from hO.out)
    simp only[St.str]at x2
    go_quiet (fail)
    go_wp2_with fail
    go_ret
    exact⟨by rw[HN.out];rfl,by rw[HN.out];exact Fk nq hO.out,Ae.trans kO.out (G1 (· =t) w1 nq)⟩
   ·have HN:=Aia (NF.out h1 h2)
    go_wp2_with fail
    simp only[St.str]at hF kF
    generalize World.setCell _ _ _=w1 at hF kF ⊢
    obtain⟨x0,x1,x2,xf⟩:=Db (show Cf w1 t d s .failed from hF.out)
    simp only[St.str]at x2
    go_quiet (fail)
    go_wp2_with fail
    go_ret
    exact⟨by rw[HN.out];rfl,by rw[HN.out];exact Fk nq hF.out,Ae.trans kF.out (G1 (· =t) w1 nq)⟩
  ·have HN1:=Aia (NE.out h1)
   go_wp2_with fail
   simp only[St.str]at hE kE
   generalize World.setCell _ _ _=w1 at hE kE ⊢
   obtain⟨x0,x1,x2,xf⟩:=Db (show Cf w1 t d s .expired from hE.out)
   simp only[St.str]at x2
   by_cases hd:d<=s
   ·have hc:(St.close d s .expired).2=.stopped:=by simp[St.close,hd]
    have HN:=Aia (HN1.out.trans hc)
    clear hc
    go_quiet (fail)
    have h2:=Fk (st:=.expired) nq hE.out
    have k2:=Ae.trans kE.out (G1 (· =t) w1 nq)
    generalize World.drewN _ _=w2 at h2 k2 ⊢
    have h3:=Aia (h2.status .stopped)
    have k3:=Aia (k2.trans (Ai w2 t 2 (.string St.stopped.str)))
    obtain⟨y0,y1,y2,yf⟩:=Db h2
    clear h2 k2
    simp only[St.str]at y2
    go_wp2_with fail
    go_ret
    exact⟨by rw[HN.out];rfl,by rw[HN.out];exact h3.out,k3.out⟩
   ·have hc:(St.close d s .expired).2=.expired:=by simp[St.close,hd]
    have HN:=Aia (HN1.out.trans hc)
    clear hc
    go_quiet (fail)
    go_wp2_with fail
    go_ret
    exact⟨by rw[HN.out];rfl,by rw[HN.out];exact Fk nq hE.out,Ae.trans kE.out (G1 (· =t) w1 nq)⟩
theorem St.close_fst(d s:Int)(st:St):(St.close d s st).1=s:=by unfold St.close;split<;>rfl
theorem Yw(R:Nat->Prop)(t:Nat)(d s:Int)(st:St)(l:List ByteArray)(v:Value)(w:World)(h:Cf w t d s st)(h0:0<=s)(h1:s<=1000)(hl:Ay R w v 1 (Ad l) l.length):
  Calls Tryz.prog 154 #[.pointer (some ⟨t,0,none⟩),v] w fun e w'=>e=.returned (.string (St.next d s st l).2.str)/\Cf w' t d (St.next d s st l).1 (St.next d s st l).2/\Ae (· =t) w w':=by
 cases hst:st
 ·subst hst
  have:=Qc R t d s .ok l v w h (.inl rfl) hl
  have e:(St.next d s .ok l).1=s:=St.close_fst _ _ _
  rw[e];exact this
 ·subst hst
  have:=Qc R t d s .failed l v w h (.inr rfl) hl
  have e:(St.next d s .failed l).1=s:=St.close_fst _ _ _
  rw[e];exact this
 ·subst hst
  have:=Sc t d s v w h h0 h1
  have e:(St.next d s .expired l).1=s+1:=St.close_fst _ _ _
  rw[e];exact this
 ·subst hst
  exact Sb t d s v w h
theorem M7(R:Nat->Prop)(l:List ByteArray)(v:Value)(x:ByteArray)(w:World)(h:Ay R w v 1 (Ad l) l.length):
  Calls Tryz.prog 81 #[v,.string x] w fun e w'=>e=.returned (.int .i64 (C9 l x))/\w=w':=by
 obtain⟨hl,ao,cap,rfl,h1,h2,h3,h4⟩:=h
 have hsl:Ay R w (.slice ao l.length cap) 1 (Ad l) l.length:=⟨hl,_,_,rfl,h1,h2,h3,h4⟩
 have hn:l.length<=9223372036854775807:=by unfold maxLen at h2;omega
 have H:=Aia hsl
 clear hl h1 h2 h3 h4 hsl
 go_enter func81,ntmps81
 go_wp2_with fail
 go_loop [5] (fun s=>∃k:Nat,k<=l.length/\s=.int .i64 k/\Hid (∀j (hj:j<l.length),j<k->l[j].toList≠x.toList)) (fun s=>l.length-(intOf s).toNat)
 case atStart=>exact⟨0,Nat.zero_le _,rfl,fun j hj h=>by omega⟩
 case round=>
  obtain⟨k,hk,rfl,hall⟩:=hrel
  by_cases hlt:k<l.length
  ·obtain⟨b,off,rfl,hRb,_,hc⟩:=Eh H.out (by omega)
   have q:=hc k hlt
   clear hc
   by_cases hx:x.toList=l[k].toList
   ·have hxb:(l[k].toList==x.toList)=true:=by simp[hx]
    have hI:=Qq hlt hx.symm hall.out
    have HI:=Aia hI
    clear hx hI
    go_wp2_with fail
    go_ret
    exact⟨A6 HI.out.symm,rfl⟩
   ·have hxb:(l[k].toList==x.toList)=false:=by simp;exact fun h=>hx h.symm
    go_wp2_with fail
    go_round
    case rel=>
     refine⟨k+1,by omega,by go_num,fun j hj h=>?_⟩
     by_cases hjk:j=k
     ·subst hjk;exact fun h=>hx h.symm
     ·exact hall.out j hj (by omega)
    case measure=>simp[intOf];omega
  ·have hI:=S8 (l:=l) (x:=x) (fun j hj=>hall.out j hj (by omega))
   have HI:=Aia hI
   clear hI
   go_wp2_with fail
   go_ret
   exact⟨A6 HI.out.symm,rfl⟩
structure Ha where
 g:Lb
 since:Int
 rep:Bool
def Eg(x:Ha):List Value:=Ck x.g++ [.int .i64 x.since,.bool x.rep]
def gs0(g:Lb):Ha:=⟨g,0,false⟩
theorem Tryz.infoGs:(Tryz.prog.info? 251).map (fun i=>(i.zero,i.size,i.bytes))=some (some (.agg #[.int .i64 0,.int .i64 0,.int .i64 0,.int .i64 0,.int .i64 0,.bool false]),6,48):=by kernel_rfl
def Fw(base:Nat)(ro:Option Nat)(w:World)(g:Nat)(L:List Ha)(bad:Bool):Prop:=
 ∃ao cap,w.heap[g]? =some (.cells #[.slice ao L.length cap,.bool bad] 249)/\w.ownsRow base 251 6 (.slice ao L.length cap) L.length (L.flatMap Eg)/\g<base/\(Value.slice ao L.length cap).ownBlock=ro
theorem Fw.lt{base:Nat}{ro:Option Nat}{w:World}{g:Nat}{L:List Ha}{bad:Bool}(h:Fw base ro w g L bad):g<w.heap.size/\g<base/\∀b,ro=some b->base<=b/\b<w.heap.size:=by
 obtain⟨ao,cap,h1,h2,h3,rfl⟩:=h
 exact⟨Aa h1,h3,fun b hb=>h2.lt b hb⟩
theorem Fw.keep{S:Nat->Prop}{base:Nat}{ro:Option Nat}{w w':World}{g:Nat}{L:List Ha}{bad:Bool}(h:Fw base ro w g L bad)(hk:Ae S w w')(hS:∀b,b=g\/ro=some b->¬S b):Fw base ro w' g L bad:=by
 obtain⟨ao,cap,h1,h2,h3,h4⟩:=h
 exact⟨ao,cap,hk.get h1 (hS g (.inl rfl)),Lq h2 hk (fun b hb=>hS b (.inr (h4▸hb))),h3,h4⟩
theorem Ahb(x:Ha):∀u∈Eg x,u.oneCell'=true:=by
 intro u hu
 simp[Eg,Ck]at hu
 rcases hu with rfl|rfl|rfl|rfl|rfl|rfl<;>rfl
theorem Z3{w0 wc W w1:World}{gps:List Lb}{k:Nat}{c0:Value}{o:Option Nat}{a1:Option Addr}{k1:Nat}(hlt:k<gps.length)(hb:Below w0.heap.size w0 wc)
  (hh:wc.heap[w0.heap.size+1]? =some (.cells #[c0,.bool false] 249)) (hW:Ae (fun _=>False) wc W) (hg:W.grownBy w1 o) (ho:∀b,o=some b->w0.heap.size+2<=b)
  (ho1:w1.ownsRow (w0.heap.size+2) 251 6 (.slice a1 (k+1) k1) (k+1) (((gps.take k).map gs0).flatMap Eg++Eg (gs0 gps[k]))):
  Below w0.heap.size w0 (w1.setCell ⟨w0.heap.size+1,0,none⟩ (.slice a1 (k+1) k1))/\∃ro,Fw (w0.heap.size+2) ro (w1.setCell ⟨w0.heap.size+1,0,none⟩ (.slice a1 (k+1) k1)) (w0.heap.size+1) ((gps.take (k+1)).map gs0) false:=by
 have kg:Ae (fun b=>w0.heap.size+2<=b) wc w1:=Ae.step (S:=fun b=>w0.heap.size+2<=b) (hW.mono (fun _ _ h=>h.elim)) (Ae.of_grown hg) (fun b hb' _=>ho b hb'.symm)
 have h1:=kg.get hh (by omega)
 have kk:=Ai w1 (w0.heap.size+1) 0 (.slice a1 (k+1) k1)
 refine⟨(hb.trans (kg.below hb.size (fun b hb'=>by omega))).trans (kk.below (Nat.le_trans hb.size kg.size) (fun b hb'=>by omega)),_,a1,k1,?_,?_,by omega,rfl⟩
 ·rw[Am _ h1]
  have hl:((gps.take (k+1)).map gs0).length=k+1:=by simp;omega
  rw[hl]
  simp
 ·have hl:((gps.take (k+1)).map gs0).length=k+1:=by simp;omega
  have hf:((gps.take (k+1)).map gs0).flatMap Eg=((gps.take k).map gs0).flatMap Eg++Eg (gs0 gps[k]):=by
   rw[List.take_succ_eq_append_getElem hlt,List.map_append,List.flatMap_append,List.map_cons,List.map_nil,List.flatMap_cons,List.flatMap_nil,List.append_nil]
  rw[hl,hf]
  exact Dy ho1 kk (fun b hb' _=>by omega)
theorem qB(R:Nat->Prop)(nm vp ve vf vl:Value)(tol cnt mn mx:Int)(gps:List Lb)(ga:Option Addr)(gc:Nat)(w:World)
  (h:Ay R w (.slice ga gps.length gc) 4 (gps.flatMap Ck) gps.length) (hR:∀b,R b->b<w.heap.size) (hn:gps.length<=100):
  Calls Tryz.prog 90 #[.agg #[nm,.int .i64 tol,vp,.int .i64 cnt,.int .i64 mn,.int .i64 mx,.slice ga gps.length gc,ve,vf,vl]] w fun e w'=>
   e=.returned (.pointer (some ⟨w.heap.size+1,0,none⟩))/\(∃ro,Fw (w.heap.size+2) ro w' (w.heap.size+1) (gps.map gs0) false)/\Below w.heap.size w w':=by
 obtain⟨i0,hi,hz0,hz1,hz2⟩:=info_parts infoGs
 have H:=Aia h;clear h
 go_enter func90,ntmps90
 go_wp2_with fail
 go_loopw [11] (fun s wr=>∃k:Nat,k<=gps.length/\s=.int .i64 k/\Below w.heap.size w wr/\Hid (∃ro,Fw (w.heap.size+2) ro wr (w.heap.size+1) ((gps.take k).map gs0) false)) (fun s _=>gps.length-(intOf s).toNat)
 case atStart=>
  refine⟨0,Nat.zero_le _,rfl,((Below.refl _ _).alloc (Nat.le_refl _) _).alloc (by simp) _,none,none,0,?_,World.ownsRow_nil _ _ _ _,by omega,rfl⟩
  have:=Ab (w.alloc (.cells #[nm,.int .i64 tol,vp,.int .i64 cnt,.int .i64 mn,.int .i64 mx,.slice ga gps.length gc,ve,vf,vl] 50)) (.cells #[.slice none 0 0,.bool false] 249)
  rw[World.size_alloc]at this
  exact this
 case round=>
  obtain⟨k,hk,rfl,hb,hg⟩:=hrel
  by_cases hlt:k<gps.length
  ·obtain⟨gb,goff,rfl,hRb,_,hc⟩:=H.out.elem (f:=Ck) (fun _=>rfl) (by decide) (by omega)
   have q0:=hc k hlt 0 _ rfl
   have q1:=hc k hlt 1 _ rfl
   have q2:=hc k hlt 2 _ rfl
   have q3:=hc k hlt 3 _ rfl
   rw[<-hb.cell (hR gb hRb)]at q0 q1 q2 q3
   rw[Nat.add_zero]at q0
   clear hc
   have hsz:=hg.out.choose_spec.lt.1
   go_upto_region 4 with fail
   go_cut [5] (fun s wx=>∃x,s=.pointer (some ⟨x,0,none⟩)/\wr.heap.size<=x/\Hid (wx.heap[x]? =some (.cells #[.int .i64 gps[k].fr,.int .i64 gps[k].dst,.int .i64 gps[k].mn,.int .i64 gps[k].mx] 126))/\Below w.heap.size w wx/\Hid (∃ro,Fw (w.heap.size+2) ro wx (w.heap.size+1) ((gps.take k).map gs0) false))
   case first=>
    go_wp2_with fail
    go_meet
    exact⟨_,rfl,Nat.le_refl _,Ab _ _,hb.alloc hb.size _,(let ⟨ro,hq⟩:=hg.out;⟨ro,hq.keep ((Ae.refl (fun _=>False) _).alloc _) (fun _ _ h=>h)⟩)⟩
   case rest=>
   obtain⟨x,rfl,hxw,hx,hb',hg'⟩:=hcut
   clear q0 q1 q2 q3 hg hb
   obtain⟨ro,ao,cap,hgh,hgo,_,_⟩:=hg'.out
   have hlen:((gps.take k).map gs0).length=k:=by simp;omega
   rw[hlen]at hgh hgo
   obtain⟨g0,g1,gf⟩:=Au hgh
   have x0:wc.cell? ⟨x,0,none⟩=some (.int .i64 gps[k].fr):=by have:=hx.out;simp[World.cell?,this]
   have x1:wc.cell? ⟨x,1,none⟩=some (.int .i64 gps[k].dst):=by have:=hx.out;simp[World.cell?,this]
   have x2:wc.cell? ⟨x,2,none⟩=some (.int .i64 gps[k].mn):=by have:=hx.out;simp[World.cell?,this]
   have x3:wc.cell? ⟨x,3,none⟩=some (.int .i64 gps[k].mx):=by have:=hx.out;simp[World.cell?,this]
   have hxlt:=Aa hx.out
   have ga0:=rD g0
   have HO:=Aia hgo
   have HH:=Aia hgh
   clear hgo hgh
   go_upto_region 5 with fail
   go_region_law (refine Ht rfl (.tmp 19) (.tmp 22) 247 rfl (w.heap.size+2) 251 i0 _ 6 48 underlying247 hi hz0 hz1 hz2 rfl (by decide) _ k _ rfl (HO.out.alloc _) ⟨wc.heap.size,0,none⟩ 1 1 (Eg (gs0 gps[k])) rfl rfl (by exact Av _ (Eg (gs0 gps[k])) _) (by exact Ahb _) (by unfold maxLen;omega) (by omega) (by simp;omega) ?_;intro a1 k1 w1 ho1 hgr1;have e1:=Abf hgr1 (Cm _ HH.out) (fun e=>by have:=(HO.out.lt _ e).1;omega);obtain⟨d0,d1,df⟩:=Au e1)
   all_goals
    have st:=Z3 hlt hb' HH.out ((Ae.refl (fun _=>False) wc).alloc _).drew hgr1 (fun b hb=>(HO.out.lt _ hb).1) ho1
    have ST:=Aia st
    clear st ho1 hgr1 e1 d0 d1 df ga0 g0 g1 gf x0 x1 x2 x3 HO HH
    go_wp2_with fail
    go_roundw
    case rel=>exact⟨k+1,by omega,by go_num,ST.out.1,ST.out.2⟩
    case measure=>simp[intOf];omega
  ·go_wp2_with fail
   go_ret
   have hkk:k=gps.length:=by omega
   refine⟨rfl,?_,hb⟩
   have:=hg.out
   rw[hkk,List.take_length]at this
   exact this
theorem Vv{α β:Type}(f:α->List β)(sz:Nat)(hf:∀x,(f x).length=sz)(x':α)(j:Nat)(u:β)(hj:j<sz):∀(l:List α) (k:Nat) (hk:k<l.length),(f l[k]).set j u=f x'->(l.flatMap f).set (k*sz+j) u=(l.set k x').flatMap f
 |[],k,hk,_=>by simp at hk
 |x::l,0,_,h=>by
  rw[List.flatMap_cons,List.set_append,if_pos (by rw[hf];omega),List.set_cons_zero,List.flatMap_cons]
  rw[Nat.zero_mul,Nat.zero_add]
  congr 1
 |x::l,k+1,hk,h=>by
  rw[List.flatMap_cons,List.set_append,if_neg (by rw[hf,Nat.add_mul];omega),List.set_cons_succ,List.flatMap_cons,hf]
  rw[show(k+1)*sz+j-sz=k*sz+j from by rw[Nat.add_mul];omega]
  rw[Vv f sz hf x' j u hj l k (by simpa using hk) (by simpa using h)]
def I6(x:Ha)(point tick:Int):Bool:=decide (point=x.g.dst)&&(!x.rep||decide (tick-x.since<x.g.mn)||decide (x.g.mx<tick-x.since))
def Iz(x:Ha)(point tick:Int):Ha:=if point=x.g.fr then { x with since:=tick,rep:=true} else x
def Hd(L:List Ha)(point tick:Int)(k:Nat):List Ha:=(L.take k).map (Iz · point tick)++L.drop k
theorem pY(L:List Ha)(p t:Int):Hd L p t 0=L:=by simp[Hd]
theorem vS(L:List Ha)(p t:Int):Hd L p t L.length=L.map (Iz · p t):=by simp[Hd]
theorem Qj(L:List Ha)(p t:Int)(k:Nat)(hk:k<=L.length):(Hd L p t k).length=L.length:=by simp[Hd];omega
theorem Nj(L:List Ha)(p t:Int)(k:Nat)(hk:k<L.length):(Hd L p t k)[k]'(by rw[Qj L p t k (by omega)];exact hk)=L[k]:=by
 simp only[Hd]
 rw[List.getElem_append_right (by simp;omega)]
 simp[Nat.min_eq_left (Nat.le_of_lt hk)]
theorem Tj(L:List Ha)(p t:Int)(k:Nat)(hk:k<L.length):Hd L p t (k+1)=(Hd L p t k).set k (Iz L[k] p t):=by
 simp only[Hd]
 rw[List.take_succ_eq_append_getElem hk,List.map_append,List.set_append,if_neg (by simp;omega)]
 have hl:(List.map (Iz · p t) (List.take k L)).length=k:=by simp;omega
 rw[hl,Nat.sub_self,List.drop_eq_getElem_cons hk,List.set_cons_zero]
 simp
theorem pZ(L:List Ha)(p t:Int)(k:Nat)(hk:k<L.length)(h:p≠L[k].g.fr):Hd L p t (k+1)=Hd L p t k:=by
 rw[Tj L p t k hk,Iz,if_neg h]
 have:=Nj L p t k hk
 rw[<-this]
 simp
theorem pX{w:World}{base row n cap:Nat}{e:TypeId}{L:List Ha}(h:w.ownsRow base e 6 (.slice (some ⟨row,0,none⟩) n cap) n (L.flatMap Eg))(k:Nat)(hk:k<L.length)(hn:L.length=n):
  w.cell? ⟨row,k*6,none⟩=some (.int .i64 L[k].g.fr)/\w.cell? ⟨row,k*6+1,none⟩=some (.int .i64 L[k].g.dst)/\w.cell? ⟨row,k*6+2,none⟩=some (.int .i64 L[k].g.mn)/\w.cell? ⟨row,k*6+3,none⟩=some (.int .i64 L[k].g.mx)/\
  w.cell? ⟨row,k*6+4,none⟩=some (.int .i64 L[k].since)/\w.cell? ⟨row,k*6+5,none⟩=some (.bool L[k].rep)/\∀o,w.frozen? ⟨row,o,none⟩=false:=by
 have hc:∀j,j<6->w.cell? ⟨row,k*6+j,none⟩=(Eg L[k])[j]? :=fun j hj=>by
  rw[h.cellAt (k*6+j) (by omega)]
  exact O0 Eg 6 (fun _=>rfl) L k hk j hj
 exact⟨hc 0 (by decide),hc 1 (by decide),hc 2 (by decide),hc 3 (by decide),hc 4 (by decide),hc 5 (by decide),fun o=>h.frozenAt o⟩
end Go.Proofs.YtikehilbmldadaaGreatDoor
