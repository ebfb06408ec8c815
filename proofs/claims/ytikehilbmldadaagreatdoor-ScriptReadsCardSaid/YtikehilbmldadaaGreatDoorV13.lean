import Derived.Test.YtikehilbmldadaaGreatDoorV12
import Derived.Test.YtikehilbmldadaaGreatDoorV06
set_option maxHeartbeats 1000000
set_option maxRecDepth 100000
set_option linter.unusedVariables false
open Go.Proofs.Tryz Go.Proofs.YtikehilbmldadaaGreatDoor.Tryz
namespace Go.Proofs.YtikehilbmldadaaGreatDoor
open Go.RowKit
theorem Ts(t:Nat)(d s:Int)(st:St)(w:World)(h:Cf w t d s st):
  Calls Tryz.prog 54 #[.pointer (some ⟨t,0,none⟩)] w fun e w'=>e=.returned (.string st.str)/\w=w':=by
 obtain⟨c0,c1,c2,cf⟩:=Db h
 clear h
 go_enter func54,ntmps54
 go_wp2_with fail
 go_ret
 exact⟨rfl,rfl⟩
structure gM (d s:Int) (st:St):Prop where
 s0:0<=s
 s1:s<=d
 live:st=.ok\/st=.failed->s=0
 exp:st=.expired->s<d
theorem gM.next{d s:Int}{st:St}(h:gM d s st)(l:List ByteArray):gM d (St.next d s st l).1 (St.next d s st l).2:=by
 obtain⟨h0,h1,h2,h3⟩:=h
 have cl:∀x:St,(x=.expired\/s=0)->gM d (St.close d s x).1 (St.close d s x).2:=by
  intro x hx
  unfold St.close
  split
  ·rename_i hc
   exact⟨h0,h1,(by simp),(by simp)⟩
  ·rename_i hc
   refine⟨h0,h1,(fun hx2=>?_),(fun hx2=>?_)⟩
   ·simp only at hx2
    rcases hx with hx|hx
    ·subst hx;rcases hx2 with h|h<;>cases h
    ·exact hx
   ·simp only at hx2
    have:¬d<=s:=fun h=>hc ⟨hx2,h⟩
    show s<d
    omega
 cases st with
 |stopped=>exact⟨h0,h1,(fun h=>by rcases h with h|h<;>cases h),(fun h=>by cases h)⟩
 |expired=>
  have h3':=h3 rfl
  show gM d (St.close d (s+1) .expired).1 (St.close d (s+1) .expired).2
  unfold St.close
  split
  ·exact⟨by show 0<=s+1;omega,by show s+1<=d;omega,(fun h=>by rcases h with h|h<;>cases h),(fun h=>by cases h)⟩
  ·rename_i hc
   have:¬d<=s+1:=fun h=>hc ⟨rfl,h⟩
   exact⟨by show 0<=s+1;omega,by show s+1<=d;omega,(fun h=>by rcases h with h|h<;>cases h),(fun _=>by show s+1<d;omega)⟩
 |ok=>exact cl _ (.inr (h2 (.inl rfl)))
 |failed=>exact cl _ (.inr (h2 (.inr rfl)))
def rP(L:List Ha):Prop:=∀x∈L,0<=x.since/\x.since<=1099511627776
theorem rP.step{L:List Ha}(h:rP L){p t:Int}(h0:0<=t)(h1:t<=1099511627776):rP (L.map (Iz · p t)):=by
 intro x hx
 obtain⟨y,hy,rfl⟩:=List.mem_map.1 hx
 have:=h y hy
 unfold Iz
 split
 ·exact⟨h0,h1⟩
 ·exact this
def Jv(L:List Ha)(p t:Int)(k:Nat):Bool:=(L.take k).any (I6 · p t)
theorem W0(L:List Ha)(p t:Int)(k:Nat)(hk:k<L.length):Jv L p t (k+1)=(Jv L p t k||I6 L[k] p t):=by
 unfold Jv
 rw[List.take_succ_eq_append_getElem hk,List.any_append]
 simp only[List.any_cons,List.any_nil,Bool.or_false]
theorem Zy(L:List Ha)(p t:Int):Jv L p t L.length=L.any (I6 · p t):=by unfold Jv;rw[List.take_length]
theorem qA{x:Ha}{p t:Int}(h:¬p=x.g.dst):I6 x p t=false:=by simp[I6,h]
theorem Abe{x:Ha}{p t:Int}(h:p=x.g.dst)(hr:x.rep=false):I6 x p t=true:=by simp[I6,h,hr]
theorem Aee{x:Ha}{p t:Int}(h:p=x.g.dst)(hr:t-x.since<x.g.mn):I6 x p t=true:=by simp[I6,h,hr]
theorem Aef{x:Ha}{p t:Int}(h:p=x.g.dst)(hr:x.g.mx<t-x.since):I6 x p t=true:=by simp[I6,h,hr]
theorem Aed{x:Ha}{p t:Int}(h:p=x.g.dst)(hr:x.rep=true)(h1:x.g.mn<=t-x.since)(h2:t-x.since<=x.g.mx):I6 x p t=false:=by
 simp only[I6,decide_eq_true h,hr,decide_eq_false (show ¬t-x.since<x.g.mn by omega),decide_eq_false (show ¬x.g.mx<t-x.since by omega)]
 rfl
theorem Wv{w:World}{base:Nat}{e:TypeId}{size:Nat}{v:Value}{n:Nat}{xs:List Value}(q:Nat)(h:w.ownsRow base e size v n xs):(w.drewN q).ownsRow base e size v n xs:=
 Dy h (Dq q (Ae.refl (fun _=>False) w)) (fun _ _ _ h=>h)
theorem Af9{w:World}{base row cap:Nat}{e:TypeId}{L M:List Ha}{p t:Int}{k:Nat}(hk:k<M.length)(hL:k<L.length)(hM:M[k]=L[k]'hL)(hp:p=(L[k]'hL).g.fr)(h:w.ownsRow base e 6 (.slice (some ⟨row,0,none⟩) M.length cap) M.length (M.flatMap Eg)):
  ((w.setCell ⟨row,k*6+4,none⟩ (.int .i64 t)).setCell ⟨row,k*6+5,none⟩ (.bool true)).ownsRow base e 6 (.slice (some ⟨row,0,none⟩) M.length cap) M.length ((M.set k (Iz (L[k]'hL) p t)).flatMap Eg):=by
 have s1:=(h.stored (k*6+4) (.int .i64 t)).1
 rw[Vv Eg 6 (fun _=>rfl) { M[k] with since:=t} 4 _ (by decide) M k hk rfl]at s1
 have s2:=(s1.stored (k*6+5) (.bool true)).1
 rw[Vv Eg 6 (fun _=>rfl) { M[k] with since:=t,rep:=true} 5 _ (by decide) _ k (by simpa using hk) (by simp;rfl)]at s2
 rw[List.set_set]at s2
 rw[Iz,if_pos hp,<-hM]
 exact s2
theorem W3(base:Nat)(ro:Option Nat)(g:Nat)(L:List Ha)(bad:Bool)(point tick:Int)(w:World)(h:Fw base ro w g L bad)(h0:0<=tick)(h1:tick<=1099511627776)(hL:rP L)(hn:L.length<=100):
  Calls Tryz.prog 93 #[.pointer (some ⟨g,0,none⟩),.int .i64 point,.int .i64 tick] w fun e w'=>
   e=.returned (.tuple #[])/\Fw base ro w' g (L.map (Iz · point tick)) (bad||L.any (I6 · point tick))/\Ae (fun b=>b=g\/ro=some b) w w':=by
 obtain⟨ao,cap,hg,ho,hgb,hro⟩:=h
 obtain⟨g0,g1,gf⟩:=Au hg
 have HG:=Aia hg
 have HO:=Aia ho
 clear hg ho
 go_enter func93,ntmps93
 go_wp2_with fail
 clear g0 g1 gf
 go_loopw [19] (fun s wr=>∃k:Nat,k<=L.length/\s=.int .i64 k/\Hid (wr.heap[g]? =some (.cells #[.slice ao L.length cap,.bool (bad||Jv L point tick k)] 249))/\
   Hid (wr.ownsRow base 251 6 (.slice ao L.length cap) L.length ((Hd L point tick k).flatMap Eg))/\Ae (fun b=>b=g\/ro=some b) w wr) (fun s _=>L.length-(intOf s).toNat)
 case atStart=>exact⟨0,Nat.zero_le _,rfl,by simpa [Jv] using HG,by rw[pY];exact HO,Ae.refl _ _⟩
 case round=>
  obtain⟨k,hk,rfl,hg,ho,hkp⟩:=hrel
  clear HG HO
  by_cases hlt:k<L.length
  ·obtain⟨row,rfl⟩:∃row,ao=some ⟨row,0,none⟩:=by
    rcases ho.out.2 with⟨hv,hn0⟩|⟨q,c,cur,hv,_⟩
    ·omega
    ·simp at hv;exact⟨q,hv.1⟩
   have hrg:base<=row:=(ho.out.lt row rfl).1
   obtain⟨g0,g1,gf⟩:=Au hg.out
   have hl:=Qj L point tick k hk
   obtain⟨c0,c1,c2,c3,c4,c5,cf⟩:=pX ho.out k (by omega) hl
   rw[Nj L point tick k hlt]at c0 c1 c2 c3 c4 c5
   have hsk:=hL L[k] (List.getElem_mem _)
   have HG:=Aia hg.out
   have HO:=Aia ho.out
   clear hg ho
   go_upto_region 5 with fail
   go_cut [69] (fun s wx=>s=.bool (I6 L[k] point tick)/\∃q,wr.drewN q=wx)
   case first=>
    by_cases hp:point=L[k].g.dst
    ·have hpb:(point==L[k].g.dst)=true:=beq_iff_eq.2 hp
     have HP:=Aia hp
     clear hp
     cases hrep:L[k].rep
     ·rw[hrep]at c5
      go_quiet (fail)
      go_wp2_with fail
      go_meet
      exact⟨De (Abe HP.out hrep).symm,_,rfl⟩
     ·rw[hrep]at c5
      by_cases hm:tick-L[k].since<L[k].g.mn
      ·go_quiet (fail)
       go_wp2_with fail
       go_meet
       exact⟨De (Aee HP.out hm).symm,_,rfl⟩
      ·by_cases hx:L[k].g.mx<tick-L[k].since
       ·go_quiet (fail)
        go_wp2_with fail
        go_meet
        exact⟨De (Aef HP.out hx).symm,_,rfl⟩
       ·go_quiet (fail)
        go_wp2_with fail
        go_meet
        exact⟨De (Aed HP.out hrep (by omega) (by omega)).symm,_,rfl⟩
    ·have hpb:(point==L[k].g.dst)=false:=by simp[hp]
     go_quiet (fail)
     go_wp2_with fail
     go_meet
     exact⟨De (qA hp).symm,_,rfl⟩
   case rest=>
   obtain⟨rfl,q,rfl⟩:=hcut
   clear g0 g1 gf c0 c1 c2 c3 c4 c5 cf
   replace HG:=Aia (Sq q HG.out)
   replace HO:=Aia (Wv q HO.out)
   replace hkp:=Dq q hkp
   generalize wr.drewN q=w2 at HG HO hkp ⊢
   go_upto_if 69 with fail
   go_cut [] (fun wx=>Hid (wx.heap[g]? =some (.cells #[.slice (some ⟨row,0,none⟩) L.length cap,.bool (bad||Jv L point tick (k+1))] 249))/\
    Hid (wx.ownsRow base 251 6 (.slice (some ⟨row,0,none⟩) L.length cap) L.length ((Hd L point tick k).flatMap Eg))/\Ae (fun b=>b=g\/ro=some b) w wx)
   case first=>
    have hsu:=W0 L point tick k hlt
    cases hgb:I6 L[k] point tick
    ·rw[hgb,Bool.or_false]at hsu
     rw[<-hsu]at HG
     clear hsu
     go_wp2_with fail
     go_meet
     exact⟨HG,HO,hkp⟩
    ·rw[hgb,Bool.or_true]at hsu
     obtain⟨g0,g1,gf⟩:=Au HG.out
     have n1:=Am (o:=1) (.bool true) HG.out
     have n2:=Ai w2 g 1 (.bool true)
     have HN1:=Aia n1
     have HN2:=Aia n2
     have HSU:=Aia hsu
     clear n1 n2 hsu
     go_wp2_with fail
     go_meet
     refine⟨?_,Lq HO.out HN2.out (fun b hb hb'=>by have:=(HO.out.lt b hb).1;omega),hkp.step HN2.out (fun b hb _=>.inl hb)⟩
     rw[HSU.out,Bool.or_true]
     exact HN1.out
   case rest=>
   clear HG HO hkp
   obtain⟨HG,HO,hkp⟩:=hcut
   obtain⟨c0,c1,c2,c3,c4,c5,cf⟩:=pX HO.out k (by omega) hl
   rw[Nj L point tick k hlt]at c0 c4 c5
   by_cases hp:point=L[k].g.fr
   ·have hpb:(point==L[k].g.fr)=true:=beq_iff_eq.2 hp
    have HP:=Aia hp
    clear hp
    go_wp2_with fail
    go_roundw
    case rel=>
     have k1:=Ai wc row (k*6+4) (.int .i64 tick)
     have k2:=Gi k1 (k*6+5) (.bool true)
     refine⟨k+1,by omega,by go_num,k2.get HG.out (by omega),?_,hkp.step k2 (fun b hb _=>.inr (by rw[hb,<-hro];rfl))⟩
     have hs:=Af9 (t:=tick) (M:=Hd L point tick k) (L:=L) (p:=point) (k:=k) (by omega) hlt (Nj L point tick k hlt) HP.out (by rw[hl];exact HO.out)
     rw[hl,<-Tj L point tick k hlt]at hs
     exact hs
    case measure=>simp[intOf];omega
   ·have hpb:(point==L[k].g.fr)=false:=by simp[hp]
    go_wp2_with fail
    go_roundw
    case rel=>exact⟨k+1,by omega,by go_num,HG,by rw[pZ L point tick k hlt hp];exact HO,hkp⟩
    case measure=>simp[intOf];omega
  ·have hkk:k=L.length:=by omega
   subst hkk
   go_wp2_with fail
   go_end0
   refine⟨rfl,⟨ao,cap,?_,?_,hgb,(by rw[<-hro];cases ao<;>rfl)⟩,hkp⟩
   ·have:=hg.out
    rw[Zy]at this
    rw[List.length_map];exact this
   ·have:=ho.out
    rw[vS]at this
    rw[List.length_map];exact this
theorem Vq(base:Nat)(ro:Option Nat)(g:Nat)(L:List Ha)(bad:Bool)(point tick:Int)(w:World)(h:Fw base ro w g L bad)(h0:0<=tick)(h1:tick<=1099511627776)(hL:rP L)(hn:L.length<=100):
  Calls Tryz.prog 93 #[.pointer (some ⟨g,0,none⟩),.int .i64 point,.int .i64 tick] w fun e w'=>
   e=.returned (.tuple #[])/\Fw base ro w' g (L.map (Iz · point tick)) (bad||L.any (I6 · point tick))/\Ae (fun b=>b=g\/ro=some b) w w'/\rP (L.map (Iz · point tick))/\(L.map (Iz · point tick)).length<=100:=
 (W3 base ro g L bad point tick w h h0 h1 hL hn).mono fun _ _ ⟨a,b,c⟩=>⟨a,b,c,hL.step h0 h1,by rw[List.length_map];exact hn⟩
theorem qC(base:Nat)(ro:Option Nat)(g:Nat)(L:List Ha)(bad:Bool)(w:World)(h:Fw base ro w g L bad):
  Calls Tryz.prog 237 #[.pointer (some ⟨g,0,none⟩)] w fun e w'=>e=.returned (.bool (!bad))/\Fw base ro w' g L false/\Ae (fun b=>b=g\/ro=some b) w w':=by
 obtain⟨ao,cap,hg,ho,hgb,hro⟩:=h
 obtain⟨g0,g1,gf⟩:=Au hg
 have n1:=Am (o:=1) (.bool false) hg
 have n2:=Ai w g 1 (.bool false)
 have fin:Fw base ro (w.setCell ⟨g,1,none⟩ (.bool false)) g L false/\Ae (fun b=>b=g\/ro=some b) w (w.setCell ⟨g,1,none⟩ (.bool false)):=
  ⟨⟨ao,cap,n1,Lq ho n2 (fun b hb hb'=>by have:=(ho.lt b hb).1;omega),hgb,hro⟩,n2.mono (fun b _ hb=>.inl hb)⟩
 have FIN:=Aia fin
 clear fin n1 n2 hg ho
 go_enter func237,ntmps237
 go_wp2_with fail
 go_ret
 exact⟨by cases bad<;>rfl,FIN.out⟩
structure D3 where
 closed:Int
 opn:Int
 now:Int
 last:Int
 reset:Bool
 kicks:Int
structure Mw (m:D3):Prop where
 c0:0<=m.closed
 c1:m.closed<=1000
 o0:1<=m.opn
 o1:m.opn<=1000
 l0:0<=m.last
 ln:m.last<=m.now
 n1:m.now<=1099511627776
 k0:0<=m.kicks
 k1:m.kicks<=1000000
def Gv(m:D3):Bool:=!m.reset&&decide (m.closed<m.now-m.last)
def Eo(m:D3):Nat:=if m.reset=true then 11 else if 1099511627776<=m.now then 2 else 0
def Dm(m:D3):D3:=if m.reset=true then m else if 1099511627776<=m.now then m else { m with now:=m.now+1,reset:=decide (m.closed+m.opn<m.now+1-m.last)}
def O7(m:D3):Nat:=if Gv m=true then 0 else 11
def Hu(m:D3):D3:=if Gv m=true then { m with last:=m.now,kicks:=m.kicks+1} else { m with reset:=true}
def Ru(m:D3):D3:={ m with reset:=false,last:=m.now}
theorem qR{m:D3}(h:Gv m=false):O7 m=11:=by simp[O7,h]
theorem Rv{m:D3}(h:Gv m=true):O7 m=0:=by simp[O7,h]
theorem wL{m:D3}(h:Gv m=false):Hu m= { m with reset:=true}:=by simp[Hu,h]
theorem Li{m:D3}(h:Gv m=true):Hu m= { m with last:=m.now,kicks:=m.kicks+1}:=by simp[Hu,h]
theorem wJ{m:D3}(h:Mw m):Mw (Dm m):=by
 unfold Dm
 split
 ·exact h
 ·split
  ·exact h
  ·have:=h.ln;have:=h.n1
   exact⟨h.c0,h.c1,h.o0,h.o1,h.l0,by show m.last<=m.now+1;omega,by show m.now+1<=_;omega,h.k0,h.k1⟩
theorem wK{m:D3}(h:Mw m)(hk:m.kicks+1<=1000000):Mw (Hu m):=by
 unfold Hu
 have:=h.l0;have:=h.ln;have:=h.k0
 split
 ·exact⟨h.c0,h.c1,h.o0,h.o1,by show 0<=m.now;omega,Int.le_refl _,h.n1,by show 0<=m.kicks+1;omega,hk⟩
 ·exact⟨h.c0,h.c1,h.o0,h.o1,h.l0,h.ln,h.n1,h.k0,h.k1⟩
theorem qP{m:D3}(h:Mw m):Mw (Ru m):=by
 have:=h.l0;have:=h.ln
 exact⟨h.c0,h.c1,h.o0,h.o1,by show 0<=m.now;omega,Int.le_refl _,h.n1,h.k0,h.k1⟩
def qT(m:D3):Obj:=.cells #[.int .i64 m.closed,.int .i64 m.opn,.int .i64 m.now,.int .i64 m.last,.bool m.reset,.int .i64 m.kicks] 116
def C7(w:World)(d:Nat)(m:D3):Prop:=w.heap[d]? =some (qT m)
theorem Ie{w:World}{d:Nat}{m:D3}(h:C7 w d m):
  w.cell? ⟨d,0,none⟩=some (.int .i64 m.closed)/\w.cell? ⟨d,1,none⟩=some (.int .i64 m.opn)/\w.cell? ⟨d,2,none⟩=some (.int .i64 m.now)/\w.cell? ⟨d,3,none⟩=some (.int .i64 m.last)/\w.cell? ⟨d,4,none⟩=some (.bool m.reset)/\w.cell? ⟨d,5,none⟩=some (.int .i64 m.kicks)/\∀o,w.frozen? ⟨d,o,none⟩=false:=by
 unfold C7 qT at h
 simp[World.cell?,World.frozen?,h]
theorem C7.keep{S:Nat->Prop}{w w':World}{d:Nat}{m:D3}(h:C7 w d m)(k:Ae S w w')(hS:¬S d):C7 w' d m:=k.get h hS
theorem C7.set2{w:World}{d:Nat}{m:D3}(h:C7 w d m)(x:Int):C7 (w.setCell ⟨d,2,none⟩ (.int .i64 x)) d { m with now:=x}:=by
 unfold C7 qT at h ⊢
 rw[Am _ h];rfl
theorem C7.set3{w:World}{d:Nat}{m:D3}(h:C7 w d m)(x:Int):C7 (w.setCell ⟨d,3,none⟩ (.int .i64 x)) d { m with last:=x}:=by
 unfold C7 qT at h ⊢
 rw[Am _ h];rfl
theorem C7.set4{w:World}{d:Nat}{m:D3}(h:C7 w d m)(x:Bool):C7 (w.setCell ⟨d,4,none⟩ (.bool x)) d { m with reset:=x}:=by
 unfold C7 qT at h ⊢
 rw[Am _ h];rfl
theorem C7.set5{w:World}{d:Nat}{m:D3}(h:C7 w d m)(x:Int):C7 (w.setCell ⟨d,5,none⟩ (.int .i64 x)) d { m with kicks:=x}:=by
 unfold C7 qT at h ⊢
 rw[Am _ h];rfl
theorem Q2(S:Nat->Prop)(w:World)(q:Nat):Ae S w (w.drewN q):=(Ak (Ag q (Below.refl w.heap.size w))).mono (fun _ _ h=>h.elim)
theorem Abu(c o:Int)(w:World)(h0:0<=c)(h1:c<=1000)(h2:1<=o)(h3:o<=1000):
  Calls Tryz.prog 74 #[.int .i64 c,.int .i64 o] w fun e w'=>e=.returned (.tuple #[.pointer (some ⟨w.heap.size,0,none⟩),.nilIface])/\C7 w' w.heap.size ⟨c,o,0,0,false,0⟩/\Below w.heap.size w w':=by
 have n1:=Aia (Ab w (qT ⟨c,o,0,0,false,0⟩))
 have b1:=Aia ((Below.refl w.heap.size w).alloc (Nat.le_refl _) (qT ⟨c,o,0,0,false,0⟩))
 go_enter func74,ntmps74
 go_wp2_with fail
 refine bodyPost_ret (results_tmp2 rfl _ _ _) rfl ?_
 exact⟨rfl,n1.out,b1.out⟩
theorem Tm(d:Nat)(m:D3)(w:World)(h:C7 w d m)(ok:Mw m):
  Calls Tryz.prog 156 #[.pointer (some ⟨d,0,none⟩)] w fun e w'=>e=.returned (.bool (Gv m))/\Ae (fun _=>False) w w':=by
 obtain⟨c0,c1,c2,c3,c4,c5,cf⟩:=Ie h
 obtain⟨o1,o2,o3,o4,o5,o6,o7,o8,o9⟩:=ok
 have hw:=IntWalk.i64_in (m.now-m.last) (by omega)
 unfold Gv
 clear h
 cases hr:m.reset
 ·rw[hr]at c4
  by_cases ho:m.closed<m.now-m.last
  ·go_enter func156,ntmps156
   go_wp2_with fail
   go_quiet (fail)
   go_wp2_with fail
   go_ret
   exact⟨Ah (by simp[ho]),Q2 _ _ _⟩
  ·go_enter func156,ntmps156
   go_wp2_with fail
   go_quiet (fail)
   go_wp2_with fail
   go_ret
   exact⟨Ah (by simp),Q2 _ _ _⟩
 ·rw[hr]at c4
  go_enter func156,ntmps156
  go_wp2_with fail
  go_quiet (fail)
  go_wp2_with fail
  go_ret
  exact⟨Ah (by simp),Q2 _ _ _⟩
theorem qN(B:Nat)(sa:Nat->Addr)(d:Nat)(m:D3)(w:World)(h:C7 w d m)(ok:Mw m)(hS:Eb B sa w):
  Calls Tryz.prog 84 #[.pointer (some ⟨d,0,none⟩)] w fun e w'=>e=.returned (errv sa (Eo m))/\C7 w' d (Dm m)/\Ae (· =d) w w':=by
 obtain⟨c0,c1,c2,c3,c4,c5,cf⟩:=Ie h
 obtain⟨g0,g1,g2,g3,g4,g5,g6,g7,g8,g9,g10⟩:=hS.all
 obtain⟨o1,o2,o3,o4,o5,o6,o7,o8,o9⟩:=ok
 have H:=Aia h
 clear h hS g0 g2 g3 g4 g5 g6 g7 g8 g9
 unfold Eo Dm
 cases hr:m.reset
 ·rw[hr]at c4
  by_cases hn:1099511627776<=m.now
  ·rw[if_neg (by decide),if_pos hn,if_neg (by decide),if_pos hn]
   go_enter func84,ntmps84
   go_wp2_with fail
   go_ret
   exact⟨rfl,H.out,Ae.refl _ _⟩
  ·rw[if_neg (by decide),if_neg hn,if_neg (by decide),if_neg hn]
   have h1:=H.out.set2 (m.now+1)
   have k1:=Ai w d 2 (.int .i64 (m.now+1))
   have H1:=Aia h1
   have K1:=Aia k1
   clear h1 k1 H
   have hw1:=IntWalk.i64_in (m.now+1-m.last) (by omega)
   have hw2:=IntWalk.i64_in (m.closed+m.opn) (by omega)
   go_enter func84,ntmps84
   go_wp2_with fail
   generalize World.setCell _ _ _=w1 at H1 K1 ⊢
   obtain⟨x0,x1,x2,x3,x4,x5,xf⟩:=Ie H1.out
   clear c0 c1 c2 c3 c4 c5 cf
   simp only at x0 x1 x2 x3 x4 x5
   go_region
   all_goals
    go_wp2_with fail
    go_ret
    exact⟨rfl,H1.out.set4 _,(K1.out.trans (Ai w1 d 4 _)).drew⟩
 ·rw[hr]at c4
  rw[if_pos rfl,if_pos rfl]
  go_enter func84,ntmps84
  go_wp2_with fail
  go_ret
  exact⟨rfl,H.out,Ae.refl _ _⟩
theorem qQ(B:Nat)(sa:Nat->Addr)(d:Nat)(m:D3)(w:World)(h:C7 w d m)(ok:Mw m)(hS:Eb B sa w)(hd:B<=d):
  Calls Tryz.prog 157 #[.pointer (some ⟨d,0,none⟩)] w fun e w'=>e=.returned (errv sa (O7 m))/\C7 w' d (Hu m)/\Ae (· =d) w w':=by
 have H:=Aia h
 have HS:=Aia hS
 have OK:=Aia ok
 have ok0:=ok.k0
 have ok1:=ok.k1
 clear h hS ok
 go_enter func157,ntmps157
 go_wp2_with fail
 refine(Tm d m w H.out OK.out).mono ?_
 rintro e w1 ⟨rfl,k1⟩
 have h1:=H.out.keep k1 (fun h=>h)
 have s1:=HS.out.keep k1 (fun _ h=>h.elim)
 obtain⟨c0,c1,c2,c3,c4,c5,cf⟩:=Ie h1
 obtain⟨g0,g1,g2,g3,g4,g5,g6,g7,g8,g9,g10⟩:=s1.all
 have hlt:=HS.out.nb 10 (by decide)
 have q1:=Aia (h1.set4 true)
 have q2:=Aia ((h1.set3 m.now).set5 (m.kicks+1))
 have K1:Hid (Ae (· =d) w w1):=k1.mono (fun _ _ h=>h.elim)
 have gk:(w1.setCell ⟨d,4,none⟩ (.bool true)).cell? ⟨10,0,none⟩=some (.iface 372 (.pointer (some (sa 10)))):=by
  rw[(Ai w1 d 4 (.bool true)).cell (p:=⟨10,0,none⟩) (World.block_lt_of_cell? _ ⟨10,0,none⟩ g10) (fun hb=>by have:10=d:=hb;have:10<B:=hlt;omega)]
  exact g10
 clear h1 s1 g0 g1 g2 g3 g4 g5 g6 g7 g8 g9 k1 H HS OK
 cases ho:Gv m
 ·go_wp2_with fail
  go_ret
  rw[qR ho,wL ho]
  exact⟨rfl,q1.out,K1.out.trans (Ai w1 d 4 _)⟩
 ·go_wp2_with fail
  go_ret
  rw[Rv ho,Li ho]
  exact⟨rfl,q2.out,(K1.out.trans (Ai w1 d 3 _)).trans (Ai _ d 5 _)⟩
theorem Kg(d:Nat)(m:D3)(w:World)(h:C7 w d m):Calls Tryz.prog 53 #[.pointer (some ⟨d,0,none⟩)] w fun e w'=>e=.returned (.bool m.reset)/\w=w':=by
 obtain⟨c0,c1,c2,c3,c4,c5,cf⟩:=Ie h
 clear h
 go_enter func53,ntmps53
 go_wp2_with fail
 go_ret
 exact⟨rfl,rfl⟩
theorem Nt(d:Nat)(m:D3)(w:World)(h:C7 w d m):Calls Tryz.prog 26 #[.pointer (some ⟨d,0,none⟩)] w fun e w'=>e=.returned (.int .i64 m.now)/\w=w':=by
 obtain⟨c0,c1,c2,c3,c4,c5,cf⟩:=Ie h
 clear h
 go_enter func26,ntmps26
 go_wp2_with fail
 go_ret
 exact⟨rfl,rfl⟩
theorem gA(d:Nat)(m:D3)(w:World)(h:C7 w d m):Calls Tryz.prog 27 #[.pointer (some ⟨d,0,none⟩)] w fun e w'=>e=.returned (.int .i64 m.kicks)/\w=w':=by
 obtain⟨c0,c1,c2,c3,c4,c5,cf⟩:=Ie h
 clear h
 go_enter func27,ntmps27
 go_wp2_with fail
 go_ret
 exact⟨rfl,rfl⟩
theorem Z9(d:Nat)(m:D3)(w:World)(h:C7 w d m):Calls Tryz.prog 188 #[.pointer (some ⟨d,0,none⟩)] w fun e w'=>e=.returned (.tuple #[])/\C7 w' d (Ru m)/\Ae (· =d) w w':=by
 obtain⟨c0,c1,c2,c3,c4,c5,cf⟩:=Ie h
 have H:=Aia h
 clear h
 unfold Ru
 go_enter func188,ntmps188
 go_wp2_with fail
 first|(go_end0;exact⟨rfl,(H.out.set4 false).set3 m.now,(Ai w d 4 _).trans (Ai _ d 3 _)⟩)|(go_region;all_goals(go_end0;first|exact⟨rfl,(H.out.set4 false).set3 m.now,(Ai w d 4 _).trans (Ai _ d 3 _)⟩|exact⟨rfl,(H.out.set3 m.now).set4 false,(Ai w d 3 _).trans (Ai _ d 4 _)⟩))
end Go.Proofs.YtikehilbmldadaaGreatDoor
