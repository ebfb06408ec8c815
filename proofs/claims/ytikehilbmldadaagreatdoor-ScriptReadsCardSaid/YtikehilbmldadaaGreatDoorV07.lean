import Derived.Test.YtikehilbmldadaaGreatDoorV05
import Derived.Test.YtikehilbmldadaaGreatDoorV06
set_option maxHeartbeats 4000000
set_option maxRecDepth 100000
set_option linter.unusedVariables false
open Go.Proofs.Tryz Go.Proofs.YtikehilbmldadaaGreatDoor.Tryz
namespace Go.Proofs.YtikehilbmldadaaGreatDoor
section
open Go.RowKit
theorem Kj.write{m:CM}{k:Int}(h:Kj m k)(a:Nat)(l:List UInt8):Kj (Ce m a l) (k+l.length):=by
 have hn:=H9 m.cut l.length
 have h0:=h.c0
 have h1:=h.c1
 have h2:=h.w0
 have h3:=h.w1
 refine⟨qW h0,?_,?_,?_⟩
 ·show Fp m.cut (Bt m.cut l.length)<=_
  unfold Fp;split<;>omega
 ·show 0<=m.wr+(Bt m.cut l.length:Int);omega
 ·show m.wr+(Bt m.cut l.length:Int)<=_;omega
def Gy(c:Nat)(lv:Value)(dead:Bool):Obj:=.cells #[.pointer (some ⟨c,0,none⟩),lv,.bool dead] 193
theorem Fo{w:World}{rg c:Nat}{lv:Value}{dead:Bool}(h:w.heap[rg]? =some (Gy c lv dead)):
  w.cell? ⟨rg,0,none⟩=some (.pointer (some ⟨c,0,none⟩))/\w.cell? ⟨rg,1,none⟩=some lv/\w.cell? ⟨rg,2,none⟩=some (.bool dead)/\∀o,w.frozen? ⟨rg,o,none⟩=false:=by
 unfold Gy at h
 simp[World.cell?,World.frozen?,h]
theorem Nn(sa:Nat->Addr)(k:Nat):errv sa (k+1)=.iface 372 (.pointer (some (sa k))):=rfl
theorem Ds(sa:Nat->Addr):errv sa 0=.nilIface:=rfl
structure WrK (B:Nat) (sa:Nat->Addr) (w0:World) (rg c rb cap:Nat) (lv:Value) (dead:Bool) (x:Ar) (xb:Nat) (m:CM) (w:World):Prop where
 ring:w.heap[rg]? =some (Gy c lv dead)
 mem:A1 w c rb (some ⟨rb,0,none⟩) cap m
 se:Ey B sa w
 rc:w.heap[xb]? =some (Fq x)
 kp:Ae (fun b=>b=c\/b=rb) w0 w
theorem WrK.step{B:Nat}{sa:Nat->Addr}{w0:World}{rg c rb cap:Nat}{lv:Value}{dead:Bool}{x:Ar}{xb:Nat}{m m':CM}{w w':World}(h:WrK B sa w0 rg c rb cap lv dead x xb m w)(hne:rg≠c/\rg≠rb/\xb≠c/\xb≠rb)(hB:B<=c/\B<=rb)
  (k:Ae (fun b=>b=c\/b=rb) w w') (h':A1 w' c rb (some ⟨rb,0,none⟩) cap m'):WrK B sa w0 rg c rb cap lv dead x xb m' w':=
 ⟨k.get h.ring (by rintro(e|e);exact hne.1 e;exact hne.2.1 e),h',h.se.keep k (fun b hb=>by rcases hb with rfl|rfl;exact hB.1;exact hB.2),k.get h.rc (by rintro(e|e);exact hne.2.2.1 e;exact hne.2.2.2 e),h.kp.trans k⟩
theorem WrK.below{B:Nat}{sa:Nat->Addr}{w0:World}{rg c rb cap:Nat}{lv:Value}{dead:Bool}{x:Ar}{xb:Nat}{m:CM}{w w':World}(h:WrK B sa w0 rg c rb cap lv dead x xb m w)(b:Below w.heap.size w w'):WrK B sa w0 rg c rb cap lv dead x xb m w':=
 ⟨Af b h.ring (Aa h.ring),h.mem.keep (Ak b) (fun _ h=>h.elim),h.se.below b,Af b h.rc (Aa h.rc),h.kp.trans ((Ak b).mono (fun _ _ h=>h.elim))⟩
theorem Xc{B:Nat}{sa:Nat->Addr}{w0:World}{rg c rb cap:Nat}{lv:Value}{dead:Bool}{x:Ar}{xb:Nat}{m:CM}{w:World}(h:WrK B sa w0 rg c rb cap lv dead x xb m w):
  w.cell? ⟨rg,0,none⟩=some (.pointer (some ⟨c,0,none⟩))/\w.cell? ⟨xb,0,none⟩=some (.int .i64 x.seq)/\w.cell? ⟨xb,1,none⟩=some (.int .i64 x.ent)/\w.cell? ⟨xb,2,none⟩=some (.int .i64 x.kind)/\w.cell? ⟨xb,3,none⟩=some (.int .i64 x.tick):=
 ⟨(Fo h.ring).1,Bn h.rc⟩
theorem rA(B:Nat)(sa:Nat->Addr)(c rb cap:Nat)(m:CM)(a:Nat)(w:World)(h:A1 w c rb (some ⟨rb,0,none⟩) cap m)(hS:Ey B sa w)(ho:m.off=false)(hn:a+1<=m.bs.length):
  Calls Tryz.prog 182 #[.pointer (some ⟨c,0,none⟩),.int .i64 a,.int .i64 1] w fun e w'=>e=.returned (.tuple #[.string (Co ((m.bs.drop a).take 1)),.nilIface])/\w=w':=O9 B sa c rb _ cap m a 1 w h hS ho hn
theorem pE{off:Bool}{len:Nat}{a n:Int}(h:Js off len a n=0):off=false/\0<=a/\0<=n/\a+n<=len:=by
 unfold Js at h
 split at h
 ·cases h
 ·split at h
  ·cases h
  ·rename_i h1 h2
   exact⟨by simpa using h2,by omega,by omega,by omega⟩
theorem Wq(B:Nat)(sa:Nat->Addr)(rg c rb cap:Nat)(lv:Value)(dead:Bool)(m:CM)(x:Ar)(k:Int)(w:World)(hr:w.heap[rg]? =some (Gy c lv dead))(hm:A1 w c rb (some ⟨rb,0,none⟩) cap m)(hS:Ey B sa w)
  (hne:rg≠c/\rg≠rb) (hB:B<=c/\B<=rb) (hx:J8 x) (hk:Kj m k) (hk2:k<=900000000) (hl:153<=m.bs.length):
  Calls Tryz.prog 198 #[.pointer (some ⟨rg,0,none⟩),A3 x] w fun e w'=>e=.returned (errv sa (Bc m x).1)/\A1 w' c rb (some ⟨rb,0,none⟩) cap (Bc m x).2/\Ae (fun b=>b=c\/b=rb) w w':=by
 have hrl:=Aa hr
 have hcl:=Aa hm.box
 have hbl:rb<w.heap.size:=by
  obtain⟨C,t,h,_⟩:=hm.row rfl
  exact Aa h
 have K0:WrK B sa w rg c rb cap lv dead x w.heap.size m (w.alloc (Fq x)):=
  ⟨Cm _ hr,hm.keep (Ak ((Below.refl _ _).alloc (Nat.le_refl _) _)) (fun _ h=>h.elim),hS.below ((Below.refl _ _).alloc (Nat.le_refl _) _),Ab _ _,(Ae.refl _ _).alloc _⟩
 have hne4:rg≠c/\rg≠rb/\w.heap.size≠c/\w.heap.size≠rb:=⟨hne.1,hne.2,by omega,by omega⟩
 obtain⟨a,ha⟩:∃a,a=Ee x:=⟨_,rfl⟩
 have ha2:a<=136:=by rw[ha];unfold Ee;omega
 have hA:((x.seq:Int)-1)%9*17=(a:Int):=by
  have:=hx.s1
  rw[ha];unfold Ee
  omega
 have hx1:(1:Int)<=x.seq:=by have:=hx.s1;omega
 have hx2:(x.seq:Int)<4294967296:=by have:=hx.s2;omega
 obtain⟨ee,hee⟩:∃ee,ee=a+16:=⟨_,rfl⟩
 have hAE:(a:Int)+17-1=(ee:Int):=by omega
 have hee2:ee<=152:=by omega
 have HP:=Aia (show Bc m x=if Js m.off m.bs.length (ee:Int) 1=0 then (if m.bs.getD ee 0=0 then Bc.put2 m x else if C8 m.cut 1=0 then Bc.put2 (Ce m ee [0]) x else (C8 m.cut 1,Ce m ee [0])) else (Js m.off m.bs.length (ee:Int) 1,m)from by
  rw[hee,ha];rfl)
 have HP2:=Aia (show ∀m,Bc.put2 m x=if C8 m.cut 16=0 then (C8 (Ce m a (Bd x)).cut 1,Ce (Ce m a (Bd x)) ee [165]) else (C8 m.cut 16,Ce m a (Bd x))from fun m=>by
  rw[hee,ha];rfl)
 have HK:=Aia K0
 have HA:=Aia ha
 have HX:=Aia hx
 have HM:=Aia hk
 unfold Fq at HK
 clear K0 hr hm hS hne ha hx hee
 unfold A3
 obtain⟨p,hp⟩:∃p,p=Bc m x:=⟨_,rfl⟩
 rw[<-hp]at HP ⊢
 have HPP:=Aia hp
 clear hp
 go_enter func198,ntmps198
 go_upto_region 1 with fail
 generalize w.alloc _=w1 at HK ⊢
 obtain⟨r0,r1,r2,rf⟩:=Fo HK.out.ring
 obtain⟨x0,x1,x2,x3⟩:=Bn HK.out.rc
 clear r1 r2 x1 x2 x3
 by_cases hE:Js m.off m.bs.length (ee:Int) 1=0
 ·obtain⟨hof,_,_,hln⟩:=pE hE
  rw[if_pos hE]at HP
  have hget:(m.bs.drop ee).take 1= [m.bs.getD ee 0]:=by
   rw[List.getD_eq_getElem?_getD,List.getElem?_eq_getElem (show ee<m.bs.length by omega)]
   rw[List.take_one,List.head?_drop,List.getElem?_eq_getElem (show ee<m.bs.length by omega)]
   rfl
  obtain⟨z,hz⟩:∃z,z=m.bs.getD ee 0:=⟨_,rfl⟩
  rw[<-hz]at hget HP
  have hzl:(Co [z]).toList= [z]:=by rw[ByteArray.toList_eq];rfl
  have HOF:=Aia hof
  have hw1:=hk.w1
  have HG:=Aia hget
  have HZL:=Aia hzl
  have HKM:=Aia hk
  have HWG:Hid (∀(a':Nat) (s:ByteArray) (m':CM) (k':Int) (W:World),m'.off=false->m'.bs.length=m.bs.length->a'+s.size<=153->Kj m' k'->k'<=1000000000->WrK B sa w rg c rb cap lv dead x w.heap.size m' W->
    Calls Tryz.prog 239 #[.pointer (some ⟨c,0,none⟩),.int .i64 a',.string s] W fun e w'=>e=.returned (errv sa (C8 m'.cut s.size))/\WrK B sa w rg c rb cap lv dead x w.heap.size (Ce m' a' s.data.toList) w'):=(show _ from by
   intro a' s m' k' W ho' hl' hs' hok hk' hW
   have h1:=hok.w1
   refine(T1 B sa c rb cap m' a' s W hW.mem hW.se hB ho' (by omega) hok.c0 hok.c1 hok.w0 (by omega)).mono ?_
   rintro e w' ⟨rfl,q1,q2⟩
   exact⟨rfl,hW.step hne4 hB q2 q1⟩)
  clear hE hof hget hz hzl hk
  go_wp2_with fail
  refine(rA B sa c rb cap m ee w1 HK.out.mem HK.out.se HOF.out (by omega)).mono ?_
  rintro e w' ⟨rfl,rfl⟩
  rw[HG.out]
  clear hx1 hx2 hA x0
  obtain⟨zb,hzb⟩:∃zb,((Co [z]).toList== [0])=zb:=⟨_,rfl⟩
  have HZB:=Aia (show zb=decide (z=0)from by rw[<-hzb,HZL.out];exact Bool.eq_iff_iff.2 (by simp))
  go_upto_if 32 with fail
  clear hzb
  go_cut [] (fun wx=>∃m1:CM,Hid (WrK B sa w rg c rb cap lv dead x w.heap.size m1 wx)/\Hid (p=Bc.put2 m1 x)/\Hid (m1.off=false)/\Hid (Kj m1 (k+1))/\Hid (m1.bs.length=m.bs.length))
  case first=>
   by_cases hz0:z=0
   ·obtain rfl:zb=true:=by rw[HZB.out];simp[hz0]
    rw[if_pos hz0]at HP
    clear hz0
    go_wp2_with fail
    go_meet
    exact⟨m,HK,HP,HOF,HKM.out.mono (by omega),rfl⟩
   ·obtain rfl:zb=false:=by rw[HZB.out];simp[hz0]
    rw[if_neg hz0]at HP
    clear hz0
    go_wp2_with fail
    refine(HWG.out ee ⟨#[0]⟩ m k w1 HOF.out rfl (by show ee+1<=153;omega) HKM.out (by omega) HK.out).mono ?_
    rintro e w2 ⟨rfl,h2⟩
    rw[show(⟨#[0]⟩:ByteArray).size=1 from rfl]
    by_cases hw:C8 m.cut 1=0
    ·rw[if_pos hw]at HP
     have HW:=Aia hw
     have H2:=Aia h2
     have OF2:Hid ((Ce m ee [0]).off=false):=Aia (by
      show decide (Bt m.cut 1<1)=false
      rw[Jn hw];rfl)
     clear hw h2
     rw[HW.out,Ds]
     go_wp2_with fail
     go_meet
     exact⟨_,H2,HP,OF2,HKM.out.write ee [0],Gg _ _ _ _ (H9 _ _) (by have:=H9 m.cut 1;show ee+Bt m.cut 1<=_;omega)⟩
    ·obtain⟨e8,_⟩:=Jo hw
     rw[if_neg hw,e8]at HP
     have H2:=Aia h2
     clear hw h2
     rw[e8,Nn]
     go_wp2_with fail
     go_ret
     rw[HP.out]
     exact⟨rfl,H2.out.mem,H2.out.kp⟩
  case rest=>
  obtain⟨m1,hk1,hp1,ho1,hok1,hl1⟩:=hcut
  obtain⟨r0,r1,r2,rf⟩:=Fo hk1.out.ring
  obtain⟨x0,x1,x2,x3⟩:=Bn hk1.out.rc
  clear HP HK HKM HG HZL r1 r2 hAE
  rw[HP2.out]at hp1
  have HBD:Hid (∀W,WrK B sa w rg c rb cap lv dead x w.heap.size m1 W->Calls Tryz.prog 227 #[.agg #[.int .i64 x.seq,.int .i64 x.ent,.int .i64 x.kind,.int .i64 x.tick]] W fun e w'=>e=.returned (.string (Co (Bd x)))/\WrK B sa w rg c rb cap lv dead x w.heap.size m1 w'):=(show _ from by
   intro W hW
   refine(Wb x HX.out.sm W).mono ?_
   rintro e w' ⟨rfl,b⟩
   exact⟨rfl,hW.below b⟩)
  have HW16:Hid (∀W,WrK B sa w rg c rb cap lv dead x w.heap.size m1 W->Calls Tryz.prog 239 #[.pointer (some ⟨c,0,none⟩),.int .i64 a,.string (Co (Bd x))] W fun e w'=>e=.returned (errv sa (C8 m1.cut 16))/\WrK B sa w rg c rb cap lv dead x w.heap.size (Ce m1 a (Bd x)) w'):=(show _ from by
   intro W hW
   have hsz:(Co (Bd x)).size=16:=by rw[Fl,Cx]
   have:=HWG.out a (Co (Bd x)) m1 (k+1) W ho1.out hl1.out (by rw[hsz];omega) hok1.out (by omega) hW
   rw[hsz,Mz]at this
   exact this)
  have KD:Hid (∀W,WrK B sa w rg c rb cap lv dead x w.heap.size m1 W->WrK B sa w rg c rb cap lv dead x w.heap.size m1 W.drew):=(show _ from fun W h=>⟨h.ring,h.mem.keep (Ae.drew (Ae.refl (fun _=>False) _)) (fun _ h=>h.elim),h.se.keep (Ae.drew (Ae.refl (fun _=>False) _)) (fun _ h=>h.elim),h.rc,h.kp.drew⟩)
  go_upto_region 10 with fail
  go_cut [10] (fun s10 wx=>s10=errv sa (C8 m1.cut 16)/\Hid (WrK B sa w rg c rb cap lv dead x w.heap.size (Ce m1 a (Bd x)) wx))
  case first=>
   go_region_held3 (fun w'=>w'.cell? ⟨rg,0,none⟩=some (.pointer (some ⟨c,0,none⟩))/\w'.cell? ⟨w.heap.size,0,none⟩=some (.int .i64 x.seq)/\w'.cell? ⟨w.heap.size,1,none⟩=some (.int .i64 x.ent)/\w'.cell? ⟨w.heap.size,2,none⟩=some (.int .i64 x.kind)/\w'.cell? ⟨w.heap.size,3,none⟩=some (.int .i64 x.tick))
    (first|exact⟨r0,x0,x1,x2,x3⟩|exact Xc k2|exact Xc k3)
    (first|(go_at_call 227;refine(HBD.out _ ?_).mono ?_;(repeat(first|exact hk1.out|refine KD.out _ ?_));rintro e w2 ⟨rfl,k2⟩)|(go_at_call 239;refine(HW16.out _ ?_).mono ?_;(repeat(first|exact k2|refine KD.out _ ?_));rintro e w3 ⟨rfl,k3⟩))
   all_goals(go_wp2_with fail;go_meet)
   all_goals exact⟨rfl,k3⟩
  case rest=>
  obtain⟨rfl,hk2⟩:=hcut
  clear r0 rf x0 x1 x2 x3 HBD HW16 KD hk1
  obtain⟨r0,r1,r2,rf⟩:=Fo hk2.out.ring
  clear r1 r2
  by_cases hw:C8 m1.cut 16=0
  ·rw[if_pos hw]at hp1
   have OF2:Hid ((Ce m1 a (Bd x)).off=false):=Aia (by
    show decide (Bt m1.cut (Bd x).length<(Bd x).length)=false
    rw[Cx,Jn hw];rfl)
   have LN2:Hid ((Ce m1 a (Bd x)).bs.length=m.bs.length):=Aia (by
    rw[<-hl1.out]
    have hbl:=Cx x
    have hl1':=hl1.out
    exact Gg _ _ _ _ (H9 _ _) (by have:=H9 m1.cut (Bd x).length;omega))
   have OK2:=Aia (hok1.out.write a (Bd x))
   rw[Cx]at OK2
   have HW:=Aia hw
   clear hw
   rw[HW.out,Ds]
   generalize Ce m1 a (Bd x)=m2 at hp1 hk2 OF2 LN2 OK2
   go_wp2_with fail
   refine(HWG.out ee ⟨#[165]⟩ m2 (k+1+16) wc OF2.out LN2.out (by show ee+1<=153;omega) OK2.out (by omega) hk2.out).mono ?_
   rintro e w4 ⟨rfl,k4⟩
   go_wp2_with fail
   go_ret
   rw[hp1.out]
   exact⟨rfl,k4.mem,k4.kp⟩
  ·obtain⟨e8,_⟩:=Jo hw
   rw[if_neg hw,e8]at hp1
   clear hw
   rw[e8,Nn]
   go_wp2_with fail
   go_ret
   rw[hp1.out]
   exact⟨rfl,hk2.out.mem,hk2.out.kp⟩
 ·obtain⟨j,hj⟩:∃j,Js m.off m.bs.length (ee:Int) 1=j+1:=⟨_,(Nat.succ_pred_eq_of_pos (Nat.pos_of_ne_zero hE)).symm⟩
  rw[if_neg hE,hj]at HP
  have HJ:=Aia hj
  clear hE hj
  go_wp2_with fail
  refine(Xa B sa c rb _ cap m (ee:Int) 1 j w1 HK.out.mem HK.out.se HJ.out).mono ?_
  rintro e w' ⟨rfl,rfl⟩
  rw[Nn]
  go_wp2_with fail
  go_ret
  rw[HP.out]
  exact⟨rfl,HK.out.mem,HK.out.kp⟩
end
section
open Go.RowKit
def Ax(r:Ar):List Value:=[.int .i64 r.seq,.int .i64 r.ent,.int .i64 r.kind,.int .i64 r.tick]
theorem Rk(r:Ar):(Ax r).length=4:=rfl
theorem Tryz.infoRec:(Tryz.prog.info? 147).map (fun i=>(i.zero,i.size,i.bytes))=some (some (.agg #[.int .i64 0,.int .i64 0,.int .i64 0,.int .i64 0]),4,32):=by kernel_rfl
theorem Zg(l:List Ar):∀u∈l.flatMap Ax,u.oneCell'=true:=Zh _ (by intro x u hu;simp[Ax]at hu;rcases hu with rfl|rfl|rfl|rfl<;>rfl) l
theorem Mo(l:List Ar):(l.flatMap Ax).length=l.length*4:=Dn Ax 4 Rk l
theorem Ls(R:Nat->Prop)(l:List Ar)(v:Value)(w:World)(h:Ay R w v 4 (l.flatMap Ax) l.length)(hn:l.length<=1000):
  Calls Tryz.prog 95 #[v] w fun e w'=>∃ao cap,e=.returned (.slice ao l.length cap)/\w'.ownsRow w.heap.size 147 4 (.slice ao l.length cap) l.length (l.flatMap Ax)/\Below w.heap.size w w':=by
 obtain⟨i0,hi0,hz0,hz1,hz2⟩:=info_parts infoRec
 have qn:∀(w:World) (a:Option Addr) (n c n' c':Nat),(binOp .eql 68 (.slice a n c) (.slice none n' c')).run Tryz.prog w=.ok (.bool a.isNone) w:=fun w a n c n' c'=>Lib.run_eql_slice_nil w _ _ a n c n' c' underlying68
 obtain⟨ao,cap,rfl⟩:=h.val
 rcases h.cases with⟨rfl,hl,rfl,hc⟩|⟨a,rfl⟩
 ·have hl':l= []:=List.eq_nil_of_length_eq_zero hl
  subst hl'
  clear h hl hc
  go_enter func95,ntmps95
  go_wp2_with fail
  go_ret
  exact⟨none,0,rfl,World.ownsRow_nil _ _ _ _,Below.refl _ _⟩
 ·obtain⟨h1,h2,h3⟩:=Xh h
  have h3':Hid (∀j u,(l.flatMap Ax)[j]? =some u->∀o,(w.alloc o).cell? (a.add j)=some u):=fun j u hu o=>by
   have:=h3 j u hu
   rw[World.cell?_of_block (w:=w) (Below.heap_alloc _ _ _ (World.block_lt_of_cell? _ _ this))];exact this
  have hh63:Hid (0+l.length<=maxLen):=by show 0+l.length<=maxLen;omega
  have hby:Hid ((0+l.length)*32<=140737488355328):=by show(0+l.length)*32<=_;omega
  have hbs:Hid (∀o,w.heap.size<=(w.alloc o).heap.size):=fun o=>by simp
  clear h h2 h3
  go_enter func95,ntmps95
  go_wp2_with (at_builtin;refine A9 rfl (.tmp 5) (.tmp 6) 68 rfl w.heap.size 147 i0 _ 4 32 underlying68 hi0 hz0 hz1 hz2 rfl (by decide) _ 0 [] rfl (World.ownsRow_made w #[] 0 (Nat.le_refl _) (by decide) rfl) a l.length cap (l.flatMap Ax) rfl h1 (fun j u hu=>h3'.out j u hu _) (Zg l) hh63.out hby.out (hbs.out _) ?_;intro a1 k1 w6 ho6 hg6)
  go_ret
  rw[Nat.zero_add,List.nil_append]at ho6
  refine⟨a1,k1,rfl,ho6,?_⟩
  exact((Below.refl _ _).alloc (Nat.le_refl _) _).grown hg6 (by simp) (fun k hk=>by have h:some w.heap.size=some k:=hk;simp at h;omega)
structure gN (w:World) (rg c:Nat) (lv:Value) (dead:Bool) (L:List Ar) (R:Nat->Prop):Prop where
 box:w.heap[rg]? =some (Gy c lv dead)
 row:Ay R w lv 4 (L.flatMap Ax) L.length
theorem Tu(w:World)(rg c:Nat)(lv:Value)(dead:Bool)(L:List Ar)(R:Nat->Prop)(h:gN w rg c lv dead L R)(hn:L.length<=1000):
  Calls Tryz.prog 55 #[.pointer (some ⟨rg,0,none⟩)] w fun e w'=>∃v,e=.returned v/\Ay (fun b=>w.heap.size<=b) w' v 4 (L.flatMap Ax) L.length/\Below w.heap.size w w':=by
 obtain⟨r0,r1,r2,rf⟩:=Fo h.box
 have HR:=Aia h.row
 clear h
 go_enter func55,ntmps55
 go_wp2_with fail
 refine(Ls R L lv w HR.out hn).mono ?_
 rintro e w1 ⟨ao,cap,rfl,ho,b⟩
 have HS:=Aia (E7 ho)
 clear ho
 go_wp2_with fail
 go_ret
 exact⟨_,rfl,HS.out,b⟩
theorem Pq{R:Nat->Prop}{w:World}{ao:Option Addr}{n cap:Nat}{l:List Ar}(h:Ay R w (.slice ao n cap) 4 (l.flatMap Ax) l.length)(h0:0<l.length):
  ∃b off,ao=some ⟨b,off,none⟩/\R b/\b<w.heap.size/\∀k (hk:k<l.length),w.cell? ⟨b,off+k*4,none⟩=some (.int .i64 l[k].seq)/\w.cell? ⟨b,off+k*4+1,none⟩=some (.int .i64 l[k].ent)/\w.cell? ⟨b,off+k*4+2,none⟩=some (.int .i64 l[k].kind)/\w.cell? ⟨b,off+k*4+3,none⟩=some (.int .i64 l[k].tick):=by
 obtain⟨b,off,ha,hR,hb,hc⟩:=h.elem (fun _=>rfl) (by decide) h0
 exact⟨b,off,ha,hR,hb,fun k hk=>⟨hc k hk 0 _ rfl,hc k hk 1 _ rfl,hc k hk 2 _ rfl,hc k hk 3 _ rfl⟩⟩
theorem Jc{w:World}{b o:Nat}{cs:Array Value}{t:TypeId}(h:w.heap[b]? =some (.cells cs t)):w.frozen? ⟨b,o,none⟩=false:=by simp[World.frozen?,h]
def Gz(L:List Ar):Ar:=L.getLast?.getD ⟨0,0,0,0⟩
theorem Ri(w:World)(rg c:Nat)(lv:Value)(dead:Bool)(L:List Ar)(R:Nat->Prop)(h:gN w rg c lv dead L R)(hR:∀b,R b->b<w.heap.size)(hn:L.length<=1000):
  Calls Tryz.prog 190 #[.pointer (some ⟨rg,0,none⟩)] w fun e w'=>e=.returned (.tuple #[A3 (Gz L),.bool (!L.isEmpty)])/\Below w.heap.size w w':=by
 obtain⟨r0,r1,r2,rf⟩:=Fo h.box
 have hrg:=Aa h.box
 have hrow:=h.row
 obtain⟨ao,cap,rfl⟩:=h.row.val
 clear h
 have ba:Below w.heap.size w (w.alloc (Fq ⟨0,0,0,0⟩)):=(Below.refl _ _).alloc (Nat.le_refl _) _
 have na:=Ab w (Fq ⟨0,0,0,0⟩)
 have ZF:∀o,(w.alloc (Fq ⟨0,0,0,0⟩)).frozen? ⟨w.heap.size,o,none⟩=false:=fun o=>Jc na
 obtain⟨z0,z1,z2,z3⟩:=Bn na
 have s1:=(ba.cell (p:=⟨rg,1,none⟩) hrg).trans r1
 by_cases h0:L.length=0
 ·obtain rfl:=List.eq_nil_of_length_eq_zero h0
  unfold Fq at ba
  clear z0 z1 z2 z3 na ZF s1
  go_enter func190,ntmps190
  go_wp2_with fail
  refine bodyPost_ret (v:=.tuple #[A3 ⟨0,0,0,0⟩,.bool false]) (by simp[A3,results,results190,go_sem]) rfl ?_
  exact⟨rfl,ba⟩
 ·obtain⟨b,off,rfl,hRb,hb,hc⟩:=Pq hrow (by omega)
  obtain⟨N,hN⟩:∃N,N=L.length-1:=⟨_,rfl⟩
  have hNl:N<L.length:=by omega
  obtain⟨q0,q1,q2,q3⟩:=hc N hNl
  have t0:=(ba.cell (p:=⟨b,off+N*4,none⟩) hb).trans q0
  have t1:=(ba.cell (p:=⟨b,off+N*4+1,none⟩) hb).trans q1
  have t2:=(ba.cell (p:=⟨b,off+N*4+2,none⟩) hb).trans q2
  have t3:=(ba.cell (p:=⟨b,off+N*4+3,none⟩) hb).trans q3
  have hL:Hid (Gz L=L[N]):=Aia (by
   unfold Gz
   rw[List.getLast?_eq_getElem?,<-hN,List.getElem?_eq_getElem hNl];rfl)
  have hE:Hid (L.isEmpty=false):=Aia (by rw[List.isEmpty_eq_false_iff];intro e;rw[e]at h0;exact h0 rfl)
  have hI:(L.length:Int)-1=(N:Int):=by omega
  have hI2:(N:Int)<L.length:=by omega
  unfold Fq at ba t0 t1 t2 t3 s1 z0 z1 z2 z3 ZF
  obtain⟨r,hr⟩:∃r,r=L[N]:=⟨_,rfl⟩
  rw[<-hr]at t0 t1 t2 t3 hL
  clear q0 q1 q2 q3 hc hN hr na
  go_enter func190,ntmps190
  go_wp2_with fail
  generalize w.alloc _=w1 at ba t0 t1 t2 t3 s1 z0 z1 z2 z3 ZF ⊢
  go_region
  all_goals
   go_wp2_with fail
   refine bodyPost_ret (v:=.tuple #[A3 r,.bool true]) (by simp[A3,results,results190,go_sem,z0,z1,z2,z3,World.cell?_setCell_same,World.cell?_setCell_other]) rfl ?_
   rw[hL.out,hE.out]
   exact⟨rfl,((((ba.setCell (p:=⟨w.heap.size,0,none⟩) (Nat.le_refl _) _).setCell (p:=⟨w.heap.size,1,none⟩) (Nat.le_refl _) _).setCell (p:=⟨w.heap.size,2,none⟩) (Nat.le_refl _) _).setCell (p:=⟨w.heap.size,3,none⟩) (Nat.le_refl _) _).drew⟩
end
section
open Go.RowKit
theorem Ay.later{R:Nat->Prop}{w w':World}{v:Value}{sz:Nat}{cs:List Value}{n:Nat}(h:Ay R w v sz cs n)(k:Below w.heap.size w w'):Ay R w' v sz cs n:=by
 obtain⟨hl,ao,cap,hv,h1,h2,h3,h4⟩:=h
 refine⟨hl,ao,cap,hv,h1,h2,h3,fun hp=>?_⟩
 obtain⟨b,off,ha,hR,hb,hc⟩:=h4 hp
 exact⟨b,off,ha,hR,Nat.lt_of_lt_of_le hb k.size,fun j u hu=>by rw[k.cell (p:=⟨b,off+j,none⟩) hb];exact hc j u hu⟩
structure RSt (B:Nat) (sa:Nat->Addr) (w0:World) (rg c rb cap:Nat) (m:CM) (dead:Bool) (L:List Ar) (lv:Value) (w:World):Prop where
 ring:gN w rg c lv dead L (fun b=>b≠c/\b≠rb/\b≠rg)
 mem:A1 w c rb (some ⟨rb,0,none⟩) cap m
 se:Ey B sa w
 bel:Below w0.heap.size w0 w
 lay:w0.heap.size<=c/\w0.heap.size<=rb/\w0.heap.size<=rg/\B<=w0.heap.size/\rg≠c/\rg≠rb
section
variable {B:Nat} {sa:Nat->Addr} {w0 w w':World} {rg c rb cap:Nat} {m m':CM} {dead:Bool} {L:List Ar} {lv:Value}
theorem RSt.below(h:RSt B sa w0 rg c rb cap m dead L lv w)(b:Below w.heap.size w w'):RSt B sa w0 rg c rb cap m dead L lv w':=
 ⟨⟨Af b h.ring.box (Aa h.ring.box),h.ring.row.later b⟩,h.mem.keep (Ak b) (fun _ h=>h.elim),h.se.below b,h.bel.trans (b.mono h.bel.size),h.lay⟩
theorem RSt.write(h:RSt B sa w0 rg c rb cap m dead L lv w)(k:Ae (fun b=>b=c\/b=rb) w w')(h':A1 w' c rb (some ⟨rb,0,none⟩) cap m'):RSt B sa w0 rg c rb cap m' dead L lv w':=by
 obtain⟨l1,l2,l3,l4,l5,l6⟩:=h.lay
 exact⟨⟨k.get h.ring.box (by rintro(e|e);exact l5 e;exact l6 e),h.ring.row.keep k (fun b hb hs=>by rcases hs with e|e;exact hb.1 e;exact hb.2.1 e)⟩,h',h.se.keep k (fun b hb=>by rcases hb with rfl|rfl<;>omega),h.bel.trans (k.below h.bel.size (fun b hb=>by rcases hb with rfl|rfl<;>omega)),h.lay⟩
theorem RSt.fin2(h:RSt B sa w0 rg c rb cap m dead L lv w)(k:Ae (fun b=>b=c\/b=rb\/b=rg\/w.heap.size<=b) w w'){dead':Bool}{lv':Value}{L':List Ar}(hb:w'.heap[rg]? =some (Gy c lv' dead'))(hm:A1 w' c rb (some ⟨rb,0,none⟩) cap m')
  (hr:Ay (fun b=>b≠c/\b≠rb/\b≠rg) w' lv' 4 (L'.flatMap Ax) L'.length):RSt B sa w0 rg c rb cap m' dead' L' lv' w':=by
 obtain⟨l1,l2,l3,l4,l5,l6⟩:=h.lay
 have ht:=h.se.top
 have hz:=h.bel.size
 exact⟨⟨hb,hr⟩,hm,h.se.keep k (fun b hb=>by omega),h.bel.trans (k.below h.bel.size (fun b hb=>by omega)),h.lay⟩
theorem RSt.fin(h:RSt B sa w0 rg c rb cap m dead L lv w)(k:Ae (fun b=>b=c\/b=rb\/b=rg\/w.heap.size<=b) w w'){dead':Bool}(hb:w'.heap[rg]? =some (Gy c lv dead'))(hm:A1 w' c rb (some ⟨rb,0,none⟩) cap m'):RSt B sa w0 rg c rb cap m' dead' L lv w':=by
 obtain⟨l1,l2,l3,l4,l5,l6⟩:=h.lay
 have ht:=h.se.top
 have hz:=h.bel.size
 refine⟨⟨hb,?_⟩,hm,h.se.keep k (fun b hb=>by omega),h.bel.trans (k.below h.bel.size (fun b hb=>by omega)),h.lay⟩
 obtain⟨hl,ao,cp,hv,h1,h2,h3,h4⟩:=h.ring.row
 refine⟨hl,ao,cp,hv,h1,h2,h3,fun hp=>?_⟩
 obtain⟨b,off,ha,hR,hbl,hc⟩:=h4 hp
 have hn:¬(b=c\/b=rb\/b=rg\/w.heap.size<=b):=by have:=hR.1;have:=hR.2.1;have:=hR.2.2;omega
 exact⟨b,off,ha,hR,Nat.lt_of_lt_of_le hbl k.size,fun j u hu=>by rw[k.cell (p:=⟨b,off+j,none⟩) hbl hn];exact hc j u hu⟩
end
def Agi(w w':World)(v:Value):Prop:=∀b,v.ownBlock=some b->w.heap.size<=b/\b<w'.heap.size
theorem G0{w w':World}{c rb rg:Nat}(h:Below w.heap.size w w'):Ae (fun b=>b=c\/b=rb\/b=rg\/w.heap.size<=b) w w':=(Ae.of_below h).mono (fun b _ hb=>.inr (.inr (.inr hb)))
def Afc(e k t:Int):Bool:=decide (0<=e/\e<=255/\0<=k/\k<=255/\0<=t/\t<281474976710656)
def Hw(L:List Ar)(e k t:Int):Ar:=⟨(Gz L).seq+1,e.toNat,k.toNat,t.toNat⟩
def Dl(m:CM)(L:List Ar)(dead:Bool)(e k t:Int):Nat × Ar × CM × List Ar × Bool:=
 if dead=true then (8,⟨0,0,0,0⟩,m,L,true) else if Afc e k t=false then (2,⟨0,0,0,0⟩,m,L,false) else if 4294967296<=(Gz L).seq+1 then (7,⟨0,0,0,0⟩,m,L,false)
 else if (Bc m (Hw L e k t)).1=0 then (0,Hw L e k t,(Bc m (Hw L e k t)).2,(L++ [Hw L e k t]).drop (L.length+1-8),false)
 else ((Bc m (Hw L e k t)).1,⟨0,0,0,0⟩,(Bc m (Hw L e k t)).2,L,true)
theorem Aad{w:World}{b b':Nat}{e:TypeId}{size:Nat}{v:Value}{n:Nat}{xs:List Value}(h:w.ownsRow b e size v n xs)(hb:b'<=b):w.ownsRow b' e size v n xs:=by
 refine⟨h.1,?_⟩
 rcases h.2 with hn|⟨g,cap,cur,rfl,hg,rest⟩
 ·exact .inl hn
 ·exact .inr ⟨g,cap,cur,rfl,Nat.le_trans hb hg,rest⟩
theorem Abg{w0 W w6:World}{e:TypeId}{size n:Nat}{v:Value}{xs:List Value}(h:Below w0.heap.size w0 W)(ho:W.ownsRow w0.heap.size e size v n xs)(hg:W.grownBy w6 v.ownBlock):Below w0.heap.size w0 w6:=
 h.grown hg h.size (fun k hk=>(ho.lt k hk).1)
theorem Jk(w:World)(g N cap lo:Nat)(h1:lo<cap)(h2:lo<=N):
  (Instr.slice 68 (.slice (some ⟨g,0,none⟩) N cap) (some (.int .i64 lo)) none none).run Tryz.prog w=.ok (.slice (some ⟨g,lo*4,none⟩) (N-lo) (cap-lo)) w:=by
 have ht:Tryz.prog.underlying 68=some (.slice (Tryz.prog.elem 68)):=by kernel_rfl
 have hs:((sizeOf (Tryz.prog.elem 68)).run Tryz.prog w)=.ok 4 w:=by kernel_rfl
 rw[run_slice_l w 68 (some ⟨g,0,none⟩) N cap ht .i64 lo (by omega) (by omega),hs]
 show Result.ok (sliced _ _ _ _ _) w=_
 unfold sliced
 rw[show((lo:Int)).toNat=lo from by omega,if_neg (by omega)]
 show Result.ok (Value.slice (some (Addr.add ⟨g,0,none⟩ (lo*4))) _ _) w=_
 rw[Cz,Nat.zero_add]
theorem Abp(l:List Ar)(k:Nat):(l.drop k).flatMap Ax=(l.flatMap Ax).drop (k*4):=by
 induction k generalizing l with
 |zero=>simp
 |succ k ih=>
  cases l with
  |nil=>simp
  |cons x l=>
   rw[List.drop_succ_cons,ih,List.flatMap_cons,show(k+1)*4=4+k*4 by omega,<-List.drop_drop]
   congr 1
theorem L8{R:Nat->Prop}{w:World}{g cp:Nat}{l:List Ar}(h:Ay R w (.slice (some ⟨g,0,none⟩) l.length cp) 4 (l.flatMap Ax) l.length)(lo:Nat)(hlo:lo<l.length):
  Ay R w (.slice (some ⟨g,lo*4,none⟩) (l.length-lo) (cp-lo)) 4 ((l.drop lo).flatMap Ax) (l.drop lo).length:=by
 obtain⟨hl,ao,cap,hv,h1,h2,h3,h4⟩:=h
 obtain⟨rfl,rfl,rfl⟩:=hv
 obtain⟨b,off,ha,hR,hb,hc⟩:=h4 (by rw[Mo];omega)
 obtain⟨rfl,rfl,_⟩:=Option.some.inj ha
 rw[List.length_drop]
 refine⟨by rw[Mo,List.length_drop],_,_,rfl,by omega,by omega,(fun h=>by cases h),fun _=>⟨g,lo*4,rfl,hR,hb,fun k u hu=>?_⟩⟩
 rw[Abp,List.getElem?_drop]at hu
 have:=hc _ _ hu
 rwa [Nat.zero_add]at this
theorem Te{w:World}{base:Nat}{e:TypeId}{size n cap:Nat}{ao:Option Addr}{xs:List Value}(h:w.ownsRow base e size (.slice ao n cap) n xs)(hn:0<n):∃g,ao=some ⟨g,0,none⟩/\base<=g/\n<=cap:=by
 obtain⟨_,hv⟩:=h
 rcases hv with⟨h1,h2⟩|⟨g,cap',cur,hv,hb,hg,h1,h2,_⟩
 ·omega
 ·injection hv with e1 e2 e3
  exact⟨g,e1,hb,by omega⟩
theorem tP{w w':World}{a:Addr}{l:List Value}(b:Below w.heap.size w w')(h:∀j u,l[j]? =some u->w.cell? (a.add j)=some u):∀j u,l[j]? =some u->w'.cell? (a.add j)=some u:=fun j u hu=>by
 have:=h j u hu
 rw[World.cell?_of_block (w:=w) (b.block _ (World.block_lt_of_cell? _ _ this))];exact this
theorem vV{w w':World}{a b:Nat}{u0 u1 u2 u3 u4:Value}(k:Below w.heap.size w w')(h:w.cell? ⟨a,1,none⟩=some u0/\w.cell? ⟨b,0,none⟩=some u1/\w.cell? ⟨b,1,none⟩=some u2/\w.cell? ⟨b,2,none⟩=some u3/\w.cell? ⟨b,3,none⟩=some u4):
  w'.cell? ⟨a,1,none⟩=some u0/\w'.cell? ⟨b,0,none⟩=some u1/\w'.cell? ⟨b,1,none⟩=some u2/\w'.cell? ⟨b,2,none⟩=some u3/\w'.cell? ⟨b,3,none⟩=some u4:=by
 have f:∀{p:Addr} {u:Value},w.cell? p=some u->w'.cell? p=some u:=fun {p u} h=>(k.cell (World.block_lt_of_cell? _ p h)).trans h
 exact⟨f h.1,f h.2.1,f h.2.2.1,f h.2.2.2.1,f h.2.2.2.2⟩
theorem Px(w:World)(z:Nat)(a b c d:Value):Ae (· =z) w ((((w.setCell ⟨z,0,none⟩ a).setCell ⟨z,1,none⟩ b).setCell ⟨z,2,none⟩ c).setCell ⟨z,3,none⟩ d):=
 ((Gi (Gi (Ai w z 0 a) 1 b) 2 c)).trans (Ai _ z 3 d)
theorem yB(w:World)(a b:Obj):((w.alloc a).alloc b).heap[w.heap.size]? =some a/\((w.alloc a).alloc b).heap[w.heap.size+1]? =some b/\Below w.heap.size w ((w.alloc a).alloc b)/\((w.alloc a).alloc b).heap.size=w.heap.size+2:=by
 have n1:=Ab (w.alloc a) b
 rw[World.size_alloc]at n1
 exact⟨Cm _ (Ab _ _),n1,((Below.refl _ _).alloc (Nat.le_refl _) _).alloc (by simp) _,by simp⟩
theorem Cl{w w1:World}(h:Below w.heap.size w w1){a b c d:Value}:Below w.heap.size w ((((w1.setCell ⟨w.heap.size,0,none⟩ a).setCell ⟨w.heap.size,1,none⟩ b).setCell ⟨w.heap.size,2,none⟩ c).setCell ⟨w.heap.size,3,none⟩ d):=
 (((h.setCell (p:=⟨w.heap.size,0,none⟩) (Nat.le_refl _) _).setCell (p:=⟨w.heap.size,1,none⟩) (Nat.le_refl _) _).setCell (p:=⟨w.heap.size,2,none⟩) (Nat.le_refl _) _).setCell (p:=⟨w.heap.size,3,none⟩) (Nat.le_refl _) _
theorem Ut(B:Nat)(sa:Nat->Addr)(w0:World)(rg c rb cap:Nat)(m:CM)(dead:Bool)(L:List Ar)(lv:Value)(en kd tk:Int)(kk:Int)(w:World)(h:RSt B sa w0 rg c rb cap m dead L lv w)(hk:Kj m kk)(hk2:kk<=900000000)(hl:153<=m.bs.length)(hL:L.length<=100)(hS:(Gz L).seq<4294967296):
  Calls Tryz.prog 152 #[.pointer (some ⟨rg,0,none⟩),.int .i64 en,.int .i64 kd,.int .i64 tk] w fun e w'=>e=.returned (.tuple #[A3 (Dl m L dead en kd tk).2.1,errv sa (Dl m L dead en kd tk).1])/\
   ∃lv',RSt B sa w0 rg c rb cap (Dl m L dead en kd tk).2.2.1 (Dl m L dead en kd tk).2.2.2.2 (Dl m L dead en kd tk).2.2.2.1 lv' w'/\Ae (fun b=>b=c\/b=rb\/b=rg\/w.heap.size<=b) w w'/\(lv'=lv\/Agi w w' lv'):=by
 have ba:Below w.heap.size w (w.alloc (Fq ⟨0,0,0,0⟩)):=(Below.refl _ _).alloc (Nat.le_refl _) _
 have na:=Ab w (Fq ⟨0,0,0,0⟩)
 have HK0:=Aia h
 have HK1:=Aia (h.below ba)
 have HN:=Aia na
 have HBA:=Aia ba
 clear h ba na
 unfold Fq at HK1 HN HBA
 go_enter func152,ntmps152
 go_upto_region 1 with fail
 generalize w.alloc _=w1 at HK1 HN HBA ⊢
 obtain⟨r0,r1,r2,rf⟩:=Fo HK1.out.ring.box
 obtain⟨z0,z1,z2,z3⟩:=Bn HN.out
 have zf:∀o,w1.frozen? ⟨w.heap.size,o,none⟩=false:=fun o=>Jc HN.out
 obtain⟨g1,g2,g6,g7,nb,_⟩:=HK1.out.se
 have hBw:B<=w.heap.size:=HK0.out.se.top
 have e1:¬0=w.heap.size:=by have:=nb.1;omega
 have e6:¬6=w.heap.size:=by have:=nb.2.2.1;omega
 have e7:¬7=w.heap.size:=by have:=nb.2.2.2;omega
 have f1:¬w.heap.size=0:=fun h=>e1 h.symm
 have f6:¬w.heap.size=6:=fun h=>e6 h.symm
 have f7:¬w.heap.size=7:=fun h=>e7 h.symm
 clear nb
 cases dead with
 |true=>
  have HE:Hid (Dl m L true en kd tk=(8,⟨0,0,0,0⟩,m,L,true)):=(rfl:Dl m L true en kd tk=(8,⟨0,0,0,0⟩,m,L,true))
  go_wp2_with fail
  go_region
  all_goals
   go_wp2_with fail
   refine bodyPost_ret (v:=.tuple #[A3 ⟨0,0,0,0⟩,errv sa 8]) (by simp[A3,errv,results,results152,go_sem,z0,z1,z2,z3,World.cell?_setCell_same,World.cell?_setCell_other]) rfl ?_
   rw[HE.out]
   exact⟨rfl,lv,HK0.out.below (Cl HBA.out).drew,G0 (Cl HBA.out).drew,.inl rfl⟩
 |false=>
 by_cases hok:Afc en kd tk=true
 ·have hb:0<=en/\en<=255/\0<=kd/\kd<=255/\0<=tk/\tk<281474976710656:=of_decide_eq_true hok
  have hR0:Dl m L false en kd tk=if 4294967296<=(Gz L).seq+1 then (7,⟨0,0,0,0⟩,m,L,false)
   else if (Bc m (Hw L en kd tk)).1=0 then (0,Hw L en kd tk,(Bc m (Hw L en kd tk)).2,(L++ [Hw L en kd tk]).drop (L.length+1-8),false) else ((Bc m (Hw L en kd tk)).1,⟨0,0,0,0⟩,(Bc m (Hw L en kd tk)).2,L,true):=by
   unfold Dl
   rw[if_neg (by decide),hok,if_neg (by decide)]
  have HR:=Aia hR0
  clear hR0
  obtain⟨b1,b2,b3,b4,b5,b6⟩:=hb
  clear hok
  go_wp2_with fail
  refine(Ri w1 rg c lv false L (fun b=>b<w1.heap.size) ⟨HK1.out.ring.box,HK1.out.ring.row.here⟩ (fun b h=>h) (by omega)).mono ?_
  rintro e w2 ⟨rfl,bb⟩
  obtain⟨E,rfl⟩:∃E:Nat,en=E:=⟨en.toNat,by omega⟩
  obtain⟨K,rfl⟩:∃K:Nat,kd=K:=⟨kd.toNat,by omega⟩
  obtain⟨T,rfl⟩:∃T:Nat,tk=T:=⟨tk.toNat,by omega⟩
  obtain⟨x,hx⟩:∃x,x=Hw L E K T:=⟨_,rfl⟩
  rw[<-hx]at HR
  obtain⟨S,hSS⟩:∃S,S=(Gz L).seq:=⟨_,rfl⟩
  have HX:Hid (x=⟨S+1,E,K,T⟩):=Aia (by rw[hx,hSS];rfl)
  have hba2:=Aia (HBA.out.trans (bb.mono HBA.out.size))
  have HN2:=Aia (Af bb HN.out (Aa HN.out))
  have q3:=yB w2 (Fq (Gz L)) (.cells #[.int .i64 ((S:Int)+1),.int .i64 E,.int .i64 K,.int .i64 T] 147)
  unfold Fq at q3
  unfold A3
  rw[<-hSS]at q3 HR hS ⊢
  clear r0 r1 r2 rf z0 z1 z2 z3 zf g1 g2 g6 g7 HBA HN bb HK1 hx hSS
  have eS:Hid (((S:Int)+1)=((S+1:Nat):Int)):=Aia (by omega)
  have hS1:(S:Int)+1<=4294967296:=by omega
  go_upto_region 7 with fail
  generalize(w2.alloc _).alloc _=w3 at q3 ⊢
  obtain⟨q30,q31,q3b,q3s⟩:=q3
  have HX3:Hid (w3.heap[w2.heap.size+1]? =some (Fq x)):=Aia (by rw[q31,HX.out,eS.out];rfl)
  have HB3:=Aia (hba2.out.trans (q3b.mono hba2.out.size))
  have HN3:=Aia (Af q3b HN2.out (Aa HN2.out))
  have HK3:=Aia (HK0.out.below HB3.out)
  obtain⟨r0,r1,r2,rf⟩:=Fo HK3.out.ring.box
  obtain⟨z0,z1,z2,z3⟩:=Bn HN3.out
  have zf:∀o,w3.frozen? ⟨w.heap.size,o,none⟩=false:=fun o=>Jc HN3.out
  obtain⟨x0,x1,x2,x3⟩:=Bn q31
  obtain⟨g1,g2,g6,g7,_,_⟩:=HK3.out.se
  have hw2:w.heap.size<=w2.heap.size:=hba2.out.size
  clear q30 q31 q3b HN2 hba2 eS g1 g2
  by_cases hfull:4294967296<=S+1
  ·have hf2:(4294967296:Int)<=(S:Int)+1:=by omega
   rw[if_pos hfull]at HR
   go_wp2_with fail
   go_region
   all_goals
    go_wp2_with fail
    refine bodyPost_ret (v:=.tuple #[A3 ⟨0,0,0,0⟩,errv sa 7]) (by simp[A3,errv,results,results152,go_sem,z0,z1,z2,z3,World.cell?_setCell_same,World.cell?_setCell_other]) rfl ?_
    rw[HR.out]
    exact⟨rfl,lv,HK0.out.below (Cl HB3.out).drew,G0 (Cl HB3.out).drew,.inl rfl⟩
  have hf2:decide ((4294967296:Int)<=(S:Int)+1)=false:=decide_eq_false (by omega)
  rw[if_neg hfull]at HR
  have hxo:J8 x:=by rw[HX.out];exact⟨by show 1<=S+1;omega,by show S+1<_;omega,by show E<256;omega,by show K<256;omega,by show T<_;omega⟩
  have HXO:=Aia hxo
  have hBc:B<=c/\B<=rb:=by have:=HK0.out.lay;omega
  have HWR:Hid (Calls Tryz.prog 198 #[.pointer (some ⟨rg,0,none⟩),.agg #[.int .i64 ((S:Int)+1),.int .i64 E,.int .i64 K,.int .i64 T]] w3 fun e w'=>e=.returned (errv sa (Bc m x).1)/\RSt B sa w0 rg c rb cap (Bc m x).2 false L lv w'/\Ae (fun b=>b=c\/b=rb) w3 w'):=(show _ from by
   have hwr:=Wq B sa rg c rb cap lv false m x kk w3 HK3.out.ring.box HK3.out.mem HK3.out.se HK3.out.lay.2.2.2.2 hBc hxo hk hk2 hl
   rw[show A3 x=.agg #[.int .i64 ((S:Int)+1),.int .i64 E,.int .i64 K,.int .i64 T] from by rw[HX.out];rfl]at hwr
   refine hwr.mono ?_
   rintro e w' ⟨rfl,h1,h2⟩
   exact⟨rfl,HK3.out.write h2 h1,h2⟩)
  clear hxo hfull g6 g7 hS hS1
  have HF2:=Aia hk
  have HHL:=Aia hl
  have HLN:=Aia hL
  clear b1 b2 b3 b4 b5 b6 hk hk2 hl hL
  obtain⟨S1,hS1⟩:∃S1:Int,S1=(S:Int)+1:=⟨_,rfl⟩
  rw[<-hS1]at x0 hf2 HWR ⊢
  clear hS1
  go_wp2_with fail
  refine HWR.out.mono ?_
  rintro e w4 ⟨rfl,h4,k4⟩
  obtain⟨p,hp⟩:∃p,p=Bc m x:=⟨_,rfl⟩
  rw[<-hp]at HR h4 ⊢
  clear hp HWR
  obtain⟨pe,pm⟩:=p
  simp only at HR h4 ⊢
  have hcl:=Aa HK0.out.mem.box
  have hbl:rb<w.heap.size:=by
   obtain⟨C,t,hh,_⟩:=HK0.out.mem.row rfl
   exact Aa hh
  have hgl:=Aa HK0.out.ring.box
  have hsz:=HB3.out.size
  have H4:=Aia h4
  have k04:Ae (fun b=>b=c\/b=rb\/b=rg\/w.heap.size<=b) w w4:=((Ae.of_below HB3.out).mono (fun b _ hb=>.inr (.inr (.inr hb)))).step (k4.mono (T:=fun b=>b=c\/b=rb\/b=rg\/w.heap.size<=b) (fun b _ hb=>by omega)) (fun b hb _=>hb)
  have K04:=Aia k04
  have HN4:=Aia (k4.get HN3.out (by omega))
  have HX4:=Aia (k4.get HX3.out (by omega))
  clear r0 r1 r2 rf z0 z1 z2 z3 zf x0 x1 x2 x3 h4 k04 k4 HN3 HX3 HB3 HK3 hf2
  obtain⟨r0,r1,r2,rf⟩:=Fo H4.out.ring.box
  obtain⟨z0,z1,z2,z3⟩:=Bn HN4.out
  have zf:∀o,w4.frozen? ⟨w.heap.size,o,none⟩=false:=fun o=>Jc HN4.out
  have hne:¬rg=w.heap.size:=by omega
  have hne2:¬w.heap.size=rg:=by omega
  by_cases hpe:pe=0
  ·rw[if_pos hpe]at HR
   rw[hpe,Ds]
   clear hpe
   obtain⟨i0,hi0,hz0,hz1,hz2⟩:=info_parts infoRec
   obtain⟨x0,x1,x2,x3⟩:=Bn HX4.out
   have hLn:=HLN.out
   have HCL:Hid (∀W,Below w4.heap.size w4 W->Calls Tryz.prog 95 #[lv] W fun e w'=>∃ao cp,e=.returned (.slice ao L.length cp)/\w'.ownsRow w4.heap.size 147 4 (.slice ao L.length cp) L.length (L.flatMap Ax)/\Below W.heap.size W w'/\Below w4.heap.size w4 w'):=Aia (by
    intro W hW
    refine(Ls _ L lv W (H4.out.ring.row.later hW) (by omega)).mono ?_
    rintro e w' ⟨ao,cp,rfl,ho,b⟩
    exact⟨ao,cp,rfl,Aad ho hW.size,b,hW.trans (b.mono hW.size)⟩)
   have h63:Hid (L.length+1<=maxLen):=by show L.length+1<=maxLen;unfold maxLen;omega
   have hby:Hid ((L.length+1)*32<=140737488355328):=by show(L.length+1)*32<=140737488355328;omega
   clear r0 r2 rf z0 z1 z2 z3 zf
   go_upto_region 13 with fail
   go_cut [14] (fun s14 wx=>∃(ao:Option Addr) (cp:Nat),s14=.slice ao (L.length+1) cp/\Hid (wx.ownsRow w4.heap.size 147 4 (.slice ao (L.length+1) cp) (L.length+1) (L.flatMap Ax++Ax x))/\Hid (Below w4.heap.size w4 wx))
   case first=>
    go_region_held3 (fun w'=>w'.cell? ⟨rg,1,none⟩=some lv/\w'.cell? ⟨w2.heap.size+1,0,none⟩=some (.int .i64 x.seq)/\w'.cell? ⟨w2.heap.size+1,1,none⟩=some (.int .i64 x.ent)/\w'.cell? ⟨w2.heap.size+1,2,none⟩=some (.int .i64 x.kind)/\w'.cell? ⟨w2.heap.size+1,3,none⟩=some (.int .i64 x.tick))
     (first|exact⟨r1,x0,x1,x2,x3⟩|exact vV (by repeat(first|assumption|exact Below.refl _ _|refine Below.drew ?_|refine Below.alloc ?_ (by first|exact Below.size b5|simp) _)) ⟨r1,x0,x1,x2,x3⟩)
     (first|(go_at_call 95;refine(HCL.out _ ?_).mono ?_;(repeat(first|exact Below.refl _ _|refine Below.drew ?_|refine Below.alloc ?_ (by simp) _));rintro e w5 ⟨ao,cp,rfl,ho5,d5,b5⟩)|(refine Ht rfl (.tmp 76) (.tmp 78) 68 rfl w4.heap.size 147 i0 _ 4 32 underlying68 hi0 hz0 hz1 hz2 rfl (by decide) _ L.length _ rfl (by first|exact ho5.alloc _|exact ho5) _ 1 1 (Ax x) rfl rfl (by first|exact Av _ (Ax x) _|exact tP d5 (Av _ (Ax x) _)) (by intro u hu;simp[Ax]at hu;rcases hu with rfl|rfl|rfl|rfl<;>rfl) h63.out hby.out ?_ ?_;(first|exact Below.size b5|exact Nat.le_trans (Below.size b5) (by simp));intro a1 k1 w6 ho6 hg6;have b6:=Abg (by repeat(first|exact Below.alloc b5 (Below.size b5) _|exact b5|refine Below.drew ?_)) (by first|exact ho5.alloc _|exact ho5) hg6))
    all_goals(go_wp2_with fail;go_meet)
    all_goals exact⟨a1,k1,rfl,ho6,b6⟩
   case rest=>
   obtain⟨ao,cp,rfl,ho,hb6⟩:=hcut
   clear r1 x0 x1 x2 x3 HCL
   obtain⟨lo,hlo⟩:∃lo,lo=L.length+1-8:=⟨_,rfl⟩
   rw[<-hlo]at HR
   obtain⟨g,q1,q2,q3⟩:=Te ho.out (Nat.succ_pos _)
   subst q1
   have H6:=Aia (H4.out.below hb6.out)
   have HN6:=Aia (Af hb6.out HN4.out (Aa HN4.out))
   have HX6:=Aia (Af hb6.out HX4.out (Aa HX4.out))
   obtain⟨r0,r1,r2,rf⟩:=Fo H6.out.ring.box
   obtain⟨z0,z1,z2,z3⟩:=Bn HN6.out
   have zf:∀o,wc.frozen? ⟨w.heap.size,o,none⟩=false:=fun o=>Jc HN6.out
   obtain⟨x0,x1,x2,x3⟩:=Bn HX6.out
   have hrx:¬rg=w2.heap.size+1:=by omega
   have hxr:¬w2.heap.size+1=rg:=by omega
   have hz4:w.heap.size<w4.heap.size:=Aa HN4.out
   have hLL:(L++ [x]).length=L.length+1:=by simp
   have hsl:=E7 ho.out
   rw[show L.flatMap Ax++Ax x=(L++ [x]).flatMap Ax by simp,<-hLL]at hsl
   by_cases h8:L.length<=7
   ·have hlo0:lo=0:=by omega
    rw[hlo0,List.drop_zero]at HR
    have HDR:Hid (Ay (fun b=>w4.heap.size<=b) wc (.slice (some ⟨g,0,none⟩) (L.length+1) cp) 4 ((L++ [x]).flatMap Ax) (L++ [x]).length):=Aia (by rw[<-hLL];exact hsl)
    have h8i:(L.length:Int)<=7:=by omega
    have hb7:(wc.setCell ⟨rg,1,none⟩ (.slice (some ⟨g,0,none⟩) (L.length+1) cp)).heap[rg]? =some (Gy c (.slice (some ⟨g,0,none⟩) (L.length+1) cp) false):=by
     have:=H6.out.ring.box
     unfold Gy at this ⊢
     rw[Am _ this];rfl
    have HB7:=Aia hb7
    have HSL:=Aia hsl
    have HLO:=Aia hlo
    clear r0 hsl hb7 hLL hlo h8
    go_wp2_with fail
    refine bodyPost_ret (v:=.tuple #[A3 x,errv sa 0]) (by simp[A3,errv,results,results152,go_sem,z0,z1,z2,z3,World.cell?_setCell_same,World.cell?_setCell_other]) rfl ?_
    rw[HR.out]
    have kz:=Px (wc.setCell ⟨rg,1,none⟩ (.slice (some ⟨g,0,none⟩) (L.length+1) cp)) w.heap.size (.int .i64 x.seq) (.int .i64 x.ent) (.int .i64 x.kind) (.int .i64 x.tick)
    have k7:=Ai wc rg 1 (.slice (some ⟨g,0,none⟩) (L.length+1) cp)
    have kb:Ae (fun b=>b=c\/b=rb\/b=rg\/w.heap.size<=b) w4 wc:=(Ae.of_below hb6.out).mono (fun b _ hb=>by omega)
    have kend:=((K04.out.trans kb).trans (k7.mono (fun b _ hb=>.inr (.inr (.inl hb))))).trans (kz.mono (T:=fun b=>b=c\/b=rb\/b=rg\/w.heap.size<=b) (fun b _ hb=>.inr (.inr (.inr (by omega)))))
    refine⟨rfl,_,HK0.out.fin2 kend (kz.get HB7.out hne) ?_ (L':=(L++ [x])) ?_,kend,.inr (fun b hb=>by obtain rfl:=Option.some.inj hb;exact⟨Nat.le_trans (Nat.le_of_lt hz4) q2,Nat.lt_of_lt_of_le (ho.out.lt _ rfl).2 (Nat.le_trans k7.size kz.size)⟩)⟩
    ·exact((H6.out.mem.keep k7 (fun b hb=>by subst hb;exact HK0.out.lay.2.2.2.2)).keep kz (fun b hb=>by omega))
    ·exact((HDR.out.keep k7 (fun b hb h=>by omega)).keep kz (fun b hb h=>by omega)).mono (fun b hb=>by omega)
   ·have hI:(L.length:Int)+1-8=(lo:Int):=by omega
    have hI1:(1:Int)<=lo:=by omega
    have hdr:=L8 hsl lo (by omega)
    rw[hLL]at hdr
    have HDR:=Aia hdr
    have hsub:=fun w=>Jk w g (L.length+1) cp lo (by omega) (by omega)
    clear hdr
    have hb7:(wc.setCell ⟨rg,1,none⟩ (.slice (some ⟨g,lo*4,none⟩) (L.length+1-lo) (cp-lo))).heap[rg]? =some (Gy c (.slice (some ⟨g,lo*4,none⟩) (L.length+1-lo) (cp-lo)) false):=by
     have:=H6.out.ring.box
     unfold Gy at this ⊢
     rw[Am _ this];rfl
    have HB7:=Aia hb7
    have HSL:=Aia hsl
    have HLO:=Aia hlo
    clear r0 hsl hb7 hLL hlo h8
    go_wp2_with fail
    refine bodyPost_ret (v:=.tuple #[A3 x,errv sa 0]) (by simp[A3,errv,results,results152,go_sem,z0,z1,z2,z3,World.cell?_setCell_same,World.cell?_setCell_other]) rfl ?_
    rw[HR.out]
    have kz:=Px (wc.setCell ⟨rg,1,none⟩ (.slice (some ⟨g,lo*4,none⟩) (L.length+1-lo) (cp-lo))) w.heap.size (.int .i64 x.seq) (.int .i64 x.ent) (.int .i64 x.kind) (.int .i64 x.tick)
    have k7:=Ai wc rg 1 (.slice (some ⟨g,lo*4,none⟩) (L.length+1-lo) (cp-lo))
    have kb:Ae (fun b=>b=c\/b=rb\/b=rg\/w.heap.size<=b) w4 wc:=(Ae.of_below hb6.out).mono (fun b _ hb=>by omega)
    have kend:=((K04.out.trans kb).trans (k7.mono (fun b _ hb=>.inr (.inr (.inl hb))))).trans (kz.mono (T:=fun b=>b=c\/b=rb\/b=rg\/w.heap.size<=b) (fun b _ hb=>.inr (.inr (.inr (by omega)))))
    refine⟨rfl,_,HK0.out.fin2 kend (kz.get HB7.out hne) ?_ (L':=((L++ [x]).drop lo)) ?_,kend,.inr (fun b hb=>by obtain rfl:=Option.some.inj hb;exact⟨Nat.le_trans (Nat.le_of_lt hz4) q2,Nat.lt_of_lt_of_le (ho.out.lt _ rfl).2 (Nat.le_trans k7.size kz.size)⟩)⟩
    ·exact((H6.out.mem.keep k7 (fun b hb=>by subst hb;exact HK0.out.lay.2.2.2.2)).keep kz (fun b hb=>by omega))
    ·exact((HDR.out.keep k7 (fun b hb h=>by omega)).keep kz (fun b hb h=>by omega)).mono (fun b hb=>by omega)
  ·obtain⟨j,hj⟩:∃j,pe=j+1:=⟨pe-1,by omega⟩
   rw[if_neg hpe,hj]at HR
   rw[hj,Nn]
   clear hpe hj
   have hb5:(w4.setCell ⟨rg,2,none⟩ (.bool true)).heap[rg]? =some (Gy c lv true):=by
    have:=H4.out.ring.box
    unfold Gy at this ⊢
    rw[Am _ this];rfl
   have k5:=Ai w4 rg 2 (.bool true)
   have HB5:=Aia hb5
   have K5:=Aia k5
   clear hb5 k5
   go_wp2_with fail
   refine bodyPost_ret (v:=.tuple #[A3 ⟨0,0,0,0⟩,errv sa (j+1)]) (by simp[A3,errv,results,results152,go_sem,z0,z1,z2,z3,World.cell?_setCell_same,World.cell?_setCell_other]) rfl ?_
   rw[HR.out]
   have kz:=Px (w4.setCell ⟨rg,2,none⟩ (.bool true)) w.heap.size (.int .i64 0) (.int .i64 0) (.int .i64 0) (.int .i64 0)
   have kend:=(K04.out.trans (K5.out.mono (fun b _ hb=>.inr (.inr (.inl hb))))).trans (kz.mono (T:=fun b=>b=c\/b=rb\/b=rg\/w.heap.size<=b) (fun b _ hb=>.inr (.inr (.inr (by omega)))))
   refine⟨rfl,lv,HK0.out.fin kend (kz.get HB5.out hne) ?_,kend,.inl rfl⟩
   exact((H4.out.mem.keep K5.out (fun b hb=>by subst hb;exact HK0.out.lay.2.2.2.2)).keep kz (fun b hb=>by omega))
 ·have HE:Hid (Dl m L false en kd tk=(2,⟨0,0,0,0⟩,m,L,false)):=Aia (by
   unfold Dl
   rw[if_neg (by decide),if_pos (by simpa using hok)])
  have hb:¬(0<=en/\en<=255/\0<=kd/\kd<=255/\0<=tk/\tk<281474976710656):=fun h=>hok (decide_eq_true h)
  clear hok
  by_cases b1:en<0
  ·clear hb
   go_wp2_with fail
   go_region
   all_goals
    go_wp2_with fail
    refine bodyPost_ret (v:=.tuple #[A3 ⟨0,0,0,0⟩,errv sa 2]) (by simp[A3,errv,results,results152,go_sem,z0,z1,z2,z3,World.cell?_setCell_same,World.cell?_setCell_other]) rfl ?_
    rw[HE.out]
    exact⟨rfl,lv,HK0.out.below (Cl HBA.out).drew,G0 (Cl HBA.out).drew,.inl rfl⟩
  by_cases b2:255<en
  ·clear hb
   go_wp2_with fail
   go_region
   all_goals
    go_wp2_with fail
    refine bodyPost_ret (v:=.tuple #[A3 ⟨0,0,0,0⟩,errv sa 2]) (by simp[A3,errv,results,results152,go_sem,z0,z1,z2,z3,World.cell?_setCell_same,World.cell?_setCell_other]) rfl ?_
    rw[HE.out]
    exact⟨rfl,lv,HK0.out.below (Cl HBA.out).drew,G0 (Cl HBA.out).drew,.inl rfl⟩
  by_cases b3:kd<0
  ·clear hb
   go_wp2_with fail
   go_region
   all_goals
    go_wp2_with fail
    refine bodyPost_ret (v:=.tuple #[A3 ⟨0,0,0,0⟩,errv sa 2]) (by simp[A3,errv,results,results152,go_sem,z0,z1,z2,z3,World.cell?_setCell_same,World.cell?_setCell_other]) rfl ?_
    rw[HE.out]
    exact⟨rfl,lv,HK0.out.below (Cl HBA.out).drew,G0 (Cl HBA.out).drew,.inl rfl⟩
  by_cases b4:255<kd
  ·clear hb
   go_wp2_with fail
   go_region
   all_goals
    go_wp2_with fail
    refine bodyPost_ret (v:=.tuple #[A3 ⟨0,0,0,0⟩,errv sa 2]) (by simp[A3,errv,results,results152,go_sem,z0,z1,z2,z3,World.cell?_setCell_same,World.cell?_setCell_other]) rfl ?_
    rw[HE.out]
    exact⟨rfl,lv,HK0.out.below (Cl HBA.out).drew,G0 (Cl HBA.out).drew,.inl rfl⟩
  by_cases b5:tk<0
  ·clear hb
   go_wp2_with fail
   go_region
   all_goals
    go_wp2_with fail
    refine bodyPost_ret (v:=.tuple #[A3 ⟨0,0,0,0⟩,errv sa 2]) (by simp[A3,errv,results,results152,go_sem,z0,z1,z2,z3,World.cell?_setCell_same,World.cell?_setCell_other]) rfl ?_
    rw[HE.out]
    exact⟨rfl,lv,HK0.out.below (Cl HBA.out).drew,G0 (Cl HBA.out).drew,.inl rfl⟩
  have b6:281474976710656<=tk:=by omega
  clear hb
  go_wp2_with fail
  go_region
  all_goals
   go_wp2_with fail
   refine bodyPost_ret (v:=.tuple #[A3 ⟨0,0,0,0⟩,errv sa 2]) (by simp[A3,errv,results,results152,go_sem,z0,z1,z2,z3,World.cell?_setCell_same,World.cell?_setCell_other]) rfl ?_
   rw[HE.out]
   exact⟨rfl,lv,HK0.out.below (Cl HBA.out).drew,G0 (Cl HBA.out).drew,.inl rfl⟩
end
end Go.Proofs.YtikehilbmldadaaGreatDoor
