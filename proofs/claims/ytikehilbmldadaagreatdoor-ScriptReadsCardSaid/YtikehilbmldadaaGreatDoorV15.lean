import Derived.Test.YtikehilbmldadaaGreatDoorV09
set_option maxHeartbeats 4000000
set_option maxRecDepth 100000
set_option linter.unusedVariables false
open Go.Proofs.Tryz Go.Proofs.YtikehilbmldadaaGreatDoor.Tryz
namespace Go.Proofs.YtikehilbmldadaaGreatDoor
section
open Go.RowKit
theorem Zk(E:Ap)(vp vg ve vf vl:Value)(w:World):
  Calls Tryz.prog 116 #[.agg (A7 E vp vg ve vf vl)] w fun e w'=>e=.returned (.pointer (some ⟨w.heap.size+1,0,none⟩))/\w'.heap[w.heap.size+1]? =some (Jy none E vp vg ve vf vl)/\Below w.heap.size w w':=by
 unfold A7
 have n1:=Ab (w.alloc (.cells #[.string E.name,.int .i64 E.tol,vp,.int .i64 E.count,.int .i64 E.mn,.int .i64 E.mx,vg,ve,vf,vl] 50)) (Jy none E vp vg ve vf vl)
 rw[World.size_alloc]at n1
 have b1:Below w.heap.size w ((w.alloc (.cells #[.string E.name,.int .i64 E.tol,vp,.int .i64 E.count,.int .i64 E.mn,.int .i64 E.mx,vg,ve,vf,vl] 50)).alloc (Jy none E vp vg ve vf vl)):=
  ((Below.refl _ _).alloc (Nat.le_refl _) _).alloc (by simp) _
 have N1:=Aia n1
 have B1:=Aia b1
 clear n1 b1
 go_enter func116,ntmps116
 go_wp2_with fail
 go_ret
 exact⟨rfl,N1.out,B1.out⟩
theorem Mk(l:Nat)(E:Ap)(vp vg ve vf vl:Value)(w:World)(h:w.heap[l]? =some (Jy none E vp vg ve vf vl)):
  Calls Tryz.prog 153 #[.pointer (some ⟨l,0,none⟩)] w fun e w'=>e=.returned (.string ⟨#[105,100,108,101]⟩)/\w=w':=by
 obtain⟨c0,_⟩:=Dc h
 clear h
 go_enter func153,ntmps153
 go_wp2_with fail
 go_ret
 exact⟨rfl,rfl⟩
def Kl(m:C0):ByteArray:=if m.exp=true then ⟨#[101,120,112,105,114,101,100]⟩ else if 0<m.run then ⟨#[102,97,105,108,101,100]⟩ else ⟨#[111,107]⟩
theorem Nx(l s t:Nat)(E:Ap)(vp vg ve vf vl:Value)(m:C0)(w:World)(h:Fi l s t E vp vg ve vf vl m w):
  Calls Tryz.prog 153 #[.pointer (some ⟨l,0,none⟩)] w fun e w'=>e=.returned (.string (Kl m))/\w=w':=by
 obtain⟨⟨wb,a,g,f,ro,base,lo,hi,h1,h2⟩,ho⟩:=h
 obtain⟨c0,_⟩:=Dc h1
 obtain⟨b0,b1,b2,b3,b4,b5,bf⟩:=Fa h2.box
 clear h1 h2
 unfold Kl
 cases hx:m.exp
 ·rw[hx]at b4
  by_cases hr:0<m.run
  ·go_enter func153,ntmps153
   go_wp2_with fail
   go_ret
   exact⟨by simp,rfl⟩
  ·go_enter func153,ntmps153
   go_wp2_with fail
   go_ret
   exact⟨by simp,rfl⟩
 ·rw[hx]at b4
  go_enter func153,ntmps153
  go_wp2_with fail
  go_ret
  exact⟨by simp,rfl⟩
theorem Ww(l s t:Nat)(E:Ap)(vp vg ve vf vl:Value)(m:C0)(w:World)(h:Fi l s t E vp vg ve vf vl m w):
  Calls Tryz.prog 50 #[.pointer (some ⟨l,0,none⟩)] w fun e w'=>e=.returned .nilIface/\w'.heap[l]? =some (Jy none E vp vg ve vf vl)/\Ae (· =l) w w':=by
 obtain⟨⟨wb,a,g,f,ro,base,lo,hi,h1,h2⟩,ho⟩:=h
 obtain⟨c0,c1,c2,c3,c4,c5,c6,c7,c8,c9,c10,cf⟩:=Dc h1
 have n1:(w.setCell ⟨l,0,none⟩ (.pointer none)).heap[l]? =some (Jy none E vp vg ve vf vl):=by
  unfold Jy at h1
  rw[Am _ h1];rfl
 have k1:=Ai w l 0 (.pointer none)
 have N1:=Aia n1
 have K1:=Aia k1
 clear h1 h2 n1 k1
 go_enter func50,ntmps50
 go_wp2_with fail
 go_ret
 exact⟨rfl,N1.out,K1.out⟩
theorem U8(l s t:Nat)(E:Ap)(pa:Option Addr)(pc:Nat)(vg ve vf vl:Value)(m:C0)(p tick:Int)(w:World)(h:Fi l s t E (.slice pa E.points.length pc) vg ve vf vl m w)
  (hp0:0<=p) (hp1:p<E.points.length) (ht0:0<=tick) (ht1:tick<=1099511627776):
  Calls Tryz.prog 51 #[.pointer (some ⟨l,0,none⟩),.int .i64 p,.int .i64 tick] w fun e w'=>e=.returned .nilIface/\Fi l s t E (.slice pa E.points.length pc) vg ve vf vl (X3 E m p tick) w'/\Ae (fun b=>s<=b/\b<t) w w':=by
 obtain⟨⟨wb,a,g,f,ro,base,lo,hi,h1,h2⟩,ho⟩:=h
 obtain⟨c0,c1,c2,c3,c4,c5,c6,c7,c8,c9,c10,cf⟩:=Dc h1
 obtain⟨b0,b1,b2,b3,b4,b5,bf⟩:=Fa h2.box
 have H1:=Aia h1
 have H2:=Aia h2
 have HO:=Aia ho
 clear h1 h2 ho c1 c2 c4 c5 c6 c7 c8 c9 c10 cf b3 b4 b5 bf
 go_enter func51,ntmps51
 go_wp2_with fail
 refine(T3 a _ _ _ _ _ _ H2.out.al H2.out.ok.c0 H2.out.ok.c1).mono ?_
 rintro e w1 ⟨rfl,a1,k1⟩
 have h21:=H2.out.alive k1 a1 (R0 _ _ _ H2.out.ok.c0 H2.out.ok.c1).1 (R0 _ _ _ H2.out.ok.c0 H2.out.ok.c1).2
 have o1:=H2.out.own_a k1
 have l1:=o1.get H1.out HO.out
 obtain⟨c0',_⟩:=Dc l1
 obtain⟨x0,x1,x2,_⟩:=Fa h21.box
 have L1:=Aia l1
 have O1:=Aia o1
 have H21:=Aia h21
 clear a1 k1 h21 o1 l1 b0 b1 b2 c0 c3 H1 H2
 go_wp2_with fail
 refine(Vq base ro g _ _ p tick w1 H21.out.ga ht0 ht1 H21.out.ok.g H21.out.ok.n).mono ?_
 rintro e w2 ⟨rfl,g2,k2,q2,n2⟩
 have h22:=H21.out.gaps k2 g2 q2 n2
 have o2:=O1.out.trans (H21.out.own_g k2)
 have l2:=(H21.out.own_g k2).get L1.out HO.out
 obtain⟨c0'',_⟩:=Dc l2
 obtain⟨y0,y1,y2,_⟩:=Fa h22.box
 have L2:=Aia l2
 have O2:=Aia o2
 have H22:=Aia h22
 clear g2 k2 q2 n2 h22 o2 l2 x0 x1 x2 c0' H21 O1 L1
 go_wp2_with fail
 refine(Vu lo hi E w2 f _ _ p H22.out.fl).mono ?_
 rintro e w3 ⟨rfl,f3,k3⟩
 have h23:=H22.out.flow k3 f3
 have o3:=O2.out.trans (H22.out.own_f k3)
 have l3:=(H22.out.own_f k3).get L2.out HO.out
 have L3:=Aia l3
 have O3:=Aia o3
 have H23:=Aia h23
 clear f3 k3 h23 o3 l3 y0 y1 y2 c0'' H22 O2 L2
 go_wp2_with fail
 go_ret
 exact⟨rfl,⟨⟨wb,a,g,f,ro,base,lo,hi,L3.out,H23.out⟩,HO.out⟩,O3.out⟩
theorem Tv(l s t:Nat)(E:Ap)(pa:Option Addr)(pc:Nat)(vg ve vf vl u:Value)(m:C0)(p tick:Int)(w:World)(h:Fi l s t E (.slice pa E.points.length pc) vg ve vf vl m w)
  (hp:p<0\/(E.points.length:Int)<=p) (hg:w.cell? ⟨4,0,none⟩=some u):
  Calls Tryz.prog 51 #[.pointer (some ⟨l,0,none⟩),.int .i64 p,.int .i64 tick] w fun e w'=>e=.returned u/\w=w':=by
 obtain⟨⟨wb,a,g,f,ro,base,lo,hi,h1,h2⟩,ho⟩:=h
 obtain⟨c0,c1,c2,c3,c4,c5,c6,c7,c8,c9,c10,cf⟩:=Dc h1
 clear h1 h2 ho c1 c2 c4 c5 c6 c7 c8 c9 c10 cf
 by_cases h0:p<0
 ·clear hp
  go_enter func51,ntmps51
  go_wp2_with fail
  go_ret
  exact⟨rfl,rfl⟩
 ·have hp':(E.points.length:Int)<=p:=by omega
  clear hp
  go_enter func51,ntmps51
  go_wp2_with fail
  go_ret
  exact⟨rfl,rfl⟩
structure KAt (s t wb a g f:Nat) (ro:Option Nat) (base lo hi:Nat) (E:Ap) (m:C0) (w0 w:World):Prop where
 h:Ct s t wb a g f ro base lo hi E m w
 k:Ae (fun b=>s<=b/\b<t) w0 w
theorem KAt.drew{s t wb a g f:Nat}{ro:Option Nat}{base lo hi:Nat}{E:Ap}{m:C0}{w0 w:World}(h:KAt s t wb a g f ro base lo hi E m w0 w):KAt s t wb a g f ro base lo hi E m w0 w.drew:=
 ⟨h.h.keep (S:=fun _=>False) (Ae.refl _ _).drew (fun _ _ _ h=>h),h.k.drew⟩
theorem KAt.cells{s t wb a g f:Nat}{ro:Option Nat}{base lo hi:Nat}{E:Ap}{m m':C0}{w0 w:World}(h:KAt s t wb a g f ro base lo hi E m w0 w)(h0:w0.heap[wb]? =some (Gw a g f m'.whole m'.exp m'.run))(e:m.whole=m'.whole/\m.exp=m'.exp/\m.run=m'.run):
  ∀o,w.cell? ⟨wb,o,none⟩=w0.cell? ⟨wb,o,none⟩:=by
 intro o
 have h1:=h.h.box
 rw[e.1,e.2.1,e.2.2,<-h0]at h1
 exact World.cell?_of_block (a:=⟨wb,o,none⟩) h1
theorem Wx(s t wb a g f:Nat)(ro:Option Nat)(base lo hi:Nat)(E:Ap)(m:C0)(w:World)(h:Ct s t wb a g f ro base lo hi E m w):
  Calls Tryz.prog 197 #[.pointer (some ⟨wb,0,none⟩)] w fun e w'=>e=.returned (.int .i64 (Dh E m))/\Ct s t wb a g f ro base lo hi E (tR m) w'/\Ae (fun b=>s<=b/\b<t) w w':=by
 have hA:Hid (∀W,KAt s t wb a g f ro base lo hi E m w W->Calls Tryz.prog 236 #[.pointer (some ⟨a,0,none⟩),.bool m.whole] W fun e w'=>e=.returned (.bool (G9 (Ny E) E.mn E.mx m.cnt m.whole))/\
   KAt s t wb a g f ro base lo hi E ⟨m.whole,m.exp,m.run,0,m.gs,m.gbad,m.pos,m.fbad⟩ w w'):=by
  intro W hW
  refine(gL a _ _ _ _ _ W hW.h.al).mono ?_
  rintro e w1 ⟨rfl,a1,k1⟩
  exact⟨rfl,hW.h.alive k1 a1 (by decide) (by decide),hW.k.trans (hW.h.own_a k1)⟩
 have hG:Hid (∀W,KAt s t wb a g f ro base lo hi E ⟨m.whole,m.exp,m.run,0,m.gs,m.gbad,m.pos,m.fbad⟩ w W->Calls Tryz.prog 237 #[.pointer (some ⟨g,0,none⟩)] W fun e w'=>e=.returned (.bool (!m.gbad))/\
   KAt s t wb a g f ro base lo hi E ⟨m.whole,m.exp,m.run,0,m.gs,false,m.pos,m.fbad⟩ w w'):=by
  intro W hW
  refine(qC base ro g _ _ W hW.h.ga).mono ?_
  rintro e w1 ⟨rfl,a1,k1⟩
  exact⟨rfl,hW.h.gaps k1 a1 hW.h.ok.g hW.h.ok.n,hW.k.trans (hW.h.own_g k1)⟩
 have hF:Hid (∀W,KAt s t wb a g f ro base lo hi E ⟨m.whole,m.exp,m.run,0,m.gs,false,m.pos,m.fbad⟩ w W->Calls Tryz.prog 238 #[.pointer (some ⟨f,0,none⟩)] W fun e w'=>e=.returned (.bool (!m.fbad))/\
   KAt s t wb a g f ro base lo hi E ⟨m.whole,m.exp,m.run,0,m.gs,false,m.pos,false⟩ w w'):=by
  intro W hW
  refine(qH lo hi E W f _ _ hW.h.fl).mono ?_
  rintro e w1 ⟨rfl,a1,k1⟩
  exact⟨rfl,hW.h.flow k1 a1,hW.k.trans (hW.h.own_f k1)⟩
 have k0:KAt s t wb a g f ro base lo hi E m w w:=⟨h,Ae.refl _ _⟩
 have K0:=Aia k0
 have hbx:=Aia h.box
 obtain⟨b0,b1,b2,b3,b4,b5,bf⟩:=Fa h.box
 clear k0 h b4 b5 bf
 go_enter func197,ntmps197
 go_upto_region 1 with fail
 go_cut [3,4,5] (fun s3 s4 s5 wx=>s3=.bool (G9 (Ny E) E.mn E.mx m.cnt m.whole)/\s4=.bool (!m.gbad)/\s5=.bool (!m.fbad)/\KAt s t wb a g f ro base lo hi E ⟨m.whole,m.exp,m.run,0,m.gs,false,m.pos,false⟩ w wx)
 case first=>
  go_region_held3 (fun w'=>∀o,w'.cell? ⟨wb,o,none⟩=w.cell? ⟨wb,o,none⟩)
   (first|exact fun _=>rfl|exact kf.cells hbx.out ⟨rfl,rfl,rfl⟩|exact kg.cells hbx.out ⟨rfl,rfl,rfl⟩|exact ka.cells hbx.out ⟨rfl,rfl,rfl⟩)
   (first|(go_at_call_of 236 (Value.pointer (some ⟨a,0,none⟩));refine(hA.out _ ?_).mono ?_;(repeat(first|exact K0.out|refine KAt.drew ?_));rintro e w1 ⟨rfl,ka⟩)|(go_at_call_of 237 (Value.pointer (some ⟨g,0,none⟩));refine(hG.out _ ?_).mono ?_;(repeat(first|exact ka|refine KAt.drew ?_));rintro e w2 ⟨rfl,kg⟩)|(go_at_call_of 238 (Value.pointer (some ⟨f,0,none⟩));refine(hF.out _ ?_).mono ?_;(repeat(first|exact kg|refine KAt.drew ?_));rintro e w3 ⟨rfl,kf⟩))
  all_goals(go_wp2_with fail;go_meet)
  all_goals exact⟨rfl,rfl,rfl,by repeat(first|exact kf|refine KAt.drew ?_)⟩
 case rest=>
 obtain⟨rfl,rfl,rfl,hk⟩:=hcut
 obtain⟨x0,x1,x2,x3,x4,x5,xf⟩:=Fa hk.h.box
 have n1:(wc.setCell ⟨wb,3,none⟩ (.bool true)).heap[wb]? =some (Gw a g f true m.exp m.run):=by
  have h1:=hk.h.box
  unfold Gw at h1 ⊢
  rw[Am _ h1];rfl
 have k1:=Ai wc wb 3 (.bool true)
 have H2:=Aia (hk.h.box' k1 n1)
 have K2:=Aia (hk.k.trans (hk.h.own_w k1))
 have hK:Hid (∀A,G9 (Ny E) E.mn E.mx m.cnt m.whole=A->Dh E m=if A=false then 1 else if m.gbad=true then 2 else if m.fbad=true then 3 else 0):=fun A hA=>by unfold Dh;rw[hA]
 generalize hA:G9 (Ny E) E.mn E.mx m.cnt m.whole=A at hK ⊢
 have HK:=Aia (hK.out A rfl)
 clear hK hk n1 k1 b0 b1 b2 b3 K0 hbx hA hF hG
 cases A
 ·go_wp2_with fail
  go_ret
  exact⟨A6 (by rw[HK.out];rfl),H2.out,K2.out⟩
 ·cases hg:m.gbad
  ·cases hf:m.fbad
   ·rw[hg,hf]at HK
    go_wp2_with fail
    go_ret
    exact⟨A6 (by rw[HK.out];rfl),H2.out,K2.out⟩
   ·rw[hg,hf]at HK
    go_wp2_with fail
    go_ret
    exact⟨A6 (by rw[HK.out];rfl),H2.out,K2.out⟩
  ·rw[hg]at HK
   go_wp2_with fail
   go_ret
   exact⟨A6 (by rw[HK.out];rfl),H2.out,K2.out⟩
end
section
open Go.RowKit
theorem vD(S:Nat->Prop)(w:World)(q:Nat):Ae S w (w.drewN q):=(Ak (Ag q (Below.refl w.heap.size w))).mono (fun _ _ h=>h.elim)
theorem rQ{w:World}{b a g f:Nat}{wh ex:Bool}{run:Int}(h:w.heap[b]? =some (Gw a g f wh ex run))(r:Int):(w.setCell ⟨b,5,none⟩ (.int .i64 r)).heap[b]? =some (Gw a g f wh ex r):=by
 unfold Gw at h ⊢
 rw[Am _ h];rfl
theorem rR{w:World}{b a g f:Nat}{wh ex:Bool}{run:Int}(h:w.heap[b]? =some (Gw a g f wh ex run))(x:Bool):(w.setCell ⟨b,4,none⟩ (.bool x)).heap[b]? =some (Gw a g f wh x run):=by
 unfold Gw at h ⊢
 rw[Am _ h];rfl
theorem KAt.set5{s t wb a g f:Nat}{ro:Option Nat}{base lo hi:Nat}{E:Ap}{m:C0}{w0 w:World}(h:KAt s t wb a g f ro base lo hi E m w0 w)(r:Int):KAt s t wb a g f ro base lo hi E ⟨m.whole,m.exp,r,m.cnt,m.gs,m.gbad,m.pos,m.fbad⟩ w0 (w.setCell ⟨wb,5,none⟩ (.int .i64 r)):=
 ⟨h.h.box' (Ai w wb 5 _) (rQ h.h.box r),h.k.trans (h.h.own_w (Ai w wb 5 _))⟩
theorem KAt.set4{s t wb a g f:Nat}{ro:Option Nat}{base lo hi:Nat}{E:Ap}{m:C0}{w0 w:World}(h:KAt s t wb a g f ro base lo hi E m w0 w)(x:Bool):KAt s t wb a g f ro base lo hi E ⟨m.whole,x,m.run,m.cnt,m.gs,m.gbad,m.pos,m.fbad⟩ w0 (w.setCell ⟨wb,4,none⟩ (.bool x)):=
 ⟨h.h.box' (Ai w wb 4 _) (rR h.h.box x),h.k.trans (h.h.own_w (Ai w wb 4 _))⟩
theorem KAt.drewN{s t wb a g f:Nat}{ro:Option Nat}{base lo hi:Nat}{E:Ap}{m:C0}{w0 w:World}(h:KAt s t wb a g f ro base lo hi E m w0 w)(n:Nat):KAt s t wb a g f ro base lo hi E m w0 (w.drewN n):=
 ⟨h.h.keep (S:=fun _=>False) (vD _ _ _) (fun _ _ _ h=>h),Dq n h.k⟩
theorem Zl(l s t:Nat)(E:Ap)(vp vg ve vf vl:Value)(m:C0)(w:World)(h:Fi l s t E vp vg ve vf vl m w)(hr0:0<=m.run)(hr1:m.run<=1000000):
  Calls Tryz.prog 151 #[.pointer (some ⟨l,0,none⟩)] w fun e w'=>e=.returned (.tuple #[.int .i64 (Dh E m),.bool (Hx E m)])/\Fi l s t E vp vg ve vf vl (D1 E m) w'/\Ae (fun b=>s<=b/\b<t) w w':=by
 obtain⟨⟨wb,a,g,f,ro,base,lo,hi,h1,h2⟩,ho⟩:=h
 obtain⟨c0,c1,c2,c3,c4,c5,c6,c7,c8,c9,c10,cf⟩:=Dc h1
 have H1:=Aia h1
 have H2:=Aia h2
 have HO:=Aia ho
 clear h1 h2 ho c1 c2 c3 c4 c5 c6 c7 c8 c9 c10 cf
 go_enter func151,ntmps151
 go_wp2_with fail
 refine(Wx s t wb a g f ro base lo hi E m w H2.out).mono ?_
 rintro e w1 ⟨rfl,h21,k1⟩
 have q1:KAt s t wb a g f ro base lo hi E (tR m) w w1:=⟨h21,k1⟩
 have c0':=(Dc (k1.get H1.out HO.out)).1
 obtain⟨x0,x1,x2,x3,x4,x5,xf⟩:=Fa h21.box
 simp only[tR]at x5
 have q2:=Aia (q1.set5 (m.run+1))
 have q3:=Aia ((q1.set5 (m.run+1)).set5 0)
 have c0'':=(Dc ((q1.set5 (m.run+1)).k.get H1.out HO.out)).1
 clear h21 k1 q1 x0 x1 x2 x3 x4 c0 H2
 go_upto_if 25 with fail
 go_cut [] (fun wx=>KAt s t wb a g f ro base lo hi E ⟨true,m.exp,Hc E m,0,m.gs,false,m.pos,false⟩ w wx)
 case first=>
  by_cases hk:Dh E m=0
  ·have hb:(Dh E m==0)=true:=by simp[hk]
   have HR:Hid (Hc E m=0):=if_pos hk
   clear hk
   go_wp2_with fail
   go_meet
   rw[HR.out];exact q3.out
  ·have hb:(Dh E m==0)=false:=by simp[hk]
   have HR:Hid (Hc E m=m.run+1):=if_neg hk
   clear hk
   go_wp2_with fail
   go_meet
   rw[HR.out];exact q2.out
 case rest=>
 have hk:=hcut
 clear hcut c0' c0'' x5 xf q2 q3
 obtain⟨c0,c1,c2,c3,c4,c5,c6,c7,c8,c9,c10,cf⟩:=Dc (hk.k.get H1.out HO.out)
 obtain⟨x0,x1,x2,x3,x4,x5,xf⟩:=Fa hk.h.box
 simp only at x4 x5
 have HN:Hid (Hx E m=(decide (E.tol<Hc E m)&& !m.exp)):=rfl
 have HE:Hid (D1 E m=⟨true,m.exp||decide (E.tol<Hc E m),Hc E m,0,m.gs,false,m.pos,false⟩):=rfl
 have HK:=Aia hk
 clear hk c1 c3 c4 c5 c6 c7 c8 c9 c10 cf x0 x1 x2 x3
 generalize Hc E m=r at HK HN HE x5
 generalize hKK:Dh E m=K
 have HKK:=Aia hKK
 clear hKK
 by_cases ht:E.tol<r
 ·cases hx:m.exp
  ·rw[hx]at x4
   go_wp2_with fail
   go_quiet (fail)
   have y1:=HK.out.drewN nq
   have y2:=y1.set4 true
   have Y2:=Aia y2
   obtain⟨z0,z1,z2,z3,z4,z5,zf⟩:=Fa y1.h.box
   simp only at z4 z5
   have l2:=Aia (y2.k.get H1.out HO.out)
   clear y1 y2 z0 z1 z2 z3 z5
   go_wp2_with fail
   go_ret2
   rw[HN.out,HE.out,HKK.out,hx,decide_eq_true ht]
   exact⟨rfl,⟨⟨wb,a,g,f,ro,base,lo,hi,l2.out,Y2.out.h⟩,HO.out⟩,Y2.out.k⟩
  ·rw[hx]at x4
   go_wp2_with fail
   go_quiet (fail)
   have Y2:=Aia (HK.out.drewN nq)
   have l2:=Aia (Y2.out.k.get H1.out HO.out)
   go_wp2_with fail
   go_ret2
   rw[HN.out,HE.out,HKK.out,hx,decide_eq_true ht]
   refine⟨rfl,⟨⟨wb,a,g,f,ro,base,lo,hi,l2.out,?_⟩,HO.out⟩,Y2.out.k⟩
   have:=Y2.out.h
   rw[hx]at this
   exact this
 ·have ht':decide (E.tol<r)=false:=decide_eq_false ht
  go_wp2_with fail
  go_quiet (fail)
  have Y2:=Aia (HK.out.drewN nq)
  have l2:=Aia (Y2.out.k.get H1.out HO.out)
  go_wp2_with fail
  go_ret2
  rw[HN.out,HE.out,HKK.out,ht']
  refine⟨rfl,⟨⟨wb,a,g,f,ro,base,lo,hi,l2.out,?_⟩,HO.out⟩,Y2.out.k⟩
  have:=Y2.out.h
  rw[Bool.or_false]
  exact this
end
section
open Go.RowKit
def Ag4(l:Nat)(w:World):Value:=(w.cell? ⟨l,0,none⟩).getD undef
theorem Kk{w:World}{l:Nat}{p:Option Addr}{E:Ap}{vp vg ve vf vl:Value}(h:w.heap[l]? =some (Jy p E vp vg ve vf vl)):
  (w.cell? ⟨l,0,none⟩=some (Ag4 l w)/\w.frozen? ⟨l,0,none⟩=false)/\w.cell? ⟨l,1,none⟩=some (.string E.name)/\w.cell? ⟨l,2,none⟩=some (.int .i64 E.tol)/\w.cell? ⟨l,3,none⟩=some vp/\w.cell? ⟨l,4,none⟩=some (.int .i64 E.count)/\
  w.cell? ⟨l,5,none⟩=some (.int .i64 E.mn)/\w.cell? ⟨l,6,none⟩=some (.int .i64 E.mx)/\w.cell? ⟨l,7,none⟩=some vg/\w.cell? ⟨l,8,none⟩=some ve/\w.cell? ⟨l,9,none⟩=some vf/\w.cell? ⟨l,10,none⟩=some vl:=by
 obtain⟨c0,c1,c2,c3,c4,c5,c6,c7,c8,c9,c10,cf⟩:=Dc h
 exact⟨⟨by unfold Ag4;rw[c0];rfl,cf 0⟩,c1,c2,c3,c4,c5,c6,c7,c8,c9,c10⟩
theorem xL{w:World}{l:Nat}{p:Option Addr}{E:Ap}{vp vg ve vf vl:Value}(h:w.heap[l]? =some (Jy p E vp vg ve vf vl))(q:Option Addr):(w.setCell ⟨l,0,none⟩ (.pointer q)).heap[l]? =some (Jy q E vp vg ve vf vl):=by
 unfold Jy at h ⊢
 rw[Am _ h];rfl
theorem Tx{w w1 w2 w3 W:World}{l a g f hi base:Nat}{ro:Option Nat}{E:Ap}{vp vg ve vf vl:Value}(h1:w.heap[l]? =some (Jy none E vp vg ve vf vl))(hL:E.gaps.length<=100)
  (ha0:w.heap.size<=a) (ha:w1.heap[a]? =some (G4 (Ny E) E.mn E.mx 0)) (b1:Below w.heap.size w w1)
  (hg0:w1.heap.size<=g) (hg:Fw base ro w2 g (E.gaps.map gs0) false) (hr:∀b,ro=some b->w1.heap.size<=b) (b2:Below w1.heap.size w1 w2)
  (hf:Dk w2.heap.size hi E E.edges w3 f (-1) false) (b3:Below w2.heap.size w2 w3)
  (hW:W=(w3.alloc (Gw a g f false false 0)).setCell ⟨l,0,none⟩ (.pointer (some ⟨w3.heap.size,0,none⟩))):
  Fi l w.heap.size (w3.heap.size+1) E vp vg ve vf vl (Iv E) W/\Ae (· =l) w W:=by
 have hl:=Aa h1
 have s1:=b1.size
 have s2:=b2.size
 have s3:=b3.size
 have hal:=Aa ha
 have hgl:=hg.lt
 have hft:=hf.ftop
 have kx:Ae (fun _=>False) w3 (w3.alloc (Gw a g f false false 0)):=(Ae.refl _ _).alloc _
 have ks:Ae (· =l) (w3.alloc (Gw a g f false false 0)) W:=by rw[hW];exact Ai _ l 0 _
 have l3:=(Ak b3).get ((Ak b2).get ((Ak b1).get h1 id) id) id
 have bx:=Ab w3 (Gw a g f false false 0)
 refine⟨⟨⟨w3.heap.size,a,g,f,ro,base,w2.heap.size,hi,?_,?_⟩,by omega⟩,?_⟩
 ·rw[hW];exact xL (Cm _ l3) _
 ·refine⟨⟨by omega,by omega,by omega,fun b hb=>?_,by omega,by omega,by omega,fun hb=>?_,by omega,?_,fun hb=>?_,by omega,by omega,fun b hb=>?_⟩,?_,?_,?_,?_,pF E hL,?_⟩
  ·have h:=hr b hb
   have h2:=(hgl.2.2 b hb).2
   omega
  ·have h2:=(hgl.2.2 _ hb).2
   omega
  ·omega
  ·have h:=hr _ hb
   omega
  ·have h2:=(hgl.2.2 b hb).2
   omega
  ·exact ks.get bx (by omega)
  ·exact ks.get (kx.get ((Ak b3).get ((Ak b2).get ha id) id) id) (by omega)
  ·exact((hg.keep (Ak b3) (fun _ _ h=>h)).keep kx (fun _ _ h=>h)).keep ks (fun b hb e=>by
    rcases hb with h|h
    ·omega
    ·have:=hr b h;omega)
  ·exact(hf.keep kx (fun _ _ _ h=>h)).keep ks (fun b h1 h2 e=>by omega)
  ·have:=ks.size
   rw[World.size_alloc]at this
   exact this
 ·have k3:Ae (· =l) w w3:=(((Ak b1).trans (Ae.step (S:=fun _=>False) (Ae.refl _ w1) (Ak b2) (fun _ h _=>h))).mono (fun _ _ h=>h.elim)).step (Ak b3) (fun _ h _=>h.elim)
  exact(k3.step kx (fun _ h _=>h.elim)).trans ks
theorem U9(R:Nat->Prop)(l:Nat)(E:Ap)(vp vg ve vf vl:Value)(w:World)(h1:w.heap[l]? =some (Jy none E vp vg ve vf vl))(h:Ih R w E vp vg ve vf vl)(hR:∀b,R b->b<w.heap.size)(hL:Yr E):
  Calls Tryz.prog 49 #[.pointer (some ⟨l,0,none⟩)] w fun e w'=>e=.returned .nilIface/\∃t,Fi l w.heap.size t E vp vg ve vf vl (Iv E) w'/\Ae (· =l) w w':=by
 obtain⟨pa,pc,rfl⟩:=h.p.val
 obtain⟨ga,gc,rfl⟩:=h.g.val
 obtain⟨ea,ec,rfl⟩:=h.e.val
 obtain⟨fa,fc,rfl⟩:=h.f.val
 obtain⟨la,lc,rfl⟩:=h.l.val
 have hA:Hid (∀W,Below w.heap.size w W->Calls Tryz.prog 89 #[.agg #[.string E.name,.int .i64 E.tol,.slice pa E.points.length pc,.int .i64 E.count,.int .i64 E.mn,.int .i64 E.mx,.slice ga E.gaps.length gc,.slice ea E.edges.length ec,.slice fa E.first.length fc,.slice la E.last.length lc]] W
   fun e w'=>∃a,e=.returned (.pointer (some ⟨a,0,none⟩))/\w.heap.size<=a/\w'.heap[a]? =some (G4 (Ny E) E.mn E.mx 0)/\Below w.heap.size w w'):=by
  intro W hW
  refine(gK _ _ _ _ _ _ _ _ _ _ _ _ W).mono ?_
  rintro e w1 ⟨a,rfl,q1,q2,q3⟩
  exact⟨a,rfl,Nat.le_trans hW.size q1,q2,hW.trans (q3.mono hW.size)⟩
 have hG:Hid (∀W,Below w.heap.size w W->Calls Tryz.prog 90 #[.agg #[.string E.name,.int .i64 E.tol,.slice pa E.points.length pc,.int .i64 E.count,.int .i64 E.mn,.int .i64 E.mx,.slice ga E.gaps.length gc,.slice ea E.edges.length ec,.slice fa E.first.length fc,.slice la E.last.length lc]] W
   fun e w'=>∃g ro base,e=.returned (.pointer (some ⟨g,0,none⟩))/\W.heap.size<=g/\Fw base ro w' g (E.gaps.map gs0) false/\(∀b,ro=some b->W.heap.size<=b)/\Below W.heap.size W w'/\Below w.heap.size w w'):=by
  intro W hW
  refine(qB R _ _ _ _ _ _ _ _ _ E.gaps ga gc W (h.g.below hW hR) (rF hR hW) hL.g).mono ?_
  rintro e w1 ⟨rfl,⟨ro,hg⟩,q3⟩
  exact⟨_,ro,_,rfl,by omega,hg,fun b hb=>by have:=(hg.lt.2.2 b hb).1;omega,q3,hW.trans (q3.mono hW.size)⟩
 have hF:Hid (∀W,Below w.heap.size w W->Calls Tryz.prog 91 #[.agg #[.string E.name,.int .i64 E.tol,.slice pa E.points.length pc,.int .i64 E.count,.int .i64 E.mn,.int .i64 E.mx,.slice ga E.gaps.length gc,.slice ea E.edges.length ec,.slice fa E.first.length fc,.slice la E.last.length lc]] W
   fun e w'=>∃f hi,e=.returned (.pointer (some ⟨f,0,none⟩))/\Dk W.heap.size hi E E.edges w' f (-1) false/\Below W.heap.size W w'/\Below w.heap.size w w'):=by
  intro W hW
  refine(qF R E _ _ _ _ _ W (h.below hW hR) (rF hR hW) hL).mono ?_
  rintro e w1 ⟨f,hi,rfl,hf,q3⟩
  exact⟨f,hi,rfl,hf,q3,hW.trans (q3.mono hW.size)⟩
 have H1:=Aia h1
 have hLg:=hL.g
 obtain⟨c0,c1,c2,c3,c4,c5,c6,c7,c8,c9,c10,cf⟩:=Dc h1
 have hll:=Aa h1
 clear h1 h hL
 go_enter func49,ntmps49
 go_wp2_with fail
 go_region_held3 (fun w'=>(w'.cell? ⟨l,0,none⟩=some (Ag4 l w')/\w'.frozen? ⟨l,0,none⟩=false)/\w'.cell? ⟨l,1,none⟩=some (.string E.name)/\w'.cell? ⟨l,2,none⟩=some (.int .i64 E.tol)/\w'.cell? ⟨l,3,none⟩=some (.slice pa E.points.length pc)/\w'.cell? ⟨l,4,none⟩=some (.int .i64 E.count)/\
  w'.cell? ⟨l,5,none⟩=some (.int .i64 E.mn)/\w'.cell? ⟨l,6,none⟩=some (.int .i64 E.mx)/\w'.cell? ⟨l,7,none⟩=some (.slice ga E.gaps.length gc)/\w'.cell? ⟨l,8,none⟩=some (.slice ea E.edges.length ec)/\w'.cell? ⟨l,9,none⟩=some (.slice fa E.first.length fc)/\w'.cell? ⟨l,10,none⟩=some (.slice la E.last.length lc))
  (first|exact Kk H1.out|exact Kk l1.out|exact Kk l2.out|exact Kk l3.out|exact Kk (Cm _ l3.out)|exact Kk (xL (Cm _ l3.out) _))
  (first|(go_at_call 89;refine(hA.out _ ?_).mono ?_;(repeat(first|exact Below.refl _ _|refine Below.drew ?_));rintro e w1 ⟨a,rfl,qa,ha,b1⟩;have l1:=Aia ((Ak b1).get H1.out id))|(go_at_call 90;refine(hG.out _ ?_).mono ?_;(repeat(first|exact b1|refine Below.drew ?_));rintro e w2 ⟨g,ro,base,rfl,qg,hg,hr,d2,b2⟩;have l2:=Aia ((Ak b2).get H1.out id))|(go_at_call 91;refine(hF.out _ ?_).mono ?_;(repeat(first|exact b2|refine Below.drew ?_));rintro e w3 ⟨f,hi,rfl,hf,d3,b3⟩;have l3:=Aia ((Ak b3).get H1.out id)))
 all_goals(go_wp2_with fail)
 go_ret
 have e2:Below w1.heap.size w1 w2:=⟨d2.os,d2.tape,d2.output,d2.size,d2.block⟩
 have e3:Below w2.heap.size w2 w3:=⟨d3.os,d3.tape,d3.output,d3.size,d3.block⟩
 have fin:=Tx (w:=w) (w1:=w1) (w2:=w2) (w3:=w3) H1.out hLg qa ha b1 qg hg hr e2 hf e3 rfl
 exact⟨rfl,_,fin⟩
end
section
open Go.RowKit
theorem Tw(l s t:Nat)(E:Ap)(vp vg ve vf vl u:Value)(m:C0)(w:World)(h:Fi l s t E vp vg ve vf vl m w)(hg:w.cell? ⟨9,0,none⟩=some u):
  Calls Tryz.prog 49 #[.pointer (some ⟨l,0,none⟩)] w fun e w'=>e=.returned u/\w=w':=by
 obtain⟨⟨wb,a,g,f,ro,base,lo,hi,h1,h2⟩,ho⟩:=h
 obtain⟨c0,_⟩:=Dc h1
 clear h1 h2
 go_enter func49,ntmps49
 go_wp2_with fail
 go_ret
 exact⟨rfl,rfl⟩
theorem U7(l:Nat)(E:Ap)(vp vg ve vf vl u:Value)(w:World)(h:w.heap[l]? =some (Jy none E vp vg ve vf vl))(hg:w.cell? ⟨8,0,none⟩=some u):
  Calls Tryz.prog 50 #[.pointer (some ⟨l,0,none⟩)] w fun e w'=>e=.returned u/\w=w':=by
 obtain⟨c0,_⟩:=Dc h
 clear h
 go_enter func50,ntmps50
 go_wp2_with fail
 go_ret
 exact⟨rfl,rfl⟩
theorem Sn(l:Nat)(E:Ap)(vp vg ve vf vl u:Value)(p t:Int)(w:World)(h:w.heap[l]? =some (Jy none E vp vg ve vf vl))(hg:w.cell? ⟨8,0,none⟩=some u):
  Calls Tryz.prog 51 #[.pointer (some ⟨l,0,none⟩),.int .i64 p,.int .i64 t] w fun e w'=>e=.returned u/\w=w':=by
 obtain⟨c0,_⟩:=Dc h
 clear h
 go_enter func51,ntmps51
 go_wp2_with fail
 go_ret
 exact⟨rfl,rfl⟩
theorem Wy(l:Nat)(E:Ap)(vp vg ve vf vl:Value)(w:World)(h:w.heap[l]? =some (Jy none E vp vg ve vf vl)):
  Calls Tryz.prog 151 #[.pointer (some ⟨l,0,none⟩)] w fun e w'=>e=.returned (.tuple #[.int .i64 0,.bool false])/\w=w':=by
 obtain⟨c0,_⟩:=Dc h
 clear h
 go_enter func151,ntmps151
 go_wp2_with fail
 go_ret2
 exact⟨rfl,rfl⟩
end
section
open Go.RowKit
theorem P7{P:Program}(w:World)(t ty e:TypeId)(i:TypeInfo)(ht:P.underlying t=some (.slice e))(hi:P.info? e=some i)
  (g off sLen sCap:Nat) (cur:Array Value) (hg:w.heap[g]? =some (.cells cur e (0,0)))
  (a:Addr) (m c:Nat) (news:List Value) (hl:news.length=m*i.size) (hnews:∀j u,news[j]? =some u->w.cell? (a.add j)=some u) (h1:∀u∈news,u.oneCell'=true)
  (hroom:sLen+m<=sCap) (hfit:off+sLen*i.size+news.length<=cur.size):
  (Builtin.append_ #[t,t] ty #[.slice (some ⟨g,off,none⟩) sLen sCap,.slice (some a) m c]).run P w=
   .ok (.slice (some ⟨g,off,none⟩) (sLen+m) sCap) (w.setRow g (cur.toList.take (off+sLen*i.size)++news++cur.toList.drop (off+sLen*i.size+news.length)).toArray):=by
 have hf:=run_firstCells_some (P:=P) w i.size m a m c news hl hnews
 have hst:=run_storeCells_at P g (off+sLen*i.size) e news 0 cur w hg (by simpa using hfit) h1
 simp only[Nat.add_zero]at hst
 simp[Builtin.append_,run_underlying ht,sizeOf,typeInfo,hi,Builtin.lenOf,hroom,hf,Cz,hst]
def As(w:World)(base:Nat)(e:TypeId)(size:Nat)(v:Value)(n:Nat)(xs:List Value):Prop:=
  xs.length=n*size/\
  ((v=.slice none 0 0/\n=0)\/
   ∃g off cap cur,v=.slice (some ⟨g,off,none⟩) n cap/\base<=g/\w.heap[g]? =some (.cells cur e (0,0))/\n<=cap/\cap<=maxLen/\off+cap*size<=cur.size/\(cur.toList.drop off).take (n*size)=xs)
section
variable {w w':World} {base:Nat} {e:TypeId} {size:Nat} {v:Value} {n:Nat} {xs:List Value}
theorem As.of_owns(h:w.ownsRow base e size v n xs):As w base e size v n xs:=by
 refine⟨h.1,?_⟩
 rcases h.2 with hn|⟨g,cap,cur,h1,h2,h3,h4,h5,h6,h7⟩
 ·exact .inl hn
 ·exact .inr ⟨g,0,cap,cur,h1,h2,h3,h4,h5,by omega,by simpa using h7⟩
theorem As.lt(h:As w base e size v n xs):∀k,v.ownBlock=some k->base<=k/\k<w.heap.size:=by
 intro k hk
 rcases h.2 with⟨rfl,_⟩|⟨g,off,cap,cur,rfl,h2,h3,_⟩
 ·cases hk
 ·obtain rfl:=Option.some.inj hk
  exact⟨h2,Aa h3⟩
theorem As.keep{S:Nat->Prop}(h:As w base e size v n xs)(k:Ae S w w')(hS:∀b,v.ownBlock=some b->¬S b):As w' base e size v n xs:=by
 refine⟨h.1,?_⟩
 rcases h.2 with hn|⟨g,off,cap,cur,rfl,h2,h3,rest⟩
 ·exact .inl hn
 ·exact .inr ⟨g,off,cap,cur,rfl,h2,k.get h3 (hS g rfl),rest⟩
theorem As.later(h:As w base e size v n xs)(b:Below w.heap.size w w'):As w' base e size v n xs:=
 h.keep (Ae.of_below b) (fun b hb=>by have:=(h.lt b hb).2;omega)
theorem As.slOf(h:As w base e size v n xs):Ay (fun b=>base<=b/\v.ownBlock=some b) w v size xs n:=by
 refine⟨h.1,?_⟩
 rcases h.2 with⟨rfl,rfl⟩|⟨g,off,cap,cur,rfl,h2,h3,h4,h5,h6,h7⟩
 ·exact⟨none,0,rfl,Nat.le_refl _,by simp[maxLen],fun _=>rfl,fun hp=>by have:=h.1;omega⟩
 ·refine⟨_,cap,rfl,h4,h5,(fun h=>by cases h),fun hp=>⟨g,off,rfl,⟨h2,rfl⟩,Aa h3,fun k u hu=>?_⟩⟩
  have hk:k<xs.length:=(List.getElem?_eq_some_iff.1 hu).1
  rw[<-h7,List.getElem?_take_of_lt (by rw[h.1]at hk;exact hk),List.getElem?_drop]at hu
  simp only[World.cell?,h3]
  simpa using hu
theorem As.val(h:As w base e size v n xs):∃ao cap,v=.slice ao n cap:=by
 rcases h.2 with⟨rfl,rfl⟩|⟨g,off,cap,cur,rfl,_⟩
 ·exact⟨_,_,rfl⟩
 ·exact⟨_,_,rfl⟩
theorem As.cells{g off cap:Nat}(h:As w base e size (.slice (some ⟨g,off,none⟩) n cap) n xs):∀j u,xs[j]? =some u->w.cell? ((⟨g,off,none⟩:Addr).add j)=some u:=by
 intro j u hu
 rcases h.2 with⟨h,_⟩|⟨g',off',cap',cur,hv,h2,h3,h4,h5,h6,h7⟩
 ·cases h
 ·obtain⟨e1,_,_⟩:=Value.slice.inj hv
  obtain⟨rfl,rfl,_⟩:=Addr.mk.inj (Option.some.inj e1)
  have hk:j<xs.length:=(List.getElem?_eq_some_iff.1 hu).1
  rw[<-h7,List.getElem?_take_of_lt (by rw[h.1]at hk;exact hk),List.getElem?_drop]at hu
  rw[Cz]
  simp only[World.cell?,h3]
  simpa using hu
end
theorem Od{P:Program}(w:World)(base:Nat)(t ty e:TypeId)(i:TypeInfo)(z:Value)(size bytes:Nat)(ht:P.underlying t=some (.slice e))(hi:P.info? e=some i)(hz:i.zero=some z)
  (hsize:i.size=size) (hby:i.bytes=bytes) (hzs:z.cells.size=size) (hsz:0<size)
  (v:Value) (n:Nat) (xs:List Value) (hown:As w base e size v n xs)
  (a:Addr) (m c:Nat) (news:List Value) (hl:news.length=m*size) (hnews:∀j u,news[j]? =some u->w.cell? (a.add j)=some u) (h1:∀u∈news,u.oneCell'=true)
  (h63:n+m<=maxLen) (hbytes:(n+m)*bytes<=140737488355328) (hbase:base<=w.heap.size):
  ∃v' w',(Builtin.append_ #[t,t] ty #[v,.slice (some a) m c]).run P w=.ok v' w'/\As w' base e size v' (n+m) (xs++news)/\w.grownBy w' v.ownBlock/\(v'.ownBlock=v.ownBlock\/∀b,v'.ownBlock=some b->w.heap.size<=b):=by
 rcases hown.2 with hv|⟨g,off,cap,cur,rfl,hbg,hg,hnc,hcm,hcs,htake⟩
 ·obtain⟨rfl,rfl⟩:=hv
  have ho:w.ownsRow base e size (.slice none 0 0) 0 xs:=⟨hown.1,.inl ⟨rfl,rfl⟩⟩
  obtain⟨v',w',hr,h2,h3,_⟩:=run_append_own (P:=P) w base t ty e i z size bytes ht hi hz hsize hby hzs hsz _ 0 xs ho a m c news hl hnews h1 h63 hbytes hbase
  refine⟨v',w',hr,.of_owns h2,h3,.inr (fun b hb=>?_)⟩
  have hx:xs= []:=List.eq_nil_of_length_eq_zero (by simpa using hown.1)
  subst hx
  have ho2:w.ownsRow w.heap.size e size (.slice none 0 0) 0 []:=World.ownsRow_nil _ _ _ _
  obtain⟨v2,w2,hr2,h22,_⟩:=run_append_own (P:=P) w w.heap.size t ty e i z size bytes ht hi hz hsize hby hzs hsz _ 0 [] ho2 a m c news hl hnews h1 h63 hbytes (Nat.le_refl _)
  rw[hr]at hr2
  injection hr2 with e1 e2
  subst e1
  exact(h22.lt b hb).1
 ·subst hsize
  subst hby
  have hlen:(xs++news).length=(n+m)*i.size:=by rw[List.length_append,hown.1,hl,Nat.add_mul]
  by_cases hroom:n+m<=cap
  ·have hmul:(n+m)*i.size<=cap*i.size:=Nat.mul_le_mul_right _ hroom
   have hfit:off+n*i.size+news.length<=cur.size:=by rw[hl];rw[Nat.add_mul]at hmul;omega
   have hr:=P7 (P:=P) w t ty e i ht hi g off n cap cur hg a m c news hl hnews h1 hroom hfit
   refine⟨_,_,hr,⟨hlen,.inr ⟨g,off,cap,_,rfl,hbg,setRow_heap w g cur _ e _ hg,hroom,hcm,?_,?_⟩⟩,⟨rfl,rfl,rfl,by simp,fun k _ hk=>setRow_other w g k _ (fun e=>hk (by simp[Value.ownBlock,e]))⟩,.inl rfl⟩
   ·simp only[List.size_toArray,List.length_append,List.length_take,List.length_drop,Array.length_toList]
    omega
   ·have ho:off<=cur.toList.length:=by rw[Array.length_toList];omega
    have e1:cur.toList.take (off+n*i.size)=cur.toList.take off++xs:=by rw[<-htake,<-List.take_add]
    rw[e1,List.toList_toArray]
    simp only[List.append_assoc]
    rw[List.drop_append_of_le_length (by rw[List.length_take];omega),List.drop_eq_nil_of_le (by rw[List.length_take];omega),List.nil_append,<-List.append_assoc,<-hlen]
    exact List.take_left
  ·have hsmall:n+m<=9223372036854775807:=by simp only[maxLen]at h63;omega
   have hr:=run_append_grow (P:=P) w t ty e i z ht hi hz ⟨g,off,none⟩ n cap xs hown.1 hown.cells a m c news hl hnews (by omega) (by omega) (growslice_fits (by omega) hbytes)
   have hge:=grownCap_ge w (n+m) cap e
   have hcm:grownCap w (n+m) cap e<=maxLen:=grownCap_le_maxLen w (n+m) cap e h63
   refine⟨_,_,hr,.of_owns ⟨hlen,.inr ⟨w.heap.size,_,_,rfl,hbase,heap_alloc_new w.drew _,hge,hcm,?_,?_⟩⟩,⟨rfl,rfl,rfl,by simp,fun k hk _=>Below.heap_alloc _ _ _ hk⟩,.inr (fun b hb=>by obtain rfl:=Option.some.inj hb;exact Nat.le_refl _)⟩
   ·simp only[Array.size_append,List.size_toArray,size_zeroCells,hzs,hown.1,hl,<-Nat.add_mul]
    congr 1
    omega
   ·simp only[Array.toList_append,List.append_assoc]
    rw[<-List.append_assoc,<-hlen]
    exact List.take_left
theorem A5{P:Program}{w:World}{ops:Array Oper}{rest:List Oper}{o:Oper}{a:Act}{Q:Exit->Act->World->Prop}(hgd:o.guard=none)(s x:Operand)(t:TypeId)
  (ho:o.op=.call { callee:=.builtin .append,args:=#[s,x],argTypes:=#[t,t]})
  (base:Nat) (e:TypeId) (i:TypeInfo) (z:Value) (size bytes:Nat) (ht:P.underlying t=some (.slice e)) (hi:P.info? e=some i) (hz:i.zero=some z)
  (hsize:i.size=size) (hby:i.bytes=bytes) (hzs:z.cells.size=size) (hsz:0<size)
  (v:Value) (n:Nat) (xs:List Value) (hs:a.eval s=v) (hown:As w base e size v n xs)
  (ad:Addr) (m c:Nat) (news:List Value) (hx:a.eval x=.slice (some ad) m c) (hl:news.length=m*size) (hnews:∀j u,news[j]? =some u->w.cell? (ad.add j)=some u) (h1:∀u∈news,u.oneCell'=true)
  (h63:n+m<=maxLen) (hbytes:(n+m)*bytes<=140737488355328) (hbase:base<=w.heap.size)
  (h:∀ao cap w',As w' base e size (.slice ao (n+m) cap) (n+m) (xs++news)->w.grownBy w' v.ownBlock->((Value.slice ao (n+m) cap).ownBlock=v.ownBlock\/∀b,(Value.slice ao (n+m) cap).ownBlock=some b->w.heap.size<=b)->wpList P ops Q rest (a.put o.dst (.slice ao (n+m) cap)) w'):
  wpList P ops Q (o::rest) a w:=by
 refine wpList_plain hgd fun _ hK=>?_
 obtain⟨v',w',hr,ho',hg,hst⟩:=Od (P:=P) w base t o.type e i z size bytes ht hi hz hsize hby hzs hsz v n xs hown ad m c news hl hnews h1 h63 hbytes hbase
 obtain⟨ao,cap,rfl⟩:=ho'.val
 unfold Oper.wp execOp
 simp only[ho,resolve,invoke,builtin,Sem.run_bind,Sem.run_pure,Result.andThen_ok,List.map_toArray,List.map_cons,List.map_nil,hs,hx,hr]
 exact hK _ _ (h ao cap w' ho' hg hst)
theorem Bq{P:Program}{w:World}{ops:Array Oper}{o:Oper}{a:Act}{K:Act->World->Prop}{Q:Exit->Act->World->Prop}{E:Prop}(hgd:o.guard=none)(s x:Operand)(t:TypeId)
  (ho:o.op=.call { callee:=.builtin .append,args:=#[s,x],argTypes:=#[t,t]})
  (base:Nat) (e:TypeId) (i:TypeInfo) (z:Value) (size bytes:Nat) (ht:P.underlying t=some (.slice e)) (hi:P.info? e=some i) (hz:i.zero=some z)
  (hsize:i.size=size) (hby:i.bytes=bytes) (hzs:z.cells.size=size) (hsz:0<size)
  (v:Value) (n:Nat) (xs:List Value) (hs:a.eval s=v) (hown:As w base e size v n xs)
  (ad:Addr) (m c:Nat) (news:List Value) (hx:a.eval x=.slice (some ad) m c) (hl:news.length=m*size) (hnews:∀j u,news[j]? =some u->w.cell? (ad.add j)=some u) (h1:∀u∈news,u.oneCell'=true)
  (h63:n+m<=maxLen) (hbytes:(n+m)*bytes<=140737488355328) (hbase:base<=w.heap.size)
  (h:∀ao cap w',As w' base e size (.slice ao (n+m) cap) (n+m) (xs++news)->w.grownBy w' v.ownBlock->((Value.slice ao (n+m) cap).ownBlock=v.ownBlock\/∀b,(Value.slice ao (n+m) cap).ownBlock=some b->w.heap.size<=b)->K (a.put o.dst (.slice ao (n+m) cap)) w'):
  if Region.wanted o (yielded ops a.tmps)=true then Oper.wp P o a w K Q else E:=by
 have hw:Region.wanted o (yielded ops a.tmps)=true:=by simp[Region.wanted,hgd]
 rw[if_pos hw]
 obtain⟨v',w',hr,ho',hg,hst⟩:=Od (P:=P) w base t o.type e i z size bytes ht hi hz hsize hby hzs hsz v n xs hown ad m c news hl hnews h1 h63 hbytes hbase
 obtain⟨ao,cap,rfl⟩:=ho'.val
 unfold Oper.wp execOp
 simp only[ho,resolve,invoke,builtin,Sem.run_bind,Sem.run_pure,Result.andThen_ok,List.map_toArray,List.map_cons,List.map_nil,hs,hx,hr]
 exact h ao cap w' ho' hg hst
end
end Go.Proofs.YtikehilbmldadaaGreatDoor
