import Derived.Test.YtikehilbmldadaaGreatDoorV38
import Derived.Test.YtikehilbmldadaaGreatDoorV34
import Derived.Outline
set_option maxHeartbeats 2000000
set_option maxRecDepth 20000
set_option linter.unusedVariables false
open Go.Proofs.Tryz Go.Proofs.YtikehilbmldadaaGreatDoor.Tryz
namespace Go.Proofs.YtikehilbmldadaaGreatDoor
open Go.RowKit
def kwB(k:Nat):ByteArray:=(Dj.getD k (ByteArray.empty,0,ByteArray.empty)).1
def stB(st:Int):ByteArray:=if st<0 then ByteArray.empty else kwB st.toNat
theorem Afq(k:Nat):stB (k:Int)=kwB k:=by unfold stB;rw[if_neg (by omega)];rfl
def Ef:List ByteArray:=[J2,Zb,N7,Sr,Su,Vt,U5]
def Gn(last word:ByteArray):Bool:=
 if word.toList==Ii.toList then last.toList==ByteArray.empty.toList
 else if word.toList==Je.toList then last.toList==Ii.toList
 else if word.toList==N6.toList then last.toList==Je.toList
 else if word.toList==J2.toList then last.toList != ByteArray.empty.toList&&last.toList != Ii.toList&&last.toList != Je.toList
 else if C9 Ef last<0\/C9 Ef word<0 then false
 else decide (C9 Ef last<C9 Ef word)||(decide (C9 Ef last=C9 Ef word)&&word.toList != N7.toList)
theorem zQ(st:Int)(h:-1<=st/\st<=9)(k:Nat)(hk:k<=9):Gn (stB st) (kwB k)=Bi st k:=by
 have hall:∀i:Nat,i<11->∀k:Nat,k<10->Gn (stB ((i:Int)-1)) (kwB k)=Bi ((i:Int)-1) k:=by
  simp only[Gn,ByteArray.toList_eq]
  decide+kernel
 obtain⟨i,hi⟩:∃i:Nat,st=(i:Int)-1:=⟨(st+1).toNat,by omega⟩
 rw[hi]
 exact hall i (by omega) k (by omega)
theorem gU:Ii.toList= [119,105,110,100,111,119]:=by rw[ByteArray.toList_eq];rfl
theorem wM:Je.toList= [99,121,99,108,101]:=by rw[ByteArray.toList_eq];rfl
theorem Aep:N6.toList= [100,101,108,97,121]:=by rw[ByteArray.toList_eq];rfl
theorem Agd:J2.toList= [101,110,116,105,116,121]:=by rw[ByteArray.toList_eq];rfl
theorem Ahm:Zb.toList= [112,111,105,110,116]:=by rw[ByteArray.toList_eq];rfl
theorem Ahf:N7.toList= [99,111,117,110,116]:=by rw[ByteArray.toList_eq];rfl
theorem Ahw:Sr.toList= [103,97,112]:=by rw[ByteArray.toList_eq];rfl
theorem Ah0:Su.toList= [101,100,103,101]:=by rw[ByteArray.toList_eq];rfl
theorem Ahx:Vt.toList= [102,105,114,115,116]:=by rw[ByteArray.toList_eq];rfl
theorem Ahn:U5.toList= [108,97,115,116]:=by rw[ByteArray.toList_eq];rfl
theorem Ahz:ByteArray.empty.toList= []:=by rw[ByteArray.toList_eq];rfl
def fwB(k:Nat):ByteArray:=(Dj.getD k (ByteArray.empty,0,ByteArray.empty)).2.2
theorem xV{w0 fs:ByteArray}{k:Nat}(h:Gb w0=some (k,fs)):w0=kwB k/\fs=fwB k:=by
 have hok:Dr w0=true:=by unfold Dr;rw[h];rfl
 obtain⟨p,hp1,e,h1,h2⟩:=Oy hok
 have e1:p.2.1=k:=by rw[<-h1];unfold Bp;rw[h];rfl
 have e2:p.2.2=fs:=by rw[<-h2];unfold Ba;rw[h];rfl
 have hall:∀p∈Dj,p.1=kwB p.2.1/\p.2.2=fwB p.2.1:=by decide
 obtain⟨a,b⟩:=hall p hp1
 rw[<-e1,<-e2]
 exact⟨e.symm.trans a,b⟩
theorem Jl{w0:ByteArray}(h:Dr w0=false):∀k,k<=9->(w0.toList==(kwB k).toList)=false:=by
 intro k hk
 rw[beq_eq_false_iff_ne,ByteArray.toList_eq,ByteArray.toList_eq]
 intro e
 have e2:=Jh e
 rw[e2]at h
 have hall:∀k,k<10->Dr (kwB k)=true:=by decide
 rw[hall k (by omega)]at h
 cases h
theorem Qg(k:Nat)(hk:k<=9)(j:Nat)(hj:j<=9):((kwB k).toList==(kwB j).toList)=decide (k=j):=by
 have hall:∀k,k<10->∀j,j<10->((kwB k).data.toList==(kwB j).data.toList)=decide (k=j):=by decide
 rw[ByteArray.toList_eq,ByteArray.toList_eq]
 exact hall k (by omega) j (by omega)
def pick:List UInt8->List Int->List Int
 |f::fs,x::d=>if f=115 then pick fs d else x::pick fs d
 |_,_=>[]
theorem Uz(fs:List UInt8):pick fs []= []:=by cases fs<;>rfl
theorem Xv:∀(fs:List UInt8) (d:List Int) (x:Int),d.length<fs.length->pick fs (d++ [x])=pick fs d++(if fs.getD d.length 0=115 then [] else [x])
 |[],d,x,h=>by simp at h
 |f::fs,[],x,h=>by
  show pick (f::fs) [x]= []++(if f=115 then [] else [x])
  unfold pick
  split
  ·rw[Uz];rfl
  ·rw[Uz];rfl
 |f::fs,y::d,x,h=>by
  have ih:=Xv fs d x (by simpa using h)
  show pick (f::fs) (y::(d++ [x]))=pick (f::fs) (y::d)++(if fs.getD d.length 0=115 then [] else [x])
  unfold pick
  split
  ·exact ih
  ·rw[ih];rfl
theorem Aai{s:ByteArray}(h:N5 s<0):Dz s=none:=by
 unfold N5 at h
 cases hv:Dz s with
 |none=>rfl
 |some k=>rw[hv]at h;simp at h;omega
theorem Aah{s:ByteArray}(h:¬N5 s<0):∃k,Dz s=some k/\N5 s=k:=by
 unfold N5 at h ⊢
 cases hv:Dz s with
 |none=>rw[hv]at h;simp at h
 |some k=>exact⟨k,rfl,rfl⟩
theorem Abi{k i:Nat}(hk:k<=9)(hi:i<(fwB k).size):(fwB k).data.toList.getD i 0=110\/(fwB k).data.toList.getD i 0=112\/(fwB k).data.toList.getD i 0=115:=by
 have hall:∀k,k<10->∀i,i<(fwB k).size->(fwB k).data.toList.getD i 0=110\/(fwB k).data.toList.getD i 0=112\/(fwB k).data.toList.getD i 0=115:=by decide
 exact hall k (by omega) i hi
theorem Nb{w0:ByteArray}{k:Nat}(h:w0=kwB k)(hk:k<=9):(w0.toList== [119,105,110,100,111,119])=decide (k=0)/\(w0.toList== [99,121,99,108,101])=decide (k=1)/\(w0.toList== [100,101,108,97,121])=decide (k=2)/\(w0.toList== [101,110,116,105,116,121])=decide (k=3)/\(w0.toList== [112,111,105,110,116])=decide (k=4)/\(w0.toList== [99,111,117,110,116])=decide (k=5)/\(w0.toList== [103,97,112])=decide (k=6)/\(w0.toList== [101,100,103,101])=decide (k=7)/\(w0.toList== [102,105,114,115,116])=decide (k=8)/\(w0.toList== [108,97,115,116])=decide (k=9):=by
 subst h
 refine⟨?_,?_,?_,?_,?_,?_,?_,?_,?_,?_⟩
 ·rw[<-gU];exact Qg k hk 0 (by decide)
 ·rw[<-wM];exact Qg k hk 1 (by decide)
 ·rw[<-Aep];exact Qg k hk 2 (by decide)
 ·rw[<-Agd];exact Qg k hk 3 (by decide)
 ·rw[<-Ahm];exact Qg k hk 4 (by decide)
 ·rw[<-Ahf];exact Qg k hk 5 (by decide)
 ·rw[<-Ahw];exact Qg k hk 6 (by decide)
 ·rw[<-Ah0];exact Qg k hk 7 (by decide)
 ·rw[<-Ahx];exact Qg k hk 8 (by decide)
 ·rw[<-Ahn];exact Qg k hk 9 (by decide)
theorem Ag3{w0:ByteArray}(h:Dr w0=false):(w0.toList== [119,105,110,100,111,119])=false/\(w0.toList== [99,121,99,108,101])=false/\(w0.toList== [100,101,108,97,121])=false/\(w0.toList== [101,110,116,105,116,121])=false/\(w0.toList== [112,111,105,110,116])=false/\(w0.toList== [99,111,117,110,116])=false/\(w0.toList== [103,97,112])=false/\(w0.toList== [101,100,103,101])=false/\(w0.toList== [102,105,114,115,116])=false/\(w0.toList== [108,97,115,116])=false:=by
 refine⟨?_,?_,?_,?_,?_,?_,?_,?_,?_,?_⟩
 ·rw[<-gU];exact Jl h 0 (by decide)
 ·rw[<-wM];exact Jl h 1 (by decide)
 ·rw[<-Aep];exact Jl h 2 (by decide)
 ·rw[<-Agd];exact Jl h 3 (by decide)
 ·rw[<-Ahm];exact Jl h 4 (by decide)
 ·rw[<-Ahf];exact Jl h 5 (by decide)
 ·rw[<-Ahw];exact Jl h 6 (by decide)
 ·rw[<-Ah0];exact Jl h 7 (by decide)
 ·rw[<-Ahx];exact Jl h 8 (by decide)
 ·rw[<-Ahn];exact Jl h 9 (by decide)
theorem tD(w:World):Calls Tryz.prog 148 #[] w fun e w'=>e=.returned (.slice (some ⟨w.heap.size,0,none⟩) 7 7)/\Ay (· =w.heap.size) w' (.slice (some ⟨w.heap.size,0,none⟩) 7 7) 1 (Ad Ef) Ef.length/\Below w.heap.size w w':=by
 have hb:Below w.heap.size w (w.alloc (.cells (Ad Ef).toArray 9)):=(Below.refl _ _).alloc (Nat.le_refl _) _
 have hs:=Qp w (Ad Ef) 9 1 7 rfl (by unfold maxLen;omega)
 have HB:=Aia hb
 have HS:=Aia hs
 clear hb hs
 go_enter func148,ntmps148
 go_wp2_with fail
 go_ret
 exact⟨rfl,HS.out,HB.out⟩
theorem tC(last word:ByteArray)(rb:Nat)(w:World)(h:w.cell? ⟨rb,5,none⟩=some (.string last)):
  Calls Tryz.prog 79 #[.pointer (some ⟨rb,0,none⟩),.string word] w fun e w'=>e=.returned (.bool (Gn last word))/\Below w.heap.size w w':=by
 cases h0:(word.toList==Ii.toList)
 case true=>
  have HV:Hid (Gn last word=last.toList.isEmpty):=Aia (by
   unfold Gn
   rw[h0]
   show(last.toList==ByteArray.empty.toList)=_
   rw[Ahz]
   cases last.toList<;>rfl)
  rw[gU]at h0
  go_enter func79,ntmps79
  go_wp2_with fail
  go_ret
  exact⟨Ah HV.out.symm,Below.refl _ _⟩
 case false=>
 cases h1:(word.toList==Je.toList)
 case true=>
  have HV:=Aia (show Gn last word=(last.toList==Ii.toList)from by
   unfold Gn
   rw[h0,h1]
   rfl)
  rw[gU]at h0 HV
  rw[wM]at h1
  go_enter func79,ntmps79
  go_wp2_with fail
  go_ret
  exact⟨Ah HV.out.symm,Below.refl _ _⟩
 case false=>
 cases h2:(word.toList==N6.toList)
 case true=>
  have HV:=Aia (show Gn last word=(last.toList==Je.toList)from by
   unfold Gn
   rw[h0,h1,h2]
   rfl)
  rw[gU]at h0
  rw[wM]at h1 HV
  rw[Aep]at h2
  go_enter func79,ntmps79
  go_wp2_with fail
  go_ret
  exact⟨Ah HV.out.symm,Below.refl _ _⟩
 case false=>
 cases h3:(word.toList==J2.toList)
 case true=>
  have HV:Hid (Gn last word=(!last.toList.isEmpty&& !(last.toList==Ii.toList)&& !(last.toList==Je.toList))):=Aia (by
   unfold Gn
   rw[h0,h1,h2,h3]
   show((last.toList != ByteArray.empty.toList)&&(last.toList != Ii.toList)&&(last.toList != Je.toList))=_
   rw[Ahz]
   cases last.toList<;>rfl)
  rw[gU,wM]at HV
  rw[gU]at h0
  rw[wM]at h1
  rw[Aep]at h2
  rw[Agd]at h3
  cases z0:last.toList.isEmpty<;>cases z1:(last.toList== [119,105,110,100,111,119])<;>cases z2:(last.toList== [99,121,99,108,101])
  all_goals
   rw[z0,z1,z2]at HV
   go_enter func79,ntmps79
   go_wp2_with fail
   go_ret
   exact⟨Ah HV.out.symm,Below.refl _ _⟩
 case false=>
 have HV:Hid (Gn last word=if C9 Ef last<0\/C9 Ef word<0 then false else decide (C9 Ef last<C9 Ef word)||(decide (C9 Ef last=C9 Ef word)&&word.toList != N7.toList)):=(show _=_ from by
  unfold Gn
  rw[h0,h1,h2,h3]
  rfl)
 rw[gU]at h0
 rw[wM]at h1
 rw[Aep]at h2
 rw[Agd]at h3
 rw[Ahf]at HV
 have HK:=Aia (fun W=>tD W)
 have HIa:=Aia (fun(W W':World) (hS:Ay (· =W.heap.size) W' (.slice (some ⟨W.heap.size,0,none⟩) 7 7) 1 (Ad Ef) Ef.length)=>M7 _ Ef _ last W' hS)
 have HIb:=Aia (fun(W W':World) (hS:Ay (· =W.heap.size) W' (.slice (some ⟨W.heap.size,0,none⟩) 7 7) 1 (Ad Ef) Ef.length)=>M7 _ Ef _ word W' hS)
 obtain⟨a,ha⟩:∃a,a=C9 Ef last:=⟨_,rfl⟩
 obtain⟨b,hb⟩:∃b,b=C9 Ef word:=⟨_,rfl⟩
 rw[<-ha,<-hb]at HV
 rw[<-ha]at HIa
 rw[<-hb]at HIb
 have HA:=Aia ha
 have HBB:=Aia hb
 clear ha hb
 have HC:=Aia h
 go_enter func79,ntmps79
 go_wp2_with fail
 go_region_held3 (fun w'=>w'.cell? ⟨rb,5,none⟩=some (.string last))
  (first|exact HC.out|exact(b2.cell (p:=⟨rb,5,none⟩) (World.block_lt_of_cell? _ ⟨rb,5,none⟩ HC.out)).trans HC.out)
  (first|(go_at_call 148;refine(HK.out _).mono ?_;rintro e w2 ⟨rfl,s2,b2⟩)|(go_at_call 81;refine(HIa.out _ _ s2).mono ?_;rintro e w3 ⟨rfl,rfl⟩))
 all_goals
  have HB2:=Aia b2
  clear b2 s2
  go_wp2_with fail
  refine(HK.out _).mono ?_
  rintro e w4 ⟨rfl,s4,b4⟩
  have hBx:Below w.heap.size w w4:=(((Below.refl w.heap.size w).drew).trans HB2.out).trans (b4.mono HB2.out.size)
  go_wp2_with fail
  refine(HIb.out _ _ s4).mono ?_
  rintro e w5 ⟨rfl,rfl⟩
  clear s4 b4
  by_cases ha0:a<0
  ·rw[if_pos (.inl ha0)]at HV
   go_wp2_with fail
   go_ret
   exact⟨Ah HV.out.symm,hBx⟩
  by_cases hb0:b<0
  ·rw[if_pos (.inr hb0)]at HV
   go_wp2_with fail
   go_ret
   exact⟨Ah HV.out.symm,hBx⟩
  rw[if_neg (by omega)]at HV
  by_cases hab:a<b
  ·rw[decide_eq_true hab]at HV
   go_wp2_with fail
   go_ret
   exact⟨Ah HV.out.symm,hBx⟩
  rw[decide_eq_false hab]at HV
  by_cases he:a=b
  ·rw[decide_eq_true he]at HV
   have he2:(a==b)=true:=by rw[beq_iff_eq];exact he
   cases hw:(word.toList== [99,111,117,110,116])
   all_goals
    rw[show(word.toList != [99,111,117,110,116])= !(word.toList== [99,111,117,110,116])from rfl,hw]at HV
    go_wp2_with fail
    go_ret
    exact⟨Ah HV.out.symm,hBx⟩
  ·rw[decide_eq_false he]at HV
   have he2:(a==b)=false:=by rw[beq_eq_false_iff_ne];exact he
   go_wp2_with fail
   go_ret
   exact⟨Ah (by rw[HV.out,decide_eq_false (show ¬a<b by omega)];rfl),hBx⟩
def gO(base rb:Nat)(r:Nat × RdS)(w:World)(e:Ending)(w':World):Prop:=
 e=.returned (.int .i64 (r.1:Nat))/\(r.1=0->∃o' v' Y',D0 base rb o' r.2.c (stB r.2.stage) v' Y' w')/\Ae (fun b=>b=rb\/base<=b) w w'
theorem Kx{base rb:Nat}{r:Nat × RdS}{w w':World}{n:Nat}{st:RdS}(hr:r=(n,st))(hn:n≠0)(k:Ae (fun b=>b=rb\/base<=b) w w'):gO base rb r w (.returned (.int .i64 (n:Nat))) w':=by
 rw[hr]
 exact⟨rfl,fun h=>absurd h hn,k⟩
theorem Jr{base rb:Nat}{r:Nat × RdS}{C':Al}{k:Nat}{w w':World}(hr:r=(0,⟨C',(k:Int)⟩))(h:∃o' v' Y',D0 base rb o' C' (kwB k) v' Y' w')(h2:Ae (fun b=>b=rb\/base<=b) w w'):gO base rb r w (.returned (.int .i64 (0:Nat))) w':=by
 rw[hr]
 refine⟨rfl,fun _=>?_,h2⟩
 show ∃o' v' Y',D0 base rb o' C' (stB (k:Int)) v' Y' w'
 rw[Afq]
 exact h
theorem T5{base rb:Nat}{w w5:World}(h:Ae (fun b=>b=rb\/base<=b) w w5)(j:Nat)(u:Value):Ae (fun b=>b=rb\/base<=b) w (w5.setCell ⟨rb,j,none⟩ u):=
 h.step (Ai w5 rb j u) (fun b hb _=>.inl hb)
theorem K7{base:Nat}{o:Nat->Option Nat}{t:Nat}{y:Aw}{w:World}(h:Lv base o t y w):(∃a c,y.p=.slice a y.E.points.length c)/\(∃a c,y.g=.slice a y.E.gaps.length c)/\(∃a c,y.e=.slice a y.E.edges.length c)/\(∃a c,y.f=.slice a y.E.first.length c)/\(∃a c,y.l=.slice a y.E.last.length c):=
 ⟨(h 0 (by decide)).1.val,(h 1 (by decide)).1.val,(h 2 (by decide)).1.val,(h 3 (by decide)).1.val,(h 4 (by decide)).1.val⟩
theorem P3{w5:World}{base:Nat}{o:Nat->Option Nat}{zl eb:Nat}{E':Ap}{y y':Aw}{wx:World}(h:Hid (BX w5 base o zl eb E' y y' wx)):Hid (BX w5 base o zl eb E' y y' wx.drew):=Aia (by
 obtain⟨h1,h2,j,hj,k1,ho,hn,hs⟩:=h.out
 exact⟨h1,h2,j,hj,k1.drew,ho.later ((Below.refl _ _).drew),hn,hs⟩)
theorem Afv{base rb:Nat}{C':Al}{st:ByteArray}{w:World}(h:∃o' v' Y',D0 base rb o' C' st v' Y' w):∃o' v' Y',D0 base rb o' C' st v' Y' w.drew:=by
 obtain⟨o',v',Y',hA⟩:=h
 exact⟨o',v',Y',hA.later ((Below.refl _ _).drew)⟩
def Jx(n:Nat):Code->List Code
 |.block m c=>if m=n then [.block m c] else Jx n c
 |.seq a b=>Jx n a++Jx n b
 |.loop c=>Jx n c
 |.scope c=>Jx n c
 |.cond _ a b=>Jx n a++Jx n b
 |_=>[]
noncomputable def Ro (n:Nat):Code:=((f42.body.map (Jx n)).getD []).getD 0 .skip
end Go.Proofs.YtikehilbmldadaaGreatDoor
