import Derived.Test.YtikehilbmldadaaGreatDoorV24
import Derived.Test.YtikehilbmldadaaGreatDoorV33
set_option maxHeartbeats 8000000
set_option maxRecDepth 100000
set_option linter.unusedVariables false
open Go.Proofs.Tryz Go.Proofs.YtikehilbmldadaaGreatDoor.Tryz
namespace Go.Proofs.YtikehilbmldadaaGreatDoor
open Go.RowKit
def Afe(rb:Nat)(o:Nat->Option Nat)(w:World)(nv:Value)(n:List Int):Prop:=
 n= []\/∃nb noff ncap,nv=.slice (some ⟨nb,noff,none⟩) n.length ncap/\nb<w.heap.size/\(o nb=none/\nb≠rb)/\∀(i:Nat) x,n[i]? =some x->w.cell? ⟨nb,noff+i,none⟩=some (.int .i64 x)
def Af3(k:Nat):Nat:=[2,1,1,1,0,3,4,2,1,1].getD k 0
structure Few (Y:List Aw):Prop where
 n:Y.length<=100000
 each:∀y∈Y,y.E.points.length<=100000/\y.E.gaps.length<=100000/\y.E.edges.length<=100000/\y.E.first.length<=100000/\y.E.last.length<=100000
theorem Fz{Y:List Aw}(h:Y≠ []):∃Z y,Y=Z++ [y]:=⟨Y.dropLast,Y.getLast h,(List.dropLast_concat_getLast h).symm⟩
theorem Qf{n:List Int}(h:n.length=1):∃a,n= [a]:=by
 match n,h with
 |[a],_=>exact⟨a,rfl⟩
theorem kZ{n:List Int}(h:n.length=2):∃a b,n= [a,b]:=by
 match n,h with
 |[a,b],_=>exact⟨a,b,rfl⟩
theorem Agm{n:List Int}(h:n.length=3):∃a b c,n= [a,b,c]:=by
 match n,h with
 |[a,b,c],_=>exact⟨a,b,c,rfl⟩
theorem Agl{n:List Int}(h:n.length=4):∃a b c d,n= [a,b,c,d]:=by
 match n,h with
 |[a,b,c,d],_=>exact⟨a,b,c,d,rfl⟩
theorem Acd(base rb:Nat)(o:Nat->Option Nat)(C:Al)(k:Nat)(hk:k<=9)(v:Value)(Y:List Aw)(w:World)(h:Ei base rb o C (k:Int) v Y w)(hF:Few Y)(hne:4<=k->Y≠ [])(name:ByteArray)(nv:Value)(n:List Int)(hl:n.length=Af3 k)(hn:Afe rb o w nv n):
  Calls Tryz.prog 114 #[.pointer (some ⟨rb,0,none⟩),.int .i64 k,.string name,nv] w fun e w'=>e=.returned (.tuple #[])/\G5 base rb o (Bf k name n C) (k:Int) w w':=by
 match k,hk with
 |0,_=>
  obtain⟨a,b,rfl⟩:=kZ hl
  rcases hn with h0|⟨nb,noff,ncap,rfl,h1,⟨h2,hb⟩,h3⟩
  ·cases h0
  ·exact yP base rb o C v Y w h name nb noff ncap a b (h3 0 _ rfl) (h3 1 _ rfl) hb
 |1,_=>
  obtain⟨a,rfl⟩:=Qf hl
  rcases hn with h0|⟨nb,noff,ncap,rfl,h1,⟨h2,hb⟩,h3⟩
  ·cases h0
  ·exact yO base rb o C v Y w h name nb noff ncap a (h3 0 _ rfl)
 |2,_=>
  obtain⟨a,rfl⟩:=Qf hl
  rcases hn with h0|⟨nb,noff,ncap,rfl,h1,⟨h2,hb⟩,h3⟩
  ·cases h0
  ·exact yN base rb o C v Y w h name nb noff ncap a (h3 0 _ rfl)
 |3,_=>
  obtain⟨a,rfl⟩:=Qf hl
  rcases hn with h0|⟨nb,noff,ncap,rfl,h1,⟨h2,hb⟩,h3⟩
  ·cases h0
  ·exact yM base rb o C v Y w h hF.n name nb noff ncap a (h3 0 _ rfl) h1 h2
 |4,_=>
  obtain⟨Z,y,rfl⟩:=Fz (hne (by decide))
  obtain rfl:=List.eq_nil_of_length_eq_zero hl
  have hZ:=hF.n
  rw[List.length_append,List.length_singleton]at hZ
  exact yL base rb o C v Z y w h (by omega) (hF.each y (by simp)).1 name nv
 |5,_=>
  obtain⟨Z,y,rfl⟩:=Fz (hne (by decide))
  obtain⟨a,b,c,rfl⟩:=Agm hl
  have hZ:=hF.n
  rw[List.length_append,List.length_singleton]at hZ
  rcases hn with h0|⟨nb,noff,ncap,rfl,h1,⟨h2,hb⟩,h3⟩
  ·cases h0
  ·exact yK base rb o C v Z y w h (by omega) name nb noff ncap a b c (h3 0 _ rfl) (h3 1 _ rfl) (h3 2 _ rfl) h1 h2
 |6,_=>
  obtain⟨Z,y,rfl⟩:=Fz (hne (by decide))
  obtain⟨a,b,c,d,rfl⟩:=Agl hl
  have hZ:=hF.n
  rw[List.length_append,List.length_singleton]at hZ
  rcases hn with h0|⟨nb,noff,ncap,rfl,h1,⟨h2,hb⟩,h3⟩
  ·cases h0
  ·exact yJ base rb o C v Z y w h (by omega) (hF.each y (by simp)).2.1 name nb noff ncap a b c d (h3 0 _ rfl) (h3 1 _ rfl) (h3 2 _ rfl) (h3 3 _ rfl) h1 h2
 |7,_=>
  obtain⟨Z,y,rfl⟩:=Fz (hne (by decide))
  obtain⟨a,b,rfl⟩:=kZ hl
  have hZ:=hF.n
  rw[List.length_append,List.length_singleton]at hZ
  rcases hn with h0|⟨nb,noff,ncap,rfl,h1,⟨h2,hb⟩,h3⟩
  ·cases h0
  ·exact yI base rb o C v Z y w h (by omega) (hF.each y (by simp)).2.2.1 name nb noff ncap a b (h3 0 _ rfl) (h3 1 _ rfl) h1 h2
 |8,_=>
  obtain⟨Z,y,rfl⟩:=Fz (hne (by decide))
  obtain⟨a,rfl⟩:=Qf hl
  have hZ:=hF.n
  rw[List.length_append,List.length_singleton]at hZ
  rcases hn with h0|⟨nb,noff,ncap,rfl,h1,⟨h2,hb⟩,h3⟩
  ·cases h0
  ·exact yH base rb o C v Z y w h (by omega) (hF.each y (by simp)).2.2.2.1 name nb noff ncap a (h3 0 _ rfl) h1 h2
 |9,_=>
  obtain⟨Z,y,rfl⟩:=Fz (hne (by decide))
  obtain⟨a,rfl⟩:=Qf hl
  have hZ:=hF.n
  rw[List.length_append,List.length_singleton]at hZ
  rcases hn with h0|⟨nb,noff,ncap,rfl,h1,⟨h2,hb⟩,h3⟩
  ·cases h0
  ·exact yG base rb o C v Z y w h (by omega) (hF.each y (by simp)).2.2.2.2 name nb noff ncap a (h3 0 _ rfl) h1 h2
def N4(sa:Nat->Addr)(base rb:Nat)(r:Nat × RdS)(w:World)(e:Ending)(w':World):Prop:=
 e=.returned (errv sa r.1)/\(r.1=0->∃o' v' Y',Ei base rb o' r.2.c r.2.stage v' Y' w')/\Ae (fun b=>b=rb\/base<=b) w w'
theorem Oz{s:ByteArray}(h:Dr s=true):∃k fs,k<=9/\Gb s=some (k,fs)/\Bp s=k/\Ba s=fs/\1<=fs.size/\fs.size<=4:=by
 obtain⟨p,hp,e,h1,h2⟩:=Oy h
 have hall:∀p∈Dj,p.2.1<=9/\1<=p.2.2.size/\p.2.2.size<=4:=by decide
 obtain⟨a,b,c⟩:=hall p hp
 refine⟨p.2.1,p.2.2,a,?_,h1,h2,b,c⟩
 simp only[Bp]at h1
 simp only[Ba]at h2
 unfold Dr at h
 cases hf:Gb s with
 |none=>rw[hf]at h;cases h
 |some q=>
  rw[hf]at h1 h2
  exact congrArg some (Prod.ext h1 h2)
theorem Yh(c:UInt8):∀l:List UInt8,(Ik c l).length<=l.length+1/\∀p∈Ik c l,p.length<=l.length
 |[]=>by simp[Ik]
 |x::l=>by
  obtain⟨h1,h2⟩:=Yh c l
  have hne:=V4 c l
  unfold Ik
  split
  ·refine⟨by simp;omega,fun p hp=>?_⟩
   rcases List.mem_cons.1 hp with rfl|hp
   ·simp
   ·have:=h2 p hp;simp;omega
  ·split
   ·next he=>exact absurd he hne
   ·next hd t he=>
    rw[he]at h1 h2
    refine⟨by simp at h1 ⊢;omega,fun p hp=>?_⟩
    rcases List.mem_cons.1 hp with rfl|hp
    ·have:=h2 hd (List.mem_cons_self ..);simp;omega
    ·have:=h2 p (List.mem_cons_of_mem _ hp);simp;omega
theorem M8(c:UInt8)(s:ByteArray):(Bj c s).length<=s.size+1/\∀t∈Bj c s,t.size<=s.size:=by
 have hd:s.data.toList.length=s.size:=by rw[Array.length_toList];rfl
 obtain⟨h1,h2⟩:=Yh c s.data.toList
 have e:=El c s
 refine⟨by rw[<-e,List.length_map]at h1;omega,fun t ht=>?_⟩
 have:=h2 t.data.toList (by rw[<-e];exact List.mem_map.2 ⟨t,ht,rfl⟩)
 rw[Array.length_toList]at this
 have e2:t.data.size=t.size:=rfl
 omega
theorem Ti(s:ByteArray):(Ic s).length<=s.size+1/\∀t∈Ic s,t.size<=s.size:=M8 32 s
theorem U2{s:ByteArray}(h:s.size=0):Dz s=none:=by
 have:s.data.toList= []:=List.eq_nil_of_length_eq_zero (by rw[Array.length_toList];exact h)
 unfold Dz
 rw[this]
 rfl
theorem xI{w0 fs:ByteArray}{k i:Nat}{x:Int}(h:Gb w0=some (k,fs))(hp:fs.data.toList.getD i 0=112)(hr:Bi x k=true):3<=x:=by
 have hok:Dr w0=true:=by unfold Dr;rw[h];rfl
 obtain⟨p,hp1,e,h1,h2⟩:=Oy hok
 have e1:p.2.1=k:=by rw[<-h1];unfold Bp;rw[h];rfl
 have e2:p.2.2=fs:=by rw[<-h2];unfold Ba;rw[h];rfl
 have hmem:(112:UInt8)∈p.2.2.data.toList:=by
  rw[e2]
  rw[List.getD_eq_getElem?_getD]at hp
  cases hq:fs.data.toList[i]? with
  |none=>rw[hq]at hp;cases hp
  |some c=>
   rw[hq]at hp
   obtain rfl:c=112:=hp
   exact List.mem_of_getElem? hq
 have hall:∀p∈Dj,(112:UInt8)∈p.2.2.data.toList->5<=p.2.1:=by decide
 have:=hall p hp1 hmem
 rw[e1]at this
 unfold Bi at hr
 rw[if_neg (by omega),if_neg (by omega)]at hr
 split at hr
 ·simp at hr;omega
 ·simp at hr;omega
theorem Qu{k:Nat}{x:Int}(h4:4<=k)(hr:Bi x k=true):3<=x:=by
 unfold Bi at hr
 rw[if_neg (by omega),if_neg (by omega)]at hr
 split at hr
 ·simp at hr;omega
 ·simp at hr;omega
def Zi(fs:List UInt8):Nat:=(fs.filter (fun c=>c==110||c==112)).length
theorem S2{pts:List ByteArray}{fs:List UInt8}{ts:List ByteArray}:∀{k:Nat} {l:List Int} {z:Bool},Az pts fs ts k=some (l,z)->l.length=Zi ((List.range k).map (fun i=>fs.getD i 0))
 |0,l,z,h=>by
  have:=(Prod.mk.inj (J9 h)).1
  rw[this];rfl
 |k+1,l,z,h=>by
  obtain⟨⟨l',z'⟩,hp,hs⟩:=Fb h
  have ih:=S2 hp
  rw[List.range_succ,List.map_append,List.map_singleton]
  unfold Zi at ih ⊢
  rw[List.filter_append,List.length_append,<-ih]
  unfold A2 at hs
  split at hs
  ·next h1=>
   rw[h1]
   split at hs
   ·obtain⟨h3,_⟩:=Prod.mk.inj (Option.some.inj hs)
    rw[<-h3]
    simp
   ·cases hs
  ·split at hs
   ·cases hs
   ·split at hs
    ·next h2=>
     rw[h2]
     obtain⟨h3,_⟩:=Prod.mk.inj (Option.some.inj hs)
     rw[<-h3]
     simp
    ·next h1 _ h2=>
     obtain⟨h3,_⟩:=Prod.mk.inj (Option.some.inj hs)
     rw[<-h3]
     rw[List.getD_eq_getElem?_getD]at h1 h2
     simp[h1,h2]
theorem Aew{w0 fs:ByteArray}{k nf:Nat}(h:Gb w0=some (k,fs))(hf:fs.size=nf):Zi ((List.range nf).map (fun i=>fs.data.toList.getD i 0))=Af3 k:=by
 have hok:Dr w0=true:=by unfold Dr;rw[h];rfl
 obtain⟨p,hp1,e,h1,h2⟩:=Oy hok
 have e1:p.2.1=k:=by rw[<-h1];unfold Bp;rw[h];rfl
 have e2:p.2.2=fs:=by rw[<-h2];unfold Ba;rw[h];rfl
 have hall:∀p∈Dj,Zi ((List.range p.2.2.size).map (fun i=>p.2.2.data.toList.getD i 0))=Af3 p.2.1:=by decide
 have:=hall p hp1
 rw[e1,e2,hf]at this
 exact this
theorem Kq{s:ByteArray}(h:s.size=0):s.toList.isEmpty=true:=by
 rw[ByteArray.toList_eq,List.isEmpty_iff]
 exact List.eq_nil_of_length_eq_zero (by rw[Array.length_toList];exact h)
theorem K8{s:ByteArray}(h:¬s.size=0):s.toList.isEmpty=false:=by
 rw[ByteArray.toList_eq,List.isEmpty_eq_false_iff]
 intro e
 apply h
 have:=congrArg List.length e
 rw[Array.length_toList]at this
 exact this
theorem Ua{pts:List ByteArray}{fs:List UInt8}{ts:List ByteArray}{i:Nat}{p:List Int × Bool}(h:Az pts fs ts i=some p)(h2:A2 pts (fs.getD i 0) (ts.getD i ByteArray.empty) p=none):Az pts fs ts (i+1)=none:=by
 show(match Az pts fs ts i with|none=>none|some p=>A2 pts (fs.getD i 0) (ts.getD i ByteArray.empty) p)=none
 rw[h];exact h2
theorem Rz{pts:List ByteArray}{f:UInt8}{t:ByteArray}{p:List Int × Bool}(h:t.size=0)(hf:f≠110):A2 pts f t p=none:=by
 unfold A2
 rw[if_neg hf,if_pos h]
theorem rW{pts:List ByteArray}{f:UInt8}{t:ByteArray}{p:List Int × Bool}(h1:f≠110)(h2:f≠112)(h:t.size≠0):A2 pts f t p=some p:=by
 unfold A2
 rw[if_neg h1,if_neg h,if_neg h2]
theorem P4{pts:List ByteArray}{fs:List UInt8}{ts:List ByteArray}{k:Nat}{p q:List Int × Bool}(h:Az pts fs ts k=some p)(h2:A2 pts (fs.getD k 0) (ts.getD k ByteArray.empty) p=some q):Az pts fs ts (k+1)=some q:=by
 show(match Az pts fs ts k with|none=>none|some p=>A2 pts (fs.getD k 0) (ts.getD k ByteArray.empty) p)=some q
 rw[h];exact h2
theorem Adp(B:Nat)(sa:Nat->Addr)(base rb:Nat)(o:Nat->Option Nat)(st:RdS)(v:Value)(Y:List Aw)(s:ByteArray)(w:World)(hS:Fv B sa w)(hN:Ra B w)(hBrb:B<=rb)(h:Ei base rb o st.c st.stage v Y w)(hI:R7 st)(hF:Few Y)(hs:s.size<=100000):
  Calls Tryz.prog 73 #[.pointer (some ⟨rb,0,none⟩),.string s] w (N4 sa base rb (A8 st s) w):=by
 obtain⟨w0,ts,hws⟩:∃w0 ts,Ic s=w0::ts:=by
  cases hl:Ic s with
  |nil=>exact absurd hl (Va s)
  |cons a ts=>exact⟨a,ts,rfl⟩
 have hhd:Gq s=w0:=by unfold Gq;rw[hws];rfl
 obtain⟨nW,hnW⟩:∃nW,nW=ts.length+1:=⟨_,rfl⟩
 obtain⟨hsz1,hszt⟩:=Ti s
 rw[hws]at hsz1 hszt
 have hsz:ts.length<=100000:=by rw[List.length_cons]at hsz1;omega
 have HTZ:Hid (∀i,(ts.getD i ByteArray.empty).size<=100000):=Aia (fun i=>by
  rw[List.getD_eq_getElem?_getD]
  cases hi:ts[i]? with
  |none=>exact Nat.zero_le _
  |some t=>
   have:=hszt t (List.mem_cons_of_mem _ (List.mem_of_getElem? hi))
   show t.size<=100000
   omega)
 have HSp:=Aia (Pm s 32 w (by omega))
 rw[show Bj 32 s=w0::ts from hws,List.length_cons,<-hnW]at HSp
 have hw1:(1:Int)<=(nW:Int):=by omega
 have hw2:(nW:Int)<=100001:=by omega
 have hwb:Below w.heap.size w (w.alloc (.cells ((w0::ts).map Value.string).toArray 9)):=(Below.refl _ _).alloc (Nat.le_refl _) _
 have hwx:=Ab w (.cells ((w0::ts).map Value.string).toArray 9)
 have H:=Aia h
 have HI:=Aia hI
 have HF:=Aia hF
 have HS:=Aia hS
 have HN:=Aia hN
 have HHD:=Aia hhd
 have HWS:=Aia hws
 have HNW:=Aia hnW
 clear h hI hF hS hN hhd hws hnW hsz hs hsz1 hszt
 go_enter func73,ntmps73
 go_wp2_with fail
 refine HSp.out.mono ?_
 rintro e w1 ⟨rfl,rfl⟩
 generalize w.alloc _=w1 at hwb hwx ⊢
 have HB1:=Aia hwb
 have HX1:=Aia hwx
 have c0:w1.cell? ⟨w.heap.size,0,none⟩=some (.string w0):=by simp[World.cell?,HX1.out]
 have HFm:=Aia (Abj w0 w1)
 unfold Qk at HFm
 clear hwb hwx HSp
 go_wp2_with fail
 refine HFm.out.mono ?_
 rintro e w2 ⟨rfl,b2⟩
 have HB2:=Aia (HB1.out.trans (b2.mono HB1.out.size))
 have HX2:=Aia (Af b2 HX1.out (Aa HX1.out))
 clear c0 b2 HFm HB1 HX1
 go_upto_region 3 with fail
 have hbF:Below w2.heap.size w2 (w2.alloc (.cells #[.int .i64 (Bp w0),.string (Ba w0)] 207)):=(Below.refl _ _).alloc (Nat.le_refl _) _
 have hxF:=Ab w2 (.cells #[.int .i64 (Bp w0),.string (Ba w0)] 207)
 generalize w2.alloc _=wF at hbF hxF ⊢
 have HBF:=Aia (HB2.out.trans (hbF.mono HB2.out.size))
 have HXF:=Aia (Af hbF HX2.out (Aa HX2.out))
 obtain⟨fb,hfb⟩:∃fb,fb=w2.heap.size:=⟨_,rfl⟩
 have hfw:w.heap.size<fb:=by rw[hfb];exact Aa HX2.out
 rw[<-hfb]at hxF ⊢
 have HFB:Hid (wF.heap[fb]? =some (.cells #[.int .i64 (Bp w0),.string (Ba w0)] 207)):=hxF
 clear hfb hbF hxF HB2 HX2
 have HRF:=Aia (H.out.later HBF.out)
 have HSF:=Aia (HS.out.on HBF.out)
 have HKF:Hid (Ae (fun b=>b=rb\/base<=b) w wF):=Aia ((Ae.of_below HBF.out).mono (fun b hb hs=>by omega))
 by_cases hok:Dr w0=true
 ·obtain⟨k,fs,hk9,hfo,hst,hwd,hf1,hf4⟩:=Oz hok
  have z0:wF.cell? ⟨fb,0,none⟩=some (.int .i64 k):=by have:=HFB.out;rw[hst]at this;simp[World.cell?,this]
  have z1:wF.cell? ⟨fb,1,none⟩=some (.string fs):=by have:=HFB.out;rw[hwd]at this;simp[World.cell?,this]
  have HFO:=Aia (And.intro hfo (And.intro hst hwd))
  have HRt:=Aia (zP st.stage k hk9 rb wF (Ek HRF.out.blk).2.2.2.2.2.1)
  obtain⟨zr,hzr⟩:∃zr,zr=Bi st.stage k:=⟨_,rfl⟩
  rw[<-hzr]at HRt
  have HZR:=Aia hzr
  have HK9:=Aia hk9
  have hfi:(fs.size:Int)<=4:=by omega
  have hfi1:(1:Int)<=(fs.size:Int):=by omega
  clear hfo hst hwd hzr hk9 hf1 hf4
  cases zr
  ·have HL:Hid (A8 st s=(1,st)):=Aia (by
    have:Ch st s=false:=by unfold Ch;rw[HHD.out,HFO.out.2.1,<-HZR.out];simp
    unfold A8;rw[this];rfl)
   have e1:=HSF.out.all.1
   go_wp2_with fail
   refine HRt.out.mono ?_
   rintro e w' ⟨rfl,rfl⟩
   go_wp2_with fail
   go_ret
   unfold N4
   rw[HL.out]
   exact⟨rfl,fun hh=>(by cases hh),HKF.out⟩
  ·by_cases hlen:(nW:Int)-1=(fs.size:Int)
   ·obtain⟨nf,hnf⟩:∃nf,nf=ts.length:=⟨_,rfl⟩
    obtain rfl:nW=nf+1:=by rw[hnf];exact HNW.out
    have hfsz:fs.size=nf:=by omega
    have hnf1:(1:Int)<=(nf:Int):=by omega
    have HLR:Hid (A8 st s=match Az (Bo st.c.ents).points fs.data.toList ts nf with|none=>(1,st)|some p=>if p.2=true then (5,st) else (0,⟨Bf k (ts.getD 0 ByteArray.empty) p.1 st.c,(k:Int)⟩)):=Aia (by
     have hf:Ch st s=true:=by
      unfold Ch
      rw[HHD.out,hok,HFO.out.2.1,HFO.out.2.2,<-HZR.out,HWS.out,List.length_cons,Nat.add_sub_cancel,<-hnf,hfsz]
      simp
     unfold A8
     rw[if_pos hf]
     unfold Lf
     rw[HHD.out,HFO.out.2.1,HFO.out.2.2,HWS.out,hfsz]
     rfl)
    have HNF:=Aia hnf
    have hnf4:(nf:Int)<=4:=by omega
    clear hlen hnf HNW hfi hfi1
    go_wp2_with fail
    refine HRt.out.mono ?_
    rintro e w' ⟨rfl,rfl⟩
    go_wp2_with fail
    have HFZ:=Aia hfsz
    clear hfsz
    obtain⟨pts,hpts⟩:∃pts,pts=(Bo st.c.ents).points:=⟨_,rfl⟩
    rw[<-hpts]at HLR
    have HPT:=Aia hpts
    clear hpts
    go_loopw [8,9,46] (fun s8 s9 s46 wr=>∃(i n:Nat) (l:List Int) (z:Bool) (na:Option Addr) (nc:Nat),i<=nf/\n<=i/\s46=.int .i64 i/\s8=.slice na n nc/\s9=.bool z/\Hid (Az pts fs.data.toList ts i=some (l,z))/\Hid (l.length=n)/\Hid (As wr wF.heap.size 3 1 (.slice na n nc) n (Ac l))/\Hid (Below wF.heap.size wF wr)) (fun _ _ s46 _=>nf-(intOf s46).toNat)
    case atStart=>exact⟨0,0,[],false,none,0,Nat.zero_le _,Nat.le_refl _,rfl,rfl,rfl,rfl,rfl,(show As wF wF.heap.size 3 1 (.slice none 0 0) 0 [] from⟨rfl,.inl ⟨rfl,rfl⟩⟩),Below.refl _ _⟩
    case round=>
     obtain⟨i,n,l,z,na,nc,hi,hni,rfl,rfl,rfl,hup,hll,hown,hbel⟩:=hrel
     by_cases hlt:i<nf
     ·have hilt:i<ts.length:=by rw[<-HNF.out];exact hlt
      have hisz:i<fs.size:=by rw[HFZ.out];exact hlt
      obtain⟨tw,htw⟩:∃tw,tw=ts[i]:=⟨_,rfl⟩
      have ht:wr.cell? ⟨w.heap.size,1+i,none⟩=some (.string tw):=by
       rw[hbel.out.cell (p:=⟨w.heap.size,1+i,none⟩) (Aa HXF.out),htw,Nat.add_comm 1 i]
       have:=HXF.out
       simp[World.cell?,this,hilt]
      have y0:wr.cell? ⟨fb,0,none⟩=some (.int .i64 k):=by rw[hbel.out.cell (p:=⟨fb,0,none⟩) (Aa HFB.out)];exact z0
      have y1:wr.cell? ⟨fb,1,none⟩=some (.string fs):=by rw[hbel.out.cell (p:=⟨fb,1,none⟩) (Aa HFB.out)];exact z1
      have HTW:Hid (ts.getD i ByteArray.empty=tw):=Aia (by rw[htw,List.getD_eq_getElem?_getD,List.getElem?_eq_getElem hilt];rfl)
      clear htw z0 z1
      go_upto_region 11 with fail
      generalize hcn:fs[i].toNat=cn
      have HCN:Hid ((fs.data.toList.getD i 0).toNat=cn):=Aia (by rw[Nk fs i hisz];exact hcn)
      clear hcn hisz
      by_cases h110:cn=110
      ·obtain rfl:=h110
       have hq1:(((110:Nat):Int)==110)=true:=rfl
       have HC1:Hid (fs.data.toList.getD i 0=110):=Aia (UInt8.toNat_inj.1 HCN.out)
       have HNm:=Aia (tN B tw (by rw[<-HTW.out];exact HTZ.out i) wr ((HN.out.below HBF.out HS.out.top).below hbel.out (by have:=HBF.out.size;have:=HS.out.top;omega)) (by have:=HBF.out.size;have:=HS.out.top;have:=hbel.out.size;omega))
       cases hv:Dz tw with
       |none=>
        rw[hv]at HNm
        have HL:Hid (A8 st s=(1,st)):=Aia (by
         rw[HLR.out,Im (Ua hup.out (by rw[HTW.out,HC1.out];unfold A2;rw[if_pos rfl,hv])) nf (by omega)])
        clear hv hq1
        go_wp2_with fail
        refine HNm.out.mono ?_
        rintro e w3 ⟨nn,rfl,-,b3⟩
        have HB3:=Aia (hbel.out.trans (b3.mono hbel.out.size))
        have e1:=(HSF.out.on HB3.out).all.1
        clear b3
        go_wp2_with fail
        go_ret
        unfold N4
        rw[HL.out]
        exact⟨rfl,fun hh=>(by cases hh),HKF.out.step (Ae.of_below HB3.out) (fun b hb hs=>by have:=HBF.out.size;omega)⟩
       |some kk=>
        rw[hv]at HNm
        have hup2:Hid (Az pts fs.data.toList ts (i+1)=some (l++ [(kk:Int)],z)):=Aia (P4 hup.out (by
         rw[HTW.out,HC1.out]
         unfold A2
         rw[if_pos rfl,hv]))
        have he2:tw.toList.isEmpty=false:=K8 (fun h0=>by rw[U2 h0]at hv;cases hv)
        have HNI:=Aia hni
        have hn4:n<=100:=by omega
        clear hv hq1
        go_wp2_with fail
        refine HNm.out.mono ?_
        rintro e w3 ⟨nn,rfl,hnn,b3⟩
        obtain rfl:nn=kk:=hnn kk rfl
        have HB3:=Aia (hbel.out.trans (b3.mono hbel.out.size))
        have HO3:=Aia (hown.out.later b3)
        clear b3 hnn
        obtain⟨i0,hi0,hz0,hz1,hz2⟩:=info_parts infoInt
        go_wp2_with (at_builtin;go_must (refine A5 rfl (.tmp 65) (.tmp 67) 48 rfl wF.heap.size 3 i0 _ 1 8 underlying48 hi0 hz0 hz1 hz2 rfl (by decide) (.slice na n nc) n (Ac l) rfl (HO3.out.later ((Below.refl _ _).alloc (Nat.le_refl _) _)) ⟨w3.heap.size,0,none⟩ 1 1 [.int .i64 kk] rfl rfl (Av _ [.int .i64 kk] _) (by intro u hu;simp at hu;subst hu;rfl) (by unfold maxLen;omega) (by omega) (by have:=HB3.out.size;rw[World.size_alloc];omega) ?_;intro a4 k4 w4 ho4 hg4 hn4';have HO4:=Aia ho4;have HB4:=Aia ((HB3.out.alloc HB3.out.size _).trans ((Ae.of_grown hg4).below (by have:=HB3.out.size;rw[World.size_alloc];omega) (fun b hb=>(HO3.out.lt b hb.symm).1)));clear ho4 hg4 hn4'))
        go_roundw
        case rel=>exact⟨i+1,n+1,l++ [(kk:Int)],z,a4,k4,by omega,by omega,by go_num,rfl,rfl,hup2,(show(l++ [(kk:Int)]).length=n+1 from by rw[List.length_append,hll.out];rfl),(show As w4 wF.heap.size 3 1 (.slice a4 (n+1) k4) (n+1) (Ac (l++ [(kk:Int)]))from by unfold Ac;rw[List.map_append];exact HO4.out),HB4⟩
        case measure=>simp[intOf];omega
      ·have hq1:((cn:Int)==110)=false:=by rw[beq_eq_false_iff_ne];omega
       have HC1:=Aia h110
       by_cases h112:cn=112
       ·obtain rfl:=h112
        have hq2:(((112:Nat):Int)==112)=true:=rfl
        have HC2:Hid (fs.data.toList.getD i 0=112):=Aia (UInt8.toNat_inj.1 HCN.out)
        have hst3:3<=st.stage:=xI HFO.out.1 HC2.out HZR.out.symm
        have hYne:Y≠ []:=fun e=>HI.out.ne hst3 (by rw[H.out.eq,e];rfl)
        obtain⟨Z,y,rfl⟩:=Fz hYne
        have hRr:=HRF.out.later hbel.out
        obtain⟨g,off,cap,rfl,⟨hc1,hc2⟩,hog,hbg,hgw,hgr,hcell⟩:=hRr.form
        have hlast:=hRr.last
        obtain⟨hpo,hpt⟩:=hlast 0 (by decide)
        obtain⟨pa,pc,hpv⟩:=hpo.val
        have hpv:y.p=.slice pa y.E.points.length pc:=hpv
        have q2:=hcell 2 _ rfl
        rw[hpv,<-Nat.add_assoc]at q2
        obtain⟨c0,c1,c2,c3,c4,c5,cf⟩:=Ek hRr.blk
        have hpe:pts=y.E.points:=by rw[HPT.out,(Om H.out.eq).1]
        have HIx:Hid (∀q,Calls Tryz.prog 113 #[.slice pa y.E.points.length pc,.string tw] (wr.drewN q) fun e w'=>e=.returned (.int .i64 (Cn pts tw))/\wr.drewN q=w'):=(show _ from fun q=>by
         rw[hpe,<-hpv]
         exact Qi _ _ _ _ _ (hlast.slOf.p.below (Ag q (Below.refl wr.heap.size wr)) (fun b hb=>hb.2)))
        obtain⟨m,hm⟩:∃m,m=Z.length:=⟨_,rfl⟩
        obtain⟨np,hnp⟩:∃np,np=y.E.points.length:=⟨_,rfl⟩
        rw[<-hm]at hc1 q2 c4
        rw[<-hnp]at HIx q2
        obtain⟨kx,hkx⟩:∃kx,kx=Cn pts tw:=⟨_,rfl⟩
        rw[<-hkx]at HIx
        have HKX:=Aia hkx
        have HNI:=Aia hni
        have hn4:n<=100:=by omega
        have hmZ:m<=100000:=by rw[hm];have:=HF.out.n;rw[List.length_append,List.length_singleton]at this;omega
        obtain⟨i0,hi0,hz0,hz1,hz2⟩:=info_parts infoInt
        clear hst3 hYne hRr hlast hpo hpt hpv hcell hpe hm hnp hkx hog c0 c1 c2 c3 c5 cf
        by_cases hts:tw.size=0
        ·have he2:tw.toList.isEmpty=true:=Kq hts
         have HL:Hid (A8 st s=(1,st)):=Aia (by
          rw[HLR.out,Im (Ua hup.out (by rw[HTW.out];exact Rz hts (fun e=>HC1.out (by rw[<-HCN.out,e];rfl)))) nf (by omega)])
         clear hts
         cases z
         ·by_cases hk0:kx<0
          ·skip
           go_upto_region 17 with fail
           go_quiet ((go_at_call 113;exact C5 (HIx.out _)))
           generalize hq:World.drewN wr _=wq
           have HBQ:Hid (Below wF.heap.size wF wq):=Aia (by rw[<-hq];exact Ag _ hbel.out)
           have HOQ:Hid (As wq wF.heap.size 3 1 (.slice na n nc) n (Ac l)):=Aia (by rw[<-hq];exact hown.out.later (Ag _ (Below.refl _ _)))
           have e1:=(HSF.out.on HBQ.out).all.1
           clear hq
           go_wp2_with (at_builtin;go_must (refine A5 rfl (.tmp 93) (.tmp 95) 48 rfl wF.heap.size 3 i0 _ 1 8 underlying48 hi0 hz0 hz1 hz2 rfl (by decide) (.slice na n nc) n (Ac l) rfl (HOQ.out.later ((Below.refl _ _).alloc (Nat.le_refl _) _)) ⟨wq.heap.size,0,none⟩ 1 1 [.int .i64 kx] rfl rfl (Av _ [.int .i64 kx] _) (by intro u hu;simp at hu;subst hu;rfl) (by unfold maxLen;omega) (by omega) (by have:=HBQ.out.size;rw[World.size_alloc];omega) ?_;intro a4 k4 w4 ho4 hg4 hn4';have HO4:=Aia ho4;have HB4:=Aia ((HBQ.out.alloc HBQ.out.size _).trans ((Ae.of_grown hg4).below (by have:=HBQ.out.size;rw[World.size_alloc];omega) (fun b hb=>(HOQ.out.lt b hb.symm).1)));have e1:=(HSF.out.on HB4.out).all.1;clear ho4 hg4 hn4'))
           go_ret
           unfold N4
           rw[HL.out]
           exact⟨rfl,fun hh=>(by cases hh),HKF.out.step (Ae.of_below HB4.out) (fun b hb hs=>by have:=HBF.out.size;omega)⟩
          ·skip
           go_upto_region 17 with fail
           go_quiet ((go_at_call 113;exact C5 (HIx.out _)))
           generalize hq:World.drewN wr _=wq
           have HBQ:Hid (Below wF.heap.size wF wq):=Aia (by rw[<-hq];exact Ag _ hbel.out)
           have HOQ:Hid (As wq wF.heap.size 3 1 (.slice na n nc) n (Ac l)):=Aia (by rw[<-hq];exact hown.out.later (Ag _ (Below.refl _ _)))
           have e1:=(HSF.out.on HBQ.out).all.1
           clear hq
           go_wp2_with (at_builtin;go_must (refine A5 rfl (.tmp 93) (.tmp 95) 48 rfl wF.heap.size 3 i0 _ 1 8 underlying48 hi0 hz0 hz1 hz2 rfl (by decide) (.slice na n nc) n (Ac l) rfl (HOQ.out.later ((Below.refl _ _).alloc (Nat.le_refl _) _)) ⟨wq.heap.size,0,none⟩ 1 1 [.int .i64 kx] rfl rfl (Av _ [.int .i64 kx] _) (by intro u hu;simp at hu;subst hu;rfl) (by unfold maxLen;omega) (by omega) (by have:=HBQ.out.size;rw[World.size_alloc];omega) ?_;intro a4 k4 w4 ho4 hg4 hn4';have HO4:=Aia ho4;have HB4:=Aia ((HBQ.out.alloc HBQ.out.size _).trans ((Ae.of_grown hg4).below (by have:=HBQ.out.size;rw[World.size_alloc];omega) (fun b hb=>(HOQ.out.lt b hb.symm).1)));have e1:=(HSF.out.on HB4.out).all.1;clear ho4 hg4 hn4'))
           go_ret
           unfold N4
           rw[HL.out]
           exact⟨rfl,fun hh=>(by cases hh),HKF.out.step (Ae.of_below HB4.out) (fun b hb hs=>by have:=HBF.out.size;omega)⟩
         ·skip
          go_upto_region 17 with fail
          go_quiet ((go_at_call 113;exact C5 (HIx.out _)))
          generalize hq:World.drewN wr _=wq
          have HBQ:Hid (Below wF.heap.size wF wq):=Aia (by rw[<-hq];exact Ag _ hbel.out)
          have HOQ:Hid (As wq wF.heap.size 3 1 (.slice na n nc) n (Ac l)):=Aia (by rw[<-hq];exact hown.out.later (Ag _ (Below.refl _ _)))
          have e1:=(HSF.out.on HBQ.out).all.1
          clear hq
          go_wp2_with (at_builtin;go_must (refine A5 rfl (.tmp 93) (.tmp 95) 48 rfl wF.heap.size 3 i0 _ 1 8 underlying48 hi0 hz0 hz1 hz2 rfl (by decide) (.slice na n nc) n (Ac l) rfl (HOQ.out.later ((Below.refl _ _).alloc (Nat.le_refl _) _)) ⟨wq.heap.size,0,none⟩ 1 1 [.int .i64 kx] rfl rfl (Av _ [.int .i64 kx] _) (by intro u hu;simp at hu;subst hu;rfl) (by unfold maxLen;omega) (by omega) (by have:=HBQ.out.size;rw[World.size_alloc];omega) ?_;intro a4 k4 w4 ho4 hg4 hn4';have HO4:=Aia ho4;have HB4:=Aia ((HBQ.out.alloc HBQ.out.size _).trans ((Ae.of_grown hg4).below (by have:=HBQ.out.size;rw[World.size_alloc];omega) (fun b hb=>(HOQ.out.lt b hb.symm).1)));have e1:=(HSF.out.on HB4.out).all.1;clear ho4 hg4 hn4'))
          go_ret
          unfold N4
          rw[HL.out]
          exact⟨rfl,fun hh=>(by cases hh),HKF.out.step (Ae.of_below HB4.out) (fun b hb hs=>by have:=HBF.out.size;omega)⟩
        ·have HTS:=Aia hts
         have he2:tw.toList.isEmpty=false:=K8 hts
         have hup2:Hid (Az pts fs.data.toList ts (i+1)=some (l++ [kx],z||decide (kx<0))):=Aia (P4 hup.out (by
          rw[HTW.out,HC2.out,HKX.out]
          unfold A2
          rw[if_neg (by decide),if_neg HTS.out,if_pos rfl]))
         clear hts
         cases z
         ·by_cases hk0:kx<0
          ·rw[decide_eq_true hk0]at hup2
           go_upto_region 17 with fail
           go_quiet ((go_at_call 113;exact C5 (HIx.out _)))
           generalize hq:World.drewN wr _=wq
           have HBQ:Hid (Below wF.heap.size wF wq):=Aia (by rw[<-hq];exact Ag _ hbel.out)
           have HOQ:Hid (As wq wF.heap.size 3 1 (.slice na n nc) n (Ac l)):=Aia (by rw[<-hq];exact hown.out.later (Ag _ (Below.refl _ _)))
           have e1:=(HSF.out.on HBQ.out).all.1
           clear hq
           go_wp2_with (at_builtin;go_must (refine A5 rfl (.tmp 93) (.tmp 95) 48 rfl wF.heap.size 3 i0 _ 1 8 underlying48 hi0 hz0 hz1 hz2 rfl (by decide) (.slice na n nc) n (Ac l) rfl (HOQ.out.later ((Below.refl _ _).alloc (Nat.le_refl _) _)) ⟨wq.heap.size,0,none⟩ 1 1 [.int .i64 kx] rfl rfl (Av _ [.int .i64 kx] _) (by intro u hu;simp at hu;subst hu;rfl) (by unfold maxLen;omega) (by omega) (by have:=HBQ.out.size;rw[World.size_alloc];omega) ?_;intro a4 k4 w4 ho4 hg4 hn4';have HO4:=Aia ho4;have HB4:=Aia ((HBQ.out.alloc HBQ.out.size _).trans ((Ae.of_grown hg4).below (by have:=HBQ.out.size;rw[World.size_alloc];omega) (fun b hb=>(HOQ.out.lt b hb.symm).1)));have e1:=(HSF.out.on HB4.out).all.1;clear ho4 hg4 hn4'))
           go_roundw
           case rel=>exact⟨i+1,n+1,l++ [kx],true,a4,k4,by omega,by omega,by go_num,rfl,rfl,hup2,(show(l++ [kx]).length=n+1 from by rw[List.length_append,hll.out];rfl),(show As w4 wF.heap.size 3 1 (.slice a4 (n+1) k4) (n+1) (Ac (l++ [kx]))from by unfold Ac;rw[List.map_append];exact HO4.out),HB4⟩
           case measure=>simp[intOf];omega
          ·rw[decide_eq_false hk0]at hup2
           go_upto_region 17 with fail
           go_quiet ((go_at_call 113;exact C5 (HIx.out _)))
           generalize hq:World.drewN wr _=wq
           have HBQ:Hid (Below wF.heap.size wF wq):=Aia (by rw[<-hq];exact Ag _ hbel.out)
           have HOQ:Hid (As wq wF.heap.size 3 1 (.slice na n nc) n (Ac l)):=Aia (by rw[<-hq];exact hown.out.later (Ag _ (Below.refl _ _)))
           have e1:=(HSF.out.on HBQ.out).all.1
           clear hq
           go_wp2_with (at_builtin;go_must (refine A5 rfl (.tmp 93) (.tmp 95) 48 rfl wF.heap.size 3 i0 _ 1 8 underlying48 hi0 hz0 hz1 hz2 rfl (by decide) (.slice na n nc) n (Ac l) rfl (HOQ.out.later ((Below.refl _ _).alloc (Nat.le_refl _) _)) ⟨wq.heap.size,0,none⟩ 1 1 [.int .i64 kx] rfl rfl (Av _ [.int .i64 kx] _) (by intro u hu;simp at hu;subst hu;rfl) (by unfold maxLen;omega) (by omega) (by have:=HBQ.out.size;rw[World.size_alloc];omega) ?_;intro a4 k4 w4 ho4 hg4 hn4';have HO4:=Aia ho4;have HB4:=Aia ((HBQ.out.alloc HBQ.out.size _).trans ((Ae.of_grown hg4).below (by have:=HBQ.out.size;rw[World.size_alloc];omega) (fun b hb=>(HOQ.out.lt b hb.symm).1)));have e1:=(HSF.out.on HB4.out).all.1;clear ho4 hg4 hn4'))
           go_roundw
           case rel=>exact⟨i+1,n+1,l++ [kx],false,a4,k4,by omega,by omega,by go_num,rfl,rfl,hup2,(show(l++ [kx]).length=n+1 from by rw[List.length_append,hll.out];rfl),(show As w4 wF.heap.size 3 1 (.slice a4 (n+1) k4) (n+1) (Ac (l++ [kx]))from by unfold Ac;rw[List.map_append];exact HO4.out),HB4⟩
           case measure=>simp[intOf];omega
         ·rw[Bool.true_or]at hup2
          go_upto_region 17 with fail
          go_quiet ((go_at_call 113;exact C5 (HIx.out _)))
          generalize hq:World.drewN wr _=wq
          have HBQ:Hid (Below wF.heap.size wF wq):=Aia (by rw[<-hq];exact Ag _ hbel.out)
          have HOQ:Hid (As wq wF.heap.size 3 1 (.slice na n nc) n (Ac l)):=Aia (by rw[<-hq];exact hown.out.later (Ag _ (Below.refl _ _)))
          have e1:=(HSF.out.on HBQ.out).all.1
          clear hq
          go_wp2_with (at_builtin;go_must (refine A5 rfl (.tmp 93) (.tmp 95) 48 rfl wF.heap.size 3 i0 _ 1 8 underlying48 hi0 hz0 hz1 hz2 rfl (by decide) (.slice na n nc) n (Ac l) rfl (HOQ.out.later ((Below.refl _ _).alloc (Nat.le_refl _) _)) ⟨wq.heap.size,0,none⟩ 1 1 [.int .i64 kx] rfl rfl (Av _ [.int .i64 kx] _) (by intro u hu;simp at hu;subst hu;rfl) (by unfold maxLen;omega) (by omega) (by have:=HBQ.out.size;rw[World.size_alloc];omega) ?_;intro a4 k4 w4 ho4 hg4 hn4';have HO4:=Aia ho4;have HB4:=Aia ((HBQ.out.alloc HBQ.out.size _).trans ((Ae.of_grown hg4).below (by have:=HBQ.out.size;rw[World.size_alloc];omega) (fun b hb=>(HOQ.out.lt b hb.symm).1)));have e1:=(HSF.out.on HB4.out).all.1;clear ho4 hg4 hn4'))
          go_roundw
          case rel=>exact⟨i+1,n+1,l++ [kx],true,a4,k4,by omega,by omega,by go_num,rfl,rfl,hup2,(show(l++ [kx]).length=n+1 from by rw[List.length_append,hll.out];rfl),(show As w4 wF.heap.size 3 1 (.slice a4 (n+1) k4) (n+1) (Ac (l++ [kx]))from by unfold Ac;rw[List.map_append];exact HO4.out),HB4⟩
          case measure=>simp[intOf];omega
       ·have hq2:((cn:Int)==112)=false:=by rw[beq_eq_false_iff_ne];omega
        have HC2:=Aia h112
        clear h110 h112
        by_cases hts:tw.size=0
        ·have HTS:=Aia hts
         have he2:tw.toList.isEmpty=true:=Kq hts
         have e1:=(HSF.out.on hbel.out).all.1
         have HL:Hid (A8 st s=(1,st)):=Aia (by
          rw[HLR.out,Im (Ua hup.out (by rw[HTW.out];exact Rz HTS.out (fun e=>HC1.out (by rw[<-HCN.out,e];rfl)))) nf (by omega)])
         clear hts
         go_wp2_with fail
         go_ret
         unfold N4
         rw[HL.out]
         exact⟨rfl,fun hh=>(by cases hh),HKF.out.step (Ae.of_below hbel.out) (fun b hb hs=>by have:=HBF.out.size;omega)⟩
        ·have HTS:=Aia hts
         have he2:tw.toList.isEmpty=false:=K8 hts
         have hup2:Hid (Az pts fs.data.toList ts (i+1)=some (l,z)):=Aia (P4 hup.out (by
          rw[HTW.out]
          exact rW (fun e=>HC1.out (by rw[<-HCN.out,e];rfl)) (fun e=>HC2.out (by rw[<-HCN.out,e];rfl)) HTS.out))
         clear hts
         go_wp2_with fail
         go_roundw
         case rel=>exact⟨i+1,n,l,z,na,nc,by omega,by omega,by go_num,rfl,rfl,hup2,hll,hown,hbel⟩
         case measure=>simp[intOf];omega
     ·obtain rfl:i=nf:=by omega
      have hbL:=HBF.out.size
      have hwx:wr.cell? ⟨w.heap.size,1,none⟩=some (.string (ts.getD 0 ByteArray.empty)):=by
       rw[hbel.out.cell (p:=⟨w.heap.size,1,none⟩) (Aa HXF.out)]
       have h1:1<=ts.length:=by have:=HNF.out;omega
       have:=HXF.out
       rw[List.getD_eq_getElem?_getD]
       simp[World.cell?,this,List.getElem?_eq_getElem h1]
      have y0:wr.cell? ⟨fb,0,none⟩=some (.int .i64 k):=by rw[hbel.out.cell (p:=⟨fb,0,none⟩) (Aa HFB.out)];exact z0
      cases z
      ·have HL:Hid (A8 st s=(0,⟨Bf k (ts.getD 0 ByteArray.empty) l st.c,(k:Int)⟩)):=Aia (by rw[HLR.out,hup.out];rfl)
       obtain⟨t0,ht0⟩:∃t0,t0=ts.getD 0 ByteArray.empty:=⟨_,rfl⟩
       rw[<-ht0]at hwx HL
       have hRr:=HRF.out.later hbel.out
       have hrs:=hRr.set (C':=st.c) (st':=(k:Int)) 5 (.int .i64 k) rfl rfl
       have hYne:4<=k->Y≠ []:=fun h4 e=>HI.out.ne (Qu h4 HZR.out.symm) (by rw[H.out.eq,e];rfl)
       have hlen:l.length=Af3 k:=by rw[S2 hup.out,Aew HFO.out.1 HFZ.out]
       have hrl:=Aa hRr.blk
       have hofb:o fb=none:=H.out.fr fb (by omega)
       have howb:o w.heap.size=none:=H.out.fr _ (Nat.le_refl _)
       have hfr:¬fb=rb:=by have:=Aa H.out.blk;omega
       have hwr:¬w.heap.size=rb:=by have:=Aa H.out.blk;omega
       have hnums:Afe rb o wr (.slice na n nc) l:=by
        rcases hown.out.2 with⟨_,h0⟩|⟨nb,noff,ncap,cur,hv,h2,h3,_⟩
        ·exact .inl (List.eq_nil_of_length_eq_zero (by rw[hll.out];exact h0))
        ·obtain⟨rfl,_,rfl⟩:=Value.slice.inj hv
         refine .inr ⟨nb,noff,nc,by rw[hll.out],Aa h3,⟨H.out.fr nb (by omega),by have:=Aa H.out.blk;omega⟩,fun j x hx=>?_⟩
         have:=hown.out.cells j (.int .i64 x) (by unfold Ac;rw[List.getElem?_map,hx];rfl)
         rw[Cz]at this
         exact this
       have HTk:Hid (∀W,Below (wr.setCell ⟨rb,5,none⟩ (.int .i64 k)).heap.size (wr.setCell ⟨rb,5,none⟩ (.int .i64 k)) W->Calls Tryz.prog 114 #[.pointer (some ⟨rb,0,none⟩),.int .i64 k,.string t0,.slice na n nc] W fun e w'=>e=.returned (.tuple #[])/\G5 base rb o (Bf k t0 l st.c) (k:Int) W w'):=(show _ from fun W hW=>by
        refine Acd base rb o st.c k HK9.out v Y W (hrs.later hW) HF.out hYne t0 _ l hlen ?_
        rcases hnums with h0|⟨nb,noff,ncap,hv,h1,h2,h3⟩
        ·exact .inl h0
        ·have ks:=(Ai wr rb 5 (.int .i64 k)).step (Ae.of_below hW) (fun b hb hl=>by have:=(Ai wr rb 5 (.int .i64 k)).size;omega)
         refine .inr ⟨nb,noff,ncap,hv,Nat.lt_of_lt_of_le h1 ks.size,h2,fun j x hx=>?_⟩
         rw[ks.cell (p:=⟨nb,noff+j,none⟩) h1 (fun e=>h2.2 e)]
         exact h3 j x hx)
       have HKS:Hid (Ae (fun b=>b=rb\/base<=b) w (wr.setCell ⟨rb,5,none⟩ (.int .i64 k))):=(show Ae (fun b=>b=rb\/base<=b) w (wr.setCell ⟨rb,5,none⟩ (.int .i64 k))from
        ((HKF.out.step (Ae.of_below hbel.out) (fun b hb hs=>by omega)).step (Ai wr rb 5 (.int .i64 k)) (fun b hb hs=>.inl hb)))
       have HOB:=Aia H.out.ob
       obtain⟨_,_,_,_,_,c5,cf⟩:=Ek hRr.blk
       have cfr:=cf 5
       have hS0:∀W,Below (wr.setCell ⟨rb,5,none⟩ (.int .i64 k)).heap.size (wr.setCell ⟨rb,5,none⟩ (.int .i64 k)) W->W.cell? ⟨fb,0,none⟩=some (.int .i64 k)/\W.cell? ⟨w.heap.size,1,none⟩=some (.string t0):=fun W hW=>by
        have ks:=(Ai wr rb 5 (.int .i64 k)).step (Ae.of_below hW) (fun b hb hl=>by have:=(Ai wr rb 5 (.int .i64 k)).size;omega)
        rw[ks.cell (p:=⟨fb,0,none⟩) (by have:=World.block_lt_of_cell? _ ⟨fb,0,none⟩ y0;exact this) hfr,ks.cell (p:=⟨w.heap.size,1,none⟩) (by have:=World.block_lt_of_cell? _ ⟨w.heap.size,1,none⟩ hwx;exact this) hwr]
        exact⟨y0,hwx⟩
       have HS0:=Aia hS0
       have HSK:Hid (∀W w',Below (wr.setCell ⟨rb,5,none⟩ (.int .i64 k)).heap.size (wr.setCell ⟨rb,5,none⟩ (.int .i64 k)) W->G5 base rb o (Bf k t0 l st.c) (k:Int) W w'->w'.cell? ⟨fb,0,none⟩=some (.int .i64 k)/\w'.cell? ⟨w.heap.size,1,none⟩=some (.string t0)):=(show _ from fun W w' hW hT=>by
        obtain⟨a1,a2⟩:=hS0 W hW
        rw[hT.2.cell (p:=⟨fb,0,none⟩) (by have:=World.block_lt_of_cell? _ ⟨fb,0,none⟩ a1;exact this) (fun hs=>by rcases hs with hs|⟨tg,hs⟩;exact hfr hs;rw[hofb]at hs;cases hs),hT.2.cell (p:=⟨w.heap.size,1,none⟩) (by have:=World.block_lt_of_cell? _ ⟨w.heap.size,1,none⟩ a2;exact this) (fun hs=>by rcases hs with hs|⟨tg,hs⟩;exact hwr hs;rw[howb]at hs;cases hs)]
        exact⟨a1,a2⟩)
       have hnf3:(0:Int)<(i:Int)+1:=by omega
       have hnf5:(1:Int)<(i:Int)+1:=by omega
       clear hRr hrs hYne hlen hofb howb hnums ht0 cf hS0
       go_upto_region 26 with fail
       generalize hwS:wr.setCell _ _=wS at HTk HKS HS0 HSK ⊢
       clear hwS
       go_region_held3 (fun w'=>w'.cell? ⟨fb,0,none⟩=some (.int .i64 k)/\w'.cell? ⟨w.heap.size,1,none⟩=some (.string t0))
        (first|exact HSK.out _ _ ((Below.refl _ _).drew) hTk|exact HS0.out _ (by repeat(first|exact Below.refl _ _|refine Below.drew ?_)))
        (first|(go_at_call 114;refine(HTk.out _ (by repeat(first|exact Below.refl _ _|refine Below.drew ?_))).mono ?_;rintro e w7 ⟨rfl,hTk⟩))
       go_wp2_with fail
       go_ret
       unfold N4
       rw[HL.out]
       refine⟨rfl,fun _=>hTk.1,?_⟩
       exact HKS.out.step ((Ae.refl (fun _=>False) wS).drew.mono (fun b _ h=>h.elim) |>.step hTk.2 (fun b hb _=>hb)) (fun b hb hl=>by
        rcases hb with hb|⟨tg,hb⟩
        ·exact .inl hb
        ·right
         by_cases hbb:b<base
         ·rw[HOB.out b hbb]at hb;cases hb
         ·omega)
      ·have HL:Hid (A8 st s=(5,st)):=Aia (by rw[HLR.out,hup.out];rfl)
       have e5:=(HSF.out.on hbel.out).all.2.2.2.2.1
       go_wp2_with fail
       go_ret
       unfold N4
       rw[HL.out]
       exact⟨rfl,fun hh=>(by cases hh),HKF.out.step (Ae.of_below hbel.out) (fun b hb hs=>by omega)⟩
   ·have HL:Hid (A8 st s=(1,st)):=Aia (by
     have:Ch st s=false:=by
      unfold Ch
      rw[HHD.out,HFO.out.2.2,HWS.out,List.length_cons,Nat.add_sub_cancel]
      have:(ts.length==fs.size)=false:=by
       rw[beq_eq_false_iff_ne]
       have:=HNW.out
       omega
      rw[this,Bool.and_false]
     unfold A8;rw[this];rfl)
    have e1:=HSF.out.all.1
    go_wp2_with fail
    refine HRt.out.mono ?_
    rintro e w' ⟨rfl,rfl⟩
    go_wp2_with fail
    go_ret
    unfold N4
    rw[HL.out]
    exact⟨rfl,fun hh=>(by cases hh),HKF.out⟩
 ·have hok:Dr w0=false:=by simpa using hok
  have HL:Hid (A8 st s=(1,st)):=Aia (by
   have:Ch st s=false:=by unfold Ch;rw[HHD.out,hok];rfl
   unfold A8;rw[this];rfl)
  have e1:=HSF.out.all.1
  go_wp2_with fail
  go_ret
  unfold N4
  rw[HL.out]
  exact⟨rfl,fun hh=>(by cases hh),HKF.out⟩
end Go.Proofs.YtikehilbmldadaaGreatDoor
