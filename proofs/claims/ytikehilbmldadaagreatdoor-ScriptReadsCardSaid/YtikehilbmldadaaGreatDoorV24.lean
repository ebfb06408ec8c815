import Derived.Test.YtikehilbmldadaaGreatDoorV23
import Derived.Test.YtikehilbmldadaaGreatDoorV37
import Derived.Laws.Concat
import Derived.Deep.CutBlock
import Derived.Test.YtikehilbmldadaaGreatDoorV29
import Derived.Lib.LaidTab
import Derived.Stop.LaidErr
set_option maxHeartbeats 8000000
set_option maxRecDepth 100000
set_option linter.unusedVariables false
open Go.Proofs.Tryz Go.Proofs.YtikehilbmldadaaGreatDoor.Tryz
namespace Go.Proofs.YtikehilbmldadaaGreatDoor
section
open Go.RowKit
theorem sH{k:Nat}(hk:k<100000){s:ByteArray}(hs:s.data.toList=Lib.itoa (k:Int)):Ej s=some k:=by
 have h5:=V3 (u:=k) (k:=5) (by omega) (by omega)
 have hz:s.size<=5:=by
  show s.data.size<=5
  rw[<-Array.length_toList,hs,Jt];exact h5
 have ha:Lib.atoiAll s.data.toList=.ok (k:Int):=by
  rw[hs,Jt,rL (by omega) (by have:=I1 k;cases h:Lib.decDigits k with|nil=>exact absurd h this|cons a b=>simp) (Gk k),V2]
 unfold Ej
 rw[ha]
 simp only
 rw[if_pos ⟨hz,by omega,hs.symm⟩]
 rfl
def X5(i:Nat)(ns:List Nat):List UInt8:=Cb 32 ((Dx.getD i (ByteArray.empty,0)).1.data.toList::ns.map (fun k:Nat=>Lib.itoa (k:Int)))
theorem S9(i:Nat):∀(ns:List Nat) (j:Nat) (r:List ByteArray),r.map (·.data.toList)=ns.map (fun k:Nat=>Lib.itoa (k:Int))->(∀k∈ns,k<100000)->(j=0->i≠3->i≠4->ns.getD 0 0<=9)->D7 i j r=some ns
 |[],j,[],_,_,_=>rfl
 |[],j,a::r,h,_,_=>by simp at h
 |k::ns,j,[],h,_,_=>by simp at h
 |k::ns,j,a::r,h,hk,h9=>by
  simp only[List.map_cons,List.cons.injEq]at h
  unfold D7
  rw[sH (hk k (by simp)) h.1]
  simp only
  rw[if_neg (fun hh=>by have:=h9 hh.1 hh.2.1 hh.2.2.1;simp at this;omega),S9 i ns (j+1) r h.2 (fun q hq=>hk q (by simp[hq])) (fun h0=>by omega)]
theorem Yn{a b:ByteArray}(h:a.data.toList=b.data.toList):a=b:=by
 cases a;cases b
 exact congrArg ByteArray.mk (Array.toList_inj.1 h)
theorem vF(k:Nat):(32:UInt8)∉Lib.itoa (k:Int):=by
 rw[Jt]
 intro h
 have:=Gk k _ h
 exact absurd this (by decide)
theorem M4{i:Nat}{ns:List Nat}(hi:i<14)(hl:ns.length=Gm i)(hk:∀k∈ns,k<100000)(h9:i≠3->i≠4->ns.getD 0 0<=9){s:ByteArray}(hs:s.data.toList=X5 i ns):Hf s=some (i,ns):=by
 have hw:∀i:Fin 14,(32:UInt8)∉(Dx.getD i.1 (ByteArray.empty,0)).1.data.toList/\Cp (Dx.getD i.1 (ByteArray.empty,0)).1=some i.1:=by decide
 obtain⟨hw1,hw2⟩:=hw ⟨i,hi⟩
 have hc:=El 32 s
 rw[hs,X5,P2 32 _ (by simp) (fun p hp=>by
  rcases List.mem_cons.1 hp with rfl|hp
  ·exact hw1
  ·obtain⟨k,_,rfl⟩:=List.mem_map.1 hp
   exact vF k)]at hc
 unfold Hf
 cases hp:Bj 32 s with
 |nil=>rw[hp]at hc;simp at hc
 |cons w r=>
  rw[hp]at hc
  simp only[List.map_cons,List.cons.injEq]at hc
  have hwi:Cp w=some i:=by
   rw[<-hw2]
   congr 1
   exact Yn hc.1
  simp only[hwi]
  have hr:r.length=ns.length:=by have:=congrArg List.length hc.2;simpa using this
  rw[if_neg (by omega),S9 i ns 0 r hc.2 hk (fun _=>h9)]
theorem I8{s:ByteArray}{i:Nat}{ns:List Nat}(h:Hf s=some (i,ns)):Qs s=if i=3 then ns.getD 0 0 else 0:=by
 unfold Qs
 rw[h]
 by_cases h3:i=3
 ·subst h3
  cases ns<;>rfl
 ·rw[if_neg h3]
  split
  ·rename_i hh;obtain⟨rfl,_⟩:=Prod.mk.inj (Option.some.inj hh);exact absurd rfl h3
  ·rfl
theorem qV(c:UInt8):∀l,∃r,Ik c l=l.takeWhile (fun x=>x != c)::r
 |[]=>⟨[],rfl⟩
 |x::l=>by
  obtain⟨r,hr⟩:=qV c l
  rw[O8]
  by_cases h:x=c
  ·rw[if_pos h]
   exact⟨_,by rw[List.takeWhile_cons_of_neg (by simp[h])]⟩
  ·rw[if_neg h,hr]
   exact⟨r,by rw[List.takeWhile_cons_of_pos (by simp[h])]⟩
theorem Td(s:ByteArray):∃w r,Bj 32 s=w::r/\w.data.toList=s.data.toList.takeWhile (fun x=>x != 32):=by
 obtain⟨r,hr⟩:=qV 32 s.data.toList
 have hc:=El 32 s
 rw[hr]at hc
 cases hp:Bj 32 s with
 |nil=>rw[hp]at hc;simp at hc
 |cons w q=>
  rw[hp]at hc
  simp only[List.map_cons,List.cons.injEq]at hc
  exact⟨w,q,rfl,hc.1⟩
theorem kR(txt:ByteArray)(M:KpM)(s:ByteArray){w:ByteArray}(hw:w.data.toList=s.data.toList.takeWhile (fun x=>x != 32))(h:Cp w=none):Da txt M s=(Ib 1,M):=by
 obtain⟨w',r,h1,h2⟩:=Td s
 obtain rfl:w'=w:=Yn (h2.trans hw.symm)
 exact kM h1 h
end
section
open Go.RowKit
theorem Acn{s:ByteArray}{k:Nat}(h:Ej s=some k):k<=9223372036854775807:=by
 unfold Ej at h
 split at h
 ·rename_i v hv
  have:=Lib.atoiAll_bounds hv
  split at h
  ·have:=Option.some.inj h;omega
  ·cases h
 ·cases h
theorem Xp(i:Nat):∀(r:List ByteArray) (j:Nat) (l:List Nat),D7 i j r=some l->∀k∈l,k<=9223372036854775807
 |[],j,l,h,k,hk=>by obtain rfl:=Option.some.inj h;simp at hk
 |s::r,j,l,h,k,hk=>by
  unfold D7 at h
  split at h
  ·cases h
  ·rename_i q hq
   split at h
   ·cases h
   ·split at h
    ·cases h
    ·rename_i l' hl'
     obtain rfl:=Option.some.inj h
     rcases List.mem_cons.1 hk with rfl|hk
     ·exact Acn hq
     ·exact Xp i r (j+1) l' hl' k hk
theorem Ac0{line:ByteArray}{i:Nat}{ns:List Nat}(h:Hf line=some (i,ns)):∀k∈ns,k<=9223372036854775807:=by
 unfold Hf at h
 split at h
 ·cases h
 ·split at h
  ·cases h
  ·split at h
   ·cases h
   ·split at h
    ·cases h
    ·rename_i hns
     obtain⟨rfl,rfl⟩:=Prod.mk.inj (Option.some.inj h)
     exact Xp _ _ _ _ hns
theorem Aga{ns:List Nat}(h:∀k∈ns,k<=9223372036854775807)(j:Nat):ns.getD j 0<=9223372036854775807:=by
 rw[List.getD_eq_getElem?_getD]
 cases hx:ns[j]? with
 |none=>simp
 |some k=>exact h k (List.mem_of_getElem? hx)
theorem yY{txt s:ByteArray}{M:KpM}{T:Nat}(h:B8 M T)(ht:T+2*Qs s<=400000):B8 (Da txt M s).2 (T+2*Qs s):=by
 show B8 (Dg txt M s).2.2 _
 unfold Dg
 cases ha:Hf s with
 |none=>exact h.up (by omega) ht
 |some p=>
  obtain⟨i,ns⟩:=p
  rw[I8 ha]at ht ⊢
  exact Aft h ht (Aga (Ac0 ha) 0)
def Ip(l:List ByteArray):Nat:=(l.map Qs).sum
theorem sB(l:List ByteArray)(s:ByteArray):Ip (l++ [s])=Ip l+Qs s:=by simp[Ip]
theorem Zt(n:Int):Lib.itoa n≠ []:=by
 unfold Lib.itoa
 split
 ·simp
 ·exact I1 _
theorem kK(r:Ar):Fd r≠ []:=by
 unfold Fd
 rw[Lib.join_cons]
 have:=Zt r.seq
 cases h:Lib.itoa r.seq with
 |nil=>exact absurd h this
 |cons a b=>simp
theorem Re{l:List UInt8}(h:l≠ []):Fc l≠ByteArray.empty:=by
 intro hh
 apply h
 rw[<-Pk l,hh];rfl
theorem Acz(e:Nat):Ib e≠ByteArray.empty:=by
 intro h
 have:=congrArg ByteArray.size h
 unfold Ib at this
 rw[ByteArray.size_append]at this
 have e12:(⟨#[110,105,103,104,116,119,97,116,99,104,58,32]⟩:ByteArray).size=12:=rfl
 have e0:ByteArray.empty.size=0:=rfl
 omega
theorem Aau(a:Option C0):Cr a≠ByteArray.empty:=by
 cases a with
 |none=>decide
 |some a=>
  unfold Cr Kl
  repeat' split
  all_goals decide
theorem yZ{txt:ByteArray}(hx:Lo txt≠ByteArray.empty)(M:KpM)(s:ByteArray):(Da txt M s).1≠ByteArray.empty:=by
 unfold Da
 simp only
 split
 ·rename_i h0
  unfold Dg at h0 ⊢
  split at h0
  ·exact absurd h0 (show ¬(1:Nat)=0 by decide)
  ·unfold Es at h0 ⊢
   split at h0<;>simp only at h0 ⊢
   ·decide
   ·decide
   ·decide
   ·decide
   ·decide
   ·decide
   ·split at h0
    ·rename_i hc
     rw[if_pos hc]
     exact Aau _
    ·exact absurd h0 (show ¬(5:Nat)=0 by decide)
   ·exact Re (Zt _)
   ·exact Re (Zt _)
   ·cases M.st<;>decide
   ·unfold Pv;repeat' split
    all_goals decide
   ·split
    ·decide
    ·exact Re (kK _)
   ·unfold Up
    split
    ·decide
    ·rename_i hL
     refine Re ?_
     cases h:M.L with
     |nil=>exact absurd h hL
     |cons r l=>
      rw[List.map_cons,Lib.join_cons]
      have:=kK r
      cases h:Fd r with
      |nil=>exact absurd h this
      |cons a b=>simp
   ·exact hx
 ·exact Acz _
theorem kJ{txt:ByteArray}:∀(l:List ByteArray) (k:Nat) (hk:k<l.length) (M:KpM),(Dw txt M l).1[k]? =some (Da txt (Dw txt M (l.take k)).2 l[k]).1
 |s::r,0,hk,M=>by simp[Dw]
 |s::r,k+1,hk,M=>by
  simp only[Dw,List.getElem?_cons_succ,List.take_succ_cons,List.getElem_cons_succ]
  exact kJ r k (by simpa using hk) _
end
section
open Go.RowKit
def setN(E:Ap)(k:Nat)(a:Int):Ap:=if k=3 then { E with count:=a} else if k=4 then { E with mn:=a} else { E with mx:=a}
def sA(C:Al)(E:Ap):Al:={ C with ents:=C.ents.dropLast++ [E]}
theorem Ei.setN{base rb:Nat}{o:Nat->Option Nat}{C:Al}{st:Int}{Z:List Aw}{y:Aw}{w:World}{g off cap:Nat}(h:Ei base rb o C st (.slice (some ⟨g,off,none⟩) (Z.length+1) cap) (Z++ [y]) w)(k:Nat)(hk:k=3\/k=4\/k=5)(a:Int):
  Ei base rb o (sA C (setN y.E k a)) st (.slice (some ⟨g,off,none⟩) (Z.length+1) cap) (Z++ [{ y with E:=setN y.E k a}]) (w.setCell ⟨g,off+Z.length*10+k,none⟩ (.int .i64 a))/\w.frozen? ⟨g,off+Z.length*10+k,none⟩=false:=by
 have hzl:(Z++ [y]).length=Z.length+1:=by rw[List.length_append,List.length_singleton]
 have hgw:g<w.heap.size:=(h.row.lt g rfl).2
 have hgo:o g=some 0:=h.rt g rfl
 have hrb:o rb=none:=h.ob rb h.lo
 have kk:=Ai w g (off+Z.length*10+k) (.int .i64 a)
 have hsz:=kk.size
 have hr:=h.row
 rw[hzl]at hr
 have hst:=hr.stored (Z.length*10+k) (by omega) (.int .i64 a)
 rw[<-Nat.add_assoc]at hst
 refine⟨⟨?_,h.lo,Nat.le_trans h.top hsz,fun b hb=>h.fr b (by omega),h.ob,?_,h.rt,fun i hi=>?_,?_⟩,hst.2⟩
 ·exact kk.get h.blk (fun hs=>by rw[hs,hgo]at hrb;cases hrb)
 ·have:=hst.1
  rw[Yb Z y { y with E:=Go.Proofs.YtikehilbmldadaaGreatDoor.setN y.E k a} k (by omega) _ (by rcases hk with rfl|rfl|rfl<;>rfl)]at this
  rw[List.length_append,List.length_singleton]
  exact this
 ·rw[List.length_append,List.length_singleton]at hi
  have hS:∀(t:Nat) (b:Nat),b<w.heap.size->b=g->∀j,j<5->o b≠some (1+5*t+j):=fun t b _ hb j _ hh=>by rw[hb,hgo]at hh;injection hh with hh;omega
  by_cases him:i<Z.length
  ·have hy:=h.own i (by omega)
   rw[List.getElem_append_left him]at hy ⊢
   exact hy.keep kk (hS i) (fun _ _=>rfl)
  ·obtain rfl:i=Z.length:=by omega
   rw[List.getElem_concat_length rfl]
   have hy:=h.last.keep (o':=o) kk (hS Z.length) (fun _ _=>rfl)
   rcases hk with rfl|rfl|rfl
   ·exact hy
   ·exact hy
   ·exact hy
 ·show C.ents.dropLast++ [_]=_
  rw[(Om h.eq).2,List.map_append]
  rfl
theorem G5.drewN{base rb:Nat}{o:Nat->Option Nat}{C':Al}{st:Int}{w w':World}(h:G5 base rb o C' st w w')(n:Nat):G5 base rb o C' st w (w'.drewN n):=by
 obtain⟨⟨o',v',Y',h1⟩,h2⟩:=h
 exact⟨⟨o',v',Y',h1.later (Ag _ (Below.refl _ _))⟩,Dq _ h2⟩
theorem Uj(C:Al)(E F:Ap):sA (sA C E) F=sA C F:=by
 unfold sA
 simp
theorem yF(C:Al)(name:ByteArray)(a b c:Int)(E:Ap)(hE:Bo C.ents=E):Bf 5 name [a,b,c] C=sA C { E with count:=a,mn:=b,mx:=c}:=by
 unfold Bf sA
 rw[hE]
 rfl
theorem Ei.three{base rb:Nat}{o:Nat->Option Nat}{C:Al}{st:Int}{Z:List Aw}{y:Aw}{w:World}{g off cap:Nat}(h:Ei base rb o C st (.slice (some ⟨g,off,none⟩) (Z.length+1) cap) (Z++ [y]) w)(name:ByteArray)(a b c:Int)
  (k1 k2 k3:Nat) (x1 x2 x3:Int) (h1:k1=3\/k1=4\/k1=5) (h2:k2=3\/k2=4\/k2=5) (h3:k3=3\/k3=4\/k3=5) (he:Go.Proofs.YtikehilbmldadaaGreatDoor.setN (Go.Proofs.YtikehilbmldadaaGreatDoor.setN (Go.Proofs.YtikehilbmldadaaGreatDoor.setN y.E k1 x1) k2 x2) k3 x3= { y.E with count:=a,mn:=b,mx:=c}):
  Hid (G5 base rb o (Bf 5 name [a,b,c] C) st w (((w.setCell ⟨g,off+Z.length*10+k1,none⟩ (.int .i64 x1)).setCell ⟨g,off+Z.length*10+k2,none⟩ (.int .i64 x2)).setCell ⟨g,off+Z.length*10+k3,none⟩ (.int .i64 x3))):=by
 have hgo:o g=some 0:=h.rt g rfl
 have e3:=(((h.setN k1 h1 x1).1.setN k2 h2 x2).1.setN k3 h3 x3).1
 have kk:=(((Ai w g (off+Z.length*10+k1) (.int .i64 x1)).setCell (p:=⟨g,off+Z.length*10+k2,none⟩) (fun _=>rfl) (.int .i64 x2)).setCell (p:=⟨g,off+Z.length*10+k3,none⟩) (fun _=>rfl) (.int .i64 x3))
 suffices e4:G5 base rb o (Bf 5 name [a,b,c] C) st w (((w.setCell ⟨g,off+Z.length*10+k1,none⟩ (.int .i64 x1)).setCell ⟨g,off+Z.length*10+k2,none⟩ (.int .i64 x2)).setCell ⟨g,off+Z.length*10+k3,none⟩ (.int .i64 x3))from e4
 refine⟨⟨o,.slice (some ⟨g,off,none⟩) (Z.length+1) cap,Z++ [{ y with E:={ y.E with count:=a,mn:=b,mx:=c}}],?_⟩,kk.mono (fun b _ hb=>.inr ⟨0,by rw[hb];exact hgo⟩)⟩
 rw[yF C name a b c y.E (Om h.eq).1,<-he]
 rw[Uj,Uj]at e3
 exact e3
theorem yK(base rb:Nat)(o:Nat->Option Nat)(C:Al)(v:Value)(Z:List Aw)(y:Aw)(w:World)(h:Ei base rb o C 5 v (Z++ [y]) w)(hZ:Z.length<=100000)(name:ByteArray)(nb noff ncap:Nat)(a b c:Int)
  (n0:w.cell? ⟨nb,noff,none⟩=some (.int .i64 a)) (n1:w.cell? ⟨nb,noff+1,none⟩=some (.int .i64 b)) (n2:w.cell? ⟨nb,noff+2,none⟩=some (.int .i64 c)) (hnb:nb<w.heap.size) (hon:o nb=none):
  Calls Tryz.prog 114 #[.pointer (some ⟨rb,0,none⟩),.int .i64 5,.string name,.slice (some ⟨nb,noff,none⟩) 3 ncap] w fun e w'=>e=.returned (.tuple #[])/\G5 base rb o (Bf 5 name [a,b,c] C) 5 w w':=by
 obtain⟨g,off,cap,rfl,⟨hc1,hc2⟩,hog,hbg,hgw,hgr,hcell⟩:=h.form
 obtain⟨c0,c1,c2,c3,c4,c5,cf⟩:=Ek h.blk
 have q3:=hcell 3 _ rfl
 have q4:=hcell 4 _ rfl
 have q5:=hcell 5 _ rfl
 rw[<-Nat.add_assoc]at q3 q4 q5
 have z3:=(h.setN 3 (by omega) a).2
 have z4:=(h.setN 4 (by omega) a).2
 have z5:=(h.setN 5 (by omega) a).2
 have hgn:¬g=nb:=fun e=>by rw[e,hon]at hog;cases hog
 have hng:¬nb=g:=fun e=>hgn e.symm
 have F1:=h.three name a b c 3 4 5 a b c (by omega) (by omega) (by omega) rfl
 have F2:=h.three name a b c 3 5 4 a c b (by omega) (by omega) (by omega) rfl
 have F3:=h.three name a b c 4 3 5 b a c (by omega) (by omega) (by omega) rfl
 have F4:=h.three name a b c 4 5 3 b c a (by omega) (by omega) (by omega) rfl
 have F5:=h.three name a b c 5 3 4 c a b (by omega) (by omega) (by omega) rfl
 have F6:=h.three name a b c 5 4 3 c b a (by omega) (by omega) (by omega) rfl
 obtain⟨m,hm⟩:∃m,m=Z.length:=⟨_,rfl⟩
 rw[<-hm]at hc1 q3 q4 q5 z3 z4 z5 c4 hZ F1 F2 F3 F4 F5 F6
 have HF1:=Aia (And.intro F1 (And.intro F2 (And.intro F3 (And.intro F4 (And.intro F5 F6)))))
 clear h hcell hm hog F1 F2 F3 F4 F5 F6
 go_enter func114,ntmps114
 go_upto_region 2 with fail
 go_quiet (fail)
 go_upto_region 7 with fail
 generalize hq:World.drewN w _=wq
 have ec:∀p,wq.cell? p=w.cell? p:=fun p=>by rw[<-hq];rfl
 have ef:∀p,wq.frozen? p=w.frozen? p:=fun p=>by rw[<-hq];rfl
 rw[<-ec]at n0 n1 n2 q3 q4 q5
 rw[<-ef]at z3 z4 z5
 have HQ:=Aia hq
 clear hq ec ef c0 c1 c2 c3 c4 c5 cf
 go_region_held3 (fun w'=>w'.cell? ⟨nb,noff,none⟩=some (.int .i64 a)/\w'.cell? ⟨nb,noff+1,none⟩=some (.int .i64 b)/\w'.cell? ⟨nb,noff+2,none⟩=some (.int .i64 c)) (go_keep) (fail)
 all_goals
  go_wp2_with fail
  go_end0
  rw[<-HQ.out]
  obtain⟨F1,F2,F3,F4,F5,F6⟩:=HF1.out
  first
   |exact⟨rfl,(F1.out.drewN _).drew⟩
   |exact⟨rfl,(F2.out.drewN _).drew⟩
   |exact⟨rfl,(F3.out.drewN _).drew⟩
   |exact⟨rfl,(F4.out.drewN _).drew⟩
   |exact⟨rfl,(F5.out.drewN _).drew⟩
   |exact⟨rfl,(F6.out.drewN _).drew⟩
end
section
open Go.RowKit
theorem dsize(s:ByteArray):s.size=s.data.toList.length:=by rw[Array.length_toList];rfl
theorem Adn(s:ByteArray):Ca (Hi s)= [112,111,105,110,116,32]++s.data.toList++ [10]:=by simp[Ca,upB,Ob,B3,Hi,Zb,List.range_succ]
theorem Ow(n:Int)(h0:0<=n)(h1:n<=1099511627776):(Lib.itoa n).length<=40:=Xy n ⟨by omega,by omega⟩
end
section
open Go.RowKit
end
section
open Go.RowKit
theorem xR(M:KpM):Jz M<=11:=by
 unfold Jz
 repeat' split
 all_goals omega
theorem Vk(M:KpM)(i:Int):Hb M i<=11:=by
 have:=xR M
 unfold Hb
 repeat' split
 all_goals omega
theorem qO(D:D3):Eo D<=11:=by
 unfold Eo
 repeat' split
 all_goals omega
theorem Aas{M:KpM}{T:Nat}(h:B8 M T)(hT:T+2<=400000):(Iw M).1<=11:=by
 unfold Iw
 split
 ·exact xR M
 ·rename_i hon
  split
  ·exact qO _
  ·rename_i he
   split
   ·exact Nat.le_refl 11
   ·split
    ·obtain⟨h1,_,_⟩:=Vj h (by omega) (by omega)
     have hoff:(I5 M).m.off=false:=by
      show M.m.off=false
      cases hh:M.m.off
      ·rfl
      ·exfalso;apply hon;unfold Jz;rw[if_pos hh];decide
     obtain⟨_,_,h3⟩:=Nf h1 hoff (I5 M).A.length (Nat.le_refl _)
     unfold Ou
     split
     ·omega
     ·exact Nat.zero_le _
    ·exact Nat.zero_le _
theorem Vd{M:KpM}{T:Nat}(h:B8 M T):∀k,T+2*k<=400000->(Bz M k).1<=11
 |0,_=>Nat.zero_le _
 |k+1,hk=>by
  have ih:=Vd h k (by omega)
  have hO:=Nc h k (by omega)
  unfold Bz
  split
  ·exact ih
  ·exact Aas hO (by omega)
theorem yW{txt:ByteArray}{M:KpM}{line:ByteArray}{T:Nat}(h:B8 M T)(hT:T+2*Qs line<=400000):(Dg txt M line).1<=11:=by
 unfold Dg
 cases ha:Hf line with
 |none=>show 1<=11;omega
 |some q=>
  obtain⟨i,ns⟩:=q
  rw[I8 ha]at hT
  show(Es txt M i ns).1<=11
  unfold Es
  split<;>simp only
  ·unfold Kd
   have:=Vk M (ns.getD 0 0:Nat)
   repeat' split
   all_goals(first|omega|(simp only;omega))
  ·unfold Nd
   have:=Vk M (ns.getD 0 0:Nat)
   repeat' split
   all_goals(first|omega|(simp only;omega))
  ·unfold Ix
   have:=Vk M (ns.getD 0 0:Nat)
   repeat' split
   all_goals(first|omega|(simp only;omega))
  ·exact Vd h _ (by simpa using hT)
  ·unfold Abx
   repeat' split
   all_goals(first|omega|(simp only;omega))
  ·unfold Ov
   repeat' split
   all_goals(first|omega|(simp only;omega))
  ·split<;>simp only<;>omega
  all_goals omega
end
section
open Go.ChangeShapes Go.WideShapes Go.ChangeAt Go.RowKit Go.Deep
instance:Inhabited Aw:=⟨⟨⟨ByteArray.empty,0,[],0,0,0,[],[],[],[]⟩,.slice none 0 0,.slice none 0 0,.slice none 0 0,.slice none 0 0,.slice none 0 0⟩⟩
section
variable {H:Type} {enc:TypeId × Value->H} {w:World}
end
theorem Tryz.powName:Tryz.prog.globalNamed "internal/strconv.uint64pow10"=some 15:=by kernel_rfl
theorem Afm{W:World}{rest:List (String × DataW Unit)}(h:laidMet Tryz.prog (("internal/strconv.uint64pow10",Lib.tabData .u64 Lib.pow10Tab)::rest) W):J4 W.heap.size W:=
 Lib.tabBelow_of_tabIs (Lib.tabIs_of_head powName rfl underlying356 underlying329 (by kernel_rfl) (by kernel_rfl) h)
end
end Go.Proofs.YtikehilbmldadaaGreatDoor
