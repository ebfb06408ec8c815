import Derived.Test.YtikehilbmldadaaGreatDoorV24
import Derived.Test.YtikehilbmldadaaGreatDoorV31
import Derived.Test.YtikehilbmldadaaGreatDoorV33
set_option maxHeartbeats 2000000
set_option maxRecDepth 20000
set_option linter.unusedVariables false
open Go.Proofs.Tryz Go.Proofs.YtikehilbmldadaaGreatDoor.Tryz
namespace Go.Proofs.YtikehilbmldadaaGreatDoor
open Go.RowKit
def Xo(i:Nat)(r:List ByteArray)(k:Nat)(ns:List Nat):Prop:=ns.length=k/\D7 i 0 r=(D7 i k (r.drop k)).map (ns++ ·)
theorem sE(i:Nat)(r:List ByteArray):Xo i r 0 []:=⟨rfl,by cases h:D7 i 0 r<;>simp[h]⟩
theorem Ta{i k:Nat}{r:List ByteArray}(hk:k<r.length):D7 i k (r.drop k)=match Ej r[k] with
  |none=>none
  |some n=>if k=0/\i≠3/\i≠4/\9<n then none else match D7 i (k+1) (r.drop (k+1))with
   |none=>none
   |some l=>some (n::l):=by
 rw[List.drop_eq_getElem_cons hk]
 rfl
theorem sF{i k n:Nat}{r:List ByteArray}{ns:List Nat}(h:Xo i r k ns)(hk:k<r.length)(hn:Ej r[k]=some n)(hg:¬(k=0/\i≠3/\i≠4/\9<n)):Xo i r (k+1) (ns++ [n]):=by
 refine⟨by simp[h.1],?_⟩
 rw[h.2,Ta hk,hn]
 simp only
 rw[if_neg hg]
 cases D7 i (k+1) (r.drop (k+1))<;>simp
theorem Xn{i k:Nat}{r:List ByteArray}{ns:List Nat}(h:Xo i r k ns)(hk:k<r.length)(hb:Ej r[k]=none\/∃n,Ej r[k]=some n/\(k=0/\i≠3/\i≠4/\9<n)):D7 i 0 r=none:=by
 rw[h.2,Ta hk]
 rcases hb with hb|⟨n,hb,hg⟩
 ·rw[hb];rfl
 ·rw[hb];simp only;rw[if_pos hg];rfl
theorem Xm{i:Nat}{r:List ByteArray}{ns:List Nat}(h:Xo i r r.length ns):D7 i 0 r=some ns:=by
 rw[h.2,List.drop_length]
 simp[D7]
theorem kL{txt:ByteArray}{M:KpM}{line w:ByteArray}{r:List ByteArray}(h:Bj 32 line=w::r)(hw:Cp w=none):Dg txt M line=(1,ByteArray.empty,M):=by
 unfold Dg Hf
 rw[h];simp only[hw]
theorem kN{txt:ByteArray}{M:KpM}{line w:ByteArray}{r:List ByteArray}{i:Nat}(h:Bj 32 line=w::r)(hw:Cp w=some i)(hl:r.length≠Gm i):Dg txt M line=(1,ByteArray.empty,M):=by
 unfold Dg Hf
 rw[h];simp only[hw]
 rw[if_pos hl]
theorem sG{txt:ByteArray}{M:KpM}{line w:ByteArray}{r:List ByteArray}{i:Nat}(h:Bj 32 line=w::r)(hw:Cp w=some i)(hn:D7 i 0 r=none):Dg txt M line=(1,ByteArray.empty,M):=by
 unfold Dg Hf
 rw[h];simp only[hw,hn,ite_self]
theorem Ur{line w:ByteArray}{r:List ByteArray}{i:Nat}{ns:List Nat}(h:Bj 32 line=w::r)(hw:Cp w=some i)(hl:r.length=Gm i)(hn:D7 i 0 r=some ns):Hf line=some (i,ns):=by
 unfold Hf
 rw[h];simp only[hw]
 rw[if_neg (fun hh=>hh hl),hn]
theorem kQ{txt:ByteArray}{M:KpM}{line w:ByteArray}{r:List ByteArray}{i:Nat}{ns:List Nat}(h:Bj 32 line=w::r)(hw:Cp w=some i)(hl:r.length=Gm i)(hn:D7 i 0 r=some ns):Dg txt M line=Es txt M i ns:=by
 unfold Dg
 rw[Ur h hw hl hn]
def Ah8:List Nat:=[118,120,121,122,124,126,128]
def Tn(i:Nat):Nat:=if i<7 then Ah8.getD i 0 else 189
def Q9(b:Nat->Nat)(i:Nat):Array Value:=if i<7 then #[] else #[.pointer (some ⟨b (i-7),0,none⟩)]
theorem V9(b:Nat->Nat):(Lj b).map (·.1)=Dx.map (·.1):=rfl
theorem To(b:Nat->Nat):((Lj b).map (·.1)).Nodup:=by
 rw[V9]
 decide
theorem Ae9(b:Nat->Nat)(i:Nat)(hi:i<14):(Lj b)[i]? =some ((Dx.getD i (ByteArray.empty,0)).1,Ho (Gm i) (.func (.func (Tn i)) #[] (Q9 b i))):=by
 match i,hi with
 |0,_=>rfl
 |1,_=>rfl
 |2,_=>rfl
 |3,_=>rfl
 |4,_=>rfl
 |5,_=>rfl
 |6,_=>rfl
 |7,_=>rfl
 |8,_=>rfl
 |9,_=>rfl
 |10,_=>rfl
 |11,_=>rfl
 |12,_=>rfl
 |13,_=>rfl
theorem vX{L:List (ByteArray × Value)}{s:ByteArray}(h:L.findIdx? (fun p=>p.1.data.toList==s.data.toList)=none):N0 L s=none:=by
 unfold N0
 rw[List.findIdx?_eq_none_iff]at h
 rw[List.find?_eq_none.2 (fun x hx=>by rw[h x hx];decide)]
 rfl
theorem vW{L:List (ByteArray × Value)}{s k:ByteArray}{v:Value}{i:Nat}(h:L.findIdx? (fun p=>p.1.data.toList==s.data.toList)=some i)(hi:L[i]? =some (k,v)):N0 L s=some v:=by
 unfold N0
 rw[List.findIdx?_eq_some_iff_getElem]at h
 obtain⟨hl,h1,h2⟩:=h
 have:L.find? (fun p=>p.1.data.toList==s.data.toList)=some L[i]:=by
  rw[List.find?_eq_some_iff_getElem]
  exact⟨h1,i,hl,rfl,fun j hj=>by have:=h2 j hj;simpa using this⟩
 rw[this]
 rw[List.getElem?_eq_getElem hl]at hi
 rw[Option.some.inj hi]
 rfl
theorem Yj(b:Nat->Nat)(s:ByteArray):(Lj b).findIdx? (fun p=>p.1.data.toList==s.data.toList)=Cp s:=by
 have e:Dx.findIdx? (fun p=>p.1.data.toList==s.data.toList)=(Dx.map (·.1)).findIdx? (fun p=>p.data.toList==s.data.toList):=by rw[List.findIdx?_map];rfl
 have e2:(Lj b).findIdx? (fun p=>p.1.data.toList==s.data.toList)=((Lj b).map (·.1)).findIdx? (fun p=>p.data.toList==s.data.toList):=by rw[List.findIdx?_map];rfl
 unfold Cp
 rw[e,e2,V9]
theorem Aez(b:Nat->Nat){s:ByteArray}(h:Cp s=none):N0 (Lj b) s=none:=vX (by rw[Yj];exact h)
theorem Ma{s:ByteArray}{i:Nat}(h:Cp s=some i):i<14:=by
 unfold Cp at h
 obtain⟨hlt,_⟩:=List.findIdx?_eq_some_iff_getElem.1 h
 exact hlt
theorem Aey(b:Nat->Nat){s:ByteArray}{i:Nat}(h:Cp s=some i):N0 (Lj b) s=some (Ho (Gm i) (.func (.func (Tn i)) #[] (Q9 b i))):=
 vW (by rw[Yj];exact h) (Ae9 b i (Ma h))
theorem Uq{s:ByteArray}{i:Nat}(h:Cp s=some i):s=(Dx.getD i (ByteArray.empty,0)).1:=by
 have hl:=Ma h
 unfold Cp at h
 obtain⟨hlt,h1,_⟩:=List.findIdx?_eq_some_iff_getElem.1 h
 rw[List.getD_eq_getElem?_getD,List.getElem?_eq_getElem hlt]
 exact(Pb.1 h1).symm
theorem sI{s:ByteArray}{i:Nat}(h:Cp s=some i):(s.toList== [116,105,99,107])=decide (i=3)/\(s.toList== [99,117,116])=decide (i=4):=by
 have hw:=Uq h
 have hl:=Ma h
 rw[ByteArray.toList_eq,hw]
 match i,hl with
 |0,_=>decide
 |1,_=>decide
 |2,_=>decide
 |3,_=>decide
 |4,_=>decide
 |5,_=>decide
 |6,_=>decide
 |7,_=>decide
 |8,_=>decide
 |9,_=>decide
 |10,_=>decide
 |11,_=>decide
 |12,_=>decide
 |13,_=>decide
theorem Mr(c x:UInt8):∀(l:List UInt8) (D:List (List UInt8)) (p:List UInt8),Ik c l=D++ [p]->Ik c (l++ [x])=if x=c then D++ [p]++ [[]] else D++ [p++ [x]]
 |[],D,p,h=>by
  have hD:D= []/\p= []:=by
   have h':[[]]=D++ [p]:=h
   match D,h' with
   |[],h'=>exact⟨rfl,(List.cons.inj h').1.symm⟩
   |a::D,h'=>have:=congrArg List.length h';simp at this
  obtain⟨rfl,rfl⟩:=hD
  show Ik c [x]=_
  rw[O8]
  split<;>rfl
 |y::l,D,p,h=>by
  rw[O8]at h
  rw[List.cons_append,O8]
  by_cases hy:y=c
  ·rw[if_pos hy]at h ⊢
   match D,h with
   |[],h=>
    have:=congrArg List.length h
    simp at this
    exact absurd this (V4 c l)
   |a::D,h=>
    obtain⟨h1,h2⟩:=List.cons.inj h
    rw[Mr c x l D p h2,<-h1]
    split<;>rfl
  ·rw[if_neg hy]at h ⊢
   cases hl:Ik c l with
   |nil=>exact absurd hl (V4 c l)
   |cons a t=>
    rw[hl]at h
    match D,h with
    |[],h=>
     obtain⟨h1,h2⟩:=List.cons.inj (show(y::a)::t= [p] from h)
     subst h1 h2
     rw[Mr c x l [] a hl]
     by_cases hx:x=c
     ·rw[if_pos hx,if_pos hx];rfl
     ·rw[if_neg hx,if_neg hx];rfl
    |b::D,h=>
     obtain⟨h1,h2⟩:=List.cons.inj (show(y::a)::t=b::(D++ [p])from h)
     subst h1
     rw[Mr c x l (a::D) p (by rw[hl,h2];rfl)]
     by_cases hx:x=c
     ·rw[if_pos hx,if_pos hx];rfl
     ·rw[if_neg hx,if_neg hx];rfl
theorem Abw(s t:ByteArray):(s++t).data.toList=s.data.toList++t.data.toList:=by rw[ByteArray.data_append,Array.toList_append]
theorem Adi(s:ByteArray)(i:Nat)(h:i<s.size):(s.extract i (i+1)).data.toList= [s[i]]:=by
 rw[Abq,show i+1-i=1 by omega]
 have hd:s.data.toList.length=s.size:=by rw[Array.length_toList];rfl
 rw[List.drop_eq_getElem_cons (by rw[hd];exact h)]
 rfl
theorem take_one(s:ByteArray)(i:Nat)(h:i<s.size):s.data.toList.take (i+1)=s.data.toList.take i++ [s[i]]:=by
 have hd:s.data.toList.length=s.size:=by rw[Array.length_toList];rfl
 rw[List.take_succ_eq_append_getElem (by rw[hd];exact h)]
 rfl
def Mx(c:UInt8)(s:ByteArray)(i:Nat)(D:List ByteArray)(p:ByteArray):Prop:=Ik c (s.data.toList.take i)=D.map (·.data.toList)++ [p.data.toList]
theorem Mx.hit{c:UInt8}{s:ByteArray}{i:Nat}{D:List ByteArray}{p:ByteArray}(h:Mx c s i D p)(hi:i<s.size)(hc:s[i]=c):Mx c s (i+1) (D++ [p]) ByteArray.empty:=by
 unfold Mx at h ⊢
 rw[take_one s i hi,Mr c _ _ _ _ h,if_pos hc,List.map_append]
 rfl
theorem Mx.miss{c:UInt8}{s:ByteArray}{i:Nat}{D:List ByteArray}{p:ByteArray}(h:Mx c s i D p)(hi:i<s.size)(hc:s[i]≠c):Mx c s (i+1) D (p++s.extract i (i+1)):=by
 unfold Mx at h ⊢
 rw[take_one s i hi,Mr c _ _ _ _ h,if_neg hc,Abw,Adi s i hi]
theorem Mx.done{c:UInt8}{s:ByteArray}{D:List ByteArray}{p:ByteArray}(h:Mx c s s.size D p):Bj c s=D++ [p]:=by
 unfold Mx at h
 have hd:s.data.toList.length=s.size:=by rw[Array.length_toList];rfl
 rw[List.take_of_length_le (by omega)]at h
 refine Kc ?_
 rw[El,h,List.map_append]
 rfl
theorem kX(s:ByteArray)(c:UInt8)(w:World)(hs:s.size<=100000):
  Calls Tryz.prog 41 #[.string s,.int .u8 (c.toNat:Int)] w fun e w'=>∃ao cap,e=.returned (.slice ao (Bj c s).length cap)/\As w' w.heap.size 9 1 (.slice ao (Bj c s).length cap) (Bj c s).length (Ad (Bj c s))/\Below w.heap.size w w':=by
 obtain⟨i0,hi0,hz0,hz1,hz2⟩:=info_parts infoStr
 go_enter func41,ntmps41
 go_wp2_with fail
 go_loopw [5,6,7] (fun s5 s6 s7 wr=>∃(i n:Nat) (D:List ByteArray) (p:ByteArray) (na:Option Addr) (nc:Nat),i<=s.size/\n<=i/\s5=.slice na n nc/\s6=.string p/\s7=.int .i64 i/\Hid (Mx c s i D p)/\Hid (D.length=n)/\Hid (p.size<=i)/\Hid (As wr w.heap.size 9 1 (.slice na n nc) n (Ad D))/\Hid (Below w.heap.size w wr)) (fun _ _ s7 _=>s.size-(intOf s7).toNat)
 case atStart=>exact⟨0,0,[],ByteArray.empty,none,0,Nat.zero_le _,Nat.le_refl _,rfl,rfl,rfl,(show Mx c s 0 [] ByteArray.empty from rfl),rfl,Nat.le_refl 0,(show As w w.heap.size 9 1 (.slice none 0 0) 0 [] from⟨rfl,.inl ⟨rfl,rfl⟩⟩),Below.refl _ _⟩
 case round=>
  obtain⟨i,n,D,p,na,nc,hi,hni,rfl,rfl,rfl,hcut,hdl,hps,hown,hbel⟩:=hrel
  by_cases hlt:i<s.size
  ·by_cases hc:s[i]=c
   ·have hcc:((s[i].toNat:Int)==(c.toNat:Int))=true:=by rw[hc];simp
    have nx:=Aia (hcut.out.hit hlt hc)
    clear hc
    go_wp2_with
     (at_builtin;go_must (refine A5 rfl (.tmp 19) (.tmp 21) 22 rfl w.heap.size 9 i0 _ 1 16 underlying22 hi0 hz0 hz1 hz2 rfl (by decide) (.slice na n nc) n (Ad D) rfl (hown.out.later ((Below.refl _ _).alloc (Nat.le_refl _) _)) ⟨wr.heap.size,0,none⟩ 1 1 [.string p] rfl rfl (Av _ [.string p] _) (by intro u hu;simp at hu;subst hu;rfl) (by unfold maxLen;omega) (by omega) (by have:=hbel.out.size;rw[World.size_alloc];omega) ?_;intro a4 k4 w4 ho4 hg4 hn4';have HO4:Hid (As w4 w.heap.size 9 1 (.slice a4 (n+1) k4) (n+1) (Ad (D++ [p]))):=Aia (by unfold Ad at ho4 ⊢;rw[List.map_append];exact ho4);have HB4:=Aia ((hbel.out.alloc hbel.out.size _).trans ((Ae.of_grown hg4).below (by have:=hbel.out.size;rw[World.size_alloc];omega) (fun b hb=>(hown.out.lt b hb.symm).1)));clear ho4 hg4 hn4'))
    go_roundw
    case rel=>exact⟨i+1,n+1,D++ [p],ByteArray.empty,a4,k4,by omega,by omega,rfl,rfl,by go_num,nx,(show(D++ [p]).length=n+1 from by rw[List.length_append,hdl.out];rfl),(show(0:Nat)<=i+1 from Nat.zero_le _),HO4,HB4⟩
    case measure=>simp[intOf];omega
   ·have hcc:((s[i].toNat:Int)==(c.toNat:Int))=false:=by rw[beq_eq_false_iff_ne];intro e;exact hc (UInt8.toNat_inj.1 (by omega))
    have nx:=Aia (hcut.out.miss hlt hc)
    have hz1':(s.extract i (i+1)).size=1:=by rw[ByteArray.size_extract];omega
    have hz2':p.size<=100000:=by have:=hps.out;omega
    have nz:Hid ((p++s.extract i (i+1)).size<=i+1):=Aia (by rw[ByteArray.size_append,hz1'];have:=hps.out;omega)
    clear hc
    go_wp2_with fail
    go_roundw
    case rel=>exact⟨i+1,n,D,p++s.extract i (i+1),na,nc,by omega,by omega,rfl,rfl,by go_num,nx,hdl,nz,hown,hbel⟩
    case measure=>simp[intOf];omega
  ·obtain rfl:i=s.size:=by omega
   have HP:=Aia hcut.out.done
   go_wp2_with
    (at_builtin;go_must (refine A5 rfl (.tmp 30) (.tmp 32) 22 rfl w.heap.size 9 i0 _ 1 16 underlying22 hi0 hz0 hz1 hz2 rfl (by decide) (.slice na n nc) n (Ad D) rfl (hown.out.later ((Below.refl _ _).alloc (Nat.le_refl _) _)) ⟨wr.heap.size,0,none⟩ 1 1 [.string p] rfl rfl (Av _ [.string p] _) (by intro u hu;simp at hu;subst hu;rfl) (by unfold maxLen;omega) (by omega) (by have:=hbel.out.size;rw[World.size_alloc];omega) ?_;intro a4 k4 w4 ho4 hg4 hn4';have HO4:Hid (As w4 w.heap.size 9 1 (.slice a4 (n+1) k4) (n+1) (Ad (D++ [p]))):=Aia (by unfold Ad at ho4 ⊢;rw[List.map_append];exact ho4);have HB4:=Aia ((hbel.out.alloc hbel.out.size _).trans ((Ae.of_grown hg4).below (by have:=hbel.out.size;rw[World.size_alloc];omega) (fun b hb=>(hown.out.lt b hb.symm).1)));clear ho4 hg4 hn4'))
   go_ret
   have hl:(Bj c s).length=n+1:=by rw[HP.out,List.length_append,hdl.out];rfl
   refine⟨a4,k4,by rw[hl];rfl,?_,HB4.out⟩
   rw[hl,HP.out]
   exact HO4.out
def Tt(C:Al)(v:Value)(st:ByteArray):Array Value:=#[.int .i64 C.closed,.int .i64 C.opn,.int .i64 C.cycle,.int .i64 C.delay,v,.string st]
structure D0 (base rb:Nat) (o:Nat->Option Nat) (C:Al) (st:ByteArray) (v:Value) (Y:List Aw) (w:World):Prop where
 blk:w.heap[rb]? =some (.cells (Tt C v st) 103)
 lo:rb<base
 top:base<=w.heap.size
 fr:∀b,w.heap.size<=b->o b=none
 ob:∀b,b<base->o b=none
 row:As w base 50 10 v Y.length (Y.flatMap Aj)
 rt:∀b,v.ownBlock=some b->o b=some 0
 own:∀i (hi:i<Y.length),Lv base o (1+5*i) Y[i] w
 eq:C.ents=Y.map Aw.E
theorem D0.keep{base rb:Nat}{o:Nat->Option Nat}{C:Al}{st:ByteArray}{v:Value}{Y:List Aw}{S:Nat->Prop}{w w':World}(h:D0 base rb o C st v Y w)(k:Ae S w w')(hS:∀b,b<w.heap.size->S b->b≠rb/\o b=none):D0 base rb o C st v Y w':=by
 have hl:=Aa h.blk
 refine⟨k.get h.blk (fun hs=>(hS rb hl hs).1 rfl),h.lo,Nat.le_trans h.top k.size,fun b hb=>h.fr b (Nat.le_trans k.size hb),h.ob,?_,h.rt,fun i hi=>?_,h.eq⟩
 ·exact h.row.keep k (fun b hb hs=>by have:=(hS b (h.row.lt b hb).2 hs).2;rw[h.rt b hb]at this;cases this)
 ·exact(h.own i hi).keep k (fun b hb hs j hj=>by rw[(hS b hb hs).2];simp) (fun _ _=>rfl)
theorem D0.later{base rb:Nat}{o:Nat->Option Nat}{C:Al}{st:ByteArray}{v:Value}{Y:List Aw}{w w':World}(h:D0 base rb o C st v Y w)(b:Below w.heap.size w w'):D0 base rb o C st v Y w':=
 h.keep (Ak b) (fun _ _ h=>h.elim)
theorem Hg{w:World}{rb:Nat}{C:Al}{v:Value}{st:ByteArray}(h:w.heap[rb]? =some (.cells (Tt C v st) 103)):
  w.cell? ⟨rb,0,none⟩=some (.int .i64 C.closed)/\w.cell? ⟨rb,1,none⟩=some (.int .i64 C.opn)/\w.cell? ⟨rb,2,none⟩=some (.int .i64 C.cycle)/\w.cell? ⟨rb,3,none⟩=some (.int .i64 C.delay)/\w.cell? ⟨rb,4,none⟩=some v/\w.cell? ⟨rb,5,none⟩=some (.string st)/\∀o,w.frozen? ⟨rb,o,none⟩=false:=by
 unfold Tt at h
 simp[World.cell?,World.frozen?,h]
theorem D0.set{base rb:Nat}{o:Nat->Option Nat}{C C':Al}{st st':ByteArray}{v:Value}{Y:List Aw}{w:World}(h:D0 base rb o C st v Y w)(k:Nat)(u:Value)(he:(Tt C v st).setIfInBounds k u=Tt C' v st')(hC:C'.ents=C.ents):D0 base rb o C' st' v Y (w.setCell ⟨rb,k,none⟩ u):=by
 have kk:=Ai w rb k u
 have hor:o rb=none:=h.ob rb h.lo
 refine⟨?_,h.lo,Nat.le_trans h.top kk.size,fun b hb=>h.fr b (Nat.le_trans kk.size hb),h.ob,?_,h.rt,fun i hi=>?_,by rw[hC];exact h.eq⟩
 ·rw[Am _ h.blk,he]
 ·exact h.row.keep kk (fun b hb hs=>by have:=h.rt b hb;rw[show b=rb from hs,hor]at this;cases this)
 ·exact(h.own i hi).keep kk (fun b hb hs j hj=>by rw[show b=rb from hs,hor];simp) (fun _ _=>rfl)
theorem D0.form{base rb:Nat}{o:Nat->Option Nat}{C:Al}{st:ByteArray}{v:Value}{Z:List Aw}{y:Aw}{w:World}(h:D0 base rb o C st v (Z++ [y]) w):
  ∃g off cap,v=.slice (some ⟨g,off,none⟩) (Z.length+1) cap/\(Z.length+1<=cap/\cap<=maxLen)/\o g=some 0/\base<=g/\g<w.heap.size/\g≠rb/\∀k u,(Aj y)[k]? =some u->w.cell? ⟨g,off+(Z.length*10+k),none⟩=some u:=by
 have hr:=h.row
 rw[List.length_append,List.length_singleton]at hr
 rcases hr.2 with⟨_,h0⟩|⟨g,off,cap,cur,rfl,h2,h3,h4,h5,h6,h7⟩
 ·omega
 ·refine⟨g,off,cap,rfl,⟨h4,h5⟩,h.rt g rfl,h2,Aa h3,by have:=h.lo;omega,fun k u hu=>?_⟩
  have:=hr.cells (g:=g) (off:=off) (cap:=cap) (Z.length*10+k) u (by
   rw[List.flatMap_append,List.getElem?_append_right (by rw[Dn Aj 10 (fun _=>rfl)];omega),Dn Aj 10 (fun _=>rfl)]
   simpa using hu)
  rw[Cz]at this
  exact this
theorem D0.far{base rb:Nat}{o:Nat->Option Nat}{C:Al}{st:ByteArray}{v:Value}{Y:List Aw}{w w1 w2:World}(h:D0 base rb o C st v Y w)(b1:Below w.heap.size w w1){u:Value}{T:Nat}(hu:∀b,u.ownBlock=some b->o b=some T)(hg:w1.grownBy w2 u.ownBlock):
  ∀b k,b<w.heap.size->o b=none->w2.cell? ⟨b,k,none⟩=w.cell? ⟨b,k,none⟩/\w2.frozen? ⟨b,k,none⟩=w.frozen? ⟨b,k,none⟩:=by
 intro b k hb hn
 have k1:Ae (fun b=>o b=some T) w w2:=(Ae.refl _ w).step (Ae.of_below b1) (fun b hb hl=>by have:=b1.size;omega) |>.step (Ae.of_grown hg) (fun b hb hl=>hu b (Eq.symm hb))
 have e:=k1.block b hb (fun hs=>by rw[hn]at hs;cases hs)
 exact⟨World.cell?_of_block (a:=⟨b,k,none⟩) e,World.frozen?_of_block (a:=⟨b,k,none⟩) e⟩
theorem D0.appE{base rb:Nat}{o:Nat->Option Nat}{C:Al}{st:ByteArray}{v v2:Value}{Y:List Aw}{w w1 w2:World}(h:D0 base rb o C st v Y w)(b1:Below w.heap.size w w1)(name:ByteArray)(tol:Int)
  (ho:As w2 base 50 10 v2 (Y.length+1) (Y.flatMap Aj++Aj ⟨Mi name tol,.slice none 0 0,.slice none 0 0,.slice none 0 0,.slice none 0 0,.slice none 0 0⟩)) (hg:w1.grownBy w2 v.ownBlock) (hn:v2.ownBlock=v.ownBlock\/∀b,v2.ownBlock=some b->w1.heap.size<=b):
  (∃o',D0 base rb o' { C with ents:=C.ents++ [Mi name tol]} st v2 (Y++ [⟨Mi name tol,.slice none 0 0,.slice none 0 0,.slice none 0 0,.slice none 0 0,.slice none 0 0⟩]) (w2.setCell ⟨rb,4,none⟩ v2))/\Ae (fun b=>b=rb\/∃t,o b=some t) w (w2.setCell ⟨rb,4,none⟩ v2)/\w2.cell? ⟨rb,4,none⟩=some v/\w2.frozen? ⟨rb,4,none⟩=false:=by
 have hsz1:=b1.size
 have hrb:o rb=none:=h.ob rb h.lo
 have hrl:=Aa h.blk
 have k1:Ae (fun b=>o b=some 0) w w2:=(Ae.refl _ w).step (Ae.of_below b1) (fun b hb hl=>by omega) |>.step (Ae.of_grown hg) (fun b hb hl=>h.rt b (Eq.symm hb))
 have k2:=Ai w2 rb 4 v2
 have k3:Ae (fun b=>o b=some 0\/b=rb) w (w2.setCell ⟨rb,4,none⟩ v2):=(k1.mono (fun b _ hb=>.inl hb)).step k2 (fun b hb _=>.inr hb)
 have hsz:=k3.size
 have hblk2:=k1.get h.blk (fun hs=>by rw[hrb]at hs;cases hs)
 have hob:∀b,b<w.heap.size->(if v2.ownBlock=some b then some 0 else o b)=o b:=by
  intro b hb
  split
  ·next e=>exact(Ze hn h.rt (by omega) e).symm
  ·rfl
 refine⟨⟨fun b=>if v2.ownBlock=some b then some 0 else o b,?_⟩,k3.mono (fun b _ hb=>by rcases hb with hb|rfl;exact .inr ⟨_,hb⟩;exact .inl rfl),by simp[World.cell?,hblk2,Tt],by simp[World.frozen?,hblk2]⟩
 refine⟨?_,h.lo,Nat.le_trans h.top hsz,fun b hb=>?_,fun b hb=>?_,?_,fun b hb=>by rw[if_pos hb],fun i hi=>?_,?_⟩
 ·rw[Am _ hblk2]
  rfl
 ·rw[if_neg (fun e=>by have:=(ho.lt b e).2;have:=k2.size;omega)]
  exact h.fr b (by omega)
 ·rw[if_neg (fun e=>by have:=(ho.lt b e).1;omega)]
  exact h.ob b hb
 ·rw[List.length_append,List.length_singleton,List.flatMap_append,List.flatMap_singleton]
  exact ho.keep k2 (fun b hb hs=>by have:=(ho.lt b hb).1;have:=h.lo;have:b=rb:=hs;omega)
 ·rw[List.length_append,List.length_singleton]at hi
  by_cases him:i<Y.length
  ·rw[List.getElem_append_left him]
   refine(h.own i him).keep k3 (fun b hb hs i' hi' hh=>?_) hob
   rcases hs with hs|rfl
   ·rw[hs]at hh;injection hh with hh;omega
   ·rw[hrb]at hh;cases hh
  ·obtain rfl:i=Y.length:=by omega
   rw[List.getElem_concat_length rfl]
   intro j hj
   match j,hj with
   |0,_=>exact⟨⟨rfl,.inl ⟨rfl,rfl⟩⟩,fun b hb=>by cases hb⟩
   |1,_=>exact⟨⟨rfl,.inl ⟨rfl,rfl⟩⟩,fun b hb=>by cases hb⟩
   |2,_=>exact⟨⟨rfl,.inl ⟨rfl,rfl⟩⟩,fun b hb=>by cases hb⟩
   |3,_=>exact⟨⟨rfl,.inl ⟨rfl,rfl⟩⟩,fun b hb=>by cases hb⟩
   |4,_=>exact⟨⟨rfl,.inl ⟨rfl,rfl⟩⟩,fun b hb=>by cases hb⟩
 ·show C.ents++ [Mi name tol]=(Y++ [_]).map Aw.E
  rw[List.map_append,h.eq]
  rfl
theorem Aei(Z:List Aw)(y y':Aw):((((((((((((Z++ [y]).flatMap Aj).set (Z.length*10+0) (.string y'.E.name)).set (Z.length*10+1) (.int .i64 y'.E.tol)).set (Z.length*10+2) y'.p).set (Z.length*10+3) (.int .i64 y'.E.count)).set (Z.length*10+4) (.int .i64 y'.E.mn)).set (Z.length*10+5) (.int .i64 y'.E.mx)).set (Z.length*10+6) y'.g).set (Z.length*10+7) y'.e).set (Z.length*10+8) y'.f).set (Z.length*10+9) y'.l)=(Z++ [y']).flatMap Aj:=by
 have hl:(Z.flatMap Aj).length=Z.length*10:=Dn Aj 10 (fun _=>rfl) Z
 rw[List.flatMap_append,List.flatMap_append,List.flatMap_singleton,List.flatMap_singleton]
 iterate 10 rw[List.set_append_right _ _ (by omega),hl,Nat.add_sub_cancel_left]
 rfl
def Sd(w:World)(g a:Nat)(y:Aw):World:=
 ((((((((((w.setCell ⟨g,a,none⟩ (.string y.E.name)).setCell ⟨g,a+1,none⟩ (.int .i64 y.E.tol)).setCell ⟨g,a+2,none⟩ y.p).setCell ⟨g,a+3,none⟩ (.int .i64 y.E.count)).setCell ⟨g,a+4,none⟩ (.int .i64 y.E.mn)).setCell ⟨g,a+5,none⟩ (.int .i64 y.E.mx)).setCell ⟨g,a+6,none⟩ y.g).setCell ⟨g,a+7,none⟩ y.e).setCell ⟨g,a+8,none⟩ y.f).setCell ⟨g,a+9,none⟩ y.l)
theorem hP(w:World)(g a:Nat)(y:Aw):Ae (· =g) w (Sd w g a y):=by
 unfold Sd
 iterate 10 refine Gi ?_ _ _
 exact Ae.refl _ _
theorem As.ten{w:World}{base g off cap:Nat}{Z:List Aw}{y:Aw}(h:As w base 50 10 (.slice (some ⟨g,off,none⟩) (Z.length+1) cap) (Z.length+1) ((Z++ [y]).flatMap Aj))(y':Aw):
  As (Sd w g (off+Z.length*10) y') base 50 10 (.slice (some ⟨g,off,none⟩) (Z.length+1) cap) (Z.length+1) ((Z++ [y']).flatMap Aj):=by
 have h0:=(h.stored (Z.length*10+0) (by omega) (.string y'.E.name)).1
 have h1:=(h0.stored (Z.length*10+1) (by omega) (.int .i64 y'.E.tol)).1
 have h2:=(h1.stored (Z.length*10+2) (by omega) y'.p).1
 have h3:=(h2.stored (Z.length*10+3) (by omega) (.int .i64 y'.E.count)).1
 have h4:=(h3.stored (Z.length*10+4) (by omega) (.int .i64 y'.E.mn)).1
 have h5:=(h4.stored (Z.length*10+5) (by omega) (.int .i64 y'.E.mx)).1
 have h6:=(h5.stored (Z.length*10+6) (by omega) y'.g).1
 have h7:=(h6.stored (Z.length*10+7) (by omega) y'.e).1
 have h8:=(h7.stored (Z.length*10+8) (by omega) y'.f).1
 have h9:=(h8.stored (Z.length*10+9) (by omega) y'.l).1
 rw[Aei]at h9
 simp only[<-Nat.add_assoc,Nat.add_zero]at h9
 exact h9
theorem D0.put{base rb:Nat}{o:Nat->Option Nat}{C C':Al}{st:ByteArray}{Z:List Aw}{y y':Aw}{w w2 w4:World}{g off cap:Nat}(h:D0 base rb o C st (.slice (some ⟨g,off,none⟩) (Z.length+1) cap) (Z++ [y]) w)(j:Nat)(hj:j<5)(k1:Ae (fun b=>o b=some (1+5*Z.length+j)) w w2){v2:Value}{n:Nat}{cs:List Value}
  (ho:As w2 base (fT j) (fS j) v2 n cs) (hn:v2.ownBlock=(fV y j).ownBlock\/∀b,v2.ownBlock=some b->w.heap.size<=b)
  (hs:∀i,i<5->i≠j->fV y' i=fV y i/\fN y'.E i=fN y.E i/\fC y'.E i=fC y.E i) (hj2:fV y' j=v2/\fN y'.E j=n/\fC y'.E j=cs)
  (hC:Tt C' (.slice (some ⟨g,off,none⟩) (Z.length+1) cap) st=Tt C (.slice (some ⟨g,off,none⟩) (Z.length+1) cap) st) (hE:C'.ents=(Z++ [y']).map Aw.E) (k2:Ae (· =g) w2 w4)
  (hrow:As w4 base 50 10 (.slice (some ⟨g,off,none⟩) (Z.length+1) cap) (Z.length+1) ((Z++ [y']).flatMap Aj)):
  (∃o',D0 base rb o' C' st (.slice (some ⟨g,off,none⟩) (Z.length+1) cap) (Z++ [y']) w4)/\Ae (fun b=>∃t,o b=some t) w w4:=by
 have hzl:(Z++ [y]).length=Z.length+1:=by rw[List.length_append,List.length_singleton]
 have hym:=h.own Z.length (by omega)
 rw[List.getElem_concat_length rfl]at hym
 obtain⟨hyj,hyt⟩:=hym j hj
 have hgw:g<w.heap.size:=(h.row.lt g rfl).2
 have hgo:o g=some 0:=h.rt g rfl
 have hsz1:=k1.size
 have k3:Ae (fun b=>o b=some (1+5*Z.length+j)\/b=g) w w4:=(k1.mono (fun b _ hb=>.inl hb)).step k2 (fun b hb _=>.inr hb)
 have hsz:=k3.size
 have hng:v2.ownBlock≠some g:=fun e=>by
  rcases hn with hn|hn
  ·have:=hyt g (by rw[<-hn];exact e)
   rw[hgo]at this
   injection this with this
   omega
  ·have:=hn g e;omega
 have hv2:∀b,b<w.heap.size->v2.ownBlock=some b->o b=some (1+5*Z.length+j):=by
  intro b hb e
  rcases hn with hn|hn
  ·exact hyt b (by rw[<-hn];exact e)
  ·have:=hn b e;omega
 refine⟨⟨fun b=>if v2.ownBlock=some b then some (1+5*Z.length+j) else o b,?_⟩,k3.mono (fun b _ hb=>by rcases hb with hb|rfl;exact⟨_,hb⟩;exact⟨_,hgo⟩)⟩
 have hob:∀b,b<w.heap.size->(if v2.ownBlock=some b then some (1+5*Z.length+j) else o b)=o b:=by
  intro b hb
  split
  ·next e=>exact(hv2 b hb e).symm
  ·rfl
 have hrb:o rb=none:=h.ob rb h.lo
 have hrl:=Aa h.blk
 refine⟨?_,h.lo,Nat.le_trans h.top hsz,fun b hb=>?_,fun b hb=>?_,?_,fun b hb=>?_,fun i hi=>?_,hE⟩
 ·rw[hC]
  exact k3.get h.blk (fun hs=>by rcases hs with hs|hs;rw[hrb]at hs;cases hs;rw[hs,hgo]at hrb;cases hrb)
 ·rw[if_neg (fun e=>by have:=(ho.lt b e).2;have:=k2.size;omega)]
  exact h.fr b (by omega)
 ·rw[if_neg (fun e=>by have:=(ho.lt b e).1;omega)]
  exact h.ob b hb
 ·rw[List.length_append,List.length_singleton]
  exact hrow
 ·obtain rfl:g=b:=Option.some.inj hb
  rw[if_neg hng]
  exact hgo
 ·rw[List.length_append,List.length_singleton]at hi
  by_cases him:i<Z.length
  ·have hy:=h.own i (by omega)
   rw[List.getElem_append_left him]at hy ⊢
   refine hy.keep k3 (fun b hb hs i' hi' hh=>?_) hob
   rcases hs with hs|rfl
   ·rw[hs]at hh;injection hh with hh;omega
   ·rw[hgo]at hh;injection hh with hh;omega
  ·obtain rfl:i=Z.length:=by omega
   rw[List.getElem_concat_length rfl]
   intro i' hi'
   by_cases hij:i'=j
   ·subst hij
    obtain⟨q1,q2,q3⟩:=hj2
    rw[q1,q2,q3]
    refine⟨ho.keep k2 (fun b hb hs=>hng (by rw[<-show b=g from hs];exact hb)),fun b hb=>if_pos hb⟩
   ·obtain⟨q1,q2,q3⟩:=hs i' hi' hij
    rw[q1,q2,q3]
    obtain⟨p1,p2⟩:=hym i' hi'
    refine⟨p1.keep k3 (fun b hb hs=>?_),fun b hb=>?_⟩
    ·rcases hs with hs|rfl
     ·rw[p2 b hb]at hs;injection hs with hs;omega
     ·rw[p2 b hb]at hgo;injection hgo with hgo;omega
    ·show(if v2.ownBlock=some b then some (1+5*Z.length+j) else o b)=_
     rw[hob b (p1.lt b hb).2]
     exact p2 b hb
theorem D0.last{base rb:Nat}{o:Nat->Option Nat}{C:Al}{st:ByteArray}{v:Value}{Z:List Aw}{y:Aw}{w:World}(h:D0 base rb o C st v (Z++ [y]) w):Lv base o (1+5*Z.length) y w:=by
 have:=h.own Z.length (by rw[List.length_append,List.length_singleton];omega)
 rw[List.getElem_concat_length rfl]at this
 exact this
structure BX (w5:World) (base:Nat) (o:Nat->Option Nat) (zl eb:Nat) (E':Ap) (y y':Aw) (wx:World):Prop where
 eq:y'.E=E'
 box:wx.heap[eb]? =some (.cells (Aj y').toArray 50)
 row:∃j,j<5/\Ae (fun b=>o b=some (1+5*zl+j)) w5 wx/\As wx base (fT j) (fS j) (fV y' j) (fN y'.E j) (fC y'.E j)/\((fV y' j).ownBlock=(fV y j).ownBlock\/∀b,(fV y' j).ownBlock=some b->w5.heap.size<=b)/\(∀i,i<5->i≠j->fV y' i=fV y i/\fN y'.E i=fN y.E i/\fC y'.E i=fC y.E i)
theorem BX.here{base rb:Nat}{o:Nat->Option Nat}{C:Al}{st:ByteArray}{Z:List Aw}{y y':Aw}{w5 wx:World}{g off cap eb:Nat}{E':Ap}(hb:BX w5 base o Z.length eb E' y y' wx)(h:D0 base rb o C st (.slice (some ⟨g,off,none⟩) (Z.length+1) cap) (Z++ [y]) w5):
  wx.cell? ⟨rb,4,none⟩=some (.slice (some ⟨g,off,none⟩) (Z.length+1) cap)/\As wx base 50 10 (.slice (some ⟨g,off,none⟩) (Z.length+1) cap) (Z.length+1) ((Z++ [y]).flatMap Aj)/\
   (∃a c,y'.p=.slice a y'.E.points.length c)/\(∃a c,y'.g=.slice a y'.E.gaps.length c)/\(∃a c,y'.e=.slice a y'.E.edges.length c)/\(∃a c,y'.f=.slice a y'.E.first.length c)/\(∃a c,y'.l=.slice a y'.E.last.length c):=by
 obtain⟨j,hj,k1,ho,hn,hs⟩:=hb.row
 have hrow:=h.row
 rw[List.length_append,List.length_singleton]at hrow
 have hvals:∀i,i<5->∃a c,fV y' i=.slice a (fN y'.E i) c:=by
  intro i hi
  by_cases hij:i=j
  ·subst hij;exact ho.val
  ·obtain⟨e1,e2,e3⟩:=hs i hi hij
   rw[e1,e2]
   exact(h.last i hi).1.val
 refine⟨?_,hrow.keep k1 (fun b hb hh=>by rw[h.rt b hb]at hh;injection hh with hh;omega),hvals 0 (by decide),hvals 1 (by decide),hvals 2 (by decide),hvals 3 (by decide),hvals 4 (by decide)⟩
 rw[k1.cell (p:=⟨rb,4,none⟩) (Aa h.blk) (fun hh=>by
  have:o rb=some (1+5*Z.length+j):=hh
  rw[h.ob rb h.lo]at this;cases this)]
 exact(Hg h.blk).2.2.2.2.1
theorem Afl{w:World}{base g off cap:Nat}{Z:List Aw}{y:Aw}(h:As w base 50 10 (.slice (some ⟨g,off,none⟩) (Z.length+1) cap) (Z.length+1) ((Z++ [y]).flatMap Aj)):
  (∀k u,(Aj y)[k]? =some u->w.cell? ⟨g,off+Z.length*10+k,none⟩=some u)/\∀k,k<10->w.frozen? ⟨g,off+Z.length*10+k,none⟩=false:=by
 refine⟨fun k u hu=>?_,fun k hk=>?_⟩
 ·have:=h.cells (Z.length*10+k) u (by
   rw[List.flatMap_append,List.getElem?_append_right (by rw[Dn Aj 10 (fun _=>rfl)];omega),Dn Aj 10 (fun _=>rfl)]
   simpa using hu)
  rw[Cz,<-Nat.add_assoc]at this
  exact this
 ·have:=(h.stored (Z.length*10+k) (by omega) (.bool true)).2
  rw[<-Nat.add_assoc]at this
  exact this
theorem BX.end{base rb:Nat}{o:Nat->Option Nat}{C:Al}{st:ByteArray}{Z:List Aw}{y y':Aw}{w5 wx:World}{g off cap eb:Nat}{k:Nat}(hk:4<=k){name:ByteArray}{n:List Int}(hb:BX w5 base o Z.length eb (Bl k name n y.E) y y' wx)(h:D0 base rb o C st (.slice (some ⟨g,off,none⟩) (Z.length+1) cap) (Z++ [y]) w5):
  (∃o',D0 base rb o' (Bf k name n C) st (.slice (some ⟨g,off,none⟩) (Z.length+1) cap) (Z++ [y']) (Sd wx g (off+Z.length*10) y'))/\Ae (fun b=>∃t,o b=some t) w5 (Sd wx g (off+Z.length*10) y'):=by
 obtain⟨-,hrow,-⟩:=hb.here h
 obtain⟨j,hj,k1,ho,hn,hs⟩:=hb.row
 have hE:=Kp (y':=y') h.eq k hk name n hb.eq.symm
 refine h.put (C':=Bf k name n C) j hj k1 ho hn hs ⟨rfl,rfl,rfl⟩ ?_ hE (hP _ _ _ _) (hrow.ten y')
 unfold Tt
 unfold Bf
 rw[if_neg (by omega),if_neg (by omega),if_neg (by omega),if_neg (by omega)]
theorem BX.app{base rb:Nat}{o:Nat->Option Nat}{C:Al}{st:ByteArray}{Z:List Aw}{y y':Aw}{w5 W1 W2:World}{v:Value}{eb:Nat}{E':Ap}(h:D0 base rb o C st v (Z++ [y]) w5)(b1:Below w5.heap.size w5 W1)(heb:w5.heap.size<=eb)(hx:W1.heap[eb]? =some (.cells (Aj y).toArray 50))(j:Nat)(hj:j<5)
  {v2:Value} {n:Nat} {cs:List Value} (ho:As W2 base (fT j) (fS j) v2 n cs) (hg:W1.grownBy W2 (fV y j).ownBlock) (hn:v2.ownBlock=(fV y j).ownBlock\/∀b,v2.ownBlock=some b->W1.heap.size<=b) (hE:y'.E=E') (hX:Aj y'=(Aj y).set (fO j) v2) (hO:(Aj y)[fO j]? =some (fV y j))
  (hs:∀i,i<5->i≠j->fV y' i=fV y i/\fN y'.E i=fN y.E i/\fC y'.E i=fC y.E i) (hj2:fV y' j=v2/\fN y'.E j=n/\fC y'.E j=cs):
  BX w5 base o Z.length eb E' y y' (W2.setCell ⟨eb,fO j,none⟩ v2)/\W2.cell? ⟨eb,fO j,none⟩=some (fV y j)/\W2.frozen? ⟨eb,fO j,none⟩=false/\(∀b k,b<w5.heap.size->o b=none->W2.cell? ⟨b,k,none⟩=w5.cell? ⟨b,k,none⟩):=by
 obtain⟨hyo,hyt⟩:=h.last j hj
 have hel:=Aa hx
 have hsz1:=b1.size
 have hx2:=(Ae.of_grown hg).get hx (fun hb=>by have:=(hyo.lt eb (Eq.symm hb)).2;omega)
 have k1:Ae (fun b=>o b=some (1+5*Z.length+j)) w5 W2:=(Ae.refl _ w5).step (Ae.of_below b1) (fun b hb hl=>by omega) |>.step (Ae.of_grown hg) (fun b hb hl=>hyt b (Eq.symm hb))
 have k2:=Ai W2 eb (fO j) v2
 have k3:Ae (fun b=>o b=some (1+5*Z.length+j)) w5 (W2.setCell ⟨eb,fO j,none⟩ v2):=k1.step k2 (fun b hb hl=>by have:b=eb:=hb;omega)
 obtain⟨e1,e2,e3⟩:=hj2
 refine⟨⟨hE,?_,j,hj,k3,?_,?_,hs⟩,?_,by simp[World.frozen?,hx2],fun b k hb hb2=>?_⟩
 ·rw[Am _ hx2,hX]
  simp
 ·rw[e1,e2,e3]
  refine ho.keep k2 (fun b hb hbs=>?_)
  have hbe:b=eb:=hbs
  subst hbe
  rcases hn with hn|hn
  ·have:=(hyo.lt b (by rw[<-hn];exact hb)).2
   omega
  ·have:=hn b hb
   omega
 ·rw[e1]
  rcases hn with hn|hn
  ·exact .inl hn
  ·exact .inr (fun b hb=>by have:=hn b hb;omega)
 ·rw[cell_of_row _ _ _ _ _ _ hx2]
  simpa using hO
 ·exact World.cell?_of_block (a:=⟨b,k,none⟩) (k1.block b hb (fun hs=>by rw[hb2]at hs;cases hs))
theorem BX.cnt{base rb:Nat}{o:Nat->Option Nat}{C:Al}{st:ByteArray}{Z:List Aw}{y:Aw}{w5 w6:World}{v:Value}{eb:Nat}(h:D0 base rb o C st v (Z++ [y]) w5)(b1:Below w5.heap.size w5 w6)(heb:w5.heap.size<=eb)(hx:w6.heap[eb]? =some (.cells (Aj y).toArray 50))(a b c:Int):
  BX w5 base o Z.length eb { y.E with count:=a,mn:=b,mx:=c} y ⟨{ y.E with count:=a,mn:=b,mx:=c},y.p,y.g,y.e,y.f,y.l⟩ (((w6.setCell ⟨eb,3,none⟩ (.int .i64 a)).setCell ⟨eb,4,none⟩ (.int .i64 b)).setCell ⟨eb,5,none⟩ (.int .i64 c)):=by
 obtain⟨hyo,hyt⟩:=h.last 0 (by decide)
 have hel:=Aa hx
 have k2:Ae (· =eb) w6 (((w6.setCell ⟨eb,3,none⟩ (.int .i64 a)).setCell ⟨eb,4,none⟩ (.int .i64 b)).setCell ⟨eb,5,none⟩ (.int .i64 c)):=Gi (Gi (Ai _ _ _ _) _ _) _ _
 have k0:Ae (fun b=>o b=some (1+5*Z.length+0)) w5 w6:=(Ae.refl _ w5).step (Ae.of_below b1) (fun b hb hl=>by omega)
 have k3:=k0.step k2 (fun b hb hl=>by have:b=eb:=hb;omega)
 refine⟨rfl,?_,0,by decide,k3,?_,.inl rfl,fun i hi _=>?_⟩
 ·rw[Am _ (Am _ (Am _ hx))]
  rfl
 ·refine(hyo.later b1).keep k2 (fun b hb hbs=>?_)
  have hbe:b=eb:=hbs
  subst hbe
  have:=(hyo.lt b hb).2
  omega
 ·match i,hi with
  |0,_=>exact⟨rfl,rfl,rfl⟩
  |1,_=>exact⟨rfl,rfl,rfl⟩
  |2,_=>exact⟨rfl,rfl,rfl⟩
  |3,_=>exact⟨rfl,rfl,rfl⟩
  |4,_=>exact⟨rfl,rfl,rfl⟩
end Go.Proofs.YtikehilbmldadaaGreatDoor
