import Derived.Test.YtikehilbmldadaaGreatDoorV07
set_option linter.unusedVariables false
open Go.Proofs.Tryz Go.Proofs.YtikehilbmldadaaGreatDoor.Tryz
namespace Go.Proofs.YtikehilbmldadaaGreatDoor
section
open Go.RowKit
theorem My{m:CM}(a:Nat)(l:List UInt8)(h:m.cut= -1):(Ce m a l).cut= -1/\(Ce m a l).off=false/\C8 m.cut l.length=0:=by
 have hn:Bt m.cut l.length=l.length:=by unfold Bt;rw[if_pos h]
 refine⟨?_,?_,?_⟩
 ·show Fp m.cut _= -1
  unfold Fp;rw[if_pos h]
 ·show decide (Bt m.cut l.length<l.length)=false
  rw[hn];simp
 ·unfold C8;rw[hn];simp
theorem Uw{m:CM}(x:Ar)(h:m.cut= -1):(Bc.put2 m x).1=0/\(Bc.put2 m x).2.cut= -1:=by
 have h1:=My (Ee x) (Bd x) h
 have h2:=My (Ee x+16) [165] h1.1
 rw[Cx]at h1
 unfold Bc.put2
 rw[if_pos h1.2.2]
 exact⟨h2.2.2,h2.1⟩
theorem zY{m:CM}(x:Ar)(h:m.cut= -1)(ho:m.off=false)(hl:153<=m.bs.length):(Bc m x).1=0/\(Bc m x).2.cut= -1:=by
 have hs:Ee x+17<=153:=by unfold Ee;omega
 have h1:=My (Ee x+16) [0] h
 have e1:C8 m.cut 1=0:=h1.2.2
 unfold Bc
 rw[ho,if_pos (Oj (by omega))]
 split
 ·exact Uw x h
 ·exact Uw x h1.1
theorem xJ{m:CM}{k:Int}(x:Ar)(h:Kj m k):Kj (Bc.put2 m x).2 (k+17):=by
 have h1:=h.write (Ee x) (Bd x)
 have h2:=h1.write (Ee x+16) [165]
 rw[Cx]at h1 h2
 unfold Bc.put2
 split
 ·exact h2.mono (by simp;omega)
 ·exact h1.mono (by omega)
theorem Ag2{m:CM}{k:Int}(x:Ar)(h:Kj m k):Kj (Bc m x).2 (k+18):=by
 have h1:=h.write (Ee x+16) [0]
 unfold Bc
 split
 ·split
  ·exact(xJ x h).mono (by omega)
  ·split
   ·exact(xJ x h1).mono (by rw[List.length_singleton];omega)
   ·exact h1.mono (by rw[List.length_singleton];omega)
 ·exact h.mono (by omega)
def J6(D:List Ar):List Ar:=D.drop (D.length-8)
theorem Pu(D:List Ar):(J6 D).length=min D.length 8:=by unfold J6;simp;omega
theorem tV(D:List Ar)(x:Ar):(J6 D++ [x]).drop ((J6 D).length+1-8)=J6 (D++ [x]):=by
 rw[Pu]
 unfold J6
 rw[List.length_append,List.length_singleton]
 by_cases h:D.length<=7
 ·rw[show D.length-8=0 by omega,List.drop_zero,show min D.length 8+1-8=0 by omega,show D.length+1-8=0 by omega]
 ·rw[show min D.length 8+1-8=1 by omega,<-List.drop_append_of_le_length (by omega),List.drop_drop]
  congr 1
  omega
theorem Lg{D:List Ar}(h:∀j (hj:j<D.length),D[j].seq=j+1):(Gz (J6 D)).seq=D.length:=by
 unfold Gz
 rw[List.getLast?_eq_getElem?]
 rcases Nat.eq_zero_or_pos D.length with h0|h0
 ·have:D= []:=List.eq_nil_of_length_eq_zero h0
  subst this
  rfl
 ·rw[Pu]
  unfold J6
  rw[List.getElem?_drop,show D.length-8+(min D.length 8-1)=D.length-1 by omega,List.getElem?_eq_getElem (by omega)]
  show(D[D.length-1]).seq=D.length
  rw[h];omega
structure Log (m:CM) (D:List Ar) (k:Int):Prop where
 inv:Lu m.bs D
 ok:Kj m k
 on:m.off=false
 dn:D.length<=1000
def Iu(D:List Ar)(e k t:Int):Ar:=⟨D.length+1,e.toNat,k.toNat,t.toNat⟩
theorem Y9{D:List Ar}(h:∀j (hj:j<D.length),D[j].seq=j+1)(e k t:Int):Hw (J6 D) e k t=Iu D e k t:=by
 unfold Hw Iu
 rw[Lg h]
theorem zR(n:Nat)(h:153<=n):Ir (List.replicate n 0)= []:=by
 rw[Xr (Xq n h)];rfl
end
section
open Go.ChangeShapes Go.WideShapes Go.ChangeAt Go.RowKit Go.Deep
section
variable {H:Type} {enc:TypeId × Value->H} {P:Program} {w:World}
def Rd(enc:TypeId × Value->H)(P:Program)(w:World)(t:TypeId)(cs:List Value):Prop:=∃n x,DataW.trod enc P w 0 (fun _=>true) true n t cs=some x
theorem Ahl{t:TypeId}{v:Value}{d:DataW H}{p:List MemPlace}(h:DataW.Trod enc P w 0 (fun _=>true) true t v d p):Rd enc P w t v.cells.toList:=by
 obtain⟨n,hn⟩:=h
 exact⟨n,_,hn⟩
theorem Rd.field{t:TypeId}{fs:Array Field}{cs:List Value}(ht:P.underlying t=some (.struct fs))(h:Rd enc P w t cs)(i:Nat)(f:Field)(hf:fs[i]? =some f):Rd enc P w f.type ((cs.drop f.offset).take (P.cellsOf f.type)):=by
 obtain⟨n,x,hx⟩:=h
 obtain⟨xs,m,_,_,_,hlen,hall⟩:=DataW.trod_struct ht hx
 have hi:i<xs.length:=by rw[hlen];exact(Array.getElem?_eq_some_iff.1 hf).1
 exact⟨m,xs[i],by rw[hall i f hf];simp[hi]⟩
theorem Rd.str{t:TypeId}{cs:List Value}(ht:P.underlying t=some .string)(h:Rd enc P w t cs):∃s:ByteArray,cs= [.string s]/\s.size<=maxLen:=by
 obtain⟨m,x,hx⟩:=h
 obtain⟨n,hc,_,hs⟩:=DataW.trod_string ht hx
 exact⟨n,hc,hs⟩
theorem Rd.rows{α:Type}[Inhabited α](f:α->List Value)(sz:Nat)(hf:∀x,(f x).length=sz)(hsz:0<sz){t e:TypeId}(ht:P.underlying t=some (.slice e))(hc:P.cellsOf e=sz)
  (Q:α->Prop) (hinv:∀cs,Rd enc P w e cs->∃r,cs=f r/\Q r) {v:Value} (h:Rd enc P w t [v]):∃l:List α,Ay (· <w.heap.size) w v sz (l.flatMap f) l.length/\∀r∈l,Q r:=by
 obtain⟨n,x,hx⟩:=h
 rcases open_slice ht hx with⟨hv,_⟩|⟨a,len,cap,m,k,D,Pl,hv,_,hl,hm,hmm,_,hall⟩
 ·obtain rfl:v=.slice none 0 0:=by simpa using hv
  exact⟨[],Ay.nil _ _ _,fun r hr=>by cases hr⟩
 ·obtain rfl:v=.slice (some a) len cap:=by simpa using hv
  obtain rfl:m=cap:=by simpa using hmm
  have hrow:∀i,i<m->∃r,(w.cells? 0 (a.add (i*sz)) sz=some (f r)/\Q r):=fun i hi=>by
   obtain⟨cs',h1,h2⟩:=hall i hi
   obtain⟨r,hr,hq⟩:=hinv cs' ⟨k,_,h2⟩
   rw[hc,hr]at h1
   exact⟨r,h1,hq⟩
  obtain⟨r,hr⟩:=choose_lt hrow
  refine⟨(List.range len).map r,⟨by rw[Dn f sz hf],some a,m,by simp,by simpa using hl,hm,(fun h=>by cases h),fun hp=>?_⟩,?_⟩
  ·have hlen:0<len:=by
    rw[Dn f sz hf,List.length_map,List.length_range]at hp
    exact Nat.pos_of_ne_zero (fun h=>by subst h;simp at hp)
   have c0:=World.cells?_some (hr 0 (by omega)).1
   have c00:=c0.2.2 0 hsz
   rw[List.getElem?_eq_getElem (by rw[hf];exact hsz)]at c00
   obtain⟨b,off,spot⟩:=a
   have hspot:spot=none:=by simpa [Addr.add] using World.cell?_spot c00
   subst hspot
   refine⟨b,off,rfl,?_,?_,?_⟩
   ·have:=World.block_lt_of_cell? _ _ c00
    simpa [Addr.add] using this
   ·have:=World.block_lt_of_cell? _ _ c00
    simpa [Addr.add] using this
   ·intro q u hu
    have hq:q<((List.range len).map r).length*sz:=by rw[<-Dn f sz hf];exact(List.getElem?_eq_some_iff.1 hu).1
    have hq':q<len*sz:=by simpa using hq
    have hi:q/sz<len:=(Nat.div_lt_iff_lt_mul hsz).2 hq'
    have hj:q%sz<sz:=Nat.mod_lt _ hsz
    have hdm:q/sz*sz+q%sz=q:=by rw[Nat.mul_comm];exact Nat.div_add_mod q sz
    have hg:=O0 f sz hf ((List.range len).map r) (q/sz) (by simpa using hi) (q%sz) hj
    rw[hdm,hu]at hg
    have hce:=(World.cells?_some (hr (q/sz) (by omega)).1).2.2 (q%sz) hj
    rw[Cz,Cz,Nat.add_assoc,hdm]at hce
    rw[hce]
    simpa using hg.symm
  ·intro x hx
   obtain⟨i,hi,rfl⟩:=List.mem_map.1 hx
   exact(hr i (by have:=List.mem_range.1 hi;omega)).2
end
instance:Inhabited Lb:=⟨⟨0,0,0,0⟩⟩
instance:Inhabited Ah9:=⟨⟨0,0,false⟩⟩
theorem Tryz.cStr:Tryz.prog.cellsOf 9=1:=by kernel_rfl
section
variable {H:Type} {enc:TypeId × Value->H} {w:World}
theorem Ag1(cs:List Value)(h:Rd enc Tryz.prog w 9 cs):∃r:ByteArray,cs= [.string r]/\r.size<=maxLen:=h.str underlying9
end
end
end Go.Proofs.YtikehilbmldadaaGreatDoor
