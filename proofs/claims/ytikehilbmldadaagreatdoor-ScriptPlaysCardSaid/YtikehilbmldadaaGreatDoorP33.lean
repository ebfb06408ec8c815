import Derived.Test.YtikehilbmldadaaGreatDoorP02
import Derived.Test.YtikehilbmldadaaGreatDoorPShelf
import Derived.Shelf.Strings.SplitCore
import Derived.Lib.SplitLaws
import Derived.Deep.DeepCutAuto
import Derived.Lib.IndexLaws
set_option maxHeartbeats 1000000
set_option linter.unusedVariables false
namespace Go.Proofs.YtikehilbmldadaaGreatDoor
open Proofs.Tryz YtikehilbmldadaaGreatDoor.Tryz RowKit
open Go renaming Value.string->ZB
def Cx(c:UInt8)(s:ByteArray):List ByteArray:=Lib.splitB ⟨#[c]⟩ 0 (Lib.countB s ⟨#[c]⟩) s
theorem Ab0(c:UInt8)(s:ByteArray):(Cx c s).length=Lib.countB s ⟨#[c]⟩+1:=Lib.splitB_all ⟨#[c]⟩ (Y2 1) 0 _ s rfl
theorem sU(s:ByteArray)(c:UInt8)(w:World)(i:s.size<4294967281):
  Calls Tryz.prog 108 #[ZB s,ZB ⟨#[c]⟩,.int .i64 0,.int .i64 (-1)] w fun e w'=>
   e=.returned (.slice (some ⟨w.heap.size,0,none⟩) (Cx c s).length (Cx c s).length)/\w'=w.alloc (.cells ((Cx c s).map Value.string).toArray 9):=by
 have g:=Lib.countB_le ⟨#[c]⟩ (Y2 1) s.size s (Y2 _);have f:=Ab0 c s;have k:=Any.strings_genSplit_core lays221 (by kernel_rfl) s ⟨#[c]⟩ 0 (-1) (Lib.countB s ⟨#[c]⟩+1) w i (Y2 1) (In _)
  (fun x j l=>(Tryz.strings_Index_one x c _).mono fun e w' ⟨a,d⟩=>⟨by rw[a];show _=Ending.returned (Value.int .i64 (Lib.index x.data.toList [c]));rw[Lib.index_one],d⟩)
  ((Tryz.strings_Count_one s c w).mono fun e w' ⟨a,d⟩=>⟨by
   rw[a];show _=Ending.returned (Value.int .i64 ((Lib.count s.data.toList [c]:Nat):Int))
   rw[Lib.count_one];rfl,d⟩)
  (by decide) (by decide) (by rw[if_pos (by decide)];omega)
 rw[Zxr,show Lib.splitB ⟨#[c]⟩ 0 (Lib.countB s ⟨#[c]⟩) s=Cx c s from rfl,<-f,Lib.cellsOf_full]at k;exact k
theorem Rn(s:ByteArray)(c:UInt8)(w:World)(f:s.size<4294967281):
  Calls Tryz.prog 71 #[ZB s,ZB ⟨#[c]⟩] w fun e w'=>
   e=.returned (.slice (some ⟨w.heap.size,0,none⟩) (Cx c s).length (Cx c s).length)/\w'=w.alloc (.cells ((Cx c s).map Value.string).toArray 9):=by
 have a:=G (sU s c w f);obtain⟨n,d⟩:∃n,n=(Cx c s).length:=⟨_,rfl⟩
 rw[<-d]at a ⊢;clear d f;go_enter func71,ntmps71;go_wp2_with fail;refine a.mono ?_;rintro e w1 ⟨rfl,g⟩;have i:=G g;clear g a;go_wp2_with fail;go_ret;exact⟨rfl,i.out⟩
def Lz(c:UInt8):List UInt8->List (List UInt8)
 |[]=>[[]]
 |x::l=>if x=c then []::Lz c l else match Lz c l with
  |[]=>[[x]]
  |h::t=>(x::h)::t
def Cy(c:UInt8):List (List UInt8)->List UInt8
 |[]=>[]
 |[p]=>p
 |p::q::ps=>p++c::Cy c (q::ps)
theorem zV(c x:UInt8)(l:List UInt8):Lz c (x::l)=if x=c then []::Lz c l else match Lz c l with
  |[]=>[[x]]
  |h::t=>(x::h)::t:=rfl
theorem Ad1(c:UInt8):∀l,Lz c l≠ []
 |[]=>by simp[Lz]
 |x::l=>by
  unfold Lz
  split
  ·simp
  ·split<;>simp
theorem Zi(c:UInt8):∀l:List UInt8,c∉l->Lz c l= [l]
 |[],_=>rfl
 |x::l,h=>by
  have h1:¬x=c:=fun e=>h (by simp[e])
  have h2:=Zi c l (fun e=>h (Zz5 _ e))
  unfold Lz
  rw[if_neg h1,h2]
theorem tL(c:UInt8)(b:List UInt8):∀a:List UInt8,c∉a->Lz c (a++c::b)=a::Lz c b
 |[],_=>by simp[Lz]
 |x::a,h=>by
  have h1:¬x=c:=fun e=>h (by simp[e])
  have h2:=tL c b a (fun e=>h (Zz5 _ e))
  show Lz c (x::(a++c::b))=_
  rw[zV,if_neg h1,h2]
theorem Pq(c:UInt8)(p:List UInt8){ps:List (List UInt8)}(h:ps≠ []):Cy c (p::ps)=p++c::Cy c ps:=by
 cases ps with
 |nil=>exact absurd rfl h
 |cons q ps=>rfl
theorem qB(c:UInt8):∀l,Cy c (Lz c l)=l
 |[]=>rfl
 |x::l=>by
  have ih:=qB c l
  have hne:=Ad1 c l
  unfold Lz
  split
  ·next h=>rw[Pq c [] hne,ih,h];rfl
  ·split
   ·next h=>exact absurd h hne
   ·next h t he=>
    rw[he]at ih
    cases t with
    |nil=>
     show x::h=x::l
     rw[show h=l from ih]
    |cons q t=>
     show x::h++c::Cy c (q::t)=x::l
     rw[<-ih];rfl
theorem Rw(c:UInt8):∀ps:List (List UInt8),ps≠ []->(∀p∈ps,c∉p)->Lz c (Cy c ps)=ps
 |[],h,_=>absurd rfl h
 |[p],_,h=>Zi c p (h p (Zzo ..))
 |p::q::ps,_,h=>by
  rw[Pq c p (by simp),tL c _ p (h p (Zzo ..)),Rw c (q::ps) (by simp) (fun x hx=>h x (Zz5 _ hx))]
theorem Xr(c:UInt8):∀(k:Nat) (l:List UInt8),l.count c=k->Lib.splitK [c] 0 k l=Lz c l
 |0,l,h=>by
  have hm:c∉l:=List.count_eq_zero.1 h
  rw[Zi c l hm];rfl
 |k+1,l,h=>by
  have n:=Lib.indexByte_ge l c
  by_cases hi:Lib.indexByte l c= -1
  ·exfalso
   have hm:c∈l:=List.count_pos_iff.1 (by omega)
   obtain⟨j,i,g⟩:=List.mem_iff_getElem.1 hm
   exact Lib.indexByte_none hi j (by rw[R4 i,g])
  ·obtain⟨o,m⟩:∃o:Nat,Lib.indexByte l c=o:=⟨(Lib.indexByte l c).toNat,by omega⟩
   obtain⟨h1,h2⟩:=Lib.indexByte_some m
   have p:o<l.length:=(List.getElem?_eq_some_iff.1 h1).1
   have a:l=l.take o++c::l.drop (o+1):=by
    have:l[o]=c:=(List.getElem?_eq_some_iff.1 h1).2;rw[<-this,List.getElem_cons_drop,Zxz]
   have f:c∉l.take o:=by
    intro hm;obtain⟨j,i,g⟩:=List.mem_iff_getElem.1 hm;rw[By]at i;rw[List.getElem_take]at g;exact h2 j (by omega) (by rw[R4 (by omega),g])
   have d:(l.drop (o+1)).count c=k:=by
    have:=congrArg (List.count c) a;rw[List.count_append,List.count_eq_zero.2 f,List.count_cons_self]at this;omega
   have e:Lib.splitK [c] 0 (k+1) l=l.take o::Lib.splitK [c] 0 k (l.drop (o+1)):=by
    rw[Lib.splitK];rw[Lib.index_one,m,if_neg (by simp)];simp
   rw[e,Xr c k _ d];conv=>rhs;rw[a]
   rw[tL c _ _ f]
theorem J0(c:UInt8)(s:ByteArray):(Cx c s).map (·.data.toList)=Lz c s.data.toList:=by
 unfold Cx;rw[Lib.splitB_data];refine Xr c _ _ ?_;show _=Lib.count s.data.toList [c]
 rw[Lib.count_one]
