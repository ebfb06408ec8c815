import Derived.Test.YtikehilbmldadaaGreatDoorV02
import Derived.Test.YtikehilbmldadaaGreatDoorVShelf
import Derived.Shelf.Strings.SplitCore
import Derived.Lib.SplitLaws
import Derived.Deep.DeepCutAuto
import Derived.Lib.IndexLaws
import Derived.JoinedOf
import Derived.KernelRfl
set_option maxRecDepth 100000
set_option linter.unusedVariables false
open Go.Proofs.Tryz Go.Proofs.YtikehilbmldadaaGreatDoor.Tryz
namespace Go.Proofs.YtikehilbmldadaaGreatDoor
open Go.RowKit
def Bj(c:UInt8)(s:ByteArray):List ByteArray:=Lib.splitB ⟨#[c]⟩ 0 (Lib.countB s ⟨#[c]⟩) s
theorem tJ(c:UInt8)(s:ByteArray):(Bj c s).length=Lib.countB s ⟨#[c]⟩+1:=Lib.splitB_all ⟨#[c]⟩ (Nat.le_refl 1) 0 _ s rfl
theorem Z0(s:ByteArray)(c:UInt8)(w:World)(hs:s.size<4294967281):
  Calls Tryz.prog 108 #[.string s,.string ⟨#[c]⟩,.int .i64 0,.int .i64 (-1)] w fun e w'=>
   e=.returned (.slice (some ⟨w.heap.size,0,none⟩) (Bj c s).length (Bj c s).length)/\w'=w.alloc (.cells ((Bj c s).map Value.string).toArray 9):=by
 have hle:=Lib.countB_le ⟨#[c]⟩ (Nat.le_refl 1) s.size s (Nat.le_refl _)
 have hl:=tJ c s
 have k:=Any.strings_genSplit_core lays221 (by kernel_rfl) s ⟨#[c]⟩ 0 (-1) (Lib.countB s ⟨#[c]⟩+1) w hs (Nat.le_refl 1) (Nat.zero_le _)
  (fun x cc hx=>(Tryz.strings_Index_one x c _).mono fun e w' ⟨he,hw⟩=>⟨by rw[he];show _=Ending.returned (Value.int .i64 (Lib.index x.data.toList [c]));rw[Lib.index_one],hw⟩)
  ((Tryz.strings_Count_one s c w).mono fun e w' ⟨he,hw⟩=>⟨by
   rw[he]
   show _=Ending.returned (Value.int .i64 ((Lib.count s.data.toList [c]:Nat):Int))
   rw[Lib.count_one]
   rfl,hw⟩)
  (by decide) (by decide) (by rw[if_pos (by decide)];omega)
 rw[Nat.add_sub_cancel,show Lib.splitB ⟨#[c]⟩ 0 (Lib.countB s ⟨#[c]⟩) s=Bj c s from rfl,<-hl,Lib.cellsOf_full]at k
 exact k
set_option maxHeartbeats 1000000 in
theorem Pm(s:ByteArray)(c:UInt8)(w:World)(hs:s.size<4294967281):
  Calls Tryz.prog 71 #[.string s,.string ⟨#[c]⟩] w fun e w'=>
   e=.returned (.slice (some ⟨w.heap.size,0,none⟩) (Bj c s).length (Bj c s).length)/\w'=w.alloc (.cells ((Bj c s).map Value.string).toArray 9):=by
 have HC:=Aia (Z0 s c w hs)
 obtain⟨n,hn⟩:∃n,n=(Bj c s).length:=⟨_,rfl⟩
 rw[<-hn]at HC ⊢
 clear hn hs
 go_enter func71,ntmps71
 go_wp2_with fail
 refine HC.out.mono ?_
 rintro e w1 ⟨rfl,hw⟩
 have HW:=Aia hw
 clear hw HC
 go_wp2_with fail
 go_ret
 exact⟨rfl,HW.out⟩
def Ik(c:UInt8):List UInt8->List (List UInt8)
 |[]=>[[]]
 |x::l=>if x=c then []::Ik c l else match Ik c l with
  |[]=>[[x]]
  |h::t=>(x::h)::t
def Cb(c:UInt8):List (List UInt8)->List UInt8
 |[]=>[]
 |[p]=>p
 |p::q::ps=>p++c::Cb c (q::ps)
theorem O8(c x:UInt8)(l:List UInt8):Ik c (x::l)=if x=c then []::Ik c l else match Ik c l with
  |[]=>[[x]]
  |h::t=>(x::h)::t:=rfl
theorem V4(c:UInt8):∀l,Ik c l≠ []
 |[]=>by simp[Ik]
 |x::l=>by
  unfold Ik
  split
  ·simp
  ·split<;>simp
theorem V5(c:UInt8):∀l:List UInt8,c∉l->Ik c l= [l]
 |[],_=>rfl
 |x::l,h=>by
  have h1:¬x=c:=fun e=>h (by simp[e])
  have h2:=V5 c l (fun e=>h (List.mem_cons_of_mem _ e))
  unfold Ik
  rw[if_neg h1,h2]
theorem gC(c:UInt8)(b:List UInt8):∀a:List UInt8,c∉a->Ik c (a++c::b)=a::Ik c b
 |[],_=>by simp[Ik]
 |x::a,h=>by
  have h1:¬x=c:=fun e=>h (by simp[e])
  have h2:=gC c b a (fun e=>h (List.mem_cons_of_mem _ e))
  show Ik c (x::(a++c::b))=_
  rw[O8,if_neg h1,h2]
theorem Ng(c:UInt8)(p:List UInt8){ps:List (List UInt8)}(h:ps≠ []):Cb c (p::ps)=p++c::Cb c ps:=by
 cases ps with
 |nil=>exact absurd rfl h
 |cons q ps=>rfl
theorem Mm(c:UInt8):∀l,Cb c (Ik c l)=l
 |[]=>rfl
 |x::l=>by
  have ih:=Mm c l
  have hne:=V4 c l
  unfold Ik
  split
  ·next h=>rw[Ng c [] hne,ih,h];rfl
  ·split
   ·next h=>exact absurd h hne
   ·next h t he=>
    rw[he]at ih
    cases t with
    |nil=>
     show x::h=x::l
     rw[show h=l from ih]
    |cons q t=>
     show x::h++c::Cb c (q::t)=x::l
     rw[<-ih];rfl
theorem P2(c:UInt8):∀ps:List (List UInt8),ps≠ []->(∀p∈ps,c∉p)->Ik c (Cb c ps)=ps
 |[],h,_=>absurd rfl h
 |[p],_,h=>V5 c p (h p (List.mem_cons_self ..))
 |p::q::ps,_,h=>by
  rw[Ng c p (by simp),gC c _ p (h p (List.mem_cons_self ..)),P2 c (q::ps) (by simp) (fun x hx=>h x (List.mem_cons_of_mem _ hx))]
theorem Ug(c:UInt8):∀(k:Nat) (l:List UInt8),l.count c=k->Lib.splitK [c] 0 k l=Ik c l
 |0,l,h=>by
  have hm:c∉l:=List.count_eq_zero.1 h
  rw[V5 c l hm];rfl
 |k+1,l,h=>by
  have hge:=Lib.indexByte_ge l c
  by_cases hi:Lib.indexByte l c= -1
  ·exfalso
   have hm:c∈l:=List.count_pos_iff.1 (by omega)
   obtain⟨j,hj,he⟩:=List.mem_iff_getElem.1 hm
   exact Lib.indexByte_none hi j (by rw[List.getElem?_eq_getElem hj,he])
  ·obtain⟨o,ho⟩:∃o:Nat,Lib.indexByte l c=o:=⟨(Lib.indexByte l c).toNat,by omega⟩
   obtain⟨h1,h2⟩:=Lib.indexByte_some ho
   have ho2:o<l.length:=(List.getElem?_eq_some_iff.1 h1).1
   have hsplit:l=l.take o++c::l.drop (o+1):=by
    have:l[o]=c:=(List.getElem?_eq_some_iff.1 h1).2
    rw[<-this,List.getElem_cons_drop,List.take_append_drop]
   have hno:c∉l.take o:=by
    intro hm
    obtain⟨j,hj,he⟩:=List.mem_iff_getElem.1 hm
    rw[List.length_take]at hj
    rw[List.getElem_take]at he
    exact h2 j (by omega) (by rw[List.getElem?_eq_getElem (by omega),he])
   have hcnt:(l.drop (o+1)).count c=k:=by
    have:=congrArg (List.count c) hsplit
    rw[List.count_append,List.count_eq_zero.2 hno,List.count_cons_self]at this
    omega
   have e:Lib.splitK [c] 0 (k+1) l=l.take o::Lib.splitK [c] 0 k (l.drop (o+1)):=by
    rw[Lib.splitK]
    rw[Lib.index_one,ho,if_neg (by simp)]
    simp
   rw[e,Ug c k _ hcnt]
   conv=>rhs;rw[hsplit]
   rw[gC c _ _ hno]
theorem El(c:UInt8)(s:ByteArray):(Bj c s).map (·.data.toList)=Ik c s.data.toList:=by
 unfold Bj
 rw[Lib.splitB_data]
 refine Ug c _ _ ?_
 show _=Lib.count s.data.toList [c]
 rw[Lib.count_one]
theorem Hz{a b:Bool}(h1:a=true)(h2:b=true):(a&&b)=true:=by rw[h1,h2];rfl
set_option maxHeartbeats 0 in
theorem scriptReads.closed:joinedFacts Tryz.prog 3 Tryz.f3 Rows.scriptReadsSpec Rows.scriptReadsRow=true:=by
 unfold joinedFacts
 refine(Hz (Hz (Hz (Hz (Hz (Hz (Hz (Hz (Hz (Hz (Hz (Hz (Hz (Hz (Hz (Hz (Hz (Hz (Hz (Hz (Hz (Hz (Hz (Hz (Hz (Hz (Hz (Hz (Hz (Hz (Hz ?_ ?_) ?_) ?_) ?_) ?_) ?_) ?_) ?_) ?_) ?_) ?_) ?_) ?_) ?_) ?_) ?_) ?_) ?_) ?_) ?_) ?_) ?_) ?_) ?_) ?_) ?_) ?_) ?_) ?_) ?_) ?_)
 all_goals(as_aux_lemma=>kernel_rfl)
end Go.Proofs.YtikehilbmldadaaGreatDoor
