import Derived.Test.YtikehilbmldadaaGreatDoorRows
import Derived.WalkKit
import Derived.WalkSpells
import Derived.WalkLawsBesides
import Derived.Lib.Hide
import Derived.ProofKit
import Derived.OpenShut
import Derived.Deep.Slices
import Derived.Laws.AppendOwnNone
import Derived.LaidEql
import Derived.Stop.Asserts
import Derived.RowKitTokens
import Derived.Maps.OwnOps
import Derived.Maps.OwnSet
import Derived.MapKept
import Derived.Carry
set_option maxHeartbeats 4000000
set_option linter.unusedVariables false
namespace Go.Proofs.YtikehilbmldadaaGreatDoor
open Proofs.Tryz YtikehilbmldadaaGreatDoor.Tryz RowKit
open Go renaming World->V,Value->ZE,RowKit.Below->ZF,Value.int->I,IntKind.i64->J,Value.slice->F,Value.pointer->ZA,Value.string->ZB,Obj.cells->ZC,Value.agg->ZJ,Value.bool->ZK,Value.iface->ZL,Value.tuple->ZM,Proofs.Tryz.prog->ZI
open Option renaming some->U,none->O
theorem G{p:Prop}(h:p):Go.RowKit.Hid p:=h
theorem Y2:type_of% @Nat.le_refl:=@Nat.le_refl
theorem R1:type_of% @Go.RowKit.Below.refl:=@Go.RowKit.Below.refl
theorem R2:type_of% @List.length_append:=@List.length_append
theorem R3:type_of% @Go.World.block_lt_of_cell?:=@Go.World.block_lt_of_cell?
theorem R4:type_of% @List.getElem?_eq_getElem:=@List.getElem?_eq_getElem
theorem O1:type_of% @Go.World.cell?_setCell_other:=@Go.World.cell?_setCell_other
theorem O2:type_of% @Go.World.cell?_setCell_same:=@Go.World.cell?_setCell_same
theorem On:type_of% @decide_eq_true:=@decide_eq_true
theorem Of:type_of% @List.getD_eq_getElem?_getD:=@List.getD_eq_getElem?_getD
theorem N1:type_of% @decide_eq_false:=@decide_eq_false
theorem No:type_of% @Nat.le_trans:=@Nat.le_trans
theorem M2:type_of% @List.getElem_mem:=@List.getElem_mem
theorem In:type_of% @Nat.zero_le:=@Nat.zero_le
theorem If:type_of% @List.take_succ_eq_append_getElem:=@List.take_succ_eq_append_getElem
theorem H3:type_of% @List.eq_nil_of_length_eq_zero:=@List.eq_nil_of_length_eq_zero
theorem H5:type_of% @Go.RowKit.Below.drew:=@Go.RowKit.Below.drew
theorem H7:type_of% @Go.World.size_alloc:=@Go.World.size_alloc
theorem G3:type_of% @List.length_singleton:=@List.length_singleton
theorem F4:type_of% @List.setIfInBounds_toArray:=@List.setIfInBounds_toArray
theorem F5:type_of% @Nat.lt_of_lt_of_le:=@Nat.lt_of_lt_of_le
theorem F6:type_of% @List.append_assoc:=@List.append_assoc
theorem Fn:type_of% @List.length_map:=@List.length_map
theorem C1:type_of% @List.set_cons_zero:=@List.set_cons_zero
theorem C2:type_of% @Array.length_toList:=@Array.length_toList
theorem C3:type_of% @List.set_cons_succ:=@List.set_cons_succ
theorem B0:type_of% @List.map_append:=@List.map_append
theorem B1:type_of% @List.flatMap_append:=@List.flatMap_append
theorem B2:type_of% @List.length_drop:=@List.length_drop
theorem By:type_of% @List.length_take:=@List.length_take
theorem At:type_of% @List.mem_of_getElem?:=@List.mem_of_getElem?
theorem Zz0:type_of% @Go.IntWalk.i64_in:=@Go.IntWalk.i64_in
theorem Zz1:type_of% @List.map_cons:=@List.map_cons
theorem Zz2:type_of% @List.take_length:=@List.take_length
theorem Zz3:type_of% @Go.ByteArray.toList_eq:=@Go.ByteArray.toList_eq
theorem Zz4:type_of% @List.range_succ:=@List.range_succ
theorem Zz5:type_of% @List.mem_cons_of_mem:=@List.mem_cons_of_mem
theorem Zz6:type_of% @List.flatMap_cons:=@List.flatMap_cons
theorem Zz7:type_of% @List.length_cons:=@List.length_cons
theorem Zz8:type_of% @List.append_nil:=@List.append_nil
theorem Zz9:type_of% @List.getElem?_append_left:=@List.getElem?_append_left
theorem Zzz:type_of% @List.mem_append_right:=@List.mem_append_right
theorem Zzy:type_of% @ByteArray.data_append:=@ByteArray.data_append
theorem Zzx:type_of% @List.mem_map_of_mem:=@List.mem_map_of_mem
theorem Zzw:type_of% @Nat.add_zero:=@Nat.add_zero
theorem Zzv:type_of% @Go.RowKit.Below.alloc:=@Go.RowKit.Below.alloc
theorem Zzu:type_of% @Int.toNat_of_nonneg:=@Int.toNat_of_nonneg
theorem Zzt:type_of% @Nat.zero_add:=@Nat.zero_add
theorem Zzs:type_of% @List.getElem?_append_right:=@List.getElem?_append_right
theorem Zzr:type_of% @Go.World.ownsRow_nil:=@Go.World.ownsRow_nil
theorem Zzq:type_of% @Array.toList_append:=@Array.toList_append
theorem Zzp:type_of% @Nat.succ_ne_zero:=@Nat.succ_ne_zero
theorem Zzo:type_of% @List.mem_cons_self:=@List.mem_cons_self
theorem Zzn:type_of% @ByteArray.size_append:=@ByteArray.size_append
theorem Zzm:type_of% @Nat.add_assoc:=@Nat.add_assoc
theorem Zzl:type_of% @List.getElem?_map:=@List.getElem?_map
theorem Zzk:type_of% @List.map_nil:=@List.map_nil
theorem Zzj:type_of% @List.flatMap_singleton:=@List.flatMap_singleton
theorem Zzi:type_of% @List.findIdx?_eq_some_iff_getElem:=@List.findIdx?_eq_some_iff_getElem
theorem Zzh:type_of% @List.dropLast_concat_getLast:=@List.dropLast_concat_getLast
theorem Zzg:type_of% @beq_eq_false_iff_ne:=@beq_eq_false_iff_ne
theorem Zzf:type_of% @List.mem_append_left:=@List.mem_append_left
theorem Zze:type_of% @List.findIdx?_eq_none_iff:=@List.findIdx?_eq_none_iff
theorem Zzd:type_of% @List.getElem_append_left:=@List.getElem_append_left
theorem Zzc:type_of% @Int.toNat_natCast:=@Int.toNat_natCast
theorem Zzb:type_of% @List.map_singleton:=@List.map_singleton
theorem Zza:type_of% @Nat.pow_le_pow_right:=@Nat.pow_le_pow_right
theorem Zy0:type_of% @List.take_of_length_le:=@List.take_of_length_le
theorem Zy1:type_of% @List.any_eq_false:=@List.any_eq_false
theorem Zy2:type_of% @Go.IntWalk.wrap64_in:=@Go.IntWalk.wrap64_in
theorem Zy3:type_of% @List.drop_eq_getElem_cons:=@List.drop_eq_getElem_cons
theorem Zy4:type_of% @Nat.mod_eq_of_lt:=@Nat.mod_eq_of_lt
theorem Zy5:type_of% @List.any_eq_true:=@List.any_eq_true
theorem Zy6:type_of% @Go.Lib.cell_of_heap:=@Go.Lib.cell_of_heap
theorem Zy7:type_of% @Go.World.cell?_of_block:=@Go.World.cell?_of_block
theorem Zy8:type_of% @Array.getElem?_setIfInBounds:=@Array.getElem?_setIfInBounds
theorem Zy9:type_of% @List.toList_toArray:=@List.toList_toArray
theorem Zyz:type_of% @List.length_set:=@List.length_set
theorem Zyy:type_of% @List.length_nil:=@List.length_nil
theorem Zyx:type_of% @List.getElem_concat_length:=@List.getElem_concat_length
theorem Zyw:type_of% @Int.tmod_eq_emod_of_nonneg:=@Int.tmod_eq_emod_of_nonneg
theorem Zyv:type_of% @List.getElem?_take:=@List.getElem?_take
theorem Zyu:type_of% @List.getElem?_drop:=@List.getElem?_drop
theorem Zyt:type_of% @List.getLast?_eq_getElem?:=@List.getLast?_eq_getElem?
theorem Zys:type_of% @List.getElem_append_right:=@List.getElem_append_right
theorem Zyr:type_of% @Go.Lib.byteCells_length:=@Go.Lib.byteCells_length
theorem Zyq:type_of% @of_decide_eq_true:=@of_decide_eq_true
theorem Zyp:type_of% @List.nil_append:=@List.nil_append
theorem Zyo:type_of% @List.map_map:=@List.map_map
theorem Zyn:type_of% @Int.eq_ofNat_of_zero_le:=@Int.eq_ofNat_of_zero_le
theorem Zym:type_of% @List.take_append_of_le_length:=@List.take_append_of_le_length
theorem Zyl:type_of% @List.cons_append:=@List.cons_append
theorem Zyk:type_of% @Bool.and_eq_true:=@Bool.and_eq_true
theorem Zyj:type_of% @ByteArray.data_extract:=@ByteArray.data_extract
theorem Zyi:type_of% @Nat.le_of_lt:=@Nat.le_of_lt
theorem Zyh:type_of% @Go.RowKit.Below.trans:=@Go.RowKit.Below.trans
theorem Zyg:type_of% @List.length_dropLast:=@List.length_dropLast
theorem Zyf:type_of% @Go.Lib.byteCells_append:=@Go.Lib.byteCells_append
theorem Zye:type_of% @Array.toList_extract:=@Array.toList_extract
theorem Zyd:type_of% @List.drop_drop:=@List.drop_drop
theorem Zyc:type_of% @List.flatMap_map:=@List.flatMap_map
theorem Zyb:type_of% @Go.RowKit.Below.heap_alloc:=@Go.RowKit.Below.heap_alloc
theorem Zya:type_of% @List.getD_cons_zero:=@List.getD_cons_zero
theorem Zx0:type_of% @Nat.lt_trans:=@Nat.lt_trans
theorem Zx1:type_of% @Nat.xor_lt_two_pow:=@Nat.xor_lt_two_pow
theorem Zx2:type_of% @List.getElem?_replicate:=@List.getElem?_replicate
theorem Zx3:type_of% @List.find?_eq_none:=@List.find?_eq_none
theorem Zx4:type_of% @ByteArray.ext:=@ByteArray.ext
theorem Zx5:type_of% @Nat.mod_lt:=@Nat.mod_lt
theorem Zx6:type_of% @Nat.add_mul:=@Nat.add_mul
theorem Zx7:type_of% @List.take_left:=@List.take_left
theorem Zx8:type_of% @List.drop_zero:=@List.drop_zero
theorem Zx9:type_of% @Nat.pow_succ:=@Nat.pow_succ
theorem Zxz:type_of% @List.take_append_drop:=@List.take_append_drop
theorem Zxy:type_of% @List.length_replicate:=@List.length_replicate
theorem Zxx:type_of% @List.getLast?_eq_some_getLast:=@List.getLast?_eq_some_getLast
theorem Zxw:type_of% @Nat.mul_le_mul_right:=@Nat.mul_le_mul_right
theorem Zxv:type_of% @List.dropLast_subset:=@List.dropLast_subset
theorem Zxu:type_of% @Go.World.var?_cell:=@Go.World.var?_cell
theorem Zxt:type_of% @Nat.le_succ:=@Nat.le_succ
theorem Zxs:type_of% @Nat.lt_of_le_of_lt:=@Nat.lt_of_le_of_lt
theorem Zxr:type_of% @Nat.add_sub_cancel:=@Nat.add_sub_cancel
theorem Zxq:type_of% @Nat.shiftRight_eq_div_pow:=@Nat.shiftRight_eq_div_pow
theorem Zxp:type_of% @Go.World.setCell_alloc_past:=@Go.World.setCell_alloc_past
theorem Zxo:type_of% @List.size_toArray:=@List.size_toArray
theorem Zxn:type_of% @List.getElem?_set:=@List.getElem?_set
theorem Zxm:type_of% @List.find?_range_eq_some:=@List.find?_range_eq_some
theorem Zxl:type_of% @List.ext_getElem?:=@List.ext_getElem?
section
open Go.ChangeShapes Go.WideShapes Go.ChangeAt Go.RowKit
theorem R9{H:Type}{enc:TypeId × ZE->H}{P:Program}(i:laidOutB P=true){W f:V}(g:ZF W.heap.size W f){l:Nat->Bool}:
  ∀{ts:List TypeId} {vs:List ZE} {ds:List (DataW H)} {ps:List MemPlace},(∀t∈ts,P.readableRec t=true/\t<P.types.size)->DataW.TrodAll enc P W 0 (fun _=>true) true ts vs ds ps->
   (∀x∈ps,x.block<W.heap.size/\l x.block=true)->DataW.TrodAll enc P f 0 l true ts vs ds ps
 |[],_,_,_,_,h,_=>by
  obtain⟨rfl,rfl,rfl⟩:=trodAll_nil h
  exact rfl
 |t::ts,_,_,_,hr,h,hlt=>by
  obtain⟨v,vs,d,ds,p,q,rfl,rfl,rfl,h1,h2⟩:=trodAll_cons h
  have j:=hr t (by simp)
  refine⟨p,q,?_,R9 i g (fun t h=>hr t (by simp[h])) h2 (fun x a=>hlt x (by simp[a])),rfl⟩
  exact WideElems.Trod_stays i j.1 j.2 h1 (fun x a=>g.same (hlt x (by simp[a])).1) (fun x a=>(hlt x (by simp[a])).2)
theorem Ais{H:Type}{enc:TypeId × ZE->H}{P:Program}{f:Func}{s:ChangeSpec}{W A:V}{args:Array ZE}{i:List (DataW H)}{g:List MemPlace}{tb:TypeId}
  (K:laidOutB P=true) (L:f.params.toList.all (fun t=>P.readableRec t&&decide (t<P.types.size))=true) (d:s.vars= []) (n:f.resultTypes=#[tb]) (y:P.underlying tb=U .bool)
  (C:DataW.Whole enc P f.params.toList s.vars false W args.toList i [] g) (u:s.fn H i= { results:=[.lit (.bool true)],args:=i}) (D:ZF W.heap.size W A):
  s.post enc P f false true false false W args (ZK true) A:=by
 have j:=C;obtain⟨p,q,E,B,rfl,_,_⟩:=C;rw[d]at B;obtain⟨_,rfl⟩:=trodVars_none B;have v:∀t∈f.params.toList,P.readableRec t=true/\t<P.types.size:=fun t N=>by
  have:=List.all_eq_true.1 L t N;simpa using this
 have l:∀x∈p,x.block<W.heap.size:=fun x o=>by
  have:=j.lt x (by simp[o]);simpa using this
 have a:s.fn H (i++ [])= { results:=[.lit (.bool true)],args:=i}:=by rw[Zz8];exact u
 refine⟨i,[],p++ [],[],p,[],j,?_,?_,?_,?_,fun h=>by cases h⟩
 ·rw[n,a];exact trodAll_cons_mk (shut_bool y _) trodAll_mk0
 ·rw[a];exact R9 K D v E (fun x o=>⟨l x o,by simpa using l x o⟩)
 ·rw[a,d];exact rfl
 ·exact D.frame _
theorem A6{k:IntKind}{a b:Int}(h:a=b):Ending.returned (.int k a)=.returned (.int k b):=by rw[h]
theorem Am{a b:Bool}(h:a=b):Ending.returned (ZK a)=.returned (ZK b):=by rw[h]
theorem Bs{a b:Bool}(h:a=b):Value.bool a=ZK b:=by rw[h]
structure Ac (S:Nat->Prop) (w w':V):Prop where
 os:w'.os=w.os
 tape:w'.tape=w.tape
 output:w'.output=w.output
 size:w.heap.size<=w'.heap.size
 block:∀k,k<w.heap.size->¬S k->w'.heap[k]? =w.heap[k]?
theorem Ac.refl(S:Nat->Prop)(w:V):Ac S w w:=⟨rfl,rfl,rfl,Y2 _,fun _ _ _=>rfl⟩
theorem Ac.trans{S:Nat->Prop}{a b c:V}(h:Ac S a b)(k:Ac S b c):Ac S a c:=
 ⟨k.os.trans h.os,k.tape.trans h.tape,k.output.trans h.output,No h.size k.size,fun i hi d=>(k.block i (F5 hi h.size) d).trans (h.block i hi d)⟩
theorem Ac.mono{S T:Nat->Prop}{w w':V}(h:Ac S w w')(d:∀k,k<w.heap.size->S k->T k):Ac T w w':=
 ⟨h.os,h.tape,h.output,h.size,fun k a f=>h.block k a (fun x=>f (d k a x))⟩
theorem Ac.drew{S:Nat->Prop}{a w:V}(h:Ac S a w):Ac S a w.drew:=⟨h.os,h.tape,h.output,h.size,h.block⟩
theorem Ac.alloc{S:Nat->Prop}{a w:V}(h:Ac S a w)(o:Obj):Ac S a (w.alloc o):=
 h.trans ⟨rfl,rfl,rfl,by simp,fun k d _=>Zyb _ _ _ d⟩
theorem Ac.setCell{S:Nat->Prop}{a w:V}(h:Ac S a w){p:Addr}(g:p.block<a.heap.size->S p.block)(u:ZE):Ac S a (w.setCell p u):=
 ⟨h.os,h.tape,h.output,by simpa [World.setCell] using h.size,fun k d f=>(Below.heap_setCell _ _ _ _ (fun e=>by subst e;exact f (g d))).trans (h.block k d f)⟩
theorem Af(w:V)(b o:Nat)(u:ZE):Ac (· =b) w (w.setCell ⟨b,o,O⟩ u):=
 Ac.setCell (S:=(· =b)) (p:=⟨b,o,O⟩) (Ac.refl _ _) (fun _=>rfl) u
theorem Fo{b:Nat}{w0 w:V}(h:Ac (· =b) w0 w)(o:Nat)(u:ZE):Ac (· =b) w0 (w.setCell ⟨b,o,O⟩ u):=
 Ac.setCell (S:=(· =b)) (p:=⟨b,o,O⟩) h (fun _=>rfl) u
theorem Ac.step{S T:Nat->Prop}{a w w':V}(h:Ac S a w)(k:Ac T w w')(f:∀b,T b->b<a.heap.size->S b):Ac S a w':=
 ⟨k.os.trans h.os,k.tape.trans h.tape,k.output.trans h.output,No h.size k.size,fun i hi d=>(k.block i (F5 hi h.size) (fun t=>d (f i t hi))).trans (h.block i hi d)⟩
theorem Ac.below{S:Nat->Prop}{w w':V}(h:Ac S w w'){B:Nat}(d:B<=w.heap.size)(a:∀k,S k->B<=k):ZF B w w':=
 ⟨h.os,h.tape,h.output,h.size,fun k f=>h.block k (by omega) (fun x=>by have:=a k x;omega)⟩
theorem Ac.of_below{B:Nat}{w w':V}(h:ZF B w w'):Ac (fun k=>B<=k) w w':=⟨h.os,h.tape,h.output,h.size,fun k _ hs=>h.block k (by omega)⟩
theorem Ac.of_grown{w w':V}{row:Option Nat}(h:w.grownBy w' row):Ac (fun k=>U k=row) w w':=⟨h.os,h.tape,h.output,h.size,fun k hk hs=>h.block k hk hs⟩
theorem Ac.new{w w':V}(h:Ac (fun _=>False) w w'):ZF w.heap.size w w':=⟨h.os,h.tape,h.output,h.size,fun k hk=>h.block k hk (fun x=>x)⟩
theorem Al{w w':V}(h:ZF w.heap.size w w'):Ac (fun _=>False) w w':=⟨h.os,h.tape,h.output,h.size,fun k hk _=>h.block k hk⟩
theorem Ac.cell{S:Nat->Prop}{w w':V}(h:Ac S w w'){p:Addr}(hp:p.block<w.heap.size)(hs:¬S p.block):w'.cell? p=w.cell? p:=Zy7 (w:=w) (h.block p.block hp hs)
theorem Ac.get{S:Nat->Prop}{w w':V}(h:Ac S w w'){b:Nat}{o:Obj}(a:w.heap[b]? =U o)(d:¬S b):w'.heap[b]? =U o:=by
 rw[h.block b (Array.getElem?_eq_some_iff.1 a).1 d];exact a
theorem Ae{B:Nat}{w w':V}(h:ZF B w w'){b:Nat}{o:Obj}(a:w.heap[b]? =U o)(d:b<B):w'.heap[b]? =U o:=by
 rw[h.block b d];exact a
theorem Aa{w:V}{b:Nat}{o:Obj}(hb:w.heap[b]? =U o):b<w.heap.size:=(Array.getElem?_eq_some_iff.1 hb).1
theorem Kb{w:V}{b:Nat}{o:Obj}(n:Nat)(h:w.heap[b]? =U o):(w.drewN n).heap[b]? =U o:=h
theorem Ag{B:Nat}{w0 w:V}(n:Nat)(h:ZF B w0 w):ZF B w0 (w.drewN n):=⟨h.os,h.tape,h.output,h.size,h.block⟩
theorem Ck{S:Nat->Prop}{w0 w:V}(n:Nat)(h:Ac S w0 w):Ac S w0 (w.drewN n):=⟨h.os,h.tape,h.output,h.size,h.block⟩
theorem Ah{w:V}{b o:Nat}{a:Array ZE}{t:TypeId}{fr:Nat × Nat}(u:ZE)(d:w.heap[b]? =U (ZC a t fr)):(w.setCell ⟨b,o,O⟩ u).heap[b]? =U (ZC (a.setIfInBounds o u) t fr):=by
 simp[World.setCell,Array.getElem?_modify,d]
theorem Ab(w:V)(o:Obj):(w.alloc o).heap[w.heap.size]? =U o:=heap_alloc_new w o
theorem Bp{w:V}{b:Nat}{x:Obj}(o:Obj)(a:w.heap[b]? =U x):(w.alloc o).heap[b]? =U x:=by
 rw[Zyb _ _ _ (Aa a)];exact a
theorem Ff{S:Nat->Prop}{w w':V}{a:Nat}{e:TypeId}{size:Nat}{v:ZE}{n:Nat}{j:List ZE}(h:w.ownsRow a e size v n j)(o:Ac S w w')(l:∀b,a<=b->b<w.heap.size->¬S b):w'.ownsRow a e size v n j:=by
 refine⟨h.1,?_⟩;rcases h.2 with p|⟨g,cap,f,rfl,i,d,rest⟩
 ·exact .inl p
 ·exact .inr ⟨g,cap,f,rfl,i,o.get d (l g i (Aa d)),rest⟩
def Av(R:Nat->Prop)(w:V)(v:ZE)(sz:Nat)(cs:List ZE)(n:Nat):Prop:=
 cs.length=n*sz/\∃(ao:Option Addr) (cap:Nat),v=F ao n cap/\n<=cap/\cap<=maxLen/\(ao=O->cap=0)/\
  (0<cs.length->∃b off,ao=U ⟨b,off,O⟩/\R b/\b<w.heap.size/\∀k u,cs[k]? =U u->w.cell? ⟨b,off+k,O⟩=U u)
theorem Av.keep{R S:Nat->Prop}{w w':V}{v:ZE}{i:Nat}{a:List ZE}{n:Nat}(h:Av R w v i a n)(g:Ac S w w')(q:∀b,R b->¬S b):Av R w' v i a n:=by
 obtain⟨s,j,cap,B,h1,h2,h3,l⟩:=h;refine⟨s,j,cap,B,h1,h2,h3,fun y=>?_⟩;obtain⟨b,off,o,d,f,p⟩:=l y;exact⟨b,off,o,d,F5 f g.size,fun k u A=>by rw[g.cell f (q b d)];exact p k u A⟩
theorem Av.mono{R S:Nat->Prop}{w:V}{v:ZE}{d:Nat}{a:List ZE}{n:Nat}(h:Av R w v d a n)(p:∀b,R b->S b):Av S w v d a n:=by
 obtain⟨q,f,cap,u,h1,h2,h3,g⟩:=h;refine⟨q,f,cap,u,h1,h2,h3,fun s=>?_⟩;obtain⟨b,off,j,i,l,o⟩:=g s;exact⟨b,off,j,p b i,l,o⟩
theorem Av.below{B:Nat}{R:Nat->Prop}{w w':V}{v:ZE}{d:Nat}{a:List ZE}{n:Nat}(h:Av R w v d a n)(i:ZF B w w')(g:∀b,R b->b<B):Av R w' v d a n:=
 h.keep (Ac.of_below i) (fun b f=>by have:=g b f;omega)
theorem Av.nil(R:Nat->Prop)(w:V)(sz:Nat):Av R w (F O 0 0) sz [] 0:=⟨by simp,O,0,rfl,by omega,by simp[maxLen],fun _=>rfl,fun h=>by simp at h⟩
theorem Q8{α β:Type}(f:α->List β)(a:Nat)(d:∀x,(f x).length=a):∀(l:List α) (k:Nat) (hk:k<l.length) (j:Nat),j<a->(l.flatMap f)[k*a+j]? =(f l[k])[j]?
 |[],k,hk,_,_=>by simp at hk
 |x::l,0,_,j,hj=>by
  rw[Zz6,Zz9 (by rw[d];omega)]
  simp
 |x::l,k+1,hk,j,hj=>by
  rw[Zz6,Zzs (by rw[d,Zx6];omega),d]
  have:=Q8 f a d l k (by simpa using hk) j hj
  rw[show(k+1)*a+j-a=k*a+j from by rw[Zx6];omega]
  simpa using this
theorem Hj{α β:Type}(f:α->List β)(a:Nat)(d:∀x,(f x).length=a)(l:List α):(l.flatMap f).length=l.length*a:=by
 induction l with
 |nil=>simp
 |cons x l ih=>rw[Zz6,R2,d,ih,Zz7,Zx6];omega
theorem Av.elem{α:Type}{f:α->List ZE}{R:Nat->Prop}{w:V}{ao:Option Addr}{n cap a:Nat}{l:List α}(h:Av R w (F ao n cap) a (l.flatMap f) l.length)(i:∀x,(f x).length=a)(d:0<a)(h0:0<l.length):
  ∃b off,ao=U ⟨b,off,O⟩/\R b/\b<w.heap.size/\∀k (hk:k<l.length) j u,(f l[k])[j]? =U u->w.cell? ⟨b,off+k*a+j,O⟩=U u:=by
 obtain⟨C,p,g,D,h1,h2,h3,q⟩:=h;obtain⟨rfl,rfl,rfl⟩:=D;obtain⟨b,off,v,s,y,A⟩:=q (by rw[C];exact Nat.mul_pos h0 d);refine⟨b,off,v,s,y,fun k hk j u o=>?_⟩;have B:j<a:=by rw[<-i l[k]];exact(List.getElem?_eq_some_iff.1 o).1
 rw[Zzm];exact A _ _ (by rw[Q8 f a i l k hk j B];exact o)
theorem Dt(b off k:Nat):(⟨b,off,O⟩:Addr).add k=⟨b,off+k,O⟩:=by unfold Addr.add;split<;>simp_all
theorem A1(w:V)(l:List ZE)(t:TypeId):∀j u,l[j]? =U u->(w.alloc (ZC l.toArray t)).cell? ((⟨w.heap.size,0,O⟩:Addr).add j)=U u:=by
 intro j u a;have h:=Ab w (ZC l.toArray t);rw[Dt,Zzt,cell_of_row _ _ j _ _ _ h];simpa using a
theorem Gh{P:Program}{w:V}{N:Array Oper}{rest:List Oper}{o:Oper}{a:Act}{Q:Exit->Act->V->Prop}(K:o.guard=O)(s x:Operand)(t:TypeId)
  (ho:o.op=.call { callee:=.builtin .append,args:=#[s,x],argTypes:=#[t,t]})
  (e:TypeId) (i:TypeInfo) (z:ZE) (size d:Nat) (ht:P.underlying t=U (.slice e)) (hi:P.info? e=U i) (hz:i.zero=U z)
  (B:i.size=size) (Y:i.bytes=d) (ac:z.cells.size=size) (ab:0<size)
  (hs:a.eval s=F O 0 0) (R:Nat->Prop) (v:ZE) (n:Nat) (l:List ZE) (hx:a.eval x=v) (aa:Av R w v size l n) (h1:∀u∈l,u.oneCell'=true) (S:n*d<=140737488355328)
  (h:∀ao cap w',Av (fun b=>w.heap.size<=b) w' (F ao n cap) size l n->ZF w.heap.size w w'->wpList P N Q rest (a.put o.dst (F ao n cap)) w'):wpList P N Q (o::rest) a w:=by
 obtain⟨hl,ao,cap,rfl,au,an,A,f⟩:=aa;cases ao with
 |none=>
  obtain rfl:=A rfl;obtain rfl:n=0:=by omega
  obtain rfl:l= []:=H3 (by simpa using hl);refine wpList_append_own_none K s x t ho w.heap.size e i size ht hi (F O 0 0) 0 [] hs (Zzr _ _ _ _) hx ?_;exact h O 0 w (Av.nil _ _ _) (R1 _ _)
 |some ad=>
  have y:∀j u,l[j]? =U u->w.cell? (ad.add j)=U u:=by
   intro j u D;have hj:j<l.length:=(List.getElem?_eq_some_iff.1 D).1;obtain⟨b,off,ha,_,_,hc⟩:=f (by omega);obtain rfl:=Option.some.inj ha;rw[Dt];exact hc j u D
  refine wpList_append_own w K s x t ho w.heap.size e i z size d ht hi hz B Y ac ab (F O 0 0) 0 [] hs (Zzr _ _ _ _) ad n cap l hx hl y h1 (by omega) (by rw[Zzt];omega) (Y2 _) ?_;intro v' w' q hg ag;rw[Zzt,Zyp]at q;have hb:ZF w.heap.size w w':=(R1 _ _).grown hg (Y2 _) (fun k hk=>by cases hk);obtain⟨p,hv⟩:=q;rcases hv with⟨rfl,rfl⟩|⟨g,E,T,rfl,X,L,Z,H,ap,C⟩
  ·obtain rfl:l= []:=H3 (by simpa using p);exact h O 0 w' (Av.nil _ _ _) hb
  ·refine h (U ⟨g,0,O⟩) E w' ⟨p,_,_,rfl,Z,H,(by intro h;cases h),fun hp=>⟨g,0,rfl,X,Aa L,fun k u D=>?_⟩⟩ hb;rw[Zzt,cell_of_row w' g k T e (0,0) L];rw[<-C,Zyv]at D;split at D
   ·simpa using D
   ·cases D
end
section
open Go.RowKit Go.Extern.Stop Go.Stop Go.Extern
theorem Tryz.valueOfPP(t:Addr)(w:V):(ReflectliteValue.unpack (ZL 170 (ZA (U t)))).run ZI w
  =.ok (ZJ #[ZA (U ⟨25,170,O⟩),ZA (U ⟨w.heap.size,0,O⟩),I .u64 150]) (w.alloc (ZC #[ZA (U t)] 170)):=by kernel_rfl
theorem Tryz.typePP(a:Addr)(w:V):(ReflectliteValue.methodAny (ReflectliteValue.valueError "reflectlite.Value.Type" 0) (fun t _ _ _=>ReflectliteType.toType t) #[ZJ #[ZA (U ⟨25,170,O⟩),ZA (U a),I .u64 150]]).run ZI w
  =.ok (ZL 283 (ZJ #[ZA (U ⟨25,170,O⟩)])) w:=by kernel_rfl
theorem Tryz.methodKind(h:ZE)(w:V):(Go.method 514 283 (ZJ #[h]) "Kind").run ZI w=.ok (312,h) w:=by kernel_rfl
theorem Tryz.kindPP(w:V):((ReflectliteType.abiMethod fun t=>(fun a:Nat=>Value.int IntKind.u8 (a:Int))<$>Rtype.kind t) #[ZA (U ⟨25,170,O⟩)]).run ZI w=.ok (I .u8 22) w:=by kernel_rfl
theorem Tryz.kindP(w:V):((ReflectliteType.abiMethod fun t=>(fun a:Nat=>Value.int IntKind.u8 (a:Int))<$>Rtype.kind t) #[ZA (U ⟨25,154,O⟩)]).run ZI w=.ok (I .u8 22) w:=by kernel_rfl
theorem rlm(z:Sem ZE)(f:TypeId->Addr->Nat->Nat->Sem ZE)(v:ZE):
  ReflectliteValue.method z f #[v]=(do match <-ReflectliteValue.parts v with|none=>z|some (t,a,fl)=>f t a fl (fl%32)):=rfl
theorem Tryz.partsPP(a:Addr)(w:V):(ReflectliteValue.parts (ZJ #[ZA (U ⟨25,170,O⟩),ZA (U a),I .u64 150])).run ZI w=.ok (U (170,a,150)) w:=by kernel_rfl
theorem Tryz.isNilPP(a p:Addr)(W:V)(d:W.cell? a=U (ZA (U p))):
  (ReflectliteValue.method (ReflectliteValue.valueError "reflectlite.Value.IsNil" 0) ReflectliteValue.isNil #[ZJ #[ZA (U ⟨25,170,O⟩),ZA (U a),I .u64 150]]).run ZI W=.ok (ZK false) W:=by
 rw[rlm];simp only[Sem.run_bind,partsPP,Result.andThen];simp[ReflectliteValue.isNil,loadVar,isAgg,underlying,underlying170,d,Result.andThen]
theorem Tryz.methodElem(h:ZE)(w:V):(Go.method 514 283 (ZJ #[h]) "Elem").run ZI w=.ok (327,ZJ #[h]) w:=by kernel_rfl
theorem Tryz.methodImplements(h:ZE)(w:V):(Go.method 514 283 (ZJ #[h]) "Implements").run ZI w=.ok (328,ZJ #[h]) w:=by kernel_rfl
theorem Tryz.methodAssignableTo(h:ZE)(w:V):(Go.method 514 283 (ZJ #[h]) "AssignableTo").run ZI w=.ok (325,ZJ #[h]) w:=by kernel_rfl
theorem Tryz.elemPP(w:V):(ReflectliteType.method ReflectliteType.elem #[ZJ #[ZA (U ⟨25,170,O⟩)]]).run ZI w=.ok (ZL 283 (ZJ #[ZA (U ⟨25,154,O⟩)])) w:=by kernel_rfl
theorem Tryz.implementsP(w:V):(ReflectliteType.relation "Implements" ReflectliteType.implements_ #[ZJ #[ZA (U ⟨25,154,O⟩)],ZL 283 (ZJ #[ZA (U ⟨25,25,O⟩)])]).run ZI w=.ok (ZK true) w:=by kernel_rfl
theorem Tryz.typeOfE(v:ZE)(w:V):(ReflectliteType.typeOf #[ZL 372 v]).run ZI w=.ok (ZL 283 (ZJ #[ZA (U ⟨25,372,O⟩)])) w:=by kernel_rfl
theorem Tryz.assignableE(w:V):(ReflectliteType.relation "AssignableTo" ReflectliteType.assignableTo #[ZJ #[ZA (U ⟨25,372,O⟩)],ZL 283 (ZJ #[ZA (U ⟨25,154,O⟩)])]).run ZI w=.ok (ZK false) w:=by kernel_rfl
theorem Tryz.noAsE(v:ZE)(xT:TypeId)(w:V):(Instr.typeAssert (ZL 372 v) xT 287 true).run ZI w=.ok (ZM #[.nilIface,ZK false]) w:=run_typeAssert_lacksB underlying287 (by kernel_rfl) (by kernel_rfl) v xT w
theorem Tryz.noUnwrapE(v:ZE)(xT:TypeId)(w:V):(Instr.typeAssert (ZL 372 v) xT 290 true).run ZI w=.ok (ZM #[.nilIface,ZK false]) w:=run_typeAssert_lacksB underlying290 (by kernel_rfl) (by kernel_rfl) v xT w
theorem Tryz.noUnwrapsE(v:ZE)(xT:TypeId)(w:V):(Instr.typeAssert (ZL 372 v) xT 291 true).run ZI w=.ok (ZM #[.nilIface,ZK false]) w:=run_typeAssert_lacksB underlying291 (by kernel_rfl) (by kernel_rfl) v xT w
theorem Ama(e t:Addr)(w:V)(f:w.cell? ⟨11,0,O⟩=U (ZL 283 (ZJ #[ZA (U ⟨25,25,O⟩)]))):
  Calls ZI 78 #[ZL 372 (ZA (U e)),ZL 170 (ZA (U t))] w fun ev w'=>ev=.returned (ZK false)/\ZF w.heap.size w w':=by
 have y:= @run_callFunc_extern ZI 144 _ (fun a=>ReflectliteValue.unpack (a.getD 0 (ZM #[]))) func144 (by kernel_rfl) (by kernel_rfl) (by kernel_rfl) (by kernel_rfl);have A:= @run_callFunc_extern ZI 145 _ (ReflectliteValue.methodAny (ReflectliteValue.valueError "reflectlite.Value.Type" 0) (fun t _ _ _=>ReflectliteType.toType t)) func145 (by kernel_rfl) (by kernel_rfl) (by kernel_rfl) (by kernel_rfl);have B:= @run_callFunc_extern ZI 146 _ (ReflectliteValue.method (ReflectliteValue.valueError "reflectlite.Value.IsNil" 0) ReflectliteValue.isNil) func146 (by kernel_rfl) (by kernel_rfl) (by kernel_rfl) (by kernel_rfl);have j:= @run_callFunc_extern ZI 312 _ (ReflectliteType.abiMethod fun t=>do pure (I .u8 (<-Rtype.kind t))) func312 (by kernel_rfl) (by kernel_rfl) (by kernel_rfl) (by kernel_rfl);have n:= @run_callFunc_extern ZI 327 _ (ReflectliteType.method ReflectliteType.elem) func327 (by kernel_rfl) (by kernel_rfl) (by kernel_rfl) (by kernel_rfl);have o:= @run_callFunc_extern ZI 328 _ (ReflectliteType.relation "Implements" ReflectliteType.implements_) func328 (by kernel_rfl) (by kernel_rfl) (by kernel_rfl) (by kernel_rfl);have i:= @run_callFunc_extern ZI 149 _ ReflectliteType.typeOf func149 (by kernel_rfl) (by kernel_rfl) (by kernel_rfl) (by kernel_rfl);have l:= @run_callFunc_extern ZI 325 _ (ReflectliteType.relation "AssignableTo" ReflectliteType.assignableTo) func325 (by kernel_rfl) (by kernel_rfl) (by kernel_rfl) (by kernel_rfl);have T:=typeOfE;have E:=methodAssignableTo;have s:=assignableE;have u:=valueOfPP;have v:=typePP;have L:=methodKind;have H:=methodElem;have K:=methodImplements;have q:=kindPP;have D:=kindP;have g:=elemPP;have C:=implementsP;have Q:=noAsE;have R:=noUnwrapE;have S:=noUnwrapsE;have N:=isNilPP ⟨w.heap.size,0,O⟩ t ((w.alloc (ZC #[ZA (U t)] 170)).alloc (ZC #[ZA (U ⟨25,170,O⟩),ZA (U ⟨w.heap.size,0,O⟩),I .u64 150] 228)) (by simp);have d:11<w.heap.size:=R3 _ ⟨11,0,O⟩ f;have p:((w.alloc (ZC #[ZA (U t)] 170)).alloc (ZC #[ZA (U ⟨25,170,O⟩),ZA (U ⟨w.heap.size,0,O⟩),I .u64 150] 228)).cell? ⟨11,0,O⟩=U (ZL 283 (ZJ #[ZA (U ⟨25,25,O⟩)])):=by
  rw[World.cell?_alloc_lt _ _ ⟨11,0,O⟩ (by simp;omega),World.cell?_alloc_lt _ _ ⟨11,0,O⟩ d];exact f
 go_enter func78,ntmps78;go_wp2;refine wp_loop_rounds 1 ?_;rw[rounds_succ];go_wp2;go_ret;exact⟨rfl,(((R1 _ _).alloc (Y2 _) _).alloc (by simp) _).alloc (by simp;omega) _⟩
end
def Hw(p:Int × Int):ZE:=ZJ #[I J p.1,I J p.2]
theorem Z5(p:Int × Int):Instr.sameBits 10000 (Hw p) (Hw p)=true:=by
 have:∀n,Instr.sameBits (n+2) (Hw p) (Hw p)=true:=by intro n;simp[Hw,Instr.sameBits]
 exact this 9998
section
variable {P:Program}
theorem I1(w:V){e:TypeId}{k:IntKind}(d:P.underlying e=U (.int k))(a:Array ZE)(i:Nat)(v:ZE)(f:a[i]? =U v):(part e a i).run P w=.ok v w:=by
 unfold part;simp[isAgg,run_underlying d,f]
structure Mk (P:Program) (m t e b:TypeId):Prop where
 um:P.underlying m=U (.map t b)
 ut:P.underlying t=U (.array 2 e)
 ue:P.underlying e=U (.int J )
 us:∃i,P.info? e=U i/\i.size=1
 uz:∀w:V,(zeroValue b).run P w=.ok (ZK false) w
variable {m t e b:TypeId} (M:Mk P m t e b)
include M
theorem Mk.equal(w:V)(p q:Int × Int):(Op.equal t (Hw p) (Hw q)).run P w=.ok (decide (p=q)) w:=by
 obtain⟨i,hi,g⟩:=M.us;have key:∀d,(Op.equalIn (d+2) t (Hw p) (Hw q)).run P w=.ok (decide (p=q)) w:=by
  intro d;unfold Hw;rw[Op.equalIn];have j:=fun(a b:Int) (w:V)=>I1 (P:=P) w M.ue #[I J a,I J b] 0 _ rfl;have l:=fun(a b:Int) (w:V)=>I1 (P:=P) w M.ue #[I J a,I J b] 1 _ rfl;have f:=fun(a b:Int) (w:V)=>run_equalIn_int (P:=P) w d e J J a b M.ue;simp[run_underlying M.ut,sizeOf,typeInfo,hi,g,Std.Legacy.Range.forIn_eq_forIn_range',Std.Legacy.Range.size,List.range',j,l,f];by_cases h1:p.1=q.1
  ·by_cases h2:p.2=q.2
   ·rw[if_pos h1,if_pos h2,On (Prod.ext h1 h2)]
   ·rw[if_pos h1,if_neg h2,N1 (fun h=>h2 (by rw[h]))]
  ·rw[if_neg h1,N1 (fun h=>h1 (by rw[h]))]
 exact key 9998
theorem Mk.check(w:V)(f:Bool)(p:Int × Int):(Instr.checkKey f 10000 t (Hw p)).run P w=.ok () w:=by
 obtain⟨i,hi,j⟩:=M.us;have key:∀d,(Instr.checkKey f (d+2) t (Hw p)).run P w=.ok () w:=by
  intro d;unfold Hw;rw[Instr.checkKey];have l:=fun(a b:Int) (w:V)=>I1 (P:=P) w M.ue #[I J a,I J b] 0 _ rfl;have n:=fun(a b:Int) (w:V)=>I1 (P:=P) w M.ue #[I J a,I J b] 1 _ rfl;have g:∀(a:Int) (w:V),(Instr.checkKey f (d+1) e (I J a)).run P w=.ok () w:=by
   intro a w;rw[Instr.checkKey];simp[run_underlying M.ue]
  simp[run_underlying M.ut,sizeOf,typeInfo,hi,j,Std.Legacy.Range.forIn_eq_forIn_range',Std.Legacy.Range.size,List.range',l,n,g]
 exact key 9998
def Rk(es:List MapEntry)(K:List (Int × Int)):Prop:=es.map (fun x=>(x.key,x.val))=K.map (fun p=>(Hw p,Value.bool true))
theorem Mk.find(w:V)(p:Int × Int):∀(es:List MapEntry) (K:List (Int × Int)) (i:Nat),Rk es K->
  ∃r,(Instr.findAsking t (Hw p) es i).run P w=.ok r w/\((r=O/\p∉K)\/∃j,r=U (i+j,ZK true)/\K[j]? =U p)
 |[],K,i,h=>by
  have hK:K= []:=by simpa [Rk] using h
  subst hK
  exact⟨O,by simp[Instr.findAsking],.inl ⟨rfl,by simp⟩⟩
 |x::es,[],i,h=>by simp[Rk]at h
 |x::es,q::K,i,h=>by
  simp only[Rk,Zz1,List.cons.injEq,Prod.mk.injEq]at h
  obtain⟨⟨d,o⟩,n⟩:=h
  have f:=M.equal w p q
  by_cases a:p=q
  ·refine⟨U (i,ZK true),?_,.inr ⟨0,by simp,by simp[a]⟩⟩
   rw[Instr.findAsking]
   simp[d,a,o,M.equal]
  ·obtain⟨r,h1,h2⟩:=Mk.find w p es K (i+1) n
   refine⟨r,?_,?_⟩
   ·rw[Instr.findAsking]
    simp[d,f,a,h1]
   ·rcases h2 with⟨rfl,l⟩|⟨j,rfl,g⟩
    ·exact .inl ⟨rfl,by simp[a,l]⟩
    ·exact .inr ⟨j+1,by rw[show i+1+j=i+(j+1)from by omega],by simpa using g⟩
theorem Mk.findKey(w:V)(p:Int × Int)(es:List MapEntry)(K:List (Int × Int))(h:Rk es K):
  ∃r,(Instr.findKey t (Hw p) es).run P w=.ok r w/\((r=O/\p∉K)\/∃j,r=U (j,ZK true)/\K[j]? =U p):=by
 have f:(match P.underlying t with|some (.array _ _)|some (.struct _)=>true|_=>false)=true:=by rw[M.ut]
 rw[run_findKey_eq w f];obtain⟨r,h1,h2⟩:=M.find w p es K 0 h;refine⟨r,h1,?_⟩;rcases h2 with h2|⟨j,a,d⟩
 ·exact .inl h2
 ·exact .inr ⟨j,by rw[a,Zzt],d⟩
def Jx(w:V)(r:Nat)(K:List (Int × Int)):Prop:=∃es clock,w.heap[r]? =U (.map es clock)/\Rk es.toList K
theorem Mk.lookup(w:V)(r:Nat)(K:List (Int × Int))(p:Int × Int)(h:Jx w r K):(Instr.lookup m (.map (U r)) (Hw p) false).run P w=.ok (ZK (decide (p∈K))) w:=by
 obtain⟨es,a,g,i⟩:=h;obtain⟨x,h1,h2⟩:=M.findKey w p es.toList K i;have f:=MapKept.run_getObj_map (P:=P) g;have d:=M.check w es.isEmpty p;unfold Instr.lookup;rcases h2 with⟨rfl,n⟩|⟨j,rfl,l⟩
 ·simp[run_underlying M.um,f,d,h1,M.uz,n]
 ·have:p∈K:=At l;simp[run_underlying M.um,f,d,h1,this]
theorem Mk.update(w:V)(r:Nat)(K:List (Int × Int))(p:Int × Int)(h:Jx w r K):
  ∃w',(Instr.mapUpdate m (.map (U r)) (Hw p) (ZK true)).run P w=.ok () w'/\(∃K',Jx w' r K'/\∀q,q∈K'↔q=p\/q∈K)/\Ac (· =r) w w':=by
 obtain⟨es,u,v,a⟩:=h;obtain⟨x,h1,h2⟩:=M.findKey w p es.toList K a;have C:=MapKept.run_getObj_map (P:=P) v;have B:=M.check w false p;have D:=fun o=>MapKept.run_setObj_map (P:=P) o v;have kp:∀o:Obj,Ac (· =r) w { w with heap:=w.heap.setIfInBounds r o}:=fun o=>⟨rfl,rfl,rfl,by simp,fun k L hne=>by
  simp only[Zy8];rw[if_neg (fun h=>hne h.symm)]⟩
 have H:=Aa v;have E:∀o:Obj,({ w with heap:=w.heap.setIfInBounds r o}:V).heap[r]? =U o:=fun o=>by
  simp only[Zy8];simp[H]
 have n:es.toList.length=K.length:=by have:=congrArg List.length a;simpa using this
 unfold Instr.mapUpdate;rcases h2 with⟨rfl,N⟩|⟨j,rfl,s⟩
 ·refine⟨_,by simp[run_underlying M.um,C,B,h1,D];rfl,⟨K++ [p],⟨_,_,E _,?_⟩,fun q=>by simp;exact or_comm⟩,kp _⟩;unfold Rk at a ⊢;simp[a]
 ·have d:j<es.toList.length:=by rw[n];exact(List.getElem?_eq_some_iff.1 s).1
  have g:((es[j]?).map (·.key)).getD (Hw p)=Hw p:=by
   have h3:=congrArg (fun l=>l[j]?) a;simp only[Zzl,s]at h3;rw[R4 d]at h3;simp at h3;have:es[j]? =U es[j]:=Array.getElem?_eq_getElem (by simpa using d);rw[this];simp[h3.1]
  have A:(Instr.keyThatStays (Hw p) (Hw p)).run P w=.ok (Hw p) w:=by
   unfold Instr.keyThatStays;rw[if_pos (Z5 p)];simp
  have y:p∈K:=At s;refine⟨_,by simp only[run_underlying M.um,C,B,h1,D,g,A,Sem.run_bind,Result.andThen_ok];rfl,⟨K,⟨_,_,E _,?_⟩,fun q=>⟨fun h=>.inr h,fun h=>h.elim (fun e=>e▸y) id⟩⟩,kp _⟩;unfold Rk at a ⊢;rw[<-a];apply Zxl;intro i;simp only[Zzl,Array.toList_modify,List.getElem?_modify];by_cases f:j=i
  ·subst f;have h3:=congrArg (fun l=>l[j]?) a;simp only[Zzl,s]at h3;rw[R4 d]at h3 ⊢;simp at h3 ⊢;exact⟨h3.1.symm,h3.2.symm⟩
  ·simp only[if_neg f];cases es.toList[i]? <;>rfl
omit M
theorem Jx.keep{S:Nat->Prop}{w w':V}{r:Nat}{K:List (Int × Int)}(h:Jx w r K)(i:Ac S w w')(d:¬S r):Jx w' r K:=by
 obtain⟨es,a,f,g⟩:=h;exact⟨es,a,i.get f d,g⟩
end
def R8(L:List (ByteArray × ZE)):List MapEntry:=L.zipIdx.map (fun x=>⟨ZB x.1.1,x.1.2,x.2⟩)
def Jk(L:List (ByteArray × ZE)):Obj:=.map (R8 L).toArray L.length
def Qe(L:List (ByteArray × ZE))(s:ByteArray):Option ZE:=(L.find? (fun p=>p.1.data.toList==s.data.toList)).map (·.2)
theorem qK(L:List (ByteArray × ZE)):∀x∈R8 L,MapKept.IsKey .string x.key:=by
 intro x a;obtain⟨p,d,rfl⟩:=List.mem_map.1 a;trivial
theorem Ze(L:List (ByteArray × ZE))(j:Nat):(R8 L)[j]? =L[j]?.map (fun p=>(⟨ZB p.1,p.2,j⟩:MapEntry)):=by
 simp only[R8,Zzl,List.getElem?_zipIdx,Option.map_map];cases L[j]? <;>simp
theorem Ahe(L:List (ByteArray × ZE))(k:ByteArray)(v:ZE):R8 (L++ [(k,v)])=R8 L++ [⟨ZB k,v,L.length⟩]:=by
 simp[R8,List.zipIdx_append]
theorem Ux{a b:ByteArray}:(a.data.toList==b.data.toList)=true↔a=b:=by
 rw[beq_iff_eq];constructor
 ·intro h;cases a;cases b;exact congrArg ByteArray.mk (Array.toList_inj.1 h)
 ·rintro rfl;rfl
section
variable {P:Program} {m t b:TypeId} (um:P.underlying m=U (.map t b)) (ut:P.underlying t=U .string)
include um ut
theorem wY(W:V)(B:Nat)(L:List (ByteArray × ZE))(h:W.heap[B]? =U (Jk L))(k:ByteArray)(v:ZE)(n:∀x∈L,x.1≠k):
  (Instr.mapUpdate m (.map (U B)) (ZB k) v).run P W=.ok () { W with heap:=W.heap.setIfInBounds B (Jk (L++ [(k,v)]))}:=by
 have i:=MapKept.run_getObj_map (P:=P) h;have s:=fun o=>MapKept.run_setObj_map (P:=P) o h;have f:=MapKept.run_checkKey (P:=P) (w:=W) ut (k:=ZB k) trivial false 9999;have g:Instr.findNow .string (ZB k) (R8 L) 0=U O:=by
  rcases MapKept.findNow_spec (d:=.string) (k:=ZB k) trivial (R8 L) 0 (qK _)with⟨h,_⟩|⟨j,e,h1,h2,h3⟩
  ·exact h
  ·exfalso;rw[Ze]at h2;obtain⟨q,p,rfl⟩:=Option.map_eq_some_iff.1 h2;exact n q (At p) (Value.string.inj h3)
 have a:=MapKept.run_findKey (P:=P) (w:=W) (l:=(R8 L).toArray.toList) ut (by simpa using g);unfold Instr.mapUpdate;simp only[run_underlying um,i,f,a,s,Sem.run_bind,Result.andThen_ok];congr 3;unfold Jk;rw[Ahe];simp
theorem pQ{z:ZE}(T:∀w:V,(zeroValue b).run P w=.ok z w)(W:V)(B:Nat)(L:List (ByteArray × ZE))(h:W.heap[B]? =U (Jk L))(Q:(L.map (·.1)).Nodup)(s:ByteArray):
  (Instr.lookup m (.map (U B)) (ZB s) true).run P W=.ok (ZM #[(Qe L s).getD z,ZK (Qe L s).isSome]) W:=by
 have E:=MapKept.run_getObj_map (P:=P) h;have D:=fun e=>MapKept.run_checkKey (P:=P) (w:=W) ut (k:=ZB s) trivial e 9999;have f:(Instr.findNow .string (ZB s) (R8 L) 0=U O/\Qe L s=O)\/∃j v,Instr.findNow .string (ZB s) (R8 L) 0=U (U (j,v))/\Qe L s=U v:=by
  rcases MapKept.findNow_spec (d:=.string) (k:=ZB s) trivial (R8 L) 0 (qK _)with⟨h1,h2⟩|⟨j,e,h1,h2,h3⟩
  ·refine .inl ⟨h1,?_⟩;unfold Qe;rw[Option.map_eq_none_iff,Zx3];intro q A;obtain⟨i,hi,rfl⟩:=List.mem_iff_getElem.1 A;have R:(⟨ZB L[i].1,L[i].2,i⟩:MapEntry)∈R8 L:=At (i:=i) (by rw[Ze,R4 hi];rfl);have hne:=h2 _ R;intro n;exact hne (congrArg Value.string (Ux.1 n))
  ·rw[Ze]at h2;obtain⟨q,A,rfl⟩:=Option.map_eq_some_iff.1 h2;refine .inr ⟨0+j,q.2,h1,?_⟩;have K:q.1=s:=Value.string.inj h3;obtain⟨H,a⟩:=List.getElem?_eq_some_iff.1 A;unfold Qe;cases y:L.find? (fun p=>p.1.data.toList==s.data.toList)with
   |none=>
    rw[Zx3]at y;exact absurd (Ux.2 K) (y q (At A))
   |some r=>
    have S:=List.find?_some y;obtain⟨i,hi,o⟩:=List.mem_iff_getElem.1 (List.mem_of_find?_eq_some y);have C:r.1=q.1:=by rw[K];exact Ux.1 S
    have u:=List.pairwise_iff_getElem.1 Q;have N:i=j:=by
     rcases Nat.lt_trichotomy i j with n|n|n
     ·exact(u i j (by simpa using hi) (by simpa using H) n (by simp[o,a,C])).elim
     ·exact n
     ·exact(u j i (by simpa using H) (by simpa using hi) n (by simp[o,a,C])).elim
    subst N;rw[o]at a;rw[a];rfl
 unfold Instr.lookup;rcases f with⟨h1,h2⟩|⟨j,q,h1,h2⟩
 ·have g:=MapKept.run_findKey (P:=P) (w:=W) (l:=(R8 L).toArray.toList) ut (by simpa using h1);simp[run_underlying um,E,D,g,T,Sem.run_bind,Result.andThen_ok,h2]
 ·have g:=MapKept.run_findKey (P:=P) (w:=W) (l:=(R8 L).toArray.toList) ut (by simpa using h1);simp[run_underlying um,E,D,g,Sem.run_bind,Result.andThen_ok,h2]
theorem K9(W:V)(B:Nat)(L:List (ByteArray × ZE))(h:W.heap[B]? =U (Jk L))(k:ByteArray)(v:ZE)(d:∀x∈L,x.1≠k):
  ∃W',(Instr.mapUpdate m (.map (U B)) (ZB k) v).run P W=.ok () W'/\W'.heap[B]? =U (Jk (L++ [(k,v)]))/\Ac (· =B) W W':=by
 have a:=Aa h;refine⟨_,wY um ut W B L h k v d,?_,⟨rfl,rfl,rfl,?_,fun i hi f=>?_⟩⟩
 ·simp[a]
 ·simp
 ·simp only[Zy8];rw[if_neg (fun e=>f e.symm)]
omit um ut in
theorem Aa0(W:V)(x y:Obj):({ W.alloc x with heap:=(W.alloc x).heap.setIfInBounds W.heap.size y}:V)=W.alloc y:=by
 have e:∀z:Obj,(W.alloc z)= { W with heap:=W.heap.push z}:=fun _=>rfl;rw[e,e];show({ heap:=(W.heap.push x).setIfInBounds W.heap.size y,tape:=W.tape,drawn:=W.drawn,os:=W.os,output:=W.output}:V)= { heap:=W.heap.push y,tape:=W.tape,drawn:=W.drawn,os:=W.os,output:=W.output}
 congr 1;apply Array.ext_getElem?;intro i;simp only[Zy8,Array.getElem?_push,Array.size_push];by_cases h:W.heap.size=i
 ·subst h;simp
 ·rw[if_neg h,if_neg (fun a=>h a.symm),if_neg (fun a=>h a.symm)]
theorem La(W:V)(L:List (ByteArray × ZE))(k:ByteArray)(v:ZE)(a:∀x∈L,x.1≠k):
  (Instr.mapUpdate m (.map (U W.heap.size)) (ZB k) v).run P (W.alloc (Jk L))=.ok () (W.alloc (Jk (L++ [(k,v)]))):=by
 rw[wY um ut (W.alloc (Jk L)) W.heap.size L (Ab _ _) k v a,Aa0]
