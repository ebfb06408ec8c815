import Derived.Test.YtikehilbmldadaaGreatDoorP03
import Derived.Lib.Strings
import Derived.Lib.Slices
import Derived.Lib.Walk
import Derived.Lib.Builder
import Derived.Lib.AppendStr
import Derived.Lib.UnsafeStr
import Derived.Laws.Externs
import Derived.Laws.IdiomCopy
set_option maxHeartbeats 2000000
set_option maxRecDepth 100000
set_option linter.unusedVariables false
namespace Go.Proofs.YtikehilbmldadaaGreatDoor
open Proofs.Tryz YtikehilbmldadaaGreatDoor.Tryz RowKit
open Go renaming World->V,Value->ZE,RowKit.Below->ZF,Calls->ZH,Value.int->I,Value.slice->F,Value.pointer->ZA,Ending.returned->ZD,Proofs.Tryz.prog->ZI
open Option renaming some->U,none->O
theorem Tryz.sizePage:(ZI.info? 121).map (·.size)=U 2:=by kernel_rfl
theorem Tryz.liesPage:liesAt ZI ZI.depth 123 (2/ZI.cellsOf 123) 0 121 1=true:=by kernel_rfl
theorem Tryz.infoByteP:(ZI.info? 5).map (fun i=>(i.zero,i.size,i.bytes))=U (U (I .u8 0),1,1):=by kernel_rfl
theorem Tryz.cellsByteP:ZI.cellsOf 5=1:=by kernel_rfl
def Aey:Obj->Prop
 |.cells _ t _=>t=5
 |_=>False
structure Oth (b:Nat) (w w':V):Prop where
 os:w'.os=w.os
 tape:w'.tape=w.tape
 output:w'.output=w.output
 size:w.heap.size<=w'.heap.size
 block:∀k o,w.heap[k]? =U o->k≠b->¬Aey o->w'.heap[k]? =U o
theorem Oth.refl(b:Nat)(w:V):Oth b w w:=⟨rfl,rfl,rfl,Y2 _,fun _ _ h _ _=>h⟩
theorem Oth.trans{b:Nat}{u v w:V}(h:Oth b u v)(k:Oth b v w):Oth b u w:=
 ⟨k.os.trans h.os,k.tape.trans h.tape,k.output.trans h.output,No h.size k.size,fun i o hi a d=>k.block i o (h.block i o hi a d) a d⟩
theorem Oth.set{b:Nat}{w:V}(o:Nat)(u:ZE):Oth b w (w.setCell ⟨b,o,O⟩ u):=by
 have k:=Af w b o u;exact⟨k.os,k.tape,k.output,k.size,fun i x hi a _=>k.get hi a⟩
theorem Oth.below{b:Nat}{w w':V}(h:ZF w.heap.size w w'):Oth b w w':=⟨h.os,h.tape,h.output,h.size,fun i o hi _ _=>Ae h hi (Aa hi)⟩
theorem Oth.grown{b:Nat}{w w':V}{B n:Nat}{v:ZE}{l:List ZE}(a:w.ownsRow B 5 1 v n l)(g:w.grownBy w' v.ownBlock):Oth b w w':=by
 have k:=Ac.of_grown g;refine⟨k.os,k.tape,k.output,k.size,fun i x hi _ j=>k.get hi (fun e=>?_)⟩;rcases a.2 with⟨rfl,_⟩|⟨q,cap,d,rfl,_,f,_⟩
 ·cases e
 ·have:i=q:=Option.some.inj e;subst this;rw[f]at hi;obtain rfl:=Option.some.inj hi;exact j rfl
def PgU(B b:Nat)(l:List UInt8)(w:V):Prop:=Lib.BuilderAt 123 5 B b (ZA (U ⟨b,0,O⟩)) (Lib.byteCells l) w
def Pg(B b:Nat)(l:List UInt8)(w:V):Prop:=Lib.IsBuilder 123 5 B b (Lib.byteCells l) w
theorem Pg.at_{B b:Nat}{l:List UInt8}{w:V}(h:Pg B b l w):∃p,Lib.BuilderAt 123 5 B b p (Lib.byteCells l) w:=by
 rcases h with h|h
 ·exact⟨_,h⟩
 ·exact⟨_,h⟩
theorem Qh{T e:TypeId}{B b:Nat}{p:ZE}{bs:List ZE}{w w':V}(h:Lib.BuilderAt T e B b p bs w)(k:ZF w.heap.size w w'):Lib.BuilderAt T e B b p bs w':=by
 obtain⟨f,v,d,a,hne⟩:=h;exact⟨f,v,Ae k d (Aa d),Ff a (Al k) (fun _ _ _ h=>h),hne⟩
theorem Pg.below{B b:Nat}{l:List UInt8}{w w':V}(h:Pg B b l w)(k:ZF w.heap.size w w'):Pg B b l w':=by
 rcases h with h|h
 ·exact .inl (Qh h k)
 ·exact .inr (Qh h k)
theorem Pg.lt{B b:Nat}{l:List UInt8}{w:V}(h:Pg B b l w):B<=b/\b<w.heap.size:=by
 obtain⟨p,h⟩:=h.at_;exact⟨h.1,h.lt⟩
theorem Zk(b:Nat)(w:V)(h0:w.cell? ⟨b,0,O⟩=U (ZA (U ⟨b,0,O⟩))):
  ZH ZI 168 #[ZA (U ⟨b,0,O⟩)] w fun e w'=>e=ZD (.tuple #[])/\w=w':=by
 obtain⟨j,a,_⟩:=Option.map_eq_some_iff.1 sizePage;go_enter func168,ntmps168;go_wp2;rw[Lib.run_neq_ptr_same w _ underlying119 a];go_wp2;go_end0;exact⟨rfl,rfl⟩
theorem Xe(b:Nat)(w:V)(h0:w.cell? ⟨b,0,O⟩=U (ZA O))(a:w.shape? b=U (123,2))(g:w.frozen? ⟨b,0,O⟩=false):
  ZH ZI 168 #[ZA (U ⟨b,0,O⟩)] w fun e w'=>e=ZD (.tuple #[])/\w.setCell ⟨b,0,O⟩ (ZA (U ⟨b,0,O⟩))=w':=by
 obtain⟨j,f,d⟩:=Option.map_eq_some_iff.1 sizePage;go_enter func168,ntmps168;go_wp2;rw[Lib.run_to_unsafe w ⟨b,0,O⟩ underlying119 underlying225 f (by rw[d];decide) a (Nat.zero_lt_succ 1)];simp only[Result.andThen];rw[Oper.upon_value];go_wp2;rw[run_callFunc_extern func215 (by kernel_rfl) (by kernel_rfl) (by kernel_rfl) (e:=Extern.AbiNoEscape.same) (by kernel_rfl)];rw[Lib.run_noEscape];simp only[Result.andThen];rw[Oper.upon_value];go_wp2;rw[Lib.run_from_unsafe w ⟨b,0,O⟩ underlying225 underlying119 f a liesPage];simp only[Result.andThen];rw[Oper.upon_value];go_wp2;go_end0;exact⟨rfl,rfl⟩
theorem Sm(B b:Nat)(l:List UInt8)(w:V)(h:Pg B b l w):
  ZH ZI 168 #[ZA (U ⟨b,0,O⟩)] w fun e w'=>e=ZD (.tuple #[])/\PgU B b l w'/\ZF B w w'/\Oth b w w':=by
 rcases h with h|h
 ·refine(Xe b w h.cell0 h.shape h.frozen0).mono ?_;rintro e w' ⟨rfl,rfl⟩;exact⟨rfl,h.used _,(R1 B w).setCell (p:=⟨b,0,O⟩) h.1 _,Oth.set _ _⟩
 ·refine(Zk b w h.cell0).mono ?_;rintro e w' ⟨rfl,rfl⟩;exact⟨rfl,h,R1 B _,Oth.refl _ _⟩
theorem Nm(B b:Nat)(l:List UInt8)(c:UInt8)(w:V)(h:Pg B b l w)(X:l.length+1<=1000000000)(ad:B<=w.heap.size):
  ZH ZI 98 #[ZA (U ⟨b,0,O⟩),I .u8 (c.toNat:Int)] w fun e w'=>e=ZD .nilIface/\Pg B b (l++ [c]) w'/\ZF B w w'/\Oth b w w':=by
 obtain⟨i0,hi,P,Q,R⟩:=info_parts infoByteP;have y:=G (Sm B b l w h);clear h;go_enter func98,ntmps98;go_wp2_with fail;refine y.mono ?_;rintro e w1 ⟨rfl,h1,s,H⟩;obtain⟨S,v,j,i,hne⟩:=h1;have E:(Lib.byteCells l).length=l.length:=Zyr l;rw[E]at i;have c0:w1.cell? ⟨b,0,O⟩=U (ZA (U ⟨b,0,O⟩)):=by rw[Zy6 j];rfl
 have c1:w1.cell? ⟨b,1,O⟩=U v:=by rw[Zy6 j];rfl
 have af:=s.size;have q:=G i;have L:=G H;have K:=G s;have o:=G j;have M:=G hne;clear i H s j hne y E;go_wp2_with (at_builtin;refine wpList_append_own _ rfl (.tmp 11) (.tmp 13) 85 rfl B 5 i0 (I .u8 0) 1 1 underlying85 hi P Q R rfl (by decide) _ l.length _ rfl (q.alloc _) ⟨w1.heap.size,0,O⟩ 1 1 [I .u8 (c.toNat:Int)] rfl rfl (by exact A1 _ [I .u8 (c.toNat:Int)] _) (by intro u Y;simp at Y;subst Y;rfl) (by unfold maxLen;omega) (by omega) (by simp;omega) ?_);intro v' t d a D;have N:=Aa o.out;have f:t.heap[b]? =U (.cells #[ZA (U ⟨b,0,O⟩),v] 123 (0,0)):=by
  rw[a.block b (by simp;omega) (fun e=>M e.symm),Lib.alloc_old w1 _ b N];exact o.out
 have d0:t.cell? ⟨b,0,O⟩=U (ZA (U ⟨b,0,O⟩)):=by rw[Zy6 f];rfl
 have d1:t.cell? ⟨b,1,O⟩=U v:=by rw[Zy6 f];rfl
 have f1:t.frozen? ⟨b,1,O⟩=false:=Lib.frozen_of_heap f 1;obtain⟨g,cap,rfl⟩:∃g cap,v'=F (U ⟨g,0,O⟩) (l.length+1) cap:=by
  rcases d.2 with⟨_,h0⟩|⟨g,cap,ac,hv,_⟩
  ·omega
  ·exact⟨g,cap,hv⟩
 have C:Lib.byteCells (l++ [c])=Lib.byteCells l++ [I .u8 (c.toNat:Int)]:=by rw[Zyf];rfl
 have m:Pg B b (l++ [c]) (t.setCell ⟨b,1,O⟩ (F (U ⟨g,0,O⟩) (l.length+1) cap)):=by
  refine .inr (Lib.BuilderAt.put (T:=123) (e:=5) S f (bs':=Lib.byteCells (l++ [c])) ?_ (by decide));rw[Zyr,C,R2];exact d
 have A:ZF w1.heap.size w1 (w1.alloc (.cells #[I .u8 (c.toNat:Int)] 5)):=(R1 _ _).alloc (Y2 _) _;have fin2:ZF B w (t.setCell ⟨b,1,O⟩ (F (U ⟨g,0,O⟩) (l.length+1) cap)):=
  ((K.alloc (by omega) _).grown a (by simp;omega) (fun k hk=>(q.lt k hk).1)).setCell (p:=⟨b,1,O⟩) S _
 have n:Oth b w (t.setCell ⟨b,1,O⟩ (F (U ⟨g,0,O⟩) (l.length+1) cap)):=
  ((L.trans (Oth.below A)).trans (Oth.grown (q.alloc _) a)).trans (Oth.set _ _)
 have Z:=G m;have F2:=G fin2;have F3:=G n;clear m fin2 n A C d a D f o;go_wp2_with fail;go_ret;exact⟨rfl,Z.out,F2.out,F3.out⟩
theorem Jv(B b:Nat)(l:List UInt8)(s:ByteArray)(w:V)(h:Pg B b l w)(X:l.length+s.size<=1000000000)(ac:B<=w.heap.size):
  ZH ZI 99 #[ZA (U ⟨b,0,O⟩),.string s] w fun e w'=>e=ZD (.tuple #[I .i64 s.size,.nilIface])/\Pg B b (l++s.data.toList) w'/\ZF B w w'/\Oth b w w':=by
 obtain⟨i0,hi,P,Q,R⟩:=info_parts infoByteP;have t:=G (Sm B b l w h);clear h;go_enter func99,ntmps99;go_wp2_with fail;refine t.mono ?_;rintro e w1 ⟨rfl,h1,o,D⟩;obtain⟨S,v,j,i,hne⟩:=h1;have C:(Lib.byteCells l).length=l.length:=Zyr l;rw[C]at i;have c0:w1.cell? ⟨b,0,O⟩=U (ZA (U ⟨b,0,O⟩)):=by rw[Zy6 j];rfl
 have c1:w1.cell? ⟨b,1,O⟩=U v:=by rw[Zy6 j];rfl
 have ae:=o.size;have n:=G i;have K:=G D;have H:=G o;have m:=G j;have L:=G hne;clear i D o j hne t C;go_wp2_with (at_builtin;refine Lib.wpList_append_own_string _ rfl (.tmp 12) (.tmp 13) 85 9 rfl B 5 i0 underlying85 underlying9 hi P Q R _ l.length _ rfl n s rfl (by unfold maxLen;omega) (by omega) (by omega) ?_);intro v' q d a A;have M:=Aa m.out;have f:q.heap[b]? =U (.cells #[ZA (U ⟨b,0,O⟩),v] 123 (0,0)):=by
  rw[a.block b M (fun e=>L e.symm)];exact m.out
 have d0:q.cell? ⟨b,0,O⟩=U (ZA (U ⟨b,0,O⟩)):=by rw[Zy6 f];rfl
 have d1:q.cell? ⟨b,1,O⟩=U v:=by rw[Zy6 f];rfl
 have f1:q.frozen? ⟨b,1,O⟩=false:=Lib.frozen_of_heap f 1;obtain⟨u,E,cap,rfl⟩:∃u E cap,v'=F u E cap:=by
  rcases d.2 with⟨N,_⟩|⟨g,cap,ab,N,_⟩
  ·exact⟨_,_,_,N⟩
  ·exact⟨_,_,_,N⟩
 have y:Lib.byteCells (l++s.data.toList)=Lib.byteCells l++Lib.strCells s:=by rw[Zyf];rfl
 have Y:Hid (Pg B b (l++s.data.toList) (q.setCell ⟨b,1,O⟩ (F u E cap))):=by
  refine .inr (Lib.BuilderAt.put (T:=123) (e:=5) S f (bs':=Lib.byteCells (l++s.data.toList)) ?_ (by decide));rw[Zyr,y,R2];have e:s.data.toList.length=s.size:=by rw[C2];rfl
  rw[e];exact d
 have Z:Hid (ZF B w (q.setCell ⟨b,1,O⟩ (F u E cap))):=
  (H.grown a (by omega) (fun k hk=>(n.lt k hk).1)).setCell (p:=⟨b,1,O⟩) S _
 have F3:Hid (Oth b w (q.setCell ⟨b,1,O⟩ (F u E cap))):=(K.trans (Oth.grown n a)).trans (Oth.set _ _);clear y d a A f m;go_wp2_with fail;go_ret2;exact⟨rfl,Y.out,Z.out,F3.out⟩
