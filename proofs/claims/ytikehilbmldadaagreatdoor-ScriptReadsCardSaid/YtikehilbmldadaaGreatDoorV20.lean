import Derived.Test.YtikehilbmldadaaGreatDoorV01
import Derived.Lib.Strings
import Derived.Lib.Slices
import Derived.Lib.Walk
import Derived.Lib.Builder
import Derived.Lib.AppendStr
import Derived.Lib.UnsafeStr
import Derived.Laws.Externs
import Derived.Laws.IdiomCopy
set_option maxHeartbeats 2000000
set_option maxRecDepth 100000
set_option linter.unusedVariables false
open Go.Proofs.Tryz Go.Proofs.YtikehilbmldadaaGreatDoor.Tryz
namespace Go.Proofs.YtikehilbmldadaaGreatDoor
open Go.RowKit
theorem Tryz.sizePage:(Tryz.prog.info? 121).map (·.size)=some 2:=by kernel_rfl
theorem Tryz.liesPage:liesAt Tryz.prog Tryz.prog.depth 123 (2/Tryz.prog.cellsOf 123) 0 121 1=true:=by kernel_rfl
theorem Tryz.infoByteP:(Tryz.prog.info? 5).map (fun i=>(i.zero,i.size,i.bytes))=some (some (.int .u8 0),1,1):=by kernel_rfl
theorem Tryz.cellsByteP:Tryz.prog.cellsOf 5=1:=by kernel_rfl
def xZ:Obj->Prop
 |.cells _ t _=>t=5
 |_=>False
structure Oth (b:Nat) (w w':World):Prop where
 os:w'.os=w.os
 tape:w'.tape=w.tape
 output:w'.output=w.output
 size:w.heap.size<=w'.heap.size
 block:∀k o,w.heap[k]? =some o->k≠b->¬xZ o->w'.heap[k]? =some o
theorem Oth.refl(b:Nat)(w:World):Oth b w w:=⟨rfl,rfl,rfl,Nat.le_refl _,fun _ _ h _ _=>h⟩
theorem Oth.trans{b:Nat}{u v w:World}(h:Oth b u v)(k:Oth b v w):Oth b u w:=
 ⟨k.os.trans h.os,k.tape.trans h.tape,k.output.trans h.output,Nat.le_trans h.size k.size,fun i o hi hb ho=>k.block i o (h.block i o hi hb ho) hb ho⟩
theorem Oth.set{b:Nat}{w:World}(o:Nat)(u:Value):Oth b w (w.setCell ⟨b,o,none⟩ u):=by
 have k:=Ai w b o u
 exact⟨k.os,k.tape,k.output,k.size,fun i x hi hb _=>k.get hi hb⟩
theorem Oth.below{b:Nat}{w w':World}(h:Below w.heap.size w w'):Oth b w w':=⟨h.os,h.tape,h.output,h.size,fun i o hi _ _=>Af h hi (Aa hi)⟩
theorem Oth.grown{b:Nat}{w w':World}{B n:Nat}{v:Value}{xs:List Value}(hown:w.ownsRow B 5 1 v n xs)(g:w.grownBy w' v.ownBlock):Oth b w w':=by
 have k:=Ae.of_grown g
 refine⟨k.os,k.tape,k.output,k.size,fun i x hi _ hx=>k.get hi (fun e=>?_)⟩
 rcases hown.2 with⟨rfl,_⟩|⟨q,cap,cur,rfl,_,hq,_⟩
 ·cases e
 ·have:i=q:=Option.some.inj e
  subst this
  rw[hq]at hi
  obtain rfl:=Option.some.inj hi
  exact hx rfl
def PgU(B b:Nat)(l:List UInt8)(w:World):Prop:=Lib.BuilderAt 123 5 B b (.pointer (some ⟨b,0,none⟩)) (Lib.byteCells l) w
def Pg(B b:Nat)(l:List UInt8)(w:World):Prop:=Lib.IsBuilder 123 5 B b (Lib.byteCells l) w
theorem Pg.at_{B b:Nat}{l:List UInt8}{w:World}(h:Pg B b l w):∃p,Lib.BuilderAt 123 5 B b p (Lib.byteCells l) w:=by
 rcases h with h|h
 ·exact⟨_,h⟩
 ·exact⟨_,h⟩
theorem N3{T e:TypeId}{B b:Nat}{p:Value}{bs:List Value}{w w':World}(h:Lib.BuilderAt T e B b p bs w)(k:Below w.heap.size w w'):Lib.BuilderAt T e B b p bs w':=by
 obtain⟨hB,v,hb,hown,hne⟩:=h
 exact⟨hB,v,Af k hb (Aa hb),Dy hown (Ak k) (fun _ _ _ h=>h),hne⟩
theorem Pg.below{B b:Nat}{l:List UInt8}{w w':World}(h:Pg B b l w)(k:Below w.heap.size w w'):Pg B b l w':=by
 rcases h with h|h
 ·exact .inl (N3 h k)
 ·exact .inr (N3 h k)
theorem Pg.lt{B b:Nat}{l:List UInt8}{w:World}(h:Pg B b l w):B<=b/\b<w.heap.size:=by
 obtain⟨p,h⟩:=h.at_
 exact⟨h.1,h.lt⟩
theorem V8(b:Nat)(w:World)(h0:w.cell? ⟨b,0,none⟩=some (.pointer (some ⟨b,0,none⟩))):
  Calls Tryz.prog 168 #[.pointer (some ⟨b,0,none⟩)] w fun e w'=>e=.returned (.tuple #[])/\w=w':=by
 obtain⟨j,hj,_⟩:=Option.map_eq_some_iff.1 sizePage
 go_enter func168,ntmps168
 go_wp2
 rw[Lib.run_neq_ptr_same w _ underlying119 hj]
 go_wp2
 go_end0
 exact⟨rfl,rfl⟩
theorem Tz(b:Nat)(w:World)(h0:w.cell? ⟨b,0,none⟩=some (.pointer none))(hsh:w.shape? b=some (123,2))(hfz:w.frozen? ⟨b,0,none⟩=false):
  Calls Tryz.prog 168 #[.pointer (some ⟨b,0,none⟩)] w fun e w'=>e=.returned (.tuple #[])/\w.setCell ⟨b,0,none⟩ (.pointer (some ⟨b,0,none⟩))=w':=by
 obtain⟨j,hj,hjs⟩:=Option.map_eq_some_iff.1 sizePage
 go_enter func168,ntmps168
 go_wp2
 rw[Lib.run_to_unsafe w ⟨b,0,none⟩ underlying119 underlying225 hj (by rw[hjs];decide) hsh (Nat.zero_lt_succ 1)]
 simp only[Result.andThen]
 rw[Oper.upon_value]
 go_wp2
 rw[run_callFunc_extern func215 (by kernel_rfl) (by kernel_rfl) (by kernel_rfl) (e:=Extern.AbiNoEscape.same) (by kernel_rfl)]
 rw[Lib.run_noEscape]
 simp only[Result.andThen]
 rw[Oper.upon_value]
 go_wp2
 rw[Lib.run_from_unsafe w ⟨b,0,none⟩ underlying225 underlying119 hj hsh liesPage]
 simp only[Result.andThen]
 rw[Oper.upon_value]
 go_wp2
 go_end0
 exact⟨rfl,rfl⟩
theorem Ql(B b:Nat)(l:List UInt8)(w:World)(h:Pg B b l w):
  Calls Tryz.prog 168 #[.pointer (some ⟨b,0,none⟩)] w fun e w'=>e=.returned (.tuple #[])/\PgU B b l w'/\Below B w w'/\Oth b w w':=by
 rcases h with h|h
 ·refine(Tz b w h.cell0 h.shape h.frozen0).mono ?_
  rintro e w' ⟨rfl,rfl⟩
  exact⟨rfl,h.used _,(Below.refl B w).setCell (p:=⟨b,0,none⟩) h.1 _,Oth.set _ _⟩
 ·refine(V8 b w h.cell0).mono ?_
  rintro e w' ⟨rfl,rfl⟩
  exact⟨rfl,h,Below.refl B _,Oth.refl _ _⟩
theorem Ln(B b:Nat)(l:List UInt8)(c:UInt8)(w:World)(h:Pg B b l w)(hlen:l.length+1<=1000000000)(hBw:B<=w.heap.size):
  Calls Tryz.prog 98 #[.pointer (some ⟨b,0,none⟩),.int .u8 (c.toNat:Int)] w fun e w'=>e=.returned .nilIface/\Pg B b (l++ [c]) w'/\Below B w w'/\Oth b w w':=by
 obtain⟨i0,hi,hz0,hz1,hz2⟩:=info_parts infoByteP
 have HCk:=Aia (Ql B b l w h)
 clear h
 go_enter func98,ntmps98
 go_wp2_with fail
 refine HCk.out.mono ?_
 rintro e w1 ⟨rfl,h1,hb1,ho1⟩
 obtain⟨hB,v,hbk,hown,hne⟩:=h1
 have hnl:(Lib.byteCells l).length=l.length:=Lib.byteCells_length l
 rw[hnl]at hown
 have c0:w1.cell? ⟨b,0,none⟩=some (.pointer (some ⟨b,0,none⟩)):=by rw[Lib.cell_of_heap hbk];rfl
 have c1:w1.cell? ⟨b,1,none⟩=some v:=by rw[Lib.cell_of_heap hbk];rfl
 have hs1:=hb1.size
 have HO1:=Aia hown
 have HH1:=Aia ho1
 have HB1:=Aia hb1
 have HBK:=Aia hbk
 have HNE:=Aia hne
 clear hown ho1 hb1 hbk hne HCk hnl
 go_wp2_with (at_builtin;refine wpList_append_own _ rfl (.tmp 11) (.tmp 13) 85 rfl B 5 i0 (.int .u8 0) 1 1 underlying85 hi hz0 hz1 hz2 rfl (by decide) _ l.length _ rfl (HO1.out.alloc _) ⟨w1.heap.size,0,none⟩ 1 1 [.int .u8 (c.toNat:Int)] rfl rfl (by exact Av _ [.int .u8 (c.toNat:Int)] _) (by intro u hu;simp at hu;subst hu;rfl) (by unfold maxLen;omega) (by omega) (by simp;omega) ?_)
 intro v' w2 hown' hgrow hnil
 have hlt:=Aa HBK.out
 have hb2:w2.heap[b]? =some (.cells #[.pointer (some ⟨b,0,none⟩),v] 123 (0,0)):=by
  rw[hgrow.block b (by simp;omega) (fun e=>HNE.out e.symm),Lib.alloc_old w1 _ b hlt]
  exact HBK.out
 have d0:w2.cell? ⟨b,0,none⟩=some (.pointer (some ⟨b,0,none⟩)):=by rw[Lib.cell_of_heap hb2];rfl
 have d1:w2.cell? ⟨b,1,none⟩=some v:=by rw[Lib.cell_of_heap hb2];rfl
 have f1:w2.frozen? ⟨b,1,none⟩=false:=Lib.frozen_of_heap hb2 1
 obtain⟨g,cap,rfl⟩:∃g cap,v'=.slice (some ⟨g,0,none⟩) (l.length+1) cap:=by
  rcases hown'.2 with⟨_,h0⟩|⟨g,cap,cur,hv,_⟩
  ·omega
  ·exact⟨g,cap,hv⟩
 have hbc:Lib.byteCells (l++ [c])=Lib.byteCells l++ [.int .u8 (c.toNat:Int)]:=by rw[Lib.byteCells_append];rfl
 have fin1:Pg B b (l++ [c]) (w2.setCell ⟨b,1,none⟩ (.slice (some ⟨g,0,none⟩) (l.length+1) cap)):=by
  refine .inr (Lib.BuilderAt.put (T:=123) (e:=5) hB hb2 (bs':=Lib.byteCells (l++ [c])) ?_ (by decide))
  rw[Lib.byteCells_length,hbc,List.length_append]
  exact hown'
 have hal:Below w1.heap.size w1 (w1.alloc (.cells #[.int .u8 (c.toNat:Int)] 5)):=(Below.refl _ _).alloc (Nat.le_refl _) _
 have fin2:Below B w (w2.setCell ⟨b,1,none⟩ (.slice (some ⟨g,0,none⟩) (l.length+1) cap)):=
  ((HB1.out.alloc (by omega) _).grown hgrow (by simp;omega) (fun k hk=>(HO1.out.lt k hk).1)).setCell (p:=⟨b,1,none⟩) hB _
 have fin3:Oth b w (w2.setCell ⟨b,1,none⟩ (.slice (some ⟨g,0,none⟩) (l.length+1) cap)):=
  ((HH1.out.trans (Oth.below hal)).trans (Oth.grown (HO1.out.alloc _) hgrow)).trans (Oth.set _ _)
 have F1:=Aia fin1
 have F2:=Aia fin2
 have F3:=Aia fin3
 clear fin1 fin2 fin3 hal hbc hown' hgrow hnil hb2 HBK
 go_wp2_with fail
 go_ret
 exact⟨rfl,F1.out,F2.out,F3.out⟩
theorem Hq(B b:Nat)(l:List UInt8)(s:ByteArray)(w:World)(h:Pg B b l w)(hlen:l.length+s.size<=1000000000)(hBw:B<=w.heap.size):
  Calls Tryz.prog 99 #[.pointer (some ⟨b,0,none⟩),.string s] w fun e w'=>e=.returned (.tuple #[.int .i64 s.size,.nilIface])/\Pg B b (l++s.data.toList) w'/\Below B w w'/\Oth b w w':=by
 obtain⟨i0,hi,hz0,hz1,hz2⟩:=info_parts infoByteP
 have HCk:=Aia (Ql B b l w h)
 clear h
 go_enter func99,ntmps99
 go_wp2_with fail
 refine HCk.out.mono ?_
 rintro e w1 ⟨rfl,h1,hb1,ho1⟩
 obtain⟨hB,v,hbk,hown,hne⟩:=h1
 have hnl:(Lib.byteCells l).length=l.length:=Lib.byteCells_length l
 rw[hnl]at hown
 have c0:w1.cell? ⟨b,0,none⟩=some (.pointer (some ⟨b,0,none⟩)):=by rw[Lib.cell_of_heap hbk];rfl
 have c1:w1.cell? ⟨b,1,none⟩=some v:=by rw[Lib.cell_of_heap hbk];rfl
 have hs1:=hb1.size
 have HO1:=Aia hown
 have HH1:=Aia ho1
 have HB1:=Aia hb1
 have HBK:=Aia hbk
 have HNE:=Aia hne
 clear hown ho1 hb1 hbk hne HCk hnl
 go_wp2_with (at_builtin;refine Lib.wpList_append_own_string _ rfl (.tmp 12) (.tmp 13) 85 9 rfl B 5 i0 underlying85 underlying9 hi hz0 hz1 hz2 _ l.length _ rfl HO1.out s rfl (by unfold maxLen;omega) (by omega) (by omega) ?_)
 intro v' w2 hown' hgrow hnil
 have hlt:=Aa HBK.out
 have hb2:w2.heap[b]? =some (.cells #[.pointer (some ⟨b,0,none⟩),v] 123 (0,0)):=by
  rw[hgrow.block b hlt (fun e=>HNE.out e.symm)]
  exact HBK.out
 have d0:w2.cell? ⟨b,0,none⟩=some (.pointer (some ⟨b,0,none⟩)):=by rw[Lib.cell_of_heap hb2];rfl
 have d1:w2.cell? ⟨b,1,none⟩=some v:=by rw[Lib.cell_of_heap hb2];rfl
 have f1:w2.frozen? ⟨b,1,none⟩=false:=Lib.frozen_of_heap hb2 1
 obtain⟨ao,n',cap,rfl⟩:∃ao n' cap,v'=.slice ao n' cap:=by
  rcases hown'.2 with⟨hv,_⟩|⟨g,cap,cur,hv,_⟩
  ·exact⟨_,_,_,hv⟩
  ·exact⟨_,_,_,hv⟩
 have hbc:Lib.byteCells (l++s.data.toList)=Lib.byteCells l++Lib.strCells s:=by rw[Lib.byteCells_append];rfl
 have F1:Hid (Pg B b (l++s.data.toList) (w2.setCell ⟨b,1,none⟩ (.slice ao n' cap))):=by
  refine .inr (Lib.BuilderAt.put (T:=123) (e:=5) hB hb2 (bs':=Lib.byteCells (l++s.data.toList)) ?_ (by decide))
  rw[Lib.byteCells_length,hbc,List.length_append]
  have e:s.data.toList.length=s.size:=by rw[Array.length_toList];rfl
  rw[e]
  exact hown'
 have F2:Hid (Below B w (w2.setCell ⟨b,1,none⟩ (.slice ao n' cap))):=
  (HB1.out.grown hgrow (by omega) (fun k hk=>(HO1.out.lt k hk).1)).setCell (p:=⟨b,1,none⟩) hB _
 have F3:Hid (Oth b w (w2.setCell ⟨b,1,none⟩ (.slice ao n' cap))):=(HH1.out.trans (Oth.grown HO1.out hgrow)).trans (Oth.set _ _)
 clear hbc hown' hgrow hnil hb2 HBK
 go_wp2_with fail
 go_ret2
 exact⟨rfl,F1.out,F2.out,F3.out⟩
end Go.Proofs.YtikehilbmldadaaGreatDoor
