import Derived.Test.YtikehilbmldadaaGreatDoorV04
import Derived.Lib.BufferWrite
set_option maxHeartbeats 4000000
set_option maxRecDepth 100000
set_option linter.unusedVariables false
open Go.Proofs.Tryz Go.Proofs.YtikehilbmldadaaGreatDoor.Tryz
namespace Go.Proofs.YtikehilbmldadaaGreatDoor
section
open Go.RowKit
section
variable {B:Nat} {sa:Nat->Addr} {w0 w w':World} {c rb:Nat} {ao:Option Addr} {cap:Nat} {m m':CM}
end
end
section
open Go.RowKit
end
section
open Go.RowKit
end
section
open Go.RowKit
structure Fv (B:Nat) (sa:Nat->Addr) (w:World):Prop where
 gl:∀k,k<6->w.cell? ⟨sg k,0,none⟩=some (errv sa (k+1))
 nb:∀k,k<6->sg k<B
 top:B<=w.heap.size
theorem Dp.c{B:Nat}{sa:Nat->Addr}{w:World}(h:Dp B sa w):Fv B sa w:=⟨fun k hk=>h.gl k (by omega),fun k hk=>h.nb.1 k (by omega),h.top⟩
theorem Fv.keep{B:Nat}{sa:Nat->Addr}{S:Nat->Prop}{w w':World}(h:Fv B sa w)(k:Ae S w w')(hS:∀b,S b->B<=b):Fv B sa w':=by
 have ht:=h.top
 refine⟨fun i hi=>?_,h.nb,Nat.le_trans ht k.size⟩
 have hn:=h.nb i hi
 rw[k.cell (p:=⟨sg i,0,none⟩) (show sg i<w.heap.size by omega) (fun x=>by have:=hS _ x;simp only at this;omega)]
 exact h.gl i hi
theorem Fv.low{B C:Nat}{sa:Nat->Addr}{w w':World}(h:Fv B sa w)(b:Below C w w')(hC:B<=C):Fv B sa w':=h.keep (Ae.of_below b) (fun k hk=>Nat.le_trans hC hk)
theorem Fv.on{B:Nat}{sa:Nat->Addr}{w w':World}(h:Fv B sa w)(b:Below w.heap.size w w'):Fv B sa w':=h.low b h.top
theorem Fv.all{B:Nat}{sa:Nat->Addr}{w:World}(h:Fv B sa w):
  w.cell? ⟨1,0,none⟩=some (.iface 372 (.pointer (some (sa 0))))/\w.cell? ⟨0,0,none⟩=some (.iface 372 (.pointer (some (sa 1))))/\w.cell? ⟨2,0,none⟩=some (.iface 372 (.pointer (some (sa 2))))/\
  w.cell? ⟨3,0,none⟩=some (.iface 372 (.pointer (some (sa 3))))/\w.cell? ⟨4,0,none⟩=some (.iface 372 (.pointer (some (sa 4))))/\w.cell? ⟨5,0,none⟩=some (.iface 372 (.pointer (some (sa 5)))):=
 ⟨h.gl 0 (by decide),h.gl 1 (by decide),h.gl 2 (by decide),h.gl 3 (by decide),h.gl 4 (by decide),h.gl 5 (by decide)⟩
end
section
open Go.RowKit Go.Extern.Stop Go.Stop Go.Extern
theorem Tryz.valueOfP(f:Addr)(w:World):(ReflectliteValue.unpack (.iface 154 (.pointer (some f)))).run Tryz.prog w
  =.ok (.agg #[.pointer (some ⟨25,154,none⟩),.pointer (some ⟨w.heap.size,0,none⟩),.int .u64 150]) (w.alloc (.cells #[.pointer (some f)] 154)):=by kernel_rfl
theorem Tryz.typeOfP(v:Value)(w:World):(ReflectliteType.typeOf #[.iface 154 v]).run Tryz.prog w=.ok (.iface 283 (.agg #[.pointer (some ⟨25,154,none⟩)])) w:=by kernel_rfl
theorem Tryz.assignableP(w:World):(ReflectliteType.relation "AssignableTo" ReflectliteType.assignableTo #[.agg #[.pointer (some ⟨25,154,none⟩)],.iface 283 (.agg #[.pointer (some ⟨25,154,none⟩)])]).run Tryz.prog w=.ok (.bool true) w:=by kernel_rfl
def elF:Array Value->Sem Value:=ReflectliteValue.method (ReflectliteValue.valueError "reflectlite.Value.Elem" 0) ReflectliteValue.elem
def Agw:Array Value->Sem Value:=ReflectliteValue.set
theorem Tryz.partsPP2(a:Addr)(w:World):(ReflectliteValue.parts (.agg #[.pointer (some ⟨25,154,none⟩),.pointer (some a),.int .u64 150])).run Tryz.prog w=.ok (some (154,a,150)) w:=by kernel_rfl
theorem Tryz.partsPP3(a:Addr)(w:World):(ReflectliteValue.parts (.agg #[.pointer (some ⟨25,154,none⟩),.pointer (some a),.int .u64 406])).run Tryz.prog w=.ok (some (154,a,406)) w:=by kernel_rfl
theorem Tryz.elemQ(w:World):(Rtype.elem? 170).run Tryz.prog w=.ok (some 154) w:=by kernel_rfl
theorem Tryz.mkQ(p:Addr)(w:World):(ReflectliteValue.mk 154 p ReflectliteValue.flagAddr).run Tryz.prog w=.ok (.agg #[.pointer (some ⟨25,154,none⟩),.pointer (some p),.int .u64 406]) w:=by kernel_rfl
theorem Tryz.elemV(a p:Addr)(W:World)(ha:W.cell? a=some (.pointer (some p))):
  (elF #[.agg #[.pointer (some ⟨25,170,none⟩),.pointer (some a),.int .u64 150]]).run Tryz.prog W=.ok (.agg #[.pointer (some ⟨25,154,none⟩),.pointer (some p),.int .u64 406]) W:=by
 unfold elF
 rw[rlm]
 simp only[Sem.run_bind,partsPP,Result.andThen]
 have h2:(loadVar 170 a).run Tryz.prog W=.ok (.pointer (some p)) W:=by simp[loadVar,isAgg,underlying,underlying170,ha,Result.andThen]
 simp[ReflectliteValue.elem,h2,elemQ,mkQ,Result.andThen]
theorem Tryz.dirQ(w:World):(Rtype.directlyAssignable 154 154).run Tryz.prog w=.ok true w:=by kernel_rfl
theorem Tryz.setV(p b f:Addr)(W:World)(v:Value)(hb:W.cell? b=some (.pointer (some f)))(hp:W.cell? p=some v)(hf:W.frozen? p=false):
  (Agw #[.agg #[.pointer (some ⟨25,154,none⟩),.pointer (some p),.int .u64 406],.agg #[.pointer (some ⟨25,154,none⟩),.pointer (some b),.int .u64 150]]).run Tryz.prog W=.ok (.tuple #[]) (W.setCell p (.pointer (some f))):=by
 have h2:(loadVar 154 b).run Tryz.prog W=.ok (.pointer (some f)) W:=by simp[loadVar,isAgg,underlying,underlying154,hb,Result.andThen]
 have h3:(storeVar 154 p (.pointer (some f))).run Tryz.prog W=.ok () (W.setCell p (.pointer (some f))):=by
  have hs:(Tryz.prog.info? 154).map (·.size)=some 1:=by kernel_rfl
  obtain⟨q,hq,hqs⟩:=Option.map_eq_some_iff.1 hs
  have hz:p.add 0=p:=by unfold Addr.add;split<;>simp_all
  simp[storeVar,sizeOf,typeInfo,hq,hqs,Value.cells,storeCells,Result.andThen,hz,run_store_pointer,stored,hp,hf]
 unfold Agw
 change Sem.run _ (ReflectliteValue.parts (.agg #[.pointer (some ⟨25,154,none⟩),.pointer (some p),.int .u64 406]) >>= _) _=_
 rw[Sem.run_bind,partsPP3]
 simp only[Result.andThen]
 change Sem.run _ (ReflectliteValue.parts (.agg #[.pointer (some ⟨25,154,none⟩),.pointer (some b),.int .u64 150]) >>= _) _=_
 rw[Sem.run_bind,partsPP2]
 simp[h2,h3,dirQ,Result.andThen,ReflectliteValue.flagAddr]
def vO(w:World):Obj:=.cells #[.pointer (some ⟨25,170,none⟩),.pointer (some ⟨w.heap.size,0,none⟩),.int .u64 150] 228
def asW(w:World)(t f:Addr):World:=(((w.alloc (.cells #[.pointer (some t)] 170)).alloc (vO w)).alloc (vO w))
theorem Ahg(f:Addr)(tb:Nat)(w:World)(hg:w.cell? ⟨11,0,none⟩=some (.iface 283 (.agg #[.pointer (some ⟨25,25,none⟩)])))(ht:w.heap[tb]? =some (.cells #[.pointer none] 154)):
  Calls Tryz.prog 78 #[.iface 154 (.pointer (some f)),.iface 170 (.pointer (some ⟨tb,0,none⟩))] w fun ev w'=>ev=.returned (.bool true)/\w'.heap[tb]? =some (.cells #[.pointer (some f)] 154)/\Ae (· =tb) w w':=by
 have h6:= @run_callFunc_extern Tryz.prog 144 _ (fun args=>ReflectliteValue.unpack (args.getD 0 (.tuple #[]))) func144 (by kernel_rfl) (by kernel_rfl) (by kernel_rfl) (by kernel_rfl)
 have h7:= @run_callFunc_extern Tryz.prog 145 _ (ReflectliteValue.methodAny (ReflectliteValue.valueError "reflectlite.Value.Type" 0) (fun t _ _ _=>ReflectliteType.toType t)) func145 (by kernel_rfl) (by kernel_rfl) (by kernel_rfl) (by kernel_rfl)
 have h8:= @run_callFunc_extern Tryz.prog 146 _ (ReflectliteValue.method (ReflectliteValue.valueError "reflectlite.Value.IsNil" 0) ReflectliteValue.isNil) func146 (by kernel_rfl) (by kernel_rfl) (by kernel_rfl) (by kernel_rfl)
 have h9:= @run_callFunc_extern Tryz.prog 195 _ elF func195 (by kernel_rfl) (by kernel_rfl) (by kernel_rfl) (by kernel_rfl)
 have h11:= @run_callFunc_extern Tryz.prog 196 _ Agw func196 (by kernel_rfl) (by kernel_rfl) (by kernel_rfl) (by kernel_rfl)
 have h27:= @run_callFunc_extern Tryz.prog 312 _ (ReflectliteType.abiMethod fun t=>do pure (.int .u8 (<-Rtype.kind t))) func312 (by kernel_rfl) (by kernel_rfl) (by kernel_rfl) (by kernel_rfl)
 have h37:= @run_callFunc_extern Tryz.prog 327 _ (ReflectliteType.method ReflectliteType.elem) func327 (by kernel_rfl) (by kernel_rfl) (by kernel_rfl) (by kernel_rfl)
 have h38:= @run_callFunc_extern Tryz.prog 328 _ (ReflectliteType.relation "Implements" ReflectliteType.implements_) func328 (by kernel_rfl) (by kernel_rfl) (by kernel_rfl) (by kernel_rfl)
 have h10:= @run_callFunc_extern Tryz.prog 149 _ ReflectliteType.typeOf func149 (by kernel_rfl) (by kernel_rfl) (by kernel_rfl) (by kernel_rfl)
 have h35:= @run_callFunc_extern Tryz.prog 325 _ (ReflectliteType.relation "AssignableTo" ReflectliteType.assignableTo) func325 (by kernel_rfl) (by kernel_rfl) (by kernel_rfl) (by kernel_rfl)
 have tO:=typeOfP
 have mA:=methodAssignableTo
 have aE:=assignableP
 have f6:=valueOfPP
 have f6b:=valueOfP
 have f7:=typePP
 have mK:=methodKind
 have mE:=methodElem
 have mI:=methodImplements
 have kPP:=kindPP
 have kP:=kindP
 have ePP:=elemPP
 have iP:=implementsP
 have hlt:11<w.heap.size:=World.block_lt_of_cell? _ ⟨11,0,none⟩ hg
 have htb:tb<w.heap.size:=Aa ht
 have n8:=isNilPP ⟨w.heap.size,0,none⟩ ⟨tb,0,none⟩ ((w.alloc (.cells #[.pointer (some ⟨tb,0,none⟩)] 170)).alloc (vO w)) (by simp)
 have hg2:((w.alloc (.cells #[.pointer (some ⟨tb,0,none⟩)] 170)).alloc (vO w)).cell? ⟨11,0,none⟩=some (.iface 283 (.agg #[.pointer (some ⟨25,25,none⟩)])):=by
  rw[World.cell?_alloc_lt _ _ ⟨11,0,none⟩ (by simp;omega),World.cell?_alloc_lt _ _ ⟨11,0,none⟩ hlt];exact hg
 have e8:=elemV ⟨w.heap.size,0,none⟩ ⟨tb,0,none⟩ (asW w ⟨tb,0,none⟩ f) (by
  unfold asW
  rw[World.cell?_alloc_lt _ _ ⟨w.heap.size,0,none⟩ (by simp;omega),World.cell?_alloc_lt _ _ ⟨w.heap.size,0,none⟩ (by simp)]
  simp)
 have hb4:Below w.heap.size w ((asW w ⟨tb,0,none⟩ f).alloc (.cells #[.pointer (some f)] 154)):=((((Below.refl _ _).alloc (Nat.le_refl _) _).alloc (by simp) _).alloc (by simp;omega) _).alloc (by simp;omega) _
 have hnw:=Ab (asW w ⟨tb,0,none⟩ f) (.cells #[.pointer (some f)] 154)
 rw[show(asW w ⟨tb,0,none⟩ f).heap.size=w.heap.size+3 from by simp[asW]]at hnw
 have h4b:=Af hb4 ht htb
 have s8:=setV ⟨tb,0,none⟩ ⟨w.heap.size+3,0,none⟩ f ((asW w ⟨tb,0,none⟩ f).alloc (.cells #[.pointer (some f)] 154)) (.pointer none) (by simp[World.cell?,hnw]) (by simp[World.cell?,h4b]) (by simp[World.frozen?,h4b])
 have HK:Hid (Ae (· =tb) w (((asW w ⟨tb,0,none⟩ f).alloc (.cells #[.pointer (some f)] 154)).setCell ⟨tb,0,none⟩ (.pointer (some f)))):=(show Ae (· =tb) w _ from Ae.setCell (S:=(· =tb)) (p:=⟨tb,0,none⟩) ((Ae.of_below hb4).mono (fun k hk h=>by omega)) (fun _=>rfl) _)
 have HT:Hid ((((asW w ⟨tb,0,none⟩ f).alloc (.cells #[.pointer (some f)] 154)).setCell ⟨tb,0,none⟩ (.pointer (some f))).heap[tb]? =some (.cells #[.pointer (some f)] 154)):=(show _=_ from by rw[Am _ h4b];rfl)
 unfold asW vO at *
 clear ht hb4 h4b hnw
 go_enter func78,ntmps78
 go_wp2
 refine wp_loop_rounds 1 ?_
 rw[rounds_succ]
 go_wp2
 go_ret
 exact⟨rfl,HT.out,HK.out⟩
end
section
open Go.RowKit Go.Extern.Stop Go.Stop Go.Extern
theorem Tryz.noIsF(v:Value)(xT:TypeId)(w:World):(Instr.typeAssert (.iface 154 v) xT 293 true).run Tryz.prog w=.ok (.tuple #[.nilIface,.bool false]) w:=run_typeAssert_lacksB underlying293 (by kernel_rfl) (by kernel_rfl) v xT w
theorem Tryz.hasUnwrapF(v:Value)(xT:TypeId)(w:World):(Instr.typeAssert (.iface 154 v) xT 290 true).run Tryz.prog w=.ok (.tuple #[.iface 154 v,.bool true]) w:=run_typeAssert_hasB underlying290 (by kernel_rfl) v xT w
theorem Tryz.methodUnwrapF(v:Value)(w:World):(Go.method 514 154 v "Unwrap").run Tryz.prog w=.ok (318,v) w:=by kernel_rfl
theorem Ad9(fb:Nat)(a:Addr)(w:World)(hf:w.cell? ⟨fb,1,none⟩=some (.iface 372 (.pointer (some a)))):
  Calls Tryz.prog 82 #[.iface 154 (.pointer (some ⟨fb,0,none⟩)),.iface 372 (.pointer (some a))] w fun e w'=>e=.returned (.bool true)/\w=w':=by
 obtain⟨i,hi,hcmp⟩:=Option.map_eq_some_iff.1 compE
 obtain⟨j,hj,hjs⟩:=Option.map_eq_some_iff.1 sizeE
 have h8:= @run_callFunc_extern Tryz.prog 149 _ Extern.ReflectliteType.typeOf func149 (by kernel_rfl) (by kernel_rfl) (by kernel_rfl) (by kernel_rfl)
 have h32:= @run_callFunc_extern Tryz.prog 326 _ Aex func326 (by kernel_rfl) (by kernel_rfl) (by kernel_rfl) (by kernel_rfl)
 have tT:=typeOfE
 have cT:=comparableE
 have mR:=methodComparable
 have nF:=noIsF
 have uF:=hasUnwrapF
 have mU:=methodUnwrapF
 have heq:=run_eql_iface_ptr_same (P:=Tryz.prog) w a underlying25 underlying372 hi hcmp hj
 have hne:=run_eql_iface_types (P:=Tryz.prog) 154 372 (.pointer (some ⟨fb,0,none⟩)) (.pointer (some a)) underlying25 (by decide) w
 go_enter func82,ntmps82
 go_wp2
 refine wp_loop_rounds 2 ?_
 rw[rounds_succ]
 go_wp2
 rw[rounds_succ]
 go_wp2
 go_ret
 exact⟨rfl,rfl⟩
theorem Aa4(fb:Nat)(a b:Addr)(ca cb:Array Value)(ta tb:TypeId)(w:World)(hf:w.cell? ⟨fb,1,none⟩=some (.iface 372 (.pointer (some a))))(hab:a≠b)(ha:w.heap[a.block]? =some (.cells ca ta (0,0)))(hb:w.heap[b.block]? =some (.cells cb tb (0,0))):
  Calls Tryz.prog 82 #[.iface 154 (.pointer (some ⟨fb,0,none⟩)),.iface 372 (.pointer (some b))] w fun e w'=>e=.returned (.bool false)/\w=w':=by
 obtain⟨i,hi,hcmp⟩:=Option.map_eq_some_iff.1 compE
 obtain⟨j,hj,hjs⟩:=Option.map_eq_some_iff.1 sizeE
 have h8:= @run_callFunc_extern Tryz.prog 149 _ Extern.ReflectliteType.typeOf func149 (by kernel_rfl) (by kernel_rfl) (by kernel_rfl) (by kernel_rfl)
 have h32:= @run_callFunc_extern Tryz.prog 326 _ Aex func326 (by kernel_rfl) (by kernel_rfl) (by kernel_rfl) (by kernel_rfl)
 have tT:=typeOfE
 have cT:=comparableE
 have mR:=methodComparable
 have nF:=noIsF
 have uF:=hasUnwrapF
 have mU:=methodUnwrapF
 have nE:=noIsE
 have uE:=noUnwrapE
 have vE:=noUnwrapsE
 have heq:=run_eql_iface_ptr_other (P:=Tryz.prog) w underlying25 underlying372 hi hcmp hj (by rw[hjs];decide) hab ha hb
 have hne:=run_eql_iface_types (P:=Tryz.prog) 154 372 (.pointer (some ⟨fb,0,none⟩)) (.pointer (some b)) underlying25 (by decide) w
 clear ha hb
 go_enter func82,ntmps82
 go_wp2
 refine wp_loop_rounds 2 ?_
 rw[rounds_succ]
 go_wp2
 rw[rounds_succ]
 go_wp2
 go_ret
 exact⟨rfl,rfl⟩
def Lm(w:World)(fb:Nat)(at_:Int)(v:Value):Prop:=w.heap[fb]? =some (.cells #[.int .i64 at_,v] 156)
theorem wY(B:Nat)(sa:Nat->Addr)(k:Nat)(hk:k<11)(fb:Nat)(at_:Int)(w:World)(hS:Dp B sa w)(hF:Lm w fb at_ (errv sa (k+1))):
  Calls Tryz.prog 43 #[.iface 154 (.pointer (some ⟨fb,0,none⟩))] w fun e w'=>e=.returned (.tuple #[.int .i64 (k+1),.int .i64 at_])/\Below w.heap.size w w':=by
 have HS:=Aia hS
 have et:=hS.et
 have hnb:=hS.nb
 have htop:=hS.top
 have hfb:=Aa hF
 have HF:=Aia hF
 clear hS hF
 go_enter func43,ntmps43
 go_wp2_with fail
 have b0:Below w.heap.size w (w.alloc (.cells #[.pointer none] 154)):=(Below.refl _ _).alloc (Nat.le_refl _) _
 have hS0:=HS.out.below b0
 refine(Ahg ⟨fb,0,none⟩ w.heap.size _ hS0.et (Ab _ _)).mono ?_
 rintro e w1 ⟨rfl,h1,k1⟩
 have b1':Below w.heap.size w w1:=b0.trans (k1.below b0.size (fun b (hb:b=w.heap.size)=>by omega))
 have hS1:=HS.out.below b1'
 have hF1:=Af b1' HF.out hfb
 have x0:w1.cell? ⟨w.heap.size,0,none⟩=some (.pointer (some ⟨fb,0,none⟩)):=by simp[World.cell?,h1]
 have y0:w1.cell? ⟨fb,0,none⟩=some (.int .i64 at_):=by simp[World.cell?,hF1]
 have H1:=Aia hS1
 have B1:=Aia b1'
 have HF1:=Aia hF1
 obtain⟨g0,g1,g2,g3,g4,g5,g6,g7,g8,g9,g10⟩:=hS1.all
 clear b0 hS0 h1 k1 b1' hS1 et hF1 HF
 go_wp2_with fail
 have b2:Below w.heap.size w (w1.alloc (.cells (Kt sa) 25)):=B1.out.alloc B1.out.size _
 have hS2:=H1.out.below ((Below.refl _ w1).alloc (Nat.le_refl _) (.cells (Kt sa) 25))
 have hc:=Uk (Ab w1 (.cells (Kt sa) 25))
 have hF2:=Cm (.cells (Kt sa) 25) HF1.out
 unfold Kt at b2 hS2 hc hF2
 generalize w1.alloc _=w2 at b2 hS2 hc hF2 ⊢
 have H2:=Aia hS2
 have HC:=Aia hc
 have z1:w2.cell? ⟨fb,1,none⟩=some (.iface 372 (.pointer (some (sa k)))):=by simp[World.cell?,hF2,errv]
 clear hS2 hc hF2 g0 g1 g2 g3 g4 g5 g6 g7 g8 g9 g10 H1 B1 x0 y0 HF1
 have Z1:=Aia z1
 clear z1
 go_loop [3,29] (fun s3 s=>∃j:Nat,j<=k/\s=.int .i64 j/\s3=.int .i64 at_) (fun _ s=>11-(intOf s).toNat)
 case atStart=>exact⟨0,Nat.zero_le _,rfl,rfl⟩
 case round=>
  obtain⟨j,hj,rfl,rfl⟩:=hrel
  have q:=HC.out j (by omega)
  by_cases hjk:j=k
  ·subst hjk
   go_wp2_with fail
   refine(Ad9 fb (sa j) _ Z1.out).mono ?_
   rintro e w' ⟨rfl,rfl⟩
   go_wp2_with fail
   go_ret2
   exact⟨rfl,b2⟩
  ·have hlt:j<k:=by omega
   obtain⟨_,ca,ta,ha⟩:=H2.out.bl k hk
   obtain⟨_,cb,tb,hb⟩:=H2.out.bl j (by omega)
   have hne:=H2.out.nd k j hk (by omega) (by omega)
   have HA:=Aia ha
   have HB:=Aia hb
   have HN:=Aia hne
   clear ha hb hne
   go_wp2_with fail
   refine(Aa4 fb (sa k) (sa j) ca cb ta tb _ Z1.out HN.out HA.out HB.out).mono ?_
   rintro e w' ⟨rfl,rfl⟩
   go_wp2_with fail
   go_round
   case rel=>exact⟨j+1,by omega,by go_num,rfl⟩
   case measure=>simp[intOf];omega
end
section
open Go.RowKit
structure Eb (B:Nat) (sa:Nat->Addr) (w:World):Prop where
 gl:∀k,k<11->w.cell? ⟨sg k,0,none⟩=some (errv sa (k+1))
 nb:∀k,k<11->sg k<B
 top:B<=w.heap.size
theorem Dp.k{B:Nat}{sa:Nat->Addr}{w:World}(h:Dp B sa w):Eb B sa w:=⟨h.gl,h.nb.1,h.top⟩
instance {B:Nat} {sa:Nat->Addr} {w:World}:Coe (Dp B sa w) (Eb B sa w):=⟨Dp.k⟩
theorem Eb.keep{B:Nat}{sa:Nat->Addr}{S:Nat->Prop}{w w':World}(h:Eb B sa w)(k:Ae S w w')(hS:∀b,S b->B<=b):Eb B sa w':=by
 have ht:=h.top
 refine⟨fun i hi=>?_,h.nb,Nat.le_trans ht k.size⟩
 have:=h.nb i hi
 rw[k.cell (p:=⟨sg i,0,none⟩) (show sg i<w.heap.size by omega) (fun hb=>by have:=hS _ hb;simp only at this;omega)]
 exact h.gl i hi
theorem Eb.below{B:Nat}{sa:Nat->Addr}{w w':World}(h:Eb B sa w)(b:Below w.heap.size w w'):Eb B sa w':=h.keep (Ak b) (fun _ h=>h.elim)
theorem Eb.all{B:Nat}{sa:Nat->Addr}{w:World}(h:Eb B sa w):
  w.cell? ⟨1,0,none⟩=some (.iface 372 (.pointer (some (sa 0))))/\w.cell? ⟨0,0,none⟩=some (.iface 372 (.pointer (some (sa 1))))/\w.cell? ⟨2,0,none⟩=some (.iface 372 (.pointer (some (sa 2))))/\
  w.cell? ⟨3,0,none⟩=some (.iface 372 (.pointer (some (sa 3))))/\w.cell? ⟨4,0,none⟩=some (.iface 372 (.pointer (some (sa 4))))/\w.cell? ⟨5,0,none⟩=some (.iface 372 (.pointer (some (sa 5))))/\
  w.cell? ⟨6,0,none⟩=some (.iface 372 (.pointer (some (sa 6))))/\w.cell? ⟨7,0,none⟩=some (.iface 372 (.pointer (some (sa 7))))/\w.cell? ⟨8,0,none⟩=some (.iface 372 (.pointer (some (sa 8))))/\
  w.cell? ⟨9,0,none⟩=some (.iface 372 (.pointer (some (sa 9))))/\w.cell? ⟨10,0,none⟩=some (.iface 372 (.pointer (some (sa 10)))):=
 ⟨h.gl 0 (by decide),h.gl 1 (by decide),h.gl 2 (by decide),h.gl 3 (by decide),h.gl 4 (by decide),h.gl 5 (by decide),h.gl 6 (by decide),h.gl 7 (by decide),h.gl 8 (by decide),h.gl 9 (by decide),h.gl 10 (by decide)⟩
theorem Eb.r{B:Nat}{sa:Nat->Addr}{w:World}(h:Eb B sa w):Ey B sa w:=
 ⟨h.gl 1 (by decide),h.gl 2 (by decide),h.gl 6 (by decide),h.gl 7 (by decide),⟨h.nb 1 (by decide),h.nb 2 (by decide),h.nb 6 (by decide),h.nb 7 (by decide)⟩,h.top⟩
theorem Eb.c{B:Nat}{sa:Nat->Addr}{w:World}(h:Eb B sa w):Fv B sa w:=⟨fun k hk=>h.gl k (by omega),fun k hk=>h.nb k (by omega),h.top⟩
instance {B:Nat} {sa:Nat->Addr} {w:World}:Coe (Eb B sa w) (Ey B sa w):=⟨Eb.r⟩
end
section
open Go.RowKit
def Sv(closed cycle:Nat):Nat->Nat × Nat
 |0=>(0,0)
 |n+1=>if (n+1)%cycle=0/\closed<n+1-(Sv closed cycle n).1 then (n+1,(Sv closed cycle n).2+1) else Sv closed cycle n
def Zo(closed cycle:Nat):Nat->Nat × Nat
 |0=>(0,0)
 |m+1=>if closed<(m+1)*cycle-(Zo closed cycle m).1 then ((m+1)*cycle,(Zo closed cycle m).2+1) else Zo closed cycle m
theorem Aeo{n c:Nat}(hc:0<c):((n+1)%c=0/\(n+1)/c=n/c+1/\(n/c+1)*c=n+1)\/((n+1)%c≠0/\(n+1)/c=n/c):=by
 have h:=Nat.div_add_mod n c
 have hr:=Nat.mod_lt n hc
 by_cases he:n%c+1=c
 ·left
  have e:n+1=c*(n/c+1):=by rw[Nat.mul_succ];omega
  refine⟨by rw[e,Nat.mul_mod_right],?_,by rw[Nat.mul_comm];exact e.symm⟩
  rw[e,Nat.mul_div_cancel_left _ hc]
 ·right
  have e:n+1=c*(n/c)+(n%c+1):=by omega
  have hl:n%c+1<c:=by omega
  refine⟨?_,?_⟩
  ·rw[e,Nat.mul_add_mod,Nat.mod_eq_of_lt hl];omega
  ·rw[e,Nat.mul_add_div hc,Nat.div_eq_of_lt hl,Nat.add_zero]
theorem qS{closed cycle:Nat}(hc:0<cycle):∀n,Sv closed cycle n=Zo closed cycle (n/cycle)
 |0=>by rw[Nat.zero_div];rfl
 |n+1=>by
  have ih:=qS (closed:=closed) hc n
  rcases Aeo (n:=n) hc with⟨h0,h1,h2⟩|⟨h0,h1⟩
  ·rw[h1,Sv,Zo,h2,ih]
   simp only[h0,true_and]
  ·rw[h1,Sv,if_neg (fun h=>h0 h.1),ih]
theorem xQ{closed cycle:Nat}:∀m,(Zo closed cycle m).1<=m*cycle/\m*cycle-(Zo closed cycle m).1<=closed
 |0=>by simp[Zo]
 |m+1=>by
  have ih:=xQ (closed:=closed) (cycle:=cycle) m
  rw[Zo]
  split
  ·simp
  ·next h=>
   rw[Nat.succ_mul]at h ⊢
   omega
theorem Abv{closed cycle opn:Nat}(hc:0<cycle)(ho:cycle<=opn)(n:Nat):(Sv closed cycle n).1<=n/\n+1-(Sv closed cycle n).1<=closed+opn:=by
 rw[qS hc]
 have h:=xQ (closed:=closed) (cycle:=cycle) (n/cycle)
 have h1:=Nat.div_add_mod n cycle
 have h2:=Nat.mod_lt n hc
 rw[Nat.mul_comm]at h1
 omega
end
end Go.Proofs.YtikehilbmldadaaGreatDoor
