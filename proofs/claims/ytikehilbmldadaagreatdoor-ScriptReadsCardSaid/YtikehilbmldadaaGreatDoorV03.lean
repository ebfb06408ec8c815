import Derived.Test.YtikehilbmldadaaGreatDoorV02
import Derived.LaidEql
import Derived.Stop.Asserts
import Derived.RowKitTokens
set_option maxHeartbeats 4000000
set_option linter.unusedVariables false
open Go.Proofs.Tryz Go.Proofs.YtikehilbmldadaaGreatDoor.Tryz
namespace Go.Proofs.YtikehilbmldadaaGreatDoor
open Go.RowKit Go.Extern.Stop Go.Stop Go.Extern
theorem Tryz.valueOfPP(t:Addr)(w:World):(ReflectliteValue.unpack (.iface 170 (.pointer (some t)))).run Tryz.prog w
  =.ok (.agg #[.pointer (some ⟨25,170,none⟩),.pointer (some ⟨w.heap.size,0,none⟩),.int .u64 150]) (w.alloc (.cells #[.pointer (some t)] 170)):=by kernel_rfl
theorem Tryz.typePP(a:Addr)(w:World):(ReflectliteValue.methodAny (ReflectliteValue.valueError "reflectlite.Value.Type" 0) (fun t _ _ _=>ReflectliteType.toType t) #[.agg #[.pointer (some ⟨25,170,none⟩),.pointer (some a),.int .u64 150]]).run Tryz.prog w
  =.ok (.iface 283 (.agg #[.pointer (some ⟨25,170,none⟩)])) w:=by kernel_rfl
theorem Tryz.methodKind(h:Value)(w:World):(Go.method 514 283 (.agg #[h]) "Kind").run Tryz.prog w=.ok (312,h) w:=by kernel_rfl
theorem Tryz.kindPP(w:World):((ReflectliteType.abiMethod fun t=>(fun a:Nat=>Value.int IntKind.u8 (a:Int))<$>Rtype.kind t) #[.pointer (some ⟨25,170,none⟩)]).run Tryz.prog w=.ok (.int .u8 22) w:=by kernel_rfl
theorem Tryz.kindP(w:World):((ReflectliteType.abiMethod fun t=>(fun a:Nat=>Value.int IntKind.u8 (a:Int))<$>Rtype.kind t) #[.pointer (some ⟨25,154,none⟩)]).run Tryz.prog w=.ok (.int .u8 22) w:=by kernel_rfl
theorem rlm(z:Sem Value)(f:TypeId->Addr->Nat->Nat->Sem Value)(v:Value):
  ReflectliteValue.method z f #[v]=(do match <-ReflectliteValue.parts v with|none=>z|some (t,a,fl)=>f t a fl (fl%32)):=rfl
theorem Tryz.partsPP(a:Addr)(w:World):(ReflectliteValue.parts (.agg #[.pointer (some ⟨25,170,none⟩),.pointer (some a),.int .u64 150])).run Tryz.prog w=.ok (some (170,a,150)) w:=by kernel_rfl
theorem Tryz.isNilPP(a p:Addr)(W:World)(ha:W.cell? a=some (.pointer (some p))):
  (ReflectliteValue.method (ReflectliteValue.valueError "reflectlite.Value.IsNil" 0) ReflectliteValue.isNil #[.agg #[.pointer (some ⟨25,170,none⟩),.pointer (some a),.int .u64 150]]).run Tryz.prog W=.ok (.bool false) W:=by
 rw[rlm]
 simp only[Sem.run_bind,partsPP,Result.andThen]
 simp[ReflectliteValue.isNil,loadVar,isAgg,underlying,underlying170,ha,Result.andThen]
theorem Tryz.methodElem(h:Value)(w:World):(Go.method 514 283 (.agg #[h]) "Elem").run Tryz.prog w=.ok (327,.agg #[h]) w:=by kernel_rfl
theorem Tryz.methodImplements(h:Value)(w:World):(Go.method 514 283 (.agg #[h]) "Implements").run Tryz.prog w=.ok (328,.agg #[h]) w:=by kernel_rfl
theorem Tryz.methodAssignableTo(h:Value)(w:World):(Go.method 514 283 (.agg #[h]) "AssignableTo").run Tryz.prog w=.ok (325,.agg #[h]) w:=by kernel_rfl
theorem Tryz.elemPP(w:World):(ReflectliteType.method ReflectliteType.elem #[.agg #[.pointer (some ⟨25,170,none⟩)]]).run Tryz.prog w=.ok (.iface 283 (.agg #[.pointer (some ⟨25,154,none⟩)])) w:=by kernel_rfl
theorem Tryz.implementsP(w:World):(ReflectliteType.relation "Implements" ReflectliteType.implements_ #[.agg #[.pointer (some ⟨25,154,none⟩)],.iface 283 (.agg #[.pointer (some ⟨25,25,none⟩)])]).run Tryz.prog w=.ok (.bool true) w:=by kernel_rfl
theorem Tryz.typeOfE(v:Value)(w:World):(ReflectliteType.typeOf #[.iface 372 v]).run Tryz.prog w=.ok (.iface 283 (.agg #[.pointer (some ⟨25,372,none⟩)])) w:=by kernel_rfl
theorem Tryz.assignableE(w:World):(ReflectliteType.relation "AssignableTo" ReflectliteType.assignableTo #[.agg #[.pointer (some ⟨25,372,none⟩)],.iface 283 (.agg #[.pointer (some ⟨25,154,none⟩)])]).run Tryz.prog w=.ok (.bool false) w:=by kernel_rfl
def Aex:Array Value->Sem Value:=ReflectliteType.method fun t=>do Rtype.noPackHeld "Comparable" t;pure (.bool (<-typeInfo t).comparable)
theorem Tryz.comparableE(w:World):(Aex #[.agg #[.pointer (some ⟨25,372,none⟩)]]).run Tryz.prog w=.ok (.bool true) w:=by kernel_rfl
theorem Tryz.methodComparable(v:Value)(w:World):(Go.method 514 283 v "Comparable").run Tryz.prog w=.ok (326,v) w:=by kernel_rfl
theorem Tryz.compE:(Tryz.prog.info? 372).map (·.comparable)=some true:=by kernel_rfl
theorem Tryz.sizeE:(Tryz.prog.info? 374).map (·.size)=some 1:=by kernel_rfl
theorem Tryz.noAsE(v:Value)(xT:TypeId)(w:World):(Instr.typeAssert (.iface 372 v) xT 287 true).run Tryz.prog w=.ok (.tuple #[.nilIface,.bool false]) w:=run_typeAssert_lacksB underlying287 (by kernel_rfl) (by kernel_rfl) v xT w
theorem Tryz.noIsE(v:Value)(xT:TypeId)(w:World):(Instr.typeAssert (.iface 372 v) xT 293 true).run Tryz.prog w=.ok (.tuple #[.nilIface,.bool false]) w:=run_typeAssert_lacksB underlying293 (by kernel_rfl) (by kernel_rfl) v xT w
theorem Tryz.noUnwrapE(v:Value)(xT:TypeId)(w:World):(Instr.typeAssert (.iface 372 v) xT 290 true).run Tryz.prog w=.ok (.tuple #[.nilIface,.bool false]) w:=run_typeAssert_lacksB underlying290 (by kernel_rfl) (by kernel_rfl) v xT w
theorem Tryz.noUnwrapsE(v:Value)(xT:TypeId)(w:World):(Instr.typeAssert (.iface 372 v) xT 291 true).run Tryz.prog w=.ok (.tuple #[.nilIface,.bool false]) w:=run_typeAssert_lacksB underlying291 (by kernel_rfl) (by kernel_rfl) v xT w
theorem Af7(a:Addr)(w:World):
  Calls Tryz.prog 82 #[.iface 372 (.pointer (some a)),.iface 372 (.pointer (some a))] w fun e w'=>e=.returned (.bool true)/\w=w':=by
 obtain⟨i,hi,hcmp⟩:=Option.map_eq_some_iff.1 compE
 obtain⟨j,hj,hjs⟩:=Option.map_eq_some_iff.1 sizeE
 have h8:= @run_callFunc_extern Tryz.prog 149 _ Extern.ReflectliteType.typeOf func149 (by kernel_rfl) (by kernel_rfl) (by kernel_rfl) (by kernel_rfl)
 have h32:= @run_callFunc_extern Tryz.prog 326 _ Aex func326 (by kernel_rfl) (by kernel_rfl) (by kernel_rfl) (by kernel_rfl)
 have tT:=typeOfE
 have cT:=comparableE
 have mR:=methodComparable
 have heq:=run_eql_iface_ptr_same (P:=Tryz.prog) w a underlying25 underlying372 hi hcmp hj
 go_enter func82,ntmps82
 go_wp2
 refine wp_loop_rounds 1 ?_
 rw[rounds_succ]
 go_wp2
 go_ret
 exact⟨rfl,rfl⟩
theorem Ad8(a b:Addr)(ca cb:Array Value)(ta tb:TypeId)(w:World)(hne:a≠b)(ha:w.heap[a.block]? =some (.cells ca ta (0,0)))(hb:w.heap[b.block]? =some (.cells cb tb (0,0))):
  Calls Tryz.prog 82 #[.iface 372 (.pointer (some a)),.iface 372 (.pointer (some b))] w fun e w'=>e=.returned (.bool false)/\w=w':=by
 obtain⟨i,hi,hcmp⟩:=Option.map_eq_some_iff.1 compE
 obtain⟨j,hj,hjs⟩:=Option.map_eq_some_iff.1 sizeE
 have h8:= @run_callFunc_extern Tryz.prog 149 _ Extern.ReflectliteType.typeOf func149 (by kernel_rfl) (by kernel_rfl) (by kernel_rfl) (by kernel_rfl)
 have h32:= @run_callFunc_extern Tryz.prog 326 _ Aex func326 (by kernel_rfl) (by kernel_rfl) (by kernel_rfl) (by kernel_rfl)
 have tT:=typeOfE
 have cT:=comparableE
 have mR:=methodComparable
 have nE:=noIsE
 have uE:=noUnwrapE
 have vE:=noUnwrapsE
 have heq:=run_eql_iface_ptr_other (P:=Tryz.prog) w underlying25 underlying372 hi hcmp hj (by rw[hjs];decide) hne ha hb
 clear ha hb
 go_enter func82,ntmps82
 go_wp2
 refine wp_loop_rounds 1 ?_
 rw[rounds_succ]
 go_wp2
 go_ret
 exact⟨rfl,rfl⟩
theorem xX(e t:Addr)(w:World)(hg:w.cell? ⟨11,0,none⟩=some (.iface 283 (.agg #[.pointer (some ⟨25,25,none⟩)]))):
  Calls Tryz.prog 78 #[.iface 372 (.pointer (some e)),.iface 170 (.pointer (some t))] w fun ev w'=>ev=.returned (.bool false)/\Below w.heap.size w w':=by
 have h6:= @run_callFunc_extern Tryz.prog 144 _ (fun args=>ReflectliteValue.unpack (args.getD 0 (.tuple #[]))) func144 (by kernel_rfl) (by kernel_rfl) (by kernel_rfl) (by kernel_rfl)
 have h7:= @run_callFunc_extern Tryz.prog 145 _ (ReflectliteValue.methodAny (ReflectliteValue.valueError "reflectlite.Value.Type" 0) (fun t _ _ _=>ReflectliteType.toType t)) func145 (by kernel_rfl) (by kernel_rfl) (by kernel_rfl) (by kernel_rfl)
 have h8:= @run_callFunc_extern Tryz.prog 146 _ (ReflectliteValue.method (ReflectliteValue.valueError "reflectlite.Value.IsNil" 0) ReflectliteValue.isNil) func146 (by kernel_rfl) (by kernel_rfl) (by kernel_rfl) (by kernel_rfl)
 have h27:= @run_callFunc_extern Tryz.prog 312 _ (ReflectliteType.abiMethod fun t=>do pure (.int .u8 (<-Rtype.kind t))) func312 (by kernel_rfl) (by kernel_rfl) (by kernel_rfl) (by kernel_rfl)
 have h37:= @run_callFunc_extern Tryz.prog 327 _ (ReflectliteType.method ReflectliteType.elem) func327 (by kernel_rfl) (by kernel_rfl) (by kernel_rfl) (by kernel_rfl)
 have h38:= @run_callFunc_extern Tryz.prog 328 _ (ReflectliteType.relation "Implements" ReflectliteType.implements_) func328 (by kernel_rfl) (by kernel_rfl) (by kernel_rfl) (by kernel_rfl)
 have h10:= @run_callFunc_extern Tryz.prog 149 _ ReflectliteType.typeOf func149 (by kernel_rfl) (by kernel_rfl) (by kernel_rfl) (by kernel_rfl)
 have h35:= @run_callFunc_extern Tryz.prog 325 _ (ReflectliteType.relation "AssignableTo" ReflectliteType.assignableTo) func325 (by kernel_rfl) (by kernel_rfl) (by kernel_rfl) (by kernel_rfl)
 have tO:=typeOfE
 have mA:=methodAssignableTo
 have aE:=assignableE
 have f6:=valueOfPP
 have f7:=typePP
 have mK:=methodKind
 have mE:=methodElem
 have mI:=methodImplements
 have kPP:=kindPP
 have kP:=kindP
 have ePP:=elemPP
 have iP:=implementsP
 have nA:=noAsE
 have nU:=noUnwrapE
 have nV:=noUnwrapsE
 have n8:=isNilPP ⟨w.heap.size,0,none⟩ t ((w.alloc (.cells #[.pointer (some t)] 170)).alloc (.cells #[.pointer (some ⟨25,170,none⟩),.pointer (some ⟨w.heap.size,0,none⟩),.int .u64 150] 228)) (by simp)
 have hlt:11<w.heap.size:=World.block_lt_of_cell? _ ⟨11,0,none⟩ hg
 have hg2:((w.alloc (.cells #[.pointer (some t)] 170)).alloc (.cells #[.pointer (some ⟨25,170,none⟩),.pointer (some ⟨w.heap.size,0,none⟩),.int .u64 150] 228)).cell? ⟨11,0,none⟩=some (.iface 283 (.agg #[.pointer (some ⟨25,25,none⟩)])):=by
  rw[World.cell?_alloc_lt _ _ ⟨11,0,none⟩ (by simp;omega),World.cell?_alloc_lt _ _ ⟨11,0,none⟩ hlt];exact hg
 go_enter func78,ntmps78
 go_wp2
 refine wp_loop_rounds 1 ?_
 rw[rounds_succ]
 go_wp2
 go_ret
 exact⟨rfl,(((Below.refl _ _).alloc (Nat.le_refl _) _).alloc (by simp) _).alloc (by simp;omega) _⟩
end Go.Proofs.YtikehilbmldadaaGreatDoor
