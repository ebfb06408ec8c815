/- errors.As, errors.Is at an *api.Fault; plain.Code of it. -/
import Derived.Test.YtpodijlhlgbbdaaDoorSents
namespace Go.Proofs.YtpodijlhlgbbdaaDoor
open Go.RowKit Go.Extern.Stop Go.Stop Go.Extern
set_option linter.unusedVariables false

theorem Tryd.valueOfP (f : Addr) (w : World) : (ReflectliteValue.unpack (.iface 66 (.pointer (some f)))).run Tryd.prog w
    = .ok (.agg #[.pointer (some ⟨12, 66, none⟩), .pointer (some ⟨w.heap.size, 0, none⟩), .int .u64 150]) (w.alloc (.cells #[.pointer (some f)] 66)) := by kernel_rfl
theorem Tryd.typeOfP (v : Value) (w : World) : (ReflectliteType.typeOf #[.iface 66 v]).run Tryd.prog w = .ok (.iface 130 (.agg #[.pointer (some ⟨12, 66, none⟩)])) w := by kernel_rfl
theorem Tryd.assignableP (w : World) : (ReflectliteType.relation "AssignableTo" ReflectliteType.assignableTo #[.agg #[.pointer (some ⟨12, 66, none⟩)], .iface 130 (.agg #[.pointer (some ⟨12, 66, none⟩)])]).run Tryd.prog w = .ok (.bool true) w := by kernel_rfl
def elF : Array Value → Sem Value := ReflectliteValue.method (ReflectliteValue.valueError "reflectlite.Value.Elem" 0) ReflectliteValue.elem
def setF : Array Value → Sem Value := ReflectliteValue.set
theorem Tryd.partsPP2 (a : Addr) (w : World) : (ReflectliteValue.parts (.agg #[.pointer (some ⟨12, 66, none⟩), .pointer (some a), .int .u64 150])).run Tryd.prog w = .ok (some (66, a, 150)) w := by kernel_rfl
theorem Tryd.partsPP3 (a : Addr) (w : World) : (ReflectliteValue.parts (.agg #[.pointer (some ⟨12, 66, none⟩), .pointer (some a), .int .u64 406])).run Tryd.prog w = .ok (some (66, a, 406)) w := by kernel_rfl
theorem Tryd.elemQ (w : World) : (Rtype.elem? 99).run Tryd.prog w = .ok (some 66) w := by kernel_rfl
theorem Tryd.mkQ (p : Addr) (w : World) : (ReflectliteValue.mk 66 p ReflectliteValue.flagAddr).run Tryd.prog w = .ok (.agg #[.pointer (some ⟨12, 66, none⟩), .pointer (some p), .int .u64 406]) w := by kernel_rfl
theorem Tryd.elemV (a p : Addr) (W : World) (ha : W.cell? a = some (.pointer (some p))) :
    (elF #[.agg #[.pointer (some ⟨12, 99, none⟩), .pointer (some a), .int .u64 150]]).run Tryd.prog W = .ok (.agg #[.pointer (some ⟨12, 66, none⟩), .pointer (some p), .int .u64 406]) W := by
  unfold elF
  rw [rlm]
  simp only [Sem.run_bind, Tryd.partsPP, Result.andThen]
  have h2 : (loadVar 99 a).run Tryd.prog W = .ok (.pointer (some p)) W := by simp [loadVar, isAgg, underlying, Tryd.underlying99, ha, Result.andThen]
  simp [ReflectliteValue.elem, h2, Tryd.elemQ, Tryd.mkQ, Result.andThen]
theorem Tryd.dirQ (w : World) : (Rtype.directlyAssignable 66 66).run Tryd.prog w = .ok true w := by kernel_rfl
theorem Tryd.setV (p b f : Addr) (W : World) (v : Value) (hb : W.cell? b = some (.pointer (some f))) (hp : W.cell? p = some v) (hf : W.frozen? p = false) :
    (setF #[.agg #[.pointer (some ⟨12, 66, none⟩), .pointer (some p), .int .u64 406], .agg #[.pointer (some ⟨12, 66, none⟩), .pointer (some b), .int .u64 150]]).run Tryd.prog W = .ok (.tuple #[]) (W.setCell p (.pointer (some f))) := by
  have h2 : (loadVar 66 b).run Tryd.prog W = .ok (.pointer (some f)) W := by simp [loadVar, isAgg, underlying, Tryd.underlying66, hb, Result.andThen]
  have h3 : (storeVar 66 p (.pointer (some f))).run Tryd.prog W = .ok () (W.setCell p (.pointer (some f))) := by
    have hs : (Tryd.prog.info? 66).map (·.size) = some 1 := by kernel_rfl
    obtain ⟨q, hq, hqs⟩ := Option.map_eq_some_iff.1 hs
    have hz : p.add 0 = p := by unfold Addr.add; split <;> simp_all
    simp [storeVar, sizeOf, typeInfo, hq, hqs, Value.cells, storeCells, Result.andThen, hz, run_store_pointer, stored, hp, hf]
  unfold setF
  change Sem.run _ (ReflectliteValue.parts (.agg #[.pointer (some ⟨12, 66, none⟩), .pointer (some p), .int .u64 406]) >>= _) _ = _
  rw [Sem.run_bind, Tryd.partsPP3]
  simp only [Result.andThen]
  change Sem.run _ (ReflectliteValue.parts (.agg #[.pointer (some ⟨12, 66, none⟩), .pointer (some b), .int .u64 150]) >>= _) _ = _
  rw [Sem.run_bind, Tryd.partsPP2]
  simp [h2, h3, Tryd.dirQ, Result.andThen, ReflectliteValue.flagAddr]

def vO (w : World) : Obj := .cells #[.pointer (some ⟨12, 99, none⟩), .pointer (some ⟨w.heap.size, 0, none⟩), .int .u64 150] 117
def asW (w : World) (t f : Addr) : World := (((w.alloc (.cells #[.pointer (some t)] 99)).alloc (vO w)).alloc (vO w))
set_option maxHeartbeats 4000000 in
/-- errors.As(x, &f), x an *api.Fault: f is x. -/
theorem as_hit (f : Addr) (tb : Nat) (w : World) (hg : w.cell? ⟨11, 0, none⟩ = some (.iface 130 (.agg #[.pointer (some ⟨12, 26, none⟩)]))) (ht : w.heap[tb]? = some (.cells #[.pointer none] 66)) :
    Calls Tryd.prog 47 #[.iface 66 (.pointer (some f)), .iface 99 (.pointer (some ⟨tb, 0, none⟩))] w fun ev w' => ev = .returned (.bool true) ∧ w'.heap[tb]? = some (.cells #[.pointer (some f)] 66) ∧ Keep (· = tb) w w' := by
  have h6 := @run_callFunc_extern Tryd.prog 54 _ (fun args => ReflectliteValue.unpack (args.getD 0 (.tuple #[]))) Tryd.func54 (by kernel_rfl) (by kernel_rfl) (by kernel_rfl) (by kernel_rfl)
  have h7 := @run_callFunc_extern Tryd.prog 55 _ (ReflectliteValue.methodAny (ReflectliteValue.valueError "reflectlite.Value.Type" 0) (fun t _ _ _ => ReflectliteType.toType t)) Tryd.func55 (by kernel_rfl) (by kernel_rfl) (by kernel_rfl) (by kernel_rfl)
  have h8 := @run_callFunc_extern Tryd.prog 56 _ (ReflectliteValue.method (ReflectliteValue.valueError "reflectlite.Value.IsNil" 0) ReflectliteValue.isNil) Tryd.func56 (by kernel_rfl) (by kernel_rfl) (by kernel_rfl) (by kernel_rfl)
  have h9 := @run_callFunc_extern Tryd.prog 61 _ elF Tryd.func61 (by kernel_rfl) (by kernel_rfl) (by kernel_rfl) (by kernel_rfl)
  have h11 := @run_callFunc_extern Tryd.prog 62 _ setF Tryd.func62 (by kernel_rfl) (by kernel_rfl) (by kernel_rfl) (by kernel_rfl)
  have h27 := @run_callFunc_extern Tryd.prog 77 _ (ReflectliteType.abiMethod fun t => do pure (.int .u8 (← Rtype.kind t))) Tryd.func77 (by kernel_rfl) (by kernel_rfl) (by kernel_rfl) (by kernel_rfl)
  have h37 := @run_callFunc_extern Tryd.prog 90 _ (ReflectliteType.method ReflectliteType.elem) Tryd.func90 (by kernel_rfl) (by kernel_rfl) (by kernel_rfl) (by kernel_rfl)
  have h38 := @run_callFunc_extern Tryd.prog 91 _ (ReflectliteType.relation "Implements" ReflectliteType.implements_) Tryd.func91 (by kernel_rfl) (by kernel_rfl) (by kernel_rfl) (by kernel_rfl)
  have h10 := @run_callFunc_extern Tryd.prog 58 _ ReflectliteType.typeOf Tryd.func58 (by kernel_rfl) (by kernel_rfl) (by kernel_rfl) (by kernel_rfl)
  have h35 := @run_callFunc_extern Tryd.prog 88 _ (ReflectliteType.relation "AssignableTo" ReflectliteType.assignableTo) Tryd.func88 (by kernel_rfl) (by kernel_rfl) (by kernel_rfl) (by kernel_rfl)
  have tO := Tryd.typeOfP
  have mA := Tryd.methodAssignableTo
  have aE := Tryd.assignableP
  have f6 := Tryd.valueOfPP
  have f6b := Tryd.valueOfP
  have f7 := Tryd.typePP
  have mK := Tryd.methodKind
  have mE := Tryd.methodElem
  have mI := Tryd.methodImplements
  have kPP := Tryd.kindPP
  have kP := Tryd.kindP
  have ePP := Tryd.elemPP
  have iP := Tryd.implementsP
  have hlt : 11 < w.heap.size := World.block_lt_of_cell? _ ⟨11, 0, none⟩ hg
  have htb : tb < w.heap.size := lt_of_get ht
  have n8 := Tryd.isNilPP ⟨w.heap.size, 0, none⟩ ⟨tb, 0, none⟩ ((w.alloc (.cells #[.pointer (some ⟨tb, 0, none⟩)] 99)).alloc (vO w)) (by simp)
  have hg2 : ((w.alloc (.cells #[.pointer (some ⟨tb, 0, none⟩)] 99)).alloc (vO w)).cell? ⟨11, 0, none⟩ = some (.iface 130 (.agg #[.pointer (some ⟨12, 26, none⟩)])) := by
    rw [World.cell?_alloc_lt _ _ ⟨11, 0, none⟩ (by simp; omega), World.cell?_alloc_lt _ _ ⟨11, 0, none⟩ hlt]; exact hg
  have e8 := Tryd.elemV ⟨w.heap.size, 0, none⟩ ⟨tb, 0, none⟩ (asW w ⟨tb, 0, none⟩ f) (by
    unfold asW
    rw [World.cell?_alloc_lt _ _ ⟨w.heap.size, 0, none⟩ (by simp; omega), World.cell?_alloc_lt _ _ ⟨w.heap.size, 0, none⟩ (by simp)]
    simp)
  have hb4 : Below w.heap.size w ((asW w ⟨tb, 0, none⟩ f).alloc (.cells #[.pointer (some f)] 66)) := ((((Below.refl _ _).alloc (Nat.le_refl _) _).alloc (by simp) _).alloc (by simp; omega) _).alloc (by simp; omega) _
  have hnw := get_alloc_new (asW w ⟨tb, 0, none⟩ f) (.cells #[.pointer (some f)] 66)
  rw [show (asW w ⟨tb, 0, none⟩ f).heap.size = w.heap.size + 3 from by simp [asW]] at hnw
  have h4b := below_get hb4 ht htb
  have s8 := Tryd.setV ⟨tb, 0, none⟩ ⟨w.heap.size + 3, 0, none⟩ f ((asW w ⟨tb, 0, none⟩ f).alloc (.cells #[.pointer (some f)] 66)) (.pointer none) (by simp [World.cell?, hnw]) (by simp [World.cell?, h4b]) (by simp [World.frozen?, h4b])
  have HK : Hid (Keep (· = tb) w (((asW w ⟨tb, 0, none⟩ f).alloc (.cells #[.pointer (some f)] 66)).setCell ⟨tb, 0, none⟩ (.pointer (some f)))) := (show Keep (· = tb) w _ from Keep.setCell (S := (· = tb)) (p := ⟨tb, 0, none⟩) ((Keep.of_below hb4).mono (fun k hk h => by omega)) (fun _ => rfl) _)
  have HT : Hid ((((asW w ⟨tb, 0, none⟩ f).alloc (.cells #[.pointer (some f)] 66)).setCell ⟨tb, 0, none⟩ (.pointer (some f))).heap[tb]? = some (.cells #[.pointer (some f)] 66)) := (show _ = _ from by rw [get_setCell _ h4b]; rfl)
  unfold asW vO at *
  clear ht hb4 h4b hnw
  go_enter Tryd.func47, Tryd.ntmps47
  go_wp2
  refine wp_loop_rounds 1 ?_
  rw [rounds_succ]
  go_wp2
  go_ret
  exact ⟨rfl, HT.out, HK.out⟩
end Go.Proofs.YtpodijlhlgbbdaaDoor
