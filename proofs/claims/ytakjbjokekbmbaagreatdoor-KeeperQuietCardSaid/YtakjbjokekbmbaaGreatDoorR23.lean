/- errors.As, errors.Is at an *api.Fault; plain.Code of it. -/
import Derived.Test.YtakjbjokekbmbaaGreatDoorR03
namespace Go.Proofs.YtakjbjokekbmbaaGreatDoor
open Go.RowKit Go.Extern.Stop Go.Stop Go.Extern
set_option linter.unusedVariables false

theorem Tryz.valueOfP (f : Addr) (w : World) : (ReflectliteValue.unpack (.iface 123 (.pointer (some f)))).run Tryz.prog w
    = .ok (.agg #[.pointer (some ⟨20, 123, none⟩), .pointer (some ⟨w.heap.size, 0, none⟩), .int .u64 150]) (w.alloc (.cells #[.pointer (some f)] 123)) := by kernel_rfl
theorem Tryz.typeOfP (v : Value) (w : World) : (ReflectliteType.typeOf #[.iface 123 v]).run Tryz.prog w = .ok (.iface 203 (.agg #[.pointer (some ⟨20, 123, none⟩)])) w := by kernel_rfl
theorem Tryz.assignableP (w : World) : (ReflectliteType.relation "AssignableTo" ReflectliteType.assignableTo #[.agg #[.pointer (some ⟨20, 123, none⟩)], .iface 203 (.agg #[.pointer (some ⟨20, 123, none⟩)])]).run Tryz.prog w = .ok (.bool true) w := by kernel_rfl
def elF : Array Value → Sem Value := ReflectliteValue.method (ReflectliteValue.valueError "reflectlite.Value.Elem" 0) ReflectliteValue.elem
def setF : Array Value → Sem Value := ReflectliteValue.set
theorem Tryz.partsPP2 (a : Addr) (w : World) : (ReflectliteValue.parts (.agg #[.pointer (some ⟨20, 123, none⟩), .pointer (some a), .int .u64 150])).run Tryz.prog w = .ok (some (123, a, 150)) w := by kernel_rfl
theorem Tryz.partsPP3 (a : Addr) (w : World) : (ReflectliteValue.parts (.agg #[.pointer (some ⟨20, 123, none⟩), .pointer (some a), .int .u64 406])).run Tryz.prog w = .ok (some (123, a, 406)) w := by kernel_rfl
theorem Tryz.elemQ (w : World) : (Rtype.elem? 125).run Tryz.prog w = .ok (some 123) w := by kernel_rfl
theorem Tryz.mkQ (p : Addr) (w : World) : (ReflectliteValue.mk 123 p ReflectliteValue.flagAddr).run Tryz.prog w = .ok (.agg #[.pointer (some ⟨20, 123, none⟩), .pointer (some p), .int .u64 406]) w := by kernel_rfl
theorem Tryz.elemV (a p : Addr) (W : World) (ha : W.cell? a = some (.pointer (some p))) :
    (elF #[.agg #[.pointer (some ⟨20, 125, none⟩), .pointer (some a), .int .u64 150]]).run Tryz.prog W = .ok (.agg #[.pointer (some ⟨20, 123, none⟩), .pointer (some p), .int .u64 406]) W := by
  unfold elF
  rw [rlm]
  simp only [Sem.run_bind, Tryz.partsPP, Result.andThen]
  have h2 : (loadVar 125 a).run Tryz.prog W = .ok (.pointer (some p)) W := by simp [loadVar, isAgg, underlying, Tryz.underlying125, ha, Result.andThen]
  simp [ReflectliteValue.elem, h2, Tryz.elemQ, Tryz.mkQ, Result.andThen]
theorem Tryz.dirQ (w : World) : (Rtype.directlyAssignable 123 123).run Tryz.prog w = .ok true w := by kernel_rfl
theorem Tryz.setV (p b f : Addr) (W : World) (v : Value) (hb : W.cell? b = some (.pointer (some f))) (hp : W.cell? p = some v) (hf : W.frozen? p = false) :
    (setF #[.agg #[.pointer (some ⟨20, 123, none⟩), .pointer (some p), .int .u64 406], .agg #[.pointer (some ⟨20, 123, none⟩), .pointer (some b), .int .u64 150]]).run Tryz.prog W = .ok (.tuple #[]) (W.setCell p (.pointer (some f))) := by
  have h2 : (loadVar 123 b).run Tryz.prog W = .ok (.pointer (some f)) W := by simp [loadVar, isAgg, underlying, Tryz.underlying123, hb, Result.andThen]
  have h3 : (storeVar 123 p (.pointer (some f))).run Tryz.prog W = .ok () (W.setCell p (.pointer (some f))) := by
    have hs : (Tryz.prog.info? 123).map (·.size) = some 1 := by kernel_rfl
    obtain ⟨q, hq, hqs⟩ := Option.map_eq_some_iff.1 hs
    have hz : p.add 0 = p := by unfold Addr.add; split <;> simp_all
    simp [storeVar, sizeOf, typeInfo, hq, hqs, Value.cells, storeCells, Result.andThen, hz, run_store_pointer, stored, hp, hf]
  unfold setF
  change Sem.run _ (ReflectliteValue.parts (.agg #[.pointer (some ⟨20, 123, none⟩), .pointer (some p), .int .u64 406]) >>= _) _ = _
  rw [Sem.run_bind, Tryz.partsPP3]
  simp only [Result.andThen]
  change Sem.run _ (ReflectliteValue.parts (.agg #[.pointer (some ⟨20, 123, none⟩), .pointer (some b), .int .u64 150]) >>= _) _ = _
  rw [Sem.run_bind, Tryz.partsPP2]
  simp [h2, h3, Tryz.dirQ, Result.andThen, ReflectliteValue.flagAddr]

def vO (w : World) : Obj := .cells #[.pointer (some ⟨20, 125, none⟩), .pointer (some ⟨w.heap.size, 0, none⟩), .int .u64 150] 169
def asW (w : World) (t f : Addr) : World := (((w.alloc (.cells #[.pointer (some t)] 125)).alloc (vO w)).alloc (vO w))
set_option maxHeartbeats 4000000 in
/-- errors.As(x, &f), x an *api.Fault: f is x. -/
theorem as_hit (f : Addr) (tb : Nat) (w : World) (hg : w.cell? ⟨11, 0, none⟩ = some (.iface 203 (.agg #[.pointer (some ⟨20, 46, none⟩)]))) (ht : w.heap[tb]? = some (.cells #[.pointer none] 123)) :
    Calls Tryz.prog 69 #[.iface 123 (.pointer (some f)), .iface 125 (.pointer (some ⟨tb, 0, none⟩))] w fun ev w' => ev = .returned (.bool true) ∧ w'.heap[tb]? = some (.cells #[.pointer (some f)] 123) ∧ Keep (· = tb) w w' := by
  have h6 := @run_callFunc_extern Tryz.prog 87 _ (fun args => ReflectliteValue.unpack (args.getD 0 (.tuple #[]))) Tryz.func87 (by kernel_rfl) (by kernel_rfl) (by kernel_rfl) (by kernel_rfl)
  have h7 := @run_callFunc_extern Tryz.prog 88 _ (ReflectliteValue.methodAny (ReflectliteValue.valueError "reflectlite.Value.Type" 0) (fun t _ _ _ => ReflectliteType.toType t)) Tryz.func88 (by kernel_rfl) (by kernel_rfl) (by kernel_rfl) (by kernel_rfl)
  have h8 := @run_callFunc_extern Tryz.prog 89 _ (ReflectliteValue.method (ReflectliteValue.valueError "reflectlite.Value.IsNil" 0) ReflectliteValue.isNil) Tryz.func89 (by kernel_rfl) (by kernel_rfl) (by kernel_rfl) (by kernel_rfl)
  have h9 := @run_callFunc_extern Tryz.prog 115 _ elF Tryz.func115 (by kernel_rfl) (by kernel_rfl) (by kernel_rfl) (by kernel_rfl)
  have h11 := @run_callFunc_extern Tryz.prog 116 _ setF Tryz.func116 (by kernel_rfl) (by kernel_rfl) (by kernel_rfl) (by kernel_rfl)
  have h27 := @run_callFunc_extern Tryz.prog 224 _ (ReflectliteType.abiMethod fun t => do pure (.int .u8 (← Rtype.kind t))) Tryz.func224 (by kernel_rfl) (by kernel_rfl) (by kernel_rfl) (by kernel_rfl)
  have h37 := @run_callFunc_extern Tryz.prog 239 _ (ReflectliteType.method ReflectliteType.elem) Tryz.func239 (by kernel_rfl) (by kernel_rfl) (by kernel_rfl) (by kernel_rfl)
  have h38 := @run_callFunc_extern Tryz.prog 240 _ (ReflectliteType.relation "Implements" ReflectliteType.implements_) Tryz.func240 (by kernel_rfl) (by kernel_rfl) (by kernel_rfl) (by kernel_rfl)
  have h10 := @run_callFunc_extern Tryz.prog 91 _ ReflectliteType.typeOf Tryz.func91 (by kernel_rfl) (by kernel_rfl) (by kernel_rfl) (by kernel_rfl)
  have h35 := @run_callFunc_extern Tryz.prog 237 _ (ReflectliteType.relation "AssignableTo" ReflectliteType.assignableTo) Tryz.func237 (by kernel_rfl) (by kernel_rfl) (by kernel_rfl) (by kernel_rfl)
  have tO := Tryz.typeOfP
  have mA := Tryz.methodAssignableTo
  have aE := Tryz.assignableP
  have f6 := Tryz.valueOfPP
  have f6b := Tryz.valueOfP
  have f7 := Tryz.typePP
  have mK := Tryz.methodKind
  have mE := Tryz.methodElem
  have mI := Tryz.methodImplements
  have kPP := Tryz.kindPP
  have kP := Tryz.kindP
  have ePP := Tryz.elemPP
  have iP := Tryz.implementsP
  have hlt : 11 < w.heap.size := World.block_lt_of_cell? _ ⟨11, 0, none⟩ hg
  have htb : tb < w.heap.size := lt_of_get ht
  have n8 := Tryz.isNilPP ⟨w.heap.size, 0, none⟩ ⟨tb, 0, none⟩ ((w.alloc (.cells #[.pointer (some ⟨tb, 0, none⟩)] 125)).alloc (vO w)) (by simp)
  have hg2 : ((w.alloc (.cells #[.pointer (some ⟨tb, 0, none⟩)] 125)).alloc (vO w)).cell? ⟨11, 0, none⟩ = some (.iface 203 (.agg #[.pointer (some ⟨20, 46, none⟩)])) := by
    rw [World.cell?_alloc_lt _ _ ⟨11, 0, none⟩ (by simp; omega), World.cell?_alloc_lt _ _ ⟨11, 0, none⟩ hlt]; exact hg
  have e8 := Tryz.elemV ⟨w.heap.size, 0, none⟩ ⟨tb, 0, none⟩ (asW w ⟨tb, 0, none⟩ f) (by
    unfold asW
    rw [World.cell?_alloc_lt _ _ ⟨w.heap.size, 0, none⟩ (by simp; omega), World.cell?_alloc_lt _ _ ⟨w.heap.size, 0, none⟩ (by simp)]
    simp)
  have hb4 : Below w.heap.size w ((asW w ⟨tb, 0, none⟩ f).alloc (.cells #[.pointer (some f)] 123)) := ((((Below.refl _ _).alloc (Nat.le_refl _) _).alloc (by simp) _).alloc (by simp; omega) _).alloc (by simp; omega) _
  have hnw := get_alloc_new (asW w ⟨tb, 0, none⟩ f) (.cells #[.pointer (some f)] 123)
  rw [show (asW w ⟨tb, 0, none⟩ f).heap.size = w.heap.size + 3 from by simp [asW]] at hnw
  have h4b := below_get hb4 ht htb
  have s8 := Tryz.setV ⟨tb, 0, none⟩ ⟨w.heap.size + 3, 0, none⟩ f ((asW w ⟨tb, 0, none⟩ f).alloc (.cells #[.pointer (some f)] 123)) (.pointer none) (by simp [World.cell?, hnw]) (by simp [World.cell?, h4b]) (by simp [World.frozen?, h4b])
  have HK : Hid (Keep (· = tb) w (((asW w ⟨tb, 0, none⟩ f).alloc (.cells #[.pointer (some f)] 123)).setCell ⟨tb, 0, none⟩ (.pointer (some f)))) := (show Keep (· = tb) w _ from Keep.setCell (S := (· = tb)) (p := ⟨tb, 0, none⟩) ((Keep.of_below hb4).mono (fun k hk h => by omega)) (fun _ => rfl) _)
  have HT : Hid ((((asW w ⟨tb, 0, none⟩ f).alloc (.cells #[.pointer (some f)] 123)).setCell ⟨tb, 0, none⟩ (.pointer (some f))).heap[tb]? = some (.cells #[.pointer (some f)] 123)) := (show _ = _ from by rw [get_setCell _ h4b]; rfl)
  unfold asW vO at *
  clear ht hb4 h4b hnw
  go_enter Tryz.func69, Tryz.ntmps69
  go_wp2
  refine wp_loop_rounds 1 ?_
  rw [rounds_succ]
  go_wp2
  go_ret
  exact ⟨rfl, HT.out, HK.out⟩
end Go.Proofs.YtakjbjokekbmbaaGreatDoor
