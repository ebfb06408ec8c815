/- errors.As, errors.Is at an *api.Fault; plain.Code of it. -/
import Derived.Test.YtgdaljpimblkgaaGreatDoorR12
namespace Go.Proofs.YtgdaljpimblkgaaGreatDoor
open Go.RowKit Go.Extern.Stop Go.Stop Go.Extern
set_option linter.unusedVariables false

theorem Tryz.valueOfP (f : Addr) (w : World) : (ReflectliteValue.unpack (.iface 72 (.pointer (some f)))).run Tryz.prog w
    = .ok (.agg #[.pointer (some ⟨20, 72, none⟩), .pointer (some ⟨w.heap.size, 0, none⟩), .int .u64 150]) (w.alloc (.cells #[.pointer (some f)] 72)) := by kernel_rfl
theorem Tryz.typeOfP (v : Value) (w : World) : (ReflectliteType.typeOf #[.iface 72 v]).run Tryz.prog w = .ok (.iface 149 (.agg #[.pointer (some ⟨20, 72, none⟩)])) w := by kernel_rfl
theorem Tryz.assignableP (w : World) : (ReflectliteType.relation "AssignableTo" ReflectliteType.assignableTo #[.agg #[.pointer (some ⟨20, 72, none⟩)], .iface 149 (.agg #[.pointer (some ⟨20, 72, none⟩)])]).run Tryz.prog w = .ok (.bool true) w := by kernel_rfl
def elF : Array Value → Sem Value := ReflectliteValue.method (ReflectliteValue.valueError "reflectlite.Value.Elem" 0) ReflectliteValue.elem
def setF : Array Value → Sem Value := ReflectliteValue.set
theorem Tryz.partsPP2 (a : Addr) (w : World) : (ReflectliteValue.parts (.agg #[.pointer (some ⟨20, 72, none⟩), .pointer (some a), .int .u64 150])).run Tryz.prog w = .ok (some (72, a, 150)) w := by kernel_rfl
theorem Tryz.partsPP3 (a : Addr) (w : World) : (ReflectliteValue.parts (.agg #[.pointer (some ⟨20, 72, none⟩), .pointer (some a), .int .u64 406])).run Tryz.prog w = .ok (some (72, a, 406)) w := by kernel_rfl
theorem Tryz.elemQ (w : World) : (Rtype.elem? 97).run Tryz.prog w = .ok (some 72) w := by kernel_rfl
theorem Tryz.mkQ (p : Addr) (w : World) : (ReflectliteValue.mk 72 p ReflectliteValue.flagAddr).run Tryz.prog w = .ok (.agg #[.pointer (some ⟨20, 72, none⟩), .pointer (some p), .int .u64 406]) w := by kernel_rfl
theorem Tryz.elemV (a p : Addr) (W : World) (ha : W.cell? a = some (.pointer (some p))) :
    (elF #[.agg #[.pointer (some ⟨20, 97, none⟩), .pointer (some a), .int .u64 150]]).run Tryz.prog W = .ok (.agg #[.pointer (some ⟨20, 72, none⟩), .pointer (some p), .int .u64 406]) W := by
  unfold elF
  rw [rlm]
  simp only [Sem.run_bind, Tryz.partsPP, Result.andThen]
  have h2 : (loadVar 97 a).run Tryz.prog W = .ok (.pointer (some p)) W := by simp [loadVar, isAgg, underlying, Tryz.underlying97, ha, Result.andThen]
  simp [ReflectliteValue.elem, h2, Tryz.elemQ, Tryz.mkQ, Result.andThen]
theorem Tryz.dirQ (w : World) : (Rtype.directlyAssignable 72 72).run Tryz.prog w = .ok true w := by kernel_rfl
theorem Tryz.setV (p b f : Addr) (W : World) (v : Value) (hb : W.cell? b = some (.pointer (some f))) (hp : W.cell? p = some v) (hf : W.frozen? p = false) :
    (setF #[.agg #[.pointer (some ⟨20, 72, none⟩), .pointer (some p), .int .u64 406], .agg #[.pointer (some ⟨20, 72, none⟩), .pointer (some b), .int .u64 150]]).run Tryz.prog W = .ok (.tuple #[]) (W.setCell p (.pointer (some f))) := by
  have h2 : (loadVar 72 b).run Tryz.prog W = .ok (.pointer (some f)) W := by simp [loadVar, isAgg, underlying, Tryz.underlying72, hb, Result.andThen]
  have h3 : (storeVar 72 p (.pointer (some f))).run Tryz.prog W = .ok () (W.setCell p (.pointer (some f))) := by
    have hs : (Tryz.prog.info? 72).map (·.size) = some 1 := by kernel_rfl
    obtain ⟨q, hq, hqs⟩ := Option.map_eq_some_iff.1 hs
    have hz : p.add 0 = p := by unfold Addr.add; split <;> simp_all
    simp [storeVar, sizeOf, typeInfo, hq, hqs, Value.cells, storeCells, Result.andThen, hz, run_store_pointer, stored, hp, hf]
  unfold setF
  change Sem.run _ (ReflectliteValue.parts (.agg #[.pointer (some ⟨20, 72, none⟩), .pointer (some p), .int .u64 406]) >>= _) _ = _
  rw [Sem.run_bind, Tryz.partsPP3]
  simp only [Result.andThen]
  change Sem.run _ (ReflectliteValue.parts (.agg #[.pointer (some ⟨20, 72, none⟩), .pointer (some b), .int .u64 150]) >>= _) _ = _
  rw [Sem.run_bind, Tryz.partsPP2]
  simp [h2, h3, Tryz.dirQ, Result.andThen, ReflectliteValue.flagAddr]

def vO (w : World) : Obj := .cells #[.pointer (some ⟨20, 97, none⟩), .pointer (some ⟨w.heap.size, 0, none⟩), .int .u64 150] 121
def asW (w : World) (t f : Addr) : World := (((w.alloc (.cells #[.pointer (some t)] 97)).alloc (vO w)).alloc (vO w))
set_option maxHeartbeats 4000000 in
/-- errors.As(x, &f), x an *api.Fault: f is x. -/
theorem as_hit (f : Addr) (tb : Nat) (w : World) (hg : w.cell? ⟨11, 0, none⟩ = some (.iface 149 (.agg #[.pointer (some ⟨20, 31, none⟩)]))) (ht : w.heap[tb]? = some (.cells #[.pointer none] 72)) :
    Calls Tryz.prog 40 #[.iface 72 (.pointer (some f)), .iface 97 (.pointer (some ⟨tb, 0, none⟩))] w fun ev w' => ev = .returned (.bool true) ∧ w'.heap[tb]? = some (.cells #[.pointer (some f)] 72) ∧ Keep (· = tb) w w' := by
  have h6 := @run_callFunc_extern Tryz.prog 62 _ (fun args => ReflectliteValue.unpack (args.getD 0 (.tuple #[]))) Tryz.func62 (by kernel_rfl) (by kernel_rfl) (by kernel_rfl) (by kernel_rfl)
  have h7 := @run_callFunc_extern Tryz.prog 63 _ (ReflectliteValue.methodAny (ReflectliteValue.valueError "reflectlite.Value.Type" 0) (fun t _ _ _ => ReflectliteType.toType t)) Tryz.func63 (by kernel_rfl) (by kernel_rfl) (by kernel_rfl) (by kernel_rfl)
  have h8 := @run_callFunc_extern Tryz.prog 64 _ (ReflectliteValue.method (ReflectliteValue.valueError "reflectlite.Value.IsNil" 0) ReflectliteValue.isNil) Tryz.func64 (by kernel_rfl) (by kernel_rfl) (by kernel_rfl) (by kernel_rfl)
  have h9 := @run_callFunc_extern Tryz.prog 92 _ elF Tryz.func92 (by kernel_rfl) (by kernel_rfl) (by kernel_rfl) (by kernel_rfl)
  have h11 := @run_callFunc_extern Tryz.prog 93 _ setF Tryz.func93 (by kernel_rfl) (by kernel_rfl) (by kernel_rfl) (by kernel_rfl)
  have h27 := @run_callFunc_extern Tryz.prog 153 _ (ReflectliteType.abiMethod fun t => do pure (.int .u8 (← Rtype.kind t))) Tryz.func153 (by kernel_rfl) (by kernel_rfl) (by kernel_rfl) (by kernel_rfl)
  have h37 := @run_callFunc_extern Tryz.prog 165 _ (ReflectliteType.method ReflectliteType.elem) Tryz.func165 (by kernel_rfl) (by kernel_rfl) (by kernel_rfl) (by kernel_rfl)
  have h38 := @run_callFunc_extern Tryz.prog 166 _ (ReflectliteType.relation "Implements" ReflectliteType.implements_) Tryz.func166 (by kernel_rfl) (by kernel_rfl) (by kernel_rfl) (by kernel_rfl)
  have h10 := @run_callFunc_extern Tryz.prog 66 _ ReflectliteType.typeOf Tryz.func66 (by kernel_rfl) (by kernel_rfl) (by kernel_rfl) (by kernel_rfl)
  have h35 := @run_callFunc_extern Tryz.prog 163 _ (ReflectliteType.relation "AssignableTo" ReflectliteType.assignableTo) Tryz.func163 (by kernel_rfl) (by kernel_rfl) (by kernel_rfl) (by kernel_rfl)
  have tO := Tryz.typeOfP
  have mA := Tryz.methodAssignableTo
  have aE := Tryz.assignableP
  have f6 := Tryz.valueOfPP
  have f6b := Tryz.valueOfP
  have f7 := Tryz.typePP
  have mK := Tryz.methodKind
  have mE := Tryz.methodElem
  have mI := Tryz.methodImplements
  have kPP := Tryz.kindPP
  have kP := Tryz.kindP
  have ePP := Tryz.elemPP
  have iP := Tryz.implementsP
  have hlt : 11 < w.heap.size := World.block_lt_of_cell? _ ⟨11, 0, none⟩ hg
  have htb : tb < w.heap.size := lt_of_get ht
  have n8 := Tryz.isNilPP ⟨w.heap.size, 0, none⟩ ⟨tb, 0, none⟩ ((w.alloc (.cells #[.pointer (some ⟨tb, 0, none⟩)] 97)).alloc (vO w)) (by simp)
  have hg2 : ((w.alloc (.cells #[.pointer (some ⟨tb, 0, none⟩)] 97)).alloc (vO w)).cell? ⟨11, 0, none⟩ = some (.iface 149 (.agg #[.pointer (some ⟨20, 31, none⟩)])) := by
    rw [World.cell?_alloc_lt _ _ ⟨11, 0, none⟩ (by simp; omega), World.cell?_alloc_lt _ _ ⟨11, 0, none⟩ hlt]; exact hg
  have e8 := Tryz.elemV ⟨w.heap.size, 0, none⟩ ⟨tb, 0, none⟩ (asW w ⟨tb, 0, none⟩ f) (by
    unfold asW
    rw [World.cell?_alloc_lt _ _ ⟨w.heap.size, 0, none⟩ (by simp; omega), World.cell?_alloc_lt _ _ ⟨w.heap.size, 0, none⟩ (by simp)]
    simp)
  have hb4 : Below w.heap.size w ((asW w ⟨tb, 0, none⟩ f).alloc (.cells #[.pointer (some f)] 72)) := ((((Below.refl _ _).alloc (Nat.le_refl _) _).alloc (by simp) _).alloc (by simp; omega) _).alloc (by simp; omega) _
  have hnw := get_alloc_new (asW w ⟨tb, 0, none⟩ f) (.cells #[.pointer (some f)] 72)
  rw [show (asW w ⟨tb, 0, none⟩ f).heap.size = w.heap.size + 3 from by simp [asW]] at hnw
  have h4b := below_get hb4 ht htb
  have s8 := Tryz.setV ⟨tb, 0, none⟩ ⟨w.heap.size + 3, 0, none⟩ f ((asW w ⟨tb, 0, none⟩ f).alloc (.cells #[.pointer (some f)] 72)) (.pointer none) (by simp [World.cell?, hnw]) (by simp [World.cell?, h4b]) (by simp [World.frozen?, h4b])
  have HK : Hid (Keep (· = tb) w (((asW w ⟨tb, 0, none⟩ f).alloc (.cells #[.pointer (some f)] 72)).setCell ⟨tb, 0, none⟩ (.pointer (some f)))) := (show Keep (· = tb) w _ from Keep.setCell (S := (· = tb)) (p := ⟨tb, 0, none⟩) ((Keep.of_below hb4).mono (fun k hk h => by omega)) (fun _ => rfl) _)
  have HT : Hid ((((asW w ⟨tb, 0, none⟩ f).alloc (.cells #[.pointer (some f)] 72)).setCell ⟨tb, 0, none⟩ (.pointer (some f))).heap[tb]? = some (.cells #[.pointer (some f)] 72)) := (show _ = _ from by rw [get_setCell _ h4b]; rfl)
  unfold asW vO at *
  clear ht hb4 h4b hnw
  go_enter Tryz.func40, Tryz.ntmps40
  go_wp2
  refine wp_loop_rounds 1 ?_
  rw [rounds_succ]
  go_wp2
  go_ret
  exact ⟨rfl, HT.out, HK.out⟩
end Go.Proofs.YtgdaljpimblkgaaGreatDoor

/- errors.Is at an *api.Fault; plain.Code of it. -/
namespace Go.Proofs.YtgdaljpimblkgaaGreatDoor
open Go.RowKit Go.Extern.Stop Go.Stop Go.Extern
set_option linter.unusedVariables false

theorem Tryz.noIsF (v : Value) (xT : TypeId) (w : World) : (Instr.typeAssert (.iface 72 v) xT 160 true).run Tryz.prog w = .ok (.tuple #[.nilIface, .bool false]) w := run_typeAssert_lacksB Tryz.underlying160 (by kernel_rfl) (by kernel_rfl) v xT w
theorem Tryz.hasUnwrapF (v : Value) (xT : TypeId) (w : World) : (Instr.typeAssert (.iface 72 v) xT 156 true).run Tryz.prog w = .ok (.tuple #[.iface 72 v, .bool true]) w := run_typeAssert_hasB Tryz.underlying156 (by kernel_rfl) v xT w
theorem Tryz.methodUnwrapF (v : Value) (w : World) : (Go.method 341 72 v "Unwrap").run Tryz.prog w = .ok (158, v) w := by kernel_rfl

set_option maxRecDepth 20000 in
set_option maxHeartbeats 1000000 in
/-- errors.Is(&Fault{.., x}, x). -/
theorem isF_same (fb : Nat) (a : Addr) (w : World) (hf : w.cell? ⟨fb, 1, none⟩ = some (.iface 209 (.pointer (some a)))) :
    Calls Tryz.prog 41 #[.iface 72 (.pointer (some ⟨fb, 0, none⟩)), .iface 209 (.pointer (some a))] w fun e w' => e = .returned (.bool true) ∧ w = w' := by
  obtain ⟨i, hi, hcmp⟩ := Option.map_eq_some_iff.1 Tryz.compE
  obtain ⟨j, hj, hjs⟩ := Option.map_eq_some_iff.1 Tryz.sizeE
  have h8 := @run_callFunc_extern Tryz.prog 66 _ Extern.ReflectliteType.typeOf Tryz.func66 (by kernel_rfl) (by kernel_rfl) (by kernel_rfl) (by kernel_rfl)
  have h32 := @run_callFunc_extern Tryz.prog 164 _ cmpF Tryz.func164 (by kernel_rfl) (by kernel_rfl) (by kernel_rfl) (by kernel_rfl)
  have tT := Tryz.typeOfE
  have cT := Tryz.comparableE
  have mR := Tryz.methodComparable
  have nF := Tryz.noIsF
  have uF := Tryz.hasUnwrapF
  have mU := Tryz.methodUnwrapF
  have heq := run_eql_iface_ptr_same (P := Tryz.prog) w a Tryz.underlying31 Tryz.underlying209 hi hcmp hj
  have hne := run_eql_iface_types (P := Tryz.prog) 72 209 (.pointer (some ⟨fb, 0, none⟩)) (.pointer (some a)) Tryz.underlying31 (by decide) w
  go_enter Tryz.func41, Tryz.ntmps41
  go_wp2
  refine wp_loop_rounds 2 ?_
  rw [rounds_succ]
  go_wp2
  rw [rounds_succ]
  go_wp2
  go_ret
  exact ⟨rfl, rfl⟩

set_option maxRecDepth 20000 in
set_option maxHeartbeats 1000000 in
/-- errors.Is(&Fault{.., x}, y). -/
theorem isF_other (fb : Nat) (a b : Addr) (ca cb : Array Value) (ta tb : TypeId) (w : World) (hf : w.cell? ⟨fb, 1, none⟩ = some (.iface 209 (.pointer (some a)))) (hab : a ≠ b) (ha : w.heap[a.block]? = some (.cells ca ta (0, 0))) (hb : w.heap[b.block]? = some (.cells cb tb (0, 0))) :
    Calls Tryz.prog 41 #[.iface 72 (.pointer (some ⟨fb, 0, none⟩)), .iface 209 (.pointer (some b))] w fun e w' => e = .returned (.bool false) ∧ w = w' := by
  obtain ⟨i, hi, hcmp⟩ := Option.map_eq_some_iff.1 Tryz.compE
  obtain ⟨j, hj, hjs⟩ := Option.map_eq_some_iff.1 Tryz.sizeE
  have h8 := @run_callFunc_extern Tryz.prog 66 _ Extern.ReflectliteType.typeOf Tryz.func66 (by kernel_rfl) (by kernel_rfl) (by kernel_rfl) (by kernel_rfl)
  have h32 := @run_callFunc_extern Tryz.prog 164 _ cmpF Tryz.func164 (by kernel_rfl) (by kernel_rfl) (by kernel_rfl) (by kernel_rfl)
  have tT := Tryz.typeOfE
  have cT := Tryz.comparableE
  have mR := Tryz.methodComparable
  have nF := Tryz.noIsF
  have uF := Tryz.hasUnwrapF
  have mU := Tryz.methodUnwrapF
  have nE := Tryz.noIsE
  have uE := Tryz.noUnwrapE
  have vE := Tryz.noUnwrapsE
  have heq := run_eql_iface_ptr_other (P := Tryz.prog) w Tryz.underlying31 Tryz.underlying209 hi hcmp hj (by rw [hjs]; decide) hab ha hb
  have hne := run_eql_iface_types (P := Tryz.prog) 72 209 (.pointer (some ⟨fb, 0, none⟩)) (.pointer (some b)) Tryz.underlying31 (by decide) w
  clear ha hb
  go_enter Tryz.func41, Tryz.ntmps41
  go_wp2
  refine wp_loop_rounds 2 ?_
  rw [rounds_succ]
  go_wp2
  rw [rounds_succ]
  go_wp2
  go_ret
  exact ⟨rfl, rfl⟩

/-- A fault's memory: its place, its error. -/
def FaultAt (w : World) (fb : Nat) (at_ : Int) (v : Value) : Prop := w.heap[fb]? = some (.cells #[.int .i64 at_, v] 74)
set_option maxRecDepth 100000 in
set_option maxHeartbeats 4000000 in
theorem code_fault (B : Nat) (sa : Nat → Addr) (k : Nat) (hk : k < 11) (fb : Nat) (at_ : Int) (w : World) (hS : Sents B sa w) (hF : FaultAt w fb at_ (errv sa (k + 1))) :
    Calls Tryz.prog 24 #[.iface 72 (.pointer (some ⟨fb, 0, none⟩))] w fun e w' => e = .returned (.tuple #[.int .i64 (k + 1), .int .i64 at_]) ∧ Below w.heap.size w w' := by
  have HS := Lib.hid hS
  have et := hS.et
  have hnb := hS.nb
  have htop := hS.top
  have hfb := lt_of_get hF
  have HF := Lib.hid hF
  clear hS hF
  go_enter Tryz.func24, Tryz.ntmps24
  go_wp2_with fail
  have b0 : Below w.heap.size w (w.alloc (.cells #[.pointer none] 72)) := (Below.refl _ _).alloc (Nat.le_refl _) _
  have hS0 := HS.out.below b0
  refine (as_hit ⟨fb, 0, none⟩ w.heap.size _ hS0.et (get_alloc_new _ _)).mono ?_
  rintro e w1 ⟨rfl, h1, k1⟩
  have b1' : Below w.heap.size w w1 := b0.trans (k1.below b0.size (fun b (hb : b = w.heap.size) => by omega))
  have hS1 := HS.out.below b1'
  have hF1 := below_get b1' HF.out hfb
  have x0 : w1.cell? ⟨w.heap.size, 0, none⟩ = some (.pointer (some ⟨fb, 0, none⟩)) := by simp [World.cell?, h1]
  have y0 : w1.cell? ⟨fb, 0, none⟩ = some (.int .i64 at_) := by simp [World.cell?, hF1]
  have H1 := Lib.hid hS1
  have B1 := Lib.hid b1'
  have HF1 := Lib.hid hF1
  obtain ⟨g0, g1, g2, g3, g4, g5, g6, g7, g8, g9, g10⟩ := hS1.all
  clear b0 hS0 h1 k1 b1' hS1 et hF1 HF
  go_wp2_with fail
  have b2 : Below w.heap.size w (w1.alloc (.cells (sentCs sa) 31)) := B1.out.alloc B1.out.size _
  have hS2 := H1.out.below ((Below.refl _ w1).alloc (Nat.le_refl _) (.cells (sentCs sa) 31))
  have hc := sent_cells (get_alloc_new w1 (.cells (sentCs sa) 31))
  have hF2 := get_alloc_old (.cells (sentCs sa) 31) HF1.out
  unfold sentCs at b2 hS2 hc hF2
  generalize w1.alloc _ = w2 at b2 hS2 hc hF2 ⊢
  have H2 := Lib.hid hS2
  have HC := Lib.hid hc
  have z1 : w2.cell? ⟨fb, 1, none⟩ = some (.iface 209 (.pointer (some (sa k)))) := by simp [World.cell?, hF2, errv]
  clear hS2 hc hF2 g0 g1 g2 g3 g4 g5 g6 g7 g8 g9 g10 H1 B1 x0 y0 HF1
  have Z1 := Lib.hid z1
  clear z1
  go_loop [3, 29] (fun s3 s => ∃ j : Nat, j ≤ k ∧ s = .int .i64 j ∧ s3 = .int .i64 at_) (fun _ s => 11 - (intOf s).toNat)
  case atStart => exact ⟨0, Nat.zero_le _, rfl, rfl⟩
  case round =>
    obtain ⟨j, hj, rfl, rfl⟩ := hrel
    have q := HC.out j (by omega)
    by_cases hjk : j = k
    · subst hjk
      go_wp2_with fail
      refine (isF_same fb (sa j) _ Z1.out).mono ?_
      rintro e w' ⟨rfl, rfl⟩
      go_wp2_with fail
      go_ret2
      exact ⟨rfl, b2⟩
    · have hlt : j < k := by omega
      obtain ⟨_, ca, ta, ha⟩ := H2.out.bl k hk
      obtain ⟨_, cb, tb, hb⟩ := H2.out.bl j (by omega)
      have hne := H2.out.nd k j hk (by omega) (by omega)
      have HA := Lib.hid ha
      have HB := Lib.hid hb
      have HN := Lib.hid hne
      clear ha hb hne
      go_wp2_with fail
      refine (isF_other fb (sa k) (sa j) ca cb ta tb _ Z1.out HN.out HA.out HB.out).mono ?_
      rintro e w' ⟨rfl, rfl⟩
      go_wp2_with fail
      go_round
      case rel => exact ⟨j + 1, by omega, by go_num, rfl⟩
      case measure => simp [intOf]; omega
end Go.Proofs.YtgdaljpimblkgaaGreatDoor
