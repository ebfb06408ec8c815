/- errors.Is at an *api.Fault; plain.Code of it. -/
import Derived.Test.YtakjbjokekbmbaaGreatDoorR23
namespace Go.Proofs.YtakjbjokekbmbaaGreatDoor
open Go.RowKit Go.Extern.Stop Go.Stop Go.Extern
set_option linter.unusedVariables false

theorem Tryz.noIsF (v : Value) (xT : TypeId) (w : World) : (Instr.typeAssert (.iface 123 v) xT 213 true).run Tryz.prog w = .ok (.tuple #[.nilIface, .bool false]) w := run_typeAssert_lacksB Tryz.underlying213 (by kernel_rfl) (by kernel_rfl) v xT w
theorem Tryz.hasUnwrapF (v : Value) (xT : TypeId) (w : World) : (Instr.typeAssert (.iface 123 v) xT 210 true).run Tryz.prog w = .ok (.tuple #[.iface 123 v, .bool true]) w := run_typeAssert_hasB Tryz.underlying210 (by kernel_rfl) v xT w
theorem Tryz.methodUnwrapF (v : Value) (w : World) : (Go.method 430 123 v "Unwrap").run Tryz.prog w = .ok (231, v) w := by kernel_rfl

set_option maxRecDepth 20000 in
set_option maxHeartbeats 1000000 in
/-- errors.Is(&Fault{.., x}, x). -/
theorem isF_same (fb : Nat) (a : Addr) (w : World) (hf : w.cell? ⟨fb, 1, none⟩ = some (.iface 299 (.pointer (some a)))) :
    Calls Tryz.prog 70 #[.iface 123 (.pointer (some ⟨fb, 0, none⟩)), .iface 299 (.pointer (some a))] w fun e w' => e = .returned (.bool true) ∧ w = w' := by
  obtain ⟨i, hi, hcmp⟩ := Option.map_eq_some_iff.1 Tryz.compE
  obtain ⟨j, hj, hjs⟩ := Option.map_eq_some_iff.1 Tryz.sizeE
  have h8 := @run_callFunc_extern Tryz.prog 91 _ Extern.ReflectliteType.typeOf Tryz.func91 (by kernel_rfl) (by kernel_rfl) (by kernel_rfl) (by kernel_rfl)
  have h32 := @run_callFunc_extern Tryz.prog 238 _ cmpF Tryz.func238 (by kernel_rfl) (by kernel_rfl) (by kernel_rfl) (by kernel_rfl)
  have tT := Tryz.typeOfE
  have cT := Tryz.comparableE
  have mR := Tryz.methodComparable
  have nF := Tryz.noIsF
  have uF := Tryz.hasUnwrapF
  have mU := Tryz.methodUnwrapF
  have heq := run_eql_iface_ptr_same (P := Tryz.prog) w a Tryz.underlying46 Tryz.underlying299 hi hcmp hj
  have hne := run_eql_iface_types (P := Tryz.prog) 123 299 (.pointer (some ⟨fb, 0, none⟩)) (.pointer (some a)) Tryz.underlying46 (by decide) w
  go_enter Tryz.func70, Tryz.ntmps70
  go_wp2
  refine wp_loop_rounds 2 ?_
  rw [rounds_succ]
  go_wp2
  rw [rounds_succ]
  go_wp2
  go_ret
  exact ⟨rfl, rfl⟩

set_option maxRecDepth 20000 in
set_option maxHeartbeats 1000000 in
/-- errors.Is(&Fault{.., x}, y). -/
theorem isF_other (fb : Nat) (a b : Addr) (ca cb : Array Value) (ta tb : TypeId) (w : World) (hf : w.cell? ⟨fb, 1, none⟩ = some (.iface 299 (.pointer (some a)))) (hab : a ≠ b) (ha : w.heap[a.block]? = some (.cells ca ta (0, 0))) (hb : w.heap[b.block]? = some (.cells cb tb (0, 0))) :
    Calls Tryz.prog 70 #[.iface 123 (.pointer (some ⟨fb, 0, none⟩)), .iface 299 (.pointer (some b))] w fun e w' => e = .returned (.bool false) ∧ w = w' := by
  obtain ⟨i, hi, hcmp⟩ := Option.map_eq_some_iff.1 Tryz.compE
  obtain ⟨j, hj, hjs⟩ := Option.map_eq_some_iff.1 Tryz.sizeE
  have h8 := @run_callFunc_extern Tryz.prog 91 _ Extern.ReflectliteType.typeOf Tryz.func91 (by kernel_rfl) (by kernel_rfl) (by kernel_rfl) (by kernel_rfl)
  have h32 := @run_callFunc_extern Tryz.prog 238 _ cmpF Tryz.func238 (by kernel_rfl) (by kernel_rfl) (by kernel_rfl) (by kernel_rfl)
  have tT := Tryz.typeOfE
  have cT := Tryz.comparableE
  have mR := Tryz.methodComparable
  have nF := Tryz.noIsF
  have uF := Tryz.hasUnwrapF
  have mU := Tryz.methodUnwrapF
  have nE := Tryz.noIsE
  have uE := Tryz.noUnwrapE
  have vE := Tryz.noUnwrapsE
  have heq := run_eql_iface_ptr_other (P := Tryz.prog) w Tryz.underlying46 Tryz.underlying299 hi hcmp hj (by rw [hjs]; decide) hab ha hb
  have hne := run_eql_iface_types (P := Tryz.prog) 123 299 (.pointer (some ⟨fb, 0, none⟩)) (.pointer (some b)) Tryz.underlying46 (by decide) w
  clear ha hb
  go_enter Tryz.func70, Tryz.ntmps70
  go_wp2
  refine wp_loop_rounds 2 ?_
  rw [rounds_succ]
  go_wp2
  rw [rounds_succ]
  go_wp2
  go_ret
  exact ⟨rfl, rfl⟩

/-- A fault's memory: its place, its error. -/
def FaultAt (w : World) (fb : Nat) (at_ : Int) (v : Value) : Prop := w.heap[fb]? = some (.cells #[.int .i64 at_, v] 127)
set_option maxRecDepth 100000 in
set_option maxHeartbeats 4000000 in
theorem code_fault (B : Nat) (sa : Nat → Addr) (k : Nat) (hk : k < 11) (fb : Nat) (at_ : Int) (w : World) (hS : Sents B sa w) (hF : FaultAt w fb at_ (errv sa (k + 1))) :
    Calls Tryz.prog 42 #[.iface 123 (.pointer (some ⟨fb, 0, none⟩))] w fun e w' => e = .returned (.tuple #[.int .i64 (k + 1), .int .i64 at_]) ∧ Below w.heap.size w w' := by
  have HS := Lib.hid hS
  have et := hS.et
  have hnb := hS.nb
  have htop := hS.top
  have hfb := lt_of_get hF
  have HF := Lib.hid hF
  clear hS hF
  go_enter Tryz.func42, Tryz.ntmps42
  go_wp2_with fail
  have b0 : Below w.heap.size w (w.alloc (.cells #[.pointer none] 123)) := (Below.refl _ _).alloc (Nat.le_refl _) _
  have hS0 := HS.out.below b0
  refine (as_hit ⟨fb, 0, none⟩ w.heap.size _ hS0.et (get_alloc_new _ _)).mono ?_
  rintro e w1 ⟨rfl, h1, k1⟩
  have b1' : Below w.heap.size w w1 := b0.trans (k1.below b0.size (fun b (hb : b = w.heap.size) => by omega))
  have hS1 := HS.out.below b1'
  have hF1 := below_get b1' HF.out hfb
  have x0 : w1.cell? ⟨w.heap.size, 0, none⟩ = some (.pointer (some ⟨fb, 0, none⟩)) := by simp [World.cell?, h1]
  have y0 : w1.cell? ⟨fb, 0, none⟩ = some (.int .i64 at_) := by simp [World.cell?, hF1]
  have H1 := Lib.hid hS1
  have B1 := Lib.hid b1'
  have HF1 := Lib.hid hF1
  obtain ⟨g0, g1, g2, g3, g4, g5, g6, g7, g8, g9, g10⟩ := hS1.all
  clear b0 hS0 h1 k1 b1' hS1 et hF1 HF
  go_wp2_with fail
  have b2 : Below w.heap.size w (w1.alloc (.cells (sentCs sa) 46)) := B1.out.alloc B1.out.size _
  have hS2 := H1.out.below ((Below.refl _ w1).alloc (Nat.le_refl _) (.cells (sentCs sa) 46))
  have hc := sent_cells (get_alloc_new w1 (.cells (sentCs sa) 46))
  have hF2 := get_alloc_old (.cells (sentCs sa) 46) HF1.out
  unfold sentCs at b2 hS2 hc hF2
  generalize w1.alloc _ = w2 at b2 hS2 hc hF2 ⊢
  have H2 := Lib.hid hS2
  have HC := Lib.hid hc
  have z1 : w2.cell? ⟨fb, 1, none⟩ = some (.iface 299 (.pointer (some (sa k)))) := by simp [World.cell?, hF2, errv]
  clear hS2 hc hF2 g0 g1 g2 g3 g4 g5 g6 g7 g8 g9 g10 H1 B1 x0 y0 HF1
  have Z1 := Lib.hid z1
  clear z1
  go_loop [3, 29] (fun s3 s => ∃ j : Nat, j ≤ k ∧ s = .int .i64 j ∧ s3 = .int .i64 at_) (fun _ s => 11 - (intOf s).toNat)
  case atStart => exact ⟨0, Nat.zero_le _, rfl, rfl⟩
  case round =>
    obtain ⟨j, hj, rfl, rfl⟩ := hrel
    have q := HC.out j (by omega)
    by_cases hjk : j = k
    · subst hjk
      go_wp2_with fail
      refine (isF_same fb (sa j) _ Z1.out).mono ?_
      rintro e w' ⟨rfl, rfl⟩
      go_wp2_with fail
      go_ret2
      exact ⟨rfl, b2⟩
    · have hlt : j < k := by omega
      obtain ⟨_, ca, ta, ha⟩ := H2.out.bl k hk
      obtain ⟨_, cb, tb, hb⟩ := H2.out.bl j (by omega)
      have hne := H2.out.nd k j hk (by omega) (by omega)
      have HA := Lib.hid ha
      have HB := Lib.hid hb
      have HN := Lib.hid hne
      clear ha hb hne
      go_wp2_with fail
      refine (isF_other fb (sa k) (sa j) ca cb ta tb _ Z1.out HN.out HA.out HB.out).mono ?_
      rintro e w' ⟨rfl, rfl⟩
      go_wp2_with fail
      go_round
      case rel => exact ⟨j + 1, by omega, by go_num, rfl⟩
      case measure => simp [intOf]; omega
end Go.Proofs.YtakjbjokekbmbaaGreatDoor
