/- Package local: an entity that is idle, or held. -/
import Derived.Test.YtkhcepdeppmofaaDoorLocalB
namespace Go.Proofs.YtkhcepdeppmofaaDoor
open Go.RowKit
set_option linter.unusedVariables false

set_option maxHeartbeats 1000000 in
theorem localBegin_held (l s t : Nat) (E : EntV) (vp vg ve vf vl u : Value) (m : LocM) (w : World) (h : LocAt l s t E vp vg ve vf vl m w) (hg : w.cell? ⟨0, 0, none⟩ = some u) :
    Calls Tryd.prog 16 #[.pointer (some ⟨l, 0, none⟩)] w fun e w' => e = .returned u ∧ w = w' := by
  obtain ⟨⟨wb, a, g, f, ro, base, lo, hi, h1, h2⟩, ho⟩ := h
  obtain ⟨c0, _⟩ := loc_cells h1
  clear h1 h2
  go_enter Tryd.func16, Tryd.ntmps16
  go_wp2_with fail
  go_ret
  exact ⟨rfl, rfl⟩
set_option maxHeartbeats 1000000 in
theorem localStop_idle (l : Nat) (E : EntV) (vp vg ve vf vl u : Value) (w : World) (h : w.heap[l]? = some (locC none E vp vg ve vf vl)) (hg : w.cell? ⟨1, 0, none⟩ = some u) :
    Calls Tryd.prog 18 #[.pointer (some ⟨l, 0, none⟩)] w fun e w' => e = .returned u ∧ w = w' := by
  obtain ⟨c0, _⟩ := loc_cells h
  clear h
  go_enter Tryd.func18, Tryd.ntmps18
  go_wp2_with fail
  go_ret
  exact ⟨rfl, rfl⟩
set_option maxHeartbeats 1000000 in
theorem localReport_idle (l : Nat) (E : EntV) (vp vg ve vf vl u : Value) (p t : Int) (w : World) (h : w.heap[l]? = some (locC none E vp vg ve vf vl)) (hg : w.cell? ⟨1, 0, none⟩ = some u) :
    Calls Tryd.prog 22 #[.pointer (some ⟨l, 0, none⟩), .int .i64 p, .int .i64 t] w fun e w' => e = .returned u ∧ w = w' := by
  obtain ⟨c0, _⟩ := loc_cells h
  clear h
  go_enter Tryd.func22, Tryd.ntmps22
  go_wp2_with fail
  go_ret
  exact ⟨rfl, rfl⟩
set_option maxHeartbeats 1000000 in
theorem localEnd_idle (l : Nat) (E : EntV) (vp vg ve vf vl : Value) (w : World) (h : w.heap[l]? = some (locC none E vp vg ve vf vl)) :
    Calls Tryd.prog 20 #[.pointer (some ⟨l, 0, none⟩)] w fun e w' => e = .returned (.tuple #[.int .i64 0, .bool false]) ∧ w = w' := by
  obtain ⟨c0, _⟩ := loc_cells h
  clear h
  go_enter Tryd.func20, Tryd.ntmps20
  go_wp2_with fail
  go_ret2
  exact ⟨rfl, rfl⟩
set_option maxHeartbeats 1000000 in
theorem localRun_idle (l : Nat) (E : EntV) (vp vg ve vf vl : Value) (w : World) (h : w.heap[l]? = some (locC none E vp vg ve vf vl)) :
    Calls Tryd.prog 26 #[.pointer (some ⟨l, 0, none⟩)] w fun e w' => e = .returned (.int .i64 0) ∧ w = w' := by
  obtain ⟨c0, _⟩ := loc_cells h
  clear h
  go_enter Tryd.func26, Tryd.ntmps26
  go_wp2_with fail
  go_ret
  exact ⟨rfl, rfl⟩
end Go.Proofs.YtkhcepdeppmofaaDoor
