/- Package ring: slices.SortFunc at nine records and fewer. -/
import Derived.Test.YtkhcepdeppmofaaDoorRingG
namespace Go.Proofs.YtkhcepdeppmofaaDoor
open Go.RowKit
set_option linter.unusedVariables false

set_option maxRecDepth 100000 in
set_option maxHeartbeats 1000000 in
theorem len64_any (n : Nat) (hn : n ≤ 9) (w : World) : Calls Tryd.prog 139 #[.int .u64 n] w fun e w' => (∃ k : Int, e = .returned (.int .i64 k)) ∧ w' = w := by
  have : n = 0 ∨ n = 1 ∨ n = 2 ∨ n = 3 ∨ n = 4 ∨ n = 5 ∨ n = 6 ∨ n = 7 ∨ n = 8 ∨ n = 9 := by omega
  rcases this with rfl | rfl | rfl | rfl | rfl | rfl | rfl | rfl | rfl | rfl
  all_goals
    go_enter Tryd.func139, Tryd.ntmps139
    go_wp2_with fail
    go_ret
    exact ⟨⟨_, rfl⟩, rfl⟩
set_option maxHeartbeats 1000000 in
theorem len_any (n : Nat) (hn : n ≤ 9) (w : World) : Calls Tryd.prog 100 #[.int .u64 n] w fun e w' => (∃ k : Int, e = .returned (.int .i64 k)) ∧ w' = w := by
  have h := len64_any n hn w
  go_enter Tryd.func100, Tryd.ntmps100
  go_wp2_with fail
  refine h.mono ?_
  rintro e w1 ⟨⟨k, rfl⟩, rfl⟩
  go_wp2_with fail
  go_ret
  exact ⟨⟨k, rfl⟩, rfl⟩
set_option maxRecDepth 20000 in
set_option maxHeartbeats 2000000 in
theorem pdq_any (w : World) (g cap : Nat) (l0 : List RecV) (hr : RowAt w g l0) (hs : ∀ r ∈ l0, r.seq < 4294967296) (hn : l0.length ≤ 9) (k : Int) :
    Calls Tryd.prog 99 #[.slice (some ⟨g, 0, none⟩) l0.length cap, .int .i64 0, .int .i64 l0.length, .int .i64 k, cmpV] w fun e w' => e = .returned (.tuple #[]) ∧ ∃ l, SortedTo l l0.length ∧ InsM g l0 l w w' := by
  have h := Lib.hid (insSort_any w g cap l0 hr hs (by omega))
  clear hr hs
  have hn2 : (l0.length : Int) ≤ 9 := by omega
  unfold cmpV at h ⊢
  go_enter Tryd.func99, Tryd.ntmps99
  go_wp2_with fail
  go_loopw [1, 2, 3, 10, 11] (fun s1 s2 s3 s10 s11 wr => s1 = .int .i64 0 ∧ s2 = .int .i64 l0.length ∧ wr = w) (fun _ _ _ _ _ _ => 0)
  case atStart => exact ⟨rfl, rfl, rfl⟩
  case round =>
    obtain ⟨rfl, rfl, rfl⟩ := hrel
    go_wp2_with fail
    refine h.out.mono ?_
    rintro e w1 ⟨rfl, l, h1, h2⟩
    go_wp2_with fail
    refine bodyPost_ret (results_none rfl _ _ _) rfl ?_
    exact ⟨rfl, l, h1, h2⟩
set_option maxHeartbeats 1000000 in
theorem sortRecs_any (w : World) (g cap : Nat) (l0 : List RecV) (hr : RowAt w g l0) (hs : ∀ r ∈ l0, r.seq < 4294967296) (hn : l0.length ≤ 9) :
    Calls Tryd.prog 69 #[.slice (some ⟨g, 0, none⟩) l0.length cap, cmpV] w fun e w' => e = .returned (.tuple #[]) ∧ ∃ l, SortedTo l l0.length ∧ InsM g l0 l w w' := by
  have h1 := len_any l0.length hn w
  have h2 := fun k => Lib.hid (pdq_any w g cap l0 hr hs hn k)
  clear hr hs
  have hn2 : (l0.length : Int) ≤ 9 := by omega
  have e2 : (2 : Int) ^ IntKind.u64.bits = 18446744073709551616 := by decide
  have hw : IntKind.u64.wrap (l0.length : Int) = (l0.length : Int) := by
    show (l0.length : Int).emod ((2 : Int) ^ IntKind.u64.bits) = _
    rw [e2]
    exact Int.emod_eq_of_lt (by omega) (by omega)
  clear e2
  unfold cmpV at h2 ⊢
  go_enter Tryd.func69, Tryd.ntmps69
  go_wp2_with fail
  refine h1.mono ?_
  rintro e w1 ⟨⟨k, rfl⟩, rfl⟩
  go_wp2_with fail
  refine (h2 k).out.mono ?_
  rintro e w1 ⟨rfl, l, h1, h2⟩
  go_wp2_with fail
  go_end0
  exact ⟨rfl, l, h1, h2⟩
end Go.Proofs.YtkhcepdeppmofaaDoor
