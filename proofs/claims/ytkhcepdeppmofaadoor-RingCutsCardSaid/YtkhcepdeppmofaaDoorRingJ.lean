/- Package ring: Open, the walk. -/
import Derived.Test.YtkhcepdeppmofaaDoorRingI
namespace Go.Proofs.YtkhcepdeppmofaaDoor
open Go.RowKit
set_option linter.unusedVariables false

theorem cellsSize_any (c rb : Nat) (ao : Option Addr) (cap : Nat) (m : CM) (w : World) (h : CellsAt w c rb ao cap m) : Calls Tryd.prog 67 #[.pointer (some ⟨c, 0, none⟩)] w fun e w' => e = .returned (.int .i64 m.bs.length) ∧ w = w' := by
  obtain ⟨c0, c1, c2, c3, cf⟩ := cells_cells h
  clear h
  go_enter Tryd.func67, Tryd.ntmps67
  go_wp2_with fail
  go_ret
  exact ⟨rfl, rfl⟩
def slotB (b : List UInt8) (k : Nat) : List UInt8 := (b.drop (k * 17)).take 17
theorem cellsRead_17 (B : Nat) (sa : Nat → Addr) (c rb cap : Nat) (m : CM) (k : Nat) (w : World) (h : CellsAt w c rb (some ⟨rb, 0, none⟩) cap m) (hS : SentsR B sa w) (ho : m.off = false) (hn : k * 17 + 17 ≤ m.bs.length) :
    Calls Tryd.prog 66 #[.pointer (some ⟨c, 0, none⟩), .int .i64 ((k : Int) * 17), .int .i64 17] w fun e w' => e = .returned (.tuple #[.string (strOf (slotB m.bs k)), .nilIface]) ∧ w = w' := by
  have := cellsRead_good B sa c rb _ cap m (k * 17) 17 w h hS ho hn
  rw [Int.natCast_mul] at this
  exact this
theorem cellsRead_badW (B : Nat) (sa : Nat → Addr) (c rb : Nat) (ao : Option Addr) (cap : Nat) (m : CM) (k : Nat) (e : Nat) (w : World) (h : CellsAt w c rb ao cap m) (hS : SentsR B sa w) (he : lookE m.off m.bs.length ((k : Int) * 17) 17 = e + 1) :
    Calls Tryd.prog 66 #[.pointer (some ⟨c, 0, none⟩), .int .i64 ((k : Int) * 17), .int .i64 17] w fun r w' => r = .returned (.tuple #[.string (strOf []), errv sa (e + 1)]) ∧ w = w' := cellsRead_bad B sa c rb ao cap m _ _ e w h hS he

/-- A row of one's own, of records; none: nil. -/
structure OwnL (w : World) (base : Nat) (ao : Option Addr) (cap : Nat) (l : List RecV) : Prop where
  row : w.ownsRow base 60 4 (.slice ao l.length cap) l.length (l.flatMap recCells)
  nil : l = [] → ao = none ∧ cap = 0
/-- Behind the sort: the same, as cells. -/
structure OwnS (w : World) (base : Nat) (ao : Option Addr) (cap : Nat) (l : List RecV) : Prop where
  row : SlOf (fun b => base ≤ b) w (.slice ao l.length cap) 4 (l.flatMap recCells) l.length
  nil : l = [] → ao = none ∧ cap = 0
theorem OwnL.some {w : World} {base : Nat} {ao : Option Addr} {cap : Nat} {l : List RecV} (h : OwnL w base ao cap l) (h0 : 0 < l.length) : ∃ g, ao = some ⟨g, 0, none⟩ := by
  obtain ⟨g, e, _⟩ := owned_slice h.row h0
  exact ⟨g, e⟩

set_option maxRecDepth 20000 in
set_option maxHeartbeats 1000000 in
theorem insNil_any (w : World) : Calls Tryd.prog 130 #[.slice none 0 0, .int .i64 0, .int .i64 0, cmpV] w fun e w' => e = .returned (.tuple #[]) ∧ w' = w := by
  unfold cmpV
  go_enter Tryd.func130, Tryd.ntmps130
  go_wp2_with fail
  go_loopw [8] (fun s8 wr => s8 = .int .i64 1 ∧ wr = w) (fun _ _ => 0)
  case atStart => exact ⟨rfl, rfl⟩
  case round =>
    obtain ⟨rfl, rfl⟩ := hrel
    go_wp2_with fail
    go_end0
    exact ⟨rfl, rfl⟩
set_option maxRecDepth 20000 in
set_option maxHeartbeats 1000000 in
theorem pdqNil_any (w : World) (k : Int) : Calls Tryd.prog 99 #[.slice none 0 0, .int .i64 0, .int .i64 0, .int .i64 k, cmpV] w fun e w' => e = .returned (.tuple #[]) ∧ w' = w := by
  have h := insNil_any w
  unfold cmpV at h ⊢
  go_enter Tryd.func99, Tryd.ntmps99
  go_wp2_with fail
  go_loopw [1, 2, 3, 10, 11] (fun s1 s2 s3 s10 s11 wr => s1 = .int .i64 0 ∧ s2 = .int .i64 0 ∧ wr = w) (fun _ _ _ _ _ _ => 0)
  case atStart => exact ⟨rfl, rfl, rfl⟩
  case round =>
    obtain ⟨rfl, rfl, rfl⟩ := hrel
    go_wp2_with fail
    refine h.mono ?_
    rintro e w1 ⟨rfl, rfl⟩
    go_wp2_with fail
    refine bodyPost_ret (results_none rfl _ _ _) rfl ?_
    exact ⟨rfl, rfl⟩
set_option maxHeartbeats 1000000 in
theorem sortNil_any (w : World) : Calls Tryd.prog 69 #[.slice none 0 0, cmpV] w fun e w' => e = .returned (.tuple #[]) ∧ w' = w := by
  have h1 := len_any 0 (by decide) w
  have h2 := fun k => Lib.hid (pdqNil_any w k)
  unfold cmpV at h2 ⊢
  go_enter Tryd.func69, Tryd.ntmps69
  go_wp2_with fail
  refine h1.mono ?_
  rintro e w1 ⟨⟨k, rfl⟩, rfl⟩
  go_wp2_with fail
  refine (h2 k).out.mono ?_
  rintro e w1 ⟨rfl, rfl⟩
  go_wp2_with fail
  go_end0
  exact ⟨rfl, rfl⟩
theorem sortOpen_any (b : List UInt8) (w : World) (base : Nat) (ao : Option Addr) (cap : Nat) (h : OwnL w base ao cap (openL b 9)) :
    Calls Tryd.prog 69 #[.slice ao (openL b 9).length cap, cmpV] w fun e w' => e = .returned (.tuple #[]) ∧ ∃ l, l.length = (openL b 9).length ∧ Sorted9 b l ∧ OwnS w' base ao cap l ∧ Keep (fun x => base ≤ x) w w' := by
  by_cases h0 : (openL b 9).length = 0
  · have hn := List.eq_nil_of_length_eq_zero h0
    obtain ⟨rfl, rfl⟩ := h.nil hn
    rw [h0]
    refine (sortNil_any w).mono ?_
    rintro e w1 ⟨rfl, rfl⟩
    refine ⟨rfl, [], rfl, ⟨by rw [hn], List.Pairwise.nil⟩, ⟨?_, fun _ => ⟨rfl, rfl⟩⟩, Keep.refl _ _⟩
    have := slOf_owns h.row
    rw [hn] at this
    exact this
  · obtain ⟨g, rfl⟩ := h.some (by omega)
    obtain ⟨hr, hb, h1, h2⟩ := rowAt_owns h.row (by omega)
    refine (sortRecs_any w g cap (openL b 9) hr (fun r hr => by obtain ⟨i, _, hi⟩ := openL_mem.1 hr; exact (heldAt_ok b i r hi).1.s2) (openL_len b 9)).mono ?_
    rintro e w1 ⟨rfl, l, hs, hI⟩
    have hl := hI.len
    rw [← hl] at hs h1
    refine ⟨rfl, l, hl, ⟨hI.perm, sortedTo_pairwise hs ?_⟩, ⟨?_, fun e => by subst e; simp at hl; omega⟩, hI.kp.mono (fun b _ hb => by subst hb; assumption)⟩
    · exact (List.Perm.nodup_iff (hI.perm.map _)).2 (openL_nodup b 9 (Nat.le_refl _))
    · exact slOf_rowAt hI.row hb h1 h2
end Go.Proofs.YtkhcepdeppmofaaDoor
