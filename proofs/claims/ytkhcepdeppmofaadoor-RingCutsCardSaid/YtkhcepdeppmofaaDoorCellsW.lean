/- What a write makes of cells, the program's and the document's. -/
import Derived.Test.YtkhcepdeppmofaaDoorCells5
import Derived.Test.YtkhcepdeppmofaaDoorCellsRef
namespace Go.Proofs.YtkhcepdeppmofaaDoor
open Go.RowKit
set_option linter.unusedVariables false

theorem RC.keep {S : Nat → Prop} {w w' : World} {r : Nat} {m : CM} (h : RC w r m) (k : Keep S w w') (hS : ¬ S r) : RC w' r m := by
  obtain ⟨l, c, h⟩ := h
  exact ⟨l, c, h.keep k hS⟩
theorem keep_drew0 (w : World) : Keep (fun _ => False) w w.drew := Keep.drew (Keep.refl _ _)
theorem keep_drewN0 (w : World) (n : Nat) : Keep (fun _ => False) w (w.drewN n) := keep_drewN n (Keep.refl _ _)
/-- What a write makes of cells. -/
def actWM (m : CM) (at_ : Int) (s : ByteArray) : CM := if lookE m.off m.bs.length at_ s.size = 0 then writeM m at_.toNat s.data.toList else m
def actWE (m : CM) (at_ : Int) (s : ByteArray) : Nat := if lookE m.off m.bs.length at_ s.size = 0 then writeE m.cut s.size else lookE m.off m.bs.length at_ s.size
theorem lookE_le (off : Bool) (len : Nat) (a n : Int) : lookE off len a n ≤ 8 := by unfold lookE; split; decide; split <;> decide
theorem actWE_le (m : CM) (a : Int) (s : ByteArray) : actWE m a s ≤ 11 := by
  unfold actWE
  split
  · unfold writeE; split <;> decide
  · have := lookE_le m.off m.bs.length a s.size; omega
theorem cutE_le (off : Bool) (n : Int) : cutE off n ≤ 11 := by unfold cutE; split; decide; split <;> decide
theorem lookE_zero {off : Bool} {len : Nat} {a n : Int} (h : lookE off len a n = 0) : off = false ∧ 0 ≤ a ∧ 0 ≤ n ∧ a + n ≤ len := by
  unfold lookE at h
  split at h
  · cases h
  · rename_i hc
    cases off
    · exact ⟨rfl, by omega, by omega, by omega⟩
    · simp at h
theorem writeN_le (cut : Int) (len : Nat) : writeN cut len ≤ len := by
  unfold writeN
  split
  · exact Nat.le_refl _
  · exact Nat.min_le_right _ _
theorem actWM_ok {m : CM} {k : Int} (h : CMOk m k) (a : Int) (s : ByteArray) (hs : s.size ≤ 200) : CMOk (actWM m a s) (k + 200) := by
  unfold actWM
  split
  · have hn := writeN_le m.cut s.size
    have h1 := h.c0
    have h2 := h.c1
    have h3 := h.w0
    have h4 := h.w1
    refine ⟨?_, ?_, ?_, ?_⟩
    · show -1 ≤ cutAt m.cut (writeN m.cut s.size)
      unfold cutAt
      split
      · omega
      · rename_i hne
        have : writeN m.cut s.size ≤ m.cut.toNat := by simp only [writeN, hne, if_false]; exact Nat.min_le_left _ _
        omega
    · show cutAt m.cut (writeN m.cut s.size) ≤ _
      unfold cutAt
      split <;> omega
    · show 0 ≤ m.wr + (writeN m.cut s.size : Int)
      omega
    · show m.wr + (writeN m.cut s.size : Int) ≤ k + 200
      omega
  · exact ⟨h.c0, h.c1, h.w0, by have := h.w1; omega⟩
theorem cutM_ok {m : CM} {k n : Int} (h : CMOk m k) (hn : n ≤ 9223372036854775807) : CMOk (cutM m n) k := by
  unfold cutM
  split
  · exact h
  · split
    · exact h
    · exact ⟨by show -1 ≤ n; omega, hn, h.w0, h.w1⟩

set_option maxRecDepth 20000 in
set_option maxHeartbeats 1000000 in
/-- Write at cells of no bytes. -/
theorem cellsWrite_nil (B : Nat) (sa : Nat → Addr) (c rb : Nat) (ao : Option Addr) (cap : Nat) (m : CM) (at_ : Int) (s : ByteArray) (w : World) (h : CellsAt w c rb ao cap m) (hS : SentsR B sa w) (hk : lookE m.off m.bs.length at_ s.size = 0) (hs : s.size = 0) :
    Calls Tryd.prog 101 #[.pointer (some ⟨c, 0, none⟩), .int .i64 at_, .string s] w fun e w' => e = .returned .nilIface ∧ w = w' := by
  have HS := Lib.hid hS
  have H := Lib.hid h
  have HK := Lib.hid hk
  have hz : ¬ (0 : Int) < s.size := by omega
  clear h hS hs hk
  go_enter Tryd.func101, Tryd.ntmps101
  go_wp2_with fail
  refine (look_any B sa c rb ao cap m at_ s.size w H.out HS.out).mono ?_
  rintro e w' ⟨rfl, rfl⟩
  rw [HK.out]
  rw [show errv sa 0 = .nilIface from rfl]
  go_wp2_with fail
  go_loop [19] (fun s19 => s19 = .int .i64 0) (fun _ => 0)
  case atStart => rfl
  case round =>
    obtain rfl := hrel
    go_wp2_with fail
    go_ret
    exact ⟨rfl, rfl⟩
theorem writeM_nil {m : CM} (a : Nat) (ho : m.off = false) : writeM m a [] = m := by
  have h0 : writeN m.cut 0 = 0 := Nat.le_zero.1 (writeN_le m.cut 0)
  show (⟨wBytes m.bs a [] (writeN m.cut 0), decide (writeN m.cut 0 < 0), cutAt m.cut (writeN m.cut 0), m.wr + writeN m.cut 0⟩ : CM) = m
  rw [h0, wBytes_zero, cutAt_zero]
  obtain ⟨bs, off, cut, wr⟩ := m
  simp only at ho
  subst ho
  simp
/-- Write, whatever is written where. -/
theorem ak_write (B : Nat) (sa : Nat → Addr) (w0 : World) (c rb : Nat) (ao : Option Addr) (cap : Nat) (m : CM) (at_ : Int) (s : ByteArray) (w : World) (h : CK B sa w0 c rb ao cap m w) (k : Int) (hm : CMOk m k) (hk : k ≤ 1000000000) :
    Calls Tryd.prog 101 #[.pointer (some ⟨c, 0, none⟩), .int .i64 at_, .string s] w fun e w' => e = .returned (errv sa (actWE m at_ s)) ∧ CellsAt w' c rb ao cap (actWM m at_ s) ∧ Keep (fun b => b = c ∨ b = rb) w w' := by
  unfold actWE actWM
  by_cases hE : lookE m.off m.bs.length at_ s.size = 0
  · rw [if_pos hE, if_pos hE]
    obtain ⟨ho, h0, h1, h2⟩ := lookE_zero hE
    obtain ⟨a, rfl⟩ : ∃ a : Nat, at_ = a := ⟨at_.toNat, by omega⟩
    rcases h.mem.at_ with rfl | ⟨hb, rfl⟩
    · have hw1 := hm.w1
      refine (cellsWrite_good B sa c rb cap m a s w h.mem h.se h.bot ho (by omega) hm.c0 hm.c1 hm.w0 (by omega)).mono ?_
      rintro e w' ⟨rfl, q1, q2⟩
      exact ⟨rfl, by simpa using q1, q2⟩
    · have hs0 : s.size = 0 := by rw [hb] at h2; simp at h2; omega
      refine (cellsWrite_nil B sa c rb none cap m a s w h.mem h.se hE hs0).mono ?_
      rintro e w' ⟨rfl, rfl⟩
      have hd : s.data.toList = [] := List.eq_nil_of_length_eq_zero hs0
      have he : writeE m.cut s.size = 0 := by
        have := writeN_le m.cut s.size
        unfold writeE
        rw [if_neg (by omega)]
      rw [hd, he, writeM_nil _ ho]
      exact ⟨rfl, h.mem, Keep.refl _ _⟩
  · rw [if_neg hE, if_neg hE]
    obtain ⟨j, hj⟩ : ∃ j, lookE m.off m.bs.length at_ s.size = j + 1 := ⟨_, (Nat.succ_pred_eq_of_pos (Nat.pos_of_ne_zero hE)).symm⟩
    rw [hj]
    refine (cellsWrite_bad B sa c rb ao cap m at_ s j w h.mem h.se hj).mono ?_
    rintro e w' ⟨rfl, rfl⟩
    exact ⟨rfl, h.mem, Keep.refl _ _⟩
theorem rk_write (r : Nat) (m : CM) (at_ : Int) (s : ByteArray) (w : World) (h : RC w r m) (k : Int) (hm : CMOk m k) (hk : k ≤ 1000000000) :
    Calls Tryd.prog 76 #[.pointer (some ⟨r, 0, none⟩), .int .i64 at_, .string s] w fun e w' => e = .returned (.int .i64 (actWE m at_ s : Nat)) ∧ RC w' r (actWM m at_ s) ∧ Keep (· = r) w w' := by
  unfold actWE actWM
  obtain ⟨left, cuts, h⟩ := h
  by_cases hE : lookE m.off m.bs.length at_ s.size = 0
  · rw [if_pos hE, if_pos hE]
    obtain ⟨ho, h0, h1, h2⟩ := lookE_zero hE
    obtain ⟨a, rfl⟩ : ∃ a : Nat, at_ = a := ⟨at_.toNat, by omega⟩
    have hw1 := hm.w1
    rcases h.rel with ⟨rfl, hcut⟩ | ⟨rfl, hcut, hl⟩
    · refine (rWrite_good r m left false a s w h ho (by omega) (fun h => by cases h) hm.w0 (by omega)).mono ?_
      rintro e w' ⟨rfl, q1, q2⟩
      exact ⟨rfl, by simpa using q1, q2⟩
    · refine (rWrite_good r m left true a s w h ho (by omega) (fun _ => by rw [← hcut]; exact hm.c1) hm.w0 (by omega)).mono ?_
      rintro e w' ⟨rfl, q1, q2⟩
      exact ⟨rfl, by simpa using q1, q2⟩
  · rw [if_neg hE, if_neg hE]
    obtain ⟨j, hj⟩ : ∃ j, lookE m.off m.bs.length at_ s.size = j + 1 := ⟨_, (Nat.succ_pred_eq_of_pos (Nat.pos_of_ne_zero hE)).symm⟩
    rw [hj]
    refine (rWrite_bad r m left cuts at_ s j w h hj).mono ?_
    rintro e w' ⟨rfl, rfl⟩
    exact ⟨rfl, ⟨_, _, h⟩, Keep.refl _ _⟩
end Go.Proofs.YtkhcepdeppmofaaDoor
