/- CellsActs: cells and the document's ones side by side; what both are after each act. -/
import Derived.Test.YtpodijlhlgbbdabDoorCells5
import Derived.Test.YtpodijlhlgbbdabDoorCellsRef
import Derived.Test.YtpodijlhlgbbdabDoorActs1
import Derived.Deep.RegionHeld3
import Derived.Deep.QuietTactic
import Derived.BigQuiet
namespace Go.Proofs.YtpodijlhlgbbdabDoor
open Go.RowKit
set_option linter.unusedVariables false

structure AK (B : Nat) (sa : Nat → Addr) (w0 : World) (c rb : Nat) (ao : Option Addr) (cap : Nat) (m : CM) (r : Nat) (m2 : CM) (ab : Nat) (a : Act1V) (w : World) : Prop where
  ck : CK B sa w0 c rb ao cap m w
  rc : RC w r m2
  act : w.heap[ab]? = some (.cells (act1Cells a).toArray 64)
  sep : r ≠ c ∧ r ≠ rb ∧ w0.heap.size ≤ r ∧ ab ≠ c ∧ ab ≠ rb ∧ ab ≠ r ∧ w0.heap.size ≤ ab
theorem RC.keep {S : Nat → Prop} {w w' : World} {r : Nat} {m : CM} (h : RC w r m) (k : Keep S w w') (hS : ¬ S r) : RC w' r m := by
  obtain ⟨l, c, h⟩ := h
  exact ⟨l, c, h.keep k hS⟩
theorem keep_drew0 (w : World) : Keep (fun _ => False) w w.drew := Keep.drew (Keep.refl _ _)
theorem keep_drewN0 (w : World) (n : Nat) : Keep (fun _ => False) w (w.drewN n) := keep_drewN n (Keep.refl _ _)
section
variable {B : Nat} {sa : Nat → Addr} {w0 w w' : World} {c rb : Nat} {ao : Option Addr} {cap : Nat} {m m' : CM} {r : Nat} {m2 m2' : CM} {ab : Nat} {a : Act1V}
theorem AK.stepC (h : AK B sa w0 c rb ao cap m r m2 ab a w) (k : Keep (fun b => b = c ∨ b = rb) w w') (h' : CellsAt w' c rb ao cap m') : AK B sa w0 c rb ao cap m' r m2 ab a w' := by
  obtain ⟨s1, s2, s3, s4, s5, s6, s7⟩ := h.sep
  exact ⟨h.ck.step k h', h.rc.keep k (by omega), k.get h.act (by omega), h.sep⟩
theorem AK.stepC1 (h : AK B sa w0 c rb ao cap m r m2 ab a w) (k : Keep (· = c) w w') (h' : CellsAt w' c rb ao cap m') : AK B sa w0 c rb ao cap m' r m2 ab a w' := h.stepC (k.mono (fun _ _ h => .inl h)) h'
theorem AK.stepR (h : AK B sa w0 c rb ao cap m r m2 ab a w) (k : Keep (· = r) w w') (h' : RC w' r m2') : AK B sa w0 c rb ao cap m r m2' ab a w' := by
  obtain ⟨s1, s2, s3, s4, s5, s6, s7⟩ := h.sep
  obtain ⟨l1, l2, l3⟩ := h.ck.lay
  refine ⟨⟨h.ck.mem.keep k (fun b (hb : b = r) => by omega), h.ck.se.keep k (fun b (hb : b = r) => by omega), h.ck.bel.trans (k.below h.ck.bel.size (fun b (hb : b = r) => by omega)), h.ck.lay⟩, h', k.get h.act (by omega), h.sep⟩
theorem AK.still (h : AK B sa w0 c rb ao cap m r m2 ab a w) (k : Keep (fun _ => False) w w') : AK B sa w0 c rb ao cap m r m2 ab a w' :=
  ⟨h.ck.still k, h.rc.keep k (fun h => h), k.get h.act (fun h => h), h.sep⟩
theorem AK.drew (h : AK B sa w0 c rb ao cap m r m2 ab a w) : AK B sa w0 c rb ao cap m r m2 ab a w.drew := h.still (keep_drew0 w)
theorem AK.drewN (h : AK B sa w0 c rb ao cap m r m2 ab a w) (n : Nat) : AK B sa w0 c rb ao cap m r m2 ab a (w.drewN n) := h.still (keep_drewN0 w n)
theorem AK.below (h : AK B sa w0 c rb ao cap m r m2 ab a w) (b : Below w.heap.size w w') : AK B sa w0 c rb ao cap m r m2 ab a w' := h.still (below_keep b)
theorem AK.cells (h : AK B sa w0 c rb ao cap m r m2 ab a w) : w.cell? ⟨ab, 0, none⟩ = some (.string a.kind) ∧ w.cell? ⟨ab, 1, none⟩ = some (.string a.b) ∧ w.cell? ⟨ab, 2, none⟩ = some (.int .i64 a.at_) ∧ w.cell? ⟨ab, 3, none⟩ = some (.int .i64 a.n) := by
  have := h.act
  simp [World.cell?, this, act1Cells]
end

/-- What a write makes of cells. -/
def actWM (m : CM) (at_ : Int) (s : ByteArray) : CM := if lookE m.off m.bs.length at_ s.size = 0 then writeM m at_.toNat s.data.toList else m
def actWE (m : CM) (at_ : Int) (s : ByteArray) : Nat := if lookE m.off m.bs.length at_ s.size = 0 then writeE m.cut s.size else lookE m.off m.bs.length at_ s.size
structure CMOk (m : CM) (k : Int) : Prop where
  c0 : -1 ≤ m.cut
  c1 : m.cut ≤ 9223372036854775807
  w0 : 0 ≤ m.wr
  w1 : m.wr ≤ k
theorem lookE_le (off : Bool) (len : Nat) (a n : Int) : lookE off len a n ≤ 8 := by unfold lookE; split; decide; split <;> decide
theorem actWE_le (m : CM) (a : Int) (s : ByteArray) : actWE m a s ≤ 11 := by
  unfold actWE
  split
  · unfold writeE; split <;> decide
  · have := lookE_le m.off m.bs.length a s.size; omega
theorem cutE_le (off : Bool) (n : Int) : cutE off n ≤ 11 := by unfold cutE; split; decide; split <;> decide
theorem lookE_zero {off : Bool} {len : Nat} {a n : Int} (h : lookE off len a n = 0) : off = false ∧ 0 ≤ a ∧ 0 ≤ n ∧ a + n ≤ len := by
  unfold lookE at h
  split at h
  · cases h
  · rename_i hc
    cases off
    · exact ⟨rfl, by omega, by omega, by omega⟩
    · simp at h
theorem writeN_le (cut : Int) (len : Nat) : writeN cut len ≤ len := by
  unfold writeN
  split
  · exact Nat.le_refl _
  · exact Nat.min_le_right _ _
theorem actWM_ok {m : CM} {k : Int} (h : CMOk m k) (a : Int) (s : ByteArray) (hs : s.size ≤ 200) : CMOk (actWM m a s) (k + 200) := by
  unfold actWM
  split
  · have hn := writeN_le m.cut s.size
    have h1 := h.c0
    have h2 := h.c1
    have h3 := h.w0
    have h4 := h.w1
    refine ⟨?_, ?_, ?_, ?_⟩
    · show -1 ≤ cutAt m.cut (writeN m.cut s.size)
      unfold cutAt
      split
      · omega
      · rename_i hne
        have : writeN m.cut s.size ≤ m.cut.toNat := by simp only [writeN, hne, if_false]; exact Nat.min_le_left _ _
        omega
    · show cutAt m.cut (writeN m.cut s.size) ≤ _
      unfold cutAt
      split <;> omega
    · show 0 ≤ m.wr + (writeN m.cut s.size : Int)
      omega
    · show m.wr + (writeN m.cut s.size : Int) ≤ k + 200
      omega
  · exact ⟨h.c0, h.c1, h.w0, by have := h.w1; omega⟩
theorem cutM_ok {m : CM} {k n : Int} (h : CMOk m k) (hn : n ≤ 9223372036854775807) : CMOk (cutM m n) k := by
  unfold cutM
  split
  · exact h
  · split
    · exact h
    · exact ⟨by show -1 ≤ n; omega, hn, h.w0, h.w1⟩
theorem CMOk.mono {m : CM} {k k' : Int} (h : CMOk m k) (hk : k ≤ k') : CMOk m k' := ⟨h.c0, h.c1, h.w0, by have := h.w1; omega⟩

set_option maxRecDepth 20000 in
set_option maxHeartbeats 1000000 in
/-- Write at cells of no bytes. -/
theorem cellsWrite_nil (B : Nat) (sa : Nat → Addr) (c rb : Nat) (ao : Option Addr) (cap : Nat) (m : CM) (at_ : Int) (s : ByteArray) (w : World) (h : CellsAt w c rb ao cap m) (hS : Sents B sa w) (hk : lookE m.off m.bs.length at_ s.size = 0) (hs : s.size = 0) :
    Calls Tryd.prog 37 #[.pointer (some ⟨c, 0, none⟩), .int .i64 at_, .string s] w fun e w' => e = .returned .nilIface ∧ w = w' := by
  have HS := Lib.hid hS
  have H := Lib.hid h
  have HK := Lib.hid hk
  have hz : ¬ (0 : Int) < s.size := by omega
  clear h hS hs hk
  go_enter Tryd.func37, Tryd.ntmps37
  go_wp2_with fail
  refine (look_any B sa c rb ao cap m at_ s.size w H.out HS.out).mono ?_
  rintro e w' ⟨rfl, rfl⟩
  rw [HK.out]
  rw [show errv sa 0 = .nilIface from rfl]
  go_wp2_with fail
  go_loop [19] (fun s19 => s19 = .int .i64 0) (fun _ => 0)
  case atStart => rfl
  case round =>
    obtain rfl := hrel
    go_wp2_with fail
    go_ret
    exact ⟨rfl, rfl⟩
theorem writeM_nil {m : CM} (a : Nat) (ho : m.off = false) : writeM m a [] = m := by
  have h0 : writeN m.cut 0 = 0 := Nat.le_zero.1 (writeN_le m.cut 0)
  show (⟨wBytes m.bs a [] (writeN m.cut 0), decide (writeN m.cut 0 < 0), cutAt m.cut (writeN m.cut 0), m.wr + writeN m.cut 0⟩ : CM) = m
  rw [h0, wBytes_zero, cutAt_zero]
  obtain ⟨bs, off, cut, wr⟩ := m
  simp only at ho
  subst ho
  simp
/-- Write, whatever is written where. -/
theorem ak_write (B : Nat) (sa : Nat → Addr) (w0 : World) (c rb : Nat) (ao : Option Addr) (cap : Nat) (m : CM) (at_ : Int) (s : ByteArray) (w : World) (h : CK B sa w0 c rb ao cap m w) (k : Int) (hm : CMOk m k) (hk : k ≤ 1000000000) :
    Calls Tryd.prog 37 #[.pointer (some ⟨c, 0, none⟩), .int .i64 at_, .string s] w fun e w' => e = .returned (errv sa (actWE m at_ s)) ∧ CellsAt w' c rb ao cap (actWM m at_ s) ∧ Keep (fun b => b = c ∨ b = rb) w w' := by
  unfold actWE actWM
  by_cases hE : lookE m.off m.bs.length at_ s.size = 0
  · rw [if_pos hE, if_pos hE]
    obtain ⟨ho, h0, h1, h2⟩ := lookE_zero hE
    obtain ⟨a, rfl⟩ : ∃ a : Nat, at_ = a := ⟨at_.toNat, by omega⟩
    rcases h.mem.at_ with rfl | ⟨hb, rfl⟩
    · have hw1 := hm.w1
      refine (cellsWrite_good B sa c rb cap m a s w h.mem h.se h.bot ho (by omega) hm.c0 hm.c1 hm.w0 (by omega)).mono ?_
      rintro e w' ⟨rfl, q1, q2⟩
      exact ⟨rfl, by simpa using q1, q2⟩
    · have hs0 : s.size = 0 := by rw [hb] at h2; simp at h2; omega
      refine (cellsWrite_nil B sa c rb none cap m a s w h.mem h.se hE hs0).mono ?_
      rintro e w' ⟨rfl, rfl⟩
      have hd : s.data.toList = [] := List.eq_nil_of_length_eq_zero hs0
      have he : writeE m.cut s.size = 0 := by
        have := writeN_le m.cut s.size
        unfold writeE
        rw [if_neg (by omega)]
      rw [hd, he, writeM_nil _ ho]
      exact ⟨rfl, h.mem, Keep.refl _ _⟩
  · rw [if_neg hE, if_neg hE]
    obtain ⟨j, hj⟩ : ∃ j, lookE m.off m.bs.length at_ s.size = j + 1 := ⟨_, (Nat.succ_pred_eq_of_pos (Nat.pos_of_ne_zero hE)).symm⟩
    rw [hj]
    refine (cellsWrite_bad B sa c rb ao cap m at_ s j w h.mem h.se hj).mono ?_
    rintro e w' ⟨rfl, rfl⟩
    exact ⟨rfl, h.mem, Keep.refl _ _⟩
theorem rk_write (r : Nat) (m : CM) (at_ : Int) (s : ByteArray) (w : World) (h : RC w r m) (k : Int) (hm : CMOk m k) (hk : k ≤ 1000000000) :
    Calls Tryd.prog 44 #[.pointer (some ⟨r, 0, none⟩), .int .i64 at_, .string s] w fun e w' => e = .returned (.int .i64 (actWE m at_ s : Nat)) ∧ RC w' r (actWM m at_ s) ∧ Keep (· = r) w w' := by
  unfold actWE actWM
  obtain ⟨left, cuts, h⟩ := h
  by_cases hE : lookE m.off m.bs.length at_ s.size = 0
  · rw [if_pos hE, if_pos hE]
    obtain ⟨ho, h0, h1, h2⟩ := lookE_zero hE
    obtain ⟨a, rfl⟩ : ∃ a : Nat, at_ = a := ⟨at_.toNat, by omega⟩
    have hw1 := hm.w1
    rcases h.rel with ⟨rfl, hcut⟩ | ⟨rfl, hcut, hl⟩
    · refine (rWrite_good r m left false a s w h ho (by omega) (fun h => by cases h) hm.w0 (by omega)).mono ?_
      rintro e w' ⟨rfl, q1, q2⟩
      exact ⟨rfl, by simpa using q1, q2⟩
    · refine (rWrite_good r m left true a s w h ho (by omega) (fun _ => by rw [← hcut]; exact hm.c1) hm.w0 (by omega)).mono ?_
      rintro e w' ⟨rfl, q1, q2⟩
      exact ⟨rfl, by simpa using q1, q2⟩
  · rw [if_neg hE, if_neg hE]
    obtain ⟨j, hj⟩ : ∃ j, lookE m.off m.bs.length at_ s.size = j + 1 := ⟨_, (Nat.succ_pred_eq_of_pos (Nat.pos_of_ne_zero hE)).symm⟩
    rw [hj]
    refine (rWrite_bad r m left cuts at_ s j w h hj).mono ?_
    rintro e w' ⟨rfl, rfl⟩
    exact ⟨rfl, ⟨_, _, h⟩, Keep.refl _ _⟩
end Go.Proofs.YtpodijlhlgbbdabDoor
