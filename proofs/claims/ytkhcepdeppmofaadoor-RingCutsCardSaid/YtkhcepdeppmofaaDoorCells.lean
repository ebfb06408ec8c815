/- Package cells: bytes that stay: New, look, Cut, On, Power, Written, Bytes. -/
import Derived.Test.YtkhcepdeppmofaaDoorSents
import Derived.Deep.OwnRows
import Derived.Laws.IdiomStrings
import Derived.IntWalk
namespace Go.Proofs.YtkhcepdeppmofaaDoor
open Go.RowKit
set_option linter.unusedVariables false

structure CM where
  bs : List UInt8
  off : Bool
  cut : Int
  wr : Int
/-- A row of bytes. -/
def BytesAt (w : World) (rb : Nat) (bs : List UInt8) : Prop := ∃ C t, w.heap[rb]? = some (.cells C t (0, 0)) ∧ bs.length ≤ C.size ∧ ∀ i (hi : i < bs.length), C[i]? = some (.int .u8 (bs[i].toNat : Int))
def cellC (ao : Option Addr) (cap : Nat) (m : CM) : Obj := .cells #[.slice ao m.bs.length cap, .bool m.off, .int .i64 m.cut, .int .i64 m.wr] 126
structure CellsAt (w : World) (c rb : Nat) (ao : Option Addr) (cap : Nat) (m : CM) : Prop where
  box : w.heap[c]? = some (cellC ao cap m)
  ne : rb ≠ c
  at_ : ao = some ⟨rb, 0, none⟩ ∨ (m.bs = [] ∧ ao = none)
  row : ao = some ⟨rb, 0, none⟩ → BytesAt w rb m.bs
  len : m.bs.length ≤ 4096
  room : m.bs.length ≤ cap
theorem BytesAt.cell {w : World} {rb : Nat} {bs : List UInt8} (h : BytesAt w rb bs) (i : Nat) (hi : i < bs.length) : w.cell? ⟨rb, i, none⟩ = some (.int .u8 (bs[i].toNat : Int)) := by
  obtain ⟨C, t, h1, h2, h3⟩ := h
  simp [World.cell?, h1, h3 i hi]
theorem BytesAt.free {w : World} {rb : Nat} {bs : List UInt8} (h : BytesAt w rb bs) (o : Nat) : w.frozen? ⟨rb, o, none⟩ = false := by
  obtain ⟨C, t, h1, h2, h3⟩ := h
  simp [World.frozen?, h1]
theorem BytesAt.keep {S : Nat → Prop} {w w' : World} {rb : Nat} {bs : List UInt8} (h : BytesAt w rb bs) (k : Keep S w w') (hS : ¬ S rb) : BytesAt w' rb bs := by
  obtain ⟨C, t, h1, h2, h3⟩ := h
  exact ⟨C, t, k.get h1 hS, h2, h3⟩
theorem cells_cells {w : World} {c rb : Nat} {ao : Option Addr} {cap : Nat} {m : CM} (h : CellsAt w c rb ao cap m) :
    w.cell? ⟨c, 0, none⟩ = some (.slice ao m.bs.length cap) ∧ w.cell? ⟨c, 1, none⟩ = some (.bool m.off) ∧ w.cell? ⟨c, 2, none⟩ = some (.int .i64 m.cut) ∧ w.cell? ⟨c, 3, none⟩ = some (.int .i64 m.wr) ∧ ∀ o, w.frozen? ⟨c, o, none⟩ = false := by
  have h := h.box
  unfold cellC at h
  simp [World.cell?, World.frozen?, h]
theorem CellsAt.keep {S : Nat → Prop} {w w' : World} {c rb : Nat} {ao : Option Addr} {cap : Nat} {m : CM} (h : CellsAt w c rb ao cap m) (k : Keep S w w') (hS : ∀ b, S b → b ≠ c ∧ b ≠ rb) : CellsAt w' c rb ao cap m :=
  ⟨k.get h.box (fun hs => (hS _ hs).1 rfl), h.ne, h.at_, fun e => (h.row e).keep k (fun hs => (hS _ hs).2 rfl), h.len, h.room⟩
theorem CellsAt.set1 {w : World} {c rb : Nat} {ao : Option Addr} {cap : Nat} {m : CM} (h : CellsAt w c rb ao cap m) (x : Bool) : CellsAt (w.setCell ⟨c, 1, none⟩ (.bool x)) c rb ao cap { m with off := x } := by
  refine ⟨?_, h.ne, h.at_, fun e => (h.row e).keep (keep_set w c 1 (.bool x)) h.ne, h.len, h.room⟩
  have h := h.box
  unfold cellC at h ⊢
  rw [get_setCell _ h]; rfl
theorem CellsAt.set2 {w : World} {c rb : Nat} {ao : Option Addr} {cap : Nat} {m : CM} (h : CellsAt w c rb ao cap m) (x : Int) : CellsAt (w.setCell ⟨c, 2, none⟩ (.int .i64 x)) c rb ao cap { m with cut := x } := by
  refine ⟨?_, h.ne, h.at_, fun e => (h.row e).keep (keep_set w c 2 (.int .i64 x)) h.ne, h.len, h.room⟩
  have h := h.box
  unfold cellC at h ⊢
  rw [get_setCell _ h]; rfl
theorem CellsAt.set3 {w : World} {c rb : Nat} {ao : Option Addr} {cap : Nat} {m : CM} (h : CellsAt w c rb ao cap m) (x : Int) : CellsAt (w.setCell ⟨c, 3, none⟩ (.int .i64 x)) c rb ao cap { m with wr := x } := by
  refine ⟨?_, h.ne, h.at_, fun e => (h.row e).keep (keep_set w c 3 (.int .i64 x)) h.ne, h.len, h.room⟩
  have h := h.box
  unfold cellC at h ⊢
  rw [get_setCell _ h]; rfl
theorem Tryd.infoByte : (Tryd.prog.info? 5).map (fun i => (i.zero, i.size, i.bytes)) = some (some (.int .u8 0), 1, 1) := by kernel_rfl
theorem BytesAt.made (w : World) (n : Nat) (t : TypeId) : BytesAt (w.alloc (.cells (madeCells #[.int .u8 0] n) t)) w.heap.size (List.replicate n 0) := by
  refine ⟨_, t, get_alloc_new _ _, by simp [size_madeCells], fun i hi => ?_⟩
  simp at hi
  simp [madeCells, hi, Nat.mod_one]

theorem cellsNew_in (n : Nat) (w : World) (hn : n ≤ 4096) :
    Calls Tryd.prog 28 #[.int .i64 n] w fun e w' => e = .returned (.tuple #[.pointer (some ⟨w.heap.size + 1, 0, none⟩), .nilIface]) ∧ CellsAt w' (w.heap.size + 1) w.heap.size (some ⟨w.heap.size, 0, none⟩) n ⟨List.replicate n 0, false, -1, 0⟩ ∧ Below w.heap.size w w' := by
  have hmk := run_make_row' (P := Tryd.prog) 63 5 (.int .u8 0) 1 Tryd.underlying63 Tryd.infoByte rfl .i64 .i64 n (by omega) (by omega)
  have r1 := BytesAt.made w n 5
  have b1 : Below w.heap.size w (w.alloc (.cells (madeCells #[.int .u8 0] n) 5)) := (Below.refl _ _).alloc (Nat.le_refl _) _
  have hs1 : (w.alloc (.cells (madeCells #[.int .u8 0] n) 5)).heap.size = w.heap.size + 1 := World.size_alloc _ _
  have HR := Lib.hid r1
  have HB := Lib.hid b1
  have HS1 := Lib.hid hs1
  clear r1 b1 hs1
  have h0 : ¬ (n : Int) < 0 := by omega
  have h1 : ¬ (4096 : Int) < n := by omega
  go_enter Tryd.func28, Tryd.ntmps28
  go_wp2_with fail
  generalize w.alloc _ = w1 at HR HB HS1 ⊢
  refine bodyPost_ret (results_tmp2 rfl _ _ _) rfl ?_
  rw [← HS1.out]
  refine ⟨rfl, ⟨?_, by have := HS1.out; omega, .inl rfl, fun _ => HR.out.keep (below_keep ((Below.refl _ _).alloc (Nat.le_refl _) _)) (fun h => h), by simpa using hn, by simp⟩, HB.out.alloc HB.out.size _⟩
  have := get_alloc_new w1 (cellC (some ⟨w.heap.size, 0, none⟩) n ⟨List.replicate n 0, false, -1, 0⟩)
  rw [← this]
  simp [cellC]
theorem cellsNew_out (B : Nat) (sa : Nat → Addr) (n : Int) (w : World) (hS : SentsR B sa w) (h : n < 0 ∨ 4096 < n) :
    Calls Tryd.prog 28 #[.int .i64 n] w fun e w' => e = .returned (.tuple #[.pointer none, errv sa 2]) ∧ Below w.heap.size w w' := by
  obtain ⟨g1, g2, g6, g7, _, _⟩ := hS
  clear g2 g6 g7
  by_cases h1 : n < 0
  · clear h
    go_enter Tryd.func28, Tryd.ntmps28
    go_wp2_with fail
    go_quiet (fail)
    go_wp2_with fail
    go_ret2
    exact ⟨rfl, below_drewN' _ (Below.refl _ _)⟩
  · have h4 : 4096 < n := by omega
    clear h
    go_enter Tryd.func28, Tryd.ntmps28
    go_wp2_with fail
    go_quiet (fail)
    go_wp2_with fail
    go_ret2
    exact ⟨rfl, below_drewN' _ (Below.refl _ _)⟩

/-- What is wrong about where is read, or written: an error's number. -/
def lookE (off : Bool) (len : Nat) (at_ n : Int) : Nat := if at_ < 0 ∨ n < 0 ∨ (len : Int) < at_ ∨ (len : Int) - at_ < n then 2 else if off = true then 8 else 0
theorem lookE_out {off : Bool} {len : Nat} {at_ n : Int} (h : at_ < 0 ∨ n < 0 ∨ (len : Int) < at_ ∨ (len : Int) - at_ < n) : lookE off len at_ n = 2 := if_pos h
theorem lookE_off {len : Nat} {at_ n : Int} (h : ¬ (at_ < 0 ∨ n < 0 ∨ (len : Int) < at_ ∨ (len : Int) - at_ < n)) : lookE true len at_ n = 8 := by simp [lookE, h]
theorem lookE_in {len : Nat} {at_ n : Int} (h : ¬ (at_ < 0 ∨ n < 0 ∨ (len : Int) < at_ ∨ (len : Int) - at_ < n)) : lookE false len at_ n = 0 := by simp [lookE, h]

set_option maxHeartbeats 1000000 in
theorem look_any (B : Nat) (sa : Nat → Addr) (c rb : Nat) (ao : Option Addr) (cap : Nat) (m : CM) (at_ n : Int) (w : World) (h : CellsAt w c rb ao cap m) (hS : SentsR B sa w) :
    Calls Tryd.prog 96 #[.pointer (some ⟨c, 0, none⟩), .int .i64 at_, .int .i64 n] w fun e w' => e = .returned (errv sa (lookE m.off m.bs.length at_ n)) ∧ w = w' := by
  obtain ⟨c0, c1, c2, c3, cf⟩ := cells_cells h
  obtain ⟨g1, g2, g6, g7, _, _⟩ := hS
  have hlen := h.len
  clear h g2 g6
  by_cases h1 : at_ < 0
  · rw [lookE_out (.inl h1)]
    go_enter Tryd.func96, Tryd.ntmps96
    go_wp2_with fail
    go_ret
    exact ⟨rfl, rfl⟩
  by_cases h2 : n < 0
  · rw [lookE_out (.inr (.inl h2))]
    go_enter Tryd.func96, Tryd.ntmps96
    go_wp2_with fail
    go_ret
    exact ⟨rfl, rfl⟩
  by_cases h3 : (m.bs.length : Int) < at_
  · rw [lookE_out (.inr (.inr (.inl h3)))]
    go_enter Tryd.func96, Tryd.ntmps96
    go_wp2_with fail
    go_ret
    exact ⟨rfl, rfl⟩
  by_cases h4 : (m.bs.length : Int) - at_ < n
  · rw [lookE_out (.inr (.inr (.inr h4)))]
    go_enter Tryd.func96, Tryd.ntmps96
    go_wp2_with fail
    go_ret
    exact ⟨rfl, rfl⟩
  have hno : ¬ (at_ < 0 ∨ n < 0 ∨ (m.bs.length : Int) < at_ ∨ (m.bs.length : Int) - at_ < n) := by omega
  cases ho : m.off
  · rw [ho] at c1
    rw [lookE_in hno]
    clear hno
    go_enter Tryd.func96, Tryd.ntmps96
    go_wp2_with fail
    go_ret
    exact ⟨rfl, rfl⟩
  · rw [ho] at c1
    rw [lookE_off hno]
    clear hno
    go_enter Tryd.func96, Tryd.ntmps96
    go_wp2_with fail
    go_ret
    exact ⟨rfl, rfl⟩

def cutE (off : Bool) (n : Int) : Nat := if n < 0 then 2 else if off = true then 8 else 0
def cutM (m : CM) (n : Int) : CM := if n < 0 then m else if m.off = true then m else { m with cut := n }
theorem cellsCut_any (B : Nat) (sa : Nat → Addr) (c rb : Nat) (ao : Option Addr) (cap : Nat) (m : CM) (n : Int) (w : World) (h : CellsAt w c rb ao cap m) (hS : SentsR B sa w) :
    Calls Tryd.prog 46 #[.pointer (some ⟨c, 0, none⟩), .int .i64 n] w fun e w' => e = .returned (errv sa (cutE m.off n)) ∧ CellsAt w' c rb ao cap (cutM m n) ∧ Keep (· = c) w w' := by
  obtain ⟨c0, c1, c2, c3, cf⟩ := cells_cells h
  obtain ⟨g1, g2, g6, g7, _, _⟩ := hS
  have H := Lib.hid h
  clear h g2 g6
  unfold cutE cutM
  by_cases h1 : n < 0
  · rw [if_pos h1, if_pos h1]
    go_enter Tryd.func46, Tryd.ntmps46
    go_wp2_with fail
    go_ret
    exact ⟨rfl, H.out, Keep.refl _ _⟩
  rw [if_neg h1, if_neg h1]
  cases ho : m.off
  · rw [ho] at c1
    rw [if_neg (by decide), if_neg (by decide)]
    go_enter Tryd.func46, Tryd.ntmps46
    go_wp2_with fail
    go_ret
    have e := H.out.set2 n
    rw [ho] at e
    exact ⟨rfl, e, keep_set w c 2 _⟩
  · rw [ho] at c1
    rw [if_pos rfl, if_pos rfl]
    go_enter Tryd.func46, Tryd.ntmps46
    go_wp2_with fail
    go_ret
    exact ⟨rfl, H.out, Keep.refl _ _⟩
theorem cellsWritten_any (c rb : Nat) (ao : Option Addr) (cap : Nat) (m : CM) (w : World) (h : CellsAt w c rb ao cap m) : Calls Tryd.prog 43 #[.pointer (some ⟨c, 0, none⟩)] w fun e w' => e = .returned (.int .i64 m.wr) ∧ w = w' := by
  obtain ⟨c0, c1, c2, c3, cf⟩ := cells_cells h
  clear h
  go_enter Tryd.func43, Tryd.ntmps43
  go_wp2_with fail
  go_ret
  exact ⟨rfl, rfl⟩
end Go.Proofs.YtkhcepdeppmofaaDoor
