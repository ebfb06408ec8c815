/- Cells among a statement's memory; the closed fact "stays". -/
import Derived.Test.YtkhcepdeppmofaaDoorCells2
namespace Go.Proofs.YtkhcepdeppmofaaDoor
open Go.RowKit
set_option linter.unusedVariables false

structure CK (B : Nat) (sa : Nat → Addr) (w0 : World) (c rb : Nat) (ao : Option Addr) (cap : Nat) (m : CM) (w : World) : Prop where
  mem : CellsAt w c rb ao cap m
  se : Sents B sa w
  bel : Below w0.heap.size w0 w
  lay : w0.heap.size ≤ c ∧ w0.heap.size ≤ rb ∧ B ≤ w0.heap.size
section
variable {B : Nat} {sa : Nat → Addr} {w0 w w' : World} {c rb : Nat} {ao : Option Addr} {cap : Nat} {m m' : CM}
theorem CK.step (h : CK B sa w0 c rb ao cap m w) (k : Keep (fun b => b = c ∨ b = rb) w w') (h' : CellsAt w' c rb ao cap m') : CK B sa w0 c rb ao cap m' w' := by
  obtain ⟨h1, h2, h3⟩ := h.lay
  exact ⟨h', h.se.keep k (fun b hb => by rcases hb with rfl | rfl <;> omega), h.bel.trans (k.below h.bel.size (fun b hb => by rcases hb with rfl | rfl <;> omega)), h.lay⟩
theorem CK.stepC (h : CK B sa w0 c rb ao cap m w) (k : Keep (· = c) w w') (h' : CellsAt w' c rb ao cap m') : CK B sa w0 c rb ao cap m' w' := h.step (k.mono (fun _ _ h => .inl h)) h'
theorem CK.still (h : CK B sa w0 c rb ao cap m w) (k : Keep (fun _ => False) w w') : CK B sa w0 c rb ao cap m w' := h.step (k.mono (fun _ _ h => h.elim)) (h.mem.keep k (fun _ h => h.elim))
theorem CK.below (h : CK B sa w0 c rb ao cap m w) (b : Below w.heap.size w w') : CK B sa w0 c rb ao cap m w' := h.still (below_keep b)
theorem CK.bot (h : CK B sa w0 c rb ao cap m w) : B ≤ c ∧ B ≤ rb := by
  obtain ⟨h1, h2, h3⟩ := h.lay
  omega
theorem ck_new (n : Nat) (w0 w : World) (hS : Sents B sa w) (hb : Below w0.heap.size w0 w) (hB : B ≤ w0.heap.size) (hn : n ≤ 4096) :
    Calls Tryd.prog 28 #[.int .i64 n] w fun e w' => ∃ c rb, e = .returned (.tuple #[.pointer (some ⟨c, 0, none⟩), .nilIface]) ∧ CK B sa w0 c rb (some ⟨rb, 0, none⟩) n ⟨List.replicate n 0, false, -1, 0⟩ w' := by
  refine (cellsNew_in n w hn).mono ?_
  rintro e w' ⟨rfl, h1, h2⟩
  have := hb.size
  exact ⟨_, _, rfl, h1, hS.below h2, hb.trans (h2.mono hb.size), by omega, by omega, hB⟩
end

set_option maxHeartbeats 1000000 in
theorem cellsWrite_bad (B : Nat) (sa : Nat → Addr) (c rb : Nat) (ao : Option Addr) (cap : Nat) (m : CM) (at_ : Int) (s : ByteArray) (k : Nat) (w : World) (h : CellsAt w c rb ao cap m) (hS : SentsR B sa w) (hk : lookE m.off m.bs.length at_ s.size = k + 1) :
    Calls Tryd.prog 101 #[.pointer (some ⟨c, 0, none⟩), .int .i64 at_, .string s] w fun e w' => e = .returned (errv sa (k + 1)) ∧ w = w' := by
  have HS := Lib.hid hS
  have H := Lib.hid h
  clear h hS
  go_enter Tryd.func101, Tryd.ntmps101
  go_wp2_with fail
  refine (look_any B sa c rb ao cap m at_ s.size w H.out HS.out).mono ?_
  rintro e w' ⟨rfl, rfl⟩
  rw [hk]
  have he : errv sa (k + 1) = .iface 304 (.pointer (some (sa k))) := rfl
  rw [he]
  go_wp2_with fail
  go_ret
  exact ⟨rfl, rfl⟩

def abS : ByteArray := ⟨#[97, 98]⟩
theorem stays_m : writeM ⟨List.replicate 4 0, false, -1, 0⟩ 1 abS.data.toList = ⟨[0, 97, 98, 0], false, -1, 2⟩ := by rfl

end Go.Proofs.YtkhcepdeppmofaaDoor
