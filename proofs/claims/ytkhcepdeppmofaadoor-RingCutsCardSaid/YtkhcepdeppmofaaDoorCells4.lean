/- Package cells: From, Copy. -/
import Derived.Test.YtkhcepdeppmofaaDoorCells3
import Derived.Lib.BufferWrite
namespace Go.Proofs.YtkhcepdeppmofaaDoor
open Go.RowKit
set_option linter.unusedVariables false

theorem setRow_keep (w : World) (g : Nat) (cs : Array Value) : Keep (· = g) w (w.setRow g cs) :=
  ⟨rfl, rfl, rfl, by simp [World.setRow], fun k hk hs => setRow_other w g k cs hs⟩
theorem BytesAt.copied {w : World} {rb : Nat} {bs : List UInt8} (h : BytesAt w rb bs) (s : ByteArray) (hs : s.size = bs.length) :
    ∃ C, (∀ ty, (Builtin.copy_ #[63, 9] ty #[.slice (some ⟨rb, 0, none⟩) bs.length bs.length, .string s]).run Tryd.prog w = .ok (goInt s.size) (w.setRow rb C)) ∧ BytesAt (w.setRow rb C) rb s.data.toList := by
  obtain ⟨C, t, h1, h2, h3⟩ := h
  have hi : (Tryd.prog.info? 5).map (·.size) = some 1 := by kernel_rfl
  have hl : s.data.toList.length = s.size := rfl
  refine ⟨(C.toList.take 0 ++ Lib.byteCells s.data.toList ++ C.toList.drop (0 + s.size)).toArray, fun ty => Lib.run_copy_row_string w 63 9 ty 5 rb 0 bs.length bs.length s C t Tryd.underlying63 hi h1 (by omega) (by omega), ?_⟩
  refine ⟨_, t, setRow_heap w rb C _ t _ h1, ?_, fun i hi => ?_⟩
  · simp [Lib.byteCells]
  · simp [Lib.byteCells]
    rw [List.getElem?_append_left (by simpa using hi)]
    simp at hi
    simp [hi]
theorem CK.copied {B : Nat} {sa : Nat → Addr} {w0 w w' : World} {c rb cap : Nat} {m : CM} (h : CK B sa w0 c rb (some ⟨rb, 0, none⟩) cap m w) (k : Keep (· = rb) w w') (l : List UInt8) (hl : l.length = m.bs.length) (hb : BytesAt w' rb l) : CK B sa w0 c rb (some ⟨rb, 0, none⟩) cap ⟨l, m.off, m.cut, m.wr⟩ w' := by
  refine h.step (k.mono (fun _ _ h => .inr h)) ⟨?_, h.mem.ne, .inl rfl, fun _ => hb, by rw [hl]; exact h.mem.len, by rw [hl]; exact h.mem.room⟩
  rw [k.get h.mem.box (fun e => h.mem.ne e.symm)]
  simp [cellC, hl]

theorem ck_from (s : ByteArray) (B : Nat) (sa : Nat → Addr) (w0 w : World) (hS : Sents B sa w) (hb : Below w0.heap.size w0 w) (hB : B ≤ w0.heap.size) (hn : s.size ≤ 4096) :
    Calls Tryd.prog 33 #[.string s] w fun e w' => ∃ c rb, e = .returned (.tuple #[.pointer (some ⟨c, 0, none⟩), .nilIface]) ∧ CK B sa w0 c rb (some ⟨rb, 0, none⟩) s.size ⟨s.data.toList, false, -1, 0⟩ w' := by
  have HS := Lib.hid hS
  have HB := Lib.hid hb
  clear hS hb
  go_enter Tryd.func33, Tryd.ntmps33
  go_wp2_with fail
  refine (ck_new s.size w0 w HS.out HB.out hB hn).mono ?_
  rintro e w1 ⟨c, rb, rfl, h1⟩
  obtain ⟨c0, c1, c2, c3, cf⟩ := cells_cells h1.mem
  have hr := h1.mem.row rfl
  simp only at c0 c1 c2 c3 hr
  obtain ⟨C, hcp, hbn⟩ := hr.copied s (by simp)
  rw [List.length_replicate] at c0 hcp
  have H2 := Lib.hid (h1.copied (setRow_keep w1 rb C) s.data.toList (by show s.size = _; simp) hbn)
  clear hr hbn h1
  go_wp2_with fail
  go_ret2
  exact ⟨c, rb, rfl, H2.out⟩
theorem cellsFrom_out (B : Nat) (sa : Nat → Addr) (s : ByteArray) (w : World) (hS : Sents B sa w) (h : 4096 < s.size) :
    Calls Tryd.prog 33 #[.string s] w fun e w' => e = .returned (.tuple #[.pointer none, errv sa 2]) ∧ Below w.heap.size w w' := by
  have HS := Lib.hid hS
  clear hS
  go_enter Tryd.func33, Tryd.ntmps33
  go_wp2_with fail
  refine (cellsNew_out B sa s.size w HS.out (.inr (by omega))).mono ?_
  rintro e w1 ⟨rfl, b1⟩
  rw [show errv sa 2 = .iface 304 (.pointer (some (sa 1))) from rfl]
  go_wp2_with fail
  go_ret2
  exact ⟨rfl, b1⟩
end Go.Proofs.YtkhcepdeppmofaaDoor
