/- Package cells: Bytes, Read, On, Write. -/
import Derived.Test.YtkhcepdeppmofaaDoorCells
namespace Go.Proofs.YtkhcepdeppmofaaDoor
open Go.RowKit
set_option linter.unusedVariables false

def strOf (l : List UInt8) : ByteArray := ⟨l.toArray⟩
theorem run_bytes_str (w : World) (rb off cap : Nat) (l : List UInt8) (h : ∀ j (hj : j < l.length), w.cell? ⟨rb, off + j, none⟩ = some (.int .u8 (l[j].toNat : Int))) :
    (convert 63 9 (.slice (some ⟨rb, off, none⟩) l.length cap)).run Tryd.prog w = .ok (.string (strOf l)) w :=
  run_convert_bytes_back w 63 9 5 ⟨rb, off, none⟩ cap l Tryd.underlying63 Tryd.underlying5 Tryd.underlying9 (fun j hj => by rw [addr_add]; exact h j hj)
theorem run_bytes_nil (w : World) (cap : Nat) :
    (convert 63 9 (.slice none 0 cap)).run Tryd.prog w = .ok (.string (strOf [])) w :=
  run_convert_bytes_nil w 63 5 Tryd.underlying63 Tryd.underlying5 0 cap 9 Tryd.underlying9

/-- 'b[lo:hi]' of bytes: where it begins is one place, or another. -/
theorem run_sub_bytes (w : World) (rb cap len a n : Nat) (h1 : a + n ≤ cap) :
    ∃ A : Option Addr, (A = some ⟨rb, a, none⟩ ∨ (n = 0 ∧ ∃ o, A = some ⟨rb, o, none⟩)) ∧ (Instr.slice 63 (.slice (some ⟨rb, 0, none⟩) len cap) (some (.int .i64 a)) (some (.int .i64 ((a : Int) + n))) none).run Tryd.prog w = .ok (.slice A n (cap - a)) w := by
  have ht : Tryd.prog.underlying 63 = some (.slice (Tryd.prog.elem 63)) := by kernel_rfl
  have hs : ((sizeOf (Tryd.prog.elem 63)).run Tryd.prog w) = .ok 1 w := by kernel_rfl
  refine ⟨if cap = a then some ⟨rb, 0, none⟩ else (some ⟨rb, 0, none⟩ : Option Addr).map (·.add (a * 1)), ?_, ?_⟩
  · by_cases h : cap = a
    · right
      rw [if_pos h]
      exact ⟨by omega, 0, rfl⟩
    · left
      rw [if_neg h, Nat.mul_one]
      show some (Addr.add ⟨rb, 0, none⟩ a) = _
      rw [addr_add, Nat.zero_add]
  · rw [run_slice_lh w 63 (some ⟨rb, 0, none⟩) len cap ht .i64 .i64 a ((a : Int) + n) (by omega) (by omega) (by omega), hs]
    show Result.ok (sliced _ _ _ _ _) w = _
    unfold sliced
    rw [show ((a : Int)).toNat = a from by omega, show ((a : Int) + n).toNat = a + n from by omega, show a + n - a = n from by omega]

theorem cellsBytes_any (c rb : Nat) (ao : Option Addr) (cap : Nat) (m : CM) (w : World) (h : CellsAt w c rb ao cap m) : Calls Tryd.prog 31 #[.pointer (some ⟨c, 0, none⟩)] w fun e w' => e = .returned (.string (strOf m.bs)) ∧ w = w' := by
  obtain ⟨c0, c1, c2, c3, cf⟩ := cells_cells h
  rcases h.at_ with rfl | ⟨hb, rfl⟩
  · have hr := h.row rfl
    have hcv := run_bytes_str w rb 0 cap m.bs (fun j hj => by rw [Nat.zero_add]; exact hr.cell j hj)
    clear h hr
    go_enter Tryd.func31, Tryd.ntmps31
    go_wp2_with fail
    go_ret
    exact ⟨rfl, rfl⟩
  · rw [hb] at c0 ⊢
    have hcv := run_bytes_nil w cap
    clear h hb
    go_enter Tryd.func31, Tryd.ntmps31
    go_wp2_with fail
    go_ret
    exact ⟨rfl, rfl⟩

theorem cellsOn_any (c rb : Nat) (ao : Option Addr) (cap : Nat) (m : CM) (w : World) (h : CellsAt w c rb ao cap m) : Calls Tryd.prog 47 #[.pointer (some ⟨c, 0, none⟩)] w fun e w' => e = .returned (.tuple #[]) ∧ CellsAt w' c rb ao cap ⟨m.bs, false, -1, m.wr⟩ ∧ Keep (· = c) w w' := by
  obtain ⟨c0, c1, c2, c3, cf⟩ := cells_cells h
  have H1 := Lib.hid ((h.set1 false).set2 (-1))
  clear h
  go_enter Tryd.func47, Tryd.ntmps47
  go_wp2_with fail
  first | (go_end0; exact ⟨rfl, H1.out, (keep_set w c 1 _).trans (keep_set _ c 2 _)⟩) | (go_region; all_goals (go_wp2_with fail; go_end0; exact ⟨rfl, H1.out, ((keep_set w c 1 _).trans (keep_set _ c 2 _))⟩))

theorem cellsRead_bad (B : Nat) (sa : Nat → Addr) (c rb : Nat) (ao : Option Addr) (cap : Nat) (m : CM) (at_ n : Int) (k : Nat) (w : World) (h : CellsAt w c rb ao cap m) (hS : SentsR B sa w) (hk : lookE m.off m.bs.length at_ n = k + 1) :
    Calls Tryd.prog 66 #[.pointer (some ⟨c, 0, none⟩), .int .i64 at_, .int .i64 n] w fun e w' => e = .returned (.tuple #[.string (strOf []), errv sa (k + 1)]) ∧ w = w' := by
  have HS := Lib.hid hS
  have H := Lib.hid h
  clear h hS
  go_enter Tryd.func66, Tryd.ntmps66
  go_wp2_with fail
  refine (look_any B sa c rb ao cap m at_ n w H.out HS.out).mono ?_
  rintro e w' ⟨rfl, rfl⟩
  rw [hk]
  have he : errv sa (k + 1) = .iface 304 (.pointer (some (sa k))) := rfl
  rw [he]
  go_wp2_with fail
  go_ret2
  exact ⟨rfl, rfl⟩
set_option maxRecDepth 20000 in
theorem cellsRead_good (B : Nat) (sa : Nat → Addr) (c rb : Nat) (ao : Option Addr) (cap : Nat) (m : CM) (a n : Nat) (w : World) (h : CellsAt w c rb ao cap m) (hS : SentsR B sa w) (ho : m.off = false) (hn : a + n ≤ m.bs.length) :
    Calls Tryd.prog 66 #[.pointer (some ⟨c, 0, none⟩), .int .i64 a, .int .i64 n] w fun e w' => e = .returned (.tuple #[.string (strOf ((m.bs.drop a).take n)), .nilIface]) ∧ w = w' := by
  have HS := Lib.hid hS
  have H := Lib.hid h
  obtain ⟨c0, c1, c2, c3, cf⟩ := cells_cells h
  have hl := h.len
  have hrm := h.room
  have hk : lookE m.off m.bs.length a n = 0 := by rw [ho]; exact lookE_in (by omega)
  have hll : ((m.bs.drop a).take n).length = n := by simp; omega
  rcases h.at_ with rfl | ⟨hb, rfl⟩
  · have hr := h.row rfl
    obtain ⟨A, hA, hsl⟩ := run_sub_bytes w rb cap m.bs.length a n (by omega)
    have hcv : (convert 63 9 (.slice A n (cap - a))).run Tryd.prog w = .ok (.string (strOf ((m.bs.drop a).take n))) w := by
      rcases hA with rfl | ⟨hn0, o, rfl⟩
      · have := run_bytes_str w rb a (cap - a) ((m.bs.drop a).take n) (fun j hj => by rw [hll] at hj; rw [hr.cell (a + j) (by omega)]; simp)
        rw [hll] at this; exact this
      · subst hn0
        have := run_bytes_str w rb o (cap - a) [] (fun j hj => by simp at hj)
        simpa using this
    have HW := IntWalk.i64_in ((a : Int) + n) (by omega)
    clear h hS hr hll hA
    go_enter Tryd.func66, Tryd.ntmps66
    go_wp2_with fail
    refine (look_any B sa c rb _ cap m a n w H.out HS.out).mono ?_
    rintro e w' ⟨rfl, rfl⟩
    rw [hk]
    rw [show errv sa 0 = .nilIface from rfl]
    clear H HS hk
    go_wp2_with fail
    go_ret2
    exact ⟨rfl, rfl⟩
  · have ha0 : a = 0 := by rw [hb] at hn; simp at hn; omega
    have hn0 : n = 0 := by rw [hb] at hn; simp at hn; omega
    subst ha0; subst hn0
    have hsl : (Instr.slice 63 (.slice none m.bs.length cap) (some (.int .i64 ((0 : Nat) : Int))) (some (.int .i64 (((0 : Nat) : Int) + ((0 : Nat) : Int)))) none).run Tryd.prog w = .ok (.slice none 0 cap) w := by
      have ht : Tryd.prog.underlying 63 = some (.slice (Tryd.prog.elem 63)) := by kernel_rfl
      have hs : ((sizeOf (Tryd.prog.elem 63)).run Tryd.prog w) = .ok 1 w := by kernel_rfl
      rw [run_slice_lh w 63 none m.bs.length cap ht .i64 .i64 ((0 : Nat) : Int) (((0 : Nat) : Int) + ((0 : Nat) : Int)) (by omega) (by omega) (by omega), hs]
      show Result.ok (sliced _ _ _ _ _) w = _
      unfold sliced
      split <;> rfl
    have hcv := run_bytes_nil w cap
    simp only [Int.natCast_zero, Int.add_zero] at hsl hk ⊢
    clear h hS hll
    go_enter Tryd.func66, Tryd.ntmps66
    go_wp2_with fail
    refine (look_any B sa c rb _ cap m _ _ w H.out HS.out).mono ?_
    rintro e w' ⟨rfl, rfl⟩
    rw [hk]
    rw [show errv sa 0 = .nilIface from rfl]
    clear H HS hk
    go_wp2_with fail
    go_ret2
    exact ⟨by simp, rfl⟩

/-- What is written, byte by byte. -/
def wBytes (bs : List UInt8) (a : Nat) (l : List UInt8) (j : Nat) : List UInt8 := bs.take a ++ l.take j ++ bs.drop (a + j)
theorem wBytes_zero (bs : List UInt8) (a : Nat) (l : List UInt8) : wBytes bs a l 0 = bs := by simp [wBytes]
theorem wBytes_length (bs : List UInt8) (a : Nat) (l : List UInt8) (j : Nat) (hj : j ≤ l.length) (h : a + j ≤ bs.length) : (wBytes bs a l j).length = bs.length := by
  simp [wBytes]; omega
theorem wBytes_succ (bs : List UInt8) (a : Nat) (l : List UInt8) (j : Nat) (hj : j < l.length) (h : a + j < bs.length) : wBytes bs a l (j + 1) = (wBytes bs a l j).set (a + j) l[j] := by
  have h1 : (bs.take a ++ l.take j).length = a + j := by simp; omega
  unfold wBytes
  rw [List.take_succ_eq_append_getElem hj, List.set_append_right _ _ (by omega), h1, Nat.sub_self]
  rw [List.drop_eq_getElem_cons h, List.set_cons_zero, ← Nat.add_assoc]
  simp only [List.append_assoc, List.cons_append, List.nil_append]
def cutAt (cut : Int) (j : Nat) : Int := if cut = -1 then -1 else cut - j
theorem cutAt_zero (cut : Int) : cutAt cut 0 = cut := by unfold cutAt; split <;> omega
theorem cutAt_succ {cut : Int} {j : Nat} (h0 : -1 ≤ cut) (hj : cut = -1 ∨ (j : Int) < cut) : (if -1 < cutAt cut j - 1 then cutAt cut j - 1 else -1) = cutAt cut (j + 1) := by
  unfold cutAt
  by_cases h : cut = -1
  · simp [h]
  · simp only [h, if_false]
    split <;> omega
def writeN (cut : Int) (len : Nat) : Nat := if cut = -1 then len else min cut.toNat len
def writeM (m : CM) (a : Nat) (l : List UInt8) : CM := ⟨wBytes m.bs a l (writeN m.cut l.length), decide (writeN m.cut l.length < l.length), cutAt m.cut (writeN m.cut l.length), m.wr + writeN m.cut l.length⟩
def writeE (cut : Int) (len : Nat) : Nat := if writeN cut len < len then 8 else 0
theorem BytesAt.set {w : World} {rb : Nat} {bs : List UInt8} (h : BytesAt w rb bs) (i : Nat) (x : UInt8) (hi : i < bs.length) : BytesAt (w.setCell ⟨rb, i, none⟩ (.int .u8 (x.toNat : Int))) rb (bs.set i x) := by
  obtain ⟨C, t, h1, h2, h3⟩ := h
  refine ⟨C.setIfInBounds i (.int .u8 (x.toNat : Int)), t, get_setCell _ h1, by simpa using h2, fun j hj => ?_⟩
  simp at hj
  by_cases e : i = j
  · subst e
    have : i < C.size := by omega
    simp [this]
  · simp [e, h3 j hj]
theorem CellsAt.setB {w : World} {c rb : Nat} {cap : Nat} {m : CM} (h : CellsAt w c rb (some ⟨rb, 0, none⟩) cap m) (i : Nat) (x : UInt8) (hi : i < m.bs.length) : CellsAt (w.setCell ⟨rb, i, none⟩ (.int .u8 (x.toNat : Int))) c rb (some ⟨rb, 0, none⟩) cap ⟨m.bs.set i x, m.off, m.cut, m.wr⟩ := by
  refine ⟨?_, h.ne, .inl rfl, fun _ => (h.row rfl).set i x hi, by simpa using h.len, by simpa using h.room⟩
  have h1 := (keep_set w rb i (.int .u8 (x.toNat : Int))).get h.box (fun e => h.ne e.symm)
  rw [h1]
  simp [cellC]

set_option maxRecDepth 20000 in
set_option maxHeartbeats 2000000 in
theorem cellsWrite_good (B : Nat) (sa : Nat → Addr) (c rb : Nat) (cap : Nat) (m : CM) (a : Nat) (s : ByteArray) (w : World) (h : CellsAt w c rb (some ⟨rb, 0, none⟩) cap m) (hS : SentsR B sa w) (hB : B ≤ c ∧ B ≤ rb) (ho : m.off = false) (hn : a + s.size ≤ m.bs.length)
    (hc0 : -1 ≤ m.cut) (hc1 : m.cut ≤ 9223372036854775807) (hw0 : 0 ≤ m.wr) (hw1 : m.wr ≤ 1000000000) :
    Calls Tryd.prog 101 #[.pointer (some ⟨c, 0, none⟩), .int .i64 a, .string s] w fun e w' => e = .returned (errv sa (writeE m.cut s.size)) ∧ CellsAt w' c rb (some ⟨rb, 0, none⟩) cap (writeM m a s.data.toList) ∧ Keep (fun b => b = c ∨ b = rb) w w' := by
  have HS := Lib.hid hS
  have H := Lib.hid h
  have hl := h.len
  have hk : lookE m.off m.bs.length a s.size = 0 := by rw [ho]; exact lookE_in (by omega)
  have h0 : CellsAt w c rb (some ⟨rb, 0, none⟩) cap ⟨wBytes m.bs a s.data.toList 0, false, cutAt m.cut 0, m.wr + (0 : Nat)⟩ := by
    rw [wBytes_zero, cutAt_zero, ← ho, show m.wr + ((0 : Nat) : Int) = m.wr by omega]; exact h
  have H0 := Lib.hid h0
  have hK0 : Hid (Keep (fun b => b = c ∨ b = rb) w w) := Keep.refl _ _
  have hsz : s.data.toList.length = s.size := rfl
  clear h hS h0
  go_enter Tryd.func101, Tryd.ntmps101
  go_wp2_with fail
  refine (look_any B sa c rb _ cap m a s.size w H.out HS.out).mono ?_
  rintro e w' ⟨rfl, rfl⟩
  rw [hk]
  rw [show errv sa 0 = .nilIface from rfl]
  clear hk
  go_wp2_with fail
  go_loopw [19] (fun s19 wr => ∃ j : Nat, j ≤ writeN m.cut s.size ∧ j ≤ s.size ∧ s19 = .int .i64 j ∧ Hid (CellsAt wr c rb (some ⟨rb, 0, none⟩) cap ⟨wBytes m.bs a s.data.toList j, false, cutAt m.cut j, m.wr + j⟩) ∧ Hid (Keep (fun b => b = c ∨ b = rb) w wr)) (fun s19 _ => s.size - (intOf s19).toNat)
  case atStart => exact ⟨0, Nat.zero_le _, Nat.zero_le _, rfl, H0, hK0⟩
  case round =>
    obtain ⟨j, hjn, hj, rfl, hcm, hkp⟩ := hrel
    obtain ⟨c0, c1, c2, c3, cf⟩ := cells_cells hcm.out
    simp only at c0 c1 c2 c3
    rw [wBytes_length m.bs a s.data.toList j (by omega) (by omega)] at c0
    by_cases hlt : j < s.size
    · by_cases hz : cutAt m.cut j = 0
      · have hce : m.cut = j := by
          unfold cutAt at hz
          split at hz <;> omega
        have hwn : writeN m.cut s.size = j := by
          simp only [writeN, show ¬ m.cut = -1 by omega, if_false]; omega
        have C1 := hcm.out.set1 true
        have k1 := hkp.out.trans ((keep_set wr c 1 (.bool true)).mono (fun b _ hb => Or.inl hb))
        obtain ⟨g1, g2, g6, g7, _, _⟩ := (HS.out.keep k1 (fun b hb => by rcases hb with rfl | rfl; exact hB.1; exact hB.2))
        rw [hz] at c2
        have e2 : writeE m.cut s.size = 8 := by simp [writeE, hwn, hlt]
        have e3 : writeM m a s.data.toList = ⟨wBytes m.bs a s.data.toList j, true, cutAt m.cut j, m.wr + j⟩ := by
          show (⟨wBytes m.bs a s.data.toList (writeN m.cut s.size), decide (writeN m.cut s.size < s.size), cutAt m.cut (writeN m.cut s.size), m.wr + writeN m.cut s.size⟩ : CM) = _
          rw [hwn, decide_eq_true hlt]
        have E2 := Lib.hid e2
        have E3 := Lib.hid e3
        have C1H := Lib.hid C1
        have K1H := Lib.hid k1
        clear g1 g2 g6 C1 k1 e2 e3 hz hce hwn
        go_wp2_with fail
        go_ret
        rw [E2.out, E3.out]
        exact ⟨rfl, C1H.out, K1H.out⟩
      · have hz2 : (cutAt m.cut j == 0) = false := by simp [hz]
        have hr := hcm.out.row rfl
        have hrl : a + j < (wBytes m.bs a s.data.toList j).length := by rw [wBytes_length m.bs a s.data.toList j (by omega) (by omega)]; omega
        obtain ⟨vv, qv⟩ : ∃ vv, wr.cell? ⟨rb, a + j, none⟩ = some vv := ⟨_, hr.cell (a + j) hrl⟩
        have qf := hr.free
        have HR := Lib.hid hr
        have HAJ := IntWalk.i64_in ((a : Int) + j) (by omega)
        have hlt2 : (j : Int) < (s.size : Int) := by omega
        have haj2 : (a : Int) + j < (m.bs.length : Int) := by omega
        clear hr hrl
        go_upto_region 10 with fail
        go_region
        have hcs : m.cut = -1 ∨ (j : Int) < m.cut := by
          by_cases e : m.cut = -1
          · exact .inl e
          · right
            have e1 : cutAt m.cut j = m.cut - j := by simp [cutAt, e]
            have e2 : writeN m.cut s.size = min m.cut.toNat s.size := by simp [writeN, e]
            rw [e1] at hz
            rw [e2] at hjn
            omega
        have hjn2 : j + 1 ≤ writeN m.cut s.size := by
          by_cases e : m.cut = -1
          · simp [writeN, e]; omega
          · simp only [writeN, e, if_false]; omega
        have hcut2 := Lib.hid (cutAt_succ hc0 hcs)
        have hcub : -1 ≤ cutAt m.cut j ∧ cutAt m.cut j ≤ 9223372036854775807 := by unfold cutAt; split <;> omega
        have e1 : (wBytes m.bs a s.data.toList j).set (a + j) s[j] = wBytes m.bs a s.data.toList (j + 1) := (wBytes_succ m.bs a s.data.toList j (by omega) (by omega)).symm
        have cm1 := hcm.out.setB (a + j) s[j] (by simp only; rw [wBytes_length m.bs a s.data.toList j (by omega) (by omega)]; omega)
        simp only at cm1
        rw [e1] at cm1
        have kd : Keep (fun b => b = c ∨ b = rb) w ((wr.setCell ⟨rb, a + j, none⟩ (.int .u8 (s[j].toNat : Int))).drew) := (hkp.out.trans ((keep_set wr rb (a + j) _).mono (fun b _ hb => .inr hb))).drew
        have C1 := Lib.hid (cm1.keep (Keep.drew (Keep.refl (fun _ => False) _)) (fun _ h => h.elim))
        have K1 := Lib.hid kd
        clear cm1 kd e1 c0 c1 c2 c3 cf qv qf HR hkp hcm hz hz2
        generalize World.drew _ = w1 at C1 K1 ⊢
        obtain ⟨x0, x1, x2, x3, xf⟩ := cells_cells C1.out
        have C2 := Lib.hid (C1.out.set3 (m.wr + j + 1))
        have K2 := Lib.hid (K1.out.trans ((keep_set w1 c 3 (.int .i64 (m.wr + j + 1))).mono (fun b _ hb => .inl hb)))
        simp only at x0 x1 x2 x3
        go_upto_region 12 with fail
        generalize World.setCell _ _ _ = w2 at C2 K2 ⊢
        obtain ⟨y0, y1, y2, y3, yf⟩ := cells_cells C2.out
        simp only at y0 y1 y2 y3
        go_wp2_with fail
        rw [hcut2.out]
        have C3 := C2.out.set2 (cutAt m.cut (j + 1))
        simp only at C3
        rw [show m.wr + (j : Int) + 1 = m.wr + ((j + 1 : Nat) : Int) by omega] at C3
        have C3H := Lib.hid C3
        clear C3
        go_roundw
        case rel => exact ⟨j + 1, hjn2, by omega, by go_num, C3H, K2.out.trans ((keep_set w2 c 2 _).mono (fun b _ hb => .inl hb))⟩
        case measure => simp [intOf]; omega
    · obtain rfl : j = s.size := by omega
      have hwn : writeN m.cut s.size = s.size := by
        have : writeN m.cut s.size ≤ s.size := by unfold writeN; split; exact Nat.le_refl _; exact Nat.min_le_right _ _
        omega
      have e2 : writeE m.cut s.size = 0 := by simp [writeE, hwn]
      have e3 : writeM m a s.data.toList = ⟨wBytes m.bs a s.data.toList s.size, false, cutAt m.cut s.size, m.wr + s.size⟩ := by
        show (⟨wBytes m.bs a s.data.toList (writeN m.cut s.size), decide (writeN m.cut s.size < s.size), cutAt m.cut (writeN m.cut s.size), m.wr + writeN m.cut s.size⟩ : CM) = _
        rw [hwn, decide_eq_false (Nat.lt_irrefl _)]
      have E2 := Lib.hid e2
      have E3 := Lib.hid e3
      clear e2 e3 hwn
      go_wp2_with fail
      go_ret
      rw [E2.out, E3.out]
      exact ⟨rfl, hcm.out, hkp.out⟩
/-- What there is of cut and count. -/
structure CMOk (m : CM) (k : Int) : Prop where
  c0 : -1 ≤ m.cut
  c1 : m.cut ≤ 9223372036854775807
  w0 : 0 ≤ m.wr
  w1 : m.wr ≤ k
theorem CMOk.mono {m : CM} {k k' : Int} (h : CMOk m k) (hk : k ≤ k') : CMOk m k' := ⟨h.c0, h.c1, h.w0, by have := h.w1; omega⟩
end Go.Proofs.YtkhcepdeppmofaaDoor
