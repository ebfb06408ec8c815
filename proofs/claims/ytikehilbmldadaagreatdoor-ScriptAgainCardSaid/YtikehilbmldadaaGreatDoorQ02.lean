import Derived.Test.YtikehilbmldadaaGreatDoorQ01
import Derived.Laws.BitsAllLaws
import Derived.Deep.RegionHeld3
set_option maxHeartbeats 2000000
set_option maxRecDepth 20000
namespace Go.Proofs.YtikehilbmldadaaGreatDoor
open Go.RowKit
set_option linter.unusedVariables false
def strOf (l : List UInt8) : ByteArray := ⟨l.toArray⟩
theorem run_bytes_str (w : World) (rb off cap : Nat) (l : List UInt8) (h : ∀ j (hj : j < l.length), w.cell? ⟨rb, off + j, none⟩ = some (.int .u8 (l[j].toNat : Int))) :
    (convert 85 9 (.slice (some ⟨rb, off, none⟩) l.length cap)).run Tryz.prog w = .ok (.string (strOf l)) w :=
  run_convert_bytes_back w 85 9 5 ⟨rb, off, none⟩ cap l Tryz.underlying85 Tryz.underlying5 Tryz.underlying9 (fun j hj => by rw [addr_add]; exact h j hj)
theorem run_bytes_nil (w : World) (cap : Nat) :
    (convert 85 9 (.slice none 0 cap)).run Tryz.prog w = .ok (.string (strOf [])) w :=
  run_convert_bytes_nil w 85 5 Tryz.underlying85 Tryz.underlying5 0 cap 9 Tryz.underlying9
theorem run_sub_bytes (w : World) (rb cap len a n : Nat) (h1 : a + n ≤ cap) :
    ∃ A : Option Addr, (A = some ⟨rb, a, none⟩ ∨ (n = 0 ∧ ∃ o, A = some ⟨rb, o, none⟩)) ∧ (Instr.slice 85 (.slice (some ⟨rb, 0, none⟩) len cap) (some (.int .i64 a)) (some (.int .i64 ((a : Int) + n))) none).run Tryz.prog w = .ok (.slice A n (cap - a)) w := by
  have ht : Tryz.prog.underlying 85 = some (.slice (Tryz.prog.elem 85)) := by kernel_rfl
  have hs : ((sizeOf (Tryz.prog.elem 85)).run Tryz.prog w) = .ok 1 w := by kernel_rfl
  refine ⟨if cap = a then some ⟨rb, 0, none⟩ else (some ⟨rb, 0, none⟩ : Option Addr).map (·.add (a * 1)), ?_, ?_⟩
  · by_cases h : cap = a
    · right
      rw [if_pos h]
      exact ⟨by omega, 0, rfl⟩
    · left
      rw [if_neg h, Nat.mul_one]
      show some (Addr.add ⟨rb, 0, none⟩ a) = _
      rw [addr_add, Nat.zero_add]
  · rw [run_slice_lh w 85 (some ⟨rb, 0, none⟩) len cap ht .i64 .i64 a ((a : Int) + n) (by omega) (by omega) (by omega), hs]
    show Result.ok (sliced _ _ _ _ _) w = _
    unfold sliced
    rw [show ((a : Int)).toNat = a from by omega, show ((a : Int) + n).toNat = a + n from by omega, show a + n - a = n from by omega]
theorem cellsOn_any (c rb : Nat) (ao : Option Addr) (cap : Nat) (m : CM) (w : World) (h : CellsAt w c rb ao cap m) : Calls Tryz.prog 187 #[.pointer (some ⟨c, 0, none⟩)] w fun e w' => e = .returned (.tuple #[]) ∧ CellsAt w' c rb ao cap ⟨m.bs, false, -1, m.wr⟩ ∧ Keep (· = c) w w' := by
  obtain ⟨c0, c1, c2, c3, cf⟩ := cells_cells h
  have H1 := Lib.hid ((h.set1 false).set2 (-1))
  clear h
  go_enter Tryz.func187, Tryz.ntmps187
  go_wp2_with fail
  first | (go_end0; exact ⟨rfl, H1.out, (keep_set w c 1 _).trans (keep_set _ c 2 _)⟩) | (go_region; all_goals (go_wp2_with fail; go_end0; exact ⟨rfl, H1.out, ((keep_set w c 1 _).trans (keep_set _ c 2 _))⟩))
theorem cellsRead_bad (B : Nat) (sa : Nat → Addr) (c rb : Nat) (ao : Option Addr) (cap : Nat) (m : CM) (at_ n : Int) (k : Nat) (w : World) (h : CellsAt w c rb ao cap m) (hS : SentsR B sa w) (hk : lookE m.off m.bs.length at_ n = k + 1) :
    Calls Tryz.prog 182 #[.pointer (some ⟨c, 0, none⟩), .int .i64 at_, .int .i64 n] w fun e w' => e = .returned (.tuple #[.string (strOf []), errv sa (k + 1)]) ∧ w = w' := by
  have HS := Lib.hid hS
  have H := Lib.hid h
  clear h hS
  go_enter Tryz.func182, Tryz.ntmps182
  go_wp2_with fail
  refine (look_any B sa c rb ao cap m at_ n w H.out HS.out).mono ?_
  rintro e w' ⟨rfl, rfl⟩
  rw [hk]
  have he : errv sa (k + 1) = .iface 372 (.pointer (some (sa k))) := rfl
  rw [he]
  go_wp2_with fail
  go_ret2
  exact ⟨rfl, rfl⟩
theorem cellsRead_good (B : Nat) (sa : Nat → Addr) (c rb : Nat) (ao : Option Addr) (cap : Nat) (m : CM) (a n : Nat) (w : World) (h : CellsAt w c rb ao cap m) (hS : SentsR B sa w) (ho : m.off = false) (hn : a + n ≤ m.bs.length) :
    Calls Tryz.prog 182 #[.pointer (some ⟨c, 0, none⟩), .int .i64 a, .int .i64 n] w fun e w' => e = .returned (.tuple #[.string (strOf ((m.bs.drop a).take n)), .nilIface]) ∧ w = w' := by
  have HS := Lib.hid hS
  have H := Lib.hid h
  obtain ⟨c0, c1, c2, c3, cf⟩ := cells_cells h
  have hl := h.len
  have hrm := h.room
  have hk : lookE m.off m.bs.length a n = 0 := by rw [ho]; exact lookE_in (by omega)
  have hll : ((m.bs.drop a).take n).length = n := by simp; omega
  rcases h.at_ with rfl | ⟨hb, rfl⟩
  · have hr := h.row rfl
    obtain ⟨A, hA, hsl⟩ := run_sub_bytes w rb cap m.bs.length a n (by omega)
    have hcv : (convert 85 9 (.slice A n (cap - a))).run Tryz.prog w = .ok (.string (strOf ((m.bs.drop a).take n))) w := by
      rcases hA with rfl | ⟨hn0, o, rfl⟩
      · have := run_bytes_str w rb a (cap - a) ((m.bs.drop a).take n) (fun j hj => by rw [hll] at hj; rw [hr.cell (a + j) (by omega)]; simp)
        rw [hll] at this; exact this
      · subst hn0
        have := run_bytes_str w rb o (cap - a) [] (fun j hj => by simp at hj)
        simpa using this
    have HW := IntWalk.i64_in ((a : Int) + n) (by omega)
    clear h hS hr hll hA
    go_enter Tryz.func182, Tryz.ntmps182
    go_wp2_with fail
    refine (look_any B sa c rb _ cap m a n w H.out HS.out).mono ?_
    rintro e w' ⟨rfl, rfl⟩
    rw [hk]
    rw [show errv sa 0 = .nilIface from rfl]
    clear H HS hk
    go_wp2_with fail
    go_ret2
    exact ⟨rfl, rfl⟩
  · have ha0 : a = 0 := by rw [hb] at hn; simp at hn; omega
    have hn0 : n = 0 := by rw [hb] at hn; simp at hn; omega
    subst ha0; subst hn0
    have hsl : (Instr.slice 85 (.slice none m.bs.length cap) (some (.int .i64 ((0 : Nat) : Int))) (some (.int .i64 (((0 : Nat) : Int) + ((0 : Nat) : Int)))) none).run Tryz.prog w = .ok (.slice none 0 cap) w := by
      have ht : Tryz.prog.underlying 85 = some (.slice (Tryz.prog.elem 85)) := by kernel_rfl
      have hs : ((sizeOf (Tryz.prog.elem 85)).run Tryz.prog w) = .ok 1 w := by kernel_rfl
      rw [run_slice_lh w 85 none m.bs.length cap ht .i64 .i64 ((0 : Nat) : Int) (((0 : Nat) : Int) + ((0 : Nat) : Int)) (by omega) (by omega) (by omega), hs]
      show Result.ok (sliced _ _ _ _ _) w = _
      unfold sliced
      split <;> rfl
    have hcv := run_bytes_nil w cap
    simp only [Int.natCast_zero, Int.add_zero] at hsl hk ⊢
    clear h hS hll
    go_enter Tryz.func182, Tryz.ntmps182
    go_wp2_with fail
    refine (look_any B sa c rb _ cap m _ _ w H.out HS.out).mono ?_
    rintro e w' ⟨rfl, rfl⟩
    rw [hk]
    rw [show errv sa 0 = .nilIface from rfl]
    clear H HS hk
    go_wp2_with fail
    go_ret2
    exact ⟨by simp, rfl⟩
def wBytes (bs : List UInt8) (a : Nat) (l : List UInt8) (j : Nat) : List UInt8 := bs.take a ++ l.take j ++ bs.drop (a + j)
theorem wBytes_zero (bs : List UInt8) (a : Nat) (l : List UInt8) : wBytes bs a l 0 = bs := by simp [wBytes]
theorem wBytes_length (bs : List UInt8) (a : Nat) (l : List UInt8) (j : Nat) (hj : j ≤ l.length) (h : a + j ≤ bs.length) : (wBytes bs a l j).length = bs.length := by
  simp [wBytes]; omega
theorem wBytes_succ (bs : List UInt8) (a : Nat) (l : List UInt8) (j : Nat) (hj : j < l.length) (h : a + j < bs.length) : wBytes bs a l (j + 1) = (wBytes bs a l j).set (a + j) l[j] := by
  have h1 : (bs.take a ++ l.take j).length = a + j := by simp; omega
  unfold wBytes
  rw [List.take_succ_eq_append_getElem hj, List.set_append_right _ _ (by omega), h1, Nat.sub_self]
  rw [List.drop_eq_getElem_cons h, List.set_cons_zero, ← Nat.add_assoc]
  simp only [List.append_assoc, List.cons_append, List.nil_append]
def cutAt (cut : Int) (j : Nat) : Int := if cut = -1 then -1 else cut - j
theorem cutAt_zero (cut : Int) : cutAt cut 0 = cut := by unfold cutAt; split <;> omega
theorem cutAt_succ {cut : Int} {j : Nat} (h0 : -1 ≤ cut) (hj : cut = -1 ∨ (j : Int) < cut) : (if -1 < cutAt cut j - 1 then cutAt cut j - 1 else -1) = cutAt cut (j + 1) := by
  unfold cutAt
  by_cases h : cut = -1
  · simp [h]
  · simp only [h, if_false]
    split <;> omega
def writeN (cut : Int) (len : Nat) : Nat := if cut = -1 then len else min cut.toNat len
def writeM (m : CM) (a : Nat) (l : List UInt8) : CM := ⟨wBytes m.bs a l (writeN m.cut l.length), decide (writeN m.cut l.length < l.length), cutAt m.cut (writeN m.cut l.length), m.wr + writeN m.cut l.length⟩
def writeE (cut : Int) (len : Nat) : Nat := if writeN cut len < len then 8 else 0
theorem BytesAt.set {w : World} {rb : Nat} {bs : List UInt8} (h : BytesAt w rb bs) (i : Nat) (x : UInt8) (hi : i < bs.length) : BytesAt (w.setCell ⟨rb, i, none⟩ (.int .u8 (x.toNat : Int))) rb (bs.set i x) := by
  obtain ⟨C, t, h1, h2, h3⟩ := h
  refine ⟨C.setIfInBounds i (.int .u8 (x.toNat : Int)), t, get_setCell _ h1, by simpa using h2, fun j hj => ?_⟩
  simp at hj
  by_cases e : i = j
  · subst e
    have : i < C.size := by omega
    simp [this]
  · simp [e, h3 j hj]
theorem CellsAt.setB {w : World} {c rb : Nat} {cap : Nat} {m : CM} (h : CellsAt w c rb (some ⟨rb, 0, none⟩) cap m) (i : Nat) (x : UInt8) (hi : i < m.bs.length) : CellsAt (w.setCell ⟨rb, i, none⟩ (.int .u8 (x.toNat : Int))) c rb (some ⟨rb, 0, none⟩) cap ⟨m.bs.set i x, m.off, m.cut, m.wr⟩ := by
  refine ⟨?_, h.ne, .inl rfl, fun _ => (h.row rfl).set i x hi, by simpa using h.len, by simpa using h.room⟩
  have h1 := (keep_set w rb i (.int .u8 (x.toNat : Int))).get h.box (fun e => h.ne e.symm)
  rw [h1]
  simp [cellC]
theorem cellsWrite_good (B : Nat) (sa : Nat → Addr) (c rb : Nat) (cap : Nat) (m : CM) (a : Nat) (s : ByteArray) (w : World) (h : CellsAt w c rb (some ⟨rb, 0, none⟩) cap m) (hS : SentsR B sa w) (hB : B ≤ c ∧ B ≤ rb) (ho : m.off = false) (hn : a + s.size ≤ m.bs.length)
    (hc0 : -1 ≤ m.cut) (hc1 : m.cut ≤ 9223372036854775807) (hw0 : 0 ≤ m.wr) (hw1 : m.wr ≤ 1000000000) :
    Calls Tryz.prog 239 #[.pointer (some ⟨c, 0, none⟩), .int .i64 a, .string s] w fun e w' => e = .returned (errv sa (writeE m.cut s.size)) ∧ CellsAt w' c rb (some ⟨rb, 0, none⟩) cap (writeM m a s.data.toList) ∧ Keep (fun b => b = c ∨ b = rb) w w' := by
  have HS := Lib.hid hS
  have H := Lib.hid h
  have hl := h.len
  have hk : lookE m.off m.bs.length a s.size = 0 := by rw [ho]; exact lookE_in (by omega)
  have h0 : CellsAt w c rb (some ⟨rb, 0, none⟩) cap ⟨wBytes m.bs a s.data.toList 0, false, cutAt m.cut 0, m.wr + (0 : Nat)⟩ := by
    rw [wBytes_zero, cutAt_zero, ← ho, show m.wr + ((0 : Nat) : Int) = m.wr by omega]; exact h
  have H0 := Lib.hid h0
  have hK0 : Hid (Keep (fun b => b = c ∨ b = rb) w w) := Keep.refl _ _
  have hsz : s.data.toList.length = s.size := rfl
  clear h hS h0
  go_enter Tryz.func239, Tryz.ntmps239
  go_wp2_with fail
  refine (look_any B sa c rb _ cap m a s.size w H.out HS.out).mono ?_
  rintro e w' ⟨rfl, rfl⟩
  rw [hk]
  rw [show errv sa 0 = .nilIface from rfl]
  clear hk
  go_wp2_with fail
  go_loopw [19] (fun s19 wr => ∃ j : Nat, j ≤ writeN m.cut s.size ∧ j ≤ s.size ∧ s19 = .int .i64 j ∧ Hid (CellsAt wr c rb (some ⟨rb, 0, none⟩) cap ⟨wBytes m.bs a s.data.toList j, false, cutAt m.cut j, m.wr + j⟩) ∧ Hid (Keep (fun b => b = c ∨ b = rb) w wr)) (fun s19 _ => s.size - (intOf s19).toNat)
  case atStart => exact ⟨0, Nat.zero_le _, Nat.zero_le _, rfl, H0, hK0⟩
  case round =>
    obtain ⟨j, hjn, hj, rfl, hcm, hkp⟩ := hrel
    obtain ⟨c0, c1, c2, c3, cf⟩ := cells_cells hcm.out
    simp only at c0 c1 c2 c3
    rw [wBytes_length m.bs a s.data.toList j (by omega) (by omega)] at c0
    by_cases hlt : j < s.size
    · by_cases hz : cutAt m.cut j = 0
      · have hce : m.cut = j := by
          unfold cutAt at hz
          split at hz <;> omega
        have hwn : writeN m.cut s.size = j := by
          simp only [writeN, show ¬ m.cut = -1 by omega, if_false]; omega
        have C1 := hcm.out.set1 true
        have k1 := hkp.out.trans ((keep_set wr c 1 (.bool true)).mono (fun b _ hb => Or.inl hb))
        obtain ⟨g1, g2, g6, g7, _, _⟩ := (HS.out.keep k1 (fun b hb => by rcases hb with rfl | rfl; exact hB.1; exact hB.2))
        rw [hz] at c2
        have e2 : writeE m.cut s.size = 8 := by simp [writeE, hwn, hlt]
        have e3 : writeM m a s.data.toList = ⟨wBytes m.bs a s.data.toList j, true, cutAt m.cut j, m.wr + j⟩ := by
          show (⟨wBytes m.bs a s.data.toList (writeN m.cut s.size), decide (writeN m.cut s.size < s.size), cutAt m.cut (writeN m.cut s.size), m.wr + writeN m.cut s.size⟩ : CM) = _
          rw [hwn, decide_eq_true hlt]
        have E2 := Lib.hid e2
        have E3 := Lib.hid e3
        have C1H := Lib.hid C1
        have K1H := Lib.hid k1
        clear g1 g2 g6 C1 k1 e2 e3 hz hce hwn
        go_wp2_with fail
        go_ret
        rw [E2.out, E3.out]
        exact ⟨rfl, C1H.out, K1H.out⟩
      · have hz2 : (cutAt m.cut j == 0) = false := by simp [hz]
        have hr := hcm.out.row rfl
        have hrl : a + j < (wBytes m.bs a s.data.toList j).length := by rw [wBytes_length m.bs a s.data.toList j (by omega) (by omega)]; omega
        obtain ⟨vv, qv⟩ : ∃ vv, wr.cell? ⟨rb, a + j, none⟩ = some vv := ⟨_, hr.cell (a + j) hrl⟩
        have qf := hr.free
        have HR := Lib.hid hr
        have HAJ := IntWalk.i64_in ((a : Int) + j) (by omega)
        have hlt2 : (j : Int) < (s.size : Int) := by omega
        have haj2 : (a : Int) + j < (m.bs.length : Int) := by omega
        clear hr hrl
        go_upto_region 10 with fail
        go_region
        have hcs : m.cut = -1 ∨ (j : Int) < m.cut := by
          by_cases e : m.cut = -1
          · exact .inl e
          · right
            have e1 : cutAt m.cut j = m.cut - j := by simp [cutAt, e]
            have e2 : writeN m.cut s.size = min m.cut.toNat s.size := by simp [writeN, e]
            rw [e1] at hz
            rw [e2] at hjn
            omega
        have hjn2 : j + 1 ≤ writeN m.cut s.size := by
          by_cases e : m.cut = -1
          · simp [writeN, e]; omega
          · simp only [writeN, e, if_false]; omega
        have hcut2 := Lib.hid (cutAt_succ hc0 hcs)
        have hcub : -1 ≤ cutAt m.cut j ∧ cutAt m.cut j ≤ 9223372036854775807 := by unfold cutAt; split <;> omega
        have e1 : (wBytes m.bs a s.data.toList j).set (a + j) s[j] = wBytes m.bs a s.data.toList (j + 1) := (wBytes_succ m.bs a s.data.toList j (by omega) (by omega)).symm
        have cm1 := hcm.out.setB (a + j) s[j] (by simp only; rw [wBytes_length m.bs a s.data.toList j (by omega) (by omega)]; omega)
        simp only at cm1
        rw [e1] at cm1
        have kd : Keep (fun b => b = c ∨ b = rb) w ((wr.setCell ⟨rb, a + j, none⟩ (.int .u8 (s[j].toNat : Int))).drew) := (hkp.out.trans ((keep_set wr rb (a + j) _).mono (fun b _ hb => .inr hb))).drew
        have C1 := Lib.hid (cm1.keep (Keep.drew (Keep.refl (fun _ => False) _)) (fun _ h => h.elim))
        have K1 := Lib.hid kd
        clear cm1 kd e1 c0 c1 c2 c3 cf qv qf HR hkp hcm hz hz2
        generalize World.drew _ = w1 at C1 K1 ⊢
        obtain ⟨x0, x1, x2, x3, xf⟩ := cells_cells C1.out
        have C2 := Lib.hid (C1.out.set3 (m.wr + j + 1))
        have K2 := Lib.hid (K1.out.trans ((keep_set w1 c 3 (.int .i64 (m.wr + j + 1))).mono (fun b _ hb => .inl hb)))
        simp only at x0 x1 x2 x3
        go_upto_region 12 with fail
        generalize World.setCell _ _ _ = w2 at C2 K2 ⊢
        obtain ⟨y0, y1, y2, y3, yf⟩ := cells_cells C2.out
        simp only at y0 y1 y2 y3
        go_wp2_with fail
        rw [hcut2.out]
        have C3 := C2.out.set2 (cutAt m.cut (j + 1))
        simp only at C3
        rw [show m.wr + (j : Int) + 1 = m.wr + ((j + 1 : Nat) : Int) by omega] at C3
        have C3H := Lib.hid C3
        clear C3
        go_roundw
        case rel => exact ⟨j + 1, hjn2, by omega, by go_num, C3H, K2.out.trans ((keep_set w2 c 2 _).mono (fun b _ hb => .inl hb))⟩
        case measure => simp [intOf]; omega
    · obtain rfl : j = s.size := by omega
      have hwn : writeN m.cut s.size = s.size := by
        have : writeN m.cut s.size ≤ s.size := by unfold writeN; split; exact Nat.le_refl _; exact Nat.min_le_right _ _
        omega
      have e2 : writeE m.cut s.size = 0 := by simp [writeE, hwn]
      have e3 : writeM m a s.data.toList = ⟨wBytes m.bs a s.data.toList s.size, false, cutAt m.cut s.size, m.wr + s.size⟩ := by
        show (⟨wBytes m.bs a s.data.toList (writeN m.cut s.size), decide (writeN m.cut s.size < s.size), cutAt m.cut (writeN m.cut s.size), m.wr + writeN m.cut s.size⟩ : CM) = _
        rw [hwn, decide_eq_false (Nat.lt_irrefl _)]
      have E2 := Lib.hid e2
      have E3 := Lib.hid e3
      clear e2 e3 hwn
      go_wp2_with fail
      go_ret
      rw [E2.out, E3.out]
      exact ⟨rfl, hcm.out, hkp.out⟩
structure CMOk (m : CM) (k : Int) : Prop where
  c0 : -1 ≤ m.cut
  c1 : m.cut ≤ 9223372036854775807
  w0 : 0 ≤ m.wr
  w1 : m.wr ≤ k
theorem CMOk.mono {m : CM} {k k' : Int} (h : CMOk m k) (hk : k ≤ k') : CMOk m k' := ⟨h.c0, h.c1, h.w0, by have := h.w1; omega⟩
theorem xor_byte_lt {c : Nat} {b : UInt8} (h : c < 4294967296) : c ^^^ b.toNat < 4294967296 := by
  refine Nat.xor_lt_two_pow (n := 32) h ?_
  have := b.toNat_lt
  omega
theorem crcFold_take (l : List UInt8) (k : Nat) (hk : k < l.length) (c : Nat) : crcFold (l.take (k + 1)) c = crcByte (crcFold (l.take k) c) l[k] := by
  rw [List.take_succ_eq_append_getElem hk, crcFold_snoc]
theorem xor_all {c : Nat} (h : c < 4294967296) : 4294967295 ^^^ c = 4294967295 - c := by
  have e := congrArg BitVec.toNat (BitVec.xor_allOnes (x := BitVec.ofNat 32 c))
  rw [BitVec.toNat_xor, BitVec.toNat_not, BitVec.toNat_ofNat, BitVec.toNat_allOnes, Nat.mod_eq_of_lt (show c < 2 ^ 32 by omega), Nat.xor_comm] at e
  exact e
theorem bit_u32 {d : Nat} (h : d < 4294967296) : bits .xor .u32 ((d : Int) / 2) (3988292384 * bits .and .u32 (d : Int) 1 % 4294967296) = ((crcBit d : Nat) : Int) := by
  rw [show (1 : Int) = ((1 : Nat) : Int) from rfl, u32_and_nat d 1 h (by decide), nat_mask1, show ((d : Int) / 2) = ((d / 2 : Nat) : Int) by omega]
  unfold crcBit
  by_cases e : d % 2 = 1
  · rw [if_pos e, e]
    exact u32_xor_nat (d / 2) 3988292384 (by omega) (by decide)
  · rw [if_neg e, show d % 2 = 0 by omega]
    exact u32_xor_nat (d / 2) 0 (by omega) (by decide)
theorem sum_any (s : ByteArray) (w : World) (hs : s.size ≤ 100000) : Calls Tryz.prog 262 #[.string s] w fun e w' => e = .returned (.int .i64 (crc s.data.toList : Nat)) ∧ w = w' := by
  have hlen : s.data.toList.length = s.size := rfl
  have HLEN := Lib.hid hlen
  clear hlen
  go_enter Tryz.func262, Tryz.ntmps262
  go_wp2_with fail
  go_loop [3, 7] (fun s3 s7 => ∃ k : Nat, k ≤ s.size ∧ s3 = .int .u32 (crcFold (s.data.toList.take k) 4294967295 : Nat) ∧ s7 = .int .i64 k) (fun _ s7 => s.size - (intOf s7).toNat)
  case atStart => exact ⟨0, Nat.zero_le _, rfl, rfl⟩
  case round =>
    obtain ⟨k, hk, rfl, rfl⟩ := hrel
    have hc : crcFold (s.data.toList.take k) 4294967295 < 4294967296 := crcFold_lt (by decide)
    by_cases hlt : k < s.size
    · have hT := Lib.hid (crcFold_take s.data.toList k (by rw [HLEN.out]; exact hlt) 4294967295)
      obtain ⟨c, hcc⟩ : ∃ c, c = crcFold (s.data.toList.take k) 4294967295 := ⟨_, rfl⟩
      rw [← hcc] at hc hT ⊢
      have hb := s[k].toNat_lt
      have hx : bits .xor .u32 (c : Int) ((s[k].toNat : Int) % 4294967296) = ((c ^^^ s[k].toNat : Nat) : Int) := by
        rw [show (s[k].toNat : Int) % 4294967296 = (s[k].toNat : Int) by omega]
        exact u32_xor_nat c _ hc (by omega)
      have hd : c ^^^ s[k].toNat < 4294967296 := xor_byte_lt hc
      have HCC := Lib.hid hcc
      have HC := Lib.hid hc
      have HD := Lib.hid hd
      clear hcc hc hb hd
      go_wp2_with fail
      go_loop [3, 16] (fun s3 s16 => ∃ j : Nat, j ≤ 8 ∧ s3 = .int .u32 (crcIter j (c ^^^ s[k].toNat) : Nat) ∧ s16 = .int .i64 j) (fun _ s16 => 8 - (intOf s16).toNat)
      case atStart => exact ⟨0, Nat.zero_le _, rfl, rfl⟩
      case round =>
        obtain ⟨j, hj, rfl, rfl⟩ := hrel
        clear hx
        by_cases hlt8 : j < 8
        · have hq : crcIter j (c ^^^ s[k].toNat) < 4294967296 := crcIter_lt HD.out
          have hS : Hid (crcIter (j + 1) (c ^^^ s[k].toNat) = crcBit (crcIter j (c ^^^ s[k].toNat))) := (rfl : crcIter (j + 1) (c ^^^ s[k].toNat) = crcBit (crcIter j (c ^^^ s[k].toNat)))
          generalize crcIter j (c ^^^ s[k].toNat) = d at hq hS ⊢
          have hB := Lib.hid (bit_u32 hq)
          go_wp2_with fail
          go_round
          case rel => exact ⟨j + 1, by omega, by rw [hB.out, hS.out], by go_num⟩
          case measure => simp [intOf]; omega
        · have h8 : j = 8 := by omega
          go_wp2_with fail
          go_round
          case rel => exact ⟨k + 1, by omega, by rw [hT.out, h8]; rfl, by go_num⟩
          case measure => simp [intOf]; omega
    · have hN : bits .xor .u32 IntKind.u32.max (crcFold (s.data.toList.take k) 4294967295 : Nat) = ((4294967295 - crcFold (s.data.toList.take k) 4294967295 : Nat) : Int) := by
        rw [show IntKind.u32.max = ((4294967295 : Nat) : Int) from rfl, u32_xor_nat _ _ (by decide) hc, xor_all hc]
      have hw : IntKind.i64.wrap ((4294967295 - crcFold (s.data.toList.take k) 4294967295 : Nat) : Int) = ((4294967295 - crcFold (s.data.toList.take k) 4294967295 : Nat) : Int) := IntWalk.i64_in _ (by omega)
      have hE : Hid (4294967295 - crcFold (s.data.toList.take k) 4294967295 = crc s.data.toList) := (show 4294967295 - crcFold (s.data.toList.take k) 4294967295 = crc s.data.toList from by
        unfold crc
        rw [List.take_of_length_le (by rw [HLEN.out]; omega)])
      go_wp2_with fail
      go_ret
      exact ⟨ret_int (by rw [hE.out]; exact IntWalk.wrap64_in ((crc s.data.toList : Nat) : Int) (by have := crc_lt s.data.toList; omega)), rfl⟩
theorem beB_cons : ∀ (i n : Nat), beB (i + 1) n = UInt8.ofNat (n / 256 ^ i) :: beB i n
  | 0, n => by simp [beB]
  | i + 1, n => by
    rw [beB, beB_cons i (n / 256), beB, List.cons_append, Nat.div_div_eq_div_mul, Nat.pow_succ, Nat.mul_comm]
def numL (many n i : Nat) : List UInt8 := List.replicate (many - i) 0 ++ beB i n
theorem numL_length {many n i : Nat} (h : i ≤ many) : (numL many n i).length = many := by simp [numL, beB_length]; omega
theorem numL_succ {many n i : Nat} (h : i < many) : (numL many n i).set (many - 1 - i) (UInt8.ofNat (n / 256 ^ i)) = numL many n (i + 1) := by
  unfold numL
  rw [beB_cons, show many - i = (many - 1 - i) + 1 by omega, List.replicate_succ', List.append_assoc, List.set_append_right _ _ (by simp), show many - (i + 1) = many - 1 - i by omega]
  simp
theorem byte_of (n i : Nat) : ((n : Int) / 2 ^ (8 * i) % 256) = ((UInt8.ofNat (n / 256 ^ i)).toNat : Int) := by
  rw [UInt8.toNat_ofNat', show (256 : Nat) ^ i = 2 ^ (8 * i) by rw [Nat.pow_mul]]
  simp
theorem ringNumber_any (n many : Nat) (hm : many ≤ 8) (hn : n < 9223372036854775808) (w : World) : Calls Tryz.prog 261 #[.int .i64 n, .int .i64 many] w fun e w' => e = .returned (.string (strOf (beB many n))) ∧ Below w.heap.size w w' := by
  have hmk := run_make_row' (P := Tryz.prog) 85 5 (.int .u8 0) 1 Tryz.underlying85 Tryz.infoByte rfl .i64 .i64 many (by omega) (by omega)
  have r1 := BytesAt.made w many 5
  have b1 : Below w.heap.size w (w.alloc (.cells (madeCells #[.int .u8 0] many) 5)) := (Below.refl _ _).alloc (Nat.le_refl _) _
  have HR := Lib.hid r1
  have HB := Lib.hid b1
  clear r1 b1
  go_enter Tryz.func261, Tryz.ntmps261
  go_wp2_with fail
  generalize w.alloc _ = w1 at HR HB ⊢
  go_loopw [10] (fun s10 wr => ∃ i : Nat, i ≤ many ∧ s10 = .int .i64 i ∧ Hid (BytesAt wr w.heap.size (numL many n i)) ∧ Hid (Below w.heap.size w wr)) (fun s10 _ => many - (intOf s10).toNat)
  case atStart => exact ⟨0, Nat.zero_le _, rfl, (show Hid (BytesAt w1 w.heap.size (numL many n 0)) from by unfold numL; rw [Nat.sub_zero, show beB 0 n = [] from rfl, List.append_nil]; exact HR), HB⟩
  case round =>
    obtain ⟨i, hi, rfl, hr, hb⟩ := hrel
    clear HR HB
    by_cases hlt : i < many
    · have hl := numL_length (n := n) hi
      obtain ⟨vv, qv⟩ : ∃ vv, wr.cell? ⟨w.heap.size, many - 1 - i, none⟩ = some vv := ⟨_, hr.out.cell (many - 1 - i) (by omega)⟩
      have qf := hr.out.free
      clear hl
      go_wp2_with fail
      go_round
      case rel =>
        rw [byte_of]
        refine ⟨i + 1, by omega, by go_num, (show Hid _ from ?_), (show Below _ _ _ from hb.out.trans ((keep_set wr w.heap.size (many - 1 - i) _).below hb.out.size (fun b hb => by omega)))⟩
        have := hr.out.set (many - 1 - i) (UInt8.ofNat (n / 256 ^ i)) (by rw [numL_length hi]; omega)
        rw [numL_succ hlt] at this
        exact this
      case measure => simp [intOf]; omega
    · have e : i = many := by omega
      subst e
      have hcv := run_bytes_str wr w.heap.size 0 i (numL i n i) (fun j hj => by rw [Nat.zero_add]; exact hr.out.cell j hj)
      rw [numL_length (Nat.le_refl _)] at hcv
      have HE : Hid (numL i n i = beB i n) := (show numL i n i = beB i n from by simp [numL])
      go_wp2_with fail
      go_ret
      exact ⟨by rw [HE.out]; rfl, hb.out⟩
theorem readB_take (l : List UInt8) (k : Nat) (hk : k < l.length) : readB (l.take (k + 1)) = 256 * readB (l.take k) + l[k].toNat := by
  rw [List.take_succ_eq_append_getElem hk, readB_snoc]
theorem i64_or_nat (a b : Nat) (ha : a < 9223372036854775808) (hb : b < 9223372036854775808) : bits .or .i64 (a : Int) (b : Int) = ((a ||| b : Nat) : Int) := by
  have hx : a ||| b < 2 ^ 63 := Nat.or_lt_two_pow (by omega) (by omega)
  show IntKind.i64.wrap ((BitVec.ofInt 64 (a : Int) ||| BitVec.ofInt 64 (b : Int)).toNat : Int) = _
  rw [BitVec.toNat_or, ofInt_u64 a (by omega), ofInt_u64 b (by omega)]
  exact IntWalk.i64_in _ (by omega)
theorem or_byte (c b : Nat) (hc : c < 1099511627776) (hb : b < 256) : bits .or .i64 ((c : Int) * 256) (wrap64 (b : Int)) = ((256 * c + b : Nat) : Int) := by
  rw [show wrap64 (b : Int) = (b : Int) from IntWalk.wrap64_in _ (by omega), show (c : Int) * 256 = ((256 * c : Nat) : Int) by omega, i64_or_nat _ _ (by omega) (by omega), nat_join 8 _ _ (by omega) (by omega)]
theorem ringRead_any (s : ByteArray) (hs : s.size ≤ 6) (w : World) : Calls Tryz.prog 226 #[.string s] w fun e w' => e = .returned (.int .i64 (readB s.data.toList : Nat)) ∧ w = w' := by
  have hlen : s.data.toList.length = s.size := rfl
  have HLEN := Lib.hid hlen
  clear hlen
  go_enter Tryz.func226, Tryz.ntmps226
  go_wp2_with fail
  go_loop [3, 7] (fun s3 s7 => ∃ k : Nat, k ≤ s.size ∧ s3 = .int .i64 (readB (s.data.toList.take k) : Nat) ∧ s7 = .int .i64 k) (fun _ s7 => s.size - (intOf s7).toNat)
  case atStart => exact ⟨0, Nat.zero_le _, rfl, rfl⟩
  case round =>
    obtain ⟨k, hk, rfl, rfl⟩ := hrel
    by_cases hlt : k < s.size
    · have hT := Lib.hid (readB_take s.data.toList k (by rw [HLEN.out]; exact hlt))
      have hb := readB_lt (s.data.toList.take k)
      have hbl : (s.data.toList.take k).length ≤ 5 := by simp; omega
      have hb2 : readB (s.data.toList.take k) < 1099511627776 := Nat.lt_of_lt_of_le hb (Nat.pow_le_pow_right (n := 256) (by decide) hbl)
      obtain ⟨c, hcc⟩ : ∃ c, c = readB (s.data.toList.take k) := ⟨_, rfl⟩
      rw [← hcc] at hb2 hT ⊢
      have hO := or_byte c s[k].toNat hb2 s[k].toNat_lt
      clear hb hbl hcc
      go_wp2_with fail
      go_round
      case rel => exact ⟨k + 1, by omega, by rw [hT.out]; rfl, by go_num⟩
      case measure => simp [intOf]; omega
    · have HE : Hid (readB (s.data.toList.take k) = readB s.data.toList) := (show readB (s.data.toList.take k) = readB s.data.toList from by rw [List.take_of_length_le (by rw [HLEN.out]; omega)])
      go_wp2_with fail
      go_ret
      exact ⟨ret_int (by rw [HE.out]), rfl⟩
theorem strOf_append (a b : List UInt8) : strOf a ++ strOf b = strOf (a ++ b) := by
  apply ByteArray.ext
  rw [ByteArray.data_append]
  simp [strOf]
theorem strOf_data (l : List UInt8) : (strOf l).data.toList = l := by simp [strOf]
theorem strOf_size (l : List UInt8) : (strOf l).size = l.length := by simp [strOf, ByteArray.size]
def recAgg (r : RecV) : Value := .agg #[.int .i64 r.seq, .int .i64 r.ent, .int .i64 r.kind, .int .i64 r.tick]
def recC (r : RecV) : Obj := .cells #[.int .i64 r.seq, .int .i64 r.ent, .int .i64 r.kind, .int .i64 r.tick] 147
structure RecSm (r : RecV) : Prop where
  s : r.seq < 9223372036854775808
  e : r.ent < 9223372036854775808
  k : r.kind < 9223372036854775808
  t : r.tick < 9223372036854775808
theorem RecOk.sm {r : RecV} (h : RecOk r) : RecSm r := ⟨by have := h.s2; omega, by have := h.e; omega, by have := h.k; omega, by have := h.t; omega⟩
structure BK (r : RecV) (b : Nat) (w0 w : World) : Prop where
  box : w.heap[b]? = some (recC r)
  bel : Below w0.heap.size w0 w
  lo : w0.heap.size ≤ b
theorem BK.below {r : RecV} {b : Nat} {w0 w w' : World} (h : BK r b w0 w) (k : Below w.heap.size w w') : BK r b w0 w' := ⟨below_get k h.box (lt_of_get h.box), h.bel.trans (k.mono h.bel.size), h.lo⟩
theorem BK.drew {r : RecV} {b : Nat} {w0 w : World} (h : BK r b w0 w) : BK r b w0 w.drew := ⟨h.box, h.bel.drew, h.lo⟩
theorem BK.cells {r : RecV} {b : Nat} {w0 w : World} (h : BK r b w0 w) : w.cell? ⟨b, 0, none⟩ = some (.int .i64 r.seq) ∧ w.cell? ⟨b, 1, none⟩ = some (.int .i64 r.ent) ∧ w.cell? ⟨b, 2, none⟩ = some (.int .i64 r.kind) ∧ w.cell? ⟨b, 3, none⟩ = some (.int .i64 r.tick) :=
  four_cells h.box
theorem body_any (r : RecV) (h : RecSm r) (w : World) : Calls Tryz.prog 227 #[recAgg r] w fun e w' => e = .returned (.string (strOf (recBody r))) ∧ Below w.heap.size w w' := by
  obtain ⟨h1, h2, h3, h4⟩ := h
  have hN : ∀ (n many : Nat) (m : Int) (W : World), n < 9223372036854775808 → many ≤ 8 → m = many → BK r w.heap.size w W → Calls Tryz.prog 261 #[.int .i64 n, .int .i64 m] W fun e w' => e = .returned (.string (strOf (beB many n))) ∧ BK r w.heap.size w w' := by
    intro n many m W hn hm e hW
    subst e
    refine (ringNumber_any n many hm hn W).mono ?_
    rintro e w1 ⟨rfl, b⟩
    exact ⟨rfl, hW.below b⟩
  have HN := Lib.hid hN
  have k0 : BK r w.heap.size w (w.alloc (recC r)) := ⟨get_alloc_new _ _, (Below.refl _ _).alloc (Nat.le_refl _) _, Nat.le_refl _⟩
  have K0 := Lib.hid k0
  unfold recC at K0
  clear k0 hN
  unfold recAgg
  go_enter Tryz.func227, Tryz.ntmps227
  go_wp2_with fail
  generalize w.alloc _ = w0 at K0 ⊢
  have z1 : (strOf (beB 4 r.seq)).size = 4 := by rw [strOf_size, beB_length]
  have z2 : (strOf (beB 1 r.ent)).size = 1 := by rw [strOf_size, beB_length]
  have z3 : (strOf (beB 1 r.kind)).size = 1 := by rw [strOf_size, beB_length]
  have z4 : (strOf (beB 6 r.tick)).size = 6 := by rw [strOf_size, beB_length]
  go_cut [3] (fun s3 wx => s3 = .string (strOf (recHead r)) ∧ BK r w.heap.size w wx)
  case first =>
    go_region_held3 (fun w' => w'.cell? ⟨w.heap.size, 0, none⟩ = some (.int .i64 r.seq) ∧ w'.cell? ⟨w.heap.size, 1, none⟩ = some (.int .i64 r.ent) ∧ w'.cell? ⟨w.heap.size, 2, none⟩ = some (.int .i64 r.kind) ∧ w'.cell? ⟨w.heap.size, 3, none⟩ = some (.int .i64 r.tick))
      (first | exact K0.out.cells | exact k1.cells | exact k2.cells | exact k3.cells | exact k4.cells)
      (first | (go_at_call_of 261 (Value.int .i64 r.seq); refine (HN.out r.seq 4 4 _ h1 (by decide) rfl ?_).mono ?_; (repeat (first | exact K0.out | refine BK.drew ?_)); rintro e w1 ⟨rfl, k1⟩) | (go_at_call_of 261 (Value.int .i64 r.ent); refine (HN.out r.ent 1 1 _ h2 (by decide) rfl ?_).mono ?_; (repeat (first | exact k1 | refine BK.drew ?_)); rintro e w2 ⟨rfl, k2⟩) | (go_at_call_of 261 (Value.int .i64 r.kind); refine (HN.out r.kind 1 1 _ h3 (by decide) rfl ?_).mono ?_; (repeat (first | exact k2 | refine BK.drew ?_)); rintro e w3 ⟨rfl, k3⟩) | (go_at_call_of 261 (Value.int .i64 r.tick); refine (HN.out r.tick 6 6 _ h4 (by decide) rfl ?_).mono ?_; (repeat (first | exact k3 | refine BK.drew ?_)); rintro e w4 ⟨rfl, k4⟩))
    all_goals (go_wp2_with fail; go_meet)
    all_goals (refine ⟨?_, by repeat (first | exact k4 | refine BK.drew ?_)⟩; simp only [strOf_append, recHead])
  case rest =>
  obtain ⟨rfl, hk⟩ := hcut
  have HK := Lib.hid hk
  have hz : (strOf (recHead r)).size ≤ 100000 := by rw [strOf_size, recHead_length]; decide
  have HB : Hid (strOf (recHead r) ++ strOf (beB 4 (crc (recHead r))) = strOf (recBody r)) := (show strOf (recHead r) ++ strOf (beB 4 (crc (recHead r))) = strOf (recBody r) from strOf_append _ _)
  have hc := crc_lt (recHead r)
  have z5 : (strOf (recHead r)).size = 12 := by rw [strOf_size, recHead_length]
  have z6 : (strOf (beB 4 (crc (recHead r)))).size = 4 := by rw [strOf_size, beB_length]
  clear hk K0 z1 z2 z3 z4
  go_wp2_with fail
  refine (sum_any _ _ hz).mono ?_
  rintro e w' ⟨rfl, rfl⟩
  rw [strOf_data]
  go_wp2_with fail
  refine (HN.out _ 4 4 _ (by omega) (by decide) rfl HK.out).mono ?_
  rintro e w5 ⟨rfl, k5⟩
  go_wp2_with fail
  go_ret
  exact ⟨by rw [← HB.out]; rfl, k5.bel⟩
theorem ext_data (s : ByteArray) (a b : Nat) : (s.extract a b).data.toList = (s.data.toList.drop a).take (b - a) := by
  rw [ByteArray.data_extract, Array.toList_extract]
theorem ext_size (s : ByteArray) (a b : Nat) (h : b ≤ s.size) : (s.extract a b).size = b - a := by
  rw [ByteArray.size_extract]; omega
theorem held_mid (w : World) (r : RecV) : BK r (w.heap.size + 1) w ((w.alloc (recC ⟨0, 0, 0, 0⟩)).alloc (recC r)).drew ∧ ((w.alloc (recC ⟨0, 0, 0, 0⟩)).alloc (recC r)).drew.heap[w.heap.size]? = some (recC ⟨0, 0, 0, 0⟩) := by
  have n1 := get_alloc_new (w.alloc (recC ⟨0, 0, 0, 0⟩)) (recC r)
  rw [World.size_alloc] at n1
  exact ⟨⟨n1, (((Below.refl _ _).alloc (Nat.le_refl _) _).alloc (by simp) _).drew, by omega⟩, get_alloc_old _ (get_alloc_new _ _)⟩
def recZ (o : Option RecV) : RecV := o.getD ⟨0, 0, 0, 0⟩
theorem held_any (k : Nat) (hk : k < 9) (s : ByteArray) (hs : s.size = 17) (w : World) : Calls Tryz.prog 184 #[.int .i64 k, .string s] w fun e w' => e = .returned (recAgg (recZ (heldRec k s.data.toList))) ∧ Below w.heap.size w w' := by
  have hl : s.data.toList.length = 17 := hs
  have HL := Lib.hid hl
  have hRd : ∀ (a b : Nat) (n : Nat) (W : World), b ≤ 17 → b ≤ a + 6 → readB ((s.data.toList.drop a).take (b - a)) = n → Calls Tryz.prog 226 #[.string (s.extract a b)] W fun e w' => e = .returned (.int .i64 n) ∧ W = w' := by
    intro a b n W h1 h2 h3
    have := ringRead_any (s.extract a b) (by rw [ext_size _ _ _ (by omega)]; omega) W
    rw [ext_data, h3] at this
    exact this
  obtain ⟨r, hr⟩ : ∃ r, r = recOf s.data.toList := ⟨_, rfl⟩
  have hm : r.seq < 4294967296 ∧ RecSm r := by
    have h1 := readB_lt (s.data.toList.take 4)
    have h2 := readB_lt ((s.data.toList.drop 4).take 1)
    have h3 := readB_lt ((s.data.toList.drop 5).take 1)
    have h4 := readB_lt ((s.data.toList.drop 6).take 6)
    simp only [List.length_take, List.length_drop, hl] at h1 h2 h3 h4
    subst hr
    exact ⟨h1, Nat.lt_trans h1 (by decide), Nat.lt_trans h2 (by decide), Nat.lt_trans h3 (by decide), Nat.lt_trans h4 (by decide)⟩
  have r1 := fun W => hRd 0 4 r.seq W (by decide) (by decide) (by rw [hr]; rfl)
  have r2 := fun W => hRd 4 5 r.ent W (by decide) (by decide) (by rw [hr]; rfl)
  have r3 := fun W => hRd 5 6 r.kind W (by decide) (by decide) (by rw [hr]; rfl)
  have r4 := fun W => hRd 6 12 r.tick W (by decide) (by decide) (by rw [hr]; rfl)
  have R1 := Lib.hid r1
  have R2 := Lib.hid r2
  have R3 := Lib.hid r3
  have R4 := Lib.hid r4
  have HR := Lib.hid hr
  clear r1 r2 r3 r4 hRd hr hl
  go_enter Tryz.func184, Tryz.ntmps184
  go_wp2_with fail
  go_cut [5] (fun s5 wx => s5 = .pointer (some ⟨w.heap.size + 1, 0, none⟩) ∧ BK r (w.heap.size + 1) w wx ∧ wx.heap[w.heap.size]? = some (recC ⟨0, 0, 0, 0⟩))
  case first =>
    go_region_held3 (fun _ => True) (exact trivial)
      (first | (go_at_call_of 226 (Value.string (s.extract 0 4)); refine (R1.out _).mono ?_; rintro e w1 ⟨rfl, rfl⟩) | (go_at_call_of 226 (Value.string (s.extract 4 5)); refine (R2.out _).mono ?_; rintro e w1 ⟨rfl, rfl⟩) | (go_at_call_of 226 (Value.string (s.extract 5 6)); refine (R3.out _).mono ?_; rintro e w1 ⟨rfl, rfl⟩) | (go_at_call_of 226 (Value.string (s.extract 6 12)); refine (R4.out _).mono ?_; rintro e w1 ⟨rfl, rfl⟩))
    all_goals (go_wp2_with fail; go_meet)
    all_goals exact ⟨rfl, held_mid w r⟩
  case rest =>
  obtain ⟨rfl, hk5, hz⟩ := hcut
  obtain ⟨hm1, hm2⟩ := hm
  have HK := Lib.hid hk5
  have HZ := Lib.hid hz
  obtain ⟨c0, c1, c2, c3⟩ := hk5.cells
  obtain ⟨z0, z1, z2, z3⟩ := four_cells hz
  have zf : ∀ o, wc.frozen? ⟨w.heap.size, o, none⟩ = false := by intro o; unfold recC at hz; simp [World.frozen?, hz]
  have HM := Lib.hid hm2
  clear hk5 hz R1 R2 R3 R4 hm2
  have hnone : ¬ (1 ≤ r.seq ∧ (r.seq - 1) % 9 = k ∧ recBody r ++ [165] = s.data.toList) → recZ (heldRec k s.data.toList) = ⟨0, 0, 0, 0⟩ := fun h => by
    unfold heldRec
    rw [← HR.out, if_neg h]; rfl
  by_cases h1 : r.seq < 1
  · have HN := Lib.hid (hnone (by omega))
    have hd : decide ((r.seq : Int) < 1) = true := decide_eq_true (by omega)
    clear hnone
    go_wp2_with fail
    refine bodyPost_ret (v := recAgg ⟨0, 0, 0, 0⟩) (by simp [recAgg, results, Tryz.results184, go_sem, z0, z1, z2, z3, World.cell?_setCell_same, World.cell?_setCell_other]) rfl ?_
    exact ⟨by rw [HN.out], (((HK.out.bel.setCell (p := ⟨w.heap.size, 0, none⟩) (Nat.le_refl _) _).setCell (p := ⟨w.heap.size, 1, none⟩) (Nat.le_refl _) _).setCell (p := ⟨w.heap.size, 2, none⟩) (Nat.le_refl _) _).setCell (p := ⟨w.heap.size, 3, none⟩) (Nat.le_refl _) _⟩
  have hd : decide ((r.seq : Int) < 1) = false := decide_eq_false (by omega)
  have hn1 : (1 : Int) ≤ r.seq := by omega
  by_cases h2 : (r.seq - 1) % 9 = k
  · have h2b : (((r.seq : Int) - 1) % 9 != (k : Int)) = false := by simp; omega
    have HZ1 : (strOf (recBody r)).size = 16 := by rw [strOf_size, recBody_length]
    have hstr : ((strOf (recBody r) ++ ⟨#[165]⟩).toList = s.toList) ↔ recBody r ++ [165] = s.data.toList := by
      rw [ByteArray.toList_eq, ByteArray.toList_eq, ByteArray.data_append, Array.toList_append, strOf_data]
    by_cases h3 : recBody r ++ [165] = s.data.toList
    · have ht : ((strOf (recBody r) ++ ⟨#[165]⟩).toList == s.toList) = true := by simp [hstr, h3]
      have HN : Hid (recZ (heldRec k s.data.toList) = r) := (show recZ (heldRec k s.data.toList) = r from by
        unfold heldRec
        rw [← HR.out, if_pos ⟨by omega, h2, h3⟩]; rfl)
      clear hnone h2 h3 hstr
      go_wp2_with fail
      refine (body_any r HM.out _).mono ?_
      rintro e w5 ⟨rfl, b5⟩
      obtain ⟨q0, q1, q2, q3⟩ := (HK.out.below b5).cells
      have hz5 := below_get b5 HZ.out (lt_of_get HZ.out)
      obtain ⟨y0, y1, y2, y3⟩ := four_cells hz5
      have yf : ∀ o, w5.frozen? ⟨w.heap.size, o, none⟩ = false := by intro o; unfold recC at hz5; simp [World.frozen?, hz5]
      have HB := Lib.hid (HK.out.below b5).bel
      clear z0 z1 z2 z3 zf c0 c1 c2 c3 b5 hz5
      go_wp2_with fail
      refine bodyPost_ret (v := recAgg r) (by simp [recAgg, results, Tryz.results184, go_sem, y0, y1, y2, y3, World.cell?_setCell_same, World.cell?_setCell_other]) rfl ?_
      exact ⟨by rw [HN.out], (((HB.out.setCell (p := ⟨w.heap.size, 0, none⟩) (Nat.le_refl _) _).setCell (p := ⟨w.heap.size, 1, none⟩) (Nat.le_refl _) _).setCell (p := ⟨w.heap.size, 2, none⟩) (Nat.le_refl _) _).setCell (p := ⟨w.heap.size, 3, none⟩) (Nat.le_refl _) _⟩
    · have ht : ((strOf (recBody r) ++ ⟨#[165]⟩).toList == s.toList) = false := by simp [hstr, h3]
      have HN := Lib.hid (hnone (fun h => h3 h.2.2))
      clear hnone h2 h3 hstr
      go_wp2_with fail
      refine (body_any r HM.out _).mono ?_
      rintro e w5 ⟨rfl, b5⟩
      have hz5 := below_get b5 HZ.out (lt_of_get HZ.out)
      obtain ⟨y0, y1, y2, y3⟩ := four_cells hz5
      have yf : ∀ o, w5.frozen? ⟨w.heap.size, o, none⟩ = false := by intro o; unfold recC at hz5; simp [World.frozen?, hz5]
      have HB := Lib.hid (HK.out.below b5).bel
      clear z0 z1 z2 z3 zf c0 c1 c2 c3 b5 hz5
      go_wp2_with fail
      refine bodyPost_ret (v := recAgg ⟨0, 0, 0, 0⟩) (by simp [recAgg, results, Tryz.results184, go_sem, y0, y1, y2, y3, World.cell?_setCell_same, World.cell?_setCell_other]) rfl ?_
      exact ⟨by rw [HN.out], (((HB.out.setCell (p := ⟨w.heap.size, 0, none⟩) (Nat.le_refl _) _).setCell (p := ⟨w.heap.size, 1, none⟩) (Nat.le_refl _) _).setCell (p := ⟨w.heap.size, 2, none⟩) (Nat.le_refl _) _).setCell (p := ⟨w.heap.size, 3, none⟩) (Nat.le_refl _) _⟩
  · have HN := Lib.hid (hnone (fun h => h2 h.2.1))
    have h2b : (((r.seq : Int) - 1) % 9 != (k : Int)) = true := by simp; omega
    clear hnone h2
    go_wp2_with fail
    refine bodyPost_ret (v := recAgg ⟨0, 0, 0, 0⟩) (by simp [recAgg, results, Tryz.results184, go_sem, z0, z1, z2, z3, World.cell?_setCell_same, World.cell?_setCell_other]) rfl ?_
    exact ⟨by rw [HN.out], (((HK.out.bel.setCell (p := ⟨w.heap.size, 0, none⟩) (Nat.le_refl _) _).setCell (p := ⟨w.heap.size, 1, none⟩) (Nat.le_refl _) _).setCell (p := ⟨w.heap.size, 2, none⟩) (Nat.le_refl _) _).setCell (p := ⟨w.heap.size, 3, none⟩) (Nat.le_refl _) _⟩
theorem wB_get (b : List UInt8) (a : Nat) (l : List UInt8) (j : Nat) (hj : j ≤ l.length) (h : a + j ≤ b.length) (i : Nat) : (wBytes b a l j)[i]? = if i < a then b[i]? else if i < a + j then l[i - a]? else b[i]? := by
  unfold wBytes
  have h1 : (b.take a).length = a := by simp; omega
  have h2 : (l.take j).length = j := by simp; omega
  by_cases hi : i < a
  · rw [if_pos hi, List.append_assoc, List.getElem?_append_left (by omega), List.getElem?_take, if_pos hi]
  · rw [if_neg hi]
    by_cases hi2 : i < a + j
    · rw [if_pos hi2, List.append_assoc, List.getElem?_append_right (by omega), List.getElem?_append_left (by omega), h1, List.getElem?_take, if_pos (by omega)]
    · rw [if_neg hi2, List.getElem?_append_right (by rw [List.length_append]; omega), List.length_append, h1, h2, List.getElem?_drop]
      congr 1; omega
def slotOf (b : List UInt8) (k : Nat) : List UInt8 := (b.drop (k * 17)).take 17
theorem slot_get (b : List UInt8) (k i : Nat) : (slotOf b k)[i]? = if i < 17 then b[k * 17 + i]? else none := by
  unfold slotOf
  rw [List.getElem?_take]
  split
  · rw [List.getElem?_drop]
  · rfl
theorem heldAt_slot (b : List UInt8) (k : Nat) : heldAt b k = heldRec k (slotOf b k) := rfl
theorem slot_other {b : List UInt8} {k k' o j : Nat} {l : List UInt8} (hj : j ≤ l.length) (ho : o + j ≤ 17) (h : k * 17 + o + j ≤ b.length) (hk : k' ≠ k) : slotOf (wBytes b (k * 17 + o) l j) k' = slotOf b k' := by
  apply List.ext_getElem?
  intro i
  rw [slot_get, slot_get]
  by_cases hi : i < 17
  · rw [if_pos hi, if_pos hi, wB_get b _ l j hj h]
    by_cases h1 : k' * 17 + i < k * 17 + o
    · rw [if_pos h1]
    · rw [if_neg h1, if_neg (by omega)]
  · rw [if_neg hi, if_neg hi]
theorem slot_at {b : List UInt8} {k o j : Nat} {l : List UInt8} (hj : j ≤ l.length) (ho : o + j ≤ 17) (h : k * 17 + o + j ≤ b.length) (i : Nat) : (slotOf (wBytes b (k * 17 + o) l j) k)[i]? = if i < o then (slotOf b k)[i]? else if i < o + j then l[i - o]? else (slotOf b k)[i]? := by
  rw [slot_get, slot_get]
  by_cases hi : i < 17
  · rw [if_pos hi, if_pos hi, wB_get b _ l j hj h]
    by_cases h1 : i < o
    · rw [if_pos (by omega), if_pos h1]
    · rw [if_neg (by omega), if_neg h1]
      by_cases h2 : i < o + j
      · rw [if_pos (by omega), if_pos h2]; congr 1; omega
      · rw [if_neg (by omega), if_neg h2]
  · rw [if_neg hi, if_neg hi, if_neg (by omega), if_neg (by omega)]
theorem held_zero {b : List UInt8} {k : Nat} (h : (slotOf b k)[16]? = some 0) : heldAt b k = none := by
  rw [heldAt_slot]
  exact heldRec_last (by rw [h]; decide)
structure RInv (b : List UInt8) (D : List RecV) : Prop where
  len : 153 ≤ b.length
  seq : ∀ j (hj : j < D.length), D[j].seq = j + 1 ∧ RecOk D[j]
  old : ∀ k, k < 9 → heldAt b k = none ∨ ∃ j, ∃ hj : j < D.length, heldAt b k = some D[j] ∧ j % 9 = k ∧ D.length ≤ j + 9
  new : ∀ j (hj : j < D.length), D.length ≤ j + 8 → heldAt b (j % 9) = some D[j]
theorem rinv_best {b : List UInt8} {D : List RecV} (h : RInv b D) : bestOf (heldAt b) 9 = D.length := by
  apply Nat.le_antisymm
  · rcases best_in (heldAt b) 9 with h0 | ⟨k, x, h1, h2, h3⟩
    · omega
    · rcases h.old k h1 with h4 | ⟨j, hj, h4, _⟩
      · rw [h4] at h2; cases h2
      · rw [h4] at h2
        obtain rfl := Option.some.inj h2
        have := (h.seq j hj).1
        omega
  · by_cases h0 : D.length = 0
    · omega
    · have h1 := h.new (D.length - 1) (by omega) (by omega)
      have h2 := le_best (heldAt b) (r := 0) h1 9 (Nat.mod_lt _ (by decide))
      have := (h.seq (D.length - 1) (by omega)).1
      omega
theorem rinv_recs {b : List UInt8} {D : List RecV} (h : RInv b D) : recsOf b = D.drop (D.length - 8) := by
  unfold recsOf
  rw [rinv_best h]
  refine runDown_eq (heldAt b) 8 _ _ (by simp; omega) (fun j hj => ?_) ?_
  · simp only [List.length_drop] at hj
    rw [List.getElem_drop]
    have h1 := h.seq (D.length - 8 + j) (by omega)
    have h2 := h.new (D.length - 8 + j) (by omega) (by omega)
    refine ⟨h1.2.s1, ?_, ?_⟩
    · rw [h1.1]
      exact h2
    · rw [h1.1, List.length_drop]; omega
  · rw [List.length_drop]
    by_cases h8 : 8 ≤ D.length
    · left; omega
    · right; left; omega
theorem rinv_touch {b b' : List UInt8} {D : List RecV} (h : RInv b D) (hl : b'.length = b.length) (ho : ∀ k, k < 9 → k ≠ D.length % 9 → heldAt b' k = heldAt b k) (hz : heldAt b' (D.length % 9) = none) : RInv b' D := by
  refine ⟨by rw [hl]; exact h.len, h.seq, fun k hk => ?_, fun j hj h8 => ?_⟩
  · by_cases e : k = D.length % 9
    · subst e; left; exact hz
    · rw [ho k hk e]; exact h.old k hk
  · rw [ho _ (Nat.mod_lt _ (by decide)) (by omega)]; exact h.new j hj h8
theorem rinv_done {b b' : List UInt8} {D : List RecV} {x : RecV} (h : RInv b D) (hl : b'.length = b.length) (ho : ∀ k, k < 9 → k ≠ D.length % 9 → heldAt b' k = heldAt b k) (hz : heldAt b' (D.length % 9) = some x) (hx : x.seq = D.length + 1) (hk : RecOk x) : RInv b' (D ++ [x]) := by
  refine ⟨by rw [hl]; exact h.len, fun j hj => ?_, fun k hk => ?_, fun j hj h8 => ?_⟩
  · rw [List.length_append, List.length_singleton] at hj
    by_cases e : j < D.length
    · rw [List.getElem_append_left e]; exact h.seq j e
    · obtain rfl : j = D.length := by omega
      rw [List.getElem_append_right (Nat.le_refl _)]
      simp [hx, hk]
  · have hLen : (D ++ [x]).length = D.length + 1 := by simp
    by_cases e : k = D.length % 9
    · subst e
      right
      refine ⟨D.length, by simp, ?_, rfl, by omega⟩
      rw [hz, List.getElem_append_right (Nat.le_refl _)]; simp
    · by_cases hlt : k < D.length
      · right
        obtain ⟨j, hj, hjk, hj8⟩ : ∃ j, j < D.length ∧ j % 9 = k ∧ D.length ≤ j + 8 := by
          refine ⟨D.length - 1 - (D.length - 1 + 9 - k) % 9, by omega, by omega, by omega⟩
        refine ⟨j, by simp; omega, ?_, hjk, by omega⟩
        rw [ho k hk e, ← hjk, h.new j hj hj8, List.getElem_append_left hj]
      · left
        rw [ho k hk e]
        rcases h.old k hk with h4 | ⟨j, hj, h4, hjk, hj9⟩
        · exact h4
        · omega
  · rw [List.length_append, List.length_singleton] at hj h8
    by_cases e : j < D.length
    · rw [List.getElem_append_left e, ho _ (Nat.mod_lt _ (by decide)) (by omega)]
      exact h.new j e (by omega)
    · obtain rfl : j = D.length := by omega
      rw [hz, List.getElem_append_right (Nat.le_refl _)]; simp
def slotAt (x : RecV) : Nat := (x.seq - 1) % 9 * 17
def ringPut (m : CM) (x : RecV) : Nat × CM :=
  if lookE m.off m.bs.length (slotAt x + 16 : Nat) 1 = 0 then
    (if m.bs.getD (slotAt x + 16) 0 = 0 then put2 m x else if writeE m.cut 1 = 0 then put2 (writeM m (slotAt x + 16) [0]) x else (writeE m.cut 1, writeM m (slotAt x + 16) [0]))
  else (lookE m.off m.bs.length (slotAt x + 16 : Nat) 1, m)
where
  put2 (m : CM) (x : RecV) : Nat × CM :=
    if writeE m.cut 16 = 0 then (writeE (writeM m (slotAt x) (recBody x)).cut 1, writeM (writeM m (slotAt x) (recBody x)) (slotAt x + 16) [165]) else (writeE m.cut 16, writeM m (slotAt x) (recBody x))
theorem writeN_bd (cut : Int) (n : Nat) : writeN cut n ≤ n := by unfold writeN; split; exact Nat.le_refl _; exact Nat.min_le_right _ _
theorem writeE_zero {cut : Int} {n : Nat} (h : writeE cut n = 0) : writeN cut n = n := by
  unfold writeE at h
  have := writeN_bd cut n
  by_cases e : writeN cut n < n
  · rw [if_pos e] at h; cases h
  · omega
theorem writeE_else {cut : Int} {n : Nat} (h : ¬ writeE cut n = 0) : writeE cut n = 8 ∧ writeN cut n < n := by
  unfold writeE at h ⊢
  by_cases e : writeN cut n < n
  · rw [if_pos e]; exact ⟨rfl, e⟩
  · rw [if_neg e] at h; exact absurd rfl h
theorem cutAt_ge {cut : Int} {n : Nat} (h : -1 ≤ cut) : -1 ≤ cutAt cut (writeN cut n) := by
  unfold cutAt writeN
  by_cases e : cut = -1
  · rw [if_pos e]; omega
  · rw [if_neg e, if_neg e]
    have : min cut.toNat n ≤ cut.toNat := Nat.min_le_left _ _
    omega
structure WrS (m m' : CM) (k : Nat) : Prop where
  len : m'.bs.length = m.bs.length
  oth : ∀ k', k' ≠ k → slotOf m'.bs k' = slotOf m.bs k'
  cut : -1 ≤ m'.cut
theorem WrS.trans {a b c : CM} {k : Nat} (h : WrS a b k) (g : WrS b c k) : WrS a c k := ⟨g.len.trans h.len, fun k' hk => (g.oth k' hk).trans (h.oth k' hk), g.cut⟩
theorem writeM_in {m : CM} {k o : Nat} {l : List UInt8} (ho : o + l.length ≤ 17) (h : k * 17 + o + l.length ≤ m.bs.length) (hc : -1 ≤ m.cut) :
    WrS m (writeM m (k * 17 + o) l) k ∧ (∀ i, (slotOf (writeM m (k * 17 + o) l).bs k)[i]? = if i < o then (slotOf m.bs k)[i]? else if i < o + writeN m.cut l.length then l[i - o]? else (slotOf m.bs k)[i]?) ∧
    (writeM m (k * 17 + o) l).off = decide (writeN m.cut l.length < l.length) := by
  have hj := writeN_bd m.cut l.length
  refine ⟨⟨?_, fun k' hk' => slot_other hj (by omega) (by omega) hk', cutAt_ge hc⟩, fun i => slot_at hj (by omega) (by omega) i, rfl⟩
  exact wBytes_length m.bs _ l _ hj (by omega)
theorem list17 {l : List UInt8} {a : List UInt8} {z : UInt8} (ha : a.length = 16) (h : ∀ i, i < 16 → l[i]? = a[i]?) (h16 : l[16]? = some z) (hl : l.length ≤ 17) : l = a ++ [z] := by
  apply List.ext_getElem?
  intro i
  by_cases h1 : i < 16
  · rw [h i h1, List.getElem?_append_left (by omega)]
  · by_cases h2 : i = 16
    · subst h2
      rw [h16, List.getElem?_append_right (by omega), ha]; rfl
    · rw [List.getElem?_eq_none (by omega), List.getElem?_eq_none (by simp; omega)]
theorem put2_step {m : CM} {x : RecV} {k : Nat} (hk : (x.seq - 1) % 9 = k) (hx : RecOk x) (hl : 153 ≤ m.bs.length) (hc : -1 ≤ m.cut) (hz : (slotOf m.bs k)[16]? = some 0) (hoff : m.off = false) :
    WrS m (ringPut.put2 m x).2 k ∧ (((ringPut.put2 m x).1 = 0 ∧ (ringPut.put2 m x).2.off = false ∧ heldAt (ringPut.put2 m x).2.bs k = some x) ∨
      ((ringPut.put2 m x).1 = 8 ∧ (ringPut.put2 m x).2.off = true ∧ heldAt (ringPut.put2 m x).2.bs k = none)) := by
  have hk9 : k < 9 := by omega
  have hbl := recBody_length x
  obtain ⟨w1, s1, o1⟩ := writeM_in (m := m) (k := k) (o := 0) (l := recBody x) (by omega) (by omega) hc
  unfold ringPut.put2
  rw [show slotAt x = k * 17 + 0 by unfold slotAt; omega]
  rw [hbl] at s1 o1
  have z1 : (slotOf (writeM m (k * 17 + 0) (recBody x)).bs k)[16]? = some 0 := by
    have := writeN_bd m.cut 16
    rw [s1 16, if_neg (by omega), if_neg (by omega)]; exact hz
  by_cases h1 : writeE m.cut 16 = 0
  · rw [if_pos h1]
    have n1 := writeE_zero h1
    obtain ⟨m1, hm1⟩ : ∃ m1, m1 = writeM m (k * 17 + 0) (recBody x) := ⟨_, rfl⟩
    rw [← hm1] at w1 s1 o1 z1 ⊢
    obtain ⟨w2, s2, o2⟩ := writeM_in (m := m1) (k := k) (o := 16) (l := [165]) (by simp) (by simp; have := w1.len; omega) w1.cut
    rw [Nat.add_zero]
    refine ⟨w1.trans w2, ?_⟩
    by_cases h2 : writeE m1.cut 1 = 0
    · have n2 := writeE_zero h2
      left
      refine ⟨h2, ?_, ?_⟩
      · rw [o2]; simp [n2]
      · rw [heldAt_slot]
        have e : slotOf (writeM m1 (k * 17 + 16) [165]).bs k = recBody x ++ [165] := by
          refine list17 hbl (fun i hi => ?_) ?_ ?_
          · rw [s2 i, if_pos hi, s1 i, if_neg (by omega), n1, if_pos (by omega), Nat.sub_zero]
          · rw [s2 16, if_neg (by omega)]
            simp [n2]
          · simp [slotOf]; omega
        rw [e]
        exact heldRec_body x hx k hk
    · obtain ⟨e8, n2⟩ := writeE_else h2
      right
      refine ⟨e8, ?_, ?_⟩
      · rw [o2]; simp; omega
      · apply held_zero
        rw [s2 16, if_neg (by omega), if_neg (by simp; omega)]; exact z1
  · rw [if_neg h1]
    obtain ⟨e8, n1⟩ := writeE_else h1
    refine ⟨w1, .inr ⟨e8, ?_, held_zero z1⟩⟩
    rw [o1]; simp; omega
theorem put_step {m : CM} {x : RecV} {D : List RecV} (h : RInv m.bs D) (hc : -1 ≤ m.cut) (hoff : m.off = false) (hs : x.seq = D.length + 1) (hx : RecOk x) :
    -1 ≤ (ringPut m x).2.cut ∧ (ringPut m x).2.bs.length = m.bs.length ∧ (((ringPut m x).1 = 0 ∧ (ringPut m x).2.off = false ∧ RInv (ringPut m x).2.bs (D ++ [x])) ∨ ((ringPut m x).1 = 8 ∧ (ringPut m x).2.off = true ∧ RInv (ringPut m x).2.bs D)) := by
  obtain ⟨k, hk⟩ : ∃ k, (x.seq - 1) % 9 = k := ⟨_, rfl⟩
  have hkD : k = D.length % 9 := by rw [← hk, hs]; rfl
  have hk9 : k < 9 := by omega
  have hl := h.len
  have hsl : slotAt x = k * 17 := by unfold slotAt; rw [hk]
  unfold ringPut
  rw [hsl, hoff, if_pos (lookE_in (by omega))]
  have fin : ∀ {m' : CM} {p : Nat × CM}, WrS m m' k → WrS m' p.2 k → ((p.1 = 0 ∧ p.2.off = false ∧ heldAt p.2.bs k = some x) ∨ (p.1 = 8 ∧ p.2.off = true ∧ heldAt p.2.bs k = none)) →
      -1 ≤ p.2.cut ∧ p.2.bs.length = m.bs.length ∧ ((p.1 = 0 ∧ p.2.off = false ∧ RInv p.2.bs (D ++ [x])) ∨ (p.1 = 8 ∧ p.2.off = true ∧ RInv p.2.bs D)) := by
    intro m' p a b hr
    have ab := a.trans b
    have ho : ∀ k', k' < 9 → k' ≠ D.length % 9 → heldAt p.2.bs k' = heldAt m.bs k' := fun k' _ hk' => by
      rw [heldAt_slot, heldAt_slot, ab.oth k' (by omega)]
    refine ⟨ab.cut, ab.len, ?_⟩
    rcases hr with ⟨r1, r2, r3⟩ | ⟨r1, r2, r3⟩
    · left; exact ⟨r1, r2, rinv_done h ab.len ho (by rw [← hkD]; exact r3) hs hx⟩
    · right; exact ⟨r1, r2, rinv_touch h ab.len ho (by rw [← hkD]; exact r3)⟩
  have self : WrS m m k := ⟨rfl, fun _ _ => rfl, hc⟩
  have hget : (slotOf m.bs k)[16]? = m.bs[k * 17 + 16]? := by rw [slot_get, if_pos (by omega)]
  have hlt : k * 17 + 16 < m.bs.length := by omega
  by_cases h0 : m.bs.getD (k * 17 + 16) 0 = 0
  · rw [if_pos h0]
    rw [List.getD_eq_getElem?_getD, List.getElem?_eq_getElem hlt] at h0
    have hz : (slotOf m.bs k)[16]? = some 0 := by rw [hget, List.getElem?_eq_getElem hlt]; congr 1
    obtain ⟨a, b⟩ := put2_step hk hx hl hc hz hoff
    exact fin self a b
  · rw [if_neg h0]
    obtain ⟨w1, s1, o1⟩ := writeM_in (m := m) (k := k) (o := 16) (l := [0]) (by simp) (by simp; omega) hc
    simp only [List.length_singleton] at s1 o1
    by_cases h1 : writeE m.cut 1 = 0
    · rw [if_pos h1]
      have n1 := writeE_zero h1
      have hz : (slotOf (writeM m (k * 17 + 16) [0]).bs k)[16]? = some 0 := by
        rw [s1 16, if_neg (by omega), if_pos (by omega)]; rfl
      have hoff1 : (writeM m (k * 17 + 16) [0]).off = false := by rw [o1]; simp [n1]
      obtain ⟨a, b⟩ := put2_step hk hx (by rw [w1.len]; exact hl) w1.cut hz hoff1
      exact fin w1 a b
    · rw [if_neg h1]
      obtain ⟨e8, n1⟩ := writeE_else h1
      have hn : writeN m.cut 1 = 0 := by omega
      refine ⟨w1.cut, w1.len, .inr ⟨e8, ?_, ?_⟩⟩
      · show (writeM m (k * 17 + 16) [0]).off = true
        rw [o1]; simp; omega
      · show RInv (wBytes m.bs (k * 17 + 16) [0] (writeN m.cut [0].length)) D
        rw [show writeN m.cut ([0] : List UInt8).length = 0 from hn, wBytes_zero]
        exact h
theorem rinv_zero (n : Nat) (h : 153 ≤ n) : RInv (List.replicate n 0) [] := by
  refine ⟨by simpa using h, fun j hj => by simp at hj, fun k hk => .inl (held_zero ?_), fun j hj => by simp at hj⟩
  rw [slot_get, if_pos (by omega), List.getElem?_replicate, if_pos (by omega)]
end Go.Proofs.YtikehilbmldadaaGreatDoor
