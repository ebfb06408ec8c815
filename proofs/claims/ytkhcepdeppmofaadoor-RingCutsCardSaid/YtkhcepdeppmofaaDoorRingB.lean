/- Package ring, the document's ring: sums, numbers in bytes. -/
import Derived.Test.YtkhcepdeppmofaaDoorRingM
import Derived.Test.YtkhcepdeppmofaaDoorCells2
import Derived.Laws.BitsAllLaws
namespace Go.Proofs.YtkhcepdeppmofaaDoor
open Go.RowKit
set_option linter.unusedVariables false

theorem xor_byte_lt {c : Nat} {b : UInt8} (h : c < 4294967296) : c ^^^ b.toNat < 4294967296 := by
  refine Nat.xor_lt_two_pow (n := 32) h ?_
  have := b.toNat_lt
  omega
theorem crcFold_take (l : List UInt8) (k : Nat) (hk : k < l.length) (c : Nat) : crcFold (l.take (k + 1)) c = crcByte (crcFold (l.take k) c) l[k] := by
  rw [List.take_succ_eq_append_getElem hk, crcFold_snoc]

theorem xor_all {c : Nat} (h : c < 4294967296) : 4294967295 ^^^ c = 4294967295 - c := by
  have e := congrArg BitVec.toNat (BitVec.xor_allOnes (x := BitVec.ofNat 32 c))
  rw [BitVec.toNat_xor, BitVec.toNat_not, BitVec.toNat_ofNat, BitVec.toNat_allOnes, Nat.mod_eq_of_lt (show c < 2 ^ 32 by omega), Nat.xor_comm] at e
  exact e
theorem bit_u32 {d : Nat} (h : d < 4294967296) : bits .xor .u32 ((d : Int) / 2) (3988292384 * bits .and .u32 (d : Int) 1 % 4294967296) = ((crcBit d : Nat) : Int) := by
  rw [show (1 : Int) = ((1 : Nat) : Int) from rfl, u32_and_nat d 1 h (by decide), nat_mask1, show ((d : Int) / 2) = ((d / 2 : Nat) : Int) by omega]
  unfold crcBit
  by_cases e : d % 2 = 1
  · rw [if_pos e, e]
    exact u32_xor_nat (d / 2) 3988292384 (by omega) (by decide)
  · rw [if_neg e, show d % 2 = 0 by omega]
    exact u32_xor_nat (d / 2) 0 (by omega) (by decide)

set_option maxHeartbeats 1000000 in
theorem sum_any (s : ByteArray) (w : World) (hs : s.size ≤ 100000) : Calls Tryd.prog 129 #[.string s] w fun e w' => e = .returned (.int .i64 (crc s.data.toList : Nat)) ∧ w = w' := by
  have hlen : s.data.toList.length = s.size := rfl
  have HLEN := Lib.hid hlen
  clear hlen
  go_enter Tryd.func129, Tryd.ntmps129
  go_wp2_with fail
  go_loop [3, 7] (fun s3 s7 => ∃ k : Nat, k ≤ s.size ∧ s3 = .int .u32 (crcFold (s.data.toList.take k) 4294967295 : Nat) ∧ s7 = .int .i64 k) (fun _ s7 => s.size - (intOf s7).toNat)
  case atStart => exact ⟨0, Nat.zero_le _, rfl, rfl⟩
  case round =>
    obtain ⟨k, hk, rfl, rfl⟩ := hrel
    have hc : crcFold (s.data.toList.take k) 4294967295 < 4294967296 := crcFold_lt (by decide)
    by_cases hlt : k < s.size
    · have hT := Lib.hid (crcFold_take s.data.toList k (by rw [HLEN.out]; exact hlt) 4294967295)
      obtain ⟨c, hcc⟩ : ∃ c, c = crcFold (s.data.toList.take k) 4294967295 := ⟨_, rfl⟩
      rw [← hcc] at hc hT ⊢
      have hb := s[k].toNat_lt
      have hx : bits .xor .u32 (c : Int) ((s[k].toNat : Int) % 4294967296) = ((c ^^^ s[k].toNat : Nat) : Int) := by
        rw [show (s[k].toNat : Int) % 4294967296 = (s[k].toNat : Int) by omega]
        exact u32_xor_nat c _ hc (by omega)
      have hd : c ^^^ s[k].toNat < 4294967296 := xor_byte_lt hc
      have HCC := Lib.hid hcc
      have HC := Lib.hid hc
      have HD := Lib.hid hd
      clear hcc hc hb hd
      go_wp2_with fail
      go_loop [3, 16] (fun s3 s16 => ∃ j : Nat, j ≤ 8 ∧ s3 = .int .u32 (crcIter j (c ^^^ s[k].toNat) : Nat) ∧ s16 = .int .i64 j) (fun _ s16 => 8 - (intOf s16).toNat)
      case atStart => exact ⟨0, Nat.zero_le _, rfl, rfl⟩
      case round =>
        obtain ⟨j, hj, rfl, rfl⟩ := hrel
        clear hx
        by_cases hlt8 : j < 8
        · have hq : crcIter j (c ^^^ s[k].toNat) < 4294967296 := crcIter_lt HD.out
          have hS : Hid (crcIter (j + 1) (c ^^^ s[k].toNat) = crcBit (crcIter j (c ^^^ s[k].toNat))) := (rfl : crcIter (j + 1) (c ^^^ s[k].toNat) = crcBit (crcIter j (c ^^^ s[k].toNat)))
          generalize crcIter j (c ^^^ s[k].toNat) = d at hq hS ⊢
          have hB := Lib.hid (bit_u32 hq)
          go_wp2_with fail
          go_round
          case rel => exact ⟨j + 1, by omega, by rw [hB.out, hS.out], by go_num⟩
          case measure => simp [intOf]; omega
        · have h8 : j = 8 := by omega
          go_wp2_with fail
          go_round
          case rel => exact ⟨k + 1, by omega, by rw [hT.out, h8]; rfl, by go_num⟩
          case measure => simp [intOf]; omega
    · have hN : bits .xor .u32 IntKind.u32.max (crcFold (s.data.toList.take k) 4294967295 : Nat) = ((4294967295 - crcFold (s.data.toList.take k) 4294967295 : Nat) : Int) := by
        rw [show IntKind.u32.max = ((4294967295 : Nat) : Int) from rfl, u32_xor_nat _ _ (by decide) hc, xor_all hc]
      have hw : IntKind.i64.wrap ((4294967295 - crcFold (s.data.toList.take k) 4294967295 : Nat) : Int) = ((4294967295 - crcFold (s.data.toList.take k) 4294967295 : Nat) : Int) := IntWalk.i64_in _ (by omega)
      have hE : Hid (4294967295 - crcFold (s.data.toList.take k) 4294967295 = crc s.data.toList) := (show 4294967295 - crcFold (s.data.toList.take k) 4294967295 = crc s.data.toList from by
        unfold crc
        rw [List.take_of_length_le (by rw [HLEN.out]; omega)])
      go_wp2_with fail
      go_ret
      exact ⟨ret_int (by rw [hE.out]; exact IntWalk.wrap64_in ((crc s.data.toList : Nat) : Int) (by have := crc_lt s.data.toList; omega)), rfl⟩

theorem beB_cons : ∀ (i n : Nat), beB (i + 1) n = UInt8.ofNat (n / 256 ^ i) :: beB i n
  | 0, n => by simp [beB]
  | i + 1, n => by
    rw [beB, beB_cons i (n / 256), beB, List.cons_append, Nat.div_div_eq_div_mul, Nat.pow_succ, Nat.mul_comm]
def numL (many n i : Nat) : List UInt8 := List.replicate (many - i) 0 ++ beB i n
theorem numL_length {many n i : Nat} (h : i ≤ many) : (numL many n i).length = many := by simp [numL, beB_length]; omega
theorem numL_succ {many n i : Nat} (h : i < many) : (numL many n i).set (many - 1 - i) (UInt8.ofNat (n / 256 ^ i)) = numL many n (i + 1) := by
  unfold numL
  rw [beB_cons, show many - i = (many - 1 - i) + 1 by omega, List.replicate_succ', List.append_assoc, List.set_append_right _ _ (by simp), show many - (i + 1) = many - 1 - i by omega]
  simp
theorem byte_of (n i : Nat) : ((n : Int) / 2 ^ (8 * i) % 256) = ((UInt8.ofNat (n / 256 ^ i)).toNat : Int) := by
  rw [UInt8.toNat_ofNat', show (256 : Nat) ^ i = 2 ^ (8 * i) by rw [Nat.pow_mul]]
  simp
set_option maxRecDepth 20000 in
set_option maxHeartbeats 1000000 in
theorem number_any (n many : Nat) (hm : many ≤ 8) (hn : n < 9223372036854775808) (w : World) : Calls Tryd.prog 128 #[.int .i64 n, .int .i64 many] w fun e w' => e = .returned (.string (strOf (beB many n))) ∧ Below w.heap.size w w' := by
  have hmk := run_make_row' (P := Tryd.prog) 63 5 (.int .u8 0) 1 Tryd.underlying63 Tryd.infoByte rfl .i64 .i64 many (by omega) (by omega)
  have r1 := BytesAt.made w many 5
  have b1 : Below w.heap.size w (w.alloc (.cells (madeCells #[.int .u8 0] many) 5)) := (Below.refl _ _).alloc (Nat.le_refl _) _
  have HR := Lib.hid r1
  have HB := Lib.hid b1
  clear r1 b1
  go_enter Tryd.func128, Tryd.ntmps128
  go_wp2_with fail
  generalize w.alloc _ = w1 at HR HB ⊢
  go_loopw [10] (fun s10 wr => ∃ i : Nat, i ≤ many ∧ s10 = .int .i64 i ∧ Hid (BytesAt wr w.heap.size (numL many n i)) ∧ Hid (Below w.heap.size w wr)) (fun s10 _ => many - (intOf s10).toNat)
  case atStart => exact ⟨0, Nat.zero_le _, rfl, (show Hid (BytesAt w1 w.heap.size (numL many n 0)) from by unfold numL; rw [Nat.sub_zero, show beB 0 n = [] from rfl, List.append_nil]; exact HR), HB⟩
  case round =>
    obtain ⟨i, hi, rfl, hr, hb⟩ := hrel
    clear HR HB
    by_cases hlt : i < many
    · have hl := numL_length (n := n) hi
      obtain ⟨vv, qv⟩ : ∃ vv, wr.cell? ⟨w.heap.size, many - 1 - i, none⟩ = some vv := ⟨_, hr.out.cell (many - 1 - i) (by omega)⟩
      have qf := hr.out.free
      clear hl
      go_wp2_with fail
      go_round
      case rel =>
        rw [byte_of]
        refine ⟨i + 1, by omega, by go_num, (show Hid _ from ?_), (show Below _ _ _ from hb.out.trans ((keep_set wr w.heap.size (many - 1 - i) _).below hb.out.size (fun b hb => by omega)))⟩
        have := hr.out.set (many - 1 - i) (UInt8.ofNat (n / 256 ^ i)) (by rw [numL_length hi]; omega)
        rw [numL_succ hlt] at this
        exact this
      case measure => simp [intOf]; omega
    · have e : i = many := by omega
      subst e
      have hcv := run_bytes_str wr w.heap.size 0 i (numL i n i) (fun j hj => by rw [Nat.zero_add]; exact hr.out.cell j hj)
      rw [numL_length (Nat.le_refl _)] at hcv
      have HE : Hid (numL i n i = beB i n) := (show numL i n i = beB i n from by simp [numL])
      go_wp2_with fail
      go_ret
      exact ⟨by rw [HE.out]; rfl, hb.out⟩

/-! ### Numbers read -/
theorem readB_take (l : List UInt8) (k : Nat) (hk : k < l.length) : readB (l.take (k + 1)) = 256 * readB (l.take k) + l[k].toNat := by
  rw [List.take_succ_eq_append_getElem hk, readB_snoc]
theorem i64_or_nat (a b : Nat) (ha : a < 9223372036854775808) (hb : b < 9223372036854775808) : bits .or .i64 (a : Int) (b : Int) = ((a ||| b : Nat) : Int) := by
  have hx : a ||| b < 2 ^ 63 := Nat.or_lt_two_pow (by omega) (by omega)
  show IntKind.i64.wrap ((BitVec.ofInt 64 (a : Int) ||| BitVec.ofInt 64 (b : Int)).toNat : Int) = _
  rw [BitVec.toNat_or, ofInt_u64 a (by omega), ofInt_u64 b (by omega)]
  exact IntWalk.i64_in _ (by omega)
theorem i64_xor_nat (a b : Nat) (ha : a < 9223372036854775808) (hb : b < 9223372036854775808) : bits .xor .i64 (a : Int) (b : Int) = ((a ^^^ b : Nat) : Int) := by
  have hx : a ^^^ b < 2 ^ 63 := Nat.xor_lt_two_pow (by omega) (by omega)
  show IntKind.i64.wrap ((BitVec.ofInt 64 (a : Int) ^^^ BitVec.ofInt 64 (b : Int)).toNat : Int) = _
  rw [BitVec.toNat_xor, ofInt_u64 a (by omega), ofInt_u64 b (by omega)]
  exact IntWalk.i64_in _ (by omega)
theorem or_byte (c b : Nat) (hc : c < 1099511627776) (hb : b < 256) : bits .or .i64 ((c : Int) * 256) (wrap64 (b : Int)) = ((256 * c + b : Nat) : Int) := by
  rw [show wrap64 (b : Int) = (b : Int) from IntWalk.wrap64_in _ (by omega), show (c : Int) * 256 = ((256 * c : Nat) : Int) by omega, i64_or_nat _ _ (by omega) (by omega), nat_join 8 _ _ (by omega) (by omega)]
set_option maxHeartbeats 1000000 in
theorem read_any (s : ByteArray) (hs : s.size ≤ 6) (w : World) : Calls Tryd.prog 97 #[.string s] w fun e w' => e = .returned (.int .i64 (readB s.data.toList : Nat)) ∧ w = w' := by
  have hlen : s.data.toList.length = s.size := rfl
  have HLEN := Lib.hid hlen
  clear hlen
  go_enter Tryd.func97, Tryd.ntmps97
  go_wp2_with fail
  go_loop [3, 7] (fun s3 s7 => ∃ k : Nat, k ≤ s.size ∧ s3 = .int .i64 (readB (s.data.toList.take k) : Nat) ∧ s7 = .int .i64 k) (fun _ s7 => s.size - (intOf s7).toNat)
  case atStart => exact ⟨0, Nat.zero_le _, rfl, rfl⟩
  case round =>
    obtain ⟨k, hk, rfl, rfl⟩ := hrel
    by_cases hlt : k < s.size
    · have hT := Lib.hid (readB_take s.data.toList k (by rw [HLEN.out]; exact hlt))
      have hb := readB_lt (s.data.toList.take k)
      have hbl : (s.data.toList.take k).length ≤ 5 := by simp; omega
      have hb2 : readB (s.data.toList.take k) < 1099511627776 := Nat.lt_of_lt_of_le hb (Nat.pow_le_pow_right (n := 256) (by decide) hbl)
      obtain ⟨c, hcc⟩ : ∃ c, c = readB (s.data.toList.take k) := ⟨_, rfl⟩
      rw [← hcc] at hb2 hT ⊢
      have hO := or_byte c s[k].toNat hb2 s[k].toNat_lt
      clear hb hbl hcc
      go_wp2_with fail
      go_round
      case rel => exact ⟨k + 1, by omega, by rw [hT.out]; rfl, by go_num⟩
      case measure => simp [intOf]; omega
    · have HE : Hid (readB (s.data.toList.take k) = readB s.data.toList) := (show readB (s.data.toList.take k) = readB s.data.toList from by rw [List.take_of_length_le (by rw [HLEN.out]; omega)])
      go_wp2_with fail
      go_ret
      exact ⟨ret_int (by rw [HE.out]), rfl⟩
end Go.Proofs.YtkhcepdeppmofaaDoor
