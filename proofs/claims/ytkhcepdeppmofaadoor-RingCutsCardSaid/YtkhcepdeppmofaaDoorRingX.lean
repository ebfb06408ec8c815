/- The document's ring: bytes of a number, a sum, a record's bytes. -/
import Derived.Test.YtkhcepdeppmofaaDoorRingV
namespace Go.Proofs.YtkhcepdeppmofaaDoor
open Go.RowKit
set_option linter.unusedVariables false

theorem refIter_succ (b k c : Nat) : refIter b (k + 1) c = (refIter b k c / 2) ^^^ (if (refIter b k c ^^^ (b >>> k)) % 2 = 1 then 3988292384 else 0) := rfl
theorem sum_bit (d b j : Nat) (hd : d < 4294967296) (hb : b < 256) : bits .xor .i64 (d : Int) (wrap64 (b : Int) / 2 ^ j) = ((d ^^^ b >>> j : Nat) : Int) := by
  have h1 : wrap64 (b : Int) = (b : Int) := IntWalk.wrap64_in _ (by omega)
  have h2 : (b : Int) / 2 ^ j = ((b >>> j : Nat) : Int) := by
    rw [Nat.shiftRight_eq_div_pow]; simp
  have h3 : b >>> j ≤ b := by rw [Nat.shiftRight_eq_div_pow]; exact Nat.div_le_self _ _
  rw [h1, h2, i64_xor_nat _ _ (by omega) (by omega)]
set_option maxHeartbeats 1000000 in
theorem rSum_any (s : ByteArray) (w : World) (hs : s.size ≤ 100000) : Calls Tryd.prog 108 #[.string s] w fun e w' => e = .returned (.int .i64 (crc s.data.toList : Nat)) ∧ w = w' := by
  have hlen : s.data.toList.length = s.size := rfl
  have HLEN := Lib.hid hlen
  clear hlen
  go_enter Tryd.func108, Tryd.ntmps108
  go_wp2_with fail
  go_loop [3, 4] (fun s3 s4 => ∃ k : Nat, k ≤ s.size ∧ s3 = .int .i64 (crcFold (s.data.toList.take k) 4294967295 : Nat) ∧ s4 = .int .i64 k) (fun _ s4 => s.size - (intOf s4).toNat)
  case atStart => exact ⟨0, Nat.zero_le _, rfl, rfl⟩
  case round =>
    obtain ⟨k, hk, rfl, rfl⟩ := hrel
    have hc : crcFold (s.data.toList.take k) 4294967295 < 4294967296 := crcFold_lt (by decide)
    by_cases hlt : k < s.size
    · have hT := Lib.hid (crcFold_take s.data.toList k (by rw [HLEN.out]; exact hlt) 4294967295)
      obtain ⟨c, hcc⟩ : ∃ c, c = crcFold (s.data.toList.take k) 4294967295 := ⟨_, rfl⟩
      rw [← hcc] at hc hT ⊢
      have HC := Lib.hid hc
      clear hcc hc
      go_wp2_with fail
      go_loop [3, 5] (fun s3 s5 => ∃ j : Nat, j ≤ 8 ∧ s3 = .int .i64 (refIter s[k].toNat j c : Nat) ∧ s5 = .int .i64 j) (fun _ s5 => 8 - (intOf s5).toNat)
      case atStart => exact ⟨0, Nat.zero_le _, rfl, rfl⟩
      case round =>
        obtain ⟨j, hj, rfl, rfl⟩ := hrel
        by_cases hlt8 : j < 8
        · have hq : refIter s[k].toNat j c < 4294967296 := refIter_lt HC.out
          have hS := Lib.hid (refIter_succ s[k].toNat j c)
          generalize refIter s[k].toNat j c = d at hq hS ⊢
          have hX := sum_bit d s[k].toNat j hq s[k].toNat_lt
          by_cases hm : (d ^^^ s[k].toNat >>> j) % 2 = 1
          · have hbit : ((bits .xor .i64 (d : Int) (wrap64 (s[k].toNat : Int) / 2 ^ j)).tmod 2 == 1) = true := by rw [hX, Int.tmod_eq_emod_of_nonneg (by omega)]; simp; omega
            have hY : bits .xor .i64 ((d : Int) / 2) 3988292384 = ((d / 2 ^^^ 3988292384 : Nat) : Int) := by
              rw [show ((d : Int) / 2) = ((d / 2 : Nat) : Int) by omega, show (3988292384 : Int) = ((3988292384 : Nat) : Int) from rfl, i64_xor_nat _ _ (by omega) (by decide)]
            rw [if_pos hm] at hS
            have HY := Lib.hid hY
            clear hX hm hY
            go_wp2_with fail
            go_round
            case rel => exact ⟨j + 1, by omega, by rw [HY.out, hS.out], by go_num⟩
            case measure => simp [intOf]; omega
          · have hbit : ((bits .xor .i64 (d : Int) (wrap64 (s[k].toNat : Int) / 2 ^ j)).tmod 2 == 1) = false := by rw [hX, Int.tmod_eq_emod_of_nonneg (by omega)]; simp; omega
            have HY : Hid (((d : Int) / 2) = ((d / 2 ^^^ 0 : Nat) : Int)) := (show ((d : Int) / 2) = ((d / 2 ^^^ 0 : Nat) : Int) from by rw [Nat.xor_zero]; omega)
            rw [if_neg hm] at hS
            clear hX hm
            go_wp2_with fail
            go_round
            case rel => exact ⟨j + 1, by omega, by rw [HY.out, hS.out], by go_num⟩
            case measure => simp [intOf]; omega
        · have h8 : j = 8 := by omega
          go_wp2_with fail
          go_round
          case rel => exact ⟨k + 1, by omega, by rw [hT.out, h8, refIter_8]; rfl, by go_num⟩
          case measure => simp [intOf]; omega
    · have hN : bits .xor .i64 (crcFold (s.data.toList.take k) 4294967295 : Nat) 4294967295 = ((4294967295 - crcFold (s.data.toList.take k) 4294967295 : Nat) : Int) := by
        rw [show (4294967295 : Int) = ((4294967295 : Nat) : Int) from rfl, i64_xor_nat _ _ (by omega) (by decide), Nat.xor_comm, xor_all hc]
      have hE : Hid (4294967295 - crcFold (s.data.toList.take k) 4294967295 = crc s.data.toList) := (show 4294967295 - crcFold (s.data.toList.take k) 4294967295 = crc s.data.toList from by
        unfold crc
        rw [List.take_of_length_le (by rw [HLEN.out]; omega)])
      go_wp2_with fail
      go_ret
      exact ⟨ret_int (by rw [hE.out]), rfl⟩
set_option maxRecDepth 20000 in
theorem rByte_any (n : Int) (w : World) : Calls Tryd.prog 77 #[.int .i64 n] w fun e w' => e = .returned (.string (strOf [UInt8.ofNat (n % 256).toNat])) ∧ Below w.heap.size w w' := by
  obtain ⟨x, hx⟩ : ∃ x, x = UInt8.ofNat (n % 256).toNat := ⟨_, rfl⟩
  have hx2 : n % 256 = (x.toNat : Int) := by
    rw [hx, UInt8.toNat_ofNat', Nat.mod_eq_of_lt (by omega)]; omega
  have hb : Below w.heap.size w (w.alloc (.cells #[.int .u8 (x.toNat : Int)] 5)) := (Below.refl _ _).alloc (Nat.le_refl _) _
  have hn := get_alloc_new w (.cells #[.int .u8 (x.toNat : Int)] 5)
  have hcv : (convert 63 9 (.slice (some ⟨w.heap.size, 0, none⟩) 1 1)).run Tryd.prog (w.alloc (.cells #[.int .u8 (x.toNat : Int)] 5)) = .ok (.string (strOf [x])) (w.alloc (.cells #[.int .u8 (x.toNat : Int)] 5)) := run_bytes_str (w.alloc (.cells #[.int .u8 (x.toNat : Int)] 5)) w.heap.size 0 1 [x] (fun j hj => by
    have : j = 0 := by simpa using hj
    subst this
    unfold World.cell?
    simp only [Nat.zero_add]
    rw [hn]; rfl)
  rw [← hx]
  have HB := Lib.hid hb
  clear hx hb hn
  go_enter Tryd.func77, Tryd.ntmps77
  go_wp2_with fail
  go_ret
  exact ⟨rfl, HB.out⟩
set_option maxRecDepth 20000 in
set_option maxHeartbeats 1000000 in
theorem rWide_any (n many : Nat) (hm : many ≤ 8) (hn : n < 9223372036854775808) (w : World) : Calls Tryd.prog 107 #[.int .i64 n, .int .i64 many] w fun e w' => e = .returned (.string (strOf (beB many n))) ∧ Below w.heap.size w w' := by
  go_enter Tryd.func107, Tryd.ntmps107
  go_wp2_with fail
  go_loopw [0, 5, 6] (fun s0 s5 s6 wr => ∃ i : Nat, i ≤ many ∧ s0 = .int .i64 (n / 256 ^ i : Nat) ∧ s5 = .string (strOf (beB i n)) ∧ s6 = .int .i64 i ∧ Hid (Below w.heap.size w wr)) (fun _ _ s6 _ => many - (intOf s6).toNat)
  case atStart => exact ⟨0, Nat.zero_le _, by simp, rfl, rfl, Below.refl _ _⟩
  case round =>
    obtain ⟨i, hi, rfl, rfl, rfl, HB⟩ := hrel
    by_cases hlt : i < many
    · have hp : n / 256 ^ i < 9223372036854775808 := Nat.lt_of_le_of_lt (Nat.div_le_self _ _) hn
      have hd : n / 256 ^ i / 256 = n / 256 ^ (i + 1) := by rw [Nat.div_div_eq_div_mul, Nat.pow_succ]
      obtain ⟨p, hpp⟩ : ∃ p, p = n / 256 ^ i := ⟨_, rfl⟩
      have HC := Lib.hid (beB_cons i n)
      rw [← hpp] at hp hd HC ⊢
      have hz : (strOf (beB i n)).size = i := by rw [strOf_size, beB_length]
      have hz1 : (strOf [UInt8.ofNat p]).size = 1 := by rw [strOf_size]; rfl
      have HBy : Hid (∀ W, Calls Tryd.prog 77 #[.int .i64 ((p : Int) % 256)] W fun e w' => e = .returned (.string (strOf [UInt8.ofNat p])) ∧ Below W.heap.size W w') := (show _ from fun W => by
        have := rByte_any ((p : Int) % 256) W
        rw [show UInt8.ofNat ((p : Int) % 256 % 256).toNat = UInt8.ofNat p from by
          apply UInt8.toNat_inj.1
          rw [UInt8.toNat_ofNat', UInt8.toNat_ofNat']; omega] at this
        exact this)
      have HAp : Hid (strOf [UInt8.ofNat p] ++ strOf (beB i n) = strOf (beB (i + 1) n)) := (show strOf [UInt8.ofNat p] ++ strOf (beB i n) = strOf (beB (i + 1) n) from by rw [HC.out, strOf_append]; rfl)
      have HD := Lib.hid hd
      clear hpp hd
      go_wp2_with fail
      refine (HBy.out _).mono ?_
      rintro e w1 ⟨rfl, b1⟩
      have HB1 := Lib.hid (HB.out.trans (b1.mono HB.out.size))
      clear b1
      go_wp2_with fail
      go_roundw
      case rel => exact ⟨i + 1, by omega, by rw [← HD.out]; simp, by rw [HAp.out], by go_num, HB1⟩
      case measure => simp [intOf]; omega
    · obtain rfl : i = many := by omega
      go_wp2_with fail
      go_ret
      exact ⟨rfl, HB.out⟩
end Go.Proofs.YtkhcepdeppmofaaDoor
