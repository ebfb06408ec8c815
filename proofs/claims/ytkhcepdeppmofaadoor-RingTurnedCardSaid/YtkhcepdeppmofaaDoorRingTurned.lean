/- RingTurned. -/
import Derived.Test.YtkhcepdeppmofaaDoorRingW
namespace Go.Proofs.YtkhcepdeppmofaaDoor
open Go.RowKit
set_option linter.unusedVariables false

set_option maxRecDepth 20000 in
set_option maxHeartbeats 4000000 in
theorem ringTurned_any (B : Nat) (sa : Nat → Addr) (many which at_ by_ : Int) (w : World) (hS : SentsR B sa w) (hby : 0 ≤ by_ ∧ by_ < 256) :
    Calls Tryd.prog 4 #[.int .i64 many, .int .i64 which, .int .i64 at_, .int .u8 by_] w fun e w' => e = .returned (.bool true) ∧ Below w.heap.size w w' := by
  have HS := Lib.hid hS
  have hB := hS.top
  clear hS
  obtain ⟨hb0, hb1⟩ := hby
  go_enter Tryd.func4, Tryd.ntmps4
  go_wp2_with fail
  refine (logged_any B sa w HS.out).mono ?_
  rintro e w1 ⟨rfl, b1⟩
  have HB1 := Lib.hid b1
  clear b1
  by_cases g1 : many < 1
  · go_wp2_with fail
    go_ret
    exact ⟨rfl, HB1.out⟩
  by_cases g2 : 40 < many
  · go_wp2_with fail
    go_ret
    exact ⟨rfl, HB1.out⟩
  by_cases g3 : which < 0
  · go_wp2_with fail
    go_ret
    exact ⟨rfl, HB1.out⟩
  by_cases g4 : 8 ≤ which
  · go_wp2_with fail
    go_ret
    exact ⟨rfl, HB1.out⟩
  by_cases g5 : many ≤ which
  · go_wp2_with fail
    go_ret
    exact ⟨rfl, HB1.out⟩
  by_cases g6 : at_ < 0
  · go_wp2_with fail
    go_ret
    exact ⟨rfl, HB1.out⟩
  by_cases g7 : 17 ≤ at_
  · go_wp2_with fail
    go_ret
    exact ⟨rfl, HB1.out⟩
  by_cases g8 : by_ = 0
  · go_wp2_with fail
    go_ret
    exact ⟨rfl, HB1.out⟩
  have hg8 : (by_ == 0) = false := by simpa using g8
  go_upto_region 6 with fail
  rename ((_ ∧ _) ∧ _) ∧ _ => hx1
  rename (_ ∧ _) ∧ _ => hx2
  clear hx1 hx2 hg8
  obtain ⟨M, rfl⟩ : ∃ M : Nat, many = M := ⟨many.toNat, by omega⟩
  obtain ⟨H, rfl⟩ : ∃ H : Nat, which = H := ⟨which.toNat, by omega⟩
  obtain ⟨A, rfl⟩ : ∃ A : Nat, at_ = A := ⟨at_.toNat, by omega⟩
  have HN := Lib.hid (cr_new 153 w w1 (HS.out.below HB1.out) HB1.out hB (by decide))
  obtain ⟨bz, hbz⟩ : ∃ bz, bz = List.replicate 153 (0 : UInt8) := ⟨_, rfl⟩
  rw [← hbz] at HN
  have hlog : Hid (Log ⟨bz, false, -1, 0⟩ (turnD 0) 0) := (show Log ⟨bz, false, -1, 0⟩ (turnD 0) 0 from by rw [hbz]; exact log_zero 153 (by decide))
  have hrz : Hid (recsOf bz = lastR (turnD 0)) := (show recsOf bz = lastR (turnD 0) from by rw [hbz, recs_zero 153 (by decide)]; rfl)
  clear hbz
  have HG : Hid (1 ≤ M ∧ M ≤ 40 ∧ H < 8 ∧ H < M ∧ A < 17) := (show 1 ≤ M ∧ M ≤ 40 ∧ H < 8 ∧ H < M ∧ A < 17 from by omega)
  have HG8 := Lib.hid g8
  clear g1 g2 g3 g4 g5 g6 g7 g8
  go_wp2_with fail
  refine HN.out.mono ?_
  rintro e w2 ⟨c, rb, rfl, h1⟩
  have H1 := Lib.hid h1
  clear h1 HN
  go_wp2_with fail
  refine (cr_open H1.out hlog.out.inv.len rfl).mono ?_
  rintro e w3 ⟨rg, lv, rfl, h2⟩
  simp only [hrz.out] at h2
  have H2 := Lib.hid h2
  clear h2 H1 hrz
  go_wp2_with fail
  go_loopw [13] (fun s13 wr => ∃ (i : Nat) (m : CM) (lv : Value), i ≤ M ∧ s13 = .int .i64 i ∧ Hid (m.cut = -1 ∧ Log m (turnD i) (18 * i)) ∧ Hid (RSt B sa w rg c rb 153 m false (lastR (turnD i)) lv wr)) (fun s13 _ => M - (intOf s13).toNat)
  case atStart => exact ⟨0, _, lv, by omega, rfl, ⟨rfl, hlog.out⟩, H2⟩
  case round =>
    obtain ⟨i, m, lv, hiM, rfl, hlg, H3⟩ := hrel
    clear H2
    have hM40 : M ≤ 40 := HG.out.2.1
    by_cases hi : i < M
    · have hi40 : (i : Int) < 40 := by omega
      obtain ⟨m', hap, hcut', hlog'⟩ := turn_app hlg.out.2 hlg.out.1 (by omega)
      have HL' : Hid (m'.cut = -1 ∧ Log m' (turnD (i + 1)) (18 * ((i + 1 : Nat) : Int))) := (show m'.cut = -1 ∧ Log m' (turnD (i + 1)) (18 * ((i + 1 : Nat) : Int)) from ⟨hcut', hlog'⟩)
      have HA : Hid (Calls Tryd.prog 30 #[.pointer (some ⟨rg, 0, none⟩), .int .i64 ((i : Int) % 8), .int .i64 (1 + (i : Int) % 3), .int .i64 i] wr fun e w' => e = .returned (.tuple #[.agg #[.int .i64 ((i + 1 : Nat) : Int), .int .i64 ((i % 8 : Nat) : Int), .int .i64 ((1 + i % 3 : Nat) : Int), .int .i64 (i : Int)], .nilIface]) ∧ ∃ lv', RSt B sa w rg c rb 153 m' false (lastR (turnD (i + 1))) lv' w') := (show _ from by
        have h := ringAppend_any B sa w rg c rb 153 m false (lastR (turnD i)) lv ((i : Int) % 8) (1 + (i : Int) % 3) i (18 * i) wr H3.out hlg.out.2.ok (by omega) hlg.out.2.inv.len (by rw [lastR_len]; omega) (by rw [turnD_seq hlg.out.2.inv]; omega)
        rw [hap] at h
        exact h.mono (fun _ _ ⟨he, lv', h, _⟩ => ⟨he, lv', h⟩))
      clear hap hcut' hlog'
      go_wp2_with fail
      refine HA.out.mono ?_
      rintro e w4 ⟨rfl, lv', h4⟩
      obtain ⟨bx, _⟩ := box4 w4 (.int .i64 ((i + 1 : Nat) : Int)) (.int .i64 ((i % 8 : Nat) : Int)) (.int .i64 ((1 + i % 3 : Nat) : Int)) (.int .i64 (i : Int)) 60
      have H5 := Lib.hid (h4.below bx)
      clear h4 bx HA H3
      go_wp2_with fail
      go_roundw
      case rel => exact ⟨i + 1, m', lv', by omega, by go_num, HL', H5⟩
      case measure => simp [intOf]; omega
    · have hiM2 : i = M := by omega
      subst hiM2
      clear hiM hi hM40
      have hlen : m.bs.length = 153 := by have := H3.out.mem.room; have := hlg.out.2.inv.len; omega
      have HLEN := Lib.hid hlen
      obtain ⟨cp, w5, hcv, hrow, hb5⟩ := run_str_bytes wr m.bs
      obtain ⟨S, k9, K, hS, hk9, hK, hSI, hKI, hK153, hwS, hwK, hw9, hS1, hS4⟩ := turn_arith i H A HG.out
      have hKl : K < m.bs.length := by rw [hlen]; exact hK153
      have hKi : (K : Int) < (m.bs.length : Int) := Int.ofNat_lt.2 hKl
      clear hlen hK153
      obtain ⟨b, rfl⟩ : ∃ b : Nat, by_ = b := ⟨by_.toNat, by omega⟩
      have hb256 : b < 256 := by omega
      have hb00 : b ≠ 0 := by have := HG8.out; omega
      obtain ⟨y, hy⟩ : ∃ y, y = m.bs[K] := ⟨_, rfl⟩
      obtain ⟨x, hx⟩ : ∃ x, x = UInt8.ofNat (y.toNat ^^^ b) := ⟨_, rfl⟩
      have hxor : bits .xor .u8 (y.toNat : Int) (b : Int) = (x.toNat : Int) := by
        rw [u8_xor _ _ (by have := y.toNat_lt; omega) hb256, hx, UInt8.toNat_ofNat', Nat.mod_eq_of_lt (Nat.xor_lt_two_pow (by have := y.toNat_lt; omega) (by omega))]
      have hturn : m.bs[K]? ≠ some x := by
        rw [List.getElem?_eq_getElem hKl, ← hy, hx]
        intro h
        exact xor_turns hb00 hb256 (Option.some.inj h).symm
      have q0 := hrow.at_ K hKl
      have qf := hrow.free K hKl
      rw [← hy] at q0
      obtain ⟨a, ha⟩ : ∃ a, a = wr.heap.size := ⟨_, rfl⟩
      rw [← ha] at hcv hrow q0 qf
      have hrow2 := hrow.set K x hKl
      have hcv2 := run_bytes_str _ a 0 cp _ (fun j hj => by rw [Nat.zero_add]; exact hrow2.at_ j hj)
      rw [List.length_set] at hcv2
      have hB6 : Hid (Below w.heap.size w (w5.setCell ⟨a, K, none⟩ (.int .u8 (x.toNat : Int)))) := (show Below w.heap.size w (w5.setCell ⟨a, K, none⟩ (.int .u8 (x.toNat : Int))) from (H3.out.bel.trans (hb5.mono H3.out.bel.size)).setCell (p := ⟨a, K, none⟩) (by rw [ha]; exact H3.out.bel.size) _)
      have HSL := Lib.hid (rSlotOf_any S hS1 hS4)
      rw [← hk9] at HSL
      have HEN := Lib.hid hturn
      have HK := Lib.hid hK
      have HK9 := Lib.hid hk9
      have HSS := Lib.hid hS
      obtain ⟨l2, hl2⟩ : ∃ l2, l2 = m.bs.set K x := ⟨_, rfl⟩
      rw [← hl2] at hcv2
      have HL2 := Lib.hid hl2
      have hBY := Lib.hid (cellsBytes_any c rb _ 153 m wr H3.out.mem)
      clear hS hk9 hK hb256 hb00 hy hx hturn ha hrow2 hb5 hrow hl2 hb0 hb1 hKl hS1 hS4
      go_wp2_with fail
      refine hBY.out.mono ?_
      rintro e w' ⟨rfl, rfl⟩
      go_wp2_with fail
      refine (HSL.out _).mono ?_
      rintro e w' ⟨rfl, rfl⟩
      have hHl : Hid (l2.length = 153) := (show l2.length = 153 from by rw [HL2.out, List.length_set]; exact HLEN.out)
      go_wp2_with fail
      clear hxor hwS hwK hw9 hSI hKI hKi hcv hcv2 q0 qf hBY
      refine (cr_from (strOf l2) B sa w _ (HS.out.below hB6.out) hB6.out hB (by rw [strOf_size, hHl.out]; decide)).mono ?_
      rintro e w7 ⟨c2, rb2, rfl, h7⟩
      rw [strOf_size, show (strOf l2).data.toList = l2 from strOf_data l2] at h7
      have H7 := Lib.hid h7
      clear h7
      go_wp2_with fail
      refine (cr_open H7.out (by show 153 ≤ l2.length; rw [hHl.out]; exact Nat.le_refl _) rfl).mono ?_
      rintro e w8 ⟨rg2, lv2, rfl, h8⟩
      have hL8 : Hid ((recsOf l2).length ≤ 8) := (show (recsOf l2).length ≤ 8 from recs_le l2)
      have h8' : RSt B sa w rg2 c2 rb2 l2.length ⟨l2, false, -1, 0⟩ false (recsOf l2) lv2 w8 := h8
      obtain ⟨L, hL⟩ : ∃ L, L = recsOf l2 := ⟨_, rfl⟩
      rw [← hL] at h8' hL8
      have H8 := Lib.hid h8'
      have HLL := Lib.hid hL
      clear h8 h8' H7 hL
      go_wp2_with fail
      refine (recs_st H8.out (by have := hL8.out; omega)).mono ?_
      rintro e w9 ⟨ao, cp9, rfl, b9, hs9⟩
      have H9 := Lib.hid (H8.out.below b9)
      have HS9 := Lib.hid hs9
      clear hs9 b9 H8
      by_cases h0 : H = 0
      · have hH0 : ((H : Int) == 0) = true := by simp [h0]
        have htz := turned_zero hlg.out.2.inv HG.out.1 HG.out.2.2.2.2 (by rw [HK.out, HK9.out, HSS.out, h0, Nat.sub_zero]) HEN.out
        rw [← HL2.out, ← HLL.out] at htz
        obtain ⟨_, hE, hZ⟩ := htz
        obtain ⟨z, hz⟩ : ∃ z, z = lastZ L := ⟨_, rfl⟩
        rw [← hz] at hZ
        have HLs := Lib.hid (last_st H9.out (by have := hL8.out; omega))
        rw [hE, ← hz] at HLs
        have hi1 := HG.out.1
        clear h0 hE hz
        by_cases hi : i = 1
        · have hz1 : decide (i = 1) = true := by simp [hi]
          have hi2 : ¬ 1 < i := by omega
          rw [hz1] at HLs
          clear hi hz1 hZ hi1
          go_wp2_with fail
          refine HLs.out.mono ?_
          rintro e w10 ⟨rfl, b10⟩
          obtain ⟨bx, x0, x1, x2, x3, _⟩ := box4 w10 (.int .i64 z.seq) (.int .i64 z.ent) (.int .i64 z.kind) (.int .i64 z.tick) 60
          have HB := Lib.hid (H9.out.bel.trans ((b10.trans (bx.mono b10.size)).mono H9.out.bel.size))
          rw [show recAgg z = .agg #[.int .i64 z.seq, .int .i64 z.ent, .int .i64 z.kind, .int .i64 z.tick] from rfl]
          clear bx b10
          go_upto_region 30 with fail
          obtain ⟨a4, ha4⟩ : ∃ a, a = w10.heap.size := ⟨_, rfl⟩
          rw [← ha4] at x0 x1 x2 x3 ⊢
          generalize w10.alloc _ = w11 at HB x0 x1 x2 x3 ⊢
          clear ha4
          go_wp2_with fail
          go_ret
          exact ⟨ret_bool (by simp only [Bool.not_eq_true', decide_eq_false_iff_not]; omega), HB.out⟩
        · have hz1 : decide (i = 1) = false := by simp [hi]
          have hi2 : 1 < i := by omega
          have hzs : ((z.seq : Int) == (i : Int) - 1) = true := by
            have := hZ hi2
            simp; omega
          have HZS : Hid ((z.seq : Int) = (i : Int) - 1 ∧ wrap64 ((i : Int) - 1) = (i : Int) - 1) := (show (z.seq : Int) = (i : Int) - 1 ∧ wrap64 ((i : Int) - 1) = (i : Int) - 1 from ⟨by have := hZ hi2; omega, IntWalk.wrap64_in _ (by have := HG.out.2.1; omega)⟩)
          rw [hz1] at HLs
          clear hi hz1 hZ hi1
          go_wp2_with fail
          refine HLs.out.mono ?_
          rintro e w10 ⟨rfl, b10⟩
          obtain ⟨bx, x0, x1, x2, x3, _⟩ := box4 w10 (.int .i64 z.seq) (.int .i64 z.ent) (.int .i64 z.kind) (.int .i64 z.tick) 60
          have HB := Lib.hid (H9.out.bel.trans ((b10.trans (bx.mono b10.size)).mono H9.out.bel.size))
          rw [show recAgg z = .agg #[.int .i64 z.seq, .int .i64 z.ent, .int .i64 z.kind, .int .i64 z.tick] from rfl]
          clear bx b10
          go_upto_region 30 with fail
          obtain ⟨a4, ha4⟩ : ∃ a, a = w10.heap.size := ⟨_, rfl⟩
          rw [← ha4] at x0 x1 x2 x3 ⊢
          generalize w10.alloc _ = w11 at HB x0 x1 x2 x3 ⊢
          clear ha4
          go_wp2_with fail
          go_ret
          exact ⟨ret_bool (decide_eq_true (by have h1 := HZS.out.1; have h2 := HZS.out.2; omega)), HB.out⟩
      · have hH0 : ((H : Int) == 0) = false := by simp [h0]
        have htm := turned_more hlg.out.2.inv HG.out.2.2.2.1 (by omega) HG.out.2.2.1 HG.out.2.2.2.2 (by rw [HK.out, HK9.out, HSS.out]) HEN.out
        rw [← HL2.out, ← HLL.out] at htm
        obtain ⟨m0, m1, m2⟩ := htm
        obtain ⟨J, hJ⟩ : ∃ J, H = J + 1 := ⟨H - 1, by omega⟩
        have hJl : J < L.length := by omega
        obtain ⟨bb, off, rfl, _, hbb, hc⟩ := rec_cells HS9.out (by omega)
        have q0 := (hc 0 (by omega)).1
        have q1 := (hc J hJl).1
        have hm1 := m1 (by omega)
        have hm2 := m2 (by omega)
        obtain ⟨x0, hx0⟩ : ∃ x, x = (L[0]'(by omega)).seq := ⟨_, rfl⟩
        obtain ⟨x1, hx1⟩ : ∃ x, x = (L[J]).seq := ⟨_, rfl⟩
        have hx1' : x1 = i := by
          rw [hx1, ← hm2]
          congr 2; omega
        have hx0' : x0 = i - H + 1 := by rw [hx0, hm1]
        have hHi := HG.out.2.2.2.1
        have he0 : ((x0 : Int) == (i : Int) - (H : Int) + 1) = true := by simp; omega
        have he1 : ((x1 : Int) == (i : Int)) = true := by simp [hx1']
        have hel : ((L.length : Int) == (H : Int)) = true := by simp [m0]
        have hHJ : (H : Int) - 1 = (J : Int) := by omega
        have hL0 : (0 : Int) < L.length := by omega
        have hLJ : (J : Int) < L.length := by omega
        have hwJ : wrap64 (J : Int) = (J : Int) := IntWalk.wrap64_in _ (by have := HG.out; omega)
        obtain ⟨hwi, hwi1⟩ := turn_wraps i H A HG.out
        rw [← hx0, Nat.zero_mul, Nat.add_zero] at q0
        rw [← hx1] at q1
        clear m0 m1 m2 hJ hJl hc hm1 hm2 hx0 hx1 hx0' hx1' h0 hHi
        go_wp2_with fail
        go_ret
        exact ⟨rfl, H9.out.bel⟩
end Go.Proofs.YtkhcepdeppmofaaDoor
