/- Package ring: write. -/
import Derived.Test.YtkhcepdeppmofaaDoorRingC
import Derived.Test.YtkhcepdeppmofaaDoorRingP
import Derived.Test.YtkhcepdeppmofaaDoorCells4
import Derived.Test.YtkhcepdeppmofaaDoorCells5
namespace Go.Proofs.YtkhcepdeppmofaaDoor
open Go.RowKit
set_option linter.unusedVariables false

theorem CMOk.write {m : CM} {k : Int} (h : CMOk m k) (a : Nat) (l : List UInt8) : CMOk (writeM m a l) (k + l.length) := by
  have hn := writeN_bd m.cut l.length
  have h0 := h.c0
  have h1 := h.c1
  have h2 := h.w0
  have h3 := h.w1
  refine ⟨cutAt_ge h0, ?_, ?_, ?_⟩
  · show cutAt m.cut (writeN m.cut l.length) ≤ _
    unfold cutAt; split <;> omega
  · show 0 ≤ m.wr + (writeN m.cut l.length : Int); omega
  · show m.wr + (writeN m.cut l.length : Int) ≤ _; omega
def ringC (c : Nat) (lv : Value) (dead : Bool) : Obj := .cells #[.pointer (some ⟨c, 0, none⟩), lv, .bool dead] 133
theorem ring_cells {w : World} {rg c : Nat} {lv : Value} {dead : Bool} (h : w.heap[rg]? = some (ringC c lv dead)) :
    w.cell? ⟨rg, 0, none⟩ = some (.pointer (some ⟨c, 0, none⟩)) ∧ w.cell? ⟨rg, 1, none⟩ = some lv ∧ w.cell? ⟨rg, 2, none⟩ = some (.bool dead) ∧ ∀ o, w.frozen? ⟨rg, o, none⟩ = false := by
  unfold ringC at h
  simp [World.cell?, World.frozen?, h]
theorem errv_succ (sa : Nat → Addr) (k : Nat) : errv sa (k + 1) = .iface 304 (.pointer (some (sa k))) := rfl
theorem errv_zero (sa : Nat → Addr) : errv sa 0 = .nilIface := rfl
/-- In the middle of write: the record's box, the ring's, the cells. -/
structure WrK (B : Nat) (sa : Nat → Addr) (w0 : World) (rg c rb cap : Nat) (lv : Value) (dead : Bool) (x : RecV) (xb : Nat) (m : CM) (w : World) : Prop where
  ring : w.heap[rg]? = some (ringC c lv dead)
  mem : CellsAt w c rb (some ⟨rb, 0, none⟩) cap m
  se : SentsR B sa w
  rc : w.heap[xb]? = some (recC x)
  kp : Keep (fun b => b = c ∨ b = rb) w0 w
theorem WrK.step {B : Nat} {sa : Nat → Addr} {w0 : World} {rg c rb cap : Nat} {lv : Value} {dead : Bool} {x : RecV} {xb : Nat} {m m' : CM} {w w' : World} (h : WrK B sa w0 rg c rb cap lv dead x xb m w) (hne : rg ≠ c ∧ rg ≠ rb ∧ xb ≠ c ∧ xb ≠ rb) (hB : B ≤ c ∧ B ≤ rb)
    (k : Keep (fun b => b = c ∨ b = rb) w w') (h' : CellsAt w' c rb (some ⟨rb, 0, none⟩) cap m') : WrK B sa w0 rg c rb cap lv dead x xb m' w' :=
  ⟨k.get h.ring (by rintro (e | e); exact hne.1 e; exact hne.2.1 e), h', h.se.keep k (fun b hb => by rcases hb with rfl | rfl; exact hB.1; exact hB.2), k.get h.rc (by rintro (e | e); exact hne.2.2.1 e; exact hne.2.2.2 e), h.kp.trans k⟩
theorem WrK.below {B : Nat} {sa : Nat → Addr} {w0 : World} {rg c rb cap : Nat} {lv : Value} {dead : Bool} {x : RecV} {xb : Nat} {m : CM} {w w' : World} (h : WrK B sa w0 rg c rb cap lv dead x xb m w) (b : Below w.heap.size w w') : WrK B sa w0 rg c rb cap lv dead x xb m w' :=
  ⟨below_get b h.ring (lt_of_get h.ring), h.mem.keep (below_keep b) (fun _ h => h.elim), h.se.below b, below_get b h.rc (lt_of_get h.rc), h.kp.trans ((below_keep b).mono (fun _ _ h => h.elim))⟩

theorem wrk_limbs {B : Nat} {sa : Nat → Addr} {w0 : World} {rg c rb cap : Nat} {lv : Value} {dead : Bool} {x : RecV} {xb : Nat} {m : CM} {w : World} (h : WrK B sa w0 rg c rb cap lv dead x xb m w) :
    w.cell? ⟨rg, 0, none⟩ = some (.pointer (some ⟨c, 0, none⟩)) ∧ w.cell? ⟨xb, 0, none⟩ = some (.int .i64 x.seq) ∧ w.cell? ⟨xb, 1, none⟩ = some (.int .i64 x.ent) ∧ w.cell? ⟨xb, 2, none⟩ = some (.int .i64 x.kind) ∧ w.cell? ⟨xb, 3, none⟩ = some (.int .i64 x.tick) :=
  ⟨(ring_cells h.ring).1, four_cells h.rc⟩
theorem cellsRead_1 (B : Nat) (sa : Nat → Addr) (c rb cap : Nat) (m : CM) (a : Nat) (w : World) (h : CellsAt w c rb (some ⟨rb, 0, none⟩) cap m) (hS : SentsR B sa w) (ho : m.off = false) (hn : a + 1 ≤ m.bs.length) :
    Calls Tryd.prog 66 #[.pointer (some ⟨c, 0, none⟩), .int .i64 a, .int .i64 1] w fun e w' => e = .returned (.tuple #[.string (strOf ((m.bs.drop a).take 1)), .nilIface]) ∧ w = w' := cellsRead_good B sa c rb _ cap m a 1 w h hS ho hn
theorem lookE_zero0 {off : Bool} {len : Nat} {a n : Int} (h : lookE off len a n = 0) : off = false ∧ 0 ≤ a ∧ 0 ≤ n ∧ a + n ≤ len := by
  unfold lookE at h
  split at h
  · cases h
  · split at h
    · cases h
    · rename_i h1 h2
      exact ⟨by simpa using h2, by omega, by omega, by omega⟩
set_option maxRecDepth 20000 in
set_option maxHeartbeats 4000000 in
theorem ringWrite_any (B : Nat) (sa : Nat → Addr) (rg c rb cap : Nat) (lv : Value) (dead : Bool) (m : CM) (x : RecV) (k : Int) (w : World) (hr : w.heap[rg]? = some (ringC c lv dead)) (hm : CellsAt w c rb (some ⟨rb, 0, none⟩) cap m) (hS : SentsR B sa w)
    (hne : rg ≠ c ∧ rg ≠ rb) (hB : B ≤ c ∧ B ≤ rb) (hx : RecOk x) (hk : CMOk m k) (hk2 : k ≤ 900000000) (hl : 153 ≤ m.bs.length) :
    Calls Tryd.prog 72 #[.pointer (some ⟨rg, 0, none⟩), recAgg x] w fun e w' => e = .returned (errv sa (ringPut m x).1) ∧ CellsAt w' c rb (some ⟨rb, 0, none⟩) cap (ringPut m x).2 ∧ Keep (fun b => b = c ∨ b = rb) w w' := by
  have hrl := lt_of_get hr
  have hcl := lt_of_get hm.box
  have hbl : rb < w.heap.size := by
    obtain ⟨C, t, h, _⟩ := hm.row rfl
    exact lt_of_get h
  have K0 : WrK B sa w rg c rb cap lv dead x w.heap.size m (w.alloc (recC x)) :=
    ⟨get_alloc_old _ hr, hm.keep (below_keep ((Below.refl _ _).alloc (Nat.le_refl _) _)) (fun _ h => h.elim), hS.below ((Below.refl _ _).alloc (Nat.le_refl _) _), get_alloc_new _ _, (Keep.refl _ _).alloc _⟩
  have hne4 : rg ≠ c ∧ rg ≠ rb ∧ w.heap.size ≠ c ∧ w.heap.size ≠ rb := ⟨hne.1, hne.2, by omega, by omega⟩
  obtain ⟨a, ha⟩ : ∃ a, a = slotAt x := ⟨_, rfl⟩
  have ha2 : a ≤ 136 := by rw [ha]; unfold slotAt; omega
  have hA : ((x.seq : Int) - 1) % 9 * 17 = (a : Int) := by
    have := hx.s1
    rw [ha]; unfold slotAt
    omega
  have hx1 : (1 : Int) ≤ x.seq := by have := hx.s1; omega
  have hx2 : (x.seq : Int) < 4294967296 := by have := hx.s2; omega
  obtain ⟨ee, hee⟩ : ∃ ee, ee = a + 16 := ⟨_, rfl⟩
  have hAE : (a : Int) + 17 - 1 = (ee : Int) := by omega
  have hee2 : ee ≤ 152 := by omega
  have HP := Lib.hid (show ringPut m x = if lookE m.off m.bs.length (ee : Int) 1 = 0 then (if m.bs.getD ee 0 = 0 then ringPut.put2 m x else if writeE m.cut 1 = 0 then ringPut.put2 (writeM m ee [0]) x else (writeE m.cut 1, writeM m ee [0])) else (lookE m.off m.bs.length (ee : Int) 1, m) from by
    rw [hee, ha]; rfl)
  have HP2 := Lib.hid (show ∀ m, ringPut.put2 m x = if writeE m.cut 16 = 0 then (writeE (writeM m a (recBody x)).cut 1, writeM (writeM m a (recBody x)) ee [165]) else (writeE m.cut 16, writeM m a (recBody x)) from fun m => by
    rw [hee, ha]; rfl)
  have HK := Lib.hid K0
  have HA := Lib.hid ha
  have HX := Lib.hid hx
  have HM := Lib.hid hk
  unfold recC at HK
  clear K0 hr hm hS hne ha hx hee
  unfold recAgg
  obtain ⟨p, hp⟩ : ∃ p, p = ringPut m x := ⟨_, rfl⟩
  rw [← hp] at HP ⊢
  have HPP := Lib.hid hp
  clear hp
  go_enter Tryd.func72, Tryd.ntmps72
  go_upto_region 1 with fail
  generalize w.alloc _ = w1 at HK ⊢
  obtain ⟨r0, r1, r2, rf⟩ := ring_cells HK.out.ring
  obtain ⟨x0, x1, x2, x3⟩ := four_cells HK.out.rc
  clear r1 r2 x1 x2 x3
  by_cases hE : lookE m.off m.bs.length (ee : Int) 1 = 0
  · obtain ⟨hof, _, _, hln⟩ := lookE_zero0 hE
    rw [if_pos hE] at HP
    have hget : (m.bs.drop ee).take 1 = [m.bs.getD ee 0] := by
      rw [List.getD_eq_getElem?_getD, List.getElem?_eq_getElem (show ee < m.bs.length by omega)]
      rw [List.take_one, List.head?_drop, List.getElem?_eq_getElem (show ee < m.bs.length by omega)]
      rfl
    obtain ⟨z, hz⟩ : ∃ z, z = m.bs.getD ee 0 := ⟨_, rfl⟩
    rw [← hz] at hget HP
    have hzl : (strOf [z]).toList = [z] := by rw [ByteArray.toList_eq]; rfl
    have HOF := Lib.hid hof
    have hw1 := hk.w1
    have HG := Lib.hid hget
    have HZL := Lib.hid hzl
    have HKM := Lib.hid hk
    have HWG : Hid (∀ (a' : Nat) (s : ByteArray) (m' : CM) (k' : Int) (W : World), m'.off = false → m'.bs.length = m.bs.length → a' + s.size ≤ 153 → CMOk m' k' → k' ≤ 1000000000 → WrK B sa w rg c rb cap lv dead x w.heap.size m' W →
        Calls Tryd.prog 101 #[.pointer (some ⟨c, 0, none⟩), .int .i64 a', .string s] W fun e w' => e = .returned (errv sa (writeE m'.cut s.size)) ∧ WrK B sa w rg c rb cap lv dead x w.heap.size (writeM m' a' s.data.toList) w') := (show _ from by
      intro a' s m' k' W ho' hl' hs' hok hk' hW
      have h1 := hok.w1
      refine (cellsWrite_good B sa c rb cap m' a' s W hW.mem hW.se hB ho' (by omega) hok.c0 hok.c1 hok.w0 (by omega)).mono ?_
      rintro e w' ⟨rfl, q1, q2⟩
      exact ⟨rfl, hW.step hne4 hB q2 q1⟩)
    clear hE hof hget hz hzl hk
    go_wp2_with fail
    refine (cellsRead_1 B sa c rb cap m ee w1 HK.out.mem HK.out.se HOF.out (by omega)).mono ?_
    rintro e w' ⟨rfl, rfl⟩
    rw [HG.out]
    clear hx1 hx2 hA x0
    obtain ⟨zb, hzb⟩ : ∃ zb, ((strOf [z]).toList == [0]) = zb := ⟨_, rfl⟩
    have HZB := Lib.hid (show zb = decide (z = 0) from by rw [← hzb, HZL.out]; exact Bool.eq_iff_iff.2 (by simp))
    go_upto_if 32 with fail
    clear hzb
    go_cut [] (fun wx => ∃ m1 : CM, Hid (WrK B sa w rg c rb cap lv dead x w.heap.size m1 wx) ∧ Hid (p = ringPut.put2 m1 x) ∧ Hid (m1.off = false) ∧ Hid (CMOk m1 (k + 1)) ∧ Hid (m1.bs.length = m.bs.length))
    case first =>
      by_cases hz0 : z = 0
      · obtain rfl : zb = true := by rw [HZB.out]; simp [hz0]
        rw [if_pos hz0] at HP
        clear hz0
        go_wp2_with fail
        go_meet
        exact ⟨m, HK, HP, HOF, HKM.out.mono (by omega), rfl⟩
      · obtain rfl : zb = false := by rw [HZB.out]; simp [hz0]
        rw [if_neg hz0] at HP
        clear hz0
        go_wp2_with fail
        refine (HWG.out ee ⟨#[0]⟩ m k w1 HOF.out rfl (by show ee + 1 ≤ 153; omega) HKM.out (by omega) HK.out).mono ?_
        rintro e w2 ⟨rfl, h2⟩
        rw [show (⟨#[0]⟩ : ByteArray).size = 1 from rfl]
        by_cases hw : writeE m.cut 1 = 0
        · rw [if_pos hw] at HP
          have HW := Lib.hid hw
          have H2 := Lib.hid h2
          have OF2 : Hid ((writeM m ee [0]).off = false) := (show (writeM m ee [0]).off = false from by
            show decide (writeN m.cut 1 < 1) = false
            rw [writeE_zero hw]; rfl)
          clear hw h2
          rw [HW.out, errv_zero]
          go_wp2_with fail
          go_meet
          exact ⟨_, H2, HP, OF2, HKM.out.write ee [0], wBytes_length _ _ _ _ (writeN_bd _ _) (by have := writeN_bd m.cut 1; show ee + writeN m.cut 1 ≤ _; omega)⟩
        · obtain ⟨e8, _⟩ := writeE_else hw
          rw [if_neg hw, e8] at HP
          have H2 := Lib.hid h2
          clear hw h2
          rw [e8, errv_succ]
          go_wp2_with fail
          go_ret
          rw [HP.out]
          exact ⟨rfl, H2.out.mem, H2.out.kp⟩
    case rest =>
    obtain ⟨m1, hk1, hp1, ho1, hok1, hl1⟩ := hcut
    obtain ⟨r0, r1, r2, rf⟩ := ring_cells hk1.out.ring
    obtain ⟨x0, x1, x2, x3⟩ := four_cells hk1.out.rc
    clear HP HK HKM HG HZL r1 r2 hAE
    rw [HP2.out] at hp1
    have HBD : Hid (∀ W, WrK B sa w rg c rb cap lv dead x w.heap.size m1 W → Calls Tryd.prog 98 #[.agg #[.int .i64 x.seq, .int .i64 x.ent, .int .i64 x.kind, .int .i64 x.tick]] W fun e w' => e = .returned (.string (strOf (recBody x))) ∧ WrK B sa w rg c rb cap lv dead x w.heap.size m1 w') := (show _ from by
      intro W hW
      refine (body_any x HX.out.sm W).mono ?_
      rintro e w' ⟨rfl, b⟩
      exact ⟨rfl, hW.below b⟩)
    have HW16 : Hid (∀ W, WrK B sa w rg c rb cap lv dead x w.heap.size m1 W → Calls Tryd.prog 101 #[.pointer (some ⟨c, 0, none⟩), .int .i64 a, .string (strOf (recBody x))] W fun e w' => e = .returned (errv sa (writeE m1.cut 16)) ∧ WrK B sa w rg c rb cap lv dead x w.heap.size (writeM m1 a (recBody x)) w') := (show _ from by
      intro W hW
      have hsz : (strOf (recBody x)).size = 16 := by rw [strOf_size, recBody_length]
      have := HWG.out a (strOf (recBody x)) m1 (k + 1) W ho1.out hl1.out (by rw [hsz]; omega) hok1.out (by omega) hW
      rw [hsz, strOf_data] at this
      exact this)
    have KD : Hid (∀ W, WrK B sa w rg c rb cap lv dead x w.heap.size m1 W → WrK B sa w rg c rb cap lv dead x w.heap.size m1 W.drew) := (show _ from fun W h => ⟨h.ring, h.mem.keep (Keep.drew (Keep.refl (fun _ => False) _)) (fun _ h => h.elim), h.se.keep (Keep.drew (Keep.refl (fun _ => False) _)) (fun _ h => h.elim), h.rc, h.kp.drew⟩)
    go_upto_region 10 with fail
    go_cut [10] (fun s10 wx => s10 = errv sa (writeE m1.cut 16) ∧ Hid (WrK B sa w rg c rb cap lv dead x w.heap.size (writeM m1 a (recBody x)) wx))
    case first =>
      go_region_held3 (fun w' => w'.cell? ⟨rg, 0, none⟩ = some (.pointer (some ⟨c, 0, none⟩)) ∧ w'.cell? ⟨w.heap.size, 0, none⟩ = some (.int .i64 x.seq) ∧ w'.cell? ⟨w.heap.size, 1, none⟩ = some (.int .i64 x.ent) ∧ w'.cell? ⟨w.heap.size, 2, none⟩ = some (.int .i64 x.kind) ∧ w'.cell? ⟨w.heap.size, 3, none⟩ = some (.int .i64 x.tick))
        (first | exact ⟨r0, x0, x1, x2, x3⟩ | exact wrk_limbs k2 | exact wrk_limbs k3)
        (first | (go_at_call 98; refine (HBD.out _ ?_).mono ?_; (repeat (first | exact hk1.out | refine KD.out _ ?_)); rintro e w2 ⟨rfl, k2⟩) | (go_at_call 101; refine (HW16.out _ ?_).mono ?_; (repeat (first | exact k2 | refine KD.out _ ?_)); rintro e w3 ⟨rfl, k3⟩))
      all_goals (go_wp2_with fail; go_meet)
      all_goals exact ⟨rfl, k3⟩
    case rest =>
    obtain ⟨rfl, hk2⟩ := hcut
    clear r0 rf x0 x1 x2 x3 HBD HW16 KD hk1
    obtain ⟨r0, r1, r2, rf⟩ := ring_cells hk2.out.ring
    clear r1 r2
    by_cases hw : writeE m1.cut 16 = 0
    · rw [if_pos hw] at hp1
      have OF2 : Hid ((writeM m1 a (recBody x)).off = false) := (show (writeM m1 a (recBody x)).off = false from by
        show decide (writeN m1.cut (recBody x).length < (recBody x).length) = false
        rw [recBody_length, writeE_zero hw]; rfl)
      have LN2 : Hid ((writeM m1 a (recBody x)).bs.length = m.bs.length) := (show (writeM m1 a (recBody x)).bs.length = m.bs.length from by
        rw [← hl1.out]
        have hbl := recBody_length x
        have hl1' := hl1.out
        exact wBytes_length _ _ _ _ (writeN_bd _ _) (by have := writeN_bd m1.cut (recBody x).length; omega))
      have OK2 := Lib.hid (hok1.out.write a (recBody x))
      rw [recBody_length] at OK2
      have HW := Lib.hid hw
      clear hw
      rw [HW.out, errv_zero]
      generalize writeM m1 a (recBody x) = m2 at hp1 hk2 OF2 LN2 OK2
      go_wp2_with fail
      refine (HWG.out ee ⟨#[165]⟩ m2 (k + 1 + 16) wc OF2.out LN2.out (by show ee + 1 ≤ 153; omega) OK2.out (by omega) hk2.out).mono ?_
      rintro e w4 ⟨rfl, k4⟩
      go_wp2_with fail
      go_ret
      rw [hp1.out]
      exact ⟨rfl, k4.mem, k4.kp⟩
    · obtain ⟨e8, _⟩ := writeE_else hw
      rw [if_neg hw, e8] at hp1
      clear hw
      rw [e8, errv_succ]
      go_wp2_with fail
      go_ret
      rw [hp1.out]
      exact ⟨rfl, hk2.out.mem, hk2.out.kp⟩
  · obtain ⟨j, hj⟩ : ∃ j, lookE m.off m.bs.length (ee : Int) 1 = j + 1 := ⟨_, (Nat.succ_pred_eq_of_pos (Nat.pos_of_ne_zero hE)).symm⟩
    rw [if_neg hE, hj] at HP
    have HJ := Lib.hid hj
    clear hE hj
    go_wp2_with fail
    refine (cellsRead_bad B sa c rb _ cap m (ee : Int) 1 j w1 HK.out.mem HK.out.se HJ.out).mono ?_
    rintro e w' ⟨rfl, rfl⟩
    rw [errv_succ]
    go_wp2_with fail
    go_ret
    rw [HP.out]
    exact ⟨rfl, HK.out.mem, HK.out.kp⟩
end Go.Proofs.YtkhcepdeppmofaaDoor
