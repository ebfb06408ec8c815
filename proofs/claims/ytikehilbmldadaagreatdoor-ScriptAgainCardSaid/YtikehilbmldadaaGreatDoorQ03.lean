import Derived.Test.YtikehilbmldadaaGreatDoorQ02
import Derived.Lib.BufferWrite
import Derived.Test.YtikehilbmldadaaGreatDoorQ01
import Derived.Deep.DeepCutAuto
import Derived.Maps.OwnOps
import Derived.Maps.OwnSet
import Derived.WalkSpells
set_option maxHeartbeats 4000000
set_option maxRecDepth 20000
namespace Go.Proofs.YtikehilbmldadaaGreatDoor
open Go.RowKit
set_option linter.unusedVariables false
structure CK (B : Nat) (sa : Nat → Addr) (w0 : World) (c rb : Nat) (ao : Option Addr) (cap : Nat) (m : CM) (w : World) : Prop where
  mem : CellsAt w c rb ao cap m
  se : Sents B sa w
  bel : Below w0.heap.size w0 w
  lay : w0.heap.size ≤ c ∧ w0.heap.size ≤ rb ∧ B ≤ w0.heap.size
section
variable {B : Nat} {sa : Nat → Addr} {w0 w w' : World} {c rb : Nat} {ao : Option Addr} {cap : Nat} {m m' : CM}
theorem CK.step (h : CK B sa w0 c rb ao cap m w) (k : Keep (fun b => b = c ∨ b = rb) w w') (h' : CellsAt w' c rb ao cap m') : CK B sa w0 c rb ao cap m' w' := by
  obtain ⟨h1, h2, h3⟩ := h.lay
  exact ⟨h', h.se.keep k (fun b hb => by rcases hb with rfl | rfl <;> omega), h.bel.trans (k.below h.bel.size (fun b hb => by rcases hb with rfl | rfl <;> omega)), h.lay⟩
theorem CK.still (h : CK B sa w0 c rb ao cap m w) (k : Keep (fun _ => False) w w') : CK B sa w0 c rb ao cap m w' := h.step (k.mono (fun _ _ h => h.elim)) (h.mem.keep k (fun _ h => h.elim))
theorem CK.below (h : CK B sa w0 c rb ao cap m w) (b : Below w.heap.size w w') : CK B sa w0 c rb ao cap m w' := h.still (below_keep b)
end
end Go.Proofs.YtikehilbmldadaaGreatDoor
namespace Go.Proofs.YtikehilbmldadaaGreatDoor
open Go.RowKit
set_option linter.unusedVariables false
end Go.Proofs.YtikehilbmldadaaGreatDoor
namespace Go.Proofs.YtikehilbmldadaaGreatDoor
open Go.RowKit
set_option linter.unusedVariables false
end Go.Proofs.YtikehilbmldadaaGreatDoor
namespace Go.Proofs.YtikehilbmldadaaGreatDoor
open Go.RowKit
set_option linter.unusedVariables false
theorem CMOk.write {m : CM} {k : Int} (h : CMOk m k) (a : Nat) (l : List UInt8) : CMOk (writeM m a l) (k + l.length) := by
  have hn := writeN_bd m.cut l.length
  have h0 := h.c0
  have h1 := h.c1
  have h2 := h.w0
  have h3 := h.w1
  refine ⟨cutAt_ge h0, ?_, ?_, ?_⟩
  · show cutAt m.cut (writeN m.cut l.length) ≤ _
    unfold cutAt; split <;> omega
  · show 0 ≤ m.wr + (writeN m.cut l.length : Int); omega
  · show m.wr + (writeN m.cut l.length : Int) ≤ _; omega
def ringC (c : Nat) (lv : Value) (dead : Bool) : Obj := .cells #[.pointer (some ⟨c, 0, none⟩), lv, .bool dead] 193
theorem ring_cells {w : World} {rg c : Nat} {lv : Value} {dead : Bool} (h : w.heap[rg]? = some (ringC c lv dead)) :
    w.cell? ⟨rg, 0, none⟩ = some (.pointer (some ⟨c, 0, none⟩)) ∧ w.cell? ⟨rg, 1, none⟩ = some lv ∧ w.cell? ⟨rg, 2, none⟩ = some (.bool dead) ∧ ∀ o, w.frozen? ⟨rg, o, none⟩ = false := by
  unfold ringC at h
  simp [World.cell?, World.frozen?, h]
theorem errv_succR (sa : Nat → Addr) (k : Nat) : errv sa (k + 1) = .iface 372 (.pointer (some (sa k))) := rfl
theorem errv_zero (sa : Nat → Addr) : errv sa 0 = .nilIface := rfl
structure WrK (B : Nat) (sa : Nat → Addr) (w0 : World) (rg c rb cap : Nat) (lv : Value) (dead : Bool) (x : RecV) (xb : Nat) (m : CM) (w : World) : Prop where
  ring : w.heap[rg]? = some (ringC c lv dead)
  mem : CellsAt w c rb (some ⟨rb, 0, none⟩) cap m
  se : SentsR B sa w
  rc : w.heap[xb]? = some (recC x)
  kp : Keep (fun b => b = c ∨ b = rb) w0 w
theorem WrK.step {B : Nat} {sa : Nat → Addr} {w0 : World} {rg c rb cap : Nat} {lv : Value} {dead : Bool} {x : RecV} {xb : Nat} {m m' : CM} {w w' : World} (h : WrK B sa w0 rg c rb cap lv dead x xb m w) (hne : rg ≠ c ∧ rg ≠ rb ∧ xb ≠ c ∧ xb ≠ rb) (hB : B ≤ c ∧ B ≤ rb)
    (k : Keep (fun b => b = c ∨ b = rb) w w') (h' : CellsAt w' c rb (some ⟨rb, 0, none⟩) cap m') : WrK B sa w0 rg c rb cap lv dead x xb m' w' :=
  ⟨k.get h.ring (by rintro (e | e); exact hne.1 e; exact hne.2.1 e), h', h.se.keep k (fun b hb => by rcases hb with rfl | rfl; exact hB.1; exact hB.2), k.get h.rc (by rintro (e | e); exact hne.2.2.1 e; exact hne.2.2.2 e), h.kp.trans k⟩
theorem WrK.below {B : Nat} {sa : Nat → Addr} {w0 : World} {rg c rb cap : Nat} {lv : Value} {dead : Bool} {x : RecV} {xb : Nat} {m : CM} {w w' : World} (h : WrK B sa w0 rg c rb cap lv dead x xb m w) (b : Below w.heap.size w w') : WrK B sa w0 rg c rb cap lv dead x xb m w' :=
  ⟨below_get b h.ring (lt_of_get h.ring), h.mem.keep (below_keep b) (fun _ h => h.elim), h.se.below b, below_get b h.rc (lt_of_get h.rc), h.kp.trans ((below_keep b).mono (fun _ _ h => h.elim))⟩
theorem wrk_limbs {B : Nat} {sa : Nat → Addr} {w0 : World} {rg c rb cap : Nat} {lv : Value} {dead : Bool} {x : RecV} {xb : Nat} {m : CM} {w : World} (h : WrK B sa w0 rg c rb cap lv dead x xb m w) :
    w.cell? ⟨rg, 0, none⟩ = some (.pointer (some ⟨c, 0, none⟩)) ∧ w.cell? ⟨xb, 0, none⟩ = some (.int .i64 x.seq) ∧ w.cell? ⟨xb, 1, none⟩ = some (.int .i64 x.ent) ∧ w.cell? ⟨xb, 2, none⟩ = some (.int .i64 x.kind) ∧ w.cell? ⟨xb, 3, none⟩ = some (.int .i64 x.tick) :=
  ⟨(ring_cells h.ring).1, four_cells h.rc⟩
theorem cellsRead_1 (B : Nat) (sa : Nat → Addr) (c rb cap : Nat) (m : CM) (a : Nat) (w : World) (h : CellsAt w c rb (some ⟨rb, 0, none⟩) cap m) (hS : SentsR B sa w) (ho : m.off = false) (hn : a + 1 ≤ m.bs.length) :
    Calls Tryz.prog 182 #[.pointer (some ⟨c, 0, none⟩), .int .i64 a, .int .i64 1] w fun e w' => e = .returned (.tuple #[.string (strOf ((m.bs.drop a).take 1)), .nilIface]) ∧ w = w' := cellsRead_good B sa c rb _ cap m a 1 w h hS ho hn
theorem lookE_zero0 {off : Bool} {len : Nat} {a n : Int} (h : lookE off len a n = 0) : off = false ∧ 0 ≤ a ∧ 0 ≤ n ∧ a + n ≤ len := by
  unfold lookE at h
  split at h
  · cases h
  · split at h
    · cases h
    · rename_i h1 h2
      exact ⟨by simpa using h2, by omega, by omega, by omega⟩
theorem ringWrite_any (B : Nat) (sa : Nat → Addr) (rg c rb cap : Nat) (lv : Value) (dead : Bool) (m : CM) (x : RecV) (k : Int) (w : World) (hr : w.heap[rg]? = some (ringC c lv dead)) (hm : CellsAt w c rb (some ⟨rb, 0, none⟩) cap m) (hS : SentsR B sa w)
    (hne : rg ≠ c ∧ rg ≠ rb) (hB : B ≤ c ∧ B ≤ rb) (hx : RecOk x) (hk : CMOk m k) (hk2 : k ≤ 900000000) (hl : 153 ≤ m.bs.length) :
    Calls Tryz.prog 198 #[.pointer (some ⟨rg, 0, none⟩), recAgg x] w fun e w' => e = .returned (errv sa (ringPut m x).1) ∧ CellsAt w' c rb (some ⟨rb, 0, none⟩) cap (ringPut m x).2 ∧ Keep (fun b => b = c ∨ b = rb) w w' := by
  have hrl := lt_of_get hr
  have hcl := lt_of_get hm.box
  have hbl : rb < w.heap.size := by
    obtain ⟨C, t, h, _⟩ := hm.row rfl
    exact lt_of_get h
  have K0 : WrK B sa w rg c rb cap lv dead x w.heap.size m (w.alloc (recC x)) :=
    ⟨get_alloc_old _ hr, hm.keep (below_keep ((Below.refl _ _).alloc (Nat.le_refl _) _)) (fun _ h => h.elim), hS.below ((Below.refl _ _).alloc (Nat.le_refl _) _), get_alloc_new _ _, (Keep.refl _ _).alloc _⟩
  have hne4 : rg ≠ c ∧ rg ≠ rb ∧ w.heap.size ≠ c ∧ w.heap.size ≠ rb := ⟨hne.1, hne.2, by omega, by omega⟩
  obtain ⟨a, ha⟩ : ∃ a, a = slotAt x := ⟨_, rfl⟩
  have ha2 : a ≤ 136 := by rw [ha]; unfold slotAt; omega
  have hA : ((x.seq : Int) - 1) % 9 * 17 = (a : Int) := by
    have := hx.s1
    rw [ha]; unfold slotAt
    omega
  have hx1 : (1 : Int) ≤ x.seq := by have := hx.s1; omega
  have hx2 : (x.seq : Int) < 4294967296 := by have := hx.s2; omega
  obtain ⟨ee, hee⟩ : ∃ ee, ee = a + 16 := ⟨_, rfl⟩
  have hAE : (a : Int) + 17 - 1 = (ee : Int) := by omega
  have hee2 : ee ≤ 152 := by omega
  have HP := Lib.hid (show ringPut m x = if lookE m.off m.bs.length (ee : Int) 1 = 0 then (if m.bs.getD ee 0 = 0 then ringPut.put2 m x else if writeE m.cut 1 = 0 then ringPut.put2 (writeM m ee [0]) x else (writeE m.cut 1, writeM m ee [0])) else (lookE m.off m.bs.length (ee : Int) 1, m) from by
    rw [hee, ha]; rfl)
  have HP2 := Lib.hid (show ∀ m, ringPut.put2 m x = if writeE m.cut 16 = 0 then (writeE (writeM m a (recBody x)).cut 1, writeM (writeM m a (recBody x)) ee [165]) else (writeE m.cut 16, writeM m a (recBody x)) from fun m => by
    rw [hee, ha]; rfl)
  have HK := Lib.hid K0
  have HA := Lib.hid ha
  have HX := Lib.hid hx
  have HM := Lib.hid hk
  unfold recC at HK
  clear K0 hr hm hS hne ha hx hee
  unfold recAgg
  obtain ⟨p, hp⟩ : ∃ p, p = ringPut m x := ⟨_, rfl⟩
  rw [← hp] at HP ⊢
  have HPP := Lib.hid hp
  clear hp
  go_enter Tryz.func198, Tryz.ntmps198
  go_upto_region 1 with fail
  generalize w.alloc _ = w1 at HK ⊢
  obtain ⟨r0, r1, r2, rf⟩ := ring_cells HK.out.ring
  obtain ⟨x0, x1, x2, x3⟩ := four_cells HK.out.rc
  clear r1 r2 x1 x2 x3
  by_cases hE : lookE m.off m.bs.length (ee : Int) 1 = 0
  · obtain ⟨hof, _, _, hln⟩ := lookE_zero0 hE
    rw [if_pos hE] at HP
    have hget : (m.bs.drop ee).take 1 = [m.bs.getD ee 0] := by
      rw [List.getD_eq_getElem?_getD, List.getElem?_eq_getElem (show ee < m.bs.length by omega)]
      rw [List.take_one, List.head?_drop, List.getElem?_eq_getElem (show ee < m.bs.length by omega)]
      rfl
    obtain ⟨z, hz⟩ : ∃ z, z = m.bs.getD ee 0 := ⟨_, rfl⟩
    rw [← hz] at hget HP
    have hzl : (strOf [z]).toList = [z] := by rw [ByteArray.toList_eq]; rfl
    have HOF := Lib.hid hof
    have hw1 := hk.w1
    have HG := Lib.hid hget
    have HZL := Lib.hid hzl
    have HKM := Lib.hid hk
    have HWG : Hid (∀ (a' : Nat) (s : ByteArray) (m' : CM) (k' : Int) (W : World), m'.off = false → m'.bs.length = m.bs.length → a' + s.size ≤ 153 → CMOk m' k' → k' ≤ 1000000000 → WrK B sa w rg c rb cap lv dead x w.heap.size m' W →
        Calls Tryz.prog 239 #[.pointer (some ⟨c, 0, none⟩), .int .i64 a', .string s] W fun e w' => e = .returned (errv sa (writeE m'.cut s.size)) ∧ WrK B sa w rg c rb cap lv dead x w.heap.size (writeM m' a' s.data.toList) w') := (show _ from by
      intro a' s m' k' W ho' hl' hs' hok hk' hW
      have h1 := hok.w1
      refine (cellsWrite_good B sa c rb cap m' a' s W hW.mem hW.se hB ho' (by omega) hok.c0 hok.c1 hok.w0 (by omega)).mono ?_
      rintro e w' ⟨rfl, q1, q2⟩
      exact ⟨rfl, hW.step hne4 hB q2 q1⟩)
    clear hE hof hget hz hzl hk
    go_wp2_with fail
    refine (cellsRead_1 B sa c rb cap m ee w1 HK.out.mem HK.out.se HOF.out (by omega)).mono ?_
    rintro e w' ⟨rfl, rfl⟩
    rw [HG.out]
    clear hx1 hx2 hA x0
    obtain ⟨zb, hzb⟩ : ∃ zb, ((strOf [z]).toList == [0]) = zb := ⟨_, rfl⟩
    have HZB := Lib.hid (show zb = decide (z = 0) from by rw [← hzb, HZL.out]; exact Bool.eq_iff_iff.2 (by simp))
    go_upto_if 32 with fail
    clear hzb
    go_cut [] (fun wx => ∃ m1 : CM, Hid (WrK B sa w rg c rb cap lv dead x w.heap.size m1 wx) ∧ Hid (p = ringPut.put2 m1 x) ∧ Hid (m1.off = false) ∧ Hid (CMOk m1 (k + 1)) ∧ Hid (m1.bs.length = m.bs.length))
    case first =>
      by_cases hz0 : z = 0
      · obtain rfl : zb = true := by rw [HZB.out]; simp [hz0]
        rw [if_pos hz0] at HP
        clear hz0
        go_wp2_with fail
        go_meet
        exact ⟨m, HK, HP, HOF, HKM.out.mono (by omega), rfl⟩
      · obtain rfl : zb = false := by rw [HZB.out]; simp [hz0]
        rw [if_neg hz0] at HP
        clear hz0
        go_wp2_with fail
        refine (HWG.out ee ⟨#[0]⟩ m k w1 HOF.out rfl (by show ee + 1 ≤ 153; omega) HKM.out (by omega) HK.out).mono ?_
        rintro e w2 ⟨rfl, h2⟩
        rw [show (⟨#[0]⟩ : ByteArray).size = 1 from rfl]
        by_cases hw : writeE m.cut 1 = 0
        · rw [if_pos hw] at HP
          have HW := Lib.hid hw
          have H2 := Lib.hid h2
          have OF2 : Hid ((writeM m ee [0]).off = false) := (show (writeM m ee [0]).off = false from by
            show decide (writeN m.cut 1 < 1) = false
            rw [writeE_zero hw]; rfl)
          clear hw h2
          rw [HW.out, errv_zero]
          go_wp2_with fail
          go_meet
          exact ⟨_, H2, HP, OF2, HKM.out.write ee [0], wBytes_length _ _ _ _ (writeN_bd _ _) (by have := writeN_bd m.cut 1; show ee + writeN m.cut 1 ≤ _; omega)⟩
        · obtain ⟨e8, _⟩ := writeE_else hw
          rw [if_neg hw, e8] at HP
          have H2 := Lib.hid h2
          clear hw h2
          rw [e8, errv_succR]
          go_wp2_with fail
          go_ret
          rw [HP.out]
          exact ⟨rfl, H2.out.mem, H2.out.kp⟩
    case rest =>
    obtain ⟨m1, hk1, hp1, ho1, hok1, hl1⟩ := hcut
    obtain ⟨r0, r1, r2, rf⟩ := ring_cells hk1.out.ring
    obtain ⟨x0, x1, x2, x3⟩ := four_cells hk1.out.rc
    clear HP HK HKM HG HZL r1 r2 hAE
    rw [HP2.out] at hp1
    have HBD : Hid (∀ W, WrK B sa w rg c rb cap lv dead x w.heap.size m1 W → Calls Tryz.prog 227 #[.agg #[.int .i64 x.seq, .int .i64 x.ent, .int .i64 x.kind, .int .i64 x.tick]] W fun e w' => e = .returned (.string (strOf (recBody x))) ∧ WrK B sa w rg c rb cap lv dead x w.heap.size m1 w') := (show _ from by
      intro W hW
      refine (body_any x HX.out.sm W).mono ?_
      rintro e w' ⟨rfl, b⟩
      exact ⟨rfl, hW.below b⟩)
    have HW16 : Hid (∀ W, WrK B sa w rg c rb cap lv dead x w.heap.size m1 W → Calls Tryz.prog 239 #[.pointer (some ⟨c, 0, none⟩), .int .i64 a, .string (strOf (recBody x))] W fun e w' => e = .returned (errv sa (writeE m1.cut 16)) ∧ WrK B sa w rg c rb cap lv dead x w.heap.size (writeM m1 a (recBody x)) w') := (show _ from by
      intro W hW
      have hsz : (strOf (recBody x)).size = 16 := by rw [strOf_size, recBody_length]
      have := HWG.out a (strOf (recBody x)) m1 (k + 1) W ho1.out hl1.out (by rw [hsz]; omega) hok1.out (by omega) hW
      rw [hsz, strOf_data] at this
      exact this)
    have KD : Hid (∀ W, WrK B sa w rg c rb cap lv dead x w.heap.size m1 W → WrK B sa w rg c rb cap lv dead x w.heap.size m1 W.drew) := (show _ from fun W h => ⟨h.ring, h.mem.keep (Keep.drew (Keep.refl (fun _ => False) _)) (fun _ h => h.elim), h.se.keep (Keep.drew (Keep.refl (fun _ => False) _)) (fun _ h => h.elim), h.rc, h.kp.drew⟩)
    go_upto_region 10 with fail
    go_cut [10] (fun s10 wx => s10 = errv sa (writeE m1.cut 16) ∧ Hid (WrK B sa w rg c rb cap lv dead x w.heap.size (writeM m1 a (recBody x)) wx))
    case first =>
      go_region_held3 (fun w' => w'.cell? ⟨rg, 0, none⟩ = some (.pointer (some ⟨c, 0, none⟩)) ∧ w'.cell? ⟨w.heap.size, 0, none⟩ = some (.int .i64 x.seq) ∧ w'.cell? ⟨w.heap.size, 1, none⟩ = some (.int .i64 x.ent) ∧ w'.cell? ⟨w.heap.size, 2, none⟩ = some (.int .i64 x.kind) ∧ w'.cell? ⟨w.heap.size, 3, none⟩ = some (.int .i64 x.tick))
        (first | exact ⟨r0, x0, x1, x2, x3⟩ | exact wrk_limbs k2 | exact wrk_limbs k3)
        (first | (go_at_call 227; refine (HBD.out _ ?_).mono ?_; (repeat (first | exact hk1.out | refine KD.out _ ?_)); rintro e w2 ⟨rfl, k2⟩) | (go_at_call 239; refine (HW16.out _ ?_).mono ?_; (repeat (first | exact k2 | refine KD.out _ ?_)); rintro e w3 ⟨rfl, k3⟩))
      all_goals (go_wp2_with fail; go_meet)
      all_goals exact ⟨rfl, k3⟩
    case rest =>
    obtain ⟨rfl, hk2⟩ := hcut
    clear r0 rf x0 x1 x2 x3 HBD HW16 KD hk1
    obtain ⟨r0, r1, r2, rf⟩ := ring_cells hk2.out.ring
    clear r1 r2
    by_cases hw : writeE m1.cut 16 = 0
    · rw [if_pos hw] at hp1
      have OF2 : Hid ((writeM m1 a (recBody x)).off = false) := (show (writeM m1 a (recBody x)).off = false from by
        show decide (writeN m1.cut (recBody x).length < (recBody x).length) = false
        rw [recBody_length, writeE_zero hw]; rfl)
      have LN2 : Hid ((writeM m1 a (recBody x)).bs.length = m.bs.length) := (show (writeM m1 a (recBody x)).bs.length = m.bs.length from by
        rw [← hl1.out]
        have hbl := recBody_length x
        have hl1' := hl1.out
        exact wBytes_length _ _ _ _ (writeN_bd _ _) (by have := writeN_bd m1.cut (recBody x).length; omega))
      have OK2 := Lib.hid (hok1.out.write a (recBody x))
      rw [recBody_length] at OK2
      have HW := Lib.hid hw
      clear hw
      rw [HW.out, errv_zero]
      generalize writeM m1 a (recBody x) = m2 at hp1 hk2 OF2 LN2 OK2
      go_wp2_with fail
      refine (HWG.out ee ⟨#[165]⟩ m2 (k + 1 + 16) wc OF2.out LN2.out (by show ee + 1 ≤ 153; omega) OK2.out (by omega) hk2.out).mono ?_
      rintro e w4 ⟨rfl, k4⟩
      go_wp2_with fail
      go_ret
      rw [hp1.out]
      exact ⟨rfl, k4.mem, k4.kp⟩
    · obtain ⟨e8, _⟩ := writeE_else hw
      rw [if_neg hw, e8] at hp1
      clear hw
      rw [e8, errv_succR]
      go_wp2_with fail
      go_ret
      rw [hp1.out]
      exact ⟨rfl, hk2.out.mem, hk2.out.kp⟩
  · obtain ⟨j, hj⟩ : ∃ j, lookE m.off m.bs.length (ee : Int) 1 = j + 1 := ⟨_, (Nat.succ_pred_eq_of_pos (Nat.pos_of_ne_zero hE)).symm⟩
    rw [if_neg hE, hj] at HP
    have HJ := Lib.hid hj
    clear hE hj
    go_wp2_with fail
    refine (cellsRead_bad B sa c rb _ cap m (ee : Int) 1 j w1 HK.out.mem HK.out.se HJ.out).mono ?_
    rintro e w' ⟨rfl, rfl⟩
    rw [errv_succR]
    go_wp2_with fail
    go_ret
    rw [HP.out]
    exact ⟨rfl, HK.out.mem, HK.out.kp⟩
end Go.Proofs.YtikehilbmldadaaGreatDoor
namespace Go.Proofs.YtikehilbmldadaaGreatDoor
open Go.RowKit
set_option linter.unusedVariables false
structure GapV where
  fr : Int
  dst : Int
  mn : Int
  mx : Int
structure EntV where
  name : ByteArray
  tol : Int
  points : List ByteArray
  count : Int
  mn : Int
  mx : Int
  gaps : List GapV
  edges : List (Int × Int)
  first : List Int
  last : List Int
def gapCells (g : GapV) : List Value := [.int .i64 g.fr, .int .i64 g.dst, .int .i64 g.mn, .int .i64 g.mx]
def edgeCells (x : Int × Int) : List Value := [.int .i64 x.1, .int .i64 x.2]
def strCells1 (l : List ByteArray) : List Value := l.map Value.string
def intCells (l : List Int) : List Value := l.map (Value.int .i64)
structure EntSl (R : Nat → Prop) (w : World) (E : EntV) (vp vg ve vf vl : Value) : Prop where
  p : SlOf R w vp 1 (strCells1 E.points) E.points.length
  g : SlOf R w vg 4 (E.gaps.flatMap gapCells) E.gaps.length
  e : SlOf R w ve 2 (E.edges.flatMap edgeCells) E.edges.length
  f : SlOf R w vf 1 (intCells E.first) E.first.length
  l : SlOf R w vl 1 (intCells E.last) E.last.length
def entCs (E : EntV) (vp vg ve vf vl : Value) : Array Value := #[.string E.name, .int .i64 E.tol, vp, .int .i64 E.count, .int .i64 E.mn, .int .i64 E.mx, vg, ve, vf, vl]
def EntOf (R : Nat → Prop) (w : World) (v : Value) (E : EntV) : Prop := ∃ vp vg ve vf vl, v = .agg (entCs E vp vg ve vf vl) ∧ EntSl R w E vp vg ve vf vl
theorem EntSl.keep {R S : Nat → Prop} {w w' : World} {E : EntV} {vp vg ve vf vl : Value} (h : EntSl R w E vp vg ve vf vl) (hk : Keep S w w') (hd : ∀ b, R b → ¬ S b) : EntSl R w' E vp vg ve vf vl :=
  ⟨h.p.keep hk hd, h.g.keep hk hd, h.e.keep hk hd, h.f.keep hk hd, h.l.keep hk hd⟩
theorem EntOf.keep {R S : Nat → Prop} {w w' : World} {E : EntV} {v : Value} (h : EntOf R w v E) (hk : Keep S w w') (hd : ∀ b, R b → ¬ S b) : EntOf R w' v E := by
  obtain ⟨vp, vg, ve, vf, vl, rfl, hs⟩ := h
  exact ⟨_, _, _, _, _, rfl, hs.keep hk hd⟩
theorem EntOf.below {B : Nat} {R : Nat → Prop} {w w' : World} {E : EntV} {v : Value} (h : EntOf R w v E) (hk : Below B w w') (hd : ∀ b, R b → b < B) : EntOf R w' v E :=
  h.keep (Keep.of_below hk) (fun b hb => by have := hd b hb; omega)
theorem EntOf.mono {R S : Nat → Prop} {w : World} {E : EntV} {v : Value} (h : EntOf R w v E) (hd : ∀ b, R b → S b) : EntOf S w v E := by
  obtain ⟨vp, vg, ve, vf, vl, rfl, hs⟩ := h
  exact ⟨_, _, _, _, _, rfl, hs.p.mono hd, hs.g.mono hd, hs.e.mono hd, hs.f.mono hd, hs.l.mono hd⟩
theorem ten_cells {w : World} {b : Nat} {c0 c1 c2 c3 c4 c5 c6 c7 c8 c9 : Value} {t : TypeId} (h : w.heap[b]? = some (.cells #[c0, c1, c2, c3, c4, c5, c6, c7, c8, c9] t)) :
    w.cell? ⟨b, 0, none⟩ = some c0 ∧ w.cell? ⟨b, 1, none⟩ = some c1 ∧ w.cell? ⟨b, 2, none⟩ = some c2 ∧ w.cell? ⟨b, 3, none⟩ = some c3 ∧ w.cell? ⟨b, 4, none⟩ = some c4 ∧ w.cell? ⟨b, 5, none⟩ = some c5 ∧
    w.cell? ⟨b, 6, none⟩ = some c6 ∧ w.cell? ⟨b, 7, none⟩ = some c7 ∧ w.cell? ⟨b, 8, none⟩ = some c8 ∧ w.cell? ⟨b, 9, none⟩ = some c9 ∧ ∀ o, w.frozen? ⟨b, o, none⟩ = false := by
  simp [World.cell?, World.frozen?, h]
theorem Tryz.infoStr : (Tryz.prog.info? 9).map (fun i => (i.zero, i.size, i.bytes)) = some (some (.string ByteArray.empty), 1, 16) := by kernel_rfl
theorem Tryz.infoGap : (Tryz.prog.info? 126).map (fun i => (i.zero, i.size, i.bytes)) = some (some (.agg #[.int .i64 0, .int .i64 0, .int .i64 0, .int .i64 0]), 4, 32) := by kernel_rfl
theorem Tryz.infoEdge : (Tryz.prog.info? 127).map (fun i => (i.zero, i.size, i.bytes)) = some (some (.agg #[.int .i64 0, .int .i64 0]), 2, 16) := by kernel_rfl
theorem Tryz.infoInt : (Tryz.prog.info? 3).map (fun i => (i.zero, i.size, i.bytes)) = some (some (.int .i64 0), 1, 8) := by kernel_rfl
theorem SlOf.val {R : Nat → Prop} {w : World} {v : Value} {sz : Nat} {cs : List Value} {n : Nat} (h : SlOf R w v sz cs n) : ∃ ao cap, v = .slice ao n cap := by
  obtain ⟨_, ao, cap, hv, _⟩ := h
  exact ⟨ao, cap, hv⟩
structure OwnSt (w0 : World) (E : EntV) (i o : Value × Value × Value × Value × Value) (w : World) : Prop where
  below : Below w0.heap.size w0 w
  h0 : w.heap[w0.heap.size]? = some (.cells (entCs E i.1 i.2.1 i.2.2.1 i.2.2.2.1 i.2.2.2.2) 50)
  h1 : w.heap[w0.heap.size + 1]? = some (.cells (entCs ⟨ByteArray.empty, 0, [], 0, 0, 0, [], [], [], []⟩ (.slice none 0 0) (.slice none 0 0) (.slice none 0 0) (.slice none 0 0) (.slice none 0 0)) 50)
  h2 : w.heap[w0.heap.size + 1 + 1]? = some (.cells (entCs E o.1 o.2.1 o.2.2.1 o.2.2.2.1 o.2.2.2.2) 50)
theorem OwnSt.cells2 {w0 w w1 : World} {E : EntV} {i o : Value × Value × Value × Value × Value} (h : OwnSt w0 E i o w) (hb : Below w.heap.size w w1) :
    w1.cell? ⟨w0.heap.size + 1 + 1, 2, none⟩ = some o.1 ∧ w1.cell? ⟨w0.heap.size + 1 + 1, 6, none⟩ = some o.2.1 ∧ w1.cell? ⟨w0.heap.size + 1 + 1, 7, none⟩ = some o.2.2.1 ∧ w1.cell? ⟨w0.heap.size + 1 + 1, 8, none⟩ = some o.2.2.2.1 ∧
    w1.cell? ⟨w0.heap.size + 1 + 1, 9, none⟩ = some o.2.2.2.2 ∧ ∀ k, w1.frozen? ⟨w0.heap.size + 1 + 1, k, none⟩ = false := by
  have := ten_cells (below_get hb h.h2 (lt_of_get h.h2))
  exact ⟨this.2.2.1, this.2.2.2.2.2.2.1, this.2.2.2.2.2.2.2.1, this.2.2.2.2.2.2.2.2.1, this.2.2.2.2.2.2.2.2.2.1, this.2.2.2.2.2.2.2.2.2.2⟩
theorem OwnSt.step {w0 w w1 : World} {E : EntV} {i o o' : Value × Value × Value × Value × Value} (h : OwnSt w0 E i o w) (hb : Below w.heap.size w w1) {k : Nat} {v : Value}
    (ho : (entCs E o.1 o.2.1 o.2.2.1 o.2.2.2.1 o.2.2.2.2).setIfInBounds k v = entCs E o'.1 o'.2.1 o'.2.2.1 o'.2.2.2.1 o'.2.2.2.2) :
    OwnSt w0 E i o' (w1.setCell ⟨w0.heap.size + 1 + 1, k, none⟩ v) ∧ Keep (· = w0.heap.size + 1 + 1) w (w1.setCell ⟨w0.heap.size + 1 + 1, k, none⟩ v) := by
  have g2 := below_get hb h.h2 (lt_of_get h.h2)
  have kk : Keep (· = w0.heap.size + 1 + 1) w (w1.setCell ⟨w0.heap.size + 1 + 1, k, none⟩ v) :=
    (Keep.step (S := (· = w0.heap.size + 1 + 1)) (T := fun _ => False) (Keep.refl _ w) (below_keep hb) (fun _ h _ => h.elim)).setCell (p := ⟨w0.heap.size + 1 + 1, k, none⟩) (fun _ => rfl) v
  refine ⟨⟨?_, ?_, ?_, ?_⟩, kk⟩
  · exact h.below.trans (kk.below h.below.size (by intro j hj; omega))
  · exact kk.get h.h0 (by omega)
  · exact kk.get h.h1 (by omega)
  · rw [get_setCell _ g2, ho]
theorem oneCell_flat {α : Type} (f : α → List Value) (hf : ∀ x, ∀ u ∈ f x, u.oneCell' = true) (l : List α) : ∀ u ∈ l.flatMap f, u.oneCell' = true := by
  intro u hu
  obtain ⟨x, _, hx⟩ := List.mem_flatMap.1 hu
  exact hf x u hx
theorem oneCell_strs (l : List ByteArray) : ∀ u ∈ strCells1 l, u.oneCell' = true := by intro u hu; simp [strCells1] at hu; obtain ⟨x, _, rfl⟩ := hu; rfl
theorem oneCell_ints (l : List Int) : ∀ u ∈ intCells l, u.oneCell' = true := by intro u hu; simp [intCells] at hu; obtain ⟨x, _, rfl⟩ := hu; rfl
structure Light (E : EntV) : Prop where
  p : E.points.length ≤ 100
  g : E.gaps.length ≤ 100
  e : E.edges.length ≤ 100
  f : E.first.length ≤ 100
  l : E.last.length ≤ 100
structure OwnK (w0 : World) (E : EntV) (i : Value × Value × Value × Value × Value) (k : Nat) (w : World) (o : Value × Value × Value × Value × Value) : Prop where
  st : OwnSt w0 E i o w
  d0 : 0 < k → SlOf (fun b => w0.heap.size + 3 ≤ b) w o.1 1 (strCells1 E.points) E.points.length
  d1 : 1 < k → SlOf (fun b => w0.heap.size + 3 ≤ b) w o.2.1 4 (E.gaps.flatMap gapCells) E.gaps.length
  d2 : 2 < k → SlOf (fun b => w0.heap.size + 3 ≤ b) w o.2.2.1 2 (E.edges.flatMap edgeCells) E.edges.length
  d3 : 3 < k → SlOf (fun b => w0.heap.size + 3 ≤ b) w o.2.2.2.1 1 (intCells E.first) E.first.length
  d4 : 4 < k → SlOf (fun b => w0.heap.size + 3 ≤ b) w o.2.2.2.2 1 (intCells E.last) E.last.length
theorem OwnK.cells {w0 w w1 : World} {E : EntV} {i o : Value × Value × Value × Value × Value} {k : Nat} (h : OwnK w0 E i k w o) (hb : Below w.heap.size w w1) :
    w1.cell? ⟨w0.heap.size + 1 + 1, 2, none⟩ = some o.1 ∧ w1.cell? ⟨w0.heap.size + 1 + 1, 6, none⟩ = some o.2.1 ∧ w1.cell? ⟨w0.heap.size + 1 + 1, 7, none⟩ = some o.2.2.1 ∧ w1.cell? ⟨w0.heap.size + 1 + 1, 8, none⟩ = some o.2.2.2.1 ∧
    w1.cell? ⟨w0.heap.size + 1 + 1, 9, none⟩ = some o.2.2.2.2 ∧ ∀ k, w1.frozen? ⟨w0.heap.size + 1 + 1, k, none⟩ = false := h.st.cells2 hb
end Go.Proofs.YtikehilbmldadaaGreatDoor
namespace Go.Proofs.YtikehilbmldadaaGreatDoor
open Go.RowKit
set_option linter.unusedVariables false
def HTop (E : EntV) : Prop := 60 < E.name.size ∨ 30 < E.points.length ∨ 30 < E.gaps.length ∨ 80 < E.edges.length ∨ 30 < E.first.length ∨ 30 < E.last.length
instance (E : EntV) : Decidable (HTop E) := by unfold HTop; infer_instance
def Heavy (E : EntV) : Prop := HTop E ∨ ∃ s ∈ E.points, 60 < s.size
instance (E : EntV) : Decidable (Heavy E) := by unfold Heavy; infer_instance
end Go.Proofs.YtikehilbmldadaaGreatDoor
namespace Go.Proofs.YtikehilbmldadaaGreatDoor
open Go.RowKit
set_option linter.unusedVariables false
structure RepV where
  point : Int
  later : Int
  fin : Bool
end Go.Proofs.YtikehilbmldadaaGreatDoor
namespace Go.Proofs.YtikehilbmldadaaGreatDoor
open Go.RowKit
set_option linter.unusedVariables false
def pairV (p : Int × Int) : Value := .agg #[.int .i64 p.1, .int .i64 p.2]
theorem sameBits_pair (p : Int × Int) : Instr.sameBits 10000 (pairV p) (pairV p) = true := by
  have : ∀ n, Instr.sameBits (n + 2) (pairV p) (pairV p) = true := by intro n; simp [pairV, Instr.sameBits]
  exact this 9998
section
variable {P : Program}
theorem run_part_int (w : World) {e : TypeId} {k : IntKind} (he : P.underlying e = some (.int k)) (cs : Array Value) (i : Nat) (v : Value) (hv : cs[i]? = some v) : (part e cs i).run P w = .ok v w := by
  unfold part
  simp [isAgg, run_underlying he, hv]
structure PairMap (P : Program) (m t e b : TypeId) : Prop where
  um : P.underlying m = some (.map t b)
  ut : P.underlying t = some (.array 2 e)
  ue : P.underlying e = some (.int .i64)
  us : ∃ i, P.info? e = some i ∧ i.size = 1
  uz : ∀ w : World, (zeroValue b).run P w = .ok (.bool false) w
variable {m t e b : TypeId} (M : PairMap P m t e b)
include M
theorem PairMap.equal (w : World) (p q : Int × Int) : (Op.equal t (pairV p) (pairV q)).run P w = .ok (decide (p = q)) w := by
  obtain ⟨i, hi, hs⟩ := M.us
  have key : ∀ d, (Op.equalIn (d + 2) t (pairV p) (pairV q)).run P w = .ok (decide (p = q)) w := by
    intro d
    unfold pairV
    rw [Op.equalIn]
    have p0 := fun (a b : Int) (w : World) => run_part_int (P := P) w M.ue #[.int .i64 a, .int .i64 b] 0 _ rfl
    have p1 := fun (a b : Int) (w : World) => run_part_int (P := P) w M.ue #[.int .i64 a, .int .i64 b] 1 _ rfl
    have e1 := fun (a b : Int) (w : World) => run_equalIn_int (P := P) w d e .i64 .i64 a b M.ue
    simp [run_underlying M.ut, sizeOf, typeInfo, hi, hs, Std.Legacy.Range.forIn_eq_forIn_range', Std.Legacy.Range.size, List.range', p0, p1, e1]
    by_cases h1 : p.1 = q.1
    · by_cases h2 : p.2 = q.2
      · rw [if_pos h1, if_pos h2, decide_eq_true (Prod.ext h1 h2)]
      · rw [if_pos h1, if_neg h2, decide_eq_false (fun h => h2 (by rw [h]))]
    · rw [if_neg h1, decide_eq_false (fun h => h1 (by rw [h]))]
  exact key 9998
theorem PairMap.check (w : World) (em : Bool) (p : Int × Int) : (Instr.checkKey em 10000 t (pairV p)).run P w = .ok () w := by
  obtain ⟨i, hi, hs⟩ := M.us
  have key : ∀ d, (Instr.checkKey em (d + 2) t (pairV p)).run P w = .ok () w := by
    intro d
    unfold pairV
    rw [Instr.checkKey]
    have p0 := fun (a b : Int) (w : World) => run_part_int (P := P) w M.ue #[.int .i64 a, .int .i64 b] 0 _ rfl
    have p1 := fun (a b : Int) (w : World) => run_part_int (P := P) w M.ue #[.int .i64 a, .int .i64 b] 1 _ rfl
    have e1 : ∀ (a : Int) (w : World), (Instr.checkKey em (d + 1) e (.int .i64 a)).run P w = .ok () w := by
      intro a w
      rw [Instr.checkKey]
      simp [run_underlying M.ue]
    simp [run_underlying M.ut, sizeOf, typeInfo, hi, hs, Std.Legacy.Range.forIn_eq_forIn_range', Std.Legacy.Range.size, List.range', p0, p1, e1]
  exact key 9998
def PairEs (es : List MapEntry) (K : List (Int × Int)) : Prop := es.map (fun x => (x.key, x.val)) = K.map (fun p => (pairV p, Value.bool true))
theorem PairMap.find (w : World) (p : Int × Int) : ∀ (es : List MapEntry) (K : List (Int × Int)) (i : Nat), PairEs es K →
    ∃ r, (Instr.findAsking t (pairV p) es i).run P w = .ok r w ∧ ((r = none ∧ p ∉ K) ∨ ∃ j, r = some (i + j, .bool true) ∧ K[j]? = some p)
  | [], K, i, h => by
    have hK : K = [] := by simpa [PairEs] using h
    subst hK
    exact ⟨none, by simp [Instr.findAsking], .inl ⟨rfl, by simp⟩⟩
  | x :: es, [], i, h => by simp [PairEs] at h
  | x :: es, q :: K, i, h => by
    simp only [PairEs, List.map_cons, List.cons.injEq, Prod.mk.injEq] at h
    obtain ⟨⟨hk, hv⟩, hr⟩ := h
    have he := M.equal w p q
    by_cases hpq : p = q
    · refine ⟨some (i, .bool true), ?_, .inr ⟨0, by simp, by simp [hpq]⟩⟩
      rw [Instr.findAsking]
      simp [hk, hpq, hv, M.equal]
    · obtain ⟨r, h1, h2⟩ := PairMap.find w p es K (i + 1) hr
      refine ⟨r, ?_, ?_⟩
      · rw [Instr.findAsking]
        simp [hk, he, hpq, h1]
      · rcases h2 with ⟨rfl, hn⟩ | ⟨j, rfl, hj⟩
        · exact .inl ⟨rfl, by simp [hpq, hn]⟩
        · exact .inr ⟨j + 1, by rw [show i + 1 + j = i + (j + 1) from by omega], by simpa using hj⟩
theorem PairMap.findKey (w : World) (p : Int × Int) (es : List MapEntry) (K : List (Int × Int)) (h : PairEs es K) :
    ∃ r, (Instr.findKey t (pairV p) es).run P w = .ok r w ∧ ((r = none ∧ p ∉ K) ∨ ∃ j, r = some (j, .bool true) ∧ K[j]? = some p) := by
  have hw : (match P.underlying t with | some (.array _ _) | some (.struct _) => true | _ => false) = true := by rw [M.ut]
  rw [run_findKey_eq w hw]
  obtain ⟨r, h1, h2⟩ := M.find w p es K 0 h
  refine ⟨r, h1, ?_⟩
  rcases h2 with h2 | ⟨j, hj, hk⟩
  · exact .inl h2
  · exact .inr ⟨j, by rw [hj, Nat.zero_add], hk⟩
def PairsAt (w : World) (r : Nat) (K : List (Int × Int)) : Prop := ∃ es clock, w.heap[r]? = some (.map es clock) ∧ PairEs es.toList K
theorem PairMap.lookup (w : World) (r : Nat) (K : List (Int × Int)) (p : Int × Int) (h : PairsAt w r K) : (Instr.lookup m (.map (some r)) (pairV p) false).run P w = .ok (.bool (decide (p ∈ K))) w := by
  obtain ⟨es, clock, hb, he⟩ := h
  obtain ⟨x, h1, h2⟩ := M.findKey w p es.toList K he
  have hg := MapKept.run_getObj_map (P := P) hb
  have hc := M.check w es.isEmpty p
  unfold Instr.lookup
  rcases h2 with ⟨rfl, hn⟩ | ⟨j, rfl, hj⟩
  · simp [run_underlying M.um, hg, hc, h1, M.uz, hn]
  · have : p ∈ K := List.mem_of_getElem? hj
    simp [run_underlying M.um, hg, hc, h1, this]
theorem PairMap.update (w : World) (r : Nat) (K : List (Int × Int)) (p : Int × Int) (h : PairsAt w r K) :
    ∃ w', (Instr.mapUpdate m (.map (some r)) (pairV p) (.bool true)).run P w = .ok () w' ∧ (∃ K', PairsAt w' r K' ∧ ∀ q, q ∈ K' ↔ q = p ∨ q ∈ K) ∧ Keep (· = r) w w' := by
  obtain ⟨es, clock, hb, he⟩ := h
  obtain ⟨x, h1, h2⟩ := M.findKey w p es.toList K he
  have hg := MapKept.run_getObj_map (P := P) hb
  have hc := M.check w false p
  have hs := fun o => MapKept.run_setObj_map (P := P) o hb
  have kp : ∀ o : Obj, Keep (· = r) w { w with heap := w.heap.setIfInBounds r o } := fun o => ⟨rfl, rfl, rfl, by simp, fun k hk hne => by
    simp only [Array.getElem?_setIfInBounds]; rw [if_neg (fun h => hne h.symm)]⟩
  have hr := lt_of_get hb
  have nw : ∀ o : Obj, ({ w with heap := w.heap.setIfInBounds r o } : World).heap[r]? = some o := fun o => by
    simp only [Array.getElem?_setIfInBounds]; simp [hr]
  have hlen : es.toList.length = K.length := by have := congrArg List.length he; simpa using this
  unfold Instr.mapUpdate
  rcases h2 with ⟨rfl, hn⟩ | ⟨j, rfl, hj⟩
  · refine ⟨_, by simp [run_underlying M.um, hg, hc, h1, hs]; rfl, ⟨K ++ [p], ⟨_, _, nw _, ?_⟩, fun q => by simp; exact or_comm⟩, kp _⟩
    unfold PairEs at he ⊢
    simp [he]
  · have hjl : j < es.toList.length := by rw [hlen]; exact (List.getElem?_eq_some_iff.1 hj).1
    have hkey : ((es[j]?).map (·.key)).getD (pairV p) = pairV p := by
      have h3 := congrArg (fun l => l[j]?) he
      simp only [List.getElem?_map, hj] at h3
      rw [List.getElem?_eq_getElem hjl] at h3
      simp at h3
      have : es[j]? = some es[j] := Array.getElem?_eq_getElem (by simpa using hjl)
      rw [this]
      simp [h3.1]
    have kst : (Instr.keyThatStays (pairV p) (pairV p)).run P w = .ok (pairV p) w := by
      unfold Instr.keyThatStays
      rw [if_pos (sameBits_pair p)]
      simp
    have hpK : p ∈ K := List.mem_of_getElem? hj
    refine ⟨_, by simp only [run_underlying M.um, hg, hc, h1, hs, hkey, kst, Sem.run_bind, Result.andThen_ok]; rfl, ⟨K, ⟨_, _, nw _, ?_⟩, fun q => ⟨fun h => .inr h, fun h => h.elim (fun e => e ▸ hpK) id⟩⟩, kp _⟩
    unfold PairEs at he ⊢
    rw [← he]
    apply List.ext_getElem?
    intro i
    simp only [List.getElem?_map, Array.toList_modify, List.getElem?_modify]
    by_cases hij : j = i
    · subst hij
      have h3 := congrArg (fun l => l[j]?) he
      simp only [List.getElem?_map, hj] at h3
      rw [List.getElem?_eq_getElem hjl] at h3 ⊢
      simp at h3 ⊢
      exact ⟨h3.1.symm, h3.2.symm⟩
    · simp only [if_neg hij]
      cases es.toList[i]? <;> rfl
omit M
theorem PairsAt.keep {S : Nat → Prop} {w w' : World} {r : Nat} {K : List (Int × Int)} (h : PairsAt w r K) (hk : Keep S w w') (hS : ¬ S r) : PairsAt w' r K := by
  obtain ⟨es, clock, hb, he⟩ := h
  exact ⟨es, clock, hk.get hb hS, he⟩
end
end Go.Proofs.YtikehilbmldadaaGreatDoor
namespace Go.Proofs.YtikehilbmldadaaGreatDoor
open Go.RowKit
set_option linter.unusedVariables false
theorem SlOf.cases {R : Nat → Prop} {w : World} {ao : Option Addr} {n cap sz : Nat} {cs : List Value} (h : SlOf R w (.slice ao n cap) sz cs n) : (ao = none ∧ n = 0 ∧ cap = 0 ∧ cs = []) ∨ ∃ a, ao = some a := by
  obtain ⟨hl, ao', cap', hv, h1, h2, h3, h4⟩ := h
  simp at hv
  obtain ⟨rfl, rfl⟩ := hv
  cases ao with
  | none =>
    have := h3 rfl
    have hn : n = 0 := by omega
    subst hn
    exact .inl ⟨rfl, rfl, this, List.eq_nil_of_length_eq_zero (by simpa using hl)⟩
  | some a => exact .inr ⟨a, rfl⟩
theorem slOf_news {R : Nat → Prop} {w : World} {a : Addr} {n cap sz : Nat} {cs : List Value} (h : SlOf R w (.slice (some a) n cap) sz cs n) : cs.length = n * sz ∧ n ≤ maxLen ∧ ∀ j u, cs[j]? = some u → w.cell? (a.add j) = some u := by
  obtain ⟨hl, ao', cap', hv, h1, h2, h3, h4⟩ := h
  simp at hv
  obtain ⟨rfl, rfl⟩ := hv
  refine ⟨hl, by omega, fun j u hu => ?_⟩
  have hj : j < cs.length := (List.getElem?_eq_some_iff.1 hu).1
  obtain ⟨b, off, ha, _, _, hc⟩ := h4 (by omega)
  obtain rfl := Option.some.inj ha
  rw [addr_add]
  exact hc j u hu
theorem cloneInts_any (R : Nat → Prop) (l : List Int) (v : Value) (w : World) (h : SlOf R w v 1 (intCells l) l.length) (hn : l.length ≤ 1000) :
    Calls Tryz.prog 159 #[v] w fun e w' => ∃ ao cap, e = .returned (.slice ao l.length cap) ∧ SlOf (fun b => w.heap.size ≤ b) w' (.slice ao l.length cap) 1 (intCells l) l.length ∧ Below w.heap.size w w' := by
  obtain ⟨i0, hi0, hz0, hz1, hz2⟩ := info_parts Tryz.infoInt
  have qn : ∀ (w : World) (a : Option Addr) (n c n' c' : Nat), (binOp .eql 48 (.slice a n c) (.slice none n' c')).run Tryz.prog w = .ok (.bool a.isNone) w := fun w a n c n' c' => Lib.run_eql_slice_nil w _ _ a n c n' c' Tryz.underlying48
  obtain ⟨ao, cap, rfl⟩ := h.val
  rcases h.cases with ⟨rfl, hl, rfl, hc⟩ | ⟨a, rfl⟩
  · have hl' : l = [] := List.eq_nil_of_length_eq_zero hl
    subst hl'
    clear h hl hc
    go_enter Tryz.func159, Tryz.ntmps159
    go_wp2_with fail
    go_ret
    exact ⟨none, 0, rfl, SlOf.nil _ _ _, Below.refl _ _⟩
  · obtain ⟨h1, h2, h3⟩ := slOf_news h
    have h3' : Hid (∀ j u, (intCells l)[j]? = some u → ∀ o, (w.alloc o).cell? (a.add j) = some u) := fun j u hu o => by
      have := h3 j u hu
      rw [World.cell?_of_block (w := w) (Below.heap_alloc _ _ _ (World.block_lt_of_cell? _ _ this))]; exact this
    have hh63 : Hid (0 + l.length ≤ maxLen) := by show 0 + l.length ≤ maxLen; omega
    have hby : Hid ((0 + l.length) * 8 ≤ 140737488355328) := by show (0 + l.length) * 8 ≤ _; omega
    have hbs : Hid (∀ o, w.heap.size ≤ (w.alloc o).heap.size) := fun o => by simp
    clear h h2 h3
    go_enter Tryz.func159, Tryz.ntmps159
    go_wp2_with (at_builtin; refine wpList_append_ownS rfl (.tmp 5) (.tmp 6) 48 rfl w.heap.size 3 i0 _ 1 8 Tryz.underlying48 hi0 hz0 hz1 hz2 rfl (by decide) _ 0 [] rfl (World.ownsRow_made w #[] 0 (Nat.le_refl _) (by decide) rfl) a l.length cap (intCells l) rfl h1 (fun j u hu => h3'.out j u hu _) (oneCell_ints l) hh63.out hby.out (hbs.out _) ?_; intro a1 k1 w6 ho6 hg6)
    go_ret
    rw [Nat.zero_add, List.nil_append] at ho6
    refine ⟨a1, k1, rfl, slOf_owns ho6, ?_⟩
    exact ((Below.refl _ _).alloc (Nat.le_refl _) _).grown hg6 (by simp) (fun k hk => by have h : some w.heap.size = some k := hk; simp at h; omega)
def idxOf (l : List Int) (x : Int) : Int := match l.findIdx? (fun y => y == x) with | some i => (i : Int) | none => -1
theorem idxOf_hit {l : List Int} {x : Int} {k : Nat} (hk : k < l.length) (hx : l[k] = x) (hb : ∀ j (hj : j < l.length), j < k → l[j] ≠ x) : idxOf l x = k := by
  have : l.findIdx? (fun y => y == x) = some k := by
    rw [List.findIdx?_eq_some_iff_getElem]
    exact ⟨hk, by simp [hx], fun j hj => by have := hb j (by omega) hj; simpa using this⟩
  simp [idxOf, this]
theorem idxOf_miss {l : List Int} {x : Int} (h : ∀ j (hj : j < l.length), l[j] ≠ x) : idxOf l x = -1 := by
  have : l.findIdx? (fun y => y == x) = none := by
    rw [List.findIdx?_eq_none_iff]
    intro y hy
    obtain ⟨j, hj, rfl⟩ := List.mem_iff_getElem.1 hy
    simpa using h j hj
  simp [idxOf, this]
theorem idxOf_nonneg {l : List Int} {x : Int} : 0 ≤ idxOf l x ↔ x ∈ l := by
  unfold idxOf
  cases h : l.findIdx? (fun y => y == x) with
  | none =>
    rw [List.findIdx?_eq_none_iff] at h
    simp
    intro hx
    have := h x hx
    simp at this
  | some i =>
    rw [List.findIdx?_eq_some_iff_getElem] at h
    obtain ⟨hi, he, _⟩ := h
    simp at he
    subst he
    simp
theorem flat_ints (l : List Int) : l.flatMap (fun x => [Value.int .i64 x]) = intCells l := by
  unfold intCells
  induction l with
  | nil => rfl
  | cons x l ih => simp [ih]
theorem int_cells {R : Nat → Prop} {w : World} {ao : Option Addr} {n cap : Nat} {l : List Int} (h : SlOf R w (.slice ao n cap) 1 (intCells l) l.length) (h0 : 0 < l.length) :
    ∃ b off, ao = some ⟨b, off, none⟩ ∧ R b ∧ b < w.heap.size ∧ ∀ k (hk : k < l.length), w.cell? ⟨b, off + k, none⟩ = some (.int .i64 l[k]) := by
  have h' : SlOf R w (.slice ao n cap) 1 (l.flatMap (fun x => [Value.int .i64 x])) l.length := by
    rw [flat_ints]; exact h
  obtain ⟨b, off, ha, hR, hb, hc⟩ := h'.elem (fun _ => rfl) (by decide) h0
  refine ⟨b, off, ha, hR, hb, fun k hk => ?_⟩
  have := hc k hk 0 _ rfl
  simpa using this
theorem indexInts_any (R : Nat → Prop) (l : List Int) (v : Value) (x : Int) (w : World) (h : SlOf R w v 1 (intCells l) l.length) :
    Calls Tryz.prog 240 #[v, .int .i64 x] w fun e w' => e = .returned (.int .i64 (idxOf l x)) ∧ w = w' := by
  obtain ⟨hl, ao, cap, rfl, h1, h2, h3, h4⟩ := h
  have hsl : SlOf R w (.slice ao l.length cap) 1 (intCells l) l.length := ⟨hl, _, _, rfl, h1, h2, h3, h4⟩
  have hn : l.length ≤ 9223372036854775807 := by unfold maxLen at h2; omega
  have H := Lib.hid hsl
  clear hl h1 h2 h3 h4 hsl
  go_enter Tryz.func240, Tryz.ntmps240
  go_wp2_with fail
  go_loop [8] (fun s => ∃ k : Nat, k ≤ l.length ∧ s = .int .i64 k ∧ Hid (∀ j (hj : j < l.length), j < k → l[j] ≠ x)) (fun s => l.length - (intOf s).toNat)
  case atStart => exact ⟨0, Nat.zero_le _, rfl, fun j hj h => by omega⟩
  case round =>
    obtain ⟨k, hk, rfl, hall⟩ := hrel
    by_cases hlt : k < l.length
    · obtain ⟨b, off, rfl, hRb, _, hc⟩ := int_cells H.out (by omega)
      have q := hc k hlt
      clear hc
      by_cases hx : x = l[k]
      · have hxb : (x == l[k]) = true := beq_iff_eq.2 hx
        have hI := idxOf_hit hlt hx.symm hall.out
        have HI := Lib.hid hI
        clear hx hI
        go_wp2_with fail
        go_ret
        exact ⟨ret_int HI.out.symm, rfl⟩
      · have hxb : (x == l[k]) = false := by simp [hx]
        go_wp2_with fail
        go_round
        case rel =>
          refine ⟨k + 1, by omega, by go_num, fun j hj h => ?_⟩
          by_cases hjk : j = k
          · subst hjk; exact fun h => hx h.symm
          · exact hall.out j hj (by omega)
        case measure => simp [intOf]; omega
    · have hI := idxOf_miss (l := l) (x := x) (fun j hj => hall.out j hj (by omega))
      have HI := Lib.hid hI
      clear hI
      go_wp2_with fail
      go_ret
      exact ⟨ret_int HI.out.symm, rfl⟩
theorem containsInts_any (R : Nat → Prop) (l : List Int) (v : Value) (x : Int) (w : World) (h : SlOf R w v 1 (intCells l) l.length) :
    Calls Tryz.prog 200 #[v, .int .i64 x] w fun e w' => e = .returned (.bool (decide (x ∈ l))) ∧ w = w' := by
  obtain ⟨ao, cap, rfl⟩ := h.val
  have H := Lib.hid h
  clear h
  go_enter Tryz.func200, Tryz.ntmps200
  go_wp2_with fail
  refine (indexInts_any R l _ x _ H.out).mono ?_
  rintro e w' ⟨rfl, rfl⟩
  go_wp2_with fail
  go_ret
  exact ⟨ret_bool (decide_eq_decide.2 idxOf_nonneg), rfl⟩
end Go.Proofs.YtikehilbmldadaaGreatDoor
