/- Package cells: Copy. -/
import Derived.Test.YtakjbjokekbmbaaGreatDoorR04
import Derived.Test.YtakjbjokekbmbaaGreatDoorR03
import Derived.Deep.DeepCutAuto
namespace Go.Proofs.YtakjbjokekbmbaaGreatDoor
open Go.RowKit
set_option linter.unusedVariables false

def byteVs (l : List UInt8) : List Value := l.map (fun b => Value.int .u8 (b.toNat : Int))
theorem byteVs_one (l : List UInt8) : ∀ u ∈ byteVs l, u.oneCell' = true := by
  intro u hu
  simp only [byteVs, List.mem_map] at hu
  obtain ⟨b, _, rfl⟩ := hu
  rfl
theorem own_bytes {w : World} {base n k1 : Nat} {a1 : Option Addr} {bs : List UInt8} (h : w.ownsRow base 5 1 (.slice a1 n k1) n (byteVs bs)) :
    ∃ rb2, (a1 = some ⟨rb2, 0, none⟩ ∨ (bs = [] ∧ a1 = none)) ∧ (a1 = some ⟨rb2, 0, none⟩ → BytesAt w rb2 bs) ∧ base ≤ rb2 ∧ n = bs.length ∧ n ≤ k1 := by
  obtain ⟨hl, hv⟩ := h
  have hn : n = bs.length := by simpa [byteVs] using hl.symm
  rcases hv with ⟨hv, h0⟩ | ⟨g, cap, cur, hv, hb, hg, h1, h2, h3, h4⟩
  · simp at hv
    obtain ⟨rfl, rfl, rfl⟩ := hv
    refine ⟨base, .inr ⟨List.eq_nil_of_length_eq_zero hn.symm, rfl⟩, (fun h => by cases h), Nat.le_refl _, hn, Nat.le_refl _⟩
  · simp at hv
    obtain ⟨rfl, rfl⟩ := hv
    refine ⟨g, .inl rfl, fun _ => ⟨cur, _, hg, by omega, fun i hi => ?_⟩, hb, hn, h1⟩
    have : (cur.toList.take (n * 1))[i]? = (byteVs bs)[i]? := by rw [h4]
    rw [List.getElem?_take] at this
    rw [if_pos (by omega)] at this
    simp [byteVs, hi] at this
    simpa using this

end Go.Proofs.YtakjbjokekbmbaaGreatDoor

/- Package ring: write. -/
namespace Go.Proofs.YtakjbjokekbmbaaGreatDoor
open Go.RowKit
set_option linter.unusedVariables false

theorem CMOk.write {m : CM} {k : Int} (h : CMOk m k) (a : Nat) (l : List UInt8) : CMOk (writeM m a l) (k + l.length) := by
  have hn := writeN_bd m.cut l.length
  have h0 := h.c0
  have h1 := h.c1
  have h2 := h.w0
  have h3 := h.w1
  refine ⟨cutAt_ge h0, ?_, ?_, ?_⟩
  · show cutAt m.cut (writeN m.cut l.length) ≤ _
    unfold cutAt; split <;> omega
  · show 0 ≤ m.wr + (writeN m.cut l.length : Int); omega
  · show m.wr + (writeN m.cut l.length : Int) ≤ _; omega
def ringC (c : Nat) (lv : Value) (dead : Bool) : Obj := .cells #[.pointer (some ⟨c, 0, none⟩), lv, .bool dead] 117
theorem ring_cells {w : World} {rg c : Nat} {lv : Value} {dead : Bool} (h : w.heap[rg]? = some (ringC c lv dead)) :
    w.cell? ⟨rg, 0, none⟩ = some (.pointer (some ⟨c, 0, none⟩)) ∧ w.cell? ⟨rg, 1, none⟩ = some lv ∧ w.cell? ⟨rg, 2, none⟩ = some (.bool dead) ∧ ∀ o, w.frozen? ⟨rg, o, none⟩ = false := by
  unfold ringC at h
  simp [World.cell?, World.frozen?, h]
theorem errv_succR (sa : Nat → Addr) (k : Nat) : errv sa (k + 1) = .iface 299 (.pointer (some (sa k))) := rfl
theorem errv_zero (sa : Nat → Addr) : errv sa 0 = .nilIface := rfl
/-- In the middle of write: the record's box, the ring's, the cells. -/
structure WrK (B : Nat) (sa : Nat → Addr) (w0 : World) (rg c rb cap : Nat) (lv : Value) (dead : Bool) (x : RecV) (xb : Nat) (m : CM) (w : World) : Prop where
  ring : w.heap[rg]? = some (ringC c lv dead)
  mem : CellsAt w c rb (some ⟨rb, 0, none⟩) cap m
  se : SentsR B sa w
  rc : w.heap[xb]? = some (recC x)
  kp : Keep (fun b => b = c ∨ b = rb) w0 w
theorem WrK.step {B : Nat} {sa : Nat → Addr} {w0 : World} {rg c rb cap : Nat} {lv : Value} {dead : Bool} {x : RecV} {xb : Nat} {m m' : CM} {w w' : World} (h : WrK B sa w0 rg c rb cap lv dead x xb m w) (hne : rg ≠ c ∧ rg ≠ rb ∧ xb ≠ c ∧ xb ≠ rb) (hB : B ≤ c ∧ B ≤ rb)
    (k : Keep (fun b => b = c ∨ b = rb) w w') (h' : CellsAt w' c rb (some ⟨rb, 0, none⟩) cap m') : WrK B sa w0 rg c rb cap lv dead x xb m' w' :=
  ⟨k.get h.ring (by rintro (e | e); exact hne.1 e; exact hne.2.1 e), h', h.se.keep k (fun b hb => by rcases hb with rfl | rfl; exact hB.1; exact hB.2), k.get h.rc (by rintro (e | e); exact hne.2.2.1 e; exact hne.2.2.2 e), h.kp.trans k⟩
theorem WrK.below {B : Nat} {sa : Nat → Addr} {w0 : World} {rg c rb cap : Nat} {lv : Value} {dead : Bool} {x : RecV} {xb : Nat} {m : CM} {w w' : World} (h : WrK B sa w0 rg c rb cap lv dead x xb m w) (b : Below w.heap.size w w') : WrK B sa w0 rg c rb cap lv dead x xb m w' :=
  ⟨below_get b h.ring (lt_of_get h.ring), h.mem.keep (below_keep b) (fun _ h => h.elim), h.se.below b, below_get b h.rc (lt_of_get h.rc), h.kp.trans ((below_keep b).mono (fun _ _ h => h.elim))⟩

theorem wrk_limbs {B : Nat} {sa : Nat → Addr} {w0 : World} {rg c rb cap : Nat} {lv : Value} {dead : Bool} {x : RecV} {xb : Nat} {m : CM} {w : World} (h : WrK B sa w0 rg c rb cap lv dead x xb m w) :
    w.cell? ⟨rg, 0, none⟩ = some (.pointer (some ⟨c, 0, none⟩)) ∧ w.cell? ⟨xb, 0, none⟩ = some (.int .i64 x.seq) ∧ w.cell? ⟨xb, 1, none⟩ = some (.int .i64 x.ent) ∧ w.cell? ⟨xb, 2, none⟩ = some (.int .i64 x.kind) ∧ w.cell? ⟨xb, 3, none⟩ = some (.int .i64 x.tick) :=
  ⟨(ring_cells h.ring).1, four_cells h.rc⟩
theorem cellsRead_1 (B : Nat) (sa : Nat → Addr) (c rb cap : Nat) (m : CM) (a : Nat) (w : World) (h : CellsAt w c rb (some ⟨rb, 0, none⟩) cap m) (hS : SentsR B sa w) (ho : m.off = false) (hn : a + 1 ≤ m.bs.length) :
    Calls Tryz.prog 93 #[.pointer (some ⟨c, 0, none⟩), .int .i64 a, .int .i64 1] w fun e w' => e = .returned (.tuple #[.string (strOf ((m.bs.drop a).take 1)), .nilIface]) ∧ w = w' := cellsRead_good B sa c rb _ cap m a 1 w h hS ho hn
theorem lookE_zero0 {off : Bool} {len : Nat} {a n : Int} (h : lookE off len a n = 0) : off = false ∧ 0 ≤ a ∧ 0 ≤ n ∧ a + n ≤ len := by
  unfold lookE at h
  split at h
  · cases h
  · split at h
    · cases h
    · rename_i h1 h2
      exact ⟨by simpa using h2, by omega, by omega, by omega⟩
set_option maxRecDepth 20000 in
set_option maxHeartbeats 4000000 in
theorem ringWrite_any (B : Nat) (sa : Nat → Addr) (rg c rb cap : Nat) (lv : Value) (dead : Bool) (m : CM) (x : RecV) (k : Int) (w : World) (hr : w.heap[rg]? = some (ringC c lv dead)) (hm : CellsAt w c rb (some ⟨rb, 0, none⟩) cap m) (hS : SentsR B sa w)
    (hne : rg ≠ c ∧ rg ≠ rb) (hB : B ≤ c ∧ B ≤ rb) (hx : RecOk x) (hk : CMOk m k) (hk2 : k ≤ 900000000) (hl : 153 ≤ m.bs.length) :
    Calls Tryz.prog 85 #[.pointer (some ⟨rg, 0, none⟩), recAgg x] w fun e w' => e = .returned (errv sa (ringPut m x).1) ∧ CellsAt w' c rb (some ⟨rb, 0, none⟩) cap (ringPut m x).2 ∧ Keep (fun b => b = c ∨ b = rb) w w' := by
  have hrl := lt_of_get hr
  have hcl := lt_of_get hm.box
  have hbl : rb < w.heap.size := by
    obtain ⟨C, t, h, _⟩ := hm.row rfl
    exact lt_of_get h
  have K0 : WrK B sa w rg c rb cap lv dead x w.heap.size m (w.alloc (recC x)) :=
    ⟨get_alloc_old _ hr, hm.keep (below_keep ((Below.refl _ _).alloc (Nat.le_refl _) _)) (fun _ h => h.elim), hS.below ((Below.refl _ _).alloc (Nat.le_refl _) _), get_alloc_new _ _, (Keep.refl _ _).alloc _⟩
  have hne4 : rg ≠ c ∧ rg ≠ rb ∧ w.heap.size ≠ c ∧ w.heap.size ≠ rb := ⟨hne.1, hne.2, by omega, by omega⟩
  obtain ⟨a, ha⟩ : ∃ a, a = slotAt x := ⟨_, rfl⟩
  have ha2 : a ≤ 136 := by rw [ha]; unfold slotAt; omega
  have hA : ((x.seq : Int) - 1) % 9 * 17 = (a : Int) := by
    have := hx.s1
    rw [ha]; unfold slotAt
    omega
  have hx1 : (1 : Int) ≤ x.seq := by have := hx.s1; omega
  have hx2 : (x.seq : Int) < 4294967296 := by have := hx.s2; omega
  obtain ⟨ee, hee⟩ : ∃ ee, ee = a + 16 := ⟨_, rfl⟩
  have hAE : (a : Int) + 17 - 1 = (ee : Int) := by omega
  have hee2 : ee ≤ 152 := by omega
  have HP := Lib.hid (show ringPut m x = if lookE m.off m.bs.length (ee : Int) 1 = 0 then (if m.bs.getD ee 0 = 0 then ringPut.put2 m x else if writeE m.cut 1 = 0 then ringPut.put2 (writeM m ee [0]) x else (writeE m.cut 1, writeM m ee [0])) else (lookE m.off m.bs.length (ee : Int) 1, m) from by
    rw [hee, ha]; rfl)
  have HP2 := Lib.hid (show ∀ m, ringPut.put2 m x = if writeE m.cut 16 = 0 then (writeE (writeM m a (recBody x)).cut 1, writeM (writeM m a (recBody x)) ee [165]) else (writeE m.cut 16, writeM m a (recBody x)) from fun m => by
    rw [hee, ha]; rfl)
  have HK := Lib.hid K0
  have HA := Lib.hid ha
  have HX := Lib.hid hx
  have HM := Lib.hid hk
  unfold recC at HK
  clear K0 hr hm hS hne ha hx hee
  unfold recAgg
  obtain ⟨p, hp⟩ : ∃ p, p = ringPut m x := ⟨_, rfl⟩
  rw [← hp] at HP ⊢
  have HPP := Lib.hid hp
  clear hp
  go_enter Tryz.func85, Tryz.ntmps85
  go_upto_region 1 with fail
  generalize w.alloc _ = w1 at HK ⊢
  obtain ⟨r0, r1, r2, rf⟩ := ring_cells HK.out.ring
  obtain ⟨x0, x1, x2, x3⟩ := four_cells HK.out.rc
  clear r1 r2 x1 x2 x3
  by_cases hE : lookE m.off m.bs.length (ee : Int) 1 = 0
  · obtain ⟨hof, _, _, hln⟩ := lookE_zero0 hE
    rw [if_pos hE] at HP
    have hget : (m.bs.drop ee).take 1 = [m.bs.getD ee 0] := by
      rw [List.getD_eq_getElem?_getD, List.getElem?_eq_getElem (show ee < m.bs.length by omega)]
      rw [List.take_one, List.head?_drop, List.getElem?_eq_getElem (show ee < m.bs.length by omega)]
      rfl
    obtain ⟨z, hz⟩ : ∃ z, z = m.bs.getD ee 0 := ⟨_, rfl⟩
    rw [← hz] at hget HP
    have hzl : (strOf [z]).toList = [z] := by rw [ByteArray.toList_eq]; rfl
    have HOF := Lib.hid hof
    have hw1 := hk.w1
    have HG := Lib.hid hget
    have HZL := Lib.hid hzl
    have HKM := Lib.hid hk
    have HWG : Hid (∀ (a' : Nat) (s : ByteArray) (m' : CM) (k' : Int) (W : World), m'.off = false → m'.bs.length = m.bs.length → a' + s.size ≤ 153 → CMOk m' k' → k' ≤ 1000000000 → WrK B sa w rg c rb cap lv dead x w.heap.size m' W →
        Calls Tryz.prog 113 #[.pointer (some ⟨c, 0, none⟩), .int .i64 a', .string s] W fun e w' => e = .returned (errv sa (writeE m'.cut s.size)) ∧ WrK B sa w rg c rb cap lv dead x w.heap.size (writeM m' a' s.data.toList) w') := (show _ from by
      intro a' s m' k' W ho' hl' hs' hok hk' hW
      have h1 := hok.w1
      refine (cellsWrite_good B sa c rb cap m' a' s W hW.mem hW.se hB ho' (by omega) hok.c0 hok.c1 hok.w0 (by omega)).mono ?_
      rintro e w' ⟨rfl, q1, q2⟩
      exact ⟨rfl, hW.step hne4 hB q2 q1⟩)
    clear hE hof hget hz hzl hk
    go_wp2_with fail
    refine (cellsRead_1 B sa c rb cap m ee w1 HK.out.mem HK.out.se HOF.out (by omega)).mono ?_
    rintro e w' ⟨rfl, rfl⟩
    rw [HG.out]
    clear hx1 hx2 hA x0
    obtain ⟨zb, hzb⟩ : ∃ zb, ((strOf [z]).toList == [0]) = zb := ⟨_, rfl⟩
    have HZB := Lib.hid (show zb = decide (z = 0) from by rw [← hzb, HZL.out]; exact Bool.eq_iff_iff.2 (by simp))
    go_upto_if 32 with fail
    clear hzb
    go_cut [] (fun wx => ∃ m1 : CM, Hid (WrK B sa w rg c rb cap lv dead x w.heap.size m1 wx) ∧ Hid (p = ringPut.put2 m1 x) ∧ Hid (m1.off = false) ∧ Hid (CMOk m1 (k + 1)) ∧ Hid (m1.bs.length = m.bs.length))
    case first =>
      by_cases hz0 : z = 0
      · obtain rfl : zb = true := by rw [HZB.out]; simp [hz0]
        rw [if_pos hz0] at HP
        clear hz0
        go_wp2_with fail
        go_meet
        exact ⟨m, HK, HP, HOF, HKM.out.mono (by omega), rfl⟩
      · obtain rfl : zb = false := by rw [HZB.out]; simp [hz0]
        rw [if_neg hz0] at HP
        clear hz0
        go_wp2_with fail
        refine (HWG.out ee ⟨#[0]⟩ m k w1 HOF.out rfl (by show ee + 1 ≤ 153; omega) HKM.out (by omega) HK.out).mono ?_
        rintro e w2 ⟨rfl, h2⟩
        rw [show (⟨#[0]⟩ : ByteArray).size = 1 from rfl]
        by_cases hw : writeE m.cut 1 = 0
        · rw [if_pos hw] at HP
          have HW := Lib.hid hw
          have H2 := Lib.hid h2
          have OF2 : Hid ((writeM m ee [0]).off = false) := (show (writeM m ee [0]).off = false from by
            show decide (writeN m.cut 1 < 1) = false
            rw [writeE_zero hw]; rfl)
          clear hw h2
          rw [HW.out, errv_zero]
          go_wp2_with fail
          go_meet
          exact ⟨_, H2, HP, OF2, HKM.out.write ee [0], wBytes_length _ _ _ _ (writeN_bd _ _) (by have := writeN_bd m.cut 1; show ee + writeN m.cut 1 ≤ _; omega)⟩
        · obtain ⟨e8, _⟩ := writeE_else hw
          rw [if_neg hw, e8] at HP
          have H2 := Lib.hid h2
          clear hw h2
          rw [e8, errv_succR]
          go_wp2_with fail
          go_ret
          rw [HP.out]
          exact ⟨rfl, H2.out.mem, H2.out.kp⟩
    case rest =>
    obtain ⟨m1, hk1, hp1, ho1, hok1, hl1⟩ := hcut
    obtain ⟨r0, r1, r2, rf⟩ := ring_cells hk1.out.ring
    obtain ⟨x0, x1, x2, x3⟩ := four_cells hk1.out.rc
    clear HP HK HKM HG HZL r1 r2 hAE
    rw [HP2.out] at hp1
    have HBD : Hid (∀ W, WrK B sa w rg c rb cap lv dead x w.heap.size m1 W → Calls Tryz.prog 114 #[.agg #[.int .i64 x.seq, .int .i64 x.ent, .int .i64 x.kind, .int .i64 x.tick]] W fun e w' => e = .returned (.string (strOf (recBody x))) ∧ WrK B sa w rg c rb cap lv dead x w.heap.size m1 w') := (show _ from by
      intro W hW
      refine (body_any x HX.out.sm W).mono ?_
      rintro e w' ⟨rfl, b⟩
      exact ⟨rfl, hW.below b⟩)
    have HW16 : Hid (∀ W, WrK B sa w rg c rb cap lv dead x w.heap.size m1 W → Calls Tryz.prog 113 #[.pointer (some ⟨c, 0, none⟩), .int .i64 a, .string (strOf (recBody x))] W fun e w' => e = .returned (errv sa (writeE m1.cut 16)) ∧ WrK B sa w rg c rb cap lv dead x w.heap.size (writeM m1 a (recBody x)) w') := (show _ from by
      intro W hW
      have hsz : (strOf (recBody x)).size = 16 := by rw [strOf_size, recBody_length]
      have := HWG.out a (strOf (recBody x)) m1 (k + 1) W ho1.out hl1.out (by rw [hsz]; omega) hok1.out (by omega) hW
      rw [hsz, strOf_data] at this
      exact this)
    have KD : Hid (∀ W, WrK B sa w rg c rb cap lv dead x w.heap.size m1 W → WrK B sa w rg c rb cap lv dead x w.heap.size m1 W.drew) := (show _ from fun W h => ⟨h.ring, h.mem.keep (Keep.drew (Keep.refl (fun _ => False) _)) (fun _ h => h.elim), h.se.keep (Keep.drew (Keep.refl (fun _ => False) _)) (fun _ h => h.elim), h.rc, h.kp.drew⟩)
    go_upto_region 10 with fail
    go_cut [10] (fun s10 wx => s10 = errv sa (writeE m1.cut 16) ∧ Hid (WrK B sa w rg c rb cap lv dead x w.heap.size (writeM m1 a (recBody x)) wx))
    case first =>
      go_region_held3 (fun w' => w'.cell? ⟨rg, 0, none⟩ = some (.pointer (some ⟨c, 0, none⟩)) ∧ w'.cell? ⟨w.heap.size, 0, none⟩ = some (.int .i64 x.seq) ∧ w'.cell? ⟨w.heap.size, 1, none⟩ = some (.int .i64 x.ent) ∧ w'.cell? ⟨w.heap.size, 2, none⟩ = some (.int .i64 x.kind) ∧ w'.cell? ⟨w.heap.size, 3, none⟩ = some (.int .i64 x.tick))
        (first | exact ⟨r0, x0, x1, x2, x3⟩ | exact wrk_limbs k2 | exact wrk_limbs k3)
        (first | (go_at_call 114; refine (HBD.out _ ?_).mono ?_; (repeat (first | exact hk1.out | refine KD.out _ ?_)); rintro e w2 ⟨rfl, k2⟩) | (go_at_call 113; refine (HW16.out _ ?_).mono ?_; (repeat (first | exact k2 | refine KD.out _ ?_)); rintro e w3 ⟨rfl, k3⟩))
      all_goals (go_wp2_with fail; go_meet)
      all_goals exact ⟨rfl, k3⟩
    case rest =>
    obtain ⟨rfl, hk2⟩ := hcut
    clear r0 rf x0 x1 x2 x3 HBD HW16 KD hk1
    obtain ⟨r0, r1, r2, rf⟩ := ring_cells hk2.out.ring
    clear r1 r2
    by_cases hw : writeE m1.cut 16 = 0
    · rw [if_pos hw] at hp1
      have OF2 : Hid ((writeM m1 a (recBody x)).off = false) := (show (writeM m1 a (recBody x)).off = false from by
        show decide (writeN m1.cut (recBody x).length < (recBody x).length) = false
        rw [recBody_length, writeE_zero hw]; rfl)
      have LN2 : Hid ((writeM m1 a (recBody x)).bs.length = m.bs.length) := (show (writeM m1 a (recBody x)).bs.length = m.bs.length from by
        rw [← hl1.out]
        have hbl := recBody_length x
        have hl1' := hl1.out
        exact wBytes_length _ _ _ _ (writeN_bd _ _) (by have := writeN_bd m1.cut (recBody x).length; omega))
      have OK2 := Lib.hid (hok1.out.write a (recBody x))
      rw [recBody_length] at OK2
      have HW := Lib.hid hw
      clear hw
      rw [HW.out, errv_zero]
      generalize writeM m1 a (recBody x) = m2 at hp1 hk2 OF2 LN2 OK2
      go_wp2_with fail
      refine (HWG.out ee ⟨#[165]⟩ m2 (k + 1 + 16) wc OF2.out LN2.out (by show ee + 1 ≤ 153; omega) OK2.out (by omega) hk2.out).mono ?_
      rintro e w4 ⟨rfl, k4⟩
      go_wp2_with fail
      go_ret
      rw [hp1.out]
      exact ⟨rfl, k4.mem, k4.kp⟩
    · obtain ⟨e8, _⟩ := writeE_else hw
      rw [if_neg hw, e8] at hp1
      clear hw
      rw [e8, errv_succR]
      go_wp2_with fail
      go_ret
      rw [hp1.out]
      exact ⟨rfl, hk2.out.mem, hk2.out.kp⟩
  · obtain ⟨j, hj⟩ : ∃ j, lookE m.off m.bs.length (ee : Int) 1 = j + 1 := ⟨_, (Nat.succ_pred_eq_of_pos (Nat.pos_of_ne_zero hE)).symm⟩
    rw [if_neg hE, hj] at HP
    have HJ := Lib.hid hj
    clear hE hj
    go_wp2_with fail
    refine (cellsRead_bad B sa c rb _ cap m (ee : Int) 1 j w1 HK.out.mem HK.out.se HJ.out).mono ?_
    rintro e w' ⟨rfl, rfl⟩
    rw [errv_succR]
    go_wp2_with fail
    go_ret
    rw [HP.out]
    exact ⟨rfl, HK.out.mem, HK.out.kp⟩
end Go.Proofs.YtakjbjokekbmbaaGreatDoor

/- An entity as plain data; HeavyEntity and OwnEntity. -/
namespace Go.Proofs.YtakjbjokekbmbaaGreatDoor
open Go.RowKit
set_option linter.unusedVariables false

structure GapV where
  fr : Int
  dst : Int
  mn : Int
  mx : Int
structure EntV where
  name : ByteArray
  tol : Int
  points : List ByteArray
  count : Int
  mn : Int
  mx : Int
  gaps : List GapV
  edges : List (Int × Int)
  first : List Int
  last : List Int

def i64c (n : Int) : Value := .int .i64 n
def gapCells (g : GapV) : List Value := [.int .i64 g.fr, .int .i64 g.dst, .int .i64 g.mn, .int .i64 g.mx]
def edgeCells (x : Int × Int) : List Value := [.int .i64 x.1, .int .i64 x.2]
def strCells1 (l : List ByteArray) : List Value := l.map Value.string
def intCells (l : List Int) : List Value := l.map (Value.int .i64)

/-- v is an entity that reads as E; its slices lie in blocks of R. -/
structure EntSl (R : Nat → Prop) (w : World) (E : EntV) (vp vg ve vf vl : Value) : Prop where
  p : SlOf R w vp 1 (strCells1 E.points) E.points.length
  g : SlOf R w vg 4 (E.gaps.flatMap gapCells) E.gaps.length
  e : SlOf R w ve 2 (E.edges.flatMap edgeCells) E.edges.length
  f : SlOf R w vf 1 (intCells E.first) E.first.length
  l : SlOf R w vl 1 (intCells E.last) E.last.length
def entCs (E : EntV) (vp vg ve vf vl : Value) : Array Value := #[.string E.name, .int .i64 E.tol, vp, .int .i64 E.count, .int .i64 E.mn, .int .i64 E.mx, vg, ve, vf, vl]
def EntOf (R : Nat → Prop) (w : World) (v : Value) (E : EntV) : Prop := ∃ vp vg ve vf vl, v = .agg (entCs E vp vg ve vf vl) ∧ EntSl R w E vp vg ve vf vl

theorem EntSl.keep {R S : Nat → Prop} {w w' : World} {E : EntV} {vp vg ve vf vl : Value} (h : EntSl R w E vp vg ve vf vl) (hk : Keep S w w') (hd : ∀ b, R b → ¬ S b) : EntSl R w' E vp vg ve vf vl :=
  ⟨h.p.keep hk hd, h.g.keep hk hd, h.e.keep hk hd, h.f.keep hk hd, h.l.keep hk hd⟩
theorem EntOf.keep {R S : Nat → Prop} {w w' : World} {E : EntV} {v : Value} (h : EntOf R w v E) (hk : Keep S w w') (hd : ∀ b, R b → ¬ S b) : EntOf R w' v E := by
  obtain ⟨vp, vg, ve, vf, vl, rfl, hs⟩ := h
  exact ⟨_, _, _, _, _, rfl, hs.keep hk hd⟩
theorem EntOf.below {B : Nat} {R : Nat → Prop} {w w' : World} {E : EntV} {v : Value} (h : EntOf R w v E) (hk : Below B w w') (hd : ∀ b, R b → b < B) : EntOf R w' v E :=
  h.keep (Keep.of_below hk) (fun b hb => by have := hd b hb; omega)
theorem EntOf.mono {R S : Nat → Prop} {w : World} {E : EntV} {v : Value} (h : EntOf R w v E) (hd : ∀ b, R b → S b) : EntOf S w v E := by
  obtain ⟨vp, vg, ve, vf, vl, rfl, hs⟩ := h
  exact ⟨_, _, _, _, _, rfl, hs.p.mono hd, hs.g.mono hd, hs.e.mono hd, hs.f.mono hd, hs.l.mono hd⟩

/-- The ten cells of an entity's box. -/
theorem ten_cells {w : World} {b : Nat} {c0 c1 c2 c3 c4 c5 c6 c7 c8 c9 : Value} {t : TypeId} (h : w.heap[b]? = some (.cells #[c0, c1, c2, c3, c4, c5, c6, c7, c8, c9] t)) :
    w.cell? ⟨b, 0, none⟩ = some c0 ∧ w.cell? ⟨b, 1, none⟩ = some c1 ∧ w.cell? ⟨b, 2, none⟩ = some c2 ∧ w.cell? ⟨b, 3, none⟩ = some c3 ∧ w.cell? ⟨b, 4, none⟩ = some c4 ∧ w.cell? ⟨b, 5, none⟩ = some c5 ∧
    w.cell? ⟨b, 6, none⟩ = some c6 ∧ w.cell? ⟨b, 7, none⟩ = some c7 ∧ w.cell? ⟨b, 8, none⟩ = some c8 ∧ w.cell? ⟨b, 9, none⟩ = some c9 ∧ ∀ o, w.frozen? ⟨b, o, none⟩ = false := by
  simp [World.cell?, World.frozen?, h]

theorem Tryz.infoStr : (Tryz.prog.info? 9).map (fun i => (i.zero, i.size, i.bytes)) = some (some (.string ByteArray.empty), 1, 16) := by kernel_rfl
theorem Tryz.infoGap : (Tryz.prog.info? 96).map (fun i => (i.zero, i.size, i.bytes)) = some (some (.agg #[.int .i64 0, .int .i64 0, .int .i64 0, .int .i64 0]), 4, 32) := by kernel_rfl
theorem Tryz.infoEdge : (Tryz.prog.info? 97).map (fun i => (i.zero, i.size, i.bytes)) = some (some (.agg #[.int .i64 0, .int .i64 0]), 2, 16) := by kernel_rfl
theorem Tryz.infoInt : (Tryz.prog.info? 3).map (fun i => (i.zero, i.size, i.bytes)) = some (some (.int .i64 0), 1, 8) := by kernel_rfl

theorem SlOf.val {R : Nat → Prop} {w : World} {v : Value} {sz : Nat} {cs : List Value} {n : Nat} (h : SlOf R w v sz cs n) : ∃ ao cap, v = .slice ao n cap := by
  obtain ⟨_, ao, cap, hv, _⟩ := h
  exact ⟨ao, cap, hv⟩

/-- In the middle of OwnEntity: the argument's box, the result's, the copy's so far. -/
structure OwnSt (w0 : World) (E : EntV) (i o : Value × Value × Value × Value × Value) (w : World) : Prop where
  below : Below w0.heap.size w0 w
  h0 : w.heap[w0.heap.size]? = some (.cells (entCs E i.1 i.2.1 i.2.2.1 i.2.2.2.1 i.2.2.2.2) 38)
  h1 : w.heap[w0.heap.size + 1]? = some (.cells (entCs ⟨ByteArray.empty, 0, [], 0, 0, 0, [], [], [], []⟩ (.slice none 0 0) (.slice none 0 0) (.slice none 0 0) (.slice none 0 0) (.slice none 0 0)) 38)
  h2 : w.heap[w0.heap.size + 1 + 1]? = some (.cells (entCs E o.1 o.2.1 o.2.2.1 o.2.2.2.1 o.2.2.2.2) 38)

theorem OwnSt.cells0 {w0 w : World} {E : EntV} {i o : Value × Value × Value × Value × Value} (h : OwnSt w0 E i o w) :
    w.cell? ⟨w0.heap.size, 2, none⟩ = some i.1 ∧ w.cell? ⟨w0.heap.size, 6, none⟩ = some i.2.1 ∧ w.cell? ⟨w0.heap.size, 7, none⟩ = some i.2.2.1 ∧ w.cell? ⟨w0.heap.size, 8, none⟩ = some i.2.2.2.1 ∧ w.cell? ⟨w0.heap.size, 9, none⟩ = some i.2.2.2.2 := by
  have := ten_cells h.h0
  exact ⟨this.2.2.1, this.2.2.2.2.2.2.1, this.2.2.2.2.2.2.2.1, this.2.2.2.2.2.2.2.2.1, this.2.2.2.2.2.2.2.2.2.1⟩
/-- Behind an append: what the store into the copy asks. -/
theorem OwnSt.cells2 {w0 w w1 : World} {E : EntV} {i o : Value × Value × Value × Value × Value} (h : OwnSt w0 E i o w) (hb : Below w.heap.size w w1) :
    w1.cell? ⟨w0.heap.size + 1 + 1, 2, none⟩ = some o.1 ∧ w1.cell? ⟨w0.heap.size + 1 + 1, 6, none⟩ = some o.2.1 ∧ w1.cell? ⟨w0.heap.size + 1 + 1, 7, none⟩ = some o.2.2.1 ∧ w1.cell? ⟨w0.heap.size + 1 + 1, 8, none⟩ = some o.2.2.2.1 ∧
    w1.cell? ⟨w0.heap.size + 1 + 1, 9, none⟩ = some o.2.2.2.2 ∧ ∀ k, w1.frozen? ⟨w0.heap.size + 1 + 1, k, none⟩ = false := by
  have := ten_cells (below_get hb h.h2 (lt_of_get h.h2))
  exact ⟨this.2.2.1, this.2.2.2.2.2.2.1, this.2.2.2.2.2.2.2.1, this.2.2.2.2.2.2.2.2.1, this.2.2.2.2.2.2.2.2.2.1, this.2.2.2.2.2.2.2.2.2.2⟩
theorem OwnSt.step {w0 w w1 : World} {E : EntV} {i o o' : Value × Value × Value × Value × Value} (h : OwnSt w0 E i o w) (hb : Below w.heap.size w w1) {k : Nat} {v : Value}
    (ho : (entCs E o.1 o.2.1 o.2.2.1 o.2.2.2.1 o.2.2.2.2).setIfInBounds k v = entCs E o'.1 o'.2.1 o'.2.2.1 o'.2.2.2.1 o'.2.2.2.2) :
    OwnSt w0 E i o' (w1.setCell ⟨w0.heap.size + 1 + 1, k, none⟩ v) ∧ Keep (· = w0.heap.size + 1 + 1) w (w1.setCell ⟨w0.heap.size + 1 + 1, k, none⟩ v) := by
  have g2 := below_get hb h.h2 (lt_of_get h.h2)
  have kk : Keep (· = w0.heap.size + 1 + 1) w (w1.setCell ⟨w0.heap.size + 1 + 1, k, none⟩ v) :=
    (Keep.step (S := (· = w0.heap.size + 1 + 1)) (T := fun _ => False) (Keep.refl _ w) (below_keep hb) (fun _ h _ => h.elim)).setCell (p := ⟨w0.heap.size + 1 + 1, k, none⟩) (fun _ => rfl) v
  refine ⟨⟨?_, ?_, ?_, ?_⟩, kk⟩
  · exact h.below.trans (kk.below h.below.size (by intro j hj; omega))
  · exact kk.get h.h0 (by omega)
  · exact kk.get h.h1 (by omega)
  · rw [get_setCell _ g2, ho]

theorem ownSt_start (w : World) (E : EntV) (i : Value × Value × Value × Value × Value) : OwnSt w E i i (((w.alloc (.cells (entCs E i.1 i.2.1 i.2.2.1 i.2.2.2.1 i.2.2.2.2) 38)).alloc (.cells (entCs ⟨ByteArray.empty, 0, [], 0, 0, 0, [], [], [], []⟩ (.slice none 0 0) (.slice none 0 0) (.slice none 0 0) (.slice none 0 0) (.slice none 0 0)) 38)).alloc (.cells (entCs E i.1 i.2.1 i.2.2.1 i.2.2.2.1 i.2.2.2.2) 38)) := by
  have n1 := get_alloc_new w (.cells (entCs E i.1 i.2.1 i.2.2.1 i.2.2.2.1 i.2.2.2.2) 38)
  have n2 := get_alloc_new (w.alloc (.cells (entCs E i.1 i.2.1 i.2.2.1 i.2.2.2.1 i.2.2.2.2) 38)) (.cells (entCs ⟨ByteArray.empty, 0, [], 0, 0, 0, [], [], [], []⟩ (.slice none 0 0) (.slice none 0 0) (.slice none 0 0) (.slice none 0 0) (.slice none 0 0)) 38)
  have n3 := get_alloc_new ((w.alloc (.cells (entCs E i.1 i.2.1 i.2.2.1 i.2.2.2.1 i.2.2.2.2) 38)).alloc (.cells (entCs ⟨ByteArray.empty, 0, [], 0, 0, 0, [], [], [], []⟩ (.slice none 0 0) (.slice none 0 0) (.slice none 0 0) (.slice none 0 0) (.slice none 0 0)) 38)) (.cells (entCs E i.1 i.2.1 i.2.2.1 i.2.2.2.1 i.2.2.2.2) 38)
  rw [World.size_alloc] at n2
  rw [World.size_alloc, World.size_alloc] at n3
  exact ⟨(((Below.refl _ _).alloc (Nat.le_refl _) _).alloc (by simp) _).alloc (by simp; omega) _, get_alloc_old _ (get_alloc_old _ n1), get_alloc_old _ n2, n3⟩

theorem oneCell_flat {α : Type} (f : α → List Value) (hf : ∀ x, ∀ u ∈ f x, u.oneCell' = true) (l : List α) : ∀ u ∈ l.flatMap f, u.oneCell' = true := by
  intro u hu
  obtain ⟨x, _, hx⟩ := List.mem_flatMap.1 hu
  exact hf x u hx
theorem oneCell_gaps (l : List GapV) : ∀ u ∈ l.flatMap gapCells, u.oneCell' = true := oneCell_flat _ (by intro x u hu; simp [gapCells] at hu; rcases hu with rfl | rfl | rfl | rfl <;> rfl) l
theorem oneCell_edges (l : List (Int × Int)) : ∀ u ∈ l.flatMap edgeCells, u.oneCell' = true := oneCell_flat _ (by intro x u hu; simp [edgeCells] at hu; rcases hu with rfl | rfl <;> rfl) l
theorem oneCell_strs (l : List ByteArray) : ∀ u ∈ strCells1 l, u.oneCell' = true := by intro u hu; simp [strCells1] at hu; obtain ⟨x, _, rfl⟩ := hu; rfl
theorem oneCell_ints (l : List Int) : ∀ u ∈ intCells l, u.oneCell' = true := by intro u hu; simp [intCells] at hu; obtain ⟨x, _, rfl⟩ := hu; rfl

/-- Few of each. -/
structure Light (E : EntV) : Prop where
  p : E.points.length ≤ 100
  g : E.gaps.length ≤ 100
  e : E.edges.length ≤ 100
  f : E.first.length ≤ 100
  l : E.last.length ≤ 100

/-- OwnEntity behind k of its five appends. -/
structure OwnK (w0 : World) (E : EntV) (i : Value × Value × Value × Value × Value) (k : Nat) (w : World) (o : Value × Value × Value × Value × Value) : Prop where
  st : OwnSt w0 E i o w
  d0 : 0 < k → SlOf (fun b => w0.heap.size + 3 ≤ b) w o.1 1 (strCells1 E.points) E.points.length
  d1 : 1 < k → SlOf (fun b => w0.heap.size + 3 ≤ b) w o.2.1 4 (E.gaps.flatMap gapCells) E.gaps.length
  d2 : 2 < k → SlOf (fun b => w0.heap.size + 3 ≤ b) w o.2.2.1 2 (E.edges.flatMap edgeCells) E.edges.length
  d3 : 3 < k → SlOf (fun b => w0.heap.size + 3 ≤ b) w o.2.2.2.1 1 (intCells E.first) E.first.length
  d4 : 4 < k → SlOf (fun b => w0.heap.size + 3 ≤ b) w o.2.2.2.2 1 (intCells E.last) E.last.length
theorem OwnK.step0 {w0 w w1 : World} {E : EntV} {i o : Value × Value × Value × Value × Value} (h : OwnK w0 E i 0 w o) (hb : Below w.heap.size w w1) {v : Value} (hv : SlOf (fun b => w.heap.size ≤ b) w1 v 1 (strCells1 E.points) E.points.length) :
    OwnK w0 E i 1 (w1.setCell ⟨w0.heap.size + 1 + 1, 2, none⟩ v) (v, o.2.1, o.2.2.1, o.2.2.2.1, o.2.2.2.2) := by
  obtain ⟨s, kk⟩ := h.st.step hb (k := 2) (v := v) (o' := (v, o.2.1, o.2.2.1, o.2.2.2.1, o.2.2.2.2)) (by simp [entCs])
  have hsz := lt_of_get h.st.h2
  have kv := keep_set w1 (w0.heap.size + 1 + 1) 2 v
  refine ⟨s, fun _ => ?_, fun h => by omega, fun h => by omega, fun h => by omega, fun h => by omega⟩
  · exact (hv.mono (S := fun b => w0.heap.size + 3 ≤ b) (fun b hb => by omega)).keep kv (fun b hb => by omega)
theorem OwnK.step1 {w0 w w1 : World} {E : EntV} {i o : Value × Value × Value × Value × Value} (h : OwnK w0 E i 1 w o) (hb : Below w.heap.size w w1) {v : Value} (hv : SlOf (fun b => w.heap.size ≤ b) w1 v 4 (E.gaps.flatMap gapCells) E.gaps.length) :
    OwnK w0 E i 2 (w1.setCell ⟨w0.heap.size + 1 + 1, 6, none⟩ v) (o.1, v, o.2.2.1, o.2.2.2.1, o.2.2.2.2) := by
  obtain ⟨s, kk⟩ := h.st.step hb (k := 6) (v := v) (o' := (o.1, v, o.2.2.1, o.2.2.2.1, o.2.2.2.2)) (by simp [entCs])
  have hsz := lt_of_get h.st.h2
  have kv := keep_set w1 (w0.heap.size + 1 + 1) 6 v
  refine ⟨s, fun _ => (h.d0 (by omega)).keep kk (fun b hb => by omega), fun _ => ?_, fun h => by omega, fun h => by omega, fun h => by omega⟩
  · exact (hv.mono (S := fun b => w0.heap.size + 3 ≤ b) (fun b hb => by omega)).keep kv (fun b hb => by omega)
theorem OwnK.step2 {w0 w w1 : World} {E : EntV} {i o : Value × Value × Value × Value × Value} (h : OwnK w0 E i 2 w o) (hb : Below w.heap.size w w1) {v : Value} (hv : SlOf (fun b => w.heap.size ≤ b) w1 v 2 (E.edges.flatMap edgeCells) E.edges.length) :
    OwnK w0 E i 3 (w1.setCell ⟨w0.heap.size + 1 + 1, 7, none⟩ v) (o.1, o.2.1, v, o.2.2.2.1, o.2.2.2.2) := by
  obtain ⟨s, kk⟩ := h.st.step hb (k := 7) (v := v) (o' := (o.1, o.2.1, v, o.2.2.2.1, o.2.2.2.2)) (by simp [entCs])
  have hsz := lt_of_get h.st.h2
  have kv := keep_set w1 (w0.heap.size + 1 + 1) 7 v
  refine ⟨s, fun _ => (h.d0 (by omega)).keep kk (fun b hb => by omega), fun _ => (h.d1 (by omega)).keep kk (fun b hb => by omega), fun _ => ?_, fun h => by omega, fun h => by omega⟩
  · exact (hv.mono (S := fun b => w0.heap.size + 3 ≤ b) (fun b hb => by omega)).keep kv (fun b hb => by omega)
theorem OwnK.step3 {w0 w w1 : World} {E : EntV} {i o : Value × Value × Value × Value × Value} (h : OwnK w0 E i 3 w o) (hb : Below w.heap.size w w1) {v : Value} (hv : SlOf (fun b => w.heap.size ≤ b) w1 v 1 (intCells E.first) E.first.length) :
    OwnK w0 E i 4 (w1.setCell ⟨w0.heap.size + 1 + 1, 8, none⟩ v) (o.1, o.2.1, o.2.2.1, v, o.2.2.2.2) := by
  obtain ⟨s, kk⟩ := h.st.step hb (k := 8) (v := v) (o' := (o.1, o.2.1, o.2.2.1, v, o.2.2.2.2)) (by simp [entCs])
  have hsz := lt_of_get h.st.h2
  have kv := keep_set w1 (w0.heap.size + 1 + 1) 8 v
  refine ⟨s, fun _ => (h.d0 (by omega)).keep kk (fun b hb => by omega), fun _ => (h.d1 (by omega)).keep kk (fun b hb => by omega), fun _ => (h.d2 (by omega)).keep kk (fun b hb => by omega), fun _ => ?_, fun h => by omega⟩
  · exact (hv.mono (S := fun b => w0.heap.size + 3 ≤ b) (fun b hb => by omega)).keep kv (fun b hb => by omega)
theorem OwnK.step4 {w0 w w1 : World} {E : EntV} {i o : Value × Value × Value × Value × Value} (h : OwnK w0 E i 4 w o) (hb : Below w.heap.size w w1) {v : Value} (hv : SlOf (fun b => w.heap.size ≤ b) w1 v 1 (intCells E.last) E.last.length) :
    OwnK w0 E i 5 (w1.setCell ⟨w0.heap.size + 1 + 1, 9, none⟩ v) (o.1, o.2.1, o.2.2.1, o.2.2.2.1, v) := by
  obtain ⟨s, kk⟩ := h.st.step hb (k := 9) (v := v) (o' := (o.1, o.2.1, o.2.2.1, o.2.2.2.1, v)) (by simp [entCs])
  have hsz := lt_of_get h.st.h2
  have kv := keep_set w1 (w0.heap.size + 1 + 1) 9 v
  refine ⟨s, fun _ => (h.d0 (by omega)).keep kk (fun b hb => by omega), fun _ => (h.d1 (by omega)).keep kk (fun b hb => by omega), fun _ => (h.d2 (by omega)).keep kk (fun b hb => by omega), fun _ => (h.d3 (by omega)).keep kk (fun b hb => by omega), fun _ => ?_⟩
  · exact (hv.mono (S := fun b => w0.heap.size + 3 ≤ b) (fun b hb => by omega)).keep kv (fun b hb => by omega)
theorem OwnK.cells {w0 w w1 : World} {E : EntV} {i o : Value × Value × Value × Value × Value} {k : Nat} (h : OwnK w0 E i k w o) (hb : Below w.heap.size w w1) :
    w1.cell? ⟨w0.heap.size + 1 + 1, 2, none⟩ = some o.1 ∧ w1.cell? ⟨w0.heap.size + 1 + 1, 6, none⟩ = some o.2.1 ∧ w1.cell? ⟨w0.heap.size + 1 + 1, 7, none⟩ = some o.2.2.1 ∧ w1.cell? ⟨w0.heap.size + 1 + 1, 8, none⟩ = some o.2.2.2.1 ∧
    w1.cell? ⟨w0.heap.size + 1 + 1, 9, none⟩ = some o.2.2.2.2 ∧ ∀ k, w1.frozen? ⟨w0.heap.size + 1 + 1, k, none⟩ = false := h.st.cells2 hb

theorem ownEntity_end {w wc w' : World} {E : EntV} {vp vg ve vf vl : Value} (bl : Below w.heap.size w wc)
    (h0 : SlOf (fun b => w.heap.size + 3 ≤ b) wc vp 1 (strCells1 E.points) E.points.length) (h1 : SlOf (fun b => w.heap.size + 3 ≤ b) wc vg 4 (E.gaps.flatMap gapCells) E.gaps.length)
    (h2 : SlOf (fun b => w.heap.size + 3 ≤ b) wc ve 2 (E.edges.flatMap edgeCells) E.edges.length) (h3 : SlOf (fun b => w.heap.size + 3 ≤ b) wc vf 1 (intCells E.first) E.first.length)
    (h4 : SlOf (fun b => w.heap.size + 3 ≤ b) wc vl 1 (intCells E.last) E.last.length) (sz : w.heap.size ≤ wc.heap.size) (kk : Keep (· = w.heap.size + 1) wc w') :
    ∃ v, Ending.returned (.agg (entCs E vp vg ve vf vl)) = .returned v ∧ EntOf (fun b => w.heap.size ≤ b) w' v E ∧ Below w.heap.size w w' := by
  have hd : ∀ b, w.heap.size + 3 ≤ b → ¬ b = w.heap.size + 1 := fun b hb => by omega
  have hm : ∀ b, w.heap.size + 3 ≤ b → w.heap.size ≤ b := fun b hb => by omega
  refine ⟨_, rfl, ⟨vp, vg, ve, vf, vl, rfl, ?_⟩, bl.trans (kk.below sz (fun k hk => by omega))⟩
  exact ⟨(h0.keep kk hd).mono hm, (h1.keep kk hd).mono hm, (h2.keep kk hd).mono hm, (h3.keep kk hd).mono hm, (h4.keep kk hd).mono hm⟩

set_option maxHeartbeats 1000000 in
theorem ownEntity_any (R : Nat → Prop) (E : EntV) (vp vg ve vf vl : Value) (w : World) (h : EntSl R w E vp vg ve vf vl) (hR : ∀ b, R b → b < w.heap.size) (hL : Light E) :
    Calls Tryz.prog 54 #[.agg (entCs E vp vg ve vf vl)] w fun e w' => ∃ v, e = .returned v ∧ EntOf (fun b => w.heap.size ≤ b) w' v E ∧ Below w.heap.size w w' := by
  obtain ⟨i1, hi1, hz1, hs1, hb1⟩ := info_parts Tryz.infoStr
  obtain ⟨i2, hi2, hz2, hs2, hb2⟩ := info_parts Tryz.infoGap
  obtain ⟨i3, hi3, hz3, hs3, hb3⟩ := info_parts Tryz.infoEdge
  obtain ⟨i4, hi4, hz4, hs4, hb4⟩ := info_parts Tryz.infoInt
  obtain ⟨pa, pc, rfl⟩ := h.p.val
  obtain ⟨ga, gc, rfl⟩ := h.g.val
  obtain ⟨ea, ec, rfl⟩ := h.e.val
  obtain ⟨fa, fc, rfl⟩ := h.f.val
  obtain ⟨la, lc, rfl⟩ := h.l.val
  obtain ⟨lp, lg, le, lf, ll⟩ := hL
  have st0 : OwnK w E (.slice pa E.points.length pc, .slice ga E.gaps.length gc, .slice ea E.edges.length ec, .slice fa E.first.length fc, .slice la E.last.length lc) 0 _ (.slice pa E.points.length pc, .slice ga E.gaps.length gc, .slice ea E.edges.length ec, .slice fa E.first.length fc, .slice la E.last.length lc) := ⟨ownSt_start w E _, fun h => by omega, fun h => by omega, fun h => by omega, fun h => by omega, fun h => by omega⟩
  simp only [entCs] at st0
  unfold entCs
  go_enter Tryz.func54, Tryz.ntmps54
  go_upto_region 3 with fail
  go_cut [] (fun wx => ∃ o, OwnK w E (.slice pa E.points.length pc, .slice ga E.gaps.length gc, .slice ea E.edges.length ec, .slice fa E.first.length fc, .slice la E.last.length lc) 1 wx o)
  case first =>
    have st := st0.st
    obtain ⟨c0, c1, c2, c3, c4⟩ := st.cells0
    have hp := h.p.below st.below hR
    go_wp2_with (at_builtin; refine wpList_append_copy rfl (.tmp 10) (.tmp 12) 33 rfl 9 i1 _ 1 16 Tryz.underlying33 hi1 hz1 hs1 hb1 rfl (by decide) rfl R _ _ _ rfl hp (oneCell_strs _) (by omega) ?_; intro a1 k1 w1 q1 b1; have nx := st0.step0 b1 q1; obtain ⟨d0, d1, d2, d3, d4, df⟩ := st0.cells b1)
    go_meet
    exact ⟨_, nx⟩
  case rest =>
  clear st0
  obtain ⟨o1, st0⟩ := hcut
  go_upto_region 5 with fail
  go_cut [] (fun wx => ∃ o, OwnK w E (.slice pa E.points.length pc, .slice ga E.gaps.length gc, .slice ea E.edges.length ec, .slice fa E.first.length fc, .slice la E.last.length lc) 2 wx o)
  case first =>
    have st := st0.st
    obtain ⟨c0, c1, c2, c3, c4⟩ := st.cells0
    have hp := h.g.below st.below hR
    go_wp2_with (at_builtin; refine wpList_append_copy rfl (.tmp 15) (.tmp 17) 34 rfl 96 i2 _ 4 32 Tryz.underlying34 hi2 hz2 hs2 hb2 rfl (by decide) rfl R _ _ _ rfl hp (oneCell_gaps _) (by omega) ?_; intro a1 k1 w1 q1 b1; have nx := st0.step1 b1 q1; obtain ⟨d0, d1, d2, d3, d4, df⟩ := st0.cells b1)
    go_meet
    exact ⟨_, nx⟩
  case rest =>
  clear st0
  obtain ⟨o2, st0⟩ := hcut
  go_upto_region 7 with fail
  go_cut [] (fun wx => ∃ o, OwnK w E (.slice pa E.points.length pc, .slice ga E.gaps.length gc, .slice ea E.edges.length ec, .slice fa E.first.length fc, .slice la E.last.length lc) 3 wx o)
  case first =>
    have st := st0.st
    obtain ⟨c0, c1, c2, c3, c4⟩ := st.cells0
    have hp := h.e.below st.below hR
    go_wp2_with (at_builtin; refine wpList_append_copy rfl (.tmp 20) (.tmp 22) 35 rfl 97 i3 _ 2 16 Tryz.underlying35 hi3 hz3 hs3 hb3 rfl (by decide) rfl R _ _ _ rfl hp (oneCell_edges _) (by omega) ?_; intro a1 k1 w1 q1 b1; have nx := st0.step2 b1 q1; obtain ⟨d0, d1, d2, d3, d4, df⟩ := st0.cells b1)
    go_meet
    exact ⟨_, nx⟩
  case rest =>
  clear st0
  obtain ⟨o3, st0⟩ := hcut
  go_upto_region 9 with fail
  go_cut [] (fun wx => ∃ o, OwnK w E (.slice pa E.points.length pc, .slice ga E.gaps.length gc, .slice ea E.edges.length ec, .slice fa E.first.length fc, .slice la E.last.length lc) 4 wx o)
  case first =>
    have st := st0.st
    obtain ⟨c0, c1, c2, c3, c4⟩ := st.cells0
    have hp := h.f.below st.below hR
    go_wp2_with (at_builtin; refine wpList_append_copy rfl (.tmp 25) (.tmp 27) 36 rfl 3 i4 _ 1 8 Tryz.underlying36 hi4 hz4 hs4 hb4 rfl (by decide) rfl R _ _ _ rfl hp (oneCell_ints _) (by omega) ?_; intro a1 k1 w1 q1 b1; have nx := st0.step3 b1 q1; obtain ⟨d0, d1, d2, d3, d4, df⟩ := st0.cells b1)
    go_meet
    exact ⟨_, nx⟩
  case rest =>
  clear st0
  obtain ⟨o4, st0⟩ := hcut
  go_upto_region 11 with fail
  go_cut [] (fun wx => ∃ o, OwnK w E (.slice pa E.points.length pc, .slice ga E.gaps.length gc, .slice ea E.edges.length ec, .slice fa E.first.length fc, .slice la E.last.length lc) 5 wx o)
  case first =>
    have st := st0.st
    obtain ⟨c0, c1, c2, c3, c4⟩ := st.cells0
    have hp := h.l.below st.below hR
    go_wp2_with (at_builtin; refine wpList_append_copy rfl (.tmp 30) (.tmp 32) 36 rfl 3 i4 _ 1 8 Tryz.underlying36 hi4 hz4 hs4 hb4 rfl (by decide) rfl R _ _ _ rfl hp (oneCell_ints _) (by omega) ?_; intro a1 k1 w1 q1 b1; have nx := st0.step4 b1 q1; obtain ⟨d0, d1, d2, d3, d4, df⟩ := st0.cells b1)
    go_meet
    exact ⟨_, nx⟩
  case rest =>
  clear st0
  obtain ⟨o5, st0⟩ := hcut
  obtain ⟨pv, gv, ev, fv, lv⟩ := o5
  have S0 := st0.d0 (by omega)
  have S1 := st0.d1 (by omega)
  have S2 := st0.d2 (by omega)
  have S3 := st0.d3 (by omega)
  have S4 := st0.d4 (by omega)
  obtain ⟨xa, xc, rfl⟩ := S0.val
  obtain ⟨ya, yc, rfl⟩ := S1.val
  obtain ⟨za, zc, rfl⟩ := S2.val
  obtain ⟨sa, sc, rfl⟩ := S3.val
  obtain ⟨ta, tc, rfl⟩ := S4.val
  have sz : w.heap.size + 1 + 1 < wc.heap.size := lt_of_get st0.st.h2
  have bl := st0.st.below
  have c := ten_cells st0.st.h2
  have d := ten_cells st0.st.h1
  have ST := Lib.hid st0; clear st0
  have T0 := Lib.hid S0; clear S0
  have T1 := Lib.hid S1; clear S1
  have T2 := Lib.hid S2; clear S2
  have T3 := Lib.hid S3; clear S3
  have T4 := Lib.hid S4; clear S4
  obtain ⟨c0, c1, c2, c3, c4, c5, c6, c7, c8, c9, cf⟩ := c
  obtain ⟨d0, d1, d2, d3, d4, d5, d6, d7, d8, d9, df⟩ := d
  clear hi1 hz1 hs1 hb1 hi2 hz2 hs2 hb2 hi3 hz3 hs3 hb3 hi4 hz4 hs4 hb4 i1 i2 i3 i4 cf
  go_wp2_with fail
  refine bodyPost_ret (v := .agg #[.string E.name, .int .i64 E.tol, .slice xa E.points.length xc, .int .i64 E.count, .int .i64 E.mn, .int .i64 E.mx, .slice ya E.gaps.length yc, .slice za E.edges.length zc, .slice sa E.first.length sc, .slice ta E.last.length tc]) (by simp [results, Tryz.results54, go_sem, d0, d1, d2, d3, d4, d5, d6, d7, d8, d9, World.cell?_setCell_same, World.cell?_setCell_other]) rfl ?_
  clear c0 c1 c2 c3 c4 c5 c6 c7 c8 c9 d0 d1 d2 d3 d4 d5 d6 d7 d8 d9 df
  have key := fun w' => @ownEntity_end w wc w' E _ _ _ _ _ bl T0.out T1.out T2.out T3.out T4.out bl.size
  simp only [entCs] at key
  refine key _ ?_
  clear key
  iterate 10 refine keep_more ?_ _ _
  exact Keep.refl _ _
end Go.Proofs.YtakjbjokekbmbaaGreatDoor

/- HeavyEntity: 1 if an entity is too much for a statement, else 0. -/
namespace Go.Proofs.YtakjbjokekbmbaaGreatDoor
open Go.RowKit
set_option linter.unusedVariables false

def HTop (E : EntV) : Prop := 60 < E.name.size ∨ 30 < E.points.length ∨ 30 < E.gaps.length ∨ 80 < E.edges.length ∨ 30 < E.first.length ∨ 30 < E.last.length
instance (E : EntV) : Decidable (HTop E) := by unfold HTop; infer_instance
def hTopB (E : EntV) : Bool := decide (HTop E)
theorem hTopB_pos {E : EntV} (h : HTop E) : hTopB E = true := decide_eq_true h
theorem hTopB_neg {E : EntV} (h : ¬ HTop E) : hTopB E = false := decide_eq_false h
def Heavy (E : EntV) : Prop := HTop E ∨ ∃ s ∈ E.points, 60 < s.size
instance (E : EntV) : Decidable (Heavy E) := by unfold Heavy; infer_instance
def heavyN (E : EntV) : Int := if Heavy E then 1 else 0
theorem heavyN_pos {E : EntV} (h : Heavy E) : heavyN E = 1 := if_pos h
theorem heavyN_neg {E : EntV} (h : ¬ Heavy E) : heavyN E = 0 := if_neg h
theorem light_of {E : EntV} (h : ¬ Heavy E) : Light E := by
  unfold Heavy HTop at h
  refine ⟨?_, ?_, ?_, ?_, ?_⟩ <;> (apply Nat.le_of_not_lt; intro hh; apply h; omega)

set_option maxHeartbeats 1000000 in
theorem heavyEntity_any (R : Nat → Prop) (E : EntV) (vp vg ve vf vl : Value) (w : World) (h : EntSl R w E vp vg ve vf vl) (hR : ∀ b, R b → b < w.heap.size) :
    Calls Tryz.prog 27 #[.agg (entCs E vp vg ve vf vl)] w fun e w' => e = .returned (.int .i64 (heavyN E)) ∧ Below w.heap.size w w' := by
  obtain ⟨hpl, pa, pc, rfl, hp1, hp2, hp3, hp4⟩ := h.p
  obtain ⟨ga, gc, rfl⟩ := h.g.val
  obtain ⟨ea, ec, rfl⟩ := h.e.val
  obtain ⟨fa, fc, rfl⟩ := h.f.val
  obtain ⟨la, lc, rfl⟩ := h.l.val
  have hn0 : E.points.length ≤ 9223372036854775807 := by unfold maxLen at hp2; omega
  clear h hp1 hp2 hpl
  unfold entCs
  go_enter Tryz.func27, Tryz.ntmps27
  go_upto_region 1 with fail
  go_cut [37] (fun c wx => c = .bool (hTopB E) ∧ wx.cell? ⟨w.heap.size, 2, none⟩ = some (.slice pa E.points.length pc) ∧ Below w.heap.size w wx)
  case first =>
    have C2 : (w.alloc (.cells #[.string E.name, .int .i64 E.tol, .slice pa E.points.length pc, .int .i64 E.count, .int .i64 E.mn, .int .i64 E.mx, .slice ga E.gaps.length gc, .slice ea E.edges.length ec, .slice fa E.first.length fc, .slice la E.last.length lc] 38)).cell? ⟨w.heap.size, 2, none⟩ = some (.slice pa E.points.length pc) ∧ Below w.heap.size w (w.alloc (.cells #[.string E.name, .int .i64 E.tol, .slice pa E.points.length pc, .int .i64 E.count, .int .i64 E.mn, .int .i64 E.mx, .slice ga E.gaps.length gc, .slice ea E.edges.length ec, .slice fa E.first.length fc, .slice la E.last.length lc] 38)) :=
      ⟨(ten_cells (get_alloc_new w _)).2.2.1, (Below.refl _ _).alloc (Nat.le_refl _) _⟩
    have HC := Lib.hid C2; clear C2
    by_cases h1 : (60 : Int) < (E.name.size : Int)
    · go_wp2_with fail
      go_meet
      exact ⟨val_bool (hTopB_pos (show HTop E by unfold HTop; omega)).symm, HC.out⟩
    by_cases h2 : (30 : Int) < (E.points.length : Int)
    · go_wp2_with fail
      go_meet
      exact ⟨val_bool (hTopB_pos (show HTop E by unfold HTop; omega)).symm, HC.out⟩
    by_cases h3 : (30 : Int) < (E.gaps.length : Int)
    · go_wp2_with fail
      go_meet
      exact ⟨val_bool (hTopB_pos (show HTop E by unfold HTop; omega)).symm, HC.out⟩
    by_cases h4 : (80 : Int) < (E.edges.length : Int)
    · go_wp2_with fail
      go_meet
      exact ⟨val_bool (hTopB_pos (show HTop E by unfold HTop; omega)).symm, HC.out⟩
    by_cases h5 : (30 : Int) < (E.first.length : Int)
    · go_wp2_with fail
      go_meet
      exact ⟨val_bool (hTopB_pos (show HTop E by unfold HTop; omega)).symm, HC.out⟩
    by_cases h6 : (30 : Int) < (E.last.length : Int)
    · go_wp2_with fail
      go_meet
      exact ⟨val_bool (hTopB_pos (show HTop E by unfold HTop; omega)).symm, HC.out⟩
    go_wp2_with fail
    go_meet
    exact ⟨val_bool (hTopB_neg (show ¬ HTop E by unfold HTop; omega)).symm, HC.out⟩
  case rest =>
  obtain ⟨rfl, c2, hb⟩ := hcut
  by_cases ht : HTop E
  · rw [hTopB_pos ht]
    go_wp2_with fail
    go_ret
    exact ⟨ret_int (heavyN_pos (.inl ht)).symm, hb⟩
  rw [hTopB_neg ht]
  have hH : Hid (Heavy E ↔ ∃ s ∈ E.points, 60 < s.size) := by show Heavy E ↔ _; simp [Heavy, ht]
  clear ht
  go_wp2_with fail
  go_loop [3] (fun i => ∃ k : Nat, k ≤ E.points.length ∧ i = .int .i64 k ∧ Hid (∀ j (hj : j < k) (hj' : j < E.points.length), ¬ 60 < E.points[j].size)) (fun i => E.points.length - (intOf i).toNat)
  case atStart => exact ⟨0, Nat.zero_le _, rfl, fun j hj => by omega⟩
  case round =>
    obtain ⟨k, hk, rfl, hall⟩ := hrel
    by_cases hlt : k < E.points.length
    · obtain ⟨b, off, rfl, hRb, hbs, hc⟩ := hp4 (by simp [strCells1]; omega)
      have ck : wc.cell? ⟨b, off + k, none⟩ = some (.string E.points[k]) := by
        rw [hb.cell (p := ⟨b, off + k, none⟩) (hR b hRb)]
        exact hc k _ (by simp [strCells1, hlt])
      clear hc hp4 hp3
      by_cases hs : (60 : Int) < (E.points[k].size : Int)
      · go_wp2_with fail
        go_ret
        exact ⟨ret_int (heavyN_pos (hH.out.2 ⟨E.points[k], List.getElem_mem _, by omega⟩)).symm, hb⟩
      · go_wp2_with fail
        go_round
        case rel =>
          refine ⟨k + 1, by omega, by go_num, ?_⟩
          intro j hj hj'
          by_cases hjk : j = k
          · subst hjk; omega
          · exact hall.out j (by omega) hj'
        case measure => simp [intOf]; omega
    · go_wp2_with fail
      go_ret
      refine ⟨ret_int (heavyN_neg ?_).symm, hb⟩
      intro hh
      obtain ⟨s, hs, h60⟩ := hH.out.1 hh
      obtain ⟨j, hj, rfl⟩ := List.mem_iff_getElem.1 hs
      exact hall.out j (by omega) hj h60

/-! ### As a law meets them: the entity in its box, at a law's beginning -/
theorem box_below {w w1 : World} {o : Obj} (b1 : Below (w.alloc o).heap.size (w.alloc o) w1) : Below w.heap.size w w1 ∧ w1.heap[w.heap.size]? = some o :=
  ⟨((Below.refl _ _).alloc (Nat.le_refl _) _).trans (b1.mono (by simp)), below_get b1 (get_alloc_new w o) (by simp)⟩

theorem heavyEntity_x (E : EntV) {pn gn en fn ln : Nat} (pa : Option Addr) (pc : Nat) (ga : Option Addr) (gc : Nat) (ea : Option Addr) (ec : Nat) (fa : Option Addr) (fc : Nat) (la : Option Addr) (lc : Nat) (w0 w : World)
    (h : EntSl (· < w0.heap.size) w0 E (.slice pa pn pc) (.slice ga gn gc) (.slice ea en ec) (.slice fa fn fc) (.slice la ln lc)) (hb : Below w0.heap.size w0 w) :
    Calls Tryz.prog 27 #[.agg #[.string E.name, .int .i64 E.tol, .slice pa pn pc, .int .i64 E.count, .int .i64 E.mn, .int .i64 E.mx, .slice ga gn gc, .slice ea en ec, .slice fa fn fc, .slice la ln lc]] w fun e w' => e = .returned (.int .i64 (heavyN E)) ∧ Below w.heap.size w w' :=
  heavyEntity_any (· < w0.heap.size) E _ _ _ _ _ w (h.keep (Keep.of_below hb) (fun b hb => by omega)) (fun b h => Nat.lt_of_lt_of_le h hb.size)

theorem ownEntity_x (E : EntV) {pn gn en fn ln : Nat} (pa : Option Addr) (pc : Nat) (ga : Option Addr) (gc : Nat) (ea : Option Addr) (ec : Nat) (fa : Option Addr) (fc : Nat) (la : Option Addr) (lc : Nat) (w0 w : World)
    (h : EntSl (· < w0.heap.size) w0 E (.slice pa pn pc) (.slice ga gn gc) (.slice ea en ec) (.slice fa fn fc) (.slice la ln lc)) (hb : Below w0.heap.size w0 w) (hH : ¬ Heavy E) :
    Calls Tryz.prog 54 #[.agg #[.string E.name, .int .i64 E.tol, .slice pa pn pc, .int .i64 E.count, .int .i64 E.mn, .int .i64 E.mx, .slice ga gn gc, .slice ea en ec, .slice fa fn fc, .slice la ln lc]] w fun e w' =>
      ∃ pa pc ga gc ea ec fa fc la lc, e = .returned (.agg #[.string E.name, .int .i64 E.tol, .slice pa E.points.length pc, .int .i64 E.count, .int .i64 E.mn, .int .i64 E.mx, .slice ga E.gaps.length gc, .slice ea E.edges.length ec, .slice fa E.first.length fc, .slice la E.last.length lc]) ∧
        EntSl (fun b => w.heap.size ≤ b) w' E (.slice pa E.points.length pc) (.slice ga E.gaps.length gc) (.slice ea E.edges.length ec) (.slice fa E.first.length fc) (.slice la E.last.length lc) ∧ Below w.heap.size w w' := by
  refine (ownEntity_any (· < w0.heap.size) E _ _ _ _ _ w (h.keep (Keep.of_below hb) (fun b hb => by omega)) (fun b h => Nat.lt_of_lt_of_le h hb.size) (light_of hH)).mono ?_
  rintro e w' ⟨v, rfl, ⟨vp, vg, ve, vf, vl, rfl, hs⟩, hbb⟩
  obtain ⟨pa, pc, rfl⟩ := hs.p.val
  obtain ⟨ga, gc, rfl⟩ := hs.g.val
  obtain ⟨ea, ec, rfl⟩ := hs.e.val
  obtain ⟨fa, fc, rfl⟩ := hs.f.val
  obtain ⟨la, lc, rfl⟩ := hs.l.val
  exact ⟨_, _, _, _, _, _, _, _, _, _, rfl, hs, hbb⟩
end Go.Proofs.YtakjbjokekbmbaaGreatDoor
