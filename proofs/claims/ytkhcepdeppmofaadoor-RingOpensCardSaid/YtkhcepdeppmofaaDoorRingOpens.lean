/- RingOpens. -/
import Derived.Test.YtkhcepdeppmofaaDoorRingZ2
import Derived.Test.YtkhcepdeppmofaaDoorRingW
import Derived.Test.YtkhcepdeppmofaaDoorTakeLit
namespace Go.Proofs.YtkhcepdeppmofaaDoor
open Go.RowKit
set_option linter.unusedVariables false

/-- Behind all the calls: the ring, the document's row, the last one's box. -/
structure RO (B : Nat) (sa : Nat → Addr) (w0 : World) (rg c rb cap : Nat) (m : CM) (L : List RecV) (lv : Value) (bo : Option Addr) (bc : Nat) (xb : Nat) (z : RecV) (w : World) : Prop where
  st : RSt B sa w0 rg c rb cap m false L lv w
  row : SlOf (fun x => w0.heap.size ≤ x) w (.slice bo L.length bc) 4 (L.flatMap recCells) L.length
  box : w.heap[xb]? = some (recC z)
section
variable {B : Nat} {sa : Nat → Addr} {w0 w w' : World} {rg c rb cap : Nat} {m : CM} {L : List RecV} {lv : Value} {bo : Option Addr} {bc xb : Nat} {z : RecV}
theorem RO.below (h : RO B sa w0 rg c rb cap m L lv bo bc xb z w) (b : Below w.heap.size w w') : RO B sa w0 rg c rb cap m L lv bo bc xb z w' :=
  ⟨h.st.below b, h.row.later b, below_get b h.box (lt_of_get h.box)⟩
theorem RO.drew (h : RO B sa w0 rg c rb cap m L lv bo bc xb z w) : RO B sa w0 rg c rb cap m L lv bo bc xb z w.drew := h.below ((Below.refl _ _).drew)
theorem RO.drewN (h : RO B sa w0 rg c rb cap m L lv bo bc xb z w) (n : Nat) : RO B sa w0 rg c rb cap m L lv bo bc xb z (w.drewN n) := h.below (below_drewN' n (Below.refl _ _))
theorem RO.cells (h : RO B sa w0 rg c rb cap m L lv bo bc xb z w) : w.cell? ⟨xb, 0, none⟩ = some (.int .i64 z.seq) ∧ w.cell? ⟨xb, 1, none⟩ = some (.int .i64 z.ent) ∧ w.cell? ⟨xb, 2, none⟩ = some (.int .i64 z.kind) ∧ w.cell? ⟨xb, 3, none⟩ = some (.int .i64 z.tick) := by
  have := h.box
  refine ⟨?_, ?_, ?_, ?_⟩ <;> simp [World.cell?, this, recC]
theorem RO.both {bb off : Nat} (h : RO B sa w0 rg c rb cap m L lv (some ⟨bb, off, none⟩) bc xb z w) (N : Nat) (hN : N < L.length) (hz : z = L[N]) :
    (w.cell? ⟨xb, 0, none⟩ = some (.int .i64 z.seq) ∧ w.cell? ⟨xb, 1, none⟩ = some (.int .i64 z.ent) ∧ w.cell? ⟨xb, 2, none⟩ = some (.int .i64 z.kind) ∧ w.cell? ⟨xb, 3, none⟩ = some (.int .i64 z.tick)) ∧
    w.cell? ⟨bb, off + N * 4, none⟩ = some (.int .i64 z.seq) ∧ w.cell? ⟨bb, off + N * 4 + 1, none⟩ = some (.int .i64 z.ent) ∧ w.cell? ⟨bb, off + N * 4 + 2, none⟩ = some (.int .i64 z.kind) ∧ w.cell? ⟨bb, off + N * 4 + 3, none⟩ = some (.int .i64 z.tick) := by
  obtain ⟨b, o, e, _, _, hc⟩ := rec_cells h.row (by omega)
  obtain ⟨rfl, rfl, _⟩ := Addr.mk.inj (Option.some.inj e)
  exact ⟨h.cells, by rw [hz]; exact hc N hN⟩
theorem lastZ_at {L : List RecV} {N : Nat} (h : L.length = N + 1) : lastZ L = L[N] := by
  unfold lastZ
  rw [List.getLast?_eq_getElem?, show L.length - 1 = N by omega, List.getElem?_eq_getElem (by omega)]
  rfl
theorem RO.same (h : RO B sa w0 rg c rb cap m L lv bo bc xb z w) (h' : RO B sa w0 rg c rb cap m L lv bo bc xb z w') (o : Nat) : w'.cell? ⟨xb, o, none⟩ = w.cell? ⟨xb, o, none⟩ := by
  simp [World.cell?, h.box, h'.box]
end

set_option maxRecDepth 20000 in
set_option maxHeartbeats 16000000 in
theorem ringOpens_any (B : Nat) (sa : Nat → Addr) (b : ByteArray) (w : World) (hS : Sents B sa w) :
    Calls Tryd.prog 6 #[.string b] w fun e w' => e = .returned (.bool true) ∧ Below w.heap.size w w' := by
  have HS := Lib.hid hS
  have hB := hS.r.top
  clear hS
  go_enter Tryd.func6, Tryd.ntmps6
  go_wp2_with fail
  refine (logged_any B sa w HS.out.r).mono ?_
  rintro e w1 ⟨rfl, b1⟩
  have HB1 := Lib.hid b1
  clear b1
  by_cases h300 : 300 < (b.size : Int)
  · go_wp2_with fail
    go_ret
    exact ⟨rfl, HB1.out⟩
  go_wp2_with fail
  refine (openNil_any B sa w1 (HS.out.r.below HB1.out)).mono ?_
  rintro e w2 ⟨rfl, b2⟩
  have HB2 := Lib.hid (HB1.out.trans (b2.mono HB1.out.size))
  clear b2 HB1
  go_wp2_with fail
  refine (coded1_any B sa 3 (by decide) _ w2 (HS.out.below HB2.out)).mono ?_
  rintro e w3 ⟨rfl, b3⟩
  have HB3 := Lib.hid (HB2.out.trans (b3.mono HB2.out.size))
  rw [show decide (((3 : Nat) : Int) = 3) = true from rfl]
  clear b3 HB2
  go_wp2_with fail
  refine (cr_from b B sa w w3 (HS.out.r.below HB3.out) HB3.out hB (by omega)).mono ?_
  rintro e w4 ⟨c, rb, rfl, h4⟩
  obtain ⟨l, hl⟩ : ∃ l, l = b.data.toList := ⟨_, rfl⟩
  have hlen : l.length = b.size := by rw [hl]; rfl
  have hstr : strOf l = b := by rw [hl]; rfl
  rw [← hl] at h4
  have H4 := Lib.hid h4
  have HL := Lib.hid hl
  have HLEN := Lib.hid hlen
  have HSTR := Lib.hid hstr
  clear h4 HB3 hl hlen hstr
  go_wp2_with fail
  by_cases h153 : (b.size : Int) < 153
  · refine (openShort_any B sa c rb _ _ w4 H4.out.mem H4.out.se (by show l.length < 153; rw [HLEN.out]; omega)).mono ?_
    rintro e w5 ⟨rfl, b5⟩
    have HB5 := Lib.hid (H4.out.bel.trans (b5.mono H4.out.bel.size))
    clear b5
    go_wp2_with fail
    refine (coded1_any B sa 2 (by decide) _ w5 (HS.out.below HB5.out)).mono ?_
    rintro e w6 ⟨rfl, b6⟩
    have HB6 := Lib.hid (HB5.out.trans (b6.mono HB5.out.size))
    rw [show decide (((2 : Nat) : Int) = 2) = true from rfl]
    clear b6
    go_wp2_with fail
    go_ret
    exact ⟨rfl, HB6.out⟩
  refine (cr_open H4.out (by show 153 ≤ l.length; rw [HLEN.out]; omega) rfl).mono ?_
  rintro e w5 ⟨rg, lv, rfl, h5⟩
  have hL8 : (recsOf l).length ≤ 8 := recs_le l
  have h5' : RSt B sa w rg c rb b.size ⟨l, false, -1, 0⟩ false (recsOf l) lv w5 := h5
  obtain ⟨L, hL⟩ : ∃ L, L = recsOf l := ⟨_, rfl⟩
  rw [← hL] at h5' hL8
  have H5 := Lib.hid h5'
  have HLL : Eqd L (recsOf l) := ⟨hL⟩
  clear h5 h5' hL H4
  go_wp2_with fail
  refine (cellsBytes_any c rb _ _ _ w5 H5.out.mem).mono ?_
  rintro e w' ⟨rfl, rfl⟩
  rw [show strOf (CM.bs ⟨l, false, -1, 0⟩) = b from HSTR.out]
  go_wp2_with fail
  refine (cellsWritten_any c rb _ _ _ w5 H5.out.mem).mono ?_
  rintro e w' ⟨rfl, rfl⟩
  go_wp2_with fail
  refine (rRecordsOf_any b (by omega) (by omega) w5).mono ?_
  rintro e w6 ⟨bo, bc, rfl, hs6, b6⟩
  rw [← HL.out, ← HLL.out] at hs6 ⊢
  have H6 := Lib.hid (H5.out.below b6)
  have HS6 : Hid (SlOf (fun x => w.heap.size ≤ x) w6 (.slice bo L.length bc) 4 (L.flatMap recCells) L.length) := (show SlOf (fun x => w.heap.size ≤ x) w6 (.slice bo L.length bc) 4 (L.flatMap recCells) L.length from (slOf_owns hs6).mono (fun x hx => Nat.le_trans H5.out.bel.size hx))
  clear hs6 b6 H5
  go_wp2_with fail
  refine (last_st H6.out (by omega)).mono ?_
  rintro e w7 ⟨rfl, b7⟩
  obtain ⟨z, hz0⟩ : ∃ z, z = lastZ L := ⟨_, rfl⟩
  rw [← hz0]
  have hz := Lib.hid hz0
  clear hz0
  have bx : Below w7.heap.size w7 (w7.alloc (recC z)) := (Below.refl _ _).alloc (Nat.le_refl _) _
  have b8 := b7.trans (bx.mono b7.size)
  have H8 : Hid (RO B sa w rg c rb b.size ⟨l, false, -1, 0⟩ L lv bo bc w7.heap.size z (w7.alloc (recC z))) := (show RO B sa w rg c rb b.size ⟨l, false, -1, 0⟩ L lv bo bc w7.heap.size z (w7.alloc (recC z)) from ⟨H6.out.below b8, HS6.out.later b8, get_alloc_new _ _⟩)
  simp only [recC] at H8
  rw [show recAgg z = .agg #[.int .i64 z.seq, .int .i64 z.ent, .int .i64 z.kind, .int .i64 z.tick] from rfl]
  clear bx b7 b8 HS6 H6
  obtain ⟨zb, hzb0⟩ : ∃ zb, zb = !L.isEmpty := ⟨_, rfl⟩
  rw [← hzb0]
  have hzb := Lib.hid hzb0
  clear hzb0
  go_upto_region 17 with fail
  generalize World.alloc _ _ = w8 at H8 ⊢
  generalize w7.heap.size = xb at H8 ⊢
  have HREC : Hid (∀ W, RO B sa w rg c rb b.size ⟨l, false, -1, 0⟩ L lv bo bc xb z W → Calls Tryd.prog 34 #[.pointer (some ⟨rg, 0, none⟩)] W fun e w' => ∃ ao cap, e = .returned (.slice ao L.length cap) ∧ RO B sa w rg c rb b.size ⟨l, false, -1, 0⟩ L lv bo bc xb z w' ∧ SlOf (fun _ => True) w' (.slice ao L.length cap) 4 (L.flatMap recCells) L.length) := (show _ from fun W h => (recs_st h.st (by omega)).mono (by
    rintro e w' ⟨ao, cap, he, hb, hs⟩
    exact ⟨ao, cap, he, h.below hb, hs.mono (fun _ _ => trivial)⟩))
  have HSAME : Hid (∀ (W : World) (ao : Option Addr) (cap : Nat), RO B sa w rg c rb b.size ⟨l, false, -1, 0⟩ L lv bo bc xb z W → SlOf (fun _ => True) W (.slice ao L.length cap) 4 (L.flatMap recCells) L.length → Calls Tryd.prog 45 #[.slice ao L.length cap, .slice bo L.length bc] W fun e w' => e = .returned (.bool true) ∧ RO B sa w rg c rb b.size ⟨l, false, -1, 0⟩ L lv bo bc xb z w') := (show _ from fun W ao cap h hs => (sameRecs_any _ _ L L _ _ W hs h.row (by omega) (by omega)).mono (by
    rintro e w' ⟨he, q, rfl⟩
    exact ⟨by rw [he, decide_eq_true rfl], h.drewN q⟩))
  by_cases h0 : L.length = 0
  · obtain rfl : zb = false := by rw [hzb.out, List.eq_nil_of_length_eq_zero h0]; rfl
    have hd : decide ((0 : Int) < (L.length : Int)) = false := decide_eq_false (by omega)
    have HNIL : Hid (L = []) := List.eq_nil_of_length_eq_zero h0
    have hd2 : decide (0 < L.length) = false := decide_eq_false (by omega)
    clear hzb HLL h0 hL8
    refine wp_region_held_drew (S := fun _ => True) (by kernel_rfl) trivial (fun _ => ?_)
    refine take_lit (i := 0) (v := .pointer (some ⟨rg, 0, none⟩)) rfl (by kernel_rfl) (by kernel_rfl) (by kernel_rfl) (fun _ _ _ h => h) (Or.inl ⟨by rfl, fun w _ => by go_simp⟩) trivial ?_
    try simp only [Act.put, List.setIfInBounds_toArray, List.set_cons_zero, List.set_cons_succ]
    refine take_lit (i := 2) (v := .slice bo L.length bc) rfl (by kernel_rfl) (by kernel_rfl) (by kernel_rfl) (fun _ _ _ h => h) (Or.inl ⟨by rfl, fun w _ => by go_simp⟩) trivial ?_
    try simp only [Act.put, List.setIfInBounds_toArray, List.set_cons_zero, List.set_cons_succ]
    refine wpAnyH_ready (rs := [1]) (by kernel_rfl) (by simp) ?_
    refine cons_lit rfl (fun K hK => ?_)
    go_simp
    refine (HREC.out _ H8.out.drew).mono ?_
    rintro e w' ⟨ao9, cap9, rfl, kE, sE⟩
    go_wp2_with fail
    refine hK.out _ _ trivial (fun _ => ?_)
    clear hK K
    try simp only [Act.put, List.setIfInBounds_toArray, List.set_cons_zero, List.set_cons_succ]
    refine wpAnyH_ready (rs := [3]) (by kernel_rfl) (by simp) ?_
    refine cons_lit rfl (fun K hK => ?_)
    go_simp
    refine (HSAME.out _ _ _ kE sE).mono ?_
    rintro e w' ⟨rfl, kF⟩
    go_wp2_with fail
    refine hK.out _ _ trivial (fun _ => ?_)
    clear hK K HREC HSAME H8 kE sE HS HL HLEN HSTR hz hd2 hB
    try simp only [Act.put, List.setIfInBounds_toArray, List.set_cons_zero, List.set_cons_succ]
    refine take_lit (i := 4) (v := .bool true) rfl (by kernel_rfl) (by kernel_rfl) (by kernel_rfl) (fun _ _ _ h => h) (Or.inl ⟨by rfl, fun w _ => by go_simp⟩) trivial ?_
    try simp only [Act.put, List.setIfInBounds_toArray, List.set_cons_zero, List.set_cons_succ]
    refine take_lit (i := 5) (v := .bool false) rfl (by kernel_rfl) (by kernel_rfl) (by kernel_rfl) (fun _ _ _ h => h) (Or.inl ⟨by rfl, fun w _ => by go_simp⟩) trivial ?_
    try simp only [Act.put, List.setIfInBounds_toArray, List.set_cons_zero, List.set_cons_succ]
    refine take_lit (i := 6) (v := .slice bo L.length bc) rfl (by kernel_rfl) (by kernel_rfl) (by kernel_rfl) (fun _ _ _ h => h) (Or.inl ⟨by rfl, fun w _ => by go_simp⟩) trivial ?_
    try simp only [Act.put, List.setIfInBounds_toArray, List.set_cons_zero, List.set_cons_succ]
    refine take_lit (i := 7) (v := .int .i64 L.length) rfl (by kernel_rfl) (by kernel_rfl) (by kernel_rfl) (fun _ _ _ h => h) (Or.inl ⟨by rfl, fun w _ => by go_simp⟩) trivial ?_
    try simp only [Act.put, List.setIfInBounds_toArray, List.set_cons_zero, List.set_cons_succ]
    refine take_lit (i := 8) (v := .bool false) rfl (by kernel_rfl) (by kernel_rfl) (by kernel_rfl) (fun _ _ _ h => h) (Or.inl ⟨by rfl, fun w _ => by go_simp; exact HNIL.out⟩) trivial ?_
    try simp only [Act.put, List.setIfInBounds_toArray, List.set_cons_zero, List.set_cons_succ]
    refine take_lit (i := 9) (v := .bool true) rfl (by kernel_rfl) (by kernel_rfl) (by kernel_rfl) (fun _ _ _ h => h) (Or.inl ⟨by rfl, fun w _ => by go_simp⟩) trivial ?_
    try simp only [Act.put, List.setIfInBounds_toArray, List.set_cons_zero, List.set_cons_succ]
    refine take_lit (i := 10) (v := .bool true) rfl (by kernel_rfl) (by kernel_rfl) (by kernel_rfl) (fun _ _ _ h => h) (Or.inl ⟨by rfl, fun w _ => by go_simp⟩) trivial ?_
    try simp only [Act.put, List.setIfInBounds_toArray, List.set_cons_zero, List.set_cons_succ]
    refine take_lit (i := 11) (v := .bool true) rfl (by kernel_rfl) (by kernel_rfl) (by kernel_rfl) (fun _ _ _ h => h) (Or.inl ⟨by rfl, fun w _ => by go_simp⟩) trivial ?_
    try simp only [Act.put, List.setIfInBounds_toArray, List.set_cons_zero, List.set_cons_succ]
    refine take_lit (i := 12) (v := .bool false) rfl (by kernel_rfl) (by kernel_rfl) (by kernel_rfl) (fun _ _ _ h => h) (Or.inl ⟨by rfl, fun w _ => by go_simp⟩) trivial ?_
    try simp only [Act.put, List.setIfInBounds_toArray, List.set_cons_zero, List.set_cons_succ]
    refine take_lit (i := 13) (v := .bool true) rfl (by kernel_rfl) (by kernel_rfl) (by kernel_rfl) (fun _ _ _ h => h) (Or.inl ⟨by rfl, fun w _ => by go_simp⟩) trivial ?_
    try simp only [Act.put, List.setIfInBounds_toArray, List.set_cons_zero, List.set_cons_succ]
    refine take_lit (i := 14) (v := .bool true) rfl (by kernel_rfl) (by kernel_rfl) (by kernel_rfl) (fun _ _ _ h => h) (Or.inl ⟨by rfl, fun w _ => by go_simp⟩) trivial ?_
    try simp only [Act.put, List.setIfInBounds_toArray, List.set_cons_zero, List.set_cons_succ]
    refine take_lit (i := 15) (v := undef) rfl (by kernel_rfl) (by kernel_rfl) (by kernel_rfl) (fun _ _ _ h => h) (Or.inr ⟨by rfl, rfl⟩) trivial ?_
    try simp only [Act.put, List.setIfInBounds_toArray, List.set_cons_zero, List.set_cons_succ]
    refine take_lit (i := 16) (v := undef) rfl (by kernel_rfl) (by kernel_rfl) (by kernel_rfl) (fun _ _ _ h => h) (Or.inr ⟨by rfl, rfl⟩) trivial ?_
    try simp only [Act.put, List.setIfInBounds_toArray, List.set_cons_zero, List.set_cons_succ]
    refine take_lit (i := 17) (v := undef) rfl (by kernel_rfl) (by kernel_rfl) (by kernel_rfl) (fun _ _ _ h => h) (Or.inr ⟨by rfl, rfl⟩) trivial ?_
    try simp only [Act.put, List.setIfInBounds_toArray, List.set_cons_zero, List.set_cons_succ]
    refine take_lit (i := 18) (v := undef) rfl (by kernel_rfl) (by kernel_rfl) (by kernel_rfl) (fun _ _ _ h => h) (Or.inr ⟨by rfl, rfl⟩) trivial ?_
    try simp only [Act.put, List.setIfInBounds_toArray, List.set_cons_zero, List.set_cons_succ]
    refine take_lit (i := 19) (v := undef) rfl (by kernel_rfl) (by kernel_rfl) (by kernel_rfl) (fun _ _ _ h => h) (Or.inr ⟨by rfl, rfl⟩) trivial ?_
    try simp only [Act.put, List.setIfInBounds_toArray, List.set_cons_zero, List.set_cons_succ]
    refine take_lit (i := 20) (v := undef) rfl (by kernel_rfl) (by kernel_rfl) (by kernel_rfl) (fun _ _ _ h => h) (Or.inr ⟨by rfl, rfl⟩) trivial ?_
    try simp only [Act.put, List.setIfInBounds_toArray, List.set_cons_zero, List.set_cons_succ]
    refine take_lit (i := 21) (v := undef) rfl (by kernel_rfl) (by kernel_rfl) (by kernel_rfl) (fun _ _ _ h => h) (Or.inr ⟨by rfl, rfl⟩) trivial ?_
    try simp only [Act.put, List.setIfInBounds_toArray, List.set_cons_zero, List.set_cons_succ]
    refine take_lit (i := 22) (v := undef) rfl (by kernel_rfl) (by kernel_rfl) (by kernel_rfl) (fun _ _ _ h => h) (Or.inr ⟨by rfl, rfl⟩) trivial ?_
    try simp only [Act.put, List.setIfInBounds_toArray, List.set_cons_zero, List.set_cons_succ]
    refine take_lit (i := 23) (v := .bool true) rfl (by kernel_rfl) (by kernel_rfl) (by kernel_rfl) (fun _ _ _ h => h) (Or.inl ⟨by rfl, fun w _ => by go_simp⟩) trivial ?_
    try simp only [Act.put, List.setIfInBounds_toArray, List.set_cons_zero, List.set_cons_succ]
    refine take_lit (i := 24) (v := .bool true) rfl (by kernel_rfl) (by kernel_rfl) (by kernel_rfl) (fun _ _ _ h => h) (Or.inl ⟨by rfl, fun w _ => by go_simp⟩) trivial ?_
    try simp only [Act.put, List.setIfInBounds_toArray, List.set_cons_zero, List.set_cons_succ]
    refine take_lit (i := 25) (v := .bool true) rfl (by kernel_rfl) (by kernel_rfl) (by kernel_rfl) (fun _ _ _ h => h) (Or.inl ⟨by rfl, fun w _ => by go_simp⟩) trivial ?_
    try simp only [Act.put, List.setIfInBounds_toArray, List.set_cons_zero, List.set_cons_succ]
    refine wpAnyH_done (by kernel_rfl) ?_ _
    go_wp2_with fail
    go_ret
    exact ⟨rfl, kF.st.bel⟩
  · obtain ⟨N, hN⟩ : ∃ N, L.length = N + 1 := ⟨L.length - 1, by omega⟩
    obtain rfl : zb = true := by
      rw [hzb.out]
      cases L with
      | nil => exact absurd rfl h0
      | cons _ _ => rfl
    obtain ⟨bb, off, rfl, _, _, _⟩ := rec_cells H8.out.row (by omega)
    have HZ : Hid (∀ W, RO B sa w rg c rb b.size ⟨l, false, -1, 0⟩ L lv (some ⟨bb, off, none⟩) bc xb z W → (W.cell? ⟨xb, 0, none⟩ = some (.int .i64 z.seq) ∧ W.cell? ⟨xb, 1, none⟩ = some (.int .i64 z.ent) ∧ W.cell? ⟨xb, 2, none⟩ = some (.int .i64 z.kind) ∧ W.cell? ⟨xb, 3, none⟩ = some (.int .i64 z.tick)) ∧
    W.cell? ⟨bb, off + N * 4, none⟩ = some (.int .i64 z.seq) ∧ W.cell? ⟨bb, off + N * 4 + 1, none⟩ = some (.int .i64 z.ent) ∧ W.cell? ⟨bb, off + N * 4 + 2, none⟩ = some (.int .i64 z.kind) ∧ W.cell? ⟨bb, off + N * 4 + 3, none⟩ = some (.int .i64 z.tick)) := (show _ from fun W h => h.both N (by omega) (by rw [hz.out]; exact lastZ_at hN))
    obtain ⟨⟨x0, x1, x2, x3⟩, q0, q1, q2, q3⟩ := HZ.out _ H8.out
    have hLN : (L.length : Int) - 1 = (N : Int) := by omega
    have hwN : IntKind.i64.wrap (N : Int) = (N : Int) := IntWalk.i64_in _ (by omega)
    have hN0 : (0 : Int) ≤ (N : Int) := by omega
    have hNL : (N : Int) < (L.length : Int) := by omega
    have hL0 : (0 : Int) < (L.length : Int) := by omega
    have hd : decide ((0 : Int) < (L.length : Int)) = true := decide_eq_true hL0
    have hd2 : decide (0 < L.length) = true := decide_eq_true (by omega)
    have heq : ∀ w, (Op.equalIn 10000 60 (.agg #[.int .i64 z.seq, .int .i64 z.ent, .int .i64 z.kind, .int .i64 z.tick]) (.agg #[.int .i64 z.seq, .int .i64 z.ent, .int .i64 z.kind, .int .i64 z.tick])).run Tryd.prog w = .ok true w := fun w => by
      have := Tryd.recEq4 z.seq z.ent z.kind z.tick z.seq z.ent z.kind z.tick w
      unfold recV4 at this
      rw [this]; simp
    have hgd := Tryd.recGuard
    clear hzb HLL h0 hz hN hL8
    go_region_held3 (fun w' => (w'.cell? ⟨xb, 0, none⟩ = some (.int .i64 z.seq) ∧ w'.cell? ⟨xb, 1, none⟩ = some (.int .i64 z.ent) ∧ w'.cell? ⟨xb, 2, none⟩ = some (.int .i64 z.kind) ∧ w'.cell? ⟨xb, 3, none⟩ = some (.int .i64 z.tick)) ∧
    w'.cell? ⟨bb, off + N * 4, none⟩ = some (.int .i64 z.seq) ∧ w'.cell? ⟨bb, off + N * 4 + 1, none⟩ = some (.int .i64 z.ent) ∧ w'.cell? ⟨bb, off + N * 4 + 2, none⟩ = some (.int .i64 z.kind) ∧ w'.cell? ⟨bb, off + N * 4 + 3, none⟩ = some (.int .i64 z.tick))
      (first | exact HZ.out _ H8.out | exact HZ.out _ (by repeat (first | exact kF | exact kE | exact H8.out | refine RO.drew ?_)))
      (first | (go_at_call 34; go_must (refine (HREC.out _ ?_).mono ?_); (repeat (first | exact H8.out | refine RO.drew ?_)); go_must (rintro e w' ⟨ao9, cap9, rfl, kE, sE⟩)) | (go_at_call 45; go_must (refine (HSAME.out _ _ _ ?_ sE).mono ?_); (repeat (first | exact kE | refine RO.drew ?_)); go_must (rintro e w' ⟨rfl, kF⟩)))
    all_goals
      go_wp2_with fail
      go_ret
      exact ⟨rfl, kF.st.bel⟩
end Go.Proofs.YtkhcepdeppmofaaDoor
