/- Laws of a watch: fresh, watched. -/
import Derived.Test.YtakjbjokekbmbaaGreatDoorR31
import Derived.Test.YtakjbjokekbmbaaGreatDoorR43
import Derived.Test.YtakjbjokekbmbaaGreatDoorR44
import Derived.Test.YtakjbjokekbmbaaGreatDoorR45
import Derived.Test.YtakjbjokekbmbaaGreatDoorR29
namespace Go.Proofs.YtakjbjokekbmbaaGreatDoor
open Go.RowKit
set_option linter.unusedVariables false

def blank : CM := ⟨List.replicate 4096 0, false, -1, 0⟩
theorem blank_len : blank.bs.length = 4096 := by show (List.replicate 4096 (0 : UInt8)).length = _; rw [List.length_replicate]
theorem blank_recs : recsOf blank.bs = [] := recs_zero 4096 (by decide)
theorem blank_inv : RInv blank.bs [] := rinv_zero 4096 (by decide)
theorem cellsNew_blank (w : World) : Calls Tryz.prog 25 #[.int .i64 4096] w fun e w' => ∃ c rb cap, e = .returned (.tuple #[.pointer (some ⟨c, 0, none⟩), .nilIface]) ∧ CellsAt w' c rb (some ⟨rb, 0, none⟩) cap blank ∧ (w.heap.size ≤ c ∧ w.heap.size ≤ rb) ∧ Below w.heap.size w w' := by
  refine (cellsNew_in 4096 w (Nat.le_refl _)).mono ?_
  rintro e w' ⟨rfl, h1, h2⟩
  exact ⟨_, _, _, rfl, h1, ⟨by omega, Nat.le_refl _⟩, h2⟩
def dog0 (C : ConfV) : DogM := ⟨C.closed, C.opn, 0, 0, false, 0⟩
def txtOf (C : ConfV) : ByteArray := ⟨(textB C).toArray⟩
/-- A watch that is begun. -/
def kp0 (C : ConfV) : KpM := kpOpen C (dog0 C) blank
theorem kp0_ok {C : ConfV} (hC : confF C = (0, -1)) : KpOk (kp0 C) 0 := by
  have hb := boundC_parts (confF_parts hC).1
  refine kpOpen_ok (confF_parts hC).1 (fun E hE => good_light (conf_good hC E hE)) ⟨hb.1, hb.2.1, hb.2.2.1, hb.2.2.2.1, ?_, ?_, ?_, ?_, ?_⟩ ?_ ?_ ⟨neg1_le.1, neg1_le.2, ?_, ?_⟩ blank_len blank_inv ?_ ?_
  all_goals (first | exact Int.le_refl (0 : Int) | (show (0 : Int) ≤ (1099511627776 : Int); omega) | (show (0 : Int) ≤ (1000000 : Int); omega) | (show (0 : Nat) ≤ _; omega) | decide)
def FreshPost (B : Nat) (sa : Nat → Addr) (C : ConfV) (w : World) (e : Ending) (w' : World) : Prop :=
  ∃ kb c x o, e = .returned (.tuple #[.pointer (some ⟨kb, 0, none⟩), .pointer (some ⟨c, 0, none⟩), .bool true]) ∧ KpIn B sa w kb c (txtOf C) x (kp0 C) o w'

theorem Tryz.fieldCode (a b : Int) (W : World) : (Instr.field 29 (.agg #[.int .i64 a, .int .i64 b]) 0).run Tryz.prog W = .ok (.int .i64 a) W := by kernel_rfl
set_option maxRecDepth 100000 in
set_option maxHeartbeats 4000000 in
theorem fresh_any (B : Nat) (sa : Nat → Addr) (R : Nat → Prop) (C : ConfV) (v : Value) (X : List EntX) (w : World) (hS : SentsK B sa w) (hN : NumB B w) (hT : TabB w.heap.size w) (h : ConfSl R w C v X) (hR : ∀ b, R b → b < w.heap.size) (hH : ¬ HeavyC X) (hC : confF C = (0, -1)) (h8 : (textB C).length ≤ 8000) :
    Calls Tryz.prog 10 #[.agg (confCs C v)] w (FreshPost B sa C w) := by
  have hfc := fun (a b : Int) (W : World) => Tryz.fieldCode a b W
  obtain ⟨ao, cap', rfl⟩ := h.sl.row.val
  have hxa := get_alloc_new w (.cells (confCs C (.slice ao X.length cap')) 24)
  have hba : Below w.heap.size w (w.alloc (.cells (confCs C (.slice ao X.length cap')) 24)) := (Below.refl _ _).alloc (Nat.le_refl _) _
  have HF := Lib.hid (fun W (hW : Below w.heap.size w W) => rConfigFault_any R C (.slice ao X.length cap') X W (h.below hW hR) (fun b hb => Nat.lt_of_lt_of_le (hR b hb) hW.size))
  rw [hC, show faultV ((0 : Nat), (-1 : Int)) = .agg #[.int .i64 0, .int .i64 (-1)] from rfl] at HF
  have HOw := Lib.hid (fun W (hW : Below w.heap.size w W) => ownConfig_any R C (.slice ao X.length cap') X W (h.below hW hR).sl (fun b hb => Nat.lt_of_lt_of_le (hR b hb) hW.size) hH)
  have HNw := Lib.hid (fun (W W' : World) (c rb cap a9 k9 Y) (hW : Below w.heap.size w W) (hW2 : Below W.heap.size W W') (hY : Y.map EntX.E = X.map EntX.E) (hX : OwnX W.heap.size W' (.slice a9 Y.length k9) Y) (hm : CellsAt W c rb (some ⟨rb, 0, none⟩) cap blank) (hc : w.heap.size ≤ c ∧ w.heap.size ≤ rb) =>
    kpNew_any B sa (fun b => W.heap.size ≤ b ∧ b < W'.heap.size) C (.slice a9 Y.length k9) Y w W' c rb cap blank (hS.below (hW.trans (hW2.mono hW.size))) (hN.below (hW.trans (hW2.mono hW.size)) hS.top) (fun W3 hW3 => hT W3 ((hW.trans (hW2.mono hW.size)).trans (hW3.mono (hW.trans (hW2.mono hW.size)).size)))
      ⟨hX.ents, by rw [h.eq, hY], fun y hy => by
        have : y.E ∈ X.map EntX.E := by rw [← hY]; exact List.mem_map_of_mem hy
        obtain ⟨x, hx, hxe⟩ := List.mem_map.1 this
        rw [← hxe]; exact h.small x hx, by have := congrArg List.length hY; rw [List.length_map, List.length_map] at this; have := h.len; omega⟩ (fun b hb => hb.2) hC h8 (hW.trans (hW2.mono hW.size)) hS.top (hm.keep (below_keep hW2) (fun _ h => h.elim)) hc (by rw [blank_len]; decide) rfl)
  clear hS hN hT h hR hH hC h8
  unfold confCs at hxa hba HF HOw HNw ⊢
  unfold FreshPost
  go_enter Tryz.func10, Tryz.ntmps10
  go_upto_region 1 with fail
  generalize w.alloc _ = w1 at hxa hba ⊢
  have HXA : Hid (w1.heap[w.heap.size]? = some (.cells (confCs C (.slice ao X.length cap')) 24)) := hxa
  have HBA := Lib.hid hba
  have HCn := Lib.hid (cellsNew_blank w1)
  clear hxa hba
  go_wp2_with fail
  refine HCn.out.mono ?_
  rintro e w2 ⟨c, rb, cap, rfl, hm, hc, b2⟩
  have HM := Lib.hid (And.intro hm (show w.heap.size ≤ c ∧ w.heap.size ≤ rb from by have := HBA.out.size; omega))
  have HX2 := Lib.hid (below_get b2 HXA.out (lt_of_get HXA.out))
  have HB2 := Lib.hid (HBA.out.trans (b2.mono HBA.out.size))
  obtain ⟨c0, c1, c2, c3, c4⟩ := conf_cells HX2.out
  have HF2 := Lib.hid (HF.out w2 HB2.out)
  clear hm hc b2 HXA HBA HCn HF
  go_wp2_with fail
  refine HF2.out.mono ?_
  rintro e w3 ⟨rfl, b3⟩
  have HM3 := Lib.hid (And.intro (HM.out.1.keep (below_keep b3) (fun _ h => h.elim)) HM.out.2)
  have HX3 := Lib.hid (below_get b3 HX2.out (lt_of_get HX2.out))
  have HB3 := Lib.hid (HB2.out.trans (b3.mono HB2.out.size))
  obtain ⟨d0, d1, d2, d3, d4⟩ := conf_cells HX3.out
  have HO3 := Lib.hid (HOw.out w3 HB3.out)
  clear c0 c1 c2 c3 c4 b3 HX2 HB2 HF2 HM HOw
  go_wp2_with fail
  refine HO3.out.mono ?_
  rintro e w4 ⟨a9, k9, Y, rfl, hY, hX, b4⟩
  have HN4 := Lib.hid (HNw.out w3 w4 c rb cap a9 k9 Y HB3.out b4 hY hX HM3.out.1 HM3.out.2)
  clear d0 d1 d2 d3 d4 hY hX b4 HNw HO3 HX3 HB3 HM3
  go_wp2_with fail
  refine HN4.out.mono ?_
  rintro e w5 ⟨kb, x, o, rfl, z1, -, -⟩
  have HZ := Lib.hid z1
  clear z1 HN4
  go_wp2_with fail
  go_ret3
  exact ⟨kb, c, x, o, rfl, HZ.out⟩
end Go.Proofs.YtakjbjokekbmbaaGreatDoor

/- Laws of a watch: watched: a watch of nobody is kicked. -/
namespace Go.Proofs.YtakjbjokekbmbaaGreatDoor
open Go.RowKit
set_option linter.unusedVariables false

def watchC0 : ConfV := ⟨1, 2, 2, 0, []⟩
theorem watchC0_fine : confF watchC0 = (0, -1) := by decide
theorem watchC0_q : QOk watchC0 := ⟨by decide, by decide, fun E hE => (by cases hE), fun E hE => (by cases hE)⟩
theorem watchC0_text : (textB watchC0).length ≤ 8000 := quiet_text watchC0_fine (fun E hE => by cases hE)
theorem kpState_on {M : KpM} (h : kpOn M = 0) : kpState M = ⟨#[111, 110]⟩ := by
  obtain ⟨h1, h2⟩ := kpOn_off h
  unfold kpState
  rw [h1, h2]; rfl
theorem kp0_q {C : ConfV} (q : QOk C) : QAt C (kp0 C) 0 := qAt_new q rfl blank_recs
theorem watch_kicks : (qDog watchC0 2).kicks = 1 ∧ (qDog watchC0 2).now = 2 := by decide
set_option maxRecDepth 100000 in
set_option maxHeartbeats 4000000 in
theorem watched_any (B : Nat) (sa : Nat → Addr) (w : World) (hS : SentsK B sa w) (hN : NumB B w) (hT : TabB w.heap.size w) :
    Calls Tryz.prog 5 #[] w fun e w' => e = .returned (.bool true) ∧ Below w.heap.size w w' := by
  have hq0 := kp0_q watchC0_q
  have hk0 := kp0_ok watchC0_fine
  obtain ⟨e1, hq1⟩ := hq0.tick watchC0_q (by decide)
  have hk1 := kpTick_ok hk0 (by decide)
  obtain ⟨e2, hq2⟩ := hq1.tick watchC0_q (by decide)
  have HSt := Lib.hid (fun (kb c : Nat) (x : KpX) (o : Nat → Nat) (W : World) (h : KpIn B sa w kb c (txtOf watchC0) x (kp0 watchC0) o W) => (by have := kpState_any h; rw [kpState_on hq0.on] at this; exact this : Calls Tryz.prog 15 #[.pointer (some ⟨kb, 0, none⟩)] W fun e w' => e = .returned (.string ⟨#[111, 110]⟩) ∧ W = w'))
  obtain ⟨M0, hM0⟩ : ∃ M0, M0 = kp0 watchC0 := ⟨_, rfl⟩
  rw [← hM0] at hq0 hk0 e1 hq1 hk1 e2 hq2 HSt
  obtain ⟨r1, hr1⟩ : ∃ r, r = kpTick M0 := ⟨_, rfl⟩
  have HT1 := Lib.hid (fun (kb c : Nat) (x : KpX) (o : Nat → Nat) (W : World) (h : KpIn B sa w kb c (txtOf watchC0) x M0 o W) => kpTick_any h hk0 (by decide))
  rw [← hr1] at e1 hq1 hk1 e2 hq2 HT1
  obtain ⟨q1, M1⟩ := r1
  simp only at e1 hq1 hk1 e2 hq2 HT1
  subst e1
  obtain ⟨r2, hr2⟩ : ∃ r, r = kpTick M1 := ⟨_, rfl⟩
  have HT2 := Lib.hid (fun (kb c : Nat) (x : KpX) (o : Nat → Nat) (W : World) (h : KpIn B sa w kb c (txtOf watchC0) x M1 o W) => kpTick_any h hk1 (by decide))
  rw [← hr2] at e2 hq2 HT2
  obtain ⟨q2, M2⟩ := r2
  simp only at e2 hq2 HT2
  subst e2
  have HKs := Lib.hid (fun (kb c : Nat) (x : KpX) (o : Nat → Nat) (W : World) (h : KpIn B sa w kb c (txtOf watchC0) x M2 o W) => (by have := dogKicks_any x.d M2.D W h.b.dog; rw [hq2.D, show (0 + 1 + 1 : Nat) = 2 from rfl, watch_kicks.1] at this; exact this : Calls Tryz.prog 18 #[.pointer (some ⟨x.d, 0, none⟩)] W fun e w' => e = .returned (.int .i64 1) ∧ W = w'))
  have HNw := Lib.hid (fun (kb c : Nat) (x : KpX) (o : Nat → Nat) (W : World) (h : KpIn B sa w kb c (txtOf watchC0) x M2 o W) => (by have := dogNow_any x.d M2.D W h.b.dog; rw [hq2.D, show (0 + 1 + 1 : Nat) = 2 from rfl, watch_kicks.2] at this; exact this : Calls Tryz.prog 17 #[.pointer (some ⟨x.d, 0, none⟩)] W fun e w' => e = .returned (.int .i64 2) ∧ W = w'))
  have HTo := Lib.hid (fun (kb c : Nat) (x : KpX) (o : Nat → Nat) (W : World) (h : KpIn B sa w kb c (txtOf watchC0) x M2 o W) => (by have := kpTotal_any h; rw [hq2.b.st] at this; exact this : Calls Tryz.prog 16 #[.pointer (some ⟨kb, 0, none⟩)] W fun e w' => e = .returned (.string ⟨#[111, 107]⟩) ∧ W = w'))
  have HNew := Lib.hid (fun (W : World) (c rb cap : Nat) (hW : Below w.heap.size w W) (hm : CellsAt W c rb (some ⟨rb, 0, none⟩) cap blank) (hc : w.heap.size ≤ c ∧ w.heap.size ≤ rb) =>
    (by
      have := kpNew_any B sa (fun _ => False) watchC0 (.slice none 0 0) [] w W c rb cap blank (hS.below hW) (hN.below hW hS.top) (fun W3 hW3 => hT W3 (hW.trans (hW3.mono hW.size))) ⟨⟨SlOf.nil _ _ _, fun x hx => by cases hx⟩, rfl, (fun x hx => by cases hx), by decide⟩ (fun _ h => h.elim) watchC0_fine watchC0_text hW hS.top hm hc (by rw [blank_len]; decide) rfl
      refine this.mono ?_
      rintro e w' ⟨kb, x, o, he, hk, -, -⟩
      rw [show kpOpen watchC0 ⟨watchC0.closed, watchC0.opn, 0, 0, false, 0⟩ blank = M0 from hM0.symm] at hk
      exact ⟨kb, x, o, he, hk⟩ : Calls Tryz.prog 26 #[.agg #[.int .i64 1, .int .i64 2, .int .i64 2, .int .i64 0, .slice none 0 0], .pointer (some ⟨c, 0, none⟩)] W fun e w' => ∃ kb x o, e = .returned (.tuple #[.pointer (some ⟨kb, 0, none⟩), .nilIface]) ∧ KpIn B sa w kb c (txtOf watchC0) x M0 o w'))
  unfold KpPost at HT1 HT2
  clear hS hN hT hq0 hk0 hq1 hk1 hq2 hM0 hr1 hr2
  have HCn := Lib.hid (cellsNew_blank w)
  go_enter Tryz.func5, Tryz.ntmps5
  go_wp2_with fail
  refine HCn.out.mono ?_
  rintro e w2 ⟨c, rb, cap, rfl, hm, hc, b2⟩
  have HN2 := Lib.hid (HNew.out w2 c rb cap b2 hm hc)
  clear hm hc b2 HCn HNew
  go_wp2_with fail
  refine HN2.out.mono ?_
  rintro e w3 ⟨kb, x, o, rfl, z⟩
  have HS3 := Lib.hid (HSt.out _ _ _ _ _ z)
  have HT3 := Lib.hid (HT1.out _ _ _ _ _ z)
  clear z HN2 HSt HT1
  go_wp2_with fail
  refine HS3.out.mono ?_
  rintro e w4 ⟨rfl, rfl⟩
  go_wp2_with fail
  refine HT3.out.mono ?_
  rintro e w4 ⟨rfl, x2, o2, z, -⟩
  have HT4 := Lib.hid (HT2.out _ _ _ _ _ z)
  clear z HS3 HT3 HT2
  rw [errv_zero]
  go_wp2_with fail
  refine HT4.out.mono ?_
  rintro e w5 ⟨rfl, x3, o3, z, -⟩
  have HK5 := Lib.hid (HKs.out _ _ _ _ _ z)
  have HN5 := Lib.hid (HNw.out _ _ _ _ _ z)
  have HT5 := Lib.hid (HTo.out _ _ _ _ _ z)
  obtain ⟨k0, k1, k2, k3, k4, k5, k6, k7, k8, k9, k10, kf⟩ := kp_cells z.box
  have HB := Lib.hid z.b.bel
  clear k1 k2 k3 k4 k5 k6 k7 k8 k9 k10 kf z HT4 HKs HNw HTo
  rw [errv_zero]
  go_wp2_with fail
  refine HK5.out.mono ?_
  rintro e w6 ⟨rfl, rfl⟩
  go_wp2_with fail
  refine HN5.out.mono ?_
  rintro e w6 ⟨rfl, rfl⟩
  go_wp2_with fail
  refine HT5.out.mono ?_
  rintro e w6 ⟨rfl, rfl⟩
  go_wp2_with fail
  go_ret
  exact ⟨rfl, HB.out⟩
end Go.Proofs.YtakjbjokekbmbaaGreatDoor
