/- Laws of a watch: fresh, watched. -/
import Derived.Test.YtakjbjokekbmbaaGreatDoorQ37
import Derived.Test.YtakjbjokekbmbaaGreatDoorQ45
import Derived.Test.YtakjbjokekbmbaaGreatDoorQ32
import Derived.Test.YtakjbjokekbmbaaGreatDoorQ35
import Derived.Test.YtakjbjokekbmbaaGreatDoorQ33
namespace Go.Proofs.YtakjbjokekbmbaaGreatDoor
open Go.RowKit
set_option linter.unusedVariables false

def blank : CM := ⟨List.replicate 4096 0, false, -1, 0⟩
theorem blank_len : blank.bs.length = 4096 := by show (List.replicate 4096 (0 : UInt8)).length = _; rw [List.length_replicate]
theorem blank_recs : recsOf blank.bs = [] := recs_zero 4096 (by decide)
theorem blank_inv : RInv blank.bs [] := rinv_zero 4096 (by decide)
theorem cellsNew_blank (w : World) : Calls Tryz.prog 25 #[.int .i64 4096] w fun e w' => ∃ c rb cap, e = .returned (.tuple #[.pointer (some ⟨c, 0, none⟩), .nilIface]) ∧ CellsAt w' c rb (some ⟨rb, 0, none⟩) cap blank ∧ (w.heap.size ≤ c ∧ w.heap.size ≤ rb) ∧ Below w.heap.size w w' := by
  refine (cellsNew_in 4096 w (Nat.le_refl _)).mono ?_
  rintro e w' ⟨rfl, h1, h2⟩
  exact ⟨_, _, _, rfl, h1, ⟨by omega, Nat.le_refl _⟩, h2⟩
def dog0 (C : ConfV) : DogM := ⟨C.closed, C.opn, 0, 0, false, 0⟩
def txtOf (C : ConfV) : ByteArray := ⟨(textB C).toArray⟩
/-- A watch that is begun. -/
def kp0 (C : ConfV) : KpM := kpOpen C (dog0 C) blank
theorem kp0_ok {C : ConfV} (hC : confF C = (0, -1)) : KpOk (kp0 C) 0 := by
  have hb := boundC_parts (confF_parts hC).1
  refine kpOpen_ok (confF_parts hC).1 (fun E hE => good_light (conf_good hC E hE)) ⟨hb.1, hb.2.1, hb.2.2.1, hb.2.2.2.1, ?_, ?_, ?_, ?_, ?_⟩ ?_ ?_ ⟨neg1_le.1, neg1_le.2, ?_, ?_⟩ blank_len blank_inv ?_ ?_
  all_goals (first | exact Int.le_refl (0 : Int) | (show (0 : Int) ≤ (1099511627776 : Int); omega) | (show (0 : Int) ≤ (1000000 : Int); omega) | (show (0 : Nat) ≤ _; omega) | decide)
def FreshPost (B : Nat) (sa : Nat → Addr) (C : ConfV) (w : World) (e : Ending) (w' : World) : Prop :=
  ∃ kb c x o, e = .returned (.tuple #[.pointer (some ⟨kb, 0, none⟩), .pointer (some ⟨c, 0, none⟩), .bool true]) ∧ KpIn B sa w kb c (txtOf C) x (kp0 C) o w'

theorem Tryz.fieldCode (a b : Int) (W : World) : (Instr.field 29 (.agg #[.int .i64 a, .int .i64 b]) 0).run Tryz.prog W = .ok (.int .i64 a) W := by kernel_rfl
set_option maxRecDepth 100000 in
set_option maxHeartbeats 4000000 in
theorem fresh_any (B : Nat) (sa : Nat → Addr) (R : Nat → Prop) (C : ConfV) (v : Value) (X : List EntX) (w : World) (hS : SentsK B sa w) (hN : NumB B w) (hT : TabB w.heap.size w) (h : ConfSl R w C v X) (hR : ∀ b, R b → b < w.heap.size) (hH : ¬ HeavyC X) (hC : confF C = (0, -1)) (h8 : (textB C).length ≤ 8000) :
    Calls Tryz.prog 10 #[.agg (confCs C v)] w (FreshPost B sa C w) := by
  have hfc := fun (a b : Int) (W : World) => Tryz.fieldCode a b W
  obtain ⟨ao, cap', rfl⟩ := h.sl.row.val
  have hxa := get_alloc_new w (.cells (confCs C (.slice ao X.length cap')) 24)
  have hba : Below w.heap.size w (w.alloc (.cells (confCs C (.slice ao X.length cap')) 24)) := (Below.refl _ _).alloc (Nat.le_refl _) _
  have HF := Lib.hid (fun W (hW : Below w.heap.size w W) => rConfigFault_any R C (.slice ao X.length cap') X W (h.below hW hR) (fun b hb => Nat.lt_of_lt_of_le (hR b hb) hW.size))
  rw [hC, show faultV ((0 : Nat), (-1 : Int)) = .agg #[.int .i64 0, .int .i64 (-1)] from rfl] at HF
  have HOw := Lib.hid (fun W (hW : Below w.heap.size w W) => ownConfig_any R C (.slice ao X.length cap') X W (h.below hW hR).sl (fun b hb => Nat.lt_of_lt_of_le (hR b hb) hW.size) hH)
  have HNw := Lib.hid (fun (W W' : World) (c rb cap a9 k9 Y) (hW : Below w.heap.size w W) (hW2 : Below W.heap.size W W') (hY : Y.map EntX.E = X.map EntX.E) (hX : OwnX W.heap.size W' (.slice a9 Y.length k9) Y) (hm : CellsAt W c rb (some ⟨rb, 0, none⟩) cap blank) (hc : w.heap.size ≤ c ∧ w.heap.size ≤ rb) =>
    kpNew_any B sa (fun b => W.heap.size ≤ b ∧ b < W'.heap.size) C (.slice a9 Y.length k9) Y w W' c rb cap blank (hS.below (hW.trans (hW2.mono hW.size))) (hN.below (hW.trans (hW2.mono hW.size)) hS.top) (fun W3 hW3 => hT W3 ((hW.trans (hW2.mono hW.size)).trans (hW3.mono (hW.trans (hW2.mono hW.size)).size)))
      ⟨hX.ents, by rw [h.eq, hY], fun y hy => by
        have : y.E ∈ X.map EntX.E := by rw [← hY]; exact List.mem_map_of_mem hy
        obtain ⟨x, hx, hxe⟩ := List.mem_map.1 this
        rw [← hxe]; exact h.small x hx, by have := congrArg List.length hY; rw [List.length_map, List.length_map] at this; have := h.len; omega⟩ (fun b hb => hb.2) hC h8 (hW.trans (hW2.mono hW.size)) hS.top (hm.keep (below_keep hW2) (fun _ h => h.elim)) hc (by rw [blank_len]; decide) rfl)
  clear hS hN hT h hR hH hC h8
  unfold confCs at hxa hba HF HOw HNw ⊢
  unfold FreshPost
  go_enter Tryz.func10, Tryz.ntmps10
  go_upto_region 1 with fail
  generalize w.alloc _ = w1 at hxa hba ⊢
  have HXA : Hid (w1.heap[w.heap.size]? = some (.cells (confCs C (.slice ao X.length cap')) 24)) := hxa
  have HBA := Lib.hid hba
  have HCn := Lib.hid (cellsNew_blank w1)
  clear hxa hba
  go_wp2_with fail
  refine HCn.out.mono ?_
  rintro e w2 ⟨c, rb, cap, rfl, hm, hc, b2⟩
  have HM := Lib.hid (And.intro hm (show w.heap.size ≤ c ∧ w.heap.size ≤ rb from by have := HBA.out.size; omega))
  have HX2 := Lib.hid (below_get b2 HXA.out (lt_of_get HXA.out))
  have HB2 := Lib.hid (HBA.out.trans (b2.mono HBA.out.size))
  obtain ⟨c0, c1, c2, c3, c4⟩ := conf_cells HX2.out
  have HF2 := Lib.hid (HF.out w2 HB2.out)
  clear hm hc b2 HXA HBA HCn HF
  go_wp2_with fail
  refine HF2.out.mono ?_
  rintro e w3 ⟨rfl, b3⟩
  have HM3 := Lib.hid (And.intro (HM.out.1.keep (below_keep b3) (fun _ h => h.elim)) HM.out.2)
  have HX3 := Lib.hid (below_get b3 HX2.out (lt_of_get HX2.out))
  have HB3 := Lib.hid (HB2.out.trans (b3.mono HB2.out.size))
  obtain ⟨d0, d1, d2, d3, d4⟩ := conf_cells HX3.out
  have HO3 := Lib.hid (HOw.out w3 HB3.out)
  clear c0 c1 c2 c3 c4 b3 HX2 HB2 HF2 HM HOw
  go_wp2_with fail
  refine HO3.out.mono ?_
  rintro e w4 ⟨a9, k9, Y, rfl, hY, hX, b4⟩
  have HN4 := Lib.hid (HNw.out w3 w4 c rb cap a9 k9 Y HB3.out b4 hY hX HM3.out.1 HM3.out.2)
  clear d0 d1 d2 d3 d4 hY hX b4 HNw HO3 HX3 HB3 HM3
  go_wp2_with fail
  refine HN4.out.mono ?_
  rintro e w5 ⟨kb, x, o, rfl, z1, -, -⟩
  have HZ := Lib.hid z1
  clear z1 HN4
  go_wp2_with fail
  go_ret3
  exact ⟨kb, c, x, o, rfl, HZ.out⟩
end Go.Proofs.YtakjbjokekbmbaaGreatDoor

/- Laws of a watch: watched: a watch of nobody is kicked. -/
namespace Go.Proofs.YtakjbjokekbmbaaGreatDoor
open Go.RowKit
set_option linter.unusedVariables false

def watchC0 : ConfV := ⟨1, 2, 2, 0, []⟩
theorem watchC0_fine : confF watchC0 = (0, -1) := by decide
theorem watchC0_q : QOk watchC0 := ⟨by decide, by decide, fun E hE => (by cases hE), fun E hE => (by cases hE)⟩
theorem watchC0_text : (textB watchC0).length ≤ 8000 := quiet_text watchC0_fine (fun E hE => by cases hE)
theorem kpState_on {M : KpM} (h : kpOn M = 0) : kpState M = ⟨#[111, 110]⟩ := by
  obtain ⟨h1, h2⟩ := kpOn_off h
  unfold kpState
  rw [h1, h2]; rfl
theorem kp0_q {C : ConfV} (q : QOk C) : QAt C (kp0 C) 0 := qAt_new q rfl blank_recs
theorem watch_kicks : (qDog watchC0 2).kicks = 1 ∧ (qDog watchC0 2).now = 2 := by decide
set_option maxRecDepth 100000 in
set_option maxHeartbeats 4000000 in
theorem watched_any (B : Nat) (sa : Nat → Addr) (w : World) (hS : SentsK B sa w) (hN : NumB B w) (hT : TabB w.heap.size w) :
    Calls Tryz.prog 5 #[] w fun e w' => e = .returned (.bool true) ∧ Below w.heap.size w w' := by
  have hq0 := kp0_q watchC0_q
  have hk0 := kp0_ok watchC0_fine
  obtain ⟨e1, hq1⟩ := hq0.tick watchC0_q (by decide)
  have hk1 := kpTick_ok hk0 (by decide)
  obtain ⟨e2, hq2⟩ := hq1.tick watchC0_q (by decide)
  have HSt := Lib.hid (fun (kb c : Nat) (x : KpX) (o : Nat → Nat) (W : World) (h : KpIn B sa w kb c (txtOf watchC0) x (kp0 watchC0) o W) => (by have := kpState_any h; rw [kpState_on hq0.on] at this; exact this : Calls Tryz.prog 15 #[.pointer (some ⟨kb, 0, none⟩)] W fun e w' => e = .returned (.string ⟨#[111, 110]⟩) ∧ W = w'))
  obtain ⟨M0, hM0⟩ : ∃ M0, M0 = kp0 watchC0 := ⟨_, rfl⟩
  rw [← hM0] at hq0 hk0 e1 hq1 hk1 e2 hq2 HSt
  obtain ⟨r1, hr1⟩ : ∃ r, r = kpTick M0 := ⟨_, rfl⟩
  have HT1 := Lib.hid (fun (kb c : Nat) (x : KpX) (o : Nat → Nat) (W : World) (h : KpIn B sa w kb c (txtOf watchC0) x M0 o W) => kpTick_any h hk0 (by decide))
  rw [← hr1] at e1 hq1 hk1 e2 hq2 HT1
  obtain ⟨q1, M1⟩ := r1
  simp only at e1 hq1 hk1 e2 hq2 HT1
  subst e1
  obtain ⟨r2, hr2⟩ : ∃ r, r = kpTick M1 := ⟨_, rfl⟩
  have HT2 := Lib.hid (fun (kb c : Nat) (x : KpX) (o : Nat → Nat) (W : World) (h : KpIn B sa w kb c (txtOf watchC0) x M1 o W) => kpTick_any h hk1 (by decide))
  rw [← hr2] at e2 hq2 HT2
  obtain ⟨q2, M2⟩ := r2
  simp only at e2 hq2 HT2
  subst e2
  have HKs := Lib.hid (fun (kb c : Nat) (x : KpX) (o : Nat → Nat) (W : World) (h : KpIn B sa w kb c (txtOf watchC0) x M2 o W) => (by have := dogKicks_any x.d M2.D W h.b.dog; rw [hq2.D, show (0 + 1 + 1 : Nat) = 2 from rfl, watch_kicks.1] at this; exact this : Calls Tryz.prog 18 #[.pointer (some ⟨x.d, 0, none⟩)] W fun e w' => e = .returned (.int .i64 1) ∧ W = w'))
  have HNw := Lib.hid (fun (kb c : Nat) (x : KpX) (o : Nat → Nat) (W : World) (h : KpIn B sa w kb c (txtOf watchC0) x M2 o W) => (by have := dogNow_any x.d M2.D W h.b.dog; rw [hq2.D, show (0 + 1 + 1 : Nat) = 2 from rfl, watch_kicks.2] at this; exact this : Calls Tryz.prog 17 #[.pointer (some ⟨x.d, 0, none⟩)] W fun e w' => e = .returned (.int .i64 2) ∧ W = w'))
  have HTo := Lib.hid (fun (kb c : Nat) (x : KpX) (o : Nat → Nat) (W : World) (h : KpIn B sa w kb c (txtOf watchC0) x M2 o W) => (by have := kpTotal_any h; rw [hq2.b.st] at this; exact this : Calls Tryz.prog 16 #[.pointer (some ⟨kb, 0, none⟩)] W fun e w' => e = .returned (.string ⟨#[111, 107]⟩) ∧ W = w'))
  have HNew := Lib.hid (fun (W : World) (c rb cap : Nat) (hW : Below w.heap.size w W) (hm : CellsAt W c rb (some ⟨rb, 0, none⟩) cap blank) (hc : w.heap.size ≤ c ∧ w.heap.size ≤ rb) =>
    (by
      have := kpNew_any B sa (fun _ => False) watchC0 (.slice none 0 0) [] w W c rb cap blank (hS.below hW) (hN.below hW hS.top) (fun W3 hW3 => hT W3 (hW.trans (hW3.mono hW.size))) ⟨⟨SlOf.nil _ _ _, fun x hx => by cases hx⟩, rfl, (fun x hx => by cases hx), by decide⟩ (fun _ h => h.elim) watchC0_fine watchC0_text hW hS.top hm hc (by rw [blank_len]; decide) rfl
      refine this.mono ?_
      rintro e w' ⟨kb, x, o, he, hk, -, -⟩
      rw [show kpOpen watchC0 ⟨watchC0.closed, watchC0.opn, 0, 0, false, 0⟩ blank = M0 from hM0.symm] at hk
      exact ⟨kb, x, o, he, hk⟩ : Calls Tryz.prog 26 #[.agg #[.int .i64 1, .int .i64 2, .int .i64 2, .int .i64 0, .slice none 0 0], .pointer (some ⟨c, 0, none⟩)] W fun e w' => ∃ kb x o, e = .returned (.tuple #[.pointer (some ⟨kb, 0, none⟩), .nilIface]) ∧ KpIn B sa w kb c (txtOf watchC0) x M0 o w'))
  unfold KpPost at HT1 HT2
  clear hS hN hT hq0 hk0 hq1 hk1 hq2 hM0 hr1 hr2
  have HCn := Lib.hid (cellsNew_blank w)
  go_enter Tryz.func5, Tryz.ntmps5
  go_wp2_with fail
  refine HCn.out.mono ?_
  rintro e w2 ⟨c, rb, cap, rfl, hm, hc, b2⟩
  have HN2 := Lib.hid (HNew.out w2 c rb cap b2 hm hc)
  clear hm hc b2 HCn HNew
  go_wp2_with fail
  refine HN2.out.mono ?_
  rintro e w3 ⟨kb, x, o, rfl, z⟩
  have HS3 := Lib.hid (HSt.out _ _ _ _ _ z)
  have HT3 := Lib.hid (HT1.out _ _ _ _ _ z)
  clear z HN2 HSt HT1
  go_wp2_with fail
  refine HS3.out.mono ?_
  rintro e w4 ⟨rfl, rfl⟩
  go_wp2_with fail
  refine HT3.out.mono ?_
  rintro e w4 ⟨rfl, x2, o2, z, -⟩
  have HT4 := Lib.hid (HT2.out _ _ _ _ _ z)
  clear z HS3 HT3 HT2
  rw [errv_zero]
  go_wp2_with fail
  refine HT4.out.mono ?_
  rintro e w5 ⟨rfl, x3, o3, z, -⟩
  have HK5 := Lib.hid (HKs.out _ _ _ _ _ z)
  have HN5 := Lib.hid (HNw.out _ _ _ _ _ z)
  have HT5 := Lib.hid (HTo.out _ _ _ _ _ z)
  obtain ⟨k0, k1, k2, k3, k4, k5, k6, k7, k8, k9, k10, kf⟩ := kp_cells z.box
  have HB := Lib.hid z.b.bel
  clear k1 k2 k3 k4 k5 k6 k7 k8 k9 k10 kf z HT4 HKs HNw HTo
  rw [errv_zero]
  go_wp2_with fail
  refine HK5.out.mono ?_
  rintro e w6 ⟨rfl, rfl⟩
  go_wp2_with fail
  refine HN5.out.mono ?_
  rintro e w6 ⟨rfl, rfl⟩
  go_wp2_with fail
  refine HT5.out.mono ?_
  rintro e w6 ⟨rfl, rfl⟩
  go_wp2_with fail
  go_ret
  exact ⟨rfl, HB.out⟩
end Go.Proofs.YtakjbjokekbmbaaGreatDoor

/- KeeperStops: its config in memory, its text, its watch step by step. -/
namespace Go.Proofs.YtakjbjokekbmbaaGreatDoor
open Go.RowKit
set_option linter.unusedVariables false

theorem stop_light (tol : Int) : ¬ Heavy (stopE tol) := by
  have e1 : (stopE tol).name.size = 1 := rfl
  have e2 : (stopE tol).points = [oneP] := rfl
  rintro (h | ⟨s, hs, h⟩)
  · unfold HTop at h
    rw [e1, e2] at h
    have e3 : (stopE tol).gaps = [] := rfl
    have e4 : (stopE tol).edges = [] := rfl
    have e5 : (stopE tol).first = [] := rfl
    have e6 : (stopE tol).last = [] := rfl
    rw [e3, e4, e5, e6] at h
    simp only [List.length_nil, List.length_cons] at h
    omega
  · rw [e2] at hs
    obtain rfl := List.mem_singleton.1 hs
    have : oneP.size = 1 := rfl
    omega
theorem stop_text {cl op cy de tol : Int} (hC : confF (stopC cl op cy de tol) = (0, -1)) : (textB (stopC cl op cy de tol)).length ≤ 8000 := by
  have hb := boundC_parts (confF_parts hC).1
  have hg := conf_good hC (stopE tol) (by simp [stopC])
  have ht := hg.tol
  have h5 := itoa_len tol ht.1 (by have := ht.2; show tol ≤ _; have h2 : tol ≤ 20 := this; omega)
  have i1 := itoa_len cl hb.1 (by have := hb.2.1; have h2 : cl ≤ 1000 := this; omega)
  have i2 := itoa_len op (by have := hb.2.2.1; have h2 : 1 ≤ op := this; omega) (by have := hb.2.2.2.1; have h2 : op ≤ 1000 := this; omega)
  have i3 := itoa_len cy (by have := hb.2.2.2.2.1; have h2 : 1 ≤ cy := this; omega) (by have := hb.2.2.2.2.2.1; have h2 : cy ≤ 100 := this; omega)
  have i4 := itoa_len de (by have := hb.2.2.2.2.2.2.1; exact this) (by have := hb.2.2.2.2.2.2.2.1; have h2 : de ≤ 20 := this; omega)
  have i5 := itoa_len 1 (by decide) (by decide)
  have hc : cntLn (stopE tol) = [[.str cntB, .str (nameAt (stopE tol) (stopE tol).count), .num (stopE tol).mn, .num (stopE tol).mx]] := if_pos (Int.le_refl 0)
  have hn : nameAt (stopE tol) (stopE tol).count = oneP := rfl
  have hent : (linesB (entLn (stopE tol))).length ≤ 400 := by
    rw [ent_lines, hc, line_ent, linesB_one, line_cnt, hn]
    show (_ ++ linesB ([oneP].map pntL) ++ _ ++ linesB ([].map (gapLn (stopE tol))) ++ linesB ([].map (edgLn (stopE tol))) ++ linesB ([].map (fstLn (stopE tol))) ++ linesB ([].map (lstLn (stopE tol)))).length ≤ _
    have hp : linesB ([oneP].map pntL) = lineB (pntL oneP) := by simp [linesB]
    rw [hp, line_pnt]
    simp only [List.length_append, List.length_cons, List.length_nil, List.map_nil, linesB, List.flatMap_nil]
    have o1 : oneP.data.toList.length = 1 := rfl
    have o2 : (stopE tol).name.data.toList.length = 1 := rfl
    have o3 : (stopE tol).tol = tol := rfl
    have o4 : (stopE tol).mn = 1 := rfl
    have o5 : (stopE tol).mx = 1 := rfl
    rw [o1, o2, o3, o4, o5]
    omega
  unfold textB
  rw [head_text]
  have he : (stopC cl op cy de tol).ents.flatMap (fun E => linesB (entLn E)) = linesB (entLn (stopE tol)) := by simp [stopC]
  rw [he]
  simp only [List.length_append, List.length_cons, List.length_nil]
  show _ + (Lib.itoa cl).length + _ + (Lib.itoa op).length + _ + (Lib.itoa cy).length + _ + (Lib.itoa de).length + _ + _ ≤ _
  omega
def stopX (tol : Int) (b : Nat) : EntX := ⟨stopE tol, .slice (some ⟨b, 0, none⟩) 1 1, .slice none 0 0, .slice none 0 0, .slice none 0 0, .slice none 0 0⟩
theorem stop_mem (w : World) (cl op cy de tol : Int) (W : World) (hW : W = ((w.alloc (.cells #[.int .i64 cl, .int .i64 op, .int .i64 cy, .int .i64 de, .slice (some ⟨w.heap.size + 1 + 1, 0, none⟩) 1 1] 24)).alloc (.cells #[.string ⟨#[112]⟩] 9)).alloc
    (.cells #[.string ⟨#[101]⟩, .int .i64 tol, .slice (some ⟨w.heap.size + 1, 0, none⟩) 1 1, .int .i64 0, .int .i64 1, .int .i64 1, .slice none 0 0, .slice none 0 0, .slice none 0 0, .slice none 0 0] 38)) :
    Below w.heap.size w W ∧ W.heap[w.heap.size]? = some (.cells (confCs (stopC cl op cy de tol) (.slice (some ⟨w.heap.size + 1 + 1, 0, none⟩) 1 1)) 24) ∧
    ConfSl (fun b => w.heap.size < b ∧ b < W.heap.size) W (stopC cl op cy de tol) (.slice (some ⟨w.heap.size + 1 + 1, 0, none⟩) 1 1) [stopX tol (w.heap.size + 1)] := by
  obtain ⟨w1, h1⟩ : ∃ w1, w1 = w.alloc (.cells #[.int .i64 cl, .int .i64 op, .int .i64 cy, .int .i64 de, .slice (some ⟨w.heap.size + 1 + 1, 0, none⟩) 1 1] 24) := ⟨_, rfl⟩
  have g1 := get_alloc_new w (.cells #[.int .i64 cl, .int .i64 op, .int .i64 cy, .int .i64 de, .slice (some ⟨w.heap.size + 1 + 1, 0, none⟩) 1 1] 24)
  rw [← h1] at g1 hW
  have s1 : w1.heap.size = w.heap.size + 1 := by rw [h1, World.size_alloc]
  obtain ⟨w2, h2⟩ : ∃ w2, w2 = w1.alloc (.cells #[.string ⟨#[112]⟩] 9) := ⟨_, rfl⟩
  have g2 := get_alloc_new w1 (.cells #[.string ⟨#[112]⟩] 9)
  have g12 := get_alloc_old (.cells #[.string ⟨#[112]⟩] 9) g1
  rw [← h2] at g2 g12 hW
  have s2 : w2.heap.size = w1.heap.size + 1 := by rw [h2, World.size_alloc]
  have g3 := get_alloc_new w2 (.cells #[.string ⟨#[101]⟩, .int .i64 tol, .slice (some ⟨w.heap.size + 1, 0, none⟩) 1 1, .int .i64 0, .int .i64 1, .int .i64 1, .slice none 0 0, .slice none 0 0, .slice none 0 0, .slice none 0 0] 38)
  have g13 := get_alloc_old (.cells #[.string ⟨#[101]⟩, .int .i64 tol, .slice (some ⟨w.heap.size + 1, 0, none⟩) 1 1, .int .i64 0, .int .i64 1, .int .i64 1, .slice none 0 0, .slice none 0 0, .slice none 0 0, .slice none 0 0] 38) g12
  have g23 := get_alloc_old (.cells #[.string ⟨#[101]⟩, .int .i64 tol, .slice (some ⟨w.heap.size + 1, 0, none⟩) 1 1, .int .i64 0, .int .i64 1, .int .i64 1, .slice none 0 0, .slice none 0 0, .slice none 0 0, .slice none 0 0] 38) g2
  have s3 : W.heap.size = w2.heap.size + 1 := by rw [hW, World.size_alloc]
  rw [← hW] at g3 g13 g23
  have bel : Below w.heap.size w W := by
    rw [hW, h2, h1]
    exact (((Below.refl _ _).alloc (Nat.le_refl _) _).alloc (by simp) _).alloc (by simp; omega) _
  rw [s2, s1] at g3
  rw [s1] at g23
  refine ⟨bel, g13, ⟨⟨?_, fun x hx => ?_⟩, rfl, fun x hx => ?_, by show 1 ≤ 1000; omega⟩⟩
  · refine ⟨rfl, _, _, rfl, Nat.le_refl _, by decide, (fun h => by cases h), fun _ => ⟨w.heap.size + 1 + 1, 0, rfl, ⟨by omega, by omega⟩, by omega, fun k u hu => ?_⟩⟩
    rw [Nat.zero_add, cell_of_row W _ k _ _ _ g3]
    have e : [stopX tol (w.heap.size + 1)].flatMap entXCells = [.string ⟨#[101]⟩, .int .i64 tol, .slice (some ⟨w.heap.size + 1, 0, none⟩) 1 1, .int .i64 0, .int .i64 1, .int .i64 1, .slice none 0 0, .slice none 0 0, .slice none 0 0, .slice none 0 0] := rfl
    rw [e] at hu
    simpa using hu
  · obtain rfl := List.mem_singleton.1 hx
    refine ⟨?_, SlOf.nil _ _ _, SlOf.nil _ _ _, SlOf.nil _ _ _, SlOf.nil _ _ _⟩
    refine ⟨rfl, _, _, rfl, Nat.le_refl _, by decide, (fun h => by cases h), fun _ => ⟨w.heap.size + 1, 0, rfl, ⟨by omega, by omega⟩, by omega, fun k u hu => ?_⟩⟩
    rw [Nat.zero_add, cell_of_row W _ k _ _ _ g23]
    have e : strCells1 (stopX tol (w.heap.size + 1)).E.points = [.string ⟨#[112]⟩] := rfl
    rw [e] at hu
    simpa using hu
  · obtain rfl := List.mem_singleton.1 hx
    exact ⟨by show 1 ≤ 1000; omega, by show 0 ≤ 1000; omega, by show 0 ≤ 1000; omega, by show 0 ≤ 1000; omega, by show 0 ≤ 1000; omega⟩
theorem stop_heavy (tol : Int) (b : Nat) : ¬ HeavyC [stopX tol b] := by
  rintro (h | ⟨x, hx, h⟩)
  · have : 12 < 1 := h
    omega
  · obtain rfl := List.mem_singleton.1 hx
    exact stop_light tol h

theorem coded3_any (B : Nat) (sa : Nat → Addr) (c : Nat) (hc : c ≤ 11) (d : Int) (w : World) (hS : Sents B sa w) :
    Calls Tryz.prog 21 #[errv sa c, .int .i64 d] w fun e w' => e = .returned (.bool (decide ((c : Int) = d))) ∧ Below w.heap.size w w' := by
  have HS := Lib.hid hS
  clear hS
  go_enter Tryz.func21, Tryz.ntmps21
  go_wp2_with fail
  refine (code_any B sa c hc w HS.out).mono ?_
  rintro e w' ⟨rfl, b1⟩
  by_cases h : (c : Int) = d
  · have hb : ((c : Int) == d) = true := by simp [h]
    have HH := Lib.hid h
    clear h
    go_wp2_with fail
    go_ret
    exact ⟨ret_bool (by simp [HH.out]), b1⟩
  · have hb : ((c : Int) == d) = false := by simp [h]
    have HH := Lib.hid h
    clear h
    go_wp2_with fail
    go_ret
    exact ⟨ret_bool (by simp [HH.out]), b1⟩

/-! ### The log that was told: it stays -/
structure LA (lb loff E : Nat) (o : Nat → Nat) (w : World) : Prop where
  c0 : w.cell? ⟨lb, loff, none⟩ = some (.int .i64 1)
  c1 : w.cell? ⟨lb, loff + 1, none⟩ = some (.int .i64 0)
  c2 : w.cell? ⟨lb, loff + 2, none⟩ = some (.int .i64 1)
  c3 : w.cell? ⟨lb, loff + 3, none⟩ = some (.int .i64 E)
  lt : lb < w.heap.size
  zero : o lb = 0
theorem LA.fr {lb loff E : Nat} {o o' : Nat → Nat} {w w' : World} (h : LA lb loff E o w) (f : Fr o o' w w') : LA lb loff E o' w' := by
  have hn : ¬ (fun b => o b ≠ 0) lb := fun hh => hh h.zero
  exact ⟨by rw [f.kp.cell (p := ⟨lb, loff, none⟩) h.lt hn]; exact h.c0, by rw [f.kp.cell (p := ⟨lb, loff + 1, none⟩) h.lt hn]; exact h.c1, by rw [f.kp.cell (p := ⟨lb, loff + 2, none⟩) h.lt hn]; exact h.c2, by rw [f.kp.cell (p := ⟨lb, loff + 3, none⟩) h.lt hn]; exact h.c3,
    Nat.lt_of_lt_of_le h.lt f.kp.size, by rw [f.agree lb h.lt]; exact h.zero⟩
theorem LA.below {lb loff E : Nat} {o : Nat → Nat} {w w' : World} (h : LA lb loff E o w) (b : Below w.heap.size w w') : LA lb loff E o w' := h.fr (Fr.below o b)
theorem la_of {B : Nat} {sa : Nat → Addr} {w0 : World} {kb c : Nat} {txt : ByteArray} {x : KpX} {M : KpM} {o : Nat → Nat} {w w' : World} {v : Value} {E : Nat} (h : KpIn B sa w0 kb c txt x M o w) (hv : SlOf (fun b => w.heap.size ≤ b) w' v 4 ([(⟨1, 0, 1, E⟩ : RecV)].flatMap recCells) 1) :
    ∃ lb loff cap, v = .slice (some ⟨lb, loff, none⟩) 1 cap ∧ LA lb loff E o w' := by
  obtain ⟨ao, cap, rfl⟩ := hv.val
  obtain ⟨lb, loff, rfl, hR, hl, hc⟩ := rec_cells (l := [(⟨1, 0, 1, E⟩ : RecV)]) hv Nat.one_pos
  obtain ⟨c0, c1, c2, c3⟩ := hc 0 Nat.one_pos
  rw [Nat.zero_mul, Nat.add_zero] at c0 c1 c2 c3
  have hz : o lb = 0 := by
    cases hz : o lb with
    | zero => rfl
    | succ z =>
      have := (h.b.low lb (by rw [hz]; exact Nat.succ_ne_zero z)).2
      omega
  exact ⟨lb, loff, cap, rfl, c0, c1, c2, c3, hl, hz⟩

/-! ### The watch -/
/-- Now, read off memory: a loop's measure. -/
def nowOf (kb : Nat) (w : World) : Nat := match w.cell? ⟨kb, 0, none⟩ with
  | some (.pointer (some a)) => match w.cell? ⟨a.block, 2, none⟩ with
    | some (.int _ n) => n.toNat
    | _ => 0
  | _ => 0
theorem nowOf_eq {B : Nat} {sa : Nat → Addr} {w0 : World} {kb c : Nat} {txt : ByteArray} {x : KpX} {M : KpM} {o : Nat → Nat} {w : World} (h : KpIn B sa w0 kb c txt x M o w) : nowOf kb w = M.D.now.toNat := by
  obtain ⟨k0, _⟩ := kp_cells h.box
  obtain ⟨_, _, d2, _⟩ := dog_cells h.b.dog
  unfold nowOf
  rw [k0]
  simp only
  rw [d2]
structure SSt (B : Nat) (sa : Nat → Addr) (wf : World) (kb c : Nat) (cl op cy de tol n : Nat) (x : KpX) (M : KpM) (o : Nat → Nat) (w : World) : Prop where
  k : KpIn B sa wf kb c (txtOf (stopC cl op cy de tol)) x M o w
  z : ZAt cl op cy de tol M n
  ok : KpOk M (2 * n)
/-- Reset: behind n ticks. -/
structure SRe (B : Nat) (sa : Nat → Addr) (wf : World) (kb c : Nat) (cl op cy de tol n : Nat) (x : KpX) (M : KpM) (o : Nat → Nat) (w : World) : Prop where
  k : KpIn B sa wf kb c (txtOf (stopC cl op cy de tol)) x M o w
  eC : M.C = stopC cl op cy de tol
  re : M.D.reset = true
  kicks : M.D.kicks = (zDog cl cy (zStops cy de tol) n).2
  off : M.m.off = false
  log : RInv M.m.bs (zLog tol cy (n / cy))
  ok : KpOk M (2 * n + 2)
section
variable {B : Nat} {sa : Nat → Addr} {wf : World} {kb c : Nat} {cl op cy de tol n : Nat} {x : KpX} {M : KpM} {o : Nat → Nat} {w : World}
theorem SSt.tick (h : SSt B sa wf kb c cl op cy de tol n x M o w) (q : ZOk cl op cy de tol) (hn : n ≤ 40000) (hr : ¬ cl + op < n + 1 - (zDog cl cy (zStops cy de tol) n).1) :
    Calls Tryz.prog 20 #[.pointer (some ⟨kb, 0, none⟩)] w fun e w' => e = .returned .nilIface ∧ ∃ x' M' o', SSt B sa wf kb c cl op cy de tol (n + 1) x' M' o' w' ∧ Fr o o' w w' := by
  refine (kpTick_any h.k h.ok (show 2 * n + 2 ≤ 100000 by omega)).mono ?_
  rintro e w' ⟨he, x', o', hk, hf⟩
  obtain ⟨h1, h2⟩ := h.z.tick q (by omega) hr
  rw [h1] at he
  exact ⟨he, x', _, o', ⟨hk, h2, kpTick_ok h.ok (show 2 * n + 2 ≤ 100000 by omega)⟩, hf⟩
theorem SSt.reset (h : SSt B sa wf kb c cl op cy de tol n x M o w) (hn : n ≤ 40000) (hr : cl + op < n + 1 - (zDog cl cy (zStops cy de tol) n).1) :
    Calls Tryz.prog 20 #[.pointer (some ⟨kb, 0, none⟩)] w fun e w' => e = .returned (errv sa 11) ∧ ∃ x' M' o', SRe B sa wf kb c cl op cy de tol n x' M' o' w' ∧ Fr o o' w w' := by
  refine (kpTick_any h.k h.ok (show 2 * n + 2 ≤ 100000 by omega)).mono ?_
  rintro e w' ⟨he, x', o', hk, hf⟩
  have h1 := h.z.reset (by omega) hr
  have h2 := kpTick_ok h.ok (show 2 * n + 2 ≤ 100000 by omega)
  rw [h1] at he hk h2
  exact ⟨he, x', _, o', ⟨hk, h.z.eC, rfl, rfl, h.z.off, h.z.log.1, h2⟩, hf⟩
theorem SSt.now (h : SSt B sa wf kb c cl op cy de tol n x M o w) : nowOf kb w = n ∧ M.D.now = (n : Int) := by
  rw [nowOf_eq h.k, h.z.D]
  exact ⟨Int.toNat_natCast n, rfl⟩
theorem SSt.below {w' : World} (h : SSt B sa wf kb c cl op cy de tol n x M o w) (b : Below w.heap.size w w') : SSt B sa wf kb c cl op cy de tol n x M o w' := ⟨h.k.below b, h.z, h.ok⟩
theorem zLog_early {tol cy n : Nat} (hc : 0 < cy) (h : n < (tol + 2) * cy) : zLog tol cy (n / cy) = [] := by
  unfold zLog
  rw [if_neg (fun hh => ?_)]
  have := (Nat.le_div_iff_mul_le hc).1 hh
  omega
theorem zLog_late {tol cy n : Nat} (hc : 0 < cy) (h : (tol + 2) * cy ≤ n) : zLog tol cy (n / cy) = [⟨1, 0, 1, (tol + 2) * cy⟩] := by
  unfold zLog
  rw [if_pos ((Nat.le_div_iff_mul_le hc).2 h)]
theorem zSt_mid {tol cy de n : Nat} (hc : 0 < cy) (h1 : (tol + 2) * cy ≤ n) (h2 : n < (tol + 2 + de) * cy) : (zSt tol de (n / cy)).2 = .expired := by
  have a1 := (Nat.le_div_iff_mul_le hc).2 h1
  have a2 := (Nat.div_lt_iff_lt_mul hc).2 h2
  unfold zSt
  rw [if_neg (by omega), if_pos (by omega)]
theorem zSt_late {tol cy de n : Nat} (hc : 0 < cy) (h2 : (tol + 2 + de) * cy ≤ n) : (zSt tol de (n / cy)).2 = .stopped := by
  have a2 := (Nat.le_div_iff_mul_le hc).2 h2
  unfold zSt
  rw [if_neg (by omega), if_neg (by omega)]
theorem zDog_const (n m : Nat) (h1 : zStops cy de tol ≤ n + 1) (h2 : zStops cy de tol ≤ m + 1) : zDog cl cy (zStops cy de tol) n = zDog cl cy (zStops cy de tol) m := by
  unfold zDog
  rw [show min n (zStops cy de tol - 1) = zStops cy de tol - 1 by omega, show min m (zStops cy de tol - 1) = zStops cy de tol - 1 by omega]
/-- Behind stops, i ticks later: not reset yet, or reset. -/
def L3 (B : Nat) (sa : Nat → Addr) (wf : World) (kb c : Nat) (cl op cy de tol lb loff E i : Nat) (w : World) : Prop :=
  (∃ x M o, SSt B sa wf kb c cl op cy de tol (zStops cy de tol + i) x M o w ∧ LA lb loff E o w ∧ zStops cy de tol + i - (zDog cl cy (zStops cy de tol) (zStops cy de tol)).1 ≤ cl + op) ∨
  (∃ n x M o, SRe B sa wf kb c cl op cy de tol n x M o w ∧ LA lb loff E o w ∧ zStops cy de tol ≤ n ∧ n ≤ 10000)
theorem SRe.on (h : SRe B sa wf kb c cl op cy de tol n x M o w) : kpOn M = 11 := by
  unfold kpOn
  rw [h.off, h.re]; rfl
theorem SRe.tick (h : SRe B sa wf kb c cl op cy de tol n x M o w) (hn : n ≤ 40000) :
    Calls Tryz.prog 20 #[.pointer (some ⟨kb, 0, none⟩)] w fun e w' => e = .returned (errv sa 11) ∧ ∃ x' o', SRe B sa wf kb c cl op cy de tol n x' M o' w' ∧ Fr o o' w w' := by
  have h1 : kpTick M = (11, M) := by
    unfold kpTick
    rw [h.on, if_pos (by decide)]
  refine (kpTick_any h.k h.ok (show 2 * n + 2 + 2 ≤ 100000 by omega)).mono ?_
  rintro e w' ⟨he, x', o', hk, hf⟩
  rw [h1] at he hk
  exact ⟨he, x', o', ⟨hk, h.eC, h.re, h.kicks, h.off, h.log, h.ok⟩, hf⟩
theorem SRe.begin (h : SRe B sa wf kb c cl op cy de tol n x M o w) :
    Calls Tryz.prog 11 #[.pointer (some ⟨kb, 0, none⟩), .int .i64 0] w fun e w' => e = .returned (errv sa 11) ∧ ∃ x' o', SRe B sa wf kb c cl op cy de tol n x' M o' w' ∧ Fr o o' w w' := by
  have h1 : kpBegin M 0 = (11, M) := by
    have h2 : kpAsk M 0 = 11 := by unfold kpAsk; rw [h.on, if_pos (by decide)]
    unfold kpBegin
    rw [h2, if_pos (by decide)]
  refine (kpBegin_any h.k h.ok 0).mono ?_
  rintro e w' ⟨he, x', o', hk, hf⟩
  rw [h1] at he hk
  exact ⟨he, x', o', ⟨hk, h.eC, h.re, h.kicks, h.off, h.log, h.ok⟩, hf⟩
theorem SRe.below {w' : World} (h : SRe B sa wf kb c cl op cy de tol n x M o w) (b : Below w.heap.size w w') : SRe B sa wf kb c cl op cy de tol n x M o w' := ⟨h.k.below b, h.eC, h.re, h.kicks, h.off, h.log, h.ok⟩
theorem SRe.state (h : SRe B sa wf kb c cl op cy de tol n x M o w) : kpState M = ⟨#[114, 101, 115, 101, 116]⟩ := by
  unfold kpState
  rw [h.off, h.re]; rfl
/-- Booted anew. -/
structure SBo (B : Nat) (sa : Nat → Addr) (wf : World) (kb c : Nat) (cl op cy de tol : Nat) (x : KpX) (N : KpM) (o : Nat → Nat) (w : World) : Prop where
  k : KpIn B sa wf kb c (txtOf (stopC cl op cy de tol)) x N o w
  on : kpOn N = 0
  off : N.m.off = false
  st : N.st = .ok
  L : N.L = [⟨1, 0, 1, (tol + 2) * cy⟩]
  ok : KpOk N (2 * 10001)
theorem SRe.boot (h : SRe B sa wf kb c cl op cy de tol n x M o w) (q : ZOk cl op cy de tol) (h1 : zStops cy de tol ≤ n) (h2 : n ≤ 10000) :
    Calls Tryz.prog 22 #[.pointer (some ⟨kb, 0, none⟩)] w fun e w' => e = .returned .nilIface ∧ ∃ x' N o', SBo B sa wf kb c cl op cy de tol x' N o' w' ∧ Fr o o' w w' := by
  have hb : kpBoot M = (0, kpOpen M.C (dogStart M.D) ⟨M.m.bs, false, -1, M.m.wr⟩) := by
    unfold kpBoot
    rw [if_neg (by rw [h.on]; decide)]
  have ho := kpBoot_ok h.ok
  refine (kpBoot_any h.k h.ok).mono ?_
  rintro e w' ⟨he, x', o', hk, hf⟩
  rw [hb] at he hk ho
  refine ⟨he, x', _, o', ⟨hk, rfl, rfl, rfl, ?_, ho.up (by omega) (by omega)⟩, hf⟩
  rw [kpOpen_L]
  have hr := rinv_recs h.log
  have hl : zLog tol cy (n / cy) = [⟨1, 0, 1, (tol + 2) * cy⟩] := zLog_late q.c0 (Nat.le_trans (by unfold zStops; exact Nat.mul_le_mul_right _ (by omega)) h1)
  rw [hl] at hr
  exact hr
theorem zAt_new (q : ZOk cl op cy de tol) : ZAt cl op cy de tol (kpSet (kp0 (stopC cl op cy de tol)) 0 (some (locBegin (stopE tol)))) 0 := by
  rw [zLoc_begin (by omega)]
  have h0 : (0 : Nat) / cy = 0 := Nat.zero_div cy
  have hz : zDog cl cy (zStops cy de tol) 0 = (0, 0) := by unfold zDog; rw [Nat.zero_min]; rfl
  refine ⟨rfl, ?_, rfl, rfl, rfl, by rw [h0]; rfl, ?_, ?_, blank_len, 0, neg1_le.1, neg1_le.2, Int.le_refl (0 : Int), Int.le_refl (0 : Int)⟩
  · rw [hz]; rfl
  · rw [h0]
    unfold zSt
    rw [if_pos (by omega), if_pos (by decide)]; rfl
  · rw [h0]
    have hl : zLog tol cy 0 = [] := if_neg (by omega)
    rw [hl]
    refine ⟨blank_inv, ?_⟩
    show (kp0 (stopC cl op cy de tol)).L = []
    unfold kp0
    rw [kpOpen_L]; exact blank_recs
end
end Go.Proofs.YtakjbjokekbmbaaGreatDoor
