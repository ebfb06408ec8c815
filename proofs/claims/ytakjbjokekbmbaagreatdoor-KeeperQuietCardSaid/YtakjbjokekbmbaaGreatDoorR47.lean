/- KeeperQuiet walked: for every config, every acts and every number the call returns true. -/
import Derived.Test.YtakjbjokekbmbaaGreatDoorR46
import Derived.Test.YtakjbjokekbmbaaGreatDoorR29
import Derived.Deep.CutBlock
namespace Go.Proofs.YtakjbjokekbmbaaGreatDoor
open Go.RowKit
set_option linter.unusedVariables false

theorem s2_of {ah : List ByteArray} {E : EntV} (h : entErr ah E = 0) : s2W E = false := by
  cases hs : s2W E
  · rfl
  · exfalso
    unfold entErr at h
    by_cases c0 : isNameB E.name = false
    · rw [if_pos c0] at h; cases h
    rw [if_neg c0] at h
    by_cases c1 : hasStr ah E.name = true
    · rw [if_pos c1] at h; cases h
    rw [if_neg c1] at h
    by_cases c2 : topW E = true
    · rw [if_pos c2] at h; cases h
    rw [if_neg c2] at h
    by_cases c3 : fstW E = true
    · rw [if_pos c3] at h; cases h
    rw [if_neg c3] at h
    by_cases c4 : ptsE E.points ≠ 0
    · rw [if_pos c4] at h; exact c4 h
    rw [if_neg c4] at h
    by_cases c5 : cntW E = true
    · rw [if_pos c5] at h; cases h
    rw [if_neg c5] at h
    by_cases c6 : strangeB E = true
    · rw [if_pos c6] at h; cases h
    rw [if_neg c6] at h
    by_cases c7 : cmmW E = true
    · rw [if_pos c7] at h; cases h
    rw [if_neg c7] at h
    by_cases c8 : rngW E = true
    · rw [if_pos c8] at h; cases h
    rw [if_neg c8] at h
    by_cases c9 : E.gaps.any gapWrong = true
    · rw [if_pos c9] at h; cases h
    rw [if_neg c9] at h
    by_cases c10 : edgesTwice E.edges = true
    · rw [if_pos c10] at h; cases h
    rw [if_neg c10] at h
    by_cases c11 : twiceB E.first = true
    · rw [if_pos c11] at h; cases h
    rw [if_neg c11] at h
    by_cases c12 : twiceB E.last = true
    · rw [if_pos c12] at h; cases h
    rw [if_neg c12] at h
    by_cases c13 : s1W E = true
    · rw [if_pos c13] at h; cases h
    rw [if_neg c13] at h
    rw [if_pos hs] at h; cases h
theorem small_ofK {X : List EntX} (hH : ¬ HeavyC X) : ∀ y ∈ X, EntSmall y.E := by
  intro y hy
  have hl := light_of (fun hh => hH (.inr ⟨y, hy, hh⟩))
  obtain ⟨l1, l2, l3, l4, l5⟩ := hl
  exact ⟨by omega, by omega, by omega, by omega, by omega⟩
theorem quiet_of {C : ConfV} (hC : confF C = (0, -1)) (h : ∀ E ∈ C.ents, quietB E = true) : QOk C := by
  have hp := confF_parts hC
  refine ⟨hp.1, by have := hp.2.1; omega, fun E hE => ?_, fun E hE => (conf_good hC E hE).tol.1⟩
  have hq := h E hE
  simp only [quietB, Bool.and_eq_true, decide_eq_true_eq] at hq
  obtain ⟨⟨q1, q2⟩, q3⟩ := hq
  obtain ⟨i, hi, hEi⟩ := List.getElem_of_mem hE
  have h0 := hp.2.2 i hi
  rw [entAt_at hi, hEi] at h0
  have h2 := s2_of h0
  simp only [s2W, decide_eq_false_iff_not] at h2
  exact ⟨q1, List.eq_nil_of_length_eq_zero q2, List.eq_nil_of_length_eq_zero q3, List.eq_nil_of_length_eq_zero (by omega), List.eq_nil_of_length_eq_zero (by omega)⟩

/-- Behind some of the acts. -/
structure QSt (B : Nat) (sa : Nat → Addr) (wf : World) (kb c : Nat) (C : ConfV) (n : Nat) (x : KpX) (M : KpM) (o : Nat → Nat) (w : World) : Prop where
  k : KpIn B sa wf kb c (txtOf C) x M o w
  q : QAt C M n
  ok : KpOk M (2 * n)
def QPost (B : Nat) (sa : Nat → Addr) (wf : World) (kb c : Nat) (C : ConfV) (n : Nat) (e : Ending) (w' : World) : Prop := ∃ q x o M, e = .returned (errv sa q) ∧ QSt B sa wf kb c C n x M o w'
section
variable {B : Nat} {sa : Nat → Addr} {wf : World} {kb c : Nat} {C : ConfV} {n : Nat} {x : KpX} {M : KpM} {o : Nat → Nat} {w : World}
theorem QSt.below {w' : World} (h : QSt B sa wf kb c C n x M o w) (b : Below w.heap.size w w') : QSt B sa wf kb c C n x M o w' := ⟨h.k.below b, h.q, h.ok⟩
theorem QSt.begin (h : QSt B sa wf kb c C n x M o w) (q : QOk C) (i : Int) : Calls Tryz.prog 11 #[.pointer (some ⟨kb, 0, none⟩), .int .i64 i] w (QPost B sa wf kb c C n) :=
  (kpBegin_any h.k h.ok i).mono fun e w' ⟨he, x', o', hk, _⟩ => ⟨_, x', o', _, he, hk, h.q.begin q i, kpBegin_ok h.ok i⟩
theorem QSt.stop (h : QSt B sa wf kb c C n x M o w) (i : Int) : Calls Tryz.prog 12 #[.pointer (some ⟨kb, 0, none⟩), .int .i64 i] w (QPost B sa wf kb c C n) :=
  (kpStop_any h.k h.ok i).mono fun e w' ⟨he, x', o', hk, _⟩ => ⟨_, x', o', _, he, hk, h.q.stop i, kpStop_ok h.ok i⟩
theorem QSt.report (h : QSt B sa wf kb c C n x M o w) (q : QOk C) (i p : Int) : Calls Tryz.prog 13 #[.pointer (some ⟨kb, 0, none⟩), .int .i64 i, .int .i64 p] w (QPost B sa wf kb c C n) :=
  (kpReport_any h.k h.ok i p).mono fun e w' ⟨he, x', o', hk, _⟩ => ⟨_, x', o', _, he, hk, h.q.report q i p, kpReport_ok h.ok i p⟩
theorem QSt.ticks (h : QSt B sa wf kb c C n x M o w) (q : QOk C) (k : Int) (hn : n + k.toNat ≤ 40000) :
    Calls Tryz.prog 14 #[.pointer (some ⟨kb, 0, none⟩), .int .i64 k] w fun e w' => e = .returned .nilIface ∧ ∃ x o M, QSt B sa wf kb c C (n + k.toNat) x M o w' := by
  refine (ticks_any h.k h.ok k (by omega)).mono ?_
  rintro e w' ⟨he, x', o', hk, _⟩
  obtain ⟨h1, h2⟩ := h.q.ticks q k.toNat (by omega)
  rw [h1] at he
  have := kpTicks_ok h.ok k.toNat (by omega)
  exact ⟨he, x', o', _, hk, h2, by rw [show 2 * (n + k.toNat) = 2 * n + 2 * k.toNat by omega]; exact this⟩
end

theorem lawK_kicks {closed cycle : Nat} : ∀ m, (lawK closed cycle m).2 ≤ m
  | 0 => Nat.le_refl _
  | m + 1 => by
    have := lawK_kicks (closed := closed) (cycle := cycle) m
    rw [lawK]
    split
    · show (lawK closed cycle m).2 + 1 ≤ m + 1; omega
    · omega
theorem div_at {N m c : Nat} (h1 : m * c ≤ N) (h2 : N < (m + 1) * c) : N / c = m := Nat.div_eq_of_lt_le h1 h2
def beginS : List UInt8 := [98, 101, 103, 105, 110]
def stopS : List UInt8 := [115, 116, 111, 112]
def reportS : List UInt8 := [114, 101, 112, 111, 114, 116]
theorem actT_not {a : KAct} (h : a.kind.toList ≠ tickS) : actT a = 0 := if_neg h
set_option maxRecDepth 100000 in
set_option maxHeartbeats 8000000 in
theorem keeperQuiet_any (B : Nat) (sa : Nat → Addr) (R : Nat → Prop) (C : ConfV) (v va : Value) (X : List EntX) (L : List KAct) (n : Int) (w : World) (hS : SentsK B sa w) (hN : NumB B w) (hT : TabB w.heap.size w) (h : EntsSl R w v X) (hE : C.ents = X.map EntX.E) (hR : ∀ b, R b → b < w.heap.size) (hL : SlOf (· < w.heap.size) w va 4 (L.flatMap kactCs) L.length) :
    Calls Tryz.prog 3 #[.agg (confCs C v), va, .int .i64 n] w fun e w' => e = .returned (.bool true) ∧ Below w.heap.size w w' := by
  have hfc := fun (a b : Int) (W : World) => Tryz.fieldCode a b W
  obtain ⟨ao, cap, rfl⟩ := h.row.val
  obtain ⟨hc1, hc2⟩ := h.row.capB
  obtain ⟨al, cl, rfl⟩ := hL.val
  obtain ⟨hl1, hl2⟩ := hL.capB
  have hxa := get_alloc_new w (.cells (confCs C (.slice ao X.length cap)) 24)
  have hba : Below w.heap.size w (w.alloc (.cells (confCs C (.slice ao X.length cap)) 24)) := (Below.refl _ _).alloc (Nat.le_refl _) _
  have HWa := Lib.hid (fun W (hW : Below w.heap.size w W) => watched_any B sa W (hS.low hW hS.top) (hN.below hW hS.top) (fun W' hW' => hT W' (hW.trans (hW'.mono hW.size))))
  have HHv := Lib.hid (fun W (hW : Below w.heap.size w W) => heavyConfig_any R C (.slice ao X.length cap) X W (h.keep (Keep.of_below hW) (fun b hb hS => by have := hR b hb; omega)) (below_lt2 hR hW))
  have HAf := Lib.hid (fun W (hW : Below w.heap.size w W) => actsFit_any _ L (.slice al L.length cl) 60 W (hL.below hW (fun b hb => hb)))
  have HL := Lib.hid hL
  have HRw := Lib.hid hR
  have H := Lib.hid h
  have HSN := Lib.hid (And.intro hS (And.intro hN hT))
  have HCE := Lib.hid hE
  clear hS hN hT h hE hR hL
  unfold confCs at hxa hba ⊢
  go_enter Tryz.func3, Tryz.ntmps3
  go_upto_region 1 with fail
  generalize w.alloc _ = w1 at hxa hba ⊢
  have HXA : Hid (w1.heap[w.heap.size]? = some (.cells (confCs C (.slice ao X.length cap)) 24)) := hxa
  have HBA := Lib.hid hba
  have HW1 := Lib.hid (HWa.out w1 hba)
  clear hxa hba HWa
  go_wp2_with fail
  refine HW1.out.mono ?_
  rintro e w2 ⟨rfl, b2⟩
  have HX2 := Lib.hid (below_get b2 HXA.out (lt_of_get HXA.out))
  have HB2 := Lib.hid (HBA.out.trans (b2.mono HBA.out.size))
  obtain ⟨c0, c1, c2, c3, c4⟩ := conf_cells HX2.out
  have HH2 := Lib.hid (HHv.out w2 HB2.out)
  unfold confCs at HH2
  clear b2 HXA HBA HW1 HHv
  by_cases hH : HeavyC X
  · rw [heavyCN_pos hH] at HH2
    clear hH
    go_wp2_with fail
    refine HH2.out.mono ?_
    rintro e w3 ⟨rfl, b3⟩
    have HB3 := Lib.hid (HB2.out.trans (b3.mono HB2.out.size))
    clear b3 HB2
    go_wp2_with fail
    go_ret
    exact ⟨rfl, HB3.out⟩
  rw [heavyCN_neg hH] at HH2
  have HNH := Lib.hid hH
  have HCS := Lib.hid (fun W (hB : Below w.heap.size w W) => (show ConfSl R W C (.slice ao X.length cap) X from ⟨H.out.keep (Keep.of_below hB) (fun b hb hS => by have := HRw.out b hb; omega), HCE.out, small_ofK HNH.out, by have := Nat.le_of_not_lt (fun hh => HNH.out (.inl hh)); omega⟩))
  clear hH
  go_wp2_with fail
  refine HH2.out.mono ?_
  rintro e w3 ⟨rfl, b3⟩
  have HX3 := Lib.hid (below_get b3 HX2.out (lt_of_get HX2.out))
  have HB3 := Lib.hid (HB2.out.trans (b3.mono HB2.out.size))
  clear b3 HX2 HB2 HH2 c0 c1 c2 c3 c4
  obtain ⟨c0, c1, c2, c3, c4⟩ := conf_cells HX3.out
  have HCf := Lib.hid (rConfigFault_any R C (.slice ao X.length cap) X w3 (HCS.out w3 HB3.out) (below_lt2 HRw.out HB3.out))
  obtain ⟨fc, fi, hcf⟩ : ∃ fc fi, confF C = (fc, fi) := ⟨_, _, rfl⟩
  rw [hcf, show faultV (fc, fi) = .agg #[.int .i64 (fc : Int), .int .i64 fi] from rfl] at HCf
  unfold confCs at HCf
  have HCF := Lib.hid hcf
  clear hcf
  go_wp2_with fail
  refine HCf.out.mono ?_
  rintro e w4 ⟨rfl, b4⟩
  have HX4 := Lib.hid (below_get b4 HX3.out (lt_of_get HX3.out))
  have HB4 := Lib.hid (HB3.out.trans (b4.mono HB3.out.size))
  clear b4 HX3 HB3 HCf c0 c1 c2 c3 c4
  by_cases hz : 0 < fc
  · have hzI : (0 : Int) < fc := by omega
    clear hz
    go_wp2_with fail
    go_ret
    exact ⟨rfl, HB4.out⟩
  have hf0 : fc = 0 := by omega
  have hC0 : confF C = (0, -1) := kconfF_zero (by rw [HCF.out]; exact hf0)
  have HC0 := Lib.hid hC0
  rw [hf0]
  have HA4 := Lib.hid (HAf.out w4 HB4.out)
  unfold FitPost at HA4
  clear hz hf0 hC0 HCF HAf
  go_wp2_with fail
  refine HA4.out.mono ?_
  rintro e w5 ⟨fb, rfl, hfit, b5⟩
  have HX5 := Lib.hid (below_get b5 HX4.out (lt_of_get HX4.out))
  have HB5 := Lib.hid (HB4.out.trans (b5.mono HB4.out.size))
  have HFit := Lib.hid hfit
  clear b5 HX4 HB4 HA4 hfit
  cases fb with
  | false =>
    go_wp2_with fail
    go_ret
    exact ⟨rfl, HB5.out⟩
  | true =>
  by_cases hn0 : n < 0
  · skip
    go_wp2_with fail
    go_ret
    exact ⟨rfl, HB5.out⟩
  by_cases hn1 : 2000 < n
  · skip
    go_wp2_with fail
    go_ret
    exact ⟨rfl, HB5.out⟩
  have HFt := Lib.hid (HFit.out rfl)
  have HNn := Lib.hid (show 0 ≤ n ∧ n ≤ 2000 from by omega)
  go_upto_region 4 with fail
  clear hn0 hn1 HFit
  go_wp2_with fail
  go_loopw [8] (fun s wr => ∃ (i : Nat), i ≤ X.length ∧ s = .int .i64 i ∧ Hid (Below w.heap.size w wr) ∧ Hid (wr.heap[w.heap.size]? = some (.cells (confCs C (.slice ao X.length cap)) 24)) ∧ Hid (∀ (j : Nat) (y : EntX), j < i → X[j]? = some y → quietB y.E = true)) (fun s _ => X.length - (intOf s).toNat)
  case atStart => exact ⟨0, Nat.zero_le _, rfl, HB5, HX5, Lib.hid (fun j y h => by omega)⟩
  case round =>
    obtain ⟨i, hi, rfl, hb, hx, hq⟩ := hrel
    rename World => wf
    obtain ⟨c0, c1, c2, c3, c4⟩ := conf_cells hx.out
    clear HB5 HX5
    by_cases hlt : i < X.length
    · have hli : (i : Int) < X.length := by omega
      obtain ⟨b, off, rfl, hRb, hbl, hc⟩ := ent_elem H.out.row (by omega)
      obtain ⟨q0, q1, q2, q3, q4, q5, q6, q7, q8, q9⟩ := hc i hlt
      rw [← hb.out.cell hbl] at q0 q1 q2 q3 q4 q5 q6 q7 q8 q9
      obtain ⟨y, hy⟩ : ∃ y, y = X[i] := ⟨_, rfl⟩
      rw [← hy] at q0 q1 q2 q3 q4 q5 q6 q7 q8 q9
      have hyi : X[i]? = some y := by rw [List.getElem?_eq_getElem hlt, hy]
      have HQu := Lib.hid (quiet_any R y.E y.p y.g y.e y.f y.l wf ((H.out.each y (by rw [hy]; exact List.getElem_mem hlt)).keep (Keep.of_below hb.out) (fun b hb hS => by have := HRw.out b hb; omega)))
      have hEs := H.out.each y (by rw [hy]; exact List.getElem_mem hlt)
      obtain ⟨pa, pc, hvp⟩ := hEs.p.val
      obtain ⟨ga, gc, hvg⟩ := hEs.g.val
      obtain ⟨ea, ec, hve2⟩ := hEs.e.val
      obtain ⟨fa, fc, hvf⟩ := hEs.f.val
      obtain ⟨la, lc, hvl⟩ := hEs.l.val
      rw [hvp] at q2
      rw [hvg] at q6
      rw [hve2] at q7
      rw [hvf] at q8
      rw [hvl] at q9
      rw [hvp, hvg, hve2, hvf, hvl] at HQu
      have HYI := Lib.hid hyi
      unfold entCs at HQu
      clear hc hy hyi hEs hvp hvg hve2 hvf hvl hRb
      go_wp2_with fail
      refine HQu.out.mono ?_
      rintro e w6 ⟨rfl, b6⟩
      have HB6 := Lib.hid (hb.out.trans (b6.mono hb.out.size))
      have HX6 := Lib.hid (below_get b6 hx.out (lt_of_get hx.out))
      clear q0 q1 q2 q3 q4 q5 q6 q7 q8 q9 b6 hb hx HQu c0 c1 c2 c3 c4
      cases hqb : quietB y.E with
      | false =>
        clear hqb
        go_wp2_with fail
        go_ret
        exact ⟨rfl, HB6.out⟩
      | true =>
        have HQ6 := Lib.hid (show ∀ (j : Nat) (z : EntX), j < i + 1 → X[j]? = some z → quietB z.E = true from fun j z hj hz => by
          by_cases hji : j = i
          · rw [hji, HYI.out] at hz
            obtain rfl := Option.some.inj hz
            exact hqb
          · exact hq.out j z (by omega) hz)
        clear hqb hq
        go_wp2_with fail
        go_roundw
        case rel => exact ⟨i + 1, by omega, by go_num, HB6, HX6, HQ6⟩
        case measure => simp [intOf]; omega
    · have hli : ¬ (i : Int) < X.length := by omega
      have hqo : QOk C := quiet_of HC0.out (fun E hE => by
        rw [HCE.out] at hE
        obtain ⟨y, hy, rfl⟩ := List.mem_map.1 hE
        obtain ⟨j, hj, e⟩ := List.mem_iff_getElem.1 hy
        exact hq.out j y (by omega) (by rw [List.getElem?_eq_getElem hj, e]))
      have HQO := Lib.hid hqo
      have hbs := hb.out.size
      have HFr := Lib.hid (fresh_any B sa R C (.slice ao X.length cap) X wf (HSN.out.1.low hb.out HSN.out.1.top) (HSN.out.2.1.below hb.out HSN.out.1.top) (fun W' hW' => HSN.out.2.2 W' (hb.out.trans (hW'.mono hbs))) (HCS.out wf hb.out) (below_lt2 HRw.out hb.out) HNH.out HC0.out (quiet_text HC0.out hqo.q))
      unfold FreshPost at HFr
      unfold confCs at HFr
      clear hqo hbs hq
      go_wp2_with fail
      refine HFr.out.mono ?_
      rintro e wq ⟨kb, c, x, o, rfl, hk⟩
      have hst : QSt B sa wf kb c C 0 x (kp0 C) o wq := ⟨hk, kp0_q HQO.out, kp0_ok HC0.out⟩
      have HST := Lib.hid hst
      clear hst hk HFr c0 c1 c2 c3 c4
      go_wp2_with fail
      go_loopw [13] (fun s wt => ∃ (i : Nat) (x' : KpX) (o' : Nat → Nat) (M' : KpM), i ≤ L.length ∧ s = .int .i64 i ∧ Hid (QSt B sa wf kb c C (sumT (L.take i)) x' M' o' wt)) (fun s _ => L.length - (intOf s).toNat)
      case atStart => exact ⟨0, x, o, kp0 C, Nat.zero_le _, rfl, HST⟩
      case round =>
        obtain ⟨i, x1, o1, M1, hi, rfl, hst⟩ := hrel
        clear HST
        have hbt : Below w.heap.size w wr := hb.out.trans (hst.out.k.b.bel.mono hb.out.size)
        by_cases hlt : i < L.length
        · have hli : (i : Int) < L.length := by omega
          obtain ⟨ab, aoff, rfl, _, habl, hac⟩ := kact_elem HL.out (by omega)
          obtain ⟨q0, q1, q2, q3⟩ := hac i hlt
          rw [← hbt.cell habl] at q0 q1 q2 q3
          have hsm := sumT_take L (i + 1)
          have hsu := sumT_succ hlt
          have hfs := HFt.out.sum
          obtain ⟨a, ha⟩ : ∃ a, a = L[i] := ⟨_, rfl⟩
          rw [← ha] at q0 q1 q2 q3 hsu
          have HA := Lib.hid ha
          clear hac hbt ha
          by_cases h1 : a.kind.toList = beginS
          · have t1 : (a.kind.toList == [98, 101, 103, 105, 110]) = true := by rw [h1]; rfl
            have hat : actT L[i] = 0 := by rw [← HA.out]; exact actT_not (by rw [h1]; decide)
            have HBg := Lib.hid (hst.out.begin HQO.out a.e)
            have HAT := Lib.hid hat
            unfold QPost at HBg
            clear h1 hat hst hsm hsu hfs
            go_wp2_with fail
            refine HBg.out.mono ?_
            rintro e wz ⟨q, x2, o2, M2, rfl, hst2⟩
            have st2 := Lib.hid hst2
            clear hst2 q0 q1 q2 q3
            go_wp2_with fail
            have hs1 : sumT (L.take (i + 1)) = sumT (L.take i) := by rw [sumT_succ hlt, HAT.out]; rfl
            go_roundw
            case rel => exact ⟨i + 1, x2, o2, M2, by omega, by go_num, Lib.hid (by rw [hs1]; exact st2.out)⟩
            case measure => simp [intOf]; omega
          have t1 : (a.kind.toList == [98, 101, 103, 105, 110]) = false := beq_eq_false_iff_ne.2 h1
          clear h1
          by_cases h2 : a.kind.toList = stopS
          · have t2 : (a.kind.toList == [115, 116, 111, 112]) = true := by rw [h2]; rfl
            have hat : actT L[i] = 0 := by rw [← HA.out]; exact actT_not (by rw [h2]; decide)
            have HBg := Lib.hid (hst.out.stop a.e)
            have HAT := Lib.hid hat
            unfold QPost at HBg
            clear h2 hat hst hsm hsu hfs
            go_wp2_with fail
            refine HBg.out.mono ?_
            rintro e wz ⟨q, x2, o2, M2, rfl, hst2⟩
            have st2 := Lib.hid hst2
            clear hst2 q0 q1 q2 q3
            go_wp2_with fail
            have hs1 : sumT (L.take (i + 1)) = sumT (L.take i) := by rw [sumT_succ hlt, HAT.out]; rfl
            go_roundw
            case rel => exact ⟨i + 1, x2, o2, M2, by omega, by go_num, Lib.hid (by rw [hs1]; exact st2.out)⟩
            case measure => simp [intOf]; omega
          have t2 : (a.kind.toList == [115, 116, 111, 112]) = false := beq_eq_false_iff_ne.2 h2
          clear h2
          by_cases h3 : a.kind.toList = reportS
          · have t3 : (a.kind.toList == [114, 101, 112, 111, 114, 116]) = true := by rw [h3]; rfl
            have hat : actT L[i] = 0 := by rw [← HA.out]; exact actT_not (by rw [h3]; decide)
            have HBg := Lib.hid (fun W (hW : Below wr.heap.size wr W) => (hst.out.below hW).report HQO.out a.e a.p)
            have HAT := Lib.hid hat
            unfold QPost at HBg
            clear h3 hat hst hsm hsu hfs
            go_upto_region 22 with fail
            go_region_law (go_simp; go_at_call 13; refine (HBg.out _ ?_).mono ?_; (repeat (first | exact Below.refl _ _ | refine Below.drew ?_)); rintro e wz ⟨q, x2, o2, M2, rfl, hst2⟩)
            all_goals
              have st2 := Lib.hid hst2
              clear hst2 q0 q1 q2 q3
              go_wp2_with fail
              have hs1 : sumT (L.take (i + 1)) = sumT (L.take i) := by rw [sumT_succ hlt, HAT.out]; rfl
              go_roundw
              case rel => exact ⟨i + 1, x2, o2, M2, by omega, by go_num, Lib.hid (by rw [hs1]; exact st2.out)⟩
              case measure => simp [intOf]; omega
          have t3 : (a.kind.toList == [114, 101, 112, 111, 114, 116]) = false := beq_eq_false_iff_ne.2 h3
          clear h3
          by_cases h4 : a.kind.toList = tickS
          · have t4 : (a.kind.toList == [116, 105, 99, 107]) = true := by rw [h4]; rfl
            have hat : actT a = a.n.toNat := if_pos h4
            rw [hat] at hsu
            have HBg := Lib.hid (hst.out.ticks HQO.out a.n (by omega))
            rw [← hsu] at HBg
            clear h4 hat hst hsm hsu hfs
            go_wp2_with fail
            refine HBg.out.mono ?_
            rintro e wz ⟨rfl, x2, o2, M2, hst2⟩
            have st2 := Lib.hid hst2
            clear hst2 q0 q1 q2 q3
            go_wp2_with fail
            go_roundw
            case rel => exact ⟨i + 1, x2, o2, M2, by omega, by go_num, st2⟩
            case measure => simp [intOf]; omega
          have t4 : (a.kind.toList == [116, 105, 99, 107]) = false := beq_eq_false_iff_ne.2 h4
          have hat : actT L[i] = 0 := by rw [← HA.out]; exact actT_not h4
          have hs1 : sumT (L.take (i + 1)) = sumT (L.take i) := by rw [sumT_succ hlt, hat]; rfl
          clear h4 hat hsm hsu hfs
          go_wp2_with fail
          go_roundw
          case rel => exact ⟨i + 1, x1, o1, M1, by omega, by go_num, Lib.hid (by rw [hs1]; exact hst.out)⟩
          case measure => simp [intOf]; omega
        · have hli : ¬ (i : Int) < L.length := by omega
          have hfs := HFt.out.sum
          have hnn := HNn.out
          have hcc := boundC_parts HQO.out.bound
          have hie : L.take i = L := by rw [show i = L.length by omega, List.take_length]
          have hs2 := hst.out
          rw [hie] at hs2
          have HTk := Lib.hid (hs2.ticks HQO.out n (by omega))
          obtain ⟨N, hN⟩ : ∃ N, N = sumT L + n.toNat := ⟨_, rfl⟩
          rw [← hN] at HTk
          have hN4 : N ≤ 4000 := by omega
          clear hst hs2 hie hfs hnn hN
          go_wp2_with fail
          refine HTk.out.mono ?_
          rintro e wz ⟨rfl, x2, o2, M2, hst2⟩
          have st2 := Lib.hid hst2
          have HSt := Lib.hid (kpState_any hst2.k)
          rw [kpState_on hst2.q.on] at HSt
          have HTo := Lib.hid (kpTotal_any hst2.k)
          rw [hst2.q.b.st, show St.ok.str = ⟨#[111, 107]⟩ from rfl] at HTo
          have HKs := Lib.hid (dogKicks_any x2.d M2.D wz hst2.k.b.dog)
          have HNw := Lib.hid (dogNow_any x2.d M2.D wz hst2.k.b.dog)
          rw [hst2.q.D] at HKs HNw
          have HLg := Lib.hid (kpLog_any hst2.k hst2.ok)
          rw [hst2.q.b.L] at HLg
          obtain ⟨k0, k1, k2, k3, k4, k5, k6, k7, k8, k9, k10, kf⟩ := kp_cells hst2.k.box
          have hxz := below_get hst2.k.b.bel hx.out (lt_of_get hx.out)
          obtain ⟨c0, c1, c2, c3, c4⟩ := conf_cells hxz
          clear hst2 HTk k1 k2 k3 k4 k5 k6 k7 k8 k9 k10 kf hxz
          go_wp2_with fail
          refine HSt.out.mono ?_
          rintro e w7 ⟨rfl, rfl⟩
          go_wp2_with fail
          refine HTo.out.mono ?_
          rintro e w7 ⟨rfl, rfl⟩
          go_wp2_with fail
          obtain ⟨cN, hcN⟩ : ∃ cN : Nat, C.cycle = cN := ⟨C.cycle.toNat, by omega⟩
          obtain ⟨dN, hdN⟩ : ∃ dN : Nat, C.closed = dN := ⟨C.closed.toNat, by omega⟩
          have hcN0 : 1 ≤ cN := by omega
          have hcN1 : cN ≤ 100 := by omega
          have hdN1 : dN ≤ 1000 := by omega
          unfold qDog at HKs HNw
          rw [hcN, hdN, Int.toNat_natCast, Int.toNat_natCast] at HKs
          simp only at HKs HNw
          rw [hcN] at c2
          rw [hdN] at c0
          have HDL := Lib.hid (dogK_law (closed := dN) (cycle := cN) hcN0 N)
          have HcN := Lib.hid hcN
          clear hcc hcN hdN
          go_loopw [14, 15, 16] (fun s14 s15 s16 wr => ∃ (m : Nat), m * cN ≤ N ∧ s14 = .int .i64 ((lawK dN cN m).2 : Int) ∧ s15 = .int .i64 ((lawK dN cN m).1 : Int) ∧ s16 = .int .i64 (((m + 1) * cN : Nat) : Int) ∧ wz = wr) (fun _ _ s16 _ => N + 200 - (intOf s16).toNat)
          case atStart => exact ⟨0, by omega, rfl, rfl, by rw [Nat.zero_add, Nat.one_mul, HcN.out], rfl⟩
          case round =>
            obtain ⟨m, hm, rfl, rfl, rfl, rfl⟩ := hrel
            have hk1 := lawK_kicks (closed := dN) (cycle := cN) m
            have hk2 := lawK_le (closed := dN) (cycle := cN) m
            have hmN : m ≤ N := Nat.le_trans (Nat.le_mul_of_pos_right m hcN0) hm
            have hnx : lawK dN cN (m + 1) = if dN < (m + 1) * cN - (lawK dN cN m).1 then ((m + 1) * cN, (lawK dN cN m).2 + 1) else lawK dN cN m := rfl
            have hTm : (m + 1) * cN = m * cN + cN := Nat.succ_mul m cN
            have hTm2 : (m + 1 + 1) * cN = (m + 1) * cN + cN := Nat.succ_mul (m + 1) cN
            obtain ⟨P, hP⟩ : ∃ P, P = lawK dN cN m := ⟨_, rfl⟩
            obtain ⟨Tm, hTt⟩ : ∃ Tm, Tm = (m + 1) * cN := ⟨_, rfl⟩
            rw [← hP] at hk1 hk2 hnx
            rw [← hTt] at hnx hTm hTm2
            have HP := Lib.hid hP
            have HTt := Lib.hid hTt
            have HNX := Lib.hid hnx
            have HT2 := Lib.hid hTm2
            have HTm := Lib.hid hTm
            have HM := Lib.hid hm
            rw [← hP, ← hTt]
            obtain ⟨p1, p2⟩ := P
            simp only at hk1 hk2 ⊢
            have hp1 : (p1 : Int) ≤ Tm := by omega
            have hp2 : (p2 : Int) ≤ 4000 := by omega
            have hT4 : (Tm : Int) ≤ 5000 := by omega
            clear hP hTt hnx hTm hTm2 hk1 hk2 hm
            by_cases hlt : Tm ≤ N
            · have hltI : (Tm : Int) ≤ N := by omega
              by_cases hop : dN < Tm - p1
              · have hopI : (dN : Int) < (Tm : Int) - p1 := by omega
                have HR := Lib.hid (show lawK dN cN (m + 1) = (Tm, p2 + 1) from by rw [HNX.out]; exact if_pos hop)
                clear hop HNX
                go_wp2_with fail
                refine HNw.out.mono ?_
                rintro e w8 ⟨rfl, rfl⟩
                go_wp2_with fail
                go_roundw
                case rel => exact ⟨m + 1, by rw [← HTt.out]; exact hlt, by rw [HR.out]; go_num, by rw [HR.out], by rw [HT2.out]; go_num, by first | rfl | trivial⟩
                case measure => simp [intOf]; omega
              · have hopI : ¬ (dN : Int) < (Tm : Int) - p1 := by omega
                have HR := Lib.hid (show lawK dN cN (m + 1) = (p1, p2) from by rw [HNX.out]; exact if_neg hop)
                clear hop HNX
                go_wp2_with fail
                refine HNw.out.mono ?_
                rintro e w8 ⟨rfl, rfl⟩
                go_wp2_with fail
                go_roundw
                case rel => exact ⟨m + 1, by rw [← HTt.out]; exact hlt, by rw [HR.out], by rw [HR.out], by rw [HT2.out]; go_num, by first | rfl | trivial⟩
                case measure => simp [intOf]; omega
            · have hltI : ¬ (Tm : Int) ≤ N := by omega
              have hke : dogK dN cN N = (p1, p2) := by
                rw [HDL.out, div_at HM.out (by rw [← HTt.out]; omega), ← HP.out]
              rw [hke] at HKs
              have HBE := Lib.hid (hb.out.trans (st2.out.k.b.bel.mono hb.out.size))
              clear hke HNX
              go_wp2_with fail
              refine HNw.out.mono ?_
              rintro e w8 ⟨rfl, rfl⟩
              go_wp2_with fail
              refine HKs.out.mono ?_
              rintro e w8 ⟨rfl, rfl⟩
              go_wp2_with fail
              refine HLg.out.mono ?_
              rintro e w8 ⟨vl, rfl, hv1, hv2⟩
              obtain ⟨la, lc, rfl⟩ := hv1.val
              have HBF := Lib.hid (HBE.out.trans (hv2.mono HBE.out.size))
              clear hv1 hv2
              go_wp2_with fail
              go_ret
              exact ⟨rfl, HBF.out⟩
end Go.Proofs.YtakjbjokekbmbaaGreatDoor
