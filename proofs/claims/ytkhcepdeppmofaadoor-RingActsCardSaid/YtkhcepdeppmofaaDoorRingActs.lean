/- RingActs. -/
import Derived.Test.YtkhcepdeppmofaaDoorRingAA
import Derived.Deep.RegionHeld3
import Derived.Deep.QuietTactic
import Derived.BigQuiet
namespace Go.Proofs.YtkhcepdeppmofaaDoor
open Go.RowKit
set_option linter.unusedVariables false

theorem rc_fresh (w : World) (l : List UInt8) (hl : l.length ≤ 4096) : RC (w.alloc (.cells #[.string (strOf l), .bool false, .int .i64 0, .bool false, .int .i64 0] 90)) w.heap.size ⟨l, false, -1, 0⟩ :=
  ⟨0, false, get_alloc_new _ _, .inl ⟨rfl, rfl⟩, hl⟩
set_option maxRecDepth 100000 in
set_option maxHeartbeats 8000000 in
theorem ringActs_any (B : Nat) (sa : Nat → Addr) (b : ByteArray) (l : List AppV) (v : Value) (w : World) (hS : Sents B sa w) (hl : SlOf (· < w.heap.size) w v 5 (l.flatMap appCells) l.length) (hA : ∀ a ∈ l, AppIn a) :
    Calls Tryd.prog 8 #[.string b, v] w fun e w' => e = .returned (.bool true) ∧ Below w.heap.size w w' := by
  obtain ⟨ao, cap, rfl⟩ := hl.val
  have HS := Lib.hid hS
  have HL := Lib.hid hl
  have HIN := Lib.hid hA
  have hB := hS.r.top
  clear hS hl hA
  go_enter Tryd.func8, Tryd.ntmps8
  go_wp2_with fail
  refine (logged_any B sa w HS.out.r).mono ?_
  rintro e w1 ⟨rfl, b1⟩
  have HB1 := Lib.hid b1
  clear b1
  by_cases g1 : 300 < (b.size : Int)
  · go_wp2_with fail
    go_ret
    exact ⟨rfl, HB1.out⟩
  by_cases g2 : (b.size : Int) < 153
  · go_wp2_with fail
    go_ret
    exact ⟨rfl, HB1.out⟩
  by_cases g3 : 60 < (l.length : Int)
  · go_wp2_with fail
    go_ret
    exact ⟨rfl, HB1.out⟩
  have hb153 : 153 ≤ b.size := by omega
  have hb300 : b.size ≤ 300 := by omega
  have hl60 : l.length ≤ 60 := by omega
  obtain ⟨bs, hbs⟩ : ∃ bs, bs = b.data.toList := ⟨_, rfl⟩
  have hlen : bs.length = b.size := by rw [hbs]; rfl
  have hstr : strOf bs = b := by rw [hbs]; rfl
  have HF := Lib.hid (cr_from b B sa w w1 (HS.out.r.below HB1.out) HB1.out hB (by omega))
  rw [← hbs] at HF
  have HBS := Lib.hid hbs
  have HLEN := Lib.hid hlen
  have HSTR := Lib.hid hstr
  have HG : Hid (153 ≤ b.size ∧ b.size ≤ 300) := (show 153 ≤ b.size ∧ b.size ≤ 300 from ⟨hb153, hb300⟩)
  clear hbs hlen hstr hb153 hb300
  go_upto_region 4 with fail
  clear g1 g2 g3
  go_wp2_with fail
  refine HF.out.mono ?_
  rintro e w2 ⟨c, rb, rfl, h2⟩
  have H2 := Lib.hid h2
  clear h2 HF HB1
  go_wp2_with fail
  refine (cr_openN H2.out (by show 153 ≤ bs.length; rw [HLEN.out]; exact HG.out.1) rfl).mono ?_
  rintro e w3 ⟨rg, lv, rfl, h3, o3⟩
  have H3 := Lib.hid h3
  have HO3 := Lib.hid o3
  clear h3 o3 H2
  have HN := Lib.hid (rc_fresh w3 bs (by rw [HLEN.out]; have := HG.out.2; omega))
  rw [HSTR.out] at HN
  have hbn : Below w3.heap.size w3 (w3.alloc (.cells #[.string b, .bool false, .int .i64 0, .bool false, .int .i64 0] 90)) := (Below.refl _ _).alloc (Nat.le_refl _) _
  have HBN := Lib.hid hbn
  clear hbn
  go_upto_region 11 with fail
  obtain ⟨r, hr⟩ : ∃ r, r = w3.heap.size := ⟨_, rfl⟩
  rw [← hr] at HN ⊢
  have HRr := Lib.hid hr
  clear hr
  generalize w3.alloc _ = w4 at HN HBN ⊢
  go_wp2_with fail
  refine (rRecordsOf_any b HG.out.1 (by have := HG.out.2; omega) w4).mono ?_
  rintro e w5 ⟨bo, bc, rfl, ho5, b5⟩
  rw [← HBS.out] at ho5 ⊢
  obtain ⟨L0, hL0⟩ : ∃ L, L = recsOf bs := ⟨_, rfl⟩
  rw [← hL0] at ho5 ⊢
  have HRA : Hid (RA B sa w rg c rb b.size ⟨bs, false, -1, 0⟩ false L0 lv w5.heap.size r ⟨bs, false, -1, 0⟩ false L0 (.slice bo L0.length bc) (w5.alloc (.cells #[.pointer (some ⟨r, 0, none⟩), .slice bo L0.length bc, .bool false] 93))) := (show RA B sa w rg c rb b.size ⟨bs, false, -1, 0⟩ false L0 lv w5.heap.size r ⟨bs, false, -1, 0⟩ false L0 (.slice bo L0.length bc) (w5.alloc (.cells #[.pointer (some ⟨r, 0, none⟩), .slice bo L0.length bc, .bool false] 93)) from by
    have hbx : Below w5.heap.size w5 (w5.alloc (.cells #[.pointer (some ⟨r, 0, none⟩), .slice bo L0.length bc, .bool false] 93)) := (Below.refl _ _).alloc (Nat.le_refl _) _
    have b34 := HBN.out
    have b45 := b34.trans (b5.mono b34.size)
    have b36 := b45.trans (hbx.mono b45.size)
    have hst : RSt B sa w rg c rb b.size ⟨bs, false, -1, 0⟩ false L0 lv w3 := by rw [hL0]; exact H3.out
    obtain ⟨l1, l2, l3⟩ := hst.lts
    have hz := hst.bel.size
    have hr4 : r < w4.heap.size := HN.out.lt
    have hs45 := b5.size
    have hrr := HRr.out
    have ho := OwnAt.of_owns ho5
    have hlv := fun x (hx : lv.ownBlock = some x) => (HO3.out.lv x hx).2
    refine ⟨hst.below b36, ⟨get_alloc_new _ _, (HN.out.keep (below_keep b5) (fun h => h)).keep (below_keep hbx) (fun h => h), ?_, by omega, fun x hx => ?_, ⟨by omega, by omega⟩⟩, ⟨by omega, by omega, by omega⟩, ⟨by omega, by omega, by omega⟩, fun x hx => ?_, fun x hx => ?_, fun x hx => Nat.lt_of_lt_of_le (hlv x hx) b36.size⟩
    · refine OwnAt.of_owns (own_later (owns_base ho5 ?_) hbx)
      have := b34.size
      omega
    · have := ho.lt x hx; omega
    · have := ho.lt x hx; omega
    · have h1 := hlv x hx
      exact ⟨by have := b34.size; omega, by omega, fun e => by have := (ho.lt x e).1; have := b34.size; omega⟩)
  have HROK : Hid (ROk ⟨bs, false, -1, 0⟩ L0 0) := (show ROk ⟨bs, false, -1, 0⟩ L0 0 from by rw [hL0]; exact rok_new bs (by rw [HLEN.out]; exact HG.out.1))
  clear hL0 ho5 b5 HN HBN H3 HO3 HRr
  go_upto_region 12 with fail
  generalize w5.heap.size = rr at HRA ⊢
  generalize w5.alloc _ = w6 at HRA ⊢
  go_wp2_with fail
  go_loopw [8, 10, 11] (fun s8 s10 s11 wr => ∃ (i rg rr : Nat) (lv lv2 : Value) (m : CM) (dead : Bool) (L : List RecV), i ≤ l.length ∧ s8 = .pointer (some ⟨rg, 0, none⟩) ∧ s10 = .pointer (some ⟨rr, 0, none⟩) ∧ s11 = .int .i64 i ∧ Hid (ROk m L (18 * i)) ∧ Hid (RA B sa w rg c rb b.size m dead L lv rr r m dead L lv2 wr)) (fun _ _ s11 _ => l.length - (intOf s11).toNat)
  case atStart => exact ⟨0, rg, rr, lv, _, _, false, L0, Nat.zero_le _, rfl, rfl, rfl, HROK.out, HRA.out⟩
  case round =>
    obtain ⟨i, rg, rr, lv, lv2, m, dead, L, hi, rfl, rfl, rfl, HK, HR⟩ := hrel
    clear HRA HROK
    by_cases hlt : i < l.length
    · obtain ⟨lb, off, rfl, hRb, _, hc⟩ := app_cells HL.out (by omega)
      obtain ⟨q0, q1, q2, q3, q4⟩ := hc i hlt
      have hcell := fun o => HR.out.st.bel.cell (p := ⟨lb, o, none⟩) hRb
      rw [← hcell] at q0 q1 q2 q3 q4
      have hok := HIN.out l[i] (List.getElem_mem hlt)
      obtain ⟨a, ha⟩ : ∃ a, a = l[i] := ⟨_, rfl⟩
      rw [← ha] at q0 q1 q2 q3 q4 hok
      have HOK := Lib.hid hok
      have hrb : RB B sa w rg c rb b.size m dead L lv rr r m dead L lv2 wr.heap.size a (wr.alloc (.cells #[.int .i64 a.ent, .int .i64 a.kind, .int .i64 a.tick, .int .i64 a.cut, .bool a.boot] 85)) := by
        have hbx : Below wr.heap.size wr (wr.alloc (.cells #[.int .i64 a.ent, .int .i64 a.kind, .int .i64 a.tick, .int .i64 a.cut, .bool a.boot] 85)) := (Below.refl _ _).alloc (Nat.le_refl _) _
        obtain ⟨l1, l2, l3⟩ := HR.out.st.lts
        have l4 := HR.out.rf.mem.lt
        have l5 := lt_of_get HR.out.rf.box
        have hz := HR.out.st.bel.size
        exact ⟨HR.out.below hbx, (HS.out.below (HR.out.st.bel)).below hbx, get_alloc_new _ _, by omega, fun e => by have := (HR.out.rf.own.lt _ e).2; omega⟩
      have HRB := Lib.hid hrb
      have hli : (i : Int) < (l.length : Int) := by omega
      have HLT := Lib.hid hlt
      clear hc hcell ha hok hrb hlt HR
      go_upto_region 16 with fail
      obtain ⟨ab, hab⟩ : ∃ ab, ab = wr.heap.size := ⟨_, rfl⟩
      rw [← hab] at HRB ⊢
      generalize wr.alloc _ = w7 at HRB ⊢
      clear hab q0 q1 q2 q3 q4 hli
      obtain ⟨x0, x1, x2, x3, x4⟩ := HRB.out.cellsA
      go_upto_if 79 with fail
      go_cut [8, 10] (fun s8 s10 wx => ∃ (rg rr : Nat) (lv lv2 : Value) (m : CM) (dead : Bool) (L : List RecV), s8 = .pointer (some ⟨rg, 0, none⟩) ∧ s10 = .pointer (some ⟨rr, 0, none⟩) ∧ Hid (ROk m L (18 * i)) ∧ Hid (RB B sa w rg c rb b.size m dead L lv rr r m dead L lv2 ab a wx))
      case first =>
        cases hbt : a.boot with
        | false =>
          go_wp2_with fail
          go_meet
          exact ⟨rg, rr, lv, lv2, m, dead, L, rfl, rfl, HK.out, HRB.out⟩
        | true =>
          clear x0 x1 x2 x3
          go_wp2_with fail
          refine (cellsOn_any c rb _ _ m w7 HRB.out.ra.st.mem).mono ?_
          rintro e w8 ⟨rfl, h8, k8⟩
          have HB8 := Lib.hid (HRB.out.cells k8 h8)
          clear h8 k8 HRB x4
          obtain ⟨left, cuts, hrr⟩ := HB8.out.ra.rf.mem
          have HRR := Lib.hid hrr
          clear hrr
          go_wp2_with fail
          refine (rOn_any r m left cuts w8 HRR.out).mono ?_
          rintro e w9 ⟨rfl, h9, k9⟩
          have HB9 := Lib.hid (HB8.out.rcells k9 ⟨left, false, h9⟩)
          clear h9 k9 HB8 HRR
          go_wp2_with fail
          refine (cr_openN HB9.out.ra.st.cr HK.out.len rfl).mono ?_
          rintro e w10 ⟨rg', lv', rfl, h10, o10⟩
          have HB10 := Lib.hid (HB9.out.open1 h10 o10)
          clear h10 o10 HB9
          obtain ⟨s, hs⟩ : ∃ s, s = strOf m.bs := ⟨_, rfl⟩
          have hr0 : w10.cell? ⟨r, 0, none⟩ = some (.string s) := by
            obtain ⟨left, cuts, hrr⟩ := HB10.out.ra.rf.mem
            rw [hs]; exact (rcells_cells hrr).1
          have hsz : s.size = m.bs.length := by rw [hs, strOf_size]
          have HRC := Lib.hid (rRecordsOf_any s (by rw [hsz]; exact HK.out.len) (by rw [hsz]; have h4 : m.bs.length ≤ 4096 := HB10.out.ra.st.mem.len; omega) w10)
          have hsd : s.data.toList = m.bs := by rw [hs, strOf_data]
          rw [hsd] at HRC
          clear hs hsz hsd
          go_wp2_with fail
          refine HRC.out.mono ?_
          rintro e w11 ⟨bo, bc, rfl, ho, b11⟩
          obtain ⟨L1, hL1⟩ : ∃ L, L = recsOf m.bs := ⟨_, rfl⟩
          rw [← hL1] at ho HB10 ⊢
          have HK1 : Hid (ROk ⟨m.bs, false, -1, m.wr⟩ L1 (18 * i)) := (show ROk ⟨m.bs, false, -1, m.wr⟩ L1 (18 * i) from by rw [hL1]; exact rok_boot HK.out)
          have HB11 : Hid (RB B sa w rg' c rb b.size ⟨m.bs, false, -1, m.wr⟩ false L1 lv' w11.heap.size r ⟨m.bs, false, -1, m.wr⟩ false L1 (.slice bo L1.length bc) ab a (w11.alloc (.cells #[.pointer (some ⟨r, 0, none⟩), .slice bo L1.length bc, .bool false] 93))) := (show RB B sa w rg' c rb b.size ⟨m.bs, false, -1, m.wr⟩ false L1 lv' w11.heap.size r ⟨m.bs, false, -1, m.wr⟩ false L1 (.slice bo L1.length bc) ab a (w11.alloc (.cells #[.pointer (some ⟨r, 0, none⟩), .slice bo L1.length bc, .bool false] 93)) from by
            have hbx : Below w11.heap.size w11 (w11.alloc (.cells #[.pointer (some ⟨r, 0, none⟩), .slice bo L1.length bc, .bool false] 93)) := (Below.refl _ _).alloc (Nat.le_refl _) _
            refine HB10.out.open2 (b11.trans (hbx.mono b11.size)) b11.size (get_alloc_new _ _) ((OwnAt.of_owns ho).later hbx) (fun x hx => ?_)
            have := ((OwnAt.of_owns ho).lt x hx).2
            omega)
          clear hL1 ho b11 HB10 HRC hr0
          go_wp2_with fail
          go_meet
          exact ⟨rg', _, lv', _, _, false, L1, rfl, rfl, HK1.out, HB11.out⟩
      case rest =>
      obtain ⟨rg, rr, lv, lv2, m, dead, L, rfl, rfl, HK0, HRB0⟩ := hcut
      clear x0 x1 x2 x3 x4 HRB HK
      obtain ⟨x0, x1, x2, x3, x4⟩ := HRB0.out.cellsA
      go_upto_region 24 with fail
      go_cut [118] (fun s118 wx => s118 = .bool false ∧ ∃ m' : CM, Hid (ROk m' L (18 * i)) ∧ Hid (RB B sa w rg c rb b.size m' dead L lv rr r m' dead L lv2 ab a wx))
      case first =>
        by_cases hcp : 0 ≤ a.cut
        · have hk1 := rok_cut HK0.out HOK.out.cut.2
          obtain ⟨m9, hm9⟩ : ∃ m9, m9 = cutM m a.cut := ⟨_, rfl⟩
          obtain ⟨E, hE⟩ : ∃ E, E = cutE m.off a.cut := ⟨_, rfl⟩
          obtain ⟨vE, hvE⟩ : ∃ vE, vE = errv sa E := ⟨_, rfl⟩
          have HW : Hid (∀ W, RB B sa w rg c rb b.size m dead L lv rr r m dead L lv2 ab a W → Calls Tryd.prog 46 #[.pointer (some ⟨c, 0, none⟩), .int .i64 a.cut] W fun e w' => e = .returned vE ∧ RB B sa w rg c rb b.size m9 dead L lv rr r m dead L lv2 ab a w') := (show _ from fun W k => (cellsCut_any B sa c rb _ _ m a.cut W k.ra.st.mem k.ra.st.se).mono (fun e w' (h : _ ∧ _ ∧ _) => ⟨by rw [hvE, hE]; exact h.1, by rw [hm9]; exact k.cells h.2.2 h.2.1⟩))
          have HR : Hid (∀ W, RB B sa w rg c rb b.size m9 dead L lv rr r m dead L lv2 ab a W → Calls Tryd.prog 50 #[.pointer (some ⟨r, 0, none⟩), .int .i64 a.cut] W fun e w' => e = .returned (.int .i64 (E : Nat)) ∧ RB B sa w rg c rb b.size m9 dead L lv rr r m9 dead L lv2 ab a w') := (show _ from fun W k => by
            obtain ⟨left, cuts, hrr⟩ := k.ra.rf.mem
            refine (rCut_any r m left cuts a.cut W hrr).mono (fun e w' h => ?_)
            obtain ⟨h1, h2, h3⟩ := h
            exact ⟨by rw [hE]; exact h1, by rw [hm9] at k ⊢; exact k.rcells h3 h2⟩)
          have HC : Hid (∀ W, RB B sa w rg c rb b.size m9 dead L lv rr r m9 dead L lv2 ab a W → Calls Tryd.prog 40 #[vE, .int .i64 (E : Nat)] W fun e w' => e = .returned (.bool true) ∧ RB B sa w rg c rb b.size m9 dead L lv rr r m9 dead L lv2 ab a w') := (show _ from fun W k => by
            rw [hvE]
            exact (coded1_any B sa E (by rw [hE]; unfold cutE; split; decide; split <;> decide) E W k.se).mono (fun e w' (h : _ ∧ _) => ⟨by rw [h.1, decide_eq_true rfl], k.below h.2⟩))
          rw [← hm9] at hk1
          have HK9 := Lib.hid hk1
          clear hk1 hm9 hE hvE
          go_region_held3 (fun w' => w'.cell? ⟨ab, 3, none⟩ = some (.int .i64 a.cut))
            (first | exact x3 | exact HRB0.out.drew.cellsA.2.2.2.1 | exact kE.cellsA.2.2.2.1 | exact kE.drew.cellsA.2.2.2.1)
            (first | (go_at_call 46; refine (HW.out _ ?_).mono ?_; (repeat (first | exact HRB0.out | refine RB.drew ?_)); rintro e wE ⟨rfl, kE⟩) | (go_at_call 50; refine (HR.out _ ?_).mono ?_; (repeat (first | exact kE | refine RB.drew ?_)); rintro e wE ⟨rfl, kE⟩) | (go_at_call 40; refine (HC.out _ ?_).mono ?_; (repeat (first | exact kE | refine RB.drew ?_)); rintro e wE ⟨rfl, kE⟩))
          all_goals (go_wp2_with fail; go_meet)
          all_goals exact ⟨rfl, m9, HK9.out, kE⟩
        · go_quiet (fail)
          have hd := Lib.hid (fun n => HRB0.out.drewN n)
          go_wp2_with fail
          go_meet
          exact ⟨rfl, m, HK0.out, hd.out _⟩
      case rest =>
      obtain ⟨rfl, m, HK, HRB⟩ := hcut
      clear x0 x1 x2 x3 x4 HRB0 HK0
      obtain ⟨y0, y1, y2, y3, y4⟩ := HRB.out.cellsA
      have hi60 : i ≤ 60 := by omega
      have HAP := Lib.hid (ringAppend_any B sa w rg c rb b.size m dead L lv a.ent a.kind a.tick (18 * i) wc HRB.out.ra.st HK.out.ok (by omega) HK.out.len (by have := HK.out.few; omega) HK.out.seq)
      have HRP : Hid (∀ lv' W, RB B sa w rg c rb b.size (ringApp m L dead a.ent a.kind a.tick).2.2.1 (ringApp m L dead a.ent a.kind a.tick).2.2.2.2 (ringApp m L dead a.ent a.kind a.tick).2.2.2.1 lv' rr r m dead L lv2 ab a W → Calls Tryd.prog 51 #[.pointer (some ⟨rr, 0, none⟩), .int .i64 a.ent, .int .i64 a.kind, .int .i64 a.tick] W fun e w' => e = .returned (.tuple #[recAgg (ringApp m L dead a.ent a.kind a.tick).2.1, .int .i64 ((ringApp m L dead a.ent a.kind a.tick).1 : Nat)]) ∧
          ∃ lv2', RB B sa w rg c rb b.size (ringApp m L dead a.ent a.kind a.tick).2.2.1 (ringApp m L dead a.ent a.kind a.tick).2.2.2.2 (ringApp m L dead a.ent a.kind a.tick).2.2.2.1 lv' rr r (ringApp m L dead a.ent a.kind a.tick).2.2.1 (ringApp m L dead a.ent a.kind a.tick).2.2.2.2 (ringApp m L dead a.ent a.kind a.tick).2.2.2.1 lv2' ab a w' ∧ Keep (fun b => b = rr ∨ b = r ∨ lv2.ownBlock = some b ∨ W.heap.size ≤ b) W w') := (show _ from fun lv' W k => by
        refine (rAppend_any w rr r m dead L lv2 a.ent a.kind a.tick (18 * i) W k.ra.rf k.ra.st.bel.size HK.out.ok (by omega) HK.out.len HK.out.few HK.out.seq).mono (fun e w' h => ?_)
        obtain ⟨h1, lv2', h2, h3⟩ := h
        exact ⟨h1, lv2', k.ref h2 h3, h3.keep⟩)
      have HK9 := Lib.hid (rok_app HK.out dead a.ent a.kind a.tick)
      have HE := Lib.hid (appE_le m L dead a.ent a.kind a.tick)
      generalize ringApp m L dead a.ent a.kind a.tick = p at HAP HRP HK9 HE
      obtain ⟨E, x, m9, L9, dead9⟩ := p
      have HRP : Hid (∀ lv' W, RB B sa w rg c rb b.size m9 dead9 L9 lv' rr r m dead L lv2 ab a W → Calls Tryd.prog 51 #[.pointer (some ⟨rr, 0, none⟩), .int .i64 a.ent, .int .i64 a.kind, .int .i64 a.tick] W fun e w' => e = .returned (.tuple #[recAgg x, .int .i64 (E : Nat)]) ∧ ∃ lv2', RB B sa w rg c rb b.size m9 dead9 L9 lv' rr r m9 dead9 L9 lv2' ab a w' ∧ Keep (fun b => b = rr ∨ b = r ∨ lv2.ownBlock = some b ∨ W.heap.size ≤ b) W w') := HRP
      have HAP : Hid (Calls Tryd.prog 30 #[.pointer (some ⟨rg, 0, none⟩), .int .i64 a.ent, .int .i64 a.kind, .int .i64 a.tick] wc fun e w' => e = .returned (.tuple #[recAgg x, errv sa E]) ∧ ∃ lv', RSt B sa w rg c rb b.size m9 dead9 L9 lv' w' ∧ Keep (fun b => b = c ∨ b = rb ∨ b = rg ∨ wc.heap.size ≤ b) wc w' ∧ (lv' = lv ∨ NewV wc w' lv')) := HAP
      have HK9 : Hid (ROk m9 L9 (18 * i + 18)) := HK9
      have HE : Hid (E ≤ 11) := HE
      obtain ⟨vE, hvE⟩ : ∃ vE, vE = errv sa E := ⟨_, rfl⟩
      rw [← hvE] at HAP
      have HVE := Lib.hid hvE
      clear hvE HK
      go_wp2_with fail
      refine HAP.out.mono ?_
      rintro e w8 ⟨rfl, lv9, h8, k8, n8⟩
      have HB8 := Lib.hid (HRB.out.prog h8 k8 n8)
      clear h8 k8 n8 HAP HRB y0 y1 y2 y3 y4
      rw [show recAgg x = .agg #[.int .i64 x.seq, .int .i64 x.ent, .int .i64 x.kind, .int .i64 x.tick] from rfl]
      have hb9 : Below w8.heap.size w8 (w8.alloc (.cells #[.int .i64 x.seq, .int .i64 x.ent, .int .i64 x.kind, .int .i64 x.tick] 60)) := (Below.refl _ _).alloc (Nat.le_refl _) _
      have HB9 := Lib.hid (HB8.out.below hb9)
      have HX1 : Hid ((w8.alloc (.cells #[.int .i64 x.seq, .int .i64 x.ent, .int .i64 x.kind, .int .i64 x.tick] 60)).heap[w8.heap.size]? = some (recC x)) := get_alloc_new w8 (recC x)
      clear hb9
      go_upto_region 27 with fail
      obtain ⟨x1, hx1⟩ : ∃ x1, x1 = w8.heap.size := ⟨_, rfl⟩
      rw [← hx1] at HX1 ⊢
      generalize w8.alloc _ = w9 at HB9 HX1 ⊢
      have HNE : Hid (¬ (x1 = rr ∨ x1 = r ∨ lv2.ownBlock = some x1 ∨ w9.heap.size ≤ x1)) := (show ¬ (x1 = rr ∨ x1 = r ∨ lv2.ownBlock = some x1 ∨ w9.heap.size ≤ x1) from by
        have e1 := lt_of_get HB8.out.ra.rf.box
        have e2 := HB8.out.ra.rf.mem.lt
        have e4 := lt_of_get HX1.out
        rintro (e | e | e | e)
        · omega
        · omega
        · have := (HB8.out.ra.rf.own.lt x1 e).2; omega
        · omega)
      clear hx1 HB8
      obtain ⟨y0, y1, y2, y3, y4⟩ := HB9.out.cellsA
      go_wp2_with fail
      refine (HRP.out lv9 w9 HB9.out).mono ?_
      rintro e w10 ⟨rfl, lv29, h10, k10⟩
      obtain ⟨lao, lcp, rfl⟩ := h10.ra.rf.own.val
      rw [show recAgg x = .agg #[.int .i64 x.seq, .int .i64 x.ent, .int .i64 x.kind, .int .i64 x.tick] from rfl]
      have HX : Hid (RX B sa w rg c rb b.size m9 dead9 L9 lv9 rr r (.slice lao L9.length lcp) ab a x1 w10.heap.size x (w10.alloc (.cells #[.int .i64 x.seq, .int .i64 x.ent, .int .i64 x.kind, .int .i64 x.tick] 60))) := (show RX B sa w rg c rb b.size m9 dead9 L9 lv9 rr r (.slice lao L9.length lcp) ab a x1 w10.heap.size x (w10.alloc (recC x)) from by
        have hbx : Below w10.heap.size w10 (w10.alloc (recC x)) := (Below.refl _ _).alloc (Nat.le_refl _) _
        have e1 := k10.get HX1.out HNE.out
        exact ⟨h10.below hbx, below_get hbx e1 (lt_of_get e1), get_alloc_new _ _⟩)
      clear h10 k10 HNE HX1 HB9 HRP y0 y1 y2 y3 y4
      go_upto_region 28 with fail
      obtain ⟨x2, hx2⟩ : ∃ x2, x2 = w10.heap.size := ⟨_, rfl⟩
      rw [← hx2] at HX ⊢
      generalize w10.alloc _ = w11 at HX ⊢
      clear hx2
      obtain ⟨s, hs⟩ : ∃ s, s = strOf m9.bs := ⟨_, rfl⟩
      have HCL : Hid (∀ W, RX B sa w rg c rb b.size m9 dead9 L9 lv9 rr r (.slice lao L9.length lcp) ab a x1 x2 x W → (W.cell? ⟨x1, 0, none⟩ = some (.int .i64 x.seq) ∧ W.cell? ⟨x1, 1, none⟩ = some (.int .i64 x.ent) ∧ W.cell? ⟨x1, 2, none⟩ = some (.int .i64 x.kind) ∧ W.cell? ⟨x1, 3, none⟩ = some (.int .i64 x.tick)) ∧ (W.cell? ⟨x2, 0, none⟩ = some (.int .i64 x.seq) ∧ W.cell? ⟨x2, 1, none⟩ = some (.int .i64 x.ent) ∧ W.cell? ⟨x2, 2, none⟩ = some (.int .i64 x.kind) ∧ W.cell? ⟨x2, 3, none⟩ = some (.int .i64 x.tick)) ∧ W.cell? ⟨rr, 1, none⟩ = some (.slice lao L9.length lcp) ∧ W.cell? ⟨r, 0, none⟩ = some (.string s)) := (show _ from fun W k => k.cells hs)
      have HCO : Hid (∀ W, RX B sa w rg c rb b.size m9 dead9 L9 lv9 rr r (.slice lao L9.length lcp) ab a x1 x2 x W → Calls Tryd.prog 40 #[vE, .int .i64 (E : Nat)] W fun e w' => e = .returned (.bool true) ∧ RX B sa w rg c rb b.size m9 dead9 L9 lv9 rr r (.slice lao L9.length lcp) ab a x1 x2 x w') := (show _ from fun W k => by
        rw [HVE.out]
        exact (coded1_any B sa E HE.out E W k.rb.se).mono (fun e w' (h : _ ∧ _) => ⟨by rw [h.1, decide_eq_true rfl], k.below h.2⟩))
      have HREC : Hid (∀ W, RX B sa w rg c rb b.size m9 dead9 L9 lv9 rr r (.slice lao L9.length lcp) ab a x1 x2 x W → Calls Tryd.prog 34 #[.pointer (some ⟨rg, 0, none⟩)] W fun e w' => ∃ ao cap, e = .returned (.slice ao L9.length cap) ∧ RX B sa w rg c rb b.size m9 dead9 L9 lv9 rr r (.slice lao L9.length lcp) ab a x1 x2 x w' ∧ SlOf (fun _ => True) w' (.slice ao L9.length cap) 4 (L9.flatMap recCells) L9.length) := (show _ from fun W h => (recs_st h.rb.ra.st (by have := HK9.out.few; omega)).mono (by
        rintro e w' ⟨ao, cap, he, hb, hs⟩
        exact ⟨ao, cap, he, h.below hb, hs.mono (fun _ _ => trivial)⟩))
      have HSAME : Hid (∀ (W : World) (ao : Option Addr) (cap : Nat), RX B sa w rg c rb b.size m9 dead9 L9 lv9 rr r (.slice lao L9.length lcp) ab a x1 x2 x W → SlOf (fun _ => True) W (.slice ao L9.length cap) 4 (L9.flatMap recCells) L9.length → Calls Tryd.prog 45 #[.slice ao L9.length cap, .slice lao L9.length lcp] W fun e w' => e = .returned (.bool true) ∧ RX B sa w rg c rb b.size m9 dead9 L9 lv9 rr r (.slice lao L9.length lcp) ab a x1 x2 x w') := (show _ from fun W ao cap h hs => (sameRecs_any _ _ L9 L9 _ _ W hs h.rb.ra.rf.own.slOf (by have := HK9.out.few; omega) (by have := HK9.out.few; omega)).mono (by
        rintro e w' ⟨he, q, rfl⟩
        exact ⟨by rw [he, decide_eq_true rfl], h.drewN q⟩))
      have HBY : Hid (∀ W, RX B sa w rg c rb b.size m9 dead9 L9 lv9 rr r (.slice lao L9.length lcp) ab a x1 x2 x W → Calls Tryd.prog 31 #[.pointer (some ⟨c, 0, none⟩)] W fun e w' => e = .returned (.string s) ∧ RX B sa w rg c rb b.size m9 dead9 L9 lv9 rr r (.slice lao L9.length lcp) ab a x1 x2 x w') := (show _ from fun W h => (cellsBytes_any c rb _ _ _ W h.rb.ra.st.mem).mono (by
        rintro e w' ⟨he, rfl⟩
        exact ⟨by rw [he, hs], h⟩))
      have heq : ∀ w, (Op.equalIn 10000 60 (.agg #[.int .i64 x.seq, .int .i64 x.ent, .int .i64 x.kind, .int .i64 x.tick]) (.agg #[.int .i64 x.seq, .int .i64 x.ent, .int .i64 x.kind, .int .i64 x.tick])).run Tryd.prog w = .ok true w := fun w => by
        have := Tryd.recEq4 x.seq x.ent x.kind x.tick x.seq x.ent x.kind x.tick w
        unfold recV4 at this
        rw [this]; simp
      have hgd := Tryd.recGuard
      obtain ⟨⟨y0, y1, y2, y3⟩, ⟨u0, u1, u2, u3⟩, u4, u5⟩ := HCL.out _ HX.out
      clear hs HVE
      go_region_held3 (fun W => (W.cell? ⟨x1, 0, none⟩ = some (.int .i64 x.seq) ∧ W.cell? ⟨x1, 1, none⟩ = some (.int .i64 x.ent) ∧ W.cell? ⟨x1, 2, none⟩ = some (.int .i64 x.kind) ∧ W.cell? ⟨x1, 3, none⟩ = some (.int .i64 x.tick)) ∧ (W.cell? ⟨x2, 0, none⟩ = some (.int .i64 x.seq) ∧ W.cell? ⟨x2, 1, none⟩ = some (.int .i64 x.ent) ∧ W.cell? ⟨x2, 2, none⟩ = some (.int .i64 x.kind) ∧ W.cell? ⟨x2, 3, none⟩ = some (.int .i64 x.tick)) ∧ W.cell? ⟨rr, 1, none⟩ = some (.slice lao L9.length lcp) ∧ W.cell? ⟨r, 0, none⟩ = some (.string s))
        (first | exact HCL.out _ HX.out | exact HCL.out _ (by repeat (first | exact kG | exact kF | exact kE | exact kC | exact HX.out | refine RX.drew ?_)))
        (first | (go_at_call 40; refine (HCO.out _ ?_).mono ?_; (repeat (first | exact HX.out | refine RX.drew ?_)); rintro e w' ⟨rfl, kC⟩) | (go_at_call 34; refine (HREC.out _ ?_).mono ?_; (repeat (first | exact kC | refine RX.drew ?_)); rintro e w' ⟨ao9, cap9, rfl, kE, sE⟩) | (go_at_call 45; refine (HSAME.out _ _ _ ?_ sE).mono ?_; (repeat (first | exact kE | refine RX.drew ?_)); rintro e w' ⟨rfl, kF⟩) | (go_at_call 31; refine (HBY.out _ ?_).mono ?_; (repeat (first | exact kF | refine RX.drew ?_)); rintro e w' ⟨rfl, kG⟩))
      all_goals
        go_wp2_with fail
        go_roundw
        case rel => exact ⟨i + 1, rg, rr, lv9, _, m9, dead9, L9, by have := HLT.out; omega, rfl, rfl, by go_num, HK9.out.mono (by omega), kG.rb.ra⟩
        case measure => have := HLT.out; simp [intOf]; omega
    · go_wp2_with fail
      go_ret
      exact ⟨rfl, HR.out.st.bel⟩
end Go.Proofs.YtkhcepdeppmofaaDoor
