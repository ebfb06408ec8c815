/- RingCuts. -/
import Derived.Test.YtkhcepdeppmofaaDoorRingCC
import Derived.Test.YtkhcepdeppmofaaDoorRingW
namespace Go.Proofs.YtkhcepdeppmofaaDoor
open Go.RowKit
set_option linter.unusedVariables false

theorem log_rd {m : CM} {D : List RecV} {k : Int} (h : Log m D k) : recsOf m.bs = lastR D := rinv_recs h.inv
theorem log_cut {m : CM} {D : List RecV} {k n : Int} (h : Log m D k) (hn0 : 0 ≤ n) (hn : n ≤ 9223372036854775807) : Log (cutM m n) D k := by
  have e : cutM m n = ⟨m.bs, m.off, n, m.wr⟩ := by
    unfold cutM
    rw [if_neg (by omega), h.on, if_neg (by decide)]
  exact ⟨by rw [e]; exact h.inv, cutM_ok h.ok hn, by rw [e]; exact h.on, h.dn⟩
set_option maxRecDepth 100000 in
set_option maxHeartbeats 8000000 in
theorem ringCuts_any (B : Nat) (sa : Nat → Addr) (l : List AppV) (v : Value) (w : World) (hS : Sents B sa w) (hl : SlOf (· < w.heap.size) w v 5 (l.flatMap appCells) l.length) (hA : ∀ a ∈ l, AppIn a) :
    Calls Tryd.prog 7 #[v] w fun e w' => e = .returned (.bool true) ∧ Below w.heap.size w w' := by
  obtain ⟨ao, cap, rfl⟩ := hl.val
  have HS := Lib.hid hS
  have HL := Lib.hid hl
  have HIN := Lib.hid hA
  have hB := hS.r.top
  clear hS hl hA
  go_enter Tryd.func7, Tryd.ntmps7
  go_wp2_with fail
  refine (logged_any B sa w HS.out.r).mono ?_
  rintro e w1 ⟨rfl, b1⟩
  have HB1 := Lib.hid b1
  clear b1
  by_cases g3 : 60 < (l.length : Int)
  · go_wp2_with fail
    go_ret
    exact ⟨rfl, HB1.out⟩
  have hl60 : l.length ≤ 60 := by omega
  have HN := Lib.hid (cr_new 153 w w1 (HS.out.r.below HB1.out) HB1.out hB (by decide))
  obtain ⟨bz, hbz⟩ : ∃ bz, bz = List.replicate 153 (0 : UInt8) := ⟨_, rfl⟩
  rw [← hbz] at HN
  have HLG : Hid (Log ⟨bz, false, -1, 0⟩ [] 0) := (show Log ⟨bz, false, -1, 0⟩ [] 0 from by rw [hbz]; exact log_zero 153 (by decide))
  clear hbz
  go_wp2_with fail
  refine HN.out.mono ?_
  rintro e w2 ⟨c, rb, rfl, h1⟩
  have H1 := Lib.hid h1
  clear h1 HN
  go_wp2_with fail
  refine (cr_openN H1.out HLG.out.inv.len rfl).mono ?_
  rintro e w3 ⟨rg, lv, rfl, h3, o3⟩
  have HR0 : Hid (RD B sa w rg c rb 153 ⟨bz, false, -1, 0⟩ false (lastR []) lv [] (.slice none 0 0) w3) := (show RD B sa w rg c rb 153 ⟨bz, false, -1, 0⟩ false (lastR []) lv [] (.slice none 0 0) w3 from by
    rw [show recsOf (CM.bs ⟨bz, false, -1, 0⟩) = lastR [] from log_rd HLG.out] at h3
    exact ⟨h3, HS.out.below h3.bel, .of_owns (World.ownsRow_nil _ _ _ _), fun b hb => (by cases hb), fun b hb => (o3.lv b hb).2, fun _ => rfl⟩)
  clear h3 o3 H1 HB1
  go_wp2_with fail
  go_loopw [6, 7, 8] (fun s6 s7 s8 wr => ∃ (i rg : Nat) (lv dv : Value) (D : List RecV) (m : CM), i ≤ l.length ∧ D.length ≤ i ∧ s6 = .pointer (some ⟨rg, 0, none⟩) ∧ dv = s7 ∧ s8 = .int .i64 i ∧ Hid (Log m D (18 * i)) ∧ Hid (RD B sa w rg c rb 153 m false (lastR D) lv D dv wr)) (fun _ _ s8 _ => l.length - (intOf s8).toNat)
  case atStart => exact ⟨0, rg, lv, _, [], _, Nat.zero_le _, Nat.zero_le _, rfl, rfl, rfl, HLG.out, HR0.out⟩
  case round =>
    obtain ⟨i, rg, lv, dv, D, m, hi, hDi, rfl, rfl, rfl, HK, HR⟩ := hrel
    clear HR0 HLG
    by_cases hlt : i < l.length
    · obtain ⟨lb, off, rfl, hRb, _, hc⟩ := app_cells HL.out (by omega)
      obtain ⟨q0, q1, q2, q3, q4⟩ := hc i hlt
      have hcell := fun o => HR.out.st.bel.cell (p := ⟨lb, o, none⟩) hRb
      rw [← hcell] at q0 q1 q2 q3 q4
      have hok := HIN.out l[i] (List.getElem_mem hlt)
      obtain ⟨a, ha⟩ : ∃ a, a = l[i] := ⟨_, rfl⟩
      rw [← ha] at q0 q1 q2 q3 q4 hok
      have HOK := Lib.hid hok
      have hbx : Below wr.heap.size wr (wr.alloc (.cells #[.int .i64 a.ent, .int .i64 a.kind, .int .i64 a.tick, .int .i64 a.cut, .bool a.boot] 85)) := (Below.refl _ _).alloc (Nat.le_refl _) _
      have HB7 := Lib.hid (HR.out.below hbx)
      have HBX : Hid ((wr.alloc (.cells #[.int .i64 a.ent, .int .i64 a.kind, .int .i64 a.tick, .int .i64 a.cut, .bool a.boot] 85)).heap[wr.heap.size]? = some (.cells #[.int .i64 a.ent, .int .i64 a.kind, .int .i64 a.tick, .int .i64 a.cut, .bool a.boot] 85)) := get_alloc_new _ _
      have HCN : Hid (¬ wr.heap.size = c) := (show ¬ wr.heap.size = c from by have := HR.out.st.lts.2.1; omega)
      have hli : (i : Int) < (l.length : Int) := by omega
      have HLT := Lib.hid hlt
      clear hc hcell ha hok hlt hbx HR
      go_upto_region 15 with fail
      obtain ⟨ab, hab⟩ : ∃ ab, ab = wr.heap.size := ⟨_, rfl⟩
      rw [← hab] at HBX HCN ⊢
      generalize wr.alloc _ = w7 at HB7 HBX ⊢
      clear hab q0 q1 q2 q3 q4 hli
      obtain ⟨x0, x1, x2, x3, x4⟩ : w7.cell? ⟨ab, 0, none⟩ = some (.int .i64 a.ent) ∧ w7.cell? ⟨ab, 1, none⟩ = some (.int .i64 a.kind) ∧ w7.cell? ⟨ab, 2, none⟩ = some (.int .i64 a.tick) ∧ w7.cell? ⟨ab, 3, none⟩ = some (.int .i64 a.cut) ∧ w7.cell? ⟨ab, 4, none⟩ = some (.bool a.boot) := by
        have := HBX.out
        simp [World.cell?, this]
      by_cases b1 : a.ent < 0
      · go_wp2_with fail
        go_ret
        exact ⟨rfl, HB7.out.st.bel⟩
      by_cases b2 : 255 < a.ent
      · go_wp2_with fail
        go_ret
        exact ⟨rfl, HB7.out.st.bel⟩
      by_cases b3 : a.kind < 0
      · go_wp2_with fail
        go_ret
        exact ⟨rfl, HB7.out.st.bel⟩
      by_cases b4 : 255 < a.kind
      · go_wp2_with fail
        go_ret
        exact ⟨rfl, HB7.out.st.bel⟩
      by_cases b5 : a.tick < 0
      · go_wp2_with fail
        go_ret
        exact ⟨rfl, HB7.out.st.bel⟩
      by_cases b6 : 281474976710656 ≤ a.tick
      · go_wp2_with fail
        go_ret
        exact ⟨rfl, HB7.out.st.bel⟩
      have HAO : Hid (appOk a.ent a.kind a.tick = true) := (show appOk a.ent a.kind a.tick = true from decide_eq_true (by omega))
      go_upto_region 17 with fail
      clear b1 b2 b3 b4 b5 b6
      go_cut [94] (fun s94 wx => s94 = .bool false ∧ ∃ m' : CM, Hid (Log m' D (18 * i)) ∧ Hid (RD B sa w rg c rb 153 m' false (lastR D) lv D dv wx) ∧ Hid (wx.heap[ab]? = some (.cells #[.int .i64 a.ent, .int .i64 a.kind, .int .i64 a.tick, .int .i64 a.cut, .bool a.boot] 85)))
      case first =>
        by_cases hcp : 0 ≤ a.cut
        · have hcE : cutE m.off a.cut = 0 := by
            unfold cutE
            rw [if_neg (by omega), HK.out.on, if_neg (by decide)]
          have HCE := Lib.hid hcE
          have hk8 := Lib.hid (log_cut HK.out hcp HOK.out.cut.2)
          clear hcE
          go_wp2_with fail
          refine (cellsCut_any B sa c rb _ _ m a.cut w7 HB7.out.st.mem HB7.out.st.se).mono ?_
          rintro e w8 ⟨rfl, h8, k8⟩
          rw [HCE.out, errv_zero]
          have HB8 := Lib.hid (HB7.out.cells k8 h8)
          have HBX8 := Lib.hid (k8.get HBX.out HCN.out)
          clear h8 k8 x0 x1 x2 x3 x4
          go_wp2_with fail
          go_meet
          exact ⟨rfl, _, hk8.out, HB8.out, HBX8.out⟩
        · go_wp2_with fail
          go_meet
          exact ⟨rfl, m, HK.out, HB7.out, HBX.out⟩
      case rest =>
      obtain ⟨rfl, m, HK, HB8, HBX8⟩ := hcut
      clear x0 x1 x2 x3 x4 HBX HCN HB7
      obtain ⟨x0, x1, x2, x3, x4⟩ : wc.cell? ⟨ab, 0, none⟩ = some (.int .i64 a.ent) ∧ wc.cell? ⟨ab, 1, none⟩ = some (.int .i64 a.kind) ∧ wc.cell? ⟨ab, 2, none⟩ = some (.int .i64 a.tick) ∧ wc.cell? ⟨ab, 3, none⟩ = some (.int .i64 a.cut) ∧ wc.cell? ⟨ab, 4, none⟩ = some (.bool a.boot) := by
        have := HBX8.out
        simp [World.cell?, this]
      have hz := lastZ_lastR (fun j hj => (HK.out.inv.seq j hj).1)
      have HAP := Lib.hid (ringAppend_any B sa w rg c rb 153 m false (lastR D) lv a.ent a.kind a.tick (18 * i) wc HB8.out.st HK.out.ok (by omega) HK.out.inv.len (by rw [lastR_len]; omega) (by rw [hz]; omega))
      obtain ⟨m9, hok9, hcase, _⟩ := log_app HK.out HAO.out
      have HOK9 := Lib.hid hok9
      clear hz hok9 HAO
      rcases hcase with ⟨hap, hon, hinv⟩ | ⟨hap, hoff, hinv⟩
      · obtain ⟨x, hx⟩ : ∃ x, x = nextRec D a.ent a.kind a.tick := ⟨_, rfl⟩
        rw [← hx] at hap hinv
        rw [hap] at HAP
        have HAP : Hid (Calls Tryd.prog 30 #[.pointer (some ⟨rg, 0, none⟩), .int .i64 a.ent, .int .i64 a.kind, .int .i64 a.tick] wc fun e w' => e = .returned (.tuple #[recAgg x, .nilIface]) ∧ ∃ lv', RSt B sa w rg c rb 153 m9 false (lastR (D ++ [x])) lv' w' ∧ Keep (fun b => b = c ∨ b = rb ∨ b = rg ∨ wc.heap.size ≤ b) wc w' ∧ (lv' = lv ∨ NewV wc w' lv')) := HAP
        have HLG9 : Hid (Log m9 (D ++ [x]) (18 * i + 18)) := (show Log m9 (D ++ [x]) (18 * i + 18) from ⟨hinv, HOK9.out, hon, by simp; omega⟩)
        clear hap hon hinv hx HK
        go_wp2_with fail
        refine HAP.out.mono ?_
        rintro e w9 ⟨rfl, lv9, h9, k9, n9⟩
        have HB9 := Lib.hid (HB8.out.prog h9 k9 n9)
        clear h9 k9 n9 HAP HB8 HBX8 x0 x1 x2 x3 x4
        rw [show recAgg x = .agg #[.int .i64 x.seq, .int .i64 x.ent, .int .i64 x.kind, .int .i64 x.tick] from rfl]
        have hb9 : Below w9.heap.size w9 (w9.alloc (.cells #[.int .i64 x.seq, .int .i64 x.ent, .int .i64 x.kind, .int .i64 x.tick] 60)) := (Below.refl _ _).alloc (Nat.le_refl _) _
        have HB10 := Lib.hid (HB9.out.below hb9)
        have HX1 : Hid ((w9.alloc (.cells #[.int .i64 x.seq, .int .i64 x.ent, .int .i64 x.kind, .int .i64 x.tick] 60)).heap[w9.heap.size]? = some (recC x)) := get_alloc_new w9 (recC x)
        clear hb9 HB9
        go_upto_region 20 with fail
        obtain ⟨xb, hxb⟩ : ∃ xb, xb = w9.heap.size := ⟨_, rfl⟩
        rw [← hxb] at HX1 ⊢
        generalize w9.alloc _ = w10 at HB10 HX1 ⊢
        clear hxb
        obtain ⟨y0, y1, y2, y3⟩ := four_cells HX1.out
        obtain ⟨i0, hi0, hz0, hz1, hz2⟩ := info_parts Tryd.infoRec
        have HOW : Hid (∀ o, OwnAt (w10.alloc o) w.heap.size 60 4 dv D.length (D.flatMap recCells) ∧ w.heap.size ≤ (w10.alloc o).heap.size) := (show _ from fun o => ⟨HB10.out.own.later ((Below.refl _ _).alloc (Nat.le_refl _) _), Nat.le_trans HB10.out.st.bel.size (by simp)⟩)
        have h63 : Hid (D.length + 1 ≤ maxLen) := (show D.length + 1 ≤ maxLen from by unfold maxLen; omega)
        have hby : Hid ((D.length + 1) * 32 ≤ 140737488355328) := (show (D.length + 1) * 32 ≤ 140737488355328 from by omega)
        go_wp2_with (at_builtin; go_must (refine wpList_append_off rfl (.tmp 108) (.tmp 110) 66 rfl w.heap.size 60 i0 _ 4 32 Tryd.underlying66 hi0 hz0 hz1 hz2 rfl (by decide) _ D.length _ rfl (HOW.out _).1 ⟨w10.heap.size, 0, none⟩ 1 1 (recCells x) rfl rfl (new_cells _ (recCells x) _) (by intro u hu; simp [recCells] at hu; rcases hu with rfl | rfl | rfl | rfl <;> rfl) h63.out hby.out (HOW.out _).2 ?_; intro a1 k1 w11 ho hg hn))
        have HD11 : Hid (RD B sa w rg c rb 153 m9 false (lastR (D ++ [x])) lv9 (D ++ [x]) (.slice a1 (D.length + 1) k1) w11) := (show RD B sa w rg c rb 153 m9 false (lastR (D ++ [x])) lv9 (D ++ [x]) (.slice a1 (D.length + 1) k1) w11 from by
          refine HB10.out.app ((Below.refl _ _).alloc (Nat.le_refl _) _) hg ?_ hn (by simp)
          rw [show (D ++ [x]).length = D.length + 1 by simp, show (D ++ [x]).flatMap recCells = D.flatMap recCells ++ recCells x by simp]
          exact ho)
        clear ho hg hn HOW HB10 HX1 y0 y1 y2 y3
        go_roundw
        case rel => exact ⟨i + 1, rg, lv9, _, D ++ [x], m9, by have := HLT.out; omega, by simp; omega, rfl, rfl, by go_num, by have := HLG9.out; rw [show (18 * ((i + 1 : Nat) : Int)) = 18 * i + 18 by omega]; exact this, HD11.out⟩
        case measure => have := HLT.out; simp [intOf]; omega
      · rw [hap] at HAP
        have HAP : Hid (Calls Tryd.prog 30 #[.pointer (some ⟨rg, 0, none⟩), .int .i64 a.ent, .int .i64 a.kind, .int .i64 a.tick] wc fun e w' => e = .returned (.tuple #[recAgg ⟨0, 0, 0, 0⟩, errv sa 8]) ∧ ∃ lv', RSt B sa w rg c rb 153 m9 true (lastR D) lv' w' ∧ Keep (fun b => b = c ∨ b = rb ∨ b = rg ∨ wc.heap.size ≤ b) wc w' ∧ (lv' = lv ∨ NewV wc w' lv')) := HAP
        have HLG9 : Hid (Log ⟨m9.bs, false, -1, m9.wr⟩ D (18 * i + 18)) := (show Log ⟨m9.bs, false, -1, m9.wr⟩ D (18 * i + 18) from ⟨hinv, ⟨by simp, by simp, HOK9.out.w0, HOK9.out.w1⟩, rfl, by omega⟩)
        clear hap hoff hinv HK
        obtain ⟨v8, hv8⟩ : ∃ v8, v8 = errv sa 8 := ⟨_, rfl⟩
        rw [← hv8] at HAP
        have HV8 := Lib.hid hv8
        have hv8n : ∃ p, v8 = .iface 304 p := ⟨_, by rw [hv8]; rfl⟩
        clear hv8
        obtain ⟨p8, rfl⟩ := hv8n
        go_wp2_with fail
        refine HAP.out.mono ?_
        rintro e w9 ⟨rfl, lv9, h9, k9, n9⟩
        have HB9 := Lib.hid (HB8.out.prog h9 k9 n9)
        clear h9 k9 n9 HAP HB8 HBX8 x0 x1 x2 x3 x4
        rw [show recAgg (⟨0, 0, 0, 0⟩ : RecV) = .agg #[.int .i64 0, .int .i64 0, .int .i64 0, .int .i64 0] from rfl]
        have hb9 : Below w9.heap.size w9 (w9.alloc (.cells #[.int .i64 0, .int .i64 0, .int .i64 0, .int .i64 0] 60)) := (Below.refl _ _).alloc (Nat.le_refl _) _
        have HB10 := Lib.hid (HB9.out.below hb9)
        clear hb9 HB9
        go_upto_region 20 with fail
        generalize w9.alloc _ = w10 at HB10 ⊢
        go_wp2_with fail
        refine (cellsOn_any c rb _ _ m9 w10 HB10.out.st.mem).mono ?_
        rintro e w11 ⟨rfl, h11, k11⟩
        have HB11 := Lib.hid (HB10.out.cells k11 h11)
        clear h11 k11 HB10
        go_wp2_with fail
        refine (cr_openN HB11.out.st.cr2 HLG9.out.inv.len rfl).mono ?_
        rintro e w12 ⟨rg', lv', rfl, h12, o12⟩
        rw [log_rd HLG9.out] at h12
        have HB12 := Lib.hid (HB11.out.open1 h12 o12)
        clear h12 o12 HB11
        have HCO : Hid (Calls Tryd.prog 40 #[.iface 304 p8, .int .i64 8] w12 fun e w' => e = .returned (.bool true) ∧ Below w12.heap.size w12 w') := (show _ from by
          rw [HV8.out]
          exact coded1_any B sa 8 (by decide) 8 w12 HB12.out.se)
        go_wp2_with fail
        refine HCO.out.mono ?_
        rintro e w13 ⟨rfl, b13⟩
        have HB13 := Lib.hid (HB12.out.below b13)
        clear b13 HCO HB12
        go_wp2_with fail
        refine (last_st HB13.out.st (by rw [lastR_len]; omega)).mono ?_
        rintro e w14 ⟨rfl, b14⟩
        obtain ⟨z, hz⟩ : ∃ z, z = lastZ (lastR D) := ⟨_, rfl⟩
        have hzs : z.seq = D.length := by rw [hz]; exact lastZ_lastR (fun j hj => (HLG9.out.inv.seq j hj).1)
        obtain ⟨zb, hzb⟩ : ∃ zb, zb = !(lastR D).isEmpty := ⟨_, rfl⟩
        rw [← hz, ← hzb, show recAgg z = .agg #[.int .i64 z.seq, .int .i64 z.ent, .int .i64 z.kind, .int .i64 z.tick] from rfl]
        have hb14 : Below w14.heap.size w14 (w14.alloc (.cells #[.int .i64 z.seq, .int .i64 z.ent, .int .i64 z.kind, .int .i64 z.tick] 60)) := (Below.refl _ _).alloc (Nat.le_refl _) _
        have HB15 := Lib.hid (HB13.out.below (b14.trans (hb14.mono b14.size)))
        have HX1 : Hid ((w14.alloc (.cells #[.int .i64 z.seq, .int .i64 z.ent, .int .i64 z.kind, .int .i64 z.tick] 60)).heap[w14.heap.size]? = some (recC z)) := get_alloc_new w14 (recC z)
        have hne : ((z.seq : Int) == (D.length : Int) + 1) = false := by simp; omega
        clear hb14 b14 HB13 hz hzb hzs
        go_upto_region 28 with fail
        obtain ⟨xb, hxb⟩ : ∃ xb, xb = w14.heap.size := ⟨_, rfl⟩
        rw [← hxb] at HX1 ⊢
        generalize w14.alloc _ = w15 at HB15 HX1 ⊢
        clear hxb
        obtain ⟨y0, y1, y2, y3⟩ := four_cells HX1.out
        obtain ⟨dao, dcp, rfl⟩ := HB15.out.own.val
        have hwD : IntKind.i64.wrap ((D.length : Int) + 1) = (D.length : Int) + 1 := IntWalk.i64_in _ (by omega)
        have HREC : Hid (Calls Tryd.prog 34 #[.pointer (some ⟨rg', 0, none⟩)] w15 fun e w' => ∃ ao cap, e = .returned (.slice ao (lastR D).length cap) ∧ Below w15.heap.size w15 w' ∧ SlOf (fun b => w15.heap.size ≤ b) w' (.slice ao (lastR D).length cap) 4 ((lastR D).flatMap recCells) (lastR D).length) := (show _ from recs_st HB15.out.st (by rw [lastR_len]; omega))
        have HEND : Hid (∀ (W : World) (ao : Option Addr) (cap : Nat), RD B sa w rg' c rb 153 ⟨m9.bs, false, -1, m9.wr⟩ false (lastR D) lv' D (.slice dao D.length dcp) W → SlOf (fun b => w15.heap.size ≤ b) W (.slice ao (lastR D).length cap) 4 ((lastR D).flatMap recCells) (lastR D).length → Calls Tryd.prog 48 #[.slice ao (lastR D).length cap, .slice dao D.length dcp] W fun e w' => e = .returned (.bool true) ∧ RD B sa w rg' c rb 153 ⟨m9.bs, false, -1, m9.wr⟩ false (lastR D) lv' D (.slice dao D.length dcp) w') := (show _ from fun W ao cap k hs => (ends_any _ _ D _ _ W hs k.own k.nil (fun j hj => (HLG9.out.inv.seq j hj).1) (by omega)).mono (by
          rintro e w' ⟨he, q, rfl⟩
          exact ⟨he, k.below (below_drewN' q (Below.refl _ _))⟩))
        cases zb with
        | true =>
          go_wp2_with fail
          refine HREC.out.mono ?_
          rintro e w16 ⟨ao6, cp6, rfl, b16, hs16⟩
          have HB16 := Lib.hid (HB15.out.below b16)
          have HS16 := Lib.hid hs16
          clear b16 hs16 HB15
          go_wp2_with fail
          refine (HEND.out _ _ _ HB16.out HS16.out).mono ?_
          rintro e w17 ⟨rfl, h17⟩
          have HB17 := Lib.hid h17
          clear h17
          go_wp2_with fail
          go_roundw
          case rel => exact ⟨i + 1, rg', lv', _, D, _, by have := HLT.out; omega, by omega, rfl, rfl, by go_num, by have := HLG9.out; rw [show (18 * ((i + 1 : Nat) : Int)) = 18 * i + 18 by omega]; exact this, HB17.out⟩
          case measure => have := HLT.out; simp [intOf]; omega
        | false =>
          go_wp2_with fail
          refine HREC.out.mono ?_
          rintro e w16 ⟨ao6, cp6, rfl, b16, hs16⟩
          have HB16 := Lib.hid (HB15.out.below b16)
          have HS16 := Lib.hid hs16
          clear b16 hs16 HB15
          go_wp2_with fail
          refine (HEND.out _ _ _ HB16.out HS16.out).mono ?_
          rintro e w17 ⟨rfl, h17⟩
          have HB17 := Lib.hid h17
          clear h17
          go_wp2_with fail
          go_roundw
          case rel => exact ⟨i + 1, rg', lv', _, D, _, by have := HLT.out; omega, by omega, rfl, rfl, by go_num, by have := HLG9.out; rw [show (18 * ((i + 1 : Nat) : Int)) = 18 * i + 18 by omega]; exact this, HB17.out⟩
          case measure => have := HLT.out; simp [intOf]; omega
    · obtain ⟨dao, dcp, rfl⟩ := HR.out.own.val
      have HREC : Hid (Calls Tryd.prog 34 #[.pointer (some ⟨rg, 0, none⟩)] wr fun e w' => ∃ ao cap, e = .returned (.slice ao (lastR D).length cap) ∧ Below wr.heap.size wr w' ∧ SlOf (fun b => wr.heap.size ≤ b) w' (.slice ao (lastR D).length cap) 4 ((lastR D).flatMap recCells) (lastR D).length) := (show _ from recs_st HR.out.st (by rw [lastR_len]; omega))
      have HEND : Hid (∀ (W : World) (ao : Option Addr) (cap : Nat), RD B sa w rg c rb 153 m false (lastR D) lv D (.slice dao D.length dcp) W → SlOf (fun b => wr.heap.size ≤ b) W (.slice ao (lastR D).length cap) 4 ((lastR D).flatMap recCells) (lastR D).length → Calls Tryd.prog 48 #[.slice ao (lastR D).length cap, .slice dao D.length dcp] W fun e w' => e = .returned (.bool true) ∧ RD B sa w rg c rb 153 m false (lastR D) lv D (.slice dao D.length dcp) w') := (show _ from fun W ao cap k hs => (ends_any _ _ D _ _ W hs k.own k.nil (fun j hj => (HK.out.inv.seq j hj).1) (by omega)).mono (by
        rintro e w' ⟨he, q, rfl⟩
        exact ⟨he, k.below (below_drewN' q (Below.refl _ _))⟩))
      go_wp2_with fail
      refine HREC.out.mono ?_
      rintro e w16 ⟨ao6, cp6, rfl, b16, hs16⟩
      have HB16 := Lib.hid (HR.out.below b16)
      have HS16 := Lib.hid hs16
      clear b16 hs16 HR
      go_wp2_with fail
      refine (HEND.out _ _ _ HB16.out HS16.out).mono ?_
      rintro e w17 ⟨rfl, h17⟩
      have HB17 := Lib.hid h17
      clear h17
      go_wp2_with fail
      go_ret
      exact ⟨rfl, HB17.out.st.bel⟩
end Go.Proofs.YtkhcepdeppmofaaDoor
