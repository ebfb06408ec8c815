/- The document's ring: a record's bytes; lists of records compared. -/
import Derived.Test.YtkhcepdeppmofaaDoorRingX
import Derived.Test.YtkhcepdeppmofaaDoorSame
import Derived.Deep.RegionHeld3
namespace Go.Proofs.YtkhcepdeppmofaaDoor
open Go.RowKit
set_option linter.unusedVariables false

set_option maxRecDepth 20000 in
set_option maxHeartbeats 2000000 in
theorem rBody_any (r : RecV) (h : RecSm r) (w : World) : Calls Tryd.prog 78 #[recAgg r] w fun e w' => e = .returned (.string (strOf (recBody r))) ∧ Below w.heap.size w w' := by
  obtain ⟨h1, h2, h3, h4⟩ := h
  have hN : ∀ (n many : Nat) (m : Int) (W : World), n < 9223372036854775808 → many ≤ 8 → m = many → BK r w.heap.size w W → Calls Tryd.prog 107 #[.int .i64 n, .int .i64 m] W fun e w' => e = .returned (.string (strOf (beB many n))) ∧ BK r w.heap.size w w' := by
    intro n many m W hn hm e hW
    subst e
    refine (rWide_any n many hm hn W).mono ?_
    rintro e w1 ⟨rfl, b⟩
    exact ⟨rfl, hW.below b⟩
  have HN := Lib.hid hN
  have k0 : BK r w.heap.size w (w.alloc (recC r)) := ⟨get_alloc_new _ _, (Below.refl _ _).alloc (Nat.le_refl _) _, Nat.le_refl _⟩
  have K0 := Lib.hid k0
  unfold recC at K0
  clear k0 hN
  unfold recAgg
  go_enter Tryd.func78, Tryd.ntmps78
  go_wp2_with fail
  generalize w.alloc _ = w0 at K0 ⊢
  have z1 : (strOf (beB 4 r.seq)).size = 4 := by rw [strOf_size, beB_length]
  have z2 : (strOf (beB 1 r.ent)).size = 1 := by rw [strOf_size, beB_length]
  have z3 : (strOf (beB 1 r.kind)).size = 1 := by rw [strOf_size, beB_length]
  have z4 : (strOf (beB 6 r.tick)).size = 6 := by rw [strOf_size, beB_length]
  go_cut [3] (fun s3 wx => s3 = .string (strOf (recHead r)) ∧ BK r w.heap.size w wx)
  case first =>
    go_region_held3 (fun w' => w'.cell? ⟨w.heap.size, 0, none⟩ = some (.int .i64 r.seq) ∧ w'.cell? ⟨w.heap.size, 1, none⟩ = some (.int .i64 r.ent) ∧ w'.cell? ⟨w.heap.size, 2, none⟩ = some (.int .i64 r.kind) ∧ w'.cell? ⟨w.heap.size, 3, none⟩ = some (.int .i64 r.tick))
      (first | exact K0.out.cells | exact k1.cells | exact k2.cells | exact k3.cells | exact k4.cells)
      (first | (go_at_call_of 107 (Value.int .i64 r.seq); refine (HN.out r.seq 4 4 _ h1 (by decide) rfl ?_).mono ?_; (repeat (first | exact K0.out | refine BK.drew ?_)); rintro e w1 ⟨rfl, k1⟩) | (go_at_call_of 107 (Value.int .i64 r.ent); refine (HN.out r.ent 1 1 _ h2 (by decide) rfl ?_).mono ?_; (repeat (first | exact k1 | refine BK.drew ?_)); rintro e w2 ⟨rfl, k2⟩) | (go_at_call_of 107 (Value.int .i64 r.kind); refine (HN.out r.kind 1 1 _ h3 (by decide) rfl ?_).mono ?_; (repeat (first | exact k2 | refine BK.drew ?_)); rintro e w3 ⟨rfl, k3⟩) | (go_at_call_of 107 (Value.int .i64 r.tick); refine (HN.out r.tick 6 6 _ h4 (by decide) rfl ?_).mono ?_; (repeat (first | exact k3 | refine BK.drew ?_)); rintro e w4 ⟨rfl, k4⟩))
    all_goals (go_wp2_with fail; go_meet)
    all_goals (refine ⟨?_, by repeat (first | exact k4 | refine BK.drew ?_)⟩; simp only [strOf_append, recHead])
  case rest =>
  obtain ⟨rfl, hk⟩ := hcut
  have HK := Lib.hid hk
  have hz : (strOf (recHead r)).size ≤ 100000 := by rw [strOf_size, recHead_length]; decide
  have HB : Hid (strOf (recHead r) ++ strOf (beB 4 (crc (recHead r))) = strOf (recBody r)) := (show strOf (recHead r) ++ strOf (beB 4 (crc (recHead r))) = strOf (recBody r) from strOf_append _ _)
  have hc := crc_lt (recHead r)
  have z5 : (strOf (recHead r)).size = 12 := by rw [strOf_size, recHead_length]
  have z6 : (strOf (beB 4 (crc (recHead r)))).size = 4 := by rw [strOf_size, beB_length]
  clear hk K0 z1 z2 z3 z4
  go_wp2_with fail
  refine (rSum_any _ _ hz).mono ?_
  rintro e w' ⟨rfl, rfl⟩
  rw [strOf_data]
  go_wp2_with fail
  refine (HN.out _ 4 4 _ (by omega) (by decide) rfl HK.out).mono ?_
  rintro e w5 ⟨rfl, k5⟩
  go_wp2_with fail
  go_ret
  exact ⟨by rw [← HB.out]; rfl, k5.bel⟩


set_option maxHeartbeats 1000000 in
theorem sameRecs_any (R R' : Nat → Prop) (la lb : List RecV) (va vb : Value) (w : World) (ha : SlOf R w va 4 (la.flatMap recCells) la.length) (hb : SlOf R' w vb 4 (lb.flatMap recCells) lb.length) (hn : la.length ≤ 1000) (hn2 : lb.length ≤ 1000) :
    Calls Tryd.prog 45 #[va, vb] w fun e w' => e = .returned (.bool (decide (la = lb))) ∧ ∃ q, w' = w.drewN q := by
  obtain ⟨ao, cap, rfl⟩ := ha.val
  obtain ⟨bo, cap2, rfl⟩ := hb.val
  have HA := Lib.hid ha
  have HB := Lib.hid hb
  clear ha hb
  by_cases hl : la.length = lb.length
  · have hl2 : ((la.length : Int) == (lb.length : Int)) = true := by simp [hl]
    have HL := Lib.hid hl
    clear hl
    go_enter Tryd.func45, Tryd.ntmps45
    go_wp2_with fail
    go_loopw [5] (fun s wr => ∃ i q : Nat, i ≤ la.length ∧ s = .int .i64 i ∧ Hid (∀ j, j < i → la[j]? = lb[j]?) ∧ wr = w.drewN q) (fun s _ => la.length - (intOf s).toNat)
    case atStart => exact ⟨0, 0, Nat.zero_le _, rfl, fun j hj => by omega, rfl⟩
    case round =>
      obtain ⟨i, q, hi, rfl, hall, rfl⟩ := hrel
      by_cases hlt : i < la.length
      · have hlt2 : i < lb.length := by have := HL.out; omega
        obtain ⟨b1, o1, rfl, _, hb1, hc1⟩ := rec_cells HA.out (by omega)
        obtain ⟨b2, o2, rfl, _, hb2, hc2⟩ := rec_cells HB.out (by omega)
        obtain ⟨p0, p1, p2, p3⟩ := hc1 i hlt
        obtain ⟨q0, q1, q2, q3⟩ := hc2 i hlt2
        obtain ⟨x, hx⟩ : ∃ x, x = la[i] := ⟨_, rfl⟩
        obtain ⟨y, hy⟩ : ∃ y, y = lb[i] := ⟨_, rfl⟩
        rw [← hx] at p0 p1 p2 p3
        rw [← hy] at q0 q1 q2 q3
        have HX : Hid (la[i]? = some x) := (show la[i]? = some x from by rw [hx]; exact List.getElem?_eq_getElem hlt)
        have HY : Hid (lb[i]? = some y) := (show lb[i]? = some y from by rw [hy]; exact List.getElem?_eq_getElem hlt2)
        clear hc1 hc2 hx hy
        have hi2 : (i : Int) < (lb.length : Int) := by omega
        have hgd := Tryd.recGuard
        by_cases he : x = y
        · have heq : ∀ w, (Op.equalIn 10000 60 (.agg #[.int .i64 x.seq, .int .i64 x.ent, .int .i64 x.kind, .int .i64 x.tick]) (.agg #[.int .i64 y.seq, .int .i64 y.ent, .int .i64 y.kind, .int .i64 y.tick])).run Tryd.prog w = .ok true w := fun w => by
            have := Tryd.recEq4 x.seq x.ent x.kind x.tick y.seq y.ent y.kind y.tick w
            unfold recV4 at this
            rw [this, he]; simp
          have HE := Lib.hid he
          clear he
          go_wp2_with fail
          go_quiet (fail)
          go_wp2_with fail
          go_roundw
          case rel => exact ⟨i + 1, _, by omega, by go_num, (show ∀ j, j < i + 1 → la[j]? = lb[j]? from fun j hj => by
            by_cases hji : j = i
            · subst hji; rw [HX.out, HY.out, HE.out]
            · exact hall.out j (by omega)), rfl⟩
          case measure => simp [intOf]; omega
        · have heq : ∀ w, (Op.equalIn 10000 60 (.agg #[.int .i64 x.seq, .int .i64 x.ent, .int .i64 x.kind, .int .i64 x.tick]) (.agg #[.int .i64 y.seq, .int .i64 y.ent, .int .i64 y.kind, .int .i64 y.tick])).run Tryd.prog w = .ok false w := fun w => by
            have := Tryd.recEq4 x.seq x.ent x.kind x.tick y.seq y.ent y.kind y.tick w
            unfold recV4 at this
            rw [this]
            have hne : ¬ ((x.seq : Int) = y.seq ∧ (x.ent : Int) = y.ent ∧ (x.kind : Int) = y.kind ∧ (x.tick : Int) = y.tick) := fun ⟨h1, h2, h3, h4⟩ => he (by
              obtain ⟨a, b, c, d⟩ := x
              obtain ⟨a', b', c', d'⟩ := y
              simp only at h1 h2 h3 h4
              obtain rfl : a = a' := by omega
              obtain rfl : b = b' := by omega
              obtain rfl : c = c' := by omega
              obtain rfl : d = d' := by omega
              rfl)
            rw [decide_eq_false hne]
          have HE := Lib.hid he
          clear he
          go_wp2_with fail
          go_quiet (fail)
          go_wp2_with fail
          go_ret
          refine ⟨ret_bool (decide_eq_false (fun e => HE.out ?_)).symm, drewN_drewN _ _ _⟩
          have h1 := HX.out
          rw [e, HY.out] at h1
          exact (Option.some.inj h1).symm
      · go_wp2_with fail
        go_ret
        refine ⟨ret_bool (decide_eq_true ?_).symm, _, rfl⟩
        apply List.ext_getElem?
        intro j
        by_cases hj : j < la.length
        · exact hall.out j (by omega)
        · rw [List.getElem?_eq_none (by omega), List.getElem?_eq_none (by have := HL.out; omega)]
  · have hl2 : ((la.length : Int) == (lb.length : Int)) = false := by simp; omega
    have HL := Lib.hid hl
    clear hl
    go_enter Tryd.func45, Tryd.ntmps45
    go_wp2_with fail
    go_ret
    exact ⟨ret_bool (decide_eq_false (fun e => HL.out (by rw [e]))).symm, 0, rfl⟩
end Go.Proofs.YtkhcepdeppmofaaDoor
