/- Package ring: body, held. -/
import Derived.Test.YtkhcepdeppmofaaDoorRingB
import Derived.Deep.RegionHeld3
namespace Go.Proofs.YtkhcepdeppmofaaDoor
open Go.RowKit
set_option linter.unusedVariables false

theorem strOf_append (a b : List UInt8) : strOf a ++ strOf b = strOf (a ++ b) := by
  apply ByteArray.ext
  rw [ByteArray.data_append]
  simp [strOf]
theorem strOf_data (l : List UInt8) : (strOf l).data.toList = l := by simp [strOf]
theorem strOf_size (l : List UInt8) : (strOf l).size = l.length := by simp [strOf, ByteArray.size]
def recAgg (r : RecV) : Value := .agg #[.int .i64 r.seq, .int .i64 r.ent, .int .i64 r.kind, .int .i64 r.tick]
def recC (r : RecV) : Obj := .cells #[.int .i64 r.seq, .int .i64 r.ent, .int .i64 r.kind, .int .i64 r.tick] 60
structure RecSm (r : RecV) : Prop where
  s : r.seq < 9223372036854775808
  e : r.ent < 9223372036854775808
  k : r.kind < 9223372036854775808
  t : r.tick < 9223372036854775808
theorem RecOk.sm {r : RecV} (h : RecOk r) : RecSm r := ⟨by have := h.s2; omega, by have := h.e; omega, by have := h.k; omega, by have := h.t; omega⟩
structure BK (r : RecV) (b : Nat) (w0 w : World) : Prop where
  box : w.heap[b]? = some (recC r)
  bel : Below w0.heap.size w0 w
  lo : w0.heap.size ≤ b
theorem BK.below {r : RecV} {b : Nat} {w0 w w' : World} (h : BK r b w0 w) (k : Below w.heap.size w w') : BK r b w0 w' := ⟨below_get k h.box (lt_of_get h.box), h.bel.trans (k.mono h.bel.size), h.lo⟩
theorem BK.drew {r : RecV} {b : Nat} {w0 w : World} (h : BK r b w0 w) : BK r b w0 w.drew := ⟨h.box, h.bel.drew, h.lo⟩
theorem BK.cells {r : RecV} {b : Nat} {w0 w : World} (h : BK r b w0 w) : w.cell? ⟨b, 0, none⟩ = some (.int .i64 r.seq) ∧ w.cell? ⟨b, 1, none⟩ = some (.int .i64 r.ent) ∧ w.cell? ⟨b, 2, none⟩ = some (.int .i64 r.kind) ∧ w.cell? ⟨b, 3, none⟩ = some (.int .i64 r.tick) :=
  four_cells h.box

set_option maxRecDepth 20000 in
set_option maxHeartbeats 2000000 in
theorem body_any (r : RecV) (h : RecSm r) (w : World) : Calls Tryd.prog 98 #[recAgg r] w fun e w' => e = .returned (.string (strOf (recBody r))) ∧ Below w.heap.size w w' := by
  obtain ⟨h1, h2, h3, h4⟩ := h
  have hN : ∀ (n many : Nat) (m : Int) (W : World), n < 9223372036854775808 → many ≤ 8 → m = many → BK r w.heap.size w W → Calls Tryd.prog 128 #[.int .i64 n, .int .i64 m] W fun e w' => e = .returned (.string (strOf (beB many n))) ∧ BK r w.heap.size w w' := by
    intro n many m W hn hm e hW
    subst e
    refine (number_any n many hm hn W).mono ?_
    rintro e w1 ⟨rfl, b⟩
    exact ⟨rfl, hW.below b⟩
  have HN := Lib.hid hN
  have k0 : BK r w.heap.size w (w.alloc (recC r)) := ⟨get_alloc_new _ _, (Below.refl _ _).alloc (Nat.le_refl _) _, Nat.le_refl _⟩
  have K0 := Lib.hid k0
  unfold recC at K0
  clear k0 hN
  unfold recAgg
  go_enter Tryd.func98, Tryd.ntmps98
  go_wp2_with fail
  generalize w.alloc _ = w0 at K0 ⊢
  have z1 : (strOf (beB 4 r.seq)).size = 4 := by rw [strOf_size, beB_length]
  have z2 : (strOf (beB 1 r.ent)).size = 1 := by rw [strOf_size, beB_length]
  have z3 : (strOf (beB 1 r.kind)).size = 1 := by rw [strOf_size, beB_length]
  have z4 : (strOf (beB 6 r.tick)).size = 6 := by rw [strOf_size, beB_length]
  go_cut [3] (fun s3 wx => s3 = .string (strOf (recHead r)) ∧ BK r w.heap.size w wx)
  case first =>
    go_region_held3 (fun w' => w'.cell? ⟨w.heap.size, 0, none⟩ = some (.int .i64 r.seq) ∧ w'.cell? ⟨w.heap.size, 1, none⟩ = some (.int .i64 r.ent) ∧ w'.cell? ⟨w.heap.size, 2, none⟩ = some (.int .i64 r.kind) ∧ w'.cell? ⟨w.heap.size, 3, none⟩ = some (.int .i64 r.tick))
      (first | exact K0.out.cells | exact k1.cells | exact k2.cells | exact k3.cells | exact k4.cells)
      (first | (go_at_call_of 128 (Value.int .i64 r.seq); refine (HN.out r.seq 4 4 _ h1 (by decide) rfl ?_).mono ?_; (repeat (first | exact K0.out | refine BK.drew ?_)); rintro e w1 ⟨rfl, k1⟩) | (go_at_call_of 128 (Value.int .i64 r.ent); refine (HN.out r.ent 1 1 _ h2 (by decide) rfl ?_).mono ?_; (repeat (first | exact k1 | refine BK.drew ?_)); rintro e w2 ⟨rfl, k2⟩) | (go_at_call_of 128 (Value.int .i64 r.kind); refine (HN.out r.kind 1 1 _ h3 (by decide) rfl ?_).mono ?_; (repeat (first | exact k2 | refine BK.drew ?_)); rintro e w3 ⟨rfl, k3⟩) | (go_at_call_of 128 (Value.int .i64 r.tick); refine (HN.out r.tick 6 6 _ h4 (by decide) rfl ?_).mono ?_; (repeat (first | exact k3 | refine BK.drew ?_)); rintro e w4 ⟨rfl, k4⟩))
    all_goals (go_wp2_with fail; go_meet)
    all_goals (refine ⟨?_, by repeat (first | exact k4 | refine BK.drew ?_)⟩; simp only [strOf_append, recHead])
  case rest =>
  obtain ⟨rfl, hk⟩ := hcut
  have HK := Lib.hid hk
  have hz : (strOf (recHead r)).size ≤ 100000 := by rw [strOf_size, recHead_length]; decide
  have HB : Hid (strOf (recHead r) ++ strOf (beB 4 (crc (recHead r))) = strOf (recBody r)) := (show strOf (recHead r) ++ strOf (beB 4 (crc (recHead r))) = strOf (recBody r) from strOf_append _ _)
  have hc := crc_lt (recHead r)
  have z5 : (strOf (recHead r)).size = 12 := by rw [strOf_size, recHead_length]
  have z6 : (strOf (beB 4 (crc (recHead r)))).size = 4 := by rw [strOf_size, beB_length]
  clear hk K0 z1 z2 z3 z4
  go_wp2_with fail
  refine (sum_any _ _ hz).mono ?_
  rintro e w' ⟨rfl, rfl⟩
  rw [strOf_data]
  go_wp2_with fail
  refine (HN.out _ 4 4 _ (by omega) (by decide) rfl HK.out).mono ?_
  rintro e w5 ⟨rfl, k5⟩
  go_wp2_with fail
  go_ret
  exact ⟨by rw [← HB.out]; rfl, k5.bel⟩

/-! ### held -/
theorem ext_data (s : ByteArray) (a b : Nat) : (s.extract a b).data.toList = (s.data.toList.drop a).take (b - a) := by
  rw [ByteArray.data_extract, Array.toList_extract]
theorem ext_size (s : ByteArray) (a b : Nat) (h : b ≤ s.size) : (s.extract a b).size = b - a := by
  rw [ByteArray.size_extract]; omega
theorem held_mid (w : World) (r : RecV) : BK r (w.heap.size + 1) w ((w.alloc (recC ⟨0, 0, 0, 0⟩)).alloc (recC r)).drew ∧ ((w.alloc (recC ⟨0, 0, 0, 0⟩)).alloc (recC r)).drew.heap[w.heap.size]? = some (recC ⟨0, 0, 0, 0⟩) := by
  have n1 := get_alloc_new (w.alloc (recC ⟨0, 0, 0, 0⟩)) (recC r)
  rw [World.size_alloc] at n1
  exact ⟨⟨n1, (((Below.refl _ _).alloc (Nat.le_refl _) _).alloc (by simp) _).drew, by omega⟩, get_alloc_old _ (get_alloc_new _ _)⟩
def recZ (o : Option RecV) : RecV := o.getD ⟨0, 0, 0, 0⟩
set_option maxRecDepth 20000 in
set_option maxHeartbeats 2000000 in
theorem held_any (k : Nat) (hk : k < 9) (s : ByteArray) (hs : s.size = 17) (w : World) : Calls Tryd.prog 68 #[.int .i64 k, .string s] w fun e w' => e = .returned (recAgg (recZ (heldRec k s.data.toList))) ∧ Below w.heap.size w w' := by
  have hl : s.data.toList.length = 17 := hs
  have HL := Lib.hid hl
  have hRd : ∀ (a b : Nat) (n : Nat) (W : World), b ≤ 17 → b ≤ a + 6 → readB ((s.data.toList.drop a).take (b - a)) = n → Calls Tryd.prog 97 #[.string (s.extract a b)] W fun e w' => e = .returned (.int .i64 n) ∧ W = w' := by
    intro a b n W h1 h2 h3
    have := read_any (s.extract a b) (by rw [ext_size _ _ _ (by omega)]; omega) W
    rw [ext_data, h3] at this
    exact this
  obtain ⟨r, hr⟩ : ∃ r, r = recOf s.data.toList := ⟨_, rfl⟩
  have hm : r.seq < 4294967296 ∧ RecSm r := by
    have h1 := readB_lt (s.data.toList.take 4)
    have h2 := readB_lt ((s.data.toList.drop 4).take 1)
    have h3 := readB_lt ((s.data.toList.drop 5).take 1)
    have h4 := readB_lt ((s.data.toList.drop 6).take 6)
    simp only [List.length_take, List.length_drop, hl] at h1 h2 h3 h4
    subst hr
    exact ⟨h1, Nat.lt_trans h1 (by decide), Nat.lt_trans h2 (by decide), Nat.lt_trans h3 (by decide), Nat.lt_trans h4 (by decide)⟩
  have r1 := fun W => hRd 0 4 r.seq W (by decide) (by decide) (by rw [hr]; rfl)
  have r2 := fun W => hRd 4 5 r.ent W (by decide) (by decide) (by rw [hr]; rfl)
  have r3 := fun W => hRd 5 6 r.kind W (by decide) (by decide) (by rw [hr]; rfl)
  have r4 := fun W => hRd 6 12 r.tick W (by decide) (by decide) (by rw [hr]; rfl)
  have R1 := Lib.hid r1
  have R2 := Lib.hid r2
  have R3 := Lib.hid r3
  have R4 := Lib.hid r4
  have HR := Lib.hid hr
  clear r1 r2 r3 r4 hRd hr hl
  go_enter Tryd.func68, Tryd.ntmps68
  go_wp2_with fail
  go_cut [5] (fun s5 wx => s5 = .pointer (some ⟨w.heap.size + 1, 0, none⟩) ∧ BK r (w.heap.size + 1) w wx ∧ wx.heap[w.heap.size]? = some (recC ⟨0, 0, 0, 0⟩))
  case first =>
    go_region_held3 (fun _ => True) (exact trivial)
      (first | (go_at_call_of 97 (Value.string (s.extract 0 4)); refine (R1.out _).mono ?_; rintro e w1 ⟨rfl, rfl⟩) | (go_at_call_of 97 (Value.string (s.extract 4 5)); refine (R2.out _).mono ?_; rintro e w1 ⟨rfl, rfl⟩) | (go_at_call_of 97 (Value.string (s.extract 5 6)); refine (R3.out _).mono ?_; rintro e w1 ⟨rfl, rfl⟩) | (go_at_call_of 97 (Value.string (s.extract 6 12)); refine (R4.out _).mono ?_; rintro e w1 ⟨rfl, rfl⟩))
    all_goals (go_wp2_with fail; go_meet)
    all_goals exact ⟨rfl, held_mid w r⟩
  case rest =>
  obtain ⟨rfl, hk5, hz⟩ := hcut
  obtain ⟨hm1, hm2⟩ := hm
  have HK := Lib.hid hk5
  have HZ := Lib.hid hz
  obtain ⟨c0, c1, c2, c3⟩ := hk5.cells
  obtain ⟨z0, z1, z2, z3⟩ := four_cells hz
  have zf : ∀ o, wc.frozen? ⟨w.heap.size, o, none⟩ = false := by intro o; unfold recC at hz; simp [World.frozen?, hz]
  have HM := Lib.hid hm2
  clear hk5 hz R1 R2 R3 R4 hm2
  have hnone : ¬ (1 ≤ r.seq ∧ (r.seq - 1) % 9 = k ∧ recBody r ++ [165] = s.data.toList) → recZ (heldRec k s.data.toList) = ⟨0, 0, 0, 0⟩ := fun h => by
    unfold heldRec
    rw [← HR.out, if_neg h]; rfl
  by_cases h1 : r.seq < 1
  · have HN := Lib.hid (hnone (by omega))
    have hd : decide ((r.seq : Int) < 1) = true := decide_eq_true (by omega)
    clear hnone
    go_wp2_with fail
    refine bodyPost_ret (v := recAgg ⟨0, 0, 0, 0⟩) (by simp [recAgg, results, Tryd.results68, go_sem, z0, z1, z2, z3, World.cell?_setCell_same, World.cell?_setCell_other]) rfl ?_
    exact ⟨by rw [HN.out], (((HK.out.bel.setCell (p := ⟨w.heap.size, 0, none⟩) (Nat.le_refl _) _).setCell (p := ⟨w.heap.size, 1, none⟩) (Nat.le_refl _) _).setCell (p := ⟨w.heap.size, 2, none⟩) (Nat.le_refl _) _).setCell (p := ⟨w.heap.size, 3, none⟩) (Nat.le_refl _) _⟩
  have hd : decide ((r.seq : Int) < 1) = false := decide_eq_false (by omega)
  have hn1 : (1 : Int) ≤ r.seq := by omega
  by_cases h2 : (r.seq - 1) % 9 = k
  · have h2b : (((r.seq : Int) - 1) % 9 != (k : Int)) = false := by simp; omega
    have HZ1 : (strOf (recBody r)).size = 16 := by rw [strOf_size, recBody_length]
    have hstr : ((strOf (recBody r) ++ ⟨#[165]⟩).toList = s.toList) ↔ recBody r ++ [165] = s.data.toList := by
      rw [ByteArray.toList_eq, ByteArray.toList_eq, ByteArray.data_append, Array.toList_append, strOf_data]
    by_cases h3 : recBody r ++ [165] = s.data.toList
    · have ht : ((strOf (recBody r) ++ ⟨#[165]⟩).toList == s.toList) = true := by simp [hstr, h3]
      have HN : Hid (recZ (heldRec k s.data.toList) = r) := (show recZ (heldRec k s.data.toList) = r from by
        unfold heldRec
        rw [← HR.out, if_pos ⟨by omega, h2, h3⟩]; rfl)
      clear hnone h2 h3 hstr
      go_wp2_with fail
      refine (body_any r HM.out _).mono ?_
      rintro e w5 ⟨rfl, b5⟩
      obtain ⟨q0, q1, q2, q3⟩ := (HK.out.below b5).cells
      have hz5 := below_get b5 HZ.out (lt_of_get HZ.out)
      obtain ⟨y0, y1, y2, y3⟩ := four_cells hz5
      have yf : ∀ o, w5.frozen? ⟨w.heap.size, o, none⟩ = false := by intro o; unfold recC at hz5; simp [World.frozen?, hz5]
      have HB := Lib.hid (HK.out.below b5).bel
      clear z0 z1 z2 z3 zf c0 c1 c2 c3 b5 hz5
      go_wp2_with fail
      refine bodyPost_ret (v := recAgg r) (by simp [recAgg, results, Tryd.results68, go_sem, y0, y1, y2, y3, World.cell?_setCell_same, World.cell?_setCell_other]) rfl ?_
      exact ⟨by rw [HN.out], (((HB.out.setCell (p := ⟨w.heap.size, 0, none⟩) (Nat.le_refl _) _).setCell (p := ⟨w.heap.size, 1, none⟩) (Nat.le_refl _) _).setCell (p := ⟨w.heap.size, 2, none⟩) (Nat.le_refl _) _).setCell (p := ⟨w.heap.size, 3, none⟩) (Nat.le_refl _) _⟩
    · have ht : ((strOf (recBody r) ++ ⟨#[165]⟩).toList == s.toList) = false := by simp [hstr, h3]
      have HN := Lib.hid (hnone (fun h => h3 h.2.2))
      clear hnone h2 h3 hstr
      go_wp2_with fail
      refine (body_any r HM.out _).mono ?_
      rintro e w5 ⟨rfl, b5⟩
      have hz5 := below_get b5 HZ.out (lt_of_get HZ.out)
      obtain ⟨y0, y1, y2, y3⟩ := four_cells hz5
      have yf : ∀ o, w5.frozen? ⟨w.heap.size, o, none⟩ = false := by intro o; unfold recC at hz5; simp [World.frozen?, hz5]
      have HB := Lib.hid (HK.out.below b5).bel
      clear z0 z1 z2 z3 zf c0 c1 c2 c3 b5 hz5
      go_wp2_with fail
      refine bodyPost_ret (v := recAgg ⟨0, 0, 0, 0⟩) (by simp [recAgg, results, Tryd.results68, go_sem, y0, y1, y2, y3, World.cell?_setCell_same, World.cell?_setCell_other]) rfl ?_
      exact ⟨by rw [HN.out], (((HB.out.setCell (p := ⟨w.heap.size, 0, none⟩) (Nat.le_refl _) _).setCell (p := ⟨w.heap.size, 1, none⟩) (Nat.le_refl _) _).setCell (p := ⟨w.heap.size, 2, none⟩) (Nat.le_refl _) _).setCell (p := ⟨w.heap.size, 3, none⟩) (Nat.le_refl _) _⟩
  · have HN := Lib.hid (hnone (fun h => h2 h.2.1))
    have h2b : (((r.seq : Int) - 1) % 9 != (k : Int)) = true := by simp; omega
    clear hnone h2
    go_wp2_with fail
    refine bodyPost_ret (v := recAgg ⟨0, 0, 0, 0⟩) (by simp [recAgg, results, Tryd.results68, go_sem, z0, z1, z2, z3, World.cell?_setCell_same, World.cell?_setCell_other]) rfl ?_
    exact ⟨by rw [HN.out], (((HK.out.bel.setCell (p := ⟨w.heap.size, 0, none⟩) (Nat.le_refl _) _).setCell (p := ⟨w.heap.size, 1, none⟩) (Nat.le_refl _) _).setCell (p := ⟨w.heap.size, 2, none⟩) (Nat.le_refl _) _).setCell (p := ⟨w.heap.size, 3, none⟩) (Nat.le_refl _) _⟩
end Go.Proofs.YtkhcepdeppmofaaDoor
