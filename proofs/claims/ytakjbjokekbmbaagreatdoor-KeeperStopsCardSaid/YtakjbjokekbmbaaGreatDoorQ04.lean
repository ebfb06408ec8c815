/- Package ring: body, held. -/
import Derived.Test.YtakjbjokekbmbaaGreatDoorQ03
import Derived.Deep.RegionHeld3
import Derived.Test.YtakjbjokekbmbaaGreatDoorQ01
import Derived.Lib.BufferWrite
namespace Go.Proofs.YtakjbjokekbmbaaGreatDoor
open Go.RowKit
set_option linter.unusedVariables false

theorem strOf_append (a b : List UInt8) : strOf a ++ strOf b = strOf (a ++ b) := by
  apply ByteArray.ext
  rw [ByteArray.data_append]
  simp [strOf]
theorem strOf_data (l : List UInt8) : (strOf l).data.toList = l := by simp [strOf]
theorem strOf_size (l : List UInt8) : (strOf l).size = l.length := by simp [strOf, ByteArray.size]
def recAgg (r : RecV) : Value := .agg #[.int .i64 r.seq, .int .i64 r.ent, .int .i64 r.kind, .int .i64 r.tick]
def recC (r : RecV) : Obj := .cells #[.int .i64 r.seq, .int .i64 r.ent, .int .i64 r.kind, .int .i64 r.tick] 63
structure RecSm (r : RecV) : Prop where
  s : r.seq < 9223372036854775808
  e : r.ent < 9223372036854775808
  k : r.kind < 9223372036854775808
  t : r.tick < 9223372036854775808
theorem RecOk.sm {r : RecV} (h : RecOk r) : RecSm r := ⟨by have := h.s2; omega, by have := h.e; omega, by have := h.k; omega, by have := h.t; omega⟩
structure BK (r : RecV) (b : Nat) (w0 w : World) : Prop where
  box : w.heap[b]? = some (recC r)
  bel : Below w0.heap.size w0 w
  lo : w0.heap.size ≤ b
theorem BK.below {r : RecV} {b : Nat} {w0 w w' : World} (h : BK r b w0 w) (k : Below w.heap.size w w') : BK r b w0 w' := ⟨below_get k h.box (lt_of_get h.box), h.bel.trans (k.mono h.bel.size), h.lo⟩
theorem BK.drew {r : RecV} {b : Nat} {w0 w : World} (h : BK r b w0 w) : BK r b w0 w.drew := ⟨h.box, h.bel.drew, h.lo⟩
theorem BK.cells {r : RecV} {b : Nat} {w0 w : World} (h : BK r b w0 w) : w.cell? ⟨b, 0, none⟩ = some (.int .i64 r.seq) ∧ w.cell? ⟨b, 1, none⟩ = some (.int .i64 r.ent) ∧ w.cell? ⟨b, 2, none⟩ = some (.int .i64 r.kind) ∧ w.cell? ⟨b, 3, none⟩ = some (.int .i64 r.tick) :=
  four_cells h.box

set_option maxRecDepth 20000 in
set_option maxHeartbeats 2000000 in
theorem body_any (r : RecV) (h : RecSm r) (w : World) : Calls Tryz.prog 114 #[recAgg r] w fun e w' => e = .returned (.string (strOf (recBody r))) ∧ Below w.heap.size w w' := by
  obtain ⟨h1, h2, h3, h4⟩ := h
  have hN : ∀ (n many : Nat) (m : Int) (W : World), n < 9223372036854775808 → many ≤ 8 → m = many → BK r w.heap.size w W → Calls Tryz.prog 134 #[.int .i64 n, .int .i64 m] W fun e w' => e = .returned (.string (strOf (beB many n))) ∧ BK r w.heap.size w w' := by
    intro n many m W hn hm e hW
    subst e
    refine (ringNumber_any n many hm hn W).mono ?_
    rintro e w1 ⟨rfl, b⟩
    exact ⟨rfl, hW.below b⟩
  have HN := Lib.hid hN
  have k0 : BK r w.heap.size w (w.alloc (recC r)) := ⟨get_alloc_new _ _, (Below.refl _ _).alloc (Nat.le_refl _) _, Nat.le_refl _⟩
  have K0 := Lib.hid k0
  unfold recC at K0
  clear k0 hN
  unfold recAgg
  go_enter Tryz.func114, Tryz.ntmps114
  go_wp2_with fail
  generalize w.alloc _ = w0 at K0 ⊢
  have z1 : (strOf (beB 4 r.seq)).size = 4 := by rw [strOf_size, beB_length]
  have z2 : (strOf (beB 1 r.ent)).size = 1 := by rw [strOf_size, beB_length]
  have z3 : (strOf (beB 1 r.kind)).size = 1 := by rw [strOf_size, beB_length]
  have z4 : (strOf (beB 6 r.tick)).size = 6 := by rw [strOf_size, beB_length]
  go_cut [3] (fun s3 wx => s3 = .string (strOf (recHead r)) ∧ BK r w.heap.size w wx)
  case first =>
    go_region_held3 (fun w' => w'.cell? ⟨w.heap.size, 0, none⟩ = some (.int .i64 r.seq) ∧ w'.cell? ⟨w.heap.size, 1, none⟩ = some (.int .i64 r.ent) ∧ w'.cell? ⟨w.heap.size, 2, none⟩ = some (.int .i64 r.kind) ∧ w'.cell? ⟨w.heap.size, 3, none⟩ = some (.int .i64 r.tick))
      (first | exact K0.out.cells | exact k1.cells | exact k2.cells | exact k3.cells | exact k4.cells)
      (first | (go_at_call_of 134 (Value.int .i64 r.seq); refine (HN.out r.seq 4 4 _ h1 (by decide) rfl ?_).mono ?_; (repeat (first | exact K0.out | refine BK.drew ?_)); rintro e w1 ⟨rfl, k1⟩) | (go_at_call_of 134 (Value.int .i64 r.ent); refine (HN.out r.ent 1 1 _ h2 (by decide) rfl ?_).mono ?_; (repeat (first | exact k1 | refine BK.drew ?_)); rintro e w2 ⟨rfl, k2⟩) | (go_at_call_of 134 (Value.int .i64 r.kind); refine (HN.out r.kind 1 1 _ h3 (by decide) rfl ?_).mono ?_; (repeat (first | exact k2 | refine BK.drew ?_)); rintro e w3 ⟨rfl, k3⟩) | (go_at_call_of 134 (Value.int .i64 r.tick); refine (HN.out r.tick 6 6 _ h4 (by decide) rfl ?_).mono ?_; (repeat (first | exact k3 | refine BK.drew ?_)); rintro e w4 ⟨rfl, k4⟩))
    all_goals (go_wp2_with fail; go_meet)
    all_goals (refine ⟨?_, by repeat (first | exact k4 | refine BK.drew ?_)⟩; simp only [strOf_append, recHead])
  case rest =>
  obtain ⟨rfl, hk⟩ := hcut
  have HK := Lib.hid hk
  have hz : (strOf (recHead r)).size ≤ 100000 := by rw [strOf_size, recHead_length]; decide
  have HB : Hid (strOf (recHead r) ++ strOf (beB 4 (crc (recHead r))) = strOf (recBody r)) := (show strOf (recHead r) ++ strOf (beB 4 (crc (recHead r))) = strOf (recBody r) from strOf_append _ _)
  have hc := crc_lt (recHead r)
  have z5 : (strOf (recHead r)).size = 12 := by rw [strOf_size, recHead_length]
  have z6 : (strOf (beB 4 (crc (recHead r)))).size = 4 := by rw [strOf_size, beB_length]
  clear hk K0 z1 z2 z3 z4
  go_wp2_with fail
  refine (sum_any _ _ hz).mono ?_
  rintro e w' ⟨rfl, rfl⟩
  rw [strOf_data]
  go_wp2_with fail
  refine (HN.out _ 4 4 _ (by omega) (by decide) rfl HK.out).mono ?_
  rintro e w5 ⟨rfl, k5⟩
  go_wp2_with fail
  go_ret
  exact ⟨by rw [← HB.out]; rfl, k5.bel⟩

/-! ### held -/
theorem ext_data (s : ByteArray) (a b : Nat) : (s.extract a b).data.toList = (s.data.toList.drop a).take (b - a) := by
  rw [ByteArray.data_extract, Array.toList_extract]
theorem ext_size (s : ByteArray) (a b : Nat) (h : b ≤ s.size) : (s.extract a b).size = b - a := by
  rw [ByteArray.size_extract]; omega
theorem held_mid (w : World) (r : RecV) : BK r (w.heap.size + 1) w ((w.alloc (recC ⟨0, 0, 0, 0⟩)).alloc (recC r)).drew ∧ ((w.alloc (recC ⟨0, 0, 0, 0⟩)).alloc (recC r)).drew.heap[w.heap.size]? = some (recC ⟨0, 0, 0, 0⟩) := by
  have n1 := get_alloc_new (w.alloc (recC ⟨0, 0, 0, 0⟩)) (recC r)
  rw [World.size_alloc] at n1
  exact ⟨⟨n1, (((Below.refl _ _).alloc (Nat.le_refl _) _).alloc (by simp) _).drew, by omega⟩, get_alloc_old _ (get_alloc_new _ _)⟩
def recZ (o : Option RecV) : RecV := o.getD ⟨0, 0, 0, 0⟩
set_option maxRecDepth 20000 in
set_option maxHeartbeats 2000000 in
theorem held_any (k : Nat) (hk : k < 9) (s : ByteArray) (hs : s.size = 17) (w : World) : Calls Tryz.prog 95 #[.int .i64 k, .string s] w fun e w' => e = .returned (recAgg (recZ (heldRec k s.data.toList))) ∧ Below w.heap.size w w' := by
  have hl : s.data.toList.length = 17 := hs
  have HL := Lib.hid hl
  have hRd : ∀ (a b : Nat) (n : Nat) (W : World), b ≤ 17 → b ≤ a + 6 → readB ((s.data.toList.drop a).take (b - a)) = n → Calls Tryz.prog 118 #[.string (s.extract a b)] W fun e w' => e = .returned (.int .i64 n) ∧ W = w' := by
    intro a b n W h1 h2 h3
    have := ringRead_any (s.extract a b) (by rw [ext_size _ _ _ (by omega)]; omega) W
    rw [ext_data, h3] at this
    exact this
  obtain ⟨r, hr⟩ : ∃ r, r = recOf s.data.toList := ⟨_, rfl⟩
  have hm : r.seq < 4294967296 ∧ RecSm r := by
    have h1 := readB_lt (s.data.toList.take 4)
    have h2 := readB_lt ((s.data.toList.drop 4).take 1)
    have h3 := readB_lt ((s.data.toList.drop 5).take 1)
    have h4 := readB_lt ((s.data.toList.drop 6).take 6)
    simp only [List.length_take, List.length_drop, hl] at h1 h2 h3 h4
    subst hr
    exact ⟨h1, Nat.lt_trans h1 (by decide), Nat.lt_trans h2 (by decide), Nat.lt_trans h3 (by decide), Nat.lt_trans h4 (by decide)⟩
  have r1 := fun W => hRd 0 4 r.seq W (by decide) (by decide) (by rw [hr]; rfl)
  have r2 := fun W => hRd 4 5 r.ent W (by decide) (by decide) (by rw [hr]; rfl)
  have r3 := fun W => hRd 5 6 r.kind W (by decide) (by decide) (by rw [hr]; rfl)
  have r4 := fun W => hRd 6 12 r.tick W (by decide) (by decide) (by rw [hr]; rfl)
  have R1 := Lib.hid r1
  have R2 := Lib.hid r2
  have R3 := Lib.hid r3
  have R4 := Lib.hid r4
  have HR := Lib.hid hr
  clear r1 r2 r3 r4 hRd hr hl
  go_enter Tryz.func95, Tryz.ntmps95
  go_wp2_with fail
  go_cut [5] (fun s5 wx => s5 = .pointer (some ⟨w.heap.size + 1, 0, none⟩) ∧ BK r (w.heap.size + 1) w wx ∧ wx.heap[w.heap.size]? = some (recC ⟨0, 0, 0, 0⟩))
  case first =>
    go_region_held3 (fun _ => True) (exact trivial)
      (first | (go_at_call_of 118 (Value.string (s.extract 0 4)); refine (R1.out _).mono ?_; rintro e w1 ⟨rfl, rfl⟩) | (go_at_call_of 118 (Value.string (s.extract 4 5)); refine (R2.out _).mono ?_; rintro e w1 ⟨rfl, rfl⟩) | (go_at_call_of 118 (Value.string (s.extract 5 6)); refine (R3.out _).mono ?_; rintro e w1 ⟨rfl, rfl⟩) | (go_at_call_of 118 (Value.string (s.extract 6 12)); refine (R4.out _).mono ?_; rintro e w1 ⟨rfl, rfl⟩))
    all_goals (go_wp2_with fail; go_meet)
    all_goals exact ⟨rfl, held_mid w r⟩
  case rest =>
  obtain ⟨rfl, hk5, hz⟩ := hcut
  obtain ⟨hm1, hm2⟩ := hm
  have HK := Lib.hid hk5
  have HZ := Lib.hid hz
  obtain ⟨c0, c1, c2, c3⟩ := hk5.cells
  obtain ⟨z0, z1, z2, z3⟩ := four_cells hz
  have zf : ∀ o, wc.frozen? ⟨w.heap.size, o, none⟩ = false := by intro o; unfold recC at hz; simp [World.frozen?, hz]
  have HM := Lib.hid hm2
  clear hk5 hz R1 R2 R3 R4 hm2
  have hnone : ¬ (1 ≤ r.seq ∧ (r.seq - 1) % 9 = k ∧ recBody r ++ [165] = s.data.toList) → recZ (heldRec k s.data.toList) = ⟨0, 0, 0, 0⟩ := fun h => by
    unfold heldRec
    rw [← HR.out, if_neg h]; rfl
  by_cases h1 : r.seq < 1
  · have HN := Lib.hid (hnone (by omega))
    have hd : decide ((r.seq : Int) < 1) = true := decide_eq_true (by omega)
    clear hnone
    go_wp2_with fail
    refine bodyPost_ret (v := recAgg ⟨0, 0, 0, 0⟩) (by simp [recAgg, results, Tryz.results95, go_sem, z0, z1, z2, z3, World.cell?_setCell_same, World.cell?_setCell_other]) rfl ?_
    exact ⟨by rw [HN.out], (((HK.out.bel.setCell (p := ⟨w.heap.size, 0, none⟩) (Nat.le_refl _) _).setCell (p := ⟨w.heap.size, 1, none⟩) (Nat.le_refl _) _).setCell (p := ⟨w.heap.size, 2, none⟩) (Nat.le_refl _) _).setCell (p := ⟨w.heap.size, 3, none⟩) (Nat.le_refl _) _⟩
  have hd : decide ((r.seq : Int) < 1) = false := decide_eq_false (by omega)
  have hn1 : (1 : Int) ≤ r.seq := by omega
  by_cases h2 : (r.seq - 1) % 9 = k
  · have h2b : (((r.seq : Int) - 1) % 9 != (k : Int)) = false := by simp; omega
    have HZ1 : (strOf (recBody r)).size = 16 := by rw [strOf_size, recBody_length]
    have hstr : ((strOf (recBody r) ++ ⟨#[165]⟩).toList = s.toList) ↔ recBody r ++ [165] = s.data.toList := by
      rw [ByteArray.toList_eq, ByteArray.toList_eq, ByteArray.data_append, Array.toList_append, strOf_data]
    by_cases h3 : recBody r ++ [165] = s.data.toList
    · have ht : ((strOf (recBody r) ++ ⟨#[165]⟩).toList == s.toList) = true := by simp [hstr, h3]
      have HN : Hid (recZ (heldRec k s.data.toList) = r) := (show recZ (heldRec k s.data.toList) = r from by
        unfold heldRec
        rw [← HR.out, if_pos ⟨by omega, h2, h3⟩]; rfl)
      clear hnone h2 h3 hstr
      go_wp2_with fail
      refine (body_any r HM.out _).mono ?_
      rintro e w5 ⟨rfl, b5⟩
      obtain ⟨q0, q1, q2, q3⟩ := (HK.out.below b5).cells
      have hz5 := below_get b5 HZ.out (lt_of_get HZ.out)
      obtain ⟨y0, y1, y2, y3⟩ := four_cells hz5
      have yf : ∀ o, w5.frozen? ⟨w.heap.size, o, none⟩ = false := by intro o; unfold recC at hz5; simp [World.frozen?, hz5]
      have HB := Lib.hid (HK.out.below b5).bel
      clear z0 z1 z2 z3 zf c0 c1 c2 c3 b5 hz5
      go_wp2_with fail
      refine bodyPost_ret (v := recAgg r) (by simp [recAgg, results, Tryz.results95, go_sem, y0, y1, y2, y3, World.cell?_setCell_same, World.cell?_setCell_other]) rfl ?_
      exact ⟨by rw [HN.out], (((HB.out.setCell (p := ⟨w.heap.size, 0, none⟩) (Nat.le_refl _) _).setCell (p := ⟨w.heap.size, 1, none⟩) (Nat.le_refl _) _).setCell (p := ⟨w.heap.size, 2, none⟩) (Nat.le_refl _) _).setCell (p := ⟨w.heap.size, 3, none⟩) (Nat.le_refl _) _⟩
    · have ht : ((strOf (recBody r) ++ ⟨#[165]⟩).toList == s.toList) = false := by simp [hstr, h3]
      have HN := Lib.hid (hnone (fun h => h3 h.2.2))
      clear hnone h2 h3 hstr
      go_wp2_with fail
      refine (body_any r HM.out _).mono ?_
      rintro e w5 ⟨rfl, b5⟩
      have hz5 := below_get b5 HZ.out (lt_of_get HZ.out)
      obtain ⟨y0, y1, y2, y3⟩ := four_cells hz5
      have yf : ∀ o, w5.frozen? ⟨w.heap.size, o, none⟩ = false := by intro o; unfold recC at hz5; simp [World.frozen?, hz5]
      have HB := Lib.hid (HK.out.below b5).bel
      clear z0 z1 z2 z3 zf c0 c1 c2 c3 b5 hz5
      go_wp2_with fail
      refine bodyPost_ret (v := recAgg ⟨0, 0, 0, 0⟩) (by simp [recAgg, results, Tryz.results95, go_sem, y0, y1, y2, y3, World.cell?_setCell_same, World.cell?_setCell_other]) rfl ?_
      exact ⟨by rw [HN.out], (((HB.out.setCell (p := ⟨w.heap.size, 0, none⟩) (Nat.le_refl _) _).setCell (p := ⟨w.heap.size, 1, none⟩) (Nat.le_refl _) _).setCell (p := ⟨w.heap.size, 2, none⟩) (Nat.le_refl _) _).setCell (p := ⟨w.heap.size, 3, none⟩) (Nat.le_refl _) _⟩
  · have HN := Lib.hid (hnone (fun h => h2 h.2.1))
    have h2b : (((r.seq : Int) - 1) % 9 != (k : Int)) = true := by simp; omega
    clear hnone h2
    go_wp2_with fail
    refine bodyPost_ret (v := recAgg ⟨0, 0, 0, 0⟩) (by simp [recAgg, results, Tryz.results95, go_sem, z0, z1, z2, z3, World.cell?_setCell_same, World.cell?_setCell_other]) rfl ?_
    exact ⟨by rw [HN.out], (((HK.out.bel.setCell (p := ⟨w.heap.size, 0, none⟩) (Nat.le_refl _) _).setCell (p := ⟨w.heap.size, 1, none⟩) (Nat.le_refl _) _).setCell (p := ⟨w.heap.size, 2, none⟩) (Nat.le_refl _) _).setCell (p := ⟨w.heap.size, 3, none⟩) (Nat.le_refl _) _⟩
end Go.Proofs.YtakjbjokekbmbaaGreatDoor

/- Rings: the plain law of appends and cuts: a record is written whole, or not at all. -/
namespace Go.Proofs.YtakjbjokekbmbaaGreatDoor
set_option linter.unusedVariables false

theorem wB_get (b : List UInt8) (a : Nat) (l : List UInt8) (j : Nat) (hj : j ≤ l.length) (h : a + j ≤ b.length) (i : Nat) : (wBytes b a l j)[i]? = if i < a then b[i]? else if i < a + j then l[i - a]? else b[i]? := by
  unfold wBytes
  have h1 : (b.take a).length = a := by simp; omega
  have h2 : (l.take j).length = j := by simp; omega
  by_cases hi : i < a
  · rw [if_pos hi, List.append_assoc, List.getElem?_append_left (by omega), List.getElem?_take, if_pos hi]
  · rw [if_neg hi]
    by_cases hi2 : i < a + j
    · rw [if_pos hi2, List.append_assoc, List.getElem?_append_right (by omega), List.getElem?_append_left (by omega), h1, List.getElem?_take, if_pos (by omega)]
    · rw [if_neg hi2, List.getElem?_append_right (by rw [List.length_append]; omega), List.length_append, h1, h2, List.getElem?_drop]
      congr 1; omega
def slotOf (b : List UInt8) (k : Nat) : List UInt8 := (b.drop (k * 17)).take 17
theorem slot_get (b : List UInt8) (k i : Nat) : (slotOf b k)[i]? = if i < 17 then b[k * 17 + i]? else none := by
  unfold slotOf
  rw [List.getElem?_take]
  split
  · rw [List.getElem?_drop]
  · rfl
theorem heldAt_slot (b : List UInt8) (k : Nat) : heldAt b k = heldRec k (slotOf b k) := rfl
theorem slot_other {b : List UInt8} {k k' o j : Nat} {l : List UInt8} (hj : j ≤ l.length) (ho : o + j ≤ 17) (h : k * 17 + o + j ≤ b.length) (hk : k' ≠ k) : slotOf (wBytes b (k * 17 + o) l j) k' = slotOf b k' := by
  apply List.ext_getElem?
  intro i
  rw [slot_get, slot_get]
  by_cases hi : i < 17
  · rw [if_pos hi, if_pos hi, wB_get b _ l j hj h]
    by_cases h1 : k' * 17 + i < k * 17 + o
    · rw [if_pos h1]
    · rw [if_neg h1, if_neg (by omega)]
  · rw [if_neg hi, if_neg hi]
theorem slot_at {b : List UInt8} {k o j : Nat} {l : List UInt8} (hj : j ≤ l.length) (ho : o + j ≤ 17) (h : k * 17 + o + j ≤ b.length) (i : Nat) : (slotOf (wBytes b (k * 17 + o) l j) k)[i]? = if i < o then (slotOf b k)[i]? else if i < o + j then l[i - o]? else (slotOf b k)[i]? := by
  rw [slot_get, slot_get]
  by_cases hi : i < 17
  · rw [if_pos hi, if_pos hi, wB_get b _ l j hj h]
    by_cases h1 : i < o
    · rw [if_pos (by omega), if_pos h1]
    · rw [if_neg (by omega), if_neg h1]
      by_cases h2 : i < o + j
      · rw [if_pos (by omega), if_pos h2]; congr 1; omega
      · rw [if_neg (by omega), if_neg h2]
  · rw [if_neg hi, if_neg hi, if_neg (by omega), if_neg (by omega)]
theorem held_zero {b : List UInt8} {k : Nat} (h : (slotOf b k)[16]? = some 0) : heldAt b k = none := by
  rw [heldAt_slot]
  exact heldRec_last (by rw [h]; decide)

/-- What a log holds: of all records D the last eight, and what there may be in the slot that comes next. -/
structure RInv (b : List UInt8) (D : List RecV) : Prop where
  len : 153 ≤ b.length
  seq : ∀ j (hj : j < D.length), D[j].seq = j + 1 ∧ RecOk D[j]
  old : ∀ k, k < 9 → heldAt b k = none ∨ ∃ j, ∃ hj : j < D.length, heldAt b k = some D[j] ∧ j % 9 = k ∧ D.length ≤ j + 9
  new : ∀ j (hj : j < D.length), D.length ≤ j + 8 → heldAt b (j % 9) = some D[j]
theorem rinv_best {b : List UInt8} {D : List RecV} (h : RInv b D) : bestOf (heldAt b) 9 = D.length := by
  apply Nat.le_antisymm
  · rcases best_in (heldAt b) 9 with h0 | ⟨k, x, h1, h2, h3⟩
    · omega
    · rcases h.old k h1 with h4 | ⟨j, hj, h4, _⟩
      · rw [h4] at h2; cases h2
      · rw [h4] at h2
        obtain rfl := Option.some.inj h2
        have := (h.seq j hj).1
        omega
  · by_cases h0 : D.length = 0
    · omega
    · have h1 := h.new (D.length - 1) (by omega) (by omega)
      have h2 := le_best (heldAt b) (r := 0) h1 9 (Nat.mod_lt _ (by decide))
      have := (h.seq (D.length - 1) (by omega)).1
      omega
theorem rinv_recs {b : List UInt8} {D : List RecV} (h : RInv b D) : recsOf b = D.drop (D.length - 8) := by
  unfold recsOf
  rw [rinv_best h]
  refine runDown_eq (heldAt b) 8 _ _ (by simp; omega) (fun j hj => ?_) ?_
  · simp only [List.length_drop] at hj
    rw [List.getElem_drop]
    have h1 := h.seq (D.length - 8 + j) (by omega)
    have h2 := h.new (D.length - 8 + j) (by omega) (by omega)
    refine ⟨h1.2.s1, ?_, ?_⟩
    · rw [h1.1]
      exact h2
    · rw [h1.1, List.length_drop]; omega
  · rw [List.length_drop]
    by_cases h8 : 8 ≤ D.length
    · left; omega
    · right; left; omega
theorem rinv_touch {b b' : List UInt8} {D : List RecV} (h : RInv b D) (hl : b'.length = b.length) (ho : ∀ k, k < 9 → k ≠ D.length % 9 → heldAt b' k = heldAt b k) (hz : heldAt b' (D.length % 9) = none) : RInv b' D := by
  refine ⟨by rw [hl]; exact h.len, h.seq, fun k hk => ?_, fun j hj h8 => ?_⟩
  · by_cases e : k = D.length % 9
    · subst e; left; exact hz
    · rw [ho k hk e]; exact h.old k hk
  · rw [ho _ (Nat.mod_lt _ (by decide)) (by omega)]; exact h.new j hj h8
theorem rinv_done {b b' : List UInt8} {D : List RecV} {x : RecV} (h : RInv b D) (hl : b'.length = b.length) (ho : ∀ k, k < 9 → k ≠ D.length % 9 → heldAt b' k = heldAt b k) (hz : heldAt b' (D.length % 9) = some x) (hx : x.seq = D.length + 1) (hk : RecOk x) : RInv b' (D ++ [x]) := by
  refine ⟨by rw [hl]; exact h.len, fun j hj => ?_, fun k hk => ?_, fun j hj h8 => ?_⟩
  · rw [List.length_append, List.length_singleton] at hj
    by_cases e : j < D.length
    · rw [List.getElem_append_left e]; exact h.seq j e
    · obtain rfl : j = D.length := by omega
      rw [List.getElem_append_right (Nat.le_refl _)]
      simp [hx, hk]
  · have hLen : (D ++ [x]).length = D.length + 1 := by simp
    by_cases e : k = D.length % 9
    · subst e
      right
      refine ⟨D.length, by simp, ?_, rfl, by omega⟩
      rw [hz, List.getElem_append_right (Nat.le_refl _)]; simp
    · by_cases hlt : k < D.length
      · right
        obtain ⟨j, hj, hjk, hj8⟩ : ∃ j, j < D.length ∧ j % 9 = k ∧ D.length ≤ j + 8 := by
          refine ⟨D.length - 1 - (D.length - 1 + 9 - k) % 9, by omega, by omega, by omega⟩
        refine ⟨j, by simp; omega, ?_, hjk, by omega⟩
        rw [ho k hk e, ← hjk, h.new j hj hj8, List.getElem_append_left hj]
      · left
        rw [ho k hk e]
        rcases h.old k hk with h4 | ⟨j, hj, h4, hjk, hj9⟩
        · exact h4
        · omega
  · rw [List.length_append, List.length_singleton] at hj h8
    by_cases e : j < D.length
    · rw [List.getElem_append_left e, ho _ (Nat.mod_lt _ (by decide)) (by omega)]
      exact h.new j e (by omega)
    · obtain rfl : j = D.length := by omega
      rw [hz, List.getElem_append_right (Nat.le_refl _)]; simp
/-! ### One record written -/
def slotAt (x : RecV) : Nat := (x.seq - 1) % 9 * 17
/-- A record that is written on cells: an error's number, and the cells. -/
def ringPut (m : CM) (x : RecV) : Nat × CM :=
  if lookE m.off m.bs.length (slotAt x + 16 : Nat) 1 = 0 then
    (if m.bs.getD (slotAt x + 16) 0 = 0 then put2 m x else if writeE m.cut 1 = 0 then put2 (writeM m (slotAt x + 16) [0]) x else (writeE m.cut 1, writeM m (slotAt x + 16) [0]))
  else (lookE m.off m.bs.length (slotAt x + 16 : Nat) 1, m)
where
  put2 (m : CM) (x : RecV) : Nat × CM :=
    if writeE m.cut 16 = 0 then (writeE (writeM m (slotAt x) (recBody x)).cut 1, writeM (writeM m (slotAt x) (recBody x)) (slotAt x + 16) [165]) else (writeE m.cut 16, writeM m (slotAt x) (recBody x))

theorem writeN_bd (cut : Int) (n : Nat) : writeN cut n ≤ n := by unfold writeN; split; exact Nat.le_refl _; exact Nat.min_le_right _ _
theorem writeE_zero {cut : Int} {n : Nat} (h : writeE cut n = 0) : writeN cut n = n := by
  unfold writeE at h
  have := writeN_bd cut n
  by_cases e : writeN cut n < n
  · rw [if_pos e] at h; cases h
  · omega
theorem writeE_else {cut : Int} {n : Nat} (h : ¬ writeE cut n = 0) : writeE cut n = 8 ∧ writeN cut n < n := by
  unfold writeE at h ⊢
  by_cases e : writeN cut n < n
  · rw [if_pos e]; exact ⟨rfl, e⟩
  · rw [if_neg e] at h; exact absurd rfl h
theorem cutAt_ge {cut : Int} {n : Nat} (h : -1 ≤ cut) : -1 ≤ cutAt cut (writeN cut n) := by
  unfold cutAt writeN
  by_cases e : cut = -1
  · rw [if_pos e]; omega
  · rw [if_neg e, if_neg e]
    have : min cut.toNat n ≤ cut.toNat := Nat.min_le_left _ _
    omega
/-- Behind a write within slot k. -/
structure WrS (m m' : CM) (k : Nat) : Prop where
  len : m'.bs.length = m.bs.length
  oth : ∀ k', k' ≠ k → slotOf m'.bs k' = slotOf m.bs k'
  cut : -1 ≤ m'.cut
theorem WrS.trans {a b c : CM} {k : Nat} (h : WrS a b k) (g : WrS b c k) : WrS a c k := ⟨g.len.trans h.len, fun k' hk => (g.oth k' hk).trans (h.oth k' hk), g.cut⟩
theorem writeM_in {m : CM} {k o : Nat} {l : List UInt8} (ho : o + l.length ≤ 17) (h : k * 17 + o + l.length ≤ m.bs.length) (hc : -1 ≤ m.cut) :
    WrS m (writeM m (k * 17 + o) l) k ∧ (∀ i, (slotOf (writeM m (k * 17 + o) l).bs k)[i]? = if i < o then (slotOf m.bs k)[i]? else if i < o + writeN m.cut l.length then l[i - o]? else (slotOf m.bs k)[i]?) ∧
    (writeM m (k * 17 + o) l).off = decide (writeN m.cut l.length < l.length) := by
  have hj := writeN_bd m.cut l.length
  refine ⟨⟨?_, fun k' hk' => slot_other hj (by omega) (by omega) hk', cutAt_ge hc⟩, fun i => slot_at hj (by omega) (by omega) i, rfl⟩
  exact wBytes_length m.bs _ l _ hj (by omega)
theorem list17 {l : List UInt8} {a : List UInt8} {z : UInt8} (ha : a.length = 16) (h : ∀ i, i < 16 → l[i]? = a[i]?) (h16 : l[16]? = some z) (hl : l.length ≤ 17) : l = a ++ [z] := by
  apply List.ext_getElem?
  intro i
  by_cases h1 : i < 16
  · rw [h i h1, List.getElem?_append_left (by omega)]
  · by_cases h2 : i = 16
    · subst h2
      rw [h16, List.getElem?_append_right (by omega), ha]; rfl
    · rw [List.getElem?_eq_none (by omega), List.getElem?_eq_none (by simp; omega)]
/-- What one write of a record leaves: the record whole, or not at all. -/
theorem put2_step {m : CM} {x : RecV} {k : Nat} (hk : (x.seq - 1) % 9 = k) (hx : RecOk x) (hl : 153 ≤ m.bs.length) (hc : -1 ≤ m.cut) (hz : (slotOf m.bs k)[16]? = some 0) (hoff : m.off = false) :
    WrS m (ringPut.put2 m x).2 k ∧ (((ringPut.put2 m x).1 = 0 ∧ (ringPut.put2 m x).2.off = false ∧ heldAt (ringPut.put2 m x).2.bs k = some x) ∨
      ((ringPut.put2 m x).1 = 8 ∧ (ringPut.put2 m x).2.off = true ∧ heldAt (ringPut.put2 m x).2.bs k = none)) := by
  have hk9 : k < 9 := by omega
  have hbl := recBody_length x
  obtain ⟨w1, s1, o1⟩ := writeM_in (m := m) (k := k) (o := 0) (l := recBody x) (by omega) (by omega) hc
  unfold ringPut.put2
  rw [show slotAt x = k * 17 + 0 by unfold slotAt; omega]
  rw [hbl] at s1 o1
  have z1 : (slotOf (writeM m (k * 17 + 0) (recBody x)).bs k)[16]? = some 0 := by
    have := writeN_bd m.cut 16
    rw [s1 16, if_neg (by omega), if_neg (by omega)]; exact hz
  by_cases h1 : writeE m.cut 16 = 0
  · rw [if_pos h1]
    have n1 := writeE_zero h1
    obtain ⟨m1, hm1⟩ : ∃ m1, m1 = writeM m (k * 17 + 0) (recBody x) := ⟨_, rfl⟩
    rw [← hm1] at w1 s1 o1 z1 ⊢
    obtain ⟨w2, s2, o2⟩ := writeM_in (m := m1) (k := k) (o := 16) (l := [165]) (by simp) (by simp; have := w1.len; omega) w1.cut
    rw [Nat.add_zero]
    refine ⟨w1.trans w2, ?_⟩
    by_cases h2 : writeE m1.cut 1 = 0
    · have n2 := writeE_zero h2
      left
      refine ⟨h2, ?_, ?_⟩
      · rw [o2]; simp [n2]
      · rw [heldAt_slot]
        have e : slotOf (writeM m1 (k * 17 + 16) [165]).bs k = recBody x ++ [165] := by
          refine list17 hbl (fun i hi => ?_) ?_ ?_
          · rw [s2 i, if_pos hi, s1 i, if_neg (by omega), n1, if_pos (by omega), Nat.sub_zero]
          · rw [s2 16, if_neg (by omega)]
            simp [n2]
          · simp [slotOf]; omega
        rw [e]
        exact heldRec_body x hx k hk
    · obtain ⟨e8, n2⟩ := writeE_else h2
      right
      refine ⟨e8, ?_, ?_⟩
      · rw [o2]; simp; omega
      · apply held_zero
        rw [s2 16, if_neg (by omega), if_neg (by simp; omega)]; exact z1
  · rw [if_neg h1]
    obtain ⟨e8, n1⟩ := writeE_else h1
    refine ⟨w1, .inr ⟨e8, ?_, held_zero z1⟩⟩
    rw [o1]; simp; omega
theorem put_step {m : CM} {x : RecV} {D : List RecV} (h : RInv m.bs D) (hc : -1 ≤ m.cut) (hoff : m.off = false) (hs : x.seq = D.length + 1) (hx : RecOk x) :
    -1 ≤ (ringPut m x).2.cut ∧ (ringPut m x).2.bs.length = m.bs.length ∧ (((ringPut m x).1 = 0 ∧ (ringPut m x).2.off = false ∧ RInv (ringPut m x).2.bs (D ++ [x])) ∨ ((ringPut m x).1 = 8 ∧ (ringPut m x).2.off = true ∧ RInv (ringPut m x).2.bs D)) := by
  obtain ⟨k, hk⟩ : ∃ k, (x.seq - 1) % 9 = k := ⟨_, rfl⟩
  have hkD : k = D.length % 9 := by rw [← hk, hs]; rfl
  have hk9 : k < 9 := by omega
  have hl := h.len
  have hsl : slotAt x = k * 17 := by unfold slotAt; rw [hk]
  unfold ringPut
  rw [hsl, hoff, if_pos (lookE_in (by omega))]
  have fin : ∀ {m' : CM} {p : Nat × CM}, WrS m m' k → WrS m' p.2 k → ((p.1 = 0 ∧ p.2.off = false ∧ heldAt p.2.bs k = some x) ∨ (p.1 = 8 ∧ p.2.off = true ∧ heldAt p.2.bs k = none)) →
      -1 ≤ p.2.cut ∧ p.2.bs.length = m.bs.length ∧ ((p.1 = 0 ∧ p.2.off = false ∧ RInv p.2.bs (D ++ [x])) ∨ (p.1 = 8 ∧ p.2.off = true ∧ RInv p.2.bs D)) := by
    intro m' p a b hr
    have ab := a.trans b
    have ho : ∀ k', k' < 9 → k' ≠ D.length % 9 → heldAt p.2.bs k' = heldAt m.bs k' := fun k' _ hk' => by
      rw [heldAt_slot, heldAt_slot, ab.oth k' (by omega)]
    refine ⟨ab.cut, ab.len, ?_⟩
    rcases hr with ⟨r1, r2, r3⟩ | ⟨r1, r2, r3⟩
    · left; exact ⟨r1, r2, rinv_done h ab.len ho (by rw [← hkD]; exact r3) hs hx⟩
    · right; exact ⟨r1, r2, rinv_touch h ab.len ho (by rw [← hkD]; exact r3)⟩
  have self : WrS m m k := ⟨rfl, fun _ _ => rfl, hc⟩
  have hget : (slotOf m.bs k)[16]? = m.bs[k * 17 + 16]? := by rw [slot_get, if_pos (by omega)]
  have hlt : k * 17 + 16 < m.bs.length := by omega
  by_cases h0 : m.bs.getD (k * 17 + 16) 0 = 0
  · rw [if_pos h0]
    rw [List.getD_eq_getElem?_getD, List.getElem?_eq_getElem hlt] at h0
    have hz : (slotOf m.bs k)[16]? = some 0 := by rw [hget, List.getElem?_eq_getElem hlt]; congr 1
    obtain ⟨a, b⟩ := put2_step hk hx hl hc hz hoff
    exact fin self a b
  · rw [if_neg h0]
    obtain ⟨w1, s1, o1⟩ := writeM_in (m := m) (k := k) (o := 16) (l := [0]) (by simp) (by simp; omega) hc
    simp only [List.length_singleton] at s1 o1
    by_cases h1 : writeE m.cut 1 = 0
    · rw [if_pos h1]
      have n1 := writeE_zero h1
      have hz : (slotOf (writeM m (k * 17 + 16) [0]).bs k)[16]? = some 0 := by
        rw [s1 16, if_neg (by omega), if_pos (by omega)]; rfl
      have hoff1 : (writeM m (k * 17 + 16) [0]).off = false := by rw [o1]; simp [n1]
      obtain ⟨a, b⟩ := put2_step hk hx (by rw [w1.len]; exact hl) w1.cut hz hoff1
      exact fin w1 a b
    · rw [if_neg h1]
      obtain ⟨e8, n1⟩ := writeE_else h1
      -- nothing was written
      have hn : writeN m.cut 1 = 0 := by omega
      refine ⟨w1.cut, w1.len, .inr ⟨e8, ?_, ?_⟩⟩
      · show (writeM m (k * 17 + 16) [0]).off = true
        rw [o1]; simp; omega
      · show RInv (wBytes m.bs (k * 17 + 16) [0] (writeN m.cut [0].length)) D
        rw [show writeN m.cut ([0] : List UInt8).length = 0 from hn, wBytes_zero]
        exact h
/-- Fresh cells hold nothing. -/
theorem rinv_zero (n : Nat) (h : 153 ≤ n) : RInv (List.replicate n 0) [] := by
  refine ⟨by simpa using h, fun j hj => by simp at hj, fun k hk => .inl (held_zero ?_), fun j hj => by simp at hj⟩
  rw [slot_get, if_pos (by omega), List.getElem?_replicate, if_pos (by omega)]
end Go.Proofs.YtakjbjokekbmbaaGreatDoor

/- Cells among a statement's memory; the closed fact "stays". -/
namespace Go.Proofs.YtakjbjokekbmbaaGreatDoor
open Go.RowKit
set_option linter.unusedVariables false

structure CK (B : Nat) (sa : Nat → Addr) (w0 : World) (c rb : Nat) (ao : Option Addr) (cap : Nat) (m : CM) (w : World) : Prop where
  mem : CellsAt w c rb ao cap m
  se : Sents B sa w
  bel : Below w0.heap.size w0 w
  lay : w0.heap.size ≤ c ∧ w0.heap.size ≤ rb ∧ B ≤ w0.heap.size
section
variable {B : Nat} {sa : Nat → Addr} {w0 w w' : World} {c rb : Nat} {ao : Option Addr} {cap : Nat} {m m' : CM}
theorem CK.step (h : CK B sa w0 c rb ao cap m w) (k : Keep (fun b => b = c ∨ b = rb) w w') (h' : CellsAt w' c rb ao cap m') : CK B sa w0 c rb ao cap m' w' := by
  obtain ⟨h1, h2, h3⟩ := h.lay
  exact ⟨h', h.se.keep k (fun b hb => by rcases hb with rfl | rfl <;> omega), h.bel.trans (k.below h.bel.size (fun b hb => by rcases hb with rfl | rfl <;> omega)), h.lay⟩
theorem CK.still (h : CK B sa w0 c rb ao cap m w) (k : Keep (fun _ => False) w w') : CK B sa w0 c rb ao cap m w' := h.step (k.mono (fun _ _ h => h.elim)) (h.mem.keep k (fun _ h => h.elim))
theorem CK.below (h : CK B sa w0 c rb ao cap m w) (b : Below w.heap.size w w') : CK B sa w0 c rb ao cap m w' := h.still (below_keep b)
end

end Go.Proofs.YtakjbjokekbmbaaGreatDoor

/- Package cells: From, Copy. -/
namespace Go.Proofs.YtakjbjokekbmbaaGreatDoor
open Go.RowKit
set_option linter.unusedVariables false

end Go.Proofs.YtakjbjokekbmbaaGreatDoor

/- Package cells: Copy. -/
namespace Go.Proofs.YtakjbjokekbmbaaGreatDoor
open Go.RowKit
set_option linter.unusedVariables false

end Go.Proofs.YtakjbjokekbmbaaGreatDoor
