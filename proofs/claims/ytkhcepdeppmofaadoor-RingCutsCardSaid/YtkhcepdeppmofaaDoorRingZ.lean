/- The document's ring: what a slot holds; the last records. -/
import Derived.Test.YtkhcepdeppmofaaDoorRingY
import Derived.Test.YtkhcepdeppmofaaDoorRingK
import Derived.Deep.RegionHeld3
namespace Go.Proofs.YtkhcepdeppmofaaDoor
open Go.RowKit
set_option linter.unusedVariables false

def endAt : Nat → Nat
  | 0 => 0
  | 1 => 4
  | 2 => 5
  | 3 => 6
  | _ + 4 => 12
theorem end_le (i : Nat) (hi : i < 4) : endAt i ≤ endAt (i + 1) ∧ endAt (i + 1) ≤ 12 ∧ endAt (i + 1) ≤ endAt i + 6 := by
  match i, hi with
  | 0, _ => decide
  | 1, _ => decide
  | 2, _ => decide
  | 3, _ => decide
def fldOf (s : List UInt8) (i : Nat) : Nat := readB ((s.drop (endAt i)).take (endAt (i + 1) - endAt i))
theorem fld_rec (s : List UInt8) : recOf s = ⟨fldOf s 0, fldOf s 1, fldOf s 2, fldOf s 3⟩ := rfl
theorem fld_more (s : List UInt8) (i j : Nat) (h1 : endAt i ≤ j) (h2 : j < s.length) : readB ((s.drop (endAt i)).take (j + 1 - endAt i)) = 256 * readB ((s.drop (endAt i)).take (j - endAt i)) + s[j].toNat := by
  rw [show j + 1 - endAt i = (j - endAt i) + 1 by omega, readB_take _ _ (by rw [List.length_drop]; omega), List.getElem_drop]
  simp only [show endAt i + (j - endAt i) = j by omega]
theorem fld_lt (s : List UInt8) (a n : Nat) (h : n ≤ 5) : readB ((s.drop a).take n) < 1099511627776 := by
  have hb := readB_lt ((s.drop a).take n)
  have hl : ((s.drop a).take n).length ≤ 5 := by rw [List.length_take]; omega
  exact Nat.lt_of_lt_of_le hb (Nat.pow_le_pow_right (n := 256) (by decide) hl)
/-- The document's held, under way. -/
structure RHeld (w0 wr : World) (i : Nat) (s : List UInt8) (ao : Option Addr) (cap : Nat) : Prop where
  bel : Below w0.heap.size w0 wr
  zero : wr.heap[w0.heap.size]? = some (recC ⟨0, 0, 0, 0⟩)
  ends : wr.heap[w0.heap.size + 1]? = some (.cells #[.int .i64 4, .int .i64 5, .int .i64 6, .int .i64 12] 3)
  row : wr.ownsRow (w0.heap.size + 2) 3 1 (.slice ao i cap) i (intCells ((List.range i).map fun k => ((fldOf s k : Nat) : Int)))
theorem ends_at {w : World} {e : Nat} (h : w.heap[e]? = some (.cells #[.int .i64 4, .int .i64 5, .int .i64 6, .int .i64 12] 3)) (i : Nat) (hi : i < 4) : w.cell? ⟨e, i, none⟩ = some (.int .i64 ((endAt (i + 1) : Nat) : Int)) := by
  obtain ⟨h0, h1, h2, h3⟩ := four_cells h
  match i, hi with
  | 0, _ => exact h0
  | 1, _ => exact h1
  | 2, _ => exact h2
  | 3, _ => exact h3
theorem rheld_start (w : World) (s : List UInt8) : RHeld w ((w.alloc (recC ⟨0, 0, 0, 0⟩)).alloc (.cells #[.int .i64 4, .int .i64 5, .int .i64 6, .int .i64 12] 3)) 0 s none 0 := by
  obtain ⟨h1, h2, h3, _⟩ := two_boxes w (recC ⟨0, 0, 0, 0⟩) (.cells #[.int .i64 4, .int .i64 5, .int .i64 6, .int .i64 12] 3)
  exact ⟨h3, h1, h2, World.ownsRow_nil _ _ _ _⟩
theorem intCells_two (a b : List Int) : intCells (a ++ b) = intCells a ++ intCells b := by simp [intCells]
theorem rheld_more {w0 wr w6 : World} {i : Nat} {s : List UInt8} {ao a1 : Option Addr} {cap k1 : Nat} {o : Obj} (h : RHeld w0 wr i s ao cap) (ho : w6.ownsRow (w0.heap.size + 2) 3 1 (.slice a1 (i + 1) k1) (i + 1) (intCells ((List.range i).map fun k => ((fldOf s k : Nat) : Int)) ++ intCells [((fldOf s i : Nat) : Int)]))
    (hg : (wr.alloc o).grownBy w6 (Value.slice ao i cap).ownBlock) : RHeld w0 w6 (i + 1) s a1 k1 := by
  have ka : Keep (fun b => w0.heap.size + 2 ≤ b) wr w6 := ((Keep.refl _ wr).alloc _).trans ((Keep.of_grown hg).mono (fun b hb he => by
    have := (h.row.lt b he.symm).1
    exact this))
  refine ⟨h.bel.trans (ka.below h.bel.size (fun b hb => by omega)), ka.get h.zero (by omega), ka.get h.ends (by omega), ?_⟩
  rw [List.range_succ, List.map_append, intCells_two, List.map_singleton]
  exact ho
theorem rByte_165 (w : World) : Calls Tryd.prog 77 #[.int .i64 165] w fun e w' => e = .returned (.string (strOf [165])) ∧ Below w.heap.size w w' := rByte_any 165 w
theorem heldRec_if (k : Nat) (s : List UInt8) : heldRec k s = if 1 ≤ (recOf s).seq ∧ ((recOf s).seq - 1) % 9 = k ∧ recBody (recOf s) ++ [165] = s then some (recOf s) else none := rfl
set_option maxRecDepth 20000 in
set_option maxHeartbeats 2000000 in
theorem rHeld_any (k : Nat) (hk : k < 9) (b : ByteArray) (hb : (k + 1) * 17 ≤ b.size) (hb2 : b.size ≤ 100000) (w : World) :
    Calls Tryd.prog 74 #[.string b, .int .i64 k] w fun e w' => e = .returned (.tuple #[recAgg (recZ (heldAt b.data.toList k)), .bool (heldAt b.data.toList k).isSome]) ∧ Below w.heap.size w w' := by
  obtain ⟨i0, hi0, hz0, hz1, hz2⟩ := info_parts Tryd.infoInt
  obtain ⟨s, hs0⟩ : ∃ s, s = b.extract (k * 17) ((k + 1) * 17) := ⟨_, rfl⟩
  have hs17 : s.data.toList.length = 17 := by
    show s.size = 17
    rw [hs0, ext_size _ _ _ hb]; omega
  have HA : Hid (heldAt b.data.toList k = heldRec k s.data.toList) := (show heldAt b.data.toList k = heldRec k s.data.toList from by
    rw [hs0, ext_data, show (k + 1) * 17 - k * 17 = 17 by omega]; rfl)
  have hst := rheld_start w s.data.toList
  unfold recC at hst
  have HR0 := Lib.hid hst
  clear hst
  go_enter Tryd.func74, Tryd.ntmps74
  go_wp2_with fail
  rw [← hs0]
  have HS17 := Lib.hid hs17
  have hss : s.size = 17 := hs17
  clear hs0 hs17 hb hb2
  generalize (w.alloc _).alloc _ = w1 at HR0 ⊢
  go_loopw [7, 8, 10, 11] (fun s7 s8 s10 s11 wr => ∃ (i n : Nat) (ao : Option Addr) (cap : Nat), i ≤ 4 ∧ s7 = .int .i64 n ∧ s8 = .slice ao i cap ∧ s10 = .int .i64 (endAt i : Nat) ∧ s11 = .int .i64 i ∧ Hid (RHeld w wr i s.data.toList ao cap)) (fun _ _ _ s11 _ => 4 - (intOf s11).toNat)
  case atStart => exact ⟨0, 0, none, 0, Nat.zero_le _, rfl, rfl, rfl, rfl, HR0⟩
  case round =>
    obtain ⟨i, n, ao, cap, hi4, rfl, rfl, rfl, rfl, HR⟩ := hrel
    clear HR0
    by_cases hi : i < 4
    · have hi2 : (i : Int) < 4 := by omega
      have q := ends_at HR.out.ends i hi
      obtain ⟨e1, e2, e3⟩ := end_le i hi
      obtain ⟨E0, hE0⟩ : ∃ E, E = endAt i := ⟨_, rfl⟩
      obtain ⟨E1, hE1⟩ : ∃ E, E = endAt (i + 1) := ⟨_, rfl⟩
      rw [← hE1] at q e1 e2 e3
      rw [← hE0] at e1 e3 ⊢
      have HF : Hid (readB ((s.data.toList.drop E0).take (E1 - E0)) = fldOf s.data.toList i) := (show readB ((s.data.toList.drop E0).take (E1 - E0)) = fldOf s.data.toList i from by rw [hE0, hE1]; rfl)
      have HMo : Hid (∀ j, E0 ≤ j → (hj : j < s.data.toList.length) → readB ((s.data.toList.drop E0).take (j + 1 - E0)) = 256 * readB ((s.data.toList.drop E0).take (j - E0)) + s.data.toList[j].toNat) := (show _ from fun j h1 h2 => by rw [hE0] at h1 ⊢; exact fld_more _ i j h1 h2)
      have HE1 := Lib.hid hE1
      clear hE0 hE1
      go_wp2_with fail
      go_loop [7, 10] (fun s7 s10 => ∃ j : Nat, E0 ≤ j ∧ j ≤ E1 ∧ s7 = .int .i64 (readB ((s.data.toList.drop E0).take (j - E0)) : Nat) ∧ s10 = .int .i64 j) (fun _ s10 => E1 - (intOf s10).toNat)
      case atStart => exact ⟨E0, Nat.le_refl _, e1, by simp [readB], rfl⟩
      case round =>
        obtain ⟨j, hj0, hj1, rfl, rfl⟩ := hrel
        by_cases hj : j < E1
        · have hb : readB ((s.data.toList.drop E0).take (j - E0)) < 1099511627776 := fld_lt _ _ _ (by omega)
          have HM := Lib.hid (HMo.out j hj0 (by rw [HS17.out]; omega))
          generalize readB ((s.data.toList.drop E0).take (j - E0)) = m at hb HM ⊢
          have hjs : j < s.size := by omega
          have hwb : wrap64 (s[j].toNat : Int) = (s[j].toNat : Int) := IntWalk.wrap64_in _ (by have := s[j].toNat_lt; omega)
          have hbt := s[j].toNat_lt
          go_wp2_with fail
          go_round
          case rel => exact ⟨j + 1, by omega, by omega, by rw [HM.out]; rfl, by go_num⟩
          case measure => simp [intOf]; omega
        · obtain rfl : j = E1 := by omega
          rw [HF.out]
          have h63 : Hid (i + 1 ≤ maxLen) := by show i + 1 ≤ maxLen; unfold maxLen; omega
          have hby : Hid ((i + 1) * 8 ≤ 140737488355328) := by show (i + 1) * 8 ≤ 140737488355328; omega
          have hbs : Hid (∀ o, w.heap.size + 2 ≤ (wr.alloc o).heap.size) := fun o => by
            have := lt_of_get HR.out.ends
            rw [World.size_alloc]; omega
          obtain ⟨F, hF⟩ : ∃ F, F = fldOf s.data.toList i := ⟨_, rfl⟩
          rw [← hF]
          have HFF := Lib.hid hF
          clear e1 e2 e3 hj0 hj1 hj HMo hF
          go_wp2_with (at_builtin; go_must (refine wpList_append_ownS rfl (.tmp 40) (.tmp 42) 25 rfl (w.heap.size + 2) 3 i0 _ 1 8 Tryd.underlying25 hi0 hz0 hz1 hz2 rfl (by decide) _ i _ rfl (HR.out.row.alloc _) ⟨wr.heap.size, 0, none⟩ 1 1 (intCells [(F : Int)]) rfl rfl (new_cells _ (intCells [(F : Int)]) _) (oneCell_ints _) h63.out hby.out (hbs.out _) ?_; intro a1 k1 w6 ho6 hg6))
          have HR6 : Hid (RHeld w w6 (i + 1) s.data.toList a1 k1) := (show RHeld w w6 (i + 1) s.data.toList a1 k1 from by
            rw [HFF.out] at ho6
            exact rheld_more HR.out ho6 hg6)
          clear ho6 hg6
          go_roundw
          case rel => exact ⟨i + 1, F, a1, k1, by omega, rfl, rfl, by rw [HE1.out], by go_num, HR6⟩
          case measure => simp [intOf]; omega
    · have hi5 : 4 ≤ (i : Int) := by omega
      obtain ⟨r, hr⟩ : ∃ r, r = recOf s.data.toList := ⟨_, rfl⟩
      have HR4 : RHeld w wr 4 s.data.toList ao cap := by
        have e : i = 4 := by omega
        rw [← e]; exact HR.out
      obtain ⟨lb, lo, hao, _, hlb, hc⟩ := int_cells (by
        have := slOf_owns HR4.row
        rw [show (4 : Nat) = ((List.range 4).map fun k => ((fldOf s.data.toList k : Nat) : Int)).length from rfl] at this
        exact this) (by simp)
      subst hao
      have q0 : wr.cell? ⟨lb, lo, none⟩ = some (.int .i64 (r.seq : Int)) := by rw [hr]; exact hc 0 (by simp)
      have q1 : wr.cell? ⟨lb, lo + 1, none⟩ = some (.int .i64 (r.ent : Int)) := by rw [hr]; exact hc 1 (by simp)
      have q2 : wr.cell? ⟨lb, lo + 2, none⟩ = some (.int .i64 (r.kind : Int)) := by rw [hr]; exact hc 2 (by simp)
      have q3 : wr.cell? ⟨lb, lo + 3, none⟩ = some (.int .i64 (r.tick : Int)) := by rw [hr]; exact hc 3 (by simp)
      have hn1 : ¬ lb = wr.heap.size := by omega
      have hn2 : ¬ wr.heap.size = lb := by omega
      have HRr := Lib.hid hr
      have HR5 := Lib.hid HR4
      have hm : r.seq < 4294967296 ∧ RecSm r := by
        have h1 := readB_lt (s.data.toList.take 4)
        have h2 := readB_lt ((s.data.toList.drop 4).take 1)
        have h3 := readB_lt ((s.data.toList.drop 5).take 1)
        have h4 := readB_lt ((s.data.toList.drop 6).take 6)
        simp only [List.length_take, List.length_drop, HS17.out] at h1 h2 h3 h4
        subst hr
        exact ⟨h1, Nat.lt_trans h1 (by decide), Nat.lt_trans h2 (by decide), Nat.lt_trans h3 (by decide), Nat.lt_trans h4 (by decide)⟩
      have HMM := Lib.hid hm
      clear hc hr HR4 hm HR
      go_wp2_with fail
      go_cut [12] (fun s12 wx => s12 = .pointer (some ⟨wr.heap.size, 0, none⟩) ∧ BK r wr.heap.size wr wx)
      case first =>
        go_region
        all_goals (go_wp2_with fail; go_meet)
        all_goals exact ⟨rfl, ⟨get_alloc_new wr (recC r), ((Below.refl _ _).alloc (Nat.le_refl _) _).drew, Nat.le_refl _⟩⟩
      case rest =>
      obtain ⟨rfl, hk5⟩ := hcut
      obtain ⟨hm1, hm2⟩ := HMM.out
      have hbc := HR5.out.bel.trans (hk5.bel.mono HR5.out.bel.size)
      have hz := below_get hk5.bel HR5.out.zero (lt_of_get HR5.out.zero)
      have HK := Lib.hid hk5
      have HBC := Lib.hid hbc
      have HZ := Lib.hid hz
      obtain ⟨c0, c1, c2, c3⟩ := hk5.cells
      obtain ⟨z0, z1, z2, z3⟩ := four_cells hz
      have zf : ∀ o, wc.frozen? ⟨w.heap.size, o, none⟩ = false := by intro o; unfold recC at hz; simp [World.frozen?, hz]
      have HM := Lib.hid hm2
      obtain ⟨ra, hra⟩ : ∃ ra, ra = wr.heap.size := ⟨_, rfl⟩
      rw [← hra] at c0 c1 c2 c3 HK ⊢
      clear hk5 hz hm2 hbc q0 q1 q2 q3 hn1 hn2 HR5 HMM hlb hra
      have hnone : ¬ (1 ≤ r.seq ∧ (r.seq - 1) % 9 = k ∧ recBody r ++ [165] = s.data.toList) → heldRec k s.data.toList = none := fun h => by
        rw [heldRec_if, ← HRr.out, if_neg h]
      by_cases h1 : r.seq < 1
      · have HN := Lib.hid (hnone (by omega))
        have hd : decide ((r.seq : Int) < 1) = true := decide_eq_true (by omega)
        clear hnone
        go_wp2_with fail
        refine bodyPost_ret (v := .tuple #[recAgg ⟨0, 0, 0, 0⟩, .bool false]) (by simp [recAgg, results, Tryd.results74, go_sem, z0, z1, z2, z3, World.cell?_setCell_same, World.cell?_setCell_other]) rfl ?_
        exact ⟨by rw [HA.out, HN.out]; rfl, (((HBC.out.setCell (p := ⟨w.heap.size, 0, none⟩) (Nat.le_refl _) _).setCell (p := ⟨w.heap.size, 1, none⟩) (Nat.le_refl _) _).setCell (p := ⟨w.heap.size, 2, none⟩) (Nat.le_refl _) _).setCell (p := ⟨w.heap.size, 3, none⟩) (Nat.le_refl _) _⟩
      have hd : decide ((r.seq : Int) < 1) = false := decide_eq_false (by omega)
      have hn1 : (1 : Int) ≤ r.seq := by omega
      have HSO := Lib.hid (rSlotOf_any r.seq (by omega) (by omega))
      obtain ⟨S9, hS9⟩ : ∃ S9, S9 = (r.seq - 1) % 9 := ⟨_, rfl⟩
      rw [← hS9] at HSO hnone
      have HIF : Hid (heldRec k s.data.toList = if 1 ≤ r.seq ∧ S9 = k ∧ recBody r ++ [165] = s.data.toList then some r else none) := (show heldRec k s.data.toList = if 1 ≤ r.seq ∧ S9 = k ∧ recBody r ++ [165] = s.data.toList then some r else none from by
        rw [heldRec_if, ← HRr.out, ← hS9])
      clear hS9 hm1
      by_cases h2 : S9 = k
      · have h2b : ((S9 : Int) != (k : Int)) = false := by simp; omega
        have HZ1 : (strOf (recBody r)).size = 16 := by rw [strOf_size, recBody_length]
        have HZ2 : (strOf [165]).size = 1 := rfl
        have hstr : ((strOf (recBody r) ++ strOf [165]).toList = s.toList) ↔ recBody r ++ [165] = s.data.toList := by
          rw [strOf_append, ByteArray.toList_eq, ByteArray.toList_eq, strOf_data]
        by_cases h3 : recBody r ++ [165] = s.data.toList
        · have ht : ((strOf (recBody r) ++ strOf [165]).toList == s.toList) = true := by simp [hstr, h3]
          have HN : Hid (heldRec k s.data.toList = some r) := (show heldRec k s.data.toList = some r from by
            rw [HIF.out, if_pos ⟨by omega, h2, h3⟩])
          clear hnone h2 h3 hstr HIF
          go_wp2_with fail
          refine (HSO.out _).mono ?_
          rintro e w' ⟨rfl, rfl⟩
          go_wp2_with fail
          refine (rBody_any r HM.out _).mono ?_
          rintro e w5 ⟨rfl, b5⟩
          have HK5 := Lib.hid (HK.out.below b5)
          have HZ5 := Lib.hid (below_get b5 HZ.out (lt_of_get HZ.out))
          have HB5 := Lib.hid (HBC.out.trans (b5.mono HBC.out.size))
          clear z0 z1 z2 z3 zf c0 c1 c2 c3 b5 HK HZ HBC
          go_wp2_with fail
          refine (rByte_165 _).mono ?_
          rintro e w6 ⟨rfl, b6⟩
          obtain ⟨q0, q1, q2, q3⟩ := (HK5.out.below b6).cells
          have hz5 := below_get b6 HZ5.out (lt_of_get HZ5.out)
          obtain ⟨y0, y1, y2, y3⟩ := four_cells hz5
          have yf : ∀ o, w6.frozen? ⟨w.heap.size, o, none⟩ = false := by intro o; unfold recC at hz5; simp [World.frozen?, hz5]
          have HB := Lib.hid (HB5.out.trans (b6.mono HB5.out.size))
          clear b6 hz5
          go_wp2_with fail
          refine bodyPost_ret (v := .tuple #[recAgg r, .bool true]) (by simp [recAgg, results, Tryd.results74, go_sem, y0, y1, y2, y3, World.cell?_setCell_same, World.cell?_setCell_other]) rfl ?_
          exact ⟨by rw [HA.out, HN.out]; rfl, (((HB.out.setCell (p := ⟨w.heap.size, 0, none⟩) (Nat.le_refl _) _).setCell (p := ⟨w.heap.size, 1, none⟩) (Nat.le_refl _) _).setCell (p := ⟨w.heap.size, 2, none⟩) (Nat.le_refl _) _).setCell (p := ⟨w.heap.size, 3, none⟩) (Nat.le_refl _) _⟩
        · have ht : ((strOf (recBody r) ++ strOf [165]).toList == s.toList) = false := by simp [hstr, h3]
          have HN : Hid (heldRec k s.data.toList = none) := (show heldRec k s.data.toList = none from by
            rw [HIF.out, if_neg (fun h => h3 h.2.2)])
          clear hnone h2 h3 hstr HIF
          go_wp2_with fail
          refine (HSO.out _).mono ?_
          rintro e w' ⟨rfl, rfl⟩
          go_wp2_with fail
          refine (rBody_any r HM.out _).mono ?_
          rintro e w5 ⟨rfl, b5⟩
          have HZ5 := Lib.hid (below_get b5 HZ.out (lt_of_get HZ.out))
          have HB5 := Lib.hid (HBC.out.trans (b5.mono HBC.out.size))
          clear z0 z1 z2 z3 zf c0 c1 c2 c3 b5 HK HZ HBC
          go_wp2_with fail
          refine (rByte_165 _).mono ?_
          rintro e w6 ⟨rfl, b6⟩
          have hz5 := below_get b6 HZ5.out (lt_of_get HZ5.out)
          obtain ⟨y0, y1, y2, y3⟩ := four_cells hz5
          have yf : ∀ o, w6.frozen? ⟨w.heap.size, o, none⟩ = false := by intro o; unfold recC at hz5; simp [World.frozen?, hz5]
          have HB := Lib.hid (HB5.out.trans (b6.mono HB5.out.size))
          clear b6 hz5
          go_wp2_with fail
          refine bodyPost_ret (v := .tuple #[recAgg ⟨0, 0, 0, 0⟩, .bool false]) (by simp [recAgg, results, Tryd.results74, go_sem, y0, y1, y2, y3, World.cell?_setCell_same, World.cell?_setCell_other]) rfl ?_
          exact ⟨by rw [HA.out, HN.out]; rfl, (((HB.out.setCell (p := ⟨w.heap.size, 0, none⟩) (Nat.le_refl _) _).setCell (p := ⟨w.heap.size, 1, none⟩) (Nat.le_refl _) _).setCell (p := ⟨w.heap.size, 2, none⟩) (Nat.le_refl _) _).setCell (p := ⟨w.heap.size, 3, none⟩) (Nat.le_refl _) _⟩
      · have HN : Hid (heldRec k s.data.toList = none) := (show heldRec k s.data.toList = none from by
          rw [HIF.out, if_neg (fun h => h2 h.2.1)])
        have h2b : ((S9 : Int) != (k : Int)) = true := by simp; omega
        clear hnone h2 HIF
        go_wp2_with fail
        refine (HSO.out _).mono ?_
        rintro e w' ⟨rfl, rfl⟩
        go_wp2_with fail
        refine bodyPost_ret (v := .tuple #[recAgg ⟨0, 0, 0, 0⟩, .bool false]) (by simp [recAgg, results, Tryd.results74, go_sem, z0, z1, z2, z3, World.cell?_setCell_same, World.cell?_setCell_other]) rfl ?_
        exact ⟨by rw [HA.out, HN.out]; rfl, (((HBC.out.setCell (p := ⟨w.heap.size, 0, none⟩) (Nat.le_refl _) _).setCell (p := ⟨w.heap.size, 1, none⟩) (Nat.le_refl _) _).setCell (p := ⟨w.heap.size, 2, none⟩) (Nat.le_refl _) _).setCell (p := ⟨w.heap.size, 3, none⟩) (Nat.le_refl _) _⟩
end Go.Proofs.YtkhcepdeppmofaaDoor
