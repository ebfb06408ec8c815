/- TotalStops: behind expired comes stopped, just delay cycles later. -/
import Derived.Test.YtpodijlhlgbbdaaDoorTotal
import Derived.Test.YtpodijlhlgbbdaaDoorStay
namespace Go.Proofs.YtpodijlhlgbbdaaDoor
open Go.RowKit
set_option linter.unusedVariables false

theorem has1 : hasStr [St.expired.str] St.expired.str = true := by decide +kernel
theorem has2 : hasStr [St.ok.str, St.failed.str] St.expired.str = false := by decide +kernel
theorem has3 : hasStr [St.ok.str, St.failed.str] St.failed.str = true := by decide +kernel
theorem has4 : hasStr [St.failed.str, St.expired.str, St.ok.str] St.expired.str = true := by decide +kernel

set_option maxRecDepth 100000 in
set_option maxHeartbeats 1000000 in
theorem summed_any (w : World) : Calls Tryd.prog 9 #[] w fun e w' => e = .returned (.bool true) ∧ Below w.heap.size w w' := by
  go_enter Tryd.func9, Tryd.ntmps9
  go_wp2_with fail
  refine (totalNew_any 1 w (by decide) (by decide)).mono ?_
  rintro e w1 ⟨rfl, h1, b1⟩
  have H1 := Lib.hid h1; clear h1
  go_wp2_with fail
  have h1a : TotalAt (w1.alloc (.cells #[.string St.expired.str] 9)) w.heap.size 1 0 .ok := get_alloc_old _ H1.out
  have sl := slOf_alloc w1 (strCells1 [St.expired.str]) 9 1 1 rfl (by decide)
  refine (totalEnd_any (· = w1.heap.size) w.heap.size 1 0 .ok [St.expired.str] _ _ h1a (by decide) (by decide) sl).mono ?_
  rintro e w2 ⟨rfl, h2, k2⟩
  have n1 : St.next 1 0 .ok [St.expired.str] = (0, .expired) := by simp [St.next, has1, St.close]
  rw [n1] at h2 ⊢
  have H2 := Lib.hid h2; clear h2 h1a sl
  simp only [St.str]
  go_wp2_with fail
  refine (totalMay_any _ _ _ _ _ H2.out).mono ?_
  rintro e w' ⟨rfl, rfl⟩
  go_wp2_with fail
  refine (totalEnd_any (· = 0) w.heap.size 1 0 .expired [] _ _ H2.out (by decide) (by decide) (SlOf.nil _ _ _)).mono ?_
  rintro e w3 ⟨rfl, h3, k3⟩
  have n2 : St.next 1 0 .expired [] = (1, .stopped) := by simp [St.next, St.close]
  rw [n2] at h3 ⊢
  have H3 := Lib.hid h3; clear h3
  simp only [St.str]
  go_wp2_with fail
  refine (totalMay_any _ _ _ _ _ H3.out).mono ?_
  rintro e w' ⟨rfl, rfl⟩
  go_wp2_with fail
  go_ret
  refine ⟨rfl, (b1.alloc b1.size (.cells #[.string St.expired.str] 9)).trans ((k2.trans k3).below ?_ (fun b hb => Nat.le_of_eq hb.symm))⟩
  rw [World.size_alloc]
  exact Nat.le_succ_of_le b1.size

/-- What it is i cycles behind expired. -/
def tsOf (d : Int) (i : Nat) : St := if d ≤ i then .stopped else .expired
theorem tsOf_next (d sc : Int) (i : Nat) (l : List ByteArray) (h : d ≤ i ∨ sc = i) : (St.next d sc (tsOf d i) l).2 = tsOf d (i + 1) ∧ (d ≤ ((i + 1 : Nat) : Int) ∨ (St.next d sc (tsOf d i) l).1 = ((i + 1 : Nat) : Int)) ∧ ((St.next d sc (tsOf d i) l).1 = sc ∨ (St.next d sc (tsOf d i) l).1 = sc + 1) := by
  unfold tsOf
  by_cases h1 : d ≤ i
  · have h2 : d ≤ ((i + 1 : Nat) : Int) := by omega
    rw [if_pos h1, if_pos h2]
    exact ⟨rfl, .inl h2, .inl rfl⟩
  · rw [if_neg h1]
    have hs : sc = i := by omega
    subst hs
    have e1 : St.next d (i : Int) .expired l = St.close d ((i : Int) + 1) .expired := rfl
    rw [e1]
    refine ⟨?_, .inr (by rw [St.close_fst]; omega), .inr (St.close_fst _ _ _)⟩
    unfold St.close
    by_cases h2 : d ≤ ((i + 1 : Nat) : Int)
    · rw [if_pos h2, if_pos ⟨rfl, by omega⟩]
    · rw [if_neg h2, if_neg (by omega)]

/-- A list of lists of texts. -/
def SlLL (R : Nat → Prop) (w : World) (v : Value) (LL : List (List ByteArray)) : Prop :=
  ∃ vs : List Value, vs.length = LL.length ∧ SlOf R w v 1 vs LL.length ∧ ∀ k (hk : k < LL.length) (hv : k < vs.length), SlOf R w vs[k] 1 (strCells1 LL[k]) LL[k].length

theorem one_cells {R : Nat → Prop} {w : World} {ao : Option Addr} {n cap : Nat} {vs : List Value} (h : SlOf R w (.slice ao n cap) 1 vs n) (h0 : 0 < n) :
    ∃ b off, ao = some ⟨b, off, none⟩ ∧ R b ∧ b < w.heap.size ∧ ∀ k (hk : k < vs.length), w.cell? ⟨b, off + k, none⟩ = some vs[k] := by
  obtain ⟨hl, ao', cap', hv, h1, h2, h3, h4⟩ := h
  simp at hv
  obtain ⟨rfl, rfl⟩ := hv
  obtain ⟨b, off, ha, hR, hb, hc⟩ := h4 (by omega)
  exact ⟨b, off, ha, hR, hb, fun k hk => hc k _ (List.getElem?_eq_getElem hk)⟩

set_option maxRecDepth 100000 in
set_option maxHeartbeats 2000000 in
theorem totalStops_any (d ahead : Int) (LL : List (List ByteArray)) (v : Value) (w : World) (h : SlLL (· < w.heap.size) w v LL) :
    Calls Tryd.prog 3 #[.int .i64 d, .int .i64 ahead, v] w fun e w' => e = .returned (.bool true) ∧ Below w.heap.size w w' := by
  obtain ⟨vs, hvl, hsl, hin⟩ := h
  obtain ⟨ao, cap, rfl⟩ := hsl.val
  obtain ⟨i1, hi1, hz1, hsz1, hby1⟩ := info_parts Tryd.infoStr
  have HSL := Lib.hid hsl
  have HIN := Lib.hid hin
  clear hsl hin
  go_enter Tryd.func3, Tryd.ntmps3
  go_wp2_with fail
  refine (summed_any _).mono ?_
  rintro e w1 ⟨rfl, b1⟩
  by_cases h1 : d < 0
  · go_wp2_with fail
    go_ret
    exact ⟨rfl, b1⟩
  by_cases h2 : 20 < d
  · go_wp2_with fail
    go_ret
    exact ⟨rfl, b1⟩
  by_cases h3 : ahead < 0
  · go_wp2_with fail
    go_ret
    exact ⟨rfl, b1⟩
  by_cases h4 : 40 < ahead
  · go_wp2_with fail
    go_ret
    exact ⟨rfl, b1⟩
  by_cases h5 : 60 < LL.length
  · go_wp2_with fail
    go_ret
    exact ⟨rfl, b1⟩
  go_wp2_with fail
  refine (totalNew_any d w1 (by omega) (by omega)).mono ?_
  rintro e w2 ⟨rfl, t2, b2⟩
  have T2 := Lib.hid t2; clear t2
  go_wp2_with fail
  go_loopw [10] (fun s wr => ∃ (i : Nat) (st : St), (i : Int) ≤ ahead ∧ s = .int .i64 i ∧ (st = .ok ∨ st = .failed) ∧ Below w.heap.size w wr ∧ Hid (TotalAt wr w1.heap.size d 0 st)) (fun s _ => (ahead - intOf s).toNat)
  case atStart => exact ⟨0, .ok, h3, rfl, .inl rfl, b1.trans (b2.mono b1.size), T2⟩
  case round =>
    obtain ⟨i, st, hi, rfl, hst, hb, ht⟩ := hrel
    by_cases hlt : (i : Int) < ahead
    · go_wp2_with fail
      have h1a : TotalAt (wr.alloc (.cells #[.string St.ok.str, .string St.failed.str] 9)) w1.heap.size d 0 st := get_alloc_old _ ht.out
      have sl := slOf_alloc wr (strCells1 [St.ok.str, St.failed.str]) 9 1 2 rfl (by decide)
      refine (totalEnd_any (· = wr.heap.size) w1.heap.size d 0 st [St.ok.str, St.failed.str] _ _ h1a (by decide) (by decide) sl).mono ?_
      rintro e w3 ⟨rfl, h2', k2⟩
      have n1 : St.next d 0 st [St.ok.str, St.failed.str] = (0, .failed) := by rcases hst with rfl | rfl <;> simp [St.next, has2, has3, St.close]
      rw [n1] at h2' ⊢
      have hb3 : Below w.heap.size w w3 := (hb.alloc hb.size (.cells #[.string St.ok.str, .string St.failed.str] 9)).trans (k2.below (by rw [World.size_alloc]; exact Nat.le_succ_of_le hb.size) (fun b hb' => by subst hb'; exact b1.size))
      have H2 := Lib.hid h2'
      clear h2' h1a sl k2 n1
      simp only [St.str]
      go_wp2_with fail
      go_roundw
      case rel => exact ⟨i + 1, .failed, by omega, by go_num, .inr rfl, hb3, H2⟩
      case measure => simp [intOf]; omega
    · go_wp2_with fail
      have h1a : TotalAt (wr.alloc (.cells #[.string St.failed.str, .string St.expired.str, .string St.ok.str] 9)) w1.heap.size d 0 st := get_alloc_old _ ht.out
      have sl := slOf_alloc wr (strCells1 [St.failed.str, St.expired.str, St.ok.str]) 9 1 3 rfl (by decide)
      refine (totalEnd_any (· = wr.heap.size) w1.heap.size d 0 st [St.failed.str, St.expired.str, St.ok.str] _ _ h1a (by decide) (by decide) sl).mono ?_
      rintro e w3 ⟨rfl, h2', k2⟩
      have n1 : St.next d 0 st [St.failed.str, St.expired.str, St.ok.str] = (0, if d ≤ 0 then .stopped else .expired) := by
        rcases hst with rfl | rfl <;> simp only [St.next, has4, if_true, St.close, true_and] <;> split <;> rfl
      rw [n1] at h2' ⊢
      have hb3 : Below w.heap.size w w3 := (hb.alloc hb.size (.cells #[.string St.failed.str, .string St.expired.str, .string St.ok.str] 9)).trans (k2.below (by rw [World.size_alloc]; exact Nat.le_succ_of_le hb.size) (fun b hb' => by subst hb'; exact b1.size))
      have H2 := Lib.hid h2'
      clear h2' h1a sl k2 n1
      have H3 : Hid (TotalAt w3 w1.heap.size d 0 (tsOf d 0)) := by
        have := H2.out
        exact this
      have hz : (if d ≤ 0 then St.stopped else St.expired) = tsOf d 0 := rfl
      rw [hz]
      clear H2 ht hb hz
      simp only []
      generalize hsv : (tsOf d 0).str = sv
      have HSV := Lib.hid hsv
      clear hsv
      go_wp2_with fail
      have hl60 : LL.length ≤ 60 := by omega
      go_loopw [11, 12] (fun s11 s12 wx => ∃ (k : Nat) (sc : Int), k ≤ LL.length ∧ s11 = .string (tsOf d k).str ∧ s12 = .int .i64 k ∧ 0 ≤ sc ∧ sc ≤ k ∧ (d ≤ k ∨ sc = k) ∧ Below w.heap.size w wx ∧ Hid (TotalAt wx w1.heap.size d sc (tsOf d k))) (fun _ s _ => LL.length - (intOf s).toNat)
      case atStart => exact ⟨0, 0, Nat.zero_le _, by rw [HSV.out], rfl, by decide, by decide, .inr rfl, hb3, H3⟩
      case round =>
        obtain ⟨k, sc, hk, rfl, rfl, hs0, hs1, hds, hb, ht⟩ := hrel
        clear H3 hb3 HSV
        have htn := Lib.hid (tsOf_next d sc k (LL.getD k []) hds)
        have hdsH := Lib.hid hds
        clear hds
        by_cases hkl : k < LL.length
        · obtain ⟨b, off, rfl, hRb, _, hc⟩ := one_cells HSL.out (by omega)
          have q := hc k (by omega)
          rw [← hb.cell (p := ⟨b, off + k, none⟩) hRb] at q
          have hrow := HIN.out k hkl (by omega)
          obtain ⟨xa, xc, hxv⟩ := hrow.val
          rw [hxv] at q hrow
          have HRW := Lib.hid hrow
          clear hc hrow hxv
          by_cases hdk : d ≤ k
          · have ets : tsOf d k = .stopped := if_pos hdk
            rw [ets] at ht htn ⊢
            simp only [St.str]
            go_wp2_with fail
            refine (totalMay_any _ _ _ _ _ ht.out).mono ?_
            rintro e w' ⟨rfl, rfl⟩
            by_cases hbig : 20 < LL[k].length
            · go_wp2_with fail
              go_ret
              exact ⟨ret_bool (by first | (simp; done) | (simp; omega)), hb⟩
            · have hll : LL.getD k [] = LL[k] := by simp [List.getD, hkl]
              rw [hll] at htn
              have hp := (HRW.out.below hb (fun b h => h))
              have HP := Lib.hid hp
              have hby : Hid (LL[k].length * 16 ≤ 140737488355328) := by show LL[k].length * 16 ≤ 140737488355328; omega
              clear hp hll
              go_wp2_with (at_builtin; go_must (refine wpList_append_copy rfl (.tmp 98) (.tmp 102) 30 rfl 9 i1 _ 1 16 Tryd.underlying30 hi1 hz1 hsz1 hby1 rfl (by decide) rfl (· < w.heap.size) _ _ _ rfl HP.out (oneCell_strs _) hby.out ?_; intro a1 k1 w4 q1 b4))
              refine (totalEnd_any _ w1.heap.size d sc _ LL[k] _ w4 (below_get b4 ht.out (lt_of_get ht.out)) hs0 (by omega) q1).mono ?_
              rintro e w5 ⟨rfl, t5, k5⟩
              have hb5 : Below w.heap.size w w5 := (hb.trans (b4.mono hb.size)).trans (k5.below (Nat.le_trans hb.size b4.size) (fun b hb' => by subst hb'; exact b1.size))
              have T5 := Lib.hid t5
              clear t5 k5 q1 b4
              go_wp2_with fail
              go_roundw
              case rel => exact ⟨k + 1, _, by omega, (by rw [htn.out.1]; rfl), by go_num, by rcases htn.out.2.2 with h | h <;> rw [h] <;> omega, by rcases htn.out.2.2 with h | h <;> rw [h] <;> omega, htn.out.2.1, hb5, by rw [← htn.out.1]; exact T5⟩
              case measure => simp [intOf]; omega
          · have ets : tsOf d k = .expired := if_neg hdk
            rw [ets] at ht htn ⊢
            simp only [St.str]
            go_wp2_with fail
            refine (totalMay_any _ _ _ _ _ ht.out).mono ?_
            rintro e w' ⟨rfl, rfl⟩
            by_cases hbig : 20 < LL[k].length
            · go_wp2_with fail
              go_ret
              exact ⟨ret_bool (by first | (simp; done) | (simp; omega)), hb⟩
            · have hll : LL.getD k [] = LL[k] := by simp [List.getD, hkl]
              rw [hll] at htn
              have hp := (HRW.out.below hb (fun b h => h))
              have HP := Lib.hid hp
              have hby : Hid (LL[k].length * 16 ≤ 140737488355328) := by show LL[k].length * 16 ≤ 140737488355328; omega
              clear hp hll
              go_wp2_with (at_builtin; go_must (refine wpList_append_copy rfl (.tmp 98) (.tmp 102) 30 rfl 9 i1 _ 1 16 Tryd.underlying30 hi1 hz1 hsz1 hby1 rfl (by decide) rfl (· < w.heap.size) _ _ _ rfl HP.out (oneCell_strs _) hby.out ?_; intro a1 k1 w4 q1 b4))
              refine (totalEnd_any _ w1.heap.size d sc _ LL[k] _ w4 (below_get b4 ht.out (lt_of_get ht.out)) hs0 (by omega) q1).mono ?_
              rintro e w5 ⟨rfl, t5, k5⟩
              have hb5 : Below w.heap.size w w5 := (hb.trans (b4.mono hb.size)).trans (k5.below (Nat.le_trans hb.size b4.size) (fun b hb' => by subst hb'; exact b1.size))
              have T5 := Lib.hid t5
              clear t5 k5 q1 b4
              go_wp2_with fail
              go_roundw
              case rel => exact ⟨k + 1, _, by omega, (by rw [htn.out.1]; rfl), by go_num, by rcases htn.out.2.2 with h | h <;> rw [h] <;> omega, by rcases htn.out.2.2 with h | h <;> rw [h] <;> omega, htn.out.2.1, hb5, by rw [← htn.out.1]; exact T5⟩
              case measure => simp [intOf]; omega
        · go_wp2_with fail
          go_ret
          exact ⟨rfl, hb⟩
end Go.Proofs.YtpodijlhlgbbdaaDoor
