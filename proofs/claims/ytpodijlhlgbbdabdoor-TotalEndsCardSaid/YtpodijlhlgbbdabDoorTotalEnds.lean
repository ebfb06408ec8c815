/- TotalEnds: any statuses, cycle by cycle. -/
import Derived.Test.YtpodijlhlgbbdabDoorTotalRef
import Derived.Deep.RegionHeld3
namespace Go.Proofs.YtpodijlhlgbbdabDoor
open Go.RowKit
set_option linter.unusedVariables false

/-- The two totals among a statement's memory. -/
structure TK (B : Nat) (sa : Nat → Addr) (w0 : World) (t r : Nat) (d s : Int) (st : St) (rs : Int) (rst : St) (w : World) : Prop where
  code : TotalAt w t d s st
  ref : RTotalAt w r d rs rst
  se : Sents B sa w
  bel : Below w0.heap.size w0 w
  lay : w0.heap.size ≤ t ∧ t < r ∧ B ≤ w0.heap.size
section
variable {B : Nat} {sa : Nat → Addr} {w0 w w' : World} {t r : Nat} {d s rs : Int} {st rst : St}
theorem TK.stepC (h : TK B sa w0 t r d s st rs rst w) (k : Keep (· = t) w w') {s' : Int} {st' : St} (h' : TotalAt w' t d s' st') : TK B sa w0 t r d s' st' rs rst w' := by
  obtain ⟨h1, h2, h3⟩ := h.lay
  exact ⟨h', k.get h.ref (show ¬ r = t by omega), h.se.keep k (fun b (hb : b = t) => by omega), h.bel.trans (k.below h.bel.size (fun b (hb : b = t) => by omega)), h.lay⟩
theorem TK.stepR (h : TK B sa w0 t r d s st rs rst w) (k : Keep (· = r) w w') {s' : Int} {st' : St} (h' : RTotalAt w' r d s' st') : TK B sa w0 t r d s st s' st' w' := by
  obtain ⟨h1, h2, h3⟩ := h.lay
  exact ⟨k.get h.code (show ¬ t = r by omega), h', h.se.keep k (fun b (hb : b = r) => by omega), h.bel.trans (k.below h.bel.size (fun b (hb : b = r) => by omega)), h.lay⟩
theorem TK.keep {S : Nat → Prop} (h : TK B sa w0 t r d s st rs rst w) (k : Keep S w w') (hS : ∀ b, S b → r < b) : TK B sa w0 t r d s st rs rst w' := by
  obtain ⟨h1, h2, h3⟩ := h.lay
  exact ⟨k.get h.code (fun hb => by have := hS _ hb; omega), k.get h.ref (fun hb => by have := hS _ hb; omega), h.se.keep k (fun b hb => by have := hS _ hb; omega), h.bel.trans (k.below h.bel.size (fun b hb => by have := hS _ hb; omega)), h.lay⟩
theorem TK.below (h : TK B sa w0 t r d s st rs rst w) (b : Below w.heap.size w w') : TK B sa w0 t r d s st rs rst w' := h.keep (below_keep b) (fun _ h => h.elim)
theorem TK.drewN (h : TK B sa w0 t r d s st rs rst w) (q : Nat) : TK B sa w0 t r d s st rs rst (w.drewN q) := h.keep (keep_drewN' (fun _ => False) w q) (fun _ h => h.elim)
theorem TK.drew (h : TK B sa w0 t r d s st rs rst w) : TK B sa w0 t r d s st rs rst w.drew := h.keep (Keep.drew (Keep.refl (fun _ => False) w)) (fun _ h => h.elim)
end
theorem strCells1_snoc (l : List ByteArray) (x : ByteArray) : strCells1 (l ++ [x]) = strCells1 l ++ strCells1 [x] := by simp [strCells1]
theorem same_cells {w w' : World} {b : Nat} {o : Obj} (h : w.heap[b]? = some o) (h' : w'.heap[b]? = some o) : ∀ x, w'.cell? ⟨b, x, none⟩ = w.cell? ⟨b, x, none⟩ := by
  intro x
  simp [World.cell?, h, h']

set_option maxRecDepth 100000 in
set_option maxHeartbeats 4000000 in
theorem totalEnds_any (B : Nat) (sa : Nat → Addr) (d : Int) (LL : List (List ByteArray)) (v : Value) (w : World) (hS : Sents B sa w) (h : SlLL (· < w.heap.size) w v LL) :
    Calls Tryd.prog 6 #[.int .i64 d, v] w fun e w' => e = .returned (.bool true) ∧ Below w.heap.size w w' := by
  obtain ⟨vs, hvl, hsl, hin⟩ := h
  obtain ⟨ao, cap, rfl⟩ := hsl.val
  obtain ⟨i1, hi1, hz1, hsz1, hby1⟩ := info_parts Tryd.infoStr
  have HSL := Lib.hid hsl
  have HIN := Lib.hid hin
  have HS := Lib.hid hS
  have hBt := hS.top
  clear hsl hin hS
  go_enter Tryd.func6, Tryd.ntmps6
  go_wp2_with fail
  refine (summed_any _).mono ?_
  rintro e w1 ⟨rfl, b1⟩
  by_cases h5 : 60 < LL.length
  · go_wp2_with fail
    go_ret
    exact ⟨rfl, b1⟩
  have hl60 : LL.length ≤ 60 := by omega
  have B1 := Lib.hid b1
  have S1 := Lib.hid (HS.out.below b1)
  clear b1
  by_cases hbad : d < 0 ∨ 20 < d
  · go_wp2_with fail
    refine (totalNew_out B sa d w1 S1.out hbad).mono ?_
    rintro e w2 ⟨rfl, b2⟩
    have S2 := Lib.hid (S1.out.below b2)
    have B2 := Lib.hid (B1.out.trans (b2.mono B1.out.size))
    by_cases h1 : d < 0
    · clear hbad
      go_wp2_with fail
      refine (coded2_any B sa 2 (by decide) 2 w2 S2.out).mono ?_
      rintro e w3 ⟨rfl, b3⟩
      go_wp2_with fail
      go_ret
      exact ⟨rfl, B2.out.trans (b3.mono B2.out.size)⟩
    · have h2 : 20 < d := by omega
      clear hbad
      go_wp2_with fail
      refine (coded2_any B sa 2 (by decide) 2 w2 S2.out).mono ?_
      rintro e w3 ⟨rfl, b3⟩
      go_wp2_with fail
      go_ret
      exact ⟨rfl, B2.out.trans (b3.mono B2.out.size)⟩
  have h1 : 0 ≤ d := by omega
  have h2 : d ≤ 20 := by omega
  clear hbad
  go_wp2_with fail
  refine (totalNew_any d w1 (by omega) (by omega)).mono ?_
  rintro e w2 ⟨rfl, t2, b2⟩
  have hwt := B1.out.size
  have hts := lt_of_get t2
  have S2 := Lib.hid (S1.out.below b2)
  have B2 := Lib.hid (B1.out.trans (b2.mono B1.out.size))
  have T2 := Lib.hid t2; clear t2 b2
  generalize w1.heap.size = t at hwt hts T2 ⊢
  go_wp2_with fail
  refine (totalStatus_any _ _ _ _ w2 T2.out).mono ?_
  rintro e w' ⟨rfl, rfl⟩
  simp only [St.str]
  have r3 : RTotalAt (w2.alloc (.cells #[.int .i64 d, .int .i64 0, .string St.ok.str] 44)) w2.heap.size d 0 .ok := get_alloc_new _ _
  have b3 : Below w2.heap.size w2 (w2.alloc (.cells #[.int .i64 d, .int .i64 0, .string St.ok.str] 44)) := (Below.refl _ _).alloc (Nat.le_refl _) _
  have tk3 : Hid (TK B sa w t w2.heap.size d 0 .ok 0 .ok _) := (show TK B sa w t w2.heap.size d 0 .ok 0 .ok _ from ⟨below_get b3 T2.out hts, r3, S2.out.below b3, B2.out.trans (b3.mono B2.out.size), hwt, hts, hBt⟩)
  simp only [St.str] at tk3
  clear r3 b3 T2 S2 B2 S1
  go_wp2_with fail
  generalize World.alloc _ _ = w3 at tk3 ⊢
  generalize w2.heap.size = r at hts tk3 ⊢
  go_loopw [9] (fun s wr => ∃ (i : Nat) (sc : Int) (st : St), i ≤ LL.length ∧ s = .int .i64 i ∧ Hid (TInv d sc st) ∧ Hid (TK B sa w t r d sc st sc st wr)) (fun s _ => LL.length - (intOf s).toNat)
  case atStart => exact ⟨0, 0, .ok, Nat.zero_le _, rfl, ⟨Int.le_refl _, h1, fun _ => rfl, fun h => by cases h⟩, tk3⟩
  case round =>
    obtain ⟨wo, rfl⟩ : ∃ wo : World, wo = wr := ⟨_, rfl⟩
    obtain ⟨i, sc, st, hi, rfl, hinv, htk⟩ := hrel
    clear tk3
    by_cases hlt : i < LL.length
    · obtain ⟨b, off, rfl, hRb, _, hc⟩ := one_cells HSL.out (by omega)
      have q := hc i (by omega)
      rw [← htk.out.bel.cell (p := ⟨b, off + i, none⟩) hRb] at q
      have hrow := HIN.out i hlt (by omega)
      obtain ⟨xa, xc, hxv⟩ := hrow.val
      have hq0 := hc i (by omega)
      rw [hxv] at q hrow hq0
      obtain ⟨l, hl⟩ : ∃ l, l = LL[i] := ⟨_, rfl⟩
      rw [← hl] at q hrow hq0
      have HRW := Lib.hid hrow
      have HQ0 := Lib.hid hq0
      clear hc hrow hxv hq0 hl
      by_cases hbig : 20 < l.length
      · go_wp2_with fail
        go_ret
        exact ⟨rfl, htk.out.bel⟩
      have hl20 : l.length ≤ 20 := by omega
      have hrlt := lt_of_get htk.out.ref
      go_wp2_with fail
      go_loopw [10, 11] (fun s10 s11 wx => ∃ (k : Nat) (ca : Option Addr) (cc : Nat), k ≤ l.length ∧ s11 = .int .i64 k ∧ s10 = .slice ca k cc ∧ Hid (TK B sa w t r d sc st sc st wx) ∧ Hid (wx.ownsRow (r + 1) 9 1 (.slice ca k cc) k (strCells1 (l.take k)))) (fun _ s _ => l.length - (intOf s).toNat)
      case atStart => exact ⟨0, none, 0, Nat.zero_le _, rfl, rfl, htk, World.ownsRow_nil _ _ _ _⟩
      case round =>
        obtain ⟨wm, rfl⟩ : ∃ wm : World, wm = wr := ⟨_, rfl⟩
        obtain ⟨k, ca, cc, hk, rfl, rfl, htk2, hown⟩ := hrel
        clear htk q
        have q2 := HQ0.out
        rw [← htk2.out.bel.cell (p := ⟨b, off + i, none⟩) hRb] at q2
        have hrs := lt_of_get htk2.out.ref
        by_cases hkl : k < l.length
        · obtain ⟨xb, xoff, rfl, hRx, _, hcx⟩ := str_cells HRW.out (by omega)
          have qx := hcx k hkl
          rw [← htk2.out.bel.cell (p := ⟨xb, xoff + k, none⟩) hRx] at qx
          clear hcx
          obtain ⟨x, hx⟩ : ∃ x, x = l[k] := ⟨_, rfl⟩
          rw [← hx] at qx
          have HX := Lib.hid hx
          clear hx
          by_cases hlong : 60 < x.size
          · go_wp2_with fail
            go_ret
            exact ⟨rfl, htk2.out.bel⟩
          · have h63 : Hid (k + 1 ≤ maxLen) := by show k + 1 ≤ maxLen; unfold maxLen; omega
            have hby : Hid ((k + 1) * 16 ≤ 140737488355328) := by show (k + 1) * 16 ≤ 140737488355328; omega
            have hbs : Hid (∀ o, r + 1 ≤ (wm.alloc o).heap.size) := fun o => by rw [World.size_alloc]; omega
            go_wp2_with (at_builtin; go_must (refine wpList_append_ownS rfl (.tmp 82) (.tmp 90) 45 rfl (r + 1) 9 i1 _ 1 16 Tryd.underlying45 hi1 hz1 hsz1 hby1 rfl (by decide) _ k _ rfl (hown.out.alloc _) ⟨wm.heap.size, 0, none⟩ 1 1 (strCells1 [x]) rfl rfl (new_cells _ (strCells1 [x]) _) (oneCell_strs _) h63.out hby.out (hbs.out _) ?_; intro a1 k1 w6 ho6 hg6))
            have e6 : strCells1 (l.take k) ++ strCells1 [x] = strCells1 (l.take (k + 1)) := by
              rw [List.take_succ_eq_append_getElem hkl, strCells1_snoc, ← HX.out]
            rw [e6] at ho6
            have HO6 := Lib.hid ho6
            have tk6 := Lib.hid ((htk2.out.below ((Below.refl _ _).alloc (Nat.le_refl _) _)).keep (Keep.of_grown hg6) (fun b hb => by have := (hown.out.lt b hb.symm).1; omega))
            clear ho6 hg6 e6 htk2 hown
            go_wp2_with fail
            go_roundw
            case rel => exact ⟨k + 1, a1, k1, by omega, by go_num, by first | rfl | (simp; done), tk6, HO6⟩
            case measure => simp [intOf]; omega
        · obtain rfl : k = l.length := by omega
          rw [List.take_length] at hown
          go_wp2_with fail
          refine (rTotalEnd_any (· < w.heap.size) r d sc st l _ wm htk2.out.ref hinv.out (by omega) (HRW.out.below htk2.out.bel (fun _ h => h)) (show ¬ r < w.heap.size by omega)).mono ?_
          rintro e w5 ⟨rfl, r5, k5⟩
          have tk5 := htk2.out.stepR k5 r5
          have own5 := slOf_owns (ownsRow_keep' hown.out k5 (fun b hb _ => (fun (e : b = r) => by omega)))
          have hinv2 := hinv.out.next l
          have hs0 := hinv.out.s0
          have hs1 := hinv.out.s1
          have hEnd : ∀ W, (TK B sa w t r d sc st (St.next d sc st l).1 (St.next d sc st l).2 W ∧ SlOf (fun b => r + 1 ≤ b) W (.slice ca l.length cc) 1 (strCells1 l) l.length) → Calls Tryd.prog 32 #[.pointer (some ⟨t, 0, none⟩), .slice ca l.length cc] W (fun e w' => e = .returned (.string (St.next d sc st l).2.str) ∧ TK B sa w t r d (St.next d sc st l).1 (St.next d sc st l).2 (St.next d sc st l).1 (St.next d sc st l).2 w') := by
            intro W hW
            refine (totalEnd_any _ t d sc st l _ W hW.1.code hs0 (by omega) hW.2).mono ?_
            rintro e w' ⟨rfl, t6, k6⟩
            exact ⟨rfl, hW.1.stepC k6 t6⟩
          obtain ⟨⟨s1, st1⟩, hnx⟩ : ∃ p, p = St.next d sc st l := ⟨_, rfl⟩
          rw [← hnx] at tk5 hinv2 hEnd
          simp only at tk5 hinv2 hEnd
          have hStat : ∀ W, TK B sa w t r d s1 st1 s1 st1 W → Calls Tryd.prog 30 #[.pointer (some ⟨t, 0, none⟩)] W (fun e w' => e = .returned (.string st1.str) ∧ W = w') := fun W hW => totalStatus_any t d s1 st1 W hW.code
          have hMay : ∀ W, TK B sa w t r d s1 st1 s1 st1 W → Calls Tryd.prog 33 #[.pointer (some ⟨t, 0, none⟩)] W (fun e w' => e = .returned (.bool (decide (st1 ≠ .stopped))) ∧ W = w') := fun W hW => totalMay_any t d s1 st1 W hW.code
          obtain ⟨x0, x1, x2, xf⟩ := three_cells tk5.ref
          have R5 := Lib.hid tk5.ref
          have HINV := Lib.hid hinv2
          have K0 := Lib.hid (And.intro tk5 own5)
          have K00 : Hid (∀ n, TK B sa w t r d sc st s1 st1 (w5.drewN n) ∧ SlOf (fun b => r + 1 ≤ b) (w5.drewN n) (.slice ca l.length cc) 1 (strCells1 l) l.length) := (show ∀ n, TK B sa w t r d sc st s1 st1 (w5.drewN n) ∧ SlOf (fun b => r + 1 ≤ b) (w5.drewN n) (.slice ca l.length cc) 1 (strCells1 l) l.length from fun n => ⟨tk5.drewN n, own5.keep (keep_drewN' (fun _ => False) w5 n) (fun _ _ h => h)⟩)
          clear tk5 own5 r5 k5 hinv2 hnx htk2 hown hs0 hs1 q2
          cases st1
          all_goals
            simp only [St.str] at x2 hEnd hStat
            have HEnd := Lib.hid hEnd
            have HStat := Lib.hid hStat
            have HMay := Lib.hid hMay
            clear hEnd hStat hMay
            go_wp2_with fail
            go_region_held3 (fun w' => ∀ o, w'.cell? ⟨r, o, none⟩ = w5.cell? ⟨r, o, none⟩)
              (first | exact fun _ => rfl | exact same_cells R5.out kE.ref)
              (first | (go_at_call 32; refine (HEnd.out _ ?_).mono ?_; (first | exact K0.out | exact K00.out _); rintro e wE ⟨rfl, kE⟩) | (go_at_call 30; refine (HStat.out _ ?_).mono ?_; (repeat (first | exact kE | refine TK.drew ?_)); rintro e w' ⟨rfl, rfl⟩) | (go_at_call 33; refine (HMay.out _ ?_).mono ?_; (repeat (first | exact kE | refine TK.drew ?_)); rintro e w' ⟨rfl, rfl⟩))
            all_goals
              go_wp2_with fail
              go_roundw
              case rel => exact ⟨i + 1, s1, _, by omega, by go_num, HINV, (by repeat (first | exact kE | refine TK.drew ?_))⟩
              case measure => simp [intOf]; omega
    · go_wp2_with fail
      go_ret
      exact ⟨rfl, htk.out.bel⟩
end Go.Proofs.YtpodijlhlgbbdabDoor
