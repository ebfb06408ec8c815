/- flow.Words: how many rows are well. -/
import Derived.Test.YtpodijlhlgbbdabDoorFlowR
import Derived.Test.YtpodijlhlgbbdabDoorWaysMap
import Derived.Test.YtpodijlhlgbbdabDoorHeavy
namespace Go.Proofs.YtpodijlhlgbbdabDoor
open Go.RowKit Go.Maps
set_option linter.unusedVariables false

theorem grown_of_keep {w w' : World} (h : Keep (fun _ => False) w w') : w.grownBy w' none := ⟨h.os, h.tape, h.output, h.size, fun k hk _ => h.block k hk (fun x => x)⟩
theorem ownsMap_below {P : Program} {k : TypeId} {R : Value → Option (DataW Unit × List MemPlace)} {w w' : World} {b n : Nat} {D : DataW Unit} (h : w.ownsMap P k R b n D) (hb : Below w.heap.size w w') : w'.ownsMap P k R b n D := h.kept (grown_of_keep (below_keep hb)) (by simp)
theorem ranges_below {P : Program} {k : TypeId} {R : Value → Option (DataW Unit × List MemPlace)} {w w' : World} {b r n : Nat} {D : DataW Unit} {left : Lit → Bool} {cnt : Nat} (h : w.ranges P k R b r n D left cnt) (hb : Below w.heap.size w w') : w'.ranges P k R b r n D left cnt := h.kept (grown_of_keep (below_keep hb)) (by simp) (by simp)

theorem Tryd.mapLaw : Keyed Tryd.prog 3 := int_keyed Tryd.underlying3
theorem Tryd.mapZero (w : World) : (zeroValue 3).run Tryd.prog w = .ok (.int .i64 0) w := by kernel_rfl

theorem flowThen_places (E : EntV) (p : Nat) (hp : p < E.points.length) : flowThen E p ∈ places E.points.length := by
  rw [mem_places]
  unfold flowThen
  split <;> omega

/-- What stays in all loops. -/
structure WS (w0 : World) (E : EntV) (bx : Obj) (lo hi f : Nat) (w : World) : Prop where
  bel : Below w0.heap.size w0 w
  box : w.heap[w0.heap.size]? = some bx
  flow : FlowAt lo hi E E.edges w f (-1) false
  low : w0.heap.size < lo
theorem WS.keep {S : Nat → Prop} {w0 w w' : World} {E : EntV} {bx : Obj} {lo hi f : Nat} (h : WS w0 E bx lo hi f w) (k : Keep S w w') (hS : ∀ b, S b → hi ≤ b) : WS w0 E bx lo hi f w' := by
  have hlh := h.flow.flo
  have hfh := h.flow.fhi
  have hl := h.low
  exact ⟨h.bel.trans (k.below h.bel.size (fun b hb => by have := hS b hb; omega)), k.get h.box (fun hb => by have := hS _ hb; omega), h.flow.keep k (fun b _ h2 hb => by have := hS b hb; omega), h.low⟩
theorem WS.below {w0 w w' : World} {E : EntV} {bx : Obj} {lo hi f : Nat} (h : WS w0 E bx lo hi f w) (k : Below w.heap.size w w') : WS w0 E bx lo hi f w' := h.keep (below_keep k) (fun _ h => h.elim)
theorem WS.grown {w0 w w' : World} {E : EntV} {bx : Obj} {lo hi f : Nat} (h : WS w0 E bx lo hi f w) {row : Option Nat} (k : w.grownBy w' row) (hr : ∀ b, row = some b → hi ≤ b) : WS w0 E bx lo hi f w' := h.keep (Keep.of_grown k) (fun b hb => hr b hb.symm)

def wys (E : EntV) (k : Nat) (s : Int) : Nat := ways (flowMay E) (flowThen E) E.points.length k s
def prt (E : EntV) (k : Nat) (left : Int → Bool) (s : Int) : Nat := part (flowMay E) (flowThen E) E.points.length k left s
def prtAll (E : EntV) (k : Nat) (left : Int → Bool) : Nat := partAll (flowMay E) (flowThen E) E.points.length k left
def lds (E : EntV) (p : Nat) (a s : Int) : Nat := leads (flowMay E) (flowThen E) p a s
def allW (E : EntV) (n : Nat) : Nat := allWays (flowMay E) (flowThen E) E.points.length n

theorem size_own {P : Program} {k : TypeId} {R : Value → Option (DataW Unit × List MemPlace)} {w : World} {b n : Nat} {D : DataW Unit} (h : w.ownsMap P k R b n D) : Maps.size D ≤ n := by
  obtain ⟨es, clock, hb, F, hs, rfl⟩ := h
  rw [size_eq, length_sorted, List.length_map, Array.length_toList]
  exact hs
theorem wf_i64 {a : Int} (h0 : -9223372036854775808 ≤ a) (h1 : a ≤ 9223372036854775807) : (Lit.int .i64 a).wf = true := by
  simp [Lit.wf, IntKind.min, IntKind.max, IntKind.signed, IntKind.bits]
  omega

/-- A sum in the making: small. -/
theorem prt_small (E : EntV) (hP : E.points.length ≤ 16) (k : Nat) (hk : k ≤ 14) (left : Lit → Bool) (x q : Int) (hx : x ∈ places E.points.length) (hq : q ∈ places E.points.length) (hl : left (kI x) = true) (p : Nat) (hp : p < E.points.length) (hm : flowMay E x p = true) (ht : flowThen E p = q) :
    prt E k (leftI left) q + wys E k x * lds E p x q + wys E k x ≤ 1152921504606846976 := by
  have h1 := (left_step left x).1
  have h2 := (left_step left x).2
  have := part_le (flowMay E) (flowThen E) E.points.length (flowThen_places E) hP k hk (leftI left) _ q x hx hq hl h1 h2 (p + 1) hp
  rw [leads_succ, if_pos ⟨hm, ht⟩, Nat.mul_add, Nat.mul_one] at this
  show part _ _ _ k _ q + ways _ _ _ k x * leads _ _ p x q + ways _ _ _ k x ≤ _
  omega
theorem lds_succ (E : EntV) (p : Nat) (a s : Int) : lds E (p + 1) a s = lds E p a s + if flowMay E a p = true ∧ flowThen E p = s then 1 else 0 := leads_succ _ _ p a s
theorem wys_out (E : EntV) (k : Nat) (s : Int) (hs : s ∉ places E.points.length) : wys E k s = 0 := by
  cases k with
  | zero =>
    show (if s = -1 then 1 else 0) = 0
    exact if_neg (show ¬ s = -1 from fun e => hs (by rw [e]; exact mem_places.2 (by omega)))
  | succ k =>
    refine sumU_zero (fun a _ => ?_)
    have : leads (flowMay E) (flowThen E) E.points.length a s = 0 := sumU_zero (fun p hp => by
      exact if_neg (show ¬ (flowMay E a p = true ∧ flowThen E p = s) from fun h => hs (by rw [← h.2]; exact flowThen_places E p (List.mem_range.1 hp))))
    rw [this, Nat.mul_zero]
theorem prtAll_small (E : EntV) (hP : E.points.length ≤ 16) (n : Nat) (hn : n ≤ 15) (left : Lit → Bool) (x : Int) (hx : x ∈ places E.points.length) (hl : left (kI x) = true) :
    prtAll E n (leftI left) + wys E n x = prtAll E n (leftI (fun z => left z && !z.sameKey (kI x))) ∧ prtAll E n (leftI left) + wys E n x ≤ 1152921504606846976 := by
  have h1 := (left_step left x).1
  have h2 := (left_step left x).2
  have e := partAll_step (flowMay E) (flowThen E) E.points.length n (leftI left) _ x hx hl h1 h2
  refine ⟨e.symm, ?_⟩
  show partAll _ _ _ n _ + ways _ _ _ n x ≤ _
  rw [← e]
  refine Nat.le_trans (partAll_le _ _ _ n _) (Nat.le_trans (allWays_le _ _ _ (flowThen_places E) hP n) ?_)
  exact Nat.le_trans (Nat.pow_le_pow_right (by decide) hn) (by decide)

set_option maxRecDepth 100000 in
set_option maxHeartbeats 8000000 in
theorem words_any (R : Nat → Prop) (E : EntV) (vp vg ve vf vl : Value) (n : Nat) (w : World) (h : EntSl R w E vp vg ve vf vl) (hR : ∀ b, R b → b < w.heap.size) (hL : Light E) (hP : E.points.length ≤ 16) (hn : n ≤ 15) :
    Calls Tryd.prog 51 #[.agg (entCs E vp vg ve vf vl), .int .i64 n] w fun e w' => e = .returned (.tuple #[.int .i64 (allW E n : Nat), .nilIface]) ∧ Below w.heap.size w w' := by
  obtain ⟨pa, pc, rfl⟩ := h.p.val
  obtain ⟨ga, gc, rfl⟩ := h.g.val
  obtain ⟨ea, ec, rfl⟩ := h.e.val
  obtain ⟨fa, fc, rfl⟩ := h.f.val
  obtain ⟨la, lc, rfl⟩ := h.l.val
  have hmm := @run_makeMap Tryd.prog
  have H := Lib.hid h
  clear h
  unfold entCs
  go_enter Tryd.func51, Tryd.ntmps51
  go_wp2_with fail
  have hbx := get_alloc_new w (.cells #[.string E.name, .int .i64 E.tol, .slice pa E.points.length pc, .int .i64 E.count, .int .i64 E.mn, .int .i64 E.mx, .slice ga E.gaps.length gc, .slice ea E.edges.length ec, .slice fa E.first.length fc, .slice la E.last.length lc] 73)
  have hb1 : Below w.heap.size w (w.alloc (.cells #[.string E.name, .int .i64 E.tol, .slice pa E.points.length pc, .int .i64 E.count, .int .i64 E.mn, .int .i64 E.mx, .slice ga E.gaps.length gc, .slice ea E.edges.length ec, .slice fa E.first.length fc, .slice la E.last.length lc] 73)) := (Below.refl _ _).alloc (Nat.le_refl _) _
  have hsz : (w.alloc (.cells #[.string E.name, .int .i64 E.tol, .slice pa E.points.length pc, .int .i64 E.count, .int .i64 E.mn, .int .i64 E.mx, .slice ga E.gaps.length gc, .slice ea E.edges.length ec, .slice fa E.first.length fc, .slice la E.last.length lc] 73)).heap.size = w.heap.size + 1 := World.size_alloc _ _
  refine (flowNew_any R E _ _ _ _ _ _ (H.out.below hb1 hR) (below_lt hR hb1) hL).mono ?_
  rintro e w1 ⟨f, hi, rfl, hF, hB⟩
  rw [hsz] at hF hB
  have ws1 : WS w E _ (w.heap.size + 1) hi f w1 := ⟨hb1.trans (hB.mono (by omega)), below_get hB hbx (by omega), hF, by omega⟩
  have hfi := hF.ftop
  clear hF hB hbx hb1 hsz
  obtain ⟨w2, hup, own2, gr2⟩ := (World.ownsMap_made w1 Tryd.prog 3 (plainElem (H := Unit) Tryd.prog 3)).update Tryd.mapLaw Tryd.underlying133 (by decide) (keyOf_int_mk Tryd.underlying3 (a := -1) (by decide)) (plainElem_int Tryd.underlying3 (a := 1) (by decide))
  have is2 : MapIs (places E.points.length) (DataW.put (.map []) (kI (-1)) (dI 1)) (wys E 0) := (mapIs_empty (H := Unit) (places E.points.length)).put (mem_places.2 (by omega)) 1
  have WS2 := Lib.hid ((ws1.below ((Below.refl _ _).alloc (Nat.le_refl _) (.map #[] 0))).grown gr2 (fun b hb => by cases hb; exact hfi))
  have IS2 := Lib.hid is2
  have OWN2 := Lib.hid own2
  clear ws1 is2 own2 gr2
  go_wp2_with fail
  go_loopw [7, 33] (fun s7 s33 wr => ∃ (k b c : Nat) (D : DataW Unit), k ≤ n ∧ s33 = .int .i64 k ∧ s7 = .map (some b) ∧ Hid (WS w E (.cells #[.string E.name, .int .i64 E.tol, .slice pa E.points.length pc, .int .i64 E.count, .int .i64 E.mn, .int .i64 E.mx, .slice ga E.gaps.length gc, .slice ea E.edges.length ec, .slice fa E.first.length fc, .slice la E.last.length lc] 73) (w.heap.size + 1) hi f wr) ∧
      Hid (wr.ownsMap Tryd.prog 3 (plainElem (H := Unit) Tryd.prog 3) b c D) ∧ Hid (MapIs (places E.points.length) D (wys E k)) ∧ hi ≤ b ∧ c ≤ 16 ^ k) (fun _ s _ => n - (intOf s).toNat)
  case atStart => exact ⟨0, w1.heap.size, 1, _, Nat.zero_le _, rfl, rfl, WS2, OWN2, IS2, hfi, Nat.le_refl _⟩
  case round =>
    obtain ⟨wo, rfl⟩ : ∃ wo : World, wo = wr := ⟨_, rfl⟩
    obtain ⟨k, b, c, D, hk, rfl, rfl, hws, hown, his, hbi, hc⟩ := hrel
    clear WS2 OWN2 IS2 hup
    have hpow : Hid (16 ^ k ≤ 1152921504606846976) := Nat.le_trans (Nat.pow_le_pow_right (by decide) (Nat.le_trans hk hn)) (by decide)
    have hcc : c ≤ 1152921504606846976 := Nat.le_trans hc hpow.out
    have HC := Lib.hid hc
    clear hc
    have hbs := hown.out.lt
    by_cases hlt : k < n
    · have hc2 : c ≤ 72057594037927936 := Nat.le_trans HC.out (Nat.le_trans (Nat.pow_le_pow_right (by decide) (show k ≤ 14 by omega)) (by decide))
      go_wp2_with (first | (at_range; refine wpList_range_own _ rfl _ 133 rfl 3 3 Tryd.mapLaw Tryd.underlying133 _ b c _ rfl (hown.out.alloc _) ?_; intro w3 hrg hg3 hs3))
      have hszm : (wo.alloc (.map #[] 0)).heap.size = wo.heap.size + 1 := World.size_alloc _ _
      have own3 := (World.ownsMap_made wo Tryd.prog 3 (plainElem (H := Unit) Tryd.prog 3)).kept hg3 (by simp)
      have ws3 := (hws.out.below ((Below.refl _ _).alloc (Nat.le_refl _) (.map #[] 0))).grown hg3 (fun b hb => by cases hb)
      have is3 : MapIs (places E.points.length) (.map [] : DataW Unit) (prt E k (leftI (Maps.has D))) := (mapIs_empty _).congr (fun s hs => (part_start (flowMay E) (flowThen E) E.points.length k _ s (left_start his.out)).symm) (fun s hs => sumU_zero (fun a _ => by
        have : leads (flowMay E) (flowThen E) E.points.length a s = 0 := sumU_zero (fun p hp => if_neg (show ¬ (flowMay E a p = true ∧ flowThen E p = s) from fun h => hs (by rw [← h.2]; exact flowThen_places E p (List.mem_range.1 hp))))
        rw [this]; simp))
      have hsz3 := size_own hrg.owns
      rw [hszm] at hrg
      have HRG := Lib.hid hrg
      have OWN3 := Lib.hid own3
      have WS3 := Lib.hid ws3
      have IS3 := Lib.hid is3
      have hwsz := hws.out.flow.ftop
      clear hrg own3 ws3 is3 hg3 hs3
      go_frame
      rw [hszm]
      go_loopw [9] (fun _ wx => ∃ (left : Lit → Bool) (cnt c2 : Nat) (D2 : DataW Unit), Hid (wx.ranges Tryd.prog 3 (plainElem (H := Unit) Tryd.prog 3) b (wo.heap.size + 1) c D left cnt) ∧ Hid (∀ kl, left kl = true → Maps.has D kl = true) ∧ Hid (wx.ownsMap Tryd.prog 3 (plainElem (H := Unit) Tryd.prog 3) wo.heap.size c2 D2) ∧
          Hid (MapIs (places E.points.length) D2 (prt E k (leftI left))) ∧ Hid (WS w E (.cells #[.string E.name, .int .i64 E.tol, .slice pa E.points.length pc, .int .i64 E.count, .int .i64 E.mn, .int .i64 E.mx, .slice ga E.gaps.length gc, .slice ea E.edges.length ec, .slice fa E.first.length fc, .slice la E.last.length lc] 73) (w.heap.size + 1) hi f wx) ∧ c2 + 16 * cnt ≤ 16 * c) (fun _ wx => wx.rangeLeft b (wo.heap.size + 1))
      case atStart => exact ⟨_, _, 0, _, HRG, fun kl h => h, OWN3, IS3, WS3, by omega⟩
      case round =>
        obtain ⟨left, cnt, c2, D2, hrg, hsub, hown2, his2, hws2, hcnt⟩ := hrel
        clear HRG OWN3 WS3 IS3
        go_wp2_with (first | (at_next; go_must (refine wpList_next_ranges_ii _ rfl _ rfl 3 3 .i64 .i64 Tryd.mapLaw Tryd.underlying3 Tryd.underlying3 b (wo.heap.size + 1) c _ _ _ rfl hrg.out ?_ ?_)))
        · intro hc0 hl0
          have his3 : Hid (MapIs (places E.points.length) D2 (wys E (k + 1))) := his2.out.congr (fun s _ => part_end _ _ _ k _ s (fun a => hl0 _)) (fun s hs => wys_out E (k + 1) s hs)
          have hpw : c2 ≤ 16 ^ (k + 1) := by have := HC.out; rw [Nat.pow_succ]; omega
          go_wp2_with fail
          go_roundw
          case rel => exact ⟨k + 1, wo.heap.size, c2, D2, by omega, by go_num, rfl, hws2, hown2, his3, by omega, hpw⟩
          case measure => simp [intOf]; omega
        · intro x cc w4 cnt1 hwx hwc hlx hat hrg1 hlt1 hg4 hs4 hen
          obtain ⟨wm, rfl⟩ : ∃ wm : World, wm = wr := ⟨_, rfl⟩
          have hx : x ∈ places E.points.length := left_in his.out hsub.out hlx
          have hcx : cc = (wys E k x : Int) := his.out.val (by have := hat (dI 0); exact this)
          have HLX := Lib.hid hlx
          have HX := Lib.hid hx
          obtain ⟨M, hM⟩ : ∃ M : Nat, M = wys E k x := ⟨_, rfl⟩
          rw [← hM] at hcx
          subst hcx
          have HMM := Lib.hid hM.symm
          clear hM
          have own4 := hown2.out.kept hg4 (by simp)
          have ws4 := hws2.out.grown hg4 (fun b hb => by cases hb; omega)
          have c2c := (ten_cells ws4.box).2.2.1
          have is4 : MapIs (places E.points.length) D2 (fun s => prt E k (leftI left) s + M * lds E 0 x s) := his2.out.congr (fun s _ => by simp [lds, leads, sumU]) (fun s hs => by
            have h0 := his2.out.zero (s := s) (by
              cases hh : Maps.has D2 (kI s) with
              | false => rfl
              | true => obtain ⟨t, ht, e⟩ := his2.out.keys _ hh; exact absurd (kI_inj e ▸ ht) hs)
            rw [h0]; simp [lds, leads, sumU])
          have hll : Hid (∀ kl, (fun z => left z && !z.sameKey (kI x)) kl = true → Maps.has D kl = true) := left_more left x hsub.out
          have hm1 := hrg1.left_eq
          have hm0 := hrg.out.left_eq
          have HRG := Lib.hid hrg1
          have OWN4 := Lib.hid own4
          have WS4 := Lib.hid ws4
          have IS4 := Lib.hid is4
          have HM0 := Lib.hid hm0
          clear hrg1 own4 ws4 is4 hlx hx hat hg4 hs4 hm1 hm0
          have hcpos : 0 ≤ (M : Int) := by omega
          go_wp2_with fail
          clear hen
          go_loopw [46] (fun s46 wy => ∃ (p c3 : Nat) (D3 : DataW Unit), p ≤ E.points.length ∧ s46 = .int .i64 p ∧ Hid (wy.ranges Tryd.prog 3 (plainElem (H := Unit) Tryd.prog 3) b (wo.heap.size + 1) c D (fun z => left z && !z.sameKey (.int .i64 x)) cnt1) ∧ Hid (wy.ownsMap Tryd.prog 3 (plainElem (H := Unit) Tryd.prog 3) wo.heap.size c3 D3) ∧
              Hid (MapIs (places E.points.length) D3 (fun s => prt E k (leftI left) s + M * lds E p x s)) ∧ Hid (WS w E (.cells #[.string E.name, .int .i64 E.tol, .slice pa E.points.length pc, .int .i64 E.count, .int .i64 E.mn, .int .i64 E.mx, .slice ga E.gaps.length gc, .slice ea E.edges.length ec, .slice fa E.first.length fc, .slice la E.last.length lc] 73) (w.heap.size + 1) hi f wy) ∧ c3 ≤ c2 + p) (fun s _ => E.points.length - (intOf s).toNat)
          case atStart => exact ⟨0, c2, D2, Nat.zero_le _, rfl, HRG, OWN4, IS4, WS4, by omega⟩
          case round =>
            obtain ⟨wp, rfl⟩ : ∃ wp : World, wp = wr := ⟨_, rfl⟩
            obtain ⟨p, c3, D3, hp, rfl, hrg5, hown5, his5, hws5, hc3⟩ := hrel
            clear HRG OWN4 WS4 IS4 c2c
            by_cases hpl : p < E.points.length
            · go_wp2_with fail
              refine (flowMay_any (w.heap.size + 1) hi E wp f (-1) false x p hws5.out.flow).mono ?_
              rintro e w6 ⟨rfl, b6⟩
              have R6 := Lib.hid (ranges_below hrg5.out b6)
              have O6 := Lib.hid (ownsMap_below hown5.out b6)
              have W6 := Lib.hid (hws5.out.below b6)
              clear b6 hrg5 hown5 hws5
              cases hm : flowMay E x p
              · have is6 : Hid (MapIs (places E.points.length) D3 (fun s => prt E k (leftI left) s + M * lds E (p + 1) x s)) := by
                  have e : (fun s => prt E k (leftI left) s + M * lds E (p + 1) x s) = (fun s => prt E k (leftI left) s + M * lds E p x s) := by
                    funext s; rw [lds_succ, if_neg (by rw [hm]; simp), Nat.add_zero]
                  show MapIs _ _ _
                  rw [e]; exact his5.out
                clear hm
                go_wp2_with fail
                go_roundw
                case rel => exact ⟨p + 1, c3, D3, by omega, by go_num, R6, O6, is6, W6, by omega⟩
                case measure => simp [intOf]; omega
              · have HM := Lib.hid hm
                clear hm
                go_wp2_with fail
                refine (flowThen_any (w.heap.size + 1) hi E E.edges w6 f (-1) false p W6.out.flow).mono ?_
                rintro e w7 ⟨rfl, b7⟩
                have R7 := Lib.hid (ranges_below R6.out b7)
                have O7 := O6.out
                have O7' := ownsMap_below O7 b7
                have W7 := Lib.hid (W6.out.below b7)
                clear b7 R6 O6 W6 O7
                have hqp := flowThen_places E p hpl
                have hsm := fun q hq hh => prt_small E hP k (by omega) left x q HX.out hq HLX.out p hpl HM.out hh
                generalize hqq : flowThen E p = q at hqp
                have HQ := Lib.hid hqq
                have hsm' := hsm q hqp hqq
                clear hqq hsm
                have HQP := Lib.hid hqp
                have hqw : (Lit.int .i64 q).wf = true := by have := mem_places.1 hqp; exact wf_i64 (by omega) (by omega)
                have hkey : keyOf Tryd.prog 3 (.int .i64 q) = some (.int .i64 q) := keyOf_int_mk Tryd.underlying3 hqw
                clear hqp hqw
                rw [HMM.out] at hsm'
                generalize hA : prt E k (leftI left) q + M * lds E p x q = N at hsm'
                have HA := Lib.hid hA
                clear hA
                have hval : Hid (∀ cv, D3.atKey (kI q) (dI 0) = dI cv → cv = (N : Int)) := fun cv h => by rw [← HA.out]; exact his5.out.val h
                go_wp2_with (first | (at_lookup; go_must (refine wpList_lookup_own_int _ rfl _ _ 133 rfl 3 3 .i64 Tryd.mapLaw Tryd.underlying133 Tryd.underlying3 (Tryd.mapZero _) wo.heap.size c3 _ rfl O7' _ _ rfl hkey ?_; intro cv hat7 hwc7; obtain rfl := hval.out cv hat7; clear hat7 hwc7)) | (at_mapUpdate; go_must (refine wpList_mapUpdate_own _ rfl _ _ _ 133 rfl 3 3 Tryd.mapLaw Tryd.underlying133 _ wo.heap.size c3 _ rfl O7' (by unfold maxLen; omega) _ _ _ rfl rfl hkey _ [] (plainElem_int Tryd.underlying3 (wf_i64 (by omega) (by omega))) ?_; intro w8 own8 gr8)))
                have hput := his5.out.put HQP.out (N + M)
                have W8 := Lib.hid (W7.out.grown gr8 (fun b hb => by cases hb; exact hwsz))
                have R8 := Lib.hid (R7.out.kept gr8 (by simp; omega) (by simp))
                have hfin : Hid (MapIs (places E.points.length) (DataW.put D3 (kI q) (dI ((N : Int) + M))) (fun s => prt E k (leftI left) s + M * lds E (p + 1) x s)) := by
                  have e : (fun s => prt E k (leftI left) s + M * lds E (p + 1) x s) = (fun y => if y = q then N + M else prt E k (leftI left) y + M * lds E p x y) := by
                    funext s
                    rw [lds_succ, Nat.mul_add]
                    by_cases hs : s = q
                    · subst hs
                      rw [if_pos rfl, if_pos ⟨HM.out, HQ.out⟩, ← Nat.add_assoc, HA.out, Nat.mul_one]
                    · rw [if_neg hs, if_neg (fun h => hs (by rw [← h.2, HQ.out])), Nat.mul_zero, Nat.add_zero]
                  show MapIs _ _ _
                  rw [e]
                  have e2 : ((N + M : Nat) : Int) = (N : Int) + M := by omega
                  rw [e2] at hput
                  exact hput
                have O8 := Lib.hid own8
                clear own8 gr8 hput hval O7' W7 R7 hkey
                go_roundw
                case rel => first | exact ⟨p + 1, c3 + 1, _, by omega, by go_num, R8, O8, hfin, W8, by omega⟩ | ((repeat apply Exists.intro); exact ⟨⟨p + 1, c3 + 1, _, by omega, by go_num, R8, O8, hfin, W8, by omega⟩, rfl⟩)
                case measure => simp [intOf]; omega
            · have hpp : p = E.points.length := by omega
              subst hpp
              have is9 : Hid (MapIs (places E.points.length) D3 (prt E k (leftI (fun z => left z && !z.sameKey (kI x))))) := his5.out.congr (fun s _ => by rw [← HMM.out]; exact (part_step (flowMay E) (flowThen E) E.points.length k (leftI left) _ s x HX.out HLX.out (left_step left x).1 (left_step left x).2).symm) (fun s hs => sumU_zero (fun a _ => by
                have : leads (flowMay E) (flowThen E) E.points.length a s = 0 := sumU_zero (fun p hp => if_neg (show ¬ (flowMay E a p = true ∧ flowThen E p = s) from fun h => hs (by rw [← h.2]; exact flowThen_places E p (List.mem_range.1 hp))))
                rw [this]; simp))
              have hm5 := Lib.hid hrg5.out.left_eq
              go_wp2_with fail
              go_roundw
              case rel => first | exact ⟨_, cnt1, c3, D3, hrg5, hll, hown5, is9, hws5, by omega⟩ | ((repeat apply Exists.intro); exact ⟨⟨_, cnt1, c3, D3, hrg5, hll, hown5, is9, hws5, by omega⟩, rfl⟩)
              case measure => have h1 := hm5.out; have h2 := HM0.out; omega
    · have hkn : k = n := by omega
      have his' : Hid (MapIs (places E.points.length) D (wys E n)) := by rw [← hkn]; exact his
      have hle : n ≤ 15 := hn
      go_wp2_with (first | (at_range; refine wpList_range_own _ rfl _ 133 rfl 3 3 Tryd.mapLaw Tryd.underlying133 _ b c _ rfl hown.out ?_; intro w3 hrg hg3 hs3))
      have b3 := Lib.hid (hws.out.bel.trans ((Keep.of_grown hg3).below hws.out.bel.size (fun b hb => by cases hb)))
      have HRG := Lib.hid hrg
      clear hrg hg3 hs3
      go_frame
      go_loopw [12] (fun s12 wx => ∃ (left : Lit → Bool) (cnt : Nat), Hid (s12 = .int .i64 (prtAll E n (leftI left) : Nat) ∧ wx.ranges Tryd.prog 3 (plainElem (H := Unit) Tryd.prog 3) b wo.heap.size c D left cnt ∧ (∀ kl, left kl = true → Maps.has D kl = true) ∧ Below w.heap.size w wx)) (fun _ wx => wx.rangeLeft b wo.heap.size)
      case atStart => exact ⟨Maps.has D, _, by show _ = _; rw [show prtAll E n (leftI (Maps.has D)) = 0 from partAll_start (flowMay E) (flowThen E) E.points.length n _ (left_start his'.out)]; rfl, HRG.out, fun kl h => h, b3.out⟩
      case round =>
        obtain ⟨wm, rfl⟩ : ∃ wm : World, wm = wr := ⟨_, rfl⟩
        obtain ⟨left, cnt, hrl⟩ := hrel
        obtain ⟨rfl, hrg0, hsub0, hbw0⟩ := hrl.out
        have hrg := Lib.hid hrg0
        have hsub := Lib.hid hsub0
        have hbw := Lib.hid hbw0
        clear hrl hrg0 hsub0 hbw0
        clear HRG b3
        have hallp : Hid ((∀ kl, left kl = false) → prtAll E n (leftI left) = allW E n) := fun h => partAll_end (flowMay E) (flowThen E) E.points.length n _ (fun a => h _)
        go_wp2_with (first | (at_next; go_must (refine wpList_next_ranges_ii _ rfl _ rfl 3 3 .i64 .i64 Tryd.mapLaw Tryd.underlying3 Tryd.underlying3 b wo.heap.size c _ _ _ rfl hrg.out ?_ ?_)))
        · intro hc0 hl0
          rw [hallp.out hl0]
          clear hallp
          go_wp2_with fail
          go_ret2
          exact ⟨rfl, hbw.out⟩
        · intro x cc w4 cnt1 hwx hwc hlx hat hrg1 hlt1 hg4 hs4 hen
          have hx : x ∈ places E.points.length := left_in his'.out hsub.out hlx
          have hcx : cc = (wys E n x : Int) := his'.out.val (by have := hat (dI 0); exact this)
          subst hcx
          have hsm := prtAll_small E hP n hle left x hx hlx
          have hll : Hid (∀ kl, (fun z => left z && !z.sameKey (kI x)) kl = true → Maps.has D kl = true) := left_more left x hsub.out
          have b4 := Lib.hid (hbw.out.trans ((Keep.of_grown hg4).below hbw.out.size (fun b hb => by cases hb; exact Nat.le_trans hws.out.bel.size (Nat.le_refl _))))
          have hm1 := Lib.hid hrg1.left_eq
          have hm0 := Lib.hid hrg.out.left_eq
          have HRG := Lib.hid hrg1
          have hs1 := Lib.hid hsm.1
          have hs2 := hsm.2
          clear hrg1 hlx hat hg4 hs4 hsm hx hallp
          generalize hA : prtAll E n (leftI left) = N at hs1 hs2 ⊢
          generalize hM : wys E n x = M at hs1 hs2 hen ⊢
          clear hA hM hwc
          go_wp2_with fail
          clear hen
          go_roundw
          case rel => exact ⟨_, cnt1, (show ((N : Int) + M) = ((prtAll E n (leftI (fun z => left z && !z.sameKey (kI x))) : Nat) : Int) from by have := hs1.out; omega), HRG.out, hll.out, b4.out⟩
          case measure => have h1 := hm1.out; have h2 := hm0.out; omega
end Go.Proofs.YtpodijlhlgbbdabDoor
