/- Gaps: Report and End. -/
import Derived.Test.YtakjbjokekbmbaaGreatDoorR11
namespace Go.Proofs.YtakjbjokekbmbaaGreatDoor
open Go.RowKit
set_option linter.unusedVariables false

/-- The ticks of the latest starts are ticks. -/
def GsOk (L : List GapS) : Prop := ∀ x ∈ L, 0 ≤ x.since ∧ x.since ≤ 1099511627776
theorem GsOk.step {L : List GapS} (h : GsOk L) {p t : Int} (h0 : 0 ≤ t) (h1 : t ≤ 1099511627776) : GsOk (L.map (gsStep · p t)) := by
  intro x hx
  obtain ⟨y, hy, rfl⟩ := List.mem_map.1 hx
  have := h y hy
  unfold gsStep
  split
  · exact ⟨h0, h1⟩
  · exact this

def gsAnyBad (L : List GapS) (p t : Int) (k : Nat) : Bool := (L.take k).any (gsBad · p t)
theorem gsAnyBad_succ (L : List GapS) (p t : Int) (k : Nat) (hk : k < L.length) : gsAnyBad L p t (k + 1) = (gsAnyBad L p t k || gsBad L[k] p t) := by
  unfold gsAnyBad
  rw [List.take_succ_eq_append_getElem hk, List.any_append]
  simp only [List.any_cons, List.any_nil, Bool.or_false]
theorem gsAnyBad_all (L : List GapS) (p t : Int) : gsAnyBad L p t L.length = L.any (gsBad · p t) := by unfold gsAnyBad; rw [List.take_length]

theorem gsBad_other {x : GapS} {p t : Int} (h : ¬ p = x.g.dst) : gsBad x p t = false := by simp [gsBad, h]
theorem gsBad_new {x : GapS} {p t : Int} (h : p = x.g.dst) (hr : x.rep = false) : gsBad x p t = true := by simp [gsBad, h, hr]
theorem gsBad_lo {x : GapS} {p t : Int} (h : p = x.g.dst) (hr : t - x.since < x.g.mn) : gsBad x p t = true := by simp [gsBad, h, hr]
theorem gsBad_hi {x : GapS} {p t : Int} (h : p = x.g.dst) (hr : x.g.mx < t - x.since) : gsBad x p t = true := by simp [gsBad, h, hr]
theorem gsBad_ok {x : GapS} {p t : Int} (h : p = x.g.dst) (hr : x.rep = true) (h1 : x.g.mn ≤ t - x.since) (h2 : t - x.since ≤ x.g.mx) : gsBad x p t = false := by
  simp only [gsBad, decide_eq_true h, hr, decide_eq_false (show ¬ t - x.since < x.g.mn by omega), decide_eq_false (show ¬ x.g.mx < t - x.since by omega)]
  rfl
theorem ownsRow_drewN {w : World} {base : Nat} {e : TypeId} {size : Nat} {v : Value} {n : Nat} {xs : List Value} (q : Nat) (h : w.ownsRow base e size v n xs) : (w.drewN q).ownsRow base e size v n xs :=
  ownsRow_keep' h (keep_drewN q (Keep.refl (fun _ => False) w)) (fun _ _ _ h => h)

theorem gsStore {w : World} {base row cap : Nat} {e : TypeId} {L M : List GapS} {p t : Int} {k : Nat} (hk : k < M.length) (hL : k < L.length) (hM : M[k] = L[k]'hL) (hp : p = (L[k]'hL).g.fr) (h : w.ownsRow base e 6 (.slice (some ⟨row, 0, none⟩) M.length cap) M.length (M.flatMap gsCells)) :
    ((w.setCell ⟨row, k * 6 + 4, none⟩ (.int .i64 t)).setCell ⟨row, k * 6 + 5, none⟩ (.bool true)).ownsRow base e 6 (.slice (some ⟨row, 0, none⟩) M.length cap) M.length ((M.set k (gsStep (L[k]'hL) p t)).flatMap gsCells) := by
  have s1 := (h.stored (k * 6 + 4) (.int .i64 t)).1
  rw [flat_set gsCells 6 (fun _ => rfl) { M[k] with since := t } 4 _ (by decide) M k hk rfl] at s1
  have s2 := (s1.stored (k * 6 + 5) (.bool true)).1
  rw [flat_set gsCells 6 (fun _ => rfl) { M[k] with since := t, rep := true } 5 _ (by decide) _ k (by simpa using hk) (by simp; rfl)] at s2
  rw [List.set_set] at s2
  rw [gsStep, if_pos hp, ← hM]
  exact s2

set_option maxRecDepth 100000 in
set_option maxHeartbeats 1000000 in
theorem gapsReport_in (base : Nat) (ro : Option Nat) (g : Nat) (L : List GapS) (bad : Bool) (point tick : Int) (w : World) (h : GapsAt base ro w g L bad) (h0 : 0 ≤ tick) (h1 : tick ≤ 1099511627776) (hL : GsOk L) (hn : L.length ≤ 100) :
    Calls Tryz.prog 59 #[.pointer (some ⟨g, 0, none⟩), .int .i64 point, .int .i64 tick] w fun e w' =>
      e = .returned (.tuple #[]) ∧ GapsAt base ro w' g (L.map (gsStep · point tick)) (bad || L.any (gsBad · point tick)) ∧ Keep (fun b => b = g ∨ ro = some b) w w' := by
  obtain ⟨ao, cap, hg, ho, hgb, hro⟩ := h
  obtain ⟨g0, g1, gf⟩ := two_cells hg
  have HG := Lib.hid hg
  have HO := Lib.hid ho
  clear hg ho
  go_enter Tryz.func59, Tryz.ntmps59
  go_wp2_with fail
  clear g0 g1 gf
  go_loopw [19] (fun s wr => ∃ k : Nat, k ≤ L.length ∧ s = .int .i64 k ∧ Hid (wr.heap[g]? = some (.cells #[.slice ao L.length cap, .bool (bad || gsAnyBad L point tick k)] 154)) ∧
      Hid (wr.ownsRow base 156 6 (.slice ao L.length cap) L.length ((gsHalf L point tick k).flatMap gsCells)) ∧ Keep (fun b => b = g ∨ ro = some b) w wr) (fun s _ => L.length - (intOf s).toNat)
  case atStart => exact ⟨0, Nat.zero_le _, rfl, by simpa [gsAnyBad] using HG, by rw [gsHalf_zero]; exact HO, Keep.refl _ _⟩
  case round =>
    obtain ⟨k, hk, rfl, hg, ho, hkp⟩ := hrel
    clear HG HO
    by_cases hlt : k < L.length
    · obtain ⟨row, rfl⟩ : ∃ row, ao = some ⟨row, 0, none⟩ := by
        rcases ho.out.2 with ⟨hv, hn0⟩ | ⟨q, c, cur, hv, _⟩
        · omega
        · simp at hv; exact ⟨q, hv.1⟩
      have hrg : base ≤ row := (ho.out.lt row rfl).1
      obtain ⟨g0, g1, gf⟩ := two_cells hg.out
      have hl := gsHalf_length L point tick k hk
      obtain ⟨c0, c1, c2, c3, c4, c5, cf⟩ := gs_cells ho.out k (by omega) hl
      rw [gsHalf_get L point tick k hlt] at c0 c1 c2 c3 c4 c5
      have hsk := hL L[k] (List.getElem_mem _)

      
      have HG := Lib.hid hg.out
      have HO := Lib.hid ho.out
      clear hg ho
      go_upto_region 5 with fail
      go_cut [69] (fun s wx => s = .bool (gsBad L[k] point tick) ∧ ∃ q, wr.drewN q = wx)
      case first =>
        by_cases hp : point = L[k].g.dst
        · have hpb : (point == L[k].g.dst) = true := beq_iff_eq.2 hp
          have HP := Lib.hid hp
          clear hp
          cases hrep : L[k].rep
          · rw [hrep] at c5
            go_quiet (fail)
            go_wp2_with fail
            go_meet
            exact ⟨val_bool (gsBad_new HP.out hrep).symm, _, rfl⟩
          · rw [hrep] at c5
            by_cases hm : tick - L[k].since < L[k].g.mn
            · go_quiet (fail)
              go_wp2_with fail
              go_meet
              exact ⟨val_bool (gsBad_lo HP.out hm).symm, _, rfl⟩
            · by_cases hx : L[k].g.mx < tick - L[k].since
              · go_quiet (fail)
                go_wp2_with fail
                go_meet
                exact ⟨val_bool (gsBad_hi HP.out hx).symm, _, rfl⟩
              · go_quiet (fail)
                go_wp2_with fail
                go_meet
                exact ⟨val_bool (gsBad_ok HP.out hrep (by omega) (by omega)).symm, _, rfl⟩
        · have hpb : (point == L[k].g.dst) = false := by simp [hp]
          go_quiet (fail)
          go_wp2_with fail
          go_meet
          exact ⟨val_bool (gsBad_other hp).symm, _, rfl⟩
      case rest =>
      obtain ⟨rfl, q, rfl⟩ := hcut
      clear g0 g1 gf c0 c1 c2 c3 c4 c5 cf
      replace HG := Lib.hid (get_drewN q HG.out)
      replace HO := Lib.hid (ownsRow_drewN q HO.out)
      replace hkp := keep_drewN q hkp
      generalize wr.drewN q = w2 at HG HO hkp ⊢
      go_upto_if 69 with fail
      go_cut [] (fun wx => Hid (wx.heap[g]? = some (.cells #[.slice (some ⟨row, 0, none⟩) L.length cap, .bool (bad || gsAnyBad L point tick (k + 1))] 154)) ∧
        Hid (wx.ownsRow base 156 6 (.slice (some ⟨row, 0, none⟩) L.length cap) L.length ((gsHalf L point tick k).flatMap gsCells)) ∧ Keep (fun b => b = g ∨ ro = some b) w wx)
      case first =>
        have hsu := gsAnyBad_succ L point tick k hlt
        cases hgb : gsBad L[k] point tick
        · rw [hgb, Bool.or_false] at hsu
          rw [← hsu] at HG
          clear hsu
          go_wp2_with fail
          go_meet
          exact ⟨HG, HO, hkp⟩
        · rw [hgb, Bool.or_true] at hsu
          obtain ⟨g0, g1, gf⟩ := two_cells HG.out
          have n1 := get_setCell (o := 1) (.bool true) HG.out
          have n2 := keep_set w2 g 1 (.bool true)
          have HN1 := Lib.hid n1
          have HN2 := Lib.hid n2
          have HSU := Lib.hid hsu
          clear n1 n2 hsu
          go_wp2_with fail
          go_meet
          refine ⟨?_, ownsRow_keepO HO.out HN2.out (fun b hb hb' => by have := (HO.out.lt b hb).1; omega), hkp.step HN2.out (fun b hb _ => .inl hb)⟩
          rw [HSU.out, Bool.or_true]
          exact HN1.out
      case rest =>
      clear HG HO hkp
      obtain ⟨HG, HO, hkp⟩ := hcut
      obtain ⟨c0, c1, c2, c3, c4, c5, cf⟩ := gs_cells HO.out k (by omega) hl
      rw [gsHalf_get L point tick k hlt] at c0 c4 c5
      by_cases hp : point = L[k].g.fr
      · have hpb : (point == L[k].g.fr) = true := beq_iff_eq.2 hp
        have HP := Lib.hid hp
        clear hp
        go_wp2_with fail
        go_roundw
        case rel =>
          have k1 := keep_set wc row (k * 6 + 4) (.int .i64 tick)
          have k2 := keep_more k1 (k * 6 + 5) (.bool true)
          refine ⟨k + 1, by omega, by go_num, k2.get HG.out (by omega), ?_, hkp.step k2 (fun b hb _ => .inr (by rw [hb, ← hro]; rfl))⟩
          have hs := gsStore (t := tick) (M := gsHalf L point tick k) (L := L) (p := point) (k := k) (by omega) hlt (gsHalf_get L point tick k hlt) HP.out (by rw [hl]; exact HO.out)
          rw [hl, ← gsHalf_succ L point tick k hlt] at hs
          exact hs
        case measure => simp [intOf]; omega
      · have hpb : (point == L[k].g.fr) = false := by simp [hp]
        go_wp2_with fail
        go_roundw
        case rel => exact ⟨k + 1, by omega, by go_num, HG, by rw [gsHalf_same L point tick k hlt hp]; exact HO, hkp⟩
        case measure => simp [intOf]; omega
    · have hkk : k = L.length := by omega
      subst hkk
      go_wp2_with fail
      go_end0
      refine ⟨rfl, ⟨ao, cap, ?_, ?_, hgb, (by rw [← hro]; cases ao <;> rfl)⟩, hkp⟩
      · have := hg.out
        rw [gsAnyBad_all] at this
        rw [List.length_map]; exact this
      · have := ho.out
        rw [gsHalf_all] at this
        rw [List.length_map]; exact this
theorem gapsReport_any (base : Nat) (ro : Option Nat) (g : Nat) (L : List GapS) (bad : Bool) (point tick : Int) (w : World) (h : GapsAt base ro w g L bad) (h0 : 0 ≤ tick) (h1 : tick ≤ 1099511627776) (hL : GsOk L) (hn : L.length ≤ 100) :
    Calls Tryz.prog 59 #[.pointer (some ⟨g, 0, none⟩), .int .i64 point, .int .i64 tick] w fun e w' =>
      e = .returned (.tuple #[]) ∧ GapsAt base ro w' g (L.map (gsStep · point tick)) (bad || L.any (gsBad · point tick)) ∧ Keep (fun b => b = g ∨ ro = some b) w w' ∧ GsOk (L.map (gsStep · point tick)) ∧ (L.map (gsStep · point tick)).length ≤ 100 :=
  (gapsReport_in base ro g L bad point tick w h h0 h1 hL hn).mono fun _ _ ⟨a, b, c⟩ => ⟨a, b, c, hL.step h0 h1, by rw [List.length_map]; exact hn⟩

set_option maxHeartbeats 400000 in
theorem gapsEnd_any (base : Nat) (ro : Option Nat) (g : Nat) (L : List GapS) (bad : Bool) (w : World) (h : GapsAt base ro w g L bad) :
    Calls Tryz.prog 111 #[.pointer (some ⟨g, 0, none⟩)] w fun e w' => e = .returned (.bool (!bad)) ∧ GapsAt base ro w' g L false ∧ Keep (fun b => b = g ∨ ro = some b) w w' := by
  obtain ⟨ao, cap, hg, ho, hgb, hro⟩ := h
  obtain ⟨g0, g1, gf⟩ := two_cells hg
  have n1 := get_setCell (o := 1) (.bool false) hg
  have n2 := keep_set w g 1 (.bool false)
  have fin : GapsAt base ro (w.setCell ⟨g, 1, none⟩ (.bool false)) g L false ∧ Keep (fun b => b = g ∨ ro = some b) w (w.setCell ⟨g, 1, none⟩ (.bool false)) :=
    ⟨⟨ao, cap, n1, ownsRow_keepO ho n2 (fun b hb hb' => by have := (ho.lt b hb).1; omega), hgb, hro⟩, n2.mono (fun b _ hb => .inl hb)⟩
  have FIN := Lib.hid fin
  clear fin n1 n2 hg ho
  go_enter Tryz.func111, Tryz.ntmps111
  go_wp2_with fail
  go_ret
  exact ⟨by cases bad <;> rfl, FIN.out⟩
end Go.Proofs.YtakjbjokekbmbaaGreatDoor
