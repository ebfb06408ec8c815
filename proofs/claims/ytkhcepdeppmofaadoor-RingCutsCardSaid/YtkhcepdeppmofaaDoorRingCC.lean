/- RingCuts: the ring and the row of what was done; ends. -/
import Derived.Test.YtkhcepdeppmofaaDoorRingQ
import Derived.Test.YtkhcepdeppmofaaDoorApps
namespace Go.Proofs.YtkhcepdeppmofaaDoor
open Go.RowKit
set_option linter.unusedVariables false

/-- The ring, and the row of what was done beside it. -/
structure RD (B : Nat) (sa : Nat → Addr) (w0 : World) (rg c rb cap : Nat) (m : CM) (dead : Bool) (L : List RecV) (lv : Value) (D : List RecV) (dv : Value) (w : World) : Prop where
  st : RSt B sa w0 rg c rb cap m dead L lv w
  se : Sents B sa w
  own : OwnAt w w0.heap.size 60 4 dv D.length (D.flatMap recCells)
  off : ∀ b, dv.ownBlock = some b → b ≠ rg ∧ b ≠ c ∧ b ≠ rb ∧ lv.ownBlock ≠ some b
  lt1 : ∀ b, lv.ownBlock = some b → b < w.heap.size
  nil : D = [] → dv = .slice none 0 0
section
variable {B : Nat} {sa : Nat → Addr} {w0 w w' : World} {rg c rb cap : Nat} {m m' : CM} {dead dead' : Bool} {L L' : List RecV} {lv lv' : Value} {D : List RecV} {dv dv' : Value}
theorem RD.below (h : RD B sa w0 rg c rb cap m dead L lv D dv w) (b : Below w.heap.size w w') : RD B sa w0 rg c rb cap m dead L lv D dv w' :=
  ⟨h.st.below b, h.se.below b, h.own.later b, h.off, fun x hx => Nat.lt_of_lt_of_le (h.lt1 x hx) b.size, h.nil⟩
theorem RD.drew (h : RD B sa w0 rg c rb cap m dead L lv D dv w) : RD B sa w0 rg c rb cap m dead L lv D dv w.drew := h.below ((Below.refl _ _).drew)
theorem RD.prog (h : RD B sa w0 rg c rb cap m dead L lv D dv w) (h' : RSt B sa w0 rg c rb cap m' dead' L' lv' w') (k : Keep (fun b => b = c ∨ b = rb ∨ b = rg ∨ w.heap.size ≤ b) w w') (hn : lv' = lv ∨ NewV w w' lv') : RD B sa w0 rg c rb cap m' dead' L' lv' D dv w' := by
  have ht := h.se.r.top
  have hl2 := h.st.lay
  refine ⟨h', h.se.keep k (fun b hb => by omega), h.own.keep k (fun b hb => ?_), fun b hb => ?_, fun b hb => ?_, h.nil⟩
  · obtain ⟨o1, o2, o3, _⟩ := h.off b hb
    have := (h.own.lt b hb).2
    omega
  · obtain ⟨o1, o2, o3, o4⟩ := h.off b hb
    refine ⟨o1, o2, o3, ?_⟩
    rcases hn with rfl | hn
    · exact o4
    · intro e
      have := (hn b e).1
      have := (h.own.lt b hb).2
      omega
  · rcases hn with rfl | hn
    · exact Nat.lt_of_lt_of_le (h.lt1 b hb) k.size
    · exact (hn b hb).2
theorem RD.cells (h : RD B sa w0 rg c rb cap m dead L lv D dv w) (k : Keep (· = c) w w') (h' : CellsAt w' c rb (some ⟨rb, 0, none⟩) cap m') : RD B sa w0 rg c rb cap m' dead L lv D dv w' :=
  h.prog (h.st.write (k.mono (fun _ _ h => .inl h)) h') (k.mono (fun _ _ h => .inl h)) (.inl rfl)
theorem RSt.cr2 (h : RSt B sa w0 rg c rb cap m dead L lv w) : CR B sa w0 c rb cap m w := ⟨h.mem, h.se, h.bel, ⟨h.lay.1, h.lay.2.1, h.lay.2.2.2.1⟩⟩
theorem RD.open1 {rg' : Nat} (h : RD B sa w0 rg c rb cap m dead L lv D dv w) (h' : RSt B sa w0 rg' c rb cap m dead' L' lv' w') (o : OpenNew w w' rg' lv') : RD B sa w0 rg' c rb cap m dead' L' lv' D dv w' := by
  have hx := h.below o.bel
  have ho := o.rg
  refine ⟨h', hx.se, hx.own, fun b hb => ?_, fun b hb => (o.lv b hb).2, h.nil⟩
  obtain ⟨o1, o2, o3, o4⟩ := h.off b hb
  have hlt := (h.own.lt b hb).2
  exact ⟨by omega, o2, o3, fun e => by have := (o.lv b e).1; omega⟩
/-- One more is done. -/
theorem RD.app {W1 : World} {D' : List RecV} (h : RD B sa w0 rg c rb cap m dead L lv D dv w) (b : Below w.heap.size w W1) (g : W1.grownBy w' dv.ownBlock) (ho : OwnAt w' w0.heap.size 60 4 dv' D'.length (D'.flatMap recCells)) (hn : dv'.ownBlock = dv.ownBlock ∨ ∀ k, dv'.ownBlock = some k → W1.heap.size ≤ k) (hD : D' ≠ []) : RD B sa w0 rg c rb cap m dead L lv D' dv' w' := by
  have hx := h.below b
  have k := Keep.of_grown g
  have ht := h.se.r.top
  have hz := h.st.bel.size
  obtain ⟨l1, l2, l3⟩ := hx.st.lts
  have hlo := hx.st.lay
  refine ⟨hx.st.far k (fun x hx2 => (h.own.lt x hx2.symm).1) ⟨fun e => (h.off _ e.symm).1 rfl, fun e => (h.off _ e.symm).2.1 rfl, fun e => (h.off _ e.symm).2.2.1 rfl⟩ (fun x hx2 e => (h.off x e.symm).2.2.2 hx2), hx.se.keep k (fun x hx2 => by have := (h.own.lt x hx2.symm).1; omega), ho, fun x hx2 => ?_, fun x hx2 => Nat.lt_of_lt_of_le (hx.lt1 x hx2) k.size, fun e => absurd e hD⟩
  rcases hn with e | e
  · rw [e] at hx2; exact h.off x hx2
  · have h1 := e x hx2
    exact ⟨by omega, by omega, by omega, fun e2 => by have := hx.lt1 x e2; omega⟩
end

set_option maxRecDepth 20000 in
set_option maxHeartbeats 1000000 in
theorem ends_any (base : Nat) (R : Nat → Prop) (D : List RecV) (va vb : Value) (w : World) (ha : SlOf R w va 4 ((lastR D).flatMap recCells) (lastR D).length) (hb : OwnAt w base 60 4 vb D.length (D.flatMap recCells)) (hnil : D = [] → vb = .slice none 0 0) (hD : ∀ j (hj : j < D.length), D[j].seq = j + 1) (hn : D.length ≤ 1000) :
    Calls Tryd.prog 48 #[va, vb] w fun e w' => e = .returned (.bool true) ∧ ∃ q, w' = w.drewN q := by
  have HA := Lib.hid ha
  have HB := Lib.hid hb
  have HD := Lib.hid hD
  have hl8 := lastR_len D
  clear hD
  by_cases h0 : D.length = 0
  · obtain rfl := hnil (List.eq_nil_of_length_eq_zero h0)
    have hD0 : D = [] := List.eq_nil_of_length_eq_zero h0
    have HSM : Hid (Calls Tryd.prog 45 #[va, .slice none 0 0] w fun e w' => e = .returned (.bool true) ∧ ∃ q, w' = w.drewN q) := (show _ from by
      have := sameRecs_any R (fun _ => False) (lastR D) [] va (.slice none 0 0) w HA.out (SlOf.nil _ w 4) (by omega) (by decide)
      rw [show decide (lastR D = []) = true from by rw [hD0]; rfl] at this
      exact this)
    clear ha hb hnil h0 hD0 hl8
    go_enter Tryd.func48, Tryd.ntmps48
    go_wp2_with fail
    go_loop [6] (fun s6 => s6 = .int .i64 0) (fun _ => 0)
    case atStart => rfl
    case round =>
      obtain rfl := hrel
      go_wp2_with fail
      refine HSM.out.mono ?_
      rintro e w' ⟨rfl, hw⟩
      go_wp2_with fail
      go_ret
      exact ⟨rfl, hw⟩
  · obtain ⟨ao, cap, rfl⟩ := hb.val
    obtain ⟨g, off, rfl, hcap⟩ := hb.pos (by omega)
    obtain ⟨K, hK⟩ : ∃ K, K = D.length - 8 := ⟨_, rfl⟩
    have hlr : lastR D = D.drop K := by rw [hK]; rfl
    have hdl : (D.drop K).length = D.length - K := List.length_drop
    have hrun := run_from_recs_off w g off D.length cap K (by omega) (by omega)
    have HSM : Hid (Calls Tryd.prog 45 #[va, .slice (some ⟨g, off + K * 4, none⟩) (D.length - K) (cap - K)] w fun e w' => e = .returned (.bool true) ∧ ∃ q, w' = w.drewN q) := (show _ from by
      have h1 := (hb.dropAt K (by omega)).slOf
      rw [← flat_drop, ← hdl] at h1
      have h2 := HA.out
      rw [hlr] at h2
      have := sameRecs_any _ _ (D.drop K) (D.drop K) va _ w h2 h1 (by omega) (by omega)
      rw [decide_eq_true rfl, hdl] at this
      exact this)
    have HKK := Lib.hid hK
    have hK1 : (K : Int) ≤ (D.length : Int) := by omega
    clear ha hnil hl8 hlr hdl
    go_enter Tryd.func48, Tryd.ntmps48
    go_upto_if 11 with fail
    go_cut [5] (fun s5 wx => s5 = .int .i64 K ∧ wx = w)
    case first =>
      by_cases h8 : (D.length : Int) - 8 < 0
      · have hK0 : K = 0 := by omega
        have HK0 := Lib.hid hK0
        clear hK0 hrun hK
        go_wp2_with fail
        go_meet
        exact ⟨by rw [HK0.out]; rfl, rfl⟩
      · have hKI : (D.length : Int) - 8 = (K : Int) := by omega
        clear hrun hK
        go_wp2_with fail
        go_meet
        exact ⟨by first | rfl | rw [hKI], rfl⟩
    case rest =>
    obtain ⟨rfl, rfl⟩ := hcut
    clear hK
    go_wp2_with fail
    go_loop [6] (fun s6 => ∃ j : Nat, j ≤ D.length ∧ s6 = .int .i64 j) (fun s6 => D.length - (intOf s6).toNat)
    case atStart => exact ⟨0, Nat.zero_le _, rfl⟩
    case round =>
      obtain ⟨j, hj, rfl⟩ := hrel
      by_cases hlt : j < D.length
      · obtain ⟨gb, go, e, _, _, hc⟩ := rec_cells HB.out.slOf (by omega)
        obtain ⟨rfl, rfl, _⟩ := Addr.mk.inj (Option.some.inj e)
        have q0 := (hc j hlt).1
        rw [HD.out j hlt, show (((j + 1 : Nat) : Int)) = (j : Int) + 1 from rfl] at q0
        have hltI : (j : Int) < (D.length : Int) := by omega
        have hwj : IntKind.i64.wrap ((j : Int) + 1) = (j : Int) + 1 := IntWalk.i64_in _ (by omega)
        clear hc e hrun
        go_wp2_with fail
        go_round
        case rel => exact ⟨j + 1, by omega, by go_num⟩
        case measure => simp [intOf]; omega
      · go_wp2_with fail
        refine HSM.out.mono ?_
        rintro e w' ⟨rfl, hw⟩
        go_wp2_with fail
        go_ret
        exact ⟨rfl, hw⟩
end Go.Proofs.YtkhcepdeppmofaaDoor
