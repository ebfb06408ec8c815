import Derived.Test.YtikehilbmldadaaGreatDoorQ47
import Derived.Test.YtikehilbmldadaaGreatDoorQ48
import Derived.Test.YtikehilbmldadaaGreatDoorCards
import Derived.Test.YtikehilbmldadaaGreatDoorTie
import Derived.LaidMore
import Derived.SevenTiedAt
import Derived.Stop.Joined
import Derived.Test.YtikehilbmldadaaGreatDoorRows
import Derived.JoinedOf
import Derived.KernelRfl
set_option maxRecDepth 100000
namespace Go.Proofs.YtikehilbmldadaaGreatDoor.scriptAgain
open Go.ChangeShapes Go.WideShapes Go.ChangeAt Go.RowKit
set_option linter.unusedVariables false
theorem own : ownKnob Tryz.prog.godebug = none := by kernel_rfl
theorem laidOut : laidOutB Tryz.prog = true := by kernel_rfl
theorem lifted (os : Os) (started : os.Started) (H : Type) (enc : TypeId × Value → H) :
    ReturnsInHanded {} Tryz.checked os 5 .any (fun w args => (Rows.scriptAgainSpec.pre enc Tryz.prog Tryz.f5 Rows.scriptAgainRow.domain false w args ∧ laidMetH Tryz.prog Rows.scriptAgainRow.laid w) ∧ sizedMet enc Tryz.prog Tryz.f5 (OpenSpec.ofChange Rows.scriptAgainSpec) false w args) (Rows.scriptAgainSpec.post enc Tryz.prog Tryz.f5 false true false false) := by
  refine returnsInHanded_of_change_and (C := Tryz.checked) (X := fun w _ => laidMetH Tryz.prog Rows.scriptAgainRow.laid w) (fun _ _ _ hh h => h.of_heap hh) own started (by kernel_rfl) Tryz.func5
    (ChangeSpec.witness_shaped (enc := enc) (C := Tryz.checked) (os := os) (X := fun w _ => laidMetH Tryz.prog Rows.scriptAgainRow.laid w) false (doorW os) #[.string ByteArray.empty, .slice none 0 0, .int .i64 0] 8 (doorW_os os) (World.shaped_of_ZipB (by kernel_rfl) (by kernel_rfl)) (by kernel_rfl) (by kernel_rfl) (by kernel_rfl) (door_met os _)) ?_
  intro W base args ds gs before hval0 hW hcnd _ hL _
  have hval : ∀ (j : Nat) t v, Tryz.f5.params[j]? = some t → args[j]? = some v → Value.okWide Tryz.prog W .any base t v := hval0
  have hW' := hW
  obtain ⟨p, q, hA0, hV, rfl, hfz, hnd⟩ := hW
  have hA : DataW.TrodAll enc Tryz.prog W 0 (fun _ => true) true Tryz.f5.params.toList args.toList ds p := hA0
  rw [Tryz.params5] at hA hval
  obtain ⟨v0, vs0, d0, ds0, p0, q0, hargs, rfl, rfl, h0, r0⟩ := trodAll_cons hA
  obtain ⟨v1, vs1, d1, ds1, p1, q1, rfl, rfl, rfl, h1, r1⟩ := trodAll_cons r0
  obtain ⟨v2, vs2, d2, ds2, p2, q2, rfl, rfl, rfl, h2, r2⟩ := trodAll_cons r1
  obtain ⟨rfl, rfl, rfl⟩ := trodAll_nil r2
  obtain rfl : args = #[v0, v1, v2] := by cases args; simp_all
  obtain ⟨rfl, rfl⟩ := trodVars_none hV
  obtain ⟨s0, rfl, rfl, rfl, z0⟩ := Go.ChangeMaps.open_string Tryz.underlying9 (hval 0 9 v0 rfl rfl) h0
  obtain ⟨a1, n1, c1, hv1⟩ := okWide_slice Tryz.underlying71 (hval 1 71 v1 rfl rfl)
  obtain ⟨l1, sl1, wf1⟩ := (show Rd enc Tryz.prog W 71 [v1] from by rw [hv1]; rw [hv1] at h1; exact rd_of h1).rows lnCs 2 (fun _ => rfl) (by decide) Tryz.underlying71 Tryz.cLine _ rd_line
  obtain ⟨a2, rfl, rfl, rfl, w2⟩ := open_int Tryz.underlying3 (hval 2 3 v2 rfl rfl) h2
  obtain ⟨sa, hSn, hTx, hNum, hTab⟩ := laid_all hL
  clear hA0 hval0
  simp only [List.append_nil] at hW'
  refine (scriptAgain_any _ sa s0 l1 v1 a2 W hSn hTx hNum hTab ⟨sl1, fun r hr => (wf1 r hr).1, fun r hr k hk => (wf1 r hr).2 k hk⟩).mono fun e W' ⟨he, hb⟩ => ?_
  subst he
  exact ⟨_, rfl, post_law laidOut (by kernel_rfl) rfl rfl Tryz.underlying4 hW' rfl hb⟩
end Go.Proofs.YtikehilbmldadaaGreatDoor.scriptAgain
namespace Go.Proofs.YtikehilbmldadaaGreatDoor
set_option linter.unusedVariables false
theorem bAndA {a b : Bool} (h1 : a = true) (h2 : b = true) : (a && b) = true := by rw [h1, h2]; rfl
set_option maxHeartbeats 0 in
theorem scriptAgain.closed : joinedFacts Tryz.prog 5 Tryz.f5 Rows.scriptAgainSpec Rows.scriptAgainRow = true := by
  unfold joinedFacts
  refine (bAndA (bAndA (bAndA (bAndA (bAndA (bAndA (bAndA (bAndA (bAndA (bAndA (bAndA (bAndA (bAndA (bAndA (bAndA (bAndA (bAndA (bAndA (bAndA (bAndA (bAndA (bAndA (bAndA (bAndA (bAndA (bAndA (bAndA (bAndA (bAndA (bAndA (bAndA ?_ ?_) ?_) ?_) ?_) ?_) ?_) ?_) ?_) ?_) ?_) ?_) ?_) ?_) ?_) ?_) ?_) ?_) ?_) ?_) ?_) ?_) ?_) ?_) ?_) ?_) ?_) ?_) ?_) ?_) ?_) ?_)
  all_goals (as_aux_lemma => kernel_rfl)
end Go.Proofs.YtikehilbmldadaaGreatDoor
