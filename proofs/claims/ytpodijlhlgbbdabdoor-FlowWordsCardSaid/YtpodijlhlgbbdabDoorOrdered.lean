/- The closed fact "ordered". -/
import Derived.Test.YtpodijlhlgbbdabDoorFlowR
namespace Go.Proofs.YtpodijlhlgbbdabDoor
open Go.RowKit
set_option linter.unusedVariables false

theorem FlowAt.low {lo lo' hi : Nat} {E : EntV} {es : List (Int × Int)} {w : World} {f : Nat} {at' : Int} {bad : Bool} (h : FlowAt lo hi E es w f at' bad) (hl : lo' ≤ lo) : FlowAt lo' hi E es w f at' bad := by
  obtain ⟨⟨mb, a1, k1, a2, k2, K, h1, h2, h3, h4, h5, h6, h7, h8⟩, h9, hh, ht⟩ := h
  exact ⟨⟨mb, a1, k1, a2, k2, K, h1, h2, h3, h4.mono (fun b hb => ⟨Nat.le_trans hl hb.1, hb.2⟩), h5.mono (fun b hb => ⟨Nat.le_trans hl hb.1, hb.2⟩), Nat.le_trans hl h6, h7, h8⟩, Nat.le_trans hl h9, hh, ht⟩

def ordE : EntV := ⟨⟨#[]⟩, 0, [⟨#[112]⟩, ⟨#[113]⟩], 0, 0, 0, [], [(0, 1)], [0], [1]⟩
theorem ord_light : Light ordE := ⟨by decide, by decide, by decide, by decide, by decide⟩
theorem ord1 : flowThen ordE 0 = 0 := by decide
theorem ord2 : flowMay ordE (-1) 0 = true := by decide
theorem ord3 : flowThen ordE 1 = -1 := by decide
theorem ord4 : flowMay ordE 0 1 = true := by decide
theorem ord5 : flowMay ordE (-1) 1 = false := by decide

set_option maxRecDepth 100000 in
theorem flowNew_ord (w : World) : Calls Tryd.prog 86 #[.agg #[.string ⟨#[]⟩, .int .i64 0, .slice (some ⟨w.heap.size, 0, none⟩) 2 2, .int .i64 0, .int .i64 0, .int .i64 0, .slice none 0 0, .slice (some ⟨w.heap.size + 1, 0, none⟩) 1 1, .slice (some ⟨w.heap.size + 1 + 1, 0, none⟩) 1 1, .slice (some ⟨w.heap.size + 1 + 1 + 1, 0, none⟩) 1 1]]
    ((((w.alloc (.cells #[.string ⟨#[112]⟩, .string ⟨#[113]⟩] 9)).alloc (.cells #[.int .i64 0, .int .i64 1] 131)).alloc (.cells #[.int .i64 0] 3)).alloc (.cells #[.int .i64 1] 3))
    fun e w' => ∃ f hi, e = .returned (.pointer (some ⟨f, 0, none⟩)) ∧ FlowAt w.heap.size hi ordE ordE.edges w' f (-1) false ∧ Below w.heap.size w w' := by
  obtain ⟨w1, hw1⟩ : ∃ w1, w1 = w.alloc (.cells #[.string ⟨#[112]⟩, .string ⟨#[113]⟩] 9) := ⟨_, rfl⟩
  obtain ⟨w2, hw2⟩ : ∃ w2, w2 = w1.alloc (.cells #[.int .i64 0, .int .i64 1] 131) := ⟨_, rfl⟩
  obtain ⟨w3, hw3⟩ : ∃ w3, w3 = w2.alloc (.cells #[.int .i64 0] 3) := ⟨_, rfl⟩
  obtain ⟨w4, hw4⟩ : ∃ w4, w4 = w3.alloc (.cells #[.int .i64 1] 3) := ⟨_, rfl⟩
  rw [← hw1, ← hw2, ← hw3, ← hw4]
  have z1 : w1.heap.size = w.heap.size + 1 := by rw [hw1, World.size_alloc]
  have z2 : w2.heap.size = w.heap.size + 1 + 1 := by rw [hw2, World.size_alloc, z1]
  have z3 : w3.heap.size = w.heap.size + 1 + 1 + 1 := by rw [hw3, World.size_alloc, z2]
  have k2 : Keep (fun _ => False) w1 w2 := by rw [hw2]; exact (Keep.refl _ _).alloc _
  have k3 : Keep (fun _ => False) w2 w3 := by rw [hw3]; exact (Keep.refl _ _).alloc _
  have k4 : Keep (fun _ => False) w3 w4 := by rw [hw4]; exact (Keep.refl _ _).alloc _
  have b4 : Below w.heap.size w w4 := by
    rw [hw4]; refine Below.alloc ?_ (by omega) _
    rw [hw3]; refine Below.alloc ?_ (by omega) _
    rw [hw2]; refine Below.alloc ?_ (by omega) _
    rw [hw1]; exact (Below.refl _ _).alloc (Nat.le_refl _) _
  have s1 := slOf_alloc w [.string ⟨#[112]⟩, .string ⟨#[113]⟩] 9 1 2 rfl (by decide)
  have s2 := slOf_alloc w1 [.int .i64 0, .int .i64 1] 131 2 1 rfl (by decide)
  have s3 := slOf_alloc w2 [.int .i64 0] 3 1 1 rfl (by decide)
  have s4 := slOf_alloc w3 [.int .i64 1] 3 1 1 rfl (by decide)
  rw [z1] at s2
  rw [z2] at s3
  rw [z3] at s4
  have e1 := (((show SlOf _ w1 _ _ _ _ from hw1 ▸ s1).keep k2 (fun _ _ h => h)).keep k3 (fun _ _ h => h)).keep k4 (fun _ _ h => h)
  have e2 := ((show SlOf _ w2 _ _ _ _ from hw2 ▸ s2).keep k3 (fun _ _ h => h)).keep k4 (fun _ _ h => h)
  have e3 := (show SlOf _ w3 _ _ _ _ from hw3 ▸ s3).keep k4 (fun _ _ h => h)
  have e4 := (show SlOf _ w4 _ _ _ _ from hw4 ▸ s4)
  have es : EntSl (· < w4.heap.size) w4 ordE (.slice (some ⟨w.heap.size, 0, none⟩) 2 2) (.slice none 0 0) (.slice (some ⟨w.heap.size + 1, 0, none⟩) 1 1) (.slice (some ⟨w.heap.size + 1 + 1, 0, none⟩) 1 1) (.slice (some ⟨w.heap.size + 1 + 1 + 1, 0, none⟩) 1 1) :=
    ⟨e1.here, SlOf.nil _ _ _, e2.here, e3.here, e4.here⟩
  refine (flowNew_any (· < w4.heap.size) ordE _ _ _ _ _ w4 es (fun b h => h) ord_light).mono ?_
  rintro e w' ⟨f, hi, rfl, hF, hB⟩
  exact ⟨f, hi, rfl, hF.low b4.size, b4.trans (hB.mono b4.size)⟩

set_option maxRecDepth 100000 in
set_option maxHeartbeats 1000000 in
theorem ordered_any (w : World) : Calls Tryd.prog 49 #[] w fun e w' => e = .returned (.bool true) ∧ Below w.heap.size w w' := by
  go_enter Tryd.func49, Tryd.ntmps49
  go_wp2_with fail
  refine (flowNew_ord w).mono ?_
  rintro e w1 ⟨f, hi, rfl, h1, b1⟩
  have hf := h1.flo
  have H1 := Lib.hid h1; clear h1
  go_wp2_with fail
  refine (flowReport_any _ _ _ _ _ _ _ _ H1.out).mono ?_
  rintro e w2 ⟨rfl, h2, k2⟩
  rw [ord1, ord2] at h2
  have H2 := Lib.hid h2; clear h2
  go_wp2_with fail
  refine (flowReport_any _ _ _ _ _ _ _ _ H2.out).mono ?_
  rintro e w3 ⟨rfl, h3, k3⟩
  rw [ord3, ord4] at h3
  have H3 := Lib.hid h3; clear h3
  go_wp2_with fail
  refine (flowAtOf_any _ _ _ _ _ _ _ H3.out).mono ?_
  rintro e w' ⟨rfl, rfl⟩
  go_wp2_with fail
  refine (flowEnd_any _ _ _ _ _ _ _ H3.out).mono ?_
  rintro e w4 ⟨rfl, h4, k4⟩
  have H4 := Lib.hid h4; clear h4
  go_wp2_with fail
  refine (flowReport_any _ _ _ _ _ _ _ _ H4.out).mono ?_
  rintro e w5 ⟨rfl, h5, k5⟩
  rw [ord5] at h5
  have H5 := Lib.hid h5; clear h5
  go_wp2_with fail
  refine (flowEnd_any _ _ _ _ _ _ _ H5.out).mono ?_
  rintro e w6 ⟨rfl, h6, k6⟩
  go_wp2_with fail
  go_ret
  exact ⟨rfl, b1.trans (((((k2.trans k3).trans k4).trans k5).trans k6).below b1.size (fun b hb => by subst hb; omega))⟩
end Go.Proofs.YtpodijlhlgbbdabDoor
