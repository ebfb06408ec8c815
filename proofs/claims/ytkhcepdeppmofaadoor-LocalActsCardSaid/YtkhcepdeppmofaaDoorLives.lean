/- The closed fact "lives"; an entity of one report. -/
import Derived.Test.YtkhcepdeppmofaaDoorLocalB
import Derived.Test.YtkhcepdeppmofaaDoorLocalPlain
namespace Go.Proofs.YtkhcepdeppmofaaDoor
open Go.RowKit
set_option linter.unusedVariables false

def nilS : Value := .slice none 0 0
theorem localNew_one (tol : Int) (pts : List ByteArray) (a : Option Addr) (n c : Nat) (w : World) :
    Calls Tryd.prog 13 #[.agg #[.string ⟨#[]⟩, .int .i64 tol, .slice a n c, .int .i64 0, .int .i64 1, .int .i64 1, .slice none 0 0, .slice none 0 0, .slice none 0 0, .slice none 0 0]] w fun e w' =>
      e = .returned (.pointer (some ⟨w.heap.size + 1, 0, none⟩)) ∧ w'.heap[w.heap.size + 1]? = some (locC none (oneE tol pts) (.slice a n c) nilS nilS nilS nilS) ∧ Below w.heap.size w w' :=
  localNew_any (oneE tol pts) (.slice a n c) nilS nilS nilS nilS w
theorem one_light (tol : Int) (pts : List ByteArray) (h : pts.length ≤ 100) : Light (oneE tol pts) := ⟨h, Nat.zero_le _, Nat.zero_le _, Nat.zero_le _, Nat.zero_le _⟩
theorem one_sl {R : Nat → Prop} {w : World} (tol : Int) (pts : List ByteArray) {v : Value} (h : SlOf R w v 1 (strCells1 pts) pts.length) : EntSl R w (oneE tol pts) v nilS nilS nilS nilS := ⟨h, SlOf.nil _ _ _, SlOf.nil _ _ _, SlOf.nil _ _ _, SlOf.nil _ _ _⟩

theorem oneNew_x (tol : Int) (pts : List ByteArray) (n c : Nat) (w : World) (o : Obj) (hsl : SlOf (· = w.heap.size) (w.alloc o) (.slice (some ⟨w.heap.size, 0, none⟩) n c) 1 (strCells1 pts) pts.length) :
    Calls Tryd.prog 13 #[.agg #[.string ⟨#[]⟩, .int .i64 tol, .slice (some ⟨w.heap.size, 0, none⟩) n c, .int .i64 0, .int .i64 1, .int .i64 1, .slice none 0 0, .slice none 0 0, .slice none 0 0, .slice none 0 0]] (w.alloc o) fun e w' =>
      ∃ l, e = .returned (.pointer (some ⟨l, 0, none⟩)) ∧ w.heap.size < l ∧ w'.heap[l]? = some (locC none (oneE tol pts) (.slice (some ⟨w.heap.size, 0, none⟩) n c) nilS nilS nilS nilS) ∧
        EntSl (· = w.heap.size) w' (oneE tol pts) (.slice (some ⟨w.heap.size, 0, none⟩) n c) nilS nilS nilS nilS ∧ Below w.heap.size w w' := by
  refine (localNew_one tol pts _ _ _ _).mono ?_
  rintro e w1 ⟨rfl, h1, b1⟩
  have z0 : (w.alloc o).heap.size = w.heap.size + 1 := World.size_alloc _ _
  exact ⟨_, rfl, by omega, h1, one_sl tol pts (hsl.keep (below_keep b1) (fun _ _ h => h)), ((Below.refl _ _).alloc (Nat.le_refl _) _).trans (b1.mono (by omega))⟩

theorem own_low {s t B : Nat} {w w' : World} (k : Keep (fun b => s ≤ b ∧ b < t) w w') (hB : B ≤ w.heap.size) (hs : B ≤ s) : Below B w w' := k.below hB (fun b hb => by omega)

set_option maxRecDepth 100000 in
set_option maxHeartbeats 2000000 in
theorem lives_any (w : World) : Calls Tryd.prog 10 #[] w fun e w' => e = .returned (.bool true) ∧ Below w.heap.size w w' := by
  go_enter Tryd.func10, Tryd.ntmps10
  go_wp2_with fail
  have sl := slOf_alloc w (strCells1 [⟨#[112]⟩]) 9 1 1 rfl (by decide)
  refine (oneNew_x 0 [⟨#[112]⟩] 1 1 w _ sl).mono ?_
  rintro e w1 ⟨l, rfl, hl, h1, S1, b1⟩
  have H1 := Lib.hid h1
  have SS := Lib.hid S1
  have B1 := Lib.hid b1
  have hll := lt_of_get h1
  have hs1 : ∀ b, b = w.heap.size → b < w1.heap.size := fun b hb => by omega
  clear h1 S1 sl b1
  go_wp2_with fail
  refine (localStatus_idle _ _ _ _ _ _ _ w1 H1.out).mono ?_
  rintro e w' ⟨rfl, rfl⟩
  go_wp2_with fail
  refine (localBegin_any _ _ _ _ _ _ _ _ w1 H1.out SS.out hs1 (one_light 0 _ (by decide))).mono ?_
  rintro e w2 ⟨rfl, t, h2, k2⟩
  have H2 := Lib.hid h2
  have B2 := Lib.hid (B1.out.trans (k2.below B1.out.size (fun b hb => by omega)))
  clear h2 k2
  go_wp2_with fail
  refine (localStatus_any _ _ _ _ _ _ _ _ _ _ w2 H2.out).mono ?_
  rintro e w' ⟨rfl, rfl⟩
  rw [show locStatus (locBegin (oneE 0 [⟨#[112]⟩])) = ⟨#[111, 107]⟩ from rfl]
  go_wp2_with fail
  refine (localEnd_any _ _ _ _ _ _ _ _ _ _ w2 H2.out (by decide) (by decide)).mono ?_
  rintro e w3 ⟨rfl, h3, k3⟩
  rw [show locKind (oneE 0 [⟨#[112]⟩]) (locBegin (oneE 0 [⟨#[112]⟩])) = 0 from by decide, show locNow (oneE 0 [⟨#[112]⟩]) (locBegin (oneE 0 [⟨#[112]⟩])) = false from by decide]
  have H3 := Lib.hid h3
  have B3 := Lib.hid (B2.out.trans (k3.below B2.out.size (fun b hb => Nat.le_trans B1.out.size hb.1)))
  clear h3 k3
  go_wp2_with fail
  refine (localEnd_any _ _ _ _ _ _ _ _ _ _ w3 H3.out (by decide) (by decide)).mono ?_
  rintro e w4 ⟨rfl, h4, k4⟩
  rw [show locKind (oneE 0 [⟨#[112]⟩]) (locEnd (oneE 0 [⟨#[112]⟩]) (locBegin (oneE 0 [⟨#[112]⟩]))) = 1 from by decide, show locNow (oneE 0 [⟨#[112]⟩]) (locEnd (oneE 0 [⟨#[112]⟩]) (locBegin (oneE 0 [⟨#[112]⟩]))) = true from by decide]
  have H4 := Lib.hid h4
  have B4 := Lib.hid (B3.out.trans (k4.below B3.out.size (fun b hb => Nat.le_trans B1.out.size hb.1)))
  clear h4 k4
  go_wp2_with fail
  refine (localStatus_any _ _ _ _ _ _ _ _ _ _ w4 H4.out).mono ?_
  rintro e w' ⟨rfl, rfl⟩
  rw [show locStatus (locEnd (oneE 0 [⟨#[112]⟩]) (locEnd (oneE 0 [⟨#[112]⟩]) (locBegin (oneE 0 [⟨#[112]⟩])))) = ⟨#[101, 120, 112, 105, 114, 101, 100]⟩ from by decide]
  go_wp2_with fail
  refine (localStop_any _ _ _ _ _ _ _ _ _ _ w4 H4.out).mono ?_
  rintro e w5 ⟨rfl, h5, k5⟩
  go_wp2_with fail
  go_ret
  exact ⟨rfl, B4.out.trans (k5.below B4.out.size (fun b hb => by omega))⟩
end Go.Proofs.YtkhcepdeppmofaaDoor
