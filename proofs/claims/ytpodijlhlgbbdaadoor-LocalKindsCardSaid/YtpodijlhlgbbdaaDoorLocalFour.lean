/- Four entities side by side: their memory. -/
import Derived.Test.YtpodijlhlgbbdaaDoorActs2
import Derived.Test.YtpodijlhlgbbdaaDoorLocalPlain
import Derived.Test.YtpodijlhlgbbdaaDoorLocalB
namespace Go.Proofs.YtpodijlhlgbbdaaDoor
open Go.RowKit
set_option linter.unusedVariables false

/-- What is watched, and where: entities, their values, their blocks. -/
structure FourV where
  E : Nat → EntV
  vp : Nat → Value
  vg : Nat → Value
  ve : Nat → Value
  vf : Nat → Value
  vl : Nat → Value
  l : Nat → Nat
/-- k of them have begun. -/
structure FBeg (F : FourV) (R : Nat → Prop) (B k : Nat) (s t : Nat → Nat) (w : World) : Prop where
  done : ∀ j, j < 4 → j < k → LocAt (F.l j) (s j) (t j) (F.E j) (F.vp j) (F.vg j) (F.ve j) (F.vf j) (F.vl j) (locBegin (F.E j)) w
  idle : ∀ j, j < 4 → k ≤ j → w.heap[F.l j]? = some (locC none (F.E j) (F.vp j) (F.vg j) (F.ve j) (F.vf j) (F.vl j))
  ent : ∀ j, j < 4 → EntSl R w (F.E j) (F.vp j) (F.vg j) (F.ve j) (F.vf j) (F.vl j)
  lo : ∀ j, j < 4 → j < k → B ≤ s j ∧ t j ≤ w.heap.size
  ap : ∀ i j, i < j → j < 4 → j < k → t i ≤ s j
  lt : ∀ j, j < 4 → F.l j < B
  ne : ∀ i j, i < 4 → j < 4 → i ≠ j → F.l i ≠ F.l j
  far : ∀ b, R b → b < B ∧ ∀ j, j < 4 → b ≠ F.l j
  top : B ≤ w.heap.size
def upd (f : Nat → Nat) (k v : Nat) : Nat → Nat := fun j => if j = k then v else f j
theorem fBeg_step {F : FourV} {R : Nat → Prop} {B k : Nat} {s t : Nat → Nat} {w w' : World} (h : FBeg F R B k s t w) (hk : k < 4) {t' : Nat} (hL : LocAt (F.l k) w.heap.size t' (F.E k) (F.vp k) (F.vg k) (F.ve k) (F.vf k) (F.vl k) (locBegin (F.E k)) w') (hK : Keep (· = F.l k) w w') :
    FBeg F R B (k + 1) (upd s k w.heap.size) (upd t k t') w' := by
  have ht : t' ≤ w'.heap.size := by
    obtain ⟨⟨wb, a, g, f, ro, base, lo, hi, h1, h2⟩, _⟩ := hL
    exact h2.top
  have hsz := hK.size
  refine ⟨fun j hj hjk => ?_, fun j hj hjk => ?_, fun j hj => ?_, fun j hj hjk => ?_, fun i j hij hj hjk => ?_, h.lt, h.ne, h.far, by have := h.top; omega⟩
  · by_cases e : j = k
    · subst e
      rw [show upd s j w.heap.size j = w.heap.size by simp [upd], show upd t j t' j = t' by simp [upd]]
      exact hL
    · rw [show upd s k w.heap.size j = s j by simp [upd, e], show upd t k t' j = t j by simp [upd, e]]
      have hb := h.lo j hj (by omega)
      exact (h.done j hj (by omega)).keep hK (h.ne j k hj hk e) (fun b h1 h2 he => by have := h.lt k hk; omega)
  · exact hK.get (h.idle j hj (by omega)) (h.ne j k hj hk (by omega))
  · exact (h.ent j hj).keep hK (fun b hb he => (h.far b hb).2 k hk he)
  · by_cases e : j = k
    · subst e
      rw [show upd s j w.heap.size j = w.heap.size by simp [upd], show upd t j t' j = t' by simp [upd]]
      exact ⟨h.top, ht⟩
    · rw [show upd s k w.heap.size j = s j by simp [upd, e], show upd t k t' j = t j by simp [upd, e]]
      have hb := h.lo j hj (by omega)
      exact ⟨hb.1, by omega⟩
  · by_cases e : j = k
    · subst e
      rw [show upd s j w.heap.size j = w.heap.size by simp [upd], show upd t j t' i = t i by simp [upd]; omega]
      exact (h.lo i (by omega) hij).2
    · rw [show upd s k w.heap.size j = s j by simp [upd, e], show upd t k t' i = t i by simp [upd]; omega]
      exact h.ap i j hij hj (by omega)
/-- All four are active; they hold m. -/
structure FAct (F : FourV) (B : Nat) (s t : Nat → Nat) (m : Nat → LocM) (w : World) : Prop where
  act : ∀ j, j < 4 → LocAt (F.l j) (s j) (t j) (F.E j) (F.vp j) (F.vg j) (F.ve j) (F.vf j) (F.vl j) (m j) w
  lo : ∀ j, j < 4 → B ≤ s j
  ap : ∀ i j, i < j → j < 4 → t i ≤ s j
  lt : ∀ j, j < 4 → F.l j < B
def updM (f : Nat → LocM) (k : Nat) (v : LocM) : Nat → LocM := fun j => if j = k then v else f j
theorem updM_eq (f : Nat → LocM) (k : Nat) (v : LocM) : updM f k v k = v := by simp [updM]
theorem updM_ne (f : Nat → LocM) {k j : Nat} (v : LocM) (h : j ≠ k) : updM f k v j = f j := by simp [updM, h]
theorem FAct.step {F : FourV} {B : Nat} {s t : Nat → Nat} {m : Nat → LocM} {w w' : World} (h : FAct F B s t m w) {k : Nat} (hk : k < 4) {mk : LocM} (hL : LocAt (F.l k) (s k) (t k) (F.E k) (F.vp k) (F.vg k) (F.ve k) (F.vf k) (F.vl k) mk w') (hK : Keep (fun b => s k ≤ b ∧ b < t k) w w') :
    FAct F B s t (updM m k mk) w' := by
  refine ⟨fun j hj => ?_, h.lo, h.ap, h.lt⟩
  by_cases e : j = k
  · subst e; rw [updM_eq]; exact hL
  · rw [updM_ne m mk e]
    have hs := h.lo k hk
    have hl := h.lt j hj
    refine (h.act j hj).keep hK (fun hb => by omega) (fun b h1 h2 hb => ?_)
    rcases Nat.lt_or_gt_of_ne e with hlt | hlt
    · have := h.ap j k hlt hk; omega
    · have := h.ap k j hlt hj; omega
theorem FAct.keep {F : FourV} {B : Nat} {S : Nat → Prop} {s t : Nat → Nat} {m : Nat → LocM} {w w' : World} (h : FAct F B s t m w) (hK : Keep S w w') (hS : ∀ b, S b → B ≤ b → ∀ j, j < 4 → ¬ (s j ≤ b ∧ b < t j)) (hl : ∀ j, j < 4 → ¬ S (F.l j)) : FAct F B s t m w' :=
  ⟨fun j hj => (h.act j hj).keep hK (hl j hj) (fun b h1 h2 hb => hS b hb (Nat.le_trans (h.lo j hj) h1) j hj ⟨h1, h2⟩), h.lo, h.ap, h.lt⟩
theorem fAct_of {F : FourV} {R : Nat → Prop} {B : Nat} {s t : Nat → Nat} {w : World} (h : FBeg F R B 4 s t w) : FAct F B s t (fun j => locBegin (F.E j)) w :=
  ⟨fun j hj => h.done j hj hj, fun j hj => (h.lo j hj hj).1, fun i j hij hj => h.ap i j hij hj hj, h.lt⟩
end Go.Proofs.YtpodijlhlgbbdaaDoor
