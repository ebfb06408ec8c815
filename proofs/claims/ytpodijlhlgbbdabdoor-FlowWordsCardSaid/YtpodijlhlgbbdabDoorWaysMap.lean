/- A map from places to numbers, as it is read. -/
import Derived.Test.YtpodijlhlgbbdabDoorWays
import Derived.Maps.RangeWalk
import Derived.Maps.OwnOps
import Derived.Maps.Views
namespace Go.Proofs.YtpodijlhlgbbdabDoor
open Go.Maps
set_option linter.unusedVariables false

section
variable {H : Type}
def kI (s : Int) : Lit := .int .i64 s
def dI (c : Int) : DataW H := .lit (.int .i64 c)
/-- D is a map whose keys are of U; at s it holds f s (0 where s is no key). -/
structure MapIs (U : List Int) (D : DataW H) (f : Int → Nat) : Prop where
  isMap : IsMap D
  keys : ∀ kl, has D kl = true → ∃ s ∈ U, kl = kI s
  at' : ∀ s, D.atKey (kI s) (dI 0) = dI (f s)
theorem mapIs_empty (U : List Int) : MapIs U (.map [] : DataW H) (fun _ => 0) := ⟨isMap_empty, fun kl h => by simp [has] at h, fun s => rfl⟩
theorem kI_inj {a b : Int} (h : kI a = kI b) : a = b := by unfold kI at h; injection h
theorem dI_inj {a b : Int} (h : (dI a : DataW H) = dI b) : a = b := by unfold dI at h; injection h with h; injection h
theorem MapIs.put {U : List Int} {D : DataW H} {f : Int → Nat} (h : MapIs U D f) {s : Int} (hs : s ∈ U) (c : Nat) : MapIs U (D.put (kI s) (dI c)) (fun y => if y = s then c else f y) := by
  refine ⟨h.isMap.put _ _, fun kl hk => ?_, fun y => ?_⟩
  · by_cases e : kl = kI s
    · exact ⟨s, hs, e⟩
    · rw [has_put_other e] at hk; exact h.keys kl hk
  · by_cases e : y = s
    · subst e; rw [if_pos rfl]; exact atKey_put_same h.isMap (show WideAt.IsKeyLit (kI y) from trivial) _ _
    · rw [if_neg e, atKey_put_other (fun h => e (kI_inj h))]; exact h.at' y
theorem MapIs.congr {U : List Int} {D : DataW H} {f g : Int → Nat} (h : MapIs U D f) (e : ∀ s ∈ U, f s = g s) (e0 : ∀ s, s ∉ U → g s = 0) : MapIs U D g := by
  refine ⟨h.isMap, h.keys, fun s => ?_⟩
  by_cases hs : s ∈ U
  · rw [← e s hs]; exact h.at' s
  · rw [e0 s hs]
    refine atKey_of_not_has ?_ _
    cases hh : has D (kI s) with
    | false => rfl
    | true => obtain ⟨t, ht, e⟩ := h.keys _ hh; exact absurd (kI_inj e ▸ ht) hs
theorem MapIs.zero {U : List Int} {D : DataW H} {f : Int → Nat} (h : MapIs U D f) {s : Int} (hs : has D (kI s) = false) : f s = 0 := by
  have h1 := h.at' s
  rw [atKey_of_not_has hs] at h1
  have := dI_inj h1
  omega
theorem MapIs.val {U : List Int} {D : DataW H} {f : Int → Nat} (h : MapIs U D f) {s c : Int} (hc : D.atKey (kI s) (dI 0) = dI c) : c = f s := by
  rw [h.at' s] at hc
  exact (dI_inj hc).symm

/-- Who is still to come, by places. -/
def leftI (left : Lit → Bool) (s : Int) : Bool := left (kI s)
theorem left_start {U : List Int} {D : DataW H} {f : Int → Nat} (h : MapIs U D f) : ∀ a ∈ U, leftI (has D) a = true ∨ f a = 0 := by
  intro a _
  cases hh : has D (kI a) with
  | true => exact .inl hh
  | false => exact .inr (h.zero hh)
theorem left_in {U : List Int} {D : DataW H} {f : Int → Nat} (h : MapIs U D f) {left : Lit → Bool} (hl : ∀ kl, left kl = true → has D kl = true) {x : Int} (hx : left (kI x) = true) : x ∈ U := by
  obtain ⟨s, hs, e⟩ := h.keys _ (hl _ hx)
  exact kI_inj e ▸ hs
theorem left_step (left : Lit → Bool) (x : Int) : leftI (fun z => left z && !z.sameKey (kI x)) x = false ∧ ∀ y, y ≠ x → leftI (fun z => left z && !z.sameKey (kI x)) y = leftI left y := by
  constructor
  · simp [leftI, WideAt.sameKey_self (show WideAt.IsKeyLit (kI x) from trivial)]
  · intro y hy
    simp [leftI, sameKey_ne (a := kI y) (b := kI x) (fun h => hy (kI_inj h))]
theorem left_more (left : Lit → Bool) (x : Int) {p : Lit → Prop} (hl : ∀ kl, left kl = true → p kl) : ∀ kl, (fun z => left z && !z.sameKey (kI x)) kl = true → p kl := by
  intro kl h
  simp at h
  exact hl kl h.1
end
end Go.Proofs.YtpodijlhlgbbdabDoor
