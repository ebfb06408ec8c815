/- Rows that are well, counted forward and backward: the plain law. -/
namespace Go.Proofs.YtkhcepdeppmofaaDoor
set_option linter.unusedVariables false

/-! ### Sums over a list -/
def sumU {α : Type} (U : List α) (f : α → Nat) : Nat := (U.map f).sum
theorem sumU_nil {α : Type} (f : α → Nat) : sumU [] f = 0 := rfl
theorem sumU_cons {α : Type} (x : α) (U : List α) (f : α → Nat) : sumU (x :: U) f = f x + sumU U f := by simp [sumU]
theorem sumU_congr {α : Type} {U : List α} {f g : α → Nat} (h : ∀ x ∈ U, f x = g x) : sumU U f = sumU U g := by
  induction U with
  | nil => rfl
  | cons x U ih => rw [sumU_cons, sumU_cons, h x (by simp), ih (fun y hy => h y (by simp [hy]))]
theorem sumU_add {α : Type} (U : List α) (f g : α → Nat) : sumU U (fun x => f x + g x) = sumU U f + sumU U g := by
  induction U with
  | nil => rfl
  | cons x U ih => rw [sumU_cons, sumU_cons, sumU_cons, ih]; omega
theorem sumU_mul {α : Type} (U : List α) (c : Nat) (f : α → Nat) : sumU U (fun x => c * f x) = c * sumU U f := by
  induction U with
  | nil => rfl
  | cons x U ih => rw [sumU_cons, sumU_cons, ih, Nat.mul_add]
theorem sumU_mulr {α : Type} (U : List α) (c : Nat) (f : α → Nat) : sumU U (fun x => f x * c) = sumU U f * c := by
  rw [Nat.mul_comm, ← sumU_mul]; exact sumU_congr (fun x _ => Nat.mul_comm _ _)
theorem sumU_zero {α : Type} {U : List α} {f : α → Nat} (h : ∀ x ∈ U, f x = 0) : sumU U f = 0 := by
  induction U with
  | nil => rfl
  | cons x U ih => rw [sumU_cons, h x (by simp), ih (fun y hy => h y (by simp [hy]))]
theorem sumU_swap {α β : Type} (U : List α) (V : List β) (f : α → β → Nat) : sumU U (fun x => sumU V (f x)) = sumU V (fun y => sumU U (fun x => f x y)) := by
  induction U with
  | nil => rw [sumU_nil]; exact (sumU_zero (fun y _ => rfl)).symm
  | cons x U ih =>
    rw [sumU_cons, ih, ← sumU_add]
    exact sumU_congr (fun y _ => (sumU_cons x U (fun z => f z y)).symm)
theorem sumU_le {α : Type} {U : List α} {f g : α → Nat} (h : ∀ x ∈ U, f x ≤ g x) : sumU U f ≤ sumU U g := by
  induction U with
  | nil => exact Nat.le_refl _
  | cons x U ih => rw [sumU_cons, sumU_cons]; exact Nat.add_le_add (h x (by simp)) (ih (fun y hy => h y (by simp [hy])))
theorem sumU_mem {α : Type} {U : List α} {f : α → Nat} {x : α} (h : x ∈ U) : f x ≤ sumU U f := by
  induction U with
  | nil => cases h
  | cons y U ih =>
    rw [sumU_cons]
    rcases List.mem_cons.1 h with rfl | h
    · omega
    · have := ih h; omega
/-- One of them is counted more. -/
theorem sumU_one {U : List Int} (hU : U.Nodup) {x : Int} (hx : x ∈ U) (f g : Int → Nat) (c : Nat) (h1 : g x = f x + c) (h2 : ∀ y ∈ U, y ≠ x → g y = f y) : sumU U g = sumU U f + c := by
  induction U with
  | nil => cases hx
  | cons y U ih =>
    rw [sumU_cons, sumU_cons]
    obtain ⟨hy, hn⟩ := List.nodup_cons.1 hU
    by_cases e : y = x
    · subst e
      rw [h1, sumU_congr (f := g) (g := f) (fun z hz => h2 z (by simp [hz]) (fun e => hy (e ▸ hz)))]
      omega
    · have hx' : x ∈ U := by rcases List.mem_cons.1 hx with h | h; exact absurd h.symm e; exact h
      rw [h2 y (by simp) e, ih hn hx' (fun z hz => h2 z (by simp [hz]))]
      omega
theorem sumU_pick {U : List Int} (hU : U.Nodup) {x : Int} (hx : x ∈ U) (f : Int → Nat) : sumU U (fun y => if y = x then f y else 0) = f x := by
  have := sumU_one hU hx (fun _ => 0) (fun y => if y = x then f y else 0) (f x) (by simp) (fun y _ h => by simp [h])
  rw [this, sumU_zero (fun _ _ => rfl)]; omega

/-! ### Places, points, ways -/
def places (P : Nat) : List Int := (List.range (P + 1)).map (fun (i : Nat) => (i : Int) - 1)
theorem places_nodup (P : Nat) : (places P).Nodup := by
  unfold places
  rw [List.nodup_iff_pairwise_ne, List.pairwise_map]
  exact (List.nodup_iff_pairwise_ne.1 List.nodup_range).imp (fun h e => h (by omega))
theorem mem_places {P : Nat} {s : Int} : s ∈ places P ↔ -1 ≤ s ∧ s < P := by
  unfold places
  simp only [List.mem_map, List.mem_range]
  constructor
  · rintro ⟨i, hi, rfl⟩; omega
  · intro h; exact ⟨(s + 1).toNat, by omega, by omega⟩

section
variable (may : Int → Int → Bool) (thn : Int → Int) (P : Nat)
/-- How many of the first k points lead from a to s. -/
def leads (k : Nat) (a s : Int) : Nat := sumU (List.range k) (fun p => if may a p = true ∧ thn p = s then 1 else 0)
theorem leads_succ (k : Nat) (a s : Int) : leads may thn (k + 1) a s = leads may thn k a s + if may a k = true ∧ thn k = s then 1 else 0 := by
  simp [leads, sumU, List.range_succ]
/-- Rows of n reports that end at s. -/
def ways : Nat → Int → Nat
  | 0, s => if s = -1 then 1 else 0
  | n + 1, s => sumU (places P) (fun a => ways n a * leads may thn P a s)
def allWays (n : Nat) : Nat := sumU (places P) (ways may thn P n)
/-- Rows of n reports from a on. -/
def onward : Nat → Int → Nat
  | 0, _ => 1
  | n + 1, a => sumU (List.range P) (fun p => if may a p = true then onward n (thn p) else 0)

theorem onward_leads (ht : ∀ p : Nat, p < P → thn p ∈ places P) (n : Nat) (a : Int) : onward may thn P (n + 1) a = sumU (places P) (fun s => leads may thn P a s * onward may thn P n s) := by
  have h1 : ∀ s, leads may thn P a s * onward may thn P n s = sumU (List.range P) (fun p => if may a p = true ∧ thn p = s then onward may thn P n s else 0) := by
    intro s
    unfold leads
    rw [← sumU_mulr]
    exact sumU_congr (fun p _ => by by_cases h : may a p = true ∧ thn p = s <;> simp [h])
  rw [sumU_congr (fun s _ => h1 s), sumU_swap]
  show sumU (List.range P) _ = _
  refine sumU_congr (fun p hp => ?_)
  by_cases hm : may a p = true
  · rw [if_pos hm]
    have := sumU_pick (places_nodup P) (ht p (List.mem_range.1 hp)) (onward may thn P n)
    rw [← this]
    exact sumU_congr (fun s _ => by by_cases h : s = thn p <;> simp [h, hm, eq_comm])
  · rw [if_neg hm, sumU_zero (fun s _ => by simp [hm])]

theorem ways_meet (ht : ∀ p : Nat, p < P → thn p ∈ places P) : ∀ (n m : Nat), sumU (places P) (fun s => ways may thn P n s * onward may thn P m s) = onward may thn P (n + m) (-1)
  | 0, m => by
    rw [Nat.zero_add]
    have := sumU_pick (places_nodup P) (mem_places.2 (by omega) : (-1 : Int) ∈ places P) (onward may thn P m)
    rw [← this]
    exact sumU_congr (fun s _ => by by_cases h : s = -1 <;> simp [ways, h])
  | n + 1, m => by
    have h1 : ∀ s, ways may thn P (n + 1) s * onward may thn P m s = sumU (places P) (fun a => ways may thn P n a * leads may thn P a s * onward may thn P m s) := by
      intro s
      show sumU (places P) _ * _ = _
      rw [← sumU_mulr]
    rw [sumU_congr (fun s _ => h1 s), sumU_swap]
    have h2 : ∀ a, sumU (places P) (fun s => ways may thn P n a * leads may thn P a s * onward may thn P m s) = ways may thn P n a * onward may thn P (m + 1) a := by
      intro a
      rw [onward_leads may thn P ht, ← sumU_mul]
      exact sumU_congr (fun s _ => Nat.mul_assoc _ _ _)
    rw [sumU_congr (fun a _ => h2 a), ways_meet ht n (m + 1)]
    congr 1
    omega
theorem allWays_onward (ht : ∀ p : Nat, p < P → thn p ∈ places P) (n : Nat) : allWays may thn P n = onward may thn P n (-1) := by
  have := ways_meet may thn P ht n 0
  rw [Nat.add_zero] at this
  rw [← this]
  exact sumU_congr (fun s _ => by simp [onward])

theorem leads_all (ht : ∀ p : Nat, p < P → thn p ∈ places P) (a : Int) : sumU (places P) (leads may thn P a) ≤ P := by
  have h := onward_leads may thn P ht 0 a
  have e : sumU (places P) (leads may thn P a) = onward may thn P 1 a := by
    rw [h]; exact sumU_congr (fun s _ => by simp [onward])
  rw [e]
  show sumU (List.range P) _ ≤ P
  refine Nat.le_trans (sumU_le (g := fun _ => 1) (fun p _ => by split <;> simp [onward])) ?_
  have : ∀ l : List Nat, sumU l (fun _ => 1) = l.length := by
    intro l
    induction l with
    | nil => rfl
    | cons x l ih => rw [sumU_cons, ih, List.length_cons]; omega
  rw [this, List.length_range]
  exact Nat.le_refl _
theorem allWays_succ (ht : ∀ p : Nat, p < P → thn p ∈ places P) (n : Nat) : allWays may thn P (n + 1) ≤ P * allWays may thn P n := by
  have e : allWays may thn P (n + 1) = sumU (places P) (fun a => ways may thn P n a * sumU (places P) (leads may thn P a)) := by
    show sumU (places P) (fun s => sumU (places P) (fun a => ways may thn P n a * leads may thn P a s)) = _
    rw [sumU_swap]
    exact sumU_congr (fun a _ => sumU_mul _ _ _)
  rw [e, Nat.mul_comm]
  unfold allWays
  rw [← sumU_mulr]
  exact sumU_le (fun a _ => Nat.mul_le_mul_left _ (leads_all may thn P ht a))
theorem allWays_le (ht : ∀ p : Nat, p < P → thn p ∈ places P) (hP : P ≤ 16) : ∀ n, allWays may thn P n ≤ 16 ^ n
  | 0 => by
    have : allWays may thn P 0 = 1 := by
      have := sumU_pick (places_nodup P) (mem_places.2 (by omega) : (-1 : Int) ∈ places P) (fun _ => 1)
      rw [← this]
      exact sumU_congr (fun s _ => rfl)
    rw [this]; decide
  | n + 1 => by
    refine Nat.le_trans (allWays_succ may thn P ht n) ?_
    rw [Nat.pow_succ, Nat.mul_comm]
    exact Nat.mul_le_mul (allWays_le ht hP n) hP
/-- In the middle of a round: what has been told of those who are no more to come. -/
def part (n : Nat) (left : Int → Bool) (s : Int) : Nat := sumU (places P) (fun a => if left a = true then 0 else ways may thn P n a * leads may thn P a s)
def partAll (n : Nat) (left : Int → Bool) : Nat := sumU (places P) (fun a => if left a = true then 0 else ways may thn P n a)
theorem part_end (n : Nat) (left : Int → Bool) (s : Int) (h : ∀ a, left a = false) : part may thn P n left s = ways may thn P (n + 1) s :=
  sumU_congr (fun a _ => by simp [h a])
theorem partAll_end (n : Nat) (left : Int → Bool) (h : ∀ a, left a = false) : partAll may thn P n left = allWays may thn P n :=
  sumU_congr (fun a _ => by simp [h a])
theorem part_start (n : Nat) (left : Int → Bool) (s : Int) (h : ∀ a ∈ places P, left a = true ∨ ways may thn P n a = 0) : part may thn P n left s = 0 :=
  sumU_zero (fun a ha => by rcases h a ha with h | h <;> simp [h])
theorem partAll_start (n : Nat) (left : Int → Bool) (h : ∀ a ∈ places P, left a = true ∨ ways may thn P n a = 0) : partAll may thn P n left = 0 :=
  sumU_zero (fun a ha => by rcases h a ha with h | h <;> simp [h])
theorem part_step (n : Nat) (left left' : Int → Bool) (s x : Int) (hx : x ∈ places P) (h1 : left x = true) (h2 : left' x = false) (h3 : ∀ y, y ≠ x → left' y = left y) : part may thn P n left' s = part may thn P n left s + ways may thn P n x * leads may thn P x s :=
  sumU_one (places_nodup P) hx _ _ _ (by simp [h1, h2]) (fun y _ hy => by simp [h3 y hy])
theorem partAll_step (n : Nat) (left left' : Int → Bool) (x : Int) (hx : x ∈ places P) (h1 : left x = true) (h2 : left' x = false) (h3 : ∀ y, y ≠ x → left' y = left y) : partAll may thn P n left' = partAll may thn P n left + ways may thn P n x :=
  sumU_one (places_nodup P) hx _ _ _ (by simp [h1, h2]) (fun y _ hy => by simp [h3 y hy])
theorem partAll_le (n : Nat) (left : Int → Bool) : partAll may thn P n left ≤ allWays may thn P n := sumU_le (fun a _ => by split <;> omega)
theorem leads_mono {k : Nat} (hk : k ≤ P) (a s : Int) : leads may thn k a s ≤ leads may thn P a s := by
  induction P with
  | zero => obtain rfl : k = 0 := by omega
            exact Nat.le_refl _
  | succ P ih =>
    by_cases e : k = P + 1
    · subst e; exact Nat.le_refl _
    · exact Nat.le_trans (ih (by omega)) (by rw [leads_succ]; omega)
/-- A sum in the making stays small. -/
theorem part_le (ht : ∀ p : Nat, p < P → thn p ∈ places P) (hP : P ≤ 16) (n : Nat) (hn : n ≤ 14) (left left' : Int → Bool) (s x : Int) (hx : x ∈ places P) (hs : s ∈ places P) (h1 : left x = true) (h2 : left' x = false) (h3 : ∀ y, y ≠ x → left' y = left y) (k : Nat) (hk : k ≤ P) :
    part may thn P n left s + ways may thn P n x * leads may thn k x s ≤ 16 ^ 15 := by
  have a1 : part may thn P n left s + ways may thn P n x * leads may thn k x s ≤ part may thn P n left' s := by
    rw [part_step may thn P n left left' s x hx h1 h2 h3]
    exact Nat.add_le_add_left (Nat.mul_le_mul_left _ (leads_mono may thn P hk x s)) _
  have a2 : part may thn P n left' s ≤ ways may thn P (n + 1) s := sumU_le (fun a _ => by split <;> omega)
  have a3 : ways may thn P (n + 1) s ≤ allWays may thn P (n + 1) := sumU_mem hs
  have a4 := allWays_le may thn P ht hP (n + 1)
  have a5 : 16 ^ (n + 1) ≤ 16 ^ 15 := Nat.pow_le_pow_right (by decide) (by omega)
  omega
end
end Go.Proofs.YtkhcepdeppmofaaDoor
