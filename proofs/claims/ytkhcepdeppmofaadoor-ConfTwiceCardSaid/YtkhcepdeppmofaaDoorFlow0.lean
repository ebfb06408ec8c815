/- Flow: the small callees: Clone, Contains, Index of ints. -/
import Derived.Test.YtkhcepdeppmofaaDoorReps
import Derived.Test.YtkhcepdeppmofaaDoorMapE
import Derived.WalkSpells
namespace Go.Proofs.YtkhcepdeppmofaaDoor
open Go.RowKit
set_option linter.unusedVariables false

theorem SlOf.cases {R : Nat → Prop} {w : World} {ao : Option Addr} {n cap sz : Nat} {cs : List Value} (h : SlOf R w (.slice ao n cap) sz cs n) : (ao = none ∧ n = 0 ∧ cap = 0 ∧ cs = []) ∨ ∃ a, ao = some a := by
  obtain ⟨hl, ao', cap', hv, h1, h2, h3, h4⟩ := h
  simp at hv
  obtain ⟨rfl, rfl⟩ := hv
  cases ao with
  | none =>
    have := h3 rfl
    have hn : n = 0 := by omega
    subst hn
    exact .inl ⟨rfl, rfl, this, List.eq_nil_of_length_eq_zero (by simpa using hl)⟩
  | some a => exact .inr ⟨a, rfl⟩

theorem slOf_news {R : Nat → Prop} {w : World} {a : Addr} {n cap sz : Nat} {cs : List Value} (h : SlOf R w (.slice (some a) n cap) sz cs n) : cs.length = n * sz ∧ n ≤ maxLen ∧ ∀ j u, cs[j]? = some u → w.cell? (a.add j) = some u := by
  obtain ⟨hl, ao', cap', hv, h1, h2, h3, h4⟩ := h
  simp at hv
  obtain ⟨rfl, rfl⟩ := hv
  refine ⟨hl, by omega, fun j u hu => ?_⟩
  have hj : j < cs.length := (List.getElem?_eq_some_iff.1 hu).1
  obtain ⟨b, off, ha, _, _, hc⟩ := h4 (by omega)
  obtain rfl := Option.some.inj ha
  rw [addr_add]
  exact hc j u hu

set_option maxHeartbeats 400000 in
theorem cloneInts_any (R : Nat → Prop) (l : List Int) (v : Value) (w : World) (h : SlOf R w v 1 (intCells l) l.length) (hn : l.length ≤ 1000) :
    Calls Tryd.prog 87 #[v] w fun e w' => ∃ ao cap, e = .returned (.slice ao l.length cap) ∧ SlOf (fun b => w.heap.size ≤ b) w' (.slice ao l.length cap) 1 (intCells l) l.length ∧ Below w.heap.size w w' := by
  obtain ⟨i0, hi0, hz0, hz1, hz2⟩ := info_parts Tryd.infoInt
  have qn : ∀ (w : World) (a : Option Addr) (n c n' c' : Nat), (binOp .eql 25 (.slice a n c) (.slice none n' c')).run Tryd.prog w = .ok (.bool a.isNone) w := fun w a n c n' c' => Lib.run_eql_slice_nil w _ _ a n c n' c' Tryd.underlying25
  obtain ⟨ao, cap, rfl⟩ := h.val
  rcases h.cases with ⟨rfl, hl, rfl, hc⟩ | ⟨a, rfl⟩
  · have hl' : l = [] := List.eq_nil_of_length_eq_zero hl
    subst hl'
    clear h hl hc
    go_enter Tryd.func87, Tryd.ntmps87
    go_wp2_with fail
    go_ret
    exact ⟨none, 0, rfl, SlOf.nil _ _ _, Below.refl _ _⟩
  · obtain ⟨h1, h2, h3⟩ := slOf_news h
    have h3' : Hid (∀ j u, (intCells l)[j]? = some u → ∀ o, (w.alloc o).cell? (a.add j) = some u) := fun j u hu o => by
      have := h3 j u hu
      rw [World.cell?_of_block (w := w) (Below.heap_alloc _ _ _ (World.block_lt_of_cell? _ _ this))]; exact this
    have hh63 : Hid (0 + l.length ≤ maxLen) := by show 0 + l.length ≤ maxLen; omega
    have hby : Hid ((0 + l.length) * 8 ≤ 140737488355328) := by show (0 + l.length) * 8 ≤ _; omega
    have hbs : Hid (∀ o, w.heap.size ≤ (w.alloc o).heap.size) := fun o => by simp
    clear h h2 h3
    go_enter Tryd.func87, Tryd.ntmps87
    go_wp2_with (at_builtin; refine wpList_append_ownS rfl (.tmp 5) (.tmp 6) 25 rfl w.heap.size 3 i0 _ 1 8 Tryd.underlying25 hi0 hz0 hz1 hz2 rfl (by decide) _ 0 [] rfl (World.ownsRow_made w #[] 0 (Nat.le_refl _) (by decide) rfl) a l.length cap (intCells l) rfl h1 (fun j u hu => h3'.out j u hu _) (oneCell_ints l) hh63.out hby.out (hbs.out _) ?_; intro a1 k1 w6 ho6 hg6)
    go_ret
    rw [Nat.zero_add, List.nil_append] at ho6
    refine ⟨a1, k1, rfl, slOf_owns ho6, ?_⟩
    exact ((Below.refl _ _).alloc (Nat.le_refl _) _).grown hg6 (by simp) (fun k hk => by have h : some w.heap.size = some k := hk; simp at h; omega)
/-- The place of a number in a list; -1: none. -/
def idxOf (l : List Int) (x : Int) : Int := match l.findIdx? (fun y => y == x) with | some i => (i : Int) | none => -1
theorem idxOf_hit {l : List Int} {x : Int} {k : Nat} (hk : k < l.length) (hx : l[k] = x) (hb : ∀ j (hj : j < l.length), j < k → l[j] ≠ x) : idxOf l x = k := by
  have : l.findIdx? (fun y => y == x) = some k := by
    rw [List.findIdx?_eq_some_iff_getElem]
    exact ⟨hk, by simp [hx], fun j hj => by have := hb j (by omega) hj; simpa using this⟩
  simp [idxOf, this]
theorem idxOf_miss {l : List Int} {x : Int} (h : ∀ j (hj : j < l.length), l[j] ≠ x) : idxOf l x = -1 := by
  have : l.findIdx? (fun y => y == x) = none := by
    rw [List.findIdx?_eq_none_iff]
    intro y hy
    obtain ⟨j, hj, rfl⟩ := List.mem_iff_getElem.1 hy
    simpa using h j hj
  simp [idxOf, this]
theorem idxOf_nonneg {l : List Int} {x : Int} : 0 ≤ idxOf l x ↔ x ∈ l := by
  unfold idxOf
  cases h : l.findIdx? (fun y => y == x) with
  | none =>
    rw [List.findIdx?_eq_none_iff] at h
    simp
    intro hx
    have := h x hx
    simp at this
  | some i =>
    rw [List.findIdx?_eq_some_iff_getElem] at h
    obtain ⟨hi, he, _⟩ := h
    simp at he
    subst he
    simp

theorem flat_ints (l : List Int) : l.flatMap (fun x => [Value.int .i64 x]) = intCells l := by
  unfold intCells
  induction l with
  | nil => rfl
  | cons x l ih => simp [ih]
theorem int_cells {R : Nat → Prop} {w : World} {ao : Option Addr} {n cap : Nat} {l : List Int} (h : SlOf R w (.slice ao n cap) 1 (intCells l) l.length) (h0 : 0 < l.length) :
    ∃ b off, ao = some ⟨b, off, none⟩ ∧ R b ∧ b < w.heap.size ∧ ∀ k (hk : k < l.length), w.cell? ⟨b, off + k, none⟩ = some (.int .i64 l[k]) := by
  have h' : SlOf R w (.slice ao n cap) 1 (l.flatMap (fun x => [Value.int .i64 x])) l.length := by
    rw [flat_ints]; exact h
  obtain ⟨b, off, ha, hR, hb, hc⟩ := h'.elem (fun _ => rfl) (by decide) h0
  refine ⟨b, off, ha, hR, hb, fun k hk => ?_⟩
  have := hc k hk 0 _ rfl
  simpa using this

set_option maxHeartbeats 400000 in
theorem indexInts_any (R : Nat → Prop) (l : List Int) (v : Value) (x : Int) (w : World) (h : SlOf R w v 1 (intCells l) l.length) :
    Calls Tryd.prog 164 #[v, .int .i64 x] w fun e w' => e = .returned (.int .i64 (idxOf l x)) ∧ w = w' := by
  obtain ⟨hl, ao, cap, rfl, h1, h2, h3, h4⟩ := h
  have hsl : SlOf R w (.slice ao l.length cap) 1 (intCells l) l.length := ⟨hl, _, _, rfl, h1, h2, h3, h4⟩
  have hn : l.length ≤ 9223372036854775807 := by unfold maxLen at h2; omega
  have H := Lib.hid hsl
  clear hl h1 h2 h3 h4 hsl
  go_enter Tryd.func164, Tryd.ntmps164
  go_wp2_with fail
  go_loop [8] (fun s => ∃ k : Nat, k ≤ l.length ∧ s = .int .i64 k ∧ Hid (∀ j (hj : j < l.length), j < k → l[j] ≠ x)) (fun s => l.length - (intOf s).toNat)
  case atStart => exact ⟨0, Nat.zero_le _, rfl, fun j hj h => by omega⟩
  case round =>
    obtain ⟨k, hk, rfl, hall⟩ := hrel
    by_cases hlt : k < l.length
    · obtain ⟨b, off, rfl, hRb, _, hc⟩ := int_cells H.out (by omega)
      have q := hc k hlt
      clear hc
      by_cases hx : x = l[k]
      · have hxb : (x == l[k]) = true := beq_iff_eq.2 hx
        have hI := idxOf_hit hlt hx.symm hall.out
        have HI := Lib.hid hI
        clear hx hI
        go_wp2_with fail
        go_ret
        exact ⟨ret_int HI.out.symm, rfl⟩
      · have hxb : (x == l[k]) = false := by simp [hx]
        go_wp2_with fail
        go_round
        case rel =>
          refine ⟨k + 1, by omega, by go_num, fun j hj h => ?_⟩
          by_cases hjk : j = k
          · subst hjk; exact fun h => hx h.symm
          · exact hall.out j hj (by omega)
        case measure => simp [intOf]; omega
    · have hI := idxOf_miss (l := l) (x := x) (fun j hj => hall.out j hj (by omega))
      have HI := Lib.hid hI
      clear hI
      go_wp2_with fail
      go_ret
      exact ⟨ret_int HI.out.symm, rfl⟩

set_option maxHeartbeats 400000 in
theorem containsInts_any (R : Nat → Prop) (l : List Int) (v : Value) (x : Int) (w : World) (h : SlOf R w v 1 (intCells l) l.length) :
    Calls Tryd.prog 127 #[v, .int .i64 x] w fun e w' => e = .returned (.bool (decide (x ∈ l))) ∧ w = w' := by
  obtain ⟨ao, cap, rfl⟩ := h.val
  have H := Lib.hid h
  clear h
  go_enter Tryd.func127, Tryd.ntmps127
  go_wp2_with fail
  refine (indexInts_any R l _ x _ H.out).mono ?_
  rintro e w' ⟨rfl, rfl⟩
  go_wp2_with fail
  go_ret
  exact ⟨ret_bool (decide_eq_decide.2 idxOf_nonneg), rfl⟩
end Go.Proofs.YtkhcepdeppmofaaDoor
