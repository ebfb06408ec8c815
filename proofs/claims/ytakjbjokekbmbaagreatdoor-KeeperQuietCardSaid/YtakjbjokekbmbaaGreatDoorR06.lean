/- Reports and bools as plain data. -/
import Derived.Test.YtakjbjokekbmbaaGreatDoorR05
import Derived.Test.YtakjbjokekbmbaaGreatDoorR01
import Derived.Maps.OwnOps
import Derived.Maps.OwnSet
import Derived.WalkSpells
namespace Go.Proofs.YtakjbjokekbmbaaGreatDoor
open Go.RowKit
set_option linter.unusedVariables false

structure RepV where
  point : Int
  later : Int
  fin : Bool
def repCells (r : RepV) : List Value := [.int .i64 r.point, .int .i64 r.later, .bool r.fin]
def boolCell (b : Bool) : List Value := [.bool b]

theorem rep_cells {R : Nat → Prop} {w : World} {ao : Option Addr} {n cap : Nat} {l : List RepV} (h : SlOf R w (.slice ao n cap) 3 (l.flatMap repCells) l.length) (h0 : 0 < l.length) :
    ∃ b off, ao = some ⟨b, off, none⟩ ∧ R b ∧ b < w.heap.size ∧ ∀ k (hk : k < l.length), w.cell? ⟨b, off + k * 3, none⟩ = some (.int .i64 l[k].point) ∧ w.cell? ⟨b, off + k * 3 + 1, none⟩ = some (.int .i64 l[k].later) ∧ w.cell? ⟨b, off + k * 3 + 2, none⟩ = some (.bool l[k].fin) := by
  obtain ⟨b, off, ha, hR, hb, hc⟩ := h.elem (fun _ => rfl) (by decide) h0
  exact ⟨b, off, ha, hR, hb, fun k hk => ⟨hc k hk 0 _ rfl, hc k hk 1 _ rfl, hc k hk 2 _ rfl⟩⟩
theorem bool_cells {R : Nat → Prop} {w : World} {ao : Option Addr} {n cap : Nat} {l : List Bool} (h : SlOf R w (.slice ao n cap) 1 (l.flatMap boolCell) l.length) (h0 : 0 < l.length) :
    ∃ b off, ao = some ⟨b, off, none⟩ ∧ R b ∧ b < w.heap.size ∧ ∀ k (hk : k < l.length), w.cell? ⟨b, off + k, none⟩ = some (.bool l[k]) := by
  obtain ⟨b, off, ha, hR, hb, hc⟩ := h.elem (fun _ => rfl) (by decide) h0
  refine ⟨b, off, ha, hR, hb, fun k hk => ?_⟩
  have := hc k hk 0 _ rfl
  simpa using this
end Go.Proofs.YtakjbjokekbmbaaGreatDoor

/- A map keyed by pairs of ints, its elements true: what a look-up finds, what a store leaves. -/
namespace Go.Proofs.YtakjbjokekbmbaaGreatDoor
open Go.RowKit
set_option linter.unusedVariables false

def pairV (p : Int × Int) : Value := .agg #[.int .i64 p.1, .int .i64 p.2]
theorem pairV_inj {p q : Int × Int} (h : pairV p = pairV q) : p = q := by
  unfold pairV at h
  simp at h
  exact Prod.ext h.1 h.2

theorem sameBits_pair (p : Int × Int) : Instr.sameBits 10000 (pairV p) (pairV p) = true := by
  have : ∀ n, Instr.sameBits (n + 2) (pairV p) (pairV p) = true := by intro n; simp [pairV, Instr.sameBits]
  exact this 9998

section
variable {P : Program}
theorem run_part_int (w : World) {e : TypeId} {k : IntKind} (he : P.underlying e = some (.int k)) (cs : Array Value) (i : Nat) (v : Value) (hv : cs[i]? = some v) : (part e cs i).run P w = .ok v w := by
  unfold part
  simp [isAgg, run_underlying he, hv]

/-- What is asked of the program's tables: an array of two ints as a key, bools as elements. -/
structure PairMap (P : Program) (m t e b : TypeId) : Prop where
  um : P.underlying m = some (.map t b)
  ut : P.underlying t = some (.array 2 e)
  ue : P.underlying e = some (.int .i64)
  us : ∃ i, P.info? e = some i ∧ i.size = 1
  uz : ∀ w : World, (zeroValue b).run P w = .ok (.bool false) w

variable {m t e b : TypeId} (M : PairMap P m t e b)
include M
theorem PairMap.equal (w : World) (p q : Int × Int) : (Op.equal t (pairV p) (pairV q)).run P w = .ok (decide (p = q)) w := by
  obtain ⟨i, hi, hs⟩ := M.us
  have key : ∀ d, (Op.equalIn (d + 2) t (pairV p) (pairV q)).run P w = .ok (decide (p = q)) w := by
    intro d
    unfold pairV
    rw [Op.equalIn]
    have p0 := fun (a b : Int) (w : World) => run_part_int (P := P) w M.ue #[.int .i64 a, .int .i64 b] 0 _ rfl
    have p1 := fun (a b : Int) (w : World) => run_part_int (P := P) w M.ue #[.int .i64 a, .int .i64 b] 1 _ rfl
    have e1 := fun (a b : Int) (w : World) => run_equalIn_int (P := P) w d e .i64 .i64 a b M.ue
    simp [run_underlying M.ut, sizeOf, typeInfo, hi, hs, Std.Legacy.Range.forIn_eq_forIn_range', Std.Legacy.Range.size, List.range', p0, p1, e1]
    by_cases h1 : p.1 = q.1
    · by_cases h2 : p.2 = q.2
      · rw [if_pos h1, if_pos h2, decide_eq_true (Prod.ext h1 h2)]
      · rw [if_pos h1, if_neg h2, decide_eq_false (fun h => h2 (by rw [h]))]
    · rw [if_neg h1, decide_eq_false (fun h => h1 (by rw [h]))]
  exact key 9998

theorem PairMap.check (w : World) (em : Bool) (p : Int × Int) : (Instr.checkKey em 10000 t (pairV p)).run P w = .ok () w := by
  obtain ⟨i, hi, hs⟩ := M.us
  have key : ∀ d, (Instr.checkKey em (d + 2) t (pairV p)).run P w = .ok () w := by
    intro d
    unfold pairV
    rw [Instr.checkKey]
    have p0 := fun (a b : Int) (w : World) => run_part_int (P := P) w M.ue #[.int .i64 a, .int .i64 b] 0 _ rfl
    have p1 := fun (a b : Int) (w : World) => run_part_int (P := P) w M.ue #[.int .i64 a, .int .i64 b] 1 _ rfl
    have e1 : ∀ (a : Int) (w : World), (Instr.checkKey em (d + 1) e (.int .i64 a)).run P w = .ok () w := by
      intro a w
      rw [Instr.checkKey]
      simp [run_underlying M.ue]
    simp [run_underlying M.ut, sizeOf, typeInfo, hi, hs, Std.Legacy.Range.forIn_eq_forIn_range', Std.Legacy.Range.size, List.range', p0, p1, e1]
  exact key 9998

/-- The entries of the keys K. -/
def PairEs (es : List MapEntry) (K : List (Int × Int)) : Prop := es.map (fun x => (x.key, x.val)) = K.map (fun p => (pairV p, Value.bool true))

theorem PairMap.find (w : World) (p : Int × Int) : ∀ (es : List MapEntry) (K : List (Int × Int)) (i : Nat), PairEs es K →
    ∃ r, (Instr.findAsking t (pairV p) es i).run P w = .ok r w ∧ ((r = none ∧ p ∉ K) ∨ ∃ j, r = some (i + j, .bool true) ∧ K[j]? = some p)
  | [], K, i, h => by
    have hK : K = [] := by simpa [PairEs] using h
    subst hK
    exact ⟨none, by simp [Instr.findAsking], .inl ⟨rfl, by simp⟩⟩
  | x :: es, [], i, h => by simp [PairEs] at h
  | x :: es, q :: K, i, h => by
    simp only [PairEs, List.map_cons, List.cons.injEq, Prod.mk.injEq] at h
    obtain ⟨⟨hk, hv⟩, hr⟩ := h
    have he := M.equal w p q
    by_cases hpq : p = q
    · refine ⟨some (i, .bool true), ?_, .inr ⟨0, by simp, by simp [hpq]⟩⟩
      rw [Instr.findAsking]
      simp [hk, hpq, hv, M.equal]
    · obtain ⟨r, h1, h2⟩ := PairMap.find w p es K (i + 1) hr
      refine ⟨r, ?_, ?_⟩
      · rw [Instr.findAsking]
        simp [hk, he, hpq, h1]
      · rcases h2 with ⟨rfl, hn⟩ | ⟨j, rfl, hj⟩
        · exact .inl ⟨rfl, by simp [hpq, hn]⟩
        · exact .inr ⟨j + 1, by rw [show i + 1 + j = i + (j + 1) from by omega], by simpa using hj⟩

theorem PairMap.findKey (w : World) (p : Int × Int) (es : List MapEntry) (K : List (Int × Int)) (h : PairEs es K) :
    ∃ r, (Instr.findKey t (pairV p) es).run P w = .ok r w ∧ ((r = none ∧ p ∉ K) ∨ ∃ j, r = some (j, .bool true) ∧ K[j]? = some p) := by
  have hw : (match P.underlying t with | some (.array _ _) | some (.struct _) => true | _ => false) = true := by rw [M.ut]
  rw [run_findKey_eq w hw]
  obtain ⟨r, h1, h2⟩ := M.find w p es K 0 h
  refine ⟨r, h1, ?_⟩
  rcases h2 with h2 | ⟨j, hj, hk⟩
  · exact .inl h2
  · exact .inr ⟨j, by rw [hj, Nat.zero_add], hk⟩

/-- Block r is a map of the keys K, each with true. -/
def PairsAt (w : World) (r : Nat) (K : List (Int × Int)) : Prop := ∃ es clock, w.heap[r]? = some (.map es clock) ∧ PairEs es.toList K

theorem PairMap.lookup (w : World) (r : Nat) (K : List (Int × Int)) (p : Int × Int) (h : PairsAt w r K) : (Instr.lookup m (.map (some r)) (pairV p) false).run P w = .ok (.bool (decide (p ∈ K))) w := by
  obtain ⟨es, clock, hb, he⟩ := h
  obtain ⟨x, h1, h2⟩ := M.findKey w p es.toList K he
  have hg := MapKept.run_getObj_map (P := P) hb
  have hc := M.check w es.isEmpty p
  unfold Instr.lookup
  rcases h2 with ⟨rfl, hn⟩ | ⟨j, rfl, hj⟩
  · simp [run_underlying M.um, hg, hc, h1, M.uz, hn]
  · have : p ∈ K := List.mem_of_getElem? hj
    simp [run_underlying M.um, hg, hc, h1, this]

theorem PairMap.update (w : World) (r : Nat) (K : List (Int × Int)) (p : Int × Int) (h : PairsAt w r K) :
    ∃ w', (Instr.mapUpdate m (.map (some r)) (pairV p) (.bool true)).run P w = .ok () w' ∧ (∃ K', PairsAt w' r K' ∧ ∀ q, q ∈ K' ↔ q = p ∨ q ∈ K) ∧ Keep (· = r) w w' := by
  obtain ⟨es, clock, hb, he⟩ := h
  obtain ⟨x, h1, h2⟩ := M.findKey w p es.toList K he
  have hg := MapKept.run_getObj_map (P := P) hb
  have hc := M.check w false p
  have hs := fun o => MapKept.run_setObj_map (P := P) o hb
  have kp : ∀ o : Obj, Keep (· = r) w { w with heap := w.heap.setIfInBounds r o } := fun o => ⟨rfl, rfl, rfl, by simp, fun k hk hne => by
    simp only [Array.getElem?_setIfInBounds]; rw [if_neg (fun h => hne h.symm)]⟩
  have hr := lt_of_get hb
  have nw : ∀ o : Obj, ({ w with heap := w.heap.setIfInBounds r o } : World).heap[r]? = some o := fun o => by
    simp only [Array.getElem?_setIfInBounds]; simp [hr]
  have hlen : es.toList.length = K.length := by have := congrArg List.length he; simpa using this
  unfold Instr.mapUpdate
  rcases h2 with ⟨rfl, hn⟩ | ⟨j, rfl, hj⟩
  · refine ⟨_, by simp [run_underlying M.um, hg, hc, h1, hs]; rfl, ⟨K ++ [p], ⟨_, _, nw _, ?_⟩, fun q => by simp; exact or_comm⟩, kp _⟩
    unfold PairEs at he ⊢
    simp [he]
  · have hjl : j < es.toList.length := by rw [hlen]; exact (List.getElem?_eq_some_iff.1 hj).1
    have hkey : ((es[j]?).map (·.key)).getD (pairV p) = pairV p := by
      have h3 := congrArg (fun l => l[j]?) he
      simp only [List.getElem?_map, hj] at h3
      rw [List.getElem?_eq_getElem hjl] at h3
      simp at h3
      have : es[j]? = some es[j] := Array.getElem?_eq_getElem (by simpa using hjl)
      rw [this]
      simp [h3.1]
    have kst : (Instr.keyThatStays (pairV p) (pairV p)).run P w = .ok (pairV p) w := by
      unfold Instr.keyThatStays
      rw [if_pos (sameBits_pair p)]
      simp
    have hpK : p ∈ K := List.mem_of_getElem? hj
    refine ⟨_, by simp only [run_underlying M.um, hg, hc, h1, hs, hkey, kst, Sem.run_bind, Result.andThen_ok]; rfl, ⟨K, ⟨_, _, nw _, ?_⟩, fun q => ⟨fun h => .inr h, fun h => h.elim (fun e => e ▸ hpK) id⟩⟩, kp _⟩
    unfold PairEs at he ⊢
    rw [← he]
    apply List.ext_getElem?
    intro i
    simp only [List.getElem?_map, Array.toList_modify, List.getElem?_modify]
    by_cases hij : j = i
    · subst hij
      have h3 := congrArg (fun l => l[j]?) he
      simp only [List.getElem?_map, hj] at h3
      rw [List.getElem?_eq_getElem hjl] at h3 ⊢
      simp at h3 ⊢
      exact ⟨h3.1.symm, h3.2.symm⟩
    · simp only [if_neg hij]
      cases es.toList[i]? <;> rfl
omit M
theorem PairsAt.keep {S : Nat → Prop} {w w' : World} {r : Nat} {K : List (Int × Int)} (h : PairsAt w r K) (hk : Keep S w w') (hS : ¬ S r) : PairsAt w' r K := by
  obtain ⟨es, clock, hb, he⟩ := h
  exact ⟨es, clock, hk.get hb hS, he⟩
end
end Go.Proofs.YtakjbjokekbmbaaGreatDoor

/- Flow: the small callees: Clone, Contains, Index of ints. -/
namespace Go.Proofs.YtakjbjokekbmbaaGreatDoor
open Go.RowKit
set_option linter.unusedVariables false

theorem SlOf.cases {R : Nat → Prop} {w : World} {ao : Option Addr} {n cap sz : Nat} {cs : List Value} (h : SlOf R w (.slice ao n cap) sz cs n) : (ao = none ∧ n = 0 ∧ cap = 0 ∧ cs = []) ∨ ∃ a, ao = some a := by
  obtain ⟨hl, ao', cap', hv, h1, h2, h3, h4⟩ := h
  simp at hv
  obtain ⟨rfl, rfl⟩ := hv
  cases ao with
  | none =>
    have := h3 rfl
    have hn : n = 0 := by omega
    subst hn
    exact .inl ⟨rfl, rfl, this, List.eq_nil_of_length_eq_zero (by simpa using hl)⟩
  | some a => exact .inr ⟨a, rfl⟩

theorem slOf_news {R : Nat → Prop} {w : World} {a : Addr} {n cap sz : Nat} {cs : List Value} (h : SlOf R w (.slice (some a) n cap) sz cs n) : cs.length = n * sz ∧ n ≤ maxLen ∧ ∀ j u, cs[j]? = some u → w.cell? (a.add j) = some u := by
  obtain ⟨hl, ao', cap', hv, h1, h2, h3, h4⟩ := h
  simp at hv
  obtain ⟨rfl, rfl⟩ := hv
  refine ⟨hl, by omega, fun j u hu => ?_⟩
  have hj : j < cs.length := (List.getElem?_eq_some_iff.1 hu).1
  obtain ⟨b, off, ha, _, _, hc⟩ := h4 (by omega)
  obtain rfl := Option.some.inj ha
  rw [addr_add]
  exact hc j u hu

set_option maxHeartbeats 400000 in
theorem cloneInts_any (R : Nat → Prop) (l : List Int) (v : Value) (w : World) (h : SlOf R w v 1 (intCells l) l.length) (hn : l.length ≤ 1000) :
    Calls Tryz.prog 81 #[v] w fun e w' => ∃ ao cap, e = .returned (.slice ao l.length cap) ∧ SlOf (fun b => w.heap.size ≤ b) w' (.slice ao l.length cap) 1 (intCells l) l.length ∧ Below w.heap.size w w' := by
  obtain ⟨i0, hi0, hz0, hz1, hz2⟩ := info_parts Tryz.infoInt
  have qn : ∀ (w : World) (a : Option Addr) (n c n' c' : Nat), (binOp .eql 36 (.slice a n c) (.slice none n' c')).run Tryz.prog w = .ok (.bool a.isNone) w := fun w a n c n' c' => Lib.run_eql_slice_nil w _ _ a n c n' c' Tryz.underlying36
  obtain ⟨ao, cap, rfl⟩ := h.val
  rcases h.cases with ⟨rfl, hl, rfl, hc⟩ | ⟨a, rfl⟩
  · have hl' : l = [] := List.eq_nil_of_length_eq_zero hl
    subst hl'
    clear h hl hc
    go_enter Tryz.func81, Tryz.ntmps81
    go_wp2_with fail
    go_ret
    exact ⟨none, 0, rfl, SlOf.nil _ _ _, Below.refl _ _⟩
  · obtain ⟨h1, h2, h3⟩ := slOf_news h
    have h3' : Hid (∀ j u, (intCells l)[j]? = some u → ∀ o, (w.alloc o).cell? (a.add j) = some u) := fun j u hu o => by
      have := h3 j u hu
      rw [World.cell?_of_block (w := w) (Below.heap_alloc _ _ _ (World.block_lt_of_cell? _ _ this))]; exact this
    have hh63 : Hid (0 + l.length ≤ maxLen) := by show 0 + l.length ≤ maxLen; omega
    have hby : Hid ((0 + l.length) * 8 ≤ 140737488355328) := by show (0 + l.length) * 8 ≤ _; omega
    have hbs : Hid (∀ o, w.heap.size ≤ (w.alloc o).heap.size) := fun o => by simp
    clear h h2 h3
    go_enter Tryz.func81, Tryz.ntmps81
    go_wp2_with (at_builtin; refine wpList_append_ownS rfl (.tmp 5) (.tmp 6) 36 rfl w.heap.size 3 i0 _ 1 8 Tryz.underlying36 hi0 hz0 hz1 hz2 rfl (by decide) _ 0 [] rfl (World.ownsRow_made w #[] 0 (Nat.le_refl _) (by decide) rfl) a l.length cap (intCells l) rfl h1 (fun j u hu => h3'.out j u hu _) (oneCell_ints l) hh63.out hby.out (hbs.out _) ?_; intro a1 k1 w6 ho6 hg6)
    go_ret
    rw [Nat.zero_add, List.nil_append] at ho6
    refine ⟨a1, k1, rfl, slOf_owns ho6, ?_⟩
    exact ((Below.refl _ _).alloc (Nat.le_refl _) _).grown hg6 (by simp) (fun k hk => by have h : some w.heap.size = some k := hk; simp at h; omega)
/-- The place of a number in a list; -1: none. -/
def idxOf (l : List Int) (x : Int) : Int := match l.findIdx? (fun y => y == x) with | some i => (i : Int) | none => -1
theorem idxOf_hit {l : List Int} {x : Int} {k : Nat} (hk : k < l.length) (hx : l[k] = x) (hb : ∀ j (hj : j < l.length), j < k → l[j] ≠ x) : idxOf l x = k := by
  have : l.findIdx? (fun y => y == x) = some k := by
    rw [List.findIdx?_eq_some_iff_getElem]
    exact ⟨hk, by simp [hx], fun j hj => by have := hb j (by omega) hj; simpa using this⟩
  simp [idxOf, this]
theorem idxOf_miss {l : List Int} {x : Int} (h : ∀ j (hj : j < l.length), l[j] ≠ x) : idxOf l x = -1 := by
  have : l.findIdx? (fun y => y == x) = none := by
    rw [List.findIdx?_eq_none_iff]
    intro y hy
    obtain ⟨j, hj, rfl⟩ := List.mem_iff_getElem.1 hy
    simpa using h j hj
  simp [idxOf, this]
theorem idxOf_nonneg {l : List Int} {x : Int} : 0 ≤ idxOf l x ↔ x ∈ l := by
  unfold idxOf
  cases h : l.findIdx? (fun y => y == x) with
  | none =>
    rw [List.findIdx?_eq_none_iff] at h
    simp
    intro hx
    have := h x hx
    simp at this
  | some i =>
    rw [List.findIdx?_eq_some_iff_getElem] at h
    obtain ⟨hi, he, _⟩ := h
    simp at he
    subst he
    simp

theorem flat_ints (l : List Int) : l.flatMap (fun x => [Value.int .i64 x]) = intCells l := by
  unfold intCells
  induction l with
  | nil => rfl
  | cons x l ih => simp [ih]
theorem int_cells {R : Nat → Prop} {w : World} {ao : Option Addr} {n cap : Nat} {l : List Int} (h : SlOf R w (.slice ao n cap) 1 (intCells l) l.length) (h0 : 0 < l.length) :
    ∃ b off, ao = some ⟨b, off, none⟩ ∧ R b ∧ b < w.heap.size ∧ ∀ k (hk : k < l.length), w.cell? ⟨b, off + k, none⟩ = some (.int .i64 l[k]) := by
  have h' : SlOf R w (.slice ao n cap) 1 (l.flatMap (fun x => [Value.int .i64 x])) l.length := by
    rw [flat_ints]; exact h
  obtain ⟨b, off, ha, hR, hb, hc⟩ := h'.elem (fun _ => rfl) (by decide) h0
  refine ⟨b, off, ha, hR, hb, fun k hk => ?_⟩
  have := hc k hk 0 _ rfl
  simpa using this

set_option maxHeartbeats 400000 in
theorem indexInts_any (R : Nat → Prop) (l : List Int) (v : Value) (x : Int) (w : World) (h : SlOf R w v 1 (intCells l) l.length) :
    Calls Tryz.prog 133 #[v, .int .i64 x] w fun e w' => e = .returned (.int .i64 (idxOf l x)) ∧ w = w' := by
  obtain ⟨hl, ao, cap, rfl, h1, h2, h3, h4⟩ := h
  have hsl : SlOf R w (.slice ao l.length cap) 1 (intCells l) l.length := ⟨hl, _, _, rfl, h1, h2, h3, h4⟩
  have hn : l.length ≤ 9223372036854775807 := by unfold maxLen at h2; omega
  have H := Lib.hid hsl
  clear hl h1 h2 h3 h4 hsl
  go_enter Tryz.func133, Tryz.ntmps133
  go_wp2_with fail
  go_loop [8] (fun s => ∃ k : Nat, k ≤ l.length ∧ s = .int .i64 k ∧ Hid (∀ j (hj : j < l.length), j < k → l[j] ≠ x)) (fun s => l.length - (intOf s).toNat)
  case atStart => exact ⟨0, Nat.zero_le _, rfl, fun j hj h => by omega⟩
  case round =>
    obtain ⟨k, hk, rfl, hall⟩ := hrel
    by_cases hlt : k < l.length
    · obtain ⟨b, off, rfl, hRb, _, hc⟩ := int_cells H.out (by omega)
      have q := hc k hlt
      clear hc
      by_cases hx : x = l[k]
      · have hxb : (x == l[k]) = true := beq_iff_eq.2 hx
        have hI := idxOf_hit hlt hx.symm hall.out
        have HI := Lib.hid hI
        clear hx hI
        go_wp2_with fail
        go_ret
        exact ⟨ret_int HI.out.symm, rfl⟩
      · have hxb : (x == l[k]) = false := by simp [hx]
        go_wp2_with fail
        go_round
        case rel =>
          refine ⟨k + 1, by omega, by go_num, fun j hj h => ?_⟩
          by_cases hjk : j = k
          · subst hjk; exact fun h => hx h.symm
          · exact hall.out j hj (by omega)
        case measure => simp [intOf]; omega
    · have hI := idxOf_miss (l := l) (x := x) (fun j hj => hall.out j hj (by omega))
      have HI := Lib.hid hI
      clear hI
      go_wp2_with fail
      go_ret
      exact ⟨ret_int HI.out.symm, rfl⟩

set_option maxHeartbeats 400000 in
theorem containsInts_any (R : Nat → Prop) (l : List Int) (v : Value) (x : Int) (w : World) (h : SlOf R w v 1 (intCells l) l.length) :
    Calls Tryz.prog 109 #[v, .int .i64 x] w fun e w' => e = .returned (.bool (decide (x ∈ l))) ∧ w = w' := by
  obtain ⟨ao, cap, rfl⟩ := h.val
  have H := Lib.hid h
  clear h
  go_enter Tryz.func109, Tryz.ntmps109
  go_wp2_with fail
  refine (indexInts_any R l _ x _ H.out).mono ?_
  rintro e w' ⟨rfl, rfl⟩
  go_wp2_with fail
  go_ret
  exact ⟨ret_bool (decide_eq_decide.2 idxOf_nonneg), rfl⟩
end Go.Proofs.YtakjbjokekbmbaaGreatDoor

/- Package ring: Clone, Records, Last, Append. -/
namespace Go.Proofs.YtakjbjokekbmbaaGreatDoor
open Go.RowKit
set_option linter.unusedVariables false

def recCells (r : RecV) : List Value := [.int .i64 r.seq, .int .i64 r.ent, .int .i64 r.kind, .int .i64 r.tick]
theorem recCells_len (r : RecV) : (recCells r).length = 4 := rfl
theorem Tryz.infoRec : (Tryz.prog.info? 63).map (fun i => (i.zero, i.size, i.bytes)) = some (some (.agg #[.int .i64 0, .int .i64 0, .int .i64 0, .int .i64 0]), 4, 32) := by kernel_rfl
theorem oneCell_recs (l : List RecV) : ∀ u ∈ l.flatMap recCells, u.oneCell' = true := oneCell_flat _ (by intro x u hu; simp [recCells] at hu; rcases hu with rfl | rfl | rfl | rfl <;> rfl) l
theorem flat_recs (l : List RecV) : (l.flatMap recCells).length = l.length * 4 := flat_len recCells 4 recCells_len l

set_option maxHeartbeats 400000 in
theorem cloneRecs_any (R : Nat → Prop) (l : List RecV) (v : Value) (w : World) (h : SlOf R w v 4 (l.flatMap recCells) l.length) (hn : l.length ≤ 1000) :
    Calls Tryz.prog 61 #[v] w fun e w' => ∃ ao cap, e = .returned (.slice ao l.length cap) ∧ w'.ownsRow w.heap.size 63 4 (.slice ao l.length cap) l.length (l.flatMap recCells) ∧ Below w.heap.size w w' := by
  obtain ⟨i0, hi0, hz0, hz1, hz2⟩ := info_parts Tryz.infoRec
  have qn : ∀ (w : World) (a : Option Addr) (n c n' c' : Nat), (binOp .eql 58 (.slice a n c) (.slice none n' c')).run Tryz.prog w = .ok (.bool a.isNone) w := fun w a n c n' c' => Lib.run_eql_slice_nil w _ _ a n c n' c' Tryz.underlying58
  obtain ⟨ao, cap, rfl⟩ := h.val
  rcases h.cases with ⟨rfl, hl, rfl, hc⟩ | ⟨a, rfl⟩
  · have hl' : l = [] := List.eq_nil_of_length_eq_zero hl
    subst hl'
    clear h hl hc
    go_enter Tryz.func61, Tryz.ntmps61
    go_wp2_with fail
    go_ret
    exact ⟨none, 0, rfl, World.ownsRow_nil _ _ _ _, Below.refl _ _⟩
  · obtain ⟨h1, h2, h3⟩ := slOf_news h
    have h3' : Hid (∀ j u, (l.flatMap recCells)[j]? = some u → ∀ o, (w.alloc o).cell? (a.add j) = some u) := fun j u hu o => by
      have := h3 j u hu
      rw [World.cell?_of_block (w := w) (Below.heap_alloc _ _ _ (World.block_lt_of_cell? _ _ this))]; exact this
    have hh63 : Hid (0 + l.length ≤ maxLen) := by show 0 + l.length ≤ maxLen; omega
    have hby : Hid ((0 + l.length) * 32 ≤ 140737488355328) := by show (0 + l.length) * 32 ≤ _; omega
    have hbs : Hid (∀ o, w.heap.size ≤ (w.alloc o).heap.size) := fun o => by simp
    clear h h2 h3
    go_enter Tryz.func61, Tryz.ntmps61
    go_wp2_with (at_builtin; refine wpList_append_ownS rfl (.tmp 5) (.tmp 6) 58 rfl w.heap.size 63 i0 _ 4 32 Tryz.underlying58 hi0 hz0 hz1 hz2 rfl (by decide) _ 0 [] rfl (World.ownsRow_made w #[] 0 (Nat.le_refl _) (by decide) rfl) a l.length cap (l.flatMap recCells) rfl h1 (fun j u hu => h3'.out j u hu _) (oneCell_recs l) hh63.out hby.out (hbs.out _) ?_; intro a1 k1 w6 ho6 hg6)
    go_ret
    rw [Nat.zero_add, List.nil_append] at ho6
    refine ⟨a1, k1, rfl, ho6, ?_⟩
    exact ((Below.refl _ _).alloc (Nat.le_refl _) _).grown hg6 (by simp) (fun k hk => by have h : some w.heap.size = some k := hk; simp at h; omega)

/-- A ring's block, and the records that it shows. -/
structure RingBox (w : World) (rg c : Nat) (lv : Value) (dead : Bool) (L : List RecV) (R : Nat → Prop) : Prop where
  box : w.heap[rg]? = some (ringC c lv dead)
  row : SlOf R w lv 4 (L.flatMap recCells) L.length
theorem RingBox.keep {S R : Nat → Prop} {w w' : World} {rg c : Nat} {lv : Value} {dead : Bool} {L : List RecV} (h : RingBox w rg c lv dead L R) (k : Keep S w w') (h1 : ¬ S rg) (h2 : ∀ b, R b → ¬ S b) : RingBox w' rg c lv dead L R := ⟨k.get h.box h1, h.row.keep k h2⟩

theorem ringRecords_any (w : World) (rg c : Nat) (lv : Value) (dead : Bool) (L : List RecV) (R : Nat → Prop) (h : RingBox w rg c lv dead L R) (hn : L.length ≤ 1000) :
    Calls Tryz.prog 38 #[.pointer (some ⟨rg, 0, none⟩)] w fun e w' => ∃ v, e = .returned v ∧ SlOf (fun b => w.heap.size ≤ b) w' v 4 (L.flatMap recCells) L.length ∧ Below w.heap.size w w' := by
  obtain ⟨r0, r1, r2, rf⟩ := ring_cells h.box
  have HR := Lib.hid h.row
  clear h
  go_enter Tryz.func38, Tryz.ntmps38
  go_wp2_with fail
  refine (cloneRecs_any R L lv w HR.out hn).mono ?_
  rintro e w1 ⟨ao, cap, rfl, ho, b⟩
  have HS := Lib.hid (slOf_owns ho)
  clear ho
  go_wp2_with fail
  go_ret
  exact ⟨_, rfl, HS.out, b⟩

theorem rec_cells {R : Nat → Prop} {w : World} {ao : Option Addr} {n cap : Nat} {l : List RecV} (h : SlOf R w (.slice ao n cap) 4 (l.flatMap recCells) l.length) (h0 : 0 < l.length) :
    ∃ b off, ao = some ⟨b, off, none⟩ ∧ R b ∧ b < w.heap.size ∧ ∀ k (hk : k < l.length), w.cell? ⟨b, off + k * 4, none⟩ = some (.int .i64 l[k].seq) ∧ w.cell? ⟨b, off + k * 4 + 1, none⟩ = some (.int .i64 l[k].ent) ∧ w.cell? ⟨b, off + k * 4 + 2, none⟩ = some (.int .i64 l[k].kind) ∧ w.cell? ⟨b, off + k * 4 + 3, none⟩ = some (.int .i64 l[k].tick) := by
  obtain ⟨b, off, ha, hR, hb, hc⟩ := h.elem (fun _ => rfl) (by decide) h0
  exact ⟨b, off, ha, hR, hb, fun k hk => ⟨hc k hk 0 _ rfl, hc k hk 1 _ rfl, hc k hk 2 _ rfl, hc k hk 3 _ rfl⟩⟩

theorem frozen_of {w : World} {b o : Nat} {cs : Array Value} {t : TypeId} (h : w.heap[b]? = some (.cells cs t)) : w.frozen? ⟨b, o, none⟩ = false := by simp [World.frozen?, h]
/-- The last record; none: the empty one. -/
def lastZ (L : List RecV) : RecV := L.getLast?.getD ⟨0, 0, 0, 0⟩
set_option maxRecDepth 20000 in
set_option maxHeartbeats 1000000 in
theorem ringLast_any (w : World) (rg c : Nat) (lv : Value) (dead : Bool) (L : List RecV) (R : Nat → Prop) (h : RingBox w rg c lv dead L R) (hR : ∀ b, R b → b < w.heap.size) (hn : L.length ≤ 1000) :
    Calls Tryz.prog 46 #[.pointer (some ⟨rg, 0, none⟩)] w fun e w' => e = .returned (.tuple #[recAgg (lastZ L), .bool (!L.isEmpty)]) ∧ Below w.heap.size w w' := by
  obtain ⟨r0, r1, r2, rf⟩ := ring_cells h.box
  have hrg := lt_of_get h.box
  have hrow := h.row
  obtain ⟨ao, cap, rfl⟩ := h.row.val
  clear h
  have ba : Below w.heap.size w (w.alloc (recC ⟨0, 0, 0, 0⟩)) := (Below.refl _ _).alloc (Nat.le_refl _) _
  have na := get_alloc_new w (recC ⟨0, 0, 0, 0⟩)
  have ZF : ∀ o, (w.alloc (recC ⟨0, 0, 0, 0⟩)).frozen? ⟨w.heap.size, o, none⟩ = false := fun o => frozen_of na
  obtain ⟨z0, z1, z2, z3⟩ := four_cells na
  have s1 := (ba.cell (p := ⟨rg, 1, none⟩) hrg).trans r1
  by_cases h0 : L.length = 0
  · obtain rfl := List.eq_nil_of_length_eq_zero h0
    unfold recC at ba
    clear z0 z1 z2 z3 na ZF s1
    go_enter Tryz.func46, Tryz.ntmps46
    go_wp2_with fail
    refine bodyPost_ret (v := .tuple #[recAgg ⟨0, 0, 0, 0⟩, .bool false]) (by simp [recAgg, results, Tryz.results46, go_sem]) rfl ?_
    exact ⟨rfl, ba⟩
  · obtain ⟨b, off, rfl, hRb, hb, hc⟩ := rec_cells hrow (by omega)
    obtain ⟨N, hN⟩ : ∃ N, N = L.length - 1 := ⟨_, rfl⟩
    have hNl : N < L.length := by omega
    obtain ⟨q0, q1, q2, q3⟩ := hc N hNl
    have t0 := (ba.cell (p := ⟨b, off + N * 4, none⟩) hb).trans q0
    have t1 := (ba.cell (p := ⟨b, off + N * 4 + 1, none⟩) hb).trans q1
    have t2 := (ba.cell (p := ⟨b, off + N * 4 + 2, none⟩) hb).trans q2
    have t3 := (ba.cell (p := ⟨b, off + N * 4 + 3, none⟩) hb).trans q3
    have hL : Hid (lastZ L = L[N]) := (show lastZ L = L[N] from by
      unfold lastZ
      rw [List.getLast?_eq_getElem?, ← hN, List.getElem?_eq_getElem hNl]; rfl)
    have hE : Hid (L.isEmpty = false) := (show L.isEmpty = false from by rw [List.isEmpty_eq_false_iff]; intro e; rw [e] at h0; exact h0 rfl)
    have hI : (L.length : Int) - 1 = (N : Int) := by omega
    have hI2 : (N : Int) < L.length := by omega
    unfold recC at ba t0 t1 t2 t3 s1 z0 z1 z2 z3 ZF
    obtain ⟨r, hr⟩ : ∃ r, r = L[N] := ⟨_, rfl⟩
    rw [← hr] at t0 t1 t2 t3 hL
    clear q0 q1 q2 q3 hc hN hr na
    go_enter Tryz.func46, Tryz.ntmps46
    go_wp2_with fail
    generalize w.alloc _ = w1 at ba t0 t1 t2 t3 s1 z0 z1 z2 z3 ZF ⊢
    go_region
    all_goals
      go_wp2_with fail
      refine bodyPost_ret (v := .tuple #[recAgg r, .bool true]) (by simp [recAgg, results, Tryz.results46, go_sem, z0, z1, z2, z3, World.cell?_setCell_same, World.cell?_setCell_other]) rfl ?_
      rw [hL.out, hE.out]
      exact ⟨rfl, ((((ba.setCell (p := ⟨w.heap.size, 0, none⟩) (Nat.le_refl _) _).setCell (p := ⟨w.heap.size, 1, none⟩) (Nat.le_refl _) _).setCell (p := ⟨w.heap.size, 2, none⟩) (Nat.le_refl _) _).setCell (p := ⟨w.heap.size, 3, none⟩) (Nat.le_refl _) _).drew⟩
end Go.Proofs.YtakjbjokekbmbaaGreatDoor
