/- A map keyed by pairs of ints, its elements true: what a look-up finds, what a store leaves. -/
import Derived.Test.YtgdaljpimblkgaaGreatDoorR01
import Derived.Maps.OwnOps
import Derived.Maps.OwnSet
import Derived.Test.YtgdaljpimblkgaaGreatDoorR03
import Derived.WalkSpells
namespace Go.Proofs.YtgdaljpimblkgaaGreatDoor
open Go.RowKit
set_option linter.unusedVariables false

def pairV (p : Int × Int) : Value := .agg #[.int .i64 p.1, .int .i64 p.2]
theorem pairV_inj {p q : Int × Int} (h : pairV p = pairV q) : p = q := by
  unfold pairV at h
  simp at h
  exact Prod.ext h.1 h.2

theorem sameBits_pair (p : Int × Int) : Instr.sameBits 10000 (pairV p) (pairV p) = true := by
  have : ∀ n, Instr.sameBits (n + 2) (pairV p) (pairV p) = true := by intro n; simp [pairV, Instr.sameBits]
  exact this 9998

section
variable {P : Program}
theorem run_part_int (w : World) {e : TypeId} {k : IntKind} (he : P.underlying e = some (.int k)) (cs : Array Value) (i : Nat) (v : Value) (hv : cs[i]? = some v) : (part e cs i).run P w = .ok v w := by
  unfold part
  simp [isAgg, run_underlying he, hv]

/-- What is asked of the program's tables: an array of two ints as a key, bools as elements. -/
structure PairMap (P : Program) (m t e b : TypeId) : Prop where
  um : P.underlying m = some (.map t b)
  ut : P.underlying t = some (.array 2 e)
  ue : P.underlying e = some (.int .i64)
  us : ∃ i, P.info? e = some i ∧ i.size = 1
  uz : ∀ w : World, (zeroValue b).run P w = .ok (.bool false) w

variable {m t e b : TypeId} (M : PairMap P m t e b)
include M
theorem PairMap.equal (w : World) (p q : Int × Int) : (Op.equal t (pairV p) (pairV q)).run P w = .ok (decide (p = q)) w := by
  obtain ⟨i, hi, hs⟩ := M.us
  have key : ∀ d, (Op.equalIn (d + 2) t (pairV p) (pairV q)).run P w = .ok (decide (p = q)) w := by
    intro d
    unfold pairV
    rw [Op.equalIn]
    have p0 := fun (a b : Int) (w : World) => run_part_int (P := P) w M.ue #[.int .i64 a, .int .i64 b] 0 _ rfl
    have p1 := fun (a b : Int) (w : World) => run_part_int (P := P) w M.ue #[.int .i64 a, .int .i64 b] 1 _ rfl
    have e1 := fun (a b : Int) (w : World) => run_equalIn_int (P := P) w d e .i64 .i64 a b M.ue
    simp [run_underlying M.ut, sizeOf, typeInfo, hi, hs, Std.Legacy.Range.forIn_eq_forIn_range', Std.Legacy.Range.size, List.range', p0, p1, e1]
    by_cases h1 : p.1 = q.1
    · by_cases h2 : p.2 = q.2
      · rw [if_pos h1, if_pos h2, decide_eq_true (Prod.ext h1 h2)]
      · rw [if_pos h1, if_neg h2, decide_eq_false (fun h => h2 (by rw [h]))]
    · rw [if_neg h1, decide_eq_false (fun h => h1 (by rw [h]))]
  exact key 9998

theorem PairMap.check (w : World) (em : Bool) (p : Int × Int) : (Instr.checkKey em 10000 t (pairV p)).run P w = .ok () w := by
  obtain ⟨i, hi, hs⟩ := M.us
  have key : ∀ d, (Instr.checkKey em (d + 2) t (pairV p)).run P w = .ok () w := by
    intro d
    unfold pairV
    rw [Instr.checkKey]
    have p0 := fun (a b : Int) (w : World) => run_part_int (P := P) w M.ue #[.int .i64 a, .int .i64 b] 0 _ rfl
    have p1 := fun (a b : Int) (w : World) => run_part_int (P := P) w M.ue #[.int .i64 a, .int .i64 b] 1 _ rfl
    have e1 : ∀ (a : Int) (w : World), (Instr.checkKey em (d + 1) e (.int .i64 a)).run P w = .ok () w := by
      intro a w
      rw [Instr.checkKey]
      simp [run_underlying M.ue]
    simp [run_underlying M.ut, sizeOf, typeInfo, hi, hs, Std.Legacy.Range.forIn_eq_forIn_range', Std.Legacy.Range.size, List.range', p0, p1, e1]
  exact key 9998

/-- The entries of the keys K. -/
def PairEs (es : List MapEntry) (K : List (Int × Int)) : Prop := es.map (fun x => (x.key, x.val)) = K.map (fun p => (pairV p, Value.bool true))

theorem PairMap.find (w : World) (p : Int × Int) : ∀ (es : List MapEntry) (K : List (Int × Int)) (i : Nat), PairEs es K →
    ∃ r, (Instr.findAsking t (pairV p) es i).run P w = .ok r w ∧ ((r = none ∧ p ∉ K) ∨ ∃ j, r = some (i + j, .bool true) ∧ K[j]? = some p)
  | [], K, i, h => by
    have hK : K = [] := by simpa [PairEs] using h
    subst hK
    exact ⟨none, by simp [Instr.findAsking], .inl ⟨rfl, by simp⟩⟩
  | x :: es, [], i, h => by simp [PairEs] at h
  | x :: es, q :: K, i, h => by
    simp only [PairEs, List.map_cons, List.cons.injEq, Prod.mk.injEq] at h
    obtain ⟨⟨hk, hv⟩, hr⟩ := h
    have he := M.equal w p q
    by_cases hpq : p = q
    · refine ⟨some (i, .bool true), ?_, .inr ⟨0, by simp, by simp [hpq]⟩⟩
      rw [Instr.findAsking]
      simp [hk, hpq, hv, M.equal]
    · obtain ⟨r, h1, h2⟩ := PairMap.find w p es K (i + 1) hr
      refine ⟨r, ?_, ?_⟩
      · rw [Instr.findAsking]
        simp [hk, he, hpq, h1]
      · rcases h2 with ⟨rfl, hn⟩ | ⟨j, rfl, hj⟩
        · exact .inl ⟨rfl, by simp [hpq, hn]⟩
        · exact .inr ⟨j + 1, by rw [show i + 1 + j = i + (j + 1) from by omega], by simpa using hj⟩

theorem PairMap.findKey (w : World) (p : Int × Int) (es : List MapEntry) (K : List (Int × Int)) (h : PairEs es K) :
    ∃ r, (Instr.findKey t (pairV p) es).run P w = .ok r w ∧ ((r = none ∧ p ∉ K) ∨ ∃ j, r = some (j, .bool true) ∧ K[j]? = some p) := by
  have hw : (match P.underlying t with | some (.array _ _) | some (.struct _) => true | _ => false) = true := by rw [M.ut]
  rw [run_findKey_eq w hw]
  obtain ⟨r, h1, h2⟩ := M.find w p es K 0 h
  refine ⟨r, h1, ?_⟩
  rcases h2 with h2 | ⟨j, hj, hk⟩
  · exact .inl h2
  · exact .inr ⟨j, by rw [hj, Nat.zero_add], hk⟩

/-- Block r is a map of the keys K, each with true. -/
def PairsAt (w : World) (r : Nat) (K : List (Int × Int)) : Prop := ∃ es clock, w.heap[r]? = some (.map es clock) ∧ PairEs es.toList K

theorem PairMap.lookup (w : World) (r : Nat) (K : List (Int × Int)) (p : Int × Int) (h : PairsAt w r K) : (Instr.lookup m (.map (some r)) (pairV p) false).run P w = .ok (.bool (decide (p ∈ K))) w := by
  obtain ⟨es, clock, hb, he⟩ := h
  obtain ⟨x, h1, h2⟩ := M.findKey w p es.toList K he
  have hg := MapKept.run_getObj_map (P := P) hb
  have hc := M.check w es.isEmpty p
  unfold Instr.lookup
  rcases h2 with ⟨rfl, hn⟩ | ⟨j, rfl, hj⟩
  · simp [run_underlying M.um, hg, hc, h1, M.uz, hn]
  · have : p ∈ K := List.mem_of_getElem? hj
    simp [run_underlying M.um, hg, hc, h1, this]

theorem PairMap.update (w : World) (r : Nat) (K : List (Int × Int)) (p : Int × Int) (h : PairsAt w r K) :
    ∃ w', (Instr.mapUpdate m (.map (some r)) (pairV p) (.bool true)).run P w = .ok () w' ∧ (∃ K', PairsAt w' r K' ∧ ∀ q, q ∈ K' ↔ q = p ∨ q ∈ K) ∧ Keep (· = r) w w' := by
  obtain ⟨es, clock, hb, he⟩ := h
  obtain ⟨x, h1, h2⟩ := M.findKey w p es.toList K he
  have hg := MapKept.run_getObj_map (P := P) hb
  have hc := M.check w false p
  have hs := fun o => MapKept.run_setObj_map (P := P) o hb
  have kp : ∀ o : Obj, Keep (· = r) w { w with heap := w.heap.setIfInBounds r o } := fun o => ⟨rfl, rfl, rfl, by simp, fun k hk hne => by
    simp only [Array.getElem?_setIfInBounds]; rw [if_neg (fun h => hne h.symm)]⟩
  have hr := lt_of_get hb
  have nw : ∀ o : Obj, ({ w with heap := w.heap.setIfInBounds r o } : World).heap[r]? = some o := fun o => by
    simp only [Array.getElem?_setIfInBounds]; simp [hr]
  have hlen : es.toList.length = K.length := by have := congrArg List.length he; simpa using this
  unfold Instr.mapUpdate
  rcases h2 with ⟨rfl, hn⟩ | ⟨j, rfl, hj⟩
  · refine ⟨_, by simp [run_underlying M.um, hg, hc, h1, hs]; rfl, ⟨K ++ [p], ⟨_, _, nw _, ?_⟩, fun q => by simp; exact or_comm⟩, kp _⟩
    unfold PairEs at he ⊢
    simp [he]
  · have hjl : j < es.toList.length := by rw [hlen]; exact (List.getElem?_eq_some_iff.1 hj).1
    have hkey : ((es[j]?).map (·.key)).getD (pairV p) = pairV p := by
      have h3 := congrArg (fun l => l[j]?) he
      simp only [List.getElem?_map, hj] at h3
      rw [List.getElem?_eq_getElem hjl] at h3
      simp at h3
      have : es[j]? = some es[j] := Array.getElem?_eq_getElem (by simpa using hjl)
      rw [this]
      simp [h3.1]
    have kst : (Instr.keyThatStays (pairV p) (pairV p)).run P w = .ok (pairV p) w := by
      unfold Instr.keyThatStays
      rw [if_pos (sameBits_pair p)]
      simp
    have hpK : p ∈ K := List.mem_of_getElem? hj
    refine ⟨_, by simp only [run_underlying M.um, hg, hc, h1, hs, hkey, kst, Sem.run_bind, Result.andThen_ok]; rfl, ⟨K, ⟨_, _, nw _, ?_⟩, fun q => ⟨fun h => .inr h, fun h => h.elim (fun e => e ▸ hpK) id⟩⟩, kp _⟩
    unfold PairEs at he ⊢
    rw [← he]
    apply List.ext_getElem?
    intro i
    simp only [List.getElem?_map, Array.toList_modify, List.getElem?_modify]
    by_cases hij : j = i
    · subst hij
      have h3 := congrArg (fun l => l[j]?) he
      simp only [List.getElem?_map, hj] at h3
      rw [List.getElem?_eq_getElem hjl] at h3 ⊢
      simp at h3 ⊢
      exact ⟨h3.1.symm, h3.2.symm⟩
    · simp only [if_neg hij]
      cases es.toList[i]? <;> rfl
omit M
theorem PairsAt.keep {S : Nat → Prop} {w w' : World} {r : Nat} {K : List (Int × Int)} (h : PairsAt w r K) (hk : Keep S w w') (hS : ¬ S r) : PairsAt w' r K := by
  obtain ⟨es, clock, hb, he⟩ := h
  exact ⟨es, clock, hk.get hb hS, he⟩
end
end Go.Proofs.YtgdaljpimblkgaaGreatDoor

/- Flow: the small callees: Clone, Contains, Index of ints. -/
namespace Go.Proofs.YtgdaljpimblkgaaGreatDoor
open Go.RowKit
set_option linter.unusedVariables false

theorem SlOf.cases {R : Nat → Prop} {w : World} {ao : Option Addr} {n cap sz : Nat} {cs : List Value} (h : SlOf R w (.slice ao n cap) sz cs n) : (ao = none ∧ n = 0 ∧ cap = 0 ∧ cs = []) ∨ ∃ a, ao = some a := by
  obtain ⟨hl, ao', cap', hv, h1, h2, h3, h4⟩ := h
  simp at hv
  obtain ⟨rfl, rfl⟩ := hv
  cases ao with
  | none =>
    have := h3 rfl
    have hn : n = 0 := by omega
    subst hn
    exact .inl ⟨rfl, rfl, this, List.eq_nil_of_length_eq_zero (by simpa using hl)⟩
  | some a => exact .inr ⟨a, rfl⟩

theorem slOf_news {R : Nat → Prop} {w : World} {a : Addr} {n cap sz : Nat} {cs : List Value} (h : SlOf R w (.slice (some a) n cap) sz cs n) : cs.length = n * sz ∧ n ≤ maxLen ∧ ∀ j u, cs[j]? = some u → w.cell? (a.add j) = some u := by
  obtain ⟨hl, ao', cap', hv, h1, h2, h3, h4⟩ := h
  simp at hv
  obtain ⟨rfl, rfl⟩ := hv
  refine ⟨hl, by omega, fun j u hu => ?_⟩
  have hj : j < cs.length := (List.getElem?_eq_some_iff.1 hu).1
  obtain ⟨b, off, ha, _, _, hc⟩ := h4 (by omega)
  obtain rfl := Option.some.inj ha
  rw [addr_add]
  exact hc j u hu

/-- The place of a number in a list; -1: none. -/
def idxOf (l : List Int) (x : Int) : Int := match l.findIdx? (fun y => y == x) with | some i => (i : Int) | none => -1
theorem idxOf_hit {l : List Int} {x : Int} {k : Nat} (hk : k < l.length) (hx : l[k] = x) (hb : ∀ j (hj : j < l.length), j < k → l[j] ≠ x) : idxOf l x = k := by
  have : l.findIdx? (fun y => y == x) = some k := by
    rw [List.findIdx?_eq_some_iff_getElem]
    exact ⟨hk, by simp [hx], fun j hj => by have := hb j (by omega) hj; simpa using this⟩
  simp [idxOf, this]
theorem idxOf_miss {l : List Int} {x : Int} (h : ∀ j (hj : j < l.length), l[j] ≠ x) : idxOf l x = -1 := by
  have : l.findIdx? (fun y => y == x) = none := by
    rw [List.findIdx?_eq_none_iff]
    intro y hy
    obtain ⟨j, hj, rfl⟩ := List.mem_iff_getElem.1 hy
    simpa using h j hj
  simp [idxOf, this]
theorem idxOf_nonneg {l : List Int} {x : Int} : 0 ≤ idxOf l x ↔ x ∈ l := by
  unfold idxOf
  cases h : l.findIdx? (fun y => y == x) with
  | none =>
    rw [List.findIdx?_eq_none_iff] at h
    simp
    intro hx
    have := h x hx
    simp at this
  | some i =>
    rw [List.findIdx?_eq_some_iff_getElem] at h
    obtain ⟨hi, he, _⟩ := h
    simp at he
    subst he
    simp

theorem flat_ints (l : List Int) : l.flatMap (fun x => [Value.int .i64 x]) = intCells l := by
  unfold intCells
  induction l with
  | nil => rfl
  | cons x l ih => simp [ih]
theorem int_cells {R : Nat → Prop} {w : World} {ao : Option Addr} {n cap : Nat} {l : List Int} (h : SlOf R w (.slice ao n cap) 1 (intCells l) l.length) (h0 : 0 < l.length) :
    ∃ b off, ao = some ⟨b, off, none⟩ ∧ R b ∧ b < w.heap.size ∧ ∀ k (hk : k < l.length), w.cell? ⟨b, off + k, none⟩ = some (.int .i64 l[k]) := by
  have h' : SlOf R w (.slice ao n cap) 1 (l.flatMap (fun x => [Value.int .i64 x])) l.length := by
    rw [flat_ints]; exact h
  obtain ⟨b, off, ha, hR, hb, hc⟩ := h'.elem (fun _ => rfl) (by decide) h0
  refine ⟨b, off, ha, hR, hb, fun k hk => ?_⟩
  have := hc k hk 0 _ rfl
  simpa using this

set_option maxHeartbeats 400000 in
theorem indexInts_any (R : Nat → Prop) (l : List Int) (v : Value) (x : Int) (w : World) (h : SlOf R w v 1 (intCells l) l.length) :
    Calls Tryz.prog 114 #[v, .int .i64 x] w fun e w' => e = .returned (.int .i64 (idxOf l x)) ∧ w = w' := by
  obtain ⟨hl, ao, cap, rfl, h1, h2, h3, h4⟩ := h
  have hsl : SlOf R w (.slice ao l.length cap) 1 (intCells l) l.length := ⟨hl, _, _, rfl, h1, h2, h3, h4⟩
  have hn : l.length ≤ 9223372036854775807 := by unfold maxLen at h2; omega
  have H := Lib.hid hsl
  clear hl h1 h2 h3 h4 hsl
  go_enter Tryz.func114, Tryz.ntmps114
  go_wp2_with fail
  go_loop [8] (fun s => ∃ k : Nat, k ≤ l.length ∧ s = .int .i64 k ∧ Hid (∀ j (hj : j < l.length), j < k → l[j] ≠ x)) (fun s => l.length - (intOf s).toNat)
  case atStart => exact ⟨0, Nat.zero_le _, rfl, fun j hj h => by omega⟩
  case round =>
    obtain ⟨k, hk, rfl, hall⟩ := hrel
    by_cases hlt : k < l.length
    · obtain ⟨b, off, rfl, hRb, _, hc⟩ := int_cells H.out (by omega)
      have q := hc k hlt
      clear hc
      by_cases hx : x = l[k]
      · have hxb : (x == l[k]) = true := beq_iff_eq.2 hx
        have hI := idxOf_hit hlt hx.symm hall.out
        have HI := Lib.hid hI
        clear hx hI
        go_wp2_with fail
        go_ret
        exact ⟨ret_int HI.out.symm, rfl⟩
      · have hxb : (x == l[k]) = false := by simp [hx]
        go_wp2_with fail
        go_round
        case rel =>
          refine ⟨k + 1, by omega, by go_num, fun j hj h => ?_⟩
          by_cases hjk : j = k
          · subst hjk; exact fun h => hx h.symm
          · exact hall.out j hj (by omega)
        case measure => simp [intOf]; omega
    · have hI := idxOf_miss (l := l) (x := x) (fun j hj => hall.out j hj (by omega))
      have HI := Lib.hid hI
      clear hI
      go_wp2_with fail
      go_ret
      exact ⟨ret_int HI.out.symm, rfl⟩

set_option maxHeartbeats 400000 in
theorem containsInts_any (R : Nat → Prop) (l : List Int) (v : Value) (x : Int) (w : World) (h : SlOf R w v 1 (intCells l) l.length) :
    Calls Tryz.prog 100 #[v, .int .i64 x] w fun e w' => e = .returned (.bool (decide (x ∈ l))) ∧ w = w' := by
  obtain ⟨ao, cap, rfl⟩ := h.val
  have H := Lib.hid h
  clear h
  go_enter Tryz.func100, Tryz.ntmps100
  go_wp2_with fail
  refine (indexInts_any R l _ x _ H.out).mono ?_
  rintro e w' ⟨rfl, rfl⟩
  go_wp2_with fail
  go_ret
  exact ⟨ret_bool (decide_eq_decide.2 idxOf_nonneg), rfl⟩
end Go.Proofs.YtgdaljpimblkgaaGreatDoor

/- Contains, Index of texts. -/
namespace Go.Proofs.YtgdaljpimblkgaaGreatDoor
open Go.RowKit
set_option linter.unusedVariables false

/-- Does a text stand in a list? Its place; -1: none. (Texts are compared byte by byte.) -/
def hasStr (l : List ByteArray) (x : ByteArray) : Bool := l.any (fun y => y.toList == x.toList)
def sidxOf (l : List ByteArray) (x : ByteArray) : Int := match l.findIdx? (fun y => y.toList == x.toList) with | some i => (i : Int) | none => -1
theorem sidxOf_hit {l : List ByteArray} {x : ByteArray} {k : Nat} (hk : k < l.length) (hx : l[k].toList = x.toList) (hb : ∀ j (hj : j < l.length), j < k → l[j].toList ≠ x.toList) : sidxOf l x = k := by
  have : l.findIdx? (fun y => y.toList == x.toList) = some k := by
    rw [List.findIdx?_eq_some_iff_getElem]
    exact ⟨hk, by simp [hx], fun j hj => by have := hb j (by omega) hj; simpa using this⟩
  simp [sidxOf, this]
theorem sidxOf_miss {l : List ByteArray} {x : ByteArray} (h : ∀ j (hj : j < l.length), l[j].toList ≠ x.toList) : sidxOf l x = -1 := by
  have : l.findIdx? (fun y => y.toList == x.toList) = none := by
    rw [List.findIdx?_eq_none_iff]
    intro y hy
    obtain ⟨j, hj, rfl⟩ := List.mem_iff_getElem.1 hy
    simpa using h j hj
  simp [sidxOf, this]
theorem sidxOf_nonneg (l : List ByteArray) (x : ByteArray) : decide (0 ≤ sidxOf l x) = hasStr l x := by
  unfold sidxOf hasStr
  cases h : l.findIdx? (fun y => y.toList == x.toList) with
  | none =>
    rw [List.findIdx?_eq_none_iff] at h
    have : l.any (fun y => y.toList == x.toList) = false := by
      rw [List.any_eq_false]; intro y hy; simpa using h y hy
    rw [this]; decide
  | some i =>
    rw [List.findIdx?_eq_some_iff_getElem] at h
    obtain ⟨hi, he, _⟩ := h
    have : l.any (fun y => y.toList == x.toList) = true := List.any_eq_true.2 ⟨l[i], List.getElem_mem hi, he⟩
    rw [this]
    simp

theorem flat_strs (l : List ByteArray) : l.flatMap (fun x => [Value.string x]) = strCells1 l := by
  unfold strCells1
  induction l with
  | nil => rfl
  | cons x l ih => simp [ih]
theorem str_cells {R : Nat → Prop} {w : World} {ao : Option Addr} {n cap : Nat} {l : List ByteArray} (h : SlOf R w (.slice ao n cap) 1 (strCells1 l) l.length) (h0 : 0 < l.length) :
    ∃ b off, ao = some ⟨b, off, none⟩ ∧ R b ∧ b < w.heap.size ∧ ∀ k (hk : k < l.length), w.cell? ⟨b, off + k, none⟩ = some (.string l[k]) := by
  have h' : SlOf R w (.slice ao n cap) 1 (l.flatMap (fun x => [Value.string x])) l.length := by
    rw [flat_strs]; exact h
  obtain ⟨b, off, ha, hR, hb, hc⟩ := h'.elem (fun _ => rfl) (by decide) h0
  refine ⟨b, off, ha, hR, hb, fun k hk => ?_⟩
  have := hc k hk 0 _ rfl
  simpa using this

set_option maxHeartbeats 400000 in
theorem indexStrs_any (R : Nat → Prop) (l : List ByteArray) (v : Value) (x : ByteArray) (w : World) (h : SlOf R w v 1 (strCells1 l) l.length) :
    Calls Tryz.prog 53 #[v, .string x] w fun e w' => e = .returned (.int .i64 (sidxOf l x)) ∧ w = w' := by
  obtain ⟨hl, ao, cap, rfl, h1, h2, h3, h4⟩ := h
  have hsl : SlOf R w (.slice ao l.length cap) 1 (strCells1 l) l.length := ⟨hl, _, _, rfl, h1, h2, h3, h4⟩
  have hn : l.length ≤ 9223372036854775807 := by unfold maxLen at h2; omega
  have H := Lib.hid hsl
  clear hl h1 h2 h3 h4 hsl
  go_enter Tryz.func53, Tryz.ntmps53
  go_wp2_with fail
  go_loop [8] (fun s => ∃ k : Nat, k ≤ l.length ∧ s = .int .i64 k ∧ Hid (∀ j (hj : j < l.length), j < k → l[j].toList ≠ x.toList)) (fun s => l.length - (intOf s).toNat)
  case atStart => exact ⟨0, Nat.zero_le _, rfl, fun j hj h => by omega⟩
  case round =>
    obtain ⟨k, hk, rfl, hall⟩ := hrel
    by_cases hlt : k < l.length
    · obtain ⟨b, off, rfl, hRb, _, hc⟩ := str_cells H.out (by omega)
      have q := hc k hlt
      clear hc
      by_cases hx : x.toList = l[k].toList
      · have hxb : (x.toList == l[k].toList) = true := by simp [hx]
        have hI := sidxOf_hit hlt hx.symm hall.out
        have HI := Lib.hid hI
        clear hx hI
        go_wp2_with fail
        go_ret
        exact ⟨ret_int HI.out.symm, rfl⟩
      · have hxb : (x.toList == l[k].toList) = false := by simp [hx]
        go_wp2_with fail
        go_round
        case rel =>
          refine ⟨k + 1, by omega, by go_num, fun j hj h => ?_⟩
          by_cases hjk : j = k
          · subst hjk; exact fun h => hx h.symm
          · exact hall.out j hj (by omega)
        case measure => simp [intOf]; omega
    · have hI := sidxOf_miss (l := l) (x := x) (fun j hj => hall.out j hj (by omega))
      have HI := Lib.hid hI
      clear hI
      go_wp2_with fail
      go_ret
      exact ⟨ret_int HI.out.symm, rfl⟩

set_option maxHeartbeats 400000 in
theorem containsStrs_any (R : Nat → Prop) (l : List ByteArray) (v : Value) (x : ByteArray) (w : World) (h : SlOf R w v 1 (strCells1 l) l.length) :
    Calls Tryz.prog 71 #[v, .string x] w fun e w' => e = .returned (.bool (hasStr l x)) ∧ w = w' := by
  obtain ⟨ao, cap, rfl⟩ := h.val
  have H := Lib.hid h
  clear h
  go_enter Tryz.func71, Tryz.ntmps71
  go_wp2_with fail
  refine (indexStrs_any R l _ x _ H.out).mono ?_
  rintro e w' ⟨rfl, rfl⟩
  go_wp2_with fail
  go_ret
  exact ⟨ret_bool (sidxOf_nonneg l x), rfl⟩
end Go.Proofs.YtgdaljpimblkgaaGreatDoor

/- Is a text a name? The document's IsName. -/
namespace Go.Proofs.YtgdaljpimblkgaaGreatDoor
open Go.RowKit
set_option linter.unusedVariables false

def okN (i : Nat) (c : UInt8) : Bool := decide ((97 ≤ c.toNat ∧ c.toNat ≤ 122) ∨ (i ≠ 0 ∧ ((48 ≤ c.toNat ∧ c.toNat ≤ 57) ∨ c.toNat = 45)))
def isNameB (s : ByteArray) : Bool := decide (1 ≤ s.size ∧ s.size ≤ 12) && (List.range s.size).all (fun i => okN i (s.data.toList.getD i 0))
theorem isNameB_short {s : ByteArray} (h : ¬ (1 ≤ s.size ∧ s.size ≤ 12)) : isNameB s = false := by simp only [isNameB, decide_eq_false h, Bool.false_and]
theorem getD_at (s : ByteArray) (i : Nat) (hi : i < s.size) : s.data.toList.getD i 0 = s[i] := by
  rw [List.getD_eq_getElem?_getD, List.getElem?_eq_getElem (show i < s.data.toList.length from hi)]; rfl
theorem isNameB_bad {s : ByteArray} (i : Nat) (hi : i < s.size) (h : okN i s[i] = false) : isNameB s = false := by
  unfold isNameB
  rw [Bool.and_eq_false_iff]
  right
  rw [List.all_eq_false]
  exact ⟨i, List.mem_range.2 hi, by rw [getD_at s i hi, h]; simp⟩
theorem isNameB_good {s : ByteArray} (h1 : 1 ≤ s.size ∧ s.size ≤ 12) (h : ∀ i (hi : i < s.size), okN i s[i] = true) : isNameB s = true := by
  unfold isNameB
  rw [decide_eq_true h1, Bool.true_and, List.all_eq_true]
  intro i hi
  have hi := List.mem_range.1 hi
  rw [getD_at s i hi]
  exact h i hi

set_option maxHeartbeats 1000000 in
theorem isName_any (s : ByteArray) (w : World) : Calls Tryz.prog 33 #[.string s] w fun e w' => e = .returned (.bool (isNameB s)) ∧ w = w' := by
  by_cases h1 : s.size < 1
  · have HB := Lib.hid (isNameB_short (s := s) (by omega))
    go_enter Tryz.func33, Tryz.ntmps33
    go_wp2_with fail
    go_ret
    exact ⟨ret_bool HB.out.symm, rfl⟩
  by_cases h2 : 12 < s.size
  · have HB := Lib.hid (isNameB_short (s := s) (by omega))
    go_enter Tryz.func33, Tryz.ntmps33
    go_wp2_with fail
    go_ret
    exact ⟨ret_bool HB.out.symm, rfl⟩
  go_enter Tryz.func33, Tryz.ntmps33
  go_wp2_with fail
  go_loop [3] (fun t => ∃ i : Nat, i ≤ s.size ∧ t = .int .i64 i ∧ Hid (∀ j (hj : j < s.size), j < i → okN j s[j] = true)) (fun t => s.size - (intOf t).toNat)
  case atStart => exact ⟨0, Nat.zero_le _, rfl, fun j _ h => by omega⟩
  case round =>
    obtain ⟨i, hi, rfl, hall⟩ := hrel
    by_cases hlt : i < s.size
    · by_cases h3 : 97 ≤ (s[i].toNat : Int)
      · by_cases h4 : (s[i].toNat : Int) ≤ 122
        ·
          have hgood := Lib.hid (show okN i s[i] = true from by unfold okN; exact decide_eq_true (by omega))
          go_wp2_with fail
          go_round
          case rel => exact ⟨i + 1, by omega, by go_num, (show ∀ j (hj : j < s.size), j < i + 1 → okN j s[j] = true from fun j hj hji => by
            by_cases e : j = i
            · subst e; exact hgood.out
            · exact hall.out j hj (by omega))⟩
          case measure => simp [intOf]; omega
        · have h5 : 48 ≤ (s[i].toNat : Int) := by omega
          have h6 : ¬ (s[i].toNat : Int) ≤ 57 := by omega
          have h7 : ((s[i].toNat : Int) == 45) = false := by simp; omega
          have hbad := Lib.hid (isNameB_bad i hlt (by unfold okN; exact decide_eq_false (by omega)))
          go_wp2_with fail
          all_goals
            go_ret
            exact ⟨ret_bool hbad.out.symm, rfl⟩
      · by_cases h5 : 48 ≤ (s[i].toNat : Int)
        · by_cases h6 : (s[i].toNat : Int) ≤ 57
          · by_cases hi0 : i = 0
            · have hib : ((i : Int) == 0) = true := by simp [hi0]
              have HI0 := Lib.hid hi0
              clear hi0
              have hbad := Lib.hid (isNameB_bad i hlt (by have := HI0.out; unfold okN; exact decide_eq_false (by omega)))
              go_wp2_with fail
              go_ret
              exact ⟨ret_bool hbad.out.symm, rfl⟩
            · have hib : ((i : Int) == 0) = false := by simp [hi0]
              have hgood := Lib.hid (show okN i s[i] = true from by unfold okN; exact decide_eq_true (by omega))
              go_wp2_with fail
              go_round
              case rel => exact ⟨i + 1, by omega, by go_num, (show ∀ j (hj : j < s.size), j < i + 1 → okN j s[j] = true from fun j hj hji => by
                by_cases e : j = i
                · subst e; exact hgood.out
                · exact hall.out j hj (by omega))⟩
              case measure => simp [intOf]; omega
          · have h7 : ((s[i].toNat : Int) == 45) = false := by simp; omega
            have hbad := Lib.hid (isNameB_bad i hlt (by unfold okN; exact decide_eq_false (by omega)))
            go_wp2_with fail
            all_goals
              go_ret
              exact ⟨ret_bool hbad.out.symm, rfl⟩
        · by_cases h7 : (s[i].toNat : Int) = 45
          · have h7b : ((s[i].toNat : Int) == 45) = true := by simp [h7]
            have H7 := Lib.hid h7
            clear h7
            by_cases hi0 : i = 0
            · have hib : ((i : Int) == 0) = true := by simp [hi0]
              have HI0 := Lib.hid hi0
              clear hi0
              have hbad := Lib.hid (isNameB_bad i hlt (by have := HI0.out; have := H7.out; unfold okN; exact decide_eq_false (by omega)))
              go_wp2_with fail
              go_ret
              exact ⟨ret_bool hbad.out.symm, rfl⟩
            · have hib : ((i : Int) == 0) = false := by simp [hi0]
              have hgood := Lib.hid (show okN i s[i] = true from by have := H7.out; unfold okN; exact decide_eq_true (by omega))
              go_wp2_with fail
              go_round
              case rel => exact ⟨i + 1, by omega, by go_num, (show ∀ j (hj : j < s.size), j < i + 1 → okN j s[j] = true from fun j hj hji => by
                by_cases e : j = i
                · subst e; exact hgood.out
                · exact hall.out j hj (by omega))⟩
              case measure => simp [intOf]; omega
          · have h7b : ((s[i].toNat : Int) == 45) = false := by simp [h7]
            have hbad := Lib.hid (isNameB_bad i hlt (by unfold okN; exact decide_eq_false (by omega)))
            go_wp2_with fail
            all_goals
              go_ret
              exact ⟨ret_bool hbad.out.symm, rfl⟩
    · have HB := Lib.hid (isNameB_good (s := s) (by omega) (fun j hj => hall.out j hj (by omega)))
      go_wp2_with fail
      go_ret
      exact ⟨ret_bool HB.out.symm, rfl⟩
end Go.Proofs.YtgdaljpimblkgaaGreatDoor
