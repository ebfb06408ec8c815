/- A map keyed by pairs of ints, its elements true: what a look-up finds, what a store leaves. -/
import Derived.Test.YtkhcepdeppmofaaDoorBase
import Derived.Maps.OwnOps
import Derived.Maps.OwnSet
namespace Go.Proofs.YtkhcepdeppmofaaDoor
open Go.RowKit
set_option linter.unusedVariables false

def pairV (p : Int × Int) : Value := .agg #[.int .i64 p.1, .int .i64 p.2]
theorem pairV_inj {p q : Int × Int} (h : pairV p = pairV q) : p = q := by
  unfold pairV at h
  simp at h
  exact Prod.ext h.1 h.2

theorem sameBits_pair (p : Int × Int) : Instr.sameBits 10000 (pairV p) (pairV p) = true := by
  have : ∀ n, Instr.sameBits (n + 2) (pairV p) (pairV p) = true := by intro n; simp [pairV, Instr.sameBits]
  exact this 9998

section
variable {P : Program}
theorem run_part_int (w : World) {e : TypeId} {k : IntKind} (he : P.underlying e = some (.int k)) (cs : Array Value) (i : Nat) (v : Value) (hv : cs[i]? = some v) : (part e cs i).run P w = .ok v w := by
  unfold part
  simp [isAgg, run_underlying he, hv]

/-- What is asked of the program's tables: an array of two ints as a key, bools as elements. -/
structure PairMap (P : Program) (m t e b : TypeId) : Prop where
  um : P.underlying m = some (.map t b)
  ut : P.underlying t = some (.array 2 e)
  ue : P.underlying e = some (.int .i64)
  us : ∃ i, P.info? e = some i ∧ i.size = 1
  uz : ∀ w : World, (zeroValue b).run P w = .ok (.bool false) w

variable {m t e b : TypeId} (M : PairMap P m t e b)
include M
theorem PairMap.equal (w : World) (p q : Int × Int) : (Op.equal t (pairV p) (pairV q)).run P w = .ok (decide (p = q)) w := by
  obtain ⟨i, hi, hs⟩ := M.us
  have key : ∀ d, (Op.equalIn (d + 2) t (pairV p) (pairV q)).run P w = .ok (decide (p = q)) w := by
    intro d
    unfold pairV
    rw [Op.equalIn]
    have p0 := fun (a b : Int) (w : World) => run_part_int (P := P) w M.ue #[.int .i64 a, .int .i64 b] 0 _ rfl
    have p1 := fun (a b : Int) (w : World) => run_part_int (P := P) w M.ue #[.int .i64 a, .int .i64 b] 1 _ rfl
    have e1 := fun (a b : Int) (w : World) => run_equalIn_int (P := P) w d e .i64 .i64 a b M.ue
    simp [run_underlying M.ut, sizeOf, typeInfo, hi, hs, Std.Legacy.Range.forIn_eq_forIn_range', Std.Legacy.Range.size, List.range', p0, p1, e1]
    by_cases h1 : p.1 = q.1
    · by_cases h2 : p.2 = q.2
      · rw [if_pos h1, if_pos h2, decide_eq_true (Prod.ext h1 h2)]
      · rw [if_pos h1, if_neg h2, decide_eq_false (fun h => h2 (by rw [h]))]
    · rw [if_neg h1, decide_eq_false (fun h => h1 (by rw [h]))]
  exact key 9998

theorem PairMap.check (w : World) (em : Bool) (p : Int × Int) : (Instr.checkKey em 10000 t (pairV p)).run P w = .ok () w := by
  obtain ⟨i, hi, hs⟩ := M.us
  have key : ∀ d, (Instr.checkKey em (d + 2) t (pairV p)).run P w = .ok () w := by
    intro d
    unfold pairV
    rw [Instr.checkKey]
    have p0 := fun (a b : Int) (w : World) => run_part_int (P := P) w M.ue #[.int .i64 a, .int .i64 b] 0 _ rfl
    have p1 := fun (a b : Int) (w : World) => run_part_int (P := P) w M.ue #[.int .i64 a, .int .i64 b] 1 _ rfl
    have e1 : ∀ (a : Int) (w : World), (Instr.checkKey em (d + 1) e (.int .i64 a)).run P w = .ok () w := by
      intro a w
      rw [Instr.checkKey]
      simp [run_underlying M.ue]
    simp [run_underlying M.ut, sizeOf, typeInfo, hi, hs, Std.Legacy.Range.forIn_eq_forIn_range', Std.Legacy.Range.size, List.range', p0, p1, e1]
  exact key 9998

/-- The entries of the keys K. -/
def PairEs (es : List MapEntry) (K : List (Int × Int)) : Prop := es.map (fun x => (x.key, x.val)) = K.map (fun p => (pairV p, Value.bool true))

theorem PairMap.find (w : World) (p : Int × Int) : ∀ (es : List MapEntry) (K : List (Int × Int)) (i : Nat), PairEs es K →
    ∃ r, (Instr.findAsking t (pairV p) es i).run P w = .ok r w ∧ ((r = none ∧ p ∉ K) ∨ ∃ j, r = some (i + j, .bool true) ∧ K[j]? = some p)
  | [], K, i, h => by
    have hK : K = [] := by simpa [PairEs] using h
    subst hK
    exact ⟨none, by simp [Instr.findAsking], .inl ⟨rfl, by simp⟩⟩
  | x :: es, [], i, h => by simp [PairEs] at h
  | x :: es, q :: K, i, h => by
    simp only [PairEs, List.map_cons, List.cons.injEq, Prod.mk.injEq] at h
    obtain ⟨⟨hk, hv⟩, hr⟩ := h
    have he := M.equal w p q
    by_cases hpq : p = q
    · refine ⟨some (i, .bool true), ?_, .inr ⟨0, by simp, by simp [hpq]⟩⟩
      rw [Instr.findAsking]
      simp [hk, hpq, hv, M.equal]
    · obtain ⟨r, h1, h2⟩ := PairMap.find w p es K (i + 1) hr
      refine ⟨r, ?_, ?_⟩
      · rw [Instr.findAsking]
        simp [hk, he, hpq, h1]
      · rcases h2 with ⟨rfl, hn⟩ | ⟨j, rfl, hj⟩
        · exact .inl ⟨rfl, by simp [hpq, hn]⟩
        · exact .inr ⟨j + 1, by rw [show i + 1 + j = i + (j + 1) from by omega], by simpa using hj⟩

theorem PairMap.findKey (w : World) (p : Int × Int) (es : List MapEntry) (K : List (Int × Int)) (h : PairEs es K) :
    ∃ r, (Instr.findKey t (pairV p) es).run P w = .ok r w ∧ ((r = none ∧ p ∉ K) ∨ ∃ j, r = some (j, .bool true) ∧ K[j]? = some p) := by
  have hw : (match P.underlying t with | some (.array _ _) | some (.struct _) => true | _ => false) = true := by rw [M.ut]
  rw [run_findKey_eq w hw]
  obtain ⟨r, h1, h2⟩ := M.find w p es K 0 h
  refine ⟨r, h1, ?_⟩
  rcases h2 with h2 | ⟨j, hj, hk⟩
  · exact .inl h2
  · exact .inr ⟨j, by rw [hj, Nat.zero_add], hk⟩

/-- Block r is a map of the keys K, each with true. -/
def PairsAt (w : World) (r : Nat) (K : List (Int × Int)) : Prop := ∃ es clock, w.heap[r]? = some (.map es clock) ∧ PairEs es.toList K

theorem PairMap.lookup (w : World) (r : Nat) (K : List (Int × Int)) (p : Int × Int) (h : PairsAt w r K) : (Instr.lookup m (.map (some r)) (pairV p) false).run P w = .ok (.bool (decide (p ∈ K))) w := by
  obtain ⟨es, clock, hb, he⟩ := h
  obtain ⟨x, h1, h2⟩ := M.findKey w p es.toList K he
  have hg := MapKept.run_getObj_map (P := P) hb
  have hc := M.check w es.isEmpty p
  unfold Instr.lookup
  rcases h2 with ⟨rfl, hn⟩ | ⟨j, rfl, hj⟩
  · simp [run_underlying M.um, hg, hc, h1, M.uz, hn]
  · have : p ∈ K := List.mem_of_getElem? hj
    simp [run_underlying M.um, hg, hc, h1, this]

theorem PairMap.update (w : World) (r : Nat) (K : List (Int × Int)) (p : Int × Int) (h : PairsAt w r K) :
    ∃ w', (Instr.mapUpdate m (.map (some r)) (pairV p) (.bool true)).run P w = .ok () w' ∧ (∃ K', PairsAt w' r K' ∧ ∀ q, q ∈ K' ↔ q = p ∨ q ∈ K) ∧ Keep (· = r) w w' := by
  obtain ⟨es, clock, hb, he⟩ := h
  obtain ⟨x, h1, h2⟩ := M.findKey w p es.toList K he
  have hg := MapKept.run_getObj_map (P := P) hb
  have hc := M.check w false p
  have hs := fun o => MapKept.run_setObj_map (P := P) o hb
  have kp : ∀ o : Obj, Keep (· = r) w { w with heap := w.heap.setIfInBounds r o } := fun o => ⟨rfl, rfl, rfl, by simp, fun k hk hne => by
    simp only [Array.getElem?_setIfInBounds]; rw [if_neg (fun h => hne h.symm)]⟩
  have hr := lt_of_get hb
  have nw : ∀ o : Obj, ({ w with heap := w.heap.setIfInBounds r o } : World).heap[r]? = some o := fun o => by
    simp only [Array.getElem?_setIfInBounds]; simp [hr]
  have hlen : es.toList.length = K.length := by have := congrArg List.length he; simpa using this
  unfold Instr.mapUpdate
  rcases h2 with ⟨rfl, hn⟩ | ⟨j, rfl, hj⟩
  · refine ⟨_, by simp [run_underlying M.um, hg, hc, h1, hs]; rfl, ⟨K ++ [p], ⟨_, _, nw _, ?_⟩, fun q => by simp; exact or_comm⟩, kp _⟩
    unfold PairEs at he ⊢
    simp [he]
  · have hjl : j < es.toList.length := by rw [hlen]; exact (List.getElem?_eq_some_iff.1 hj).1
    have hkey : ((es[j]?).map (·.key)).getD (pairV p) = pairV p := by
      have h3 := congrArg (fun l => l[j]?) he
      simp only [List.getElem?_map, hj] at h3
      rw [List.getElem?_eq_getElem hjl] at h3
      simp at h3
      have : es[j]? = some es[j] := Array.getElem?_eq_getElem (by simpa using hjl)
      rw [this]
      simp [h3.1]
    have kst : (Instr.keyThatStays (pairV p) (pairV p)).run P w = .ok (pairV p) w := by
      unfold Instr.keyThatStays
      rw [if_pos (sameBits_pair p)]
      simp
    have hpK : p ∈ K := List.mem_of_getElem? hj
    refine ⟨_, by simp only [run_underlying M.um, hg, hc, h1, hs, hkey, kst, Sem.run_bind, Result.andThen_ok]; rfl, ⟨K, ⟨_, _, nw _, ?_⟩, fun q => ⟨fun h => .inr h, fun h => h.elim (fun e => e ▸ hpK) id⟩⟩, kp _⟩
    unfold PairEs at he ⊢
    rw [← he]
    apply List.ext_getElem?
    intro i
    simp only [List.getElem?_map, Array.toList_modify, List.getElem?_modify]
    by_cases hij : j = i
    · subst hij
      have h3 := congrArg (fun l => l[j]?) he
      simp only [List.getElem?_map, hj] at h3
      rw [List.getElem?_eq_getElem hjl] at h3 ⊢
      simp at h3 ⊢
      exact ⟨h3.1.symm, h3.2.symm⟩
    · simp only [if_neg hij]
      cases es.toList[i]? <;> rfl
omit M
theorem PairsAt.keep {S : Nat → Prop} {w w' : World} {r : Nat} {K : List (Int × Int)} (h : PairsAt w r K) (hk : Keep S w w') (hS : ¬ S r) : PairsAt w' r K := by
  obtain ⟨es, clock, hb, he⟩ := h
  exact ⟨es, clock, hk.get hb hS, he⟩
end
end Go.Proofs.YtkhcepdeppmofaaDoor
