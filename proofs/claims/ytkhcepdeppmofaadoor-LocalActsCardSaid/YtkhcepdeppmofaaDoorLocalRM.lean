/- The document's Local as plain data, and beside package local's. -/
import Derived.Test.YtkhcepdeppmofaaDoorLocalPlain
import Derived.Test.YtkhcepdeppmofaaDoorGapBad
import Derived.Test.YtkhcepdeppmofaaDoorFlowBad
namespace Go.Proofs.YtkhcepdeppmofaaDoor
open Go.RowKit
set_option linter.unusedVariables false

structure RLocM where
  act : Bool
  since : Nat
  L : List MarkV
  run : Int
  exp : Bool
def inCnt (E : EntV) (c : Int) (m : MarkV) : Bool := decide (m.cycle = c) && decide (m.point = E.count)
def cntIn (E : EntV) (l : List MarkV) (c : Int) : Nat := l.countP (inCnt E c)
def gapsBadF (E : EntV) (l : List MarkV) (c : Int) : Bool := E.gaps.any (fun g => gapBadF g l c l.length)
def kindF (E : EntV) (l : List MarkV) (c : Int) : Int :=
  if 0 ≤ E.count ∧ 0 < c ∧ ((cntIn E l c : Int) < E.mn ∨ E.mx < (cntIn E l c : Int)) then 1 else if gapsBadF E l c = true then 2 else if flowBadF E l c l.length = true then 3 else 0
def rlNote (m : RLocM) (p t : Int) : RLocM := ⟨m.act, m.since, m.L ++ [⟨p, t, m.since⟩], m.run, m.exp⟩
def rlRun (E : EntV) (m : RLocM) : Int := if kindF E m.L m.since = 0 then 0 else m.run + 1
def rlNow (E : EntV) (m : RLocM) : Bool := decide (E.tol < rlRun E m) && !m.exp
def rlEnd (E : EntV) (m : RLocM) : RLocM := ⟨m.act, m.since + 1, m.L, rlRun E m, m.exp || decide (E.tol < rlRun E m)⟩
def rl0 : RLocM := ⟨true, 0, [], 0, false⟩

theorem cntIn_snoc (E : EntV) (l : List MarkV) (x : MarkV) (c : Int) : cntIn E (l ++ [x]) c = cntIn E l c + (if inCnt E c x = true then 1 else 0) := by
  unfold cntIn
  rw [List.countP_append]
  cases h : inCnt E c x <;> simp [h]
theorem cntIn_le (E : EntV) (l : List MarkV) (c : Int) : cntIn E l c ≤ l.length := List.countP_le_length
theorem cntIn_fresh (E : EntV) (l : List MarkV) (c : Int) (h : ∀ m ∈ l, m.cycle ≠ c) : cntIn E l c = 0 := by
  unfold cntIn
  rw [List.countP_eq_zero]
  intro x hx
  simp [inCnt, h x hx]
theorem cntIn_take (E : EntV) (l : List MarkV) (c : Int) (i : Nat) (hi : i < l.length) : cntIn E (l.take (i + 1)) c = cntIn E (l.take i) c + (if inCnt E c l[i] = true then 1 else 0) := by
  rw [List.take_succ_eq_append_getElem hi, cntIn_snoc]

/-- Both have been told the same. -/
structure LRel (E : EntV) (x : LocM) (m : RLocM) : Prop where
  wh : x.whole = decide (0 < m.since)
  ex : x.exp = m.exp
  run : x.run = m.run
  cnt : 0 ≤ E.count → x.cnt = (cntIn E m.L m.since : Int)
  gs : x.gs = E.gaps.map (gsOf · m.L)
  gb : x.gbad = gapsBadF E m.L m.since
  pos : x.pos = flowAhead E m.L
  fb : x.fbad = flowBadF E m.L m.since m.L.length
  cyc : ∀ k ∈ m.L, k.cycle ≤ (m.since : Int)
theorem lrel_begin (E : EntV) : LRel E (locBegin E) rl0 :=
  ⟨rfl, rfl, rfl, fun _ => rfl, rfl, by
    show false = E.gaps.any _
    induction E.gaps with
    | nil => rfl
    | cons g l ih => rw [List.any_cons, ← ih]; rfl, rfl, rfl, fun k hk => by cases hk⟩
theorem lrel_report {E : EntV} {x : LocM} {m : RLocM} (h : LRel E x m) (hc : E.count < E.points.length) (hl : m.L.length < 1000) (p t : Int) : LRel E (locReport E x p t) (rlNote m p t) := by
  refine ⟨h.wh, h.ex, h.run, fun h0 => ?_, ?_, ?_, ?_, ?_, ?_⟩
  · show aliveStep (locPt E) x.cnt p = (cntIn E (m.L ++ [(⟨p, t, m.since⟩ : MarkV)]) m.since : Int)
    have hp : locPt E = E.count := by
      show (if E.count < 0 ∨ (E.points.length : Int) ≤ E.count then (-1 : Int) else E.count) = E.count
      rw [if_neg (by omega)]
    have hle := cntIn_le E m.L m.since
    rw [hp, h.cnt h0, cntIn_snoc]
    unfold aliveStep inCnt
    by_cases e : p = E.count
    · rw [if_pos ⟨h0, e⟩]
      simp [e]
      omega
    · rw [if_neg (fun x => e x.2)]
      simp [e]
  · show x.gs.map (gsStep · p t) = E.gaps.map (gsOf · (m.L ++ [(⟨p, t, m.since⟩ : MarkV)]))
    rw [h.gs, List.map_map]
    exact List.map_congr_left fun g _ => (gsOf_snoc g m.L (⟨p, t, m.since⟩ : MarkV)).symm
  · show (x.gbad || x.gs.any (gsBad · p t)) = gapsBadF E (m.L ++ [(⟨p, t, m.since⟩ : MarkV)]) m.since
    rw [h.gs, h.gb]
    unfold gapsBadF
    rw [List.any_map, any_or]
    congr 1
    funext g
    rw [gapBadF_snoc, ← gsOf_bad g m.L (⟨p, t, m.since⟩ : MarkV) m.since rfl]
    rfl
  · show flowThen E p = flowAhead E (m.L ++ [(⟨p, t, m.since⟩ : MarkV)])
    rw [flowAhead_snoc]
  · show (x.fbad || !flowMay E x.pos p) = flowBadF E (m.L ++ [(⟨p, t, m.since⟩ : MarkV)]) m.since (m.L ++ [(⟨p, t, m.since⟩ : MarkV)]).length
    rw [flowBadF_snoc, h.fb, h.pos]
    simp [flowMark]
  · intro k hk
    rcases List.mem_append.1 hk with hk | hk
    · exact h.cyc k hk
    · rw [List.mem_singleton.1 hk]
      exact Int.le_refl _
theorem lrel_kind {E : EntV} {x : LocM} {m : RLocM} (h : LRel E x m) (hc : E.count < E.points.length) : locKind E x = kindF E m.L m.since := by
  unfold locKind kindF
  rw [h.gb, h.fb, h.wh]
  have key : (aliveOk (locPt E) E.mn E.mx x.cnt (decide (0 < m.since)) = false) ↔ (0 ≤ E.count ∧ 0 < (m.since : Int) ∧ ((cntIn E m.L m.since : Int) < E.mn ∨ E.mx < (cntIn E m.L m.since : Int))) := by
    by_cases h0 : 0 ≤ E.count
    · have hp : locPt E = E.count := by
        show (if E.count < 0 ∨ (E.points.length : Int) ≤ E.count then (-1 : Int) else E.count) = E.count
        rw [if_neg (by omega)]
      rw [hp, h.cnt h0]
      unfold aliveOk
      rw [decide_eq_false (show ¬ E.count < 0 by omega)]
      by_cases hs : 0 < m.since
      · rw [decide_eq_true hs]
        simp only [Bool.false_or, Bool.not_true, Bool.and_eq_false_iff, decide_eq_false_iff_not]
        omega
      · rw [decide_eq_false hs]
        simp
        omega
    · have hp : locPt E = -1 := by
        show (if E.count < 0 ∨ (E.points.length : Int) ≤ E.count then (-1 : Int) else E.count) = -1
        rw [if_pos (by omega)]
      rw [hp]
      unfold aliveOk
      simp
      omega
  by_cases hk : 0 ≤ E.count ∧ 0 < (m.since : Int) ∧ ((cntIn E m.L m.since : Int) < E.mn ∨ E.mx < (cntIn E m.L m.since : Int))
  · rw [if_pos hk, if_pos (key.2 hk)]
  · rw [if_neg hk, if_neg (fun e => hk (key.1 e))]
theorem lrel_run {E : EntV} {x : LocM} {m : RLocM} (h : LRel E x m) (hc : E.count < E.points.length) : locRun E x = rlRun E m := by
  unfold locRun rlRun
  rw [lrel_kind h hc, h.run]
theorem lrel_now {E : EntV} {x : LocM} {m : RLocM} (h : LRel E x m) (hc : E.count < E.points.length) : locNow E x = rlNow E m := by
  unfold locNow rlNow
  rw [lrel_run h hc, h.ex]
theorem lrel_end {E : EntV} {x : LocM} {m : RLocM} (h : LRel E x m) (hc : E.count < E.points.length) : LRel E (locEnd E x) (rlEnd E m) := by
  have hf : ∀ k ∈ m.L, k.cycle ≠ ((m.since + 1 : Nat) : Int) := fun k hk => by have := h.cyc k hk; omega
  refine ⟨?_, ?_, lrel_run h hc, fun _ => ?_, h.gs, ?_, h.pos, ?_, fun k hk => ?_⟩
  · show true = decide (0 < m.since + 1)
    rw [decide_eq_true (by omega)]
  · show (x.exp || decide (E.tol < locRun E x)) = (m.exp || decide (E.tol < rlRun E m))
    rw [lrel_run h hc, h.ex]
  · show (0 : Int) = (cntIn E m.L ((m.since + 1 : Nat) : Int) : Int)
    rw [cntIn_fresh E m.L _ hf]; rfl
  · show false = gapsBadF E m.L ((m.since + 1 : Nat) : Int)
    unfold gapsBadF
    symm
    rw [List.any_eq_false]
    intro g _
    rw [gapBadF_fresh g m.L _ hf]
    decide
  · show false = flowBadF E m.L ((m.since + 1 : Nat) : Int) m.L.length
    rw [flowBadF_fresh E m.L _ hf]
  · have := h.cyc k hk
    show k.cycle ≤ ((m.since + 1 : Nat) : Int)
    omega
def rlStatus (m : RLocM) : ByteArray := if m.act = false then ⟨#[105, 100, 108, 101]⟩ else if m.exp = true then ⟨#[101, 120, 112, 105, 114, 101, 100]⟩ else if 0 < m.run then ⟨#[102, 97, 105, 108, 101, 100]⟩ else ⟨#[111, 107]⟩
end Go.Proofs.YtkhcepdeppmofaaDoor
