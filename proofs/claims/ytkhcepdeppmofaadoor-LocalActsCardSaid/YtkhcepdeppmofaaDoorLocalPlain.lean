/- Package local: the plain laws of LocalKinds, LocalStays, LocalTolerance. -/
import Derived.Test.YtkhcepdeppmofaaDoorLocalM
namespace Go.Proofs.YtkhcepdeppmofaaDoor
set_option linter.unusedVariables false

/-! ### LocalKinds -/
def entA (E : EntV) : EntV := { E with gaps := [], edges := [], first := [], last := [] }
def entG (E : EntV) : EntV := { E with count := -1, mn := 0, mx := 0, edges := [], first := [], last := [] }
def entF (E : EntV) : EntV := { E with count := -1, mn := 0, mx := 0, gaps := [] }
structure Four (E : EntV) (m a g f : LocM) : Prop where
  cnt : a.cnt = m.cnt
  wh : a.whole = m.whole
  gs : g.gs = m.gs
  gb : g.gbad = m.gbad
  pos : f.pos = m.pos
  fb : f.fbad = m.fbad
  ags : a.gs = []
  agb : a.gbad = false
  afb : a.fbad = false
  gfb : g.fbad = false
  fgs : f.gs = []
  fgb : f.gbad = false
theorem four_begin (E : EntV) : Four E (locBegin E) (locBegin (entA E)) (locBegin (entG E)) (locBegin (entF E)) := ⟨rfl, rfl, rfl, rfl, rfl, rfl, rfl, rfl, rfl, rfl, rfl, rfl⟩
theorem may_none (E : EntV) (h : E.edges = []) (a p : Int) : flowMay E a p = true := by simp [flowMay, h]
theorem four_report {E : EntV} {m a g f : LocM} (h : Four E m a g f) (p t : Int) : Four E (locReport E m p t) (locReport (entA E) a p t) (locReport (entG E) g p t) (locReport (entF E) f p t) := by
  refine ⟨?_, h.wh, ?_, ?_, ?_, ?_, ?_, ?_, ?_, ?_, ?_, ?_⟩
  · show aliveStep (locPt (entA E)) a.cnt p = aliveStep (locPt E) m.cnt p
    rw [h.cnt]; rfl
  · show g.gs.map _ = m.gs.map _
    rw [h.gs]
  · show (g.gbad || g.gs.any _) = (m.gbad || m.gs.any _)
    rw [h.gs, h.gb]
  · show flowThen (entF E) p = flowThen E p
    rfl
  · show (f.fbad || !flowMay (entF E) f.pos p) = (m.fbad || !flowMay E m.pos p)
    rw [h.fb, h.pos]; rfl
  · show a.gs.map _ = []
    rw [h.ags]; rfl
  · show (a.gbad || a.gs.any _) = false
    rw [h.agb, h.ags]; rfl
  · show (a.fbad || !flowMay (entA E) a.pos p) = false
    rw [h.afb, may_none _ rfl]; rfl
  · show (g.fbad || !flowMay (entG E) g.pos p) = false
    rw [h.gfb, may_none _ rfl]; rfl
  · show f.gs.map _ = []
    rw [h.fgs]; rfl
  · show (f.gbad || f.gs.any _) = false
    rw [h.fgb, h.fgs]; rfl
theorem four_end {E : EntV} {m a g f : LocM} (h : Four E m a g f) : Four E (locEnd E m) (locEnd (entA E) a) (locEnd (entG E) g) (locEnd (entF E) f) :=
  ⟨rfl, rfl, h.gs, rfl, h.pos, rfl, h.ags, rfl, rfl, rfl, h.fgs, rfl⟩
theorem pt_g (E : EntV) : locPt (entG E) = -1 := by simp [locPt, alivePt, entG]
theorem pt_f (E : EntV) : locPt (entF E) = -1 := by simp [locPt, alivePt, entF]
/-- The wanted kind out of three. -/
def wantOf (a g f : Int) : Int := if a = 0 then (if g = 0 then f else g) else a
theorem four_kind {E : EntV} {m a g f : LocM} (h : Four E m a g f) : locKind E m = wantOf (locKind (entA E) a) (locKind (entG E) g) (locKind (entF E) f) := by
  have ea : locKind (entA E) a = if aliveOk (locPt E) E.mn E.mx m.cnt m.whole = false then 1 else 0 := by
    unfold locKind
    rw [h.cnt, h.wh, h.agb, h.afb]; rfl
  have eg : locKind (entG E) g = if m.gbad = true then 2 else 0 := by
    unfold locKind
    rw [pt_g, h.gb, h.gfb]
    simp [aliveOk]
  have ef : locKind (entF E) f = if m.fbad = true then 3 else 0 := by
    unfold locKind
    rw [pt_f, h.fgb, h.fb]
    simp [aliveOk]
  rw [ea, eg, ef]
  unfold locKind wantOf
  cases aliveOk (locPt E) E.mn E.mx m.cnt m.whole <;> cases m.gbad <;> cases m.fbad <;> rfl
theorem locKind_bd (E : EntV) (m : LocM) : 0 ≤ locKind E m ∧ locKind E m ≤ 3 := by unfold locKind; split; omega; split; omega; split <;> omega

/-! ### LocalStays, LocalTolerance -/
theorem exp_report {E : EntV} {m : LocM} (h : m.exp = true) (p t : Int) : (locReport E m p t).exp = true := h
theorem exp_end {E : EntV} {m : LocM} (h : m.exp = true) : (locEnd E m).exp = true ∧ locNow E m = false := by simp [locEnd, locNow, h]

/-- An entity of which one report is asked in a cycle. -/
def oneE (tol : Int) (pts : List ByteArray) : EntV := ⟨⟨#[]⟩, tol, pts, 0, 1, 1, [], [], [], []⟩
theorem one_pt (tol : Int) {pts : List ByteArray} (h : 0 < pts.length) : locPt (oneE tol pts) = 0 := by
  show (if (0 : Int) < 0 ∨ (pts.length : Int) ≤ 0 then (-1 : Int) else 0) = 0
  exact if_neg (by omega)
/-- So many cycles without a report. -/
structure OneM (m : LocM) (wh ex : Bool) (run cnt : Int) : Prop where
  wh : m.whole = wh
  ex : m.exp = ex
  run : m.run = run
  cnt : m.cnt = cnt
  gb : m.gbad = false
  fb : m.fbad = false
  gs : m.gs = []
theorem one_begin (tol : Int) (pts : List ByteArray) : OneM (locBegin (oneE tol pts)) false false 0 0 := ⟨rfl, rfl, rfl, rfl, rfl, rfl, rfl⟩
theorem one_kind {tol : Int} {pts : List ByteArray} (hp : 0 < pts.length) {m : LocM} {wh ex : Bool} {run cnt : Int} (h : OneM m wh ex run cnt) : locKind (oneE tol pts) m = if wh = true ∧ cnt ≠ 1 then 1 else 0 := by
  unfold locKind
  rw [one_pt tol hp, h.wh, h.cnt, h.gb, h.fb]
  show (if aliveOk 0 1 1 cnt wh = false then (1 : Int) else _) = _
  unfold aliveOk
  cases wh
  · simp
  · by_cases h1 : cnt = 1
    · subst h1; simp
    · have : ¬ (1 ≤ cnt ∧ cnt ≤ 1) := by omega
      simp [h1, this]
theorem one_end {tol : Int} {pts : List ByteArray} (hp : 0 < pts.length) {m : LocM} {wh ex : Bool} {run cnt : Int} (h : OneM m wh ex run cnt) {r : Int} (hr : r = if wh = true ∧ cnt ≠ 1 then run + 1 else 0) :
    OneM (locEnd (oneE tol pts) m) true (ex || decide (tol < r)) r 0 ∧ locNow (oneE tol pts) m = (decide (tol < r) && !ex) := by
  have e : locRun (oneE tol pts) m = r := by
    unfold locRun
    rw [one_kind hp h, h.run, hr]
    by_cases h1 : wh = true ∧ cnt ≠ 1 <;> simp [h1]
  refine ⟨⟨rfl, ?_, e, rfl, rfl, rfl, h.gs⟩, ?_⟩
  · show (m.exp || decide (tol < locRun (oneE tol pts) m)) = _
    rw [e, h.ex]
  · show (decide (tol < locRun (oneE tol pts) m) && !m.exp) = _
    rw [e, h.ex]
theorem one_report {tol : Int} {pts : List ByteArray} (hp : 0 < pts.length) {m : LocM} {wh ex : Bool} {run : Int} (h : OneM m wh ex run 0) (t : Int) : OneM (locReport (oneE tol pts) m 0 t) wh ex run 1 := by
  refine ⟨h.wh, h.ex, h.run, ?_, ?_, ?_, ?_⟩
  · show aliveStep (locPt (oneE tol pts)) m.cnt 0 = 1
    rw [one_pt tol hp, h.cnt]; decide
  · show (m.gbad || m.gs.any _) = false
    rw [h.gb, h.gs]; rfl
  · show (m.fbad || !flowMay (oneE tol pts) m.pos 0) = false
    rw [h.fb, may_none _ rfl]; rfl
  · show m.gs.map _ = []
    rw [h.gs]; rfl
end Go.Proofs.YtkhcepdeppmofaaDoor
