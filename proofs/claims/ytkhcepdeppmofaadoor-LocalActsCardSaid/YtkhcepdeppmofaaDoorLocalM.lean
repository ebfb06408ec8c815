/- Package local: what an entity's watches hold, as plain data; their memory. -/
import Derived.Test.YtkhcepdeppmofaaDoorAlive
import Derived.Test.YtkhcepdeppmofaaDoorGapsR
import Derived.Test.YtkhcepdeppmofaaDoorFlowR
namespace Go.Proofs.YtkhcepdeppmofaaDoor
open Go.RowKit
set_option linter.unusedVariables false

/-- What the watches of an active entity hold. -/
structure LocM where
  whole : Bool
  exp : Bool
  run : Int
  cnt : Int
  gs : List GapS
  gbad : Bool
  pos : Int
  fbad : Bool
def locBegin (E : EntV) : LocM := ⟨false, false, 0, 0, E.gaps.map gs0, false, -1, false⟩
def locPt (E : EntV) : Int := alivePt E.count E.points.length
def locReport (E : EntV) (m : LocM) (p t : Int) : LocM :=
  ⟨m.whole, m.exp, m.run, aliveStep (locPt E) m.cnt p, m.gs.map (gsStep · p t), m.gbad || m.gs.any (gsBad · p t), flowThen E p, m.fbad || !flowMay E m.pos p⟩
def locKind (E : EntV) (m : LocM) : Int :=
  if aliveOk (locPt E) E.mn E.mx m.cnt m.whole = false then 1 else if m.gbad = true then 2 else if m.fbad = true then 3 else 0
/-- Behind kind. -/
def locMid (m : LocM) : LocM := ⟨true, m.exp, m.run, 0, m.gs, false, m.pos, false⟩
def locRun (E : EntV) (m : LocM) : Int := if locKind E m = 0 then 0 else m.run + 1
def locNow (E : EntV) (m : LocM) : Bool := decide (E.tol < locRun E m) && !m.exp
def locEnd (E : EntV) (m : LocM) : LocM := ⟨true, m.exp || decide (E.tol < locRun E m), locRun E m, 0, m.gs, false, m.pos, false⟩

structure LocOk (m : LocM) : Prop where
  g : GsOk m.gs
  n : m.gs.length ≤ 100
  c0 : 0 ≤ m.cnt
  c1 : m.cnt ≤ 1000
theorem aliveStep_bd (p c q : Int) (h0 : 0 ≤ c) (h1 : c ≤ 1000) : 0 ≤ aliveStep p c q ∧ aliveStep p c q ≤ 1000 := by unfold aliveStep; split <;> omega
theorem locOk_begin (E : EntV) (h : E.gaps.length ≤ 100) : LocOk (locBegin E) := by
  refine ⟨?_, by simpa [locBegin] using h, by simp [locBegin], by simp [locBegin]⟩
  intro x hx
  simp only [locBegin, List.mem_map] at hx
  obtain ⟨g, _, rfl⟩ := hx
  simp [gs0]
theorem locOk_report {E : EntV} {m : LocM} (h : LocOk m) {p t : Int} (h0 : 0 ≤ t) (h1 : t ≤ 1099511627776) : LocOk (locReport E m p t) :=
  ⟨h.g.step h0 h1, by simpa [locReport] using h.n, (aliveStep_bd _ _ _ h.c0 h.c1).1, (aliveStep_bd _ _ _ h.c0 h.c1).2⟩
theorem locOk_end {E : EntV} {m : LocM} (h : LocOk m) : LocOk (locEnd E m) := ⟨h.g, h.n, by simp [locEnd], by simp [locEnd]⟩
theorem locOk_mid {m : LocM} (h : LocOk m) : LocOk (locMid m) := ⟨h.g, h.n, by simp [locMid], by simp [locMid]⟩

/-- The blocks of the watches lie in [s, t), none of them twice. -/
structure Apart (s t wb a g : Nat) (ro : Option Nat) (lo hi : Nat) : Prop where
  pw : s ≤ wb ∧ wb < t
  pa : s ≤ a ∧ a < t
  pg : s ≤ g ∧ g < t
  pr : ∀ b, ro = some b → s ≤ b ∧ b < t
  pf : s ≤ lo ∧ hi ≤ t
  wa : wb ≠ a
  wg : wb ≠ g
  wr : ro ≠ some wb
  wf : ¬ (lo ≤ wb ∧ wb < hi)
  ag : a ≠ g
  ar : ro ≠ some a
  af : ¬ (lo ≤ a ∧ a < hi)
  gf : ¬ (lo ≤ g ∧ g < hi)
  rf : ∀ b, ro = some b → ¬ (lo ≤ b ∧ b < hi)

def watchC (a g f : Nat) (wh ex : Bool) (run : Int) : Obj := .cells #[.pointer (some ⟨a, 0, none⟩), .pointer (some ⟨g, 0, none⟩), .pointer (some ⟨f, 0, none⟩), .bool wh, .bool ex, .int .i64 run] 119
structure WatchIn (s t wb a g f : Nat) (ro : Option Nat) (base lo hi : Nat) (E : EntV) (m : LocM) (w : World) : Prop where
  ap : Apart s t wb a g ro lo hi
  box : w.heap[wb]? = some (watchC a g f m.whole m.exp m.run)
  al : w.heap[a]? = some (aliveC (locPt E) E.mn E.mx m.cnt)
  ga : GapsAt base ro w g m.gs m.gbad
  fl : FlowAt lo hi E E.edges w f m.pos m.fbad
  ok : LocOk m
  top : t ≤ w.heap.size
theorem WatchIn.keep {S : Nat → Prop} {s t wb a g f : Nat} {ro : Option Nat} {base lo hi : Nat} {E : EntV} {m : LocM} {w w' : World} (h : WatchIn s t wb a g f ro base lo hi E m w) (hk : Keep S w w') (hS : ∀ b, s ≤ b → b < t → ¬ S b) :
    WatchIn s t wb a g f ro base lo hi E m w' :=
  ⟨h.ap, hk.get h.box (hS _ h.ap.pw.1 h.ap.pw.2), hk.get h.al (hS _ h.ap.pa.1 h.ap.pa.2),
    h.ga.keep hk (fun b hb => by rcases hb with rfl | hb; exact hS _ h.ap.pg.1 h.ap.pg.2; exact hS _ (h.ap.pr b hb).1 (h.ap.pr b hb).2),
    h.fl.keep hk (fun b h1 h2 => hS b (Nat.le_trans h.ap.pf.1 h1) (Nat.lt_of_lt_of_le h2 h.ap.pf.2)), h.ok, Nat.le_trans h.top hk.size⟩

/-- Local's block: where its watch lies, and the entity. -/
def locC (p : Option Addr) (E : EntV) (vp vg ve vf vl : Value) : Obj :=
  .cells #[.pointer p, .string E.name, .int .i64 E.tol, vp, .int .i64 E.count, .int .i64 E.mn, .int .i64 E.mx, vg, ve, vf, vl] 109
theorem loc_cells {w : World} {l : Nat} {p : Option Addr} {E : EntV} {vp vg ve vf vl : Value} (h : w.heap[l]? = some (locC p E vp vg ve vf vl)) :
    w.cell? ⟨l, 0, none⟩ = some (.pointer p) ∧ w.cell? ⟨l, 1, none⟩ = some (.string E.name) ∧ w.cell? ⟨l, 2, none⟩ = some (.int .i64 E.tol) ∧ w.cell? ⟨l, 3, none⟩ = some vp ∧ w.cell? ⟨l, 4, none⟩ = some (.int .i64 E.count) ∧
    w.cell? ⟨l, 5, none⟩ = some (.int .i64 E.mn) ∧ w.cell? ⟨l, 6, none⟩ = some (.int .i64 E.mx) ∧ w.cell? ⟨l, 7, none⟩ = some vg ∧ w.cell? ⟨l, 8, none⟩ = some ve ∧ w.cell? ⟨l, 9, none⟩ = some vf ∧ w.cell? ⟨l, 10, none⟩ = some vl ∧ ∀ o, w.frozen? ⟨l, o, none⟩ = false := by
  unfold locC at h
  simp [World.cell?, World.frozen?, h]
theorem watch_cells {w : World} {b a g f : Nat} {wh ex : Bool} {run : Int} (h : w.heap[b]? = some (watchC a g f wh ex run)) :
    w.cell? ⟨b, 0, none⟩ = some (.pointer (some ⟨a, 0, none⟩)) ∧ w.cell? ⟨b, 1, none⟩ = some (.pointer (some ⟨g, 0, none⟩)) ∧ w.cell? ⟨b, 2, none⟩ = some (.pointer (some ⟨f, 0, none⟩)) ∧
    w.cell? ⟨b, 3, none⟩ = some (.bool wh) ∧ w.cell? ⟨b, 4, none⟩ = some (.bool ex) ∧ w.cell? ⟨b, 5, none⟩ = some (.int .i64 run) ∧ ∀ o, w.frozen? ⟨b, o, none⟩ = false := by
  unfold watchC at h
  simp [World.cell?, World.frozen?, h]

/-! ### What a callee turns -/
section
variable {s t wb a g f : Nat} {ro : Option Nat} {base lo hi : Nat} {E : EntV} {m : LocM} {w w' : World}
theorem WatchIn.alive (h : WatchIn s t wb a g f ro base lo hi E m w) (k : Keep (· = a) w w') {c : Int} (ha : w'.heap[a]? = some (aliveC (locPt E) E.mn E.mx c)) (h0 : 0 ≤ c) (h1 : c ≤ 1000) :
    WatchIn s t wb a g f ro base lo hi E ⟨m.whole, m.exp, m.run, c, m.gs, m.gbad, m.pos, m.fbad⟩ w' :=
  ⟨h.ap, k.get h.box h.ap.wa, ha, h.ga.keep k (fun b hb e => by subst e; rcases hb with e | e; exact h.ap.ag e; exact h.ap.ar e), h.fl.keep k (fun b h1 h2 e => by subst e; exact h.ap.af ⟨h1, h2⟩), ⟨h.ok.g, h.ok.n, h0, h1⟩, Nat.le_trans h.top k.size⟩
theorem WatchIn.gaps (h : WatchIn s t wb a g f ro base lo hi E m w) (k : Keep (fun b => b = g ∨ ro = some b) w w') {L : List GapS} {bad : Bool} (hg : GapsAt base ro w' g L bad) (h0 : GsOk L) (h1 : L.length ≤ 100) :
    WatchIn s t wb a g f ro base lo hi E ⟨m.whole, m.exp, m.run, m.cnt, L, bad, m.pos, m.fbad⟩ w' :=
  ⟨h.ap, k.get h.box (fun e => by rcases e with e | e; exact h.ap.wg e; exact h.ap.wr e), k.get h.al (fun e => by rcases e with e | e; exact h.ap.ag e; exact h.ap.ar e), hg,
    h.fl.keep k (fun b h1 h2 e => by rcases e with e | e; subst e; exact h.ap.gf ⟨h1, h2⟩; exact h.ap.rf b e ⟨h1, h2⟩), ⟨h0, h1, h.ok.c0, h.ok.c1⟩, Nat.le_trans h.top k.size⟩
theorem WatchIn.flow (h : WatchIn s t wb a g f ro base lo hi E m w) (k : Keep (· = f) w w') {p : Int} {bad : Bool} (hf : FlowAt lo hi E E.edges w' f p bad) :
    WatchIn s t wb a g f ro base lo hi E ⟨m.whole, m.exp, m.run, m.cnt, m.gs, m.gbad, p, bad⟩ w' :=
  ⟨h.ap, k.get h.box (fun e => h.ap.wf (e ▸ ⟨h.fl.flo, h.fl.fhi⟩)), k.get h.al (fun e => h.ap.af (e ▸ ⟨h.fl.flo, h.fl.fhi⟩)),
    h.ga.keep k (fun b hb e => by subst e; rcases hb with e | e; exact h.ap.gf (e ▸ ⟨h.fl.flo, h.fl.fhi⟩); exact h.ap.rf _ e ⟨h.fl.flo, h.fl.fhi⟩), hf, ⟨h.ok.g, h.ok.n, h.ok.c0, h.ok.c1⟩, Nat.le_trans h.top k.size⟩
theorem WatchIn.box' (h : WatchIn s t wb a g f ro base lo hi E m w) (k : Keep (· = wb) w w') {wh ex : Bool} {run : Int} (hbx : w'.heap[wb]? = some (watchC a g f wh ex run)) :
    WatchIn s t wb a g f ro base lo hi E ⟨wh, ex, run, m.cnt, m.gs, m.gbad, m.pos, m.fbad⟩ w' :=
  ⟨h.ap, hbx, k.get h.al (fun e => h.ap.wa e.symm), h.ga.keep k (fun b hb e => by subst e; rcases hb with e | e; exact h.ap.wg e; exact h.ap.wr e),
    h.fl.keep k (fun b h1 h2 e => by subst e; exact h.ap.wf ⟨h1, h2⟩), ⟨h.ok.g, h.ok.n, h.ok.c0, h.ok.c1⟩, Nat.le_trans h.top k.size⟩
theorem WatchIn.own_a (h : WatchIn s t wb a g f ro base lo hi E m w) (k : Keep (· = a) w w') : Keep (fun b => s ≤ b ∧ b < t) w w' := k.mono (fun b _ e => by subst e; exact h.ap.pa)
theorem WatchIn.own_g (h : WatchIn s t wb a g f ro base lo hi E m w) (k : Keep (fun b => b = g ∨ ro = some b) w w') : Keep (fun b => s ≤ b ∧ b < t) w w' := k.mono (fun b _ e => by rcases e with e | e; subst e; exact h.ap.pg; exact h.ap.pr b e)
theorem WatchIn.own_f (h : WatchIn s t wb a g f ro base lo hi E m w) (k : Keep (· = f) w w') : Keep (fun b => s ≤ b ∧ b < t) w w' := k.mono (fun b _ e => by subst e; exact ⟨Nat.le_trans h.ap.pf.1 h.fl.flo, Nat.lt_of_lt_of_le h.fl.fhi h.ap.pf.2⟩)
theorem WatchIn.own_w (h : WatchIn s t wb a g f ro base lo hi E m w) (k : Keep (· = wb) w w') : Keep (fun b => s ≤ b ∧ b < t) w w' := k.mono (fun b _ e => by subst e; exact h.ap.pw)
end
/-- An entity that is watched: its block l, its watch in [s, t). -/
structure LocAt (l s t : Nat) (E : EntV) (vp vg ve vf vl : Value) (m : LocM) (w : World) : Prop where
  ex : ∃ wb a g f ro base lo hi, w.heap[l]? = some (locC (some ⟨wb, 0, none⟩) E vp vg ve vf vl) ∧ WatchIn s t wb a g f ro base lo hi E m w
  out : ¬ (s ≤ l ∧ l < t)
theorem LocAt.keep {S : Nat → Prop} {l s t : Nat} {E : EntV} {vp vg ve vf vl : Value} {m : LocM} {w w' : World} (h : LocAt l s t E vp vg ve vf vl m w) (hk : Keep S w w') (hl : ¬ S l) (hS : ∀ b, s ≤ b → b < t → ¬ S b) : LocAt l s t E vp vg ve vf vl m w' := by
  obtain ⟨⟨wb, a, g, f, ro, base, lo, hi, h1, h2⟩, ho⟩ := h
  exact ⟨⟨wb, a, g, f, ro, base, lo, hi, hk.get h1 hl, h2.keep hk hS⟩, ho⟩
end Go.Proofs.YtkhcepdeppmofaaDoor
