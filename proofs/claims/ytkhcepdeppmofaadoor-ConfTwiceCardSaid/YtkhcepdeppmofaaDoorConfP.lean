/- Plain: a right entity's numbers are small; the lines of an entity. -/
import Derived.Test.YtkhcepdeppmofaaDoorText0
import Derived.Test.YtkhcepdeppmofaaDoorConfJ
namespace Go.Proofs.YtkhcepdeppmofaaDoor
open Go.RowKit
set_option linter.unusedVariables false

structure EntGood (E : EntV) : Prop where
  name : E.name.size ≤ 12
  tol : 0 ≤ E.tol ∧ E.tol ≤ 20
  pl : E.points.length ≤ 16
  ps : ∀ s ∈ E.points, s.size ≤ 12
  cnt : -1 ≤ E.count ∧ E.count < (E.points.length : Int) ∨ E.count = -1
  rng : 0 ≤ E.mn ∧ E.mn ≤ E.mx ∧ E.mx < 1000
  gl : E.gaps.length ≤ 8
  gs : ∀ g ∈ E.gaps, (0 ≤ g.fr ∧ g.fr < (E.points.length : Int)) ∧ (0 ≤ g.dst ∧ g.dst < (E.points.length : Int)) ∧ 0 ≤ g.mn ∧ g.mn ≤ g.mx ∧ g.mx ≤ 1099511627776
  el : E.edges.length ≤ 64
  es : ∀ x ∈ E.edges, (0 ≤ x.1 ∧ x.1 < (E.points.length : Int)) ∧ (0 ≤ x.2 ∧ x.2 < (E.points.length : Int))
  fl : E.first.length ≤ 16
  fs : ∀ k ∈ E.first, 0 ≤ k ∧ k < (E.points.length : Int)
  ll : E.last.length ≤ 16
  ls : ∀ k ∈ E.last, 0 ≤ k ∧ k < (E.points.length : Int)
theorem nameB_small {s : ByteArray} (h : isNameB s = true) : s.size ≤ 12 := by
  by_cases hh : 1 ≤ s.size ∧ s.size ≤ 12
  · exact hh.2
  · rw [isNameB_short hh] at h; cases h
theorem ptsE_names {P : List ByteArray} (h : ptsE P = 0) : ∀ s ∈ P, isNameB s = true := by
  intro s hs
  obtain ⟨k, hk, rfl⟩ := List.mem_iff_getElem.1 hs
  have hall : ∀ n, ∀ j, j < n → j < P.length → ptE P j = 0 := by
    intro n
    induction n with
    | zero => intro j h1; omega
    | succ n ih =>
      intro j h1 h2
      by_cases hj : j < n
      · exact ih j hj h2
      · obtain rfl : j = n := by omega
        by_cases hz : ptE P j = 0
        · exact hz
        · rw [ptsE_hit h2 hz (fun i hi => ih i hi (by omega))] at h
          exact h
  have := hall (k + 1) k (by omega) hk
  rw [ptE_at hk] at this
  cases hn : isNameB P[k]
  · rw [hn, if_pos rfl] at this; cases this
  · rfl
theorem tail_rules {E : EntV} (h : tailE E = 0) : ∀ j, j < 7 → ruleB E j = false := by
  intro j hj
  cases hr : ruleB E j
  · rfl
  · exfalso
    have hmin : ∃ k, k < 7 ∧ ruleB E k = true ∧ ∀ i, i < k → ruleB E i = false := by
      have : ∀ n, (∃ k, k < n ∧ ruleB E k = true) → ∃ k, k < n ∧ ruleB E k = true ∧ ∀ i, i < k → ruleB E i = false := by
        intro n
        induction n with
        | zero => rintro ⟨k, hk, _⟩; omega
        | succ n ih =>
          rintro ⟨k, hk, hh⟩
          by_cases he : ∃ k, k < n ∧ ruleB E k = true
          · obtain ⟨k', h1, h2, h3⟩ := ih he
            exact ⟨k', by omega, h2, h3⟩
          · refine ⟨k, hk, hh, fun i hi => ?_⟩
            cases hri : ruleB E i
            · rfl
            · exact absurd ⟨i, by omega, hri⟩ he
      exact this 7 ⟨j, hj, hr⟩
    obtain ⟨k, h1, h2, h3⟩ := hmin
    rw [tailE_hit k h1 h2 h3] at h
    match k, h1 with
    | 0, _ => cases h
    | 1, _ => cases h
    | 2, _ => cases h
    | 3, _ => cases h
    | 4, _ => cases h
    | 5, _ => cases h
    | 6, _ => cases h
theorem good_of {ah : List ByteArray} {E : EntV} (h : entErr ah E = 0) : EntGood E := by
  have h1 : isNameB E.name = true := by
    cases hh : isNameB E.name
    · rw [entErr_name hh] at h; cases h
    · rfl
  have h2 : hasStr ah E.name = false := by
    cases hh : hasStr ah E.name
    · rfl
    · rw [entErr_exist h1 hh] at h; cases h
  have h3 : boundB E = false := by
    cases hh : boundB E
    · rfl
    · rw [entErr_bound h1 h2 hh] at h; cases h
  have h4 : ptsE E.points = 0 := by
    by_cases hh : ptsE E.points = 0
    · exact hh
    · rw [entErr_pts h1 h2 h3 hh] at h; exact h
  rw [entErr_tail' h1 h2 h3 h4] at h
  have hr := tail_rules h
  have r0 := hr 0 (by decide)
  have r1 := hr 1 (by decide)
  have r2 := hr 2 (by decide)
  have r3 := hr 3 (by decide)
  simp only [ruleB] at r0 r1 r2 r3
  unfold boundB at h3
  rw [Bool.or_eq_false_iff] at h3
  obtain ⟨t1, t2⟩ := h3
  simp only [topW, fstW, decide_eq_false_iff_not] at t1 t2
  have hst : strangeB E = false ∧ cntW E = false := by
    unfold strangP at r0
    rw [Bool.or_eq_false_iff] at r0
    exact ⟨r0.2, r0.1⟩
  obtain ⟨s1, s2⟩ := hst
  have hall : ∀ x ∈ strL E, 0 ≤ x ∧ x < (E.points.length : Int) := by
    intro x hx
    have := List.any_eq_false.1 s1 x hx
    simp only [decide_eq_true_eq] at this
    omega
  simp only [cntW, rngW, decide_eq_false_iff_not] at s2 r2
  refine ⟨nameB_small h1, by omega, by omega, fun s hs => nameB_small (ptsE_names h4 s hs), by omega, by omega, by omega, fun g hg => ?_, by omega, fun x hx => ?_, by omega, fun k hk => ?_, by omega, fun k hk => ?_⟩
  · have q := List.any_eq_false.1 r3 g hg
    simp only [gapWrong, decide_eq_true_eq] at q
    refine ⟨hall _ ?_, hall _ ?_, by omega, by omega, by omega⟩
    · unfold strL
      exact List.mem_append_left _ (List.mem_append_right _ (List.mem_flatMap.2 ⟨g, hg, by simp⟩))
    · unfold strL
      exact List.mem_append_left _ (List.mem_append_right _ (List.mem_flatMap.2 ⟨g, hg, by simp⟩))
  · refine ⟨hall _ ?_, hall _ ?_⟩
    · unfold strL
      exact List.mem_append_right _ (List.mem_flatMap.2 ⟨x, hx, by simp⟩)
    · unfold strL
      exact List.mem_append_right _ (List.mem_flatMap.2 ⟨x, hx, by simp⟩)
  · refine hall _ ?_
    unfold strL
    exact List.mem_append_left _ (List.mem_append_left _ (List.mem_append_left _ hk))
  · refine hall _ ?_
    unfold strL
    exact List.mem_append_left _ (List.mem_append_left _ (List.mem_append_right _ hk))

/-! ### The lines of an entity -/
def entB : ByteArray := ⟨#[101, 110, 116, 105, 116, 121]⟩
def pntB : ByteArray := ⟨#[112, 111, 105, 110, 116]⟩
def cntB : ByteArray := ⟨#[99, 111, 117, 110, 116]⟩
def gapB : ByteArray := ⟨#[103, 97, 112]⟩
def edgB : ByteArray := ⟨#[101, 100, 103, 101]⟩
def fstB : ByteArray := ⟨#[102, 105, 114, 115, 116]⟩
def lstB : ByteArray := ⟨#[108, 97, 115, 116]⟩
def nameAt (E : EntV) (k : Int) : ByteArray := E.points.getD k.toNat ByteArray.empty
def pntL (s : ByteArray) : List W1 := [.str pntB, .str s]
def gapLn (E : EntV) (g : GapV) : List W1 := [.str gapB, .str (nameAt E g.fr), .str (nameAt E g.dst), .num g.mn, .num g.mx]
def edgLn (E : EntV) (x : Int × Int) : List W1 := [.str edgB, .str (nameAt E x.1), .str (nameAt E x.2)]
def fstLn (E : EntV) (k : Int) : List W1 := [.str fstB, .str (nameAt E k)]
def lstLn (E : EntV) (k : Int) : List W1 := [.str lstB, .str (nameAt E k)]
def cntLn (E : EntV) : List (List W1) := if 0 ≤ E.count then [[.str cntB, .str (nameAt E E.count), .num E.mn, .num E.mx]] else []
def entLn (E : EntV) : List (List W1) := [.str entB, .str E.name, .num E.tol] :: (E.points.map pntL ++ cntLn E ++ E.gaps.map (gapLn E) ++ E.edges.map (edgLn E) ++ E.first.map (fstLn E) ++ E.last.map (lstLn E))
def linesB (L : List (List W1)) : List UInt8 := L.flatMap lineB
def textB (C : ConfV) : List UInt8 := headB C ++ C.ents.flatMap (fun E => linesB (entLn E))
theorem linesB_app (L M : List (List W1)) : linesB (L ++ M) = linesB L ++ linesB M := List.flatMap_append
theorem linesB_one (ws : List W1) : linesB [ws] = lineB ws := by simp [linesB]
theorem linesB_small {L : List (List W1)} (h : ∀ ws ∈ L, WsOk ws) : (linesB L).length ≤ 206 * L.length := by
  induction L with
  | nil => simp [linesB]
  | cons ws L ih =>
    have h1 := (h ws (List.mem_cons_self ..)).line
    have h2 := ih (fun x hx => h x (List.mem_cons_of_mem _ hx))
    show (lineB ws ++ linesB L).length ≤ _
    rw [List.length_append, List.length_cons]
    omega
theorem nameAt_small {E : EntV} (h : EntGood E) (k : Int) : (nameAt E k).size ≤ 40 := by
  unfold nameAt
  rw [List.getD_eq_getElem?_getD]
  cases hk : E.points[k.toNat]? with
  | none => exact Nat.zero_le _
  | some s =>
    have := h.ps s (List.mem_of_getElem? hk)
    show s.size ≤ 40
    omega
theorem entHead_ok {E : EntV} (h : EntGood E) : WsOk [.str entB, .str E.name, .num E.tol] :=
  ((WsOk.nil.num (by simp) _ (by have := h.tol; omega)).str (by simp) _ (by have := h.name; omega)).str (by simp) _ (by decide)
theorem pntL_ok {E : EntV} (h : EntGood E) {s : ByteArray} (hs : s ∈ E.points) : WsOk (pntL s) := (WsOk.nil.str (by simp) _ (by have := h.ps s hs; omega)).str (by simp) _ (by decide)
theorem cntLn_ok {E : EntV} (h : EntGood E) : WsOk [.str cntB, .str (nameAt E E.count), .num E.mn, .num E.mx] :=
  (((WsOk.nil.num (by simp) _ (by have := h.rng; omega)).num (by simp) _ (by have := h.rng; omega)).str (by simp) _ (nameAt_small h _)).str (by simp) _ (by decide)
theorem gapLn_ok {E : EntV} (h : EntGood E) {g : GapV} (hg : g ∈ E.gaps) : WsOk (gapLn E g) :=
  ((((WsOk.nil.num (by simp) _ (by have := h.gs g hg; omega)).num (by simp) _ (by have := h.gs g hg; omega)).str (by simp) _ (nameAt_small h _)).str (by simp) _ (nameAt_small h _)).str (by simp) _ (by decide)
theorem edgLn_ok {E : EntV} (h : EntGood E) (x : Int × Int) : WsOk (edgLn E x) := ((WsOk.nil.str (by simp) _ (nameAt_small h _)).str (by simp) _ (nameAt_small h _)).str (by simp) _ (by decide)
theorem fstLn_ok {E : EntV} (h : EntGood E) (k : Int) : WsOk (fstLn E k) := (WsOk.nil.str (by simp) _ (nameAt_small h _)).str (by simp) _ (by decide)
theorem lstLn_ok {E : EntV} (h : EntGood E) (k : Int) : WsOk (lstLn E k) := (WsOk.nil.str (by simp) _ (nameAt_small h _)).str (by simp) _ (by decide)
end Go.Proofs.YtkhcepdeppmofaaDoor

/- Plain: a right config, part by part. -/
namespace Go.Proofs.YtkhcepdeppmofaaDoor
open Go.RowKit
set_option linter.unusedVariables false

theorem entsF_zero {L : List EntV} (h : entsF L = (0, -1)) : ∀ j, j < L.length → entAt L j = 0 := by
  intro j hj
  unfold entsF at h
  split at h
  · next i hi =>
    have := (Prod.mk.inj h).2
    omega
  · next hn =>
    rw [List.find?_range_eq_none] at hn
    simpa using hn j hj
theorem confF_parts {C : ConfV} (h : confF C = (0, -1)) : boundC C = false ∧ ¬ C.opn < C.cycle ∧ ∀ j, j < C.ents.length → entAt C.ents j = 0 := by
  unfold confF at h
  split at h
  · cases h
  split at h
  · cases h
  next h1 h2 => exact ⟨by simpa using h1, h2, entsF_zero h⟩
end Go.Proofs.YtkhcepdeppmofaaDoor
