/- Package conf: a page's text; the text of a config of no entities. -/
import Derived.Test.YtakjbjokekbmbaaGreatDoorQ26
import Derived.Test.YtakjbjokekbmbaaGreatDoorQ25
import Derived.Shelf.RegionOpenPlain
import Derived.Lib.ItoaLen
import Derived.Test.YtakjbjokekbmbaaGreatDoorQ01
import Derived.MapKept
import Derived.Carry
import Derived.Deep.DeepCutAuto
import Derived.Lib.AtoiAllCases
import Derived.Lib.AtoiErrMem
import Derived.Test.YtakjbjokekbmbaaGreatDoorShelf
import Derived.Shelf.Strings.SplitCore
import Derived.Lib.SplitLaws
import Derived.Lib.IndexLaws
import Derived.Test.YtakjbjokekbmbaaGreatDoorQ09
namespace Go.Proofs.YtakjbjokekbmbaaGreatDoor
open Go.RowKit
set_option linter.unusedVariables false

set_option maxHeartbeats 1000000 in
set_option maxRecDepth 100000 in
theorem pgString_any (B b : Nat) (l : List UInt8) (w : World) (h : Pg B b l w) (h0 : l ≠ []) :
    Calls Tryz.prog 76 #[.pointer (some ⟨b, 0, none⟩)] w fun e w' => e = .returned (.string ⟨l.toArray⟩) ∧ Below B w w' := by
  obtain ⟨p, hB, v, hbk, hown, hne⟩ := h.at_
  have hl0 : l.length ≠ 0 := by simpa using h0
  rw [Lib.byteCells_length] at hown
  obtain ⟨g, cap, cur, rfl, hbg, hg, hnc, hcm, hcs, htake⟩ : ∃ g cap cur, v = .slice (some ⟨g, 0, none⟩) l.length cap ∧ B ≤ g ∧ w.heap[g]? = some (.cells cur 5 (0, 0)) ∧ l.length ≤ cap ∧ cap ≤ maxLen ∧ cur.size = cap * 1 ∧ cur.toList.take (l.length * 1) = Lib.byteCells l := by
    rcases hown.2 with ⟨_, hz⟩ | ⟨g, cap, cur, hv, r⟩
    · exact absurd hz hl0
    · exact ⟨g, cap, cur, hv, r⟩
  have c1 : w.drew.cell? ⟨b, 1, none⟩ = some (.slice (some ⟨g, 0, none⟩) l.length cap) := by
    have : w.drew.heap[b]? = some (.cells #[p, .slice (some ⟨g, 0, none⟩) l.length cap] 141 (0, 0)) := hbk
    rw [Lib.cell_of_heap this]; rfl
  have hSD : (Builtin.unsafeSliceData_ #[84] 190 #[.slice (some ⟨g, 0, none⟩) l.length cap]).run Tryz.prog w.drew = .ok (.pointer (some ⟨g, 0, none⟩)) w.drew :=
    Lib.run_unsafeSliceData_row _ _ _ _ _ _ (by omega)
  have hUS : (Builtin.unsafeString_ #[190, 3] 9 #[.pointer (some ⟨g, 0, none⟩), .int .i64 l.length]).run Tryz.prog w.drew = .ok (.string ⟨l.toArray⟩) (w.drew.freeze ⟨g, 0, none⟩ l.length) := by
    refine Lib.run_unsafeString_row w.drew 190 3 9 5 Tryz.underlying190 Tryz.cellsByteP g cur.size (by have hg' : w.drew.heap[g]? = some (.cells cur 5 (0, 0)) := hg; simp [World.shape?, hg']) l h0 (by omega) (by unfold maxLen at hcm; omega) ?_
    intro j x hx
    have := hown.cells (g := g) rfl j (.int .u8 x.toNat) (by simp [Lib.byteCells, hx])
    exact this
  have HBG := Lib.hid hbg
  have mixed : Tryz.prog.follows Departure.mixedOrders = true := by kernel_rfl
  clear hown hbk hg htake hcs hcm hnc h0 hl0 h hne hbg
  go_enter Tryz.func76, Tryz.ntmps76
  go_wp2
  go_region_o
  all_goals (go_wp2; go_ret; exact ⟨rfl, Lib.below_freeze (Below.drew (Below.refl B w)) (p := ⟨g, 0, none⟩) HBG.out _⟩)

def winB : ByteArray := ⟨#[119, 105, 110, 100, 111, 119]⟩
def cycB : ByteArray := ⟨#[99, 121, 99, 108, 101]⟩
def delB : ByteArray := ⟨#[100, 101, 108, 97, 121]⟩
def headL (C : ConfV) : List (List W1) := [[.str winB, .num C.closed, .num C.opn], [.str cycB, .num C.cycle], [.str delB, .num C.delay]]
def headB (C : ConfV) : List UInt8 := (headL C).flatMap lineB
theorem upB_small (ws : List W1) (hs : ∀ x ∈ ws, (wordB x).length ≤ 40) : ∀ k, k ≤ ws.length → (upB ws k).length ≤ 41 * k
  | 0, _ => by simp [upB]
  | k + 1, hk => by
    have ih := upB_small ws hs k (by omega)
    have h1 := hs ws[k] (List.getElem_mem (by omega))
    rw [upB_succ ws k (by omega), List.length_append]
    unfold sepB
    split
    · omega
    · rw [List.length_cons]; omega
theorem lineB_small (ws : List W1) (hs : ∀ x ∈ ws, (wordB x).length ≤ 40) : (lineB ws).length ≤ 41 * ws.length + 1 := by
  unfold lineB
  rw [List.length_append, List.length_singleton]
  have := upB_small ws hs ws.length (Nat.le_refl _)
  omega
theorem num_small (n : Int) (h : W1Ok (.num n)) : (wordB (.num n)).length ≤ 40 := Nat.le_trans (Lib.itoa_length_le n h.1 h.2) (by decide)
theorem str_small (s : ByteArray) (h : s.size ≤ 40) : (wordB (.str s)).length ≤ 40 := by
  show s.data.toList.length ≤ 40
  rw [Array.length_toList]; exact h
/-- A line of words that is good. -/
structure WsOk (ws : List W1) : Prop where
  ok : ∀ x ∈ ws, W1Ok x ∧ (wordB x).length ≤ 40
  len : ws.length ≤ 5
theorem WsOk.line {ws : List W1} (h : WsOk ws) : (lineB ws).length ≤ 206 := by
  have := lineB_small ws (fun x hx => (h.ok x hx).2)
  have := h.len
  omega
theorem WsOk.nil : WsOk [] := ⟨fun x hx => (by cases hx), by decide⟩
theorem WsOk.str {ws : List W1} (h : WsOk ws) (hl : ws.length ≤ 4) (s : ByteArray) (hs : s.size ≤ 40) : WsOk (.str s :: ws) :=
  ⟨fun x hx => by
    rcases List.mem_cons.1 hx with rfl | hx
    · exact ⟨trivial, str_small s hs⟩
    · exact h.ok x hx, by simp; omega⟩
theorem WsOk.num {ws : List W1} (h : WsOk ws) (hl : ws.length ≤ 4) (n : Int) (hn : -9223372036854775808 ≤ n ∧ n ≤ 9223372036854775807) : WsOk (.num n :: ws) :=
  ⟨fun x hx => by
    rcases List.mem_cons.1 hx with rfl | hx
    · exact ⟨hn, num_small n hn⟩
    · exact h.ok x hx, by simp; omega⟩
/-- One line more: the words laid, the call. -/
theorem line_step {B b : Nat} {l : List UInt8} {ws : List W1} {w0 wk : World} (h : PG B b l w0 wk) (hT : TabB B w0) (hw : WsOk ws) (hl : l.length ≤ 900000) :
    Calls Tryz.prog 75 #[.pointer (some ⟨b, 0, none⟩), .slice (some ⟨wk.heap.size, 0, none⟩) ws.length ws.length] (wk.alloc (.cells (ws.map cellW).toArray 20)) fun e w' => e = .returned (.tuple #[]) ∧ PG B b (l ++ lineB ws) w0 w' := by
  have hb : Below wk.heap.size wk (wk.alloc (.cells (ws.map cellW).toArray 20)) := (Below.refl _ _).alloc (Nat.le_refl _) _
  have h1 := h.below hb
  have hlt := h.pg.lt
  have hln := hw.line
  refine (pageLine_any B b l ws wk.heap.size _ h1.pg (by have := h1.pg.lt; omega) (hT.low h1.bel (Nat.le_refl _)) (fun x hx => (hw.ok x hx).1) (get_alloc_new _ _) (by omega) (by omega) (by have := hw.len; omega)).mono ?_
  rintro e w' ⟨rfl, hp⟩
  exact ⟨rfl, hp.pg, h1.bel.trans hp.bel, h1.oth.trans hp.oth⟩

end Go.Proofs.YtakjbjokekbmbaaGreatDoor

/- Plain: a right entity's numbers are small; the lines of an entity. -/
namespace Go.Proofs.YtakjbjokekbmbaaGreatDoor
open Go.RowKit
set_option linter.unusedVariables false

structure EntGood (E : EntV) : Prop where
  name : E.name.size ≤ 12
  tol : 0 ≤ E.tol ∧ E.tol ≤ 20
  pl : E.points.length ≤ 16
  ps : ∀ s ∈ E.points, s.size ≤ 12
  cnt : -1 ≤ E.count ∧ E.count < (E.points.length : Int) ∨ E.count = -1
  rng : 0 ≤ E.mn ∧ E.mn ≤ E.mx ∧ E.mx < 1000
  gl : E.gaps.length ≤ 8
  gs : ∀ g ∈ E.gaps, (0 ≤ g.fr ∧ g.fr < (E.points.length : Int)) ∧ (0 ≤ g.dst ∧ g.dst < (E.points.length : Int)) ∧ 0 ≤ g.mn ∧ g.mn ≤ g.mx ∧ g.mx ≤ 1099511627776
  el : E.edges.length ≤ 64
  es : ∀ x ∈ E.edges, (0 ≤ x.1 ∧ x.1 < (E.points.length : Int)) ∧ (0 ≤ x.2 ∧ x.2 < (E.points.length : Int))
  fl : E.first.length ≤ 16
  fs : ∀ k ∈ E.first, 0 ≤ k ∧ k < (E.points.length : Int)
  ll : E.last.length ≤ 16
  ls : ∀ k ∈ E.last, 0 ≤ k ∧ k < (E.points.length : Int)
theorem nameB_small {s : ByteArray} (h : isNameB s = true) : s.size ≤ 12 := by
  by_cases hh : 1 ≤ s.size ∧ s.size ≤ 12
  · exact hh.2
  · rw [isNameB_short hh] at h; cases h
theorem ptsE_names {P : List ByteArray} (h : ptsE P = 0) : ∀ s ∈ P, isNameB s = true := by
  intro s hs
  obtain ⟨k, hk, rfl⟩ := List.mem_iff_getElem.1 hs
  have hall : ∀ n, ∀ j, j < n → j < P.length → ptE P j = 0 := by
    intro n
    induction n with
    | zero => intro j h1; omega
    | succ n ih =>
      intro j h1 h2
      by_cases hj : j < n
      · exact ih j hj h2
      · obtain rfl : j = n := by omega
        by_cases hz : ptE P j = 0
        · exact hz
        · rw [ptsE_hit h2 hz (fun i hi => ih i hi (by omega))] at h
          exact h
  have := hall (k + 1) k (by omega) hk
  rw [ptE_at hk] at this
  cases hn : isNameB P[k]
  · rw [hn, if_pos rfl] at this; cases this
  · rfl
theorem tail_rules {E : EntV} (h : tailE E = 0) : ∀ j, j < 7 → ruleB E j = false := by
  intro j hj
  cases hr : ruleB E j
  · rfl
  · exfalso
    have hmin : ∃ k, k < 7 ∧ ruleB E k = true ∧ ∀ i, i < k → ruleB E i = false := by
      have : ∀ n, (∃ k, k < n ∧ ruleB E k = true) → ∃ k, k < n ∧ ruleB E k = true ∧ ∀ i, i < k → ruleB E i = false := by
        intro n
        induction n with
        | zero => rintro ⟨k, hk, _⟩; omega
        | succ n ih =>
          rintro ⟨k, hk, hh⟩
          by_cases he : ∃ k, k < n ∧ ruleB E k = true
          · obtain ⟨k', h1, h2, h3⟩ := ih he
            exact ⟨k', by omega, h2, h3⟩
          · refine ⟨k, hk, hh, fun i hi => ?_⟩
            cases hri : ruleB E i
            · rfl
            · exact absurd ⟨i, by omega, hri⟩ he
      exact this 7 ⟨j, hj, hr⟩
    obtain ⟨k, h1, h2, h3⟩ := hmin
    rw [tailE_hit k h1 h2 h3] at h
    match k, h1 with
    | 0, _ => cases h
    | 1, _ => cases h
    | 2, _ => cases h
    | 3, _ => cases h
    | 4, _ => cases h
    | 5, _ => cases h
    | 6, _ => cases h
theorem good_of {ah : List ByteArray} {E : EntV} (h : entErr ah E = 0) : EntGood E := by
  have h1 : isNameB E.name = true := by
    cases hh : isNameB E.name
    · rw [entErr_name hh] at h; cases h
    · rfl
  have h2 : hasStr ah E.name = false := by
    cases hh : hasStr ah E.name
    · rfl
    · rw [entErr_exist h1 hh] at h; cases h
  have h3 : boundB E = false := by
    cases hh : boundB E
    · rfl
    · rw [entErr_bound h1 h2 hh] at h; cases h
  have h4 : ptsE E.points = 0 := by
    by_cases hh : ptsE E.points = 0
    · exact hh
    · rw [entErr_pts h1 h2 h3 hh] at h; exact h
  rw [entErr_tail' h1 h2 h3 h4] at h
  have hr := tail_rules h
  have r0 := hr 0 (by decide)
  have r1 := hr 1 (by decide)
  have r2 := hr 2 (by decide)
  have r3 := hr 3 (by decide)
  simp only [ruleB] at r0 r1 r2 r3
  unfold boundB at h3
  rw [Bool.or_eq_false_iff] at h3
  obtain ⟨t1, t2⟩ := h3
  simp only [topW, fstW, decide_eq_false_iff_not] at t1 t2
  have hst : strangeB E = false ∧ cntW E = false := by
    unfold strangP at r0
    rw [Bool.or_eq_false_iff] at r0
    exact ⟨r0.2, r0.1⟩
  obtain ⟨s1, s2⟩ := hst
  have hall : ∀ x ∈ strL E, 0 ≤ x ∧ x < (E.points.length : Int) := by
    intro x hx
    have := List.any_eq_false.1 s1 x hx
    simp only [decide_eq_true_eq] at this
    omega
  simp only [cntW, rngW, decide_eq_false_iff_not] at s2 r2
  refine ⟨nameB_small h1, by omega, by omega, fun s hs => nameB_small (ptsE_names h4 s hs), by omega, by omega, by omega, fun g hg => ?_, by omega, fun x hx => ?_, by omega, fun k hk => ?_, by omega, fun k hk => ?_⟩
  · have q := List.any_eq_false.1 r3 g hg
    simp only [gapWrong, decide_eq_true_eq] at q
    refine ⟨hall _ ?_, hall _ ?_, by omega, by omega, by omega⟩
    · unfold strL
      exact List.mem_append_left _ (List.mem_append_right _ (List.mem_flatMap.2 ⟨g, hg, by simp⟩))
    · unfold strL
      exact List.mem_append_left _ (List.mem_append_right _ (List.mem_flatMap.2 ⟨g, hg, by simp⟩))
  · refine ⟨hall _ ?_, hall _ ?_⟩
    · unfold strL
      exact List.mem_append_right _ (List.mem_flatMap.2 ⟨x, hx, by simp⟩)
    · unfold strL
      exact List.mem_append_right _ (List.mem_flatMap.2 ⟨x, hx, by simp⟩)
  · refine hall _ ?_
    unfold strL
    exact List.mem_append_left _ (List.mem_append_left _ (List.mem_append_left _ hk))
  · refine hall _ ?_
    unfold strL
    exact List.mem_append_left _ (List.mem_append_left _ (List.mem_append_right _ hk))

/-! ### The lines of an entity -/
def entB : ByteArray := ⟨#[101, 110, 116, 105, 116, 121]⟩
def pntB : ByteArray := ⟨#[112, 111, 105, 110, 116]⟩
def cntB : ByteArray := ⟨#[99, 111, 117, 110, 116]⟩
def gapB : ByteArray := ⟨#[103, 97, 112]⟩
def edgB : ByteArray := ⟨#[101, 100, 103, 101]⟩
def fstB : ByteArray := ⟨#[102, 105, 114, 115, 116]⟩
def lstB : ByteArray := ⟨#[108, 97, 115, 116]⟩
def nameAt (E : EntV) (k : Int) : ByteArray := E.points.getD k.toNat ByteArray.empty
def pntL (s : ByteArray) : List W1 := [.str pntB, .str s]
def gapLn (E : EntV) (g : GapV) : List W1 := [.str gapB, .str (nameAt E g.fr), .str (nameAt E g.dst), .num g.mn, .num g.mx]
def edgLn (E : EntV) (x : Int × Int) : List W1 := [.str edgB, .str (nameAt E x.1), .str (nameAt E x.2)]
def fstLn (E : EntV) (k : Int) : List W1 := [.str fstB, .str (nameAt E k)]
def lstLn (E : EntV) (k : Int) : List W1 := [.str lstB, .str (nameAt E k)]
def cntLn (E : EntV) : List (List W1) := if 0 ≤ E.count then [[.str cntB, .str (nameAt E E.count), .num E.mn, .num E.mx]] else []
def entLn (E : EntV) : List (List W1) := [.str entB, .str E.name, .num E.tol] :: (E.points.map pntL ++ cntLn E ++ E.gaps.map (gapLn E) ++ E.edges.map (edgLn E) ++ E.first.map (fstLn E) ++ E.last.map (lstLn E))
def linesB (L : List (List W1)) : List UInt8 := L.flatMap lineB
def textB (C : ConfV) : List UInt8 := headB C ++ C.ents.flatMap (fun E => linesB (entLn E))
theorem linesB_app (L M : List (List W1)) : linesB (L ++ M) = linesB L ++ linesB M := List.flatMap_append
theorem linesB_one (ws : List W1) : linesB [ws] = lineB ws := by simp [linesB]
theorem linesB_small {L : List (List W1)} (h : ∀ ws ∈ L, WsOk ws) : (linesB L).length ≤ 206 * L.length := by
  induction L with
  | nil => simp [linesB]
  | cons ws L ih =>
    have h1 := (h ws (List.mem_cons_self ..)).line
    have h2 := ih (fun x hx => h x (List.mem_cons_of_mem _ hx))
    show (lineB ws ++ linesB L).length ≤ _
    rw [List.length_append, List.length_cons]
    omega
theorem nameAt_small {E : EntV} (h : EntGood E) (k : Int) : (nameAt E k).size ≤ 40 := by
  unfold nameAt
  rw [List.getD_eq_getElem?_getD]
  cases hk : E.points[k.toNat]? with
  | none => exact Nat.zero_le _
  | some s =>
    have := h.ps s (List.mem_of_getElem? hk)
    show s.size ≤ 40
    omega
theorem entHead_ok {E : EntV} (h : EntGood E) : WsOk [.str entB, .str E.name, .num E.tol] :=
  ((WsOk.nil.num (by simp) _ (by have := h.tol; omega)).str (by simp) _ (by have := h.name; omega)).str (by simp) _ (by decide)
theorem pntL_ok {E : EntV} (h : EntGood E) {s : ByteArray} (hs : s ∈ E.points) : WsOk (pntL s) := (WsOk.nil.str (by simp) _ (by have := h.ps s hs; omega)).str (by simp) _ (by decide)
theorem cntLn_ok {E : EntV} (h : EntGood E) : WsOk [.str cntB, .str (nameAt E E.count), .num E.mn, .num E.mx] :=
  (((WsOk.nil.num (by simp) _ (by have := h.rng; omega)).num (by simp) _ (by have := h.rng; omega)).str (by simp) _ (nameAt_small h _)).str (by simp) _ (by decide)
theorem gapLn_ok {E : EntV} (h : EntGood E) {g : GapV} (hg : g ∈ E.gaps) : WsOk (gapLn E g) :=
  ((((WsOk.nil.num (by simp) _ (by have := h.gs g hg; omega)).num (by simp) _ (by have := h.gs g hg; omega)).str (by simp) _ (nameAt_small h _)).str (by simp) _ (nameAt_small h _)).str (by simp) _ (by decide)
theorem edgLn_ok {E : EntV} (h : EntGood E) (x : Int × Int) : WsOk (edgLn E x) := ((WsOk.nil.str (by simp) _ (nameAt_small h _)).str (by simp) _ (nameAt_small h _)).str (by simp) _ (by decide)
theorem fstLn_ok {E : EntV} (h : EntGood E) (k : Int) : WsOk (fstLn E k) := (WsOk.nil.str (by simp) _ (nameAt_small h _)).str (by simp) _ (by decide)
theorem lstLn_ok {E : EntV} (h : EntGood E) (k : Int) : WsOk (lstLn E k) := (WsOk.nil.str (by simp) _ (nameAt_small h _)).str (by simp) _ (by decide)
end Go.Proofs.YtakjbjokekbmbaaGreatDoor

/- Package conf: forms, the map of a line's forms. -/
namespace Go.Proofs.YtakjbjokekbmbaaGreatDoor
open Go.RowKit
set_option linter.unusedVariables false

/-- The forms: a line's first word, its stage, its words. -/
def formL : List (ByteArray × Nat × ByteArray) := [(⟨#[119, 105, 110, 100, 111, 119]⟩, 0, ⟨#[110, 110]⟩), (⟨#[99, 121, 99, 108, 101]⟩, 1, ⟨#[110]⟩), (⟨#[100, 101, 108, 97, 121]⟩, 2, ⟨#[110]⟩), (⟨#[101, 110, 116, 105, 116, 121]⟩, 3, ⟨#[115, 110]⟩),
  (⟨#[112, 111, 105, 110, 116]⟩, 4, ⟨#[115]⟩), (⟨#[99, 111, 117, 110, 116]⟩, 5, ⟨#[112, 110, 110]⟩), (⟨#[103, 97, 112]⟩, 6, ⟨#[112, 112, 110, 110]⟩), (⟨#[101, 100, 103, 101]⟩, 7, ⟨#[112, 112]⟩), (⟨#[102, 105, 114, 115, 116]⟩, 8, ⟨#[112]⟩), (⟨#[108, 97, 115, 116]⟩, 9, ⟨#[112]⟩)]
def formV (p : Nat × ByteArray) : Value := .agg #[.int .i64 p.1, .string p.2]
def formOf (s : ByteArray) : Option (Nat × ByteArray) := (formL.find? (fun p => p.1.data.toList == s.data.toList)).map (·.2)
def formStage (s : ByteArray) : Nat := ((formOf s).map (·.1)).getD 0
def formWords (s : ByteArray) : ByteArray := ((formOf s).map (·.2)).getD ByteArray.empty
def formOk (s : ByteArray) : Bool := (formOf s).isSome
def entOf (L : List (ByteArray × Nat × ByteArray)) : List MapEntry := (L.zipIdx).map (fun x => ⟨.string x.1.1, formV x.1.2, x.2⟩)
def mapW (W : World) (k : Nat) : World := W.alloc (.map (entOf (formL.take k)).toArray k)
theorem mapW_heap (W : World) (k : Nat) : (mapW W k).heap[W.heap.size]? = some (.map (entOf (formL.take k)).toArray k) := get_alloc_new _ _
theorem entOf_keys (L : List (ByteArray × Nat × ByteArray)) : ∀ x ∈ entOf L, MapKept.IsKey .string x.key := by
  intro x hx
  obtain ⟨p, hp, rfl⟩ := List.mem_map.1 hx
  trivial
theorem set_alloc (W : World) (o o' : Obj) : ({ W.alloc o with heap := (W.alloc o).heap.setIfInBounds W.heap.size o' } : World) = W.alloc o' := by
  have e : ∀ o : Obj, (W.alloc o) = { W with heap := W.heap.push o } := fun _ => rfl
  rw [e, e]
  show ({ heap := (W.heap.push o).setIfInBounds W.heap.size o', tape := W.tape, drawn := W.drawn, os := W.os, output := W.output } : World) = { heap := W.heap.push o', tape := W.tape, drawn := W.drawn, os := W.os, output := W.output }
  congr 1
  apply Array.ext_getElem?
  intro i
  simp only [Array.getElem?_setIfInBounds, Array.getElem?_push, Array.size_push]
  by_cases h : W.heap.size = i
  · subst h; simp
  · rw [if_neg h, if_neg (fun hh => h hh.symm), if_neg (fun hh => h hh.symm)]

section
variable {P : Program} {m t b : TypeId} (um : P.underlying m = some (.map t b)) (ut : P.underlying t = some .string)
include um ut
theorem form_ins (W : World) (k : Nat) (hk : k < 10) (p : ByteArray × Nat × ByteArray) (hp : formL[k]? = some p) :
    (Instr.mapUpdate m (.map (some W.heap.size)) (.string p.1) (formV p.2)).run P (mapW W k) = .ok () (mapW W (k + 1)) := by
  have hb := mapW_heap W k
  have hg := MapKept.run_getObj_map (P := P) hb
  have hs := fun o => MapKept.run_setObj_map (P := P) o hb
  have hc := MapKept.run_checkKey (P := P) (w := mapW W k) ut (k := .string p.1) trivial false 9999
  have hf : Instr.findNow .string (.string p.1) (entOf (formL.take k)) 0 = some none := by
    rcases MapKept.findNow_spec (d := .string) (k := .string p.1) trivial (entOf (formL.take k)) 0 (entOf_keys _) with ⟨h, _⟩ | ⟨j, e, h1, h2, h3⟩
    · exact h
    · exfalso
      have hn : ∀ k : Fin 10, ∀ j : Fin 10, j.1 < k.1 → (formL.getD j.1 (ByteArray.empty, 0, ByteArray.empty)).1.data.toList ≠ (formL.getD k.1 (ByteArray.empty, 0, ByteArray.empty)).1.data.toList := by decide
      have hj : j < k ∧ e.key = .string (formL.getD j (ByteArray.empty, 0, ByteArray.empty)).1 := by
        simp only [entOf, List.getElem?_map, List.getElem?_zipIdx, List.getElem?_take, Option.map_map] at h2
        by_cases hjk : j < k
        · rw [if_pos hjk] at h2
          obtain ⟨q, hq, rfl⟩ := Option.map_eq_some_iff.1 h2
          exact ⟨hjk, by rw [List.getD_eq_getElem?_getD, hq]; rfl⟩
        · rw [if_neg hjk] at h2
          cases h2
      have := hn ⟨k, hk⟩ ⟨j, by omega⟩ hj.1
      rw [hj.2] at h3
      apply this
      rw [Value.string.inj h3, List.getD_eq_getElem?_getD, hp]
      rfl
  have hfk := MapKept.run_findKey (P := P) (w := mapW W k) (l := (entOf (formL.take k)).toArray.toList) ut (by simpa using hf)
  unfold Instr.mapUpdate
  simp only [run_underlying um, hg, hc, hfk, hs, Sem.run_bind, Result.andThen_ok]
  rw [show (mapW W k) = W.alloc (.map (entOf (formL.take k)).toArray k) from rfl, set_alloc]
  show _ = Result.ok () (W.alloc (.map (entOf (formL.take (k + 1))).toArray (k + 1)))
  congr 3
  rw [List.take_add_one, hp]
  simp [entOf, List.zipIdx_append]
  rw [show formL.length = 10 from rfl]
  omega
theorem form_look (hz : ∀ w : World, (zeroValue b).run P w = .ok (formV (0, ByteArray.empty)) w) (W : World) (s : ByteArray) :
    (Instr.lookup m (.map (some W.heap.size)) (.string s) true).run P (mapW W 10) = .ok (.tuple #[formV (formStage s, formWords s), .bool (formOk s)]) (mapW W 10) := by
  have hb := mapW_heap W 10
  have hg := MapKept.run_getObj_map (P := P) hb
  have hc := fun e => MapKept.run_checkKey (P := P) (w := mapW W 10) ut (k := .string s) trivial e 9999
  have h10 : formL.take 10 = formL := rfl
  rw [h10] at hg
  have hcase : (Instr.findNow .string (.string s) (entOf formL) 0 = some none ∧ formOf s = none) ∨ ∃ j q, Instr.findNow .string (.string s) (entOf formL) 0 = some (some (j, formV q)) ∧ formOf s = some q := by
    rcases MapKept.findNow_spec (d := .string) (k := .string s) trivial (entOf formL) 0 (entOf_keys _) with ⟨h1, h2⟩ | ⟨j, e, h1, h2, h3⟩
    · refine .inl ⟨h1, ?_⟩
      unfold formOf
      rw [Option.map_eq_none_iff, List.find?_eq_none]
      intro q hq
      obtain ⟨i, hi, rfl⟩ := List.mem_iff_getElem.1 hq
      have hm : (⟨.string formL[i].1, formV formL[i].2, i⟩ : MapEntry) ∈ entOf formL := List.mem_map.2 ⟨(formL[i], i), by rw [List.mem_zipIdx_iff_getElem?]; exact List.getElem?_eq_getElem hi, rfl⟩
      have hne := h2 _ hm
      intro hh
      apply hne
      have := eq_of_beq hh
      show Value.string formL[i].1 = _
      congr 1
      cases hx : formL[i].1; cases s
      rw [hx] at this
      exact congrArg ByteArray.mk (Array.toList_inj.1 this)
    · simp only [entOf, List.getElem?_map, List.getElem?_zipIdx, Option.map_map] at h2
      obtain ⟨q, hq, rfl⟩ := Option.map_eq_some_iff.1 h2
      refine .inr ⟨0 + j, q.2, h1, ?_⟩
      have hs : q.1 = s := Value.string.inj h3
      have hall : ∀ j : Fin 10, formOf (formL.getD j.1 (ByteArray.empty, 0, ByteArray.empty)).1 = some (formL.getD j.1 (ByteArray.empty, 0, ByteArray.empty)).2 := by decide
      have hj : j < 10 := (List.getElem?_eq_some_iff.1 hq).1
      have := hall ⟨j, hj⟩
      rw [List.getD_eq_getElem?_getD, hq] at this
      rw [← hs]
      exact this
  unfold Instr.lookup
  rcases hcase with ⟨h1, h2⟩ | ⟨j, q, h1, h2⟩
  · have hfk := MapKept.run_findKey (P := P) (w := mapW W 10) (l := (entOf formL).toArray.toList) ut (by simpa using h1)
    simp [run_underlying um, hg, hc, hfk, hz, Sem.run_bind, Result.andThen_ok, formStage, formWords, formOk, h2]
  · have hfk := MapKept.run_findKey (P := P) (w := mapW W 10) (l := (entOf formL).toArray.toList) ut (by simpa using h1)
    simp [run_underlying um, hg, hc, hfk, Sem.run_bind, Result.andThen_ok, formStage, formWords, formOk, h2]
end
end Go.Proofs.YtakjbjokekbmbaaGreatDoor

/- Package conf: reader.right. -/
namespace Go.Proofs.YtakjbjokekbmbaaGreatDoor
open Go.RowKit
set_option linter.unusedVariables false

/-- May a line of stage k stand behind one of stage st? -/
def rightB (st : Int) (k : Nat) : Bool :=
  if k ≤ 2 then st == (k : Int) - 1 else if k = 3 then decide (2 ≤ st) else if k = 5 then (st == 3 || st == 4) else decide (3 ≤ st) && decide (st ≤ (k : Int))

set_option maxHeartbeats 1000000 in
theorem right0_any (st : Int) (rb : Nat) (w : World) (h : w.cell? ⟨rb, 5, none⟩ = some (.int .i64 st)) : Calls Tryz.prog 105 #[.pointer (some ⟨rb, 0, none⟩), .int .i64 0] w fun e w' => e = .returned (.bool (rightB st 0)) ∧ w = w' := by
  have HT := Lib.hid (show rightB st 0 = (st == -1) from rfl)
  obtain ⟨z, hz⟩ : ∃ z, (st == -1) = z := ⟨_, rfl⟩
  rw [hz] at HT
  go_enter Tryz.func105, Tryz.ntmps105
  go_wp2_with fail
  go_ret
  exact ⟨ret_bool HT.out.symm, rfl⟩
set_option maxHeartbeats 1000000 in
theorem right1_any (st : Int) (rb : Nat) (w : World) (h : w.cell? ⟨rb, 5, none⟩ = some (.int .i64 st)) : Calls Tryz.prog 105 #[.pointer (some ⟨rb, 0, none⟩), .int .i64 1] w fun e w' => e = .returned (.bool (rightB st 1)) ∧ w = w' := by
  have HT := Lib.hid (show rightB st 1 = (st == 0) from rfl)
  obtain ⟨z, hz⟩ : ∃ z, (st == 0) = z := ⟨_, rfl⟩
  rw [hz] at HT
  go_enter Tryz.func105, Tryz.ntmps105
  go_wp2_with fail
  go_ret
  exact ⟨ret_bool HT.out.symm, rfl⟩
set_option maxHeartbeats 1000000 in
theorem right2_any (st : Int) (rb : Nat) (w : World) (h : w.cell? ⟨rb, 5, none⟩ = some (.int .i64 st)) : Calls Tryz.prog 105 #[.pointer (some ⟨rb, 0, none⟩), .int .i64 2] w fun e w' => e = .returned (.bool (rightB st 2)) ∧ w = w' := by
  have HT := Lib.hid (show rightB st 2 = (st == 1) from rfl)
  obtain ⟨z, hz⟩ : ∃ z, (st == 1) = z := ⟨_, rfl⟩
  rw [hz] at HT
  go_enter Tryz.func105, Tryz.ntmps105
  go_wp2_with fail
  go_ret
  exact ⟨ret_bool HT.out.symm, rfl⟩
set_option maxHeartbeats 1000000 in
theorem right3_any (st : Int) (rb : Nat) (w : World) (h : w.cell? ⟨rb, 5, none⟩ = some (.int .i64 st)) : Calls Tryz.prog 105 #[.pointer (some ⟨rb, 0, none⟩), .int .i64 3] w fun e w' => e = .returned (.bool (rightB st 3)) ∧ w = w' := by
  have HT := Lib.hid (show rightB st 3 = decide (2 ≤ st) from rfl)
  go_enter Tryz.func105, Tryz.ntmps105
  go_wp2_with fail
  go_ret
  exact ⟨ret_bool HT.out.symm, rfl⟩
set_option maxHeartbeats 1000000 in
theorem right4_any (st : Int) (rb : Nat) (w : World) (h : w.cell? ⟨rb, 5, none⟩ = some (.int .i64 st)) : Calls Tryz.prog 105 #[.pointer (some ⟨rb, 0, none⟩), .int .i64 4] w fun e w' => e = .returned (.bool (rightB st 4)) ∧ w = w' := by
  have HT := Lib.hid (show rightB st 4 = (decide (3 ≤ st) && decide (st ≤ 4)) from rfl)
  by_cases h3 : 3 ≤ st
  · rw [decide_eq_true h3] at HT
    go_enter Tryz.func105, Tryz.ntmps105
    go_wp2_with fail
    go_ret
    exact ⟨ret_bool HT.out.symm, rfl⟩
  · rw [decide_eq_false h3] at HT
    go_enter Tryz.func105, Tryz.ntmps105
    go_wp2_with fail
    go_ret
    exact ⟨ret_bool HT.out.symm, rfl⟩
set_option maxHeartbeats 1000000 in
theorem right5_any (st : Int) (rb : Nat) (w : World) (h : w.cell? ⟨rb, 5, none⟩ = some (.int .i64 st)) : Calls Tryz.prog 105 #[.pointer (some ⟨rb, 0, none⟩), .int .i64 5] w fun e w' => e = .returned (.bool (rightB st 5)) ∧ w = w' := by
  have HT := Lib.hid (show rightB st 5 = (st == 3 || st == 4) from rfl)
  obtain ⟨z, hz⟩ : ∃ z, (st == 3) = z := ⟨_, rfl⟩
  obtain ⟨y, hy⟩ : ∃ y, (st == 4) = y := ⟨_, rfl⟩
  rw [hz, hy] at HT
  go_enter Tryz.func105, Tryz.ntmps105
  cases z
  case false =>
    go_wp2_with fail
    go_ret
    exact ⟨ret_bool HT.out.symm, rfl⟩
  case true =>
    go_wp2_with fail
    go_ret
    exact ⟨ret_bool HT.out.symm, rfl⟩
set_option maxHeartbeats 1000000 in
theorem right6_any (st : Int) (rb : Nat) (w : World) (h : w.cell? ⟨rb, 5, none⟩ = some (.int .i64 st)) : Calls Tryz.prog 105 #[.pointer (some ⟨rb, 0, none⟩), .int .i64 6] w fun e w' => e = .returned (.bool (rightB st 6)) ∧ w = w' := by
  have HT := Lib.hid (show rightB st 6 = (decide (3 ≤ st) && decide (st ≤ 6)) from rfl)
  by_cases h3 : 3 ≤ st
  · rw [decide_eq_true h3] at HT
    go_enter Tryz.func105, Tryz.ntmps105
    go_wp2_with fail
    go_ret
    exact ⟨ret_bool HT.out.symm, rfl⟩
  · rw [decide_eq_false h3] at HT
    go_enter Tryz.func105, Tryz.ntmps105
    go_wp2_with fail
    go_ret
    exact ⟨ret_bool HT.out.symm, rfl⟩
set_option maxHeartbeats 1000000 in
theorem right7_any (st : Int) (rb : Nat) (w : World) (h : w.cell? ⟨rb, 5, none⟩ = some (.int .i64 st)) : Calls Tryz.prog 105 #[.pointer (some ⟨rb, 0, none⟩), .int .i64 7] w fun e w' => e = .returned (.bool (rightB st 7)) ∧ w = w' := by
  have HT := Lib.hid (show rightB st 7 = (decide (3 ≤ st) && decide (st ≤ 7)) from rfl)
  by_cases h3 : 3 ≤ st
  · rw [decide_eq_true h3] at HT
    go_enter Tryz.func105, Tryz.ntmps105
    go_wp2_with fail
    go_ret
    exact ⟨ret_bool HT.out.symm, rfl⟩
  · rw [decide_eq_false h3] at HT
    go_enter Tryz.func105, Tryz.ntmps105
    go_wp2_with fail
    go_ret
    exact ⟨ret_bool HT.out.symm, rfl⟩
set_option maxHeartbeats 1000000 in
theorem right8_any (st : Int) (rb : Nat) (w : World) (h : w.cell? ⟨rb, 5, none⟩ = some (.int .i64 st)) : Calls Tryz.prog 105 #[.pointer (some ⟨rb, 0, none⟩), .int .i64 8] w fun e w' => e = .returned (.bool (rightB st 8)) ∧ w = w' := by
  have HT := Lib.hid (show rightB st 8 = (decide (3 ≤ st) && decide (st ≤ 8)) from rfl)
  by_cases h3 : 3 ≤ st
  · rw [decide_eq_true h3] at HT
    go_enter Tryz.func105, Tryz.ntmps105
    go_wp2_with fail
    go_ret
    exact ⟨ret_bool HT.out.symm, rfl⟩
  · rw [decide_eq_false h3] at HT
    go_enter Tryz.func105, Tryz.ntmps105
    go_wp2_with fail
    go_ret
    exact ⟨ret_bool HT.out.symm, rfl⟩
set_option maxHeartbeats 1000000 in
theorem right9_any (st : Int) (rb : Nat) (w : World) (h : w.cell? ⟨rb, 5, none⟩ = some (.int .i64 st)) : Calls Tryz.prog 105 #[.pointer (some ⟨rb, 0, none⟩), .int .i64 9] w fun e w' => e = .returned (.bool (rightB st 9)) ∧ w = w' := by
  have HT := Lib.hid (show rightB st 9 = (decide (3 ≤ st) && decide (st ≤ 9)) from rfl)
  by_cases h3 : 3 ≤ st
  · rw [decide_eq_true h3] at HT
    go_enter Tryz.func105, Tryz.ntmps105
    go_wp2_with fail
    go_ret
    exact ⟨ret_bool HT.out.symm, rfl⟩
  · rw [decide_eq_false h3] at HT
    go_enter Tryz.func105, Tryz.ntmps105
    go_wp2_with fail
    go_ret
    exact ⟨ret_bool HT.out.symm, rfl⟩
theorem right_any (st : Int) (k : Nat) (hk : k ≤ 9) (rb : Nat) (w : World) (h : w.cell? ⟨rb, 5, none⟩ = some (.int .i64 st)) : Calls Tryz.prog 105 #[.pointer (some ⟨rb, 0, none⟩), .int .i64 k] w fun e w' => e = .returned (.bool (rightB st k)) ∧ w = w' := by
  match k, hk with
  | 0, _ => exact right0_any st rb w h
  | 1, _ => exact right1_any st rb w h
  | 2, _ => exact right2_any st rb w h
  | 3, _ => exact right3_any st rb w h
  | 4, _ => exact right4_any st rb w h
  | 5, _ => exact right5_any st rb w h
  | 6, _ => exact right6_any st rb w h
  | 7, _ => exact right7_any st rb w h
  | 8, _ => exact right8_any st rb w h
  | 9, _ => exact right9_any st rb w h
end Go.Proofs.YtakjbjokekbmbaaGreatDoor

/- Package conf: number. -/
namespace Go.Proofs.YtakjbjokekbmbaaGreatDoor
open Go.RowKit
set_option linter.unusedVariables false

/-- The number that a word spells as it is written. -/
def numV (s : ByteArray) : Option Nat :=
  match Lib.atoiAll s.data.toList with
  | .ok v => if s.size ≤ 13 ∧ 0 ≤ v ∧ Lib.itoa v = s.data.toList then some v.toNat else none
  | _ => none
/-- What a number is read by: the table, the two errors of package strconv. -/
structure NumB (B : Nat) (w : World) : Prop where
  tab : TabB B w
  es : ∃ t p, w.cell? ⟨16, 0, none⟩ = some (.iface t p)
  er : ∃ t p, w.cell? ⟨17, 0, none⟩ = some (.iface t p)
  low : 16 < B ∧ 17 < B
theorem NumB.below {B C : Nat} {w w' : World} (h : NumB B w) (b : Below C w w') (hC : B ≤ C) : NumB B w' := by
  obtain ⟨t, p, h1⟩ := h.es
  obtain ⟨t', p', h2⟩ := h.er
  have hl := h.low
  exact ⟨h.tab.low b hC, ⟨t, p, by rw [b.cell (p := ⟨16, 0, none⟩) (show 16 < C by omega)]; exact h1⟩, ⟨t', p', by rw [b.cell (p := ⟨17, 0, none⟩) (show 17 < C by omega)]; exact h2⟩, hl⟩

set_option maxHeartbeats 2000000 in
theorem number_any (B : Nat) (s : ByteArray) (hs : s.size ≤ 100000) (w : World) (hN : NumB B w) (hB : B ≤ w.heap.size) :
    Calls Tryz.prog 106 #[.string s] w fun e w' => ∃ n, e = .returned (.tuple #[.int .i64 n, .bool (numV s).isSome]) ∧ (∀ k, numV s = some k → n = k) ∧ Below w.heap.size w w' := by
  have HN := Lib.hid hN
  have HB := Lib.hid hB
  cases hA : Lib.atoiAll s.data.toList
  case ok v =>
    obtain ⟨b0, b1⟩ := Lib.atoiAll_bounds hA
    have HC := Lib.hid (Tryz.strconv_Atoi_ok s (by omega) v hA w)
    have HNV := Lib.hid (show numV s = if s.size ≤ 13 ∧ 0 ≤ v ∧ Lib.itoa v = s.data.toList then some v.toNat else none from by unfold numV; rw [hA])
    have HIT := Lib.hid (fun W (hW : Below w.heap.size w W) => itoa_any B v W ((hN.below hW hB).tab) b0 b1)
    clear hA hN b0 b1 hB hs
    go_enter Tryz.func106, Tryz.ntmps106
    go_wp2_with fail
    refine HC.out.mono ?_
    rintro e w1 ⟨rfl, hw⟩
    have hb1 : Below w.heap.size w w1 := by
      rcases hw with rfl | ⟨t, rfl⟩
      · exact Below.refl _ _
      · exact Lib.bytesWorld_below _ _ _
    clear hw HC
    have HI := Lib.hid (HIT.out w1 hb1)
    clear HIT
    by_cases h13 : (s.size : Int) ≤ 13
    · by_cases h0 : 0 ≤ v
      · obtain ⟨z, hz⟩ : ∃ z, (Lib.itoa v == s.toList) = z := ⟨_, rfl⟩
        have HZ := Lib.hid hz
        have H13 := Lib.hid (show s.size ≤ 13 from by omega)
        have H0 := Lib.hid h0
        have hdat : (Lib.itoa v = s.data.toList) ↔ z = true := by
          rw [← HZ.out, beq_iff_eq, ByteArray.toList_eq]
        have HD := Lib.hid hdat
        clear hdat
        have HR : Hid (z = (numV s).isSome) := (show z = (numV s).isSome from by
          rw [HNV.out]
          cases z
          · rw [if_neg (fun hh => by have := HD.out.1 hh.2.2; cases this)]; rfl
          · rw [if_pos ⟨H13.out, H0.out, HD.out.2 rfl⟩]; rfl)
        have HK : Hid (∀ k, numV s = some k → v = k) := (show ∀ k, numV s = some k → v = k from by
          intro k hk
          rw [HNV.out] at hk
          split at hk
          · have := Option.some.inj hk
            have := H0.out
            omega
          · cases hk)
        go_wp2_with fail
        refine HI.out.mono ?_
        rintro e w2 ⟨rfl, b2⟩
        have hb2 := hb1.trans (b2.mono hb1.size)
        go_wp2_with fail
        refine bodyPost_ret (results_tmp2 rfl _ _ _) rfl ?_
        exact ⟨_, by rw [← HR.out]; rfl, HK.out, hb2⟩
      · have HR : Hid (numV s = none) := (show numV s = none from by rw [HNV.out, if_neg (fun hh => h0 hh.2.1)])
        clear HNV
        go_wp2_with fail
        refine bodyPost_ret (results_tmp2 rfl _ _ _) rfl ?_
        exact ⟨_, by rw [HR.out]; rfl, (fun k hk => by rw [HR.out] at hk; cases hk), hb1⟩
    · have HR : Hid (numV s = none) := (show numV s = none from by rw [HNV.out, if_neg (fun hh => h13 (by omega))])
      clear HNV
      go_wp2_with fail
      refine bodyPost_ret (results_tmp2 rfl _ _ _) rfl ?_
      exact ⟨_, by rw [HR.out]; rfl, (fun k hk => by rw [HR.out] at hk; cases hk), hb1⟩
  case range =>
    obtain ⟨t, p, her⟩ := hN.er
    have HR : Hid (numV s = none) := (show numV s = none from by unfold numV; rw [hA])
    have HC := Lib.hid (Tryz.strconv_Atoi_range s (by omega) hA (.iface t p) w her (.inr ⟨_, _, rfl⟩))
    clear hA hN her hB hs
    go_enter Tryz.func106, Tryz.ntmps106
    go_wp2_with fail
    refine HC.out.mono ?_
    rintro e w1 ⟨N, rfl, _, _, hb1⟩
    clear HC
    go_wp2_with fail
    refine bodyPost_ret (results_tmp2 rfl _ _ _) rfl ?_
    exact ⟨_, by rw [HR.out]; rfl, (fun k hk => by rw [HR.out] at hk; cases hk), hb1⟩
  all_goals
    obtain ⟨t, p, hes⟩ := hN.es
    have HR : Hid (numV s = none) := (show numV s = none from by unfold numV; rw [hA])
    have HC := Lib.hid (Tryz.strconv_Atoi_bad s (by omega) (fun v hv => by rw [hA] at hv; cases hv) (fun hv => by rw [hA] at hv; cases hv) (.iface t p) w hes (.inr ⟨_, _, rfl⟩))
    clear hA hN hes hB hs
    go_enter Tryz.func106, Tryz.ntmps106
    go_wp2_with fail
    refine HC.out.mono ?_
    rintro e w1 ⟨N, rfl, _, _, hb1⟩
    clear HC
    go_wp2_with fail
    refine bodyPost_ret (results_tmp2 rfl _ _ _) rfl ?_
    exact ⟨_, by rw [HR.out]; rfl, (fun k hk => by rw [HR.out] at hk; cases hk), hb1⟩
end Go.Proofs.YtakjbjokekbmbaaGreatDoor

/- strings.Split at a separator of one byte. -/
namespace Go.Proofs.YtakjbjokekbmbaaGreatDoor
open Go.RowKit
set_option linter.unusedVariables false

def piecesB (c : UInt8) (s : ByteArray) : List ByteArray := Lib.splitB ⟨#[c]⟩ 0 (Lib.countB s ⟨#[c]⟩) s
theorem pieces_len (c : UInt8) (s : ByteArray) : (piecesB c s).length = Lib.countB s ⟨#[c]⟩ + 1 := Lib.splitB_all ⟨#[c]⟩ (Nat.le_refl 1) 0 _ s rfl
theorem genSplit_one (s : ByteArray) (c : UInt8) (w : World) (hs : s.size < 4294967281) :
    Calls Tryz.prog 102 #[.string s, .string ⟨#[c]⟩, .int .i64 0, .int .i64 (-1)] w fun e w' =>
      e = .returned (.slice (some ⟨w.heap.size, 0, none⟩) (piecesB c s).length (piecesB c s).length) ∧ w' = w.alloc (.cells ((piecesB c s).map Value.string).toArray 9) := by
  have hle := Lib.countB_le ⟨#[c]⟩ (Nat.le_refl 1) s.size s (Nat.le_refl _)
  have hl := pieces_len c s
  have k := Any.strings_genSplit_core Tryz.lays221 (by kernel_rfl) s ⟨#[c]⟩ 0 (-1) (Lib.countB s ⟨#[c]⟩ + 1) w hs (Nat.le_refl 1) (Nat.zero_le _)
    (fun x cc hx => (Tryz.strings_Index_one x c _).mono fun e w' ⟨he, hw⟩ => ⟨by rw [he]; show _ = Ending.returned (Value.int .i64 (Lib.index x.data.toList [c])); rw [Lib.index_one], hw⟩)
    ((Tryz.strings_Count_one s c w).mono fun e w' ⟨he, hw⟩ => ⟨by
      rw [he]
      show _ = Ending.returned (Value.int .i64 ((Lib.count s.data.toList [c] : Nat) : Int))
      rw [Lib.count_one]
      rfl, hw⟩)
    (by decide) (by decide) (by rw [if_pos (by decide)]; omega)
  rw [Nat.add_sub_cancel, show Lib.splitB ⟨#[c]⟩ 0 (Lib.countB s ⟨#[c]⟩) s = piecesB c s from rfl, ← hl, Lib.cellsOf_full] at k
  exact k
set_option maxHeartbeats 1000000 in
theorem split_one (s : ByteArray) (c : UInt8) (w : World) (hs : s.size < 4294967281) :
    Calls Tryz.prog 77 #[.string s, .string ⟨#[c]⟩] w fun e w' =>
      e = .returned (.slice (some ⟨w.heap.size, 0, none⟩) (piecesB c s).length (piecesB c s).length) ∧ w' = w.alloc (.cells ((piecesB c s).map Value.string).toArray 9) := by
  have HC := Lib.hid (genSplit_one s c w hs)
  obtain ⟨n, hn⟩ : ∃ n, n = (piecesB c s).length := ⟨_, rfl⟩
  rw [← hn] at HC ⊢
  clear hn hs
  go_enter Tryz.func77, Tryz.ntmps77
  go_wp2_with fail
  refine HC.out.mono ?_
  rintro e w1 ⟨rfl, hw⟩
  have HW := Lib.hid hw
  clear hw HC
  go_wp2_with fail
  go_ret
  exact ⟨rfl, HW.out⟩
end Go.Proofs.YtakjbjokekbmbaaGreatDoor

/- Plain: a text cut at a byte, put together again. -/
namespace Go.Proofs.YtakjbjokekbmbaaGreatDoor
open Go.RowKit
set_option linter.unusedVariables false

def cutL (c : UInt8) : List UInt8 → List (List UInt8)
  | [] => [[]]
  | x :: l => if x = c then [] :: cutL c l else match cutL c l with
    | [] => [[x]]
    | h :: t => (x :: h) :: t
def interL (c : UInt8) : List (List UInt8) → List UInt8
  | [] => []
  | [p] => p
  | p :: q :: ps => p ++ c :: interL c (q :: ps)
theorem cut_cons (c x : UInt8) (l : List UInt8) : cutL c (x :: l) = if x = c then [] :: cutL c l else match cutL c l with
    | [] => [[x]]
    | h :: t => (x :: h) :: t := rfl
theorem cut_ne (c : UInt8) : ∀ l, cutL c l ≠ []
  | [] => by simp [cutL]
  | x :: l => by
    unfold cutL
    split
    · simp
    · split <;> simp
theorem cut_miss (c : UInt8) : ∀ l : List UInt8, c ∉ l → cutL c l = [l]
  | [], _ => rfl
  | x :: l, h => by
    have h1 : ¬ x = c := fun e => h (by simp [e])
    have h2 := cut_miss c l (fun e => h (List.mem_cons_of_mem _ e))
    unfold cutL
    rw [if_neg h1, h2]
theorem cut_hit (c : UInt8) (b : List UInt8) : ∀ a : List UInt8, c ∉ a → cutL c (a ++ c :: b) = a :: cutL c b
  | [], _ => by simp [cutL]
  | x :: a, h => by
    have h1 : ¬ x = c := fun e => h (by simp [e])
    have h2 := cut_hit c b a (fun e => h (List.mem_cons_of_mem _ e))
    show cutL c (x :: (a ++ c :: b)) = _
    rw [cut_cons, if_neg h1, h2]
theorem inter_cons (c : UInt8) (p : List UInt8) {ps : List (List UInt8)} (h : ps ≠ []) : interL c (p :: ps) = p ++ c :: interL c ps := by
  cases ps with
  | nil => exact absurd rfl h
  | cons q ps => rfl
theorem inter_cut (c : UInt8) : ∀ l, interL c (cutL c l) = l
  | [] => rfl
  | x :: l => by
    have ih := inter_cut c l
    have hne := cut_ne c l
    unfold cutL
    split
    · next h => rw [inter_cons c [] hne, ih, h]; rfl
    · split
      · next h => exact absurd h hne
      · next h t he =>
        rw [he] at ih
        cases t with
        | nil =>
          show x :: h = x :: l
          rw [show h = l from ih]
        | cons q t =>
          show x :: h ++ c :: interL c (q :: t) = x :: l
          rw [← ih]; rfl
theorem cut_inter (c : UInt8) : ∀ ps : List (List UInt8), ps ≠ [] → (∀ p ∈ ps, c ∉ p) → cutL c (interL c ps) = ps
  | [], h, _ => absurd rfl h
  | [p], _, h => cut_miss c p (h p (List.mem_cons_self ..))
  | p :: q :: ps, _, h => by
    rw [inter_cons c p (by simp), cut_hit c _ p (h p (List.mem_cons_self ..)), cut_inter c (q :: ps) (by simp) (fun x hx => h x (List.mem_cons_of_mem _ hx))]
theorem splitK_cut (c : UInt8) : ∀ (k : Nat) (l : List UInt8), l.count c = k → Lib.splitK [c] 0 k l = cutL c l
  | 0, l, h => by
    have hm : c ∉ l := List.count_eq_zero.1 h
    rw [cut_miss c l hm]; rfl
  | k + 1, l, h => by
    have hge := Lib.indexByte_ge l c
    by_cases hi : Lib.indexByte l c = -1
    · exfalso
      have hm : c ∈ l := List.count_pos_iff.1 (by omega)
      obtain ⟨j, hj, he⟩ := List.mem_iff_getElem.1 hm
      exact Lib.indexByte_none hi j (by rw [List.getElem?_eq_getElem hj, he])
    · obtain ⟨o, ho⟩ : ∃ o : Nat, Lib.indexByte l c = o := ⟨(Lib.indexByte l c).toNat, by omega⟩
      obtain ⟨h1, h2⟩ := Lib.indexByte_some ho
      have ho2 : o < l.length := (List.getElem?_eq_some_iff.1 h1).1
      have hsplit : l = l.take o ++ c :: l.drop (o + 1) := by
        have : l[o] = c := (List.getElem?_eq_some_iff.1 h1).2
        rw [← this, List.getElem_cons_drop, List.take_append_drop]
      have hno : c ∉ l.take o := by
        intro hm
        obtain ⟨j, hj, he⟩ := List.mem_iff_getElem.1 hm
        rw [List.length_take] at hj
        rw [List.getElem_take] at he
        exact h2 j (by omega) (by rw [List.getElem?_eq_getElem (by omega), he])
      have hcnt : (l.drop (o + 1)).count c = k := by
        have := congrArg (List.count c) hsplit
        rw [List.count_append, List.count_eq_zero.2 hno, List.count_cons_self] at this
        omega
      have e : Lib.splitK [c] 0 (k + 1) l = l.take o :: Lib.splitK [c] 0 k (l.drop (o + 1)) := by
        rw [Lib.splitK]
        rw [Lib.index_one, ho, if_neg (by simp)]
        simp
      rw [e, splitK_cut c k _ hcnt]
      conv => rhs; rw [hsplit]
      rw [cut_hit c _ _ hno]
theorem pieces_cut (c : UInt8) (s : ByteArray) : (piecesB c s).map (·.data.toList) = cutL c s.data.toList := by
  unfold piecesB
  rw [Lib.splitB_data]
  refine splitK_cut c _ _ ?_
  show _ = Lib.count s.data.toList [c]
  rw [Lib.count_one]
end Go.Proofs.YtakjbjokekbmbaaGreatDoor

/- Plain: what conf's reader makes of lines. -/
namespace Go.Proofs.YtakjbjokekbmbaaGreatDoor
open Go.RowKit
set_option linter.unusedVariables false

structure RdS where
  c : ConfV
  stage : Int
def RdS.start : RdS := ⟨⟨0, 0, 0, 0, []⟩, -1⟩
def noE : EntV := ⟨ByteArray.empty, 0, [], -1, 0, 0, [], [], [], []⟩
def lastE (L : List EntV) : EntV := L.getLast?.getD noE
def newE (name : ByteArray) (tol : Int) : EntV := ⟨name, tol, [], -1, 0, 0, [], [], [], []⟩
def takeE (k : Nat) (name : ByteArray) (n : List Int) (E : EntV) : EntV :=
  if k = 4 then { E with points := E.points ++ [name] }
  else if k = 5 then { E with count := n.getD 0 0, mn := n.getD 1 0, mx := n.getD 2 0 }
  else if k = 6 then { E with gaps := E.gaps ++ [⟨n.getD 0 0, n.getD 1 0, n.getD 2 0, n.getD 3 0⟩] }
  else if k = 7 then { E with edges := E.edges ++ [(n.getD 0 0, n.getD 1 0)] }
  else if k = 8 then { E with first := E.first ++ [n.getD 0 0] }
  else if k = 9 then { E with last := E.last ++ [n.getD 0 0] }
  else E
def takeC (k : Nat) (name : ByteArray) (n : List Int) (C : ConfV) : ConfV :=
  if k = 0 then { C with closed := n.getD 0 0, opn := n.getD 1 0 }
  else if k = 1 then { C with cycle := n.getD 0 0 }
  else if k = 2 then { C with delay := n.getD 0 0 }
  else if k = 3 then { C with ents := C.ents ++ [newE name (n.getD 0 0)] }
  else { C with ents := C.ents.dropLast ++ [takeE k name n (lastE C.ents)] }

/-- The place of a text in a list; -1: it is not there. -/
def idxS (l : List ByteArray) (s : ByteArray) : Int := sidxOf l s
/-- One word of a line: what is known behind it; none: it is bad. -/
def wordStep (pts : List ByteArray) (f : UInt8) (t : ByteArray) (p : List Int × Bool) : Option (List Int × Bool) :=
  if f = 110 then (match numV t with | some k => some (p.1 ++ [(k : Int)], p.2) | none => none)
  else if t.size = 0 then none
  else if f = 112 then some (p.1 ++ [idxS pts t], p.2 || decide (idxS pts t < 0))
  else some p
def wordsUp (pts : List ByteArray) (fs : List UInt8) (ts : List ByteArray) : Nat → Option (List Int × Bool)
  | 0 => some ([], false)
  | k + 1 => match wordsUp pts fs ts k with
    | none => none
    | some p => wordStep pts (fs.getD k 0) (ts.getD k ByteArray.empty) p
theorem wordsUp_none {pts : List ByteArray} {fs : List UInt8} {ts : List ByteArray} {k : Nat} (h : wordsUp pts fs ts k = none) : ∀ m, k ≤ m → wordsUp pts fs ts m = none := by
  intro m
  induction m with
  | zero => intro hk; have hk0 : k = 0 := Nat.le_zero.1 hk; rw [hk0] at h; exact h
  | succ m ih =>
    intro hk
    by_cases he : k = m + 1
    · subst he; exact h
    · unfold wordsUp; rw [ih (by omega)]
/-- A line's words, its first one apart. -/
def lineW (s : ByteArray) : List ByteArray := piecesB 32 s
def lineHd (s : ByteArray) : ByteArray := (lineW s).headD ByteArray.empty
def lineFits (st : RdS) (s : ByteArray) : Bool := formOk (lineHd s) && rightB st.stage (formStage (lineHd s)) && ((lineW s).length - 1 == (formWords (lineHd s)).size)
def lineRes (st : RdS) (s : ByteArray) : Option (List Int × Bool) := wordsUp (lastE st.c.ents).points (formWords (lineHd s)).data.toList (lineW s).tail (formWords (lineHd s)).size
/-- What a line makes: an error's number, what is known behind it. -/
def lineR (st : RdS) (s : ByteArray) : Nat × RdS :=
  if lineFits st s = true then
    match lineRes st s with
    | none => (1, st)
    | some p => if p.2 = true then (5, st) else (0, ⟨takeC (formStage (lineHd s)) ((lineW s).getD 1 ByteArray.empty) p.1 st.c, formStage (lineHd s)⟩)
  else (1, st)
def linesUp (ls : List ByteArray) : Nat → RdS
  | 0 => RdS.start
  | k + 1 => (lineR (linesUp ls k) (ls.getD k ByteArray.empty)).2
def lineAt (ls : List ByteArray) (i : Nat) : Nat := (lineR (linesUp ls i) (ls.getD i ByteArray.empty)).1
def linesF (ls : List ByteArray) : Nat × Int := match (List.range ls.length).find? (fun i => lineAt ls i != 0) with | some i => (lineAt ls i, (i : Int)) | none => (0, -1)
theorem linesF_hit {L : List ByteArray} {k : Nat} (hk : k < L.length) (h : lineAt L k ≠ 0) (hb : ∀ j, j < k → lineAt L j = 0) : linesF L = (lineAt L k, (k : Int)) := by
  have : (List.range L.length).find? (fun i => lineAt L i != 0) = some k := by
    rw [List.find?_range_eq_some]
    refine ⟨by simpa using h, List.mem_range.2 hk, fun j hj => ?_⟩
    simp [hb j hj]
  unfold linesF
  rw [this]
theorem linesF_miss {L : List ByteArray} (h : ∀ j, j < L.length → lineAt L j = 0) : linesF L = (0, -1) := by
  have : (List.range L.length).find? (fun i => lineAt L i != 0) = none := by
    rw [List.find?_eq_none]
    intro i hi
    simp [h i (List.mem_range.1 hi)]
  unfold linesF
  rw [this]
/-- A text's lines: the last sign is none of a line's if it ends one. -/
def textCut (s : ByteArray) : ByteArray := if s.data.toList.getLast? = some 10 then s.extract 0 (s.size - 1) else s
def textLines (s : ByteArray) : List ByteArray := if s.size = 0 then [] else piecesB 10 (textCut s)
def zeroC : ConfV := ⟨0, 0, 0, 0, []⟩
/-- What a text makes: a config, or a fault. -/
def readF (s : ByteArray) : ConfV × (Nat × Int) :=
  if 8000 < s.size then (zeroC, (2, -1))
  else if (linesF (textLines s)).1 ≠ 0 then (zeroC, linesF (textLines s))
  else if (linesUp (textLines s) (textLines s).length).stage < 2 then (zeroC, (1, ((textLines s).length : Int)))
  else if (confF (linesUp (textLines s) (textLines s).length).c).1 ≠ 0 then (zeroC, confF (linesUp (textLines s) (textLines s).length).c)
  else ((linesUp (textLines s) (textLines s).length).c, (0, -1))
end Go.Proofs.YtakjbjokekbmbaaGreatDoor
