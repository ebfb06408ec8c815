import Derived.Test.YtikehilbmldadaaGreatDoorQ23
import Derived.Test.YtikehilbmldadaaGreatDoorQ22
import Derived.Shelf.RegionOpenPlain
import Derived.Lib.ItoaLen
import Derived.Test.YtikehilbmldadaaGreatDoorQ01
import Derived.MapKept
import Derived.Carry
import Derived.Deep.DeepCutAuto
import Derived.Test.YtikehilbmldadaaGreatDoorQ24
import Derived.Test.YtikehilbmldadaaGreatDoorQ07
import Derived.Test.YtikehilbmldadaaGreatDoorQ25
set_option maxHeartbeats 1000000
set_option maxRecDepth 100000
namespace Go.Proofs.YtikehilbmldadaaGreatDoor
open Go.RowKit
set_option linter.unusedVariables false
theorem pgString_any (B b : Nat) (l : List UInt8) (w : World) (h : Pg B b l w) (h0 : l ≠ []) :
    Calls Tryz.prog 59 #[.pointer (some ⟨b, 0, none⟩)] w fun e w' => e = .returned (.string ⟨l.toArray⟩) ∧ Below B w w' := by
  obtain ⟨p, hB, v, hbk, hown, hne⟩ := h.at_
  have hl0 : l.length ≠ 0 := by simpa using h0
  rw [Lib.byteCells_length] at hown
  obtain ⟨g, cap, cur, rfl, hbg, hg, hnc, hcm, hcs, htake⟩ : ∃ g cap cur, v = .slice (some ⟨g, 0, none⟩) l.length cap ∧ B ≤ g ∧ w.heap[g]? = some (.cells cur 5 (0, 0)) ∧ l.length ≤ cap ∧ cap ≤ maxLen ∧ cur.size = cap * 1 ∧ cur.toList.take (l.length * 1) = Lib.byteCells l := by
    rcases hown.2 with ⟨_, hz⟩ | ⟨g, cap, cur, hv, r⟩
    · exact absurd hz hl0
    · exact ⟨g, cap, cur, hv, r⟩
  have c1 : w.drew.cell? ⟨b, 1, none⟩ = some (.slice (some ⟨g, 0, none⟩) l.length cap) := by
    have : w.drew.heap[b]? = some (.cells #[p, .slice (some ⟨g, 0, none⟩) l.length cap] 123 (0, 0)) := hbk
    rw [Lib.cell_of_heap this]; rfl
  have hSD : (Builtin.unsafeSliceData_ #[85] 199 #[.slice (some ⟨g, 0, none⟩) l.length cap]).run Tryz.prog w.drew = .ok (.pointer (some ⟨g, 0, none⟩)) w.drew :=
    Lib.run_unsafeSliceData_row _ _ _ _ _ _ (by omega)
  have hUS : (Builtin.unsafeString_ #[199, 3] 9 #[.pointer (some ⟨g, 0, none⟩), .int .i64 l.length]).run Tryz.prog w.drew = .ok (.string ⟨l.toArray⟩) (w.drew.freeze ⟨g, 0, none⟩ l.length) := by
    refine Lib.run_unsafeString_row w.drew 199 3 9 5 Tryz.underlying199 Tryz.cellsByteP g cur.size (by have hg' : w.drew.heap[g]? = some (.cells cur 5 (0, 0)) := hg; simp [World.shape?, hg']) l h0 (by omega) (by unfold maxLen at hcm; omega) ?_
    intro j x hx
    have := hown.cells (g := g) rfl j (.int .u8 x.toNat) (by simp [Lib.byteCells, hx])
    exact this
  have HBG := Lib.hid hbg
  have mixed : Tryz.prog.follows Departure.mixedOrders = true := by kernel_rfl
  clear hown hbk hg htake hcs hcm hnc h0 hl0 h hne hbg
  go_enter Tryz.func59, Tryz.ntmps59
  go_wp2
  go_region_o
  all_goals (go_wp2; go_ret; exact ⟨rfl, Lib.below_freeze (Below.drew (Below.refl B w)) (p := ⟨g, 0, none⟩) HBG.out _⟩)
def winB : ByteArray := ⟨#[119, 105, 110, 100, 111, 119]⟩
def cycB : ByteArray := ⟨#[99, 121, 99, 108, 101]⟩
def delB : ByteArray := ⟨#[100, 101, 108, 97, 121]⟩
def headL (C : ConfV) : List (List W1) := [[.str winB, .num C.closed, .num C.opn], [.str cycB, .num C.cycle], [.str delB, .num C.delay]]
def headB (C : ConfV) : List UInt8 := (headL C).flatMap lineB
theorem upB_small (ws : List W1) (hs : ∀ x ∈ ws, (wordB x).length ≤ 40) : ∀ k, k ≤ ws.length → (upB ws k).length ≤ 41 * k
  | 0, _ => by simp [upB]
  | k + 1, hk => by
    have ih := upB_small ws hs k (by omega)
    have h1 := hs ws[k] (List.getElem_mem (by omega))
    rw [upB_succ ws k (by omega), List.length_append]
    unfold sepB
    split
    · omega
    · rw [List.length_cons]; omega
theorem lineB_small (ws : List W1) (hs : ∀ x ∈ ws, (wordB x).length ≤ 40) : (lineB ws).length ≤ 41 * ws.length + 1 := by
  unfold lineB
  rw [List.length_append, List.length_singleton]
  have := upB_small ws hs ws.length (Nat.le_refl _)
  omega
theorem num_small (n : Int) (h : W1Ok (.num n)) : (wordB (.num n)).length ≤ 40 := Nat.le_trans (Lib.itoa_length_le n h.1 h.2) (by decide)
theorem str_small (s : ByteArray) (h : s.size ≤ 40) : (wordB (.str s)).length ≤ 40 := by
  show s.data.toList.length ≤ 40
  rw [Array.length_toList]; exact h
structure WsOk (ws : List W1) : Prop where
  ok : ∀ x ∈ ws, W1Ok x ∧ (wordB x).length ≤ 40
  len : ws.length ≤ 5
theorem WsOk.line {ws : List W1} (h : WsOk ws) : (lineB ws).length ≤ 206 := by
  have := lineB_small ws (fun x hx => (h.ok x hx).2)
  have := h.len
  omega
theorem WsOk.nil : WsOk [] := ⟨fun x hx => (by cases hx), by decide⟩
theorem WsOk.str {ws : List W1} (h : WsOk ws) (hl : ws.length ≤ 4) (s : ByteArray) (hs : s.size ≤ 40) : WsOk (.str s :: ws) :=
  ⟨fun x hx => by
    rcases List.mem_cons.1 hx with rfl | hx
    · exact ⟨trivial, str_small s hs⟩
    · exact h.ok x hx, by simp; omega⟩
theorem WsOk.num {ws : List W1} (h : WsOk ws) (hl : ws.length ≤ 4) (n : Int) (hn : -9223372036854775808 ≤ n ∧ n ≤ 9223372036854775807) : WsOk (.num n :: ws) :=
  ⟨fun x hx => by
    rcases List.mem_cons.1 hx with rfl | hx
    · exact ⟨hn, num_small n hn⟩
    · exact h.ok x hx, by simp; omega⟩
theorem line_step {B b : Nat} {l : List UInt8} {ws : List W1} {w0 wk : World} (h : PG B b l w0 wk) (hT : TabB B w0) (hw : WsOk ws) (hl : l.length ≤ 900000) :
    Calls Tryz.prog 58 #[.pointer (some ⟨b, 0, none⟩), .slice (some ⟨wk.heap.size, 0, none⟩) ws.length ws.length] (wk.alloc (.cells (ws.map cellW).toArray 20)) fun e w' => e = .returned (.tuple #[]) ∧ PG B b (l ++ lineB ws) w0 w' := by
  have hb : Below wk.heap.size wk (wk.alloc (.cells (ws.map cellW).toArray 20)) := (Below.refl _ _).alloc (Nat.le_refl _) _
  have h1 := h.below hb
  have hlt := h.pg.lt
  have hln := hw.line
  refine (pageLine_any B b l ws wk.heap.size _ h1.pg (by have := h1.pg.lt; omega) (hT.low h1.bel (Nat.le_refl _)) (fun x hx => (hw.ok x hx).1) (get_alloc_new _ _) (by omega) (by omega) (by have := hw.len; omega)).mono ?_
  rintro e w' ⟨rfl, hp⟩
  exact ⟨rfl, hp.pg, h1.bel.trans hp.bel, h1.oth.trans hp.oth⟩
end Go.Proofs.YtikehilbmldadaaGreatDoor
namespace Go.Proofs.YtikehilbmldadaaGreatDoor
open Go.RowKit
set_option linter.unusedVariables false
structure EntGood (E : EntV) : Prop where
  name : E.name.size ≤ 12
  tol : 0 ≤ E.tol ∧ E.tol ≤ 20
  pl : E.points.length ≤ 16
  ps : ∀ s ∈ E.points, s.size ≤ 12
  cnt : -1 ≤ E.count ∧ E.count < (E.points.length : Int) ∨ E.count = -1
  rng : 0 ≤ E.mn ∧ E.mn ≤ E.mx ∧ E.mx < 1000
  gl : E.gaps.length ≤ 8
  gs : ∀ g ∈ E.gaps, (0 ≤ g.fr ∧ g.fr < (E.points.length : Int)) ∧ (0 ≤ g.dst ∧ g.dst < (E.points.length : Int)) ∧ 0 ≤ g.mn ∧ g.mn ≤ g.mx ∧ g.mx ≤ 1099511627776
  el : E.edges.length ≤ 64
  es : ∀ x ∈ E.edges, (0 ≤ x.1 ∧ x.1 < (E.points.length : Int)) ∧ (0 ≤ x.2 ∧ x.2 < (E.points.length : Int))
  fl : E.first.length ≤ 16
  fs : ∀ k ∈ E.first, 0 ≤ k ∧ k < (E.points.length : Int)
  ll : E.last.length ≤ 16
  ls : ∀ k ∈ E.last, 0 ≤ k ∧ k < (E.points.length : Int)
theorem nameB_small {s : ByteArray} (h : isNameB s = true) : s.size ≤ 12 := by
  by_cases hh : 1 ≤ s.size ∧ s.size ≤ 12
  · exact hh.2
  · rw [isNameB_short hh] at h; cases h
theorem ptsE_names {P : List ByteArray} (h : ptsE P = 0) : ∀ s ∈ P, isNameB s = true := by
  intro s hs
  obtain ⟨k, hk, rfl⟩ := List.mem_iff_getElem.1 hs
  have hall : ∀ n, ∀ j, j < n → j < P.length → ptE P j = 0 := by
    intro n
    induction n with
    | zero => intro j h1; omega
    | succ n ih =>
      intro j h1 h2
      by_cases hj : j < n
      · exact ih j hj h2
      · obtain rfl : j = n := by omega
        by_cases hz : ptE P j = 0
        · exact hz
        · rw [ptsE_hit h2 hz (fun i hi => ih i hi (by omega))] at h
          exact h
  have := hall (k + 1) k (by omega) hk
  rw [ptE_at hk] at this
  cases hn : isNameB P[k]
  · rw [hn, if_pos rfl] at this; cases this
  · rfl
theorem tail_rules {E : EntV} (h : tailE E = 0) : ∀ j, j < 7 → ruleB E j = false := by
  intro j hj
  cases hr : ruleB E j
  · rfl
  · exfalso
    have hmin : ∃ k, k < 7 ∧ ruleB E k = true ∧ ∀ i, i < k → ruleB E i = false := by
      have : ∀ n, (∃ k, k < n ∧ ruleB E k = true) → ∃ k, k < n ∧ ruleB E k = true ∧ ∀ i, i < k → ruleB E i = false := by
        intro n
        induction n with
        | zero => rintro ⟨k, hk, _⟩; omega
        | succ n ih =>
          rintro ⟨k, hk, hh⟩
          by_cases he : ∃ k, k < n ∧ ruleB E k = true
          · obtain ⟨k', h1, h2, h3⟩ := ih he
            exact ⟨k', by omega, h2, h3⟩
          · refine ⟨k, hk, hh, fun i hi => ?_⟩
            cases hri : ruleB E i
            · rfl
            · exact absurd ⟨i, by omega, hri⟩ he
      exact this 7 ⟨j, hj, hr⟩
    obtain ⟨k, h1, h2, h3⟩ := hmin
    rw [tailE_hit k h1 h2 h3] at h
    match k, h1 with
    | 0, _ => cases h
    | 1, _ => cases h
    | 2, _ => cases h
    | 3, _ => cases h
    | 4, _ => cases h
    | 5, _ => cases h
    | 6, _ => cases h
theorem good_of {ah : List ByteArray} {E : EntV} (h : entErr ah E = 0) : EntGood E := by
  have h1 : isNameB E.name = true := by
    cases hh : isNameB E.name
    · rw [entErr_name hh] at h; cases h
    · rfl
  have h2 : hasStr ah E.name = false := by
    cases hh : hasStr ah E.name
    · rfl
    · rw [entErr_exist h1 hh] at h; cases h
  have h3 : boundB E = false := by
    cases hh : boundB E
    · rfl
    · rw [entErr_bound h1 h2 hh] at h; cases h
  have h4 : ptsE E.points = 0 := by
    by_cases hh : ptsE E.points = 0
    · exact hh
    · rw [entErr_pts h1 h2 h3 hh] at h; exact h
  rw [entErr_tail' h1 h2 h3 h4] at h
  have hr := tail_rules h
  have r0 := hr 0 (by decide)
  have r1 := hr 1 (by decide)
  have r2 := hr 2 (by decide)
  have r3 := hr 3 (by decide)
  simp only [ruleB] at r0 r1 r2 r3
  unfold boundB at h3
  rw [Bool.or_eq_false_iff] at h3
  obtain ⟨t1, t2⟩ := h3
  simp only [topW, fstW, decide_eq_false_iff_not] at t1 t2
  have hst : strangeB E = false ∧ cntW E = false := by
    unfold strangP at r0
    rw [Bool.or_eq_false_iff] at r0
    exact ⟨r0.2, r0.1⟩
  obtain ⟨s1, s2⟩ := hst
  have hall : ∀ x ∈ strL E, 0 ≤ x ∧ x < (E.points.length : Int) := by
    intro x hx
    have := List.any_eq_false.1 s1 x hx
    simp only [decide_eq_true_eq] at this
    omega
  simp only [cntW, rngW, decide_eq_false_iff_not] at s2 r2
  refine ⟨nameB_small h1, by omega, by omega, fun s hs => nameB_small (ptsE_names h4 s hs), by omega, by omega, by omega, fun g hg => ?_, by omega, fun x hx => ?_, by omega, fun k hk => ?_, by omega, fun k hk => ?_⟩
  · have q := List.any_eq_false.1 r3 g hg
    simp only [gapWrong, decide_eq_true_eq] at q
    refine ⟨hall _ ?_, hall _ ?_, by omega, by omega, by omega⟩
    · unfold strL
      exact List.mem_append_left _ (List.mem_append_right _ (List.mem_flatMap.2 ⟨g, hg, by simp⟩))
    · unfold strL
      exact List.mem_append_left _ (List.mem_append_right _ (List.mem_flatMap.2 ⟨g, hg, by simp⟩))
  · refine ⟨hall _ ?_, hall _ ?_⟩
    · unfold strL
      exact List.mem_append_right _ (List.mem_flatMap.2 ⟨x, hx, by simp⟩)
    · unfold strL
      exact List.mem_append_right _ (List.mem_flatMap.2 ⟨x, hx, by simp⟩)
  · refine hall _ ?_
    unfold strL
    exact List.mem_append_left _ (List.mem_append_left _ (List.mem_append_left _ hk))
  · refine hall _ ?_
    unfold strL
    exact List.mem_append_left _ (List.mem_append_left _ (List.mem_append_right _ hk))
def entB : ByteArray := ⟨#[101, 110, 116, 105, 116, 121]⟩
def pntB : ByteArray := ⟨#[112, 111, 105, 110, 116]⟩
def cntB : ByteArray := ⟨#[99, 111, 117, 110, 116]⟩
def gapB : ByteArray := ⟨#[103, 97, 112]⟩
def edgB : ByteArray := ⟨#[101, 100, 103, 101]⟩
def fstB : ByteArray := ⟨#[102, 105, 114, 115, 116]⟩
def lstB : ByteArray := ⟨#[108, 97, 115, 116]⟩
def nameAt (E : EntV) (k : Int) : ByteArray := E.points.getD k.toNat ByteArray.empty
def pntL (s : ByteArray) : List W1 := [.str pntB, .str s]
def gapLn (E : EntV) (g : GapV) : List W1 := [.str gapB, .str (nameAt E g.fr), .str (nameAt E g.dst), .num g.mn, .num g.mx]
def edgLn (E : EntV) (x : Int × Int) : List W1 := [.str edgB, .str (nameAt E x.1), .str (nameAt E x.2)]
def fstLn (E : EntV) (k : Int) : List W1 := [.str fstB, .str (nameAt E k)]
def lstLn (E : EntV) (k : Int) : List W1 := [.str lstB, .str (nameAt E k)]
def cntLn (E : EntV) : List (List W1) := if 0 ≤ E.count then [[.str cntB, .str (nameAt E E.count), .num E.mn, .num E.mx]] else []
def entLn (E : EntV) : List (List W1) := [.str entB, .str E.name, .num E.tol] :: (E.points.map pntL ++ cntLn E ++ E.gaps.map (gapLn E) ++ E.edges.map (edgLn E) ++ E.first.map (fstLn E) ++ E.last.map (lstLn E))
def linesB (L : List (List W1)) : List UInt8 := L.flatMap lineB
def textB (C : ConfV) : List UInt8 := headB C ++ C.ents.flatMap (fun E => linesB (entLn E))
theorem linesB_app (L M : List (List W1)) : linesB (L ++ M) = linesB L ++ linesB M := List.flatMap_append
theorem linesB_one (ws : List W1) : linesB [ws] = lineB ws := by simp [linesB]
theorem linesB_small {L : List (List W1)} (h : ∀ ws ∈ L, WsOk ws) : (linesB L).length ≤ 206 * L.length := by
  induction L with
  | nil => simp [linesB]
  | cons ws L ih =>
    have h1 := (h ws (List.mem_cons_self ..)).line
    have h2 := ih (fun x hx => h x (List.mem_cons_of_mem _ hx))
    show (lineB ws ++ linesB L).length ≤ _
    rw [List.length_append, List.length_cons]
    omega
theorem nameAt_small {E : EntV} (h : EntGood E) (k : Int) : (nameAt E k).size ≤ 40 := by
  unfold nameAt
  rw [List.getD_eq_getElem?_getD]
  cases hk : E.points[k.toNat]? with
  | none => exact Nat.zero_le _
  | some s =>
    have := h.ps s (List.mem_of_getElem? hk)
    show s.size ≤ 40
    omega
theorem entHead_ok {E : EntV} (h : EntGood E) : WsOk [.str entB, .str E.name, .num E.tol] :=
  ((WsOk.nil.num (by simp) _ (by have := h.tol; omega)).str (by simp) _ (by have := h.name; omega)).str (by simp) _ (by decide)
theorem pntL_ok {E : EntV} (h : EntGood E) {s : ByteArray} (hs : s ∈ E.points) : WsOk (pntL s) := (WsOk.nil.str (by simp) _ (by have := h.ps s hs; omega)).str (by simp) _ (by decide)
theorem cntLn_ok {E : EntV} (h : EntGood E) : WsOk [.str cntB, .str (nameAt E E.count), .num E.mn, .num E.mx] :=
  (((WsOk.nil.num (by simp) _ (by have := h.rng; omega)).num (by simp) _ (by have := h.rng; omega)).str (by simp) _ (nameAt_small h _)).str (by simp) _ (by decide)
theorem gapLn_ok {E : EntV} (h : EntGood E) {g : GapV} (hg : g ∈ E.gaps) : WsOk (gapLn E g) :=
  ((((WsOk.nil.num (by simp) _ (by have := h.gs g hg; omega)).num (by simp) _ (by have := h.gs g hg; omega)).str (by simp) _ (nameAt_small h _)).str (by simp) _ (nameAt_small h _)).str (by simp) _ (by decide)
theorem edgLn_ok {E : EntV} (h : EntGood E) (x : Int × Int) : WsOk (edgLn E x) := ((WsOk.nil.str (by simp) _ (nameAt_small h _)).str (by simp) _ (nameAt_small h _)).str (by simp) _ (by decide)
theorem fstLn_ok {E : EntV} (h : EntGood E) (k : Int) : WsOk (fstLn E k) := (WsOk.nil.str (by simp) _ (nameAt_small h _)).str (by simp) _ (by decide)
theorem lstLn_ok {E : EntV} (h : EntGood E) (k : Int) : WsOk (lstLn E k) := (WsOk.nil.str (by simp) _ (nameAt_small h _)).str (by simp) _ (by decide)
end Go.Proofs.YtikehilbmldadaaGreatDoor
namespace Go.Proofs.YtikehilbmldadaaGreatDoor
open Go.RowKit
set_option linter.unusedVariables false
def formL : List (ByteArray × Nat × ByteArray) := [(⟨#[119, 105, 110, 100, 111, 119]⟩, 0, ⟨#[110, 110]⟩), (⟨#[99, 121, 99, 108, 101]⟩, 1, ⟨#[110]⟩), (⟨#[100, 101, 108, 97, 121]⟩, 2, ⟨#[110]⟩), (⟨#[101, 110, 116, 105, 116, 121]⟩, 3, ⟨#[115, 110]⟩),
  (⟨#[112, 111, 105, 110, 116]⟩, 4, ⟨#[115]⟩), (⟨#[99, 111, 117, 110, 116]⟩, 5, ⟨#[112, 110, 110]⟩), (⟨#[103, 97, 112]⟩, 6, ⟨#[112, 112, 110, 110]⟩), (⟨#[101, 100, 103, 101]⟩, 7, ⟨#[112, 112]⟩), (⟨#[102, 105, 114, 115, 116]⟩, 8, ⟨#[112]⟩), (⟨#[108, 97, 115, 116]⟩, 9, ⟨#[112]⟩)]
def formV (p : Nat × ByteArray) : Value := .agg #[.int .i64 p.1, .string p.2]
def formOf (s : ByteArray) : Option (Nat × ByteArray) := (formL.find? (fun p => p.1.data.toList == s.data.toList)).map (·.2)
def formStage (s : ByteArray) : Nat := ((formOf s).map (·.1)).getD 0
def formWords (s : ByteArray) : ByteArray := ((formOf s).map (·.2)).getD ByteArray.empty
def formOk (s : ByteArray) : Bool := (formOf s).isSome
def entOf (L : List (ByteArray × Nat × ByteArray)) : List MapEntry := (L.zipIdx).map (fun x => ⟨.string x.1.1, formV x.1.2, x.2⟩)
def mapW (W : World) (k : Nat) : World := W.alloc (.map (entOf (formL.take k)).toArray k)
theorem mapW_heap (W : World) (k : Nat) : (mapW W k).heap[W.heap.size]? = some (.map (entOf (formL.take k)).toArray k) := get_alloc_new _ _
theorem entOf_keys (L : List (ByteArray × Nat × ByteArray)) : ∀ x ∈ entOf L, MapKept.IsKey .string x.key := by
  intro x hx
  obtain ⟨p, hp, rfl⟩ := List.mem_map.1 hx
  trivial
theorem set_alloc (W : World) (o o' : Obj) : ({ W.alloc o with heap := (W.alloc o).heap.setIfInBounds W.heap.size o' } : World) = W.alloc o' := by
  have e : ∀ o : Obj, (W.alloc o) = { W with heap := W.heap.push o } := fun _ => rfl
  rw [e, e]
  show ({ heap := (W.heap.push o).setIfInBounds W.heap.size o', tape := W.tape, drawn := W.drawn, os := W.os, output := W.output } : World) = { heap := W.heap.push o', tape := W.tape, drawn := W.drawn, os := W.os, output := W.output }
  congr 1
  apply Array.ext_getElem?
  intro i
  simp only [Array.getElem?_setIfInBounds, Array.getElem?_push, Array.size_push]
  by_cases h : W.heap.size = i
  · subst h; simp
  · rw [if_neg h, if_neg (fun hh => h hh.symm), if_neg (fun hh => h hh.symm)]
section
variable {P : Program} {m t b : TypeId} (um : P.underlying m = some (.map t b)) (ut : P.underlying t = some .string)
include um ut
theorem form_ins (W : World) (k : Nat) (hk : k < 10) (p : ByteArray × Nat × ByteArray) (hp : formL[k]? = some p) :
    (Instr.mapUpdate m (.map (some W.heap.size)) (.string p.1) (formV p.2)).run P (mapW W k) = .ok () (mapW W (k + 1)) := by
  have hb := mapW_heap W k
  have hg := MapKept.run_getObj_map (P := P) hb
  have hs := fun o => MapKept.run_setObj_map (P := P) o hb
  have hc := MapKept.run_checkKey (P := P) (w := mapW W k) ut (k := .string p.1) trivial false 9999
  have hf : Instr.findNow .string (.string p.1) (entOf (formL.take k)) 0 = some none := by
    rcases MapKept.findNow_spec (d := .string) (k := .string p.1) trivial (entOf (formL.take k)) 0 (entOf_keys _) with ⟨h, _⟩ | ⟨j, e, h1, h2, h3⟩
    · exact h
    · exfalso
      have hn : ∀ k : Fin 10, ∀ j : Fin 10, j.1 < k.1 → (formL.getD j.1 (ByteArray.empty, 0, ByteArray.empty)).1.data.toList ≠ (formL.getD k.1 (ByteArray.empty, 0, ByteArray.empty)).1.data.toList := by decide
      have hj : j < k ∧ e.key = .string (formL.getD j (ByteArray.empty, 0, ByteArray.empty)).1 := by
        simp only [entOf, List.getElem?_map, List.getElem?_zipIdx, List.getElem?_take, Option.map_map] at h2
        by_cases hjk : j < k
        · rw [if_pos hjk] at h2
          obtain ⟨q, hq, rfl⟩ := Option.map_eq_some_iff.1 h2
          exact ⟨hjk, by rw [List.getD_eq_getElem?_getD, hq]; rfl⟩
        · rw [if_neg hjk] at h2
          cases h2
      have := hn ⟨k, hk⟩ ⟨j, by omega⟩ hj.1
      rw [hj.2] at h3
      apply this
      rw [Value.string.inj h3, List.getD_eq_getElem?_getD, hp]
      rfl
  have hfk := MapKept.run_findKey (P := P) (w := mapW W k) (l := (entOf (formL.take k)).toArray.toList) ut (by simpa using hf)
  unfold Instr.mapUpdate
  simp only [run_underlying um, hg, hc, hfk, hs, Sem.run_bind, Result.andThen_ok]
  rw [show (mapW W k) = W.alloc (.map (entOf (formL.take k)).toArray k) from rfl, set_alloc]
  show _ = Result.ok () (W.alloc (.map (entOf (formL.take (k + 1))).toArray (k + 1)))
  congr 3
  rw [List.take_add_one, hp]
  simp [entOf, List.zipIdx_append]
  rw [show formL.length = 10 from rfl]
  omega
theorem form_look (hz : ∀ w : World, (zeroValue b).run P w = .ok (formV (0, ByteArray.empty)) w) (W : World) (s : ByteArray) :
    (Instr.lookup m (.map (some W.heap.size)) (.string s) true).run P (mapW W 10) = .ok (.tuple #[formV (formStage s, formWords s), .bool (formOk s)]) (mapW W 10) := by
  have hb := mapW_heap W 10
  have hg := MapKept.run_getObj_map (P := P) hb
  have hc := fun e => MapKept.run_checkKey (P := P) (w := mapW W 10) ut (k := .string s) trivial e 9999
  have h10 : formL.take 10 = formL := rfl
  rw [h10] at hg
  have hcase : (Instr.findNow .string (.string s) (entOf formL) 0 = some none ∧ formOf s = none) ∨ ∃ j q, Instr.findNow .string (.string s) (entOf formL) 0 = some (some (j, formV q)) ∧ formOf s = some q := by
    rcases MapKept.findNow_spec (d := .string) (k := .string s) trivial (entOf formL) 0 (entOf_keys _) with ⟨h1, h2⟩ | ⟨j, e, h1, h2, h3⟩
    · refine .inl ⟨h1, ?_⟩
      unfold formOf
      rw [Option.map_eq_none_iff, List.find?_eq_none]
      intro q hq
      obtain ⟨i, hi, rfl⟩ := List.mem_iff_getElem.1 hq
      have hm : (⟨.string formL[i].1, formV formL[i].2, i⟩ : MapEntry) ∈ entOf formL := List.mem_map.2 ⟨(formL[i], i), by rw [List.mem_zipIdx_iff_getElem?]; exact List.getElem?_eq_getElem hi, rfl⟩
      have hne := h2 _ hm
      intro hh
      apply hne
      have := eq_of_beq hh
      show Value.string formL[i].1 = _
      congr 1
      cases hx : formL[i].1; cases s
      rw [hx] at this
      exact congrArg ByteArray.mk (Array.toList_inj.1 this)
    · simp only [entOf, List.getElem?_map, List.getElem?_zipIdx, Option.map_map] at h2
      obtain ⟨q, hq, rfl⟩ := Option.map_eq_some_iff.1 h2
      refine .inr ⟨0 + j, q.2, h1, ?_⟩
      have hs : q.1 = s := Value.string.inj h3
      have hall : ∀ j : Fin 10, formOf (formL.getD j.1 (ByteArray.empty, 0, ByteArray.empty)).1 = some (formL.getD j.1 (ByteArray.empty, 0, ByteArray.empty)).2 := by decide
      have hj : j < 10 := (List.getElem?_eq_some_iff.1 hq).1
      have := hall ⟨j, hj⟩
      rw [List.getD_eq_getElem?_getD, hq] at this
      rw [← hs]
      exact this
  unfold Instr.lookup
  rcases hcase with ⟨h1, h2⟩ | ⟨j, q, h1, h2⟩
  · have hfk := MapKept.run_findKey (P := P) (w := mapW W 10) (l := (entOf formL).toArray.toList) ut (by simpa using h1)
    simp [run_underlying um, hg, hc, hfk, hz, Sem.run_bind, Result.andThen_ok, formStage, formWords, formOk, h2]
  · have hfk := MapKept.run_findKey (P := P) (w := mapW W 10) (l := (entOf formL).toArray.toList) ut (by simpa using h1)
    simp [run_underlying um, hg, hc, hfk, Sem.run_bind, Result.andThen_ok, formStage, formWords, formOk, h2]
end
end Go.Proofs.YtikehilbmldadaaGreatDoor
namespace Go.Proofs.YtikehilbmldadaaGreatDoor
open Go.RowKit
set_option linter.unusedVariables false
def rightB (st : Int) (k : Nat) : Bool :=
  if k ≤ 2 then st == (k : Int) - 1 else if k = 3 then decide (2 ≤ st) else if k = 5 then (st == 3 || st == 4) else decide (3 ≤ st) && decide (st ≤ (k : Int))
theorem right0_any (st : Int) (rb : Nat) (w : World) (h : w.cell? ⟨rb, 5, none⟩ = some (.int .i64 st)) : Calls Tryz.prog 111 #[.pointer (some ⟨rb, 0, none⟩), .int .i64 0] w fun e w' => e = .returned (.bool (rightB st 0)) ∧ w = w' := by
  have HT := Lib.hid (show rightB st 0 = (st == -1) from rfl)
  obtain ⟨z, hz⟩ : ∃ z, (st == -1) = z := ⟨_, rfl⟩
  rw [hz] at HT
  go_enter Tryz.func111, Tryz.ntmps111
  go_wp2_with fail
  go_ret
  exact ⟨ret_bool HT.out.symm, rfl⟩
theorem right1_any (st : Int) (rb : Nat) (w : World) (h : w.cell? ⟨rb, 5, none⟩ = some (.int .i64 st)) : Calls Tryz.prog 111 #[.pointer (some ⟨rb, 0, none⟩), .int .i64 1] w fun e w' => e = .returned (.bool (rightB st 1)) ∧ w = w' := by
  have HT := Lib.hid (show rightB st 1 = (st == 0) from rfl)
  obtain ⟨z, hz⟩ : ∃ z, (st == 0) = z := ⟨_, rfl⟩
  rw [hz] at HT
  go_enter Tryz.func111, Tryz.ntmps111
  go_wp2_with fail
  go_ret
  exact ⟨ret_bool HT.out.symm, rfl⟩
theorem right2_any (st : Int) (rb : Nat) (w : World) (h : w.cell? ⟨rb, 5, none⟩ = some (.int .i64 st)) : Calls Tryz.prog 111 #[.pointer (some ⟨rb, 0, none⟩), .int .i64 2] w fun e w' => e = .returned (.bool (rightB st 2)) ∧ w = w' := by
  have HT := Lib.hid (show rightB st 2 = (st == 1) from rfl)
  obtain ⟨z, hz⟩ : ∃ z, (st == 1) = z := ⟨_, rfl⟩
  rw [hz] at HT
  go_enter Tryz.func111, Tryz.ntmps111
  go_wp2_with fail
  go_ret
  exact ⟨ret_bool HT.out.symm, rfl⟩
theorem right3_any (st : Int) (rb : Nat) (w : World) (h : w.cell? ⟨rb, 5, none⟩ = some (.int .i64 st)) : Calls Tryz.prog 111 #[.pointer (some ⟨rb, 0, none⟩), .int .i64 3] w fun e w' => e = .returned (.bool (rightB st 3)) ∧ w = w' := by
  have HT := Lib.hid (show rightB st 3 = decide (2 ≤ st) from rfl)
  go_enter Tryz.func111, Tryz.ntmps111
  go_wp2_with fail
  go_ret
  exact ⟨ret_bool HT.out.symm, rfl⟩
theorem right4_any (st : Int) (rb : Nat) (w : World) (h : w.cell? ⟨rb, 5, none⟩ = some (.int .i64 st)) : Calls Tryz.prog 111 #[.pointer (some ⟨rb, 0, none⟩), .int .i64 4] w fun e w' => e = .returned (.bool (rightB st 4)) ∧ w = w' := by
  have HT := Lib.hid (show rightB st 4 = (decide (3 ≤ st) && decide (st ≤ 4)) from rfl)
  by_cases h3 : 3 ≤ st
  · rw [decide_eq_true h3] at HT
    go_enter Tryz.func111, Tryz.ntmps111
    go_wp2_with fail
    go_ret
    exact ⟨ret_bool HT.out.symm, rfl⟩
  · rw [decide_eq_false h3] at HT
    go_enter Tryz.func111, Tryz.ntmps111
    go_wp2_with fail
    go_ret
    exact ⟨ret_bool HT.out.symm, rfl⟩
theorem right5_any (st : Int) (rb : Nat) (w : World) (h : w.cell? ⟨rb, 5, none⟩ = some (.int .i64 st)) : Calls Tryz.prog 111 #[.pointer (some ⟨rb, 0, none⟩), .int .i64 5] w fun e w' => e = .returned (.bool (rightB st 5)) ∧ w = w' := by
  have HT := Lib.hid (show rightB st 5 = (st == 3 || st == 4) from rfl)
  obtain ⟨z, hz⟩ : ∃ z, (st == 3) = z := ⟨_, rfl⟩
  obtain ⟨y, hy⟩ : ∃ y, (st == 4) = y := ⟨_, rfl⟩
  rw [hz, hy] at HT
  go_enter Tryz.func111, Tryz.ntmps111
  cases z
  case false =>
    go_wp2_with fail
    go_ret
    exact ⟨ret_bool HT.out.symm, rfl⟩
  case true =>
    go_wp2_with fail
    go_ret
    exact ⟨ret_bool HT.out.symm, rfl⟩
theorem right6_any (st : Int) (rb : Nat) (w : World) (h : w.cell? ⟨rb, 5, none⟩ = some (.int .i64 st)) : Calls Tryz.prog 111 #[.pointer (some ⟨rb, 0, none⟩), .int .i64 6] w fun e w' => e = .returned (.bool (rightB st 6)) ∧ w = w' := by
  have HT := Lib.hid (show rightB st 6 = (decide (3 ≤ st) && decide (st ≤ 6)) from rfl)
  by_cases h3 : 3 ≤ st
  · rw [decide_eq_true h3] at HT
    go_enter Tryz.func111, Tryz.ntmps111
    go_wp2_with fail
    go_ret
    exact ⟨ret_bool HT.out.symm, rfl⟩
  · rw [decide_eq_false h3] at HT
    go_enter Tryz.func111, Tryz.ntmps111
    go_wp2_with fail
    go_ret
    exact ⟨ret_bool HT.out.symm, rfl⟩
theorem right7_any (st : Int) (rb : Nat) (w : World) (h : w.cell? ⟨rb, 5, none⟩ = some (.int .i64 st)) : Calls Tryz.prog 111 #[.pointer (some ⟨rb, 0, none⟩), .int .i64 7] w fun e w' => e = .returned (.bool (rightB st 7)) ∧ w = w' := by
  have HT := Lib.hid (show rightB st 7 = (decide (3 ≤ st) && decide (st ≤ 7)) from rfl)
  by_cases h3 : 3 ≤ st
  · rw [decide_eq_true h3] at HT
    go_enter Tryz.func111, Tryz.ntmps111
    go_wp2_with fail
    go_ret
    exact ⟨ret_bool HT.out.symm, rfl⟩
  · rw [decide_eq_false h3] at HT
    go_enter Tryz.func111, Tryz.ntmps111
    go_wp2_with fail
    go_ret
    exact ⟨ret_bool HT.out.symm, rfl⟩
theorem right8_any (st : Int) (rb : Nat) (w : World) (h : w.cell? ⟨rb, 5, none⟩ = some (.int .i64 st)) : Calls Tryz.prog 111 #[.pointer (some ⟨rb, 0, none⟩), .int .i64 8] w fun e w' => e = .returned (.bool (rightB st 8)) ∧ w = w' := by
  have HT := Lib.hid (show rightB st 8 = (decide (3 ≤ st) && decide (st ≤ 8)) from rfl)
  by_cases h3 : 3 ≤ st
  · rw [decide_eq_true h3] at HT
    go_enter Tryz.func111, Tryz.ntmps111
    go_wp2_with fail
    go_ret
    exact ⟨ret_bool HT.out.symm, rfl⟩
  · rw [decide_eq_false h3] at HT
    go_enter Tryz.func111, Tryz.ntmps111
    go_wp2_with fail
    go_ret
    exact ⟨ret_bool HT.out.symm, rfl⟩
theorem right9_any (st : Int) (rb : Nat) (w : World) (h : w.cell? ⟨rb, 5, none⟩ = some (.int .i64 st)) : Calls Tryz.prog 111 #[.pointer (some ⟨rb, 0, none⟩), .int .i64 9] w fun e w' => e = .returned (.bool (rightB st 9)) ∧ w = w' := by
  have HT := Lib.hid (show rightB st 9 = (decide (3 ≤ st) && decide (st ≤ 9)) from rfl)
  by_cases h3 : 3 ≤ st
  · rw [decide_eq_true h3] at HT
    go_enter Tryz.func111, Tryz.ntmps111
    go_wp2_with fail
    go_ret
    exact ⟨ret_bool HT.out.symm, rfl⟩
  · rw [decide_eq_false h3] at HT
    go_enter Tryz.func111, Tryz.ntmps111
    go_wp2_with fail
    go_ret
    exact ⟨ret_bool HT.out.symm, rfl⟩
theorem right_any (st : Int) (k : Nat) (hk : k ≤ 9) (rb : Nat) (w : World) (h : w.cell? ⟨rb, 5, none⟩ = some (.int .i64 st)) : Calls Tryz.prog 111 #[.pointer (some ⟨rb, 0, none⟩), .int .i64 k] w fun e w' => e = .returned (.bool (rightB st k)) ∧ w = w' := by
  match k, hk with
  | 0, _ => exact right0_any st rb w h
  | 1, _ => exact right1_any st rb w h
  | 2, _ => exact right2_any st rb w h
  | 3, _ => exact right3_any st rb w h
  | 4, _ => exact right4_any st rb w h
  | 5, _ => exact right5_any st rb w h
  | 6, _ => exact right6_any st rb w h
  | 7, _ => exact right7_any st rb w h
  | 8, _ => exact right8_any st rb w h
  | 9, _ => exact right9_any st rb w h
end Go.Proofs.YtikehilbmldadaaGreatDoor
namespace Go.Proofs.YtikehilbmldadaaGreatDoor
open Go.RowKit
set_option linter.unusedVariables false
structure RdS where
  c : ConfV
  stage : Int
def RdS.start : RdS := ⟨⟨0, 0, 0, 0, []⟩, -1⟩
def noE : EntV := ⟨ByteArray.empty, 0, [], -1, 0, 0, [], [], [], []⟩
def lastE (L : List EntV) : EntV := L.getLast?.getD noE
def newE (name : ByteArray) (tol : Int) : EntV := ⟨name, tol, [], -1, 0, 0, [], [], [], []⟩
def takeE (k : Nat) (name : ByteArray) (n : List Int) (E : EntV) : EntV :=
  if k = 4 then { E with points := E.points ++ [name] }
  else if k = 5 then { E with count := n.getD 0 0, mn := n.getD 1 0, mx := n.getD 2 0 }
  else if k = 6 then { E with gaps := E.gaps ++ [⟨n.getD 0 0, n.getD 1 0, n.getD 2 0, n.getD 3 0⟩] }
  else if k = 7 then { E with edges := E.edges ++ [(n.getD 0 0, n.getD 1 0)] }
  else if k = 8 then { E with first := E.first ++ [n.getD 0 0] }
  else if k = 9 then { E with last := E.last ++ [n.getD 0 0] }
  else E
def takeC (k : Nat) (name : ByteArray) (n : List Int) (C : ConfV) : ConfV :=
  if k = 0 then { C with closed := n.getD 0 0, opn := n.getD 1 0 }
  else if k = 1 then { C with cycle := n.getD 0 0 }
  else if k = 2 then { C with delay := n.getD 0 0 }
  else if k = 3 then { C with ents := C.ents ++ [newE name (n.getD 0 0)] }
  else { C with ents := C.ents.dropLast ++ [takeE k name n (lastE C.ents)] }
def idxS (l : List ByteArray) (s : ByteArray) : Int := sidxOf l s
def wordStep (pts : List ByteArray) (f : UInt8) (t : ByteArray) (p : List Int × Bool) : Option (List Int × Bool) :=
  if f = 110 then (match numV t with | some k => some (p.1 ++ [(k : Int)], p.2) | none => none)
  else if t.size = 0 then none
  else if f = 112 then some (p.1 ++ [idxS pts t], p.2 || decide (idxS pts t < 0))
  else some p
def wordsUp (pts : List ByteArray) (fs : List UInt8) (ts : List ByteArray) : Nat → Option (List Int × Bool)
  | 0 => some ([], false)
  | k + 1 => match wordsUp pts fs ts k with
    | none => none
    | some p => wordStep pts (fs.getD k 0) (ts.getD k ByteArray.empty) p
theorem wordsUp_none {pts : List ByteArray} {fs : List UInt8} {ts : List ByteArray} {k : Nat} (h : wordsUp pts fs ts k = none) : ∀ m, k ≤ m → wordsUp pts fs ts m = none := by
  intro m
  induction m with
  | zero => intro hk; have hk0 : k = 0 := Nat.le_zero.1 hk; rw [hk0] at h; exact h
  | succ m ih =>
    intro hk
    by_cases he : k = m + 1
    · subst he; exact h
    · unfold wordsUp; rw [ih (by omega)]
def lineW (s : ByteArray) : List ByteArray := piecesB 32 s
def lineHd (s : ByteArray) : ByteArray := (lineW s).headD ByteArray.empty
def lineFits (st : RdS) (s : ByteArray) : Bool := formOk (lineHd s) && rightB st.stage (formStage (lineHd s)) && ((lineW s).length - 1 == (formWords (lineHd s)).size)
def lineRes (st : RdS) (s : ByteArray) : Option (List Int × Bool) := wordsUp (lastE st.c.ents).points (formWords (lineHd s)).data.toList (lineW s).tail (formWords (lineHd s)).size
def lineR (st : RdS) (s : ByteArray) : Nat × RdS :=
  if lineFits st s = true then
    match lineRes st s with
    | none => (1, st)
    | some p => if p.2 = true then (5, st) else (0, ⟨takeC (formStage (lineHd s)) ((lineW s).getD 1 ByteArray.empty) p.1 st.c, formStage (lineHd s)⟩)
  else (1, st)
def linesUp (ls : List ByteArray) : Nat → RdS
  | 0 => RdS.start
  | k + 1 => (lineR (linesUp ls k) (ls.getD k ByteArray.empty)).2
def lineAt (ls : List ByteArray) (i : Nat) : Nat := (lineR (linesUp ls i) (ls.getD i ByteArray.empty)).1
def linesF (ls : List ByteArray) : Nat × Int := match (List.range ls.length).find? (fun i => lineAt ls i != 0) with | some i => (lineAt ls i, (i : Int)) | none => (0, -1)
theorem linesF_hit {L : List ByteArray} {k : Nat} (hk : k < L.length) (h : lineAt L k ≠ 0) (hb : ∀ j, j < k → lineAt L j = 0) : linesF L = (lineAt L k, (k : Int)) := by
  have : (List.range L.length).find? (fun i => lineAt L i != 0) = some k := by
    rw [List.find?_range_eq_some]
    refine ⟨by simpa using h, List.mem_range.2 hk, fun j hj => ?_⟩
    simp [hb j hj]
  unfold linesF
  rw [this]
theorem linesF_miss {L : List ByteArray} (h : ∀ j, j < L.length → lineAt L j = 0) : linesF L = (0, -1) := by
  have : (List.range L.length).find? (fun i => lineAt L i != 0) = none := by
    rw [List.find?_eq_none]
    intro i hi
    simp [h i (List.mem_range.1 hi)]
  unfold linesF
  rw [this]
def textCut (s : ByteArray) : ByteArray := if s.data.toList.getLast? = some 10 then s.extract 0 (s.size - 1) else s
def textLines (s : ByteArray) : List ByteArray := if s.size = 0 then [] else piecesB 10 (textCut s)
def zeroC : ConfV := ⟨0, 0, 0, 0, []⟩
def readF (s : ByteArray) : ConfV × (Nat × Int) :=
  if 8000 < s.size then (zeroC, (2, -1))
  else if (linesF (textLines s)).1 ≠ 0 then (zeroC, linesF (textLines s))
  else if (linesUp (textLines s) (textLines s).length).stage < 2 then (zeroC, (1, ((textLines s).length : Int)))
  else if (confF (linesUp (textLines s) (textLines s).length).c).1 ≠ 0 then (zeroC, confF (linesUp (textLines s) (textLines s).length).c)
  else ((linesUp (textLines s) (textLines s).length).c, (0, -1))
end Go.Proofs.YtikehilbmldadaaGreatDoor
namespace Go.Proofs.YtikehilbmldadaaGreatDoor
open Go.RowKit
set_option linter.unusedVariables false
def fT (j : Nat) : TypeId := [9, 126, 127, 3, 3].getD j 3
def fS (j : Nat) : Nat := [1, 4, 2, 1, 1].getD j 1
def fO (j : Nat) : Nat := [2, 6, 7, 8, 9].getD j 2
def fV (y : EntX) (j : Nat) : Value := [y.p, y.g, y.e, y.f, y.l].getD j y.p
def fN (E : EntV) (j : Nat) : Nat := [E.points.length, E.gaps.length, E.edges.length, E.first.length, E.last.length].getD j 0
def fC (E : EntV) (j : Nat) : List Value := [strCells1 E.points, E.gaps.flatMap gapCells, E.edges.flatMap edgeCells, intCells E.first, intCells E.last].getD j []
def EntOwn (base : Nat) (o : Nat → Option Nat) (t : Nat) (y : EntX) (w : World) : Prop :=
  ∀ j, j < 5 → OwnAt w base (fT j) (fS j) (fV y j) (fN y.E j) (fC y.E j) ∧ ∀ b, (fV y j).ownBlock = some b → o b = some (t + j)
theorem EntOwn.keep {base : Nat} {o o' : Nat → Option Nat} {t : Nat} {y : EntX} {S : Nat → Prop} {w w' : World} (h : EntOwn base o t y w) (k : Keep S w w') (hS : ∀ b, b < w.heap.size → S b → ∀ j, j < 5 → o b ≠ some (t + j)) (ho : ∀ b, b < w.heap.size → o' b = o b) : EntOwn base o' t y w' := by
  intro j hj
  obtain ⟨h1, h2⟩ := h j hj
  refine ⟨h1.keep k (fun b hb hs => hS b (h1.lt b hb).2 hs j hj (h2 b hb)), fun b hb => ?_⟩
  rw [ho b (h1.lt b hb).2]
  exact h2 b hb
theorem EntOwn.slOf {base : Nat} {o : Nat → Option Nat} {t : Nat} {y : EntX} {w : World} (h : EntOwn base o t y w) : EntSl (fun b => base ≤ b ∧ b < w.heap.size) w y.E y.p y.g y.e y.f y.l := by
  have k : ∀ {v : Value} {e : TypeId} {sz : Nat} {cs : List Value} {n : Nat}, OwnAt w base e sz v n cs → SlOf (fun b => base ≤ b ∧ b < w.heap.size) w v sz cs n := by
    intro v e sz cs n h
    obtain ⟨hl, ao, cap, hv, h1, h2, h3, h4⟩ := h.slOf
    refine ⟨hl, ao, cap, hv, h1, h2, h3, fun hp => ?_⟩
    obtain ⟨b, off, ha, hR, hb, hc⟩ := h4 hp
    exact ⟨b, off, ha, ⟨hR.1, hb⟩, hb, hc⟩
  exact ⟨k (h 0 (by decide)).1, k (h 1 (by decide)).1, k (h 2 (by decide)).1, k (h 3 (by decide)).1, k (h 4 (by decide)).1⟩
def rdCs (C : ConfV) (v : Value) (st : Int) : Array Value := #[.int .i64 C.closed, .int .i64 C.opn, .int .i64 C.cycle, .int .i64 C.delay, v, .int .i64 st]
structure RdAt (base rb : Nat) (o : Nat → Option Nat) (C : ConfV) (st : Int) (v : Value) (Y : List EntX) (w : World) : Prop where
  blk : w.heap[rb]? = some (.cells (rdCs C v st) 150)
  lo : rb < base
  top : base ≤ w.heap.size
  fr : ∀ b, w.heap.size ≤ b → o b = none
  ob : ∀ b, b < base → o b = none
  row : OwnAt w base 50 10 v Y.length (Y.flatMap entXCells)
  rt : ∀ b, v.ownBlock = some b → o b = some 0
  own : ∀ i (hi : i < Y.length), EntOwn base o (1 + 5 * i) Y[i] w
  eq : C.ents = Y.map EntX.E
theorem RdAt.keep {base rb : Nat} {o : Nat → Option Nat} {C : ConfV} {st : Int} {v : Value} {Y : List EntX} {S : Nat → Prop} {w w' : World} (h : RdAt base rb o C st v Y w) (k : Keep S w w') (hS : ∀ b, b < w.heap.size → S b → b ≠ rb ∧ o b = none) : RdAt base rb o C st v Y w' := by
  have hl := lt_of_get h.blk
  refine ⟨k.get h.blk (fun hs => (hS rb hl hs).1 rfl), h.lo, Nat.le_trans h.top k.size, fun b hb => h.fr b (Nat.le_trans k.size hb), h.ob, ?_, h.rt, fun i hi => ?_, h.eq⟩
  · exact h.row.keep k (fun b hb hs => by have := (hS b (h.row.lt b hb).2 hs).2; rw [h.rt b hb] at this; cases this)
  · exact (h.own i hi).keep k (fun b hb hs j hj => by rw [(hS b hb hs).2]; simp) (fun _ _ => rfl)
theorem RdAt.later {base rb : Nat} {o : Nat → Option Nat} {C : ConfV} {st : Int} {v : Value} {Y : List EntX} {w w' : World} (h : RdAt base rb o C st v Y w) (b : Below w.heap.size w w') : RdAt base rb o C st v Y w' :=
  h.keep (below_keep b) (fun _ _ h => h.elim)
theorem rd_cells {w : World} {rb : Nat} {C : ConfV} {v : Value} {st : Int} (h : w.heap[rb]? = some (.cells (rdCs C v st) 150)) :
    w.cell? ⟨rb, 0, none⟩ = some (.int .i64 C.closed) ∧ w.cell? ⟨rb, 1, none⟩ = some (.int .i64 C.opn) ∧ w.cell? ⟨rb, 2, none⟩ = some (.int .i64 C.cycle) ∧ w.cell? ⟨rb, 3, none⟩ = some (.int .i64 C.delay) ∧ w.cell? ⟨rb, 4, none⟩ = some v ∧ w.cell? ⟨rb, 5, none⟩ = some (.int .i64 st) ∧ ∀ o, w.frozen? ⟨rb, o, none⟩ = false := by
  unfold rdCs at h
  simp [World.cell?, World.frozen?, h]
theorem RdAt.set {base rb : Nat} {o : Nat → Option Nat} {C C' : ConfV} {st st' : Int} {v : Value} {Y : List EntX} {w : World} (h : RdAt base rb o C st v Y w) (k : Nat) (u : Value) (he : (rdCs C v st).setIfInBounds k u = rdCs C' v st') (hC : C'.ents = C.ents) : RdAt base rb o C' st' v Y (w.setCell ⟨rb, k, none⟩ u) := by
  have kk := keep_set w rb k u
  have hor : o rb = none := h.ob rb h.lo
  refine ⟨?_, h.lo, Nat.le_trans h.top kk.size, fun b hb => h.fr b (Nat.le_trans kk.size hb), h.ob, ?_, h.rt, fun i hi => ?_, by rw [hC]; exact h.eq⟩
  · rw [get_setCell _ h.blk, he]
  · exact h.row.keep kk (fun b hb hs => by have := h.rt b hb; rw [show b = rb from hs, hor] at this; cases this)
  · exact (h.own i hi).keep kk (fun b hb hs j hj => by rw [show b = rb from hs, hor]; simp) (fun _ _ => rfl)
theorem OwnAt.stored {w : World} {base : Nat} {e : TypeId} {size g off n cap : Nat} {xs : List Value} (h : OwnAt w base e size (.slice (some ⟨g, off, none⟩) n cap) n xs) (j : Nat) (hj : j < n * size) (u : Value) :
    OwnAt (w.setCell ⟨g, off + j, none⟩ u) base e size (.slice (some ⟨g, off, none⟩) n cap) n (xs.set j u) ∧ w.frozen? ⟨g, off + j, none⟩ = false := by
  rcases h.2 with ⟨h', _⟩ | ⟨g', off', cap', cur, hv, h2, h3, h4, h5, h6, h7⟩
  · cases h'
  · obtain ⟨e1, _, e3⟩ := Value.slice.inj hv
    obtain ⟨rfl, rfl, _⟩ := Addr.mk.inj (Option.some.inj e1)
    subst e3
    refine ⟨⟨by rw [List.length_set]; exact h.1, .inr ⟨g, off, cap, cur.setIfInBounds (off + j) u, rfl, h2, get_setCell u h3, h4, h5, by simpa using h6, ?_⟩⟩, by simp [World.frozen?, h3]⟩
    rw [Array.toList_setIfInBounds, ← h7]
    apply List.ext_getElem?
    intro i
    simp only [List.getElem?_take, List.getElem?_drop, List.getElem?_set, List.length_take, List.length_drop, Array.length_toList]
    have hm : n * size ≤ cap * size := Nat.mul_le_mul_right _ h4
    by_cases hi : i < n * size
    · simp only [hi, if_true]
      by_cases hij : j = i
      · subst hij
        rw [if_pos rfl, if_pos rfl, if_pos (by omega), if_pos (by omega)]
      · rw [if_neg (by omega), if_neg hij]
    · simp only [hi, if_false]
      rw [if_neg (by omega)]
theorem RdAt.form {base rb : Nat} {o : Nat → Option Nat} {C : ConfV} {st : Int} {v : Value} {Z : List EntX} {y : EntX} {w : World} (h : RdAt base rb o C st v (Z ++ [y]) w) :
    ∃ g off cap, v = .slice (some ⟨g, off, none⟩) (Z.length + 1) cap ∧ (Z.length + 1 ≤ cap ∧ cap ≤ maxLen) ∧ o g = some 0 ∧ base ≤ g ∧ g < w.heap.size ∧ g ≠ rb ∧ ∀ k u, (entXCells y)[k]? = some u → w.cell? ⟨g, off + (Z.length * 10 + k), none⟩ = some u := by
  have hr := h.row
  rw [List.length_append, List.length_singleton] at hr
  rcases hr.2 with ⟨_, h0⟩ | ⟨g, off, cap, cur, rfl, h2, h3, h4, h5, h6, h7⟩
  · omega
  · refine ⟨g, off, cap, rfl, ⟨h4, h5⟩, h.rt g rfl, h2, lt_of_get h3, by have := h.lo; omega, fun k u hu => ?_⟩
    have := hr.cells (g := g) (off := off) (cap := cap) (Z.length * 10 + k) u (by
      rw [List.flatMap_append, List.getElem?_append_right (by rw [flat_len entXCells 10 (fun _ => rfl)]; omega), flat_len entXCells 10 (fun _ => rfl)]
      simpa using hu)
    rw [addr_add] at this
    exact this
theorem flat_setR (Z : List EntX) (y y' : EntX) (k : Nat) (hk : k < 10) (u : Value) (he : entXCells y' = (entXCells y).set k u) : ((Z ++ [y]).flatMap entXCells).set (Z.length * 10 + k) u = (Z ++ [y']).flatMap entXCells := by
  have hl : (Z.flatMap entXCells).length = Z.length * 10 := flat_len entXCells 10 (fun _ => rfl) Z
  rw [List.flatMap_append, List.flatMap_append, List.flatMap_singleton, List.flatMap_singleton, he, List.set_append_right _ _ (by omega), hl, Nat.add_sub_cancel_left]
theorem own_of {o : Nat → Option Nat} {T : Nat} {v v2 : Value} {w1 : World} (hn : v2.ownBlock = v.ownBlock ∨ ∀ b, v2.ownBlock = some b → w1.heap.size ≤ b) (hv : ∀ b, v.ownBlock = some b → o b = some T) {b : Nat} (hb : b < w1.heap.size) (h2 : v2.ownBlock = some b) : o b = some T := by
  rcases hn with hn | hn
  · exact hv b (by rw [← hn]; exact h2)
  · have := hn b h2; omega
theorem RdAt.appF {base rb : Nat} {o : Nat → Option Nat} {C C' : ConfV} {st : Int} {Z : List EntX} {y y' : EntX} {w w1 w2 : World} {g off cap : Nat} (h : RdAt base rb o C st (.slice (some ⟨g, off, none⟩) (Z.length + 1) cap) (Z ++ [y]) w) (j : Nat) (hj : j < 5) (b1 : Below w.heap.size w w1) {v2 : Value} {n : Nat} {cs : List Value}
    (ho : OwnAt w2 base (fT j) (fS j) v2 n cs) (hg : w1.grownBy w2 (fV y j).ownBlock) (hn : v2.ownBlock = (fV y j).ownBlock ∨ ∀ b, v2.ownBlock = some b → w1.heap.size ≤ b)
    (hX : entXCells y' = (entXCells y).set (fO j) v2) (hO : (entXCells y)[fO j]? = some (fV y j)) (hs : ∀ i, i < 5 → i ≠ j → fV y' i = fV y i ∧ fN y'.E i = fN y.E i ∧ fC y'.E i = fC y.E i) (hj2 : fV y' j = v2 ∧ fN y'.E j = n ∧ fC y'.E j = cs)
    (hC : rdCs C' (.slice (some ⟨g, off, none⟩) (Z.length + 1) cap) st = rdCs C (.slice (some ⟨g, off, none⟩) (Z.length + 1) cap) st) (hE : C'.ents = (Z ++ [y']).map EntX.E) :
    (∃ o', RdAt base rb o' C' st (.slice (some ⟨g, off, none⟩) (Z.length + 1) cap) (Z ++ [y']) (w2.setCell ⟨g, off + (Z.length * 10 + fO j), none⟩ v2)) ∧ Keep (fun b => ∃ t, o b = some t) w (w2.setCell ⟨g, off + (Z.length * 10 + fO j), none⟩ v2) ∧
      w2.cell? ⟨g, off + (Z.length * 10 + fO j), none⟩ = some (fV y j) ∧ w2.frozen? ⟨g, off + (Z.length * 10 + fO j), none⟩ = false := by
  have hfo : fO j < 10 := by
    match j, hj with
    | 0, _ => decide
    | 1, _ => decide
    | 2, _ => decide
    | 3, _ => decide
    | 4, _ => decide
  have hzl : (Z ++ [y]).length = Z.length + 1 := by rw [List.length_append, List.length_singleton]
  have hym := h.own Z.length (by omega)
  rw [List.getElem_concat_length rfl] at hym
  obtain ⟨hyj, hyt⟩ := hym j hj
  have hgw : g < w.heap.size := (h.row.lt g rfl).2
  have hgo : o g = some 0 := h.rt g rfl
  have hsz1 := b1.size
  have k1 : Keep (fun b => o b = some (1 + 5 * Z.length + j)) w w2 := (Keep.refl _ w).step (Keep.of_below b1) (fun b hb hl => by omega) |>.step (Keep.of_grown hg) (fun b hb hl => hyt b (Eq.symm hb))
  have k2 := keep_set w2 g (off + (Z.length * 10 + fO j)) v2
  have k3 : Keep (fun b => o b = some (1 + 5 * Z.length + j) ∨ b = g) w (w2.setCell ⟨g, off + (Z.length * 10 + fO j), none⟩ v2) := (k1.mono (fun b _ hb => .inl hb)).step k2 (fun b hb _ => .inr hb)
  have hsz := k3.size
  have hrow2 := h.row.keep k1 (fun b hb hs => by rw [h.rt b hb] at hs; injection hs with hs; omega)
  rw [hzl] at hrow2
  have hpos : Z.length * 10 + fO j < (Z.length + 1) * 10 := by omega
  have hst := hrow2.stored (Z.length * 10 + fO j) hpos v2
  have hcell := hrow2.cells (Z.length * 10 + fO j) (fV y j) (by
    rw [List.flatMap_append, List.getElem?_append_right (by rw [flat_len entXCells 10 (fun _ => rfl)]; omega), flat_len entXCells 10 (fun _ => rfl)]
    simpa using hO)
  rw [addr_add] at hcell
  have hng : v2.ownBlock ≠ some g := fun e => by
    have := own_of hn hyt (by omega) e
    rw [hgo] at this
    injection this with this
    omega
  refine ⟨⟨fun b => if v2.ownBlock = some b then some (1 + 5 * Z.length + j) else o b, ?_⟩, k3.mono (fun b _ hb => by rcases hb with hb | rfl; exact ⟨_, hb⟩; exact ⟨_, hgo⟩), hcell, hst.2⟩
  have hob : ∀ b, b < w.heap.size → (if v2.ownBlock = some b then some (1 + 5 * Z.length + j) else o b) = o b := by
    intro b hb
    split
    · next e => exact (own_of hn hyt (by omega) e).symm
    · rfl
  have hrb : o rb = none := h.ob rb h.lo
  have hrl := lt_of_get h.blk
  refine ⟨?_, h.lo, Nat.le_trans h.top hsz, fun b hb => ?_, fun b hb => ?_, ?_, fun b hb => ?_, fun i hi => ?_, hE⟩
  · rw [hC]
    exact k3.get h.blk (fun hs => by rcases hs with hs | hs; rw [hrb] at hs; cases hs; rw [hs, hgo] at hrb; cases hrb)
  · rw [if_neg (fun e => by have := (ho.lt b e).2; have := k2.size; omega)]
    exact h.fr b (by omega)
  · rw [if_neg (fun e => by have := (ho.lt b e).1; omega)]
    exact h.ob b hb
  · have := hst.1
    rw [flat_setR Z y y' (fO j) hfo v2 hX] at this
    rw [List.length_append, List.length_singleton]
    exact this
  · obtain rfl : g = b := Option.some.inj hb
    rw [if_neg hng]
    exact hgo
  · rw [List.length_append, List.length_singleton] at hi
    by_cases him : i < Z.length
    · have hy := h.own i (by omega)
      rw [List.getElem_append_left him] at hy ⊢
      refine hy.keep k3 (fun b hb hs i' hi' hh => ?_) hob
      rcases hs with hs | rfl
      · rw [hs] at hh; injection hh with hh; omega
      · rw [hgo] at hh; injection hh with hh; omega
    · obtain rfl : i = Z.length := by omega
      rw [List.getElem_concat_length rfl]
      intro i' hi'
      by_cases hij : i' = j
      · subst hij
        obtain ⟨q1, q2, q3⟩ := hj2
        rw [q1, q2, q3]
        refine ⟨ho.keep k2 (fun b hb hs => hng (by rw [← show b = g from hs]; exact hb)), fun b hb => if_pos hb⟩
      · obtain ⟨q1, q2, q3⟩ := hs i' hi' hij
        rw [q1, q2, q3]
        obtain ⟨p1, p2⟩ := hym i' hi'
        refine ⟨p1.keep k3 (fun b hb hs => ?_), fun b hb => ?_⟩
        · rcases hs with hs | rfl
          · rw [p2 b hb] at hs; injection hs with hs; omega
          · rw [p2 b hb] at hgo; injection hgo with hgo; omega
        · show (if v2.ownBlock = some b then some (1 + 5 * Z.length + j) else o b) = _
          rw [hob b (p1.lt b hb).2]
          exact p2 b hb
theorem RdAt.far {base rb : Nat} {o : Nat → Option Nat} {C : ConfV} {st : Int} {v : Value} {Y : List EntX} {w w1 w2 : World} (h : RdAt base rb o C st v Y w) (b1 : Below w.heap.size w w1) {u : Value} {T : Nat} (hu : ∀ b, u.ownBlock = some b → o b = some T) (hg : w1.grownBy w2 u.ownBlock) :
    ∀ b k, b < w.heap.size → o b = none → w2.cell? ⟨b, k, none⟩ = w.cell? ⟨b, k, none⟩ ∧ w2.frozen? ⟨b, k, none⟩ = w.frozen? ⟨b, k, none⟩ := by
  intro b k hb hn
  have k1 : Keep (fun b => o b = some T) w w2 := (Keep.refl _ w).step (Keep.of_below b1) (fun b hb hl => by have := b1.size; omega) |>.step (Keep.of_grown hg) (fun b hb hl => hu b (Eq.symm hb))
  have e := k1.block b hb (fun hs => by rw [hn] at hs; cases hs)
  exact ⟨World.cell?_of_block (a := ⟨b, k, none⟩) e, World.frozen?_of_block (a := ⟨b, k, none⟩) e⟩
theorem RdAt.appE {base rb : Nat} {o : Nat → Option Nat} {C : ConfV} {st : Int} {v v2 : Value} {Y : List EntX} {w w1 w2 : World} (h : RdAt base rb o C st v Y w) (b1 : Below w.heap.size w w1) (name : ByteArray) (tol : Int)
    (ho : OwnAt w2 base 50 10 v2 (Y.length + 1) (Y.flatMap entXCells ++ entXCells ⟨newE name tol, .slice none 0 0, .slice none 0 0, .slice none 0 0, .slice none 0 0, .slice none 0 0⟩)) (hg : w1.grownBy w2 v.ownBlock) (hn : v2.ownBlock = v.ownBlock ∨ ∀ b, v2.ownBlock = some b → w1.heap.size ≤ b) :
    (∃ o', RdAt base rb o' { C with ents := C.ents ++ [newE name tol] } st v2 (Y ++ [⟨newE name tol, .slice none 0 0, .slice none 0 0, .slice none 0 0, .slice none 0 0, .slice none 0 0⟩]) (w2.setCell ⟨rb, 4, none⟩ v2)) ∧ Keep (fun b => b = rb ∨ ∃ t, o b = some t) w (w2.setCell ⟨rb, 4, none⟩ v2) ∧ w2.cell? ⟨rb, 4, none⟩ = some v ∧ w2.frozen? ⟨rb, 4, none⟩ = false := by
  have hsz1 := b1.size
  have hrb : o rb = none := h.ob rb h.lo
  have hrl := lt_of_get h.blk
  have k1 : Keep (fun b => o b = some 0) w w2 := (Keep.refl _ w).step (Keep.of_below b1) (fun b hb hl => by omega) |>.step (Keep.of_grown hg) (fun b hb hl => h.rt b (Eq.symm hb))
  have k2 := keep_set w2 rb 4 v2
  have k3 : Keep (fun b => o b = some 0 ∨ b = rb) w (w2.setCell ⟨rb, 4, none⟩ v2) := (k1.mono (fun b _ hb => .inl hb)).step k2 (fun b hb _ => .inr hb)
  have hsz := k3.size
  have hblk2 := k1.get h.blk (fun hs => by rw [hrb] at hs; cases hs)
  have hob : ∀ b, b < w.heap.size → (if v2.ownBlock = some b then some 0 else o b) = o b := by
    intro b hb
    split
    · next e => exact (own_of hn h.rt (by omega) e).symm
    · rfl
  refine ⟨⟨fun b => if v2.ownBlock = some b then some 0 else o b, ?_⟩, k3.mono (fun b _ hb => by rcases hb with hb | rfl; exact .inr ⟨_, hb⟩; exact .inl rfl), by simp [World.cell?, hblk2, rdCs], by simp [World.frozen?, hblk2]⟩
  refine ⟨?_, h.lo, Nat.le_trans h.top hsz, fun b hb => ?_, fun b hb => ?_, ?_, fun b hb => by rw [if_pos hb], fun i hi => ?_, ?_⟩
  · rw [get_setCell _ hblk2]
    rfl
  · rw [if_neg (fun e => by have := (ho.lt b e).2; have := k2.size; omega)]
    exact h.fr b (by omega)
  · rw [if_neg (fun e => by have := (ho.lt b e).1; omega)]
    exact h.ob b hb
  · rw [List.length_append, List.length_singleton, List.flatMap_append, List.flatMap_singleton]
    exact ho.keep k2 (fun b hb hs => by have := (ho.lt b hb).1; have := h.lo; have : b = rb := hs; omega)
  · rw [List.length_append, List.length_singleton] at hi
    by_cases him : i < Y.length
    · rw [List.getElem_append_left him]
      refine (h.own i him).keep k3 (fun b hb hs i' hi' hh => ?_) hob
      rcases hs with hs | rfl
      · rw [hs] at hh; injection hh with hh; omega
      · rw [hrb] at hh; cases hh
    · obtain rfl : i = Y.length := by omega
      rw [List.getElem_concat_length rfl]
      intro j hj
      match j, hj with
      | 0, _ => exact ⟨⟨rfl, .inl ⟨rfl, rfl⟩⟩, fun b hb => by cases hb⟩
      | 1, _ => exact ⟨⟨rfl, .inl ⟨rfl, rfl⟩⟩, fun b hb => by cases hb⟩
      | 2, _ => exact ⟨⟨rfl, .inl ⟨rfl, rfl⟩⟩, fun b hb => by cases hb⟩
      | 3, _ => exact ⟨⟨rfl, .inl ⟨rfl, rfl⟩⟩, fun b hb => by cases hb⟩
      | 4, _ => exact ⟨⟨rfl, .inl ⟨rfl, rfl⟩⟩, fun b hb => by cases hb⟩
  · show C.ents ++ [newE name tol] = (Y ++ [_]).map EntX.E
    rw [List.map_append, h.eq]
    rfl
end Go.Proofs.YtikehilbmldadaaGreatDoor
