/- Package conf: a page's text; the text of a config of no entities. -/
import Derived.Test.YtgdaljpimblkgaaGreatDoorR02
import Derived.Test.YtgdaljpimblkgaaGreatDoorR16
import Derived.Shelf.RegionOpenPlain
import Derived.Lib.ItoaLen
namespace Go.Proofs.YtgdaljpimblkgaaGreatDoor
open Go.RowKit
set_option linter.unusedVariables false

set_option maxHeartbeats 1000000 in
set_option maxRecDepth 100000 in
theorem pgString_any (B b : Nat) (l : List UInt8) (w : World) (h : Pg B b l w) (h0 : l ≠ []) :
    Calls Tryz.prog 22 #[.pointer (some ⟨b, 0, none⟩)] w fun e w' => e = .returned (.string ⟨l.toArray⟩) ∧ Below B w w' := by
  obtain ⟨p, hB, v, hbk, hown, hne⟩ := h.at_
  have hl0 : l.length ≠ 0 := by simpa using h0
  rw [Lib.byteCells_length] at hown
  obtain ⟨g, cap, cur, rfl, hbg, hg, hnc, hcm, hcs, htake⟩ : ∃ g cap cur, v = .slice (some ⟨g, 0, none⟩) l.length cap ∧ B ≤ g ∧ w.heap[g]? = some (.cells cur 5 (0, 0)) ∧ l.length ≤ cap ∧ cap ≤ maxLen ∧ cur.size = cap * 1 ∧ cur.toList.take (l.length * 1) = Lib.byteCells l := by
    rcases hown.2 with ⟨_, hz⟩ | ⟨g, cap, cur, hv, r⟩
    · exact absurd hz hl0
    · exact ⟨g, cap, cur, hv, r⟩
  have c1 : w.drew.cell? ⟨b, 1, none⟩ = some (.slice (some ⟨g, 0, none⟩) l.length cap) := by
    have : w.drew.heap[b]? = some (.cells #[p, .slice (some ⟨g, 0, none⟩) l.length cap] 62 (0, 0)) := hbk
    rw [Lib.cell_of_heap this]; rfl
  have hSD : (Builtin.unsafeSliceData_ #[58] 95 #[.slice (some ⟨g, 0, none⟩) l.length cap]).run Tryz.prog w.drew = .ok (.pointer (some ⟨g, 0, none⟩)) w.drew :=
    Lib.run_unsafeSliceData_row _ _ _ _ _ _ (by omega)
  have hUS : (Builtin.unsafeString_ #[95, 3] 9 #[.pointer (some ⟨g, 0, none⟩), .int .i64 l.length]).run Tryz.prog w.drew = .ok (.string ⟨l.toArray⟩) (w.drew.freeze ⟨g, 0, none⟩ l.length) := by
    refine Lib.run_unsafeString_row w.drew 95 3 9 5 Tryz.underlying95 Tryz.cellsByteP g cur.size (by have hg' : w.drew.heap[g]? = some (.cells cur 5 (0, 0)) := hg; simp [World.shape?, hg']) l h0 (by omega) (by unfold maxLen at hcm; omega) ?_
    intro j x hx
    have := hown.cells (g := g) rfl j (.int .u8 x.toNat) (by simp [Lib.byteCells, hx])
    exact this
  have HBG := Lib.hid hbg
  have mixed : Tryz.prog.follows Departure.mixedOrders = true := by kernel_rfl
  clear hown hbk hg htake hcs hcm hnc h0 hl0 h hne hbg
  go_enter Tryz.func22, Tryz.ntmps22
  go_wp2
  go_region_o
  all_goals (go_wp2; go_ret; exact ⟨rfl, Lib.below_freeze (Below.drew (Below.refl B w)) (p := ⟨g, 0, none⟩) HBG.out _⟩)

def winB : ByteArray := ⟨#[119, 105, 110, 100, 111, 119]⟩
def cycB : ByteArray := ⟨#[99, 121, 99, 108, 101]⟩
def delB : ByteArray := ⟨#[100, 101, 108, 97, 121]⟩
def headL (C : ConfV) : List (List W1) := [[.str winB, .num C.closed, .num C.opn], [.str cycB, .num C.cycle], [.str delB, .num C.delay]]
def headB (C : ConfV) : List UInt8 := (headL C).flatMap lineB
theorem upB_small (ws : List W1) (hs : ∀ x ∈ ws, (wordB x).length ≤ 40) : ∀ k, k ≤ ws.length → (upB ws k).length ≤ 41 * k
  | 0, _ => by simp [upB]
  | k + 1, hk => by
    have ih := upB_small ws hs k (by omega)
    have h1 := hs ws[k] (List.getElem_mem (by omega))
    rw [upB_succ ws k (by omega), List.length_append]
    unfold sepB
    split
    · omega
    · rw [List.length_cons]; omega
theorem lineB_small (ws : List W1) (hs : ∀ x ∈ ws, (wordB x).length ≤ 40) : (lineB ws).length ≤ 41 * ws.length + 1 := by
  unfold lineB
  rw [List.length_append, List.length_singleton]
  have := upB_small ws hs ws.length (Nat.le_refl _)
  omega
theorem num_small (n : Int) (h : W1Ok (.num n)) : (wordB (.num n)).length ≤ 40 := Nat.le_trans (Lib.itoa_length_le n h.1 h.2) (by decide)
theorem str_small (s : ByteArray) (h : s.size ≤ 40) : (wordB (.str s)).length ≤ 40 := by
  show s.data.toList.length ≤ 40
  rw [Array.length_toList]; exact h
/-- A line of words that is good. -/
structure WsOk (ws : List W1) : Prop where
  ok : ∀ x ∈ ws, W1Ok x ∧ (wordB x).length ≤ 40
  len : ws.length ≤ 5
theorem WsOk.line {ws : List W1} (h : WsOk ws) : (lineB ws).length ≤ 206 := by
  have := lineB_small ws (fun x hx => (h.ok x hx).2)
  have := h.len
  omega
theorem WsOk.nil : WsOk [] := ⟨fun x hx => (by cases hx), by decide⟩
theorem WsOk.str {ws : List W1} (h : WsOk ws) (hl : ws.length ≤ 4) (s : ByteArray) (hs : s.size ≤ 40) : WsOk (.str s :: ws) :=
  ⟨fun x hx => by
    rcases List.mem_cons.1 hx with rfl | hx
    · exact ⟨trivial, str_small s hs⟩
    · exact h.ok x hx, by simp; omega⟩
theorem WsOk.num {ws : List W1} (h : WsOk ws) (hl : ws.length ≤ 4) (n : Int) (hn : -9223372036854775808 ≤ n ∧ n ≤ 9223372036854775807) : WsOk (.num n :: ws) :=
  ⟨fun x hx => by
    rcases List.mem_cons.1 hx with rfl | hx
    · exact ⟨hn, num_small n hn⟩
    · exact h.ok x hx, by simp; omega⟩
/-- One line more: the words laid, the call. -/
theorem line_step {B b : Nat} {l : List UInt8} {ws : List W1} {w0 wk : World} (h : PG B b l w0 wk) (hT : TabB B w0) (hw : WsOk ws) (hl : l.length ≤ 900000) :
    Calls Tryz.prog 21 #[.pointer (some ⟨b, 0, none⟩), .slice (some ⟨wk.heap.size, 0, none⟩) ws.length ws.length] (wk.alloc (.cells (ws.map cellW).toArray 20)) fun e w' => e = .returned (.tuple #[]) ∧ PG B b (l ++ lineB ws) w0 w' := by
  have hb : Below wk.heap.size wk (wk.alloc (.cells (ws.map cellW).toArray 20)) := (Below.refl _ _).alloc (Nat.le_refl _) _
  have h1 := h.below hb
  have hlt := h.pg.lt
  have hln := hw.line
  refine (pageLine_any B b l ws wk.heap.size _ h1.pg (by have := h1.pg.lt; omega) (hT.low h1.bel (Nat.le_refl _)) (fun x hx => (hw.ok x hx).1) (get_alloc_new _ _) (by omega) (by omega) (by have := hw.len; omega)).mono ?_
  rintro e w' ⟨rfl, hp⟩
  exact ⟨rfl, hp.pg, h1.bel.trans hp.bel, h1.oth.trans hp.oth⟩

set_option maxRecDepth 100000 in
set_option maxHeartbeats 4000000 in
theorem textNil_any (B : Nat) (sa : Nat → Addr) (C : ConfV) (w : World) (hS : SentsC B sa w) (hT : TabB w.heap.size w) (hC : confF C = (0, -1)) (he : C.ents = [])
    (h1 : W1Ok (.num C.closed)) (h2 : W1Ok (.num C.opn)) (h3 : W1Ok (.num C.cycle)) (h4 : W1Ok (.num C.delay)) :
    Calls Tryz.prog 8 #[.agg (confCs C (.slice none 0 0))] w fun e w' => e = .returned (.tuple #[.string ⟨(headB C).toArray⟩, .nilIface]) ∧ Below w.heap.size w w' := by
  have hxa := get_alloc_new w (.cells (confCs C (.slice none 0 0)) 24)
  have hba : Below w.heap.size w (w.alloc (.cells (confCs C (.slice none 0 0)) 24)) := (Below.refl _ _).alloc (Nat.le_refl _) _
  have w1ok : WsOk [.str winB, .num C.closed, .num C.opn] := ((WsOk.nil.num (by simp) _ h2).num (by simp) _ h1).str (by simp) _ (by decide)
  have w2ok : WsOk [.str cycB, .num C.cycle] := (WsOk.nil.num (by simp) _ h3).str (by simp) _ (by decide)
  have w3ok : WsOk [.str delB, .num C.delay] := (WsOk.nil.num (by simp) _ h4).str (by simp) _ (by decide)
  have HW1 := Lib.hid w1ok
  have HW2 := Lib.hid w2ok
  have HW3 := Lib.hid w3ok
  have HT := Lib.hid hT
  have hck : ∀ W, Below w.heap.size w W → Calls Tryz.prog 11 #[.agg (confCs C (.slice none 0 0))] W fun e w' => e = .returned .nilIface ∧ Below W.heap.size W w' := fun W hB => by
    refine (check_any B sa (fun _ => False) C (.slice none 0 0) [] W (hS.on hB) ⟨⟨SlOf.nil _ _ _, fun x hx => (by cases hx)⟩, he, fun x hx => (by cases hx), by decide⟩ (fun _ h => h.elim)).mono ?_
    rintro e w' ⟨u, rfl, hu, hb⟩
    rw [hC] at hu
    rcases hu with ⟨_, hu⟩ | ⟨hu, _⟩
    · exact ⟨by rw [hu]; rfl, hb⟩
    · exact absurd hu (by decide)
  have HCk := Lib.hid hck
  clear h1 h2 h3 h4 w1ok w2ok w3ok hT hck hS hC he
  unfold confCs at hxa hba HCk ⊢
  go_enter Tryz.func8, Tryz.ntmps8
  go_upto_region 1 with fail
  generalize w.alloc _ = w1 at hxa hba ⊢
  have HXA : Hid (w1.heap[w.heap.size]? = some (.cells (confCs C (.slice none 0 0)) 24)) := hxa
  obtain ⟨c0, c1, c2, c3, c4⟩ := conf_cells HXA.out
  clear hxa
  go_wp2_with fail
  refine (HCk.out w1 hba).mono ?_
  rintro e w2 ⟨rfl, b2⟩
  have HX2 := Lib.hid (below_get b2 HXA.out (lt_of_get HXA.out))
  have HB2 := Lib.hid (hba.trans (b2.mono hba.size))
  clear c0 c1 c2 c3 c4 hba b2 HXA HCk
  go_upto_region 5 with fail
  have hp3 : PG w2.heap.size w2.heap.size [] (w2.alloc (.cells #[.pointer none, .slice none 0 0] 62)) (w2.alloc (.cells #[.pointer none, .slice none 0 0] 62)) := ⟨Lib.fresh_isBuilder _ _ w2, Below.refl _ _, Oth.refl _ _⟩
  have b3 : Below w2.heap.size w2 (w2.alloc (.cells #[.pointer none, .slice none 0 0] 62)) := (Below.refl _ _).alloc (Nat.le_refl _) _
  generalize w2.alloc _ = w3 at hp3 b3 ⊢
  obtain ⟨b, hbq⟩ : ∃ b, b = w2.heap.size := ⟨_, rfl⟩
  have HX3 := Lib.hid (below_get b3 HX2.out (lt_of_get HX2.out))
  have HB3 := Lib.hid (HB2.out.trans (b3.mono HB2.out.size))
  have HT3 := Lib.hid ((HT.out.low HB3.out (Nat.le_refl _)).low (Below.refl w3.heap.size w3) HB3.out.size)
  have hwb := HB2.out.size
  have hxlt := lt_of_get HX2.out
  rw [← hbq] at hp3 hwb hxlt ⊢
  have HP3 := Lib.hid hp3
  have HTB : Hid (TabB b w3) := fun W hW => HT3.out W (hW.mono hwb)
  obtain ⟨c0, c1, c2, c3, c4⟩ := conf_cells HX3.out
  clear hp3 b3 HX2 HB2 hbq
  have HL1 := Lib.hid (line_step HP3.out HTB.out HW1.out (by decide))
  go_wp2_with fail
  refine HL1.out.mono ?_
  rintro e w4 ⟨rfl, hp4⟩
  have HP4 := Lib.hid hp4
  have HX4 := Lib.hid (below_get hp4.bel HX3.out hxlt)
  clear c0 c1 c2 c3 c4 hp4 HL1
  obtain ⟨c0, c1, c2, c3, c4⟩ := conf_cells HX4.out
  have HL2 := Lib.hid (line_step HP4.out HTB.out HW2.out (by have := HW1.out.line; rw [List.length_append]; simp; omega))
  go_wp2_with fail
  refine HL2.out.mono ?_
  rintro e w5 ⟨rfl, hp5⟩
  have HP5 := Lib.hid hp5
  have HX5 := Lib.hid (below_get hp5.bel HX3.out hxlt)
  clear c0 c1 c2 c3 c4 hp5 HL2
  obtain ⟨c0, c1, c2, c3, c4⟩ := conf_cells HX5.out
  have HL3 := Lib.hid (line_step HP5.out HTB.out HW3.out (by have := HW1.out.line; have := HW2.out.line; simp only [List.length_append, List.length_nil]; omega))
  go_wp2_with fail
  refine HL3.out.mono ?_
  rintro e w6 ⟨rfl, hp6⟩
  have HX6 := Lib.hid (below_get hp6.bel HX3.out hxlt)
  have hh : ([] ++ lineB [.str winB, .num C.closed, .num C.opn] ++ lineB [.str cycB, .num C.cycle] ++ lineB [.str delB, .num C.delay] : List UInt8) = headB C := by simp [headB, headL]
  rw [hh] at hp6
  have HP6 := Lib.hid hp6
  have hne : headB C ≠ [] := by
    intro e
    have : (headB C).length = 0 := by rw [e]; rfl
    simp [headB, headL, lineB] at this
  have HSt := Lib.hid (pgString_any b b (headB C) w6 hp6.pg hne)
  clear c0 c1 c2 c3 c4 hp6 HL3 hh hne
  obtain ⟨c0, c1, c2, c3, c4⟩ := conf_cells HX6.out
  go_wp2_with fail
  go_loopw [52] (fun s wr => s = .int .i64 0 ∧ w6 = wr) (fun s _ => 0)
  case atStart => exact ⟨rfl, rfl⟩
  case round =>
    obtain ⟨rfl, rfl⟩ := hrel
    go_wp2_with fail
    refine HSt.out.mono ?_
    rintro e w7 ⟨rfl, b7⟩
    go_wp2_with fail
    go_ret2
    exact ⟨rfl, HB3.out.trans ((HP6.out.bel.trans b7).mono hwb)⟩
end Go.Proofs.YtgdaljpimblkgaaGreatDoor

/- Plain: a right entity's numbers are small; the lines of an entity. -/
namespace Go.Proofs.YtgdaljpimblkgaaGreatDoor
open Go.RowKit
set_option linter.unusedVariables false

structure EntGood (E : EntV) : Prop where
  name : E.name.size ≤ 12
  tol : 0 ≤ E.tol ∧ E.tol ≤ 20
  pl : E.points.length ≤ 16
  ps : ∀ s ∈ E.points, s.size ≤ 12
  cnt : -1 ≤ E.count ∧ E.count < (E.points.length : Int) ∨ E.count = -1
  rng : 0 ≤ E.mn ∧ E.mn ≤ E.mx ∧ E.mx < 1000
  gl : E.gaps.length ≤ 8
  gs : ∀ g ∈ E.gaps, (0 ≤ g.fr ∧ g.fr < (E.points.length : Int)) ∧ (0 ≤ g.dst ∧ g.dst < (E.points.length : Int)) ∧ 0 ≤ g.mn ∧ g.mn ≤ g.mx ∧ g.mx ≤ 1099511627776
  el : E.edges.length ≤ 64
  es : ∀ x ∈ E.edges, (0 ≤ x.1 ∧ x.1 < (E.points.length : Int)) ∧ (0 ≤ x.2 ∧ x.2 < (E.points.length : Int))
  fl : E.first.length ≤ 16
  fs : ∀ k ∈ E.first, 0 ≤ k ∧ k < (E.points.length : Int)
  ll : E.last.length ≤ 16
  ls : ∀ k ∈ E.last, 0 ≤ k ∧ k < (E.points.length : Int)
theorem nameB_small {s : ByteArray} (h : isNameB s = true) : s.size ≤ 12 := by
  by_cases hh : 1 ≤ s.size ∧ s.size ≤ 12
  · exact hh.2
  · rw [isNameB_short hh] at h; cases h
theorem ptsE_names {P : List ByteArray} (h : ptsE P = 0) : ∀ s ∈ P, isNameB s = true := by
  intro s hs
  obtain ⟨k, hk, rfl⟩ := List.mem_iff_getElem.1 hs
  have hall : ∀ n, ∀ j, j < n → j < P.length → ptE P j = 0 := by
    intro n
    induction n with
    | zero => intro j h1; omega
    | succ n ih =>
      intro j h1 h2
      by_cases hj : j < n
      · exact ih j hj h2
      · obtain rfl : j = n := by omega
        by_cases hz : ptE P j = 0
        · exact hz
        · rw [ptsE_hit h2 hz (fun i hi => ih i hi (by omega))] at h
          exact h
  have := hall (k + 1) k (by omega) hk
  rw [ptE_at hk] at this
  cases hn : isNameB P[k]
  · rw [hn, if_pos rfl] at this; cases this
  · rfl
theorem tail_rules {E : EntV} (h : tailE E = 0) : ∀ j, j < 7 → ruleB E j = false := by
  intro j hj
  cases hr : ruleB E j
  · rfl
  · exfalso
    have hmin : ∃ k, k < 7 ∧ ruleB E k = true ∧ ∀ i, i < k → ruleB E i = false := by
      have : ∀ n, (∃ k, k < n ∧ ruleB E k = true) → ∃ k, k < n ∧ ruleB E k = true ∧ ∀ i, i < k → ruleB E i = false := by
        intro n
        induction n with
        | zero => rintro ⟨k, hk, _⟩; omega
        | succ n ih =>
          rintro ⟨k, hk, hh⟩
          by_cases he : ∃ k, k < n ∧ ruleB E k = true
          · obtain ⟨k', h1, h2, h3⟩ := ih he
            exact ⟨k', by omega, h2, h3⟩
          · refine ⟨k, hk, hh, fun i hi => ?_⟩
            cases hri : ruleB E i
            · rfl
            · exact absurd ⟨i, by omega, hri⟩ he
      exact this 7 ⟨j, hj, hr⟩
    obtain ⟨k, h1, h2, h3⟩ := hmin
    rw [tailE_hit k h1 h2 h3] at h
    match k, h1 with
    | 0, _ => cases h
    | 1, _ => cases h
    | 2, _ => cases h
    | 3, _ => cases h
    | 4, _ => cases h
    | 5, _ => cases h
    | 6, _ => cases h
theorem good_of {ah : List ByteArray} {E : EntV} (h : entErr ah E = 0) : EntGood E := by
  have h1 : isNameB E.name = true := by
    cases hh : isNameB E.name
    · rw [entErr_name hh] at h; cases h
    · rfl
  have h2 : hasStr ah E.name = false := by
    cases hh : hasStr ah E.name
    · rfl
    · rw [entErr_exist h1 hh] at h; cases h
  have h3 : boundB E = false := by
    cases hh : boundB E
    · rfl
    · rw [entErr_bound h1 h2 hh] at h; cases h
  have h4 : ptsE E.points = 0 := by
    by_cases hh : ptsE E.points = 0
    · exact hh
    · rw [entErr_pts h1 h2 h3 hh] at h; exact h
  rw [entErr_tail' h1 h2 h3 h4] at h
  have hr := tail_rules h
  have r0 := hr 0 (by decide)
  have r1 := hr 1 (by decide)
  have r2 := hr 2 (by decide)
  have r3 := hr 3 (by decide)
  simp only [ruleB] at r0 r1 r2 r3
  unfold boundB at h3
  rw [Bool.or_eq_false_iff] at h3
  obtain ⟨t1, t2⟩ := h3
  simp only [topW, fstW, decide_eq_false_iff_not] at t1 t2
  have hst : strangeB E = false ∧ cntW E = false := by
    unfold strangP at r0
    rw [Bool.or_eq_false_iff] at r0
    exact ⟨r0.2, r0.1⟩
  obtain ⟨s1, s2⟩ := hst
  have hall : ∀ x ∈ strL E, 0 ≤ x ∧ x < (E.points.length : Int) := by
    intro x hx
    have := List.any_eq_false.1 s1 x hx
    simp only [decide_eq_true_eq] at this
    omega
  simp only [cntW, rngW, decide_eq_false_iff_not] at s2 r2
  refine ⟨nameB_small h1, by omega, by omega, fun s hs => nameB_small (ptsE_names h4 s hs), by omega, by omega, by omega, fun g hg => ?_, by omega, fun x hx => ?_, by omega, fun k hk => ?_, by omega, fun k hk => ?_⟩
  · have q := List.any_eq_false.1 r3 g hg
    simp only [gapWrong, decide_eq_true_eq] at q
    refine ⟨hall _ ?_, hall _ ?_, by omega, by omega, by omega⟩
    · unfold strL
      exact List.mem_append_left _ (List.mem_append_right _ (List.mem_flatMap.2 ⟨g, hg, by simp⟩))
    · unfold strL
      exact List.mem_append_left _ (List.mem_append_right _ (List.mem_flatMap.2 ⟨g, hg, by simp⟩))
  · refine ⟨hall _ ?_, hall _ ?_⟩
    · unfold strL
      exact List.mem_append_right _ (List.mem_flatMap.2 ⟨x, hx, by simp⟩)
    · unfold strL
      exact List.mem_append_right _ (List.mem_flatMap.2 ⟨x, hx, by simp⟩)
  · refine hall _ ?_
    unfold strL
    exact List.mem_append_left _ (List.mem_append_left _ (List.mem_append_left _ hk))
  · refine hall _ ?_
    unfold strL
    exact List.mem_append_left _ (List.mem_append_left _ (List.mem_append_right _ hk))

/-! ### The lines of an entity -/
def entB : ByteArray := ⟨#[101, 110, 116, 105, 116, 121]⟩
def pntB : ByteArray := ⟨#[112, 111, 105, 110, 116]⟩
def cntB : ByteArray := ⟨#[99, 111, 117, 110, 116]⟩
def gapB : ByteArray := ⟨#[103, 97, 112]⟩
def edgB : ByteArray := ⟨#[101, 100, 103, 101]⟩
def fstB : ByteArray := ⟨#[102, 105, 114, 115, 116]⟩
def lstB : ByteArray := ⟨#[108, 97, 115, 116]⟩
def nameAt (E : EntV) (k : Int) : ByteArray := E.points.getD k.toNat ByteArray.empty
def pntL (s : ByteArray) : List W1 := [.str pntB, .str s]
def gapLn (E : EntV) (g : GapV) : List W1 := [.str gapB, .str (nameAt E g.fr), .str (nameAt E g.dst), .num g.mn, .num g.mx]
def edgLn (E : EntV) (x : Int × Int) : List W1 := [.str edgB, .str (nameAt E x.1), .str (nameAt E x.2)]
def fstLn (E : EntV) (k : Int) : List W1 := [.str fstB, .str (nameAt E k)]
def lstLn (E : EntV) (k : Int) : List W1 := [.str lstB, .str (nameAt E k)]
def cntLn (E : EntV) : List (List W1) := if 0 ≤ E.count then [[.str cntB, .str (nameAt E E.count), .num E.mn, .num E.mx]] else []
def entLn (E : EntV) : List (List W1) := [.str entB, .str E.name, .num E.tol] :: (E.points.map pntL ++ cntLn E ++ E.gaps.map (gapLn E) ++ E.edges.map (edgLn E) ++ E.first.map (fstLn E) ++ E.last.map (lstLn E))
def linesB (L : List (List W1)) : List UInt8 := L.flatMap lineB
def textB (C : ConfV) : List UInt8 := headB C ++ C.ents.flatMap (fun E => linesB (entLn E))
theorem linesB_app (L M : List (List W1)) : linesB (L ++ M) = linesB L ++ linesB M := List.flatMap_append
theorem linesB_one (ws : List W1) : linesB [ws] = lineB ws := by simp [linesB]
theorem linesB_small {L : List (List W1)} (h : ∀ ws ∈ L, WsOk ws) : (linesB L).length ≤ 206 * L.length := by
  induction L with
  | nil => simp [linesB]
  | cons ws L ih =>
    have h1 := (h ws (List.mem_cons_self ..)).line
    have h2 := ih (fun x hx => h x (List.mem_cons_of_mem _ hx))
    show (lineB ws ++ linesB L).length ≤ _
    rw [List.length_append, List.length_cons]
    omega
theorem nameAt_small {E : EntV} (h : EntGood E) (k : Int) : (nameAt E k).size ≤ 40 := by
  unfold nameAt
  rw [List.getD_eq_getElem?_getD]
  cases hk : E.points[k.toNat]? with
  | none => exact Nat.zero_le _
  | some s =>
    have := h.ps s (List.mem_of_getElem? hk)
    show s.size ≤ 40
    omega
theorem entHead_ok {E : EntV} (h : EntGood E) : WsOk [.str entB, .str E.name, .num E.tol] :=
  ((WsOk.nil.num (by simp) _ (by have := h.tol; omega)).str (by simp) _ (by have := h.name; omega)).str (by simp) _ (by decide)
theorem pntL_ok {E : EntV} (h : EntGood E) {s : ByteArray} (hs : s ∈ E.points) : WsOk (pntL s) := (WsOk.nil.str (by simp) _ (by have := h.ps s hs; omega)).str (by simp) _ (by decide)
theorem cntLn_ok {E : EntV} (h : EntGood E) : WsOk [.str cntB, .str (nameAt E E.count), .num E.mn, .num E.mx] :=
  (((WsOk.nil.num (by simp) _ (by have := h.rng; omega)).num (by simp) _ (by have := h.rng; omega)).str (by simp) _ (nameAt_small h _)).str (by simp) _ (by decide)
theorem gapLn_ok {E : EntV} (h : EntGood E) {g : GapV} (hg : g ∈ E.gaps) : WsOk (gapLn E g) :=
  ((((WsOk.nil.num (by simp) _ (by have := h.gs g hg; omega)).num (by simp) _ (by have := h.gs g hg; omega)).str (by simp) _ (nameAt_small h _)).str (by simp) _ (nameAt_small h _)).str (by simp) _ (by decide)
theorem edgLn_ok {E : EntV} (h : EntGood E) (x : Int × Int) : WsOk (edgLn E x) := ((WsOk.nil.str (by simp) _ (nameAt_small h _)).str (by simp) _ (nameAt_small h _)).str (by simp) _ (by decide)
theorem fstLn_ok {E : EntV} (h : EntGood E) (k : Int) : WsOk (fstLn E k) := (WsOk.nil.str (by simp) _ (nameAt_small h _)).str (by simp) _ (by decide)
theorem lstLn_ok {E : EntV} (h : EntGood E) (k : Int) : WsOk (lstLn E k) := (WsOk.nil.str (by simp) _ (nameAt_small h _)).str (by simp) _ (by decide)
end Go.Proofs.YtgdaljpimblkgaaGreatDoor
