/- GapsEnds: how long between any reports, cycle by cycle. -/
import Derived.Test.YtpodijlhlgbbdaaGapsEven
import Derived.Test.YtpodijlhlgbbdaaGapBad
import Derived.Test.YtpodijlhlgbbdaaFit
import Derived.Deep.DeepMust
namespace Go.Proofs.Ytpodijlhlgbbdaa
open Go.RowKit
set_option linter.unusedVariables false

theorem Try.infoMark : (Try.prog.info? 51).map (fun i => (i.zero, i.size, i.bytes)) = some (some (.agg #[.int .i64 0, .int .i64 0, .int .i64 0]), 3, 24) := by kernel_rfl

theorem wpList_append_ownS {P : Program} {w : World} {ops : Array Oper} {rest : List Oper} {o : Oper} {a : Act} {Q : Exit → Act → World → Prop} (hgd : o.guard = none) (s x : Operand) (t : TypeId)
    (ho : o.op = .call { callee := .builtin .append, args := #[s, x], argTypes := #[t, t] })
    (base : Nat) (e : TypeId) (i : TypeInfo) (z : Value) (size bytes : Nat) (ht : P.underlying t = some (.slice e)) (hi : P.info? e = some i) (hz : i.zero = some z)
    (hsize : i.size = size) (hby : i.bytes = bytes) (hzs : z.cells.size = size) (hsz : 0 < size)
    (v : Value) (n : Nat) (xs : List Value) (hs : a.eval s = v) (hown : w.ownsRow base e size v n xs)
    (ad : Addr) (m c : Nat) (news : List Value) (hx : a.eval x = .slice (some ad) m c) (hl : news.length = m * size) (hnews : ∀ j u, news[j]? = some u → w.cell? (ad.add j) = some u) (h1 : ∀ u ∈ news, u.oneCell' = true)
    (h63 : n + m ≤ maxLen) (hbytes : (n + m) * bytes ≤ 140737488355328) (hbase : base ≤ w.heap.size)
    (h : ∀ ao cap w', w'.ownsRow base e size (.slice ao (n + m) cap) (n + m) (xs ++ news) → w.grownBy w' v.ownBlock → wpList P ops Q rest (a.put o.dst (.slice ao (n + m) cap)) w') :
    wpList P ops Q (o :: rest) a w := by
  refine wpList_append_own w hgd s x t ho base e i z size bytes ht hi hz hsize hby hzs hsz v n xs hs hown ad m c news hx hl hnews h1 h63 hbytes hbase ?_
  intro v' w' ho' hg _
  rcases ho'.2 with ⟨hv, hn⟩ | ⟨g, cap, cur, hv, _⟩
  · rw [hv] at ho' ⊢
    have := h none 0 w' (by rw [hn] at ho' ⊢; exact ho') hg
    rw [hn] at this; exact this
  · rw [hv] at ho' ⊢
    exact h _ _ w' ho' hg

theorem SlOf.here {R : Nat → Prop} {w : World} {v : Value} {sz : Nat} {cs : List Value} {n : Nat} (h : SlOf R w v sz cs n) : SlOf (· < w.heap.size) w v sz cs n := by
  obtain ⟨hl, ao, cap, hv, h1, h2, h3, h4⟩ := h
  refine ⟨hl, ao, cap, hv, h1, h2, h3, fun hp => ?_⟩
  obtain ⟨b, off, ha, hR, hb, hc⟩ := h4 hp
  exact ⟨b, off, ha, hb, hb, hc⟩
theorem any_or {α : Type} (f g : α → Bool) (l : List α) : (l.any f || l.any g) = l.any (fun x => f x || g x) := by
  induction l with
  | nil => rfl
  | cons x l ih => simp only [List.any_cons, ← ih]; cases f x <;> cases g x <;> simp

/-- The state of GapsEnds between two of its inputs. -/
structure GE (w0 : World) (E : EntV) (bx : Obj) (g : Nat) (ro : Option Nat) (base : Nat) (ms : List MarkV) (T cyc : Int) (ao : Option Addr) (cap : Nat) (w : World) : Prop where
  below : Below w0.heap.size w0 w
  box : w.heap[w0.heap.size]? = some bx
  gaps : GapsAt (g + 1) ro w g (E.gaps.map (gsOf · ms)) (E.gaps.any (fun x => gapBadF x ms cyc ms.length))
  own : w.ownsRow base 51 3 (.slice ao ms.length cap) ms.length (ms.flatMap markCells)
  mks : ∀ m ∈ ms, 0 ≤ m.tick ∧ m.tick ≤ T ∧ m.cycle ≤ cyc
  lay : w0.heap.size < g ∧ g < base ∧ base ≤ w.heap.size ∧ ∀ b, ro = some b → g < b ∧ b < base
theorem GE.keep {w0 w w' : World} {E : EntV} {bx : Obj} {g : Nat} {ro : Option Nat} {base : Nat} {ms : List MarkV} {T cyc : Int} {ao : Option Addr} {cap : Nat} (h : GE w0 E bx g ro base ms T cyc ao cap w) (hk : Keep (fun _ => False) w w') : GE w0 E bx g ro base ms T cyc ao cap w' :=
  ⟨h.below.trans (hk.below h.below.size (fun _ h => h.elim)), hk.get h.box (fun h => h), h.gaps.keep hk (fun _ _ h => h), ownsRow_keep' h.own hk (fun _ _ _ h => h), h.mks, h.lay.1, h.lay.2.1, Nat.le_trans h.lay.2.2.1 hk.size, h.lay.2.2.2⟩

/-- A report. -/
theorem GE.report {w0 w w1 : World} {E : EntV} {bx : Obj} {g : Nat} {ro : Option Nat} {base : Nat} {ms : List MarkV} {T0 T cyc : Int} {ao : Option Addr} {cap : Nat} {p : Int} (h : GE w0 E bx g ro base ms T0 cyc ao cap w)
    (hg : GapsAt (g + 1) ro w1 g ((E.gaps.map (gsOf · ms)).map (gsStep · p T)) (E.gaps.any (fun x => gapBadF x ms cyc ms.length) || (E.gaps.map (gsOf · ms)).any (gsBad · p T))) (hk : Keep (fun b => b = g ∨ ro = some b) w w1) :
    Below w0.heap.size w0 w1 ∧ w1.heap[w0.heap.size]? = some bx ∧ GapsAt (g + 1) ro w1 g (E.gaps.map (gsOf · (ms ++ [(⟨p, T, cyc⟩ : MarkV)]))) (E.gaps.any (fun x => gapBadF x (ms ++ [(⟨p, T, cyc⟩ : MarkV)]) cyc (ms ++ [(⟨p, T, cyc⟩ : MarkV)]).length)) ∧
    w1.ownsRow base 51 3 (.slice ao ms.length cap) ms.length (ms.flatMap markCells) ∧ base ≤ w1.heap.size := by
  have hlt := h.lay
  refine ⟨h.below.trans (hk.below h.below.size ?_), hk.get h.box ?_, ?_, ownsRow_keep' h.own hk ?_, Nat.le_trans hlt.2.2.1 hk.size⟩
  · rintro b (rfl | hb)
    · omega
    · have := hlt.2.2.2 b hb; omega
  · rintro (hb | hb)
    · omega
    · have := hlt.2.2.2 _ hb; omega
  · have e1 : (E.gaps.map (gsOf · ms)).map (gsStep · p T) = E.gaps.map (gsOf · (ms ++ [(⟨p, T, cyc⟩ : MarkV)])) := by
      rw [List.map_map]
      exact List.map_congr_left fun x _ => (gsOf_snoc x ms ⟨p, T, cyc⟩).symm
    have e2 : (E.gaps.any (fun x => gapBadF x ms cyc ms.length) || (E.gaps.map (gsOf · ms)).any (gsBad · p T)) = E.gaps.any (fun x => gapBadF x (ms ++ [(⟨p, T, cyc⟩ : MarkV)]) cyc (ms ++ [(⟨p, T, cyc⟩ : MarkV)]).length) := by
      rw [List.any_map, any_or]
      congr 1
      funext x
      rw [gapBadF_snoc, ← gsOf_bad x ms ⟨p, T, cyc⟩ cyc rfl]
      rfl
    rw [e1, e2] at hg
    exact hg
  · rintro b hb _ (rfl | hr)
    · omega
    · have := hlt.2.2.2 b hr; omega

/-- A mark is noted. -/
theorem GE.noted {w0 w1 W w2 : World} {E : EntV} {bx : Obj} {g : Nat} {ro : Option Nat} {base : Nat} {ms : List MarkV} {T cyc : Int} {ao' : Option Addr} {cap' : Nat} {p : Int} {o : Option Nat} {T0 : Int}
    (hb : Below w0.heap.size w0 w1) (hx : w1.heap[w0.heap.size]? = some bx) (hg : GapsAt (g + 1) ro w1 g (E.gaps.map (gsOf · (ms ++ [(⟨p, T, cyc⟩ : MarkV)]))) (E.gaps.any (fun x => gapBadF x (ms ++ [(⟨p, T, cyc⟩ : MarkV)]) cyc (ms ++ [(⟨p, T, cyc⟩ : MarkV)]).length)))
    (hmk : ∀ m ∈ ms, 0 ≤ m.tick ∧ m.tick ≤ T0 ∧ m.cycle ≤ cyc) (hT0 : T0 ≤ T) (hT : 0 ≤ T) (hlay : w0.heap.size < g ∧ g < base ∧ base ≤ w1.heap.size ∧ ∀ b, ro = some b → g < b ∧ b < base)
    (hW : Keep (fun _ => False) w1 W) (ho : W.grownBy w2 o) (hob : ∀ b, o = some b → base ≤ b)
    (hown : w2.ownsRow base 51 3 (.slice ao' (ms.length + 1) cap') (ms.length + 1) (ms.flatMap markCells ++ markCells ⟨p, T, cyc⟩)) : GE w0 E bx g ro base (ms ++ [(⟨p, T, cyc⟩ : MarkV)]) T cyc ao' cap' w2 := by
  have kg : Keep (fun b => base ≤ b) w1 w2 := Keep.step (S := fun b => base ≤ b) (hW.mono (fun _ _ h => h.elim)) (Keep.of_grown ho) (fun b hb' _ => hob b hb'.symm)
  have hl : (ms ++ [(⟨p, T, cyc⟩ : MarkV)]).length = ms.length + 1 := by simp
  refine ⟨hb.trans (kg.below hb.size (fun b hb' => by omega)), kg.get hx (by omega), hg.keep kg ?_, ?_, ?_, hlay.1, hlay.2.1, Nat.le_trans hlay.2.2.1 kg.size, hlay.2.2.2⟩
  · rintro b (rfl | hb')
    · omega
    · have := hlay.2.2.2 b hb'; omega
  · rw [hl, List.flatMap_append]
    simpa using hown
  · intro m hm
    rcases List.mem_append.1 hm with h | h
    · have := hmk m h; omega
    · simp at h; subst h; simp; omega

/-- A cycle ends. -/
theorem GE.ended {w0 w w1 : World} {E : EntV} {bx : Obj} {g : Nat} {ro : Option Nat} {base : Nat} {ms : List MarkV} {T0 T cyc : Int} {ao : Option Addr} {cap : Nat} (h : GE w0 E bx g ro base ms T0 cyc ao cap w) (hT : T0 ≤ T)
    (hg : GapsAt (g + 1) ro w1 g (E.gaps.map (gsOf · ms)) false) (hk : Keep (fun b => b = g ∨ ro = some b) w w1) : GE w0 E bx g ro base ms T (cyc + 1) ao cap w1 := by
  have hlt := h.lay
  refine ⟨h.below.trans (hk.below h.below.size ?_), hk.get h.box ?_, ?_, ownsRow_keep' h.own hk ?_, fun m hm => ?_, hlt.1, hlt.2.1, Nat.le_trans hlt.2.2.1 hk.size, hlt.2.2.2⟩
  · rintro b (rfl | hb)
    · omega
    · have := hlt.2.2.2 b hb; omega
  · rintro (hb | hb)
    · omega
    · have := hlt.2.2.2 _ hb; omega
  · have e : E.gaps.any (fun x => gapBadF x ms (cyc + 1) ms.length) = false := by
      rw [List.any_eq_false]
      intro x _
      rw [gapBadF_fresh x ms (cyc + 1) (fun m hm => by have := h.mks m hm; omega)]
      simp
    rw [e]; exact hg
  · rintro b hb _ (rfl | hr)
    · omega
    · have := hlt.2.2.2 b hr; omega
  · have := h.mks m hm; omega

set_option maxRecDepth 100000 in
set_option maxHeartbeats 4000000 in
theorem gapsEnds_any (E : EntV) (reps : List RepV) (vp vg ve vf vl vr : Value) (w : World) (h : EntSl (· < w.heap.size) w E vp vg ve vf vl)
    (hr : SlOf (· < w.heap.size) w vr 3 (reps.flatMap repCells) reps.length) :
    Calls Try.prog 6 #[.agg (entCs E vp vg ve vf vl), vr] w fun e w' => e = .returned (.bool true) ∧ Below w.heap.size w w' := by
  obtain ⟨pa, pc, rfl⟩ := h.p.val
  obtain ⟨ga, gc, rfl⟩ := h.g.val
  obtain ⟨ea, ec, rfl⟩ := h.e.val
  obtain ⟨fa, fc, rfl⟩ := h.f.val
  obtain ⟨la, lc, rfl⟩ := h.l.val
  obtain ⟨ra, rc, rfl⟩ := hr.val
  obtain ⟨i0, hi0, hz0, hz1, hz2⟩ := info_parts Try.infoMark
  have H := Lib.hid h
  have HR := Lib.hid hr
  clear h hr
  unfold entCs
  go_enter Try.func6, Try.ntmps6
  go_wp2_with fail
  refine (spaced_any _).mono ?_
  rintro e w1 ⟨rfl, b1⟩
  obtain ⟨bb1, hx1⟩ := box_below b1
  clear b1
  have HX1 := Lib.hid hx1
  obtain ⟨c0, c1, c2, c3, c4, c5, c6, c7, c8, c9, cf⟩ := ten_cells hx1
  clear hx1 cf
  go_wp2_with fail
  refine (heavyEntity_x E _ _ _ _ _ _ _ _ _ _ w w1 H.out bb1).mono ?_
  rintro e w2 ⟨rfl, b2⟩
  have bb2 := bb1.trans (b2.mono bb1.size)
  have hx2 := below_get b2 HX1.out (lt_of_get HX1.out)
  clear c0 c1 c2 c3 c4 c5 c6 c7 c8 c9 HX1 b2
  by_cases hH : Heavy E
  · rw [heavyN_pos hH]
    go_wp2_with fail
    go_ret
    exact ⟨rfl, bb2⟩
  rw [heavyN_neg hH]
  go_wp2_with fail
  refine (laterFit_any (· < w.heap.size) reps _ _ (HR.out.below bb2 (fun b hb => hb))).mono ?_
  rintro e w' ⟨rfl, rfl⟩
  by_cases hF : FitP reps
  rotate_left
  · rw [fitB_neg hF]
    go_wp2_with fail
    go_ret
    exact ⟨rfl, bb2⟩
  rw [fitB_pos hF]
  have HX2 := Lib.hid hx2
  obtain ⟨c0, c1, c2, c3, c4, c5, c6, c7, c8, c9, cf⟩ := ten_cells hx2
  clear hx2 cf
  go_wp2_with fail
  refine (ownEntity_x E _ _ _ _ _ _ _ _ _ _ w w2 H.out bb2 hH).mono ?_
  rintro e w3 ⟨_, _, ga3, gc3, _, _, _, _, _, _, rfl, hs3, b3⟩
  have bb3 := bb2.trans (b3.mono bb2.size)
  have hx3 := below_get b3 HX2.out (lt_of_get HX2.out)
  have HS3 := Lib.hid hs3.g.here
  clear c0 c1 c2 c3 c4 c5 c6 c7 c8 c9 HX2 b3 hs3
  have lg := (light_of hH).g
  go_wp2_with fail
  refine (gapsNew_any (· < w3.heap.size) _ _ _ _ _ _ _ _ _ E.gaps _ _ _ HS3.out (fun b hb => hb) lg).mono ?_
  rintro e w4 ⟨rfl, ⟨ro, hg4⟩, b4⟩
  have ge : GE w E (.cells #[.string E.name, .int .i64 E.tol, .slice pa E.points.length pc, .int .i64 E.count, .int .i64 E.mn, .int .i64 E.mx, .slice ga E.gaps.length gc, .slice ea E.edges.length ec, .slice fa E.first.length fc, .slice la E.last.length lc] 30) (w3.heap.size + 1) ro w4.heap.size [] 0 0 none 0 w4 := by
    have hlt := hg4.lt
    refine ⟨bb3.trans (b4.mono bb3.size), below_get b4 hx3 (lt_of_get hx3), ?_, World.ownsRow_nil _ _ _ _, (fun m hm => by cases hm), ?_, hlt.1, Nat.le_refl _, fun b hb => ?_⟩
    · have e1 : E.gaps.any (fun x => gapBadF x [] 0 0) = false := by simp [gapBadF]
      have e2 : E.gaps.map (gsOf · []) = E.gaps.map gs0 := rfl
      show GapsAt _ _ _ _ _ (E.gaps.any (fun x => gapBadF x [] 0 0))
      rw [e1, e2]
      exact hg4
    · have := lt_of_get hx3; omega
    · have := hlt.2.2 b hb; omega
  have hgp : w.heap.size < w3.heap.size + 1 := ge.lay.1
  have GE0 := Lib.hid ge
  clear ge hg4 b4 hx3 HS3
  generalize hgg : w3.heap.size + 1 = g at GE0 hgp ⊢
  clear hgg
  go_wp2_with fail
  go_loopw [7, 8, 9, 10] (fun s7 s8 s9 s10 wr => ∃ (i cyc : Nat) (T : Int) (ms : List MarkV) (ao : Option Addr) (cap : Nat), i ≤ reps.length ∧ cyc ≤ i ∧ ms.length ≤ i ∧ 0 ≤ T ∧ T ≤ (i : Int) * 1073741824 ∧ s7 = .slice ao ms.length cap ∧ s8 = .int .i64 T ∧ s9 = .int .i64 cyc ∧ s10 = .int .i64 i ∧
    Hid (GE w E (.cells #[.string E.name, .int .i64 E.tol, .slice pa E.points.length pc, .int .i64 E.count, .int .i64 E.mn, .int .i64 E.mx, .slice ga E.gaps.length gc, .slice ea E.edges.length ec, .slice fa E.first.length fc, .slice la E.last.length lc] 30) g ro w4.heap.size ms T cyc ao cap wr)) (fun _ _ _ s _ => reps.length - (intOf s).toNat)
  case atStart => exact ⟨0, 0, 0, [], none, 0, Nat.zero_le _, Nat.le_refl _, Nat.le_refl _, by omega, by omega, rfl, rfl, rfl, rfl, GE0⟩
  case round =>
    obtain ⟨i, cyc, T, ms, ao, cap, hi, hcy, hml, hT0, hT1, rfl, rfl, rfl, rfl, ge⟩ := hrel
    clear GE0 bb3 bb2 bb1
    have hlen := hF.2
    by_cases hlt : i < reps.length
    · obtain ⟨rb, roff, rfl, hRb, _, hc⟩ := rep_cells HR.out (by omega)
      obtain ⟨q0, q1, q2⟩ := hc i hlt
      clear hc
      have hbr := ge.out.below
      rw [← hbr.cell (p := ⟨rb, roff + i * 3, none⟩) hRb] at q0
      rw [← hbr.cell (p := ⟨rb, roff + i * 3 + 1, none⟩) hRb] at q1
      rw [← hbr.cell (p := ⟨rb, roff + i * 3 + 2, none⟩) hRb] at q2
      obtain ⟨f0, f1⟩ := hF.1 reps[i] (List.getElem_mem _)
      clear hbr
      cases hfin : reps[i].fin
      · rw [hfin] at q2
        go_wp2_with fail
        have okL := gsOf_ok E.gaps ms (fun m hm => by have := ge.out.mks m hm; omega)
        refine (gapsReport_any (g + 1) ro g _ _ _ _ _ ge.out.gaps (by omega) (by omega) okL (by simp; omega)).mono ?_
        rintro e w5 ⟨rfl, h5, k5, _, _⟩
        obtain ⟨r1, r2, r3, r4, r5⟩ := ge.out.report h5 k5
        have q0' : w5.cell? ⟨rb, roff + i * 3, none⟩ = some (.int .i64 reps[i].point) := by
          rw [k5.cell (p := ⟨rb, roff + i * 3, none⟩) (Nat.lt_of_lt_of_le hRb ge.out.below.size)]
          · exact q0
          · rintro (hj | hj)
            · simp at hj; omega
            · have := ge.out.lay.2.2.2 rb hj; omega
        have lay := ge.out.lay
        have mks := Lib.hid ge.out.mks
        have R2 := Lib.hid r2
        have R3 := Lib.hid r3
        have R4 := Lib.hid r4
        have LAY := Lib.hid (show w.heap.size < g ∧ g < w4.heap.size ∧ w4.heap.size ≤ w5.heap.size ∧ ∀ b, ro = some b → g < b ∧ b < w4.heap.size from ⟨lay.1, lay.2.1, r5, lay.2.2.2⟩)
        clear h5 k5 q0 q1 q2 okL r2 r3 r4 lay ge
        go_wp2_with fail
        refine (gapsReport_out g _ _ _ (.inl (by decide))).mono ?_
        rintro e w' ⟨rfl, rfl⟩
        go_wp2_with fail
        refine (gapsReport_out g _ _ _ (.inr (by decide))).mono ?_
        rintro e w' ⟨rfl, rfl⟩
        have h63 : Hid (ms.length + 1 ≤ maxLen) := by show ms.length + 1 ≤ maxLen; unfold maxLen; omega
        have hby : Hid ((ms.length + 1) * 24 ≤ 140737488355328) := by show (ms.length + 1) * 24 ≤ 140737488355328; omega
        have hTT : Hid (T ≤ T + reps[i].later ∧ 0 ≤ T + reps[i].later) := ⟨by omega, by omega⟩
        have hbs : Hid (∀ o, w4.heap.size ≤ (w5.alloc o).heap.size) := fun o => by rw [World.size_alloc]; have := LAY.out.2.2.1; omega
        go_wp2_with (at_builtin; go_must (refine wpList_append_ownS rfl (.tmp 74) (.tmp 83) 49 rfl w4.heap.size 51 i0 _ 3 24 Try.underlying49 hi0 hz0 hz1 hz2 rfl (by decide) _ ms.length _ rfl (R4.out.alloc _) ⟨w5.heap.size, 0, none⟩ 1 1 (markCells ⟨reps[i].point, T + reps[i].later, cyc⟩) rfl rfl (new_cells _ (markCells ⟨reps[i].point, T + reps[i].later, cyc⟩) _) (mark_one _) h63.out hby.out (hbs.out _) ?_; intro a1 k1 w6 ho6 hg6))
        have nx := GE.noted r1 R2.out R3.out mks.out hTT.out.1 hTT.out.2 LAY.out ((Keep.refl (fun _ => False) w5).alloc _) hg6 (fun b hb => (R4.out.lt b hb).1) ho6
        have NX := Lib.hid nx
        clear nx ho6 hg6
        go_roundw
        case rel => exact ⟨i + 1, cyc, T + reps[i].later, _, a1, k1, by omega, by omega, by simp; omega, by omega, by omega, by simp, rfl, rfl, by go_num, NX⟩
        case measure => simp [intOf]; omega
      · rw [hfin] at q2
        go_wp2_with fail
        clear q0 q1 q2
        obtain ⟨wo, rfl⟩ : ∃ wo : World, wo = wr := ⟨_, rfl⟩
        go_loopw [11, 12] (fun s11 s12 wx => ∃ k : Nat, k ≤ E.gaps.length ∧ s11 = .bool (!((E.gaps.take k).any (fun x => gapBadF x ms cyc ms.length))) ∧ s12 = .int .i64 k ∧ Keep (fun _ => False) wo wx) (fun _ s _ => E.gaps.length - (intOf s).toNat)
        case atStart => exact ⟨0, Nat.zero_le _, rfl, rfl, Keep.refl _ _⟩
        case round =>
          obtain ⟨k, hk, rfl, rfl, kx⟩ := hrel
          have gx := ge.out.keep kx
          have c6 := (ten_cells gx.box).2.2.2.2.2.2.1
          by_cases hkl : k < E.gaps.length
          · obtain ⟨gb, goff, rfl, hRg, _, hcg⟩ := H.out.g.elem (f := gapCells) (fun _ => rfl) (by decide) (by omega)
            have x0 := hcg k hkl 0 _ rfl
            have x1 := hcg k hkl 1 _ rfl
            have x2 := hcg k hkl 2 _ rfl
            have x3 := hcg k hkl 3 _ rfl
            rw [← gx.below.cell hRg] at x0 x1 x2 x3
            rw [Nat.add_zero] at x0
            have hsl := (slOf_owns gx.own).here
            have HSL := Lib.hid hsl
            have tk : ((E.gaps.take (k + 1)).any (fun x => gapBadF x ms cyc ms.length)) = ((E.gaps.take k).any (fun x => gapBadF x ms cyc ms.length) || gapBadF E.gaps[k] ms cyc ms.length) := by
              rw [List.take_succ_eq_append_getElem hkl, List.any_append]; simp only [List.any_cons, List.any_nil, Bool.or_false]
            have TK := Lib.hid tk
            have mok : MarksOk ms := fun m hm => by have := ge.out.mks m hm; omega
            clear hsl hcg gx tk
            go_wp2_with fail
            refine (gapBad_any (· < wr.heap.size) E.gaps[k] ms _ _ wr HSL.out (fun b hb => hb) (by omega) mok).mono ?_
            rintro e w5 ⟨rfl, b5⟩
            have kx5 := kx.trans (below_keep b5)
            clear x0 x1 x2 x3 c6 b5
            cases hgb : gapBadF E.gaps[k] ms cyc ms.length
            · rw [hgb, Bool.or_false] at TK
              go_wp2_with fail
              go_roundw
              case rel => exact ⟨k + 1, by omega, by rw [TK.out], by go_num, kx5⟩
              case measure => simp [intOf]; omega
            · rw [hgb, Bool.or_true] at TK
              go_wp2_with fail
              go_roundw
              case rel => exact ⟨k + 1, by omega, by rw [TK.out]; rfl, by go_num, kx5⟩
              case measure => simp [intOf]; omega
          · have hkk : k = E.gaps.length := by omega
            subst hkk
            rw [List.take_length]
            have GX := Lib.hid gx
            clear gx
            go_wp2_with fail
            refine (gapsEnd_any (g + 1) ro g _ _ _ GX.out.gaps).mono ?_
            rintro e w5 ⟨rfl, h5, k5⟩
            have nx := GX.out.ended (T := T + reps[i].later) (by omega) h5 k5
            have e1 : ((cyc + 1 : Nat) : Int) = (cyc : Int) + 1 := by omega
            rw [← e1] at nx
            have NX := Lib.hid nx
            clear nx h5 k5 GX e1 c6
            go_wp2_with fail
            go_roundw
            case rel => exact ⟨i + 1, cyc + 1, T + reps[i].later, ms, ao, cap, by omega, by omega, by omega, by omega, by omega, rfl, rfl, by go_num, by go_num, NX⟩
            case measure => simp [intOf]; omega
    · go_wp2_with fail
      go_ret
      exact ⟨rfl, ge.out.below⟩
end Go.Proofs.Ytpodijlhlgbbdaa
