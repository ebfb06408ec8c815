/- The document's SameTexts, SameEntity, SameConfig at the same ones. -/
import Derived.Test.YtgdaljpimblkgaaGreatDoorR05
import Derived.Test.YtgdaljpimblkgaaGreatDoorR16
import Derived.Deep.RegionHeld3
namespace Go.Proofs.YtgdaljpimblkgaaGreatDoor
open Go.RowKit
set_option linter.unusedVariables false

set_option maxHeartbeats 1000000 in
theorem sameTexts_eq (R R' : Nat → Prop) (l : List ByteArray) (va vb : Value) (w : World) (ha : SlOf R w va 1 (strCells1 l) l.length) (hb : SlOf R' w vb 1 (strCells1 l) l.length) (hn : l.length ≤ 100000) :
    Calls Tryz.prog 55 #[va, vb] w fun e w' => e = .returned (.bool true) ∧ ∃ q, w' = w.drewN q := by
  obtain ⟨ao, cap, rfl⟩ := ha.val
  obtain ⟨bo, cap2, rfl⟩ := hb.val
  have HA := Lib.hid ha
  have HB := Lib.hid hb
  clear ha hb
  go_enter Tryz.func55, Tryz.ntmps55
  go_wp2_with fail
  go_loopw [5] (fun s wr => ∃ i q : Nat, i ≤ l.length ∧ s = .int .i64 i ∧ wr = w.drewN q) (fun s _ => l.length - (intOf s).toNat)
  case atStart => exact ⟨0, 0, Nat.zero_le _, rfl, rfl⟩
  case round =>
    obtain ⟨i, q, hi, rfl, rfl⟩ := hrel
    by_cases hlt : i < l.length
    · obtain ⟨b1, o1, rfl, _, hb1, hc1⟩ := str_cells HA.out (by omega)
      obtain ⟨b2, o2, rfl, _, hb2, hc2⟩ := str_cells HB.out (by omega)
      have q1 := hc1 i hlt
      have q2 := hc2 i hlt
      clear hc1 hc2
      obtain ⟨x, hx⟩ : ∃ x, x = l[i] := ⟨_, rfl⟩
      rw [← hx] at q1 q2
      have heb : (x.toList == x.toList) = true := by simp
      have heb2 : (x.toList != x.toList) = false := by simp
      clear hx
      go_wp2_with fail
      go_quiet (fail)
      go_wp2_with fail
      go_roundw
      case rel => exact ⟨i + 1, _, by omega, by go_num, rfl⟩
      case measure => simp [intOf]; omega
    · go_wp2_with fail
      go_ret
      exact ⟨rfl, _, rfl⟩

def gapV4 (a b c d : Int) : Value := .agg #[.int .i64 a, .int .i64 b, .int .i64 c, .int .i64 d]
theorem Tryz.gapEq4 (a b c d a' b' c' d' : Int) (w : World) : (Op.equalIn 10000 65 (gapV4 a b c d) (gapV4 a' b' c' d')).run Tryz.prog w = .ok (decide (a = a' ∧ b = b' ∧ c = c' ∧ d = d')) w := by
  have hS : Tryz.prog.underlying 65 = some (.struct (Tryz.prog.fieldsOf 65)) := by kernel_rfl
  have hp : Tryz.prog.stoodInHeld 65 = false := by kernel_rfl
  unfold gapV4
  rw [show (10000 : Nat) = 9999 + 1 from rfl, run_equalIn_agg w 9999 65 _ _ hS hp]
  simp only [Program.fieldsOf, Tryz.underlying65]
  go_simp
  by_cases h1 : a = a' <;> by_cases h2 : b = b' <;> by_cases h3 : c = c' <;> by_cases h4 : d = d' <;> simp [h1, h2, h3, h4]
theorem Tryz.gapGuard : Tryz.prog.eqGuardType Tryz.prog.depth 65 = false := by kernel_rfl
theorem gap_elem {R : Nat → Prop} {w : World} {ao : Option Addr} {n cap : Nat} {l : List GapV} (h : SlOf R w (.slice ao n cap) 4 (l.flatMap gapCells) l.length) (h0 : 0 < l.length) :
    ∃ b off, ao = some ⟨b, off, none⟩ ∧ R b ∧ b < w.heap.size ∧ ∀ k (hk : k < l.length), w.cell? ⟨b, off + k * 4, none⟩ = some (.int .i64 l[k].fr) ∧ w.cell? ⟨b, off + k * 4 + 1, none⟩ = some (.int .i64 l[k].dst) ∧ w.cell? ⟨b, off + k * 4 + 2, none⟩ = some (.int .i64 l[k].mn) ∧ w.cell? ⟨b, off + k * 4 + 3, none⟩ = some (.int .i64 l[k].mx) := by
  obtain ⟨b, off, ha, hR, hb, hc⟩ := h.elem (fun _ => rfl) (by decide) h0
  exact ⟨b, off, ha, hR, hb, fun k hk => ⟨hc k hk 0 _ rfl, hc k hk 1 _ rfl, hc k hk 2 _ rfl, hc k hk 3 _ rfl⟩⟩

set_option maxRecDepth 100000 in
set_option maxHeartbeats 8000000 in
theorem sameEntity_eq (R R' : Nat → Prop) (E : EntV) (vp vg ve vf vl up ug ue uf ul : Value) (w : World) (h : EntSl R w E vp vg ve vf vl) (h' : EntSl R' w E up ug ue uf ul) (hR : ∀ b, R b → b < w.heap.size) (hR' : ∀ b, R' b → b < w.heap.size) (hE : EntSmall E) :
    Calls Tryz.prog 30 #[.agg (entCs E vp vg ve vf vl), .agg (entCs E up ug ue uf ul)] w fun e w' => e = .returned (.bool true) ∧ Below w.heap.size w w' := by
  obtain ⟨pa, pc, rfl⟩ := h.p.val
  obtain ⟨ga, gc, rfl⟩ := h.g.val
  obtain ⟨ea, ec, rfl⟩ := h.e.val
  obtain ⟨fa, fc, rfl⟩ := h.f.val
  obtain ⟨la, lc, rfl⟩ := h.l.val
  obtain ⟨pa', pc', rfl⟩ := h'.p.val
  obtain ⟨ga', gc', rfl⟩ := h'.g.val
  obtain ⟨ea', ec', rfl⟩ := h'.e.val
  obtain ⟨fa', fc', rfl⟩ := h'.f.val
  obtain ⟨la', lc', rfl⟩ := h'.l.val
  have hn1 := hE.p
  have hn2 := hE.g
  have hn3 := hE.e
  have hn4 := hE.f
  have hn5 := hE.l
  have HP : Hid (∀ W, Below w.heap.size w W → Calls Tryz.prog 55 #[.slice pa E.points.length pc, .slice pa' E.points.length pc'] W fun e w' => e = .returned (.bool true) ∧ ∃ q, w' = W.drewN q) := (show _ from fun W hW => sameTexts_eq R R' _ _ _ W (h.p.below hW hR) (h'.p.below hW hR') (by omega))
  have HF : Hid (∀ W, Below w.heap.size w W → Calls Tryz.prog 56 #[.slice fa E.first.length fc, .slice fa' E.first.length fc'] W fun e w' => e = .returned (.bool true) ∧ ∃ q, w' = W.drewN q) := (show _ from fun W hW => by
    obtain ⟨c1, c2, e1, _⟩ := (h.f.below hW hR)
    have a1 := (h.f.below hW hR).mono (S := fun b => R b ∨ R' b) (fun b hb => .inl hb)
    have a2 := (h'.f.below hW hR').mono (S := fun b => R b ∨ R' b) (fun b hb => .inr hb)
    have := sameInts_any _ E.first E.first _ _ W a1 a2 (by omega) (by omega)
    rw [decide_eq_true rfl] at this
    exact this)
  have HLs : Hid (∀ W, Below w.heap.size w W → Calls Tryz.prog 56 #[.slice la E.last.length lc, .slice la' E.last.length lc'] W fun e w' => e = .returned (.bool true) ∧ ∃ q, w' = W.drewN q) := (show _ from fun W hW => by
    have a1 := (h.l.below hW hR).mono (S := fun b => R b ∨ R' b) (fun b hb => .inl hb)
    have a2 := (h'.l.below hW hR').mono (S := fun b => R b ∨ R' b) (fun b hb => .inr hb)
    have := sameInts_any _ E.last E.last _ _ W a1 a2 (by omega) (by omega)
    rw [decide_eq_true rfl] at this
    exact this)
  have HG : Hid (∀ W, Below w.heap.size w W → SlOf R W (.slice ga E.gaps.length gc) 4 (E.gaps.flatMap gapCells) E.gaps.length ∧ SlOf R' W (.slice ga' E.gaps.length gc') 4 (E.gaps.flatMap gapCells) E.gaps.length) := (show _ from fun W hW => ⟨h.g.below hW hR, h'.g.below hW hR'⟩)
  have HE : Hid (∀ W, Below w.heap.size w W → SlOf R W (.slice ea E.edges.length ec) 2 (E.edges.flatMap edgeCells) E.edges.length ∧ SlOf R' W (.slice ea' E.edges.length ec') 2 (E.edges.flatMap edgeCells) E.edges.length) := (show _ from fun W hW => ⟨h.e.below hW hR, h'.e.below hW hR'⟩)
  have hx1 := get_alloc_new w (.cells (entCs E (.slice pa E.points.length pc) (.slice ga E.gaps.length gc) (.slice ea E.edges.length ec) (.slice fa E.first.length fc) (.slice la E.last.length lc)) 52)
  have hb1 : Below w.heap.size w (w.alloc (.cells (entCs E (.slice pa E.points.length pc) (.slice ga E.gaps.length gc) (.slice ea E.edges.length ec) (.slice fa E.first.length fc) (.slice la E.last.length lc)) 52)) := (Below.refl _ _).alloc (Nat.le_refl _) _
  obtain ⟨w1, hw1⟩ : ∃ w1, w1 = w.alloc (.cells (entCs E (.slice pa E.points.length pc) (.slice ga E.gaps.length gc) (.slice ea E.edges.length ec) (.slice fa E.first.length fc) (.slice la E.last.length lc)) 52) := ⟨_, rfl⟩
  rw [← hw1] at hx1 hb1
  have hx2 := get_alloc_new w1 (.cells (entCs E (.slice pa' E.points.length pc') (.slice ga' E.gaps.length gc') (.slice ea' E.edges.length ec') (.slice fa' E.first.length fc') (.slice la' E.last.length lc')) 52)
  have hb2 : Below w1.heap.size w1 (w1.alloc (.cells (entCs E (.slice pa' E.points.length pc') (.slice ga' E.gaps.length gc') (.slice ea' E.edges.length ec') (.slice fa' E.first.length fc') (.slice la' E.last.length lc')) 52)) := (Below.refl _ _).alloc (Nat.le_refl _) _
  have hsz1 : w1.heap.size = w.heap.size + 1 := by rw [hw1]; simp
  clear h h' hR hR' hE
  unfold entCs at hw1 hx1 hx2 hb2 ⊢
  go_enter Tryz.func30, Tryz.ntmps30
  go_upto_region 1 with fail
  rw [← hw1]
  generalize w1.alloc _ = wb at hx2 hb2 ⊢
  rw [hsz1] at hx2
  have HBW := Lib.hid (hb1.trans (hb2.mono hb1.size))
  have HX1 := Lib.hid (below_get hb2 hx1 (lt_of_get hx1))
  have HX2 := Lib.hid hx2
  obtain ⟨y0, y1, y2, y3, y4, y5, y6, y7, y8, y9, yf⟩ := ten_cells HX1.out
  obtain ⟨z0, z1, z2, z3, z4, z5, z6, z7, z8, z9, zf⟩ := ten_cells HX2.out
  clear hx1 hx2 hb1 hb2 hw1 hsz1 yf zf
  have heqS : (E.name.toList == E.name.toList) = true := by simp
  have heqN : (E.name.toList != E.name.toList) = false := by simp
  go_upto_region 3 with fail
  go_wp2_with fail
  refine (HP.out _ (by repeat (first | exact HBW.out | refine below_drewN' _ ?_ | refine Below.drew ?_))).mono ?_
  rintro e w2 ⟨rfl, q1, rfl⟩
  go_wp2_with fail
  refine (HF.out _ (by repeat (first | exact HBW.out | refine below_drewN' _ ?_ | refine Below.drew ?_))).mono ?_
  rintro e w3 ⟨rfl, q2, rfl⟩
  go_wp2_with fail
  refine (HLs.out _ (by repeat (first | exact HBW.out | refine below_drewN' _ ?_ | refine Below.drew ?_))).mono ?_
  rintro e w4 ⟨rfl, q3, rfl⟩
  try simp only [World.drewN_drewN]
  have hb5 : Below w.heap.size w (wb.drewN (q1 + q2 + q3)) := by repeat (first | exact HBW.out | refine below_drewN' _ ?_)
  have ec5 : ∀ p, (wb.drewN (q1 + q2 + q3)).cell? p = wb.cell? p := fun p => rfl
  generalize wb.drewN (q1 + q2 + q3) = w5 at hb5 ec5 ⊢
  rw [← ec5] at y0 y1 y2 y3 y4 y5 y6 y7 y8 y9 z0 z1 z2 z3 z4 z5 z6 z7 z8 z9
  have HB5 := Lib.hid hb5
  clear hb5 ec5 y0 y1 y2 y3 y4 y5 y8 y9 z0 z1 z2 z3 z4 z5 z8 z9
  obtain ⟨HG5, HG5'⟩ := HG.out w5 HB5.out
  obtain ⟨HE5, HE5'⟩ := HE.out w5 HB5.out
  have G5 := Lib.hid HG5
  have G5' := Lib.hid HG5'
  have E5 := Lib.hid HE5
  have E5' := Lib.hid HE5'
  clear HG5 HG5' HE5 HE5' heqS heqN
  go_wp2_with fail
  go_loopw [5] (fun s wr => ∃ i q : Nat, i ≤ E.gaps.length ∧ s = .int .i64 i ∧ wr = w5.drewN q) (fun s _ => E.gaps.length - (intOf s).toNat)
  case atStart => exact ⟨0, 0, Nat.zero_le _, rfl, rfl⟩
  case round =>
    obtain ⟨i, q, hi, rfl, rfl⟩ := hrel
    by_cases hlt : i < E.gaps.length
    · obtain ⟨b1, o1, rfl, _, hb1, hc1⟩ := gap_elem G5.out (by omega)
      obtain ⟨b2, o2, rfl, _, hb2, hc2⟩ := gap_elem G5'.out (by omega)
      obtain ⟨p0, p1, p2, p3⟩ := hc1 i hlt
      obtain ⟨r0, r1, r2, r3⟩ := hc2 i hlt
      obtain ⟨x, hx⟩ : ∃ x, x = E.gaps[i] := ⟨_, rfl⟩
      rw [← hx] at p0 p1 p2 p3 r0 r1 r2 r3
      clear hc1 hc2 hx
      have hgd := Tryz.gapGuard
      have heq : ∀ w, (Op.equalIn 10000 65 (.agg #[.int .i64 x.fr, .int .i64 x.dst, .int .i64 x.mn, .int .i64 x.mx]) (.agg #[.int .i64 x.fr, .int .i64 x.dst, .int .i64 x.mn, .int .i64 x.mx])).run Tryz.prog w = .ok true w := fun w => by
        have := Tryz.gapEq4 x.fr x.dst x.mn x.mx x.fr x.dst x.mn x.mx w
        unfold gapV4 at this
        rw [this]; simp
      go_wp2_with fail
      go_quiet (fail)
      go_wp2_with fail
      go_roundw
      case rel => exact ⟨i + 1, _, by omega, by go_num, rfl⟩
      case measure => simp [intOf]; omega
    · have hb6 : Below w.heap.size w (w5.drewN q) := below_drewN' _ HB5.out
      have HB6 := Lib.hid hb6
      clear hb6
      go_wp2_with fail
      go_loopw [6] (fun s wr => ∃ j r : Nat, j ≤ E.edges.length ∧ s = .int .i64 j ∧ wr = w5.drewN r) (fun s _ => E.edges.length - (intOf s).toNat)
      case atStart => exact ⟨0, q, Nat.zero_le _, rfl, rfl⟩
      case round =>
        obtain ⟨j, r, hj, rfl, rfl⟩ := hrel
        by_cases hlt2 : j < E.edges.length
        · obtain ⟨b1, o1, rfl, _, hb1, hc1⟩ := edge_elem E5.out (by omega)
          obtain ⟨b2, o2, rfl, _, hb2, hc2⟩ := edge_elem E5'.out (by omega)
          obtain ⟨p0, p1⟩ := hc1 j hlt2
          obtain ⟨r0, r1⟩ := hc2 j hlt2
          obtain ⟨x, hx⟩ : ∃ x, x = E.edges[j] := ⟨_, rfl⟩
          rw [← hx] at p0 p1 r0 r1
          clear hc1 hc2 hx
          have heq : ∀ w, (Op.equalIn 10000 66 (.agg #[.int .i64 x.1, .int .i64 x.2]) (.agg #[.int .i64 x.1, .int .i64 x.2])).run Tryz.prog w = .ok true w := fun w => by
            have := Tryz.pairEqE w x.1 x.2 x.1 x.2
            rw [this]; simp
          go_wp2_with fail
          go_quiet (fail)
          go_wp2_with fail
          go_roundw
          case rel => exact ⟨j + 1, _, by omega, by go_num, rfl⟩
          case measure => simp [intOf]; omega
        · go_wp2_with fail
          go_ret
          exact ⟨rfl, below_drewN' _ HB5.out⟩
end Go.Proofs.YtgdaljpimblkgaaGreatDoor

/- The document's SameConfig at the same ones. -/
namespace Go.Proofs.YtgdaljpimblkgaaGreatDoor
open Go.RowKit
set_option linter.unusedVariables false

set_option maxRecDepth 100000 in
set_option maxHeartbeats 8000000 in
theorem sameConfig_eq (R R' : Nat → Prop) (C : ConfV) (v v' : Value) (X X' : List EntX) (w : World) (h : ConfSl R w C v X) (h' : ConfSl R' w C v' X') (hR : ∀ b, R b → b < w.heap.size) (hR' : ∀ b, R' b → b < w.heap.size) :
    Calls Tryz.prog 15 #[.agg (confCs C v), .agg (confCs C v')] w fun e w' => e = .returned (.bool true) ∧ Below w.heap.size w w' := by
  obtain ⟨ao, cap, rfl⟩ := h.sl.row.val
  obtain ⟨bo, cap', rfl⟩ := h'.sl.row.val
  obtain ⟨hc1, hc2⟩ := h.sl.row.capB
  obtain ⟨hc1', hc2'⟩ := h'.sl.row.capB
  have hl1 : X.length = C.ents.length := by rw [h.eq, List.length_map]
  have hl2 : X'.length = C.ents.length := by rw [h'.eq, List.length_map]
  have hXl := h.len
  have hee : ∀ i (h1 : i < X.length) (h2 : i < X'.length), X'[i].E = X[i].E := by
    intro i h1 h2
    have e1 : (X.map EntX.E)[i]? = (X'.map EntX.E)[i]? := by rw [← h.eq, ← h'.eq]
    rw [List.getElem?_eq_getElem (by simpa using h1), List.getElem?_eq_getElem (by simpa using h2)] at e1
    have := Option.some.inj e1
    simpa using this.symm
  obtain ⟨n, hn⟩ : ∃ n, n = X.length := ⟨_, rfl⟩
  have hl12 : X'.length = n := by omega
  have H := Lib.hid h
  have H' := Lib.hid h'
  have HR := Lib.hid hR
  have HR' := Lib.hid hR'
  have HEE := Lib.hid hee
  have HN := Lib.hid hn
  have HN' := Lib.hid hl12
  rw [hl12]
  rw [← hn] at hc1 hXl ⊢
  rw [hl12] at hc1'
  have hx1 := get_alloc_new w (.cells (confCs C (.slice ao n cap)) 24)
  have hb1 : Below w.heap.size w (w.alloc (.cells (confCs C (.slice ao n cap)) 24)) := (Below.refl _ _).alloc (Nat.le_refl _) _
  obtain ⟨w1, hw1⟩ : ∃ w1, w1 = w.alloc (.cells (confCs C (.slice ao n cap)) 24) := ⟨_, rfl⟩
  rw [← hw1] at hx1 hb1
  have hx2 := get_alloc_new w1 (.cells (confCs C (.slice bo n cap')) 24)
  have hb2 : Below w1.heap.size w1 (w1.alloc (.cells (confCs C (.slice bo n cap')) 24)) := (Below.refl _ _).alloc (Nat.le_refl _) _
  have hsz1 : w1.heap.size = w.heap.size + 1 := by rw [hw1]; simp
  clear h h' hR hR' hee hn hl12 hl1 hl2
  unfold confCs at hw1 hx1 hx2 hb2 ⊢
  go_enter Tryz.func15, Tryz.ntmps15
  go_upto_region 1 with fail
  rw [← hw1]
  generalize w1.alloc _ = wb at hx2 hb2 ⊢
  rw [hsz1] at hx2
  have HBW := Lib.hid (hb1.trans (hb2.mono hb1.size))
  have HX1 := Lib.hid (below_get hb2 hx1 (lt_of_get hx1))
  have HX2 := Lib.hid hx2
  obtain ⟨y0, y1, y2, y3, y4⟩ := conf_cells (C := C) HX1.out
  obtain ⟨z0, z1, z2, z3, z4⟩ := conf_cells (C := C) HX2.out
  clear hx1 hx2 hb1 hb2 hw1 hsz1
  go_wp2_with fail
  go_loopw [5] (fun s wr => ∃ i : Nat, i ≤ n ∧ s = .int .i64 i ∧ Hid (Below w.heap.size w wr) ∧ Hid (wr.heap[w.heap.size]? = some (.cells (confCs C (.slice ao n cap)) 24)) ∧ Hid (wr.heap[w.heap.size + 1]? = some (.cells (confCs C (.slice bo n cap')) 24))) (fun s _ => n - (intOf s).toNat)
  case atStart => exact ⟨0, Nat.zero_le _, rfl, HBW, HX1, HX2⟩
  case round =>
    obtain ⟨i, hi, rfl, hbl, hxa, hxb⟩ := hrel
    clear HBW HX1 HX2 y0 y1 y2 y3 y4 z0 z1 z2 z3 z4
    obtain ⟨y0, y1, y2, y3, y4⟩ := conf_cells (C := C) hxa.out
    obtain ⟨z0, z1, z2, z3, z4⟩ := conf_cells (C := C) hxb.out
    clear y0 y1 y2 y3 z0 z1 z2 z3
    by_cases hlt : i < n
    · have h1 : i < X.length := by rw [← HN.out]; exact hlt
      have h2 : i < X'.length := by rw [HN'.out]; exact hlt
      have hra := H.out.sl.row
      have hrb := H'.out.sl.row
      obtain ⟨ba, oa, rfl, hRa, hba, hca⟩ := ent_elem hra (by omega)
      obtain ⟨bb, ob, rfl, hRb, hbb, hcb⟩ := ent_elem hrb (by omega)
      obtain ⟨p0, p1, p2, p3, p4, p5, p6, p7, p8, p9⟩ := hca i h1
      obtain ⟨q0, q1, q2, q3, q4, q5, q6, q7, q8, q9⟩ := hcb i h2
      have hRa' := HR.out ba hRa
      have hRb' := HR'.out bb hRb
      rw [← hbl.out.cell hRa'] at p0 p1 p2 p3 p4 p5 p6 p7 p8 p9
      rw [← hbl.out.cell hRb'] at q0 q1 q2 q3 q4 q5 q6 q7 q8 q9
      rw [HEE.out i h1 h2] at q0 q1 q3 q4 q5
      have hEa := H.out.sl.each X[i] (List.getElem_mem h1)
      have hEb := H'.out.sl.each X'[i] (List.getElem_mem h2)
      rw [HEE.out i h1 h2] at hEb
      have hSm := H.out.small X[i] (List.getElem_mem h1)
      have HSE := Lib.hid (fun W (hW : Below w.heap.size w W) => sameEntity_eq R R' X[i].E _ _ _ _ _ _ _ _ _ _ W (hEa.keep (Keep.of_below hW) (fun b hb hS => by have := HR.out b hb; omega)) (hEb.keep (Keep.of_below hW) (fun b hb hS => by have := HR'.out b hb; omega)) (below_lt2 HR.out hW) (below_lt2 HR'.out hW) hSm)
      obtain ⟨pa, pc, hvp⟩ := hEa.p.val
      obtain ⟨ga, gc, hvg⟩ := hEa.g.val
      obtain ⟨ea, ec, hve⟩ := hEa.e.val
      obtain ⟨fa, fc, hvf⟩ := hEa.f.val
      obtain ⟨la, lc, hvl⟩ := hEa.l.val
      obtain ⟨pa', pc', hvp'⟩ := hEb.p.val
      obtain ⟨ga', gc', hvg'⟩ := hEb.g.val
      obtain ⟨ea', ec', hve'⟩ := hEb.e.val
      obtain ⟨fa', fc', hvf'⟩ := hEb.f.val
      obtain ⟨la', lc', hvl'⟩ := hEb.l.val
      rw [hvp, hvg, hve, hvf, hvl, hvp', hvg', hve', hvf', hvl'] at HSE
      rw [hvp] at p2
      rw [hvg] at p6
      rw [hve] at p7
      rw [hvf] at p8
      rw [hvl] at p9
      rw [hvp'] at q2
      rw [hvg'] at q6
      rw [hve'] at q7
      rw [hvf'] at q8
      rw [hvl'] at q9
      obtain ⟨xe, hxe⟩ : ∃ xe, xe = X[i].E := ⟨_, rfl⟩
      rw [← hxe] at HSE p0 p1 p2 p3 p4 p5 p6 p7 p8 p9 q0 q1 q2 q3 q4 q5 q6 q7 q8 q9
      unfold entCs at HSE
      have hla := Nat.lt_of_lt_of_le hRa' hbl.out.size
      have hlb := Nat.lt_of_lt_of_le hRb' hbl.out.size
      have hlq := lt_of_get hxb.out
      have hlq0 := lt_of_get hxa.out
      clear hca hcb hvp hvg hve hvf hvl hvp' hvg' hve' hvf' hvl' hEa hEb hSm hxe hra hrb hba hbb h1 h2
      go_upto_region 6 with fail
      go_cut [6] (fun s wx => s = .bool true ∧ Below wr.heap.size wr wx)
      case first =>
        go_region_held3 (fun w' => (∀ o, w'.cell? ⟨w.heap.size, o, none⟩ = wr.cell? ⟨w.heap.size, o, none⟩) ∧ (∀ o, w'.cell? ⟨w.heap.size + 1, o, none⟩ = wr.cell? ⟨w.heap.size + 1, o, none⟩) ∧ (∀ o, w'.cell? ⟨ba, o, none⟩ = wr.cell? ⟨ba, o, none⟩) ∧ (∀ o, w'.cell? ⟨bb, o, none⟩ = wr.cell? ⟨bb, o, none⟩))
          (first | exact ⟨fun _ => rfl, fun _ => rfl, fun _ => rfl, fun _ => rfl⟩ | exact ⟨fun o => d1.cell (p := ⟨w.heap.size, o, none⟩) hlq0, fun o => d1.cell (p := ⟨w.heap.size + 1, o, none⟩) hlq, fun o => d1.cell (p := ⟨ba, o, none⟩) hla, fun o => d1.cell (p := ⟨bb, o, none⟩) hlb⟩)
          (first | (go_at_call 30; refine (HSE.out _ ?_).mono ?_; (repeat (first | exact hbl.out | refine Below.drew ?_)); rintro e w2 ⟨rfl, b2⟩; have d1 : Below wr.heap.size wr w2 := (by repeat (first | exact Below.refl _ _ | exact b2 | refine Below.drew ?_ | refine Below.trans ?_ b2))))
        all_goals (go_wp2_with fail; go_meet)
        all_goals exact ⟨rfl, by repeat (first | exact d1 | refine Below.drew ?_)⟩
      case rest =>
      obtain ⟨rfl, hb3⟩ := hcut
      have nb := Lib.hid (hbl.out.trans (hb3.mono hbl.out.size))
      have na := Lib.hid (below_get hb3 hxa.out hlq0)
      have nz := Lib.hid (below_get hb3 hxb.out hlq)
      clear p0 p1 p2 p3 p4 p5 p6 p7 p8 p9 q0 q1 q2 q3 q4 q5 q6 q7 q8 q9 HSE hb3 y4 z4
      go_wp2_with fail
      go_roundw
      case rel => exact ⟨i + 1, by omega, by go_num, nb, na, nz⟩
      case measure => simp [intOf]; omega
    · go_wp2_with fail
      go_ret
      exact ⟨rfl, hbl.out⟩
end Go.Proofs.YtgdaljpimblkgaaGreatDoor
