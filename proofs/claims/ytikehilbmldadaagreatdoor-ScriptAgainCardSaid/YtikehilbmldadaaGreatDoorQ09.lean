import Derived.Test.YtikehilbmldadaaGreatDoorQ03
import Derived.Deep.RegionLaw
import Derived.Deep.DeepCutAuto
import Derived.Deep.QuietTactic
import Derived.BigQuiet
set_option maxHeartbeats 1000000
set_option maxRecDepth 100000
namespace Go.Proofs.YtikehilbmldadaaGreatDoor
open Go.RowKit
set_option linter.unusedVariables false
structure GapS where
  g : GapV
  since : Int
  rep : Bool
def gsCells (x : GapS) : List Value := gapCells x.g ++ [.int .i64 x.since, .bool x.rep]
def gs0 (g : GapV) : GapS := ⟨g, 0, false⟩
theorem Tryz.infoGs : (Tryz.prog.info? 251).map (fun i => (i.zero, i.size, i.bytes)) = some (some (.agg #[.int .i64 0, .int .i64 0, .int .i64 0, .int .i64 0, .int .i64 0, .bool false]), 6, 48) := by kernel_rfl
def GapsAt (base : Nat) (ro : Option Nat) (w : World) (g : Nat) (L : List GapS) (bad : Bool) : Prop :=
  ∃ ao cap, w.heap[g]? = some (.cells #[.slice ao L.length cap, .bool bad] 249) ∧ w.ownsRow base 251 6 (.slice ao L.length cap) L.length (L.flatMap gsCells) ∧ g < base ∧ (Value.slice ao L.length cap).ownBlock = ro
theorem GapsAt.lt {base : Nat} {ro : Option Nat} {w : World} {g : Nat} {L : List GapS} {bad : Bool} (h : GapsAt base ro w g L bad) : g < w.heap.size ∧ g < base ∧ ∀ b, ro = some b → base ≤ b ∧ b < w.heap.size := by
  obtain ⟨ao, cap, h1, h2, h3, rfl⟩ := h
  exact ⟨lt_of_get h1, h3, fun b hb => h2.lt b hb⟩
theorem GapsAt.keep {S : Nat → Prop} {base : Nat} {ro : Option Nat} {w w' : World} {g : Nat} {L : List GapS} {bad : Bool} (h : GapsAt base ro w g L bad) (hk : Keep S w w') (hS : ∀ b, b = g ∨ ro = some b → ¬ S b) : GapsAt base ro w' g L bad := by
  obtain ⟨ao, cap, h1, h2, h3, h4⟩ := h
  exact ⟨ao, cap, hk.get h1 (hS g (.inl rfl)), ownsRow_keepO h2 hk (fun b hb => hS b (.inr (h4 ▸ hb))), h3, h4⟩
theorem gs_one (x : GapS) : ∀ u ∈ gsCells x, u.oneCell' = true := by
  intro u hu
  simp [gsCells, gapCells] at hu
  rcases hu with rfl | rfl | rfl | rfl | rfl | rfl <;> rfl
theorem gapsNew_step {w0 wc W w1 : World} {gps : List GapV} {k : Nat} {c0 : Value} {o : Option Nat} {a1 : Option Addr} {k1 : Nat} (hlt : k < gps.length) (hb : Below w0.heap.size w0 wc)
    (hh : wc.heap[w0.heap.size + 1]? = some (.cells #[c0, .bool false] 249)) (hW : Keep (fun _ => False) wc W) (hg : W.grownBy w1 o) (ho : ∀ b, o = some b → w0.heap.size + 2 ≤ b)
    (ho1 : w1.ownsRow (w0.heap.size + 2) 251 6 (.slice a1 (k + 1) k1) (k + 1) (((gps.take k).map gs0).flatMap gsCells ++ gsCells (gs0 gps[k]))) :
    Below w0.heap.size w0 (w1.setCell ⟨w0.heap.size + 1, 0, none⟩ (.slice a1 (k + 1) k1)) ∧ ∃ ro, GapsAt (w0.heap.size + 2) ro (w1.setCell ⟨w0.heap.size + 1, 0, none⟩ (.slice a1 (k + 1) k1)) (w0.heap.size + 1) ((gps.take (k + 1)).map gs0) false := by
  have kg : Keep (fun b => w0.heap.size + 2 ≤ b) wc w1 := Keep.step (S := fun b => w0.heap.size + 2 ≤ b) (hW.mono (fun _ _ h => h.elim)) (Keep.of_grown hg) (fun b hb' _ => ho b hb'.symm)
  have h1 := kg.get hh (by omega)
  have kk := keep_set w1 (w0.heap.size + 1) 0 (.slice a1 (k + 1) k1)
  refine ⟨(hb.trans (kg.below hb.size (fun b hb' => by omega))).trans (kk.below (Nat.le_trans hb.size kg.size) (fun b hb' => by omega)), _, a1, k1, ?_, ?_, by omega, rfl⟩
  · rw [get_setCell _ h1]
    have hl : ((gps.take (k + 1)).map gs0).length = k + 1 := by simp; omega
    rw [hl]
    simp
  · have hl : ((gps.take (k + 1)).map gs0).length = k + 1 := by simp; omega
    have hf : ((gps.take (k + 1)).map gs0).flatMap gsCells = ((gps.take k).map gs0).flatMap gsCells ++ gsCells (gs0 gps[k]) := by
      rw [List.take_succ_eq_append_getElem hlt, List.map_append, List.flatMap_append, List.map_cons, List.map_nil, List.flatMap_cons, List.flatMap_nil, List.append_nil]
    rw [hl, hf]
    exact ownsRow_keep' ho1 kk (fun b hb' _ => by omega)
theorem gapsNew_any (R : Nat → Prop) (nm vp ve vf vl : Value) (tol cnt mn mx : Int) (gps : List GapV) (ga : Option Addr) (gc : Nat) (w : World)
    (h : SlOf R w (.slice ga gps.length gc) 4 (gps.flatMap gapCells) gps.length) (hR : ∀ b, R b → b < w.heap.size) (hn : gps.length ≤ 100) :
    Calls Tryz.prog 90 #[.agg #[nm, .int .i64 tol, vp, .int .i64 cnt, .int .i64 mn, .int .i64 mx, .slice ga gps.length gc, ve, vf, vl]] w fun e w' =>
      e = .returned (.pointer (some ⟨w.heap.size + 1, 0, none⟩)) ∧ (∃ ro, GapsAt (w.heap.size + 2) ro w' (w.heap.size + 1) (gps.map gs0) false) ∧ Below w.heap.size w w' := by
  obtain ⟨i0, hi, hz0, hz1, hz2⟩ := info_parts Tryz.infoGs
  have H := Lib.hid h; clear h
  go_enter Tryz.func90, Tryz.ntmps90
  go_wp2_with fail
  go_loopw [11] (fun s wr => ∃ k : Nat, k ≤ gps.length ∧ s = .int .i64 k ∧ Below w.heap.size w wr ∧ Hid (∃ ro, GapsAt (w.heap.size + 2) ro wr (w.heap.size + 1) ((gps.take k).map gs0) false)) (fun s _ => gps.length - (intOf s).toNat)
  case atStart =>
    refine ⟨0, Nat.zero_le _, rfl, ((Below.refl _ _).alloc (Nat.le_refl _) _).alloc (by simp) _, none, none, 0, ?_, World.ownsRow_nil _ _ _ _, by omega, rfl⟩
    have := get_alloc_new (w.alloc (.cells #[nm, .int .i64 tol, vp, .int .i64 cnt, .int .i64 mn, .int .i64 mx, .slice ga gps.length gc, ve, vf, vl] 50)) (.cells #[.slice none 0 0, .bool false] 249)
    rw [World.size_alloc] at this
    exact this
  case round =>
    obtain ⟨k, hk, rfl, hb, hg⟩ := hrel
    by_cases hlt : k < gps.length
    · obtain ⟨gb, goff, rfl, hRb, _, hc⟩ := H.out.elem (f := gapCells) (fun _ => rfl) (by decide) (by omega)
      have q0 := hc k hlt 0 _ rfl
      have q1 := hc k hlt 1 _ rfl
      have q2 := hc k hlt 2 _ rfl
      have q3 := hc k hlt 3 _ rfl
      rw [← hb.cell (hR gb hRb)] at q0 q1 q2 q3
      rw [Nat.add_zero] at q0
      clear hc
      have hsz := hg.out.choose_spec.lt.1
      go_upto_region 4 with fail
      go_cut [5] (fun s wx => ∃ x, s = .pointer (some ⟨x, 0, none⟩) ∧ wr.heap.size ≤ x ∧ Hid (wx.heap[x]? = some (.cells #[.int .i64 gps[k].fr, .int .i64 gps[k].dst, .int .i64 gps[k].mn, .int .i64 gps[k].mx] 126)) ∧ Below w.heap.size w wx ∧ Hid (∃ ro, GapsAt (w.heap.size + 2) ro wx (w.heap.size + 1) ((gps.take k).map gs0) false))
      case first =>
        go_wp2_with fail
        go_meet
        exact ⟨_, rfl, Nat.le_refl _, get_alloc_new _ _, hb.alloc hb.size _, (let ⟨ro, hq⟩ := hg.out; ⟨ro, hq.keep ((Keep.refl (fun _ => False) _).alloc _) (fun _ _ h => h)⟩)⟩
      case rest =>
      obtain ⟨x, rfl, hxw, hx, hb', hg'⟩ := hcut
      clear q0 q1 q2 q3 hg hb
      obtain ⟨ro, ao, cap, hgh, hgo, _, _⟩ := hg'.out
      have hlen : ((gps.take k).map gs0).length = k := by simp; omega
      rw [hlen] at hgh hgo
      obtain ⟨g0, g1, gf⟩ := two_cells hgh
      have x0 : wc.cell? ⟨x, 0, none⟩ = some (.int .i64 gps[k].fr) := by have := hx.out; simp [World.cell?, this]
      have x1 : wc.cell? ⟨x, 1, none⟩ = some (.int .i64 gps[k].dst) := by have := hx.out; simp [World.cell?, this]
      have x2 : wc.cell? ⟨x, 2, none⟩ = some (.int .i64 gps[k].mn) := by have := hx.out; simp [World.cell?, this]
      have x3 : wc.cell? ⟨x, 3, none⟩ = some (.int .i64 gps[k].mx) := by have := hx.out; simp [World.cell?, this]
      have hxlt := lt_of_get hx.out
      have ga0 := cell_old g0
      have HO := Lib.hid hgo
      have HH := Lib.hid hgh
      clear hgo hgh
      go_upto_region 5 with fail
      go_region_law (refine step_append_own rfl (.tmp 19) (.tmp 22) 247 rfl (w.heap.size + 2) 251 i0 _ 6 48 Tryz.underlying247 hi hz0 hz1 hz2 rfl (by decide) _ k _ rfl (HO.out.alloc _) ⟨wc.heap.size, 0, none⟩ 1 1 (gsCells (gs0 gps[k])) rfl rfl (by exact new_cells _ (gsCells (gs0 gps[k])) _) (by exact gs_one _) (by unfold maxLen; omega) (by omega) (by simp; omega) ?_; intro a1 k1 w1 ho1 hgr1; have e1 := grown_two hgr1 (get_alloc_old _ HH.out) (fun e => by have := (HO.out.lt _ e).1; omega); obtain ⟨d0, d1, df⟩ := two_cells e1)
      all_goals
        have st := gapsNew_step hlt hb' HH.out ((Keep.refl (fun _ => False) wc).alloc _).drew hgr1 (fun b hb => (HO.out.lt _ hb).1) ho1
        have ST := Lib.hid st
        clear st ho1 hgr1 e1 d0 d1 df ga0 g0 g1 gf x0 x1 x2 x3 HO HH
        go_wp2_with fail
        go_roundw
        case rel => exact ⟨k + 1, by omega, by go_num, ST.out.1, ST.out.2⟩
        case measure => simp [intOf]; omega
    · go_wp2_with fail
      go_ret
      have hkk : k = gps.length := by omega
      refine ⟨rfl, ?_, hb⟩
      have := hg.out
      rw [hkk, List.take_length] at this
      exact this
theorem flat_set {α β : Type} (f : α → List β) (sz : Nat) (hf : ∀ x, (f x).length = sz) (x' : α) (j : Nat) (u : β) (hj : j < sz) : ∀ (l : List α) (k : Nat) (hk : k < l.length), (f l[k]).set j u = f x' → (l.flatMap f).set (k * sz + j) u = (l.set k x').flatMap f
  | [], k, hk, _ => by simp at hk
  | x :: l, 0, _, h => by
    rw [List.flatMap_cons, List.set_append, if_pos (by rw [hf]; omega), List.set_cons_zero, List.flatMap_cons]
    rw [Nat.zero_mul, Nat.zero_add]
    congr 1
  | x :: l, k + 1, hk, h => by
    rw [List.flatMap_cons, List.set_append, if_neg (by rw [hf, Nat.add_mul]; omega), List.set_cons_succ, List.flatMap_cons, hf]
    rw [show (k + 1) * sz + j - sz = k * sz + j from by rw [Nat.add_mul]; omega]
    rw [flat_set f sz hf x' j u hj l k (by simpa using hk) (by simpa using h)]
def gsBad (x : GapS) (point tick : Int) : Bool := decide (point = x.g.dst) && (!x.rep || decide (tick - x.since < x.g.mn) || decide (x.g.mx < tick - x.since))
def gsStep (x : GapS) (point tick : Int) : GapS := if point = x.g.fr then { x with since := tick, rep := true } else x
def gsHalf (L : List GapS) (point tick : Int) (k : Nat) : List GapS := (L.take k).map (gsStep · point tick) ++ L.drop k
theorem gsHalf_zero (L : List GapS) (p t : Int) : gsHalf L p t 0 = L := by simp [gsHalf]
theorem gsHalf_all (L : List GapS) (p t : Int) : gsHalf L p t L.length = L.map (gsStep · p t) := by simp [gsHalf]
theorem gsHalf_length (L : List GapS) (p t : Int) (k : Nat) (hk : k ≤ L.length) : (gsHalf L p t k).length = L.length := by simp [gsHalf]; omega
theorem gsHalf_get (L : List GapS) (p t : Int) (k : Nat) (hk : k < L.length) : (gsHalf L p t k)[k]'(by rw [gsHalf_length L p t k (by omega)]; exact hk) = L[k] := by
  simp only [gsHalf]
  rw [List.getElem_append_right (by simp; omega)]
  simp [Nat.min_eq_left (Nat.le_of_lt hk)]
theorem gsHalf_succ (L : List GapS) (p t : Int) (k : Nat) (hk : k < L.length) : gsHalf L p t (k + 1) = (gsHalf L p t k).set k (gsStep L[k] p t) := by
  simp only [gsHalf]
  rw [List.take_succ_eq_append_getElem hk, List.map_append, List.set_append, if_neg (by simp; omega)]
  have hl : (List.map (gsStep · p t) (List.take k L)).length = k := by simp; omega
  rw [hl, Nat.sub_self, List.drop_eq_getElem_cons hk, List.set_cons_zero]
  simp
theorem gsHalf_same (L : List GapS) (p t : Int) (k : Nat) (hk : k < L.length) (h : p ≠ L[k].g.fr) : gsHalf L p t (k + 1) = gsHalf L p t k := by
  rw [gsHalf_succ L p t k hk, gsStep, if_neg h]
  have := gsHalf_get L p t k hk
  rw [← this]
  simp
theorem gs_cells {w : World} {base row n cap : Nat} {e : TypeId} {L : List GapS} (h : w.ownsRow base e 6 (.slice (some ⟨row, 0, none⟩) n cap) n (L.flatMap gsCells)) (k : Nat) (hk : k < L.length) (hn : L.length = n) :
    w.cell? ⟨row, k * 6, none⟩ = some (.int .i64 L[k].g.fr) ∧ w.cell? ⟨row, k * 6 + 1, none⟩ = some (.int .i64 L[k].g.dst) ∧ w.cell? ⟨row, k * 6 + 2, none⟩ = some (.int .i64 L[k].g.mn) ∧ w.cell? ⟨row, k * 6 + 3, none⟩ = some (.int .i64 L[k].g.mx) ∧
    w.cell? ⟨row, k * 6 + 4, none⟩ = some (.int .i64 L[k].since) ∧ w.cell? ⟨row, k * 6 + 5, none⟩ = some (.bool L[k].rep) ∧ ∀ o, w.frozen? ⟨row, o, none⟩ = false := by
  have hc : ∀ j, j < 6 → w.cell? ⟨row, k * 6 + j, none⟩ = (gsCells L[k])[j]? := fun j hj => by
    rw [h.cellAt (k * 6 + j) (by omega)]
    exact flat_get gsCells 6 (fun _ => rfl) L k hk j hj
  exact ⟨hc 0 (by decide), hc 1 (by decide), hc 2 (by decide), hc 3 (by decide), hc 4 (by decide), hc 5 (by decide), fun o => h.frozenAt o⟩
def GsOk (L : List GapS) : Prop := ∀ x ∈ L, 0 ≤ x.since ∧ x.since ≤ 1099511627776
theorem GsOk.step {L : List GapS} (h : GsOk L) {p t : Int} (h0 : 0 ≤ t) (h1 : t ≤ 1099511627776) : GsOk (L.map (gsStep · p t)) := by
  intro x hx
  obtain ⟨y, hy, rfl⟩ := List.mem_map.1 hx
  have := h y hy
  unfold gsStep
  split
  · exact ⟨h0, h1⟩
  · exact this
def gsAnyBad (L : List GapS) (p t : Int) (k : Nat) : Bool := (L.take k).any (gsBad · p t)
theorem gsAnyBad_succ (L : List GapS) (p t : Int) (k : Nat) (hk : k < L.length) : gsAnyBad L p t (k + 1) = (gsAnyBad L p t k || gsBad L[k] p t) := by
  unfold gsAnyBad
  rw [List.take_succ_eq_append_getElem hk, List.any_append]
  simp only [List.any_cons, List.any_nil, Bool.or_false]
theorem gsAnyBad_all (L : List GapS) (p t : Int) : gsAnyBad L p t L.length = L.any (gsBad · p t) := by unfold gsAnyBad; rw [List.take_length]
theorem gsBad_other {x : GapS} {p t : Int} (h : ¬ p = x.g.dst) : gsBad x p t = false := by simp [gsBad, h]
theorem gsBad_new {x : GapS} {p t : Int} (h : p = x.g.dst) (hr : x.rep = false) : gsBad x p t = true := by simp [gsBad, h, hr]
theorem gsBad_lo {x : GapS} {p t : Int} (h : p = x.g.dst) (hr : t - x.since < x.g.mn) : gsBad x p t = true := by simp [gsBad, h, hr]
theorem gsBad_hi {x : GapS} {p t : Int} (h : p = x.g.dst) (hr : x.g.mx < t - x.since) : gsBad x p t = true := by simp [gsBad, h, hr]
theorem gsBad_ok {x : GapS} {p t : Int} (h : p = x.g.dst) (hr : x.rep = true) (h1 : x.g.mn ≤ t - x.since) (h2 : t - x.since ≤ x.g.mx) : gsBad x p t = false := by
  simp only [gsBad, decide_eq_true h, hr, decide_eq_false (show ¬ t - x.since < x.g.mn by omega), decide_eq_false (show ¬ x.g.mx < t - x.since by omega)]
  rfl
theorem ownsRow_drewN {w : World} {base : Nat} {e : TypeId} {size : Nat} {v : Value} {n : Nat} {xs : List Value} (q : Nat) (h : w.ownsRow base e size v n xs) : (w.drewN q).ownsRow base e size v n xs :=
  ownsRow_keep' h (keep_drewN q (Keep.refl (fun _ => False) w)) (fun _ _ _ h => h)
theorem gsStore {w : World} {base row cap : Nat} {e : TypeId} {L M : List GapS} {p t : Int} {k : Nat} (hk : k < M.length) (hL : k < L.length) (hM : M[k] = L[k]'hL) (hp : p = (L[k]'hL).g.fr) (h : w.ownsRow base e 6 (.slice (some ⟨row, 0, none⟩) M.length cap) M.length (M.flatMap gsCells)) :
    ((w.setCell ⟨row, k * 6 + 4, none⟩ (.int .i64 t)).setCell ⟨row, k * 6 + 5, none⟩ (.bool true)).ownsRow base e 6 (.slice (some ⟨row, 0, none⟩) M.length cap) M.length ((M.set k (gsStep (L[k]'hL) p t)).flatMap gsCells) := by
  have s1 := (h.stored (k * 6 + 4) (.int .i64 t)).1
  rw [flat_set gsCells 6 (fun _ => rfl) { M[k] with since := t } 4 _ (by decide) M k hk rfl] at s1
  have s2 := (s1.stored (k * 6 + 5) (.bool true)).1
  rw [flat_set gsCells 6 (fun _ => rfl) { M[k] with since := t, rep := true } 5 _ (by decide) _ k (by simpa using hk) (by simp; rfl)] at s2
  rw [List.set_set] at s2
  rw [gsStep, if_pos hp, ← hM]
  exact s2
theorem gapsReport_in (base : Nat) (ro : Option Nat) (g : Nat) (L : List GapS) (bad : Bool) (point tick : Int) (w : World) (h : GapsAt base ro w g L bad) (h0 : 0 ≤ tick) (h1 : tick ≤ 1099511627776) (hL : GsOk L) (hn : L.length ≤ 100) :
    Calls Tryz.prog 93 #[.pointer (some ⟨g, 0, none⟩), .int .i64 point, .int .i64 tick] w fun e w' =>
      e = .returned (.tuple #[]) ∧ GapsAt base ro w' g (L.map (gsStep · point tick)) (bad || L.any (gsBad · point tick)) ∧ Keep (fun b => b = g ∨ ro = some b) w w' := by
  obtain ⟨ao, cap, hg, ho, hgb, hro⟩ := h
  obtain ⟨g0, g1, gf⟩ := two_cells hg
  have HG := Lib.hid hg
  have HO := Lib.hid ho
  clear hg ho
  go_enter Tryz.func93, Tryz.ntmps93
  go_wp2_with fail
  clear g0 g1 gf
  go_loopw [19] (fun s wr => ∃ k : Nat, k ≤ L.length ∧ s = .int .i64 k ∧ Hid (wr.heap[g]? = some (.cells #[.slice ao L.length cap, .bool (bad || gsAnyBad L point tick k)] 249)) ∧
      Hid (wr.ownsRow base 251 6 (.slice ao L.length cap) L.length ((gsHalf L point tick k).flatMap gsCells)) ∧ Keep (fun b => b = g ∨ ro = some b) w wr) (fun s _ => L.length - (intOf s).toNat)
  case atStart => exact ⟨0, Nat.zero_le _, rfl, by simpa [gsAnyBad] using HG, by rw [gsHalf_zero]; exact HO, Keep.refl _ _⟩
  case round =>
    obtain ⟨k, hk, rfl, hg, ho, hkp⟩ := hrel
    clear HG HO
    by_cases hlt : k < L.length
    · obtain ⟨row, rfl⟩ : ∃ row, ao = some ⟨row, 0, none⟩ := by
        rcases ho.out.2 with ⟨hv, hn0⟩ | ⟨q, c, cur, hv, _⟩
        · omega
        · simp at hv; exact ⟨q, hv.1⟩
      have hrg : base ≤ row := (ho.out.lt row rfl).1
      obtain ⟨g0, g1, gf⟩ := two_cells hg.out
      have hl := gsHalf_length L point tick k hk
      obtain ⟨c0, c1, c2, c3, c4, c5, cf⟩ := gs_cells ho.out k (by omega) hl
      rw [gsHalf_get L point tick k hlt] at c0 c1 c2 c3 c4 c5
      have hsk := hL L[k] (List.getElem_mem _)
      have HG := Lib.hid hg.out
      have HO := Lib.hid ho.out
      clear hg ho
      go_upto_region 5 with fail
      go_cut [69] (fun s wx => s = .bool (gsBad L[k] point tick) ∧ ∃ q, wr.drewN q = wx)
      case first =>
        by_cases hp : point = L[k].g.dst
        · have hpb : (point == L[k].g.dst) = true := beq_iff_eq.2 hp
          have HP := Lib.hid hp
          clear hp
          cases hrep : L[k].rep
          · rw [hrep] at c5
            go_quiet (fail)
            go_wp2_with fail
            go_meet
            exact ⟨val_bool (gsBad_new HP.out hrep).symm, _, rfl⟩
          · rw [hrep] at c5
            by_cases hm : tick - L[k].since < L[k].g.mn
            · go_quiet (fail)
              go_wp2_with fail
              go_meet
              exact ⟨val_bool (gsBad_lo HP.out hm).symm, _, rfl⟩
            · by_cases hx : L[k].g.mx < tick - L[k].since
              · go_quiet (fail)
                go_wp2_with fail
                go_meet
                exact ⟨val_bool (gsBad_hi HP.out hx).symm, _, rfl⟩
              · go_quiet (fail)
                go_wp2_with fail
                go_meet
                exact ⟨val_bool (gsBad_ok HP.out hrep (by omega) (by omega)).symm, _, rfl⟩
        · have hpb : (point == L[k].g.dst) = false := by simp [hp]
          go_quiet (fail)
          go_wp2_with fail
          go_meet
          exact ⟨val_bool (gsBad_other hp).symm, _, rfl⟩
      case rest =>
      obtain ⟨rfl, q, rfl⟩ := hcut
      clear g0 g1 gf c0 c1 c2 c3 c4 c5 cf
      replace HG := Lib.hid (get_drewN q HG.out)
      replace HO := Lib.hid (ownsRow_drewN q HO.out)
      replace hkp := keep_drewN q hkp
      generalize wr.drewN q = w2 at HG HO hkp ⊢
      go_upto_if 69 with fail
      go_cut [] (fun wx => Hid (wx.heap[g]? = some (.cells #[.slice (some ⟨row, 0, none⟩) L.length cap, .bool (bad || gsAnyBad L point tick (k + 1))] 249)) ∧
        Hid (wx.ownsRow base 251 6 (.slice (some ⟨row, 0, none⟩) L.length cap) L.length ((gsHalf L point tick k).flatMap gsCells)) ∧ Keep (fun b => b = g ∨ ro = some b) w wx)
      case first =>
        have hsu := gsAnyBad_succ L point tick k hlt
        cases hgb : gsBad L[k] point tick
        · rw [hgb, Bool.or_false] at hsu
          rw [← hsu] at HG
          clear hsu
          go_wp2_with fail
          go_meet
          exact ⟨HG, HO, hkp⟩
        · rw [hgb, Bool.or_true] at hsu
          obtain ⟨g0, g1, gf⟩ := two_cells HG.out
          have n1 := get_setCell (o := 1) (.bool true) HG.out
          have n2 := keep_set w2 g 1 (.bool true)
          have HN1 := Lib.hid n1
          have HN2 := Lib.hid n2
          have HSU := Lib.hid hsu
          clear n1 n2 hsu
          go_wp2_with fail
          go_meet
          refine ⟨?_, ownsRow_keepO HO.out HN2.out (fun b hb hb' => by have := (HO.out.lt b hb).1; omega), hkp.step HN2.out (fun b hb _ => .inl hb)⟩
          rw [HSU.out, Bool.or_true]
          exact HN1.out
      case rest =>
      clear HG HO hkp
      obtain ⟨HG, HO, hkp⟩ := hcut
      obtain ⟨c0, c1, c2, c3, c4, c5, cf⟩ := gs_cells HO.out k (by omega) hl
      rw [gsHalf_get L point tick k hlt] at c0 c4 c5
      by_cases hp : point = L[k].g.fr
      · have hpb : (point == L[k].g.fr) = true := beq_iff_eq.2 hp
        have HP := Lib.hid hp
        clear hp
        go_wp2_with fail
        go_roundw
        case rel =>
          have k1 := keep_set wc row (k * 6 + 4) (.int .i64 tick)
          have k2 := keep_more k1 (k * 6 + 5) (.bool true)
          refine ⟨k + 1, by omega, by go_num, k2.get HG.out (by omega), ?_, hkp.step k2 (fun b hb _ => .inr (by rw [hb, ← hro]; rfl))⟩
          have hs := gsStore (t := tick) (M := gsHalf L point tick k) (L := L) (p := point) (k := k) (by omega) hlt (gsHalf_get L point tick k hlt) HP.out (by rw [hl]; exact HO.out)
          rw [hl, ← gsHalf_succ L point tick k hlt] at hs
          exact hs
        case measure => simp [intOf]; omega
      · have hpb : (point == L[k].g.fr) = false := by simp [hp]
        go_wp2_with fail
        go_roundw
        case rel => exact ⟨k + 1, by omega, by go_num, HG, by rw [gsHalf_same L point tick k hlt hp]; exact HO, hkp⟩
        case measure => simp [intOf]; omega
    · have hkk : k = L.length := by omega
      subst hkk
      go_wp2_with fail
      go_end0
      refine ⟨rfl, ⟨ao, cap, ?_, ?_, hgb, (by rw [← hro]; cases ao <;> rfl)⟩, hkp⟩
      · have := hg.out
        rw [gsAnyBad_all] at this
        rw [List.length_map]; exact this
      · have := ho.out
        rw [gsHalf_all] at this
        rw [List.length_map]; exact this
theorem gapsReport_any (base : Nat) (ro : Option Nat) (g : Nat) (L : List GapS) (bad : Bool) (point tick : Int) (w : World) (h : GapsAt base ro w g L bad) (h0 : 0 ≤ tick) (h1 : tick ≤ 1099511627776) (hL : GsOk L) (hn : L.length ≤ 100) :
    Calls Tryz.prog 93 #[.pointer (some ⟨g, 0, none⟩), .int .i64 point, .int .i64 tick] w fun e w' =>
      e = .returned (.tuple #[]) ∧ GapsAt base ro w' g (L.map (gsStep · point tick)) (bad || L.any (gsBad · point tick)) ∧ Keep (fun b => b = g ∨ ro = some b) w w' ∧ GsOk (L.map (gsStep · point tick)) ∧ (L.map (gsStep · point tick)).length ≤ 100 :=
  (gapsReport_in base ro g L bad point tick w h h0 h1 hL hn).mono fun _ _ ⟨a, b, c⟩ => ⟨a, b, c, hL.step h0 h1, by rw [List.length_map]; exact hn⟩
theorem gapsEnd_any (base : Nat) (ro : Option Nat) (g : Nat) (L : List GapS) (bad : Bool) (w : World) (h : GapsAt base ro w g L bad) :
    Calls Tryz.prog 237 #[.pointer (some ⟨g, 0, none⟩)] w fun e w' => e = .returned (.bool (!bad)) ∧ GapsAt base ro w' g L false ∧ Keep (fun b => b = g ∨ ro = some b) w w' := by
  obtain ⟨ao, cap, hg, ho, hgb, hro⟩ := h
  obtain ⟨g0, g1, gf⟩ := two_cells hg
  have n1 := get_setCell (o := 1) (.bool false) hg
  have n2 := keep_set w g 1 (.bool false)
  have fin : GapsAt base ro (w.setCell ⟨g, 1, none⟩ (.bool false)) g L false ∧ Keep (fun b => b = g ∨ ro = some b) w (w.setCell ⟨g, 1, none⟩ (.bool false)) :=
    ⟨⟨ao, cap, n1, ownsRow_keepO ho n2 (fun b hb hb' => by have := (ho.lt b hb).1; omega), hgb, hro⟩, n2.mono (fun b _ hb => .inl hb)⟩
  have FIN := Lib.hid fin
  clear fin n1 n2 hg ho
  go_enter Tryz.func237, Tryz.ntmps237
  go_wp2_with fail
  go_ret
  exact ⟨by cases bad <;> rfl, FIN.out⟩
end Go.Proofs.YtikehilbmldadaaGreatDoor
