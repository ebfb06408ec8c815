/- The walks of package alive: what New, Report, Count, End do to a counter's four cells. -/
import Derived.Test.YtakjbjokekbmbaaGreatDoorR01
import Derived.Test.YtakjbjokekbmbaaGreatDoorR06
import Derived.Deep.RegionLaw
import Derived.Deep.DeepCutAuto
import Derived.Deep.QuietTactic
import Derived.BigQuiet
namespace Go.Proofs.YtakjbjokekbmbaaGreatDoor
open Go.RowKit
set_option linter.unusedVariables false

def alivePt (cnt : Int) (pl : Nat) : Int := if cnt < 0 ∨ (pl : Int) ≤ cnt then -1 else cnt
def aliveC (p mn mx c : Int) : Obj := .cells #[.int .i64 p, .int .i64 mn, .int .i64 mx, .int .i64 c] 151

set_option maxHeartbeats 400000 in
theorem aliveNew_w (nm g ed f l : Value) (t cnt mn mx : Int) (a : Option Addr) (pl pc : Nat) (w : World) :
    Calls Tryz.prog 55 #[.agg #[nm, .int .i64 t, .slice a pl pc, .int .i64 cnt, .int .i64 mn, .int .i64 mx, g, ed, f, l]] w fun e w' =>
      e = .returned (.pointer (some ⟨w.heap.size + 1, 0, none⟩)) ∧
      (w.alloc (.cells #[nm, .int .i64 t, .slice a pl pc, .int .i64 cnt, .int .i64 mn, .int .i64 mx, g, ed, f, l] 38)).alloc (aliveC (alivePt cnt pl) mn mx 0) = w' := by
  go_enter Tryz.func55, Tryz.ntmps55
  go_wp2
  all_goals go_ret
  · rename_i h1 h2; exact ⟨rfl, by simp [aliveC, alivePt, h2]⟩
  · rename_i h1 h2; exact ⟨rfl, by rw [alivePt, if_neg (by omega)]; rfl⟩
  · rename_i h1; exact ⟨rfl, by simp [aliveC, alivePt, h1]⟩

theorem aliveNew_any (nm g ed f l : Value) (t cnt mn mx : Int) (a : Option Addr) (pl pc : Nat) (w : World) :
    Calls Tryz.prog 55 #[.agg #[nm, .int .i64 t, .slice a pl pc, .int .i64 cnt, .int .i64 mn, .int .i64 mx, g, ed, f, l]] w fun e w' =>
      ∃ b, e = .returned (.pointer (some ⟨b, 0, none⟩)) ∧ w.heap.size ≤ b ∧ w'.heap[b]? = some (aliveC (alivePt cnt pl) mn mx 0) ∧ Below w.heap.size w w' := by
  refine (aliveNew_w nm g ed f l t cnt mn mx a pl pc w).mono ?_
  rintro e w' ⟨rfl, rfl⟩
  refine ⟨_, rfl, by omega, ?_, ((Below.refl _ _).alloc (Nat.le_refl _) _).alloc (by simp) _⟩
  have := get_alloc_new (w.alloc (.cells #[nm, .int .i64 t, .slice a pl pc, .int .i64 cnt, .int .i64 mn, .int .i64 mx, g, ed, f, l] 38)) (aliveC (alivePt cnt pl) mn mx 0)
  simpa using this

theorem alive_cells {w : World} {b : Nat} {p mn mx c : Int} (h : w.heap[b]? = some (aliveC p mn mx c)) :
    w.cell? ⟨b, 0, none⟩ = some (.int .i64 p) ∧ w.cell? ⟨b, 1, none⟩ = some (.int .i64 mn) ∧ w.cell? ⟨b, 2, none⟩ = some (.int .i64 mx) ∧ w.cell? ⟨b, 3, none⟩ = some (.int .i64 c) ∧ w.frozen? ⟨b, 3, none⟩ = false := by
  unfold aliveC at h
  simp [World.cell?, World.frozen?, h]

set_option maxHeartbeats 400000 in
theorem aliveReport_hit (b : Nat) (p c : Int) (w : World) (h0 : w.cell? ⟨b, 0, none⟩ = some (.int .i64 p)) (h3 : w.cell? ⟨b, 3, none⟩ = some (.int .i64 c)) (hf : w.frozen? ⟨b, 3, none⟩ = false) (hp : 0 ≤ p) (hc : 0 ≤ c) (hc' : c ≤ 1000) :
    Calls Tryz.prog 58 #[.pointer (some ⟨b, 0, none⟩), .int .i64 p] w fun e w' =>
      e = .returned (.tuple #[]) ∧ w.setCell ⟨b, 3, none⟩ (.int .i64 (min 1000 (c + 1))) = w' := by
  go_enter Tryz.func58, Tryz.ntmps58
  go_wp2
  · go_end0
    refine ⟨rfl, ?_⟩
    rw [show min (1000 : Int) (c + 1) = c + 1 from by omega]
  · go_end0
    refine ⟨rfl, ?_⟩
    rw [show min (1000 : Int) (c + 1) = 1000 from by omega]

set_option maxHeartbeats 400000 in
theorem aliveReport_miss (b : Nat) (p q : Int) (w : World) (h0 : w.cell? ⟨b, 0, none⟩ = some (.int .i64 p)) (hp : p < 0 ∨ (q == p) = false) :
    Calls Tryz.prog 58 #[.pointer (some ⟨b, 0, none⟩), .int .i64 q] w fun e w' =>
      e = .returned (.tuple #[]) ∧ w = w' := by
  by_cases hn : p < 0
  · clear hp
    go_enter Tryz.func58, Tryz.ntmps58
    go_wp2
    all_goals go_end0
    all_goals exact ⟨rfl, rfl⟩
  · have hq := hp.resolve_left hn
    clear hp
    go_enter Tryz.func58, Tryz.ntmps58
    go_wp2
    all_goals go_end0
    all_goals exact ⟨rfl, rfl⟩

def aliveStep (p c q : Int) : Int := if 0 ≤ p ∧ q = p then min 1000 (c + 1) else c

theorem aliveReport_any (b : Nat) (p mn mx c q : Int) (w : World) (h : w.heap[b]? = some (aliveC p mn mx c)) (hc : 0 ≤ c) (hc' : c ≤ 1000) :
    Calls Tryz.prog 58 #[.pointer (some ⟨b, 0, none⟩), .int .i64 q] w fun e w' =>
      e = .returned (.tuple #[]) ∧ w'.heap[b]? = some (aliveC p mn mx (aliveStep p c q)) ∧ Keep (· = b) w w' := by
  obtain ⟨h0, h1, h2, h3, hf⟩ := alive_cells h
  by_cases hp : 0 ≤ p ∧ q = p
  · obtain ⟨hp1, rfl⟩ := hp
    refine (aliveReport_hit b q c w h0 h3 hf hp1 hc hc').mono ?_
    rintro e w' ⟨rfl, rfl⟩
    refine ⟨rfl, ?_, keep_set _ _ _ _⟩
    rw [get_setCell _ h]
    simp [aliveC, aliveStep, hp1]
  · refine (aliveReport_miss b p q w h0 ?_).mono ?_
    · by_cases hn : p < 0
      · exact .inl hn
      · exact .inr (by simp; omega)
    · rintro e w' ⟨rfl, rfl⟩
      exact ⟨rfl, by rw [aliveStep, if_neg hp]; exact h, Keep.refl _ _⟩

def aliveOk (p mn mx c : Int) (whole : Bool) : Bool := decide (p < 0) || !whole || (decide (mn ≤ c) && decide (c ≤ mx))

set_option maxHeartbeats 400000 in
theorem aliveEnd_w (b : Nat) (p mn mx c : Int) (wh : Bool) (w : World) (h0 : w.cell? ⟨b, 0, none⟩ = some (.int .i64 p)) (h1 : w.cell? ⟨b, 1, none⟩ = some (.int .i64 mn)) (h2 : w.cell? ⟨b, 2, none⟩ = some (.int .i64 mx))
    (h3 : w.cell? ⟨b, 3, none⟩ = some (.int .i64 c)) (hf : w.frozen? ⟨b, 3, none⟩ = false) :
    Calls Tryz.prog 110 #[.pointer (some ⟨b, 0, none⟩), .bool wh] w fun e w' => e = .returned (.bool (aliveOk p mn mx c wh)) ∧ w.setCell ⟨b, 3, none⟩ (.int .i64 0) = w' := by
  cases wh
  · go_enter Tryz.func110, Tryz.ntmps110
    go_wp2
    all_goals go_ret
    all_goals exact ⟨by simp [aliveOk, *] <;> omega, rfl⟩
  · by_cases hp : p < 0
    · go_enter Tryz.func110, Tryz.ntmps110
      go_wp2
      all_goals go_ret
      all_goals exact ⟨by simp [aliveOk, *] <;> omega, rfl⟩
    · by_cases hm : mn ≤ c
      · go_enter Tryz.func110, Tryz.ntmps110
        go_wp2
        all_goals go_ret
        all_goals exact ⟨by simp [aliveOk, *] <;> omega, rfl⟩
      · go_enter Tryz.func110, Tryz.ntmps110
        go_wp2
        all_goals go_ret
        all_goals exact ⟨by simp [aliveOk, *] <;> omega, rfl⟩

theorem aliveEnd_any (b : Nat) (p mn mx c : Int) (wh : Bool) (w : World) (h : w.heap[b]? = some (aliveC p mn mx c)) :
    Calls Tryz.prog 110 #[.pointer (some ⟨b, 0, none⟩), .bool wh] w fun e w' => e = .returned (.bool (aliveOk p mn mx c wh)) ∧ w'.heap[b]? = some (aliveC p mn mx 0) ∧ Keep (· = b) w w' := by
  obtain ⟨h0, h1, h2, h3, hf⟩ := alive_cells h
  refine (aliveEnd_w b p mn mx c wh w h0 h1 h2 h3 hf).mono ?_
  rintro e w' ⟨rfl, rfl⟩
  exact ⟨rfl, by rw [get_setCell _ h]; simp [aliveC], keep_set _ _ _ _⟩

end Go.Proofs.YtakjbjokekbmbaaGreatDoor

/- The walks of package gaps. -/
namespace Go.Proofs.YtakjbjokekbmbaaGreatDoor
open Go.RowKit
set_option linter.unusedVariables false

/-- A gap, the tick of its latest start, and was there one. -/
structure GapS where
  g : GapV
  since : Int
  rep : Bool
def gsCells (x : GapS) : List Value := gapCells x.g ++ [.int .i64 x.since, .bool x.rep]
def gs0 (g : GapV) : GapS := ⟨g, 0, false⟩
theorem Tryz.infoGs : (Tryz.prog.info? 156).map (fun i => (i.zero, i.size, i.bytes)) = some (some (.agg #[.int .i64 0, .int .i64 0, .int .i64 0, .int .i64 0, .int .i64 0, .bool false]), 6, 48) := by kernel_rfl

/-- The memory of Gaps: block g, its slice's own row. -/
def GapsAt (base : Nat) (ro : Option Nat) (w : World) (g : Nat) (L : List GapS) (bad : Bool) : Prop :=
  ∃ ao cap, w.heap[g]? = some (.cells #[.slice ao L.length cap, .bool bad] 154) ∧ w.ownsRow base 156 6 (.slice ao L.length cap) L.length (L.flatMap gsCells) ∧ g < base ∧ (Value.slice ao L.length cap).ownBlock = ro
theorem GapsAt.lt {base : Nat} {ro : Option Nat} {w : World} {g : Nat} {L : List GapS} {bad : Bool} (h : GapsAt base ro w g L bad) : g < w.heap.size ∧ g < base ∧ ∀ b, ro = some b → base ≤ b ∧ b < w.heap.size := by
  obtain ⟨ao, cap, h1, h2, h3, rfl⟩ := h
  exact ⟨lt_of_get h1, h3, fun b hb => h2.lt b hb⟩

theorem GapsAt.keep {S : Nat → Prop} {base : Nat} {ro : Option Nat} {w w' : World} {g : Nat} {L : List GapS} {bad : Bool} (h : GapsAt base ro w g L bad) (hk : Keep S w w') (hS : ∀ b, b = g ∨ ro = some b → ¬ S b) : GapsAt base ro w' g L bad := by
  obtain ⟨ao, cap, h1, h2, h3, h4⟩ := h
  exact ⟨ao, cap, hk.get h1 (hS g (.inl rfl)), ownsRow_keepO h2 hk (fun b hb => hS b (.inr (h4 ▸ hb))), h3, h4⟩

theorem gs_one (x : GapS) : ∀ u ∈ gsCells x, u.oneCell' = true := by
  intro u hu
  simp [gsCells, gapCells] at hu
  rcases hu with rfl | rfl | rfl | rfl | rfl | rfl <;> rfl

theorem gapsNew_step {w0 wc W w1 : World} {gps : List GapV} {k : Nat} {c0 : Value} {o : Option Nat} {a1 : Option Addr} {k1 : Nat} (hlt : k < gps.length) (hb : Below w0.heap.size w0 wc)
    (hh : wc.heap[w0.heap.size + 1]? = some (.cells #[c0, .bool false] 154)) (hW : Keep (fun _ => False) wc W) (hg : W.grownBy w1 o) (ho : ∀ b, o = some b → w0.heap.size + 2 ≤ b)
    (ho1 : w1.ownsRow (w0.heap.size + 2) 156 6 (.slice a1 (k + 1) k1) (k + 1) (((gps.take k).map gs0).flatMap gsCells ++ gsCells (gs0 gps[k]))) :
    Below w0.heap.size w0 (w1.setCell ⟨w0.heap.size + 1, 0, none⟩ (.slice a1 (k + 1) k1)) ∧ ∃ ro, GapsAt (w0.heap.size + 2) ro (w1.setCell ⟨w0.heap.size + 1, 0, none⟩ (.slice a1 (k + 1) k1)) (w0.heap.size + 1) ((gps.take (k + 1)).map gs0) false := by
  have kg : Keep (fun b => w0.heap.size + 2 ≤ b) wc w1 := Keep.step (S := fun b => w0.heap.size + 2 ≤ b) (hW.mono (fun _ _ h => h.elim)) (Keep.of_grown hg) (fun b hb' _ => ho b hb'.symm)
  have h1 := kg.get hh (by omega)
  have kk := keep_set w1 (w0.heap.size + 1) 0 (.slice a1 (k + 1) k1)
  refine ⟨(hb.trans (kg.below hb.size (fun b hb' => by omega))).trans (kk.below (Nat.le_trans hb.size kg.size) (fun b hb' => by omega)), _, a1, k1, ?_, ?_, by omega, rfl⟩
  · rw [get_setCell _ h1]
    have hl : ((gps.take (k + 1)).map gs0).length = k + 1 := by simp; omega
    rw [hl]
    simp
  · have hl : ((gps.take (k + 1)).map gs0).length = k + 1 := by simp; omega
    have hf : ((gps.take (k + 1)).map gs0).flatMap gsCells = ((gps.take k).map gs0).flatMap gsCells ++ gsCells (gs0 gps[k]) := by
      rw [List.take_succ_eq_append_getElem hlt, List.map_append, List.flatMap_append, List.map_cons, List.map_nil, List.flatMap_cons, List.flatMap_nil, List.append_nil]
    rw [hl, hf]
    exact ownsRow_keep' ho1 kk (fun b hb' _ => by omega)

set_option maxHeartbeats 1000000 in
theorem gapsNew_any (R : Nat → Prop) (nm vp ve vf vl : Value) (tol cnt mn mx : Int) (gps : List GapV) (ga : Option Addr) (gc : Nat) (w : World)
    (h : SlOf R w (.slice ga gps.length gc) 4 (gps.flatMap gapCells) gps.length) (hR : ∀ b, R b → b < w.heap.size) (hn : gps.length ≤ 100) :
    Calls Tryz.prog 56 #[.agg #[nm, .int .i64 tol, vp, .int .i64 cnt, .int .i64 mn, .int .i64 mx, .slice ga gps.length gc, ve, vf, vl]] w fun e w' =>
      e = .returned (.pointer (some ⟨w.heap.size + 1, 0, none⟩)) ∧ (∃ ro, GapsAt (w.heap.size + 2) ro w' (w.heap.size + 1) (gps.map gs0) false) ∧ Below w.heap.size w w' := by
  obtain ⟨i0, hi, hz0, hz1, hz2⟩ := info_parts Tryz.infoGs
  have H := Lib.hid h; clear h
  go_enter Tryz.func56, Tryz.ntmps56
  go_wp2_with fail
  go_loopw [11] (fun s wr => ∃ k : Nat, k ≤ gps.length ∧ s = .int .i64 k ∧ Below w.heap.size w wr ∧ Hid (∃ ro, GapsAt (w.heap.size + 2) ro wr (w.heap.size + 1) ((gps.take k).map gs0) false)) (fun s _ => gps.length - (intOf s).toNat)
  case atStart =>
    refine ⟨0, Nat.zero_le _, rfl, ((Below.refl _ _).alloc (Nat.le_refl _) _).alloc (by simp) _, none, none, 0, ?_, World.ownsRow_nil _ _ _ _, by omega, rfl⟩
    have := get_alloc_new (w.alloc (.cells #[nm, .int .i64 tol, vp, .int .i64 cnt, .int .i64 mn, .int .i64 mx, .slice ga gps.length gc, ve, vf, vl] 38)) (.cells #[.slice none 0 0, .bool false] 154)
    rw [World.size_alloc] at this
    exact this
  case round =>
    obtain ⟨k, hk, rfl, hb, hg⟩ := hrel
    by_cases hlt : k < gps.length
    · obtain ⟨gb, goff, rfl, hRb, _, hc⟩ := H.out.elem (f := gapCells) (fun _ => rfl) (by decide) (by omega)
      have q0 := hc k hlt 0 _ rfl
      have q1 := hc k hlt 1 _ rfl
      have q2 := hc k hlt 2 _ rfl
      have q3 := hc k hlt 3 _ rfl
      rw [← hb.cell (hR gb hRb)] at q0 q1 q2 q3
      rw [Nat.add_zero] at q0
      clear hc
      have hsz := hg.out.choose_spec.lt.1
      go_upto_region 4 with fail
      go_cut [5] (fun s wx => ∃ x, s = .pointer (some ⟨x, 0, none⟩) ∧ wr.heap.size ≤ x ∧ Hid (wx.heap[x]? = some (.cells #[.int .i64 gps[k].fr, .int .i64 gps[k].dst, .int .i64 gps[k].mn, .int .i64 gps[k].mx] 96)) ∧ Below w.heap.size w wx ∧ Hid (∃ ro, GapsAt (w.heap.size + 2) ro wx (w.heap.size + 1) ((gps.take k).map gs0) false))
      case first =>
        go_wp2_with fail
        go_meet
        exact ⟨_, rfl, Nat.le_refl _, get_alloc_new _ _, hb.alloc hb.size _, (let ⟨ro, hq⟩ := hg.out; ⟨ro, hq.keep ((Keep.refl (fun _ => False) _).alloc _) (fun _ _ h => h)⟩)⟩
      case rest =>
      obtain ⟨x, rfl, hxw, hx, hb', hg'⟩ := hcut
      clear q0 q1 q2 q3 hg hb
      obtain ⟨ro, ao, cap, hgh, hgo, _, _⟩ := hg'.out
      have hlen : ((gps.take k).map gs0).length = k := by simp; omega
      rw [hlen] at hgh hgo
      obtain ⟨g0, g1, gf⟩ := two_cells hgh
      have x0 : wc.cell? ⟨x, 0, none⟩ = some (.int .i64 gps[k].fr) := by have := hx.out; simp [World.cell?, this]
      have x1 : wc.cell? ⟨x, 1, none⟩ = some (.int .i64 gps[k].dst) := by have := hx.out; simp [World.cell?, this]
      have x2 : wc.cell? ⟨x, 2, none⟩ = some (.int .i64 gps[k].mn) := by have := hx.out; simp [World.cell?, this]
      have x3 : wc.cell? ⟨x, 3, none⟩ = some (.int .i64 gps[k].mx) := by have := hx.out; simp [World.cell?, this]
      have hxlt := lt_of_get hx.out
      have ga0 := cell_old g0
      have HO := Lib.hid hgo
      have HH := Lib.hid hgh
      clear hgo hgh
      go_upto_region 5 with fail
      go_region_law (refine step_append_own rfl (.tmp 19) (.tmp 22) 152 rfl (w.heap.size + 2) 156 i0 _ 6 48 Tryz.underlying152 hi hz0 hz1 hz2 rfl (by decide) _ k _ rfl (HO.out.alloc _) ⟨wc.heap.size, 0, none⟩ 1 1 (gsCells (gs0 gps[k])) rfl rfl (by exact new_cells _ (gsCells (gs0 gps[k])) _) (by exact gs_one _) (by unfold maxLen; omega) (by omega) (by simp; omega) ?_; intro a1 k1 w1 ho1 hgr1; have e1 := grown_two hgr1 (get_alloc_old _ HH.out) (fun e => by have := (HO.out.lt _ e).1; omega); obtain ⟨d0, d1, df⟩ := two_cells e1)
      all_goals
        have st := gapsNew_step hlt hb' HH.out ((Keep.refl (fun _ => False) wc).alloc _).drew hgr1 (fun b hb => (HO.out.lt _ hb).1) ho1
        have ST := Lib.hid st
        clear st ho1 hgr1 e1 d0 d1 df ga0 g0 g1 gf x0 x1 x2 x3 HO HH
        go_wp2_with fail
        go_roundw
        case rel => exact ⟨k + 1, by omega, by go_num, ST.out.1, ST.out.2⟩
        case measure => simp [intOf]; omega
    · go_wp2_with fail
      go_ret
      have hkk : k = gps.length := by omega
      refine ⟨rfl, ?_, hb⟩
      have := hg.out
      rw [hkk, List.take_length] at this
      exact this
theorem flat_set {α β : Type} (f : α → List β) (sz : Nat) (hf : ∀ x, (f x).length = sz) (x' : α) (j : Nat) (u : β) (hj : j < sz) : ∀ (l : List α) (k : Nat) (hk : k < l.length), (f l[k]).set j u = f x' → (l.flatMap f).set (k * sz + j) u = (l.set k x').flatMap f
  | [], k, hk, _ => by simp at hk
  | x :: l, 0, _, h => by
    rw [List.flatMap_cons, List.set_append, if_pos (by rw [hf]; omega), List.set_cons_zero, List.flatMap_cons]
    rw [Nat.zero_mul, Nat.zero_add]
    congr 1
  | x :: l, k + 1, hk, h => by
    rw [List.flatMap_cons, List.set_append, if_neg (by rw [hf, Nat.add_mul]; omega), List.set_cons_succ, List.flatMap_cons, hf]
    rw [show (k + 1) * sz + j - sz = k * sz + j from by rw [Nat.add_mul]; omega]
    rw [flat_set f sz hf x' j u hj l k (by simpa using hk) (by simpa using h)]

/-- Is a gap bad at a report? What it is behind it. -/
def gsBad (x : GapS) (point tick : Int) : Bool := decide (point = x.g.dst) && (!x.rep || decide (tick - x.since < x.g.mn) || decide (x.g.mx < tick - x.since))
def gsStep (x : GapS) (point tick : Int) : GapS := if point = x.g.fr then { x with since := tick, rep := true } else x
def gsHalf (L : List GapS) (point tick : Int) (k : Nat) : List GapS := (L.take k).map (gsStep · point tick) ++ L.drop k
theorem gsHalf_zero (L : List GapS) (p t : Int) : gsHalf L p t 0 = L := by simp [gsHalf]
theorem gsHalf_all (L : List GapS) (p t : Int) : gsHalf L p t L.length = L.map (gsStep · p t) := by simp [gsHalf]
theorem gsHalf_length (L : List GapS) (p t : Int) (k : Nat) (hk : k ≤ L.length) : (gsHalf L p t k).length = L.length := by simp [gsHalf]; omega
theorem gsHalf_get (L : List GapS) (p t : Int) (k : Nat) (hk : k < L.length) : (gsHalf L p t k)[k]'(by rw [gsHalf_length L p t k (by omega)]; exact hk) = L[k] := by
  simp only [gsHalf]
  rw [List.getElem_append_right (by simp; omega)]
  simp [Nat.min_eq_left (Nat.le_of_lt hk)]
theorem gsHalf_succ (L : List GapS) (p t : Int) (k : Nat) (hk : k < L.length) : gsHalf L p t (k + 1) = (gsHalf L p t k).set k (gsStep L[k] p t) := by
  simp only [gsHalf]
  rw [List.take_succ_eq_append_getElem hk, List.map_append, List.set_append, if_neg (by simp; omega)]
  have hl : (List.map (gsStep · p t) (List.take k L)).length = k := by simp; omega
  rw [hl, Nat.sub_self, List.drop_eq_getElem_cons hk, List.set_cons_zero]
  simp
theorem gsHalf_same (L : List GapS) (p t : Int) (k : Nat) (hk : k < L.length) (h : p ≠ L[k].g.fr) : gsHalf L p t (k + 1) = gsHalf L p t k := by
  rw [gsHalf_succ L p t k hk, gsStep, if_neg h]
  have := gsHalf_get L p t k hk
  rw [← this]
  simp

/-- The six cells of a gap in its row. -/
theorem gs_cells {w : World} {base row n cap : Nat} {e : TypeId} {L : List GapS} (h : w.ownsRow base e 6 (.slice (some ⟨row, 0, none⟩) n cap) n (L.flatMap gsCells)) (k : Nat) (hk : k < L.length) (hn : L.length = n) :
    w.cell? ⟨row, k * 6, none⟩ = some (.int .i64 L[k].g.fr) ∧ w.cell? ⟨row, k * 6 + 1, none⟩ = some (.int .i64 L[k].g.dst) ∧ w.cell? ⟨row, k * 6 + 2, none⟩ = some (.int .i64 L[k].g.mn) ∧ w.cell? ⟨row, k * 6 + 3, none⟩ = some (.int .i64 L[k].g.mx) ∧
    w.cell? ⟨row, k * 6 + 4, none⟩ = some (.int .i64 L[k].since) ∧ w.cell? ⟨row, k * 6 + 5, none⟩ = some (.bool L[k].rep) ∧ ∀ o, w.frozen? ⟨row, o, none⟩ = false := by
  have hc : ∀ j, j < 6 → w.cell? ⟨row, k * 6 + j, none⟩ = (gsCells L[k])[j]? := fun j hj => by
    rw [h.cellAt (k * 6 + j) (by omega)]
    exact flat_get gsCells 6 (fun _ => rfl) L k hk j hj
  exact ⟨hc 0 (by decide), hc 1 (by decide), hc 2 (by decide), hc 3 (by decide), hc 4 (by decide), hc 5 (by decide), fun o => h.frozenAt o⟩

set_option maxHeartbeats 400000 in
theorem gapsReport_out (g : Nat) (point tick : Int) (w : World) (ht : tick < 0 ∨ 1099511627776 < tick) :
    Calls Tryz.prog 59 #[.pointer (some ⟨g, 0, none⟩), .int .i64 point, .int .i64 tick] w fun e w' => e = .returned (.tuple #[]) ∧ w = w' := by
  by_cases h1 : tick < 0
  · clear ht
    go_enter Tryz.func59, Tryz.ntmps59
    go_wp2_with fail
    refine bodyPost_ret (results_none rfl _ _ _) rfl ?_
    exact ⟨rfl, rfl⟩
  · have h2 : 1099511627776 < tick := by omega
    clear ht
    go_enter Tryz.func59, Tryz.ntmps59
    go_wp2_with fail
    refine bodyPost_ret (results_none rfl _ _ _) rfl ?_
    exact ⟨rfl, rfl⟩
end Go.Proofs.YtakjbjokekbmbaaGreatDoor
