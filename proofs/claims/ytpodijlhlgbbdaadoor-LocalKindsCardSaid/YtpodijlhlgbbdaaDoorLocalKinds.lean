/- LocalKinds: what one watch alone finds bad is told by all three. -/
import Derived.Test.YtpodijlhlgbbdaaDoorLocalFour
import Derived.Deep.RegionHeld3
namespace Go.Proofs.YtpodijlhlgbbdaaDoor
open Go.RowKit
set_option linter.unusedVariables false

theorem step_box (w : World) (o : Obj) : (w.alloc o).heap[w.heap.size]? = some o ∧ Below w.heap.size w (w.alloc o) ∧ (w.alloc o).heap.size = w.heap.size + 1 := ⟨get_alloc_new _ _, (Below.refl _ _).alloc (Nat.le_refl _) _, World.size_alloc _ _⟩
theorem SlOf.up {w w' : World} {v : Value} {sz : Nat} {cs : List Value} {n : Nat} (h : SlOf (· < w.heap.size) w v sz cs n) (b : Below w.heap.size w w') : SlOf (· < w'.heap.size) w' v sz cs n :=
  (h.below b (fun _ h => h)).mono (fun x hx => Nat.lt_of_lt_of_le hx b.size)
theorem boxes_same {w9 W : World} {a b c d : Nat} (h : Below w9.heap.size w9 W) (ha : a < w9.heap.size) (hb : b < w9.heap.size) (hc : c < w9.heap.size) (hd : d < w9.heap.size) :
    (∀ o, W.cell? ⟨a, o, none⟩ = w9.cell? ⟨a, o, none⟩) ∧ (∀ o, W.cell? ⟨b, o, none⟩ = w9.cell? ⟨b, o, none⟩) ∧ (∀ o, W.cell? ⟨c, o, none⟩ = w9.cell? ⟨c, o, none⟩) ∧ (∀ o, W.cell? ⟨d, o, none⟩ = w9.cell? ⟨d, o, none⟩) :=
  ⟨fun o => h.cell (p := ⟨a, o, none⟩) ha, fun o => h.cell (p := ⟨b, o, none⟩) hb, fun o => h.cell (p := ⟨c, o, none⟩) hc, fun o => h.cell (p := ⟨d, o, none⟩) hd⟩
def pick {α : Sort _} (a b c d : α) : Nat → α
  | 0 => a
  | 1 => b
  | 2 => c
  | _ => d
theorem pick_all {α : Sort _} {P : Nat → α → Prop} {a b c d : α} (h0 : P 0 a) (h1 : P 1 b) (h2 : P 2 c) (h3 : P 3 d) : ∀ j, j < 4 → P j (pick a b c d j)
  | 0, _ => h0
  | 1, _ => h1
  | 2, _ => h2
  | 3, _ => h3
def fourE (E : EntV) : Nat → EntV := pick E (entA E) (entG E) (entF E)
def rowC (F : FourV) : Obj := .cells #[.pointer (some ⟨F.l 0, 0, none⟩), .pointer (some ⟨F.l 1, 0, none⟩), .pointer (some ⟨F.l 2, 0, none⟩), .pointer (some ⟨F.l 3, 0, none⟩)] 48
/-- The four in the statement's memory, k of them begun. -/
structure K4 (w : World) (E : EntV) (F : FourV) (ab B L k : Nat) (s t : Nat → Nat) (wx : World) : Prop where
  beg : FBeg F (· < L) B k s t wx
  ef : F.E = fourE E
  vp : ∀ j, j < 4 → ∃ pa pc, F.vp j = .slice pa E.points.length pc
  row : wx.heap[ab]? = some (rowC F)
  bel : Below w.heap.size w wx
  old : ∀ j, j < 4 → w.heap.size ≤ F.l j
  abp : w.heap.size ≤ ab ∧ ab < B ∧ ∀ j, j < 4 → ab ≠ F.l j
/-- All four in the statement's memory, active. -/
structure A4 (w : World) (F : FourV) (ab B : Nat) (s t : Nat → Nat) (m : Nat → LocM) (wx : World) : Prop where
  act : FAct F B s t m wx
  row : wx.heap[ab]? = some (rowC F)
  bel : Below w.heap.size w wx
  top : B ≤ wx.heap.size
structure S4 (w : World) (E : EntV) (F : FourV) (ab B : Nat) : Prop where
  ef : F.E = fourE E
  vp : ∀ j, j < 4 → ∃ pa pc, F.vp j = .slice pa E.points.length pc
  old : ∀ j, j < 4 → w.heap.size ≤ F.l j
  abp : w.heap.size ≤ ab ∧ ab < B ∧ ∀ j, j < 4 → ab ≠ F.l j
theorem A4.keep {w : World} {F : FourV} {ab B : Nat} {s t : Nat → Nat} {m : Nat → LocM} {wx wy : World} {S : Nat → Prop} (h : A4 w F ab B s t m wx) (k : Keep S wx wy) (hB : w.heap.size ≤ B) (hab : ab < B) (hS : ∀ b, S b → B ≤ b ∧ ∀ j, j < 4 → ¬ (s j ≤ b ∧ b < t j)) : A4 w F ab B s t m wy :=
  ⟨h.act.keep k (fun b hb _ j hj => (hS b hb).2 j hj) (fun j hj hb => by have := (hS _ hb).1; have := h.act.lt j hj; omega), k.get h.row (fun hb => by have := (hS _ hb).1; omega), h.bel.trans (k.below h.bel.size (fun b hb => by have := (hS b hb).1; omega)), Nat.le_trans h.top k.size⟩
theorem A4.step {w : World} {F : FourV} {ab B : Nat} {s t : Nat → Nat} {m : Nat → LocM} {wx wy : World} (h : A4 w F ab B s t m wx) (hB : w.heap.size ≤ B) (hab : ab < B) {k : Nat} (hk : k < 4) {mk : LocM} (hL : LocAt (F.l k) (s k) (t k) (F.E k) (F.vp k) (F.vg k) (F.ve k) (F.vf k) (F.vl k) mk wy) (hK : Keep (fun b => s k ≤ b ∧ b < t k) wx wy) :
    A4 w F ab B s t (updM m k mk) wy := by
  have hs := h.act.lo k hk
  exact ⟨h.act.step hk hL hK, hK.get h.row (fun hb => by omega), h.bel.trans (hK.below h.bel.size (fun b hb => by omega)), Nat.le_trans h.top hK.size⟩
theorem A4.tops {w : World} {F : FourV} {ab B : Nat} {s t : Nat → Nat} {m : Nat → LocM} {wx : World} (h : A4 w F ab B s t m wx) : ∀ j, j < 4 → t j ≤ wx.heap.size := fun j hj => by
  obtain ⟨⟨wb, a, g, f, ro, base, lo, hi, h1, h2⟩, _⟩ := h.act.act j hj
  exact h2.top
theorem row_cell {w : World} {F : FourV} {ab : Nat} (h : w.heap[ab]? = some (rowC F)) : ∀ j, j < 4 → w.cell? ⟨ab, j, none⟩ = some (.pointer (some ⟨F.l j, 0, none⟩)) := by
  intro j hj
  unfold rowC at h
  match j, hj with
  | 0, _ | 1, _ | 2, _ | 3, _ => simp [World.cell?, h]
theorem fourE_pts (E : EntV) : ∀ j, j < 4 → (fourE E j).points = E.points
  | 0, _ | 1, _ | 2, _ | 3, _ => rfl
theorem fourE_light {E : EntV} (h : Light E) : ∀ j, j < 4 → Light (fourE E j)
  | 0, _ => h
  | 1, _ => ⟨h.p, Nat.zero_le _, Nat.zero_le _, Nat.zero_le _, Nat.zero_le _⟩
  | 2, _ => ⟨h.p, h.g, Nat.zero_le _, Nat.zero_le _, Nat.zero_le _⟩
  | 3, _ => ⟨h.p, Nat.zero_le _, h.e, h.f, h.l⟩
theorem k4_act {w : World} {E : EntV} {F : FourV} {ab B L : Nat} {s t : Nat → Nat} {wx : World} (h : K4 w E F ab B L 4 s t wx) : A4 w F ab B s t (fun j => locBegin (F.E j)) wx := ⟨fAct_of h.beg, h.row, h.bel, h.beg.top⟩
theorem k4_stat {w : World} {E : EntV} {F : FourV} {ab B L k : Nat} {s t : Nat → Nat} {wx : World} (h : K4 w E F ab B L k s t wx) : S4 w E F ab B := ⟨h.ef, h.vp, h.old, h.abp⟩
theorem k4_step {w : World} {E : EntV} {F : FourV} {ab B L k : Nat} {s t : Nat → Nat} {wx wy : World} (h : K4 w E F ab B L k s t wx) (hk : k < 4) {t' : Nat} (hL : LocAt (F.l k) wx.heap.size t' (F.E k) (F.vp k) (F.vg k) (F.ve k) (F.vf k) (F.vl k) (locBegin (F.E k)) wy) (hK : Keep (· = F.l k) wx wy) :
    K4 w E F ab B L (k + 1) (upd s k wx.heap.size) (upd t k t') wy :=
  ⟨fBeg_step h.beg hk hL hK, h.ef, h.vp, hK.get h.row (h.abp.2.2 k hk), h.bel.trans (hK.below h.bel.size (fun b hb => by have := h.old k hk; omega)), h.old, h.abp⟩
def mrep (F : FourV) (np : Nat) (m : Nat → LocM) (p T : Int) (j : Nat) : LocM := if 0 ≤ p ∧ p < np then locReport (F.E j) (m j) p T else m j
theorem updM_self (m : Nat → LocM) (k : Nat) : updM m k (m k) = m := by
  funext j
  unfold updM
  split
  · rename_i e; rw [e]
  · rfl
theorem A4.congr {w : World} {F : FourV} {ab B : Nat} {s t : Nat → Nat} {m m' : Nat → LocM} {wx : World} (h : A4 w F ab B s t m wx) (e : ∀ j, j < 4 → m j = m' j) : A4 w F ab B s t m' wx :=
  ⟨⟨fun j hj => by rw [← e j hj]; exact h.act.act j hj, h.act.lo, h.act.ap, h.act.lt⟩, h.row, h.bel, h.top⟩
theorem rep4 {ue : Value} {w : World} {E : EntV} {F : FourV} {ab Bd : Nat} {s t : Nat → Nat} {m : Nat → LocM} {W : World} (hS : w.cell? ⟨4, 0, none⟩ = some ue) (hst : S4 w E F ab Bd) (hw : w.heap.size ≤ Bd) (h : A4 w F ab Bd s t m W) (k : Nat) (hk : k < 4) (p : Int) (T : Nat) (hT : T ≤ 1099511627776) :
    Calls Tryd.prog 24 #[.pointer (some ⟨F.l k, 0, none⟩), .int .i64 p, .int .i64 T] W fun e w' => ∃ u, e = .returned u ∧ A4 w F ab Bd s t (updM m k (mrep F E.points.length m p T k)) w' := by
  have hL := h.act.act k hk
  have hlen : (F.E k).points.length = E.points.length := by rw [hst.ef, fourE_pts E k hk]
  obtain ⟨pa, pc, hvp⟩ := hst.vp k hk
  rw [hvp, ← hlen] at hL
  by_cases hp : 0 ≤ p ∧ p < E.points.length
  · refine (localReport_in _ _ _ _ _ _ _ _ _ _ _ p T W hL hp.1 (by rw [hlen]; exact hp.2) (by omega) (by omega)).mono ?_
    rintro e w' ⟨rfl, h1, h2⟩
    refine ⟨_, rfl, ?_⟩
    have e : mrep F E.points.length m p T k = locReport (F.E k) (m k) p T := if_pos hp
    rw [e]
    rw [hlen, ← hvp] at h1
    exact h.step hw hst.abp.2.1 hk h1 h2
  · have g4 := (h.bel.cell (p := ⟨4, 0, none⟩) (World.block_lt_of_cell? _ ⟨4, 0, none⟩ hS)).trans hS
    refine (localReport_out _ _ _ _ _ _ _ _ _ _ _ _ p T W hL (by rw [hlen]; omega) g4).mono ?_
    rintro e w' ⟨rfl, rfl⟩
    refine ⟨_, rfl, ?_⟩
    have e : mrep F E.points.length m p T k = m k := if_neg hp
    rw [e, updM_self]
    exact h
theorem end4 {w : World} {E : EntV} {F : FourV} {ab Bd : Nat} {s t : Nat → Nat} {m : Nat → LocM} {W : World} (hst : S4 w E F ab Bd) (hw : w.heap.size ≤ Bd) (h : A4 w F ab Bd s t m W) (k : Nat) (hk : k < 4) (h0 : 0 ≤ (m k).run) (h1 : (m k).run ≤ 1000000) :
    Calls Tryd.prog 25 #[.pointer (some ⟨F.l k, 0, none⟩)] W fun e w' => e = .returned (.tuple #[.int .i64 (locKind (F.E k) (m k)), .bool (locNow (F.E k) (m k))]) ∧ A4 w F ab Bd s t (updM m k (locEnd (F.E k) (m k))) w' ∧ Keep (fun b => s k ≤ b ∧ b < t k) W w' := by
  refine (localEnd_any _ _ _ _ _ _ _ _ _ _ W (h.act.act k hk) h0 h1).mono ?_
  rintro e w' ⟨rfl, h2, h3⟩
  exact ⟨rfl, h.step hw hst.abp.2.1 hk h2 h3, h3⟩
theorem four_rep {E : EntV} {F : FourV} (hE : F.E = fourE E) {m : Nat → LocM} (h : Four E (m 0) (m 1) (m 2) (m 3)) (np : Nat) (p T : Int) : Four E (mrep F np m p T 0) (mrep F np m p T 1) (mrep F np m p T 2) (mrep F np m p T 3) := by
  unfold mrep
  by_cases hp : 0 ≤ p ∧ p < np
  · simp only [if_pos hp, hE]; exact four_report h p T
  · simp only [if_neg hp]; exact h
theorem mrep_run (F : FourV) (np : Nat) (m : Nat → LocM) (p T : Int) (j : Nat) : (mrep F np m p T j).run = (m j).run := by unfold mrep; split <;> rfl
theorem locEnd_run (E : EntV) (m : LocM) {i : Int} (h : 0 ≤ m.run ∧ m.run ≤ i) : 0 ≤ (locEnd E m).run ∧ (locEnd E m).run ≤ i + 1 := by
  show 0 ≤ locRun E m ∧ locRun E m ≤ _
  unfold locRun
  split <;> omega
theorem k4_start {w w9 w10 w11 w12 w13 w14 : World} {E : EntV} {g0 g2 g3 e0 e3 f0 f3 l0' l3' : Value} {pa0 pa1 pa2 pa3 : Option Addr} {pc0 pc1 pc2 pc3 l0 l1 l2 l3 : Nat} (bb9 : Below w.heap.size w w9) (b10 : Below w9.heap.size w9 w10)
    (s10 : EntSl (· < w10.heap.size) w10 E (.slice pa0 E.points.length pc0) g0 e0 f0 l0') (P9 : SlOf (· < w9.heap.size) w9 (.slice pa1 E.points.length pc1) 1 (strCells1 E.points) E.points.length) (Q9 : SlOf (· < w9.heap.size) w9 (.slice pa2 E.points.length pc2) 1 (strCells1 E.points) E.points.length)
    (G9 : SlOf (· < w9.heap.size) w9 g2 4 (E.gaps.flatMap gapCells) E.gaps.length) (F9 : EntSl (· < w9.heap.size) w9 E (.slice pa3 E.points.length pc3) g3 e3 f3 l3')
    (q1 : w10.heap.size ≤ l0) (h1 : w11.heap[l0]? = some (locC none E (.slice pa0 E.points.length pc0) g0 e0 f0 l0')) (d1 : Below w10.heap.size w10 w11)
    (q2 : w11.heap.size ≤ l1) (h2 : w12.heap[l1]? = some (locC none (entA E) (.slice pa1 E.points.length pc1) (.slice none 0 0) (.slice none 0 0) (.slice none 0 0) (.slice none 0 0))) (d2 : Below w11.heap.size w11 w12)
    (q3 : w12.heap.size ≤ l2) (h3 : w13.heap[l2]? = some (locC none (entG E) (.slice pa2 E.points.length pc2) g2 (.slice none 0 0) (.slice none 0 0) (.slice none 0 0))) (d3 : Below w12.heap.size w12 w13)
    (q4 : w13.heap.size ≤ l3) (h4 : w14.heap[l3]? = some (locC none (entF E) (.slice pa3 E.points.length pc3) (.slice none 0 0) e3 f3 l3')) (d4 : Below w13.heap.size w13 w14) :
    K4 w E ⟨fourE E, pick (.slice pa0 E.points.length pc0) (.slice pa1 E.points.length pc1) (.slice pa2 E.points.length pc2) (.slice pa3 E.points.length pc3), pick g0 (.slice none 0 0) g2 (.slice none 0 0), pick e0 (.slice none 0 0) (.slice none 0 0) e3, pick f0 (.slice none 0 0) (.slice none 0 0) f3, pick l0' (.slice none 0 0) (.slice none 0 0) l3', pick l0 l1 l2 l3⟩ w14.heap.size
      (w14.alloc (.cells #[.pointer (some ⟨l0, 0, none⟩), .pointer (some ⟨l1, 0, none⟩), .pointer (some ⟨l2, 0, none⟩), .pointer (some ⟨l3, 0, none⟩)] 48)).heap.size w10.heap.size 0 (fun _ => 0) (fun _ => 0)
      (w14.alloc (.cells #[.pointer (some ⟨l0, 0, none⟩), .pointer (some ⟨l1, 0, none⟩), .pointer (some ⟨l2, 0, none⟩), .pointer (some ⟨l3, 0, none⟩)] 48)) := by
  have hsz : (w14.alloc (.cells #[.pointer (some ⟨l0, 0, none⟩), .pointer (some ⟨l1, 0, none⟩), .pointer (some ⟨l2, 0, none⟩), .pointer (some ⟨l3, 0, none⟩)] 48)).heap.size = w14.heap.size + 1 := World.size_alloc _ _
  have row := get_alloc_new w14 (.cells #[.pointer (some ⟨l0, 0, none⟩), .pointer (some ⟨l1, 0, none⟩), .pointer (some ⟨l2, 0, none⟩), .pointer (some ⟨l3, 0, none⟩)] 48)
  have da : Below w14.heap.size w14 (w14.alloc (.cells #[.pointer (some ⟨l0, 0, none⟩), .pointer (some ⟨l1, 0, none⟩), .pointer (some ⟨l2, 0, none⟩), .pointer (some ⟨l3, 0, none⟩)] 48)) := (Below.refl _ _).alloc (Nat.le_refl _) _
  generalize w14.alloc _ = wx at hsz row da ⊢
  have z9 := bb9.size
  have z10 := b10.size
  have y1 := lt_of_get h1
  have y2 := lt_of_get h2
  have y3 := lt_of_get h3
  have y4 := lt_of_get h4
  have t4 : Below w13.heap.size w13 wx := d4.trans (da.mono d4.size)
  have t3 : Below w12.heap.size w12 wx := d3.trans (t4.mono d3.size)
  have t2 : Below w11.heap.size w11 wx := d2.trans (t3.mono d2.size)
  have t1 : Below w10.heap.size w10 wx := d1.trans (t2.mono d1.size)
  have t9 : Below w9.heap.size w9 wx := b10.trans (t1.mono b10.size)
  have u1 := below_get t2 h1 y1
  have u2 := below_get t3 h2 y2
  have u3 := below_get t4 h3 y3
  have u4 := below_get da h4 y4
  have m9 : ∀ {v : Value} {sz : Nat} {cs : List Value} {n : Nat}, SlOf (· < w9.heap.size) w9 v sz cs n → SlOf (· < w10.heap.size) wx v sz cs n := fun h => (h.below t9 (fun _ h => h)).mono (fun b hb => by omega)
  refine ⟨⟨fun j _ hj => by omega, ?_, ?_, fun j _ hj => by omega, fun i j _ _ hj => by omega, ?_, ?_, fun b hb => ⟨by omega, ?_⟩, Nat.le_refl _⟩, rfl, ?_, row, bb9.trans (t9.mono bb9.size), ?_, by omega, by omega, ?_⟩
  · intro j hj _
    match j, hj with
    | 0, _ => exact u1
    | 1, _ => exact u2
    | 2, _ => exact u3
    | 3, _ => exact u4
  · intro j hj
    match j, hj with
    | 0, _ => exact s10.below t1 (fun _ h => h)
    | 1, _ => exact ⟨m9 P9, SlOf.nil _ _ _, SlOf.nil _ _ _, SlOf.nil _ _ _, SlOf.nil _ _ _⟩
    | 2, _ => exact ⟨m9 Q9, m9 G9, SlOf.nil _ _ _, SlOf.nil _ _ _, SlOf.nil _ _ _⟩
    | 3, _ => exact ⟨m9 F9.p, SlOf.nil _ _ _, m9 F9.e, m9 F9.f, m9 F9.l⟩
  · intro j hj
    match j, hj with
    | 0, _ => show l0 < _; omega
    | 1, _ => show l1 < _; omega
    | 2, _ => show l2 < _; omega
    | 3, _ => show l3 < _; omega
  · intro i j hi hj hij
    have e : ∀ j, j < 4 → pick l0 l1 l2 l3 j = if j = 0 then l0 else if j = 1 then l1 else if j = 2 then l2 else l3 := fun j hj => by
      match j, hj with
      | 0, _ | 1, _ | 2, _ | 3, _ => rfl
    show pick l0 l1 l2 l3 i ≠ pick l0 l1 l2 l3 j
    rw [e i hi, e j hj]
    split <;> split <;> (try split) <;> (try split) <;> (try split) <;> (try split) <;> omega
  · intro j hj
    match j, hj with
    | 0, _ => show b ≠ l0; omega
    | 1, _ => show b ≠ l1; omega
    | 2, _ => show b ≠ l2; omega
    | 3, _ => show b ≠ l3; omega
  · intro j hj
    match j, hj with
    | 0, _ | 1, _ | 2, _ | 3, _ => exact ⟨_, _, rfl⟩
  · intro j hj
    match j, hj with
    | 0, _ => show _ ≤ l0; omega
    | 1, _ => show _ ≤ l1; omega
    | 2, _ => show _ ≤ l2; omega
    | 3, _ => show _ ≤ l3; omega
  · intro j hj
    match j, hj with
    | 0, _ => show _ ≠ l0; omega
    | 1, _ => show _ ≠ l1; omega
    | 2, _ => show _ ≠ l2; omega
    | 3, _ => show _ ≠ l3; omega
set_option maxRecDepth 100000 in
set_option maxHeartbeats 4000000 in
theorem localKinds_any (ue : Value) (E : EntV) (acts : List Act2V) (vp vg ve vf vl va : Value) (w : World) (hS : w.cell? ⟨4, 0, none⟩ = some ue) (h : EntSl (· < w.heap.size) w E vp vg ve vf vl)
    (ha : SlOf (· < w.heap.size) w va 3 (acts.flatMap act2Cells) acts.length) :
    Calls Tryd.prog 5 #[.agg (entCs E vp vg ve vf vl), va] w fun e w' => e = .returned (.bool true) ∧ Below w.heap.size w w' := by
  obtain ⟨pa, pc, rfl⟩ := h.p.val
  obtain ⟨ga, gc, rfl⟩ := h.g.val
  obtain ⟨ea, ec, rfl⟩ := h.e.val
  obtain ⟨fa, fc, rfl⟩ := h.f.val
  obtain ⟨la, lc, rfl⟩ := h.l.val
  obtain ⟨aa, ac, rfl⟩ := ha.val
  obtain ⟨i0, hi0, hz0, hz1, hz2⟩ := info_parts Tryd.infoInt
  have H := Lib.hid h
  have HA := Lib.hid ha
  have HS := Lib.hid hS
  clear h ha hS
  unfold entCs
  go_enter Tryd.func5, Tryd.ntmps5
  go_wp2_with fail
  refine (lives_any _).mono ?_
  rintro e w1 ⟨rfl, b1⟩
  obtain ⟨bb1, hx1⟩ := box_below b1
  clear b1
  have HX1 := Lib.hid hx1
  obtain ⟨c0, c1, c2, c3, c4, c5, c6, c7, c8, c9, cf⟩ := ten_cells hx1
  clear hx1 cf
  go_wp2_with fail
  refine (heavyEntity_x E _ _ _ _ _ _ _ _ _ _ w w1 H.out bb1).mono ?_
  rintro e w2 ⟨rfl, b2⟩
  have bb2 := bb1.trans (b2.mono bb1.size)
  have hx2 := below_get b2 HX1.out (lt_of_get HX1.out)
  clear c0 c1 c2 c3 c4 c5 c6 c7 c8 c9 HX1 b2
  by_cases hH : Heavy E
  · rw [heavyN_pos hH]
    go_wp2_with fail
    go_ret
    exact ⟨rfl, bb2⟩
  rw [heavyN_neg hH]
  by_cases hF : 60 < acts.length
  · go_wp2_with fail
    go_ret
    exact ⟨rfl, bb2⟩
  have HX2 := Lib.hid hx2
  have LG := Lib.hid (light_of hH)
  have HH := Lib.hid hH
  obtain ⟨c0, c1, c2, c3, c4, c5, c6, c7, c8, c9, cf⟩ := ten_cells hx2
  clear hx2 cf hH
  have hla : acts.length ≤ 60 := by omega
  go_wp2_with fail
  refine (entErr_x E _ _ _ _ _ w w2 H.out bb2 LG.out).mono ?_
  rintro e w3 ⟨rfl, b3⟩
  have bb3 := bb2.trans (b3.mono bb2.size)
  have hx3 := below_get b3 HX2.out (lt_of_get HX2.out)
  clear c0 c1 c2 c3 c4 c5 c6 c7 c8 c9 HX2 b3
  generalize entErr [] E = er
  by_cases hE : 0 < er
  · go_wp2_with fail
    go_ret
    exact ⟨rfl, bb3⟩
  obtain rfl : er = 0 := by omega
  have HX3 := Lib.hid hx3
  obtain ⟨c0, c1, c2, c3, c4, c5, c6, c7, c8, c9, cf⟩ := ten_cells hx3
  clear hx3 cf hE
  go_wp2_with fail
  refine (ownEntity_x E _ _ _ _ _ _ _ _ _ _ w w3 H.out bb3 HH.out).mono ?_
  rintro e w4 ⟨pa1, pc1, ga1, gc1, ea1, ec1, fa1, fc1, la1, lc1, rfl, hs4, b4⟩
  have bb4 := bb3.trans (b4.mono bb3.size)
  have hx4 := below_get b4 HX3.out (lt_of_get HX3.out)
  have P1 := Lib.hid hs4.p.here
  clear c0 c1 c2 c3 c4 c5 c6 c7 c8 c9 hs4 HX3
  go_upto_region 9 with fail
  have q5 := step_box w4 (.cells #[.string E.name, .int .i64 E.tol, .slice pa1 E.points.length pc1, .int .i64 E.count, .int .i64 E.mn, .int .i64 E.mx, .slice none 0 0, .slice none 0 0, .slice none 0 0, .slice none 0 0] 36)
  generalize w4.alloc _ = w5 at q5 ⊢
  have bb5 := bb4.trans (q5.2.1.mono bb4.size)
  have HX5 := Lib.hid (below_get q5.2.1 hx4 (lt_of_get hx4))
  have HA5 := Lib.hid q5.1
  have P5 := Lib.hid (P1.out.up q5.2.1)
  have hs5 := q5.2.2
  clear q5 hx4 P1
  obtain ⟨c0, c1, c2, c3, c4, c5, c6, c7, c8, c9, cf⟩ := ten_cells HX5.out
  clear cf
  go_wp2_with fail
  refine (ownEntity_x E _ _ _ _ _ _ _ _ _ _ w w5 H.out bb5 HH.out).mono ?_
  rintro e w6 ⟨pa2, pc2, ga2, gc2, ea2, ec2, fa2, fc2, la2, lc2, rfl, hs6, b6⟩
  have bb6 := bb5.trans (b6.mono bb5.size)
  have hx6 := below_get b6 HX5.out (lt_of_get HX5.out)
  have ha6 := below_get b6 HA5.out (lt_of_get HA5.out)
  have P6 := Lib.hid (P5.out.up b6)
  have Q6 := Lib.hid hs6.p.here
  have G6 := Lib.hid hs6.g.here
  clear c0 c1 c2 c3 c4 c5 c6 c7 c8 c9 hs6 HX5 HA5 P5
  go_upto_region 16 with fail
  have q7 := step_box w6 (.cells #[.string E.name, .int .i64 E.tol, .slice pa2 E.points.length pc2, .int .i64 (-1), .int .i64 0, .int .i64 0, .slice ga2 E.gaps.length gc2, .slice none 0 0, .slice none 0 0, .slice none 0 0] 36)
  generalize w6.alloc _ = w7 at q7 ⊢
  have bb7 := bb6.trans (q7.2.1.mono bb6.size)
  have HX7 := Lib.hid (below_get q7.2.1 hx6 (lt_of_get hx6))
  have HA7 := Lib.hid (below_get q7.2.1 ha6 (lt_of_get ha6))
  have HG7 := Lib.hid q7.1
  have P7 := Lib.hid (P6.out.up q7.2.1)
  have Q7 := Lib.hid (Q6.out.up q7.2.1)
  have G7 := Lib.hid (G6.out.up q7.2.1)
  have hs7 := q7.2.2
  clear q7 hx6 ha6 P6 Q6 G6
  obtain ⟨c0, c1, c2, c3, c4, c5, c6, c7, c8, c9, cf⟩ := ten_cells HX7.out
  clear cf
  go_wp2_with fail
  refine (ownEntity_x E _ _ _ _ _ _ _ _ _ _ w w7 H.out bb7 HH.out).mono ?_
  rintro e w8 ⟨pa3, pc3, ga3, gc3, ea3, ec3, fa3, fc3, la3, lc3, rfl, hs8, b8⟩
  have bb8 := bb7.trans (b8.mono bb7.size)
  have hx8 := below_get b8 HX7.out (lt_of_get HX7.out)
  have ha8 := below_get b8 HA7.out (lt_of_get HA7.out)
  have hg8 := below_get b8 HG7.out (lt_of_get HG7.out)
  have P8 := Lib.hid (P7.out.up b8)
  have Q8 := Lib.hid (Q7.out.up b8)
  have G8 := Lib.hid (G7.out.up b8)
  have F8 := Lib.hid (show EntSl (· < w8.heap.size) w8 E _ _ _ _ _ from ⟨hs8.p.here, hs8.g.here, hs8.e.here, hs8.f.here, hs8.l.here⟩)
  clear c0 c1 c2 c3 c4 c5 c6 c7 c8 c9 hs8 HX7 HA7 HG7 P7 Q7 G7
  go_upto_region 21 with fail
  have q9 := step_box w8 (.cells #[.string E.name, .int .i64 E.tol, .slice pa3 E.points.length pc3, .int .i64 (-1), .int .i64 0, .int .i64 0, .slice none 0 0, .slice ea3 E.edges.length ec3, .slice fa3 E.first.length fc3, .slice la3 E.last.length lc3] 36)
  generalize w8.alloc _ = w9 at q9 ⊢
  have bb9 := bb8.trans (q9.2.1.mono bb8.size)
  have HX9 := Lib.hid (below_get q9.2.1 hx8 (lt_of_get hx8))
  have HA9 := Lib.hid (below_get q9.2.1 ha8 (lt_of_get ha8))
  have HG9 := Lib.hid (below_get q9.2.1 hg8 (lt_of_get hg8))
  have HF9 := Lib.hid q9.1
  have P9 := Lib.hid (P8.out.up q9.2.1)
  have Q9 := Lib.hid (Q8.out.up q9.2.1)
  have G9 := Lib.hid (G8.out.up q9.2.1)
  have F9 := Lib.hid (show EntSl (· < w9.heap.size) w9 E _ _ _ _ _ from ⟨F8.out.p.up q9.2.1, F8.out.g.up q9.2.1, F8.out.e.up q9.2.1, F8.out.f.up q9.2.1, F8.out.l.up q9.2.1⟩)
  have hs9 := q9.2.2
  clear q9 hx8 ha8 hg8 P8 Q8 G8 F8
  obtain ⟨c0, c1, c2, c3, c4, c5, c6, c7, c8, c9, cf⟩ := ten_cells HX9.out
  obtain ⟨d0, d1, d2, d3, d4, d5, d6, d7, d8, d9, df⟩ := ten_cells HA9.out
  obtain ⟨e0, e1, e2, e3, e4, e5, e6, e7, e8, e9, ef⟩ := ten_cells HG9.out
  obtain ⟨f0, f1, f2, f3, f4, f5, f6, f7, f8, f9, ff⟩ := ten_cells HF9.out
  clear cf df ef ff
  have z0 : w.heap.size < w9.heap.size := lt_of_get HX9.out
  have z4 : w4.heap.size < w9.heap.size := lt_of_get HA9.out
  have z6 : w6.heap.size < w9.heap.size := lt_of_get HG9.out
  have z8 : w8.heap.size < w9.heap.size := lt_of_get HF9.out
  have hO : ∀ W, Below w9.heap.size w9 W → Calls Tryd.prog 16 #[.agg #[.string E.name, .int .i64 E.tol, .slice pa E.points.length pc, .int .i64 E.count, .int .i64 E.mn, .int .i64 E.mx, .slice ga E.gaps.length gc, .slice ea E.edges.length ec, .slice fa E.first.length fc, .slice la E.last.length lc]] W fun e w' =>
      ∃ pa pc ga gc ea ec fa fc la lc, e = .returned (.agg #[.string E.name, .int .i64 E.tol, .slice pa E.points.length pc, .int .i64 E.count, .int .i64 E.mn, .int .i64 E.mx, .slice ga E.gaps.length gc, .slice ea E.edges.length ec, .slice fa E.first.length fc, .slice la E.last.length lc]) ∧
        EntSl (· < w'.heap.size) w' E (.slice pa E.points.length pc) (.slice ga E.gaps.length gc) (.slice ea E.edges.length ec) (.slice fa E.first.length fc) (.slice la E.last.length lc) ∧ Below w9.heap.size w9 w' := by
    intro W hW
    refine (ownEntity_x E _ _ _ _ _ _ _ _ _ _ w W H.out (bb9.trans (hW.mono bb9.size)) HH.out).mono ?_
    rintro e w' ⟨pa, pc, ga, gc, ea, ec, fa, fc, la, lc, rfl, hs, b⟩
    exact ⟨_, _, _, _, _, _, _, _, _, _, rfl, ⟨hs.p.here, hs.g.here, hs.e.here, hs.f.here, hs.l.here⟩, hW.trans (b.mono hW.size)⟩
  have HO := Lib.hid hO
  have hN : ∀ (X : EntV) (nm : ByteArray) (tl ct mn mx : Int) (vp vg ve vf vl : Value) W, nm = X.name → tl = X.tol → ct = X.count → mn = X.mn → mx = X.mx → Below w9.heap.size w9 W → Calls Tryd.prog 22 #[.agg #[.string nm, .int .i64 tl, vp, .int .i64 ct, .int .i64 mn, .int .i64 mx, vg, ve, vf, vl]] W fun e w' =>
      ∃ l, e = .returned (.pointer (some ⟨l, 0, none⟩)) ∧ W.heap.size ≤ l ∧ w'.heap[l]? = some (locC none X vp vg ve vf vl) ∧ Below W.heap.size W w' ∧ Below w9.heap.size w9 w' := by
    intro X nm tl ct mn mx vp vg ve vf vl W e1 e2 e3 e4 e5 hW
    subst e1 e2 e3 e4 e5
    refine (localNew_any X vp vg ve vf vl W).mono ?_
    rintro e w' ⟨rfl, h1, b⟩
    exact ⟨_, rfl, by omega, h1, b, hW.trans (b.mono hW.size)⟩
  have HN := Lib.hid hN
  clear hO hN
  go_cut [9] (fun s9 wx => ∃ (F : FourV) (ab L : Nat), s9 = .slice (some ⟨ab, 0, none⟩) 4 4 ∧ Hid (K4 w E F ab wx.heap.size L 0 (fun _ => 0) (fun _ => 0) wx))
  case first =>
    go_region_held3 (fun w' => (∀ o, w'.cell? ⟨w.heap.size, o, none⟩ = w9.cell? ⟨w.heap.size, o, none⟩) ∧ (∀ o, w'.cell? ⟨w4.heap.size, o, none⟩ = w9.cell? ⟨w4.heap.size, o, none⟩) ∧ (∀ o, w'.cell? ⟨w6.heap.size, o, none⟩ = w9.cell? ⟨w6.heap.size, o, none⟩) ∧ (∀ o, w'.cell? ⟨w8.heap.size, o, none⟩ = w9.cell? ⟨w8.heap.size, o, none⟩))
      (first | exact ⟨fun _ => rfl, fun _ => rfl, fun _ => rfl, fun _ => rfl⟩ | exact boxes_same (Below.refl _ _) z0 z4 z6 z8 | exact boxes_same b10 z0 z4 z6 z8 | exact boxes_same b11 z0 z4 z6 z8 | exact boxes_same b12 z0 z4 z6 z8 | exact boxes_same b13 z0 z4 z6 z8 | exact boxes_same b14 z0 z4 z6 z8 | exact boxes_same (Below.alloc b14 (Below.size b14) _) z0 z4 z6 z8)
      (first | (go_at_call 16; refine (HO.out _ ?_).mono ?_; (repeat (first | exact Below.refl _ _ | refine Below.drew ?_)); rintro e w10 ⟨pa4, pc4, ga4, gc4, ea4, ec4, fa4, fc4, la4, lc4, rfl, s10, b10⟩) | (go_at_call_of 22 (Value.agg #[.string E.name, .int .i64 E.tol, .slice pa4 E.points.length pc4, .int .i64 E.count, .int .i64 E.mn, .int .i64 E.mx, .slice ga4 E.gaps.length gc4, .slice ea4 E.edges.length ec4, .slice fa4 E.first.length fc4, .slice la4 E.last.length lc4]); refine (HN.out E _ _ _ _ _ _ _ _ _ _ _ rfl rfl rfl rfl rfl ?_).mono ?_; (repeat (first | exact b10 | refine Below.drew ?_)); rintro e w11 ⟨l0, rfl, g11, h11, d11, b11⟩) | (go_at_call_of 22 (Value.agg #[.string E.name, .int .i64 E.tol, .slice pa1 E.points.length pc1, .int .i64 E.count, .int .i64 E.mn, .int .i64 E.mx, .slice none 0 0, .slice none 0 0, .slice none 0 0, .slice none 0 0]); refine (HN.out (entA E) _ _ _ _ _ _ _ _ _ _ _ rfl rfl rfl rfl rfl ?_).mono ?_; (repeat (first | exact b11 | refine Below.drew ?_)); rintro e w12 ⟨l1, rfl, g12, h12, d12, b12⟩) | (go_at_call 22; refine (HN.out (entG E) E.name E.tol (-1) 0 0 (.slice pa2 E.points.length pc2) (.slice ga2 E.gaps.length gc2) (.slice none 0 0) (.slice none 0 0) (.slice none 0 0) _ rfl rfl rfl rfl rfl ?_).mono ?_; (repeat (first | exact b12 | refine Below.drew ?_)); rintro e w13 ⟨l2, rfl, g13, h13, d13, b13⟩) | (go_at_call 22; refine (HN.out (entF E) E.name E.tol (-1) 0 0 (.slice pa3 E.points.length pc3) (.slice none 0 0) (.slice ea3 E.edges.length ec3) (.slice fa3 E.first.length fc3) (.slice la3 E.last.length lc3) _ rfl rfl rfl rfl rfl ?_).mono ?_; (repeat (first | exact b13 | refine Below.drew ?_)); rintro e w14 ⟨l3, rfl, g14, h14, d14, b14⟩))
    all_goals (go_wp2_with fail; go_meet)
    all_goals exact ⟨_, _, _, rfl, k4_start bb9 b10 s10 P9.out Q9.out G9.out F9.out g11 h11 d11 g12 h12 d12 g13 h13 d13 g14 h14 d14⟩
  case rest =>
  obtain ⟨F, ab, L, rfl, hk⟩ := hcut
  clear c0 c1 c2 c3 c4 c5 c6 c7 c8 c9 d0 d1 d2 d3 d4 d5 d6 d7 d8 d9 e0 e1 e2 e3 e4 e5 e6 e7 e8 e9 f0 f1 f2 f3 f4 f5 f6 f7 f8 f9 z0 z4 z6 z8 HX9 HA9 HG9 HF9 P9 Q9 G9 F9 HO HN hs9 hs7 hs5
  clear H HH bb1 bb2 bb3 bb4 bb5 bb6 bb7 bb8 bb9 b4 b6 b8
  have HST := Lib.hid (k4_stat hk.out)
  have LGF : Hid (∀ j, j < 4 → Light (F.E j)) := (show ∀ j, j < 4 → Light (F.E j) from fun j hj => by rw [HST.out.ef]; exact fourE_light LG.out j hj)
  have hab := HST.out.abp.2.1
  have hwB : w.heap.size ≤ wc.heap.size := hk.out.bel.size
  go_wp2_with fail
  go_loopw [10] (fun s10 wr => ∃ (k : Nat) (s t : Nat → Nat), k ≤ 4 ∧ s10 = .int .i64 k ∧ Hid (K4 w E F ab wc.heap.size L k s t wr)) (fun s10 _ => 4 - (intOf s10).toNat)
  case atStart => exact ⟨0, _, _, Nat.zero_le _, rfl, hk⟩
  case round =>
    obtain ⟨k, s, t, hk4, rfl, hk⟩ := hrel
    by_cases hlt : k < 4
    · have hlt2 : (k : Int) < 4 := by omega
      have q := row_cell hk.out.row k hlt
      go_wp2_with fail
      refine (localBegin_any _ _ _ _ _ _ _ _ wr (hk.out.beg.idle k hlt (Nat.le_refl _)) (hk.out.beg.ent k hlt) (fun b hb => by have := (hk.out.beg.far b hb).1; have := hk.out.beg.top; omega) (LGF.out k hlt)).mono ?_
      rintro e wb ⟨rfl, tb, hLb, hKb⟩
      have nx := Lib.hid (k4_step hk.out hlt hLb hKb)
      clear hLb hKb
      go_wp2_with fail
      go_roundw
      case rel => exact ⟨k + 1, _, _, by omega, by go_num, nx⟩
      case measure => simp [intOf]; omega
    · have hk5 : k = 4 := by omega
      have HA4 := Lib.hid (k4_act (show K4 w E F ab wc.heap.size L 4 s t wr from hk5 ▸ hk.out))
      have hk6 : (4 : Int) ≤ k := by omega
      clear hk hk5
      go_wp2_with fail
      have F0 := Lib.hid (show Four E ((fun j => locBegin (F.E j)) 0) ((fun j => locBegin (F.E j)) 1) ((fun j => locBegin (F.E j)) 2) ((fun j => locBegin (F.E j)) 3) from by simp only [HST.out.ef]; exact four_begin E)
      have N0 := Lib.hid (show ∀ j, j < 4 → 0 ≤ ((fun j => locBegin (F.E j)) j).run ∧ ((fun j => locBegin (F.E j)) j).run ≤ ((0 : Nat) : Int) from fun j _ => ⟨Int.le_refl _, Int.le_refl _⟩)
      generalize (fun j => locBegin (F.E j)) = m0 at HA4 F0 N0
      go_loopw [11, 12] (fun s11 s12 wm => ∃ (i T : Nat) (m : Nat → LocM), i ≤ acts.length ∧ T ≤ i * 1073741824 ∧ s11 = .int .i64 T ∧ s12 = .int .i64 i ∧ Hid (A4 w F ab wc.heap.size s t m wm) ∧ Hid (Four E (m 0) (m 1) (m 2) (m 3)) ∧ Hid (∀ j, j < 4 → 0 ≤ (m j).run ∧ (m j).run ≤ (i : Int))) (fun _ s12 _ => acts.length - (intOf s12).toNat)
      case atStart => exact ⟨0, 0, m0, Nat.zero_le _, Nat.zero_le _, rfl, rfl, HA4, F0, N0⟩
      case round =>
        obtain ⟨i, T, m, hi, hT, rfl, rfl, hA, hF4, hN⟩ := hrel
        clear HA4 F0 N0
        by_cases hlt : i < acts.length
        · obtain ⟨xb, xo, rfl, hRx, _, hcx⟩ := act2_cells HA.out (by omega)
          obtain ⟨q0, q1, q2⟩ := hcx i hlt
          have hbl := hA.out.bel
          rw [← hbl.cell (p := ⟨xb, xo + i * 3, none⟩) hRx] at q0
          rw [← hbl.cell (p := ⟨xb, xo + i * 3 + 1, none⟩) hRx] at q1
          rw [← hbl.cell (p := ⟨xb, xo + i * 3 + 2, none⟩) hRx] at q2
          clear hcx
          obtain ⟨a, haa⟩ : ∃ a, a = acts[i] := ⟨_, rfl⟩
          rw [← haa] at q0 q1 q2
          clear haa
          by_cases hl0 : a.later < 0
          · go_wp2_with fail
            go_ret
            exact ⟨rfl, hbl⟩
          by_cases hl1 : 1073741824 < a.later
          · go_wp2_with fail
            go_ret
            exact ⟨rfl, hbl⟩
          obtain ⟨d, hd⟩ : ∃ d : Nat, a.later = d := ⟨a.later.toNat, by omega⟩
          rw [hd] at q2 hl0 hl1
          clear hd
          have hT2 : T + d ≤ (i + 1) * 1073741824 := by omega
          have hT3 : T + d ≤ 64424509440 := by omega
          by_cases hke : a.kind.toList = [101, 110, 100]
          · have hkb : (a.kind.toList == [101, 110, 100]) = true := by simp [hke]
            clear hke
            go_wp2_with fail
            clear q0 q1 q2
            have HTS := Lib.hid hA.out.tops
            have HB5 := hA.out.top
            obtain ⟨B5, hB5⟩ : ∃ B5, B5 = wr.heap.size := ⟨_, rfl⟩
            rw [← hB5] at HTS HB5
            have HBB := Lib.hid hB5
            clear hB5
            go_loopw [14, 15] (fun s14 s15 wn => ∃ (k : Nat) (m' : Nat → LocM) (ko : Option Addr) (kc : Nat), k ≤ 4 ∧ s14 = .slice ko k kc ∧ s15 = .int .i64 k ∧ Hid (A4 w F ab wc.heap.size s t m' wn) ∧ Hid (∀ j, j < 4 → m' j = if j < k then locEnd (F.E j) (m j) else m j) ∧
              Hid (wn.ownsRow B5 3 1 (.slice ko k kc) k (intCells ((List.range k).map fun j => locKind (F.E j) (m j)))) ∧ B5 ≤ wn.heap.size) (fun _ s15 _ => 4 - (intOf s15).toNat)
            case atStart => exact ⟨0, m, none, 0, Nat.zero_le _, rfl, rfl, hA, (show ∀ j, j < 4 → _ from fun j _ => by rw [if_neg (Nat.not_lt_zero _)]), World.ownsRow_nil _ _ _ _, by have := HBB.out; omega⟩
            case round =>
              obtain ⟨k, m', ko, kc, hk4, rfl, rfl, hA', hm', hown, hB5⟩ := hrel
              by_cases hlk : k < 4
              · have hlk2 : (k : Int) < 4 := by omega
                have q := row_cell hA'.out.row k hlk
                have hmk : m' k = m k := by rw [hm'.out k hlk, if_neg (Nat.lt_irrefl _)]
                have hrk := hN.out k hlk
                go_wp2_with fail
                refine (end4 HST.out hwB hA'.out k hlk (by rw [hmk]; exact hrk.1) (by rw [hmk]; omega)).mono ?_
                rintro e wn ⟨rfl, hn, hkn⟩
                rw [hmk] at hn ⊢
                have hown2 := ownsRow_keep' hown.out hkn (fun b hb _ h2 => by have := HTS.out k hlk; omega)
                have hn2 := Lib.hid hn
                have HO := Lib.hid hown2
                have hsz : B5 ≤ wn.heap.size := Nat.le_trans hB5 hkn.size
                have h63 : Hid (k + 1 ≤ maxLen) := by show k + 1 ≤ maxLen; unfold maxLen; omega
                have hby : Hid ((k + 1) * 8 ≤ 140737488355328) := by show (k + 1) * 8 ≤ 140737488355328; omega
                have hbs : Hid (∀ o, B5 ≤ (wn.alloc o).heap.size) := fun o => by rw [World.size_alloc]; omega
                obtain ⟨K, hK⟩ : ∃ K, K = locKind (F.E k) (m k) := ⟨_, rfl⟩
                rw [← hK]
                have HK := Lib.hid hK.symm
                clear hK
                generalize locNow (F.E k) (m k) = N
                clear hn hkn hown hown2 q
                go_wp2_with (at_builtin; go_must (refine wpList_append_ownS rfl (.tmp 146) (.tmp 148) 34 rfl B5 3 i0 _ 1 8 Tryd.underlying34 hi0 hz0 hz1 hz2 rfl (by decide) _ k _ rfl (HO.out.alloc _) ⟨wn.heap.size, 0, none⟩ 1 1 (intCells [K]) rfl rfl (new_cells _ (intCells [K]) _) (oneCell_ints _) h63.out hby.out (hbs.out _) ?_; intro a1 k1 w6 ho6 hg6))
                have ka : Keep (fun b => B5 ≤ b) wn w6 := ((Keep.refl _ wn).alloc _).trans ((Keep.of_grown hg6).mono (fun b hb he => by
                  have := (HO.out.lt b he.symm).1
                  exact this))
                have hn6 := Lib.hid (hn2.out.keep ka hwB hab (fun b hb => ⟨by omega, fun j hj hx => by have := HTS.out j hj; omega⟩))
                have hz6 : B5 ≤ w6.heap.size := Nat.le_trans hsz ka.size
                have ho7 : Hid (w6.ownsRow B5 3 1 (.slice a1 (k + 1) k1) (k + 1) (intCells ((List.range (k + 1)).map fun j => locKind (F.E j) (m j)))) := (show _ from by
                  rw [List.range_succ, List.map_append, intCells_app, List.map_singleton, HK.out]
                  exact ho6)
                have nm : Hid (∀ j, j < 4 → updM m' k (locEnd (F.E k) (m k)) j = if j < k + 1 then locEnd (F.E j) (m j) else m j) := (show ∀ j, j < 4 → _ from fun j hj => by
                  by_cases e : j = k
                  · subst e
                    rw [updM_eq, if_pos (by omega)]
                  · rw [updM_ne _ _ e, hm'.out j hj]
                    by_cases hjk : j < k
                    · rw [if_pos hjk, if_pos (by omega)]
                    · rw [if_neg hjk, if_neg (by omega)])
                clear ho6 hg6 ka HO hn2 hm' hA' hmk
                go_round
                case rel => exact ⟨k + 1, _, a1, k1, by omega, rfl, by go_num, hn6, nm, ho7, hz6⟩
                case measure => simp [intOf]; omega
              · have hk44 : 4 ≤ (k : Int) := by omega
                have hke : k = 4 := by omega
                have nx := Lib.hid (hA'.out.congr (m' := fun j => locEnd (F.E j) (m j)) (fun j hj => by rw [hm'.out j hj, if_pos (by omega)]))
                have nf := Lib.hid (show Four E ((fun j => locEnd (F.E j) (m j)) 0) ((fun j => locEnd (F.E j) (m j)) 1) ((fun j => locEnd (F.E j) (m j)) 2) ((fun j => locEnd (F.E j) (m j)) 3) from by simp only [HST.out.ef]; exact four_end hF4.out)
                have nn : Hid (∀ j, j < 4 → 0 ≤ ((fun j => locEnd (F.E j) (m j)) j).run ∧ ((fun j => locEnd (F.E j) (m j)) j).run ≤ ((i + 1 : Nat) : Int)) := (show ∀ j, j < 4 → _ from fun j hj => by
                  have := locEnd_run (F.E j) (m j) (hN.out j hj)
                  exact ⟨this.1, by have h2 := this.2; rw [show ((i + 1 : Nat) : Int) = (i : Int) + 1 by omega]; exact h2⟩)
                have hkd : locKind (F.E 0) (m 0) = wantOf (locKind (F.E 1) (m 1)) (locKind (F.E 2) (m 2)) (locKind (F.E 3) (m 3)) := by rw [HST.out.ef]; exact four_kind hF4.out
                have hsl := slOf_owns hown.out
                generalize (fun j => locEnd (F.E j) (m j)) = mm at nx nf nn
                rw [hke] at hsl
                simp only [List.range_succ, List.range_zero, List.nil_append, List.map_cons, List.map_nil, List.cons_append] at hsl
                obtain ⟨K0, hK0⟩ : ∃ K0, K0 = locKind (F.E 0) (m 0) := ⟨_, rfl⟩
                obtain ⟨K1, hK1⟩ : ∃ K1, K1 = locKind (F.E 1) (m 1) := ⟨_, rfl⟩
                obtain ⟨K2, hK2⟩ : ∃ K2, K2 = locKind (F.E 2) (m 2) := ⟨_, rfl⟩
                obtain ⟨K3, hK3⟩ : ∃ K3, K3 = locKind (F.E 3) (m 3) := ⟨_, rfl⟩
                rw [← hK0, ← hK1, ← hK2, ← hK3] at hsl hkd
                clear hK0 hK1 hK2 hK3
                obtain ⟨kb, ko', rfl, _, _, hck⟩ := int_cells (l := [K0, K1, K2, K3]) hsl (by simp)
                have r0 := hck 0 (by simp)
                have r1 := hck 1 (by simp)
                have r2 := hck 2 (by simp)
                have r3 := hck 3 (by simp)
                simp at r0 r1 r2 r3
                have hgt : (3 : Int) < k := by omega
                clear hA' hm' hF4 hN hA hown hsl hck hke
                by_cases c1 : K1 = 0
                · have b1 : (K1 == 0) = true := by simp [c1]
                  by_cases c2 : K2 = 0
                  · have b2 : (K2 == 0) = true := by simp [c2]
                    have b3 : (K0 != K3) = false := by rw [hkd, wantOf, if_pos c1, if_pos c2]; simp
                    clear hkd c1 c2
                    go_wp2_with fail
                    go_roundw
                    case rel => exact ⟨i + 1, T + d, _, by omega, hT2, by go_num, by go_num, nx, nf, nn⟩
                    case measure => simp [intOf]; omega
                  · have b2 : (K2 == 0) = false := by simp [c2]
                    have b3 : (K0 != K2) = false := by rw [hkd, wantOf, if_pos c1, if_neg c2]; simp
                    clear hkd c1 c2
                    go_wp2_with fail
                    go_roundw
                    case rel => exact ⟨i + 1, T + d, _, by omega, hT2, by go_num, by go_num, nx, nf, nn⟩
                    case measure => simp [intOf]; omega
                · have b1 : (K1 == 0) = false := by simp [c1]
                  have b3 : (K0 != K1) = false := by rw [hkd, wantOf, if_neg c1]; simp
                  clear hkd c1
                  go_wp2_with fail
                  go_roundw
                  case rel => exact ⟨i + 1, T + d, _, by omega, hT2, by go_num, by go_num, nx, nf, nn⟩
                  case measure => simp [intOf]; omega
          · have hkb : (a.kind.toList == [101, 110, 100]) = false := by simp [hke]
            clear hke
            go_wp2_with fail
            clear q0 q2
            have Q1 := Lib.hid (fun W (hW : Below w.heap.size w W) => (hW.cell (p := ⟨xb, xo + i * 3 + 1, none⟩) hRx).trans ((hbl.cell (p := ⟨xb, xo + i * 3 + 1, none⟩) hRx).symm.trans q1))
            clear q1
            go_loopw [13] (fun s13 wn => ∃ (k : Nat) (m' : Nat → LocM), k ≤ 4 ∧ s13 = .int .i64 k ∧ Hid (A4 w F ab wc.heap.size s t m' wn) ∧ Hid (∀ j, j < 4 → m' j = if j < k then mrep F E.points.length m a.point (T + d : Nat) j else m j)) (fun s13 _ => 4 - (intOf s13).toNat)
            case atStart => exact ⟨0, m, Nat.zero_le _, rfl, hA, fun j _ => by rw [if_neg (Nat.not_lt_zero _)]⟩
            case round =>
              obtain ⟨k, m', hk4, rfl, hA', hm'⟩ := hrel
              by_cases hlk : k < 4
              · have hlk2 : (k : Int) < 4 := by omega
                have q := row_cell hA'.out.row k hlk
                have q1 := Q1.out wr hA'.out.bel
                have ht2 : (i : Int) < (acts.length : Int) := by omega
                go_wp2_with fail
                go_region_held3 (fun w' => w'.cell? ⟨ab, k, none⟩ = some (.pointer (some ⟨F.l k, 0, none⟩)) ∧ w'.cell? ⟨xb, xo + i * 3 + 1, none⟩ = some (.int .i64 a.point))
                  (first | exact ⟨q, q1⟩ | exact ⟨row_cell hn.row k hlk, Q1.out _ hn.bel⟩)
                  (first | (go_at_call 24; refine (rep4 HS.out HST.out hwB (hA'.out.keep (S := fun _ => False) ?_ hwB hab (fun _ h => h.elim)) k hlk a.point (T + d) (by omega)).mono ?_; exact Keep.drew (Keep.refl _ _); rintro e wn ⟨u, rfl, hn⟩))
                all_goals
                  have nx := Lib.hid hn
                  have nm : Hid (∀ j, j < 4 → updM m' k (mrep F E.points.length m' a.point (T + d : Nat) k) j = if j < k + 1 then mrep F E.points.length m a.point (T + d : Nat) j else m j) := (show ∀ j, j < 4 → _ from fun j hj => by
                    by_cases e : j = k
                    · subst e
                      rw [updM_eq, if_pos (by omega)]
                      have := hm'.out j hj
                      rw [if_neg (by omega)] at this
                      unfold mrep
                      rw [this]
                    · rw [updM_ne _ _ e, hm'.out j hj]
                      by_cases hjk : j < k
                      · rw [if_pos hjk, if_pos (by omega)]
                      · rw [if_neg hjk, if_neg (by omega)])
                  clear hn hA' hm' q q1
                  go_wp2_with fail
                  go_roundw
                  case rel => exact ⟨k + 1, _, by omega, by go_num, nx, nm⟩
                  case measure => simp [intOf]; omega
              · have hk44 : 4 ≤ (k : Int) := by omega
                have nx := Lib.hid (hA'.out.congr (m' := mrep F E.points.length m a.point (T + d : Nat)) (fun j hj => by rw [hm'.out j hj, if_pos (by omega)]))
                have nf := Lib.hid (four_rep HST.out.ef hF4.out E.points.length a.point (T + d : Nat))
                have nn : Hid (∀ j, j < 4 → 0 ≤ (mrep F E.points.length m a.point (T + d : Nat) j).run ∧ (mrep F E.points.length m a.point (T + d : Nat) j).run ≤ ((i + 1 : Nat) : Int)) := (show ∀ j, j < 4 → _ from fun j hj => by
                  rw [mrep_run]
                  have := hN.out j hj
                  omega)
                clear hA' hm' hF4 hN hA Q1
                go_wp2_with fail
                go_roundw
                case rel => exact ⟨i + 1, T + d, _, by omega, hT2, by go_num, by go_num, nx, nf, nn⟩
                case measure => simp [intOf]; omega
        · go_wp2_with fail
          go_ret
          exact ⟨rfl, hA.out.bel⟩
end Go.Proofs.YtpodijlhlgbbdaaDoor
