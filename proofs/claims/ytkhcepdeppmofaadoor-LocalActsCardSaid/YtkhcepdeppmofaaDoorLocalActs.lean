/- LocalActs: any acts of any entity: for every entity and every list of acts the call returns true. -/
import Derived.Test.YtkhcepdeppmofaaDoorLocalR2
import Derived.Test.YtkhcepdeppmofaaDoorLocalI
import Derived.Test.YtkhcepdeppmofaaDoorLives
import Derived.Test.YtkhcepdeppmofaaDoorActs2
import Derived.Test.YtkhcepdeppmofaaDoorSents
import Derived.Deep.CutBlock
namespace Go.Proofs.YtkhcepdeppmofaaDoor
open Go.RowKit
set_option linter.unusedVariables false

theorem count_lt {E : EntV} (h : entErr [] E = 0) : E.count < E.points.length := by
  have hc : cntW E = false := by
    cases hc : cntW E
    · rfl
    · exfalso
      unfold entErr at h
      rw [hc] at h
      have hp : ptsE E.points = 0 → False := fun e => by
        rw [e] at h
        simp at h
        repeat' split at h
        all_goals simp at h
      by_cases e : ptsE E.points = 0
      · exact hp e
      · rw [if_pos e] at h
        repeat' split at h
        all_goals first | (simp at h; done) | exact e h
  have := of_decide_eq_false hc
  omega
theorem localNew_u (E : EntV) (vp vg ve vf vl : Value) (w : World) :
    Calls Tryd.prog 13 #[.agg #[.string E.name, .int .i64 E.tol, vp, .int .i64 E.count, .int .i64 E.mn, .int .i64 E.mx, vg, ve, vf, vl]] w fun e w' => e = .returned (.pointer (some ⟨w.heap.size + 1, 0, none⟩)) ∧ w'.heap[w.heap.size + 1]? = some (locC none E vp vg ve vf vl) ∧ Below w.heap.size w w' :=
  localNew_any E vp vg ve vf vl w
theorem act2C_cells {w : World} {b : Nat} {c0 c1 c2 : Value} {t : TypeId} (h : w.heap[b]? = some (.cells #[c0, c1, c2] t)) : w.cell? ⟨b, 0, none⟩ = some c0 ∧ w.cell? ⟨b, 1, none⟩ = some c1 ∧ w.cell? ⟨b, 2, none⟩ = some c2 := by
  simp [World.cell?, h]

section
variable {B : Nat} {sa : Nat → Addr} {w0 : World} {E : EntV} {q l rl : Nat} {vp1 vg1 ve1 vf1 vl1 vp vg ve vf vl : Value} {base base' : Nat} {m m' : RLocM} {lv lv' : Value} {w w' : World} {i : Nat} {T : Int}
/-- All but the program's Local. -/
structure LB (B : Nat) (sa : Nat → Addr) (w0 : World) (E : EntV) (q l rl : Nat) (vp1 vg1 ve1 vf1 vl1 vp vg ve vf vl : Value) (base : Nat) (m : RLocM) (lv : Value) (w : World) : Prop where
  se : Sents B sa w
  bel : Below w0.heap.size w0 w
  o1 : EntSl (· < q) w E vp1 vg1 ve1 vf1 vl1
  o2 : EntSl (· < w0.heap.size) w E vp vg ve vf vl
  lay : B ≤ w0.heap.size ∧ w0.heap.size ≤ q ∧ q ≤ l ∧ l < rl ∧ rl < w.heap.size
  ref : RLocAt base rl E vp vg ve vf vl m lv w
theorem LB.keep {S : Nat → Prop} (h : LB B sa w0 E q l rl vp1 vg1 ve1 vf1 vl1 vp vg ve vf vl base m lv w) (k : Keep S w w') (hq : ∀ b, S b → q ≤ b) (h1 : ¬ S rl) (h2 : ∀ b, base ≤ b → b < w.heap.size → ¬ S b) : LB B sa w0 E q l rl vp1 vg1 ve1 vf1 vl1 vp vg ve vf vl base m lv w' := by
  have hl := h.lay
  have hs := k.size
  exact ⟨h.se.keep k (fun b hb => by have := hq b hb; omega), h.bel.trans (k.below h.bel.size (fun b hb => by have := hq b hb; omega)), h.o1.keep k (fun b hb hS => by have := hq b hS; omega), h.o2.keep k (fun b hb hS => by have := hq b hS; omega), ⟨hl.1, hl.2.1, hl.2.2.1, hl.2.2.2.1, by omega⟩, h.ref.keep k h1 h2⟩
theorem LB.step {S : Nat → Prop} (h : LB B sa w0 E q l rl vp1 vg1 ve1 vf1 vl1 vp vg ve vf vl base m lv w) (k : Keep S w w') (hq : ∀ b, S b → q ≤ b) (h' : RLocAt base' rl E vp vg ve vf vl m' lv' w') : LB B sa w0 E q l rl vp1 vg1 ve1 vf1 vl1 vp vg ve vf vl base' m' lv' w' := by
  have hl := h.lay
  have hs := k.size
  exact ⟨h.se.keep k (fun b hb => by have := hq b hb; omega), h.bel.trans (k.below h.bel.size (fun b hb => by have := hq b hb; omega)), h.o1.keep k (fun b hb hS => by have := hq b hS; omega), h.o2.keep k (fun b hb hS => by have := hq b hS; omega), ⟨hl.1, hl.2.1, hl.2.2.1, hl.2.2.2.1, by omega⟩, h'⟩
structure MK (i : Nat) (m : RLocM) : Prop where
  ok : MarksOk m.L
  len : m.L.length ≤ i
  since : m.since ≤ i
  run : 0 ≤ m.run ∧ m.run ≤ (i : Int)
theorem MK.up {j : Nat} (h : MK i m) (hj : i ≤ j) : MK j m := ⟨h.ok, by have := h.len; omega, by have := h.since; omega, by have := h.run; omega⟩
theorem MK.begin (i : Nat) : MK i rl0 := ⟨fun m hm => (by cases hm), Nat.zero_le _, Nat.zero_le _, ⟨Int.le_refl _, by show (0 : Int) ≤ i; omega⟩⟩
theorem MK.stop (h : MK i m) : MK i ⟨false, m.since, m.L, m.run, m.exp⟩ := ⟨h.ok, h.len, h.since, h.run⟩
theorem MK.note (h : MK i m) {p t : Int} (h0 : 0 ≤ t) (h1 : t ≤ 1099511627776) : MK (i + 1) (rlNote m p t) := by
  refine ⟨fun x hx => ?_, ?_, by show m.since ≤ i + 1; have := h.since; omega, by show 0 ≤ m.run ∧ m.run ≤ ((i + 1 : Nat) : Int); have := h.run; omega⟩
  · rcases List.mem_append.1 hx with hx | hx
    · exact h.ok x hx
    · rw [List.mem_singleton.1 hx]; exact ⟨h0, h1⟩
  · show (m.L ++ [(⟨p, t, m.since⟩ : MarkV)]).length ≤ i + 1
    have := h.len
    simp; omega
theorem MK.end' (h : MK i m) : MK (i + 1) (rlEnd E m) := by
  refine ⟨h.ok, by show m.L.length ≤ i + 1; have := h.len; omega, by show m.since + 1 ≤ i + 1; have := h.since; omega, ?_⟩
  show 0 ≤ rlRun E m ∧ rlRun E m ≤ ((i + 1 : Nat) : Int)
  have := h.run
  unfold rlRun
  split <;> omega
/-- Idle. -/
structure LI (B : Nat) (sa : Nat → Addr) (w0 : World) (E : EntV) (q l rl : Nat) (vp1 vg1 ve1 vf1 vl1 vp vg ve vf vl : Value) (i : Nat) (m : RLocM) (w : World) : Prop where
  act : m.act = false
  mks : MK i m
  own : w.heap[l]? = some (locC none E vp1 vg1 ve1 vf1 vl1)
  lb : ∃ base lv, LB B sa w0 E q l rl vp1 vg1 ve1 vf1 vl1 vp vg ve vf vl base m lv w
/-- Active. -/
structure LC (B : Nat) (sa : Nat → Addr) (w0 : World) (E : EntV) (q l rl : Nat) (vp1 vg1 ve1 vf1 vl1 vp vg ve vf vl : Value) (i : Nat) (x : LocM) (m : RLocM) (base s t : Nat) (lv : Value) (w : World) : Prop where
  act : m.act = true
  mks : MK i m
  own : LocAt l s t E vp1 vg1 ve1 vf1 vl1 x w
  rel : LRel E x m
  st : rl < s ∧ t ≤ base
  lb : LB B sa w0 E q l rl vp1 vg1 ve1 vf1 vl1 vp vg ve vf vl base m lv w
/-- One or the other. -/
def LA (B : Nat) (sa : Nat → Addr) (w0 : World) (E : EntV) (q l rl : Nat) (vp1 vg1 ve1 vf1 vl1 vp vg ve vf vl : Value) (i : Nat) (w : World) : Prop :=
  (∃ m, LI B sa w0 E q l rl vp1 vg1 ve1 vf1 vl1 vp vg ve vf vl i m w) ∨ ∃ x m base s t lv, LC B sa w0 E q l rl vp1 vg1 ve1 vf1 vl1 vp vg ve vf vl i x m base s t lv w
theorem LI.below (h : LI B sa w0 E q l rl vp1 vg1 ve1 vf1 vl1 vp vg ve vf vl i m w) (b : Below w.heap.size w w') : LI B sa w0 E q l rl vp1 vg1 ve1 vf1 vl1 vp vg ve vf vl i m w' := by
  obtain ⟨base, lv, hb⟩ := h.lb
  exact ⟨h.act, h.mks, below_get b h.own (lt_of_get h.own), base, lv, hb.keep (below_keep b) (fun _ h => h.elim) (fun h => h) (fun _ _ _ h => h)⟩
theorem LC.below {x : LocM} {s t : Nat} (h : LC B sa w0 E q l rl vp1 vg1 ve1 vf1 vl1 vp vg ve vf vl i x m base s t lv w) (b : Below w.heap.size w w') : LC B sa w0 E q l rl vp1 vg1 ve1 vf1 vl1 vp vg ve vf vl i x m base s t lv w' :=
  ⟨h.act, h.mks, h.own.keep (below_keep b) (fun h => h) (fun _ _ _ h => h), h.rel, h.st, h.lb.keep (below_keep b) (fun _ h => h.elim) (fun h => h) (fun _ _ _ h => h)⟩
theorem LA.below (h : LA B sa w0 E q l rl vp1 vg1 ve1 vf1 vl1 vp vg ve vf vl i w) (b : Below w.heap.size w w') : LA B sa w0 E q l rl vp1 vg1 ve1 vf1 vl1 vp vg ve vf vl i w' := by
  rcases h with ⟨m, h⟩ | ⟨x, m, base, s, t, lv, h⟩
  · exact .inl ⟨m, h.below b⟩
  · exact .inr ⟨x, m, base, s, t, lv, h.below b⟩
theorem LI.up (h : LI B sa w0 E q l rl vp1 vg1 ve1 vf1 vl1 vp vg ve vf vl i m w) : LI B sa w0 E q l rl vp1 vg1 ve1 vf1 vl1 vp vg ve vf vl (i + 1) m w := ⟨h.act, h.mks.up (by omega), h.own, h.lb⟩
theorem LC.up {x : LocM} {s t : Nat} (h : LC B sa w0 E q l rl vp1 vg1 ve1 vf1 vl1 vp vg ve vf vl i x m base s t lv w) : LC B sa w0 E q l rl vp1 vg1 ve1 vf1 vl1 vp vg ve vf vl (i + 1) x m base s t lv w := ⟨h.act, h.mks.up (by omega), h.own, h.rel, h.st, h.lb⟩
/-- The program begins .. -/
theorem LB.own_l (h : LB B sa w0 E q l rl vp1 vg1 ve1 vf1 vl1 vp vg ve vf vl base m lv w) (k : Keep (· = l) w w') : LB B sa w0 E q l rl vp1 vg1 ve1 vf1 vl1 vp vg ve vf vl base m lv w' := by
  have hl := h.lay
  have hr := h.ref.lo
  exact h.keep k (fun b hb => by omega) (by omega) (fun b hb _ e => by omega)
theorem LC.own_st {x : LocM} {s t : Nat} (h : LC B sa w0 E q l rl vp1 vg1 ve1 vf1 vl1 vp vg ve vf vl i x m base s t lv w) (k : Keep (fun b => s ≤ b ∧ b < t) w w') : LB B sa w0 E q l rl vp1 vg1 ve1 vf1 vl1 vp vg ve vf vl base m lv w' := by
  have hl := h.lb.lay
  have hs := h.st
  exact h.lb.keep k (fun b hb => by omega) (by omega) (fun b hb _ e => by omega)
/-- .. and so does the document. -/
theorem la_begin {w1 w2 : World} {t : Nat} (h : LB B sa w0 E q l rl vp1 vg1 ve1 vf1 vl1 vp vg ve vf vl base m lv w1) (hs : rl < w.heap.size) (hL : LocAt l w.heap.size t E vp1 vg1 ve1 vf1 vl1 (locBegin E) w1) (hb : w2.heap[rl]? = some (rlocC E vp vg ve vf vl rl0 (.slice none 0 0))) (k : Keep (· = rl) w1 w2) :
    LC B sa w0 E q l rl vp1 vg1 ve1 vf1 vl1 vp vg ve vf vl i (locBegin E) rl0 w2.heap.size w.heap.size t (.slice none 0 0) w2 := by
  have hl := h.lay
  have hz := k.size
  have ht : t ≤ w1.heap.size := by
    obtain ⟨⟨wb, a, g, f, ro, base, lo, hi, h1, h2⟩, _⟩ := hL
    exact h2.top
  refine ⟨rfl, MK.begin i, hL.keep k (by omega) (fun b h1 h2 e => by omega), lrel_begin E, ⟨hs, by omega⟩, h.step k (fun b hb => by omega) ⟨hb, fun _ => World.ownsRow_nil _ _ _ _, ⟨_, _, _, rfl⟩, by omega, fun _ => Nat.le_refl _⟩⟩
theorem la_stop {w1 w2 : World} (h : LB B sa w0 E q l rl vp1 vg1 ve1 vf1 vl1 vp vg ve vf vl base m lv w1) (hm : MK i m) (hL : w1.heap[l]? = some (locC none E vp1 vg1 ve1 vf1 vl1)) (hb : w2.heap[rl]? = some (rlocC E vp vg ve vf vl ⟨false, m.since, m.L, m.run, m.exp⟩ lv)) (k : Keep (· = rl) w1 w2) :
    LI B sa w0 E q l rl vp1 vg1 ve1 vf1 vl1 vp vg ve vf vl i ⟨false, m.since, m.L, m.run, m.exp⟩ w2 := by
  have hl := h.lay
  exact ⟨rfl, hm.stop, k.get hL (by omega), base, lv, h.step k (fun b hb => by omega) ⟨hb, fun h => (by cases h), h.ref.val, h.ref.lo, fun h => (by cases h)⟩⟩
theorem la_step {w1 w2 : World} {x : LocM} {s t : Nat} {S : Nat → Prop} (h : LB B sa w0 E q l rl vp1 vg1 ve1 vf1 vl1 vp vg ve vf vl base m lv w1) (ha : m'.act = true) (hm : MK i m') (hL : LocAt l s t E vp1 vg1 ve1 vf1 vl1 x w1) (hr : LRel E x m') (hst : rl < s ∧ t ≤ base) (hb : RLocAt base rl E vp vg ve vf vl m' lv' w2) (k : Keep S w1 w2) (hS : ∀ b, S b → b = rl ∨ base ≤ b) :
    LC B sa w0 E q l rl vp1 vg1 ve1 vf1 vl1 vp vg ve vf vl i x m' base s t lv' w2 := by
  have hl := h.lay
  have hlo := h.ref.lo
  refine ⟨ha, hm, hL.keep k (fun e => ?_) (fun b h1 h2 e => ?_), hr, hst, h.step k (fun b hb => ?_) hb⟩
  · rcases hS _ e with e | e <;> omega
  · rcases hS _ e with e | e <;> omega
  · rcases hS _ hb with e | e <;> omega
theorem LC.runs {x : LocM} {s t : Nat} (h : LC B sa w0 E q l rl vp1 vg1 ve1 vf1 vl1 vp vg ve vf vl i x m base s t lv w) : x.run = m.run ∧ locStatus x = rlStatus m := by
  refine ⟨h.rel.run, ?_⟩
  unfold locStatus rlStatus
  rw [h.act, h.rel.ex, h.rel.run]
  rfl
end
theorem LB.gt {B : Nat} {sa : Nat → Addr} {w0 : World} {E : EntV} {q l rl : Nat} {vp1 vg1 ve1 vf1 vl1 vp vg ve vf vl : Value} {base : Nat} {m : RLocM} {lv : Value} {w : World} (h : LB B sa w0 E q l rl vp1 vg1 ve1 vf1 vl1 vp vg ve vf vl base m lv w) : ∀ b, b < q → b < w.heap.size := fun b hb => by have := h.lay; omega
theorem LA.lb {B : Nat} {sa : Nat → Addr} {w0 : World} {E : EntV} {q l rl : Nat} {vp1 vg1 ve1 vf1 vl1 vp vg ve vf vl : Value} {i : Nat} {w : World} (h : LA B sa w0 E q l rl vp1 vg1 ve1 vf1 vl1 vp vg ve vf vl i w) : Below w0.heap.size w0 w ∧ rl < w.heap.size := by
  rcases h with ⟨m, h⟩ | ⟨x, m, base, s, t, lv, h⟩
  · obtain ⟨base, lv, hb⟩ := h.lb
    exact ⟨hb.bel, hb.lay.2.2.2.2⟩
  · exact ⟨h.lb.bel, h.lb.lay.2.2.2.2⟩
theorem box_new (w : World) (o : Obj) : (w.alloc o).heap[w.heap.size]? = some o ∧ Below w.heap.size w (w.alloc o) ∧ (w.alloc o).heap.size = w.heap.size + 1 := ⟨get_alloc_new _ _, (Below.refl _ _).alloc (Nat.le_refl _) _, World.size_alloc _ _⟩
section
variable {B : Nat} {sa : Nat → Addr} {w0 : World} {E : EntV} {q l rl : Nat} {pa1 pa : Option Addr} {pc1 pc : Nat} {vg1 ve1 vf1 vl1 vg ve vf vl : Value} {w wr w7 : World} {i : Nat}
theorem report_far {base rl : Nat} {E : EntV} {vp vg ve vf vl : Value} {m : RLocM} {lv : Value} (h : RLocAt base rl E vp vg ve vf vl m lv w) (ha : m.act = true) : ∀ b, lv.ownBlock = some b → base ≤ b ∧ b < w.heap.size := fun b hb => (h.own ha).lt b hb
/-- A report to both: what each call leaves. -/
theorem rep_key {bx : Obj} (p : Int) (T : Nat) (hT : T ≤ 1099511627776) (hc : E.count < E.points.length) (hi : i ≤ 200) (hL : LA B sa w0 E q l rl (.slice pa1 E.points.length pc1) vg1 ve1 vf1 vl1 (.slice pa E.points.length pc) vg ve vf vl i wr) (b7 : Below wr.heap.size wr w7) (hx : w7.heap[wr.heap.size]? = some bx) :
    ∃ (P0 P1 P2 : World → Prop) (vE : Value) (n : Nat), P0 w7 ∧ (∀ W, P0 W → P0 W.drew) ∧ (∀ W, P1 W → P1 W.drew) ∧ (∀ W, P2 W → P2 W.drew) ∧ (∀ W, P0 W ∨ P1 W ∨ P2 W → ∀ o, W.cell? ⟨wr.heap.size, o, none⟩ = w7.cell? ⟨wr.heap.size, o, none⟩) ∧
      (∀ W, P0 W → Calls Tryd.prog 22 #[.pointer (some ⟨l, 0, none⟩), .int .i64 p, .int .i64 T] W fun e w' => e = .returned vE ∧ P1 w') ∧
      (∀ W, P1 W → Calls Tryd.prog 23 #[.pointer (some ⟨rl, 0, none⟩), .int .i64 p, .int .i64 T] W fun e w' => e = .returned (.int .i64 n) ∧ P2 w') ∧
      (∀ W, P2 W → Calls Tryd.prog 15 #[vE, .int .i64 n] W fun e w' => e = .returned (.bool true) ∧ P2 w') ∧
      ∀ W, P2 W → LA B sa w0 E q l rl (.slice pa1 E.points.length pc1) vg1 ve1 vf1 vl1 (.slice pa E.points.length pc) vg ve vf vl (i + 1) W := by
  have bdr : ∀ W : World, Below W.heap.size W W.drew := fun W => (Below.refl _ _).drew
  rcases hL with ⟨m, h⟩ | ⟨x, m, base, s, t, lv, h⟩
  · refine ⟨fun W => LI B sa w0 E q l rl (.slice pa1 E.points.length pc1) vg1 ve1 vf1 vl1 (.slice pa E.points.length pc) vg ve vf vl i m W ∧ W.heap[wr.heap.size]? = some bx, fun W => LI B sa w0 E q l rl (.slice pa1 E.points.length pc1) vg1 ve1 vf1 vl1 (.slice pa E.points.length pc) vg ve vf vl i m W ∧ W.heap[wr.heap.size]? = some bx,
      fun W => LI B sa w0 E q l rl (.slice pa1 E.points.length pc1) vg1 ve1 vf1 vl1 (.slice pa E.points.length pc) vg ve vf vl i m W ∧ W.heap[wr.heap.size]? = some bx, errv sa 9, 9, ⟨h.below b7, hx⟩, fun W k => ⟨k.1.below (bdr W), k.2⟩, fun W k => ⟨k.1.below (bdr W), k.2⟩, fun W k => ⟨k.1.below (bdr W), k.2⟩, fun W k o => ?_, fun W k => ?_, fun W k => ?_, fun W k => ?_, fun W k => .inl ⟨m, k.1.up⟩⟩
    · have hk : W.heap[wr.heap.size]? = some bx := by rcases k with k | k | k <;> exact k.2
      exact World.cell?_of_block (a := ⟨wr.heap.size, o, none⟩) (hk.trans hx.symm)
    · obtain ⟨base, lv, hb⟩ := k.1.lb
      refine (localReport_idle l _ _ _ _ _ _ (errv sa 9) p T W k.1.own (hb.se.gl 8 (by decide))).mono ?_
      rintro e w' ⟨rfl, rfl⟩
      exact ⟨rfl, k⟩
    · obtain ⟨base, lv, hb⟩ := k.1.lb
      refine (rlReport_idle rl _ _ _ _ _ _ m lv p T W hb.ref.box k.1.act).mono ?_
      rintro e w' ⟨rfl, rfl⟩
      exact ⟨rfl, k⟩
    · obtain ⟨base, lv, hb⟩ := k.1.lb
      refine (coded2_any B sa 9 (by decide) 9 W hb.se).mono ?_
      rintro e w' ⟨rfl, b⟩
      exact ⟨rfl, k.1.below b, below_get b k.2 (lt_of_get k.2)⟩
  · by_cases hp : 0 ≤ p ∧ p < E.points.length
    · have hst := h.st
      have hlay := h.lb.lay
      have htop := h.lb.ref.top h.act
      have hfar := report_far h.lb.ref h.act
      refine ⟨fun W => LC B sa w0 E q l rl (.slice pa1 E.points.length pc1) vg1 ve1 vf1 vl1 (.slice pa E.points.length pc) vg ve vf vl i x m base s t lv W ∧ W.heap[wr.heap.size]? = some bx,
        fun W => LocAt l s t E (.slice pa1 E.points.length pc1) vg1 ve1 vf1 vl1 (locReport E x p T) W ∧ LB B sa w0 E q l rl (.slice pa1 E.points.length pc1) vg1 ve1 vf1 vl1 (.slice pa E.points.length pc) vg ve vf vl base m lv W ∧ W.heap[wr.heap.size]? = some bx,
        fun W => (∃ lv', LC B sa w0 E q l rl (.slice pa1 E.points.length pc1) vg1 ve1 vf1 vl1 (.slice pa E.points.length pc) vg ve vf vl (i + 1) (locReport E x p T) (rlNote m p T) base s t lv' W) ∧ W.heap[wr.heap.size]? = some bx, errv sa 0, 0, ⟨h.below b7, hx⟩, fun W k => ⟨k.1.below (bdr W), k.2⟩,
        fun W k => ⟨k.1.keep (below_keep (bdr W)) (fun h => h) (fun _ _ _ h => h), k.2.1.keep (below_keep (bdr W)) (fun _ h => h.elim) (fun h => h) (fun _ _ _ h => h), k.2.2⟩, fun W k => ⟨k.1.imp fun lv' k => k.below (bdr W), k.2⟩, fun W k o => ?_, fun W k => ?_, fun W k => ?_, fun W k => ?_, fun W k => ?_⟩
      · have hk : W.heap[wr.heap.size]? = some bx := by
          rcases k with k | k | k
          · exact k.2
          · exact k.2.2
          · exact k.2
        exact World.cell?_of_block (a := ⟨wr.heap.size, o, none⟩) (hk.trans hx.symm)
      · refine (localReport_in l s t E pa1 pc1 vg1 ve1 vf1 vl1 x p T W k.1.own hp.1 hp.2 (by omega) (by omega)).mono ?_
        rintro e w' ⟨rfl, h1, h2⟩
        exact ⟨rfl, h1, k.1.own_st h2, h2.get k.2 (by omega)⟩
      · refine (rlReport_in base rl E pa pc vg ve vf vl m lv p T W k.2.1.ref h.act hp.1 hp.2 (by have := h.mks.len; omega)).mono ?_
        rintro e w' ⟨rfl, lv', h1, h2⟩
        refine ⟨rfl, ⟨lv', la_step (S := fun b => b = rl ∨ lv.ownBlock = some b) k.2.1 h.act (h.mks.note (by omega) (by omega)) k.1 (lrel_report h.rel hc (by have := h.mks.len; omega) p T) hst h1 h2 (fun b hb => ?_)⟩, h2.get k.2.2 ?_⟩
        · rcases hb with e | e
          · exact .inl e
          · exact .inr (hfar b e).1
        · rintro (e | e)
          · omega
          · have := (hfar _ e).2; omega
      · obtain ⟨⟨lv', k1⟩, k2⟩ := k
        refine (coded2_any B sa 0 (by decide) 0 W k1.lb.se).mono ?_
        rintro e w' ⟨rfl, b⟩
        exact ⟨rfl, ⟨lv', k1.below b⟩, below_get b k2 (lt_of_get k2)⟩
      · obtain ⟨⟨lv', k1⟩, _⟩ := k
        exact .inr ⟨_, _, _, _, _, _, k1⟩
    · have hp' : p < 0 ∨ (E.points.length : Int) ≤ p := by omega
      refine ⟨fun W => LC B sa w0 E q l rl (.slice pa1 E.points.length pc1) vg1 ve1 vf1 vl1 (.slice pa E.points.length pc) vg ve vf vl i x m base s t lv W ∧ W.heap[wr.heap.size]? = some bx, fun W => LC B sa w0 E q l rl (.slice pa1 E.points.length pc1) vg1 ve1 vf1 vl1 (.slice pa E.points.length pc) vg ve vf vl i x m base s t lv W ∧ W.heap[wr.heap.size]? = some bx,
        fun W => LC B sa w0 E q l rl (.slice pa1 E.points.length pc1) vg1 ve1 vf1 vl1 (.slice pa E.points.length pc) vg ve vf vl i x m base s t lv W ∧ W.heap[wr.heap.size]? = some bx, errv sa 5, 5, ⟨h.below b7, hx⟩, fun W k => ⟨k.1.below (bdr W), k.2⟩, fun W k => ⟨k.1.below (bdr W), k.2⟩, fun W k => ⟨k.1.below (bdr W), k.2⟩, fun W k o => ?_, fun W k => ?_, fun W k => ?_, fun W k => ?_, fun W k => .inr ⟨_, _, _, _, _, _, k.1.up⟩⟩
      · have hk : W.heap[wr.heap.size]? = some bx := by rcases k with k | k | k <;> exact k.2
        exact World.cell?_of_block (a := ⟨wr.heap.size, o, none⟩) (hk.trans hx.symm)
      · refine (localReport_out l s t E pa1 pc1 vg1 ve1 vf1 vl1 (errv sa 5) x p T W k.1.own hp' (k.1.lb.se.gl 4 (by decide))).mono ?_
        rintro e w' ⟨rfl, rfl⟩
        exact ⟨rfl, k⟩
      · refine (rlReport_out rl E pa pc vg ve vf vl m lv p T W k.1.lb.ref.box k.1.act hp').mono ?_
        rintro e w' ⟨rfl, rfl⟩
        exact ⟨rfl, k⟩
      · refine (coded2_any B sa 5 (by decide) 5 W k.1.lb.se).mono ?_
        rintro e w' ⟨rfl, b⟩
        exact ⟨rfl, k.1.below b, below_get b k.2 (lt_of_get k.2)⟩
end
set_option maxRecDepth 100000 in
set_option maxHeartbeats 8000000 in
theorem localActs_any (B : Nat) (sa : Nat → Addr) (E : EntV) (acts : List Act2V) (vp vg ve vf vl va : Value) (w : World) (hS : Sents B sa w) (hBw : B ≤ w.heap.size) (h : EntSl (· < w.heap.size) w E vp vg ve vf vl) (ha : SlOf (· < w.heap.size) w va 3 (acts.flatMap act2Cells) acts.length) :
    Calls Tryd.prog 3 #[.agg (entCs E vp vg ve vf vl), va] w fun e w' => e = .returned (.bool true) ∧ Below w.heap.size w w' := by
  obtain ⟨pa, pc, rfl⟩ := h.p.val
  obtain ⟨ga, gc, rfl⟩ := h.g.val
  obtain ⟨ea, ec, rfl⟩ := h.e.val
  obtain ⟨fa, fc, rfl⟩ := h.f.val
  obtain ⟨la, lc, rfl⟩ := h.l.val
  obtain ⟨aa, ac, rfl⟩ := ha.val
  have H := Lib.hid h
  have HA := Lib.hid ha
  have HS := Lib.hid hS
  clear h ha hS
  unfold entCs
  go_enter Tryd.func3, Tryd.ntmps3
  go_wp2_with fail
  refine (lives_any _).mono ?_
  rintro e w1 ⟨rfl, b1⟩
  obtain ⟨bb1, hx1⟩ := box_below b1
  clear b1
  have HX1 := Lib.hid hx1
  obtain ⟨c0, c1, c2, c3, c4, c5, c6, c7, c8, c9, cf⟩ := ten_cells hx1
  clear hx1 cf
  go_wp2_with fail
  refine (heavyEntity_x E _ _ _ _ _ _ _ _ _ _ w w1 H.out bb1).mono ?_
  rintro e w2 ⟨rfl, b2⟩
  have bb2 := bb1.trans (b2.mono bb1.size)
  have hx2 := below_get b2 HX1.out (lt_of_get HX1.out)
  clear c0 c1 c2 c3 c4 c5 c6 c7 c8 c9 HX1 b2
  by_cases hH : Heavy E
  · rw [heavyN_pos hH]
    go_wp2_with fail
    go_ret
    exact ⟨rfl, bb2⟩
  rw [heavyN_neg hH]
  by_cases hF : 80 < acts.length
  · go_wp2_with fail
    go_ret
    exact ⟨rfl, bb2⟩
  have HX2 := Lib.hid hx2
  have LG := Lib.hid (light_of hH)
  have HH := Lib.hid hH
  obtain ⟨c0, c1, c2, c3, c4, c5, c6, c7, c8, c9, cf⟩ := ten_cells hx2
  clear hx2 cf hH
  have hla : acts.length ≤ 80 := by omega
  go_wp2_with fail
  refine (entErr_x E _ _ _ _ _ w w2 H.out bb2 LG.out).mono ?_
  rintro e w3 ⟨rfl, b3⟩
  have bb3 := bb2.trans (b3.mono bb2.size)
  have hx3 := below_get b3 HX2.out (lt_of_get HX2.out)
  clear c0 c1 c2 c3 c4 c5 c6 c7 c8 c9 HX2 b3
  obtain ⟨er, her⟩ : ∃ er, er = entErr [] E := ⟨_, rfl⟩
  rw [← her]
  have HER := Lib.hid her
  clear her
  by_cases hE : 0 < er
  · go_wp2_with fail
    go_ret
    exact ⟨rfl, bb3⟩
  obtain rfl : er = 0 := by omega
  have HCT := Lib.hid (count_lt HER.out.symm)
  have HX3 := Lib.hid hx3
  obtain ⟨c0, c1, c2, c3, c4, c5, c6, c7, c8, c9, cf⟩ := ten_cells hx3
  clear hx3 cf hE HER
  go_wp2_with fail
  refine (ownEntity_x E _ _ _ _ _ _ _ _ _ _ w w3 H.out bb3 HH.out).mono ?_
  rintro e w4 ⟨pa1, pc1, ga1, gc1, ea1, ec1, fa1, fc1, la1, lc1, rfl, hs4, b4⟩
  have bb4 := bb3.trans (b4.mono bb3.size)
  have hx4 := below_get b4 HX3.out (lt_of_get HX3.out)
  have P1 : Hid (EntSl (· < w4.heap.size) w4 E (.slice pa1 E.points.length pc1) (.slice ga1 E.gaps.length gc1) (.slice ea1 E.edges.length ec1) (.slice fa1 E.first.length fc1) (.slice la1 E.last.length lc1)) := ⟨hs4.p.here, hs4.g.here, hs4.e.here, hs4.f.here, hs4.l.here⟩
  clear c0 c1 c2 c3 c4 c5 c6 c7 c8 c9 hs4 HX3 b4
  go_wp2_with fail
  refine (localNew_u E _ _ _ _ _ w4).mono ?_
  rintro e w5 ⟨rfl, hl5, b5⟩
  have bb5 := bb4.trans (b5.mono bb4.size)
  have hx5 := below_get b5 hx4 (lt_of_get hx4)
  have P5 := Lib.hid (P1.out.below b5 (fun _ h => h))
  have HL5 := Lib.hid hl5
  obtain ⟨c0, c1, c2, c3, c4, c5, c6, c7, c8, c9, cf⟩ := ten_cells hx5
  clear cf hl5 hx5 hx4 P1
  go_upto_region 8 with fail
  have q6 := box_new w5 (.cells #[.string E.name, .int .i64 E.tol, .slice pa E.points.length pc, .int .i64 E.count, .int .i64 E.mn, .int .i64 E.mx, .slice ga E.gaps.length gc, .slice ea E.edges.length ec, .slice fa E.first.length fc, .slice la E.last.length lc, .bool false, .int .i64 0, .slice none 0 0, .int .i64 0, .bool false] 39)
  generalize w5.alloc _ = w6 at q6 ⊢
  obtain ⟨q61, q62, q63⟩ := q6
  have bb6 := bb5.trans (q62.mono bb5.size)
  have HLA : Hid (LA B sa w E w4.heap.size (w4.heap.size + 1) w5.heap.size (.slice pa1 E.points.length pc1) (.slice ga1 E.gaps.length gc1) (.slice ea1 E.edges.length ec1) (.slice fa1 E.first.length fc1) (.slice la1 E.last.length lc1) (.slice pa E.points.length pc) (.slice ga E.gaps.length gc) (.slice ea E.edges.length ec) (.slice fa E.first.length fc) (.slice la E.last.length lc) 0 w6) := by
    have z4 := bb4.size
    have z5 := b5.size
    have z6 := lt_of_get HL5.out
    exact .inl ⟨⟨false, 0, [], 0, false⟩, rfl, ⟨fun m hm => (by cases hm), Nat.le_refl _, Nat.le_refl _, ⟨Int.le_refl _, Int.le_refl _⟩⟩, below_get q62 HL5.out (lt_of_get HL5.out), w6.heap.size, .slice none 0 0, HS.out.low bb6 hBw, bb6, P5.out.below q62 (fun b hb => by omega), H.out.below bb6 (fun _ h => h),
      ⟨hBw, z4, by omega, z6, by omega⟩, ⟨q61, fun h => (by cases h), ⟨_, _, _, rfl⟩, by omega, fun h => (by cases h)⟩⟩
  clear c0 c1 c2 c3 c4 c5 c6 c7 c8 c9 HL5 P5 q61 q62 q63 bb1 bb2 bb3 bb4 bb5 bb6 b5 HH hBw
  generalize w4.heap.size + 1 = l at HLA ⊢
  generalize w4.heap.size = q at HLA ⊢
  generalize w5.heap.size = rl at HLA ⊢
  go_wp2_with fail
  go_loopw [8, 9] (fun s8 s9 wr => ∃ (i T : Nat), i ≤ acts.length ∧ T ≤ i * 1073741824 ∧ s8 = .int .i64 T ∧ s9 = .int .i64 i ∧ Hid (LA B sa w E q l rl (.slice pa1 E.points.length pc1) (.slice ga1 E.gaps.length gc1) (.slice ea1 E.edges.length ec1) (.slice fa1 E.first.length fc1) (.slice la1 E.last.length lc1) (.slice pa E.points.length pc) (.slice ga E.gaps.length gc) (.slice ea E.edges.length ec) (.slice fa E.first.length fc) (.slice la E.last.length lc) i wr)) (fun _ s9 _ => acts.length - (intOf s9).toNat)
  case atStart => exact ⟨0, 0, Nat.zero_le _, Nat.zero_le _, rfl, rfl, HLA⟩
  case round =>
    obtain ⟨i, T, hi, hT, rfl, rfl, hL⟩ := hrel
    clear HLA
    have hbl := hL.out.lb.1
    by_cases hlt : i < acts.length
    · obtain ⟨xb, xo, rfl, hRx, _, hcx⟩ := act2_cells HA.out (by omega)
      obtain ⟨q0, q1, q2⟩ := hcx i hlt
      rw [← hbl.cell (p := ⟨xb, xo + i * 3, none⟩) hRx] at q0
      rw [← hbl.cell (p := ⟨xb, xo + i * 3 + 1, none⟩) hRx] at q1
      rw [← hbl.cell (p := ⟨xb, xo + i * 3 + 2, none⟩) hRx] at q2
      clear hcx
      obtain ⟨a, haa⟩ : ∃ a, a = acts[i] := ⟨_, rfl⟩
      rw [← haa] at q0 q1 q2
      clear haa
      go_upto_region 13 with fail
      have q7 := box_new wr (.cells #[.string a.kind, .int .i64 a.point, .int .i64 a.later] 41)
      generalize wr.alloc _ = w7 at q7 ⊢
      obtain ⟨q71, q72, q73⟩ := q7
      have HL7 := Lib.hid (hL.out.below q72)
      have HX7 := Lib.hid q71
      have HK7 := Lib.hid (fun (p : Int) (T : Nat) (hT : T ≤ 1099511627776) => rep_key p T hT HCT.out (show i ≤ 200 by omega) hL.out q72 q71)
      obtain ⟨a0, a1, a2⟩ := act2C_cells q71
      have hbl7 := hbl.trans (q72.mono hbl.size)
      clear q0 q1 q2 q71 q72 q73 hL hbl
      obtain ⟨ab, hab⟩ : ∃ ab, ab = wr.heap.size := ⟨_, rfl⟩
      rw [← hab] at a0 a1 a2 HX7 HK7 ⊢
      clear hab
      by_cases hl0 : a.later < 0
      · go_wp2_with fail
        go_ret
        exact ⟨rfl, hbl7⟩
      by_cases hl1 : 1073741824 < a.later
      · go_wp2_with fail
        go_ret
        exact ⟨rfl, hbl7⟩
      obtain ⟨d, hd⟩ : ∃ d : Nat, a.later = d := ⟨a.later.toNat, by omega⟩
      rw [hd] at a2 hl0 hl1
      clear hd
      have hT2 : T + d ≤ (i + 1) * 1073741824 := by omega
      have hT3 : T + d ≤ 85899345920 := by omega
      have HKey := Lib.hid (HK7.out a.point (T + d) (by omega))
      clear HK7
      go_upto_block 2 with fail
      go_cut [] (fun wx => Hid (LA B sa w E q l rl (.slice pa1 E.points.length pc1) (.slice ga1 E.gaps.length gc1) (.slice ea1 E.edges.length ec1) (.slice fa1 E.first.length fc1) (.slice la1 E.last.length lc1) (.slice pa E.points.length pc) (.slice ga E.gaps.length gc) (.slice ea E.edges.length ec) (.slice fa E.first.length fc) (.slice la E.last.length lc) (i + 1) wx))
      case first =>
        by_cases hk1 : a.kind.toList = [98, 101, 103, 105, 110]
        · have hkb1 : (a.kind.toList == [98, 101, 103, 105, 110]) = true := by simp [hk1]
          clear hk1
          rcases HL7.out with ⟨m, hI⟩ | ⟨x, m, base, s, t, lv, hC⟩
          · obtain ⟨base, lv, hb⟩ := hI.lb
            have HI := Lib.hid hI
            have HB := Lib.hid hb
            clear hI hb
            go_wp2_with fail
            refine (localBegin_any (· < q) l E _ _ _ _ _ w7 HI.out.own HB.out.o1 HB.out.gt LG.out).mono ?_
            rintro e w8 ⟨rfl, t, hL8, k8⟩
            have HB8 := Lib.hid (HB.out.own_l k8)
            have HL8 := Lib.hid hL8
            have hrl7 := Lib.hid HB.out.lay.2.2.2.2
            clear hL8 k8
            go_wp2_with fail
            refine (rlBegin_any rl E _ _ _ _ _ m lv w8 HB8.out.ref.box HI.out.act).mono ?_
            rintro e w9 ⟨rfl, h9, k9⟩
            have HC9 := Lib.hid (la_begin (i := i + 1) HB8.out hrl7.out HL8.out h9 k9)
            clear h9 k9
            go_wp2_with fail
            refine (coded2_any B sa 0 (by decide) 0 w9 HC9.out.lb.se).mono ?_
            rintro e w10 ⟨rfl, b10⟩
            go_wp2_with fail
            go_meet
            exact .inr ⟨_, _, _, _, _, _, HC9.out.below b10⟩
          · have HC := Lib.hid hC
            have hg := hC.lb.se.gl 9 (by decide)
            clear hC
            go_wp2_with fail
            refine (localBegin_held l _ _ _ _ _ _ _ _ (errv sa 10) _ w7 HC.out.own hg).mono ?_
            rintro e w' ⟨rfl, rfl⟩
            clear hg
            go_wp2_with fail
            refine (rlBegin_held rl E _ _ _ _ _ m lv w7 HC.out.lb.ref.box HC.out.act).mono ?_
            rintro e w' ⟨rfl, rfl⟩
            go_wp2_with fail
            refine (coded2_any B sa 10 (by decide) 10 w7 HC.out.lb.se).mono ?_
            rintro e w10 ⟨rfl, b10⟩
            go_wp2_with fail
            go_meet
            exact .inr ⟨_, _, _, _, _, _, (HC.out.below b10).up⟩
        have hkb1 : (a.kind.toList == [98, 101, 103, 105, 110]) = false := by simp [hk1]
        clear hk1
        by_cases hk2 : a.kind.toList = [115, 116, 111, 112]
        · have hkb2 : (a.kind.toList == [115, 116, 111, 112]) = true := by simp [hk2]
          clear hk2
          rcases HL7.out with ⟨m, hI⟩ | ⟨x, m, base, s, t, lv, hC⟩
          · obtain ⟨base, lv, hb⟩ := hI.lb
            have HI := Lib.hid hI
            have HB := Lib.hid hb
            have hg := hb.se.gl 8 (by decide)
            clear hI hb
            go_wp2_with fail
            refine (localStop_idle l _ _ _ _ _ _ (errv sa 9) w7 HI.out.own hg).mono ?_
            rintro e w' ⟨rfl, rfl⟩
            clear hg
            go_wp2_with fail
            refine (rlStop_idle rl E _ _ _ _ _ m lv w7 HB.out.ref.box HI.out.act).mono ?_
            rintro e w' ⟨rfl, rfl⟩
            go_wp2_with fail
            refine (coded2_any B sa 9 (by decide) 9 w7 HB.out.se).mono ?_
            rintro e w10 ⟨rfl, b10⟩
            go_wp2_with fail
            go_meet
            exact .inl ⟨_, (HI.out.below b10).up⟩
          · have HC := Lib.hid hC
            clear hC
            go_wp2_with fail
            refine (localStop_any l _ _ _ _ _ _ _ _ _ w7 HC.out.own).mono ?_
            rintro e w8 ⟨rfl, h8, k8⟩
            have HB8 := Lib.hid (HC.out.lb.own_l k8)
            have H8 := Lib.hid h8
            clear h8 k8
            go_wp2_with fail
            refine (rlStop_any rl E _ _ _ _ _ m lv w8 HB8.out.ref.box HC.out.act).mono ?_
            rintro e w9 ⟨rfl, h9, k9⟩
            have HI9 := Lib.hid (la_stop HB8.out HC.out.mks H8.out h9 k9)
            clear h9 k9
            obtain ⟨base9, lv9, hb9⟩ := HI9.out.lb
            have HB9 := Lib.hid hb9
            clear hb9
            go_wp2_with fail
            refine (coded2_any B sa 0 (by decide) 0 w9 HB9.out.se).mono ?_
            rintro e w10 ⟨rfl, b10⟩
            go_wp2_with fail
            go_meet
            exact .inl ⟨_, (HI9.out.below b10).up⟩
        have hkb2 : (a.kind.toList == [115, 116, 111, 112]) = false := by simp [hk2]
        clear hk2
        by_cases hk3 : a.kind.toList = [101, 110, 100]
        · have hkb3 : (a.kind.toList == [101, 110, 100]) = true := by simp [hk3]
          clear hk3
          rcases HL7.out with ⟨m, hI⟩ | ⟨x, m, base, s, t, lv, hC⟩
          · obtain ⟨base, lv, hb⟩ := hI.lb
            have HI := Lib.hid hI
            have HB := Lib.hid hb
            clear hI hb
            go_wp2_with fail
            refine (localEnd_idle l _ _ _ _ _ _ w7 HI.out.own).mono ?_
            rintro e w' ⟨rfl, rfl⟩
            go_wp2_with fail
            refine (rlEnd_idle rl E _ _ _ _ _ m lv w7 HB.out.ref.box HI.out.act).mono ?_
            rintro e w' ⟨rfl, rfl⟩
            go_wp2_with fail
            go_meet
            exact .inl ⟨_, HI.out.up⟩
          · have HC := Lib.hid hC
            clear hC
            have hrn := HC.out.rel.run
            have hmk := HC.out.mks.run
            have HR0 : Hid (0 ≤ x.run ∧ x.run ≤ 1000000) := ⟨by omega, by omega⟩
            clear hrn hmk
            go_wp2_with fail
            refine (localEnd_any l _ _ _ _ _ _ _ _ _ w7 HC.out.own HR0.out.1 HR0.out.2).mono ?_
            rintro e w8 ⟨rfl, h8, k8⟩
            rw [lrel_kind HC.out.rel HCT.out, lrel_now HC.out.rel HCT.out]
            have HB8 := Lib.hid (HC.out.own_st k8)
            have H8 := Lib.hid h8
            have Hlen : Hid (m.L.length ≤ 200 ∧ m.since ≤ 100000 ∧ 0 ≤ m.run ∧ m.run ≤ 100000) := by
              have h1 := HC.out.mks.len
              have h2 := HC.out.mks.since
              have h3 := HC.out.mks.run
              exact ⟨by omega, by omega, by omega, by omega⟩
            have HEn := Lib.hid (rlEnd_any (· < w.heap.size) base rl E _ _ _ _ _ m lv w8 HB8.out.ref HB8.out.o2 (fun b hb => by have := HB8.out.lay; omega) LG.out HC.out.act Hlen.out.1 HC.out.mks.ok Hlen.out.2.1 Hlen.out.2.2)
            clear h8 k8
            have HLR := Lib.hid (lrel_end HC.out.rel HCT.out)
            generalize kindF E m.L m.since = K at HEn ⊢
            generalize rlNow E m = N at HEn ⊢
            go_wp2_with fail
            refine HEn.out.mono ?_
            rintro e w9 ⟨rfl, h9, k9⟩
            have HC9 := Lib.hid (la_step HB8.out (show (rlEnd E m).act = true from HC.out.act) HC.out.mks.end' H8.out HLR.out HC.out.st h9 k9 (fun b hb => hb.imp_right (fun h => Nat.le_trans (HB8.out.ref.top HC.out.act) h)))
            clear h9 k9
            go_wp2_with fail
            go_meet
            exact .inr ⟨_, _, _, _, _, _, HC9.out⟩
        have hkb3 : (a.kind.toList == [101, 110, 100]) = false := by simp [hk3]
        clear hk3
        obtain ⟨P0, P1, P2, vE, n, h0, d0, d1, d2, hsm, hW, hR, hC, hfin⟩ := HKey.out
        have H0 := Lib.hid h0
        have D0 := Lib.hid d0
        have D1 := Lib.hid d1
        have D2 := Lib.hid d2
        have HSm := Lib.hid hsm
        have HW := Lib.hid hW
        have HR := Lib.hid hR
        have HC := Lib.hid hC
        have HF := Lib.hid hfin
        clear h0 d0 d1 d2 hsm hW hR hC hfin HKey
        go_upto_region 17 with fail
        go_region_held3 (fun w' => ∀ o, w'.cell? ⟨ab, o, none⟩ = w7.cell? ⟨ab, o, none⟩)
          (first | exact fun _ => rfl | exact HSm.out _ (.inr (.inl k1)) | exact HSm.out _ (.inr (.inr k2)) | exact HSm.out _ (.inr (.inr k3)) | exact HSm.out _ (.inr (.inl (D1.out _ k1))) | exact HSm.out _ (.inr (.inr (D2.out _ k2))))
          (first | (go_at_call 22; refine (HW.out _ ?_).mono ?_; (repeat (first | exact H0.out | refine D0.out _ ?_)); rintro e wE ⟨rfl, k1⟩) | (go_at_call 23; refine (HR.out _ ?_).mono ?_; (repeat (first | exact k1 | refine D1.out _ ?_)); rintro e wF ⟨rfl, k2⟩) | (go_at_call 15; refine (HC.out _ ?_).mono ?_; (repeat (first | exact k2 | refine D2.out _ ?_)); rintro e wG ⟨rfl, k3⟩))
        all_goals
          have HFin : Hid (∀ b : Unit, LA B sa w E q l rl (.slice pa1 E.points.length pc1) (.slice ga1 E.gaps.length gc1) (.slice ea1 E.edges.length ec1) (.slice fa1 E.first.length fc1) (.slice la1 E.last.length lc1) (.slice pa E.points.length pc) (.slice ga E.gaps.length gc) (.slice ea E.edges.length ec) (.slice fa E.first.length fc) (.slice la E.last.length lc) (i + 1) wG) := fun _ => HF.out _ k3
          go_wp2_with fail
          go_meet
          first | exact HFin.out () | exact (HFin.out ()).below ((Below.refl _ _).drew) | exact HF.out _ (D2.out _ k3)
      case rest =>
      clear a0 a1 a2 HX7 HL7 hbl7
      rcases hcut.out with ⟨m, hI⟩ | ⟨x, m, base, s, t, lv, hC⟩
      · obtain ⟨base, lv, hb⟩ := hI.lb
        have HI := Lib.hid hI
        have HB := Lib.hid hb
        have hst : rlStatus m = ⟨#[105, 100, 108, 101]⟩ := by simp [rlStatus, hI.act]
        obtain ⟨_, c10, c11, c12, c13, c14, cf⟩ := rloc_cells hb.ref.box
        rw [hI.act] at c10
        clear hI hb c11 c12 c14 cf
        go_wp2_with fail
        refine (localStatus_idle l _ _ _ _ _ _ wc HI.out.own).mono ?_
        rintro e w' ⟨rfl, rfl⟩
        go_wp2_with fail
        refine (rlStatus_any rl E _ _ _ _ _ m lv wc HB.out.ref.box).mono ?_
        rintro e w' ⟨rfl, rfl⟩
        rw [hst]
        go_wp2_with fail
        refine (localRun_idle l _ _ _ _ _ _ wc HI.out.own).mono ?_
        rintro e w' ⟨rfl, rfl⟩
        go_wp2_with fail
        go_roundw
        case rel => exact ⟨i + 1, T + d, by omega, hT2, by go_num, by go_num, .inl ⟨_, HI.out⟩⟩
        case measure => simp [intOf]; omega
      · have HC := Lib.hid hC
        have hru := hC.runs
        obtain ⟨_, c10, c11, c12, c13, c14, cf⟩ := rloc_cells hC.lb.ref.box
        rw [hC.act] at c10
        rw [← hru.1] at c13
        have HRU := Lib.hid hru
        clear hC hru c11 c12 c14 cf
        go_wp2_with fail
        refine (localStatus_any l _ _ _ _ _ _ _ _ _ wc HC.out.own).mono ?_
        rintro e w' ⟨rfl, rfl⟩
        rw [HRU.out.2]
        have HSt := Lib.hid (rlStatus_any rl E _ _ _ _ _ m lv wc HC.out.lb.ref.box)
        have HRn := Lib.hid (localRun_any l _ _ _ _ _ _ _ _ _ wc HC.out.own)
        clear HRU
        generalize rlStatus m = S at HSt ⊢
        generalize x.run = rn at HRn c13 ⊢
        go_wp2_with fail
        refine HSt.out.mono ?_
        rintro e w' ⟨rfl, rfl⟩
        go_wp2_with fail
        refine HRn.out.mono ?_
        rintro e w' ⟨rfl, rfl⟩
        go_wp2_with fail
        go_roundw
        case rel => exact ⟨i + 1, T + d, by omega, hT2, by go_num, by go_num, .inr ⟨_, _, _, _, _, _, HC.out⟩⟩
        case measure => simp [intOf]; omega
    · go_wp2_with fail
      go_ret
      exact ⟨rfl, hbl⟩
end Go.Proofs.YtkhcepdeppmofaaDoor
