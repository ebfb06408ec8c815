/- Package keeper: the end of a cycle: its memory step by step. -/
import Derived.Test.YtakjbjokekbmbaaGreatDoorQ32
namespace Go.Proofs.YtakjbjokekbmbaaGreatDoor
open Go.RowKit
set_option linter.unusedVariables false

theorem kpEndN_stuck {M : KpM} {k : Nat} (h : (kpEndN M k).1 ≠ 0) : ∀ j, kpEndN M (k + j) = kpEndN M k
  | 0 => rfl
  | j + 1 => by
    have ih := kpEndN_stuck h j
    show (if (kpEndN M (k + j)).1 ≠ 0 then kpEndN M (k + j) else kpEnd1 (kpEndN M (k + j)).2 (k + j)) = _
    rw [ih, if_pos h]
theorem kpEnd_bad {M : KpM} {k q : Nat} {M' : KpM} (h : kpEndN M k = (q + 1, M')) (hk : k ≤ M.A.length) : kpEnd M = (q + 1, M') := by
  have h1 : (kpEndN M k).1 ≠ 0 := by rw [h]; exact Nat.succ_ne_zero q
  have h2 := kpEndN_stuck h1 (M.A.length - k)
  rw [show k + (M.A.length - k) = M.A.length by omega, h] at h2
  unfold kpEnd
  rw [h2, if_pos (Nat.succ_ne_zero q)]
theorem kpEnd_good {M M' : KpM} (h : kpEndN M M.A.length = (0, M')) : kpEnd M = (0, kpKick (kpTot M')) := by
  unfold kpEnd
  rw [h, if_neg (fun h => h rfl)]
theorem kpEndN_next {M M' : KpM} {k : Nat} (h : kpEndN M k = (0, M')) : kpEndN M (k + 1) = kpEnd1 M' k := by
  show (if (kpEndN M k).1 ≠ 0 then kpEndN M k else kpEnd1 (kpEndN M k).2 k) = _
  rw [h, if_neg (fun h => h rfl)]
theorem kpSet_take (M : KpM) (k : Nat) (a : Option LocM) : (kpSet M k a).A.take k = M.A.take k := by
  show (M.A.set k a).take k = _
  rw [List.take_set_of_le (Nat.le_refl k)]
theorem take_stat {M : KpM} {k : Nat} (h : k < M.A.length) : (M.A.take (k + 1)).map kpStat = (M.A.take k).map kpStat ++ [kpStat (kpGet M k)] := by
  rw [List.take_succ_eq_append_getElem h, List.map_append]
  unfold kpGet
  rw [List.getD_eq_getElem?_getD, List.getElem?_eq_getElem h]; rfl
theorem strCells_snoc (l : List ByteArray) (s : ByteArray) : strCells1 (l ++ [s]) = strCells1 l ++ [.string s] := by simp [strCells1]

def xLv (x : KpX) (lv : Value) : KpX := ⟨x.d, x.rb, x.cap, x.rg, x.tb, lv, x.ve, x.vl, x.X, x.ls⟩
/-- In the round of entity k: its end is told (q), its status is not yet laid. At the round's head: the same with entity k - 1's status laid. -/
structure EndSt (B : Nat) (sa : Nat → Addr) (w0 : World) (kb c : Nat) (txt : ByteArray) (x : KpX) (M : KpM) (T : Nat) (o : Nat → Nat) (w : World) (q j k : Nat) (v : Value) (M' : KpM) (lv : Value) (o' : Nat → Nat) (wr : World) : Prop where
  e : kpEndN M j = (q, M')
  st : KpIn B sa w0 kb c txt (xLv x lv) M' o' wr
  fr : Fr o o' w wr
  row : OwnAt wr w.heap.size 9 1 v k (strCells1 ((M'.A.take k).map kpStat))
  rb : ∀ b, v.ownBlock = some b → o' b = 0
  mid : KpMid M T j M'
  off : q = 0 → M'.m.off = false
section
variable {B : Nat} {sa : Nat → Addr} {w0 : World} {kb c : Nat} {txt : ByteArray} {x : KpX} {M M' : KpM} {T : Nat} {o o' : Nat → Nat} {w wr w1 : World} {q j k : Nat} {v lv : Value}
theorem endSt_start (h : KpIn B sa w0 kb c txt x M o w) (hO : KpOk M T) (ho : M.m.off = false) : EndSt B sa w0 kb c txt x M T o w 0 0 0 (.slice none 0 0) M x.lv o w :=
  ⟨rfl, h, Fr.refl _ _, ⟨rfl, .inl ⟨rfl, rfl⟩⟩, (fun b hb => by cases hb), (kpEndN_mid hO ho 0 (Nat.zero_le _)).1, fun _ => ho⟩
theorem EndSt.below (h : EndSt B sa w0 kb c txt x M T o w q j k v M' lv o' wr) (b : Below wr.heap.size wr w1) : EndSt B sa w0 kb c txt x M T o w q j k v M' lv o' w1 :=
  ⟨h.e, h.st.below b, h.fr.trans (Fr.below _ b), h.row.later b, h.rb, h.mid, h.off⟩
/-- What turns o's blocks alone leaves the row of statuses. -/
theorem EndSt.rowk {o2 : Nat → Nat} (h : EndSt B sa w0 kb c txt x M T o w q j k v M' lv o' wr) (f : Fr o' o2 wr w1) : OwnAt w1 w.heap.size 9 1 v k (strCells1 ((M'.A.take k).map kpStat)) ∧ ∀ b, v.ownBlock = some b → o2 b = 0 :=
  ⟨h.row.keep f.kp (fun b hb hh => hh (h.rb b hb)), fun b hb => by rw [f.agree b (h.row.lt b hb).2]; exact h.rb b hb⟩
theorem EndSt.mid1 (h : EndSt B sa w0 kb c txt x M T o w 0 k k v M' lv o' wr) (hO : KpOk M T) (hk : k < M.A.length) :
    KpMid M T (k + 1) (kpEnd1 M' k).2 ∧ ((kpEnd1 M' k).1 = 0 → (kpEnd1 M' k).2.m.off = false) ∧ ((kpEnd1 M' k).1 = 0 ∨ (kpEnd1 M' k).1 = 8) := by
  have h8 := hO.an8
  have hd := hO.dog
  exact kpEnd1_mid h.mid hO.t (by rw [h.mid.eA]; exact hk) (by rw [h.mid.eA]; exact h8) (h.off rfl) (by rw [h.mid.eD]; have := hd.l0; have := hd.ln; omega) (by rw [h.mid.eD]; exact hd.n1)
theorem EndSt.idle (h : EndSt B sa w0 kb c txt x M T o w 0 k k v M' lv o' wr) (hO : KpOk M T) (hk : k < M.A.length) (ha : kpGet M' k = none) : EndSt B sa w0 kb c txt x M T o w 0 (k + 1) k v M' lv o' wr := by
  have hm := h.mid1 hO hk
  rw [kpEnd1_none ha] at hm
  exact ⟨by rw [kpEndN_next h.e, kpEnd1_none ha], h.st, h.fr, h.row, h.rb, hm.1, hm.2.1⟩
theorem EndSt.ended {l p t : Nat} {y : EntX} {a : LocM} (h : EndSt B sa w0 kb c txt x M T o w 0 k k v M' lv o' wr) (hO : KpOk M T) (hk : k < M.A.length) (ha : kpGet M' k = some a) (h1 : x.ls[k]? = some l) (h2 : x.X[k]? = some y) (hE : kpEnt M' k = y.E) (hw : ∀ b, p ≤ b → b < t → o' b = 11 + 2 * k)
    (kk : Keep (fun b => p ≤ b ∧ b < t) wr w1) (hl : LocAt l p t y.E y.p y.g y.e y.f y.l (locEnd y.E a) w1) (hn : locNow (kpEnt M' k) a = false) :
    EndSt B sa w0 kb c txt x M T o w 0 (k + 1) k v (kpSet M' k (some (locEnd (kpEnt M' k) a))) lv o' w1 := by
  have hm := h.mid1 hO hk
  have hn' : ¬ locNow (kpEnt M' k) a = true := by rw [hn]; decide
  rw [kpEnd1_not ha hn'] at hm
  obtain ⟨z1, z2⟩ := KpIn.watch (x := xLv x lv) h.st h1 h2 hw kk hl
  rw [← hE] at z1
  obtain ⟨r1, r2⟩ := h.rowk z2
  exact ⟨by rw [kpEndN_next h.e, kpEnd1_not ha hn'], z1, h.fr.trans z2, by rw [kpSet_take]; exact r1, r2, hm.1, hm.2.1⟩
/-- Expired: the log's append. -/
theorem EndSt.logged {l p t : Nat} {y : EntX} {a : LocM} {lv' : Value} {W w2 : World} {r : Nat × RecV × CM × List RecV × Bool} (h : EndSt B sa w0 kb c txt x M T o w 0 k k v M' lv o' wr) (hO : KpOk M T) (hk : k < M.A.length) (ha : kpGet M' k = some a) (h1 : x.ls[k]? = some l) (h2 : x.X[k]? = some y) (hE : kpEnt M' k = y.E) (hw : ∀ b, p ≤ b → b < t → o' b = 11 + 2 * k)
    (kk : Keep (fun b => p ≤ b ∧ b < t) wr w1) (hl : LocAt l p t y.E y.p y.g y.e y.f y.l (locEnd y.E a) w1) (hn : locNow (kpEnt M' k) a = true) (hb : Below w1.heap.size w1 W) (hr : ringApp M'.m M'.L M'.dead k (locKind (kpEnt M' k) a) M'.D.now = r)
    (h3 : RSt B sa w0 x.rg c x.rb x.cap r.2.2.1 r.2.2.2.2 r.2.2.2.1 lv' w2) (k2 : Keep (fun b => b = c ∨ b = x.rb ∨ b = x.rg ∨ W.heap.size ≤ b) W w2) (hv : lv' = lv ∨ NewV W w2 lv') :
    (r.1 = 0 ∨ r.1 = 8) ∧ ∃ o2, EndSt B sa w0 kb c txt x M T o w r.1 (k + 1) k v { kpSet M' k (some (locEnd (kpEnt M' k) a)) with m := r.2.2.1, L := r.2.2.2.1, dead := r.2.2.2.2 } lv' o2 w2 ∧ ∀ b, w1.heap.size ≤ b → b < W.heap.size → o2 b = 0 := by
  have hm := h.mid1 hO hk
  rw [kpEnd1_now ha hn hr] at hm
  obtain ⟨z1, z2⟩ := KpIn.watch (x := xLv x lv) h.st h1 h2 hw kk hl
  rw [← hE] at z1
  obtain ⟨o2, z3, z4⟩ := (z1.below hb).app (lv' := lv') h3 k2 hv
  obtain ⟨r1, r2⟩ := h.rowk ((z2.trans (Fr.below _ hb)).trans z4)
  exact ⟨hm.2.2, o2, ⟨by rw [kpEndN_next h.e, kpEnd1_now ha hn hr], z3, h.fr.trans ((z2.trans (Fr.below _ hb)).trans z4), by
    show OwnAt w2 w.heap.size _ 1 v k (strCells1 (((kpSet M' k (some (locEnd (kpEnt M' k) a))).A.take k).map kpStat))
    rw [kpSet_take]; exact r1, r2, hm.1, hm.2.1⟩, fun b hb1 hb2 => by
      rw [z4.agree b hb2]
      cases hz : o' b with
      | zero => rfl
      | succ z => have := (z1.b.low b (by rw [hz]; exact Nat.succ_ne_zero z)).2; omega⟩
/-- The log's contract asks this, behind the watch's end. -/
theorem EndSt.rst {l p t : Nat} {y : EntX} {a : LocM} {W : World} (h : EndSt B sa w0 kb c txt x M T o w 0 k k v M' lv o' wr) (h1 : x.ls[k]? = some l) (h2 : x.X[k]? = some y) (hw : ∀ b, p ≤ b → b < t → o' b = 11 + 2 * k)
    (kk : Keep (fun b => p ≤ b ∧ b < t) wr w1) (hl : LocAt l p t y.E y.p y.g y.e y.f y.l (locEnd y.E a) w1) (hb : Below w1.heap.size w1 W) : RSt B sa w0 x.rg c x.rb x.cap M'.m M'.dead M'.L lv W := by
  obtain ⟨z1, z2⟩ := KpIn.watch (x := xLv x lv) h.st h1 h2 hw kk hl
  exact (z1.below hb).rst
/-- Entity k's status laid. -/
theorem EndSt.next {a2 : Option Addr} {k2 : Nat} (h : EndSt B sa w0 kb c txt x M T o w 0 (k + 1) k v M' lv o' wr) (hk : k < M.A.length) (hw0 : w0.heap.size ≤ w.heap.size) {W : World} (hb : Below wr.heap.size wr W) (ho : OwnAt w1 w.heap.size 9 1 (.slice a2 (k + 1) k2) (k + 1) (strCells1 ((M'.A.take k).map kpStat) ++ [.string (kpStat (kpGet M' k))]))
    (hg : W.grownBy w1 v.ownBlock) (hn : (Value.slice a2 (k + 1) k2).ownBlock = v.ownBlock ∨ ∀ b, (Value.slice a2 (k + 1) k2).ownBlock = some b → W.heap.size ≤ b) :
    EndSt B sa w0 kb c txt x M T o w 0 (k + 1) (k + 1) (.slice a2 (k + 1) k2) M' lv o' w1 := by
  have hW := h.below hb
  have kg : Keep (fun b => some b = v.ownBlock) W w1 := Keep.of_grown hg
  have hrl := fun b hh => (hW.row.lt b hh)
  have kt : KpIn B sa w0 kb c txt (xLv x lv) M' o' w1 := hW.st.far kg (fun b hl hh => ⟨h.rb b hh.symm, Nat.le_trans hw0 (hrl b hh.symm).1⟩)
  refine ⟨h.e, kt, ⟨hW.fr.kp.step kg (fun b hb hl => by have := (hrl b hb.symm).1; omega), hW.fr.agree⟩, ?_, fun b hb => ?_, h.mid, h.off⟩
  · rw [take_stat (by rw [h.mid.eA]; exact hk), strCells_snoc]; exact ho
  · rcases hn with hn | hn
    · rw [hn] at hb; exact h.rb b hb
    · have h2 := hn b hb
      cases hz : o' b with
      | zero => rfl
      | succ z =>
        have := (hW.st.b.low b (by rw [hz]; exact Nat.succ_ne_zero z)).2
        omega
theorem EndSt.stat {l : Nat} {y : EntX} (h : EndSt B sa w0 kb c txt x M T o w q j k v M' lv o' wr) (i : Nat) (h1 : x.ls[i]? = some l) (h2 : x.X[i]? = some y) :
    Calls Tryz.prog 64 #[.pointer (some ⟨l, 0, none⟩)] wr fun e w' => e = .returned (.string (kpStat (kpGet M' i))) ∧ wr = w' := by
  obtain ⟨p1, p, t, p2, p3⟩ := h.st.loc i l y h1 h2
  cases ha : kpGet M' i with
  | none =>
    rw [ha] at p3
    exact localStatus_idle l y.E y.p y.g y.e y.f y.l wr p3
  | some a =>
    rw [ha] at p3
    exact localStatus_any l p t y.E y.p y.g y.e y.f y.l a wr p3
theorem EndSt.lay (h : EndSt B sa w0 kb c txt x M T o w 0 (k + 1) k v M' lv o' wr) (hk : k < M.A.length) (hw0 : w0.heap.size ≤ w.heap.size) :
    (∀ x : Obj, OwnAt (wr.alloc x) w.heap.size 9 1 v k (strCells1 ((M'.A.take k).map kpStat)) ∧ w.heap.size ≤ (wr.alloc x).heap.size) ∧
    ∀ (x2 : Obj) (W4 : World) (a2 : Option Addr) (k2 : Nat), OwnAt W4 w.heap.size 9 1 (.slice a2 (k + 1) k2) (k + 1) (strCells1 ((M'.A.take k).map kpStat) ++ [.string (kpStat (kpGet M' k))]) → (wr.alloc x2).grownBy W4 v.ownBlock →
      ((Value.slice a2 (k + 1) k2).ownBlock = v.ownBlock ∨ ∀ b, (Value.slice a2 (k + 1) k2).ownBlock = some b → (wr.alloc x2).heap.size ≤ b) → EndSt B sa w0 kb c txt x M T o w 0 (k + 1) (k + 1) (.slice a2 (k + 1) k2) M' lv o' W4 :=
  ⟨fun x => ⟨h.row.later ((Below.refl _ _).alloc (Nat.le_refl _) x), by rw [World.size_alloc]; have := h.fr.kp.size; omega⟩, fun x2 W4 a2 k2 ho hg hn => h.next hk hw0 ((Below.refl _ _).alloc (Nat.le_refl _) x2) ho hg hn⟩
/-- Behind the watch's end, ahead of the log's append: the keeper's own cells, its dog. -/
theorem EndSt.half {l p t : Nat} {y : EntX} {a : LocM} (h : EndSt B sa w0 kb c txt x M T o w 0 k k v M' lv o' wr) (h1 : x.ls[k]? = some l) (h2 : x.X[k]? = some y) (hw : ∀ b, p ≤ b → b < t → o' b = 11 + 2 * k)
    (kk : Keep (fun b => p ≤ b ∧ b < t) wr w1) (hl : LocAt l p t y.E y.p y.g y.e y.f y.l (locEnd y.E a) w1) :
    w1.cell? ⟨kb, 0, none⟩ = some (.pointer (some ⟨x.d, 0, none⟩)) ∧ w1.cell? ⟨kb, 7, none⟩ = some (.pointer (some ⟨x.rg, 0, none⟩)) ∧ DogAt w1 x.d M'.D := by
  obtain ⟨z1, z2⟩ := KpIn.watch (x := xLv x lv) h.st h1 h2 hw kk hl
  obtain ⟨k0, _, _, _, _, _, _, k7, _⟩ := kp_cells z1.box
  exact ⟨k0, k7, z1.b.dog⟩
theorem CellsAt.lts {w : World} {c rb cap : Nat} {m : CM} (h : CellsAt w c rb (some ⟨rb, 0, none⟩) cap m) : c < w.heap.size ∧ rb < w.heap.size := by
  obtain ⟨C, t, hh, _⟩ := h.row rfl
  exact ⟨lt_of_get h.box, lt_of_get hh⟩
theorem EndSt.lts (h : EndSt B sa w0 kb c txt x M T o w q j k v M' lv o' wr) : c < wr.heap.size ∧ x.rb < wr.heap.size ∧ x.rg < wr.heap.size := by
  have := CellsAt.lts (rb := x.rb) h.st.b.mem
  exact ⟨this.1, this.2, lt_of_get h.st.rbox⟩
theorem EndSt.bds (h : EndSt B sa w0 kb c txt x M T o w 0 k k v M' lv o' wr) (hT : T ≤ 100000) (hk : k ≤ 8) : CMOk M'.m (200 * T + 18 * k) ∧ ((200 * T + 18 * k : Nat) : Int) ≤ 900000000 ∧ 153 ≤ M'.m.bs.length ∧ M'.L.length ≤ 100 ∧ (lastZ M'.L).seq < 4294967296 := by
  obtain ⟨D, d1, d2, d3⟩ := h.mid.log
  have hl := h.mid.len
  refine ⟨h.mid.cm.mono (by omega), by omega, by omega, ?_, ?_⟩
  · rw [d3, lastR_len]; omega
  · rw [d3, lastZ_lastR (fun j hj => (d1.seq j hj).1)]; omega
theorem EndSt.boxB (h : EndSt B sa w0 kb c txt x M T o w q j k v M' lv o' wr) {z : Nat} (hz : o' z = 0) (h0 : w0.heap.size ≤ w.heap.size) (hw : w.heap.size ≤ z) (hv : ∀ b, v.ownBlock = some b → b ≠ z) (a b d e : Value) :
    EndSt B sa w0 kb c txt x M T o w q j k v M' lv o' ((((wr.setCell ⟨z, 0, none⟩ a).setCell ⟨z, 1, none⟩ b).setCell ⟨z, 2, none⟩ d).setCell ⟨z, 3, none⟩ e) := by
  have k := keep_set4 wr z a b d e
  exact ⟨h.e, h.st.far k (fun b _ hb => by rw [hb]; exact ⟨hz, Nat.le_trans h0 hw⟩), ⟨h.fr.kp.step k (fun b hb hl => by omega), h.fr.agree⟩, h.row.keep k (fun b hb hh => hv b hb hh), h.rb, h.mid, h.off⟩
theorem EndSt.fin (h : EndSt B sa w0 kb c txt x M T o w q j M.A.length v M' lv o' wr) : SlOf (fun b => w.heap.size ≤ b ∧ v.ownBlock = some b) wr v 1 (strCells1 (M'.A.map kpStat)) (M'.A.map kpStat).length := by
  have := h.row.slOf
  rw [← h.mid.eA, List.take_length] at this
  rwa [List.length_map]
end
end Go.Proofs.YtakjbjokekbmbaaGreatDoor

/- KeeperStops' plain law: a watch of one entity that never reports what is counted, tick by tick. -/
namespace Go.Proofs.YtakjbjokekbmbaaGreatDoor
open Go.RowKit
set_option linter.unusedVariables false

def oneP : ByteArray := ⟨#[112]⟩
def oneN : ByteArray := ⟨#[101]⟩
def stopE (tol : Int) : EntV := ⟨oneN, tol, [oneP], 0, 1, 1, [], [], [], []⟩
def stopC (cl op cy de tol : Int) : ConfV := ⟨cl, op, cy, de, [stopE tol]⟩
/-- Its watch behind m cycles. -/
def zLoc (tol : Int) (m : Nat) : LocM := ⟨decide (0 < m), decide (tol + 2 ≤ m), if m = 0 then 0 else (m : Int) - 1, 0, [], false, -1, false⟩
theorem zLoc_begin {tol : Int} (h : 0 ≤ tol) : locBegin (stopE tol) = zLoc tol 0 := by
  unfold locBegin zLoc
  have : decide (tol + 2 ≤ ((0 : Nat) : Int)) = false := decide_eq_false (by omega)
  rw [this]; rfl
theorem zKind (tol : Int) (m : Nat) : locKind (stopE tol) (zLoc tol m) = if m = 0 then 0 else 1 := by
  have h1 : locPt (stopE tol) = 0 := rfl
  have h2 : aliveOk 0 1 1 0 (decide (0 < m)) = !decide (0 < m) := by unfold aliveOk; cases decide (0 < m) <;> rfl
  unfold locKind
  rw [h1]
  show (if aliveOk 0 1 1 0 (decide (0 < m)) = false then (1 : Int) else if false = true then 2 else if false = true then 3 else 0) = _
  rw [h2]
  by_cases hm : m = 0
  · subst hm; rfl
  · rw [if_neg hm, decide_eq_true (by omega)]; rfl
theorem zRun (tol : Int) (m : Nat) : locRun (stopE tol) (zLoc tol m) = m := by
  unfold locRun
  rw [zKind]
  by_cases hm : m = 0
  · subst hm; rfl
  · rw [if_neg hm, if_neg (by decide)]
    show (if m = 0 then (0 : Int) else (m : Int) - 1) + 1 = _
    rw [if_neg hm]; omega
theorem zEnd {tol : Int} (h : 0 ≤ tol) (m : Nat) : locEnd (stopE tol) (zLoc tol m) = zLoc tol (m + 1) := by
  have hr := zRun tol m
  unfold locEnd
  rw [hr]
  have e1 : (decide (tol + 2 ≤ ((m : Nat) : Int)) || decide ((stopE tol).tol < (m : Int))) = decide (tol + 2 ≤ (((m + 1 : Nat) : Nat) : Int)) := by
    show (decide (tol + 2 ≤ ((m : Nat) : Int)) || decide (tol < (m : Int))) = _
    by_cases h1 : tol < (m : Int)
    · rw [decide_eq_true h1, Bool.or_true, decide_eq_true (by omega)]
    · rw [decide_eq_false h1, Bool.or_false, decide_eq_false (by omega), decide_eq_false (by omega)]
  show (⟨true, decide (tol + 2 ≤ ((m : Nat) : Int)) || decide ((stopE tol).tol < (m : Int)), (m : Int), 0, [], false, -1, false⟩ : LocM) = _
  rw [e1]
  unfold zLoc
  rw [decide_eq_true (show 0 < m + 1 by omega), if_neg (by omega), show ((m + 1 : Nat) : Int) - 1 = (m : Int) by omega]
theorem zNow {tol : Int} (h : 0 ≤ tol) (m : Nat) : locNow (stopE tol) (zLoc tol m) = decide (((m + 1 : Nat) : Int) = tol + 2) := by
  have hr := zRun tol m
  unfold locNow
  rw [hr]
  show (decide (tol < (m : Int)) && !decide (tol + 2 ≤ ((m : Nat) : Int))) = _
  by_cases h1 : ((m + 1 : Nat) : Int) = tol + 2
  · rw [decide_eq_true h1, decide_eq_true (by omega), decide_eq_false (by omega)]; rfl
  · rw [decide_eq_false h1]
    by_cases h2 : tol < (m : Int)
    · rw [decide_eq_true (show tol + 2 ≤ ((m : Nat) : Int) by omega)]; simp
    · rw [decide_eq_false h2]; rfl
theorem zStat (tol : Int) (m : Nat) : locStatus (zLoc tol m) = if tol + 2 ≤ m then St.expired.str else if 1 < m then St.failed.str else St.ok.str := by
  unfold locStatus
  show (if decide (tol + 2 ≤ ((m : Nat) : Int)) = true then _ else if 0 < (if m = 0 then (0 : Int) else (m : Int) - 1) then _ else _) = _
  by_cases h1 : tol + 2 ≤ (m : Int)
  · rw [if_pos (decide_eq_true h1), if_pos h1]; rfl
  · rw [if_neg (by rw [decide_eq_false h1]; decide), if_neg h1]
    by_cases h2 : 1 < m
    · rw [if_neg (show ¬ m = 0 by omega), if_pos (by omega), if_pos h2]; rfl
    · rw [if_neg h2]
      by_cases h3 : m = 0
      · rw [if_pos h3, if_neg (by decide)]; rfl
      · rw [if_neg h3, if_neg (by omega)]; rfl

/-- The total behind m cycles. -/
def zSt (tol de : Int) (m : Nat) : Int × St :=
  if (m : Int) < tol + 2 then (0, if m ≤ 1 then .ok else .failed) else if (m : Int) < tol + 2 + de then ((m : Int) - (tol + 2), .expired) else (de, .stopped)
theorem St.close_no {d s : Int} {st : St} (h : ¬ (st = .expired ∧ d ≤ s)) : St.close d s st = (s, st) := if_neg h
theorem St.close_yes {d s : Int} (h : d ≤ s) : St.close d s .expired = (s, .stopped) := if_pos ⟨rfl, h⟩
theorem zSt_next {tol de : Int} (h0 : 0 ≤ tol) (h1 : 0 ≤ de) (m : Nat) : St.next de (zSt tol de m).1 (zSt tol de m).2 [locStatus (zLoc tol (m + 1))] = zSt tol de (m + 1) := by
  have hs := zStat tol (m + 1)
  have x1 : hasStr [St.expired.str] St.expired.str = true := by decide +kernel
  have x2 : hasStr [St.failed.str] St.expired.str = false := by decide +kernel
  have x3 : hasStr [St.failed.str] St.failed.str = true := by decide +kernel
  have x4 : hasStr [St.ok.str] St.expired.str = false := by decide +kernel
  have x5 : hasStr [St.ok.str] St.failed.str = false := by decide +kernel
  by_cases a1 : (m : Int) < tol + 2
  · have hz : zSt tol de m = (0, if m ≤ 1 then .ok else .failed) := if_pos a1
    have hlive : ∀ l, St.next de 0 (if m ≤ 1 then St.ok else St.failed) l = St.close de 0 (if hasStr l St.expired.str then .expired else if hasStr l St.failed.str then .failed else .ok) := fun l => by split <;> rfl
    rw [hz]
    simp only
    rw [hlive]
    by_cases a2 : ((m + 1 : Nat) : Int) < tol + 2
    · have hz2 : zSt tol de (m + 1) = (0, if m + 1 ≤ 1 then .ok else .failed) := if_pos a2
      rw [if_neg (by omega)] at hs
      rw [hz2]
      by_cases a3 : 1 < m + 1
      · rw [if_pos a3] at hs
        rw [hs, x2, x3, if_neg (show ¬ m + 1 ≤ 1 by omega), if_neg Bool.false_ne_true, if_pos rfl, St.close_no (fun hh => by cases hh.1)]
      · rw [if_neg a3] at hs
        rw [hs, x4, x5, if_pos (show m + 1 ≤ 1 by omega), if_neg Bool.false_ne_true, if_neg Bool.false_ne_true, St.close_no (fun hh => by cases hh.1)]
    · rw [if_pos (by omega)] at hs
      rw [hs, x1, if_pos rfl]
      by_cases a4 : ((m + 1 : Nat) : Int) < tol + 2 + de
      · have hz2 : zSt tol de (m + 1) = (((m + 1 : Nat) : Int) - (tol + 2), .expired) := by unfold zSt; rw [if_neg a2, if_pos a4]
        rw [hz2, St.close_no (fun hh => by have := hh.2; omega), show ((m + 1 : Nat) : Int) - (tol + 2) = 0 by omega]
      · have hz2 : zSt tol de (m + 1) = (de, .stopped) := by unfold zSt; rw [if_neg a2, if_neg a4]
        rw [hz2, St.close_yes (by omega), show de = 0 by omega]
  · by_cases a4 : (m : Int) < tol + 2 + de
    · have hz : zSt tol de m = ((m : Int) - (tol + 2), .expired) := by unfold zSt; rw [if_neg a1, if_pos a4]
      rw [hz]
      show St.close de ((m : Int) - (tol + 2) + 1) .expired = _
      by_cases a5 : ((m + 1 : Nat) : Int) < tol + 2 + de
      · have hz2 : zSt tol de (m + 1) = (((m + 1 : Nat) : Int) - (tol + 2), .expired) := by unfold zSt; rw [if_neg (by omega), if_pos a5]
        rw [hz2, St.close_no (fun hh => by have := hh.2; omega), show ((m + 1 : Nat) : Int) - (tol + 2) = (m : Int) - (tol + 2) + 1 by omega]
      · have hz2 : zSt tol de (m + 1) = (de, .stopped) := by unfold zSt; rw [if_neg (by omega), if_neg a5]
        rw [hz2, St.close_yes (by omega), show (m : Int) - (tol + 2) + 1 = de by omega]
    · have hz : zSt tol de m = (de, .stopped) := by unfold zSt; rw [if_neg a1, if_neg a4]
      have hz2 : zSt tol de (m + 1) = (de, .stopped) := by unfold zSt; rw [if_neg (by omega), if_neg (by omega)]
      rw [hz, hz2]; rfl

/-- The dog's last kick and kicks behind n ticks: none any more from the tick 'stops' on. -/
def zDog (cl cy stops n : Nat) : Nat × Nat := dogK cl cy (min n (stops - 1))
def zLog (tol cy m : Nat) : List RecV := if tol + 2 ≤ m then [⟨1, 0, 1, (tol + 2) * cy⟩] else []
/-- The numbers of KeeperStops, right. -/
structure ZOk (cl op cy de tol : Nat) : Prop where
  cl : cl ≤ 1000
  o0 : 1 ≤ op
  o1 : op ≤ 1000
  c0 : 1 ≤ cy
  c1 : cy ≤ op
  c2 : cy ≤ 100
  de : de ≤ 20
  tol : tol ≤ 20
def zStops (cy de tol : Nat) : Nat := (tol + 2 + de) * cy
/-- The watch behind n ticks, not reset. -/
structure ZAt (cl op cy de tol : Nat) (M : KpM) (n : Nat) : Prop where
  eC : M.C = stopC cl op cy de tol
  D : M.D = ⟨cl, op, n, (zDog cl cy (zStops cy de tol) n).1, false, (zDog cl cy (zStops cy de tol) n).2⟩
  off : M.m.off = false
  cut : M.m.cut = -1
  dead : M.dead = false
  A : M.A = [some (zLoc tol (n / cy))]
  tot : (M.sn, M.st) = zSt tol de (n / cy)
  log : RInv M.m.bs (zLog tol cy (n / cy)) ∧ M.L = zLog tol cy (n / cy)
  len : M.m.bs.length = 4096
  cm : ∃ k, CMOk M.m k
section
variable {cl op cy de tol : Nat} {M : KpM} {n : Nat}
theorem ZAt.on (h : ZAt cl op cy de tol M n) : kpOn M = 0 := by
  unfold kpOn
  rw [h.off, h.D]; rfl
theorem zDog_le (q : ZOk cl op cy de tol) (n : Nat) : (zDog cl cy (zStops cy de tol) n).1 ≤ n := by
  have := (dogK_safe (closed := cl) (opn := op) (cycle := cy) q.c0 q.c1 (min n (zStops cy de tol - 1))).1
  unfold zDog
  omega
/-- Up to stops there is no reset. -/
theorem zDog_safe (q : ZOk cl op cy de tol) (n : Nat) (hn : n < zStops cy de tol) : n + 1 - (zDog cl cy (zStops cy de tol) n).1 ≤ cl + op := by
  have := (dogK_safe (closed := cl) (opn := op) (cycle := cy) q.c0 q.c1 (min n (zStops cy de tol - 1))).2
  unfold zDog
  rw [show min n (zStops cy de tol - 1) = n by omega] at this ⊢
  exact this
theorem zDog_next (q : ZOk cl op cy de tol) (n : Nat) (h : (n + 1) % cy ≠ 0) : zDog cl cy (zStops cy de tol) (n + 1) = zDog cl cy (zStops cy de tol) n := by
  unfold zDog
  by_cases hs : n + 1 < zStops cy de tol
  · rw [show min (n + 1) (zStops cy de tol - 1) = n + 1 by omega, show min n (zStops cy de tol - 1) = n by omega, dogK, if_neg (fun hh => h hh.1)]
  · rw [show min (n + 1) (zStops cy de tol - 1) = zStops cy de tol - 1 by omega, show min n (zStops cy de tol - 1) = zStops cy de tol - 1 by omega]
theorem zDog_late (q : ZOk cl op cy de tol) (n : Nat) (hs : ¬ n + 1 < zStops cy de tol) : zDog cl cy (zStops cy de tol) (n + 1) = zDog cl cy (zStops cy de tol) n := by
  unfold zDog
  rw [show min (n + 1) (zStops cy de tol - 1) = zStops cy de tol - 1 by omega, show min n (zStops cy de tol - 1) = zStops cy de tol - 1 by omega]
theorem zDog_end (n : Nat) (h : (n + 1) % cy = 0) (hs : n + 1 < zStops cy de tol) : zDog cl cy (zStops cy de tol) (n + 1) = if cl < n + 1 - (zDog cl cy (zStops cy de tol) n).1 then (n + 1, (zDog cl cy (zStops cy de tol) n).2 + 1) else zDog cl cy (zStops cy de tol) n := by
  unfold zDog
  rw [show min (n + 1) (zStops cy de tol - 1) = n + 1 by omega, show min n (zStops cy de tol - 1) = n by omega, dogK]
  by_cases hc : cl < n + 1 - (dogK cl cy n).1
  · rw [if_pos ⟨h, hc⟩, if_pos hc]
  · rw [if_neg (fun hh => hc hh.2), if_neg hc]
/-- What turns but the dog at the end of a cycle. -/
theorem ZAt.end1 (h : ZAt cl op cy de tol M n) (q : ZOk cl op cy de tol) (hn : n ≤ 100000) (hm : (n + 1) / cy = n / cy + 1) (hc : (n / cy + 1) * cy = n + 1) (D : DogM) (hD : D.now = ((n + 1 : Nat) : Int)) :
    ∃ M', kpEndN { M with D := D } 1 = (0, M') ∧ M'.C = M.C ∧ M'.D = D ∧ M'.m.off = false ∧ M'.m.cut = -1 ∧ M'.dead = false ∧ M'.A = [some (zLoc tol (n / cy + 1))] ∧ M'.sn = M.sn ∧ M'.st = M.st ∧ (RInv M'.m.bs (zLog tol cy (n / cy + 1)) ∧ M'.L = zLog tol cy (n / cy + 1)) ∧ M'.m.bs.length = 4096 ∧ ∃ k, CMOk M'.m k := by
  obtain ⟨m, hmm⟩ : ∃ m, m = n / cy := ⟨_, rfl⟩
  have hA := h.A
  have hlog := h.log
  rw [← hmm] at hm hc hA hlog ⊢
  have hg : kpGet { M with D := D } 0 = some (zLoc tol m) := by show M.A.getD 0 none = _; rw [hA]; rfl
  have he : kpEnt { M with D := D } 0 = stopE tol := by show M.C.ents.getD 0 kpE0 = _; rw [h.eC]; rfl
  have h1 : kpEndN { M with D := D } 1 = kpEnd1 { M with D := D } 0 := by
    show (if (0 : Nat) ≠ 0 then _ else _) = _
    rw [if_neg (by decide)]; rfl
  have hen : locEnd (kpEnt { M with D := D } 0) (zLoc tol m) = zLoc tol (m + 1) := by rw [he]; exact zEnd (by omega) m
  have hset : (kpSet { M with D := D } 0 (some (zLoc tol (m + 1)))).A = [some (zLoc tol (m + 1))] := by show M.A.set 0 _ = _; rw [hA]; rfl
  rw [h1]
  by_cases hnow : ((m + 1 : Nat) : Int) = (tol : Int) + 2
  · have hl : locNow (kpEnt { M with D := D } 0) (zLoc tol m) = true := by rw [he, zNow (by omega), decide_eq_true hnow]
    have hk : locKind (kpEnt { M with D := D } 0) (zLoc tol m) = 1 := by rw [he, zKind, if_neg (by omega)]
    have hz0 : zLog tol cy m = [] := if_neg (by omega)
    have hz1 : zLog tol cy (m + 1) = [⟨1, 0, 1, (tol + 2) * cy⟩] := if_pos (by omega)
    rw [hz0] at hlog
    obtain ⟨k, hk0⟩ := h.cm
    obtain ⟨m', L', dd, r, D', e1, e2, e3, e4, e5, e6, e7, e8, e9, e10⟩ := ringApp_on (e := 0) (k := 1) (t := D.now) hlog.1 (by decide) (show M.L = lastR [] from hlog.2) h.dead h.off hk0 h.len (decide_eq_true (by rw [hD]; omega))
    obtain ⟨f1, f2, f3⟩ := e10 h.cut
    have hrec : nextRec [] 0 1 D.now = ⟨1, 0, 1, (tol + 2) * cy⟩ := by
      unfold nextRec
      rw [hD, Int.toNat_natCast, ← hc, show m + 1 = tol + 2 by omega]
      rfl
    rw [hrec] at f1 f2
    have hdd : dd = false := by
      cases hd : dd
      · rfl
      · have a1 := e4 hd
        have a2 := e5 (by rw [f1])
        rw [a1] at a2; cases a2
    have e1' : ringApp M.m M.L M.dead ((0 : Nat) : Int) (locKind (kpEnt { M with D := D } 0) (zLoc tol m)) D.now = (r.1, r.2, m', L', dd) := by rw [hk]; exact e1
    rw [kpEnd1_now (M := { M with D := D }) hg hl e1', hen, f1]
    refine ⟨_, rfl, rfl, rfl, e5 (by rw [f1]), f3, hdd, hset, rfl, rfl, ⟨?_, ?_⟩, e3, _, e2⟩
    · rw [hz1]; rw [f2] at e7; exact e7
    · rw [hz1]; rw [e8, f2]; rfl
  · have hl : ¬ locNow (kpEnt { M with D := D } 0) (zLoc tol m) = true := by rw [he, zNow (by omega), decide_eq_false hnow]; decide
    have hz1 : zLog tol cy (m + 1) = zLog tol cy m := by
      unfold zLog
      by_cases hx : tol + 2 ≤ m
      · rw [if_pos hx, if_pos (by omega)]
      · rw [if_neg hx, if_neg (by omega)]
    rw [kpEnd1_not (M := { M with D := D }) hg hl, hen]
    exact ⟨_, rfl, rfl, rfl, h.off, h.cut, h.dead, hset, rfl, rfl, by rw [hz1]; exact hlog, h.len, h.cm⟩
theorem ZAt.dogE (h : ZAt cl op cy de tol M n) (hn : n ≤ 100000) : dogTickE M.D = 0 ∧ dogTick M.D = ⟨cl, op, ((n + 1 : Nat) : Int), (zDog cl cy (zStops cy de tol) n).1, decide (cl + op < n + 1 - (zDog cl cy (zStops cy de tol) n).1), (zDog cl cy (zStops cy de tol) n).2⟩ := by
  have hD := h.D
  obtain ⟨K, hK⟩ : ∃ K, zDog cl cy (zStops cy de tol) n = K := ⟨_, rfl⟩
  rw [hK] at hD ⊢
  constructor
  · rw [hD]
    unfold dogTickE
    rw [if_neg Bool.false_ne_true, if_neg (by show ¬ (1099511627776 ≤ (n : Int)); omega)]
  · rw [hD]
    unfold dogTick
    rw [if_neg Bool.false_ne_true, if_neg (by show ¬ (1099511627776 ≤ (n : Int)); omega)]
    have : decide ((cl : Int) + op < (n : Int) + 1 - (K.1 : Int)) = decide (cl + op < n + 1 - K.1) := by
      by_cases hx : cl + op < n + 1 - K.1
      · rw [decide_eq_true hx, decide_eq_true (by omega)]
      · rw [decide_eq_false hx, decide_eq_false (by omega)]
    simp only [this]
    rfl
theorem ZAt.tick (h : ZAt cl op cy de tol M n) (q : ZOk cl op cy de tol) (hn : n ≤ 100000) (hr : ¬ cl + op < n + 1 - (zDog cl cy (zStops cy de tol) n).1) : (kpTick M).1 = 0 ∧ ZAt cl op cy de tol (kpTick M).2 (n + 1) := by
  obtain ⟨e0, e1⟩ := h.dogE hn
  have hle := zDog_le q n
  rw [decide_eq_false hr] at e1
  have hcy : M.C.cycle = cy := by rw [h.eC]; rfl
  have hmod : (((n + 1 : Nat) : Int)) % (cy : Int) = 0 ↔ (n + 1) % cy = 0 := by
    have : ((n + 1 : Nat) : Int) % ((cy : Nat) : Int) = (((n + 1) % cy : Nat) : Int) := rfl
    omega
  unfold kpTick
  rw [h.on, if_neg (by decide), e0, if_neg (by decide), e1, if_neg Bool.false_ne_true]
  rw [hcy]
  rcases div_next (n := n) q.c0 with ⟨d0, d1, d2⟩ | ⟨d0, d1⟩
  · rw [if_pos (hmod.2 d0)]
    obtain ⟨M', g0, g1, g2, g3, g4, g5, g6, g7, g8, g9, g10, g11⟩ := h.end1 q hn d1 d2 ⟨cl, op, ((n + 1 : Nat) : Int), (zDog cl cy (zStops cy de tol) n).1, false, (zDog cl cy (zStops cy de tol) n).2⟩ rfl
    have hkd : kpDog M = { M with D := ⟨cl, op, ((n + 1 : Nat) : Int), (zDog cl cy (zStops cy de tol) n).1, false, (zDog cl cy (zStops cy de tol) n).2⟩ } := by unfold kpDog; rw [e1]
    have hA1 : (kpDog M).A.length = 1 := by show M.A.length = 1; rw [h.A]; rfl
    rw [← hkd] at g0
    rw [kpEnd_good (by rw [hA1]; exact g0)]
    have hde : M'.C.delay = de := by rw [g1, h.eC]; rfl
    have htt : ((kpTot M').sn, (kpTot M').st) = zSt tol de (n / cy + 1) := by
      show ((St.next M'.C.delay M'.sn M'.st (M'.A.map kpStat)).1, (St.next M'.C.delay M'.sn M'.st (M'.A.map kpStat)).2) = _
      rw [hde, g6, g7, g8]
      have hz := zSt_next (tol := tol) (de := de) (by omega) (by omega) (n / cy)
      rw [← h.tot] at hz
      exact hz
    have hst : (kpTot M').st ≠ .stopped ↔ n + 1 < zStops cy de tol := by
      rw [show (kpTot M').st = (zSt tol de (n / cy + 1)).2 by rw [← htt]]
      have hz : n + 1 < zStops cy de tol ↔ n / cy + 1 < tol + 2 + de := by
        unfold zStops
        rw [← d2]
        exact ⟨fun hh => Nat.lt_of_mul_lt_mul_right hh, fun hh => Nat.mul_lt_mul_of_pos_right hh q.c0⟩
      rw [hz]
      unfold zSt
      by_cases b1 : ((n / cy + 1 : Nat) : Int) < (tol : Int) + 2
      · rw [if_pos b1]
        refine ⟨fun _ => by omega, fun _ => ?_⟩
        simp only
        split <;> decide
      · rw [if_neg b1]
        by_cases b2 : ((n / cy + 1 : Nat) : Int) < (tol : Int) + 2 + de
        · rw [if_pos b2]
          exact ⟨fun _ => by omega, fun _ hh => by cases hh⟩
        · rw [if_neg b2]
          exact ⟨fun hh => absurd rfl hh, fun hh => by omega⟩
    have hD2 : (kpTot M').D = ⟨cl, op, ((n + 1 : Nat) : Int), (zDog cl cy (zStops cy de tol) n).1, false, (zDog cl cy (zStops cy de tol) n).2⟩ := g2
    refine ⟨rfl, ?_⟩
    show ZAt cl op cy de tol (kpKick (kpTot M')) (n + 1)
    have hmk : ∀ N : KpM, N.C = M'.C → N.m = M'.m → N.dead = M'.dead → N.A = M'.A → N.L = M'.L → (N.sn, N.st) = zSt tol de (n / cy + 1) → N.D = ⟨cl, op, ((n + 1 : Nat) : Int), (zDog cl cy (zStops cy de tol) (n + 1)).1, false, (zDog cl cy (zStops cy de tol) (n + 1)).2⟩ → ZAt cl op cy de tol N (n + 1) := by
      intro N i1 i2 i3 i4 i5 i6 i7
      rw [← d1] at i6 g6 g9
      exact ⟨by rw [i1, g1, h.eC], i7, by rw [i2]; exact g3, by rw [i2]; exact g4, by rw [i3]; exact g5, by rw [i4]; exact g6, i6, by rw [i2, i5]; exact g9, by rw [i2]; exact g10, by rw [i2]; exact g11⟩
    have hdo : dogOpen (kpTot M').D = true ↔ cl < n + 1 - (zDog cl cy (zStops cy de tol) n).1 := by
      rw [hD2]
      unfold dogOpen
      simp only [Bool.not_false, Bool.true_and, decide_eq_true_eq]
      omega
    unfold kpKick
    by_cases hs : n + 1 < zStops cy de tol
    · have hze := zDog_end (cl := cl) n d0 hs
      by_cases ho : cl < n + 1 - (zDog cl cy (zStops cy de tol) n).1
      · rw [if_pos ⟨hst.2 hs, hdo.2 ho⟩]
        rw [if_pos ho] at hze
        refine hmk _ rfl rfl rfl rfl rfl htt ?_
        show dogKick (kpTot M').D = _
        rw [dogKick_yes (hdo.2 ho), hD2, hze]
        simp
      · rw [if_neg (fun hh => ho (hdo.1 hh.2))]
        rw [if_neg ho] at hze
        exact hmk _ rfl rfl rfl rfl rfl htt (by rw [hD2, hze])
    · rw [if_neg (fun hh => hs (hst.1 hh.1))]
      exact hmk _ rfl rfl rfl rfl rfl htt (by rw [hD2, zDog_late q n hs])
  · rw [if_neg (fun hh => d0 (hmod.1 hh))]
    refine ⟨rfl, h.eC, ?_, h.off, h.cut, h.dead, by rw [d1]; exact h.A, by rw [d1]; exact h.tot, by rw [d1]; exact h.log, h.len, h.cm⟩
    show dogTick M.D = _
    rw [e1, zDog_next q n d0]
theorem ZAt.reset (h : ZAt cl op cy de tol M n) (hn : n ≤ 100000) (hr : cl + op < n + 1 - (zDog cl cy (zStops cy de tol) n).1) : kpTick M = (11, { M with D := ⟨cl, op, ((n + 1 : Nat) : Int), (zDog cl cy (zStops cy de tol) n).1, true, (zDog cl cy (zStops cy de tol) n).2⟩ }) := by
  obtain ⟨e0, e1⟩ := h.dogE hn
  rw [decide_eq_true hr] at e1
  unfold kpTick
  rw [h.on, if_neg (by decide), e0, if_neg (by decide), e1, if_pos rfl]
  unfold kpDog
  rw [e1]
end
end Go.Proofs.YtakjbjokekbmbaaGreatDoor
