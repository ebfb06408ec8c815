import Derived.Test.YtikehilbmldadaaGreatDoorQ05
import Derived.Shelf.Abstract
set_option maxHeartbeats 4000000
set_option maxRecDepth 100000
namespace Go.Proofs.YtikehilbmldadaaGreatDoor
open Go.RowKit
set_option linter.unusedVariables false
def zr : RecV := ⟨0, 0, 0, 0⟩
def sq (l : List RecV) (k : Nat) : Nat := (l.getD k zr).seq
def swp (l : List RecV) (j : Nat) : List RecV := (l.set j (l.getD (j - 1) zr)).set (j - 1) (l.getD j zr)
theorem swp_length (l : List RecV) (j : Nat) : (swp l j).length = l.length := by simp [swp]
theorem sq_at {l : List RecV} {k : Nat} (h : k < l.length) : sq l k = l[k].seq := by
  unfold sq; rw [List.getD_eq_getElem?_getD, List.getElem?_eq_getElem h]; rfl
theorem getD_atR {l : List RecV} {k : Nat} (h : k < l.length) : l.getD k zr = l[k] := by
  rw [List.getD_eq_getElem?_getD, List.getElem?_eq_getElem h]; rfl
theorem swp_perm {l : List RecV} {j : Nat} (h0 : 0 < j) (h : j < l.length) : (swp l j).Perm l := by
  unfold swp
  rw [getD_atR h, getD_atR (show j - 1 < l.length by omega)]
  exact List.set_set_perm h (by omega)
theorem sq_swp {l : List RecV} {j : Nat} (h0 : 0 < j) (h : j < l.length) (k : Nat) : sq (swp l j) k = if k = j then sq l (j - 1) else if k = j - 1 then sq l j else sq l k := by
  unfold sq swp
  simp only [List.getD_eq_getElem?_getD, List.getElem?_set, List.length_set]
  by_cases e1 : k = j
  · subst e1
    rw [if_neg (by omega), if_pos rfl, if_pos h]
    simp
  · by_cases e2 : k = j - 1
    · subst e2
      rw [if_pos rfl, if_pos (by omega), if_neg (by omega), if_pos rfl]
      simp
    · rw [if_neg (fun h => e2 h.symm), if_neg (fun h => e1 h.symm), if_neg e1, if_neg e2]
structure InsJ (l : List RecV) (i j : Nat) : Prop where
  pre : ∀ a b, a < b → b ≤ i → a ≠ j → b ≠ j → sq l a ≤ sq l b
  up : ∀ b, j < b → b ≤ i → sq l j ≤ sq l b
def SortedTo (l : List RecV) (i : Nat) : Prop := ∀ a b, a < b → b < i → sq l a ≤ sq l b
theorem insJ_start {l : List RecV} {i : Nat} (h : SortedTo l i) : InsJ l i i := ⟨fun a b hab hb ha hbi => h a b hab (by omega), fun b h1 h2 => by omega⟩
theorem insJ_end {l : List RecV} {i j : Nat} (h : InsJ l i j) (hj : j ≤ i) (h0 : j = 0 ∨ sq l (j - 1) ≤ sq l j) : SortedTo l (i + 1) := by
  intro a b hab hb
  by_cases e1 : a = j
  · subst e1; exact h.up b hab (by omega)
  · by_cases e2 : b = j
    · subst e2
      rcases h0 with h0 | h0
      · omega
      · by_cases e3 : a = b - 1
        · subst e3; exact h0
        · exact Nat.le_trans (h.pre a (b - 1) (by omega) (by omega) e1 (by omega)) h0
    · exact h.pre a b hab (by omega) e1 e2
theorem insJ_step {l : List RecV} {i j : Nat} (h : InsJ l i j) (h0 : 0 < j) (hj : j ≤ i) (hl : j < l.length) (hlt : sq l j < sq l (j - 1)) : InsJ (swp l j) i (j - 1) := by
  constructor
  · intro a b hab hb ha hbj
    rw [sq_swp h0 hl, sq_swp h0 hl]
    by_cases e1 : a = j
    · subst e1
      rw [if_pos rfl, if_neg (by omega), if_neg hbj]
      exact h.pre _ _ (by omega) hb (by omega) (by omega)
    · rw [if_neg e1, if_neg ha]
      by_cases e2 : b = j
      · subst e2
        rw [if_pos rfl]
        exact h.pre _ _ (by omega) (by omega) e1 (by omega)
      · rw [if_neg e2, if_neg hbj]
        exact h.pre _ _ hab hb e1 e2
  · intro b h1 h2
    rw [sq_swp h0 hl, sq_swp h0 hl, if_neg (by omega), if_pos rfl]
    by_cases e2 : b = j
    · subst e2
      rw [if_pos rfl]; omega
    · rw [if_neg e2, if_neg (by omega)]
      exact h.up b (by omega) h2
def RowAt (w : World) (g : Nat) (l : List RecV) : Prop := ∃ C t, w.heap[g]? = some (.cells C t (0, 0)) ∧ l.length * 4 ≤ C.size ∧ ∀ k (hk : k < l.length), C[k * 4]? = some (.int .i64 l[k].seq) ∧ C[k * 4 + 1]? = some (.int .i64 l[k].ent) ∧ C[k * 4 + 2]? = some (.int .i64 l[k].kind) ∧ C[k * 4 + 3]? = some (.int .i64 l[k].tick)
theorem RowAt.cells {w : World} {g : Nat} {l : List RecV} (h : RowAt w g l) (k : Nat) (hk : k < l.length) :
    w.cell? ⟨g, k * 4, none⟩ = some (.int .i64 (l.getD k zr).seq) ∧ w.cell? ⟨g, k * 4 + 1, none⟩ = some (.int .i64 (l.getD k zr).ent) ∧ w.cell? ⟨g, k * 4 + 2, none⟩ = some (.int .i64 (l.getD k zr).kind) ∧ w.cell? ⟨g, k * 4 + 3, none⟩ = some (.int .i64 (l.getD k zr).tick) := by
  obtain ⟨C, t, h1, h2, h3⟩ := h
  obtain ⟨q0, q1, q2, q3⟩ := h3 k hk
  rw [getD_atR hk]
  simp [World.cell?, h1, q0, q1, q2, q3]
theorem RowAt.free {w : World} {g : Nat} {l : List RecV} (h : RowAt w g l) (o : Nat) : w.frozen? ⟨g, o, none⟩ = false := by
  obtain ⟨C, t, h1, h2, h3⟩ := h
  simp [World.frozen?, h1]
theorem RowAt.keep {S : Nat → Prop} {w w' : World} {g : Nat} {l : List RecV} (h : RowAt w g l) (k : Keep S w w') (hg : ¬ S g) : RowAt w' g l := by
  obtain ⟨C, t, h1, h2, h3⟩ := h
  exact ⟨C, t, k.get h1 hg, h2, h3⟩
theorem RowAt.set4 {w : World} {g : Nat} {l : List RecV} (h : RowAt w g l) (j : Nat) (hj : j < l.length) (r : RecV) :
    RowAt ((((w.setCell ⟨g, j * 4, none⟩ (.int .i64 r.seq)).setCell ⟨g, j * 4 + 1, none⟩ (.int .i64 r.ent)).setCell ⟨g, j * 4 + 2, none⟩ (.int .i64 r.kind)).setCell ⟨g, j * 4 + 3, none⟩ (.int .i64 r.tick)) g (l.set j r) := by
  obtain ⟨C, t, h1, h2, h3⟩ := h
  refine ⟨_, t, get_setCell _ (get_setCell _ (get_setCell _ (get_setCell _ h1))), by simpa using h2, fun k hk => ?_⟩
  simp only [List.length_set] at hk
  obtain ⟨q0, q1, q2, q3⟩ := h3 k hk
  by_cases e : k = j
  · subst e
    have s0 : k * 4 < C.size := by omega
    have s1 : k * 4 + 1 < C.size := by omega
    have s2 : k * 4 + 2 < C.size := by omega
    have s3 : k * 4 + 3 < C.size := by omega
    simp [s0, s1, s2, s3]
  · have n : ∀ a b : Nat, a < 4 → b < 4 → ¬ j * 4 + a = k * 4 + b := by omega
    have n0 := fun b hb => n 0 b (by omega) hb
    simp only [Nat.add_zero] at n0
    have m0 : ∀ a : Nat, a < 4 → ¬ j * 4 + a = k * 4 := fun a ha => by have := n a 0 ha (by omega); omega
    have z0 : ¬ j * 4 = k * 4 := by omega
    rw [List.getElem_set_ne (fun h => e h.symm)]
    simp [n, n0, m0, z0, q0, q1, q2, q3]
theorem cmpRec_any (a b : RecV) (ha : a.seq < 4294967296) (hb : b.seq < 4294967296) (w : World) : Calls Tryz.prog 186 #[recAgg a, recAgg b] w fun e w' => e = .returned (.int .i64 ((a.seq : Int) - b.seq)) ∧ Below w.heap.size w w' := by
  have ha2 : (a.seq : Int) < 4294967296 := by omega
  have hb2 : (b.seq : Int) < 4294967296 := by omega
  unfold recAgg
  go_enter Tryz.func186, Tryz.ntmps186
  go_wp2_with fail
  go_ret
  exact ⟨rfl, ((Below.refl _ _).alloc (Nat.le_refl _) _).alloc (by simp) _⟩
def cmpV : Value := .func (.func 186) #[] #[]
structure InsM (g : Nat) (l0 l : List RecV) (w0 w : World) : Prop where
  perm : l.Perm l0
  row : RowAt w g l
  kp : Keep (· = g) w0 w
theorem InsM.len {g : Nat} {l0 l : List RecV} {w0 w : World} (h : InsM g l0 l w0 w) : l.length = l0.length := h.perm.length_eq
theorem InsM.below {g : Nat} {l0 l : List RecV} {w0 w w' : World} (h : InsM g l0 l w0 w) (b : Below w.heap.size w w') : InsM g l0 l w0 w' := by
  obtain ⟨C, t, h1, h2, h3⟩ := h.row
  exact ⟨h.perm, ⟨C, t, below_get b h1 (lt_of_get h1), h2, h3⟩, h.kp.trans ((below_keep b).mono (fun _ _ h => h.elim))⟩
theorem keep_set4g (w : World) (g o : Nat) (a b c d : Value) : Keep (· = g) w ((((w.setCell ⟨g, o, none⟩ a).setCell ⟨g, o + 1, none⟩ b).setCell ⟨g, o + 2, none⟩ c).setCell ⟨g, o + 3, none⟩ d) :=
  ((keep_more (keep_more (keep_set w g o a) (o + 1) b) (o + 2) c)).trans (keep_set _ g (o + 3) d)
theorem InsM.drewN {g : Nat} {l0 l : List RecV} {w0 w : World} (h : InsM g l0 l w0 w) (n : Nat) : InsM g l0 l w0 (w.drewN n) := ⟨h.perm, h.row, keep_drewN n h.kp⟩
theorem InsM.drew {g : Nat} {l0 l : List RecV} {w0 w : World} (h : InsM g l0 l w0 w) : InsM g l0 l w0 w.drew := ⟨h.perm, h.row, h.kp.drew⟩
theorem insM_swap {g : Nat} {l0 l : List RecV} {w0 wc : World} {J : Nat} {rj rJ : RecV} (h : InsM g l0 l w0 wc) (hj : J + 1 < l.length) (e1 : rj = l.getD (J + 1) zr) (e2 : rJ = l.getD J zr) :
    InsM g l0 (swp l (J + 1)) w0 ((((((((wc.setCell ⟨g, (J + 1) * 4, none⟩ (.int .i64 rJ.seq)).setCell ⟨g, (J + 1) * 4 + 1, none⟩ (.int .i64 rJ.ent)).setCell ⟨g, (J + 1) * 4 + 2, none⟩ (.int .i64 rJ.kind)).setCell ⟨g, (J + 1) * 4 + 3, none⟩ (.int .i64 rJ.tick)).setCell ⟨g, J * 4, none⟩ (.int .i64 rj.seq)).setCell ⟨g, J * 4 + 1, none⟩ (.int .i64 rj.ent)).setCell ⟨g, J * 4 + 2, none⟩ (.int .i64 rj.kind)).setCell ⟨g, J * 4 + 3, none⟩ (.int .i64 rj.tick)).drew := by
  have r1 := h.row.set4 (J + 1) hj rJ
  have r2 := r1.set4 J (by rw [List.length_set]; omega) rj
  have es : (l.set (J + 1) rJ).set J rj = swp l (J + 1) := by rw [e1, e2]; rfl
  rw [es] at r2
  have k1 := keep_set4g wc g ((J + 1) * 4) (.int .i64 rJ.seq) (.int .i64 rJ.ent) (.int .i64 rJ.kind) (.int .i64 rJ.tick)
  have k2 := keep_set4g ((((wc.setCell ⟨g, (J + 1) * 4, none⟩ (.int .i64 rJ.seq)).setCell ⟨g, (J + 1) * 4 + 1, none⟩ (.int .i64 rJ.ent)).setCell ⟨g, (J + 1) * 4 + 2, none⟩ (.int .i64 rJ.kind)).setCell ⟨g, (J + 1) * 4 + 3, none⟩ (.int .i64 rJ.tick)) g (J * 4) (.int .i64 rj.seq) (.int .i64 rj.ent) (.int .i64 rj.kind) (.int .i64 rj.tick)
  have p := (swp_perm (l := l) (j := J + 1) (Nat.succ_pos J) hj).trans h.perm
  exact InsM.drew ⟨p, r2, (h.kp.trans k1).trans k2⟩
theorem insJ_step' {l : List RecV} {i J : Nat} {rj rJ : RecV} (h : InsJ l i (J + 1)) (hj : J + 1 ≤ i) (hl : J + 1 < l.length) (e1 : rj = l.getD (J + 1) zr) (e2 : rJ = l.getD J zr) (hlt : (rj.seq : Int) - rJ.seq < 0) : InsJ (swp l (J + 1)) i J := by
  have := insJ_step h (Nat.succ_pos J) hj hl (by
    show sq l (J + 1) < sq l J
    unfold sq
    rw [← e1, ← e2]; omega)
  exact this
theorem insSort_any (w : World) (g cap : Nat) (l0 : List RecV) (hr : RowAt w g l0) (hs : ∀ r ∈ l0, r.seq < 4294967296) (hn : l0.length ≤ 100) :
    Calls Tryz.prog 263 #[.slice (some ⟨g, 0, none⟩) l0.length cap, .int .i64 0, .int .i64 l0.length, cmpV] w fun e w' => e = .returned (.tuple #[]) ∧ ∃ l, SortedTo l l0.length ∧ InsM g l0 l w w' := by
  have eg : ∀ args w, (callFunc 186 args).run Tryz.prog w = .ok (.enter 186 args) w := enters_of Tryz.func186 (by kernel_rfl) rfl
  have HS := Lib.hid hs
  have H0 : Hid (InsM g l0 l0 w w) := (show InsM g l0 l0 w w from ⟨List.Perm.refl _, hr, Keep.refl _ _⟩)
  clear hs hr
  unfold cmpV
  go_enter Tryz.func263, Tryz.ntmps263
  go_wp2_with fail
  go_loopw [8] (fun s8 wr => ∃ (i : Nat) (l : List RecV), 1 ≤ i ∧ i ≤ l0.length + 1 ∧ s8 = .int .i64 i ∧ Hid (InsM g l0 l w wr) ∧ Hid (SortedTo l i) ∧ Hid (l.length = l0.length)) (fun s8 _ => l0.length + 1 - (intOf s8).toNat)
  case atStart => exact ⟨1, l0, Nat.le_refl _, by omega, rfl, H0, fun a b h1 h2 => by omega, rfl⟩
  case round =>
    obtain ⟨i, l, hi1, hi2, rfl, hI, hso, hlen⟩ := hrel
    clear H0
    by_cases hlt : i < l0.length
    · go_wp2_with fail
      go_loopw [9] (fun s9 wm => ∃ (j : Nat) (l : List RecV), j ≤ i ∧ s9 = .int .i64 j ∧ Hid (InsM g l0 l w wm) ∧ Hid (InsJ l i j) ∧ Hid (l.length = l0.length)) (fun s9 _ => (intOf s9).toNat)
      case atStart => exact ⟨i, l, Nat.le_refl _, rfl, hI, insJ_start hso.out, hlen⟩
      case round =>
        obtain ⟨j, l, hj, rfl, hI, hJ, hlen⟩ := hrel
        by_cases h0 : j = 0
        · have hd : decide ((0 : Int) < (j : Int)) = false := decide_eq_false (by omega)
          have hd2 : decide (0 < j) = false := decide_eq_false (by omega)
          have hso := Lib.hid (insJ_end hJ.out hj (.inl h0))
          clear h0
          go_wp2_with fail
          go_quiet (fail)
          have hI2 := Lib.hid (hI.out.drewN nq)
          go_wp2_with fail
          go_roundw
          case rel => exact ⟨i + 1, l, by omega, by omega, by go_num, hI2, hso, hlen⟩
          case measure => simp [intOf]; omega
        · obtain ⟨J, rfl⟩ : ∃ J, j = J + 1 := ⟨j - 1, by omega⟩
          have hjn : J + 1 < l.length := by have := hlen.out; omega
          obtain ⟨q0, q1, q2, q3⟩ := hI.out.row.cells (J + 1) hjn
          obtain ⟨p0, p1, p2, p3⟩ := hI.out.row.cells J (by omega)
          have hmj : (l.getD (J + 1) zr).seq < 4294967296 := by rw [getD_atR hjn]; exact HS.out _ (hI.out.perm.subset (List.getElem_mem _))
          have hmJ : (l.getD J zr).seq < 4294967296 := by rw [getD_atR (show J < l.length by omega)]; exact HS.out _ (hI.out.perm.subset (List.getElem_mem _))
          obtain ⟨rj, hrj⟩ : ∃ r, r = l.getD (J + 1) zr := ⟨_, rfl⟩
          obtain ⟨rJ, hrJ⟩ : ∃ r, r = l.getD J zr := ⟨_, rfl⟩
          rw [← hrj] at q0 q1 q2 q3 hmj
          rw [← hrJ] at p0 p1 p2 p3 hmJ
          have HRj := Lib.hid hrj
          have HRJ := Lib.hid hrJ
          have HJN := Lib.hid hjn
          have qf := hI.out.row.free
          have hb3 : J + 1 < l0.length := by omega
          have hb4 : J < l0.length := by omega
          have hb1 : (J : Int) + 1 < (l0.length : Int) := by omega
          have hb2 : (J : Int) < (l0.length : Int) := by omega
          have hw1 : IntKind.i64.wrap (J : Int) = (J : Int) := IntWalk.i64_in _ (by omega)
          have hw2 : IntKind.i64.wrap ((rj.seq : Int) - rJ.seq) = (rj.seq : Int) - rJ.seq := IntWalk.i64_in _ (by omega)
          have HC : Hid (∀ W, InsM g l0 l w W → Calls Tryz.prog 186 #[recAgg rj, recAgg rJ] W fun e w' => e = .returned (.int .i64 ((rj.seq : Int) - rJ.seq)) ∧ InsM g l0 l w w' ∧ ∀ o, w'.cell? ⟨g, o, none⟩ = W.cell? ⟨g, o, none⟩) := (show ∀ W, InsM g l0 l w W → Calls Tryz.prog 186 #[recAgg rj, recAgg rJ] W fun e w' => e = .returned (.int .i64 ((rj.seq : Int) - rJ.seq)) ∧ InsM g l0 l w w' ∧ ∀ o, w'.cell? ⟨g, o, none⟩ = W.cell? ⟨g, o, none⟩ from by
            intro W hW
            refine (cmpRec_any _ _ hmj hmJ W).mono ?_
            rintro e w' ⟨rfl, b⟩
            obtain ⟨C, t, hg, _⟩ := hW.row
            exact ⟨rfl, hW.below b, fun o => b.cell (p := ⟨g, o, none⟩) (lt_of_get hg)⟩)
          clear hrj hrJ hjn hmj hmJ
          unfold recAgg at HC
          go_wp2_with fail
          go_cut [34] (fun s34 wx => s34 = .bool (decide ((rj.seq : Int) - rJ.seq < 0)) ∧ InsM g l0 l w wx)
          case first =>
            go_region_held (fun w' => ∀ o, w'.cell? ⟨g, o, none⟩ = wr.cell? ⟨g, o, none⟩)
              (first | exact fun _ => rfl | exact fun o => c2 o)
              (first | (go_at_call 186; refine (HC.out _ ?_).mono ?_; (repeat (first | exact hI.out | refine InsM.drew ?_)); rintro e w2 ⟨rfl, k2, c2⟩))
            all_goals (go_wp2_with fail; go_meet)
            all_goals exact ⟨rfl, by repeat (first | exact k2 | refine InsM.drew ?_)⟩
          case rest =>
          obtain ⟨rfl, hk2⟩ := hcut
          clear q0 q1 q2 q3 p0 p1 p2 p3 qf HC
          by_cases hlt2 : (rj.seq : Int) - rJ.seq < 0
          · have hd : decide ((rj.seq : Int) - rJ.seq < 0) = true := decide_eq_true hlt2
            rw [hd]
            obtain ⟨q0, q1, q2, q3⟩ := hk2.row.cells (J + 1) HJN.out
            obtain ⟨p0, p1, p2, p3⟩ := hk2.row.cells J (by have := HJN.out; omega)
            rw [← HRj.out] at q0 q1 q2 q3
            rw [← HRJ.out] at p0 p1 p2 p3
            have qf := hk2.row.free
            have HK2 := Lib.hid hk2
            have HLT := Lib.hid hlt2
            clear hk2 hlt2 hd
            go_wp2_with fail
            go_region
            have nI := Lib.hid (insM_swap HK2.out HJN.out HRj.out HRJ.out)
            have nJ := Lib.hid (insJ_step' hJ.out hj HJN.out HRj.out HRJ.out HLT.out)
            have nL : Hid ((swp l (J + 1)).length = l0.length) := (show (swp l (J + 1)).length = l0.length from by rw [swp_length]; exact hlen.out)
            clear q0 q1 q2 q3 p0 p1 p2 p3 qf
            go_wp2_with fail
            go_roundw
            case rel => exact ⟨J, swp l (J + 1), by omega, by go_num, nI, nJ, nL⟩
            case measure => simp [intOf]
          · have hd : decide ((rj.seq : Int) - rJ.seq < 0) = false := decide_eq_false hlt2
            rw [hd]
            have hso := Lib.hid (insJ_end hJ.out hj (.inr (by
              have e1 := HRj.out
              have e2 := HRJ.out
              show sq l J ≤ sq l (J + 1)
              unfold sq
              rw [← e1, ← e2]; omega)))
            have HK2 := Lib.hid hk2
            clear hk2 hlt2
            go_wp2_with fail
            go_roundw
            case rel => exact ⟨i + 1, l, by omega, by omega, by go_num, HK2, hso, hlen⟩
            case measure => simp [intOf]; omega
    · have hso2 : Hid (SortedTo l l0.length) := (show SortedTo l l0.length from fun a b h1 h2 => hso.out a b h1 (by omega))
      go_wp2_with fail
      go_end0
      exact ⟨rfl, l, hso2.out, hI.out⟩
theorem len64_any (n : Nat) (hn : n ≤ 9) (w : World) : Calls Tryz.prog 272 #[.int .u64 n] w fun e w' => (∃ k : Int, e = .returned (.int .i64 k)) ∧ w' = w := by
  have : n = 0 ∨ n = 1 ∨ n = 2 ∨ n = 3 ∨ n = 4 ∨ n = 5 ∨ n = 6 ∨ n = 7 ∨ n = 8 ∨ n = 9 := by omega
  rcases this with rfl | rfl | rfl | rfl | rfl | rfl | rfl | rfl | rfl | rfl
  all_goals
    go_enter Tryz.func272, Tryz.ntmps272
    go_wp2_with fail
    go_ret
    exact ⟨⟨_, rfl⟩, rfl⟩
theorem len_any (n : Nat) (hn : n ≤ 9) (w : World) : Calls Tryz.prog 229 #[.int .u64 n] w fun e w' => (∃ k : Int, e = .returned (.int .i64 k)) ∧ w' = w := by
  have h := len64_any n hn w
  go_enter Tryz.func229, Tryz.ntmps229
  go_wp2_with fail
  refine h.mono ?_
  rintro e w1 ⟨⟨k, rfl⟩, rfl⟩
  go_wp2_with fail
  go_ret
  exact ⟨⟨k, rfl⟩, rfl⟩
theorem pdq_any (w : World) (g cap : Nat) (l0 : List RecV) (hr : RowAt w g l0) (hs : ∀ r ∈ l0, r.seq < 4294967296) (hn : l0.length ≤ 9) (k : Int) :
    Calls Tryz.prog 228 #[.slice (some ⟨g, 0, none⟩) l0.length cap, .int .i64 0, .int .i64 l0.length, .int .i64 k, cmpV] w fun e w' => e = .returned (.tuple #[]) ∧ ∃ l, SortedTo l l0.length ∧ InsM g l0 l w w' := by
  have h := Lib.hid (insSort_any w g cap l0 hr hs (by omega))
  clear hr hs
  have hn2 : (l0.length : Int) ≤ 9 := by omega
  unfold cmpV at h ⊢
  go_enter Tryz.func228, Tryz.ntmps228
  go_wp2_with fail
  go_loopw [1, 2, 3, 10, 11] (fun s1 s2 s3 s10 s11 wr => s1 = .int .i64 0 ∧ s2 = .int .i64 l0.length ∧ wr = w) (fun _ _ _ _ _ _ => 0)
  case atStart => exact ⟨rfl, rfl, rfl⟩
  case round =>
    obtain ⟨rfl, rfl, rfl⟩ := hrel
    go_wp2_with fail
    refine h.out.mono ?_
    rintro e w1 ⟨rfl, l, h1, h2⟩
    go_wp2_with fail
    refine bodyPost_ret (results_none rfl _ _ _) rfl ?_
    exact ⟨rfl, l, h1, h2⟩
theorem sortRecs_any (w : World) (g cap : Nat) (l0 : List RecV) (hr : RowAt w g l0) (hs : ∀ r ∈ l0, r.seq < 4294967296) (hn : l0.length ≤ 9) :
    Calls Tryz.prog 185 #[.slice (some ⟨g, 0, none⟩) l0.length cap, cmpV] w fun e w' => e = .returned (.tuple #[]) ∧ ∃ l, SortedTo l l0.length ∧ InsM g l0 l w w' := by
  have h1 := len_any l0.length hn w
  have h2 := fun k => Lib.hid (pdq_any w g cap l0 hr hs hn k)
  clear hr hs
  have hn2 : (l0.length : Int) ≤ 9 := by omega
  have e2 : (2 : Int) ^ IntKind.u64.bits = 18446744073709551616 := by decide
  have hw : IntKind.u64.wrap (l0.length : Int) = (l0.length : Int) := by
    show (l0.length : Int).emod ((2 : Int) ^ IntKind.u64.bits) = _
    rw [e2]
    exact Int.emod_eq_of_lt (by omega) (by omega)
  clear e2
  unfold cmpV at h2 ⊢
  go_enter Tryz.func185, Tryz.ntmps185
  go_wp2_with fail
  refine h1.mono ?_
  rintro e w1 ⟨⟨k, rfl⟩, rfl⟩
  go_wp2_with fail
  refine (h2 k).out.mono ?_
  rintro e w1 ⟨rfl, l, h1, h2⟩
  go_wp2_with fail
  go_end0
  exact ⟨rfl, l, h1, h2⟩
def openL (b : List UInt8) (k : Nat) : List RecV := (List.range k).filterMap (heldAt b)
theorem openL_zero (b : List UInt8) : openL b 0 = [] := rfl
theorem openL_some {b : List UInt8} {k : Nat} {r : RecV} (h : heldAt b k = some r) : openL b (k + 1) = openL b k ++ [r] := by
  unfold openL; rw [List.range_succ, List.filterMap_append]; simp [h]
theorem openL_none {b : List UInt8} {k : Nat} (h : heldAt b k = none) : openL b (k + 1) = openL b k := by
  unfold openL; rw [List.range_succ, List.filterMap_append]; simp [h]
theorem openL_len (b : List UInt8) (k : Nat) : (openL b k).length ≤ k := by
  unfold openL; exact Nat.le_trans (List.length_filterMap_le _ _) (by simp)
theorem openL_mem {b : List UInt8} {k : Nat} {r : RecV} : r ∈ openL b k ↔ ∃ i, i < k ∧ heldAt b i = some r := by
  unfold openL; simp [List.mem_filterMap]
theorem openL_nodup (b : List UInt8) : ∀ k, k ≤ 9 → ((openL b k).map (·.seq)).Nodup
  | 0, _ => by simp [openL_zero]
  | k + 1, hk => by
    have ih := openL_nodup b k (by omega)
    cases h : heldAt b k with
    | none => rw [openL_none h]; exact ih
    | some r =>
      rw [openL_some h, List.map_append, List.nodup_append]
      refine ⟨ih, by simp, ?_⟩
      intro a ha c hc
      simp at hc
      subst hc
      obtain ⟨x, hx, rfl⟩ := List.mem_map.1 ha
      obtain ⟨i, hi, hxi⟩ := openL_mem.1 hx
      have h1 := (heldAt_ok b) i x hxi
      have h2 := (heldAt_ok b) k r h
      intro e
      rw [e] at h1
      omega
theorem rowAt_owns {w : World} {base : Nat} {e : TypeId} {g cap : Nat} {l : List RecV} (h : w.ownsRow base e 4 (.slice (some ⟨g, 0, none⟩) l.length cap) l.length (l.flatMap recCells)) (h0 : 0 < l.length) :
    RowAt w g l ∧ base ≤ g ∧ l.length ≤ cap ∧ cap ≤ maxLen := by
  obtain ⟨b, off, ha, hR, hb, hc⟩ := rec_cells (slOf_owns h) h0
  obtain ⟨_, hv⟩ := h
  rcases hv with ⟨h1, h2⟩ | ⟨g', cap', cur, hv, hb', hg, h1, h2, h3, h4⟩
  · omega
  · injection hv with e1 e2 e3
    obtain ⟨rfl, rfl, _⟩ := Option.some.inj ha
    injection e1 with e1
    injection e1 with e4
    subst e4; subst e3
    refine ⟨⟨cur, e, hg, by rw [h3]; exact Nat.mul_le_mul_right _ h1, fun k hk => ?_⟩, hb', h1, h2⟩
    have := hc k hk
    simpa [World.cell?, hg] using this
theorem slOf_rowAt {w : World} {base g cap : Nat} {l : List RecV} (h : RowAt w g l) (hb : base ≤ g) (h1 : l.length ≤ cap) (h2 : cap ≤ maxLen) : SlOf (fun b => base ≤ b) w (.slice (some ⟨g, 0, none⟩) l.length cap) 4 (l.flatMap recCells) l.length := by
  have hc := h.cells
  obtain ⟨C, t, hg, _⟩ := h
  refine ⟨flat_recs l, _, _, rfl, h1, h2, (fun h => by cases h), fun hp => ⟨g, 0, rfl, hb, lt_of_get hg, fun k u hu => ?_⟩⟩
  have hk : k < l.length * 4 := by rw [← flat_recs]; exact (List.getElem?_eq_some_iff.1 hu).1
  have hk4 : k / 4 < l.length := by omega
  have e : k = k / 4 * 4 + k % 4 := by omega
  have hf := flat_get recCells 4 recCells_len l (k / 4) hk4 (k % 4) (Nat.mod_lt _ (by decide))
  rw [← e, hu] at hf
  obtain ⟨c0, c1, c2, c3⟩ := hc (k / 4) hk4
  rw [getD_atR hk4] at c0 c1 c2 c3
  rw [Nat.zero_add]
  generalize hq : k / 4 = q at *
  have h4 : k % 4 = 0 ∨ k % 4 = 1 ∨ k % 4 = 2 ∨ k % 4 = 3 := by omega
  rcases h4 with h4 | h4 | h4 | h4 <;> rw [h4] at e hf <;> rw [e] <;> simp [recCells] at hf <;> rw [hf] <;> assumption
theorem sortedTo_pairwise {l : List RecV} (h : SortedTo l l.length) (hn : (l.map (·.seq)).Nodup) : l.Pairwise (fun a b => a.seq < b.seq) := by
  rw [List.pairwise_iff_getElem]
  intro i j hi hj hij
  have h1 := h i j hij hj
  rw [sq_at hi, sq_at hj] at h1
  have h2 : l[i].seq ≠ l[j].seq := by
    have := (List.nodup_iff_pairwise_ne.1 hn)
    rw [List.pairwise_iff_getElem] at this
    have := this i j (by simpa using hi) (by simpa using hj) hij
    simpa using this
  omega
structure Sorted9 (b : List UInt8) (l : List RecV) : Prop where
  perm : l.Perm (openL b 9)
  up : l.Pairwise (fun a b => a.seq < b.seq)
theorem Sorted9.len {b : List UInt8} {l : List RecV} (h : Sorted9 b l) : l.length ≤ 9 := by rw [h.perm.length_eq]; exact openL_len b 9
structure Run9 (l : List RecV) (i : Nat) : Prop where
  i1 : i ≤ l.length - 1
  i8 : l.length - i ≤ 8
  run : ∀ j, i ≤ j → j < l.length → sq l j + (l.length - 1 - j) = sq l (l.length - 1)
theorem Run9.start {b : List UInt8} {l : List RecV} (h : Sorted9 b l) : Run9 l (l.length - 1) :=
  ⟨Nat.le_refl _, by have := h.len; omega, fun j h1 h2 => by
    have : j = l.length - 1 := by omega
    subst this
    omega⟩
theorem Run9.step {l : List RecV} {i : Nat} (h : Run9 l (i + 1)) (h8 : l.length - (i + 1) < 8) (he : sq l i + 1 = sq l (i + 1)) : Run9 l i := by
  have hi := h.i1
  refine ⟨by omega, by omega, fun j h1 h2 => ?_⟩
  by_cases e : j = i
  · subst e
    have := h.run (j + 1) (Nat.le_refl _) (by omega)
    omega
  · exact h.run j (by omega) h2
theorem run9_recs {b : List UInt8} {l : List RecV} {i : Nat} (h : Sorted9 b l) (hr : Run9 l i) (hs : i = 0 ∨ 8 ≤ l.length - i ∨ ∃ I, i = I + 1 ∧ sq l I + 1 ≠ sq l (I + 1)) : recsOf b = l.drop i := by
  have hN : ∀ k, k < 9 → heldAt b k = (fun k => if k < 9 then heldAt b k else none) k := fun k hk => by simp [hk]
  have hmem : ∀ r, r ∈ l ↔ ∃ k, (fun k => if k < 9 then heldAt b k else none) k = some r := fun r => by
    rw [h.perm.mem_iff, openL_mem]
    constructor
    · rintro ⟨i, hi, hh⟩; exact ⟨i, by simp [hi, hh]⟩
    · rintro ⟨i, hh⟩
      by_cases hi : i < 9
      · exact ⟨i, hi, by simpa [hi] using hh⟩
      · simp [hi] at hh
  have hlast : (l.getLast?.map (·.seq)).getD 0 = if l = [] then 0 else sq l (l.length - 1) := by
    by_cases e : l = []
    · subst e; simp
    · rw [if_neg e]
      have h0 : 0 < l.length := List.length_pos_iff.2 e
      rw [List.getLast?_eq_getElem?, List.getElem?_eq_getElem (by omega), sq_at (by omega)]; rfl
  have hi := hr.i1
  have hok : HOk (fun k => if k < 9 then heldAt b k else none) := fun k r hh => by
    by_cases hk : k < 9
    · simp [hk] at hh; exact heldAt_ok b k r hh
    · simp [hk] at hh
  have := recs_sorted (fun k => if k < 9 then heldAt b k else none) hok (fun k hk => by simp; omega) l hmem h.up i (by omega) hr.i8
    (fun j h1 h2 => by
      have e : l ≠ [] := fun e => by rw [e] at h2; simp at h2
      rw [hlast, if_neg e, ← sq_at h2]; exact hr.run j h1 h2)
    (fun e => by have h0 : 0 < l.length := List.length_pos_iff.2 e; omega)
    (by
      rcases hs with h | h | ⟨I, rfl, h⟩
      · exact .inl h
      · exact .inr (.inl (by have := hr.i8; omega))
      · by_cases e : l.length = 0
        · omega
        · exact .inr (.inr ⟨by omega, by omega, by omega, by
            have h1 : I < l.length := by omega
            have h2 : I + 1 < l.length := by omega
            rw [sq_at h1, sq_at h2] at h
            exact h⟩))
  rw [← this]
  unfold recsOf
  have e1 : bestOf (heldAt b) 9 = bestOf (fun k => if k < 9 then heldAt b k else none) 9 := by
    simp [bestOf, seqAt]
  rw [e1]
  have e2 : ∀ f s, runDown (heldAt b) f s = runDown (fun k => if k < 9 then heldAt b k else none) f s := by
    intro f
    induction f with
    | zero => intro s; cases s <;> rfl
    | succ f ih =>
      intro s
      cases s with
      | zero => rfl
      | succ s =>
        unfold runDown
        have : s % 9 < 9 := Nat.mod_lt _ (by decide)
        simp only [this, if_true, ih]
  exact e2 _ _
end Go.Proofs.YtikehilbmldadaaGreatDoor
