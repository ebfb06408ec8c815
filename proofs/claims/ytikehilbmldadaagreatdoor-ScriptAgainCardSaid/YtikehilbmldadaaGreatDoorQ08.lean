import Derived.Test.YtikehilbmldadaaGreatDoorQ07
import Derived.Test.YtikehilbmldadaaGreatDoorQ01
set_option maxHeartbeats 4000000
namespace Go.Proofs.YtikehilbmldadaaGreatDoor
open Go.RowKit
set_option linter.unusedVariables false
inductive St where | ok | failed | expired | stopped deriving DecidableEq
def St.str : St → ByteArray
  | .ok => ⟨#[111, 107]⟩
  | .failed => ⟨#[102, 97, 105, 108, 101, 100]⟩
  | .expired => ⟨#[101, 120, 112, 105, 114, 101, 100]⟩
  | .stopped => ⟨#[115, 116, 111, 112, 112, 101, 100]⟩
def TotalAt (w : World) (t : Nat) (delay since : Int) (st : St) : Prop := w.heap[t]? = some (.cells #[.int .i64 delay, .int .i64 since, .string st.str] 190)
theorem three_cells {w : World} {b : Nat} {c0 c1 c2 : Value} {t : TypeId} (h : w.heap[b]? = some (.cells #[c0, c1, c2] t)) :
    w.cell? ⟨b, 0, none⟩ = some c0 ∧ w.cell? ⟨b, 1, none⟩ = some c1 ∧ w.cell? ⟨b, 2, none⟩ = some c2 ∧ ∀ o, w.frozen? ⟨b, o, none⟩ = false := by
  simp [World.cell?, World.frozen?, h]
def St.close (d s : Int) (st : St) : Int × St := if st = .expired ∧ d ≤ s then (s, .stopped) else (s, st)
def St.next (d s : Int) (st : St) (l : List ByteArray) : Int × St := match st with
  | .stopped => (s, .stopped)
  | .expired => St.close d (s + 1) .expired
  | _ => St.close d s (if hasStr l St.expired.str then .expired else if hasStr l St.failed.str then .failed else .ok)
theorem totalNew_any (d : Int) (w : World) (h0 : 0 ≤ d) (h1 : d ≤ 20) :
    Calls Tryz.prog 117 #[.int .i64 d] w fun e w' => e = .returned (.tuple #[.pointer (some ⟨w.heap.size, 0, none⟩), .nilIface]) ∧ TotalAt w' w.heap.size d 0 .ok ∧ Below w.heap.size w w' := by
  go_enter Tryz.func117, Tryz.ntmps117
  go_wp2_with fail
  all_goals first | omega | skip
  all_goals
    refine bodyPost_ret (results_tmp2 rfl _ _ _) rfl ?_
    exact ⟨rfl, get_alloc_new _ _, (Below.refl _ _).alloc (Nat.le_refl _) _⟩
theorem TotalAt.since {w : World} {t : Nat} {d s : Int} {st : St} (h : TotalAt w t d s st) (s' : Int) : TotalAt (w.setCell ⟨t, 1, none⟩ (.int .i64 s')) t d s' st := by
  unfold TotalAt at h ⊢
  rw [get_setCell _ h]; rfl
theorem TotalAt.status {w : World} {t : Nat} {d s : Int} {st : St} (h : TotalAt w t d s st) (st' : St) : TotalAt (w.setCell ⟨t, 2, none⟩ (.string st'.str)) t d s st' := by
  unfold TotalAt at h ⊢
  rw [get_setCell _ h]; rfl
theorem totalAt_drewN {w : World} {t : Nat} {d s : Int} {st : St} (q : Nat) (h : TotalAt w t d s st) : TotalAt (w.drewN q) t d s st := get_drewN q h
theorem keep_drewN' (S : Nat → Prop) (w : World) (q : Nat) : Keep S w (w.drewN q) := (below_keep (below_drewN' q (Below.refl w.heap.size w))).mono (fun _ _ h => h.elim)
theorem totalEnd_stopped (t : Nat) (d s : Int) (v : Value) (w : World) (h : TotalAt w t d s .stopped) :
    Calls Tryz.prog 154 #[.pointer (some ⟨t, 0, none⟩), v] w fun e w' => e = .returned (.string St.stopped.str) ∧ TotalAt w' t d s .stopped ∧ Keep (· = t) w w' := by
  have H := Lib.hid h
  obtain ⟨c0, c1, c2, cf⟩ := three_cells h
  unfold St.str at c2
  clear h
  go_enter Tryz.func154, Tryz.ntmps154
  go_wp2_with fail
  go_quiet (fail)
  go_wp2_with fail
  go_ret
  exact ⟨rfl, totalAt_drewN _ H.out, keep_drewN' _ _ _⟩
theorem totalEnd_expired (t : Nat) (d s : Int) (v : Value) (w : World) (h : TotalAt w t d s .expired) (h0 : 0 ≤ s) (h1 : s ≤ 1000) :
    Calls Tryz.prog 154 #[.pointer (some ⟨t, 0, none⟩), v] w fun e w' => e = .returned (.string (St.close d (s + 1) .expired).2.str) ∧ TotalAt w' t d (s + 1) (St.close d (s + 1) .expired).2 ∧ Keep (· = t) w w' := by
  have H := Lib.hid h
  obtain ⟨c0, c1, c2, cf⟩ := three_cells h
  unfold St.str at c2
  clear h
  have h1' := Lib.hid (H.out.since (s + 1))
  have k1' := Lib.hid (keep_set w t 1 (.int .i64 (s + 1)))
  go_enter Tryz.func154, Tryz.ntmps154
  by_cases hd : d ≤ s + 1
  · have hc : (St.close d (s + 1) .expired).2 = .stopped := by simp [St.close, hd]
    rw [hc]
    go_wp2_with fail
    generalize World.setCell _ _ _ = w1 at h1' k1' ⊢
    obtain ⟨x0, x1, x2, xf⟩ := three_cells h1'.out
    simp only [St.str] at x2
    go_quiet (fail)
    have h2 := totalAt_drewN nq h1'.out
    have k2 := Keep.trans k1'.out (keep_drewN' (· = t) w1 nq)
    generalize World.drewN _ _ = w2 at h2 k2 ⊢
    have h3 := Lib.hid (h2.status .stopped)
    have k3 := Lib.hid (k2.trans (keep_set w2 t 2 (.string St.stopped.str)))
    obtain ⟨y0, y1, y2, yf⟩ := three_cells h2
    clear h2 k2
    simp only [St.str] at y2
    go_wp2_with fail
    go_ret
    exact ⟨rfl, h3.out, k3.out⟩
  · have hc : (St.close d (s + 1) .expired).2 = .expired := by simp [St.close, hd]
    rw [hc]
    go_wp2_with fail
    generalize World.setCell _ _ _ = w1 at h1' k1' ⊢
    obtain ⟨x0, x1, x2, xf⟩ := three_cells h1'.out
    simp only [St.str] at x2
    go_quiet (fail)
    have h2 := totalAt_drewN nq h1'.out
    have k2 := Keep.trans k1'.out (keep_drewN' (· = t) w1 nq)
    generalize World.drewN _ _ = w2 at h2 k2 ⊢
    obtain ⟨y0, y1, y2, yf⟩ := three_cells h2
    have h3 := Lib.hid h2
    have k3 := Lib.hid k2
    clear h2 k2
    simp only [St.str] at y2
    go_wp2_with fail
    go_ret
    exact ⟨rfl, h3.out, k3.out⟩
theorem totalMay_any (t : Nat) (d s : Int) (st : St) (w : World) (h : TotalAt w t d s st) :
    Calls Tryz.prog 155 #[.pointer (some ⟨t, 0, none⟩)] w fun e w' => e = .returned (.bool (decide (st ≠ .stopped))) ∧ w = w' := by
  obtain ⟨c0, c1, c2, cf⟩ := three_cells h
  clear h
  go_enter Tryz.func155, Tryz.ntmps155
  cases st
  all_goals
    simp only [St.str] at c2
    go_wp2_with fail
    go_ret
    exact ⟨rfl, rfl⟩
theorem totalEnd_live (R : Nat → Prop) (t : Nat) (d s : Int) (st : St) (l : List ByteArray) (v : Value) (w : World) (h : TotalAt w t d s st) (hst : st = .ok ∨ st = .failed) (hl : SlOf R w v 1 (strCells1 l) l.length) :
    Calls Tryz.prog 154 #[.pointer (some ⟨t, 0, none⟩), v] w fun e w' => e = .returned (.string (St.next d s st l).2.str) ∧ TotalAt w' t d s (St.next d s st l).2 ∧ Keep (· = t) w w' := by
  obtain ⟨ao, cap, rfl⟩ := hl.val
  have H := Lib.hid h
  have HL := Lib.hid hl
  obtain ⟨c0, c1, c2, cf⟩ := three_cells h
  clear h hl
  have hE := Lib.hid (H.out.status .expired)
  have hF := Lib.hid (H.out.status .failed)
  have hO := Lib.hid (H.out.status .ok)
  have kE := Lib.hid (keep_set w t 2 (.string St.expired.str))
  have kF := Lib.hid (keep_set w t 2 (.string St.failed.str))
  have kO := Lib.hid (keep_set w t 2 (.string St.ok.str))
  have nE : hasStr l St.expired.str = true → (St.next d s st l).2 = (St.close d s .expired).2 := by rcases hst with rfl | rfl <;> intro h <;> simp [St.next, h]
  have nF : hasStr l St.expired.str = false → hasStr l St.failed.str = true → (St.next d s st l).2 = .failed := by rcases hst with rfl | rfl <;> intro h h2 <;> simp [St.next, h, h2, St.close]
  have nO : hasStr l St.expired.str = false → hasStr l St.failed.str = false → (St.next d s st l).2 = .ok := by rcases hst with rfl | rfl <;> intro h h2 <;> simp [St.next, h, h2, St.close]
  have NE := Lib.hid nE
  have NF := Lib.hid nF
  have NO := Lib.hid nO
  clear nE nF nO
  go_enter Tryz.func154, Tryz.ntmps154
  rcases hst with rfl | rfl
  all_goals
    simp only [St.str] at c2
    go_wp2_with fail
    refine (containsStrs_any R l _ _ w HL.out).mono ?_
    rintro e w' ⟨rfl, rfl⟩
    cases h1 : hasStr l ⟨#[101, 120, 112, 105, 114, 101, 100]⟩
    · go_wp2_with fail
      refine (containsStrs_any R l _ _ w HL.out).mono ?_
      rintro e w' ⟨rfl, rfl⟩
      cases h2 : hasStr l ⟨#[102, 97, 105, 108, 101, 100]⟩
      · have HN := Lib.hid (NO.out h1 h2)
        go_wp2_with fail
        simp only [St.str] at hO kO
        generalize World.setCell _ _ _ = w1 at hO kO ⊢
        obtain ⟨x0, x1, x2, xf⟩ := three_cells (show TotalAt w1 t d s .ok from hO.out)
        simp only [St.str] at x2
        go_quiet (fail)
        go_wp2_with fail
        go_ret
        exact ⟨by rw [HN.out]; rfl, by rw [HN.out]; exact totalAt_drewN nq hO.out, Keep.trans kO.out (keep_drewN' (· = t) w1 nq)⟩
      · have HN := Lib.hid (NF.out h1 h2)
        go_wp2_with fail
        simp only [St.str] at hF kF
        generalize World.setCell _ _ _ = w1 at hF kF ⊢
        obtain ⟨x0, x1, x2, xf⟩ := three_cells (show TotalAt w1 t d s .failed from hF.out)
        simp only [St.str] at x2
        go_quiet (fail)
        go_wp2_with fail
        go_ret
        exact ⟨by rw [HN.out]; rfl, by rw [HN.out]; exact totalAt_drewN nq hF.out, Keep.trans kF.out (keep_drewN' (· = t) w1 nq)⟩
    · have HN1 := Lib.hid (NE.out h1)
      go_wp2_with fail
      simp only [St.str] at hE kE
      generalize World.setCell _ _ _ = w1 at hE kE ⊢
      obtain ⟨x0, x1, x2, xf⟩ := three_cells (show TotalAt w1 t d s .expired from hE.out)
      simp only [St.str] at x2
      by_cases hd : d ≤ s
      · have hc : (St.close d s .expired).2 = .stopped := by simp [St.close, hd]
        have HN := Lib.hid (HN1.out.trans hc)
        clear hc
        go_quiet (fail)
        have h2 := totalAt_drewN (st := .expired) nq hE.out
        have k2 := Keep.trans kE.out (keep_drewN' (· = t) w1 nq)
        generalize World.drewN _ _ = w2 at h2 k2 ⊢
        have h3 := Lib.hid (h2.status .stopped)
        have k3 := Lib.hid (k2.trans (keep_set w2 t 2 (.string St.stopped.str)))
        obtain ⟨y0, y1, y2, yf⟩ := three_cells h2
        clear h2 k2
        simp only [St.str] at y2
        go_wp2_with fail
        go_ret
        exact ⟨by rw [HN.out]; rfl, by rw [HN.out]; exact h3.out, k3.out⟩
      · have hc : (St.close d s .expired).2 = .expired := by simp [St.close, hd]
        have HN := Lib.hid (HN1.out.trans hc)
        clear hc
        go_quiet (fail)
        go_wp2_with fail
        go_ret
        exact ⟨by rw [HN.out]; rfl, by rw [HN.out]; exact totalAt_drewN nq hE.out, Keep.trans kE.out (keep_drewN' (· = t) w1 nq)⟩
theorem St.close_fst (d s : Int) (st : St) : (St.close d s st).1 = s := by unfold St.close; split <;> rfl
theorem totalEnd_any (R : Nat → Prop) (t : Nat) (d s : Int) (st : St) (l : List ByteArray) (v : Value) (w : World) (h : TotalAt w t d s st) (h0 : 0 ≤ s) (h1 : s ≤ 1000) (hl : SlOf R w v 1 (strCells1 l) l.length) :
    Calls Tryz.prog 154 #[.pointer (some ⟨t, 0, none⟩), v] w fun e w' => e = .returned (.string (St.next d s st l).2.str) ∧ TotalAt w' t d (St.next d s st l).1 (St.next d s st l).2 ∧ Keep (· = t) w w' := by
  cases hst : st
  · subst hst
    have := totalEnd_live R t d s .ok l v w h (.inl rfl) hl
    have e : (St.next d s .ok l).1 = s := St.close_fst _ _ _
    rw [e]; exact this
  · subst hst
    have := totalEnd_live R t d s .failed l v w h (.inr rfl) hl
    have e : (St.next d s .failed l).1 = s := St.close_fst _ _ _
    rw [e]; exact this
  · subst hst
    have := totalEnd_expired t d s v w h h0 h1
    have e : (St.next d s .expired l).1 = s + 1 := St.close_fst _ _ _
    rw [e]; exact this
  · subst hst
    exact totalEnd_stopped t d s v w h
theorem totalStatus_any (t : Nat) (d s : Int) (st : St) (w : World) (h : TotalAt w t d s st) :
    Calls Tryz.prog 54 #[.pointer (some ⟨t, 0, none⟩)] w fun e w' => e = .returned (.string st.str) ∧ w = w' := by
  obtain ⟨c0, c1, c2, cf⟩ := three_cells h
  clear h
  go_enter Tryz.func54, Tryz.ntmps54
  go_wp2_with fail
  go_ret
  exact ⟨rfl, rfl⟩
def RTotalAt (w : World) (t : Nat) (delay since : Int) (st : St) : Prop := w.heap[t]? = some (.cells #[.int .i64 delay, .int .i64 since, .string st.str] 141)
theorem RTotalAt.since {w : World} {t : Nat} {d s : Int} {st : St} (h : RTotalAt w t d s st) (s' : Int) : RTotalAt (w.setCell ⟨t, 1, none⟩ (.int .i64 s')) t d s' st := by
  unfold RTotalAt at h ⊢
  rw [get_setCell _ h]; rfl
theorem RTotalAt.status {w : World} {t : Nat} {d s : Int} {st : St} (h : RTotalAt w t d s st) (st' : St) : RTotalAt (w.setCell ⟨t, 2, none⟩ (.string st'.str)) t d s st' := by
  unfold RTotalAt at h ⊢
  rw [get_setCell _ h]; rfl
theorem RTotalAt.drew {w : World} {t : Nat} {d s : Int} {st : St} (q : Nat) (h : RTotalAt w t d s st) : RTotalAt (w.drewN q) t d s st := get_drewN q h
structure TInv (d s : Int) (st : St) : Prop where
  s0 : 0 ≤ s
  s1 : s ≤ d
  live : st = .ok ∨ st = .failed → s = 0
  exp : st = .expired → s < d
theorem TInv.next {d s : Int} {st : St} (h : TInv d s st) (l : List ByteArray) : TInv d (St.next d s st l).1 (St.next d s st l).2 := by
  obtain ⟨h0, h1, h2, h3⟩ := h
  have cl : ∀ x : St, (x = .expired ∨ s = 0) → TInv d (St.close d s x).1 (St.close d s x).2 := by
    intro x hx
    unfold St.close
    split
    · rename_i hc
      exact ⟨h0, h1, (by simp), (by simp)⟩
    · rename_i hc
      refine ⟨h0, h1, (fun hx2 => ?_), (fun hx2 => ?_)⟩
      · simp only at hx2
        rcases hx with hx | hx
        · subst hx; rcases hx2 with h | h <;> cases h
        · exact hx
      · simp only at hx2
        have : ¬ d ≤ s := fun h => hc ⟨hx2, h⟩
        show s < d
        omega
  cases st with
  | stopped => exact ⟨h0, h1, (fun h => by rcases h with h | h <;> cases h), (fun h => by cases h)⟩
  | expired =>
    have h3' := h3 rfl
    show TInv d (St.close d (s + 1) .expired).1 (St.close d (s + 1) .expired).2
    unfold St.close
    split
    · exact ⟨by show 0 ≤ s + 1; omega, by show s + 1 ≤ d; omega, (fun h => by rcases h with h | h <;> cases h), (fun h => by cases h)⟩
    · rename_i hc
      have : ¬ d ≤ s + 1 := fun h => hc ⟨rfl, h⟩
      exact ⟨by show 0 ≤ s + 1; omega, by show s + 1 ≤ d; omega, (fun h => by rcases h with h | h <;> cases h), (fun _ => by show s + 1 < d; omega)⟩
  | ok => exact cl _ (.inr (h2 (.inl rfl)))
  | failed => exact cl _ (.inr (h2 (.inr rfl)))
def alivePt (cnt : Int) (pl : Nat) : Int := if cnt < 0 ∨ (pl : Int) ≤ cnt then -1 else cnt
def aliveC (p mn mx c : Int) : Obj := .cells #[.int .i64 p, .int .i64 mn, .int .i64 mx, .int .i64 c] 246
theorem aliveNew_w (nm g ed f l : Value) (t cnt mn mx : Int) (a : Option Addr) (pl pc : Nat) (w : World) :
    Calls Tryz.prog 89 #[.agg #[nm, .int .i64 t, .slice a pl pc, .int .i64 cnt, .int .i64 mn, .int .i64 mx, g, ed, f, l]] w fun e w' =>
      e = .returned (.pointer (some ⟨w.heap.size + 1, 0, none⟩)) ∧
      (w.alloc (.cells #[nm, .int .i64 t, .slice a pl pc, .int .i64 cnt, .int .i64 mn, .int .i64 mx, g, ed, f, l] 50)).alloc (aliveC (alivePt cnt pl) mn mx 0) = w' := by
  go_enter Tryz.func89, Tryz.ntmps89
  go_wp2
  all_goals go_ret
  · rename_i h1 h2; exact ⟨rfl, by simp [aliveC, alivePt, h2]⟩
  · rename_i h1 h2; exact ⟨rfl, by rw [alivePt, if_neg (by omega)]; rfl⟩
  · rename_i h1; exact ⟨rfl, by simp [aliveC, alivePt, h1]⟩
theorem aliveNew_any (nm g ed f l : Value) (t cnt mn mx : Int) (a : Option Addr) (pl pc : Nat) (w : World) :
    Calls Tryz.prog 89 #[.agg #[nm, .int .i64 t, .slice a pl pc, .int .i64 cnt, .int .i64 mn, .int .i64 mx, g, ed, f, l]] w fun e w' =>
      ∃ b, e = .returned (.pointer (some ⟨b, 0, none⟩)) ∧ w.heap.size ≤ b ∧ w'.heap[b]? = some (aliveC (alivePt cnt pl) mn mx 0) ∧ Below w.heap.size w w' := by
  refine (aliveNew_w nm g ed f l t cnt mn mx a pl pc w).mono ?_
  rintro e w' ⟨rfl, rfl⟩
  refine ⟨_, rfl, by omega, ?_, ((Below.refl _ _).alloc (Nat.le_refl _) _).alloc (by simp) _⟩
  have := get_alloc_new (w.alloc (.cells #[nm, .int .i64 t, .slice a pl pc, .int .i64 cnt, .int .i64 mn, .int .i64 mx, g, ed, f, l] 50)) (aliveC (alivePt cnt pl) mn mx 0)
  simpa using this
theorem alive_cells {w : World} {b : Nat} {p mn mx c : Int} (h : w.heap[b]? = some (aliveC p mn mx c)) :
    w.cell? ⟨b, 0, none⟩ = some (.int .i64 p) ∧ w.cell? ⟨b, 1, none⟩ = some (.int .i64 mn) ∧ w.cell? ⟨b, 2, none⟩ = some (.int .i64 mx) ∧ w.cell? ⟨b, 3, none⟩ = some (.int .i64 c) ∧ w.frozen? ⟨b, 3, none⟩ = false := by
  unfold aliveC at h
  simp [World.cell?, World.frozen?, h]
theorem aliveReport_hit (b : Nat) (p c : Int) (w : World) (h0 : w.cell? ⟨b, 0, none⟩ = some (.int .i64 p)) (h3 : w.cell? ⟨b, 3, none⟩ = some (.int .i64 c)) (hf : w.frozen? ⟨b, 3, none⟩ = false) (hp : 0 ≤ p) (hc : 0 ≤ c) (hc' : c ≤ 1000) :
    Calls Tryz.prog 92 #[.pointer (some ⟨b, 0, none⟩), .int .i64 p] w fun e w' =>
      e = .returned (.tuple #[]) ∧ w.setCell ⟨b, 3, none⟩ (.int .i64 (min 1000 (c + 1))) = w' := by
  go_enter Tryz.func92, Tryz.ntmps92
  go_wp2
  · go_end0
    refine ⟨rfl, ?_⟩
    rw [show min (1000 : Int) (c + 1) = c + 1 from by omega]
  · go_end0
    refine ⟨rfl, ?_⟩
    rw [show min (1000 : Int) (c + 1) = 1000 from by omega]
theorem aliveReport_miss (b : Nat) (p q : Int) (w : World) (h0 : w.cell? ⟨b, 0, none⟩ = some (.int .i64 p)) (hp : p < 0 ∨ (q == p) = false) :
    Calls Tryz.prog 92 #[.pointer (some ⟨b, 0, none⟩), .int .i64 q] w fun e w' =>
      e = .returned (.tuple #[]) ∧ w = w' := by
  by_cases hn : p < 0
  · clear hp
    go_enter Tryz.func92, Tryz.ntmps92
    go_wp2
    all_goals go_end0
    all_goals exact ⟨rfl, rfl⟩
  · have hq := hp.resolve_left hn
    clear hp
    go_enter Tryz.func92, Tryz.ntmps92
    go_wp2
    all_goals go_end0
    all_goals exact ⟨rfl, rfl⟩
def aliveStep (p c q : Int) : Int := if 0 ≤ p ∧ q = p then min 1000 (c + 1) else c
theorem aliveReport_any (b : Nat) (p mn mx c q : Int) (w : World) (h : w.heap[b]? = some (aliveC p mn mx c)) (hc : 0 ≤ c) (hc' : c ≤ 1000) :
    Calls Tryz.prog 92 #[.pointer (some ⟨b, 0, none⟩), .int .i64 q] w fun e w' =>
      e = .returned (.tuple #[]) ∧ w'.heap[b]? = some (aliveC p mn mx (aliveStep p c q)) ∧ Keep (· = b) w w' := by
  obtain ⟨h0, h1, h2, h3, hf⟩ := alive_cells h
  by_cases hp : 0 ≤ p ∧ q = p
  · obtain ⟨hp1, rfl⟩ := hp
    refine (aliveReport_hit b q c w h0 h3 hf hp1 hc hc').mono ?_
    rintro e w' ⟨rfl, rfl⟩
    refine ⟨rfl, ?_, keep_set _ _ _ _⟩
    rw [get_setCell _ h]
    simp [aliveC, aliveStep, hp1]
  · refine (aliveReport_miss b p q w h0 ?_).mono ?_
    · by_cases hn : p < 0
      · exact .inl hn
      · exact .inr (by simp; omega)
    · rintro e w' ⟨rfl, rfl⟩
      exact ⟨rfl, by rw [aliveStep, if_neg hp]; exact h, Keep.refl _ _⟩
def aliveOk (p mn mx c : Int) (whole : Bool) : Bool := decide (p < 0) || !whole || (decide (mn ≤ c) && decide (c ≤ mx))
theorem aliveEnd_w (b : Nat) (p mn mx c : Int) (wh : Bool) (w : World) (h0 : w.cell? ⟨b, 0, none⟩ = some (.int .i64 p)) (h1 : w.cell? ⟨b, 1, none⟩ = some (.int .i64 mn)) (h2 : w.cell? ⟨b, 2, none⟩ = some (.int .i64 mx))
    (h3 : w.cell? ⟨b, 3, none⟩ = some (.int .i64 c)) (hf : w.frozen? ⟨b, 3, none⟩ = false) :
    Calls Tryz.prog 236 #[.pointer (some ⟨b, 0, none⟩), .bool wh] w fun e w' => e = .returned (.bool (aliveOk p mn mx c wh)) ∧ w.setCell ⟨b, 3, none⟩ (.int .i64 0) = w' := by
  cases wh
  · go_enter Tryz.func236, Tryz.ntmps236
    go_wp2
    all_goals go_ret
    all_goals exact ⟨by simp [aliveOk, *] <;> omega, rfl⟩
  · by_cases hp : p < 0
    · go_enter Tryz.func236, Tryz.ntmps236
      go_wp2
      all_goals go_ret
      all_goals exact ⟨by simp [aliveOk, *] <;> omega, rfl⟩
    · by_cases hm : mn ≤ c
      · go_enter Tryz.func236, Tryz.ntmps236
        go_wp2
        all_goals go_ret
        all_goals exact ⟨by simp [aliveOk, *] <;> omega, rfl⟩
      · go_enter Tryz.func236, Tryz.ntmps236
        go_wp2
        all_goals go_ret
        all_goals exact ⟨by simp [aliveOk, *] <;> omega, rfl⟩
theorem aliveEnd_any (b : Nat) (p mn mx c : Int) (wh : Bool) (w : World) (h : w.heap[b]? = some (aliveC p mn mx c)) :
    Calls Tryz.prog 236 #[.pointer (some ⟨b, 0, none⟩), .bool wh] w fun e w' => e = .returned (.bool (aliveOk p mn mx c wh)) ∧ w'.heap[b]? = some (aliveC p mn mx 0) ∧ Keep (· = b) w w' := by
  obtain ⟨h0, h1, h2, h3, hf⟩ := alive_cells h
  refine (aliveEnd_w b p mn mx c wh w h0 h1 h2 h3 hf).mono ?_
  rintro e w' ⟨rfl, rfl⟩
  exact ⟨rfl, by rw [get_setCell _ h]; simp [aliveC], keep_set _ _ _ _⟩
end Go.Proofs.YtikehilbmldadaaGreatDoor
