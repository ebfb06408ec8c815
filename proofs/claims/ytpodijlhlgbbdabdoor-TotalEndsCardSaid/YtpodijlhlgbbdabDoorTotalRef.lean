/- The document's Index of texts, its Total; package total's New with an error, Status. -/
import Derived.Test.YtpodijlhlgbbdabDoorSummed
import Derived.Test.YtpodijlhlgbbdabDoorSents
namespace Go.Proofs.YtpodijlhlgbbdabDoor
open Go.RowKit
set_option linter.unusedVariables false

set_option maxHeartbeats 400000 in
theorem rIndex_any (R : Nat → Prop) (l : List ByteArray) (v : Value) (x : ByteArray) (w : World) (h : SlOf R w v 1 (strCells1 l) l.length) :
    Calls Tryd.prog 83 #[v, .string x] w fun e w' => e = .returned (.int .i64 (sidxOf l x)) ∧ w = w' := by
  obtain ⟨hl, ao, cap, rfl, h1, h2, h3, h4⟩ := h
  have hsl : SlOf R w (.slice ao l.length cap) 1 (strCells1 l) l.length := ⟨hl, _, _, rfl, h1, h2, h3, h4⟩
  have hn : l.length ≤ 9223372036854775807 := by unfold maxLen at h2; omega
  have H := Lib.hid hsl
  clear hl h1 h2 h3 h4 hsl
  go_enter Tryd.func83, Tryd.ntmps83
  go_wp2_with fail
  go_loop [5] (fun s => ∃ k : Nat, k ≤ l.length ∧ s = .int .i64 k ∧ Hid (∀ j (hj : j < l.length), j < k → l[j].toList ≠ x.toList)) (fun s => l.length - (intOf s).toNat)
  case atStart => exact ⟨0, Nat.zero_le _, rfl, fun j hj h => by omega⟩
  case round =>
    obtain ⟨k, hk, rfl, hall⟩ := hrel
    by_cases hlt : k < l.length
    · obtain ⟨b, off, rfl, hRb, _, hc⟩ := str_cells H.out (by omega)
      have q := hc k hlt
      clear hc
      by_cases hx : x.toList = l[k].toList
      · have hxb : (l[k].toList == x.toList) = true := by simp [hx]
        have hI := sidxOf_hit hlt hx.symm hall.out
        have HI := Lib.hid hI
        clear hx hI
        go_wp2_with fail
        go_ret
        exact ⟨ret_int HI.out.symm, rfl⟩
      · have hxb : (l[k].toList == x.toList) = false := by simp; exact fun h => hx h.symm
        go_wp2_with fail
        go_round
        case rel =>
          refine ⟨k + 1, by omega, by go_num, fun j hj h => ?_⟩
          by_cases hjk : j = k
          · subst hjk; exact fun h => hx h.symm
          · exact hall.out j hj (by omega)
        case measure => simp [intOf]; omega
    · have hI := sidxOf_miss (l := l) (x := x) (fun j hj => hall.out j hj (by omega))
      have HI := Lib.hid hI
      clear hI
      go_wp2_with fail
      go_ret
      exact ⟨ret_int HI.out.symm, rfl⟩

set_option maxHeartbeats 400000 in
theorem totalNew_out (B : Nat) (sa : Nat → Addr) (d : Int) (w : World) (hS : Sents B sa w) (h : d < 0 ∨ 20 < d) :
    Calls Tryd.prog 28 #[.int .i64 d] w fun e w' => e = .returned (.tuple #[.pointer none, errv sa 2]) ∧ Below w.heap.size w w' := by
  obtain ⟨g0, g1, g2, g3, g4, g5, g6, g7, g8, g9, g10⟩ := hS.all
  clear hS g0 g2 g3 g4 g5 g6 g7 g8 g9 g10
  by_cases h1 : d < 0
  · clear h
    go_enter Tryd.func28, Tryd.ntmps28
    go_wp2_with fail
    go_quiet (fail)
    go_wp2_with fail
    go_ret2
    exact ⟨rfl, below_drewN' _ (Below.refl _ _)⟩
  · have h4 : 20 < d := by omega
    clear h
    go_enter Tryd.func28, Tryd.ntmps28
    go_wp2_with fail
    go_quiet (fail)
    go_wp2_with fail
    go_ret2
    exact ⟨rfl, below_drewN' _ (Below.refl _ _)⟩

theorem totalStatus_any (t : Nat) (d s : Int) (st : St) (w : World) (h : TotalAt w t d s st) :
    Calls Tryd.prog 30 #[.pointer (some ⟨t, 0, none⟩)] w fun e w' => e = .returned (.string st.str) ∧ w = w' := by
  obtain ⟨c0, c1, c2, cf⟩ := three_cells h
  clear h
  go_enter Tryd.func30, Tryd.ntmps30
  go_wp2_with fail
  go_ret
  exact ⟨rfl, rfl⟩

/-- The document's Total. -/
def RTotalAt (w : World) (t : Nat) (delay since : Int) (st : St) : Prop := w.heap[t]? = some (.cells #[.int .i64 delay, .int .i64 since, .string st.str] 44)
theorem RTotalAt.since {w : World} {t : Nat} {d s : Int} {st : St} (h : RTotalAt w t d s st) (s' : Int) : RTotalAt (w.setCell ⟨t, 1, none⟩ (.int .i64 s')) t d s' st := by
  unfold RTotalAt at h ⊢
  rw [get_setCell _ h]; rfl
theorem RTotalAt.status {w : World} {t : Nat} {d s : Int} {st : St} (h : RTotalAt w t d s st) (st' : St) : RTotalAt (w.setCell ⟨t, 2, none⟩ (.string st'.str)) t d s st' := by
  unfold RTotalAt at h ⊢
  rw [get_setCell _ h]; rfl
theorem RTotalAt.drew {w : World} {t : Nat} {d s : Int} {st : St} (q : Nat) (h : RTotalAt w t d s st) : RTotalAt (w.drewN q) t d s st := get_drewN q h

/-- What is always so of a total. -/
structure TInv (d s : Int) (st : St) : Prop where
  s0 : 0 ≤ s
  s1 : s ≤ d
  live : st = .ok ∨ st = .failed → s = 0
  exp : st = .expired → s < d
theorem TInv.next {d s : Int} {st : St} (h : TInv d s st) (l : List ByteArray) : TInv d (St.next d s st l).1 (St.next d s st l).2 := by
  obtain ⟨h0, h1, h2, h3⟩ := h
  have cl : ∀ x : St, (x = .expired ∨ s = 0) → TInv d (St.close d s x).1 (St.close d s x).2 := by
    intro x hx
    unfold St.close
    split
    · rename_i hc
      exact ⟨h0, h1, (by simp), (by simp)⟩
    · rename_i hc
      refine ⟨h0, h1, (fun hx2 => ?_), (fun hx2 => ?_)⟩
      · simp only at hx2
        rcases hx with hx | hx
        · subst hx; rcases hx2 with h | h <;> cases h
        · exact hx
      · simp only at hx2
        have : ¬ d ≤ s := fun h => hc ⟨hx2, h⟩
        show s < d
        omega
  cases st with
  | stopped => exact ⟨h0, h1, (fun h => by rcases h with h | h <;> cases h), (fun h => by cases h)⟩
  | expired =>
    have h3' := h3 rfl
    show TInv d (St.close d (s + 1) .expired).1 (St.close d (s + 1) .expired).2
    unfold St.close
    split
    · exact ⟨by show 0 ≤ s + 1; omega, by show s + 1 ≤ d; omega, (fun h => by rcases h with h | h <;> cases h), (fun h => by cases h)⟩
    · rename_i hc
      have : ¬ d ≤ s + 1 := fun h => hc ⟨rfl, h⟩
      exact ⟨by show 0 ≤ s + 1; omega, by show s + 1 ≤ d; omega, (fun h => by rcases h with h | h <;> cases h), (fun _ => by show s + 1 < d; omega)⟩
  | ok => exact cl _ (.inr (h2 (.inl rfl)))
  | failed => exact cl _ (.inr (h2 (.inr rfl)))

set_option maxHeartbeats 1000000 in
theorem rTotalEnd_stopped (t : Nat) (d s : Int) (v : Value) (w : World) (h : RTotalAt w t d s .stopped) :
    Calls Tryd.prog 31 #[.pointer (some ⟨t, 0, none⟩), v] w fun e w' => e = .returned (.tuple #[]) ∧ RTotalAt w' t d s .stopped ∧ Keep (· = t) w w' := by
  have H := Lib.hid h
  obtain ⟨c0, c1, c2, cf⟩ := three_cells h
  unfold St.str at c2
  clear h
  go_enter Tryd.func31, Tryd.ntmps31
  go_wp2_with fail
  refine bodyPost_ret (results_none rfl _ _ _) rfl ?_
  exact ⟨rfl, H.out, Keep.refl _ _⟩

set_option maxHeartbeats 1000000 in
theorem rTotalEnd_expired (t : Nat) (d s : Int) (v : Value) (w : World) (h : RTotalAt w t d s .expired) (h0 : 0 ≤ s) (h1 : s < d) (h2 : d ≤ 1000) :
    Calls Tryd.prog 31 #[.pointer (some ⟨t, 0, none⟩), v] w fun e w' => e = .returned (.tuple #[]) ∧ RTotalAt w' t d (s + 1) (St.close d (s + 1) .expired).2 ∧ Keep (· = t) w w' := by
  have H := Lib.hid h
  obtain ⟨c0, c1, c2, cf⟩ := three_cells h
  unfold St.str at c2
  clear h
  have h1' := Lib.hid (H.out.since (s + 1))
  have k1' := Lib.hid (keep_set w t 1 (.int .i64 (s + 1)))
  go_enter Tryd.func31, Tryd.ntmps31
  by_cases hd : d = s + 1
  · have hc : (St.close d (s + 1) .expired).2 = .stopped := by simp [St.close, hd]
    rw [hc]
    have hdb : (s + 1 == d) = true := by simp [hd]
    go_wp2_with fail
    generalize World.setCell _ _ _ = w1 at h1' k1' ⊢
    obtain ⟨x0, x1, x2, xf⟩ := three_cells h1'.out
    simp only [St.str] at x2
    go_quiet (fail)
    have h2 := h1'.out.drew nq
    have k2 := Keep.trans k1'.out (keep_drewN' (· = t) w1 nq)
    generalize World.drewN _ _ = w2 at h2 k2 ⊢
    have h3 := Lib.hid (h2.status .stopped)
    have k3 := Lib.hid (k2.trans (keep_set w2 t 2 (.string St.stopped.str)))
    obtain ⟨y0, y1, y2, yf⟩ := three_cells h2
    clear h2 k2
    simp only [St.str] at y2
    go_wp2_with fail
    go_end0
    exact ⟨rfl, h3.out, k3.out⟩
  · have hc : (St.close d (s + 1) .expired).2 = .expired := by
      have : ¬ d ≤ s + 1 := by omega
      simp [St.close, this]
    rw [hc]
    have hdb : (s + 1 == d) = false := by simp; omega
    go_wp2_with fail
    generalize World.setCell _ _ _ = w1 at h1' k1' ⊢
    obtain ⟨x0, x1, x2, xf⟩ := three_cells h1'.out
    simp only [St.str] at x2
    go_quiet (fail)
    have h2 := h1'.out.drew nq
    have k2 := Keep.trans k1'.out (keep_drewN' (· = t) w1 nq)
    generalize World.drewN _ _ = w2 at h2 k2 ⊢
    obtain ⟨y0, y1, y2, yf⟩ := three_cells h2
    have h3 := Lib.hid h2
    have k3 := Lib.hid k2
    clear h2 k2
    simp only [St.str] at y2
    go_wp2_with fail
    go_end0
    exact ⟨rfl, h3.out, k3.out⟩

set_option maxHeartbeats 4000000 in
theorem rTotalEnd_live (R : Nat → Prop) (t : Nat) (d : Int) (st : St) (l : List ByteArray) (v : Value) (w : World) (h : RTotalAt w t d 0 st) (h0 : 0 ≤ d) (hst : st = .ok ∨ st = .failed) (hl : SlOf R w v 1 (strCells1 l) l.length) (hR : ¬ R t) :
    Calls Tryd.prog 31 #[.pointer (some ⟨t, 0, none⟩), v] w fun e w' => e = .returned (.tuple #[]) ∧ RTotalAt w' t d 0 (St.next d 0 st l).2 ∧ Keep (· = t) w w' := by
  obtain ⟨ao, cap, rfl⟩ := hl.val
  have H := Lib.hid h
  obtain ⟨c0, c1, c2, cf⟩ := three_cells h
  have hO := Lib.hid (h.status .ok)
  have kO := Lib.hid (keep_set w t 2 (.string St.ok.str))
  have HL := Lib.hid (hl.keep kO.out (fun b hb e => hR (e ▸ hb)))
  have HL0 := Lib.hid hl
  clear h hl H
  have NE : Hid (hasStr l St.expired.str = true → (St.next d 0 st l).2 = (St.close d 0 .expired).2) := (show hasStr l St.expired.str = true → (St.next d 0 st l).2 = (St.close d 0 .expired).2 from by rcases hst with rfl | rfl <;> intro h <;> simp [St.next, h])
  have NF : Hid (hasStr l St.expired.str = false → hasStr l St.failed.str = true → (St.next d 0 st l).2 = .failed) := (show hasStr l St.expired.str = false → hasStr l St.failed.str = true → (St.next d 0 st l).2 = .failed from by rcases hst with rfl | rfl <;> intro h h2 <;> simp [St.next, h, h2, St.close])
  have NO : Hid (hasStr l St.expired.str = false → hasStr l St.failed.str = false → (St.next d 0 st l).2 = .ok) := (show hasStr l St.expired.str = false → hasStr l St.failed.str = false → (St.next d 0 st l).2 = .ok from by rcases hst with rfl | rfl <;> intro h h2 <;> simp [St.next, h, h2, St.close])
  generalize (St.next d 0 st l).2 = nx at NE NF NO ⊢
  have sf : Hid (decide (0 ≤ sidxOf l St.failed.str) = hasStr l St.failed.str) := sidxOf_nonneg l _
  have se : Hid (decide (0 ≤ sidxOf l St.expired.str) = hasStr l St.expired.str) := sidxOf_nonneg l _
  simp only [St.str] at sf se
  go_enter Tryd.func31, Tryd.ntmps31
  rcases hst with rfl | rfl
  all_goals
    simp only [St.str] at c2 hO kO HL
    go_wp2_with fail
    generalize World.setCell _ _ _ = w1 at hO kO HL ⊢
    obtain ⟨x0, x1, x2, xf⟩ := three_cells (show RTotalAt w1 t d 0 .ok from hO.out)
    refine (rIndex_any R l _ _ w1 HL.out).mono ?_
    rintro e w' ⟨rfl, rfl⟩
    have hF := Lib.hid ((show RTotalAt w1 t d 0 .ok from hO.out).status .failed)
    have kF := Lib.hid (kO.out.trans (keep_set w1 t 2 (.string St.failed.str)))
    simp only [St.str] at hF kF
    go_upto_if 13 with fail
    go_cut [] (fun wx => ∃ st2 : St, Hid (RTotalAt wx t d 0 st2) ∧ Hid (Keep (· = t) w wx) ∧ Hid ((hasStr l St.failed.str = true ∧ st2 = .failed) ∨ (hasStr l St.failed.str = false ∧ st2 = .ok)))
    case first =>
      by_cases hf : 0 ≤ sidxOf l (⟨#[102, 97, 105, 108, 101, 100]⟩ : ByteArray)
      · have hs : Hid (hasStr l St.failed.str = true) := (sf.out.symm.trans (decide_eq_true hf))
        go_wp2_with fail
        go_meet
        exact ⟨.failed, hF, kF, .inl ⟨hs.out, rfl⟩⟩
      · have hs : Hid (hasStr l St.failed.str = false) := (sf.out.symm.trans (decide_eq_false hf))
        go_wp2_with fail
        go_meet
        exact ⟨.ok, hO, kO, .inr ⟨hs.out, rfl⟩⟩
    case rest =>
    obtain ⟨st2, h2, k2, hf2⟩ := hcut
    have HL2 := Lib.hid (HL0.out.keep k2.out (fun b hb e => hR (e ▸ hb)))
    obtain ⟨y0, y1, y2, yf⟩ := three_cells h2.out
    clear hO kO HL HL0 x0 x1 x2 xf hF kF sf c0 c1 c2 cf
    go_wp2_with fail
    refine (rIndex_any R l _ _ wc HL2.out).mono ?_
    rintro e w' ⟨rfl, rfl⟩
    by_cases hx : 0 ≤ sidxOf l (⟨#[101, 120, 112, 105, 114, 101, 100]⟩ : ByteArray)
    · have hs : Hid (hasStr l St.expired.str = true) := (se.out.symm.trans (decide_eq_true hx))
      have h3 := Lib.hid ((h2.out.status .expired).since 0)
      have k3 := Lib.hid ((k2.out.trans (keep_set wc t 2 (.string St.expired.str))).trans (keep_set _ t 1 (.int .i64 0)))
      simp only [St.str] at h3 k3
      have HN := Lib.hid (NE.out hs.out)
      clear NE NF NO hf2
      by_cases hd : d = 0
      · have hc : (St.close d 0 .expired).2 = .stopped := by simp [St.close, hd]
        rw [hc] at HN
        have hdb : ((0 : Int) == d) = true := by simp [hd]
        go_wp2_with fail
        generalize World.setCell (World.setCell _ _ _) _ _ = w4 at h3 k3 ⊢
        obtain ⟨z0, z1, z2, zf⟩ := three_cells (show RTotalAt w4 t d 0 .expired from h3.out)
        simp only [St.str] at z2
        go_quiet (fail)
        have h4 := (show RTotalAt w4 t d 0 .expired from h3.out).drew nq
        have k4 := Keep.trans k3.out (keep_drewN' (· = t) w4 nq)
        generalize World.drewN _ _ = w5 at h4 k4 ⊢
        have h5 := Lib.hid (h4.status .stopped)
        have k5 := Lib.hid (k4.trans (keep_set w5 t 2 (.string St.stopped.str)))
        obtain ⟨u0, u1, u2, uf⟩ := three_cells h4
        simp only [St.str] at u2
        clear h4 k4
        go_wp2_with fail
        go_end0
        exact ⟨rfl, by rw [HN.out]; exact h5.out, k5.out⟩
      · have hc : (St.close d 0 .expired).2 = .expired := by
          have : ¬ d ≤ 0 := by omega
          simp [St.close, this]
        rw [hc] at HN
        have hdb : ((0 : Int) == d) = false := by simp; omega
        go_wp2_with fail
        generalize World.setCell (World.setCell _ _ _) _ _ = w4 at h3 k3 ⊢
        obtain ⟨z0, z1, z2, zf⟩ := three_cells (show RTotalAt w4 t d 0 .expired from h3.out)
        simp only [St.str] at z2
        go_quiet (fail)
        have h4 := Lib.hid ((show RTotalAt w4 t d 0 .expired from h3.out).drew nq)
        have k4 := Lib.hid (Keep.trans k3.out (keep_drewN' (· = t) w4 nq))
        generalize World.drewN _ _ = w5 at h4 k4 ⊢
        go_wp2_with fail
        go_end0
        exact ⟨rfl, by rw [HN.out]; exact h4.out, k4.out⟩
    · have hs : Hid (hasStr l St.expired.str = false) := (se.out.symm.trans (decide_eq_false hx))
      have HN : Hid (nx = st2) := by
        rcases hf2.out with ⟨h, rfl⟩ | ⟨h, rfl⟩
        · exact NF.out hs.out h
        · exact NO.out hs.out h
      rcases hf2.out with ⟨hh, rfl⟩ | ⟨hh, rfl⟩
      all_goals
        clear NE NF NO hf2 hh
        simp only [St.str] at y2
        go_wp2_with fail
        go_quiet (fail)
        have h4 := Lib.hid (h2.out.drew nq)
        have k4 := Lib.hid (Keep.trans k2.out (keep_drewN' (· = t) wc nq))
        generalize World.drewN _ _ = w5 at h4 k4 ⊢
        go_wp2_with fail
        go_end0
        exact ⟨rfl, by rw [HN.out]; exact h4.out, k4.out⟩

theorem rTotalEnd_any (R : Nat → Prop) (t : Nat) (d s : Int) (st : St) (l : List ByteArray) (v : Value) (w : World) (h : RTotalAt w t d s st) (hi : TInv d s st) (hd : d ≤ 1000) (hl : SlOf R w v 1 (strCells1 l) l.length) (hR : ¬ R t) :
    Calls Tryd.prog 31 #[.pointer (some ⟨t, 0, none⟩), v] w fun e w' => e = .returned (.tuple #[]) ∧ RTotalAt w' t d (St.next d s st l).1 (St.next d s st l).2 ∧ Keep (· = t) w w' := by
  have h0 := hi.s0
  have h1 := hi.s1
  cases hst : st
  · subst hst
    obtain rfl := hi.live (.inl rfl)
    have := rTotalEnd_live R t d .ok l v w h h1 (.inl rfl) hl hR
    have e : (St.next d 0 .ok l).1 = 0 := St.close_fst _ _ _
    rw [e]; exact this
  · subst hst
    obtain rfl := hi.live (.inr rfl)
    have := rTotalEnd_live R t d .failed l v w h h1 (.inr rfl) hl hR
    have e : (St.next d 0 .failed l).1 = 0 := St.close_fst _ _ _
    rw [e]; exact this
  · subst hst
    have := rTotalEnd_expired t d s v w h h0 (hi.exp rfl) hd
    have e : (St.next d s .expired l).1 = s + 1 := St.close_fst _ _ _
    rw [e]; exact this
  · subst hst
    exact rTotalEnd_stopped t d s v w h
end Go.Proofs.YtpodijlhlgbbdabDoor
