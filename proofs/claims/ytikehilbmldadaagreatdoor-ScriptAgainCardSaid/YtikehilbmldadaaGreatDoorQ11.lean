import Derived.Test.YtikehilbmldadaaGreatDoorQ10
set_option maxHeartbeats 2000000
set_option maxRecDepth 100000
namespace Go.Proofs.YtikehilbmldadaaGreatDoor
open Go.RowKit
set_option linter.unusedVariables false
theorem localNew_any (E : EntV) (vp vg ve vf vl : Value) (w : World) :
    Calls Tryz.prog 116 #[.agg (entCs E vp vg ve vf vl)] w fun e w' => e = .returned (.pointer (some ⟨w.heap.size + 1, 0, none⟩)) ∧ w'.heap[w.heap.size + 1]? = some (locC none E vp vg ve vf vl) ∧ Below w.heap.size w w' := by
  unfold entCs
  have n1 := get_alloc_new (w.alloc (.cells #[.string E.name, .int .i64 E.tol, vp, .int .i64 E.count, .int .i64 E.mn, .int .i64 E.mx, vg, ve, vf, vl] 50)) (locC none E vp vg ve vf vl)
  rw [World.size_alloc] at n1
  have b1 : Below w.heap.size w ((w.alloc (.cells #[.string E.name, .int .i64 E.tol, vp, .int .i64 E.count, .int .i64 E.mn, .int .i64 E.mx, vg, ve, vf, vl] 50)).alloc (locC none E vp vg ve vf vl)) :=
    ((Below.refl _ _).alloc (Nat.le_refl _) _).alloc (by simp) _
  have N1 := Lib.hid n1
  have B1 := Lib.hid b1
  clear n1 b1
  go_enter Tryz.func116, Tryz.ntmps116
  go_wp2_with fail
  go_ret
  exact ⟨rfl, N1.out, B1.out⟩
theorem localStatus_idle (l : Nat) (E : EntV) (vp vg ve vf vl : Value) (w : World) (h : w.heap[l]? = some (locC none E vp vg ve vf vl)) :
    Calls Tryz.prog 153 #[.pointer (some ⟨l, 0, none⟩)] w fun e w' => e = .returned (.string ⟨#[105, 100, 108, 101]⟩) ∧ w = w' := by
  obtain ⟨c0, _⟩ := loc_cells h
  clear h
  go_enter Tryz.func153, Tryz.ntmps153
  go_wp2_with fail
  go_ret
  exact ⟨rfl, rfl⟩
def locStatus (m : LocM) : ByteArray := if m.exp = true then ⟨#[101, 120, 112, 105, 114, 101, 100]⟩ else if 0 < m.run then ⟨#[102, 97, 105, 108, 101, 100]⟩ else ⟨#[111, 107]⟩
theorem localStatus_any (l s t : Nat) (E : EntV) (vp vg ve vf vl : Value) (m : LocM) (w : World) (h : LocAt l s t E vp vg ve vf vl m w) :
    Calls Tryz.prog 153 #[.pointer (some ⟨l, 0, none⟩)] w fun e w' => e = .returned (.string (locStatus m)) ∧ w = w' := by
  obtain ⟨⟨wb, a, g, f, ro, base, lo, hi, h1, h2⟩, ho⟩ := h
  obtain ⟨c0, _⟩ := loc_cells h1
  obtain ⟨b0, b1, b2, b3, b4, b5, bf⟩ := watch_cells h2.box
  clear h1 h2
  unfold locStatus
  cases hx : m.exp
  · rw [hx] at b4
    by_cases hr : 0 < m.run
    · go_enter Tryz.func153, Tryz.ntmps153
      go_wp2_with fail
      go_ret
      exact ⟨by simp, rfl⟩
    · go_enter Tryz.func153, Tryz.ntmps153
      go_wp2_with fail
      go_ret
      exact ⟨by simp, rfl⟩
  · rw [hx] at b4
    go_enter Tryz.func153, Tryz.ntmps153
    go_wp2_with fail
    go_ret
    exact ⟨by simp, rfl⟩
theorem localStop_any (l s t : Nat) (E : EntV) (vp vg ve vf vl : Value) (m : LocM) (w : World) (h : LocAt l s t E vp vg ve vf vl m w) :
    Calls Tryz.prog 50 #[.pointer (some ⟨l, 0, none⟩)] w fun e w' => e = .returned .nilIface ∧ w'.heap[l]? = some (locC none E vp vg ve vf vl) ∧ Keep (· = l) w w' := by
  obtain ⟨⟨wb, a, g, f, ro, base, lo, hi, h1, h2⟩, ho⟩ := h
  obtain ⟨c0, c1, c2, c3, c4, c5, c6, c7, c8, c9, c10, cf⟩ := loc_cells h1
  have n1 : (w.setCell ⟨l, 0, none⟩ (.pointer none)).heap[l]? = some (locC none E vp vg ve vf vl) := by
    unfold locC at h1
    rw [get_setCell _ h1]; rfl
  have k1 := keep_set w l 0 (.pointer none)
  have N1 := Lib.hid n1
  have K1 := Lib.hid k1
  clear h1 h2 n1 k1
  go_enter Tryz.func50, Tryz.ntmps50
  go_wp2_with fail
  go_ret
  exact ⟨rfl, N1.out, K1.out⟩
theorem localReport_in (l s t : Nat) (E : EntV) (pa : Option Addr) (pc : Nat) (vg ve vf vl : Value) (m : LocM) (p tick : Int) (w : World) (h : LocAt l s t E (.slice pa E.points.length pc) vg ve vf vl m w)
    (hp0 : 0 ≤ p) (hp1 : p < E.points.length) (ht0 : 0 ≤ tick) (ht1 : tick ≤ 1099511627776) :
    Calls Tryz.prog 51 #[.pointer (some ⟨l, 0, none⟩), .int .i64 p, .int .i64 tick] w fun e w' => e = .returned .nilIface ∧ LocAt l s t E (.slice pa E.points.length pc) vg ve vf vl (locReport E m p tick) w' ∧ Keep (fun b => s ≤ b ∧ b < t) w w' := by
  obtain ⟨⟨wb, a, g, f, ro, base, lo, hi, h1, h2⟩, ho⟩ := h
  obtain ⟨c0, c1, c2, c3, c4, c5, c6, c7, c8, c9, c10, cf⟩ := loc_cells h1
  obtain ⟨b0, b1, b2, b3, b4, b5, bf⟩ := watch_cells h2.box
  have H1 := Lib.hid h1
  have H2 := Lib.hid h2
  have HO := Lib.hid ho
  clear h1 h2 ho c1 c2 c4 c5 c6 c7 c8 c9 c10 cf b3 b4 b5 bf
  go_enter Tryz.func51, Tryz.ntmps51
  go_wp2_with fail
  refine (aliveReport_any a _ _ _ _ _ _ H2.out.al H2.out.ok.c0 H2.out.ok.c1).mono ?_
  rintro e w1 ⟨rfl, a1, k1⟩
  have h21 := H2.out.alive k1 a1 (aliveStep_bd _ _ _ H2.out.ok.c0 H2.out.ok.c1).1 (aliveStep_bd _ _ _ H2.out.ok.c0 H2.out.ok.c1).2
  have o1 := H2.out.own_a k1
  have l1 := o1.get H1.out HO.out
  obtain ⟨c0', _⟩ := loc_cells l1
  obtain ⟨x0, x1, x2, _⟩ := watch_cells h21.box
  have L1 := Lib.hid l1
  have O1 := Lib.hid o1
  have H21 := Lib.hid h21
  clear a1 k1 h21 o1 l1 b0 b1 b2 c0 c3 H1 H2
  go_wp2_with fail
  refine (gapsReport_any base ro g _ _ p tick w1 H21.out.ga ht0 ht1 H21.out.ok.g H21.out.ok.n).mono ?_
  rintro e w2 ⟨rfl, g2, k2, q2, n2⟩
  have h22 := H21.out.gaps k2 g2 q2 n2
  have o2 := O1.out.trans (H21.out.own_g k2)
  have l2 := (H21.out.own_g k2).get L1.out HO.out
  obtain ⟨c0'', _⟩ := loc_cells l2
  obtain ⟨y0, y1, y2, _⟩ := watch_cells h22.box
  have L2 := Lib.hid l2
  have O2 := Lib.hid o2
  have H22 := Lib.hid h22
  clear g2 k2 q2 n2 h22 o2 l2 x0 x1 x2 c0' H21 O1 L1
  go_wp2_with fail
  refine (flowReport_any lo hi E w2 f _ _ p H22.out.fl).mono ?_
  rintro e w3 ⟨rfl, f3, k3⟩
  have h23 := H22.out.flow k3 f3
  have o3 := O2.out.trans (H22.out.own_f k3)
  have l3 := (H22.out.own_f k3).get L2.out HO.out
  have L3 := Lib.hid l3
  have O3 := Lib.hid o3
  have H23 := Lib.hid h23
  clear f3 k3 h23 o3 l3 y0 y1 y2 c0'' H22 O2 L2
  go_wp2_with fail
  go_ret
  exact ⟨rfl, ⟨⟨wb, a, g, f, ro, base, lo, hi, L3.out, H23.out⟩, HO.out⟩, O3.out⟩
theorem localReport_out (l s t : Nat) (E : EntV) (pa : Option Addr) (pc : Nat) (vg ve vf vl u : Value) (m : LocM) (p tick : Int) (w : World) (h : LocAt l s t E (.slice pa E.points.length pc) vg ve vf vl m w)
    (hp : p < 0 ∨ (E.points.length : Int) ≤ p) (hg : w.cell? ⟨4, 0, none⟩ = some u) :
    Calls Tryz.prog 51 #[.pointer (some ⟨l, 0, none⟩), .int .i64 p, .int .i64 tick] w fun e w' => e = .returned u ∧ w = w' := by
  obtain ⟨⟨wb, a, g, f, ro, base, lo, hi, h1, h2⟩, ho⟩ := h
  obtain ⟨c0, c1, c2, c3, c4, c5, c6, c7, c8, c9, c10, cf⟩ := loc_cells h1
  clear h1 h2 ho c1 c2 c4 c5 c6 c7 c8 c9 c10 cf
  by_cases h0 : p < 0
  · clear hp
    go_enter Tryz.func51, Tryz.ntmps51
    go_wp2_with fail
    go_ret
    exact ⟨rfl, rfl⟩
  · have hp' : (E.points.length : Int) ≤ p := by omega
    clear hp
    go_enter Tryz.func51, Tryz.ntmps51
    go_wp2_with fail
    go_ret
    exact ⟨rfl, rfl⟩
structure KAt (s t wb a g f : Nat) (ro : Option Nat) (base lo hi : Nat) (E : EntV) (m : LocM) (w0 w : World) : Prop where
  h : WatchIn s t wb a g f ro base lo hi E m w
  k : Keep (fun b => s ≤ b ∧ b < t) w0 w
theorem KAt.drew {s t wb a g f : Nat} {ro : Option Nat} {base lo hi : Nat} {E : EntV} {m : LocM} {w0 w : World} (h : KAt s t wb a g f ro base lo hi E m w0 w) : KAt s t wb a g f ro base lo hi E m w0 w.drew :=
  ⟨h.h.keep (S := fun _ => False) (Keep.refl _ _).drew (fun _ _ _ h => h), h.k.drew⟩
theorem KAt.cells {s t wb a g f : Nat} {ro : Option Nat} {base lo hi : Nat} {E : EntV} {m m' : LocM} {w0 w : World} (h : KAt s t wb a g f ro base lo hi E m w0 w) (h0 : w0.heap[wb]? = some (watchC a g f m'.whole m'.exp m'.run)) (e : m.whole = m'.whole ∧ m.exp = m'.exp ∧ m.run = m'.run) :
    ∀ o, w.cell? ⟨wb, o, none⟩ = w0.cell? ⟨wb, o, none⟩ := by
  intro o
  have h1 := h.h.box
  rw [e.1, e.2.1, e.2.2, ← h0] at h1
  exact World.cell?_of_block (a := ⟨wb, o, none⟩) h1
theorem localKind_any (s t wb a g f : Nat) (ro : Option Nat) (base lo hi : Nat) (E : EntV) (m : LocM) (w : World) (h : WatchIn s t wb a g f ro base lo hi E m w) :
    Calls Tryz.prog 197 #[.pointer (some ⟨wb, 0, none⟩)] w fun e w' => e = .returned (.int .i64 (locKind E m)) ∧ WatchIn s t wb a g f ro base lo hi E (locMid m) w' ∧ Keep (fun b => s ≤ b ∧ b < t) w w' := by
  have hA : Hid (∀ W, KAt s t wb a g f ro base lo hi E m w W → Calls Tryz.prog 236 #[.pointer (some ⟨a, 0, none⟩), .bool m.whole] W fun e w' => e = .returned (.bool (aliveOk (locPt E) E.mn E.mx m.cnt m.whole)) ∧
      KAt s t wb a g f ro base lo hi E ⟨m.whole, m.exp, m.run, 0, m.gs, m.gbad, m.pos, m.fbad⟩ w w') := by
    intro W hW
    refine (aliveEnd_any a _ _ _ _ _ W hW.h.al).mono ?_
    rintro e w1 ⟨rfl, a1, k1⟩
    exact ⟨rfl, hW.h.alive k1 a1 (by decide) (by decide), hW.k.trans (hW.h.own_a k1)⟩
  have hG : Hid (∀ W, KAt s t wb a g f ro base lo hi E ⟨m.whole, m.exp, m.run, 0, m.gs, m.gbad, m.pos, m.fbad⟩ w W → Calls Tryz.prog 237 #[.pointer (some ⟨g, 0, none⟩)] W fun e w' => e = .returned (.bool (!m.gbad)) ∧
      KAt s t wb a g f ro base lo hi E ⟨m.whole, m.exp, m.run, 0, m.gs, false, m.pos, m.fbad⟩ w w') := by
    intro W hW
    refine (gapsEnd_any base ro g _ _ W hW.h.ga).mono ?_
    rintro e w1 ⟨rfl, a1, k1⟩
    exact ⟨rfl, hW.h.gaps k1 a1 hW.h.ok.g hW.h.ok.n, hW.k.trans (hW.h.own_g k1)⟩
  have hF : Hid (∀ W, KAt s t wb a g f ro base lo hi E ⟨m.whole, m.exp, m.run, 0, m.gs, false, m.pos, m.fbad⟩ w W → Calls Tryz.prog 238 #[.pointer (some ⟨f, 0, none⟩)] W fun e w' => e = .returned (.bool (!m.fbad)) ∧
      KAt s t wb a g f ro base lo hi E ⟨m.whole, m.exp, m.run, 0, m.gs, false, m.pos, false⟩ w w') := by
    intro W hW
    refine (flowEnd_any lo hi E W f _ _ hW.h.fl).mono ?_
    rintro e w1 ⟨rfl, a1, k1⟩
    exact ⟨rfl, hW.h.flow k1 a1, hW.k.trans (hW.h.own_f k1)⟩
  have k0 : KAt s t wb a g f ro base lo hi E m w w := ⟨h, Keep.refl _ _⟩
  have K0 := Lib.hid k0
  have hbx := Lib.hid h.box
  obtain ⟨b0, b1, b2, b3, b4, b5, bf⟩ := watch_cells h.box
  clear k0 h b4 b5 bf
  go_enter Tryz.func197, Tryz.ntmps197
  go_upto_region 1 with fail
  go_cut [3, 4, 5] (fun s3 s4 s5 wx => s3 = .bool (aliveOk (locPt E) E.mn E.mx m.cnt m.whole) ∧ s4 = .bool (!m.gbad) ∧ s5 = .bool (!m.fbad) ∧ KAt s t wb a g f ro base lo hi E ⟨m.whole, m.exp, m.run, 0, m.gs, false, m.pos, false⟩ w wx)
  case first =>
    go_region_held3 (fun w' => ∀ o, w'.cell? ⟨wb, o, none⟩ = w.cell? ⟨wb, o, none⟩)
      (first | exact fun _ => rfl | exact kf.cells hbx.out ⟨rfl, rfl, rfl⟩ | exact kg.cells hbx.out ⟨rfl, rfl, rfl⟩ | exact ka.cells hbx.out ⟨rfl, rfl, rfl⟩)
      (first | (go_at_call_of 236 (Value.pointer (some ⟨a, 0, none⟩)); refine (hA.out _ ?_).mono ?_; (repeat (first | exact K0.out | refine KAt.drew ?_)); rintro e w1 ⟨rfl, ka⟩) | (go_at_call_of 237 (Value.pointer (some ⟨g, 0, none⟩)); refine (hG.out _ ?_).mono ?_; (repeat (first | exact ka | refine KAt.drew ?_)); rintro e w2 ⟨rfl, kg⟩) | (go_at_call_of 238 (Value.pointer (some ⟨f, 0, none⟩)); refine (hF.out _ ?_).mono ?_; (repeat (first | exact kg | refine KAt.drew ?_)); rintro e w3 ⟨rfl, kf⟩))
    all_goals (go_wp2_with fail; go_meet)
    all_goals exact ⟨rfl, rfl, rfl, by repeat (first | exact kf | refine KAt.drew ?_)⟩
  case rest =>
  obtain ⟨rfl, rfl, rfl, hk⟩ := hcut
  obtain ⟨x0, x1, x2, x3, x4, x5, xf⟩ := watch_cells hk.h.box
  have n1 : (wc.setCell ⟨wb, 3, none⟩ (.bool true)).heap[wb]? = some (watchC a g f true m.exp m.run) := by
    have h1 := hk.h.box
    unfold watchC at h1 ⊢
    rw [get_setCell _ h1]; rfl
  have k1 := keep_set wc wb 3 (.bool true)
  have H2 := Lib.hid (hk.h.box' k1 n1)
  have K2 := Lib.hid (hk.k.trans (hk.h.own_w k1))
  have hK : Hid (∀ A, aliveOk (locPt E) E.mn E.mx m.cnt m.whole = A → locKind E m = if A = false then 1 else if m.gbad = true then 2 else if m.fbad = true then 3 else 0) := fun A hA => by unfold locKind; rw [hA]
  generalize hA : aliveOk (locPt E) E.mn E.mx m.cnt m.whole = A at hK ⊢
  have HK := Lib.hid (hK.out A rfl)
  clear hK hk n1 k1 b0 b1 b2 b3 K0 hbx hA hF hG
  cases A
  · go_wp2_with fail
    go_ret
    exact ⟨ret_int (by rw [HK.out]; rfl), H2.out, K2.out⟩
  · cases hg : m.gbad
    · cases hf : m.fbad
      · rw [hg, hf] at HK
        go_wp2_with fail
        go_ret
        exact ⟨ret_int (by rw [HK.out]; rfl), H2.out, K2.out⟩
      · rw [hg, hf] at HK
        go_wp2_with fail
        go_ret
        exact ⟨ret_int (by rw [HK.out]; rfl), H2.out, K2.out⟩
    · rw [hg] at HK
      go_wp2_with fail
      go_ret
      exact ⟨ret_int (by rw [HK.out]; rfl), H2.out, K2.out⟩
theorem keep_drewM (S : Nat → Prop) (w : World) (q : Nat) : Keep S w (w.drewN q) := (below_keep (below_drewN' q (Below.refl w.heap.size w))).mono (fun _ _ h => h.elim)
theorem watch_set5 {w : World} {b a g f : Nat} {wh ex : Bool} {run : Int} (h : w.heap[b]? = some (watchC a g f wh ex run)) (r : Int) : (w.setCell ⟨b, 5, none⟩ (.int .i64 r)).heap[b]? = some (watchC a g f wh ex r) := by
  unfold watchC at h ⊢
  rw [get_setCell _ h]; rfl
theorem watch_set4 {w : World} {b a g f : Nat} {wh ex : Bool} {run : Int} (h : w.heap[b]? = some (watchC a g f wh ex run)) (x : Bool) : (w.setCell ⟨b, 4, none⟩ (.bool x)).heap[b]? = some (watchC a g f wh x run) := by
  unfold watchC at h ⊢
  rw [get_setCell _ h]; rfl
theorem KAt.set5 {s t wb a g f : Nat} {ro : Option Nat} {base lo hi : Nat} {E : EntV} {m : LocM} {w0 w : World} (h : KAt s t wb a g f ro base lo hi E m w0 w) (r : Int) : KAt s t wb a g f ro base lo hi E ⟨m.whole, m.exp, r, m.cnt, m.gs, m.gbad, m.pos, m.fbad⟩ w0 (w.setCell ⟨wb, 5, none⟩ (.int .i64 r)) :=
  ⟨h.h.box' (keep_set w wb 5 _) (watch_set5 h.h.box r), h.k.trans (h.h.own_w (keep_set w wb 5 _))⟩
theorem KAt.set4 {s t wb a g f : Nat} {ro : Option Nat} {base lo hi : Nat} {E : EntV} {m : LocM} {w0 w : World} (h : KAt s t wb a g f ro base lo hi E m w0 w) (x : Bool) : KAt s t wb a g f ro base lo hi E ⟨m.whole, x, m.run, m.cnt, m.gs, m.gbad, m.pos, m.fbad⟩ w0 (w.setCell ⟨wb, 4, none⟩ (.bool x)) :=
  ⟨h.h.box' (keep_set w wb 4 _) (watch_set4 h.h.box x), h.k.trans (h.h.own_w (keep_set w wb 4 _))⟩
theorem KAt.drewN {s t wb a g f : Nat} {ro : Option Nat} {base lo hi : Nat} {E : EntV} {m : LocM} {w0 w : World} (h : KAt s t wb a g f ro base lo hi E m w0 w) (n : Nat) : KAt s t wb a g f ro base lo hi E m w0 (w.drewN n) :=
  ⟨h.h.keep (S := fun _ => False) (keep_drewM _ _ _) (fun _ _ _ h => h), keep_drewN n h.k⟩
theorem localEnd_any (l s t : Nat) (E : EntV) (vp vg ve vf vl : Value) (m : LocM) (w : World) (h : LocAt l s t E vp vg ve vf vl m w) (hr0 : 0 ≤ m.run) (hr1 : m.run ≤ 1000000) :
    Calls Tryz.prog 151 #[.pointer (some ⟨l, 0, none⟩)] w fun e w' => e = .returned (.tuple #[.int .i64 (locKind E m), .bool (locNow E m)]) ∧ LocAt l s t E vp vg ve vf vl (locEnd E m) w' ∧ Keep (fun b => s ≤ b ∧ b < t) w w' := by
  obtain ⟨⟨wb, a, g, f, ro, base, lo, hi, h1, h2⟩, ho⟩ := h
  obtain ⟨c0, c1, c2, c3, c4, c5, c6, c7, c8, c9, c10, cf⟩ := loc_cells h1
  have H1 := Lib.hid h1
  have H2 := Lib.hid h2
  have HO := Lib.hid ho
  clear h1 h2 ho c1 c2 c3 c4 c5 c6 c7 c8 c9 c10 cf
  go_enter Tryz.func151, Tryz.ntmps151
  go_wp2_with fail
  refine (localKind_any s t wb a g f ro base lo hi E m w H2.out).mono ?_
  rintro e w1 ⟨rfl, h21, k1⟩
  have q1 : KAt s t wb a g f ro base lo hi E (locMid m) w w1 := ⟨h21, k1⟩
  have c0' := (loc_cells (k1.get H1.out HO.out)).1
  obtain ⟨x0, x1, x2, x3, x4, x5, xf⟩ := watch_cells h21.box
  simp only [locMid] at x5
  have q2 := Lib.hid (q1.set5 (m.run + 1))
  have q3 := Lib.hid ((q1.set5 (m.run + 1)).set5 0)
  have c0'' := (loc_cells ((q1.set5 (m.run + 1)).k.get H1.out HO.out)).1
  clear h21 k1 q1 x0 x1 x2 x3 x4 c0 H2
  go_upto_if 25 with fail
  go_cut [] (fun wx => KAt s t wb a g f ro base lo hi E ⟨true, m.exp, locRun E m, 0, m.gs, false, m.pos, false⟩ w wx)
  case first =>
    by_cases hk : locKind E m = 0
    · have hb : (locKind E m == 0) = true := by simp [hk]
      have HR : Hid (locRun E m = 0) := if_pos hk
      clear hk
      go_wp2_with fail
      go_meet
      rw [HR.out]; exact q3.out
    · have hb : (locKind E m == 0) = false := by simp [hk]
      have HR : Hid (locRun E m = m.run + 1) := if_neg hk
      clear hk
      go_wp2_with fail
      go_meet
      rw [HR.out]; exact q2.out
  case rest =>
  have hk := hcut
  clear hcut c0' c0'' x5 xf q2 q3
  obtain ⟨c0, c1, c2, c3, c4, c5, c6, c7, c8, c9, c10, cf⟩ := loc_cells (hk.k.get H1.out HO.out)
  obtain ⟨x0, x1, x2, x3, x4, x5, xf⟩ := watch_cells hk.h.box
  simp only at x4 x5
  have HN : Hid (locNow E m = (decide (E.tol < locRun E m) && !m.exp)) := rfl
  have HE : Hid (locEnd E m = ⟨true, m.exp || decide (E.tol < locRun E m), locRun E m, 0, m.gs, false, m.pos, false⟩) := rfl
  have HK := Lib.hid hk
  clear hk c1 c3 c4 c5 c6 c7 c8 c9 c10 cf x0 x1 x2 x3
  generalize locRun E m = r at HK HN HE x5
  generalize hKK : locKind E m = K
  have HKK := Lib.hid hKK
  clear hKK
  by_cases ht : E.tol < r
  · cases hx : m.exp
    · rw [hx] at x4
      go_wp2_with fail
      go_quiet (fail)
      have y1 := HK.out.drewN nq
      have y2 := y1.set4 true
      have Y2 := Lib.hid y2
      obtain ⟨z0, z1, z2, z3, z4, z5, zf⟩ := watch_cells y1.h.box
      simp only at z4 z5
      have l2 := Lib.hid (y2.k.get H1.out HO.out)
      clear y1 y2 z0 z1 z2 z3 z5
      go_wp2_with fail
      go_ret2
      rw [HN.out, HE.out, HKK.out, hx, decide_eq_true ht]
      exact ⟨rfl, ⟨⟨wb, a, g, f, ro, base, lo, hi, l2.out, Y2.out.h⟩, HO.out⟩, Y2.out.k⟩
    · rw [hx] at x4
      go_wp2_with fail
      go_quiet (fail)
      have Y2 := Lib.hid (HK.out.drewN nq)
      have l2 := Lib.hid (Y2.out.k.get H1.out HO.out)
      go_wp2_with fail
      go_ret2
      rw [HN.out, HE.out, HKK.out, hx, decide_eq_true ht]
      refine ⟨rfl, ⟨⟨wb, a, g, f, ro, base, lo, hi, l2.out, ?_⟩, HO.out⟩, Y2.out.k⟩
      have := Y2.out.h
      rw [hx] at this
      exact this
  · have ht' : decide (E.tol < r) = false := decide_eq_false ht
    go_wp2_with fail
    go_quiet (fail)
    have Y2 := Lib.hid (HK.out.drewN nq)
    have l2 := Lib.hid (Y2.out.k.get H1.out HO.out)
    go_wp2_with fail
    go_ret2
    rw [HN.out, HE.out, HKK.out, ht']
    refine ⟨rfl, ⟨⟨wb, a, g, f, ro, base, lo, hi, l2.out, ?_⟩, HO.out⟩, Y2.out.k⟩
    have := Y2.out.h
    rw [Bool.or_false]
    exact this
end Go.Proofs.YtikehilbmldadaaGreatDoor
