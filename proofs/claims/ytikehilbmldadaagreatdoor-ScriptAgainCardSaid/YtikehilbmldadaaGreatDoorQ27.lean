import Derived.Test.YtikehilbmldadaaGreatDoorQ24
import Derived.Test.YtikehilbmldadaaGreatDoorQ25
import Derived.Test.YtikehilbmldadaaGreatDoorQ22
import Derived.Test.YtikehilbmldadaaGreatDoorQ03
namespace Go.Proofs.YtikehilbmldadaaGreatDoor
open Go.RowKit
set_option linter.unusedVariables false
structure OpSt (B : Nat) (sa : Nat → Addr) (w0 : World) (kb c : Nat) (txt : ByteArray) (x : KpX) (C : ConfV) (D : DogM) (m : CM) (rg : Nat) (lv : Value) (L : List RecV) (vt : Value) (o0 : Nat → Nat) (wa : World) (v : Value) (k : Nat) (ls : List Nat) (o : Nat → Nat) (w : World) : Prop where
  b : KpB B sa w0 kb c x C D m o w
  box : w.heap[kb]? = some (kpC x.d C x.ve c (.pointer (some ⟨rg, 0, none⟩)) v vt txt)
  rbox : w.heap[rg]? = some (ringC c lv false)
  rrow : SlOf (fun b => o b = 6) w lv 4 (L.flatMap recCells) L.length
  row : OwnAt w w0.heap.size 112 1 v k (ptrCs ls)
  vb : ∀ b, v.ownBlock = some b → o b = 9
  ln : ls.length = k
  loc : ∀ (j l : Nat) (y : EntX), ls[j]? = some l → x.X[j]? = some y → o l = 10 + 2 * j ∧ w.heap[l]? = some (locC none y.E y.p y.g y.e y.f y.l)
  org : o rg = 5
  fr : Fr o0 o wa w
section
variable {B : Nat} {sa : Nat → Addr} {w0 : World} {kb c : Nat} {txt : ByteArray} {x : KpX} {C : ConfV} {D : DogM} {m : CM} {rg : Nat} {lv : Value} {L : List RecV} {vt : Value} {o0 : Nat → Nat} {wa : World} {v : Value} {k : Nat} {ls : List Nat} {o : Nat → Nat} {w w1 w2 w3 w4 : World}
theorem OwnAt.stay {o o' : Nat → Nat} {N : Nat → Prop} {w0 w w' : World} (s : Stp o o' N w0 w w') {base : Nat} {e : TypeId} {size : Nat} {v : Value} {n : Nat} {xs : List Value} (h : OwnAt w base e size v n xs) {k : Nat} (hb : ∀ b, v.ownBlock = some b → o b = k) (hN : ¬ N k) : OwnAt w' base e size v n xs :=
  h.keep s.kp (fun b hh => by rw [hb b hh]; exact hN)
theorem OpSt.stp {N : Nat → Prop} {w' : World} (h : OpSt B sa w0 kb c txt x C D m rg lv L vt o0 wa v k ls o w) (s : Stp o o N w0 w w') (hN : ∀ n, ¬ N n) : OpSt B sa w0 kb c txt x C D m rg lv L vt o0 wa v k ls o w' :=
  ⟨h.b.keep s (h.b.sen s (hN _)) (hN _) (hN _) (hN _) (hN _), s.get h.box h.b.ok (hN _), s.get h.rbox h.org (hN _), s.sl h.rrow (hN _), h.row.stay s h.vb (hN _), h.vb, h.ln,
    fun j l y h1 h2 => ⟨(h.loc j l y h1 h2).1, s.get (h.loc j l y h1 h2).2 (h.loc j l y h1 h2).1 (hN _)⟩, h.org, h.fr.trans (s.fr (hN _))⟩
theorem OpSt.below {w' : World} (h : OpSt B sa w0 kb c txt x C D m rg lv L vt o0 wa v k ls o w) (b : Below w.heap.size w w') : OpSt B sa w0 kb c txt x C D m rg lv L vt o0 wa v k ls o w' :=
  h.stp (N := fun _ => False) (Stp.same h.b.low h.b.bel ((below_keep b).mono (fun _ _ h => h.elim)) (fun h => h)) (fun _ h => h)
theorem opSt_start {vlog vl : Value} (h : KpB B sa w0 kb c x C D m o w) (hbox : w.heap[kb]? = some (kpC x.d C x.ve c vlog vl vt txt)) (hr : RSt B sa w0 rg c x.rb x.cap m false L lv w1) (hn : OpenNew w w1 rg lv) :
    ∃ o', OpSt B sa w0 kb c txt x C D m rg lv L vt o w (.slice none 0 0) 0 [] o' ((w1.setCell ⟨kb, 7, none⟩ (.pointer (some ⟨rg, 0, none⟩))).setCell ⟨kb, 8, none⟩ (.slice none 0 0)) := by
  have hkb := lt_of_get hbox
  have k1 : Keep (fun _ => False) w w1 := below_keep hn.bel
  have b1 := k1.get hbox (fun h => h)
  have rgl := lt_of_get hr.ring.box
  have rgn := hn.rg
  have bx : ((w1.setCell ⟨kb, 7, none⟩ (.pointer (some ⟨rg, 0, none⟩))).setCell ⟨kb, 8, none⟩ (.slice none 0 0)).heap[kb]? = some (kpC x.d C x.ve c (.pointer (some ⟨rg, 0, none⟩)) (.slice none 0 0) vt txt) := by
    unfold kpC at b1 ⊢
    rw [get_setCell _ (get_setCell _ b1)]; rfl
  obtain ⟨W, hW⟩ : ∃ W, W = (w1.setCell ⟨kb, 7, none⟩ (.pointer (some ⟨rg, 0, none⟩))).setCell ⟨kb, 8, none⟩ (.slice none 0 0) := ⟨_, rfl⟩
  have kk : Keep (· = kb) w1 W := by rw [hW]; exact keep_more (keep_set _ _ _ _) _ _
  rw [← hW] at bx ⊢
  have hsz : w1.heap.size = W.heap.size := by rw [hW]; simp [World.setCell]
  have kw : Keep (· = kb) w W := (k1.mono (fun _ _ h => h.elim)).trans kk
  have hs1 := k1.size
  have bel := h.bel.size
  have s : Stp o (fun b => if b = rg then 5 else ext o w.heap.size w1.heap.size 6 b) (fun n => n = 1) w0 w W := by
    refine ⟨kw.mono (fun b _ e => by rw [e]; exact h.ok), fun b hb => ?_, fun b hb => ?_, ?_⟩
    · show (if b = rg then _ else _) = _
      rw [if_neg (by omega), ext_old hb]
    · by_cases e : b = rg
      · omega
      · simp only [e, if_false] at hb
        by_cases e2 : w.heap.size ≤ b ∧ b < w1.heap.size
        · omega
        · unfold ext at hb
          rw [if_neg e2] at hb
          have := h.low b hb
          omega
    · exact h.bel.trans ((kw.mono (fun b _ e => by rw [e]; exact (h.low kb (by rw [h.ok]; decide)).1) : Keep (fun b => w0.heap.size ≤ b) w W).below bel (fun b hb => hb))
  have hne : rg ≠ kb := by omega
  refine ⟨_, ⟨h.keep s (h.sen s (by decide)) (by decide) (by decide) (by decide) (by decide), bx, kk.get hr.ring.box hne, ?_, ⟨rfl, .inl ⟨rfl, rfl⟩⟩, (fun b hb => by cases hb), rfl, (fun j l y h1 _ => by simp at h1), if_pos rfl, s.fr (by decide)⟩⟩
  refine ((hr.ring.row.reR (R' := fun b => w.heap.size ≤ b ∧ b < w1.heap.size ∧ b ≠ rg) (fun b hb hp => ?_)).keep kk (fun b hb e => by omega)).mono (fun b hb => ?_)
  · have h1 := hn.lv b hb
    exact ⟨h1.1, h1.2, (hr.ring.row.inR hb hp).1.2.2⟩
  · show (if b = rg then 5 else _) = 6
    rw [if_neg hb.2.2]
    exact ext_new hb.1 hb.2.1
theorem OpSt.next {l : Nat} {y : EntX} {v' : Value} (h : OpSt B sa w0 kb c txt x C D m rg lv L vt o0 wa v k ls o w) (hb : Below w.heap.size w w3) (hl : w3.heap[l]? = some (locC none y.E y.p y.g y.e y.f y.l)) (hlo : w.heap.size ≤ l) (hy : x.X[k]? = some y)
    (ho : OwnAt w4 w0.heap.size 112 1 v' (k + 1) (ptrCs ls ++ [.pointer (some ⟨l, 0, none⟩)])) (hg : w3.grownBy w4 v.ownBlock) (hn : v'.ownBlock = v.ownBlock ∨ ∀ b, v'.ownBlock = some b → w3.heap.size ≤ b) :
    (∃ o', OpSt B sa w0 kb c txt x C D m rg lv L vt o0 wa v' (k + 1) (ls ++ [l]) o' (w4.setCell ⟨kb, 8, none⟩ v')) ∧ (∃ u, w4.cell? ⟨kb, 8, none⟩ = some u) ∧ ∀ f, w4.frozen? ⟨kb, f, none⟩ = false := by
  have k3 : Keep (fun _ => False) w w3 := below_keep hb
  have k4 : Keep (fun b => some b = v.ownBlock) w3 w4 := Keep.of_grown hg
  have hl3 := lt_of_get hl
  have hkb := lt_of_get h.box
  have b3 := k3.get h.box (fun h => h)
  have hkv : ¬ some kb = v.ownBlock := fun e => by have := h.vb kb e.symm; have := h.b.ok; omega
  have b4 := k4.get b3 hkv
  have bx : (w4.setCell ⟨kb, 8, none⟩ v').heap[kb]? = some (kpC x.d C x.ve c (.pointer (some ⟨rg, 0, none⟩)) v' vt txt) := by
    unfold kpC at b4 ⊢
    rw [get_setCell _ b4]; rfl
  have kk : Keep (· = kb) w4 (w4.setCell ⟨kb, 8, none⟩ v') := keep_set _ _ _ _
  have hsz : w4.heap.size = (w4.setCell ⟨kb, 8, none⟩ v').heap.size := by simp [World.setCell]
  obtain ⟨W, hW⟩ : ∃ W, W = w4.setCell ⟨kb, 8, none⟩ v' := ⟨_, rfl⟩
  rw [← hW] at bx kk hsz ⊢
  have s3 := k3.size
  have s4 := k4.size
  have bel := h.b.bel.size
  have kw : Keep (fun b => o b = 1 ∨ o b = 9) w W := by
    have e4 : Keep (fun b => o b = 1 ∨ o b = 9) w w4 := (k3.mono (fun _ _ h => h.elim)).step k4 (fun b hb _ => .inr (h.vb b hb.symm))
    exact e4.step kk (fun b hb _ => by rw [hb]; exact .inl h.b.ok)
  have s : Stp o (ext (ext o w.heap.size w3.heap.size (10 + 2 * k)) w3.heap.size w4.heap.size 9) (fun n => n = 1 ∨ n = 9) w0 w W := by
    refine ⟨kw, fun b hb => ?_, fun b hb => ?_, ?_⟩
    · rw [ext_old (by omega), ext_old hb]
    · unfold ext at hb
      by_cases e1 : w3.heap.size ≤ b ∧ b < w4.heap.size
      · omega
      · rw [if_neg e1] at hb
        by_cases e2 : w.heap.size ≤ b ∧ b < w3.heap.size
        · omega
        · rw [if_neg e2] at hb
          have := h.b.low b hb
          omega
    · refine h.b.bel.trans (kw.below bel (fun b hb => ?_))
      have : o b ≠ 0 := by omega
      exact (h.b.low b this).1
  have hlk : l ≠ kb := by omega
  have hlv : ¬ some l = v.ownBlock := fun e => by have := (h.row.lt l e.symm).2; omega
  have hl4 := kk.get (k4.get hl hlv) hlk
  refine ⟨⟨_, ⟨h.b.keep s (h.b.sen s (by decide)) (by decide) (by decide) (by decide) (by decide), bx, s.get h.rbox h.org (by decide), s.sl h.rrow (by decide), ?_, fun b hb => ?_, by rw [List.length_append, h.ln]; rfl, fun j l' y' h1 h2 => ?_, s.eq h.b.low h.org (by decide), h.fr.trans (s.fr (by decide))⟩⟩, ?_, ?_⟩
  · have e : ptrCs (ls ++ [l]) = ptrCs ls ++ [.pointer (some ⟨l, 0, none⟩)] := by simp [ptrCs]
    rw [e]
    refine ho.keep kk (fun b hb e => ?_)
    rcases hn with hn | hn
    · rw [hn] at hb
      rw [e] at hb
      exact hkv hb.symm
    · have := hn b hb
      omega
  · have hlt := (ho.lt b hb).2
    rcases hn with hn | hn
    · rw [hn] at hb
      exact s.eq h.b.low (h.vb b hb) (by decide)
    · exact ext_new (hn b hb) hlt
  · by_cases hj : j < ls.length
    · rw [List.getElem?_append_left hj] at h1
      have q := h.loc j l' y' h1 h2
      exact ⟨s.eq h.b.low q.1 (by omega), s.get q.2 q.1 (by omega)⟩
    · rw [List.getElem?_append_right (by omega)] at h1
      have hj0 : j - ls.length = 0 := by
        have := (List.getElem?_eq_some_iff.1 h1).1
        simpa using this
      have hjk : j = k := by have := h.ln; omega
      rw [hj0] at h1
      obtain rfl := Option.some.inj (show some l = some l' from h1)
      subst hjk
      rw [hy] at h2
      obtain rfl := Option.some.inj h2
      refine ⟨?_, hl4⟩
      rw [ext_old hl3, ext_new hlo hl3]
  · obtain ⟨_, _, _, _, _, _, _, _, q8, _⟩ := kp_cells b4
    exact ⟨_, q8⟩
  · obtain ⟨_, _, _, _, _, _, _, _, _, _, _, qf⟩ := kp_cells b4
    exact qf
theorem OpSt.done {tb : Nat} (h : OpSt B sa w0 kb c txt x C D m rg lv L vt o0 wa v k ls o w) (hk : k = x.X.length) (hb : Below w.heap.size w w1) (ht : TotalAt w1 tb C.delay 0 .ok) (hn : w.heap.size ≤ tb) :
    ∃ o', KpIn B sa w0 kb c txt ⟨x.d, x.rb, x.cap, rg, tb, lv, x.ve, v, x.X, ls⟩ ⟨C, D, m, L, false, List.replicate C.ents.length none, 0, .ok⟩ o' (w1.setCell ⟨kb, 9, none⟩ (.pointer (some ⟨tb, 0, none⟩))) ∧ Fr o0 o' wa (w1.setCell ⟨kb, 9, none⟩ (.pointer (some ⟨tb, 0, none⟩))) := by
  have k1 : Keep (fun _ => False) w w1 := below_keep hb
  have hkb := lt_of_get h.box
  have htl := lt_of_get ht
  have b1 := k1.get h.box (fun h => h)
  have bx : (w1.setCell ⟨kb, 9, none⟩ (.pointer (some ⟨tb, 0, none⟩))).heap[kb]? = some (kpC x.d C x.ve c (.pointer (some ⟨rg, 0, none⟩)) v (.pointer (some ⟨tb, 0, none⟩)) txt) := by
    unfold kpC at b1 ⊢
    rw [get_setCell _ b1]; rfl
  have kk : Keep (· = kb) w1 (w1.setCell ⟨kb, 9, none⟩ (.pointer (some ⟨tb, 0, none⟩))) := keep_set _ _ _ _
  have hsz : w1.heap.size = (w1.setCell ⟨kb, 9, none⟩ (.pointer (some ⟨tb, 0, none⟩))).heap.size := by simp [World.setCell]
  obtain ⟨W, hW⟩ : ∃ W, W = w1.setCell ⟨kb, 9, none⟩ (.pointer (some ⟨tb, 0, none⟩)) := ⟨_, rfl⟩
  rw [← hW] at bx kk hsz ⊢
  have s1 := k1.size
  have bel := h.b.bel.size
  have kw : Keep (fun b => o b = 1) w W := (k1.mono (fun _ _ h => h.elim)).step kk (fun b hb _ => by rw [hb]; exact h.b.ok)
  have s : Stp o (ext o w.heap.size w1.heap.size 7) (fun n => n = 1) w0 w W := by
    refine ⟨kw, fun b hb => ext_old hb, fun b hb => ?_, ?_⟩
    · unfold ext at hb
      by_cases e1 : w.heap.size ≤ b ∧ b < w1.heap.size
      · omega
      · rw [if_neg e1] at hb
        have := h.b.low b hb
        omega
    · refine h.b.bel.trans (kw.below bel (fun b hb => ?_))
      have : o b ≠ 0 := by omega
      exact (h.b.low b this).1
  have hce : C.ents.length = x.X.length := by rw [h.b.xe, List.length_map]
  have hln := h.ln
  refine ⟨_, ⟨(h.b.keep s (h.b.sen s (by decide)) (by decide) (by decide) (by decide) (by decide)).re _ _ _ _ _, bx, s.get h.rbox h.org (by decide), s.sl h.rrow (by decide), ?_, ⟨by show ls.length = x.X.length; omega, by show (List.replicate C.ents.length (none : Option LocM)).length = x.X.length; rw [List.length_replicate, hce]⟩,
    fun j l y h1 h2 => ?_, kk.get ht (fun e => by have e2 : tb = kb := e; omega), s.eq h.b.low h.org (by decide), ext_new hn htl⟩, h.fr.trans (s.fr (by decide))⟩
  · have hr := h.row.stay s h.vb (by decide)
    have hk2 : k = ls.length := hln.symm
    rw [hk2] at hr
    refine hr.slOf.reR (fun b hb _ => ?_)
    exact s.eq h.b.low (h.vb b hb) (by decide)
  · have q := h.loc j l y h1 h2
    have hg : kpGet ⟨C, D, m, L, false, List.replicate C.ents.length none, 0, .ok⟩ j = none := by
      unfold kpGet
      rw [List.getD_eq_getElem?_getD, List.getElem?_replicate]
      split <;> rfl
    rw [hg]
    exact ⟨s.eq h.b.low q.1 (by omega), 0, 0, fun b _ h => by omega, s.get q.2 q.1 (by omega)⟩
end
end Go.Proofs.YtikehilbmldadaaGreatDoor
namespace Go.Proofs.YtikehilbmldadaaGreatDoor
open Go.RowKit
set_option linter.unusedVariables false
def HeavyC (X : List EntX) : Prop := 12 < X.length ∨ ∃ x ∈ X, Heavy x.E
instance (X : List EntX) : Decidable (HeavyC X) := by unfold HeavyC; infer_instance
end Go.Proofs.YtikehilbmldadaaGreatDoor
namespace Go.Proofs.YtikehilbmldadaaGreatDoor
open Go.RowKit
set_option linter.unusedVariables false
theorem EntSl.imp {R S : Nat → Prop} {w : World} {E : EntV} {vp vg ve vf vl : Value} (h : EntSl R w E vp vg ve vf vl) (hd : ∀ b, R b → b < w.heap.size → S b) : EntSl S w E vp vg ve vf vl := by
  have k : ∀ {v : Value} {sz : Nat} {cs : List Value} {n : Nat}, SlOf R w v sz cs n → SlOf S w v sz cs n := by
    intro v sz cs n h
    obtain ⟨hl, ao, cap, hv, h1, h2, h3, h4⟩ := h
    refine ⟨hl, ao, cap, hv, h1, h2, h3, fun hp => ?_⟩
    obtain ⟨b, off, ha, hR, hb, hc⟩ := h4 hp
    exact ⟨b, off, ha, hd b hR hb, hb, hc⟩
  exact ⟨k h.p, k h.g, k h.e, k h.f, k h.l⟩
theorem OwnAt.mono {w : World} {base base' : Nat} {e : TypeId} {size : Nat} {v : Value} {n : Nat} {xs : List Value} (h : OwnAt w base e size v n xs) (hb : base' ≤ base) : OwnAt w base' e size v n xs := by
  refine ⟨h.1, ?_⟩
  rcases h.2 with hn | ⟨g, off, cap, cur, h1, h2, h3⟩
  · exact .inl hn
  · exact .inr ⟨g, off, cap, cur, h1, Nat.le_trans hb h2, h3⟩
structure OwnX (base : Nat) (w : World) (v : Value) (Y : List EntX) : Prop where
  row : OwnAt w base 50 10 v Y.length (Y.flatMap entXCells)
  each : ∀ y ∈ Y, EntSl (fun b => base ≤ b ∧ v.ownBlock ≠ some b) w y.E y.p y.g y.e y.f y.l
theorem OwnX.nil (base : Nat) (w : World) : OwnX base w (.slice none 0 0) [] := ⟨⟨rfl, .inl ⟨rfl, rfl⟩⟩, fun y hy => (by cases hy)⟩
theorem OwnX.keep {base : Nat} {S : Nat → Prop} {w w' : World} {v : Value} {Y : List EntX} (h : OwnX base w v Y) (k : Keep S w w') (hS : ∀ b, base ≤ b → b < w.heap.size → ¬ S b) : OwnX base w' v Y := by
  refine ⟨h.row.keep k (fun b hb => hS b (h.row.lt b hb).1 (h.row.lt b hb).2), fun y hy => ?_⟩
  exact (((h.each y hy).imp (S := fun b => (base ≤ b ∧ v.ownBlock ≠ some b) ∧ b < w.heap.size) (fun b hb hl => ⟨hb, hl⟩)).keep k (fun b hb => hS b hb.1.1 hb.2)).imp (fun b hb _ => hb.1)
theorem OwnX.later {base : Nat} {w w' : World} {v : Value} {Y : List EntX} (h : OwnX base w v Y) (b : Below w.heap.size w w') : OwnX base w' v Y :=
  h.keep (below_keep b) (fun _ _ _ h => h)
theorem OwnX.mono {base base' : Nat} {w : World} {v : Value} {Y : List EntX} (h : OwnX base w v Y) (hb : base' ≤ base) : OwnX base' w v Y :=
  ⟨h.row.mono hb, fun y hy => (h.each y hy).imp (fun b h _ => ⟨Nat.le_trans hb h.1, h.2⟩)⟩
theorem OwnX.ents {base : Nat} {w : World} {v : Value} {Y : List EntX} (h : OwnX base w v Y) : EntsSl (fun b => base ≤ b ∧ b < w.heap.size) w v Y := by
  refine ⟨?_, fun y hy => (h.each y hy).imp (fun b h hl => ⟨h.1, hl⟩)⟩
  obtain ⟨hl, ao, cap, hv, h1, h2, h3, h4⟩ := h.row.slOf
  refine ⟨hl, ao, cap, hv, h1, h2, h3, fun hp => ?_⟩
  obtain ⟨b, off, ha, hR, hb, hc⟩ := h4 hp
  exact ⟨b, off, ha, ⟨hR.1, hb⟩, hb, hc⟩
theorem OwnX.app {base : Nat} {w w1 : World} {v : Value} {Y : List EntX} (h : OwnX base w v Y) {y : EntX} (hy : EntSl (fun b => base ≤ b ∧ v.ownBlock ≠ some b) w y.E y.p y.g y.e y.f y.l) {v1 : Value}
    (ho : OwnAt w1 base 50 10 v1 (Y.length + 1) (Y.flatMap entXCells ++ entXCells y)) (hg : w.grownBy w1 v.ownBlock) (hn : v1.ownBlock = v.ownBlock ∨ ∀ b, v1.ownBlock = some b → w.heap.size ≤ b) : OwnX base w1 v1 (Y ++ [y]) := by
  refine ⟨by rw [List.length_append, List.flatMap_append]; simpa using ho, fun z hz => ?_⟩
  have hz' : EntSl (fun b => base ≤ b ∧ v.ownBlock ≠ some b) w z.E z.p z.g z.e z.f z.l := by
    rcases List.mem_append.1 hz with hz | hz
    · exact h.each z hz
    · obtain rfl := List.mem_singleton.1 hz
      exact hy
  refine ((hz'.imp (S := fun b => (base ≤ b ∧ v.ownBlock ≠ some b) ∧ b < w.heap.size) (fun b hb hl => ⟨hb, hl⟩)).keep (Keep.of_grown hg) (fun b hb (h : some b = v.ownBlock) => hb.1.2 h.symm)).imp (fun b hb _ => ⟨hb.1.1, fun hh => ?_⟩)
  rcases hn with hn | hn
  · exact hb.1.2 (by rw [← hn]; exact hh)
  · have := hn b hh
    have := hb.2
    omega
structure OwnCs (w0 : World) (C : ConfV) (vX v : Value) (Y : List EntX) (w : World) : Prop where
  below : Below w0.heap.size w0 w
  h0 : w.heap[w0.heap.size]? = some (.cells (confCs C vX) 30)
  h1 : w.heap[w0.heap.size + 1]? = some (.cells (confCs ⟨0, 0, 0, 0, []⟩ (.slice none 0 0)) 30)
  h2 : w.heap[w0.heap.size + 1 + 1]? = some (.cells (confCs C v) 30)
  own : OwnX (w0.heap.size + 3) w v Y
theorem OwnCs.later {w0 w w' : World} {C : ConfV} {vX v : Value} {Y : List EntX} (h : OwnCs w0 C vX v Y w) (b : Below w.heap.size w w') : OwnCs w0 C vX v Y w' :=
  ⟨h.below.trans (b.mono h.below.size), below_get b h.h0 (lt_of_get h.h0), below_get b h.h1 (lt_of_get h.h1), below_get b h.h2 (lt_of_get h.h2), h.own.later b⟩
theorem OwnCs.next {w0 wA w1 : World} {C : ConfV} {vX v : Value} {Y : List EntX} (h : OwnCs w0 C vX v Y wA) {y : EntX} (hy : EntSl (fun b => w0.heap.size + 3 ≤ b ∧ v.ownBlock ≠ some b) wA y.E y.p y.g y.e y.f y.l) {v1 : Value}
    (ho : OwnAt w1 (w0.heap.size + 3) 50 10 v1 (Y.length + 1) (Y.flatMap entXCells ++ entXCells y)) (hg : wA.grownBy w1 v.ownBlock) (hn : v1.ownBlock = v.ownBlock ∨ ∀ b, v1.ownBlock = some b → wA.heap.size ≤ b) :
    OwnCs w0 C vX v1 (Y ++ [y]) (w1.setCell ⟨w0.heap.size + 1 + 1, 4, none⟩ v1) ∧ (∃ c, w1.cell? ⟨w0.heap.size + 1 + 1, 4, none⟩ = some c) ∧ ∀ o, w1.frozen? ⟨w0.heap.size + 1 + 1, o, none⟩ = false := by
  have kg := Keep.of_grown hg
  have hnb : ∀ b, b < w0.heap.size + 3 → ¬ some b = v.ownBlock := fun b hb hh => by have := (h.own.row.lt b hh.symm).1; omega
  have g2 := kg.get h.h2 (hnb _ (by omega))
  have kv := keep_set w1 (w0.heap.size + 1 + 1) 4 v1
  have hsz := h.below.size
  refine ⟨⟨?_, kv.get (kg.get h.h0 (hnb _ (by omega))) (by omega), kv.get (kg.get h.h1 (hnb _ (by omega))) (by omega), ?_, (h.own.app hy ho hg hn).keep kv (fun b hb _ => by omega)⟩, ⟨v, by simp [World.cell?, g2, confCs]⟩, fun o => by simp [World.frozen?, g2]⟩
  · exact h.below.trans ((kg.below hsz (fun b hb => by have := (h.own.row.lt b (Eq.symm hb)).1; omega)).trans (kv.below (Nat.le_trans hsz kg.size) (by intro j hj; omega)))
  · rw [get_setCell _ g2]
    rfl
end Go.Proofs.YtikehilbmldadaaGreatDoor
