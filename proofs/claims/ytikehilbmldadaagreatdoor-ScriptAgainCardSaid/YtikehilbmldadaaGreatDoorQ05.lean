import Derived.Test.YtikehilbmldadaaGreatDoorQ04
set_option maxHeartbeats 4000000
set_option maxRecDepth 100000
namespace Go.Proofs.YtikehilbmldadaaGreatDoor
open Go.RowKit
set_option linter.unusedVariables false
theorem SlOf.later {R : Nat → Prop} {w w' : World} {v : Value} {sz : Nat} {cs : List Value} {n : Nat} (h : SlOf R w v sz cs n) (k : Below w.heap.size w w') : SlOf R w' v sz cs n := by
  obtain ⟨hl, ao, cap, hv, h1, h2, h3, h4⟩ := h
  refine ⟨hl, ao, cap, hv, h1, h2, h3, fun hp => ?_⟩
  obtain ⟨b, off, ha, hR, hb, hc⟩ := h4 hp
  exact ⟨b, off, ha, hR, Nat.lt_of_lt_of_le hb k.size, fun j u hu => by rw [k.cell (p := ⟨b, off + j, none⟩) hb]; exact hc j u hu⟩
structure RSt (B : Nat) (sa : Nat → Addr) (w0 : World) (rg c rb cap : Nat) (m : CM) (dead : Bool) (L : List RecV) (lv : Value) (w : World) : Prop where
  ring : RingBox w rg c lv dead L (fun b => b ≠ c ∧ b ≠ rb ∧ b ≠ rg)
  mem : CellsAt w c rb (some ⟨rb, 0, none⟩) cap m
  se : SentsR B sa w
  bel : Below w0.heap.size w0 w
  lay : w0.heap.size ≤ c ∧ w0.heap.size ≤ rb ∧ w0.heap.size ≤ rg ∧ B ≤ w0.heap.size ∧ rg ≠ c ∧ rg ≠ rb
section
variable {B : Nat} {sa : Nat → Addr} {w0 w w' : World} {rg c rb cap : Nat} {m m' : CM} {dead : Bool} {L : List RecV} {lv : Value}
theorem RSt.below (h : RSt B sa w0 rg c rb cap m dead L lv w) (b : Below w.heap.size w w') : RSt B sa w0 rg c rb cap m dead L lv w' :=
  ⟨⟨below_get b h.ring.box (lt_of_get h.ring.box), h.ring.row.later b⟩, h.mem.keep (below_keep b) (fun _ h => h.elim), h.se.below b, h.bel.trans (b.mono h.bel.size), h.lay⟩
theorem RSt.write (h : RSt B sa w0 rg c rb cap m dead L lv w) (k : Keep (fun b => b = c ∨ b = rb) w w') (h' : CellsAt w' c rb (some ⟨rb, 0, none⟩) cap m') : RSt B sa w0 rg c rb cap m' dead L lv w' := by
  obtain ⟨l1, l2, l3, l4, l5, l6⟩ := h.lay
  exact ⟨⟨k.get h.ring.box (by rintro (e | e); exact l5 e; exact l6 e), h.ring.row.keep k (fun b hb hs => by rcases hs with e | e; exact hb.1 e; exact hb.2.1 e)⟩, h', h.se.keep k (fun b hb => by rcases hb with rfl | rfl <;> omega), h.bel.trans (k.below h.bel.size (fun b hb => by rcases hb with rfl | rfl <;> omega)), h.lay⟩
theorem RSt.box (h : RSt B sa w0 rg c rb cap m dead L lv w) (k : Keep (· = rg) w w') {lv' : Value} {dead' : Bool} {L' : List RecV} (hb : w'.heap[rg]? = some (ringC c lv' dead')) (hr : SlOf (fun b => b ≠ c ∧ b ≠ rb ∧ b ≠ rg) w' lv' 4 (L'.flatMap recCells) L'.length) : RSt B sa w0 rg c rb cap m dead' L' lv' w' := by
  obtain ⟨l1, l2, l3, l4, l5, l6⟩ := h.lay
  exact ⟨⟨hb, hr⟩, h.mem.keep k (fun b hb => by subst hb; exact ⟨l5, l6⟩), h.se.keep k (fun b hb => by subst hb; omega), h.bel.trans (k.below h.bel.size (fun b hb => by subst hb; omega)), h.lay⟩
theorem RSt.fin2 (h : RSt B sa w0 rg c rb cap m dead L lv w) (k : Keep (fun b => b = c ∨ b = rb ∨ b = rg ∨ w.heap.size ≤ b) w w') {dead' : Bool} {lv' : Value} {L' : List RecV} (hb : w'.heap[rg]? = some (ringC c lv' dead')) (hm : CellsAt w' c rb (some ⟨rb, 0, none⟩) cap m')
    (hr : SlOf (fun b => b ≠ c ∧ b ≠ rb ∧ b ≠ rg) w' lv' 4 (L'.flatMap recCells) L'.length) : RSt B sa w0 rg c rb cap m' dead' L' lv' w' := by
  obtain ⟨l1, l2, l3, l4, l5, l6⟩ := h.lay
  have ht := h.se.top
  have hz := h.bel.size
  exact ⟨⟨hb, hr⟩, hm, h.se.keep k (fun b hb => by omega), h.bel.trans (k.below h.bel.size (fun b hb => by omega)), h.lay⟩
theorem RSt.fin (h : RSt B sa w0 rg c rb cap m dead L lv w) (k : Keep (fun b => b = c ∨ b = rb ∨ b = rg ∨ w.heap.size ≤ b) w w') {dead' : Bool} (hb : w'.heap[rg]? = some (ringC c lv dead')) (hm : CellsAt w' c rb (some ⟨rb, 0, none⟩) cap m') : RSt B sa w0 rg c rb cap m' dead' L lv w' := by
  obtain ⟨l1, l2, l3, l4, l5, l6⟩ := h.lay
  have ht := h.se.top
  have hz := h.bel.size
  refine ⟨⟨hb, ?_⟩, hm, h.se.keep k (fun b hb => by omega), h.bel.trans (k.below h.bel.size (fun b hb => by omega)), h.lay⟩
  obtain ⟨hl, ao, cp, hv, h1, h2, h3, h4⟩ := h.ring.row
  refine ⟨hl, ao, cp, hv, h1, h2, h3, fun hp => ?_⟩
  obtain ⟨b, off, ha, hR, hbl, hc⟩ := h4 hp
  have hn : ¬ (b = c ∨ b = rb ∨ b = rg ∨ w.heap.size ≤ b) := by have := hR.1; have := hR.2.1; have := hR.2.2; omega
  exact ⟨b, off, ha, hR, Nat.lt_of_lt_of_le hbl k.size, fun j u hu => by rw [k.cell (p := ⟨b, off + j, none⟩) hbl hn]; exact hc j u hu⟩
end
def NewV (w w' : World) (v : Value) : Prop := ∀ b, v.ownBlock = some b → w.heap.size ≤ b ∧ b < w'.heap.size
theorem keep_newer {w w' : World} {c rb rg : Nat} (h : Below w.heap.size w w') : Keep (fun b => b = c ∨ b = rb ∨ b = rg ∨ w.heap.size ≤ b) w w' := (Keep.of_below h).mono (fun b _ hb => .inr (.inr (.inr hb)))
def appOk (e k t : Int) : Bool := decide (0 ≤ e ∧ e ≤ 255 ∧ 0 ≤ k ∧ k ≤ 255 ∧ 0 ≤ t ∧ t < 281474976710656)
def recNew (L : List RecV) (e k t : Int) : RecV := ⟨(lastZ L).seq + 1, e.toNat, k.toNat, t.toNat⟩
def ringApp (m : CM) (L : List RecV) (dead : Bool) (e k t : Int) : Nat × RecV × CM × List RecV × Bool :=
  if dead = true then (8, ⟨0, 0, 0, 0⟩, m, L, true) else if appOk e k t = false then (2, ⟨0, 0, 0, 0⟩, m, L, false) else if 4294967296 ≤ (lastZ L).seq + 1 then (7, ⟨0, 0, 0, 0⟩, m, L, false)
  else if (ringPut m (recNew L e k t)).1 = 0 then (0, recNew L e k t, (ringPut m (recNew L e k t)).2, (L ++ [recNew L e k t]).drop (L.length + 1 - 8), false)
  else ((ringPut m (recNew L e k t)).1, ⟨0, 0, 0, 0⟩, (ringPut m (recNew L e k t)).2, L, true)
theorem owns_base {w : World} {b b' : Nat} {e : TypeId} {size : Nat} {v : Value} {n : Nat} {xs : List Value} (h : w.ownsRow b e size v n xs) (hb : b' ≤ b) : w.ownsRow b' e size v n xs := by
  refine ⟨h.1, ?_⟩
  rcases h.2 with hn | ⟨g, cap, cur, rfl, hg, rest⟩
  · exact .inl hn
  · exact .inr ⟨g, cap, cur, rfl, Nat.le_trans hb hg, rest⟩
theorem grown_low {w0 W w6 : World} {e : TypeId} {size n : Nat} {v : Value} {xs : List Value} (h : Below w0.heap.size w0 W) (ho : W.ownsRow w0.heap.size e size v n xs) (hg : W.grownBy w6 v.ownBlock) : Below w0.heap.size w0 w6 :=
  h.grown hg h.size (fun k hk => (ho.lt k hk).1)
theorem run_from_recs (w : World) (g N cap lo : Nat) (h1 : lo < cap) (h2 : lo ≤ N) :
    (Instr.slice 68 (.slice (some ⟨g, 0, none⟩) N cap) (some (.int .i64 lo)) none none).run Tryz.prog w = .ok (.slice (some ⟨g, lo * 4, none⟩) (N - lo) (cap - lo)) w := by
  have ht : Tryz.prog.underlying 68 = some (.slice (Tryz.prog.elem 68)) := by kernel_rfl
  have hs : ((sizeOf (Tryz.prog.elem 68)).run Tryz.prog w) = .ok 4 w := by kernel_rfl
  rw [run_slice_l w 68 (some ⟨g, 0, none⟩) N cap ht .i64 lo (by omega) (by omega), hs]
  show Result.ok (sliced _ _ _ _ _) w = _
  unfold sliced
  rw [show ((lo : Int)).toNat = lo from by omega, if_neg (by omega)]
  show Result.ok (Value.slice (some (Addr.add ⟨g, 0, none⟩ (lo * 4))) _ _) w = _
  rw [addr_add, Nat.zero_add]
theorem flat_drop (l : List RecV) (k : Nat) : (l.drop k).flatMap recCells = (l.flatMap recCells).drop (k * 4) := by
  induction k generalizing l with
  | zero => simp
  | succ k ih =>
    cases l with
    | nil => simp
    | cons x l =>
      rw [List.drop_succ_cons, ih, List.flatMap_cons, show (k + 1) * 4 = 4 + k * 4 by omega, ← List.drop_drop]
      congr 1
theorem slOf_drop {R : Nat → Prop} {w : World} {g cp : Nat} {l : List RecV} (h : SlOf R w (.slice (some ⟨g, 0, none⟩) l.length cp) 4 (l.flatMap recCells) l.length) (lo : Nat) (hlo : lo < l.length) :
    SlOf R w (.slice (some ⟨g, lo * 4, none⟩) (l.length - lo) (cp - lo)) 4 ((l.drop lo).flatMap recCells) (l.drop lo).length := by
  obtain ⟨hl, ao, cap, hv, h1, h2, h3, h4⟩ := h
  obtain ⟨rfl, rfl, rfl⟩ := hv
  obtain ⟨b, off, ha, hR, hb, hc⟩ := h4 (by rw [flat_recs]; omega)
  obtain ⟨rfl, rfl, _⟩ := Option.some.inj ha
  rw [List.length_drop]
  refine ⟨by rw [flat_recs, List.length_drop], _, _, rfl, by omega, by omega, (fun h => by cases h), fun _ => ⟨g, lo * 4, rfl, hR, hb, fun k u hu => ?_⟩⟩
  rw [flat_drop, List.getElem?_drop] at hu
  have := hc _ _ hu
  rwa [Nat.zero_add] at this
theorem owned_slice {w : World} {base : Nat} {e : TypeId} {size n cap : Nat} {ao : Option Addr} {xs : List Value} (h : w.ownsRow base e size (.slice ao n cap) n xs) (hn : 0 < n) : ∃ g, ao = some ⟨g, 0, none⟩ ∧ base ≤ g ∧ n ≤ cap := by
  obtain ⟨_, hv⟩ := h
  rcases hv with ⟨h1, h2⟩ | ⟨g, cap', cur, hv, hb, hg, h1, h2, _⟩
  · omega
  · injection hv with e1 e2 e3
    exact ⟨g, e1, hb, by omega⟩
theorem news_later {w w' : World} {a : Addr} {l : List Value} (b : Below w.heap.size w w') (h : ∀ j u, l[j]? = some u → w.cell? (a.add j) = some u) : ∀ j u, l[j]? = some u → w'.cell? (a.add j) = some u := fun j u hu => by
  have := h j u hu
  rw [World.cell?_of_block (w := w) (b.block _ (World.block_lt_of_cell? _ _ this))]; exact this
theorem five_later {w w' : World} {a b : Nat} {u0 u1 u2 u3 u4 : Value} (k : Below w.heap.size w w') (h : w.cell? ⟨a, 1, none⟩ = some u0 ∧ w.cell? ⟨b, 0, none⟩ = some u1 ∧ w.cell? ⟨b, 1, none⟩ = some u2 ∧ w.cell? ⟨b, 2, none⟩ = some u3 ∧ w.cell? ⟨b, 3, none⟩ = some u4) :
    w'.cell? ⟨a, 1, none⟩ = some u0 ∧ w'.cell? ⟨b, 0, none⟩ = some u1 ∧ w'.cell? ⟨b, 1, none⟩ = some u2 ∧ w'.cell? ⟨b, 2, none⟩ = some u3 ∧ w'.cell? ⟨b, 3, none⟩ = some u4 := by
  have f : ∀ {p : Addr} {u : Value}, w.cell? p = some u → w'.cell? p = some u := fun {p u} h => (k.cell (World.block_lt_of_cell? _ p h)).trans h
  exact ⟨f h.1, f h.2.1, f h.2.2.1, f h.2.2.2.1, f h.2.2.2.2⟩
theorem keep_set4 (w : World) (z : Nat) (a b c d : Value) : Keep (· = z) w ((((w.setCell ⟨z, 0, none⟩ a).setCell ⟨z, 1, none⟩ b).setCell ⟨z, 2, none⟩ c).setCell ⟨z, 3, none⟩ d) :=
  ((keep_more (keep_more (keep_set w z 0 a) 1 b) 2 c)).trans (keep_set _ z 3 d)
theorem two_boxes (w : World) (a b : Obj) : ((w.alloc a).alloc b).heap[w.heap.size]? = some a ∧ ((w.alloc a).alloc b).heap[w.heap.size + 1]? = some b ∧ Below w.heap.size w ((w.alloc a).alloc b) ∧ ((w.alloc a).alloc b).heap.size = w.heap.size + 2 := by
  have n1 := get_alloc_new (w.alloc a) b
  rw [World.size_alloc] at n1
  exact ⟨get_alloc_old _ (get_alloc_new _ _), n1, ((Below.refl _ _).alloc (Nat.le_refl _) _).alloc (by simp) _, by simp⟩
theorem below_set4 {w w1 : World} (h : Below w.heap.size w w1) {a b c d : Value} : Below w.heap.size w ((((w1.setCell ⟨w.heap.size, 0, none⟩ a).setCell ⟨w.heap.size, 1, none⟩ b).setCell ⟨w.heap.size, 2, none⟩ c).setCell ⟨w.heap.size, 3, none⟩ d) :=
  (((h.setCell (p := ⟨w.heap.size, 0, none⟩) (Nat.le_refl _) _).setCell (p := ⟨w.heap.size, 1, none⟩) (Nat.le_refl _) _).setCell (p := ⟨w.heap.size, 2, none⟩) (Nat.le_refl _) _).setCell (p := ⟨w.heap.size, 3, none⟩) (Nat.le_refl _) _
theorem ringAppend_any (B : Nat) (sa : Nat → Addr) (w0 : World) (rg c rb cap : Nat) (m : CM) (dead : Bool) (L : List RecV) (lv : Value) (en kd tk : Int) (kk : Int) (w : World) (h : RSt B sa w0 rg c rb cap m dead L lv w) (hk : CMOk m kk) (hk2 : kk ≤ 900000000) (hl : 153 ≤ m.bs.length) (hL : L.length ≤ 100) (hS : (lastZ L).seq < 4294967296) :
    Calls Tryz.prog 152 #[.pointer (some ⟨rg, 0, none⟩), .int .i64 en, .int .i64 kd, .int .i64 tk] w fun e w' => e = .returned (.tuple #[recAgg (ringApp m L dead en kd tk).2.1, errv sa (ringApp m L dead en kd tk).1]) ∧
      ∃ lv', RSt B sa w0 rg c rb cap (ringApp m L dead en kd tk).2.2.1 (ringApp m L dead en kd tk).2.2.2.2 (ringApp m L dead en kd tk).2.2.2.1 lv' w' ∧ Keep (fun b => b = c ∨ b = rb ∨ b = rg ∨ w.heap.size ≤ b) w w' ∧ (lv' = lv ∨ NewV w w' lv') := by
  have ba : Below w.heap.size w (w.alloc (recC ⟨0, 0, 0, 0⟩)) := (Below.refl _ _).alloc (Nat.le_refl _) _
  have na := get_alloc_new w (recC ⟨0, 0, 0, 0⟩)
  have HK0 := Lib.hid h
  have HK1 := Lib.hid (h.below ba)
  have HN := Lib.hid na
  have HBA := Lib.hid ba
  clear h ba na
  unfold recC at HK1 HN HBA
  go_enter Tryz.func152, Tryz.ntmps152
  go_upto_region 1 with fail
  generalize w.alloc _ = w1 at HK1 HN HBA ⊢
  obtain ⟨r0, r1, r2, rf⟩ := ring_cells HK1.out.ring.box
  obtain ⟨z0, z1, z2, z3⟩ := four_cells HN.out
  have zf : ∀ o, w1.frozen? ⟨w.heap.size, o, none⟩ = false := fun o => frozen_of HN.out
  obtain ⟨g1, g2, g6, g7, nb, _⟩ := HK1.out.se
  have hBw : B ≤ w.heap.size := HK0.out.se.top
  have e1 : ¬ 0 = w.heap.size := by have := nb.1; omega
  have e6 : ¬ 6 = w.heap.size := by have := nb.2.2.1; omega
  have e7 : ¬ 7 = w.heap.size := by have := nb.2.2.2; omega
  have f1 : ¬ w.heap.size = 0 := fun h => e1 h.symm
  have f6 : ¬ w.heap.size = 6 := fun h => e6 h.symm
  have f7 : ¬ w.heap.size = 7 := fun h => e7 h.symm
  clear nb
  cases dead with
  | true =>
    have HE : Hid (ringApp m L true en kd tk = (8, ⟨0, 0, 0, 0⟩, m, L, true)) := (rfl : ringApp m L true en kd tk = (8, ⟨0, 0, 0, 0⟩, m, L, true))
    go_wp2_with fail
    go_region
    all_goals
      go_wp2_with fail
      refine bodyPost_ret (v := .tuple #[recAgg ⟨0, 0, 0, 0⟩, errv sa 8]) (by simp [recAgg, errv, results, Tryz.results152, go_sem, z0, z1, z2, z3, World.cell?_setCell_same, World.cell?_setCell_other]) rfl ?_
      rw [HE.out]
      exact ⟨rfl, lv, HK0.out.below (below_set4 HBA.out).drew, keep_newer (below_set4 HBA.out).drew, .inl rfl⟩
  | false =>
  by_cases hok : appOk en kd tk = true
  · have hb : 0 ≤ en ∧ en ≤ 255 ∧ 0 ≤ kd ∧ kd ≤ 255 ∧ 0 ≤ tk ∧ tk < 281474976710656 := of_decide_eq_true hok
    have hR0 : ringApp m L false en kd tk = if 4294967296 ≤ (lastZ L).seq + 1 then (7, ⟨0, 0, 0, 0⟩, m, L, false)
      else if (ringPut m (recNew L en kd tk)).1 = 0 then (0, recNew L en kd tk, (ringPut m (recNew L en kd tk)).2, (L ++ [recNew L en kd tk]).drop (L.length + 1 - 8), false) else ((ringPut m (recNew L en kd tk)).1, ⟨0, 0, 0, 0⟩, (ringPut m (recNew L en kd tk)).2, L, true) := by
      unfold ringApp
      rw [if_neg (by decide), hok, if_neg (by decide)]
    have HR := Lib.hid hR0
    clear hR0
    obtain ⟨b1, b2, b3, b4, b5, b6⟩ := hb
    clear hok
    go_wp2_with fail
    refine (ringLast_any w1 rg c lv false L (fun b => b < w1.heap.size) ⟨HK1.out.ring.box, HK1.out.ring.row.here⟩ (fun b h => h) (by omega)).mono ?_
    rintro e w2 ⟨rfl, bb⟩
    obtain ⟨E, rfl⟩ : ∃ E : Nat, en = E := ⟨en.toNat, by omega⟩
    obtain ⟨K, rfl⟩ : ∃ K : Nat, kd = K := ⟨kd.toNat, by omega⟩
    obtain ⟨T, rfl⟩ : ∃ T : Nat, tk = T := ⟨tk.toNat, by omega⟩
    obtain ⟨x, hx⟩ : ∃ x, x = recNew L E K T := ⟨_, rfl⟩
    rw [← hx] at HR
    obtain ⟨S, hSS⟩ : ∃ S, S = (lastZ L).seq := ⟨_, rfl⟩
    have HX : Hid (x = ⟨S + 1, E, K, T⟩) := (show x = ⟨S + 1, E, K, T⟩ from by rw [hx, hSS]; rfl)
    have hba2 := Lib.hid (HBA.out.trans (bb.mono HBA.out.size))
    have HN2 := Lib.hid (below_get bb HN.out (lt_of_get HN.out))
    have q3 := two_boxes w2 (recC (lastZ L)) (.cells #[.int .i64 ((S : Int) + 1), .int .i64 E, .int .i64 K, .int .i64 T] 147)
    unfold recC at q3
    unfold recAgg
    rw [← hSS] at q3 HR hS ⊢
    clear r0 r1 r2 rf z0 z1 z2 z3 zf g1 g2 g6 g7 HBA HN bb HK1 hx hSS
    have eS : Hid (((S : Int) + 1) = ((S + 1 : Nat) : Int)) := (show ((S : Int) + 1) = ((S + 1 : Nat) : Int) from by omega)
    have hS1 : (S : Int) + 1 ≤ 4294967296 := by omega
    go_upto_region 7 with fail
    generalize (w2.alloc _).alloc _ = w3 at q3 ⊢
    obtain ⟨q30, q31, q3b, q3s⟩ := q3
    have HX3 : Hid (w3.heap[w2.heap.size + 1]? = some (recC x)) := (show w3.heap[w2.heap.size + 1]? = some (recC x) from by rw [q31, HX.out, eS.out]; rfl)
    have HB3 := Lib.hid (hba2.out.trans (q3b.mono hba2.out.size))
    have HN3 := Lib.hid (below_get q3b HN2.out (lt_of_get HN2.out))
    have HK3 := Lib.hid (HK0.out.below HB3.out)
    obtain ⟨r0, r1, r2, rf⟩ := ring_cells HK3.out.ring.box
    obtain ⟨z0, z1, z2, z3⟩ := four_cells HN3.out
    have zf : ∀ o, w3.frozen? ⟨w.heap.size, o, none⟩ = false := fun o => frozen_of HN3.out
    obtain ⟨x0, x1, x2, x3⟩ := four_cells q31
    obtain ⟨g1, g2, g6, g7, _, _⟩ := HK3.out.se
    have hw2 : w.heap.size ≤ w2.heap.size := hba2.out.size
    clear q30 q31 q3b HN2 hba2 eS g1 g2
    by_cases hfull : 4294967296 ≤ S + 1
    · have hf2 : (4294967296 : Int) ≤ (S : Int) + 1 := by omega
      rw [if_pos hfull] at HR
      go_wp2_with fail
      go_region
      all_goals
        go_wp2_with fail
        refine bodyPost_ret (v := .tuple #[recAgg ⟨0, 0, 0, 0⟩, errv sa 7]) (by simp [recAgg, errv, results, Tryz.results152, go_sem, z0, z1, z2, z3, World.cell?_setCell_same, World.cell?_setCell_other]) rfl ?_
        rw [HR.out]
        exact ⟨rfl, lv, HK0.out.below (below_set4 HB3.out).drew, keep_newer (below_set4 HB3.out).drew, .inl rfl⟩
    have hf2 : decide ((4294967296 : Int) ≤ (S : Int) + 1) = false := decide_eq_false (by omega)
    rw [if_neg hfull] at HR
    have hxo : RecOk x := by rw [HX.out]; exact ⟨by show 1 ≤ S + 1; omega, by show S + 1 < _; omega, by show E < 256; omega, by show K < 256; omega, by show T < _; omega⟩
    have HXO := Lib.hid hxo
    have hBc : B ≤ c ∧ B ≤ rb := by have := HK0.out.lay; omega
    have HWR : Hid (Calls Tryz.prog 198 #[.pointer (some ⟨rg, 0, none⟩), .agg #[.int .i64 ((S : Int) + 1), .int .i64 E, .int .i64 K, .int .i64 T]] w3 fun e w' => e = .returned (errv sa (ringPut m x).1) ∧ RSt B sa w0 rg c rb cap (ringPut m x).2 false L lv w' ∧ Keep (fun b => b = c ∨ b = rb) w3 w') := (show _ from by
      have hwr := ringWrite_any B sa rg c rb cap lv false m x kk w3 HK3.out.ring.box HK3.out.mem HK3.out.se HK3.out.lay.2.2.2.2 hBc hxo hk hk2 hl
      rw [show recAgg x = .agg #[.int .i64 ((S : Int) + 1), .int .i64 E, .int .i64 K, .int .i64 T] from by rw [HX.out]; rfl] at hwr
      refine hwr.mono ?_
      rintro e w' ⟨rfl, h1, h2⟩
      exact ⟨rfl, HK3.out.write h2 h1, h2⟩)
    clear hxo hfull g6 g7 hS hS1
    have HF2 := Lib.hid hk
    have HHL := Lib.hid hl
    have HLN := Lib.hid hL
    clear b1 b2 b3 b4 b5 b6 hk hk2 hl hL
    obtain ⟨S1, hS1⟩ : ∃ S1 : Int, S1 = (S : Int) + 1 := ⟨_, rfl⟩
    rw [← hS1] at x0 hf2 HWR ⊢
    clear hS1
    go_wp2_with fail
    refine HWR.out.mono ?_
    rintro e w4 ⟨rfl, h4, k4⟩
    obtain ⟨p, hp⟩ : ∃ p, p = ringPut m x := ⟨_, rfl⟩
    rw [← hp] at HR h4 ⊢
    clear hp HWR
    obtain ⟨pe, pm⟩ := p
    simp only at HR h4 ⊢
    have hcl := lt_of_get HK0.out.mem.box
    have hbl : rb < w.heap.size := by
      obtain ⟨C, t, hh, _⟩ := HK0.out.mem.row rfl
      exact lt_of_get hh
    have hgl := lt_of_get HK0.out.ring.box
    have hsz := HB3.out.size
    have H4 := Lib.hid h4
    have k04 : Keep (fun b => b = c ∨ b = rb ∨ b = rg ∨ w.heap.size ≤ b) w w4 := ((Keep.of_below HB3.out).mono (fun b _ hb => .inr (.inr (.inr hb)))).step (k4.mono (T := fun b => b = c ∨ b = rb ∨ b = rg ∨ w.heap.size ≤ b) (fun b _ hb => by omega)) (fun b hb _ => hb)
    have K04 := Lib.hid k04
    have HN4 := Lib.hid (k4.get HN3.out (by omega))
    have HX4 := Lib.hid (k4.get HX3.out (by omega))
    clear r0 r1 r2 rf z0 z1 z2 z3 zf x0 x1 x2 x3 h4 k04 k4 HN3 HX3 HB3 HK3 hf2
    obtain ⟨r0, r1, r2, rf⟩ := ring_cells H4.out.ring.box
    obtain ⟨z0, z1, z2, z3⟩ := four_cells HN4.out
    have zf : ∀ o, w4.frozen? ⟨w.heap.size, o, none⟩ = false := fun o => frozen_of HN4.out
    have hne : ¬ rg = w.heap.size := by omega
    have hne2 : ¬ w.heap.size = rg := by omega
    by_cases hpe : pe = 0
    · rw [if_pos hpe] at HR
      rw [hpe, errv_zero]
      clear hpe
      obtain ⟨i0, hi0, hz0, hz1, hz2⟩ := info_parts Tryz.infoRec
      obtain ⟨x0, x1, x2, x3⟩ := four_cells HX4.out
      have hLn := HLN.out
      have HCL : Hid (∀ W, Below w4.heap.size w4 W → Calls Tryz.prog 95 #[lv] W fun e w' => ∃ ao cp, e = .returned (.slice ao L.length cp) ∧ w'.ownsRow w4.heap.size 147 4 (.slice ao L.length cp) L.length (L.flatMap recCells) ∧ Below W.heap.size W w' ∧ Below w4.heap.size w4 w') := (show ∀ W, Below w4.heap.size w4 W → Calls Tryz.prog 95 #[lv] W fun e w' => ∃ ao cp, e = .returned (.slice ao L.length cp) ∧ w'.ownsRow w4.heap.size 147 4 (.slice ao L.length cp) L.length (L.flatMap recCells) ∧ Below W.heap.size W w' ∧ Below w4.heap.size w4 w' from by
        intro W hW
        refine (cloneRecs_any _ L lv W (H4.out.ring.row.later hW) (by omega)).mono ?_
        rintro e w' ⟨ao, cp, rfl, ho, b⟩
        exact ⟨ao, cp, rfl, owns_base ho hW.size, b, hW.trans (b.mono hW.size)⟩)
      have h63 : Hid (L.length + 1 ≤ maxLen) := by show L.length + 1 ≤ maxLen; unfold maxLen; omega
      have hby : Hid ((L.length + 1) * 32 ≤ 140737488355328) := by show (L.length + 1) * 32 ≤ 140737488355328; omega
      clear r0 r2 rf z0 z1 z2 z3 zf
      go_upto_region 13 with fail
      go_cut [14] (fun s14 wx => ∃ (ao : Option Addr) (cp : Nat), s14 = .slice ao (L.length + 1) cp ∧ Hid (wx.ownsRow w4.heap.size 147 4 (.slice ao (L.length + 1) cp) (L.length + 1) (L.flatMap recCells ++ recCells x)) ∧ Hid (Below w4.heap.size w4 wx))
      case first =>
        go_region_held3 (fun w' => w'.cell? ⟨rg, 1, none⟩ = some lv ∧ w'.cell? ⟨w2.heap.size + 1, 0, none⟩ = some (.int .i64 x.seq) ∧ w'.cell? ⟨w2.heap.size + 1, 1, none⟩ = some (.int .i64 x.ent) ∧ w'.cell? ⟨w2.heap.size + 1, 2, none⟩ = some (.int .i64 x.kind) ∧ w'.cell? ⟨w2.heap.size + 1, 3, none⟩ = some (.int .i64 x.tick))
          (first | exact ⟨r1, x0, x1, x2, x3⟩ | exact five_later (by repeat (first | assumption | exact Below.refl _ _ | refine Below.drew ?_ | refine Below.alloc ?_ (by first | exact Below.size b5 | simp) _)) ⟨r1, x0, x1, x2, x3⟩)
          (first | (go_at_call 95; refine (HCL.out _ ?_).mono ?_; (repeat (first | exact Below.refl _ _ | refine Below.drew ?_ | refine Below.alloc ?_ (by simp) _)); rintro e w5 ⟨ao, cp, rfl, ho5, d5, b5⟩) | (refine step_append_own rfl (.tmp 76) (.tmp 78) 68 rfl w4.heap.size 147 i0 _ 4 32 Tryz.underlying68 hi0 hz0 hz1 hz2 rfl (by decide) _ L.length _ rfl (by first | exact ho5.alloc _ | exact ho5) _ 1 1 (recCells x) rfl rfl (by first | exact new_cells _ (recCells x) _ | exact news_later d5 (new_cells _ (recCells x) _)) (by intro u hu; simp [recCells] at hu; rcases hu with rfl | rfl | rfl | rfl <;> rfl) h63.out hby.out ?_ ?_; (first | exact Below.size b5 | exact Nat.le_trans (Below.size b5) (by simp)); intro a1 k1 w6 ho6 hg6; have b6 := grown_low (by repeat (first | exact Below.alloc b5 (Below.size b5) _ | exact b5 | refine Below.drew ?_)) (by first | exact ho5.alloc _ | exact ho5) hg6))
        all_goals (go_wp2_with fail; go_meet)
        all_goals exact ⟨a1, k1, rfl, ho6, b6⟩
      case rest =>
      obtain ⟨ao, cp, rfl, ho, hb6⟩ := hcut
      clear r1 x0 x1 x2 x3 HCL
      obtain ⟨lo, hlo⟩ : ∃ lo, lo = L.length + 1 - 8 := ⟨_, rfl⟩
      rw [← hlo] at HR
      obtain ⟨g, q1, q2, q3⟩ := owned_slice ho.out (Nat.succ_pos _)
      subst q1
      have H6 := Lib.hid (H4.out.below hb6.out)
      have HN6 := Lib.hid (below_get hb6.out HN4.out (lt_of_get HN4.out))
      have HX6 := Lib.hid (below_get hb6.out HX4.out (lt_of_get HX4.out))
      obtain ⟨r0, r1, r2, rf⟩ := ring_cells H6.out.ring.box
      obtain ⟨z0, z1, z2, z3⟩ := four_cells HN6.out
      have zf : ∀ o, wc.frozen? ⟨w.heap.size, o, none⟩ = false := fun o => frozen_of HN6.out
      obtain ⟨x0, x1, x2, x3⟩ := four_cells HX6.out
      have hrx : ¬ rg = w2.heap.size + 1 := by omega
      have hxr : ¬ w2.heap.size + 1 = rg := by omega
      have hz4 : w.heap.size < w4.heap.size := lt_of_get HN4.out
      have hLL : (L ++ [x]).length = L.length + 1 := by simp
      have hsl := slOf_owns ho.out
      rw [show L.flatMap recCells ++ recCells x = (L ++ [x]).flatMap recCells by simp, ← hLL] at hsl
      by_cases h8 : L.length ≤ 7
      · have hlo0 : lo = 0 := by omega
        rw [hlo0, List.drop_zero] at HR
        have HDR : Hid (SlOf (fun b => w4.heap.size ≤ b) wc (.slice (some ⟨g, 0, none⟩) (L.length + 1) cp) 4 ((L ++ [x]).flatMap recCells) (L ++ [x]).length) := (show SlOf (fun b => w4.heap.size ≤ b) wc (.slice (some ⟨g, 0, none⟩) (L.length + 1) cp) 4 ((L ++ [x]).flatMap recCells) (L ++ [x]).length from by rw [← hLL]; exact hsl)
        have h8i : (L.length : Int) ≤ 7 := by omega
        have hb7 : (wc.setCell ⟨rg, 1, none⟩ (.slice (some ⟨g, 0, none⟩) (L.length + 1) cp)).heap[rg]? = some (ringC c (.slice (some ⟨g, 0, none⟩) (L.length + 1) cp) false) := by
          have := H6.out.ring.box
          unfold ringC at this ⊢
          rw [get_setCell _ this]; rfl
        have HB7 := Lib.hid hb7
        have HSL := Lib.hid hsl
        have HLO := Lib.hid hlo
        clear r0 hsl hb7 hLL hlo h8
        go_wp2_with fail
        refine bodyPost_ret (v := .tuple #[recAgg x, errv sa 0]) (by simp [recAgg, errv, results, Tryz.results152, go_sem, z0, z1, z2, z3, World.cell?_setCell_same, World.cell?_setCell_other]) rfl ?_
        rw [HR.out]
        have kz := keep_set4 (wc.setCell ⟨rg, 1, none⟩ (.slice (some ⟨g, 0, none⟩) (L.length + 1) cp)) w.heap.size (.int .i64 x.seq) (.int .i64 x.ent) (.int .i64 x.kind) (.int .i64 x.tick)
        have k7 := keep_set wc rg 1 (.slice (some ⟨g, 0, none⟩) (L.length + 1) cp)
        have kb : Keep (fun b => b = c ∨ b = rb ∨ b = rg ∨ w.heap.size ≤ b) w4 wc := (Keep.of_below hb6.out).mono (fun b _ hb => by omega)
        have kend := ((K04.out.trans kb).trans (k7.mono (fun b _ hb => .inr (.inr (.inl hb))))).trans (kz.mono (T := fun b => b = c ∨ b = rb ∨ b = rg ∨ w.heap.size ≤ b) (fun b _ hb => .inr (.inr (.inr (by omega)))))
        refine ⟨rfl, _, HK0.out.fin2 kend (kz.get HB7.out hne) ?_ (L' := (L ++ [x])) ?_, kend, .inr (fun b hb => by obtain rfl := Option.some.inj hb; exact ⟨Nat.le_trans (Nat.le_of_lt hz4) q2, Nat.lt_of_lt_of_le (ho.out.lt _ rfl).2 (Nat.le_trans k7.size kz.size)⟩)⟩
        · exact ((H6.out.mem.keep k7 (fun b hb => by subst hb; exact HK0.out.lay.2.2.2.2)).keep kz (fun b hb => by omega))
        · exact ((HDR.out.keep k7 (fun b hb h => by omega)).keep kz (fun b hb h => by omega)).mono (fun b hb => by omega)
      · have hI : (L.length : Int) + 1 - 8 = (lo : Int) := by omega
        have hI1 : (1 : Int) ≤ lo := by omega
        have hdr := slOf_drop hsl lo (by omega)
        rw [hLL] at hdr
        have HDR := Lib.hid hdr
        have hsub := fun w => run_from_recs w g (L.length + 1) cp lo (by omega) (by omega)
        clear hdr
        have hb7 : (wc.setCell ⟨rg, 1, none⟩ (.slice (some ⟨g, lo * 4, none⟩) (L.length + 1 - lo) (cp - lo))).heap[rg]? = some (ringC c (.slice (some ⟨g, lo * 4, none⟩) (L.length + 1 - lo) (cp - lo)) false) := by
          have := H6.out.ring.box
          unfold ringC at this ⊢
          rw [get_setCell _ this]; rfl
        have HB7 := Lib.hid hb7
        have HSL := Lib.hid hsl
        have HLO := Lib.hid hlo
        clear r0 hsl hb7 hLL hlo h8
        go_wp2_with fail
        refine bodyPost_ret (v := .tuple #[recAgg x, errv sa 0]) (by simp [recAgg, errv, results, Tryz.results152, go_sem, z0, z1, z2, z3, World.cell?_setCell_same, World.cell?_setCell_other]) rfl ?_
        rw [HR.out]
        have kz := keep_set4 (wc.setCell ⟨rg, 1, none⟩ (.slice (some ⟨g, lo * 4, none⟩) (L.length + 1 - lo) (cp - lo))) w.heap.size (.int .i64 x.seq) (.int .i64 x.ent) (.int .i64 x.kind) (.int .i64 x.tick)
        have k7 := keep_set wc rg 1 (.slice (some ⟨g, lo * 4, none⟩) (L.length + 1 - lo) (cp - lo))
        have kb : Keep (fun b => b = c ∨ b = rb ∨ b = rg ∨ w.heap.size ≤ b) w4 wc := (Keep.of_below hb6.out).mono (fun b _ hb => by omega)
        have kend := ((K04.out.trans kb).trans (k7.mono (fun b _ hb => .inr (.inr (.inl hb))))).trans (kz.mono (T := fun b => b = c ∨ b = rb ∨ b = rg ∨ w.heap.size ≤ b) (fun b _ hb => .inr (.inr (.inr (by omega)))))
        refine ⟨rfl, _, HK0.out.fin2 kend (kz.get HB7.out hne) ?_ (L' := ((L ++ [x]).drop lo)) ?_, kend, .inr (fun b hb => by obtain rfl := Option.some.inj hb; exact ⟨Nat.le_trans (Nat.le_of_lt hz4) q2, Nat.lt_of_lt_of_le (ho.out.lt _ rfl).2 (Nat.le_trans k7.size kz.size)⟩)⟩
        · exact ((H6.out.mem.keep k7 (fun b hb => by subst hb; exact HK0.out.lay.2.2.2.2)).keep kz (fun b hb => by omega))
        · exact ((HDR.out.keep k7 (fun b hb h => by omega)).keep kz (fun b hb h => by omega)).mono (fun b hb => by omega)
    · obtain ⟨j, hj⟩ : ∃ j, pe = j + 1 := ⟨pe - 1, by omega⟩
      rw [if_neg hpe, hj] at HR
      rw [hj, errv_succR]
      clear hpe hj
      have hb5 : (w4.setCell ⟨rg, 2, none⟩ (.bool true)).heap[rg]? = some (ringC c lv true) := by
        have := H4.out.ring.box
        unfold ringC at this ⊢
        rw [get_setCell _ this]; rfl
      have k5 := keep_set w4 rg 2 (.bool true)
      have HB5 := Lib.hid hb5
      have K5 := Lib.hid k5
      clear hb5 k5
      go_wp2_with fail
      refine bodyPost_ret (v := .tuple #[recAgg ⟨0, 0, 0, 0⟩, errv sa (j + 1)]) (by simp [recAgg, errv, results, Tryz.results152, go_sem, z0, z1, z2, z3, World.cell?_setCell_same, World.cell?_setCell_other]) rfl ?_
      rw [HR.out]
      have kz := keep_set4 (w4.setCell ⟨rg, 2, none⟩ (.bool true)) w.heap.size (.int .i64 0) (.int .i64 0) (.int .i64 0) (.int .i64 0)
      have kend := (K04.out.trans (K5.out.mono (fun b _ hb => .inr (.inr (.inl hb))))).trans (kz.mono (T := fun b => b = c ∨ b = rb ∨ b = rg ∨ w.heap.size ≤ b) (fun b _ hb => .inr (.inr (.inr (by omega)))))
      refine ⟨rfl, lv, HK0.out.fin kend (kz.get HB5.out hne) ?_, kend, .inl rfl⟩
      exact ((H4.out.mem.keep K5.out (fun b hb => by subst hb; exact HK0.out.lay.2.2.2.2)).keep kz (fun b hb => by omega))
  · have HE : Hid (ringApp m L false en kd tk = (2, ⟨0, 0, 0, 0⟩, m, L, false)) := (show ringApp m L false en kd tk = (2, ⟨0, 0, 0, 0⟩, m, L, false) from by
      unfold ringApp
      rw [if_neg (by decide), if_pos (by simpa using hok)])
    have hb : ¬ (0 ≤ en ∧ en ≤ 255 ∧ 0 ≤ kd ∧ kd ≤ 255 ∧ 0 ≤ tk ∧ tk < 281474976710656) := fun h => hok (decide_eq_true h)
    clear hok
    by_cases b1 : en < 0
    · clear hb
      go_wp2_with fail
      go_region
      all_goals
        go_wp2_with fail
        refine bodyPost_ret (v := .tuple #[recAgg ⟨0, 0, 0, 0⟩, errv sa 2]) (by simp [recAgg, errv, results, Tryz.results152, go_sem, z0, z1, z2, z3, World.cell?_setCell_same, World.cell?_setCell_other]) rfl ?_
        rw [HE.out]
        exact ⟨rfl, lv, HK0.out.below (below_set4 HBA.out).drew, keep_newer (below_set4 HBA.out).drew, .inl rfl⟩
    by_cases b2 : 255 < en
    · clear hb
      go_wp2_with fail
      go_region
      all_goals
        go_wp2_with fail
        refine bodyPost_ret (v := .tuple #[recAgg ⟨0, 0, 0, 0⟩, errv sa 2]) (by simp [recAgg, errv, results, Tryz.results152, go_sem, z0, z1, z2, z3, World.cell?_setCell_same, World.cell?_setCell_other]) rfl ?_
        rw [HE.out]
        exact ⟨rfl, lv, HK0.out.below (below_set4 HBA.out).drew, keep_newer (below_set4 HBA.out).drew, .inl rfl⟩
    by_cases b3 : kd < 0
    · clear hb
      go_wp2_with fail
      go_region
      all_goals
        go_wp2_with fail
        refine bodyPost_ret (v := .tuple #[recAgg ⟨0, 0, 0, 0⟩, errv sa 2]) (by simp [recAgg, errv, results, Tryz.results152, go_sem, z0, z1, z2, z3, World.cell?_setCell_same, World.cell?_setCell_other]) rfl ?_
        rw [HE.out]
        exact ⟨rfl, lv, HK0.out.below (below_set4 HBA.out).drew, keep_newer (below_set4 HBA.out).drew, .inl rfl⟩
    by_cases b4 : 255 < kd
    · clear hb
      go_wp2_with fail
      go_region
      all_goals
        go_wp2_with fail
        refine bodyPost_ret (v := .tuple #[recAgg ⟨0, 0, 0, 0⟩, errv sa 2]) (by simp [recAgg, errv, results, Tryz.results152, go_sem, z0, z1, z2, z3, World.cell?_setCell_same, World.cell?_setCell_other]) rfl ?_
        rw [HE.out]
        exact ⟨rfl, lv, HK0.out.below (below_set4 HBA.out).drew, keep_newer (below_set4 HBA.out).drew, .inl rfl⟩
    by_cases b5 : tk < 0
    · clear hb
      go_wp2_with fail
      go_region
      all_goals
        go_wp2_with fail
        refine bodyPost_ret (v := .tuple #[recAgg ⟨0, 0, 0, 0⟩, errv sa 2]) (by simp [recAgg, errv, results, Tryz.results152, go_sem, z0, z1, z2, z3, World.cell?_setCell_same, World.cell?_setCell_other]) rfl ?_
        rw [HE.out]
        exact ⟨rfl, lv, HK0.out.below (below_set4 HBA.out).drew, keep_newer (below_set4 HBA.out).drew, .inl rfl⟩
    have b6 : 281474976710656 ≤ tk := by omega
    clear hb
    go_wp2_with fail
    go_region
    all_goals
      go_wp2_with fail
      refine bodyPost_ret (v := .tuple #[recAgg ⟨0, 0, 0, 0⟩, errv sa 2]) (by simp [recAgg, errv, results, Tryz.results152, go_sem, z0, z1, z2, z3, World.cell?_setCell_same, World.cell?_setCell_other]) rfl ?_
      rw [HE.out]
      exact ⟨rfl, lv, HK0.out.below (below_set4 HBA.out).drew, keep_newer (below_set4 HBA.out).drew, .inl rfl⟩
end Go.Proofs.YtikehilbmldadaaGreatDoor
