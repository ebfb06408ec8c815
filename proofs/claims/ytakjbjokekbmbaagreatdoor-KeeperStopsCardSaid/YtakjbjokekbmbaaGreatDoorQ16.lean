/- The document's strangers. -/
import Derived.Test.YtakjbjokekbmbaaGreatDoorQ15
namespace Go.Proofs.YtakjbjokekbmbaaGreatDoor
open Go.RowKit
set_option linter.unusedVariables false

structure EB (w0 : World) (R : Nat → Prop) (E : EntV) (vp vg ve vf vl : Value) (eb : Nat) (w : World) : Prop where
  box : w.heap[eb]? = some (.cells (entCs E vp vg ve vf vl) 38)
  sl : EntSl R w E vp vg ve vf vl
  bel : Below w0.heap.size w0 w
  lo : ∀ b, R b → b < w0.heap.size
  hi : w0.heap.size ≤ eb
section
variable {w0 w w' : World} {R S : Nat → Prop} {E : EntV} {vp vg ve vf vl : Value} {eb : Nat}
theorem EB.keep (h : EB w0 R E vp vg ve vf vl eb w) (k : Keep S w w') (hS : ∀ b, S b → b < w.heap.size → w0.heap.size ≤ b ∧ b ≠ eb) : EB w0 R E vp vg ve vf vl eb w' := by
  have k2 : Keep (fun b => w0.heap.size ≤ b ∧ b ≠ eb) w w' := k.mono (fun b hb hs => hS b hs hb)
  have hlo := h.lo
  have hhi := h.hi
  exact ⟨k2.get h.box (fun x => x.2 rfl), h.sl.keep k2 (fun b hb hs => by have := hlo b hb; omega), h.bel.trans (k2.below h.bel.size (fun b hb => hb.1)), h.lo, h.hi⟩
theorem EB.below (h : EB w0 R E vp vg ve vf vl eb w) (b : Below w.heap.size w w') : EB w0 R E vp vg ve vf vl eb w' := h.keep (below_keep b) (fun _ h _ => h.elim)
theorem EB.cells (h : EB w0 R E vp vg ve vf vl eb w) :
    w.cell? ⟨eb, 0, none⟩ = some (.string E.name) ∧ w.cell? ⟨eb, 1, none⟩ = some (.int .i64 E.tol) ∧ w.cell? ⟨eb, 2, none⟩ = some vp ∧ w.cell? ⟨eb, 3, none⟩ = some (.int .i64 E.count) ∧ w.cell? ⟨eb, 4, none⟩ = some (.int .i64 E.mn) ∧
    w.cell? ⟨eb, 5, none⟩ = some (.int .i64 E.mx) ∧ w.cell? ⟨eb, 6, none⟩ = some vg ∧ w.cell? ⟨eb, 7, none⟩ = some ve ∧ w.cell? ⟨eb, 8, none⟩ = some vf ∧ w.cell? ⟨eb, 9, none⟩ = some vl := by
  have := h.box
  unfold entCs at this
  simp [World.cell?, this]
end
theorem below_grown {w w1 : World} {o : Option Nat} {base : Nat} (hg : w.grownBy w1 o) (ho : ∀ b, o = some b → base ≤ b) (hb : base ≤ w.heap.size) : Below base w w1 :=
  (Keep.of_grown hg).below hb (fun k hk => ho k hk.symm)

/-- append(l, x...): l one's own, x any slice. -/
theorem wpList_append_src {P : Program} {w : World} {ops : Array Oper} {rest : List Oper} {o : Oper} {a : Act} {Q : Exit → Act → World → Prop} (hgd : o.guard = none) (s x : Operand) (t : TypeId)
    (ho : o.op = .call { callee := .builtin .append, args := #[s, x], argTypes := #[t, t] })
    (base : Nat) (e : TypeId) (i : TypeInfo) (z : Value) (size bytes : Nat) (ht : P.underlying t = some (.slice e)) (hi : P.info? e = some i) (hz : i.zero = some z)
    (hsize : i.size = size) (hby : i.bytes = bytes) (hzs : z.cells.size = size) (hsz : 0 < size)
    (v : Value) (n : Nat) (xs : List Value) (hs : a.eval s = v) (hown : w.ownsRow base e size v n xs)
    (R : Nat → Prop) (y : Value) (m : Nat) (cs : List Value) (hx : a.eval x = y) (hsl : SlOf R w y size cs m) (h1 : ∀ u ∈ cs, u.oneCell' = true)
    (h63 : n + m ≤ maxLen) (hbytes : (n + m) * bytes ≤ 140737488355328) (hbase : base ≤ w.heap.size)
    (h : ∀ ao cap w', w'.ownsRow base e size (.slice ao (n + m) cap) (n + m) (xs ++ cs) → w.grownBy w' v.ownBlock → wpList P ops Q rest (a.put o.dst (.slice ao (n + m) cap)) w') :
    wpList P ops Q (o :: rest) a w := by
  obtain ⟨hl, ao, cap, rfl, hnc, hcm, hnone, hcells⟩ := hsl
  cases ao with
  | none =>
    obtain rfl := hnone rfl
    obtain rfl : m = 0 := by omega
    obtain rfl : cs = [] := List.eq_nil_of_length_eq_zero (by simpa using hl)
    refine wpList_append_own_none hgd s x t ho base e i size ht hi v n xs hs hown hx ?_
    have hg0 : w.grownBy w v.ownBlock := ⟨rfl, rfl, rfl, Nat.le_refl _, fun _ _ _ => rfl⟩
    rw [List.append_nil, Nat.add_zero] at h
    rcases hown.2 with ⟨hv, hn⟩ | ⟨g, cap, cur, hv, _⟩
    · subst hn
      have h' := h none 0 w (by rw [hv] at hown; exact hown) hg0
      rw [hv]; exact h'
    · have h' := h (some ⟨g, 0, none⟩) cap w (by rw [hv] at hown; exact hown) hg0
      rw [hv]; exact h'
  | some ad =>
    have hnews : ∀ j u, cs[j]? = some u → w.cell? (ad.add j) = some u := by
      intro j u hu
      have hj : j < cs.length := (List.getElem?_eq_some_iff.1 hu).1
      obtain ⟨b, off, ha, _, _, hc⟩ := hcells (by omega)
      obtain rfl := Option.some.inj ha
      rw [addr_add]
      exact hc j u hu
    exact wpList_append_ownS hgd s x t ho base e i z size bytes ht hi hz hsize hby hzs hsz v n xs hs hown ad m cap cs hx hl hnews h1 h63 hbytes hbase h

def strL (E : EntV) : List Int := E.first ++ E.last ++ E.gaps.flatMap (fun g => [g.fr, g.dst]) ++ E.edges.flatMap (fun x => [x.1, x.2])
def strangeB (E : EntV) : Bool := (strL E).any (fun p => decide (p < 0 ∨ (E.points.length : Int) ≤ p))
def accG (E : EntV) (k : Nat) : List Int := E.first ++ E.last ++ (E.gaps.take k).flatMap (fun g => [g.fr, g.dst])
def accE (E : EntV) (k : Nat) : List Int := E.first ++ E.last ++ E.gaps.flatMap (fun g => [g.fr, g.dst]) ++ (E.edges.take k).flatMap (fun x => [x.1, x.2])
theorem accG_succ (E : EntV) (k : Nat) (hk : k < E.gaps.length) : accG E (k + 1) = accG E k ++ [E.gaps[k].fr, E.gaps[k].dst] := by
  unfold accG
  rw [List.take_succ_eq_append_getElem hk, List.flatMap_append]
  simp
theorem accE_succ (E : EntV) (k : Nat) (hk : k < E.edges.length) : accE E (k + 1) = accE E k ++ [E.edges[k].1, E.edges[k].2] := by
  unfold accE
  rw [List.take_succ_eq_append_getElem hk, List.flatMap_append]
  simp
theorem accG_len (E : EntV) (k : Nat) : (accG E k).length ≤ E.first.length + E.last.length + 2 * E.gaps.length := by
  unfold accG
  rw [List.length_append, List.length_append, flat_len _ 2 (fun _ => rfl)]
  have : (E.gaps.take k).length ≤ E.gaps.length := by simp; omega
  omega
theorem accE_len (E : EntV) (k : Nat) : (accE E k).length ≤ E.first.length + E.last.length + 2 * E.gaps.length + 2 * E.edges.length := by
  unfold accE
  rw [List.length_append, List.length_append, List.length_append, flat_len _ 2 (fun _ => rfl), flat_len _ 2 (fun _ => rfl)]
  have : (E.edges.take k).length ≤ E.edges.length := by simp; omega
  omega
theorem intCells_app (a b : List Int) : intCells (a ++ b) = intCells a ++ intCells b := by simp [intCells]

theorem str_step {w wr wA w1 : World} {R : Nat → Prop} {E : EntV} {vp vg ve vf vl : Value} {eb n cap : Nat} {ao : Option Addr} {acc acc' : List Int} {x y : Int} {a1 : Option Addr} {k1 : Nat}
    (ho : wr.ownsRow (eb + 1) 3 1 (.slice ao n cap) n (intCells acc)) (he : EB w R E vp vg ve vf vl eb wr) (hs : eb + 1 ≤ wr.heap.size) (hn : n = acc.length) (ha : acc' = acc ++ [x, y]) (kA : Keep (fun _ => False) wr wA)
    (hg : wA.grownBy w1 (Value.slice ao n cap).ownBlock) (ho1 : w1.ownsRow (eb + 1) 3 1 (.slice a1 (n + 2) k1) (n + 2) (intCells acc ++ [.int .i64 x, .int .i64 y])) :
    n + 2 = acc'.length ∧ w1.ownsRow (eb + 1) 3 1 (.slice a1 acc'.length k1) acc'.length (intCells acc') ∧ EB w R E vp vg ve vf vl eb w1 ∧ eb + 1 ≤ w1.heap.size := by
  have hl : n + 2 = acc'.length := by rw [ha, List.length_append, ← hn]; rfl
  have kk : Keep (fun b => eb + 1 ≤ b) wr w1 := (kA.mono (fun _ _ h => h.elim)).trans ((Keep.of_grown hg).mono (fun b hb hs => (ho.lt _ hs.symm).1))
  refine ⟨hl, ?_, he.keep kk (fun b hb _ => by have := he.hi; omega), Nat.le_trans hs kk.size⟩
  rw [← hl, ha, intCells_app]
  exact ho1
theorem keepA (w : World) (o : Obj) : Keep (fun _ => False) w (w.alloc o).drew := ((Keep.refl _ _).alloc _).drew
theorem strange_hit {E : EntV} {i : Nat} (hi : i < (strL E).length) (h : (strL E)[i] < 0 ∨ (E.points.length : Int) ≤ (strL E)[i]) : strangeB E = true := by
  unfold strangeB
  rw [List.any_eq_true]
  exact ⟨_, List.getElem_mem hi, decide_eq_true h⟩
theorem strange_miss {E : EntV} (h : ∀ i (hi : i < (strL E).length), ¬ ((strL E)[i] < 0 ∨ (E.points.length : Int) ≤ (strL E)[i])) : strangeB E = false := by
  unfold strangeB
  rw [List.any_eq_false]
  intro x hx
  obtain ⟨i, hi, rfl⟩ := List.mem_iff_getElem.1 hx
  simpa using h i hi
structure EntSmall (E : EntV) : Prop where
  p : E.points.length ≤ 1000
  g : E.gaps.length ≤ 1000
  e : E.edges.length ≤ 1000
  f : E.first.length ≤ 1000
  l : E.last.length ≤ 1000

set_option maxRecDepth 20000 in
set_option maxHeartbeats 4000000 in
theorem strangers_any (R : Nat → Prop) (E : EntV) (vp vg ve vf vl : Value) (w : World) (h : EntSl R w E vp vg ve vf vl) (hR : ∀ b, R b → b < w.heap.size) (hE : EntSmall E) :
    Calls Tryz.prog 52 #[.agg (entCs E vp vg ve vf vl)] w fun e w' => e = .returned (.bool (strangeB E)) ∧ Below w.heap.size w w' := by
  obtain ⟨i0, hi0, hz0, hz1, hz2⟩ := info_parts Tryz.infoInt
  obtain ⟨e1, e2, e3, e4, e5⟩ := hE
  have hEB : EB w R E vp vg ve vf vl w.heap.size (w.alloc (.cells (entCs E vp vg ve vf vl) 38)) :=
    ⟨get_alloc_new _ _, h.keep (below_keep ((Below.refl _ _).alloc (Nat.le_refl _) _)) (fun _ _ h => h), (Below.refl _ _).alloc (Nat.le_refl _) _, hR, Nat.le_refl _⟩
  have HE := Lib.hid hEB
  have hs1 : w.heap.size + 1 ≤ (w.alloc (.cells (entCs E vp vg ve vf vl) 38)).heap.size := by simp
  have HS := Lib.hid hs1
  clear h hR hEB hs1
  unfold entCs
  go_enter Tryz.func52, Tryz.ntmps52
  go_upto_region 2 with fail
  have hx : (w.alloc (.cells (entCs E vp vg ve vf vl) 38)) = w.alloc (.cells #[.string E.name, .int .i64 E.tol, vp, .int .i64 E.count, .int .i64 E.mn, .int .i64 E.mx, vg, ve, vf, vl] 38) := rfl
  rw [← hx]
  clear hx
  generalize w.alloc _ = w1 at HE HS ⊢
  generalize hebq : w.heap.size = eb at HE HS ⊢
  have HEB := Lib.hid hebq
  clear hebq
  obtain ⟨c0, c1, c2, c3, c4, c5, c6, c7, c8, c9⟩ := HE.out.cells
  go_upto_region 3 with (at_builtin; go_must (refine wpList_append_src rfl (.tmp 7) (.tmp 9) 36 rfl (eb + 1) 3 i0 _ 1 8 Tryz.underlying36 hi0 hz0 hz1 hz2 rfl (by decide) (.slice none 0 0) 0 _ rfl (World.ownsRow_nil _ _ _ _) R vf E.first.length (intCells E.first) rfl HE.out.sl.f (oneCell_ints _) (by unfold maxLen; omega) (by omega) HS.out ?_; intro a2 k2 w2 ho2 hg2))
  have HE2 := Lib.hid (HE.out.keep (Keep.of_grown hg2) (fun b hb _ => by cases hb))
  rw [Nat.zero_add, List.nil_append] at ho2
  have HO2 := Lib.hid ho2
  have HS2 : Hid (eb + 1 ≤ w2.heap.size) := (show eb + 1 ≤ w2.heap.size from Nat.le_trans HS.out hg2.size)
  clear c0 c1 c2 c3 c4 c5 c6 c7 c8 c9 HE HS hg2 ho2
  obtain ⟨c0, c1, c2, c3, c4, c5, c6, c7, c8, c9⟩ := HE2.out.cells
  go_upto_region 4 with (at_builtin; go_must (refine wpList_append_src rfl (.tmp 11) (.tmp 13) 36 rfl (eb + 1) 3 i0 _ 1 8 Tryz.underlying36 hi0 hz0 hz1 hz2 rfl (by decide) (.slice a2 E.first.length k2) E.first.length _ rfl HO2.out R vl E.last.length (intCells E.last) rfl HE2.out.sl.l (oneCell_ints _) (by unfold maxLen; omega) (by omega) HS2.out ?_; intro a3 k3 w3 ho3 hg3))
  have HE3 := Lib.hid (HE2.out.keep (Keep.of_grown hg3) (fun b hb _ => by have := (HO2.out.lt b hb.symm).1; have := HE2.out.hi; omega))
  rw [← intCells_app] at ho3
  have HS3 : Hid (eb + 1 ≤ w3.heap.size) := (show eb + 1 ≤ w3.heap.size from Nat.le_trans HS2.out hg3.size)
  have HO3 : Hid (w3.ownsRow (eb + 1) 3 1 (.slice a3 (accG E 0).length k3) (accG E 0).length (intCells (accG E 0))) := (show w3.ownsRow (eb + 1) 3 1 (.slice a3 (accG E 0).length k3) (accG E 0).length (intCells (accG E 0)) from by
    have e : accG E 0 = E.first ++ E.last := by simp [accG]
    rw [e, List.length_append]; exact ho3)
  have hl3 : E.first.length + E.last.length = (accG E 0).length := by simp [accG]
  rw [hl3]
  clear c0 c1 c2 c3 c4 c5 c6 c7 c8 c9 HE2 HS2 HO2 hg3 ho3 hl3
  go_wp2_with fail
  go_loopw [3, 4] (fun s3 s4 wr => ∃ (k : Nat) (ao : Option Addr) (cap : Nat), k ≤ E.gaps.length ∧ s4 = .int .i64 k ∧ s3 = .slice ao (accG E k).length cap ∧ Hid (wr.ownsRow (eb + 1) 3 1 (.slice ao (accG E k).length cap) (accG E k).length (intCells (accG E k))) ∧ Hid (EB w R E vp vg ve vf vl eb wr) ∧ Hid (eb + 1 ≤ wr.heap.size)) (fun _ s4 _ => E.gaps.length - (intOf s4).toNat)
  case atStart => exact ⟨0, a3, k3, Nat.zero_le _, rfl, rfl, HO3, HE3, HS3⟩
  case round =>
    obtain ⟨k, ao, cap, hk, rfl, rfl, ho, he, hs⟩ := hrel
    clear HO3 HE3 HS3
    obtain ⟨c0, c1, c2, c3, c4, c5, c6, c7, c8, c9⟩ := he.out.cells
    obtain ⟨ag, kg, hvg⟩ := he.out.sl.g.val
    rw [hvg] at c6
    have HVG := Lib.hid hvg
    clear hvg
    by_cases hlt : k < E.gaps.length
    · have hsg := he.out.sl.g
      rw [HVG.out] at hsg
      obtain ⟨b, off, hag, hRb, hb, hc⟩ := hsg.elem (fun _ => rfl) (by decide) (by omega)
      have hag2 : ag = some ⟨b, off, none⟩ := hag
      subst hag2
      have q0 := hc k hlt 0 _ rfl
      have q1 := hc k hlt 1 _ rfl
      rw [Nat.add_zero] at q0
      clear hc hsg hag
      obtain ⟨n, hn⟩ : ∃ n, n = (accG E k).length := ⟨_, rfl⟩
      have hnb := accG_len E k
      have HN := Lib.hid hn
      rw [← hn] at hnb ho ⊢
      clear hn
      go_upto_region 7 with fail
      go_region_law (refine step_append_own rfl (.tmp 22) (.tmp 35) 36 rfl (eb + 1) 3 i0 _ 1 8 Tryz.underlying36 hi0 hz0 hz1 hz2 rfl (by decide) _ n _ rfl (ho.out.alloc _) ⟨wr.heap.size, 0, none⟩ 2 2 [.int .i64 E.gaps[k].fr, .int .i64 E.gaps[k].dst] rfl rfl (by exact new_cells _ [.int .i64 E.gaps[k].fr, .int .i64 E.gaps[k].dst] _) (by intro u hu; simp at hu; rcases hu with rfl | rfl <;> rfl) (by unfold maxLen; omega) (by omega) (by have := hs.out; simp; omega) ?_; intro a1 k1 w1 ho1 hgr1)
      all_goals
        obtain ⟨hl2, ho2, he2, hs2⟩ := str_step ho.out he.out hs.out HN.out (accG_succ E k hlt) (keepA _ _) hgr1 ho1
        rw [hl2]
        have HO2 := Lib.hid ho2
        have HE2 := Lib.hid he2
        have HS2 := Lib.hid hs2
        clear ho1 hgr1 ho2 he2 hs2 hl2 q0 q1 c0 c1 c2 c3 c4 c5 c6 c7 c8 c9 ho he hs HN hnb
        go_wp2_with fail
        go_roundw
        case rel => exact ⟨k + 1, a1, k1, by omega, by go_num, rfl, HO2, HE2, HS2⟩
        case measure => simp [intOf]; omega
    · obtain rfl : k = E.gaps.length := by omega
      have e0 : accG E E.gaps.length = accE E 0 := by simp [accG, accE]
      rw [e0] at ho ⊢
      rw [← HVG.out] at c6
      clear e0 c0 c1 c2 c3 c4 c5 c6 c7 c8 c9 hlt HVG
      have HO3 := ho
      have HE3 := he
      have HS3 := hs
      clear ho he hs
      obtain ⟨c0, c1, c2, c3, c4, c5, c6, c7, c8, c9⟩ := HE3.out.cells
      obtain ⟨ag, kg, hvg⟩ := HE3.out.sl.g.val
      rw [hvg] at c6
      clear c0 c1 c2 c3 c4 c5 c6 c7 c8 c9 hvg
      obtain ⟨c0, c1, c2, c3, c4, c5, c6, c7, c8, c9⟩ := HE3.out.cells
      obtain ⟨ag, kg, hvg⟩ := HE3.out.sl.g.val
      rw [hvg] at c6
      clear hvg
      go_wp2_with fail
      clear c0 c1 c2 c3 c4 c5 c6 c7 c8 c9
      generalize hwo : wr = wo at HO3 HE3 HS3 ⊢
      clear hwo
      go_loopw [3, 5] (fun s3 s5 wr => ∃ (k : Nat) (ao : Option Addr) (cap : Nat), k ≤ E.edges.length ∧ s5 = .int .i64 k ∧ s3 = .slice ao (accE E k).length cap ∧ Hid (wr.ownsRow (eb + 1) 3 1 (.slice ao (accE E k).length cap) (accE E k).length (intCells (accE E k))) ∧ Hid (EB w R E vp vg ve vf vl eb wr) ∧ Hid (eb + 1 ≤ wr.heap.size)) (fun _ s5 _ => E.edges.length - (intOf s5).toNat)
      case atStart => exact ⟨0, ao, cap, Nat.zero_le _, rfl, rfl, HO3, HE3, HS3⟩
      case round =>
        obtain ⟨k, ao, cap, hk, rfl, rfl, ho, he, hs⟩ := hrel
        clear HO3 HE3 HS3
        obtain ⟨c0, c1, c2, c3, c4, c5, c6, c7, c8, c9⟩ := he.out.cells
        obtain ⟨ae, ke, hve⟩ := he.out.sl.e.val
        rw [hve] at c7
        have HVE := Lib.hid hve
        clear hve
        by_cases hlt : k < E.edges.length
        · have hse := he.out.sl.e
          rw [HVE.out] at hse
          obtain ⟨b, off, hag, hRb, hb, hc⟩ := hse.elem (fun _ => rfl) (by decide) (by omega)
          have hag2 : ae = some ⟨b, off, none⟩ := hag
          subst hag2
          have q0 := hc k hlt 0 _ rfl
          have q1 := hc k hlt 1 _ rfl
          rw [Nat.add_zero] at q0
          clear hc hse hag
          obtain ⟨n, hn⟩ : ∃ n, n = (accE E k).length := ⟨_, rfl⟩
          have hnb := accE_len E k
          have HN := Lib.hid hn
          rw [← hn] at hnb ho ⊢
          clear hn
          go_upto_region 11 with fail
          go_region_law (refine step_append_own rfl (.tmp 44) (.tmp 57) 36 rfl (eb + 1) 3 i0 _ 1 8 Tryz.underlying36 hi0 hz0 hz1 hz2 rfl (by decide) _ n _ rfl (ho.out.alloc _) ⟨wr.heap.size, 0, none⟩ 2 2 [.int .i64 E.edges[k].1, .int .i64 E.edges[k].2] rfl rfl (by exact new_cells _ [.int .i64 E.edges[k].1, .int .i64 E.edges[k].2] _) (by intro u hu; simp at hu; rcases hu with rfl | rfl <;> rfl) (by unfold maxLen; omega) (by omega) (by have := hs.out; simp; omega) ?_; intro a1 k1 w1 ho1 hgr1)
          all_goals
            obtain ⟨hl2, ho2, he2, hs2⟩ := str_step ho.out he.out hs.out HN.out (accE_succ E k hlt) (keepA _ _) hgr1 ho1
            rw [hl2]
            have HO2 := Lib.hid ho2
            have HE2 := Lib.hid he2
            have HS2 := Lib.hid hs2
            clear ho1 hgr1 ho2 he2 hs2 hl2 q0 q1 c0 c1 c2 c3 c4 c5 c6 c7 c8 c9 ho he hs HN hnb
            go_wp2_with fail
            go_roundw
            case rel => exact ⟨k + 1, a1, k1, by omega, by go_num, rfl, HO2, HE2, HS2⟩
            case measure => simp [intOf]; omega
        · obtain rfl : k = E.edges.length := by omega
          have e0 : accE E E.edges.length = strL E := by simp [strL, accE]
          have hnb := accE_len E E.edges.length
          rw [e0] at ho hnb ⊢
          have HO3 := Lib.hid (slOf_owns ho.out)
          have HE3 := he
          clear e0 hlt ho he hs
          go_wp2_with fail
          clear c0 c1 c2 c3 c4 c5 c6 c7 c8 c9 HVE
          generalize hwo : wr = wo at HO3 HE3 ⊢
          clear hwo
          go_loopw [6] (fun s6 wr => ∃ i q : Nat, i ≤ (strL E).length ∧ s6 = .int .i64 i ∧ wr = wo.drewN q ∧ Hid (∀ j (hj : j < (strL E).length), j < i → ¬ ((strL E)[j] < 0 ∨ (E.points.length : Int) ≤ (strL E)[j]))) (fun s6 _ => (strL E).length - (intOf s6).toNat)
          case atStart => exact ⟨0, 0, Nat.zero_le _, rfl, rfl, fun j _ h => by omega⟩
          case round =>
            obtain ⟨i, q, hi, rfl, rfl, hall⟩ := hrel
            have hbel := Lib.hid (below_drewN' q HE3.out.bel)
            by_cases hlt : i < (strL E).length
            · obtain ⟨b, off, rfl, _, _, hc⟩ := int_cells HO3.out (by omega)
              have q0 := hc i hlt
              clear hc
              obtain ⟨c0, c1, c2, c3, c4, c5, c6, c7, c8, c9⟩ := HE3.out.cells
              obtain ⟨ap, kp, hvp⟩ := HE3.out.sl.p.val
              rw [hvp] at c2
              clear hvp c0 c1 c3 c4 c5 c6 c7 c8 c9
              by_cases h1 : (strL E)[i] < 0
              · have HB := Lib.hid (strange_hit hlt (.inl h1))
                go_wp2_with fail
                go_quiet (fail)
                go_wp2_with fail
                go_ret
                exact ⟨ret_bool HB.out.symm, below_drewN' _ hbel.out⟩
              · have h1d : decide ((strL E)[i] < 0) = false := decide_eq_false h1
                by_cases h2 : (E.points.length : Int) ≤ (strL E)[i]
                · have HB := Lib.hid (strange_hit hlt (.inr h2))
                  go_wp2_with fail
                  go_quiet (fail)
                  go_wp2_with fail
                  go_ret
                  exact ⟨ret_bool HB.out.symm, below_drewN' _ hbel.out⟩
                · have hok := Lib.hid (show ¬ ((strL E)[i] < 0 ∨ (E.points.length : Int) ≤ (strL E)[i]) from fun h => h.elim h1 h2)
                  go_wp2_with fail
                  go_quiet (fail)
                  go_wp2_with fail
                  go_roundw
                  case rel =>
                    exact ⟨i + 1, _, by omega, by go_num, rfl, (show ∀ j (hj : j < (strL E).length), j < i + 1 → ¬ ((strL E)[j] < 0 ∨ (E.points.length : Int) ≤ (strL E)[j]) from fun j hj hji => by
                      by_cases e : j = i
                      · subst e; exact hok.out
                      · exact hall.out j hj (by omega))⟩
                  case measure => simp [intOf]; omega
            · have HB := Lib.hid (strange_miss (E := E) (fun j hj => hall.out j hj (by omega)))
              go_wp2_with fail
              go_ret
              exact ⟨ret_bool HB.out.symm, hbel.out⟩
end Go.Proofs.YtakjbjokekbmbaaGreatDoor
