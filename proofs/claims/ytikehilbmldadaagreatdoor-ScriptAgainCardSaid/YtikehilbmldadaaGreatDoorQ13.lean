import Derived.Test.YtikehilbmldadaaGreatDoorQ12
namespace Go.Proofs.YtikehilbmldadaaGreatDoor
open Go.RowKit
set_option linter.unusedVariables false
structure EB (w0 : World) (R : Nat → Prop) (E : EntV) (vp vg ve vf vl : Value) (eb : Nat) (w : World) : Prop where
  box : w.heap[eb]? = some (.cells (entCs E vp vg ve vf vl) 50)
  sl : EntSl R w E vp vg ve vf vl
  bel : Below w0.heap.size w0 w
  lo : ∀ b, R b → b < w0.heap.size
  hi : w0.heap.size ≤ eb
section
variable {w0 w w' : World} {R S : Nat → Prop} {E : EntV} {vp vg ve vf vl : Value} {eb : Nat}
theorem EB.keep (h : EB w0 R E vp vg ve vf vl eb w) (k : Keep S w w') (hS : ∀ b, S b → b < w.heap.size → w0.heap.size ≤ b ∧ b ≠ eb) : EB w0 R E vp vg ve vf vl eb w' := by
  have k2 : Keep (fun b => w0.heap.size ≤ b ∧ b ≠ eb) w w' := k.mono (fun b hb hs => hS b hs hb)
  have hlo := h.lo
  have hhi := h.hi
  exact ⟨k2.get h.box (fun x => x.2 rfl), h.sl.keep k2 (fun b hb hs => by have := hlo b hb; omega), h.bel.trans (k2.below h.bel.size (fun b hb => hb.1)), h.lo, h.hi⟩
theorem EB.below (h : EB w0 R E vp vg ve vf vl eb w) (b : Below w.heap.size w w') : EB w0 R E vp vg ve vf vl eb w' := h.keep (below_keep b) (fun _ h _ => h.elim)
theorem EB.cells (h : EB w0 R E vp vg ve vf vl eb w) :
    w.cell? ⟨eb, 0, none⟩ = some (.string E.name) ∧ w.cell? ⟨eb, 1, none⟩ = some (.int .i64 E.tol) ∧ w.cell? ⟨eb, 2, none⟩ = some vp ∧ w.cell? ⟨eb, 3, none⟩ = some (.int .i64 E.count) ∧ w.cell? ⟨eb, 4, none⟩ = some (.int .i64 E.mn) ∧
    w.cell? ⟨eb, 5, none⟩ = some (.int .i64 E.mx) ∧ w.cell? ⟨eb, 6, none⟩ = some vg ∧ w.cell? ⟨eb, 7, none⟩ = some ve ∧ w.cell? ⟨eb, 8, none⟩ = some vf ∧ w.cell? ⟨eb, 9, none⟩ = some vl := by
  have := h.box
  unfold entCs at this
  simp [World.cell?, this]
end
theorem below_grown {w w1 : World} {o : Option Nat} {base : Nat} (hg : w.grownBy w1 o) (ho : ∀ b, o = some b → base ≤ b) (hb : base ≤ w.heap.size) : Below base w w1 :=
  (Keep.of_grown hg).below hb (fun k hk => ho k hk.symm)
theorem wpList_append_src {P : Program} {w : World} {ops : Array Oper} {rest : List Oper} {o : Oper} {a : Act} {Q : Exit → Act → World → Prop} (hgd : o.guard = none) (s x : Operand) (t : TypeId)
    (ho : o.op = .call { callee := .builtin .append, args := #[s, x], argTypes := #[t, t] })
    (base : Nat) (e : TypeId) (i : TypeInfo) (z : Value) (size bytes : Nat) (ht : P.underlying t = some (.slice e)) (hi : P.info? e = some i) (hz : i.zero = some z)
    (hsize : i.size = size) (hby : i.bytes = bytes) (hzs : z.cells.size = size) (hsz : 0 < size)
    (v : Value) (n : Nat) (xs : List Value) (hs : a.eval s = v) (hown : w.ownsRow base e size v n xs)
    (R : Nat → Prop) (y : Value) (m : Nat) (cs : List Value) (hx : a.eval x = y) (hsl : SlOf R w y size cs m) (h1 : ∀ u ∈ cs, u.oneCell' = true)
    (h63 : n + m ≤ maxLen) (hbytes : (n + m) * bytes ≤ 140737488355328) (hbase : base ≤ w.heap.size)
    (h : ∀ ao cap w', w'.ownsRow base e size (.slice ao (n + m) cap) (n + m) (xs ++ cs) → w.grownBy w' v.ownBlock → wpList P ops Q rest (a.put o.dst (.slice ao (n + m) cap)) w') :
    wpList P ops Q (o :: rest) a w := by
  obtain ⟨hl, ao, cap, rfl, hnc, hcm, hnone, hcells⟩ := hsl
  cases ao with
  | none =>
    obtain rfl := hnone rfl
    obtain rfl : m = 0 := by omega
    obtain rfl : cs = [] := List.eq_nil_of_length_eq_zero (by simpa using hl)
    refine wpList_append_own_none hgd s x t ho base e i size ht hi v n xs hs hown hx ?_
    have hg0 : w.grownBy w v.ownBlock := ⟨rfl, rfl, rfl, Nat.le_refl _, fun _ _ _ => rfl⟩
    rw [List.append_nil, Nat.add_zero] at h
    rcases hown.2 with ⟨hv, hn⟩ | ⟨g, cap, cur, hv, _⟩
    · subst hn
      have h' := h none 0 w (by rw [hv] at hown; exact hown) hg0
      rw [hv]; exact h'
    · have h' := h (some ⟨g, 0, none⟩) cap w (by rw [hv] at hown; exact hown) hg0
      rw [hv]; exact h'
  | some ad =>
    have hnews : ∀ j u, cs[j]? = some u → w.cell? (ad.add j) = some u := by
      intro j u hu
      have hj : j < cs.length := (List.getElem?_eq_some_iff.1 hu).1
      obtain ⟨b, off, ha, _, _, hc⟩ := hcells (by omega)
      obtain rfl := Option.some.inj ha
      rw [addr_add]
      exact hc j u hu
    exact wpList_append_ownS hgd s x t ho base e i z size bytes ht hi hz hsize hby hzs hsz v n xs hs hown ad m cap cs hx hl hnews h1 h63 hbytes hbase h
def strL (E : EntV) : List Int := E.first ++ E.last ++ E.gaps.flatMap (fun g => [g.fr, g.dst]) ++ E.edges.flatMap (fun x => [x.1, x.2])
def strangeB (E : EntV) : Bool := (strL E).any (fun p => decide (p < 0 ∨ (E.points.length : Int) ≤ p))
def accG (E : EntV) (k : Nat) : List Int := E.first ++ E.last ++ (E.gaps.take k).flatMap (fun g => [g.fr, g.dst])
def accE (E : EntV) (k : Nat) : List Int := E.first ++ E.last ++ E.gaps.flatMap (fun g => [g.fr, g.dst]) ++ (E.edges.take k).flatMap (fun x => [x.1, x.2])
theorem accG_succ (E : EntV) (k : Nat) (hk : k < E.gaps.length) : accG E (k + 1) = accG E k ++ [E.gaps[k].fr, E.gaps[k].dst] := by
  unfold accG
  rw [List.take_succ_eq_append_getElem hk, List.flatMap_append]
  simp
theorem accE_succ (E : EntV) (k : Nat) (hk : k < E.edges.length) : accE E (k + 1) = accE E k ++ [E.edges[k].1, E.edges[k].2] := by
  unfold accE
  rw [List.take_succ_eq_append_getElem hk, List.flatMap_append]
  simp
theorem accG_len (E : EntV) (k : Nat) : (accG E k).length ≤ E.first.length + E.last.length + 2 * E.gaps.length := by
  unfold accG
  rw [List.length_append, List.length_append, flat_len _ 2 (fun _ => rfl)]
  have : (E.gaps.take k).length ≤ E.gaps.length := by simp; omega
  omega
theorem accE_len (E : EntV) (k : Nat) : (accE E k).length ≤ E.first.length + E.last.length + 2 * E.gaps.length + 2 * E.edges.length := by
  unfold accE
  rw [List.length_append, List.length_append, List.length_append, flat_len _ 2 (fun _ => rfl), flat_len _ 2 (fun _ => rfl)]
  have : (E.edges.take k).length ≤ E.edges.length := by simp; omega
  omega
theorem intCells_app (a b : List Int) : intCells (a ++ b) = intCells a ++ intCells b := by simp [intCells]
structure EntSmall (E : EntV) : Prop where
  p : E.points.length ≤ 1000
  g : E.gaps.length ≤ 1000
  e : E.edges.length ≤ 1000
  f : E.first.length ≤ 1000
  l : E.last.length ≤ 1000
end Go.Proofs.YtikehilbmldadaaGreatDoor
