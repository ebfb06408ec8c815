/- A law's arguments opened: what reads as data is a plain value, a plain list. -/
import Derived.Test.YtkhcepdeppmofaaDoorReps
namespace Go.Proofs.YtkhcepdeppmofaaDoor
open Go.ChangeShapes Go.WideShapes Go.ChangeAt Go.RowKit Go.Deep
set_option linter.unusedVariables false

section
variable {H : Type} {enc : TypeId × Value → H} {P : Program} {w : World}

/-- The reading of an argument of type t, cells cs. -/
def Rd (enc : TypeId × Value → H) (P : Program) (w : World) (t : TypeId) (cs : List Value) : Prop := ∃ n x, DataW.trod enc P w 0 (fun _ => true) true n t cs = some x
theorem rd_of {t : TypeId} {v : Value} {d : DataW H} {p : List MemPlace} (h : DataW.Trod enc P w 0 (fun _ => true) true t v d p) : Rd enc P w t v.cells.toList := by
  obtain ⟨n, hn⟩ := h
  exact ⟨n, _, hn⟩
theorem Rd.field {t : TypeId} {fs : Array Field} {cs : List Value} (ht : P.underlying t = some (.struct fs)) (h : Rd enc P w t cs) (i : Nat) (f : Field) (hf : fs[i]? = some f) : Rd enc P w f.type ((cs.drop f.offset).take (P.cellsOf f.type)) := by
  obtain ⟨n, x, hx⟩ := h
  obtain ⟨xs, m, _, _, _, hlen, hall⟩ := DataW.trod_struct ht hx
  have hi : i < xs.length := by rw [hlen]; exact (Array.getElem?_eq_some_iff.1 hf).1
  exact ⟨m, xs[i], by rw [hall i f hf]; simp [hi]⟩
theorem Rd.fieldAt {t : TypeId} {fs : Array Field} {cs : List Value} (ht : P.underlying t = some (.struct fs)) (h : Rd enc P w t cs) (i : Nat) {T off k : Nat} (hc : P.cellsOf T = k) (hf : (fs[i]?).map (fun f => (f.type, f.offset)) = some (T, off)) : Rd enc P w T ((cs.drop off).take k) := by
  cases hfi : fs[i]? with
  | none => rw [hfi] at hf; cases hf
  | some f =>
    rw [hfi] at hf
    simp only [Option.map_some, Option.some.injEq, Prod.mk.injEq] at hf
    obtain ⟨rfl, rfl⟩ := hf
    rw [← hc]
    exact h.field ht i f hfi
theorem Rd.len {t : TypeId} {fs : Array Field} {cs : List Value} (ht : P.underlying t = some (.struct fs)) (h : Rd enc P w t cs) : cs.length = P.cellsOf t := by
  obtain ⟨n, x, hx⟩ := h
  obtain ⟨xs, m, _, _, hl, _, _⟩ := DataW.trod_struct ht hx
  exact hl
theorem Rd.item {t e : TypeId} {n : Nat} {cs : List Value} (ht : P.underlying t = some (.array n e)) (h : Rd enc P w t cs) (i : Nat) (hi : i < n) : Rd enc P w e ((cs.drop (i * P.cellsOf e)).take (P.cellsOf e)) := by
  obtain ⟨m, x, hx⟩ := h
  obtain ⟨xs, k, _, _, _, hlen, hall⟩ := DataW.trod_array ht hx
  exact ⟨k, xs[i]'(by omega), by rw [hall i hi]; simp [hlen, hi]⟩
theorem Rd.itemAt {t e : TypeId} {n : Nat} {cs : List Value} (ht : P.underlying t = some (.array n e)) (h : Rd enc P w t cs) (i : Nat) (hi : i < n) {k : Nat} (hc : P.cellsOf e = k) : Rd enc P w e ((cs.drop (i * k)).take k) := by
  rw [← hc]
  exact h.item ht i hi
theorem Rd.alen {t e : TypeId} {n : Nat} {cs : List Value} (ht : P.underlying t = some (.array n e)) (h : Rd enc P w t cs) : cs.length = P.cellsOf t := by
  obtain ⟨m, x, hx⟩ := h
  obtain ⟨xs, k, _, _, hl, _, _⟩ := DataW.trod_array ht hx
  exact hl
theorem Rd.int {t : TypeId} {k : IntKind} {cs : List Value} (ht : P.underlying t = some (.int k)) (h : Rd enc P w t cs) : ∃ n, cs = [.int k n] ∧ (Lit.int k n).wf = true := by
  obtain ⟨m, x, hx⟩ := h
  obtain ⟨n, hc, _, hw⟩ := DataW.trod_int ht hx
  exact ⟨n, hc, hw⟩
theorem Rd.bool {t : TypeId} {cs : List Value} (ht : P.underlying t = some .bool) (h : Rd enc P w t cs) : ∃ b, cs = [.bool b] := by
  obtain ⟨m, x, hx⟩ := h
  obtain ⟨n, hc, _⟩ := DataW.trod_bool ht hx
  exact ⟨n, hc⟩
theorem Rd.str {t : TypeId} {cs : List Value} (ht : P.underlying t = some .string) (h : Rd enc P w t cs) : ∃ s : ByteArray, cs = [.string s] ∧ s.size ≤ maxLen := by
  obtain ⟨m, x, hx⟩ := h
  obtain ⟨n, hc, _, hs⟩ := DataW.trod_string ht hx
  exact ⟨n, hc, hs⟩

/-- A slice: its elements, each as it is read. -/
theorem Rd.rows {α : Type} [Inhabited α] (f : α → List Value) (sz : Nat) (hf : ∀ x, (f x).length = sz) (hsz : 0 < sz) {t e : TypeId} (ht : P.underlying t = some (.slice e)) (hc : P.cellsOf e = sz)
    (Q : α → Prop) (hinv : ∀ cs, Rd enc P w e cs → ∃ r, cs = f r ∧ Q r) {v : Value} (h : Rd enc P w t [v]) : ∃ l : List α, SlOf (· < w.heap.size) w v sz (l.flatMap f) l.length ∧ ∀ r ∈ l, Q r := by
  obtain ⟨n, x, hx⟩ := h
  rcases open_slice ht hx with ⟨hv, _⟩ | ⟨a, len, cap, m, k, D, Pl, hv, _, hl, hm, hmm, _, hall⟩
  · obtain rfl : v = .slice none 0 0 := by simpa using hv
    exact ⟨[], SlOf.nil _ _ _, fun r hr => by cases hr⟩
  · obtain rfl : v = .slice (some a) len cap := by simpa using hv
    obtain rfl : m = cap := by simpa using hmm
    have hrow : ∀ i, i < m → ∃ r, (w.cells? 0 (a.add (i * sz)) sz = some (f r) ∧ Q r) := fun i hi => by
      obtain ⟨cs', h1, h2⟩ := hall i hi
      obtain ⟨r, hr, hq⟩ := hinv cs' ⟨k, _, h2⟩
      rw [hc, hr] at h1
      exact ⟨r, h1, hq⟩
    obtain ⟨r, hr⟩ := choose_lt hrow
    refine ⟨(List.range len).map r, ⟨by rw [flat_len f sz hf], some a, m, by simp, by simpa using hl, hm, (fun h => by cases h), fun hp => ?_⟩, ?_⟩
    · have hlen : 0 < len := by
        rw [flat_len f sz hf, List.length_map, List.length_range] at hp
        exact Nat.pos_of_ne_zero (fun h => by subst h; simp at hp)
      have c0 := World.cells?_some (hr 0 (by omega)).1
      have c00 := c0.2.2 0 hsz
      rw [List.getElem?_eq_getElem (by rw [hf]; exact hsz)] at c00
      obtain ⟨b, off, spot⟩ := a
      have hspot : spot = none := by simpa [Addr.add] using World.cell?_spot c00
      subst hspot
      refine ⟨b, off, rfl, ?_, ?_, ?_⟩
      · have := World.block_lt_of_cell? _ _ c00
        simpa [Addr.add] using this
      · have := World.block_lt_of_cell? _ _ c00
        simpa [Addr.add] using this
      · intro q u hu
        have hq : q < ((List.range len).map r).length * sz := by rw [← flat_len f sz hf]; exact (List.getElem?_eq_some_iff.1 hu).1
        have hq' : q < len * sz := by simpa using hq
        have hi : q / sz < len := (Nat.div_lt_iff_lt_mul hsz).2 hq'
        have hj : q % sz < sz := Nat.mod_lt _ hsz
        have hdm : q / sz * sz + q % sz = q := by rw [Nat.mul_comm]; exact Nat.div_add_mod q sz
        have hg := flat_get f sz hf ((List.range len).map r) (q / sz) (by simpa using hi) (q % sz) hj
        rw [hdm, hu] at hg
        have hce := (World.cells?_some (hr (q / sz) (by omega)).1).2.2 (q % sz) hj
        rw [addr_add, addr_add, Nat.add_assoc, hdm] at hce
        rw [hce]
        simpa using hg.symm
    · intro x hx
      obtain ⟨i, hi, rfl⟩ := List.mem_map.1 hx
      exact (hr i (by have := List.mem_range.1 hi; omega)).2
end

theorem list2 {l : List Value} (h : l.length = 2) : ∃ c0 c1, l = [c0, c1] := by
  match l, h with
  | [c0, c1], _ => exact ⟨_, _, rfl⟩
theorem list3 {l : List Value} (h : l.length = 3) : ∃ c0 c1 c2, l = [c0, c1, c2] := by
  match l, h with
  | [c0, c1, c2], _ => exact ⟨_, _, _, rfl⟩
theorem list4 {l : List Value} (h : l.length = 4) : ∃ c0 c1 c2 c3, l = [c0, c1, c2, c3] := by
  match l, h with
  | [c0, c1, c2, c3], _ => exact ⟨_, _, _, _, rfl⟩
theorem list10 {l : List Value} (h : l.length = 10) : ∃ c0 c1 c2 c3 c4 c5 c6 c7 c8 c9, l = [c0, c1, c2, c3, c4, c5, c6, c7, c8, c9] := by
  match l, h with
  | [c0, c1, c2, c3, c4, c5, c6, c7, c8, c9], _ => exact ⟨_, _, _, _, _, _, _, _, _, _, rfl⟩

instance : Inhabited GapV := ⟨⟨0, 0, 0, 0⟩⟩
instance : Inhabited RepV := ⟨⟨0, 0, false⟩⟩

theorem Tryd.cInt : Tryd.prog.cellsOf 3 = 1 := by kernel_rfl
theorem Tryd.cStr : Tryd.prog.cellsOf 9 = 1 := by kernel_rfl
theorem Tryd.cGap : Tryd.prog.cellsOf 104 = 4 := by kernel_rfl
theorem Tryd.cEdge : Tryd.prog.cellsOf 105 = 2 := by kernel_rfl
theorem Tryd.cEnt : Tryd.prog.cellsOf 27 = 10 := by kernel_rfl
theorem Tryd.cBool : Tryd.prog.cellsOf 4 = 1 := by kernel_rfl
theorem Tryd.cSl1 : Tryd.prog.cellsOf 22 = 1 := by kernel_rfl
theorem Tryd.cSl2 : Tryd.prog.cellsOf 23 = 1 := by kernel_rfl
theorem Tryd.cSl3 : Tryd.prog.cellsOf 24 = 1 := by kernel_rfl
theorem Tryd.cSl4 : Tryd.prog.cellsOf 25 = 1 := by kernel_rfl

def I64 (n : Int) : Prop := -9223372036854775808 ≤ n ∧ n ≤ 9223372036854775807
theorem i64_of_wf {n : Int} (h : (Lit.int .i64 n).wf = true) : I64 n := by
  simp [Lit.wf, IntKind.min, IntKind.max, IntKind.signed, IntKind.bits] at h
  unfold I64; omega

section
variable {H : Type} {enc : TypeId × Value → H} {w : World}
theorem rd_gap (cs : List Value) (h : Rd enc Tryd.prog w 104 cs) : ∃ r, cs = gapCells r ∧ (I64 r.fr ∧ I64 r.dst ∧ I64 r.mn ∧ I64 r.mx) := by
  obtain ⟨c0, c1, c2, c3, rfl⟩ := list4 ((h.len Tryd.underlying104).trans Tryd.cGap)
  obtain ⟨n0, h0, w0⟩ := (show Rd enc Tryd.prog w 3 [c0] from h.fieldAt Tryd.underlying104 0 Tryd.cInt rfl).int Tryd.underlying3
  obtain ⟨n1, h1, w1⟩ := (show Rd enc Tryd.prog w 3 [c1] from h.fieldAt Tryd.underlying104 1 Tryd.cInt rfl).int Tryd.underlying3
  obtain ⟨n2, h2, w2⟩ := (show Rd enc Tryd.prog w 3 [c2] from h.fieldAt Tryd.underlying104 2 Tryd.cInt rfl).int Tryd.underlying3
  obtain ⟨n3, h3, w3⟩ := (show Rd enc Tryd.prog w 3 [c3] from h.fieldAt Tryd.underlying104 3 Tryd.cInt rfl).int Tryd.underlying3
  simp at h0 h1 h2 h3
  subst h0 h1 h2 h3
  exact ⟨⟨n0, n1, n2, n3⟩, rfl, i64_of_wf w0, i64_of_wf w1, i64_of_wf w2, i64_of_wf w3⟩
theorem rd_edge (cs : List Value) (h : Rd enc Tryd.prog w 105 cs) : ∃ r, cs = edgeCells r ∧ (I64 r.1 ∧ I64 r.2) := by
  obtain ⟨c0, c1, rfl⟩ := list2 ((h.alen Tryd.underlying105).trans Tryd.cEdge)
  obtain ⟨n0, h0, w0⟩ := (show Rd enc Tryd.prog w 3 [c0] from h.itemAt Tryd.underlying105 0 (by decide) Tryd.cInt).int Tryd.underlying3
  obtain ⟨n1, h1, w1⟩ := (show Rd enc Tryd.prog w 3 [c1] from h.itemAt Tryd.underlying105 1 (by decide) Tryd.cInt).int Tryd.underlying3
  simp at h0 h1
  subst h0 h1
  exact ⟨(n0, n1), rfl, i64_of_wf w0, i64_of_wf w1⟩
theorem rd_int (cs : List Value) (h : Rd enc Tryd.prog w 3 cs) : ∃ r : Int, cs = [.int .i64 r] ∧ I64 r := by
  obtain ⟨n, hn, wn⟩ := h.int Tryd.underlying3
  exact ⟨n, hn, i64_of_wf wn⟩
theorem rd_str (cs : List Value) (h : Rd enc Tryd.prog w 9 cs) : ∃ r : ByteArray, cs = [.string r] ∧ r.size ≤ maxLen := h.str Tryd.underlying9
theorem rd_bool (cs : List Value) (h : Rd enc Tryd.prog w 4 cs) : ∃ r : Bool, cs = boolCell r ∧ True := by
  obtain ⟨b, hb⟩ := h.bool Tryd.underlying4
  exact ⟨b, hb, trivial⟩

/-- The numbers of an entity are int's, its texts not too long. -/
structure EntWf (E : EntV) : Prop where
  name : E.name.size ≤ maxLen
  tol : I64 E.tol
  count : I64 E.count
  mn : I64 E.mn
  mx : I64 E.mx
  points : ∀ s ∈ E.points, s.size ≤ maxLen
  gaps : ∀ r ∈ E.gaps, I64 r.fr ∧ I64 r.dst ∧ I64 r.mn ∧ I64 r.mx
  edges : ∀ r ∈ E.edges, I64 r.1 ∧ I64 r.2
  first : ∀ r ∈ E.first, I64 r
  last : ∀ r ∈ E.last, I64 r

theorem flat_one {α : Type} (g : α → Value) (l : List α) : l.flatMap (fun x => [g x]) = l.map g := by
  induction l with
  | nil => rfl
  | cons x l ih => simp [ih]

theorem rd_ent {v : Value} (hv : ∃ cs : Array Value, v = .agg cs) (h : Rd enc Tryd.prog w 27 v.cells.toList) : ∃ E vp vg ve vf vl, v = .agg (entCs E vp vg ve vf vl) ∧ EntSl (· < w.heap.size) w E vp vg ve vf vl ∧ EntWf E := by
  obtain ⟨cs, rfl⟩ := hv
  have h' : Rd enc Tryd.prog w 27 cs.toList := h
  obtain ⟨c0, c1, c2, c3, c4, c5, c6, c7, c8, c9, hcs⟩ := list10 ((h'.len Tryd.underlying27).trans Tryd.cEnt)
  obtain rfl : cs = #[c0, c1, c2, c3, c4, c5, c6, c7, c8, c9] := by cases cs; simp_all
  obtain ⟨s0, h0, w0⟩ := (show Rd enc Tryd.prog w 9 [c0] from h'.fieldAt Tryd.underlying27 0 Tryd.cStr rfl).str Tryd.underlying9
  obtain ⟨n1, h1, w1⟩ := (show Rd enc Tryd.prog w 3 [c1] from h'.fieldAt Tryd.underlying27 1 Tryd.cInt rfl).int Tryd.underlying3
  have r2 : Rd enc Tryd.prog w 22 [c2] := h'.fieldAt Tryd.underlying27 2 Tryd.cSl1 rfl
  obtain ⟨n3, h3, w3⟩ := (show Rd enc Tryd.prog w 3 [c3] from h'.fieldAt Tryd.underlying27 3 Tryd.cInt rfl).int Tryd.underlying3
  obtain ⟨n4, h4, w4⟩ := (show Rd enc Tryd.prog w 3 [c4] from h'.fieldAt Tryd.underlying27 4 Tryd.cInt rfl).int Tryd.underlying3
  obtain ⟨n5, h5, w5⟩ := (show Rd enc Tryd.prog w 3 [c5] from h'.fieldAt Tryd.underlying27 5 Tryd.cInt rfl).int Tryd.underlying3
  have r6 : Rd enc Tryd.prog w 23 [c6] := h'.fieldAt Tryd.underlying27 6 Tryd.cSl2 rfl
  have r7 : Rd enc Tryd.prog w 24 [c7] := h'.fieldAt Tryd.underlying27 7 Tryd.cSl3 rfl
  have r8 : Rd enc Tryd.prog w 25 [c8] := h'.fieldAt Tryd.underlying27 8 Tryd.cSl4 rfl
  have r9 : Rd enc Tryd.prog w 25 [c9] := h'.fieldAt Tryd.underlying27 9 Tryd.cSl4 rfl
  simp at h0 h1 h3 h4 h5
  subst h0 h1 h3 h4 h5
  obtain ⟨lp, sp, qp⟩ := r2.rows (fun s : ByteArray => [Value.string s]) 1 (fun _ => rfl) (by decide) Tryd.underlying22 Tryd.cStr _ (rd_str)
  obtain ⟨lg, sg, qg⟩ := r6.rows gapCells 4 (fun _ => rfl) (by decide) Tryd.underlying23 Tryd.cGap _ rd_gap
  obtain ⟨le, se, qe⟩ := r7.rows edgeCells 2 (fun _ => rfl) (by decide) Tryd.underlying24 Tryd.cEdge _ rd_edge
  obtain ⟨lf, sf, qf⟩ := r8.rows (fun n : Int => [Value.int .i64 n]) 1 (fun _ => rfl) (by decide) Tryd.underlying25 Tryd.cInt _ rd_int
  obtain ⟨ll, sl, ql⟩ := r9.rows (fun n : Int => [Value.int .i64 n]) 1 (fun _ => rfl) (by decide) Tryd.underlying25 Tryd.cInt _ rd_int
  rw [flat_one] at sp sf sl
  exact ⟨⟨s0, n1, lp, n3, n4, n5, lg, le, lf, ll⟩, c2, c6, c7, c8, c9, rfl, ⟨sp, sg, se, sf, sl⟩, ⟨w0, i64_of_wf w1, i64_of_wf w3, i64_of_wf w4, i64_of_wf w5, qp, qg, qe, qf, ql⟩⟩
end
end Go.Proofs.YtkhcepdeppmofaaDoor
