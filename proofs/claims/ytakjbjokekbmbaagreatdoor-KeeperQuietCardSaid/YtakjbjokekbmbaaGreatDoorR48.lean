/- A law's arguments opened: what reads as data is a plain value, a plain list. -/
import Derived.Test.YtakjbjokekbmbaaGreatDoorR06
import Derived.Test.YtakjbjokekbmbaaGreatDoorR03
import Derived.LaidLaws
import Derived.LaidHandle
import Derived.Stop.Joined
import Derived.Test.YtakjbjokekbmbaaGreatDoorR29
import Derived.Test.YtakjbjokekbmbaaGreatDoorR32
import Derived.Lib.LaidTab
import Derived.Stop.LaidErr
import Derived.Test.YtakjbjokekbmbaaGreatDoorR31
namespace Go.Proofs.YtakjbjokekbmbaaGreatDoor
open Go.ChangeShapes Go.WideShapes Go.ChangeAt Go.RowKit Go.Deep
set_option linter.unusedVariables false

section
variable {H : Type} {enc : TypeId × Value → H} {P : Program} {w : World}

/-- The reading of an argument of type t, cells cs. -/
def Rd (enc : TypeId × Value → H) (P : Program) (w : World) (t : TypeId) (cs : List Value) : Prop := ∃ n x, DataW.trod enc P w 0 (fun _ => true) true n t cs = some x
theorem rd_of {t : TypeId} {v : Value} {d : DataW H} {p : List MemPlace} (h : DataW.Trod enc P w 0 (fun _ => true) true t v d p) : Rd enc P w t v.cells.toList := by
  obtain ⟨n, hn⟩ := h
  exact ⟨n, _, hn⟩
theorem Rd.field {t : TypeId} {fs : Array Field} {cs : List Value} (ht : P.underlying t = some (.struct fs)) (h : Rd enc P w t cs) (i : Nat) (f : Field) (hf : fs[i]? = some f) : Rd enc P w f.type ((cs.drop f.offset).take (P.cellsOf f.type)) := by
  obtain ⟨n, x, hx⟩ := h
  obtain ⟨xs, m, _, _, _, hlen, hall⟩ := DataW.trod_struct ht hx
  have hi : i < xs.length := by rw [hlen]; exact (Array.getElem?_eq_some_iff.1 hf).1
  exact ⟨m, xs[i], by rw [hall i f hf]; simp [hi]⟩
theorem Rd.fieldAt {t : TypeId} {fs : Array Field} {cs : List Value} (ht : P.underlying t = some (.struct fs)) (h : Rd enc P w t cs) (i : Nat) {T off k : Nat} (hc : P.cellsOf T = k) (hf : (fs[i]?).map (fun f => (f.type, f.offset)) = some (T, off)) : Rd enc P w T ((cs.drop off).take k) := by
  cases hfi : fs[i]? with
  | none => rw [hfi] at hf; cases hf
  | some f =>
    rw [hfi] at hf
    simp only [Option.map_some, Option.some.injEq, Prod.mk.injEq] at hf
    obtain ⟨rfl, rfl⟩ := hf
    rw [← hc]
    exact h.field ht i f hfi
theorem Rd.len {t : TypeId} {fs : Array Field} {cs : List Value} (ht : P.underlying t = some (.struct fs)) (h : Rd enc P w t cs) : cs.length = P.cellsOf t := by
  obtain ⟨n, x, hx⟩ := h
  obtain ⟨xs, m, _, _, hl, _, _⟩ := DataW.trod_struct ht hx
  exact hl
theorem Rd.item {t e : TypeId} {n : Nat} {cs : List Value} (ht : P.underlying t = some (.array n e)) (h : Rd enc P w t cs) (i : Nat) (hi : i < n) : Rd enc P w e ((cs.drop (i * P.cellsOf e)).take (P.cellsOf e)) := by
  obtain ⟨m, x, hx⟩ := h
  obtain ⟨xs, k, _, _, _, hlen, hall⟩ := DataW.trod_array ht hx
  exact ⟨k, xs[i]'(by omega), by rw [hall i hi]; simp [hlen, hi]⟩
theorem Rd.itemAt {t e : TypeId} {n : Nat} {cs : List Value} (ht : P.underlying t = some (.array n e)) (h : Rd enc P w t cs) (i : Nat) (hi : i < n) {k : Nat} (hc : P.cellsOf e = k) : Rd enc P w e ((cs.drop (i * k)).take k) := by
  rw [← hc]
  exact h.item ht i hi
theorem Rd.alen {t e : TypeId} {n : Nat} {cs : List Value} (ht : P.underlying t = some (.array n e)) (h : Rd enc P w t cs) : cs.length = P.cellsOf t := by
  obtain ⟨m, x, hx⟩ := h
  obtain ⟨xs, k, _, _, hl, _, _⟩ := DataW.trod_array ht hx
  exact hl
theorem Rd.int {t : TypeId} {k : IntKind} {cs : List Value} (ht : P.underlying t = some (.int k)) (h : Rd enc P w t cs) : ∃ n, cs = [.int k n] ∧ (Lit.int k n).wf = true := by
  obtain ⟨m, x, hx⟩ := h
  obtain ⟨n, hc, _, hw⟩ := DataW.trod_int ht hx
  exact ⟨n, hc, hw⟩
theorem Rd.bool {t : TypeId} {cs : List Value} (ht : P.underlying t = some .bool) (h : Rd enc P w t cs) : ∃ b, cs = [.bool b] := by
  obtain ⟨m, x, hx⟩ := h
  obtain ⟨n, hc, _⟩ := DataW.trod_bool ht hx
  exact ⟨n, hc⟩
theorem Rd.str {t : TypeId} {cs : List Value} (ht : P.underlying t = some .string) (h : Rd enc P w t cs) : ∃ s : ByteArray, cs = [.string s] ∧ s.size ≤ maxLen := by
  obtain ⟨m, x, hx⟩ := h
  obtain ⟨n, hc, _, hs⟩ := DataW.trod_string ht hx
  exact ⟨n, hc, hs⟩

/-- A slice: its elements, each as it is read. -/
theorem Rd.rows {α : Type} [Inhabited α] (f : α → List Value) (sz : Nat) (hf : ∀ x, (f x).length = sz) (hsz : 0 < sz) {t e : TypeId} (ht : P.underlying t = some (.slice e)) (hc : P.cellsOf e = sz)
    (Q : α → Prop) (hinv : ∀ cs, Rd enc P w e cs → ∃ r, cs = f r ∧ Q r) {v : Value} (h : Rd enc P w t [v]) : ∃ l : List α, SlOf (· < w.heap.size) w v sz (l.flatMap f) l.length ∧ ∀ r ∈ l, Q r := by
  obtain ⟨n, x, hx⟩ := h
  rcases open_slice ht hx with ⟨hv, _⟩ | ⟨a, len, cap, m, k, D, Pl, hv, _, hl, hm, hmm, _, hall⟩
  · obtain rfl : v = .slice none 0 0 := by simpa using hv
    exact ⟨[], SlOf.nil _ _ _, fun r hr => by cases hr⟩
  · obtain rfl : v = .slice (some a) len cap := by simpa using hv
    obtain rfl : m = cap := by simpa using hmm
    have hrow : ∀ i, i < m → ∃ r, (w.cells? 0 (a.add (i * sz)) sz = some (f r) ∧ Q r) := fun i hi => by
      obtain ⟨cs', h1, h2⟩ := hall i hi
      obtain ⟨r, hr, hq⟩ := hinv cs' ⟨k, _, h2⟩
      rw [hc, hr] at h1
      exact ⟨r, h1, hq⟩
    obtain ⟨r, hr⟩ := choose_lt hrow
    refine ⟨(List.range len).map r, ⟨by rw [flat_len f sz hf], some a, m, by simp, by simpa using hl, hm, (fun h => by cases h), fun hp => ?_⟩, ?_⟩
    · have hlen : 0 < len := by
        rw [flat_len f sz hf, List.length_map, List.length_range] at hp
        exact Nat.pos_of_ne_zero (fun h => by subst h; simp at hp)
      have c0 := World.cells?_some (hr 0 (by omega)).1
      have c00 := c0.2.2 0 hsz
      rw [List.getElem?_eq_getElem (by rw [hf]; exact hsz)] at c00
      obtain ⟨b, off, spot⟩ := a
      have hspot : spot = none := by simpa [Addr.add] using World.cell?_spot c00
      subst hspot
      refine ⟨b, off, rfl, ?_, ?_, ?_⟩
      · have := World.block_lt_of_cell? _ _ c00
        simpa [Addr.add] using this
      · have := World.block_lt_of_cell? _ _ c00
        simpa [Addr.add] using this
      · intro q u hu
        have hq : q < ((List.range len).map r).length * sz := by rw [← flat_len f sz hf]; exact (List.getElem?_eq_some_iff.1 hu).1
        have hq' : q < len * sz := by simpa using hq
        have hi : q / sz < len := (Nat.div_lt_iff_lt_mul hsz).2 hq'
        have hj : q % sz < sz := Nat.mod_lt _ hsz
        have hdm : q / sz * sz + q % sz = q := by rw [Nat.mul_comm]; exact Nat.div_add_mod q sz
        have hg := flat_get f sz hf ((List.range len).map r) (q / sz) (by simpa using hi) (q % sz) hj
        rw [hdm, hu] at hg
        have hce := (World.cells?_some (hr (q / sz) (by omega)).1).2.2 (q % sz) hj
        rw [addr_add, addr_add, Nat.add_assoc, hdm] at hce
        rw [hce]
        simpa using hg.symm
    · intro x hx
      obtain ⟨i, hi, rfl⟩ := List.mem_map.1 hx
      exact (hr i (by have := List.mem_range.1 hi; omega)).2
end

theorem list2 {l : List Value} (h : l.length = 2) : ∃ c0 c1, l = [c0, c1] := by
  match l, h with
  | [c0, c1], _ => exact ⟨_, _, rfl⟩
theorem list3 {l : List Value} (h : l.length = 3) : ∃ c0 c1 c2, l = [c0, c1, c2] := by
  match l, h with
  | [c0, c1, c2], _ => exact ⟨_, _, _, rfl⟩
theorem list4 {l : List Value} (h : l.length = 4) : ∃ c0 c1 c2 c3, l = [c0, c1, c2, c3] := by
  match l, h with
  | [c0, c1, c2, c3], _ => exact ⟨_, _, _, _, rfl⟩
theorem list10 {l : List Value} (h : l.length = 10) : ∃ c0 c1 c2 c3 c4 c5 c6 c7 c8 c9, l = [c0, c1, c2, c3, c4, c5, c6, c7, c8, c9] := by
  match l, h with
  | [c0, c1, c2, c3, c4, c5, c6, c7, c8, c9], _ => exact ⟨_, _, _, _, _, _, _, _, _, _, rfl⟩

instance : Inhabited GapV := ⟨⟨0, 0, 0, 0⟩⟩
instance : Inhabited RepV := ⟨⟨0, 0, false⟩⟩

theorem Tryz.cInt : Tryz.prog.cellsOf 3 = 1 := by kernel_rfl
theorem Tryz.cStr : Tryz.prog.cellsOf 9 = 1 := by kernel_rfl
theorem Tryz.cGap : Tryz.prog.cellsOf 96 = 4 := by kernel_rfl
theorem Tryz.cEdge : Tryz.prog.cellsOf 97 = 2 := by kernel_rfl
theorem Tryz.cEnt : Tryz.prog.cellsOf 38 = 10 := by kernel_rfl
theorem Tryz.cBool : Tryz.prog.cellsOf 4 = 1 := by kernel_rfl
theorem Tryz.cSl1 : Tryz.prog.cellsOf 33 = 1 := by kernel_rfl
theorem Tryz.cSl2 : Tryz.prog.cellsOf 34 = 1 := by kernel_rfl
theorem Tryz.cSl3 : Tryz.prog.cellsOf 35 = 1 := by kernel_rfl
theorem Tryz.cSl4 : Tryz.prog.cellsOf 36 = 1 := by kernel_rfl

def I64 (n : Int) : Prop := -9223372036854775808 ≤ n ∧ n ≤ 9223372036854775807
theorem i64_of_wf {n : Int} (h : (Lit.int .i64 n).wf = true) : I64 n := by
  simp [Lit.wf, IntKind.min, IntKind.max, IntKind.signed, IntKind.bits] at h
  unfold I64; omega

section
variable {H : Type} {enc : TypeId × Value → H} {w : World}
theorem rd_gap (cs : List Value) (h : Rd enc Tryz.prog w 96 cs) : ∃ r, cs = gapCells r ∧ (I64 r.fr ∧ I64 r.dst ∧ I64 r.mn ∧ I64 r.mx) := by
  obtain ⟨c0, c1, c2, c3, rfl⟩ := list4 ((h.len Tryz.underlying96).trans Tryz.cGap)
  obtain ⟨n0, h0, w0⟩ := (show Rd enc Tryz.prog w 3 [c0] from h.fieldAt Tryz.underlying96 0 Tryz.cInt rfl).int Tryz.underlying3
  obtain ⟨n1, h1, w1⟩ := (show Rd enc Tryz.prog w 3 [c1] from h.fieldAt Tryz.underlying96 1 Tryz.cInt rfl).int Tryz.underlying3
  obtain ⟨n2, h2, w2⟩ := (show Rd enc Tryz.prog w 3 [c2] from h.fieldAt Tryz.underlying96 2 Tryz.cInt rfl).int Tryz.underlying3
  obtain ⟨n3, h3, w3⟩ := (show Rd enc Tryz.prog w 3 [c3] from h.fieldAt Tryz.underlying96 3 Tryz.cInt rfl).int Tryz.underlying3
  simp at h0 h1 h2 h3
  subst h0 h1 h2 h3
  exact ⟨⟨n0, n1, n2, n3⟩, rfl, i64_of_wf w0, i64_of_wf w1, i64_of_wf w2, i64_of_wf w3⟩
theorem rd_edge (cs : List Value) (h : Rd enc Tryz.prog w 97 cs) : ∃ r, cs = edgeCells r ∧ (I64 r.1 ∧ I64 r.2) := by
  obtain ⟨c0, c1, rfl⟩ := list2 ((h.alen Tryz.underlying97).trans Tryz.cEdge)
  obtain ⟨n0, h0, w0⟩ := (show Rd enc Tryz.prog w 3 [c0] from h.itemAt Tryz.underlying97 0 (by decide) Tryz.cInt).int Tryz.underlying3
  obtain ⟨n1, h1, w1⟩ := (show Rd enc Tryz.prog w 3 [c1] from h.itemAt Tryz.underlying97 1 (by decide) Tryz.cInt).int Tryz.underlying3
  simp at h0 h1
  subst h0 h1
  exact ⟨(n0, n1), rfl, i64_of_wf w0, i64_of_wf w1⟩
theorem rd_int (cs : List Value) (h : Rd enc Tryz.prog w 3 cs) : ∃ r : Int, cs = [.int .i64 r] ∧ I64 r := by
  obtain ⟨n, hn, wn⟩ := h.int Tryz.underlying3
  exact ⟨n, hn, i64_of_wf wn⟩
theorem rd_str (cs : List Value) (h : Rd enc Tryz.prog w 9 cs) : ∃ r : ByteArray, cs = [.string r] ∧ r.size ≤ maxLen := h.str Tryz.underlying9
theorem rd_bool (cs : List Value) (h : Rd enc Tryz.prog w 4 cs) : ∃ r : Bool, cs = boolCell r ∧ True := by
  obtain ⟨b, hb⟩ := h.bool Tryz.underlying4
  exact ⟨b, hb, trivial⟩

/-- The numbers of an entity are int's, its texts not too long. -/
structure EntWf (E : EntV) : Prop where
  name : E.name.size ≤ maxLen
  tol : I64 E.tol
  count : I64 E.count
  mn : I64 E.mn
  mx : I64 E.mx
  points : ∀ s ∈ E.points, s.size ≤ maxLen
  gaps : ∀ r ∈ E.gaps, I64 r.fr ∧ I64 r.dst ∧ I64 r.mn ∧ I64 r.mx
  edges : ∀ r ∈ E.edges, I64 r.1 ∧ I64 r.2
  first : ∀ r ∈ E.first, I64 r
  last : ∀ r ∈ E.last, I64 r

theorem flat_one {α : Type} (g : α → Value) (l : List α) : l.flatMap (fun x => [g x]) = l.map g := by
  induction l with
  | nil => rfl
  | cons x l ih => simp [ih]

theorem rd_ent {v : Value} (hv : ∃ cs : Array Value, v = .agg cs) (h : Rd enc Tryz.prog w 38 v.cells.toList) : ∃ E vp vg ve vf vl, v = .agg (entCs E vp vg ve vf vl) ∧ EntSl (· < w.heap.size) w E vp vg ve vf vl ∧ EntWf E := by
  obtain ⟨cs, rfl⟩ := hv
  have h' : Rd enc Tryz.prog w 38 cs.toList := h
  obtain ⟨c0, c1, c2, c3, c4, c5, c6, c7, c8, c9, hcs⟩ := list10 ((h'.len Tryz.underlying38).trans Tryz.cEnt)
  obtain rfl : cs = #[c0, c1, c2, c3, c4, c5, c6, c7, c8, c9] := by cases cs; simp_all
  obtain ⟨s0, h0, w0⟩ := (show Rd enc Tryz.prog w 9 [c0] from h'.fieldAt Tryz.underlying38 0 Tryz.cStr rfl).str Tryz.underlying9
  obtain ⟨n1, h1, w1⟩ := (show Rd enc Tryz.prog w 3 [c1] from h'.fieldAt Tryz.underlying38 1 Tryz.cInt rfl).int Tryz.underlying3
  have r2 : Rd enc Tryz.prog w 33 [c2] := h'.fieldAt Tryz.underlying38 2 Tryz.cSl1 rfl
  obtain ⟨n3, h3, w3⟩ := (show Rd enc Tryz.prog w 3 [c3] from h'.fieldAt Tryz.underlying38 3 Tryz.cInt rfl).int Tryz.underlying3
  obtain ⟨n4, h4, w4⟩ := (show Rd enc Tryz.prog w 3 [c4] from h'.fieldAt Tryz.underlying38 4 Tryz.cInt rfl).int Tryz.underlying3
  obtain ⟨n5, h5, w5⟩ := (show Rd enc Tryz.prog w 3 [c5] from h'.fieldAt Tryz.underlying38 5 Tryz.cInt rfl).int Tryz.underlying3
  have r6 : Rd enc Tryz.prog w 34 [c6] := h'.fieldAt Tryz.underlying38 6 Tryz.cSl2 rfl
  have r7 : Rd enc Tryz.prog w 35 [c7] := h'.fieldAt Tryz.underlying38 7 Tryz.cSl3 rfl
  have r8 : Rd enc Tryz.prog w 36 [c8] := h'.fieldAt Tryz.underlying38 8 Tryz.cSl4 rfl
  have r9 : Rd enc Tryz.prog w 36 [c9] := h'.fieldAt Tryz.underlying38 9 Tryz.cSl4 rfl
  simp at h0 h1 h3 h4 h5
  subst h0 h1 h3 h4 h5
  obtain ⟨lp, sp, qp⟩ := r2.rows (fun s : ByteArray => [Value.string s]) 1 (fun _ => rfl) (by decide) Tryz.underlying33 Tryz.cStr _ (rd_str)
  obtain ⟨lg, sg, qg⟩ := r6.rows gapCells 4 (fun _ => rfl) (by decide) Tryz.underlying34 Tryz.cGap _ rd_gap
  obtain ⟨le, se, qe⟩ := r7.rows edgeCells 2 (fun _ => rfl) (by decide) Tryz.underlying35 Tryz.cEdge _ rd_edge
  obtain ⟨lf, sf, qf⟩ := r8.rows (fun n : Int => [Value.int .i64 n]) 1 (fun _ => rfl) (by decide) Tryz.underlying36 Tryz.cInt _ rd_int
  obtain ⟨ll, sl, ql⟩ := r9.rows (fun n : Int => [Value.int .i64 n]) 1 (fun _ => rfl) (by decide) Tryz.underlying36 Tryz.cInt _ rd_int
  rw [flat_one] at sp sf sl
  exact ⟨⟨s0, n1, lp, n3, n4, n5, lg, le, lf, ll⟩, c2, c6, c7, c8, c9, rfl, ⟨sp, sg, se, sf, sl⟩, ⟨w0, i64_of_wf w1, i64_of_wf w3, i64_of_wf w4, i64_of_wf w5, qp, qg, qe, qf, ql⟩⟩
end
end Go.Proofs.YtakjbjokekbmbaaGreatDoor

/- What a card's listed variables give a walk: the sentinels, each at its own place; the handle of the type error. -/
namespace Go.Proofs.YtakjbjokekbmbaaGreatDoor
open Go.ChangeShapes Go.WideShapes Go.ChangeAt Go.RowKit
set_option linter.unusedVariables false

def sentD (t : List UInt8) : DataW Unit := .iface "*errors.errorString" (.ptr (.agg [.lit (.string t)]))
theorem Tryz.starE : "*" ++ "errors.errorString" = "*errors.errorString" := by decide
theorem Tryz.rowE (u : TypeId) (h : Tryz.prog.typeName? 3 u = some "*errors.errorString") : u = 299 :=
  typeName_ptr_named (nm := "errors.errorString") (by rw [Tryz.starE]; kernel_rfl) (by kernel_rfl) (by decide) u (by rw [Tryz.starE]; exact h)
theorem Tryz.cellsE : Tryz.prog.cellsOf 301 = 1 := by kernel_rfl
theorem Tryz.cellsS : Tryz.prog.cellsOf 9 = 1 := by kernel_rfl

section
variable {P : Program} {ti tp te ts : TypeId} {ms : Array (String × TypeId)} {f : Field}
theorem laid_each (hi : P.underlying ti = some (.interface ms)) (hrow : ∀ u, P.typeName? 3 u = some "*errors.errorString" → u = tp) (hp : P.underlying tp = some (.pointer te)) (he : P.underlying te = some (.struct #[f])) (hft : f.type = ts) (hfo : f.offset = 0)
    (hs : P.underlying ts = some .string) (hc : P.cellsOf te = 1) (hcs : P.cellsOf ts = 1) {W : World} :
    ∀ (L : List (String × List UInt8)) (gs : List Nat), gs.length = L.length → (∀ k (h1 : k < L.length) (h2 : k < gs.length), P.globalNamed (L[k]).1 = some gs[k] ∧ (P.globals[gs[k]]?).map (·.type) = some ti) →
    ∀ ps, DataW.LaidVars P W (L.map fun x => (x.1, sentD x.2)) ps → ps.Nodup →
    (∀ b off, MemPlace.cell b off ∈ ps → (∃ c t, W.heap[b]? = some (.cells c t (0, 0))) ∧ ∀ u v, W.cell? ⟨b, off, none⟩ = some (.iface u v) → Value.okWide P W .any 0 u v) →
    ∃ bs : List Addr, bs.length = L.length ∧ bs.Nodup ∧ (∀ a ∈ bs, a.spot = none ∧ MemPlace.cell a.block a.off ∈ ps) ∧ ∀ k (h1 : k < L.length) (h2 : k < gs.length) (h3 : k < bs.length), W.cell? ⟨gs[k], 0, none⟩ = some (.iface tp (.pointer (some bs[k])))
  | [], gs, _, _, ps, _, _, _ => ⟨[], rfl, List.nodup_nil, (fun a ha => by simp at ha), (fun k h => by simp at h)⟩
  | x :: L, [], hl, _, _, _, _, _ => by simp at hl
  | x :: L, g :: gs, hl, hg, ps, hv, hnd, hrows => by
    obtain ⟨g0, t0, cs0, f0, p0, q0, hg0, ht0, hv0, hd0, hr0, rfl⟩ := hv
    have hgx : P.globalNamed x.1 = some g ∧ (P.globals[g]?).map (·.type) = some ti := hg 0 (by simp) (by simp)
    obtain rfl : g = g0 := Option.some.inj (hgx.1.symm.trans hg0)
    obtain rfl : ti = t0 := Option.some.inj (hgx.2.symm.trans ht0)
    obtain ⟨l0⟩ := cs0
    have ok0 : ∀ u v, l0 = [.iface u v] → Value.okWide P W .any 0 u v := fun u v e => by
      subst e
      exact (hrows g 0 (by simp [MemPlace.row])).2 u v (by simpa using World.var?_cell hg0 hv0 0)
    obtain ⟨a0, s0, rfl, hc0, hs0, hz0, rfl⟩ := errorString_of_trod hi hrow hp he hft hfo hs hc hcs hd0 ok0
    have hin : MemPlace.cell a0.block a0.off ∈ MemPlace.row a0 1 := by simp [MemPlace.row]
    obtain ⟨bs, h1, h2, h3, h4⟩ := laid_each hi hrow hp he hft hfo hs hc hcs L gs (by simpa using hl) (fun k q1 q2 => by
      have := hg (k + 1) (by simpa using q1) (by simpa using q2)
      simpa using this) q0 hr0 ((List.nodup_append.1 hnd).2.1) (fun b off hm => hrows b off (List.mem_append_right _ hm))
    refine ⟨a0 :: bs, by simp [h1], List.nodup_cons.2 ⟨fun hm => ?_, h2⟩, fun a ha => ?_, fun k q1 q2 q3 => ?_⟩
    · have hq := (h3 a0 hm).2
      exact (List.nodup_append.1 hnd).2.2 _ (List.mem_append_right _ hin) _ hq rfl
    · rcases List.mem_cons.1 ha with rfl | ha
      · exact ⟨World.cell?_spot hc0, List.mem_append_left _ (List.mem_append_right _ hin)⟩
      · exact ⟨(h3 a ha).1, List.mem_append_right _ (h3 a ha).2⟩
    · cases k with
      | zero => simpa using World.var?_cell hg0 hv0 0
      | succ k => exact h4 k (by simpa using q1) (by simpa using q2) (by simpa using q3)
end

def sentL : List (String × List UInt8) := [("nightwatch/api.ErrText", [110, 105, 103, 104, 116, 119, 97, 116, 99, 104, 58, 32, 116, 101, 120, 116]), ("nightwatch/api.ErrBound", [110, 105, 103, 104, 116, 119, 97, 116, 99, 104, 58, 32, 98, 111, 117, 110, 100]),
  ("nightwatch/api.ErrShape", [110, 105, 103, 104, 116, 119, 97, 116, 99, 104, 58, 32, 115, 104, 97, 112, 101]), ("nightwatch/api.ErrName", [110, 105, 103, 104, 116, 119, 97, 116, 99, 104, 58, 32, 110, 97, 109, 101]),
  ("nightwatch/api.ErrNone", [110, 105, 103, 104, 116, 119, 97, 116, 99, 104, 58, 32, 110, 111, 110, 101]), ("nightwatch/api.ErrExist", [110, 105, 103, 104, 116, 119, 97, 116, 99, 104, 58, 32, 101, 120, 105, 115, 116]),
  ("nightwatch/api.ErrFull", [110, 105, 103, 104, 116, 119, 97, 116, 99, 104, 58, 32, 102, 117, 108, 108]), ("nightwatch/api.ErrOff", [110, 105, 103, 104, 116, 119, 97, 116, 99, 104, 58, 32, 111, 102, 102]),
  ("nightwatch/api.ErrIdle", [110, 105, 103, 104, 116, 119, 97, 116, 99, 104, 58, 32, 105, 100, 108, 101]), ("nightwatch/api.ErrHeld", [110, 105, 103, 104, 116, 119, 97, 116, 99, 104, 58, 32, 104, 101, 108, 100]), ("nightwatch/api.ErrReset", [110, 105, 103, 104, 116, 119, 97, 116, 99, 104, 58, 32, 114, 101, 115, 101, 116])]
def sentGs : List Nat := [6, 2, 7, 8, 3, 9, 10, 5, 4, 1, 0]
def handleD : DataW Unit := .iface "internal/reflectlite.rtype" (.agg [.ptr (.lit (.string [101, 114, 114, 111, 114]))])
theorem Tryz.sentNames : sentL.map (fun x => Tryz.prog.globalNamed x.1) = sentGs.map some := by kernel_rfl
theorem Tryz.sentTypes : sentGs.map (fun g => (Tryz.prog.globals[g]?).map (·.type)) = sentGs.map (fun _ => some 46) := by kernel_rfl
theorem Tryz.etName : Tryz.prog.globalNamed "errors.errorType" = some 11 := by kernel_rfl
theorem Tryz.rtName : (Tryz.prog.cutTypes.find? (·.1 == "internal/reflectlite.rtype")).map (·.2) = some 203 := by kernel_rfl
theorem Tryz.oneError : ((List.range 330).filter fun t => Tryz.prog.rowNamed t [101, 114, 114, 111, 114]) = [46] := by kernel_rfl
theorem Tryz.nTypes : Tryz.prog.types.size = 330 := by kernel_rfl
theorem Tryz.handleE : typeHandle Tryz.prog 46 = .pointer (some ⟨20, 46, none⟩) := by kernel_rfl

theorem sents_of {W : World} (h : laidMet Tryz.prog (sentL.map fun x => (x.1, sentD x.2)) W) (h2 : handlesMet Tryz.prog [("errors.errorType", handleD)] W) : ∃ sa, Sents W.heap.size sa W := by
  obtain ⟨ps, hv, hnd, hrows⟩ := h
  obtain ⟨bs, q1, q2, q3, q4⟩ := laid_each Tryz.underlying46 Tryz.rowE Tryz.underlying299 Tryz.underlying301 rfl rfl Tryz.underlying9 Tryz.cellsE Tryz.cellsS sentL sentGs rfl (fun k h1 h2 => by
    have e1 := congrArg (fun l => l[k]?) Tryz.sentNames
    have e2 := congrArg (fun l => l[k]?) Tryz.sentTypes
    simp only [List.getElem?_map, List.getElem?_eq_getElem h1, List.getElem?_eq_getElem h2, Option.map_some, Option.some.injEq] at e1 e2
    exact ⟨e1, e2⟩) ps hv hnd hrows
  have h11 : bs.length = 11 := q1
  refine ⟨fun k => bs.getD k ⟨0, 0, none⟩, Sents.mk' (fun k hk => ?_) (fun i j hi hj hij => ?_) (fun k hk => ?_) ?_⟩
  · have hk2 : k < sentL.length := hk
    have hk3 : k < sentGs.length := hk
    have hk4 : k < bs.length := by omega
    have := q4 k hk2 hk3 hk4
    have e : sg k = sentGs[k] := by unfold sg; rw [List.getD_eq_getElem?_getD]; show (sentGs[k]?).getD 0 = _; rw [List.getElem?_eq_getElem hk3]; rfl
    rw [e, this]
    show _ = some (Value.iface _ (.pointer (some (bs.getD k _))))
    rw [List.getD_eq_getElem?_getD, List.getElem?_eq_getElem hk4]; rfl
  · have hi4 : i < bs.length := by omega
    have hj4 : j < bs.length := by omega
    show bs.getD i _ ≠ bs.getD j _
    rw [List.getD_eq_getElem?_getD, List.getD_eq_getElem?_getD, List.getElem?_eq_getElem hi4, List.getElem?_eq_getElem hj4]
    have hp := List.pairwise_iff_getElem.1 q2
    rcases Nat.lt_or_gt_of_ne hij with h | h
    · exact hp i j hi4 hj4 h
    · exact fun e => hp j i hj4 hi4 h e.symm
  · have hk4 : k < bs.length := by omega
    show (bs.getD k _).block < _ ∧ ∃ c t, W.heap[(bs.getD k _).block]? = _
    rw [List.getD_eq_getElem?_getD, List.getElem?_eq_getElem hk4]
    obtain ⟨c, t, hc⟩ := (hrows _ _ (q3 _ (List.getElem_mem hk4)).2).1
    exact ⟨lt_of_get hc, c, t, hc⟩
  · obtain ⟨name, u, ty, e1, e2, e3, e4, e5⟩ := h2 _ (List.mem_singleton.2 rfl)
    have en : name = [101, 114, 114, 111, 114] := (Option.some.inj e1).symm
    subst en
    obtain rfl := Option.some.inj (Tryz.rtName.symm.trans e2)
    have hm : ty ∈ (List.range 330).filter fun t => Tryz.prog.rowNamed t [101, 114, 114, 111, 114] := List.mem_filter.2 ⟨List.mem_range.2 (by rw [← Tryz.nTypes]; exact e3), e4⟩
    rw [Tryz.oneError] at hm
    obtain rfl := List.mem_singleton.1 hm
    rw [Tryz.handleE] at e5
    simpa using World.var?_cell Tryz.etName e5 0
/-- Some of the sentinels, out of a shorter list. -/
theorem some_sents {W : World} (L : List Nat) (hL : ∀ k ∈ L, k < 11) (h : laidMet Tryz.prog (L.map fun k => ((sentL.getD k ("", [])).1, sentD (sentL.getD k ("", [])).2)) W) : ∃ sa : Nat → Addr, ∀ k ∈ L, W.cell? ⟨sg k, 0, none⟩ = some (errv sa (k + 1)) := by
  obtain ⟨ps, hv, hnd, hrows⟩ := h
  have hall : ∀ k, k < 11 → Tryz.prog.globalNamed (sentL.getD k ("", [])).1 = some (sg k) ∧ (Tryz.prog.globals[sg k]?).map (·.type) = some 46 := fun k hk => by
    have e1 := congrArg (fun l => l[k]?) Tryz.sentNames
    have e2 := congrArg (fun l => l[k]?) Tryz.sentTypes
    have hk2 : k < sentL.length := hk
    have hk3 : k < sentGs.length := hk
    simp only [List.getElem?_map, List.getElem?_eq_getElem hk2, List.getElem?_eq_getElem hk3, Option.map_some, Option.some.injEq] at e1 e2
    have e : sg k = sentGs[k] := by unfold sg; rw [List.getD_eq_getElem?_getD]; show (sentGs[k]?).getD 0 = _; rw [List.getElem?_eq_getElem hk3]; rfl
    rw [List.getD_eq_getElem?_getD, List.getElem?_eq_getElem hk2, e]
    exact ⟨e1, e2⟩
  have hv2 : DataW.LaidVars Tryz.prog W ((L.map fun k => sentL.getD k ("", [])).map fun x => (x.1, sentD x.2)) ps := by
    rw [List.map_map]
    exact hv
  obtain ⟨bs, q1, q2, q3, q4⟩ := laid_each Tryz.underlying46 Tryz.rowE Tryz.underlying299 Tryz.underlying301 rfl rfl Tryz.underlying9 Tryz.cellsE Tryz.cellsS (L.map fun k => sentL.getD k ("", [])) (L.map sg) (by simp) (fun k h1 h2 => by
    simp only [List.length_map] at h1
    simp only [List.getElem_map]
    exact hall _ (hL _ (List.getElem_mem h1))) ps hv2 hnd hrows
  refine ⟨fun k => bs.getD (L.idxOf k) ⟨0, 0, none⟩, fun k hk => ?_⟩
  have hi : L.idxOf k < L.length := List.idxOf_lt_length_iff.2 hk
  have hb : L.idxOf k < bs.length := by rw [q1]; simpa using hi
  have h4 := q4 (L.idxOf k) (by simpa using hi) (by simpa using hi) hb
  simp only [List.getElem_map, List.getElem_idxOf] at h4
  rw [h4]
  show _ = some (Value.iface _ (.pointer (some (bs.getD (L.idxOf k) _))))
  rw [List.getD_eq_getElem?_getD, List.getElem?_eq_getElem hb]; rfl
theorem sentsR_of {W : World} {sa : Nat → Addr} {L : List Nat} (h : ∀ k ∈ L, W.cell? ⟨sg k, 0, none⟩ = some (errv sa (k + 1))) (h1 : 1 ∈ L) (h2 : 2 ∈ L) (h6 : 6 ∈ L) (h7 : 7 ∈ L) : SentsR W.heap.size sa W :=
  ⟨h 1 h1, h 2 h2, h 6 h6, h 7 h7, ⟨World.block_lt_of_cell? W _ (h 1 h1), World.block_lt_of_cell? W _ (h 2 h2), World.block_lt_of_cell? W _ (h 6 h6), World.block_lt_of_cell? W _ (h 7 h7)⟩, Nat.le_refl _⟩
end Go.Proofs.YtakjbjokekbmbaaGreatDoor

/- A config argument opened; the tables at the head of a card's list. -/
namespace Go.Proofs.YtakjbjokekbmbaaGreatDoor
open Go.ChangeShapes Go.WideShapes Go.ChangeAt Go.RowKit Go.Deep
set_option linter.unusedVariables false

theorem list5 {l : List Value} (h : l.length = 5) : ∃ c0 c1 c2 c3 c4, l = [c0, c1, c2, c3, c4] := by
  match l, h with
  | [c0, c1, c2, c3, c4], _ => exact ⟨_, _, _, _, _, rfl⟩
instance : Inhabited EntX := ⟨⟨⟨ByteArray.empty, 0, [], 0, 0, 0, [], [], [], []⟩, .slice none 0 0, .slice none 0 0, .slice none 0 0, .slice none 0 0, .slice none 0 0⟩⟩
theorem Tryz.cConf : Tryz.prog.cellsOf 24 = 5 := by kernel_rfl
theorem Tryz.cSlE : Tryz.prog.cellsOf 22 = 1 := by kernel_rfl
/-- The numbers of a config are int's. -/
structure ConfWf (C : ConfV) : Prop where
  closed : I64 C.closed
  opn : I64 C.opn
  cycle : I64 C.cycle
  delay : I64 C.delay
  ents : ∀ E ∈ C.ents, EntWf E
section
variable {H : Type} {enc : TypeId × Value → H} {w : World}
theorem rd_entX (cs : List Value) (h : Rd enc Tryz.prog w 38 cs) : ∃ x : EntX, cs = entXCells x ∧ (EntSl (· < w.heap.size) w x.E x.p x.g x.e x.f x.l ∧ EntWf x.E) := by
  obtain ⟨E, vp, vg, ve, vf, vl, hv, hs, hw⟩ := rd_ent (v := .agg cs.toArray) ⟨_, rfl⟩ h
  refine ⟨⟨E, vp, vg, ve, vf, vl⟩, ?_, hs, hw⟩
  have := congrArg Array.toList (Value.agg.inj hv)
  simpa [entXCells] using this
theorem rd_conf {v : Value} (hv : ∃ cs : Array Value, v = .agg cs) (h : Rd enc Tryz.prog w 24 v.cells.toList) : ∃ C X vX, v = .agg (confCs C vX) ∧ EntsSl (· < w.heap.size) w vX X ∧ C.ents = X.map EntX.E ∧ ConfWf C := by
  obtain ⟨cs, rfl⟩ := hv
  have h' : Rd enc Tryz.prog w 24 cs.toList := h
  obtain ⟨c0, c1, c2, c3, c4, hcs⟩ := list5 ((h'.len Tryz.underlying24).trans Tryz.cConf)
  obtain rfl : cs = #[c0, c1, c2, c3, c4] := by cases cs; simp_all
  obtain ⟨n0, h0, w0⟩ := (show Rd enc Tryz.prog w 3 [c0] from h'.fieldAt Tryz.underlying24 0 Tryz.cInt rfl).int Tryz.underlying3
  obtain ⟨n1, h1, w1⟩ := (show Rd enc Tryz.prog w 3 [c1] from h'.fieldAt Tryz.underlying24 1 Tryz.cInt rfl).int Tryz.underlying3
  obtain ⟨n2, h2, w2⟩ := (show Rd enc Tryz.prog w 3 [c2] from h'.fieldAt Tryz.underlying24 2 Tryz.cInt rfl).int Tryz.underlying3
  obtain ⟨n3, h3, w3⟩ := (show Rd enc Tryz.prog w 3 [c3] from h'.fieldAt Tryz.underlying24 3 Tryz.cInt rfl).int Tryz.underlying3
  have r4 : Rd enc Tryz.prog w 22 [c4] := h'.fieldAt Tryz.underlying24 4 Tryz.cSlE rfl
  simp at h0 h1 h2 h3
  subst h0 h1 h2 h3
  obtain ⟨X, sX, qX⟩ := r4.rows entXCells 10 (fun _ => rfl) (by decide) Tryz.underlying22 Tryz.cEnt _ rd_entX
  refine ⟨⟨n0, n1, n2, n3, X.map EntX.E⟩, X, c4, rfl, ⟨sX, fun x hx => (qX x hx).1⟩, rfl, ⟨i64_of_wf w0, i64_of_wf w1, i64_of_wf w2, i64_of_wf w3, fun E hE => ?_⟩⟩
  obtain ⟨x, hx, rfl⟩ := List.mem_map.1 hE
  exact (qX x hx).2
end

theorem Tryz.powName : Tryz.prog.globalNamed "internal/strconv.uint64pow10" = some 13 := by kernel_rfl
theorem tabB_of {W : World} {rest : List (String × DataW Unit)} (h : laidMet Tryz.prog (("internal/strconv.uint64pow10", Lib.tabData .u64 Lib.pow10Tab) :: rest) W) : TabB W.heap.size W :=
  Lib.tabBelow_of_tabIs (Lib.tabIs_of_head Tryz.powName rfl Tryz.underlying285 Tryz.underlying244 (by kernel_rfl) (by kernel_rfl) h)
end Go.Proofs.YtakjbjokekbmbaaGreatDoor

/- Acts of a watch as an argument opened. -/
namespace Go.Proofs.YtakjbjokekbmbaaGreatDoor
open Go.ChangeShapes Go.WideShapes Go.ChangeAt Go.RowKit Go.Deep
set_option linter.unusedVariables false
theorem list4K {l : List Value} (h : l.length = 4) : ∃ c0 c1 c2 c3, l = [c0, c1, c2, c3] := by
  match l, h with
  | [c0, c1, c2, c3], _ => exact ⟨_, _, _, _, rfl⟩
instance : Inhabited KAct := ⟨⟨ByteArray.empty, 0, 0, 0⟩⟩
theorem Tryz.cAct3 : Tryz.prog.cellsOf 44 = 4 := by kernel_rfl
theorem rd_kact {H : Type} {enc : TypeId × Value → H} {w : World} (cs : List Value) (h : Rd enc Tryz.prog w 44 cs) : ∃ r, cs = kactCs r ∧ True := by
  obtain ⟨c0, c1, c2, c3, rfl⟩ := list4K ((h.len Tryz.underlying44).trans Tryz.cAct3)
  obtain ⟨n0, h0, w0⟩ := (show Rd enc Tryz.prog w 9 [c0] from h.fieldAt Tryz.underlying44 0 Tryz.cStr rfl).str Tryz.underlying9
  obtain ⟨n1, h1, w1⟩ := (show Rd enc Tryz.prog w 3 [c1] from h.fieldAt Tryz.underlying44 1 Tryz.cInt rfl).int Tryz.underlying3
  obtain ⟨n2, h2, w2⟩ := (show Rd enc Tryz.prog w 3 [c2] from h.fieldAt Tryz.underlying44 2 Tryz.cInt rfl).int Tryz.underlying3
  obtain ⟨n3, h3, w3⟩ := (show Rd enc Tryz.prog w 3 [c3] from h.fieldAt Tryz.underlying44 3 Tryz.cInt rfl).int Tryz.underlying3
  simp at h0 h1 h2 h3
  subst h0 h1 h2 h3
  exact ⟨⟨n0, n1, n2, n3⟩, rfl, trivial⟩
end Go.Proofs.YtakjbjokekbmbaaGreatDoor
