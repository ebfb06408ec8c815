/- A law's arguments opened: what reads as data is a plain value, a plain list. -/
import Derived.Test.YtakjbjokekbmbaaGreatDoorQ05
import Derived.Test.YtakjbjokekbmbaaGreatDoorQ03
import Derived.LaidLaws
import Derived.LaidHandle
import Derived.Stop.Joined
import Derived.Test.YtakjbjokekbmbaaGreatDoorQ35
import Derived.Test.YtakjbjokekbmbaaGreatDoorQ26
import Derived.Lib.LaidTab
import Derived.Stop.LaidErr
namespace Go.Proofs.YtakjbjokekbmbaaGreatDoor
open Go.ChangeShapes Go.WideShapes Go.ChangeAt Go.RowKit Go.Deep
set_option linter.unusedVariables false

section
variable {H : Type} {enc : TypeId × Value → H} {P : Program} {w : World}

/-- The reading of an argument of type t, cells cs. -/
def Rd (enc : TypeId × Value → H) (P : Program) (w : World) (t : TypeId) (cs : List Value) : Prop := ∃ n x, DataW.trod enc P w 0 (fun _ => true) true n t cs = some x
theorem Rd.field {t : TypeId} {fs : Array Field} {cs : List Value} (ht : P.underlying t = some (.struct fs)) (h : Rd enc P w t cs) (i : Nat) (f : Field) (hf : fs[i]? = some f) : Rd enc P w f.type ((cs.drop f.offset).take (P.cellsOf f.type)) := by
  obtain ⟨n, x, hx⟩ := h
  obtain ⟨xs, m, _, _, _, hlen, hall⟩ := DataW.trod_struct ht hx
  have hi : i < xs.length := by rw [hlen]; exact (Array.getElem?_eq_some_iff.1 hf).1
  exact ⟨m, xs[i], by rw [hall i f hf]; simp [hi]⟩
theorem Rd.len {t : TypeId} {fs : Array Field} {cs : List Value} (ht : P.underlying t = some (.struct fs)) (h : Rd enc P w t cs) : cs.length = P.cellsOf t := by
  obtain ⟨n, x, hx⟩ := h
  obtain ⟨xs, m, _, _, hl, _, _⟩ := DataW.trod_struct ht hx
  exact hl
theorem Rd.int {t : TypeId} {k : IntKind} {cs : List Value} (ht : P.underlying t = some (.int k)) (h : Rd enc P w t cs) : ∃ n, cs = [.int k n] ∧ (Lit.int k n).wf = true := by
  obtain ⟨m, x, hx⟩ := h
  obtain ⟨n, hc, _, hw⟩ := DataW.trod_int ht hx
  exact ⟨n, hc, hw⟩
theorem Rd.bool {t : TypeId} {cs : List Value} (ht : P.underlying t = some .bool) (h : Rd enc P w t cs) : ∃ b, cs = [.bool b] := by
  obtain ⟨m, x, hx⟩ := h
  obtain ⟨n, hc, _⟩ := DataW.trod_bool ht hx
  exact ⟨n, hc⟩
theorem Rd.str {t : TypeId} {cs : List Value} (ht : P.underlying t = some .string) (h : Rd enc P w t cs) : ∃ s : ByteArray, cs = [.string s] ∧ s.size ≤ maxLen := by
  obtain ⟨m, x, hx⟩ := h
  obtain ⟨n, hc, _, hs⟩ := DataW.trod_string ht hx
  exact ⟨n, hc, hs⟩

/-- A slice: its elements, each as it is read. -/
theorem Rd.rows {α : Type} [Inhabited α] (f : α → List Value) (sz : Nat) (hf : ∀ x, (f x).length = sz) (hsz : 0 < sz) {t e : TypeId} (ht : P.underlying t = some (.slice e)) (hc : P.cellsOf e = sz)
    (Q : α → Prop) (hinv : ∀ cs, Rd enc P w e cs → ∃ r, cs = f r ∧ Q r) {v : Value} (h : Rd enc P w t [v]) : ∃ l : List α, SlOf (· < w.heap.size) w v sz (l.flatMap f) l.length ∧ ∀ r ∈ l, Q r := by
  obtain ⟨n, x, hx⟩ := h
  rcases open_slice ht hx with ⟨hv, _⟩ | ⟨a, len, cap, m, k, D, Pl, hv, _, hl, hm, hmm, _, hall⟩
  · obtain rfl : v = .slice none 0 0 := by simpa using hv
    exact ⟨[], SlOf.nil _ _ _, fun r hr => by cases hr⟩
  · obtain rfl : v = .slice (some a) len cap := by simpa using hv
    obtain rfl : m = cap := by simpa using hmm
    have hrow : ∀ i, i < m → ∃ r, (w.cells? 0 (a.add (i * sz)) sz = some (f r) ∧ Q r) := fun i hi => by
      obtain ⟨cs', h1, h2⟩ := hall i hi
      obtain ⟨r, hr, hq⟩ := hinv cs' ⟨k, _, h2⟩
      rw [hc, hr] at h1
      exact ⟨r, h1, hq⟩
    obtain ⟨r, hr⟩ := choose_lt hrow
    refine ⟨(List.range len).map r, ⟨by rw [flat_len f sz hf], some a, m, by simp, by simpa using hl, hm, (fun h => by cases h), fun hp => ?_⟩, ?_⟩
    · have hlen : 0 < len := by
        rw [flat_len f sz hf, List.length_map, List.length_range] at hp
        exact Nat.pos_of_ne_zero (fun h => by subst h; simp at hp)
      have c0 := World.cells?_some (hr 0 (by omega)).1
      have c00 := c0.2.2 0 hsz
      rw [List.getElem?_eq_getElem (by rw [hf]; exact hsz)] at c00
      obtain ⟨b, off, spot⟩ := a
      have hspot : spot = none := by simpa [Addr.add] using World.cell?_spot c00
      subst hspot
      refine ⟨b, off, rfl, ?_, ?_, ?_⟩
      · have := World.block_lt_of_cell? _ _ c00
        simpa [Addr.add] using this
      · have := World.block_lt_of_cell? _ _ c00
        simpa [Addr.add] using this
      · intro q u hu
        have hq : q < ((List.range len).map r).length * sz := by rw [← flat_len f sz hf]; exact (List.getElem?_eq_some_iff.1 hu).1
        have hq' : q < len * sz := by simpa using hq
        have hi : q / sz < len := (Nat.div_lt_iff_lt_mul hsz).2 hq'
        have hj : q % sz < sz := Nat.mod_lt _ hsz
        have hdm : q / sz * sz + q % sz = q := by rw [Nat.mul_comm]; exact Nat.div_add_mod q sz
        have hg := flat_get f sz hf ((List.range len).map r) (q / sz) (by simpa using hi) (q % sz) hj
        rw [hdm, hu] at hg
        have hce := (World.cells?_some (hr (q / sz) (by omega)).1).2.2 (q % sz) hj
        rw [addr_add, addr_add, Nat.add_assoc, hdm] at hce
        rw [hce]
        simpa using hg.symm
    · intro x hx
      obtain ⟨i, hi, rfl⟩ := List.mem_map.1 hx
      exact (hr i (by have := List.mem_range.1 hi; omega)).2
end

instance : Inhabited GapV := ⟨⟨0, 0, 0, 0⟩⟩
instance : Inhabited RepV := ⟨⟨0, 0, false⟩⟩

section
variable {H : Type} {enc : TypeId × Value → H} {w : World}

end
end Go.Proofs.YtakjbjokekbmbaaGreatDoor

/- What a card's listed variables give a walk: the sentinels, each at its own place; the handle of the type error. -/
namespace Go.Proofs.YtakjbjokekbmbaaGreatDoor
open Go.ChangeShapes Go.WideShapes Go.ChangeAt Go.RowKit
set_option linter.unusedVariables false

def sentD (t : List UInt8) : DataW Unit := .iface "*errors.errorString" (.ptr (.agg [.lit (.string t)]))
theorem Tryz.starE : "*" ++ "errors.errorString" = "*errors.errorString" := by decide
theorem Tryz.rowE (u : TypeId) (h : Tryz.prog.typeName? 3 u = some "*errors.errorString") : u = 299 :=
  typeName_ptr_named (nm := "errors.errorString") (by rw [Tryz.starE]; kernel_rfl) (by kernel_rfl) (by decide) u (by rw [Tryz.starE]; exact h)
theorem Tryz.cellsE : Tryz.prog.cellsOf 301 = 1 := by kernel_rfl
theorem Tryz.cellsS : Tryz.prog.cellsOf 9 = 1 := by kernel_rfl

section
variable {P : Program} {ti tp te ts : TypeId} {ms : Array (String × TypeId)} {f : Field}
theorem laid_each (hi : P.underlying ti = some (.interface ms)) (hrow : ∀ u, P.typeName? 3 u = some "*errors.errorString" → u = tp) (hp : P.underlying tp = some (.pointer te)) (he : P.underlying te = some (.struct #[f])) (hft : f.type = ts) (hfo : f.offset = 0)
    (hs : P.underlying ts = some .string) (hc : P.cellsOf te = 1) (hcs : P.cellsOf ts = 1) {W : World} :
    ∀ (L : List (String × List UInt8)) (gs : List Nat), gs.length = L.length → (∀ k (h1 : k < L.length) (h2 : k < gs.length), P.globalNamed (L[k]).1 = some gs[k] ∧ (P.globals[gs[k]]?).map (·.type) = some ti) →
    ∀ ps, DataW.LaidVars P W (L.map fun x => (x.1, sentD x.2)) ps → ps.Nodup →
    (∀ b off, MemPlace.cell b off ∈ ps → (∃ c t, W.heap[b]? = some (.cells c t (0, 0))) ∧ ∀ u v, W.cell? ⟨b, off, none⟩ = some (.iface u v) → Value.okWide P W .any 0 u v) →
    ∃ bs : List Addr, bs.length = L.length ∧ bs.Nodup ∧ (∀ a ∈ bs, a.spot = none ∧ MemPlace.cell a.block a.off ∈ ps) ∧ ∀ k (h1 : k < L.length) (h2 : k < gs.length) (h3 : k < bs.length), W.cell? ⟨gs[k], 0, none⟩ = some (.iface tp (.pointer (some bs[k])))
  | [], gs, _, _, ps, _, _, _ => ⟨[], rfl, List.nodup_nil, (fun a ha => by simp at ha), (fun k h => by simp at h)⟩
  | x :: L, [], hl, _, _, _, _, _ => by simp at hl
  | x :: L, g :: gs, hl, hg, ps, hv, hnd, hrows => by
    obtain ⟨g0, t0, cs0, f0, p0, q0, hg0, ht0, hv0, hd0, hr0, rfl⟩ := hv
    have hgx : P.globalNamed x.1 = some g ∧ (P.globals[g]?).map (·.type) = some ti := hg 0 (by simp) (by simp)
    obtain rfl : g = g0 := Option.some.inj (hgx.1.symm.trans hg0)
    obtain rfl : ti = t0 := Option.some.inj (hgx.2.symm.trans ht0)
    obtain ⟨l0⟩ := cs0
    have ok0 : ∀ u v, l0 = [.iface u v] → Value.okWide P W .any 0 u v := fun u v e => by
      subst e
      exact (hrows g 0 (by simp [MemPlace.row])).2 u v (by simpa using World.var?_cell hg0 hv0 0)
    obtain ⟨a0, s0, rfl, hc0, hs0, hz0, rfl⟩ := errorString_of_trod hi hrow hp he hft hfo hs hc hcs hd0 ok0
    have hin : MemPlace.cell a0.block a0.off ∈ MemPlace.row a0 1 := by simp [MemPlace.row]
    obtain ⟨bs, h1, h2, h3, h4⟩ := laid_each hi hrow hp he hft hfo hs hc hcs L gs (by simpa using hl) (fun k q1 q2 => by
      have := hg (k + 1) (by simpa using q1) (by simpa using q2)
      simpa using this) q0 hr0 ((List.nodup_append.1 hnd).2.1) (fun b off hm => hrows b off (List.mem_append_right _ hm))
    refine ⟨a0 :: bs, by simp [h1], List.nodup_cons.2 ⟨fun hm => ?_, h2⟩, fun a ha => ?_, fun k q1 q2 q3 => ?_⟩
    · have hq := (h3 a0 hm).2
      exact (List.nodup_append.1 hnd).2.2 _ (List.mem_append_right _ hin) _ hq rfl
    · rcases List.mem_cons.1 ha with rfl | ha
      · exact ⟨World.cell?_spot hc0, List.mem_append_left _ (List.mem_append_right _ hin)⟩
      · exact ⟨(h3 a ha).1, List.mem_append_right _ (h3 a ha).2⟩
    · cases k with
      | zero => simpa using World.var?_cell hg0 hv0 0
      | succ k => exact h4 k (by simpa using q1) (by simpa using q2) (by simpa using q3)
end

def sentL : List (String × List UInt8) := [("nightwatch/api.ErrText", [110, 105, 103, 104, 116, 119, 97, 116, 99, 104, 58, 32, 116, 101, 120, 116]), ("nightwatch/api.ErrBound", [110, 105, 103, 104, 116, 119, 97, 116, 99, 104, 58, 32, 98, 111, 117, 110, 100]),
  ("nightwatch/api.ErrShape", [110, 105, 103, 104, 116, 119, 97, 116, 99, 104, 58, 32, 115, 104, 97, 112, 101]), ("nightwatch/api.ErrName", [110, 105, 103, 104, 116, 119, 97, 116, 99, 104, 58, 32, 110, 97, 109, 101]),
  ("nightwatch/api.ErrNone", [110, 105, 103, 104, 116, 119, 97, 116, 99, 104, 58, 32, 110, 111, 110, 101]), ("nightwatch/api.ErrExist", [110, 105, 103, 104, 116, 119, 97, 116, 99, 104, 58, 32, 101, 120, 105, 115, 116]),
  ("nightwatch/api.ErrFull", [110, 105, 103, 104, 116, 119, 97, 116, 99, 104, 58, 32, 102, 117, 108, 108]), ("nightwatch/api.ErrOff", [110, 105, 103, 104, 116, 119, 97, 116, 99, 104, 58, 32, 111, 102, 102]),
  ("nightwatch/api.ErrIdle", [110, 105, 103, 104, 116, 119, 97, 116, 99, 104, 58, 32, 105, 100, 108, 101]), ("nightwatch/api.ErrHeld", [110, 105, 103, 104, 116, 119, 97, 116, 99, 104, 58, 32, 104, 101, 108, 100]), ("nightwatch/api.ErrReset", [110, 105, 103, 104, 116, 119, 97, 116, 99, 104, 58, 32, 114, 101, 115, 101, 116])]
def sentGs : List Nat := [6, 2, 7, 8, 3, 9, 10, 5, 4, 1, 0]
def handleD : DataW Unit := .iface "internal/reflectlite.rtype" (.agg [.ptr (.lit (.string [101, 114, 114, 111, 114]))])
theorem Tryz.sentNames : sentL.map (fun x => Tryz.prog.globalNamed x.1) = sentGs.map some := by kernel_rfl
theorem Tryz.sentTypes : sentGs.map (fun g => (Tryz.prog.globals[g]?).map (·.type)) = sentGs.map (fun _ => some 46) := by kernel_rfl
theorem Tryz.etName : Tryz.prog.globalNamed "errors.errorType" = some 11 := by kernel_rfl
theorem Tryz.rtName : (Tryz.prog.cutTypes.find? (·.1 == "internal/reflectlite.rtype")).map (·.2) = some 203 := by kernel_rfl
theorem Tryz.oneError : ((List.range 330).filter fun t => Tryz.prog.rowNamed t [101, 114, 114, 111, 114]) = [46] := by kernel_rfl
theorem Tryz.nTypes : Tryz.prog.types.size = 330 := by kernel_rfl
theorem Tryz.handleE : typeHandle Tryz.prog 46 = .pointer (some ⟨20, 46, none⟩) := by kernel_rfl

theorem sents_of {W : World} (h : laidMet Tryz.prog (sentL.map fun x => (x.1, sentD x.2)) W) (h2 : handlesMet Tryz.prog [("errors.errorType", handleD)] W) : ∃ sa, Sents W.heap.size sa W := by
  obtain ⟨ps, hv, hnd, hrows⟩ := h
  obtain ⟨bs, q1, q2, q3, q4⟩ := laid_each Tryz.underlying46 Tryz.rowE Tryz.underlying299 Tryz.underlying301 rfl rfl Tryz.underlying9 Tryz.cellsE Tryz.cellsS sentL sentGs rfl (fun k h1 h2 => by
    have e1 := congrArg (fun l => l[k]?) Tryz.sentNames
    have e2 := congrArg (fun l => l[k]?) Tryz.sentTypes
    simp only [List.getElem?_map, List.getElem?_eq_getElem h1, List.getElem?_eq_getElem h2, Option.map_some, Option.some.injEq] at e1 e2
    exact ⟨e1, e2⟩) ps hv hnd hrows
  have h11 : bs.length = 11 := q1
  refine ⟨fun k => bs.getD k ⟨0, 0, none⟩, Sents.mk' (fun k hk => ?_) (fun i j hi hj hij => ?_) (fun k hk => ?_) ?_⟩
  · have hk2 : k < sentL.length := hk
    have hk3 : k < sentGs.length := hk
    have hk4 : k < bs.length := by omega
    have := q4 k hk2 hk3 hk4
    have e : sg k = sentGs[k] := by unfold sg; rw [List.getD_eq_getElem?_getD]; show (sentGs[k]?).getD 0 = _; rw [List.getElem?_eq_getElem hk3]; rfl
    rw [e, this]
    show _ = some (Value.iface _ (.pointer (some (bs.getD k _))))
    rw [List.getD_eq_getElem?_getD, List.getElem?_eq_getElem hk4]; rfl
  · have hi4 : i < bs.length := by omega
    have hj4 : j < bs.length := by omega
    show bs.getD i _ ≠ bs.getD j _
    rw [List.getD_eq_getElem?_getD, List.getD_eq_getElem?_getD, List.getElem?_eq_getElem hi4, List.getElem?_eq_getElem hj4]
    have hp := List.pairwise_iff_getElem.1 q2
    rcases Nat.lt_or_gt_of_ne hij with h | h
    · exact hp i j hi4 hj4 h
    · exact fun e => hp j i hj4 hi4 h e.symm
  · have hk4 : k < bs.length := by omega
    show (bs.getD k _).block < _ ∧ ∃ c t, W.heap[(bs.getD k _).block]? = _
    rw [List.getD_eq_getElem?_getD, List.getElem?_eq_getElem hk4]
    obtain ⟨c, t, hc⟩ := (hrows _ _ (q3 _ (List.getElem_mem hk4)).2).1
    exact ⟨lt_of_get hc, c, t, hc⟩
  · obtain ⟨name, u, ty, e1, e2, e3, e4, e5⟩ := h2 _ (List.mem_singleton.2 rfl)
    have en : name = [101, 114, 114, 111, 114] := (Option.some.inj e1).symm
    subst en
    obtain rfl := Option.some.inj (Tryz.rtName.symm.trans e2)
    have hm : ty ∈ (List.range 330).filter fun t => Tryz.prog.rowNamed t [101, 114, 114, 111, 114] := List.mem_filter.2 ⟨List.mem_range.2 (by rw [← Tryz.nTypes]; exact e3), e4⟩
    rw [Tryz.oneError] at hm
    obtain rfl := List.mem_singleton.1 hm
    rw [Tryz.handleE] at e5
    simpa using World.var?_cell Tryz.etName e5 0
end Go.Proofs.YtakjbjokekbmbaaGreatDoor

/- A config argument opened; the tables at the head of a card's list. -/
namespace Go.Proofs.YtakjbjokekbmbaaGreatDoor
open Go.ChangeShapes Go.WideShapes Go.ChangeAt Go.RowKit Go.Deep
set_option linter.unusedVariables false

instance : Inhabited EntX := ⟨⟨⟨ByteArray.empty, 0, [], 0, 0, 0, [], [], [], []⟩, .slice none 0 0, .slice none 0 0, .slice none 0 0, .slice none 0 0, .slice none 0 0⟩⟩
section
variable {H : Type} {enc : TypeId × Value → H} {w : World}
end

theorem Tryz.powName : Tryz.prog.globalNamed "internal/strconv.uint64pow10" = some 13 := by kernel_rfl
theorem tabB_of {W : World} {rest : List (String × DataW Unit)} (h : laidMet Tryz.prog (("internal/strconv.uint64pow10", Lib.tabData .u64 Lib.pow10Tab) :: rest) W) : TabB W.heap.size W :=
  Lib.tabBelow_of_tabIs (Lib.tabIs_of_head Tryz.powName rfl Tryz.underlying285 Tryz.underlying244 (by kernel_rfl) (by kernel_rfl) h)
end Go.Proofs.YtakjbjokekbmbaaGreatDoor
