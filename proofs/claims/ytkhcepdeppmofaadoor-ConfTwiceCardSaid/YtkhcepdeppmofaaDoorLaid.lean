/- What a card's listed variables give a walk: the sentinels, each at its own place; the handle of the type error. -/
import Derived.Test.YtkhcepdeppmofaaDoorSentsC
import Derived.LaidLaws
import Derived.LaidHandle
import Derived.Stop.Joined
namespace Go.Proofs.YtkhcepdeppmofaaDoor
open Go.ChangeShapes Go.WideShapes Go.ChangeAt Go.RowKit
set_option linter.unusedVariables false

def sentD (t : List UInt8) : DataW Unit := .iface "*errors.errorString" (.ptr (.agg [.lit (.string t)]))
theorem Tryd.starE : "*" ++ "errors.errorString" = "*errors.errorString" := by decide
theorem Tryd.rowE (u : TypeId) (h : Tryd.prog.typeName? 3 u = some "*errors.errorString") : u = 304 :=
  typeName_ptr_named (nm := "errors.errorString") (by rw [Tryd.starE]; kernel_rfl) (by kernel_rfl) (by decide) u (by rw [Tryd.starE]; exact h)
theorem Tryd.cellsE : Tryd.prog.cellsOf 306 = 1 := by kernel_rfl
theorem Tryd.cellsS : Tryd.prog.cellsOf 9 = 1 := by kernel_rfl

section
variable {P : Program} {ti tp te ts : TypeId} {ms : Array (String × TypeId)} {f : Field}
theorem laid_each (hi : P.underlying ti = some (.interface ms)) (hrow : ∀ u, P.typeName? 3 u = some "*errors.errorString" → u = tp) (hp : P.underlying tp = some (.pointer te)) (he : P.underlying te = some (.struct #[f])) (hft : f.type = ts) (hfo : f.offset = 0)
    (hs : P.underlying ts = some .string) (hc : P.cellsOf te = 1) (hcs : P.cellsOf ts = 1) {W : World} :
    ∀ (L : List (String × List UInt8)) (gs : List Nat), gs.length = L.length → (∀ k (h1 : k < L.length) (h2 : k < gs.length), P.globalNamed (L[k]).1 = some gs[k] ∧ (P.globals[gs[k]]?).map (·.type) = some ti) →
    ∀ ps, DataW.LaidVars P W (L.map fun x => (x.1, sentD x.2)) ps → ps.Nodup →
    (∀ b off, MemPlace.cell b off ∈ ps → (∃ c t, W.heap[b]? = some (.cells c t (0, 0))) ∧ ∀ u v, W.cell? ⟨b, off, none⟩ = some (.iface u v) → Value.okWide P W .any 0 u v) →
    ∃ bs : List Addr, bs.length = L.length ∧ bs.Nodup ∧ (∀ a ∈ bs, a.spot = none ∧ MemPlace.cell a.block a.off ∈ ps) ∧ ∀ k (h1 : k < L.length) (h2 : k < gs.length) (h3 : k < bs.length), W.cell? ⟨gs[k], 0, none⟩ = some (.iface tp (.pointer (some bs[k])))
  | [], gs, _, _, ps, _, _, _ => ⟨[], rfl, List.nodup_nil, (fun a ha => by simp at ha), (fun k h => by simp at h)⟩
  | x :: L, [], hl, _, _, _, _, _ => by simp at hl
  | x :: L, g :: gs, hl, hg, ps, hv, hnd, hrows => by
    obtain ⟨g0, t0, cs0, f0, p0, q0, hg0, ht0, hv0, hd0, hr0, rfl⟩ := hv
    have hgx : P.globalNamed x.1 = some g ∧ (P.globals[g]?).map (·.type) = some ti := hg 0 (by simp) (by simp)
    obtain rfl : g = g0 := Option.some.inj (hgx.1.symm.trans hg0)
    obtain rfl : ti = t0 := Option.some.inj (hgx.2.symm.trans ht0)
    obtain ⟨l0⟩ := cs0
    have ok0 : ∀ u v, l0 = [.iface u v] → Value.okWide P W .any 0 u v := fun u v e => by
      subst e
      exact (hrows g 0 (by simp [MemPlace.row])).2 u v (by simpa using World.var?_cell hg0 hv0 0)
    obtain ⟨a0, s0, rfl, hc0, hs0, hz0, rfl⟩ := errorString_of_trod hi hrow hp he hft hfo hs hc hcs hd0 ok0
    have hin : MemPlace.cell a0.block a0.off ∈ MemPlace.row a0 1 := by simp [MemPlace.row]
    obtain ⟨bs, h1, h2, h3, h4⟩ := laid_each hi hrow hp he hft hfo hs hc hcs L gs (by simpa using hl) (fun k q1 q2 => by
      have := hg (k + 1) (by simpa using q1) (by simpa using q2)
      simpa using this) q0 hr0 ((List.nodup_append.1 hnd).2.1) (fun b off hm => hrows b off (List.mem_append_right _ hm))
    refine ⟨a0 :: bs, by simp [h1], List.nodup_cons.2 ⟨fun hm => ?_, h2⟩, fun a ha => ?_, fun k q1 q2 q3 => ?_⟩
    · have hq := (h3 a0 hm).2
      exact (List.nodup_append.1 hnd).2.2 _ (List.mem_append_right _ hin) _ hq rfl
    · rcases List.mem_cons.1 ha with rfl | ha
      · exact ⟨World.cell?_spot hc0, List.mem_append_left _ (List.mem_append_right _ hin)⟩
      · exact ⟨(h3 a ha).1, List.mem_append_right _ (h3 a ha).2⟩
    · cases k with
      | zero => simpa using World.var?_cell hg0 hv0 0
      | succ k => exact h4 k (by simpa using q1) (by simpa using q2) (by simpa using q3)
end

def sentL : List (String × List UInt8) := [("nightwatch/api.ErrText", [110, 105, 103, 104, 116, 119, 97, 116, 99, 104, 58, 32, 116, 101, 120, 116]), ("nightwatch/api.ErrBound", [110, 105, 103, 104, 116, 119, 97, 116, 99, 104, 58, 32, 98, 111, 117, 110, 100]),
  ("nightwatch/api.ErrShape", [110, 105, 103, 104, 116, 119, 97, 116, 99, 104, 58, 32, 115, 104, 97, 112, 101]), ("nightwatch/api.ErrName", [110, 105, 103, 104, 116, 119, 97, 116, 99, 104, 58, 32, 110, 97, 109, 101]),
  ("nightwatch/api.ErrNone", [110, 105, 103, 104, 116, 119, 97, 116, 99, 104, 58, 32, 110, 111, 110, 101]), ("nightwatch/api.ErrExist", [110, 105, 103, 104, 116, 119, 97, 116, 99, 104, 58, 32, 101, 120, 105, 115, 116]),
  ("nightwatch/api.ErrFull", [110, 105, 103, 104, 116, 119, 97, 116, 99, 104, 58, 32, 102, 117, 108, 108]), ("nightwatch/api.ErrOff", [110, 105, 103, 104, 116, 119, 97, 116, 99, 104, 58, 32, 111, 102, 102]),
  ("nightwatch/api.ErrIdle", [110, 105, 103, 104, 116, 119, 97, 116, 99, 104, 58, 32, 105, 100, 108, 101]), ("nightwatch/api.ErrHeld", [110, 105, 103, 104, 116, 119, 97, 116, 99, 104, 58, 32, 104, 101, 108, 100]), ("nightwatch/api.ErrReset", [110, 105, 103, 104, 116, 119, 97, 116, 99, 104, 58, 32, 114, 101, 115, 101, 116])]
def sentGs : List Nat := [7, 3, 4, 8, 2, 9, 6, 5, 1, 0, 10]
def handleD : DataW Unit := .iface "internal/reflectlite.rtype" (.agg [.ptr (.lit (.string [101, 114, 114, 111, 114]))])
theorem Tryd.sentNames : sentL.map (fun x => Tryd.prog.globalNamed x.1) = sentGs.map some := by kernel_rfl
theorem Tryd.sentTypes : sentGs.map (fun g => (Tryd.prog.globals[g]?).map (·.type)) = sentGs.map (fun _ => some 44) := by kernel_rfl
theorem Tryd.etName : Tryd.prog.globalNamed "errors.errorType" = some 11 := by kernel_rfl
theorem Tryd.rtName : (Tryd.prog.cutTypes.find? (·.1 == "internal/reflectlite.rtype")).map (·.2) = some 242 := by kernel_rfl
theorem Tryd.oneError : ((List.range 335).filter fun t => Tryd.prog.rowNamed t [101, 114, 114, 111, 114]) = [44] := by kernel_rfl
theorem Tryd.nTypes : Tryd.prog.types.size = 335 := by kernel_rfl
theorem Tryd.handleE : typeHandle Tryd.prog 44 = .pointer (some ⟨20, 44, none⟩) := by kernel_rfl

theorem sents_of {W : World} (h : laidMet Tryd.prog (sentL.map fun x => (x.1, sentD x.2)) W) (h2 : handlesMet Tryd.prog [("errors.errorType", handleD)] W) : ∃ sa, Sents W.heap.size sa W := by
  obtain ⟨ps, hv, hnd, hrows⟩ := h
  obtain ⟨bs, q1, q2, q3, q4⟩ := laid_each Tryd.underlying44 Tryd.rowE Tryd.underlying304 Tryd.underlying306 rfl rfl Tryd.underlying9 Tryd.cellsE Tryd.cellsS sentL sentGs rfl (fun k h1 h2 => by
    have e1 := congrArg (fun l => l[k]?) Tryd.sentNames
    have e2 := congrArg (fun l => l[k]?) Tryd.sentTypes
    simp only [List.getElem?_map, List.getElem?_eq_getElem h1, List.getElem?_eq_getElem h2, Option.map_some, Option.some.injEq] at e1 e2
    exact ⟨e1, e2⟩) ps hv hnd hrows
  have h11 : bs.length = 11 := q1
  refine ⟨fun k => bs.getD k ⟨0, 0, none⟩, Sents.mk' (fun k hk => ?_) (fun i j hi hj hij => ?_) (fun k hk => ?_) ?_⟩
  · have hk2 : k < sentL.length := hk
    have hk3 : k < sentGs.length := hk
    have hk4 : k < bs.length := by omega
    have := q4 k hk2 hk3 hk4
    have e : sg k = sentGs[k] := by unfold sg; rw [List.getD_eq_getElem?_getD]; show (sentGs[k]?).getD 0 = _; rw [List.getElem?_eq_getElem hk3]; rfl
    rw [e, this]
    show _ = some (Value.iface _ (.pointer (some (bs.getD k _))))
    rw [List.getD_eq_getElem?_getD, List.getElem?_eq_getElem hk4]; rfl
  · have hi4 : i < bs.length := by omega
    have hj4 : j < bs.length := by omega
    show bs.getD i _ ≠ bs.getD j _
    rw [List.getD_eq_getElem?_getD, List.getD_eq_getElem?_getD, List.getElem?_eq_getElem hi4, List.getElem?_eq_getElem hj4]
    have hp := List.pairwise_iff_getElem.1 q2
    rcases Nat.lt_or_gt_of_ne hij with h | h
    · exact hp i j hi4 hj4 h
    · exact fun e => hp j i hj4 hi4 h e.symm
  · have hk4 : k < bs.length := by omega
    show (bs.getD k _).block < _ ∧ ∃ c t, W.heap[(bs.getD k _).block]? = _
    rw [List.getD_eq_getElem?_getD, List.getElem?_eq_getElem hk4]
    obtain ⟨c, t, hc⟩ := (hrows _ _ (q3 _ (List.getElem_mem hk4)).2).1
    exact ⟨lt_of_get hc, c, t, hc⟩
  · obtain ⟨name, u, ty, e1, e2, e3, e4, e5⟩ := h2 _ (List.mem_singleton.2 rfl)
    have en : name = [101, 114, 114, 111, 114] := (Option.some.inj e1).symm
    subst en
    obtain rfl := Option.some.inj (Tryd.rtName.symm.trans e2)
    have hm : ty ∈ (List.range 335).filter fun t => Tryd.prog.rowNamed t [101, 114, 114, 111, 114] := List.mem_filter.2 ⟨List.mem_range.2 (by rw [← Tryd.nTypes]; exact e3), e4⟩
    rw [Tryd.oneError] at hm
    obtain rfl := List.mem_singleton.1 hm
    rw [Tryd.handleE] at e5
    simpa using World.var?_cell Tryd.etName e5 0
/-- Some of the sentinels, out of a shorter list. -/
theorem some_sents {W : World} (L : List Nat) (hL : ∀ k ∈ L, k < 11) (h : laidMet Tryd.prog (L.map fun k => ((sentL.getD k ("", [])).1, sentD (sentL.getD k ("", [])).2)) W) : ∃ sa : Nat → Addr, ∀ k ∈ L, W.cell? ⟨sg k, 0, none⟩ = some (errv sa (k + 1)) := by
  obtain ⟨ps, hv, hnd, hrows⟩ := h
  have hall : ∀ k, k < 11 → Tryd.prog.globalNamed (sentL.getD k ("", [])).1 = some (sg k) ∧ (Tryd.prog.globals[sg k]?).map (·.type) = some 44 := fun k hk => by
    have e1 := congrArg (fun l => l[k]?) Tryd.sentNames
    have e2 := congrArg (fun l => l[k]?) Tryd.sentTypes
    have hk2 : k < sentL.length := hk
    have hk3 : k < sentGs.length := hk
    simp only [List.getElem?_map, List.getElem?_eq_getElem hk2, List.getElem?_eq_getElem hk3, Option.map_some, Option.some.injEq] at e1 e2
    have e : sg k = sentGs[k] := by unfold sg; rw [List.getD_eq_getElem?_getD]; show (sentGs[k]?).getD 0 = _; rw [List.getElem?_eq_getElem hk3]; rfl
    rw [List.getD_eq_getElem?_getD, List.getElem?_eq_getElem hk2, e]
    exact ⟨e1, e2⟩
  have hv2 : DataW.LaidVars Tryd.prog W ((L.map fun k => sentL.getD k ("", [])).map fun x => (x.1, sentD x.2)) ps := by
    rw [List.map_map]
    exact hv
  obtain ⟨bs, q1, q2, q3, q4⟩ := laid_each Tryd.underlying44 Tryd.rowE Tryd.underlying304 Tryd.underlying306 rfl rfl Tryd.underlying9 Tryd.cellsE Tryd.cellsS (L.map fun k => sentL.getD k ("", [])) (L.map sg) (by simp) (fun k h1 h2 => by
    simp only [List.length_map] at h1
    simp only [List.getElem_map]
    exact hall _ (hL _ (List.getElem_mem h1))) ps hv2 hnd hrows
  refine ⟨fun k => bs.getD (L.idxOf k) ⟨0, 0, none⟩, fun k hk => ?_⟩
  have hi : L.idxOf k < L.length := List.idxOf_lt_length_iff.2 hk
  have hb : L.idxOf k < bs.length := by rw [q1]; simpa using hi
  have h4 := q4 (L.idxOf k) (by simpa using hi) (by simpa using hi) hb
  simp only [List.getElem_map, List.getElem_idxOf] at h4
  rw [h4]
  show _ = some (Value.iface _ (.pointer (some (bs.getD (L.idxOf k) _))))
  rw [List.getD_eq_getElem?_getD, List.getElem?_eq_getElem hb]; rfl
theorem sentsR_of {W : World} {sa : Nat → Addr} {L : List Nat} (h : ∀ k ∈ L, W.cell? ⟨sg k, 0, none⟩ = some (errv sa (k + 1))) (h1 : 1 ∈ L) (h2 : 2 ∈ L) (h6 : 6 ∈ L) (h7 : 7 ∈ L) : SentsR W.heap.size sa W :=
  ⟨h 1 h1, h 2 h2, h 6 h6, h 7 h7, ⟨World.block_lt_of_cell? W _ (h 1 h1), World.block_lt_of_cell? W _ (h 2 h2), World.block_lt_of_cell? W _ (h 6 h6), World.block_lt_of_cell? W _ (h 7 h7)⟩, Nat.le_refl _⟩
end Go.Proofs.YtkhcepdeppmofaaDoor
