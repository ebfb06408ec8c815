import Derived.Test.YtikehilbmldadaaGreatDoorQ01
import Derived.LaidLaws
import Derived.LaidHandle
import Derived.Stop.Joined
import Derived.Test.YtikehilbmldadaaGreatDoorQ27
import Derived.Test.YtikehilbmldadaaGreatDoorQ47
import Derived.Test.YtikehilbmldadaaGreatDoorQ23
import Derived.Lib.LaidTab
import Derived.Stop.LaidErr
import Derived.Test.YtikehilbmldadaaGreatDoorQ24
import Derived.Test.YtikehilbmldadaaGreatDoorRows
import Derived.LaidMore
import Derived.LaidSub
import Derived.Lay
import Derived.LaidOnce
import Derived.MakeChecks
namespace Go.Proofs.YtikehilbmldadaaGreatDoor
open Go.ChangeShapes Go.WideShapes Go.ChangeAt Go.RowKit
set_option linter.unusedVariables false
def sentD (t : List UInt8) : DataW Unit := .iface "*errors.errorString" (.ptr (.agg [.lit (.string t)]))
theorem Tryz.starE : "*" ++ "errors.errorString" = "*errors.errorString" := by decide
theorem Tryz.rowE (u : TypeId) (h : Tryz.prog.typeName? 3 u = some "*errors.errorString") : u = 372 :=
  typeName_ptr_named (nm := "errors.errorString") (by rw [Tryz.starE]; kernel_rfl) (by kernel_rfl) (by decide) u (by rw [Tryz.starE]; exact h)
theorem Tryz.cellsE : Tryz.prog.cellsOf 374 = 1 := by kernel_rfl
theorem Tryz.cellsS : Tryz.prog.cellsOf 9 = 1 := by kernel_rfl
section
variable {P : Program} {ti tp te ts : TypeId} {ms : Array (String × TypeId)} {f : Field}
theorem laid_each (hi : P.underlying ti = some (.interface ms)) (hrow : ∀ u, P.typeName? 3 u = some "*errors.errorString" → u = tp) (hp : P.underlying tp = some (.pointer te)) (he : P.underlying te = some (.struct #[f])) (hft : f.type = ts) (hfo : f.offset = 0)
    (hs : P.underlying ts = some .string) (hc : P.cellsOf te = 1) (hcs : P.cellsOf ts = 1) {W : World} :
    ∀ (L : List (String × List UInt8)) (gs : List Nat), gs.length = L.length → (∀ k (h1 : k < L.length) (h2 : k < gs.length), P.globalNamed (L[k]).1 = some gs[k] ∧ (P.globals[gs[k]]?).map (·.type) = some ti) →
    ∀ ps, DataW.LaidVars P W (L.map fun x => (x.1, sentD x.2)) ps → ps.Nodup →
    (∀ b off, MemPlace.cell b off ∈ ps → (∃ c t, W.heap[b]? = some (.cells c t (0, 0))) ∧ ∀ u v, W.cell? ⟨b, off, none⟩ = some (.iface u v) → Value.okWide P W .any 0 u v) →
    ∃ bs : List Addr, bs.length = L.length ∧ bs.Nodup ∧ (∀ a ∈ bs, a.spot = none ∧ MemPlace.cell a.block a.off ∈ ps) ∧ ∀ k (h1 : k < L.length) (h2 : k < gs.length) (h3 : k < bs.length), W.cell? ⟨gs[k], 0, none⟩ = some (.iface tp (.pointer (some bs[k])))
  | [], gs, _, _, ps, _, _, _ => ⟨[], rfl, List.nodup_nil, (fun a ha => by simp at ha), (fun k h => by simp at h)⟩
  | x :: L, [], hl, _, _, _, _, _ => by simp at hl
  | x :: L, g :: gs, hl, hg, ps, hv, hnd, hrows => by
    obtain ⟨g0, t0, cs0, f0, p0, q0, hg0, ht0, hv0, hd0, hr0, rfl⟩ := hv
    have hgx : P.globalNamed x.1 = some g ∧ (P.globals[g]?).map (·.type) = some ti := hg 0 (by simp) (by simp)
    obtain rfl : g = g0 := Option.some.inj (hgx.1.symm.trans hg0)
    obtain rfl : ti = t0 := Option.some.inj (hgx.2.symm.trans ht0)
    obtain ⟨l0⟩ := cs0
    have ok0 : ∀ u v, l0 = [.iface u v] → Value.okWide P W .any 0 u v := fun u v e => by
      subst e
      exact (hrows g 0 (by simp [MemPlace.row])).2 u v (by simpa using World.var?_cell hg0 hv0 0)
    obtain ⟨a0, s0, rfl, hc0, hs0, hz0, rfl⟩ := errorString_of_trod hi hrow hp he hft hfo hs hc hcs hd0 ok0
    have hin : MemPlace.cell a0.block a0.off ∈ MemPlace.row a0 1 := by simp [MemPlace.row]
    obtain ⟨bs, h1, h2, h3, h4⟩ := laid_each hi hrow hp he hft hfo hs hc hcs L gs (by simpa using hl) (fun k q1 q2 => by
      have := hg (k + 1) (by simpa using q1) (by simpa using q2)
      simpa using this) q0 hr0 ((List.nodup_append.1 hnd).2.1) (fun b off hm => hrows b off (List.mem_append_right _ hm))
    refine ⟨a0 :: bs, by simp [h1], List.nodup_cons.2 ⟨fun hm => ?_, h2⟩, fun a ha => ?_, fun k q1 q2 q3 => ?_⟩
    · have hq := (h3 a0 hm).2
      exact (List.nodup_append.1 hnd).2.2 _ (List.mem_append_right _ hin) _ hq rfl
    · rcases List.mem_cons.1 ha with rfl | ha
      · exact ⟨World.cell?_spot hc0, List.mem_append_left _ (List.mem_append_right _ hin)⟩
      · exact ⟨(h3 a ha).1, List.mem_append_right _ (h3 a ha).2⟩
    · cases k with
      | zero => simpa using World.var?_cell hg0 hv0 0
      | succ k => exact h4 k (by simpa using q1) (by simpa using q2) (by simpa using q3)
end
def sentL : List (String × List UInt8) := [("nightwatch/api.ErrText", [110, 105, 103, 104, 116, 119, 97, 116, 99, 104, 58, 32, 116, 101, 120, 116]), ("nightwatch/api.ErrBound", [110, 105, 103, 104, 116, 119, 97, 116, 99, 104, 58, 32, 98, 111, 117, 110, 100]),
  ("nightwatch/api.ErrShape", [110, 105, 103, 104, 116, 119, 97, 116, 99, 104, 58, 32, 115, 104, 97, 112, 101]), ("nightwatch/api.ErrName", [110, 105, 103, 104, 116, 119, 97, 116, 99, 104, 58, 32, 110, 97, 109, 101]),
  ("nightwatch/api.ErrNone", [110, 105, 103, 104, 116, 119, 97, 116, 99, 104, 58, 32, 110, 111, 110, 101]), ("nightwatch/api.ErrExist", [110, 105, 103, 104, 116, 119, 97, 116, 99, 104, 58, 32, 101, 120, 105, 115, 116]),
  ("nightwatch/api.ErrFull", [110, 105, 103, 104, 116, 119, 97, 116, 99, 104, 58, 32, 102, 117, 108, 108]), ("nightwatch/api.ErrOff", [110, 105, 103, 104, 116, 119, 97, 116, 99, 104, 58, 32, 111, 102, 102]),
  ("nightwatch/api.ErrIdle", [110, 105, 103, 104, 116, 119, 97, 116, 99, 104, 58, 32, 105, 100, 108, 101]), ("nightwatch/api.ErrHeld", [110, 105, 103, 104, 116, 119, 97, 116, 99, 104, 58, 32, 104, 101, 108, 100]), ("nightwatch/api.ErrReset", [110, 105, 103, 104, 116, 119, 97, 116, 99, 104, 58, 32, 114, 101, 115, 101, 116])]
def sentGs : List Nat := [1, 0, 2, 3, 4, 5, 6, 7, 8, 9, 10]
def handleD : DataW Unit := .iface "internal/reflectlite.rtype" (.agg [.ptr (.lit (.string [101, 114, 114, 111, 114]))])
theorem Tryz.sentNames : sentL.map (fun x => Tryz.prog.globalNamed x.1) = sentGs.map some := by kernel_rfl
theorem Tryz.sentTypes : sentGs.map (fun g => (Tryz.prog.globals[g]?).map (·.type)) = sentGs.map (fun _ => some 25) := by kernel_rfl
theorem Tryz.etName : Tryz.prog.globalNamed "errors.errorType" = some 11 := by kernel_rfl
theorem Tryz.rtName : (Tryz.prog.cutTypes.find? (·.1 == "internal/reflectlite.rtype")).map (·.2) = some 283 := by kernel_rfl
theorem Tryz.oneError : ((List.range 414).filter fun t => Tryz.prog.rowNamed t [101, 114, 114, 111, 114]) = [25] := by kernel_rfl
theorem Tryz.nTypes : Tryz.prog.types.size = 414 := by kernel_rfl
theorem Tryz.handleE : typeHandle Tryz.prog 25 = .pointer (some ⟨25, 25, none⟩) := by kernel_rfl
end Go.Proofs.YtikehilbmldadaaGreatDoor
namespace Go.Proofs.YtikehilbmldadaaGreatDoor
open Go.ChangeShapes Go.WideShapes Go.ChangeAt Go.RowKit Go.Deep
set_option linter.unusedVariables false
instance : Inhabited EntX := ⟨⟨⟨ByteArray.empty, 0, [], 0, 0, 0, [], [], [], []⟩, .slice none 0 0, .slice none 0 0, .slice none 0 0, .slice none 0 0, .slice none 0 0⟩⟩
section
variable {H : Type} {enc : TypeId × Value → H} {w : World}
end
theorem Tryz.powName : Tryz.prog.globalNamed "internal/strconv.uint64pow10" = some 15 := by kernel_rfl
theorem tabB_of {W : World} {rest : List (String × DataW Unit)} (h : laidMet Tryz.prog (("internal/strconv.uint64pow10", Lib.tabData .u64 Lib.pow10Tab) :: rest) W) : TabB W.heap.size W :=
  Lib.tabBelow_of_tabIs (Lib.tabIs_of_head Tryz.powName rfl Tryz.underlying356 Tryz.underlying329 (by kernel_rfl) (by kernel_rfl) h)
end Go.Proofs.YtikehilbmldadaaGreatDoor
namespace Go.Proofs.YtikehilbmldadaaGreatDoor
open Go.ChangeShapes Go.WideShapes Go.ChangeAt Go.RowKit
set_option linter.unusedVariables false
section
variable {P : Program} {ti tp te ts : TypeId} {ms : Array (String × TypeId)} {f : Field}
theorem laid_text (hi : P.underlying ti = some (.interface ms)) (hrow : ∀ u, P.typeName? 3 u = some "*errors.errorString" → u = tp) (hp : P.underlying tp = some (.pointer te)) (he : P.underlying te = some (.struct #[f])) (hft : f.type = ts) (hfo : f.offset = 0)
    (hs : P.underlying ts = some .string) (hc : P.cellsOf te = 1) (hcs : P.cellsOf ts = 1) {W : World} :
    ∀ (L : List (String × List UInt8)) (gs : List Nat), gs.length = L.length → (∀ k (h1 : k < L.length) (h2 : k < gs.length), P.globalNamed (L[k]).1 = some gs[k] ∧ (P.globals[gs[k]]?).map (·.type) = some ti) →
    ∀ ps, DataW.LaidVars P W (L.map fun x => (x.1, sentD x.2)) ps → ps.Nodup →
    (∀ b off, MemPlace.cell b off ∈ ps → (∃ c t, W.heap[b]? = some (.cells c t (0, 0))) ∧ ∀ u v, W.cell? ⟨b, off, none⟩ = some (.iface u v) → Value.okWide P W .any 0 u v) →
    ∃ bs : List Addr, bs.length = L.length ∧ bs.Nodup ∧ (∀ a ∈ bs, a.spot = none ∧ MemPlace.cell a.block a.off ∈ ps) ∧ ∀ k (h1 : k < L.length) (h2 : k < gs.length) (h3 : k < bs.length), W.cell? ⟨gs[k], 0, none⟩ = some (.iface tp (.pointer (some bs[k]))) ∧ W.cell? bs[k] = some (.string ⟨(L[k]).2.toArray⟩)
  | [], gs, _, _, ps, _, _, _ => ⟨[], rfl, List.nodup_nil, (fun a ha => by simp at ha), (fun k h => by simp at h)⟩
  | x :: L, [], hl, _, _, _, _, _ => by simp at hl
  | x :: L, g :: gs, hl, hg, ps, hv, hnd, hrows => by
    obtain ⟨g0, t0, cs0, f0, p0, q0, hg0, ht0, hv0, hd0, hr0, rfl⟩ := hv
    have hgx : P.globalNamed x.1 = some g ∧ (P.globals[g]?).map (·.type) = some ti := hg 0 (by simp) (by simp)
    obtain rfl : g = g0 := Option.some.inj (hgx.1.symm.trans hg0)
    obtain rfl : ti = t0 := Option.some.inj (hgx.2.symm.trans ht0)
    obtain ⟨l0⟩ := cs0
    have ok0 : ∀ u v, l0 = [.iface u v] → Value.okWide P W .any 0 u v := fun u v e => by
      subst e
      exact (hrows g 0 (by simp [MemPlace.row])).2 u v (by simpa using World.var?_cell hg0 hv0 0)
    obtain ⟨a0, s0, rfl, hc0, hs0, hz0, rfl⟩ := errorString_of_trod hi hrow hp he hft hfo hs hc hcs hd0 ok0
    have hin : MemPlace.cell a0.block a0.off ∈ MemPlace.row a0 1 := by simp [MemPlace.row]
    obtain ⟨bs, h1, h2, h3, h4⟩ := laid_text hi hrow hp he hft hfo hs hc hcs L gs (by simpa using hl) (fun k q1 q2 => by
      have := hg (k + 1) (by simpa using q1) (by simpa using q2)
      simpa using this) q0 hr0 ((List.nodup_append.1 hnd).2.1) (fun b off hm => hrows b off (List.mem_append_right _ hm))
    refine ⟨a0 :: bs, by simp [h1], List.nodup_cons.2 ⟨fun hm => ?_, h2⟩, fun a ha => ?_, fun k q1 q2 q3 => ?_⟩
    · have hq := (h3 a0 hm).2
      exact (List.nodup_append.1 hnd).2.2 _ (List.mem_append_right _ hin) _ hq rfl
    · rcases List.mem_cons.1 ha with rfl | ha
      · exact ⟨World.cell?_spot hc0, List.mem_append_left _ (List.mem_append_right _ hin)⟩
      · exact ⟨(h3 a ha).1, List.mem_append_right _ (h3 a ha).2⟩
    · cases k with
      | zero => exact ⟨by simpa using World.var?_cell hg0 hv0 0, by
        have e : s0 = ⟨x.2.toArray⟩ := by rw [← hs0]
        show W.cell? a0 = some (Value.string ⟨x.2.toArray⟩)
        rw [← e]; exact hc0⟩
      | succ k => exact h4 k (by simpa using q1) (by simpa using q2) (by simpa using q3)
end
theorem sentsT_of {W : World} (h : laidMet Tryz.prog (sentL.map fun x => (x.1, sentD x.2)) W) (h2 : handlesMet Tryz.prog [("errors.errorType", handleD)] W) : ∃ sa, Sents W.heap.size sa W ∧ ∀ k, k < 11 → W.cell? (sa k) = some (.string (scErr (k + 1))) := by
  obtain ⟨ps, hv, hnd, hrows⟩ := h
  obtain ⟨bs, q1, q2, q3, q4⟩ := laid_text Tryz.underlying25 Tryz.rowE Tryz.underlying372 Tryz.underlying374 rfl rfl Tryz.underlying9 Tryz.cellsE Tryz.cellsS sentL sentGs rfl (fun k h1 h2 => by
    have e1 := congrArg (fun l => l[k]?) Tryz.sentNames
    have e2 := congrArg (fun l => l[k]?) Tryz.sentTypes
    simp only [List.getElem?_map, List.getElem?_eq_getElem h1, List.getElem?_eq_getElem h2, Option.map_some, Option.some.injEq] at e1 e2
    exact ⟨e1, e2⟩) ps hv hnd hrows
  have h11 : bs.length = 11 := q1
  refine ⟨fun k => bs.getD k ⟨0, 0, none⟩, Sents.mk' (fun k hk => ?_) (fun i j hi hj hij => ?_) (fun k hk => ?_) ?_, fun k hk => ?_⟩
  · have hk2 : k < sentL.length := hk
    have hk3 : k < sentGs.length := hk
    have hk4 : k < bs.length := by omega
    have := (q4 k hk2 hk3 hk4).1
    have e : sg k = sentGs[k] := by unfold sg; rw [List.getD_eq_getElem?_getD]; show (sentGs[k]?).getD 0 = _; rw [List.getElem?_eq_getElem hk3]; rfl
    rw [e, this]
    show _ = some (Value.iface _ (.pointer (some (bs.getD k _))))
    rw [List.getD_eq_getElem?_getD, List.getElem?_eq_getElem hk4]; rfl
  · have hi4 : i < bs.length := by omega
    have hj4 : j < bs.length := by omega
    show bs.getD i _ ≠ bs.getD j _
    rw [List.getD_eq_getElem?_getD, List.getD_eq_getElem?_getD, List.getElem?_eq_getElem hi4, List.getElem?_eq_getElem hj4]
    have hp := List.pairwise_iff_getElem.1 q2
    rcases Nat.lt_or_gt_of_ne hij with h | h
    · exact hp i j hi4 hj4 h
    · exact fun e => hp j i hj4 hi4 h e.symm
  · have hk4 : k < bs.length := by omega
    show (bs.getD k _).block < _ ∧ ∃ c t, W.heap[(bs.getD k _).block]? = _
    rw [List.getD_eq_getElem?_getD, List.getElem?_eq_getElem hk4]
    obtain ⟨c, t, hc⟩ := (hrows _ _ (q3 _ (List.getElem_mem hk4)).2).1
    exact ⟨lt_of_get hc, c, t, hc⟩
  · obtain ⟨name, u, ty, e1, e2, e3, e4, e5⟩ := h2 _ (List.mem_singleton.2 rfl)
    have en : name = [101, 114, 114, 111, 114] := (Option.some.inj e1).symm
    subst en
    obtain rfl := Option.some.inj (Tryz.rtName.symm.trans e2)
    have hm : ty ∈ (List.range 414).filter fun t => Tryz.prog.rowNamed t [101, 114, 114, 111, 114] := List.mem_filter.2 ⟨List.mem_range.2 (by rw [← Tryz.nTypes]; exact e3), e4⟩
    rw [Tryz.oneError] at hm
    obtain rfl := List.mem_singleton.1 hm
    rw [Tryz.handleE] at e5
    simpa using World.var?_cell Tryz.etName e5 0
  · have hk2 : k < sentL.length := hk
    have hk3 : k < sentGs.length := hk
    have hk4 : k < bs.length := by omega
    have := (q4 k hk2 hk3 hk4).2
    show W.cell? (bs.getD k _) = _
    rw [List.getD_eq_getElem?_getD, List.getElem?_eq_getElem hk4]
    show W.cell? bs[k] = _
    rw [this]
    congr 2
    have hall : ∀ k : Fin 11, (⟨(sentL.getD k.1 ("", [])).2.toArray⟩ : ByteArray) = scErr (k.1 + 1) := by decide
    rw [← hall ⟨k, hk⟩, List.getD_eq_getElem?_getD, List.getElem?_eq_getElem hk2]
    rfl
end Go.Proofs.YtikehilbmldadaaGreatDoor
namespace Go.Proofs.YtikehilbmldadaaGreatDoor.scriptAgain
open Go.ChangeShapes Go.WideShapes Go.ChangeAt Go.RowKit
set_option linter.unusedVariables false
def plainL : List (String × DataW Unit) := Rows.scriptAgainRow.laid.filter fun x => x.2.handleName?.isNone
def numL : List (String × List UInt8) := [("strconv.ErrRange", [118, 97, 108, 117, 101, 32, 111, 117, 116, 32, 111, 102, 32, 114, 97, 110, 103, 101]), ("strconv.ErrSyntax", [105, 110, 118, 97, 108, 105, 100, 32, 115, 121, 110, 116, 97, 120])]
theorem num_eq : plainL.filter (fun x => decide (x.1 ∈ ["strconv.ErrRange", "strconv.ErrSyntax"])) = (numL.map fun x => (x.1, sentD x.2)) := by kernel_rfl
theorem sent_eq : plainL.filter (fun x => decide (x.1 ∈ sentL.map (·.1))) = (sentL.map fun x => (x.1, sentD x.2)) := by kernel_rfl
theorem nm0 : Tryz.prog.globalNamed "strconv.ErrRange" = some 14 := by kernel_rfl
theorem nm1 : Tryz.prog.globalNamed "strconv.ErrSyntax" = some 13 := by kernel_rfl
theorem ty0 : (Tryz.prog.globals[14]?).map (·.type) = some 25 := by kernel_rfl
theorem ty1 : (Tryz.prog.globals[13]?).map (·.type) = some 25 := by kernel_rfl
theorem nums_of {W : World} (h : laidMet Tryz.prog (numL.map fun x => (x.1, sentD x.2)) W) : (∃ t p, W.cell? ⟨14, 0, none⟩ = some (.iface t p)) ∧ ∃ t p, W.cell? ⟨13, 0, none⟩ = some (.iface t p) := by
  obtain ⟨ps, hv, hnd, hrows⟩ := h
  obtain ⟨bs, q1, q2, q3, q4⟩ := laid_each Tryz.underlying25 Tryz.rowE Tryz.underlying372 Tryz.underlying374 rfl rfl Tryz.underlying9 Tryz.cellsE Tryz.cellsS numL [14, 13] rfl (fun k h1 h2 => by
    match k, h1 with
    | 0, _ => exact ⟨nm0, ty0⟩
    | 1, _ => exact ⟨nm1, ty1⟩) ps hv hnd hrows
  have h2 : bs.length = 2 := q1
  exact ⟨⟨_, _, q4 0 (by decide) (by decide) (by omega)⟩, ⟨_, _, q4 1 (by decide) (by decide) (by omega)⟩⟩
theorem laid_all {W : World} (h : laidMetH Tryz.prog Rows.scriptAgainRow.laid W) : ∃ sa, Sents W.heap.size sa W ∧ (∀ k, k < 11 → W.cell? (sa k) = some (.string (scErr (k + 1)))) ∧ NumB W.heap.size W ∧ TabB W.heap.size W := by
  have hL2 : laidMet Tryz.prog plainL W ∧ handlesMet Tryz.prog [("errors.errorType", handleD)] W := h
  have h6 := laidMet.filter (fun x => decide (x.1 ∈ sentL.map (·.1))) hL2.1
  rw [sent_eq] at h6
  have h2 := laidMet.filter (fun x => decide (x.1 ∈ ["strconv.ErrRange", "strconv.ErrSyntax"])) hL2.1
  rw [num_eq] at h2
  obtain ⟨sa, hs, htx⟩ := sentsT_of h6 hL2.2
  obtain ⟨er, es⟩ := nums_of h2
  have hT : TabB W.heap.size W := tabB_of (rest := (plainL.drop 3)) (laidMet.tail (laidMet.tail (show laidMet Tryz.prog (("math/bits.deBruijn32tab", Rows.laid_math_bits_deBruijn32tab) :: ("math/bits.deBruijn64tab", Rows.laid_math_bits_deBruijn64tab) :: ("internal/strconv.uint64pow10", Lib.tabData .u64 Lib.pow10Tab) :: plainL.drop 3) W from hL2.1)))
  have hl : ∀ {g : Nat} {v : Value}, W.cell? ⟨g, 0, none⟩ = some v → g < W.heap.size := fun hc => World.block_lt_of_cell? _ ⟨_, 0, none⟩ hc
  refine ⟨sa, hs, htx, ⟨hT, es, er, ?_⟩, hT⟩
  obtain ⟨_, _, e1⟩ := er
  obtain ⟨_, _, e2⟩ := es
  exact ⟨hl e2, hl e1⟩
noncomputable def base0 (os : Os) : World := (World.holding Tryz.prog os ⟨#[], #[], []⟩).setCell ⟨11, 0, none⟩ (.iface 283 (.agg #[.pointer (some ⟨25, 25, none⟩)]))
noncomputable def doorW (os : Os) : World := (base0 os).layVars Tryz.prog plainL
theorem doorW_os (os : Os) : (doorW os).os = os := World.layVars_os _ _ _
theorem plain_met (os : Os) (args : Array Value) : laidMet Tryz.prog plainL ((doorW os).forCall (fun _ _ => 0) ⟨#[], args, []⟩).memory := by
  have e1 : (plainL.filter fun x => (plainL.map (·.1)).contains x.1) = plainL := List.filter_eq_self.2 fun x hx => List.contains_iff_mem.2 (List.mem_map.2 ⟨x, hx, rfl⟩)
  have e2 : (plainL.filter fun x => !(plainL.map (·.1)).contains x.1) = [] := List.filter_eq_nil_iff.2 fun x hx => by rw [List.contains_iff_mem.2 (List.mem_map.2 ⟨x, hx, rfl⟩)]; simp
  have h : laidMet Tryz.prog plainL (doorW os) := laidMet_layVars (w0 := base0 os) (plainL.map (·.1)) [] (by rw [e1]; rfl) (by rw [e1]; kernel_rfl) (by rw [e1]; kernel_rfl) (by rw [e2]; exact LaidIn.none)
  exact h.of_heap (by simp [World.memory, World.forCall, Input.heap])
theorem door_met (os : Os) (args : Array Value) : laidMetH Tryz.prog Rows.scriptAgainRow.laid ((doorW os).forCall (fun _ _ => 0) ⟨#[], args, []⟩).memory :=
  laidMetH_of_parts (plain_met os args) (by kernel_rfl)
end Go.Proofs.YtikehilbmldadaaGreatDoor.scriptAgain
