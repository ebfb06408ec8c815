/- The sentinel errors of package api: where they lie; plain.Code, coded. -/
import Derived.Test.YtgdaljpimblkgaaGreatDoorR11
import Derived.Test.YtgdaljpimblkgaaGreatDoorR01
import Derived.Test.YtgdaljpimblkgaaGreatDoorR10
import Derived.Lib.AppendZerosOnto
namespace Go.Proofs.YtgdaljpimblkgaaGreatDoor
open Go.RowKit
set_option linter.unusedVariables false

/-- An error by its number: 0: nil. -/
def errv (sa : Nat → Addr) : Nat → Value
  | 0 => .nilIface
  | k + 1 => .iface 209 (.pointer (some (sa k)))
/-- The variables of package api, in the order of their numbers. -/
def sg (k : Nat) : Nat := [2, 0, 1, 3, 4, 5, 6, 7, 8, 9, 10].getD k 0

structure Sents (B : Nat) (sa : Nat → Addr) (w : World) : Prop where
  gl : ∀ k, k < 11 → w.cell? ⟨sg k, 0, none⟩ = some (errv sa (k + 1))
  nd : ∀ i j, i < 11 → j < 11 → i ≠ j → sa i ≠ sa j
  bl : ∀ k, k < 11 → (sa k).block < B ∧ ∃ c t, w.heap[(sa k).block]? = some (.cells c t (0, 0))
  et : w.cell? ⟨11, 0, none⟩ = some (.iface 149 (.agg #[.pointer (some ⟨20, 31, none⟩)]))
  nb : (∀ k, k < 11 → sg k < B) ∧ 11 < B
  top : B ≤ w.heap.size
theorem Sents.mk' {sa : Nat → Addr} {w : World} (gl : ∀ k, k < 11 → w.cell? ⟨sg k, 0, none⟩ = some (errv sa (k + 1))) (nd : ∀ i j, i < 11 → j < 11 → i ≠ j → sa i ≠ sa j)
    (bl : ∀ k, k < 11 → (sa k).block < w.heap.size ∧ ∃ c t, w.heap[(sa k).block]? = some (.cells c t (0, 0))) (et : w.cell? ⟨11, 0, none⟩ = some (.iface 149 (.agg #[.pointer (some ⟨20, 31, none⟩)]))) : Sents w.heap.size sa w :=
  ⟨gl, nd, bl, et, ⟨fun k hk => World.block_lt_of_cell? _ ⟨sg k, 0, none⟩ (gl k hk), World.block_lt_of_cell? _ ⟨11, 0, none⟩ et⟩, Nat.le_refl _⟩
theorem Sents.keep {B : Nat} {sa : Nat → Addr} {S : Nat → Prop} {w w' : World} (h : Sents B sa w) (k : Keep S w w') (hS : ∀ b, S b → B ≤ b) : Sents B sa w' := by
  have hn := h.nb
  have ht := h.top
  refine ⟨fun i hi => ?_, h.nd, fun i hi => ?_, ?_, hn, Nat.le_trans ht k.size⟩
  · have := hn.1 i hi
    rw [k.cell (p := ⟨sg i, 0, none⟩) (show sg i < w.heap.size by omega) (fun hb => by have := hS _ hb; simp only at this; omega)]
    exact h.gl i hi
  · obtain ⟨h1, c, t, h2⟩ := h.bl i hi
    exact ⟨h1, c, t, k.get h2 (fun hb => by have := hS _ hb; omega)⟩
  · have hn2 := hn.2
    rw [k.cell (p := ⟨11, 0, none⟩) (show 11 < w.heap.size by omega) (fun hb => by have := hS _ hb; simp only at this; omega)]
    exact h.et
theorem Sents.below {B : Nat} {sa : Nat → Addr} {w w' : World} (h : Sents B sa w) (b : Below w.heap.size w w') : Sents B sa w' := h.keep (below_keep b) (fun _ h => h.elim)
theorem Sents.low {B C : Nat} {sa : Nat → Addr} {w w' : World} (h : Sents B sa w) (b : Below C w w') (hC : B ≤ C) : Sents B sa w' := h.keep (Keep.of_below b) (fun k hk => Nat.le_trans hC hk)

theorem Sents.all {B : Nat} {sa : Nat → Addr} {w : World} (h : Sents B sa w) :
    w.cell? ⟨2, 0, none⟩ = some (.iface 209 (.pointer (some (sa 0)))) ∧ w.cell? ⟨0, 0, none⟩ = some (.iface 209 (.pointer (some (sa 1)))) ∧ w.cell? ⟨1, 0, none⟩ = some (.iface 209 (.pointer (some (sa 2)))) ∧
    w.cell? ⟨3, 0, none⟩ = some (.iface 209 (.pointer (some (sa 3)))) ∧ w.cell? ⟨4, 0, none⟩ = some (.iface 209 (.pointer (some (sa 4)))) ∧ w.cell? ⟨5, 0, none⟩ = some (.iface 209 (.pointer (some (sa 5)))) ∧
    w.cell? ⟨6, 0, none⟩ = some (.iface 209 (.pointer (some (sa 6)))) ∧ w.cell? ⟨7, 0, none⟩ = some (.iface 209 (.pointer (some (sa 7)))) ∧ w.cell? ⟨8, 0, none⟩ = some (.iface 209 (.pointer (some (sa 8)))) ∧
    w.cell? ⟨9, 0, none⟩ = some (.iface 209 (.pointer (some (sa 9)))) ∧ w.cell? ⟨10, 0, none⟩ = some (.iface 209 (.pointer (some (sa 10)))) :=
  ⟨h.gl 0 (by decide), h.gl 1 (by decide), h.gl 2 (by decide), h.gl 3 (by decide), h.gl 4 (by decide), h.gl 5 (by decide), h.gl 6 (by decide), h.gl 7 (by decide), h.gl 8 (by decide), h.gl 9 (by decide), h.gl 10 (by decide)⟩

/-- The four that package ring and its cells name. -/
structure SentsR (B : Nat) (sa : Nat → Addr) (w : World) : Prop where
  g1 : w.cell? ⟨0, 0, none⟩ = some (.iface 209 (.pointer (some (sa 1))))
  g2 : w.cell? ⟨1, 0, none⟩ = some (.iface 209 (.pointer (some (sa 2))))
  g6 : w.cell? ⟨6, 0, none⟩ = some (.iface 209 (.pointer (some (sa 6))))
  g7 : w.cell? ⟨7, 0, none⟩ = some (.iface 209 (.pointer (some (sa 7))))
  nb : 0 < B ∧ 1 < B ∧ 6 < B ∧ 7 < B
  top : B ≤ w.heap.size
theorem Sents.r {B : Nat} {sa : Nat → Addr} {w : World} (h : Sents B sa w) : SentsR B sa w :=
  ⟨h.gl 1 (by decide), h.gl 2 (by decide), h.gl 6 (by decide), h.gl 7 (by decide), ⟨h.nb.1 1 (by decide), h.nb.1 2 (by decide), h.nb.1 6 (by decide), h.nb.1 7 (by decide)⟩, h.top⟩
instance {B : Nat} {sa : Nat → Addr} {w : World} : Coe (Sents B sa w) (SentsR B sa w) := ⟨Sents.r⟩
theorem SentsR.keep {B : Nat} {sa : Nat → Addr} {S : Nat → Prop} {w w' : World} (h : SentsR B sa w) (k : Keep S w w') (hS : ∀ b, S b → B ≤ b) : SentsR B sa w' := by
  have ht := h.top
  obtain ⟨n1, n2, n6, n7⟩ := h.nb
  refine ⟨?_, ?_, ?_, ?_, h.nb, Nat.le_trans ht k.size⟩
  · rw [k.cell (p := ⟨0, 0, none⟩) (by show 0 < _; omega) (fun x => by have : B ≤ 0 := hS _ x; omega)]; exact h.g1
  · rw [k.cell (p := ⟨1, 0, none⟩) (by show 1 < _; omega) (fun x => by have : B ≤ 1 := hS _ x; omega)]; exact h.g2
  · rw [k.cell (p := ⟨6, 0, none⟩) (by show 6 < _; omega) (fun x => by have : B ≤ 6 := hS _ x; omega)]; exact h.g6
  · rw [k.cell (p := ⟨7, 0, none⟩) (by show 7 < _; omega) (fun x => by have : B ≤ 7 := hS _ x; omega)]; exact h.g7
theorem SentsR.below {B : Nat} {sa : Nat → Addr} {w w' : World} (h : SentsR B sa w) (b : Below w.heap.size w w') : SentsR B sa w' := h.keep (below_keep b) (fun _ h => h.elim)
theorem SentsR.low {B C : Nat} {sa : Nat → Addr} {w w' : World} (h : SentsR B sa w) (b : Below C w w') (hC : B ≤ C) : SentsR B sa w' := h.keep (Keep.of_below b) (fun k hk => Nat.le_trans hC hk)
theorem SentsR.mk' {sa : Nat → Addr} {w : World} (h1 : w.cell? ⟨0, 0, none⟩ = some (errv sa 2)) (h2 : w.cell? ⟨1, 0, none⟩ = some (errv sa 3)) (h6 : w.cell? ⟨6, 0, none⟩ = some (errv sa 7)) (h7 : w.cell? ⟨7, 0, none⟩ = some (errv sa 8)) : SentsR w.heap.size sa w :=
  ⟨h1, h2, h6, h7, ⟨World.block_lt_of_cell? _ ⟨0, 0, none⟩ h1, World.block_lt_of_cell? _ ⟨1, 0, none⟩ h2, World.block_lt_of_cell? _ ⟨6, 0, none⟩ h6, World.block_lt_of_cell? _ ⟨7, 0, none⟩ h7⟩, Nat.le_refl _⟩

def sentCs (sa : Nat → Addr) : Array Value := #[.iface 209 (.pointer (some (sa 0))), .iface 209 (.pointer (some (sa 1))), .iface 209 (.pointer (some (sa 2))), .iface 209 (.pointer (some (sa 3))), .iface 209 (.pointer (some (sa 4))), .iface 209 (.pointer (some (sa 5))), .iface 209 (.pointer (some (sa 6))), .iface 209 (.pointer (some (sa 7))), .iface 209 (.pointer (some (sa 8))), .iface 209 (.pointer (some (sa 9))), .iface 209 (.pointer (some (sa 10)))]
theorem sent_cells {w : World} {b : Nat} {sa : Nat → Addr} {t : TypeId} (h : w.heap[b]? = some (.cells (sentCs sa) t)) (j : Nat) (hj : j < 11) : w.cell? ⟨b, j, none⟩ = some (.iface 209 (.pointer (some (sa j)))) := by
  unfold sentCs at h
  match j, hj with
  | 0, _ | 1, _ | 2, _ | 3, _ | 4, _ | 5, _ | 6, _ | 7, _ | 8, _ | 9, _ | 10, _ => simp [World.cell?, h]

theorem code_nil (w : World) : Calls Tryz.prog 24 #[.nilIface] w fun e w' => e = .returned (.tuple #[.int .i64 0, .int .i64 (-1)]) ∧ w = w' := by
  go_enter Tryz.func24, Tryz.ntmps24
  go_wp2
  go_ret2
  exact ⟨rfl, rfl⟩

set_option maxRecDepth 100000 in
set_option maxHeartbeats 4000000 in
theorem code_sent (B : Nat) (sa : Nat → Addr) (k : Nat) (hk : k < 11) (w : World) (hS : Sents B sa w) :
    Calls Tryz.prog 24 #[.iface 209 (.pointer (some (sa k)))] w fun e w' => e = .returned (.tuple #[.int .i64 (k + 1), .int .i64 (-1)]) ∧ Below w.heap.size w w' := by
  have HS := Lib.hid hS
  have et := hS.et
  have hnb := hS.nb
  have htop := hS.top
  clear hS
  go_enter Tryz.func24, Tryz.ntmps24
  go_wp2_with fail
  have b0 : Below w.heap.size w (w.alloc (.cells #[.pointer none] 72)) := (Below.refl _ _).alloc (Nat.le_refl _) _
  have hS0 := HS.out.below b0
  refine (as_miss _ _ _ hS0.et).mono ?_
  rintro e w1 ⟨rfl, b1⟩
  have b1' : Below w.heap.size w w1 := b0.trans (b1.mono b0.size)
  have hS1 := hS0.below b1
  have H1 := Lib.hid hS1
  have B1 := Lib.hid b1'
  obtain ⟨g0, g1, g2, g3, g4, g5, g6, g7, g8, g9, g10⟩ := hS1.all
  clear b0 hS0 b1 b1' hS1 et
  go_wp2_with fail
  have b2 : Below w.heap.size w (w1.alloc (.cells (sentCs sa) 31)) := B1.out.alloc B1.out.size _
  have hS2 := H1.out.below ((Below.refl _ w1).alloc (Nat.le_refl _) (.cells (sentCs sa) 31))
  have hc := sent_cells (get_alloc_new w1 (.cells (sentCs sa) 31))
  unfold sentCs at b2 hS2 hc
  generalize w1.alloc _ = w2 at b2 hS2 hc ⊢
  have H2 := Lib.hid hS2
  have HC := Lib.hid hc
  clear hS2 hc g0 g1 g2 g3 g4 g5 g6 g7 g8 g9 g10 H1 B1
  go_loop [3, 29] (fun s3 s => ∃ j : Nat, j ≤ k ∧ s = .int .i64 j ∧ s3 = .int .i64 (-1)) (fun _ s => 11 - (intOf s).toNat)
  case atStart => exact ⟨0, Nat.zero_le _, rfl, rfl⟩
  case round =>
    obtain ⟨j, hj, rfl, rfl⟩ := hrel
    have q := HC.out j (by omega)
    by_cases hjk : j = k
    · subst hjk
      go_wp2_with fail
      refine (is_same _ _).mono ?_
      rintro e w' ⟨rfl, rfl⟩
      go_wp2_with fail
      go_ret2
      exact ⟨rfl, b2⟩
    · have hlt : j < k := by omega
      obtain ⟨_, ca, ta, ha⟩ := H2.out.bl k hk
      obtain ⟨_, cb, tb, hb⟩ := H2.out.bl j (by omega)
      have hne := H2.out.nd k j hk (by omega) (by omega)
      have HA := Lib.hid ha
      have HB := Lib.hid hb
      have HN := Lib.hid hne
      clear ha hb hne
      go_wp2_with fail
      refine (is_other _ _ ca cb ta tb _ HN.out HA.out HB.out).mono ?_
      rintro e w' ⟨rfl, rfl⟩
      go_wp2_with fail
      go_round
      case rel => exact ⟨j + 1, by omega, by go_num, rfl⟩
      case measure => simp [intOf]; omega

theorem code_any (B : Nat) (sa : Nat → Addr) (c : Nat) (hc : c ≤ 11) (w : World) (hS : Sents B sa w) :
    Calls Tryz.prog 24 #[errv sa c] w fun e w' => e = .returned (.tuple #[.int .i64 c, .int .i64 (-1)]) ∧ Below w.heap.size w w' := by
  cases c with
  | zero =>
    refine (code_nil w).mono ?_
    rintro e w' ⟨rfl, rfl⟩
    exact ⟨rfl, Below.refl _ _⟩
  | succ k => exact code_sent B sa k (by omega) w hS
theorem coded1_any (B : Nat) (sa : Nat → Addr) (c : Nat) (hc : c ≤ 11) (d : Int) (w : World) (hS : Sents B sa w) :
    Calls Tryz.prog 14 #[errv sa c, .int .i64 d] w fun e w' => e = .returned (.bool (decide ((c : Int) = d))) ∧ Below w.heap.size w w' := by
  have HS := Lib.hid hS
  clear hS
  go_enter Tryz.func14, Tryz.ntmps14
  go_wp2_with fail
  refine (code_any B sa c hc w HS.out).mono ?_
  rintro e w' ⟨rfl, b1⟩
  by_cases h : (c : Int) = d
  · have hb : ((c : Int) == d) = true := by simp [h]
    have HH := Lib.hid h
    clear h
    go_wp2_with fail
    go_ret
    exact ⟨ret_bool (by simp [HH.out]), b1⟩
  · have hb : ((c : Int) == d) = false := by simp [h]
    have HH := Lib.hid h
    clear h
    go_wp2_with fail
    go_ret
    exact ⟨ret_bool (by simp [HH.out]), b1⟩
end Go.Proofs.YtgdaljpimblkgaaGreatDoor

/- The six sentinels that package conf names. -/
namespace Go.Proofs.YtgdaljpimblkgaaGreatDoor
open Go.RowKit
set_option linter.unusedVariables false

structure SentsC (B : Nat) (sa : Nat → Addr) (w : World) : Prop where
  gl : ∀ k, k < 6 → w.cell? ⟨sg k, 0, none⟩ = some (errv sa (k + 1))
  nb : ∀ k, k < 6 → sg k < B
  top : B ≤ w.heap.size
theorem Sents.c {B : Nat} {sa : Nat → Addr} {w : World} (h : Sents B sa w) : SentsC B sa w := ⟨fun k hk => h.gl k (by omega), fun k hk => h.nb.1 k (by omega), h.top⟩
theorem SentsC.keep {B : Nat} {sa : Nat → Addr} {S : Nat → Prop} {w w' : World} (h : SentsC B sa w) (k : Keep S w w') (hS : ∀ b, S b → B ≤ b) : SentsC B sa w' := by
  have ht := h.top
  refine ⟨fun i hi => ?_, h.nb, Nat.le_trans ht k.size⟩
  have hn := h.nb i hi
  rw [k.cell (p := ⟨sg i, 0, none⟩) (show sg i < w.heap.size by omega) (fun x => by have := hS _ x; simp only at this; omega)]
  exact h.gl i hi
theorem SentsC.below {B : Nat} {sa : Nat → Addr} {w w' : World} (h : SentsC B sa w) (b : Below w.heap.size w w') : SentsC B sa w' := h.keep (below_keep b) (fun _ h => h.elim)
theorem SentsC.low {B C : Nat} {sa : Nat → Addr} {w w' : World} (h : SentsC B sa w) (b : Below C w w') (hC : B ≤ C) : SentsC B sa w' := h.keep (Keep.of_below b) (fun k hk => Nat.le_trans hC hk)
theorem SentsC.on {B : Nat} {sa : Nat → Addr} {w w' : World} (h : SentsC B sa w) (b : Below w.heap.size w w') : SentsC B sa w' := h.low b h.top
theorem SentsC.all {B : Nat} {sa : Nat → Addr} {w : World} (h : SentsC B sa w) :
    w.cell? ⟨2, 0, none⟩ = some (.iface 209 (.pointer (some (sa 0)))) ∧ w.cell? ⟨0, 0, none⟩ = some (.iface 209 (.pointer (some (sa 1)))) ∧ w.cell? ⟨1, 0, none⟩ = some (.iface 209 (.pointer (some (sa 2)))) ∧
    w.cell? ⟨3, 0, none⟩ = some (.iface 209 (.pointer (some (sa 3)))) ∧ w.cell? ⟨4, 0, none⟩ = some (.iface 209 (.pointer (some (sa 4)))) ∧ w.cell? ⟨5, 0, none⟩ = some (.iface 209 (.pointer (some (sa 5)))) :=
  ⟨h.gl 0 (by decide), h.gl 1 (by decide), h.gl 2 (by decide), h.gl 3 (by decide), h.gl 4 (by decide), h.gl 5 (by decide)⟩
end Go.Proofs.YtgdaljpimblkgaaGreatDoor

/- Package conf: points; the library's Grow and Concat; strangers. -/
namespace Go.Proofs.YtgdaljpimblkgaaGreatDoor
open Go.RowKit
set_option linter.unusedVariables false

theorem sidx_take {P : List ByteArray} {k : Nat} (hk : k < P.length) : hasStr (P.take k) P[k] = decide (sidxOf P P[k] < k) := by
  unfold sidxOf
  cases h : P.findIdx? (fun y => y.toList == P[k].toList) with
  | none =>
    rw [List.findIdx?_eq_none_iff] at h
    have := h P[k] (List.getElem_mem hk)
    simp at this
  | some i =>
    rw [List.findIdx?_eq_some_iff_getElem] at h
    obtain ⟨hi, he, hmin⟩ := h
    by_cases hik : i < k
    · rw [decide_eq_true (by simp only; omega)]
      exact hasStr_hit i (by rw [List.length_take]; omega) (by simpa using he)
    · rw [decide_eq_false (by simp only; omega)]
      exact hasStr_miss (fun j hj => by
        rw [List.length_take] at hj
        have := hmin j (by omega)
        simpa using this)
theorem ptE_name {P : List ByteArray} {k : Nat} (hk : k < P.length) (h : isNameB P[k] = false) : ptE P k = 4 := by rw [ptE_at hk, if_pos h]
theorem ptE_twice {P : List ByteArray} {k : Nat} (hk : k < P.length) (h : isNameB P[k] = true) (h2 : hasStr (P.take k) P[k] = true) : ptE P k = 6 := by
  rw [sidx_take hk] at h2
  rw [ptE_at hk, if_neg (by rw [h]; decide), if_pos (of_decide_eq_true h2)]
theorem ptE_good {P : List ByteArray} {k : Nat} (hk : k < P.length) (h : isNameB P[k] = true) (h2 : hasStr (P.take k) P[k] = false) : ptE P k = 0 := by
  rw [sidx_take hk] at h2
  rw [ptE_at hk, if_neg (by rw [h]; decide), if_neg (of_decide_eq_false h2)]
theorem SlOf.cutS {R : Nat → Prop} {w : World} {ao : Option Addr} {cap : Nat} {l : List ByteArray} (h : SlOf R w (.slice ao l.length cap) 1 (strCells1 l) l.length) (k : Nat) (hk : k ≤ l.length) : SlOf R w (.slice ao k cap) 1 (strCells1 (l.take k)) (l.take k).length := by
  rw [← flat_strs] at h ⊢
  exact SlOf.cut (f := fun x => [Value.string x]) h (fun _ => rfl) k hk

set_option maxHeartbeats 1000000 in
theorem points_any (B : Nat) (sa : Nat → Addr) (R : Nat → Prop) (l : List ByteArray) (v : Value) (w : World) (hS : SentsC B sa w) (h : SlOf R w v 1 (strCells1 l) l.length) (hR : ∀ b, R b → b < w.heap.size) (hn : l.length ≤ 100000) :
    Calls Tryz.prog 45 #[v] w fun e w' => e = .returned (errv sa (ptsE l)) ∧ Below w.heap.size w w' := by
  obtain ⟨ao, cap, rfl⟩ := h.val
  have H := Lib.hid h
  have HS := Lib.hid hS
  obtain ⟨hc1, hc2⟩ := h.capB
  clear h hS
  go_enter Tryz.func45, Tryz.ntmps45
  go_wp2_with fail
  go_loopw [7] (fun s wr => ∃ i : Nat, i ≤ l.length ∧ s = .int .i64 i ∧ Below w.heap.size w wr ∧ Hid (∀ j, j < i → ptE l j = 0)) (fun s _ => l.length - (intOf s).toNat)
  case atStart => exact ⟨0, Nat.zero_le _, rfl, Below.refl _ _, fun j h => by omega⟩
  case round =>
    obtain ⟨i, hi, rfl, hbl, hall⟩ := hrel
    by_cases hlt : i < l.length
    · obtain ⟨b, off, rfl, hRb, _, hc⟩ := str_cells H.out (by omega)
      have q := hc i hlt
      rw [← hbl.cell (hR b hRb)] at q
      have HN := Lib.hid (confName_any l[i] wr)
      clear hc
      cases hn1 : isNameB l[i]
      · rw [hn1] at HN
        have HP := Lib.hid (show ptsE l = 4 from by
          have e := ptE_name hlt hn1
          rw [ptsE_hit hlt (by rw [e]; decide) hall.out, e])
        clear hn1 hall
        go_wp2_with fail
        refine HN.out.mono ?_
        rintro e w1 ⟨rfl, b1⟩
        have hb1 := hbl.trans (b1.mono hbl.size)
        obtain ⟨_, _, _, g3, _, _⟩ := (HS.out.on hb1).all
        go_wp2_with fail
        go_ret
        rw [HP.out]
        exact ⟨rfl, hb1⟩
      · rw [hn1] at HN
        have hi2 : (i : Int) ≤ (cap : Int) := by omega
        have hsub := fun W => run_sub_strs W b off l.length cap i (by omega)
        have HC := Lib.hid (fun W (hB : Below w.heap.size w W) => containsStrs_any R (l.take i) (.slice (some ⟨b, off, none⟩) i cap) l[i] W ((H.out.cutS i (by omega)).below hB hR))
        cases ht : hasStr (l.take i) l[i]
        · rw [ht] at HC
          have nx : Hid (∀ j, j < i + 1 → ptE l j = 0) := (show ∀ j, j < i + 1 → ptE l j = 0 from fun j hj => by
            by_cases e : j = i
            · subst e; exact ptE_good hlt hn1 ht
            · exact hall.out j (by omega))
          clear hn1 ht hall
          go_wp2_with fail
          refine HN.out.mono ?_
          rintro e w1 ⟨rfl, b1⟩
          have hb1 := hbl.trans (b1.mono hbl.size)
          clear b1 q
          go_wp2_with fail
          refine (HC.out w1 hb1).mono ?_
          rintro e w' ⟨rfl, rfl⟩
          go_wp2_with fail
          go_roundw
          case rel => exact ⟨i + 1, by omega, by go_num, hb1, nx⟩
          case measure => simp [intOf]; omega
        · rw [ht] at HC
          have HP := Lib.hid (show ptsE l = 6 from by
            have e := ptE_twice hlt hn1 ht
            rw [ptsE_hit hlt (by rw [e]; decide) hall.out, e])
          clear hn1 ht hall
          go_wp2_with fail
          refine HN.out.mono ?_
          rintro e w1 ⟨rfl, b1⟩
          have hb1 := hbl.trans (b1.mono hbl.size)
          clear b1 q
          go_wp2_with fail
          refine (HC.out w1 hb1).mono ?_
          rintro e w' ⟨rfl, rfl⟩
          obtain ⟨_, _, _, _, _, g5⟩ := (HS.out.on hb1).all
          go_wp2_with fail
          go_ret
          rw [HP.out]
          exact ⟨rfl, hb1⟩
    · have HP := Lib.hid (ptsE_miss (P := l) (fun j hj => hall.out j (by omega)))
      clear hall
      go_wp2_with fail
      go_ret
      rw [HP.out]
      exact ⟨rfl, hbl⟩
end Go.Proofs.YtgdaljpimblkgaaGreatDoor

/- The library's Grow, Concat at numbers; package conf: strangers. -/
namespace Go.Proofs.YtgdaljpimblkgaaGreatDoor
open Go.RowKit
set_option linter.unusedVariables false

theorem run_grow_ints (n : Nat) (h0 : 0 < n) (hn : n ≤ 1000000) (w : World) : ∃ cap w', (∀ ty, (Builtin.append_ #[50, 3] ty #[.slice none 0 0, .int .i64 n]).run Tryz.prog w = .ok (.slice (some ⟨w.heap.size, 0, none⟩) n cap) w') ∧ n ≤ cap ∧ cap ≤ 9223372036854775807 ∧
    w'.ownsRow w.heap.size 3 1 (.slice (some ⟨w.heap.size, 0, none⟩) 0 cap) 0 [] ∧ Below w.heap.size w w' := by
  obtain ⟨i0, hi0, hz0, hz1, hz2⟩ := info_parts Tryz.infoInt
  have hG := grownCap_ge w (0 + n) 0 3
  have hG2 := grownCap_le_maxLen w (0 + n) 0 3 (by unfold maxLen; omega)
  have hr := fun ty => Lib.run_append_grow_zeros w 50 3 ty 3 i0 (.int .i64 0) .i64 .i64 Tryz.underlying50 Tryz.underlying3 hi0 hz0 none 0 0 [] (run_firstCells_none w.drew i0.size 0 0 0) n h0 (by rw [hz1]; decide) (by omega) (by omega) (by rw [hz2]; omega) (growslice_fits (by omega) (by rw [hz2]; omega))
  rw [Nat.zero_add] at hr hG hG2
  refine ⟨_, _, hr, hG, hG2, ⟨rfl, .inr ⟨_, _, _, rfl, Nat.le_refl _, get_alloc_new _ _, Nat.zero_le _, hG2, ?_, by simp⟩⟩, ((Below.refl _ _).drew).alloc (Nat.le_refl _) _⟩
  simp only [Builtin.zeroCells, Array.size_append, Array.size_map, Array.size_range, show (Value.int IntKind.i64 0).cells.size = 1 from rfl, List.size_toArray, List.length_nil]
  omega
set_option maxRecDepth 100000 in
set_option maxHeartbeats 1000000 in
theorem grow_any (n : Nat) (hn : n ≤ 1000000) (w : World) :
    Calls Tryz.prog 111 #[.slice none 0 0, .int .i64 n] w fun e w' => ∃ ao cap, e = .returned (.slice ao 0 cap) ∧ w'.ownsRow w.heap.size 3 1 (.slice ao 0 cap) 0 [] ∧ Below w.heap.size w w' := by
  by_cases h0 : n = 0
  · subst h0
    go_enter Tryz.func111, Tryz.ntmps111
    go_wp2_with fail
    go_ret
    exact ⟨_, _, rfl, World.ownsRow_nil _ _ _ _, Below.refl _ _⟩
  · have hpos : 0 < (n : Int) := by omega
    have hnn : ¬ (n : Int) < 0 := by omega
    obtain ⟨cap, w1, hrz, hc1, hc2, hown, hb⟩ := run_grow_ints n (by omega) hn w
    have hsl : ∀ W : World, (Instr.slice 50 (.slice (some ⟨w.heap.size, 0, none⟩) n cap) none (some (.int .i64 0)) none).run Tryz.prog W = .ok (.slice (some ⟨w.heap.size, 0, none⟩) 0 cap) W := fun W => run_sub_ints W w.heap.size 0 n cap 0 (Nat.zero_le _)
    have HO := Lib.hid hown
    have HB := Lib.hid hb
    have hz0 : (Instr.slice 50 (.slice none 0 0) none (some (.int .i64 0)) none).run Tryz.prog w = .ok (.slice none 0 0) w := by
      have ht : Tryz.prog.underlying 50 = some (.slice (Tryz.prog.elem 50)) := by kernel_rfl
      have hs : ((sizeOf (Tryz.prog.elem 50)).run Tryz.prog w) = .ok 1 w := by kernel_rfl
      rw [run_slice_h w 50 none 0 0 ht .i64 0 (by omega) (by omega), hs]
      show Result.ok (sliced _ _ _ _ _) w = _
      unfold sliced
      simp
    clear hown hb h0
    go_enter Tryz.func111, Tryz.ntmps111
    go_wp2_with (at_builtin; refine Lib.wpList_append_run _ rfl _ _ _ _ rfl _ _ rfl rfl _ _ (hrz _) ?_)
    all_goals
      go_ret
      exact ⟨_, _, rfl, HO.out, HB.out⟩

def cat2 (a b : List Int) (k : Nat) : List Int := if k = 0 then [] else if k = 1 then a else a ++ b
def el2 {α : Type} (a b : α) (k : Nat) : α := if k = 0 then a else b
theorem cat2_succ (a b : List Int) (k : Nat) (hk : k < 2) : cat2 a b (k + 1) = cat2 a b k ++ el2 a b k := by
  match k, hk with
  | 0, _ => simp [cat2, el2]
  | 1, _ => simp [cat2, el2]
theorem cat2_end (a b : List Int) (k : Nat) (h1 : 2 ≤ k) : cat2 a b k = a ++ b := by
  unfold cat2
  rw [if_neg (by omega), if_neg (by omega)]
theorem el2_sl {R : Nat → Prop} {w : World} {a b : List Int} {va vb : Value} (ha : SlOf R w va 1 (intCells a) a.length) (hb : SlOf R w vb 1 (intCells b) b.length) (k : Nat) : SlOf R w (el2 va vb k) 1 (intCells (el2 a b k)) (el2 a b k).length := by
  unfold el2
  by_cases h : k = 0
  · simp only [if_pos h]; exact ha
  · simp only [if_neg h]; exact hb
theorem el2_cell {w : World} {cb : Nat} {va vb : Value} (h0 : w.cell? ⟨cb, 0, none⟩ = some va) (h1 : w.cell? ⟨cb, 1, none⟩ = some vb) (k : Nat) (hk : k < 2) : w.cell? ⟨cb, k, none⟩ = some (el2 va vb k) := by
  match k, hk with
  | 0, _ => exact h0
  | 1, _ => exact h1
theorem cat2_len {a b : List Int} (la : a.length ≤ 1000) (lb : b.length ≤ 1000) (k : Nat) : (cat2 a b k).length ≤ 2000 := by
  unfold cat2
  split
  · simp
  · split
    · omega
    · rw [List.length_append]; omega
theorem el2_len {a b : List Int} (la : a.length ≤ 1000) (lb : b.length ≤ 1000) (k : Nat) : (el2 a b k).length ≤ 1000 := by
  unfold el2
  split <;> omega
set_option maxRecDepth 100000 in
set_option maxHeartbeats 2000000 in
theorem concat_any (R : Nat → Prop) (a b : List Int) (va vb : Value) (cb : Nat) (w : World) (ha : SlOf R w va 1 (intCells a) a.length) (hb : SlOf R w vb 1 (intCells b) b.length) (hR : ∀ b, R b → b < w.heap.size) (h0 : w.cell? ⟨cb, 0, none⟩ = some va) (h1 : w.cell? ⟨cb, 1, none⟩ = some vb) (la : a.length ≤ 1000) (lb : b.length ≤ 1000) :
    Calls Tryz.prog 95 #[.slice (some ⟨cb, 0, none⟩) 2 2] w fun e w' => ∃ ao cap, e = .returned (.slice ao (a ++ b).length cap) ∧ w'.ownsRow w.heap.size 3 1 (.slice ao (a ++ b).length cap) (a ++ b).length (intCells (a ++ b)) ∧ Below w.heap.size w w' := by
  obtain ⟨i0, hi0, hz0, hz1, hz2⟩ := info_parts Tryz.infoInt
  have HQ := Lib.hid (el2_cell h0 h1)
  have hcb := World.block_lt_of_cell? _ ⟨cb, 0, none⟩ h0
  have HS := Lib.hid (el2_sl ha hb)
  have HCL := Lib.hid (cat2_len la lb)
  have HEL := Lib.hid (el2_len la lb)
  simp only at hcb
  obtain ⟨c, hc⟩ : ∃ c, c = a ++ b := ⟨_, rfl⟩
  have HC := Lib.hid hc
  have hcl : c.length ≤ 2000 := by rw [hc, List.length_append]; omega
  rw [← hc]
  clear hc
  clear ha hb h0 h1
  go_enter Tryz.func95, Tryz.ntmps95
  go_wp2_with fail
  go_loop [3, 11] (fun s3 s11 => ∃ k : Nat, k ≤ 2 ∧ s3 = .int .i64 (cat2 a b k).length ∧ s11 = .int .i64 k) (fun _ s => 2 - (intOf s).toNat)
  case atStart => exact ⟨0, Nat.zero_le _, rfl, rfl⟩
  case round =>
    obtain ⟨k, hk, rfl, rfl⟩ := hrel
    by_cases hlt : k < 2
    · have hlt2 : (k : Int) < 2 := by omega
      have q := HQ.out k hlt
      obtain ⟨xa, xc, hv⟩ := (HS.out k).val
      rw [hv] at q
      have hl1 := HCL.out k
      have hl2 := HEL.out k
      have hsu : Hid (((cat2 a b k).length : Int) + ((el2 a b k).length : Int) = ((cat2 a b (k + 1)).length : Nat)) := by
        show ((cat2 a b k).length : Int) + ((el2 a b k).length : Int) = ((cat2 a b (k + 1)).length : Nat)
        rw [cat2_succ a b k hlt, List.length_append]; omega
      clear hv
      generalize (el2 a b k).length = m at q hl2 hsu
      generalize (cat2 a b k).length = n at hl1 hsu ⊢
      go_wp2_with fail
      go_round
      case rel => exact ⟨k + 1, by omega, by rw [hsu.out], by go_num⟩
      case measure => simp [intOf]; omega
    · have hlt2 : (2 : Int) ≤ k := by omega
      have hk2 := (cat2_end a b k (by omega)).trans HC.out.symm
      rw [hk2]
      have HG := Lib.hid (grow_any c.length (by omega) w)
      clear hk2
      go_wp2_with fail
      refine HG.out.mono ?_
      rintro e w1 ⟨go1, gc1, rfl, hown, hb1⟩
      have HO1 := Lib.hid hown
      clear HG hown
      go_wp2_with fail
      go_loopw [6, 27] (fun s6 s27 wr => ∃ (j : Nat) (ao : Option Addr) (cap : Nat), j ≤ 2 ∧ s6 = .slice ao (cat2 a b j).length cap ∧ s27 = .int .i64 j ∧ Below w.heap.size w wr ∧ Hid (wr.ownsRow w.heap.size 3 1 (.slice ao (cat2 a b j).length cap) (cat2 a b j).length (intCells (cat2 a b j)))) (fun _ s _ => 2 - (intOf s).toNat)
      case atStart => exact ⟨0, go1, gc1, Nat.zero_le _, rfl, rfl, hb1, HO1⟩
      case round =>
        obtain ⟨j, ao, cap, hj, rfl, rfl, hbl, hown⟩ := hrel
        clear HO1 hb1
        by_cases hjl : j < 2
        · have hjl2 : (j : Int) < 2 := by omega
          have q := HQ.out j hjl
          rw [← hbl.cell (p := ⟨cb, j, none⟩) hcb] at q
          have hsl := (HS.out j).below hbl hR
          obtain ⟨xa, xc, hv⟩ := hsl.val
          rw [hv] at q hsl
          have HSL := Lib.hid hsl
          have hl1 := HCL.out j
          have hl2 := HEL.out j
          have hsu := Lib.hid (cat2_succ a b j hjl)
          clear hv hsl
          obtain ⟨n, hn⟩ : ∃ n, n = (cat2 a b j).length := ⟨_, rfl⟩
          obtain ⟨m, hm⟩ : ∃ m, m = (el2 a b j).length := ⟨_, rfl⟩
          rw [← hm] at q hl2 HSL
          rw [← hn] at hl1 hown ⊢
          have HN := Lib.hid hn
          have HM := Lib.hid hm
          clear hn hm
          go_wp2_with (at_builtin; go_must (refine wpList_append_src rfl (.tmp 31) (.tmp 32) 50 rfl w.heap.size 3 i0 _ 1 8 Tryz.underlying50 hi0 hz0 hz1 hz2 rfl (by decide) _ n _ rfl hown.out R _ m (intCells (el2 a b j)) rfl HSL.out (oneCell_ints _) (by unfold maxLen; omega) (by omega) hbl.size ?_; intro a1 k1 w6 ho6 hg6))
          have hb6 : Below w.heap.size w w6 := hbl.trans (below_grown hg6 (fun b hb => (hown.out.lt b hb).1) hbl.size)
          rw [← intCells_app, ← hsu.out] at ho6
          have e6 : n + m = (cat2 a b (j + 1)).length := by rw [hsu.out, List.length_append, HN.out, HM.out]
          rw [e6] at ho6 ⊢
          have HO6 := Lib.hid ho6
          clear ho6 hg6 e6 HSL hown q
          go_roundw
          case rel => exact ⟨j + 1, a1, k1, by omega, rfl, by go_num, hb6, HO6⟩
          case measure => simp [intOf]; omega
        · have hjl2 : (2 : Int) ≤ j := by omega
          have hj2 := (cat2_end a b j (by omega)).trans HC.out.symm
          rw [hj2] at hown ⊢
          clear hj2
          go_wp2_with fail
          go_ret
          exact ⟨_, _, rfl, hown.out, hbl⟩
end Go.Proofs.YtgdaljpimblkgaaGreatDoor
