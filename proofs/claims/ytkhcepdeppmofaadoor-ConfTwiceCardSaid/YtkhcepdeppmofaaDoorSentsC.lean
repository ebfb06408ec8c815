/- The sentinel errors of package api: where they lie; plain.Code, coded. -/
import Derived.Test.YtkhcepdeppmofaaDoorErrs
import Derived.Test.YtkhcepdeppmofaaDoorMore
namespace Go.Proofs.YtkhcepdeppmofaaDoor
open Go.RowKit
set_option linter.unusedVariables false

/-- An error by its number: 0: nil. -/
def errv (sa : Nat → Addr) : Nat → Value
  | 0 => .nilIface
  | k + 1 => .iface 304 (.pointer (some (sa k)))
/-- The variables of package api, in the order of their numbers. -/
def sg (k : Nat) : Nat := [7, 3, 4, 8, 2, 9, 6, 5, 1, 0, 10].getD k 0

structure Sents (B : Nat) (sa : Nat → Addr) (w : World) : Prop where
  gl : ∀ k, k < 11 → w.cell? ⟨sg k, 0, none⟩ = some (errv sa (k + 1))
  nd : ∀ i j, i < 11 → j < 11 → i ≠ j → sa i ≠ sa j
  bl : ∀ k, k < 11 → (sa k).block < B ∧ ∃ c t, w.heap[(sa k).block]? = some (.cells c t (0, 0))
  et : w.cell? ⟨11, 0, none⟩ = some (.iface 242 (.agg #[.pointer (some ⟨20, 44, none⟩)]))
  nb : (∀ k, k < 11 → sg k < B) ∧ 11 < B
  top : B ≤ w.heap.size
theorem Sents.mk' {sa : Nat → Addr} {w : World} (gl : ∀ k, k < 11 → w.cell? ⟨sg k, 0, none⟩ = some (errv sa (k + 1))) (nd : ∀ i j, i < 11 → j < 11 → i ≠ j → sa i ≠ sa j)
    (bl : ∀ k, k < 11 → (sa k).block < w.heap.size ∧ ∃ c t, w.heap[(sa k).block]? = some (.cells c t (0, 0))) (et : w.cell? ⟨11, 0, none⟩ = some (.iface 242 (.agg #[.pointer (some ⟨20, 44, none⟩)]))) : Sents w.heap.size sa w :=
  ⟨gl, nd, bl, et, ⟨fun k hk => World.block_lt_of_cell? _ ⟨sg k, 0, none⟩ (gl k hk), World.block_lt_of_cell? _ ⟨11, 0, none⟩ et⟩, Nat.le_refl _⟩
theorem Sents.keep {B : Nat} {sa : Nat → Addr} {S : Nat → Prop} {w w' : World} (h : Sents B sa w) (k : Keep S w w') (hS : ∀ b, S b → B ≤ b) : Sents B sa w' := by
  have hn := h.nb
  have ht := h.top
  refine ⟨fun i hi => ?_, h.nd, fun i hi => ?_, ?_, hn, Nat.le_trans ht k.size⟩
  · have := hn.1 i hi
    rw [k.cell (p := ⟨sg i, 0, none⟩) (show sg i < w.heap.size by omega) (fun hb => by have := hS _ hb; simp only at this; omega)]
    exact h.gl i hi
  · obtain ⟨h1, c, t, h2⟩ := h.bl i hi
    exact ⟨h1, c, t, k.get h2 (fun hb => by have := hS _ hb; omega)⟩
  · have hn2 := hn.2
    rw [k.cell (p := ⟨11, 0, none⟩) (show 11 < w.heap.size by omega) (fun hb => by have := hS _ hb; simp only at this; omega)]
    exact h.et
theorem Sents.below {B : Nat} {sa : Nat → Addr} {w w' : World} (h : Sents B sa w) (b : Below w.heap.size w w') : Sents B sa w' := h.keep (below_keep b) (fun _ h => h.elim)
theorem Sents.low {B C : Nat} {sa : Nat → Addr} {w w' : World} (h : Sents B sa w) (b : Below C w w') (hC : B ≤ C) : Sents B sa w' := h.keep (Keep.of_below b) (fun k hk => Nat.le_trans hC hk)

theorem Sents.all {B : Nat} {sa : Nat → Addr} {w : World} (h : Sents B sa w) :
    w.cell? ⟨7, 0, none⟩ = some (.iface 304 (.pointer (some (sa 0)))) ∧ w.cell? ⟨3, 0, none⟩ = some (.iface 304 (.pointer (some (sa 1)))) ∧ w.cell? ⟨4, 0, none⟩ = some (.iface 304 (.pointer (some (sa 2)))) ∧
    w.cell? ⟨8, 0, none⟩ = some (.iface 304 (.pointer (some (sa 3)))) ∧ w.cell? ⟨2, 0, none⟩ = some (.iface 304 (.pointer (some (sa 4)))) ∧ w.cell? ⟨9, 0, none⟩ = some (.iface 304 (.pointer (some (sa 5)))) ∧
    w.cell? ⟨6, 0, none⟩ = some (.iface 304 (.pointer (some (sa 6)))) ∧ w.cell? ⟨5, 0, none⟩ = some (.iface 304 (.pointer (some (sa 7)))) ∧ w.cell? ⟨1, 0, none⟩ = some (.iface 304 (.pointer (some (sa 8)))) ∧
    w.cell? ⟨0, 0, none⟩ = some (.iface 304 (.pointer (some (sa 9)))) ∧ w.cell? ⟨10, 0, none⟩ = some (.iface 304 (.pointer (some (sa 10)))) :=
  ⟨h.gl 0 (by decide), h.gl 1 (by decide), h.gl 2 (by decide), h.gl 3 (by decide), h.gl 4 (by decide), h.gl 5 (by decide), h.gl 6 (by decide), h.gl 7 (by decide), h.gl 8 (by decide), h.gl 9 (by decide), h.gl 10 (by decide)⟩

/-- The four that package ring and its cells name. -/
structure SentsR (B : Nat) (sa : Nat → Addr) (w : World) : Prop where
  g1 : w.cell? ⟨3, 0, none⟩ = some (.iface 304 (.pointer (some (sa 1))))
  g2 : w.cell? ⟨4, 0, none⟩ = some (.iface 304 (.pointer (some (sa 2))))
  g6 : w.cell? ⟨6, 0, none⟩ = some (.iface 304 (.pointer (some (sa 6))))
  g7 : w.cell? ⟨5, 0, none⟩ = some (.iface 304 (.pointer (some (sa 7))))
  nb : 3 < B ∧ 4 < B ∧ 6 < B ∧ 5 < B
  top : B ≤ w.heap.size
theorem Sents.r {B : Nat} {sa : Nat → Addr} {w : World} (h : Sents B sa w) : SentsR B sa w :=
  ⟨h.gl 1 (by decide), h.gl 2 (by decide), h.gl 6 (by decide), h.gl 7 (by decide), ⟨h.nb.1 1 (by decide), h.nb.1 2 (by decide), h.nb.1 6 (by decide), h.nb.1 7 (by decide)⟩, h.top⟩
instance {B : Nat} {sa : Nat → Addr} {w : World} : Coe (Sents B sa w) (SentsR B sa w) := ⟨Sents.r⟩
theorem SentsR.keep {B : Nat} {sa : Nat → Addr} {S : Nat → Prop} {w w' : World} (h : SentsR B sa w) (k : Keep S w w') (hS : ∀ b, S b → B ≤ b) : SentsR B sa w' := by
  have ht := h.top
  obtain ⟨n1, n2, n6, n7⟩ := h.nb
  refine ⟨?_, ?_, ?_, ?_, h.nb, Nat.le_trans ht k.size⟩
  · rw [k.cell (p := ⟨3, 0, none⟩) (by show 3 < _; omega) (fun x => by have : B ≤ 3 := hS _ x; omega)]; exact h.g1
  · rw [k.cell (p := ⟨4, 0, none⟩) (by show 4 < _; omega) (fun x => by have : B ≤ 4 := hS _ x; omega)]; exact h.g2
  · rw [k.cell (p := ⟨6, 0, none⟩) (by show 6 < _; omega) (fun x => by have : B ≤ 6 := hS _ x; omega)]; exact h.g6
  · rw [k.cell (p := ⟨5, 0, none⟩) (by show 5 < _; omega) (fun x => by have : B ≤ 5 := hS _ x; omega)]; exact h.g7
theorem SentsR.below {B : Nat} {sa : Nat → Addr} {w w' : World} (h : SentsR B sa w) (b : Below w.heap.size w w') : SentsR B sa w' := h.keep (below_keep b) (fun _ h => h.elim)
theorem SentsR.low {B C : Nat} {sa : Nat → Addr} {w w' : World} (h : SentsR B sa w) (b : Below C w w') (hC : B ≤ C) : SentsR B sa w' := h.keep (Keep.of_below b) (fun k hk => Nat.le_trans hC hk)
theorem SentsR.mk' {sa : Nat → Addr} {w : World} (h1 : w.cell? ⟨3, 0, none⟩ = some (errv sa 2)) (h2 : w.cell? ⟨4, 0, none⟩ = some (errv sa 3)) (h6 : w.cell? ⟨6, 0, none⟩ = some (errv sa 7)) (h7 : w.cell? ⟨5, 0, none⟩ = some (errv sa 8)) : SentsR w.heap.size sa w :=
  ⟨h1, h2, h6, h7, ⟨World.block_lt_of_cell? _ ⟨3, 0, none⟩ h1, World.block_lt_of_cell? _ ⟨4, 0, none⟩ h2, World.block_lt_of_cell? _ ⟨6, 0, none⟩ h6, World.block_lt_of_cell? _ ⟨5, 0, none⟩ h7⟩, Nat.le_refl _⟩

def sentCs (sa : Nat → Addr) : Array Value := #[.iface 304 (.pointer (some (sa 0))), .iface 304 (.pointer (some (sa 1))), .iface 304 (.pointer (some (sa 2))), .iface 304 (.pointer (some (sa 3))), .iface 304 (.pointer (some (sa 4))), .iface 304 (.pointer (some (sa 5))), .iface 304 (.pointer (some (sa 6))), .iface 304 (.pointer (some (sa 7))), .iface 304 (.pointer (some (sa 8))), .iface 304 (.pointer (some (sa 9))), .iface 304 (.pointer (some (sa 10)))]
theorem sent_cells {w : World} {b : Nat} {sa : Nat → Addr} {t : TypeId} (h : w.heap[b]? = some (.cells (sentCs sa) t)) (j : Nat) (hj : j < 11) : w.cell? ⟨b, j, none⟩ = some (.iface 304 (.pointer (some (sa j)))) := by
  unfold sentCs at h
  match j, hj with
  | 0, _ | 1, _ | 2, _ | 3, _ | 4, _ | 5, _ | 6, _ | 7, _ | 8, _ | 9, _ | 10, _ => simp [World.cell?, h]

theorem code_nil (w : World) : Calls Tryd.prog 57 #[.nilIface] w fun e w' => e = .returned (.tuple #[.int .i64 0, .int .i64 (-1)]) ∧ w = w' := by
  go_enter Tryd.func57, Tryd.ntmps57
  go_wp2
  go_ret2
  exact ⟨rfl, rfl⟩

set_option maxRecDepth 100000 in
set_option maxHeartbeats 4000000 in
theorem code_sent (B : Nat) (sa : Nat → Addr) (k : Nat) (hk : k < 11) (w : World) (hS : Sents B sa w) :
    Calls Tryd.prog 57 #[.iface 304 (.pointer (some (sa k)))] w fun e w' => e = .returned (.tuple #[.int .i64 (k + 1), .int .i64 (-1)]) ∧ Below w.heap.size w w' := by
  have HS := Lib.hid hS
  have et := hS.et
  have hnb := hS.nb
  have htop := hS.top
  clear hS
  go_enter Tryd.func57, Tryd.ntmps57
  go_wp2_with fail
  have b0 : Below w.heap.size w (w.alloc (.cells #[.pointer none] 136)) := (Below.refl _ _).alloc (Nat.le_refl _) _
  have hS0 := HS.out.below b0
  refine (as_miss _ _ _ hS0.et).mono ?_
  rintro e w1 ⟨rfl, b1⟩
  have b1' : Below w.heap.size w w1 := b0.trans (b1.mono b0.size)
  have hS1 := hS0.below b1
  have H1 := Lib.hid hS1
  have B1 := Lib.hid b1'
  obtain ⟨g0, g1, g2, g3, g4, g5, g6, g7, g8, g9, g10⟩ := hS1.all
  clear b0 hS0 b1 b1' hS1 et
  go_wp2_with fail
  have b2 : Below w.heap.size w (w1.alloc (.cells (sentCs sa) 44)) := B1.out.alloc B1.out.size _
  have hS2 := H1.out.below ((Below.refl _ w1).alloc (Nat.le_refl _) (.cells (sentCs sa) 44))
  have hc := sent_cells (get_alloc_new w1 (.cells (sentCs sa) 44))
  unfold sentCs at b2 hS2 hc
  generalize w1.alloc _ = w2 at b2 hS2 hc ⊢
  have H2 := Lib.hid hS2
  have HC := Lib.hid hc
  clear hS2 hc g0 g1 g2 g3 g4 g5 g6 g7 g8 g9 g10 H1 B1
  go_loop [3, 29] (fun s3 s => ∃ j : Nat, j ≤ k ∧ s = .int .i64 j ∧ s3 = .int .i64 (-1)) (fun _ s => 11 - (intOf s).toNat)
  case atStart => exact ⟨0, Nat.zero_le _, rfl, rfl⟩
  case round =>
    obtain ⟨j, hj, rfl, rfl⟩ := hrel
    have q := HC.out j (by omega)
    by_cases hjk : j = k
    · subst hjk
      go_wp2_with fail
      refine (is_same _ _).mono ?_
      rintro e w' ⟨rfl, rfl⟩
      go_wp2_with fail
      go_ret2
      exact ⟨rfl, b2⟩
    · have hlt : j < k := by omega
      obtain ⟨_, ca, ta, ha⟩ := H2.out.bl k hk
      obtain ⟨_, cb, tb, hb⟩ := H2.out.bl j (by omega)
      have hne := H2.out.nd k j hk (by omega) (by omega)
      have HA := Lib.hid ha
      have HB := Lib.hid hb
      have HN := Lib.hid hne
      clear ha hb hne
      go_wp2_with fail
      refine (is_other _ _ ca cb ta tb _ HN.out HA.out HB.out).mono ?_
      rintro e w' ⟨rfl, rfl⟩
      go_wp2_with fail
      go_round
      case rel => exact ⟨j + 1, by omega, by go_num, rfl⟩
      case measure => simp [intOf]; omega

theorem code_any (B : Nat) (sa : Nat → Addr) (c : Nat) (hc : c ≤ 11) (w : World) (hS : Sents B sa w) :
    Calls Tryd.prog 57 #[errv sa c] w fun e w' => e = .returned (.tuple #[.int .i64 c, .int .i64 (-1)]) ∧ Below w.heap.size w w' := by
  cases c with
  | zero =>
    refine (code_nil w).mono ?_
    rintro e w' ⟨rfl, rfl⟩
    exact ⟨rfl, Below.refl _ _⟩
  | succ k => exact code_sent B sa k (by omega) w hS
theorem coded1_any (B : Nat) (sa : Nat → Addr) (c : Nat) (hc : c ≤ 11) (d : Int) (w : World) (hS : Sents B sa w) :
    Calls Tryd.prog 40 #[errv sa c, .int .i64 d] w fun e w' => e = .returned (.bool (decide ((c : Int) = d))) ∧ Below w.heap.size w w' := by
  have HS := Lib.hid hS
  clear hS
  go_enter Tryd.func40, Tryd.ntmps40
  go_wp2_with fail
  refine (code_any B sa c hc w HS.out).mono ?_
  rintro e w' ⟨rfl, b1⟩
  by_cases h : (c : Int) = d
  · have hb : ((c : Int) == d) = true := by simp [h]
    have HH := Lib.hid h
    clear h
    go_wp2_with fail
    go_ret
    exact ⟨ret_bool (by simp [HH.out]), b1⟩
  · have hb : ((c : Int) == d) = false := by simp [h]
    have HH := Lib.hid h
    clear h
    go_wp2_with fail
    go_ret
    exact ⟨ret_bool (by simp [HH.out]), b1⟩
theorem coded2_any (B : Nat) (sa : Nat → Addr) (c : Nat) (hc : c ≤ 11) (d : Int) (w : World) (hS : Sents B sa w) :
    Calls Tryd.prog 15 #[errv sa c, .int .i64 d] w fun e w' => e = .returned (.bool (decide ((c : Int) = d))) ∧ Below w.heap.size w w' := by
  have HS := Lib.hid hS
  clear hS
  go_enter Tryd.func15, Tryd.ntmps15
  go_wp2_with fail
  refine (code_any B sa c hc w HS.out).mono ?_
  rintro e w' ⟨rfl, b1⟩
  by_cases h : (c : Int) = d
  · have hb : ((c : Int) == d) = true := by simp [h]
    have HH := Lib.hid h
    clear h
    go_wp2_with fail
    go_ret
    exact ⟨ret_bool (by simp [HH.out]), b1⟩
  · have hb : ((c : Int) == d) = false := by simp [h]
    have HH := Lib.hid h
    clear h
    go_wp2_with fail
    go_ret
    exact ⟨ret_bool (by simp [HH.out]), b1⟩
end Go.Proofs.YtkhcepdeppmofaaDoor

/- The six sentinels that package conf names. -/
namespace Go.Proofs.YtkhcepdeppmofaaDoor
open Go.RowKit
set_option linter.unusedVariables false

structure SentsC (B : Nat) (sa : Nat → Addr) (w : World) : Prop where
  gl : ∀ k, k < 6 → w.cell? ⟨sg k, 0, none⟩ = some (errv sa (k + 1))
  nb : ∀ k, k < 6 → sg k < B
  top : B ≤ w.heap.size
theorem Sents.c {B : Nat} {sa : Nat → Addr} {w : World} (h : Sents B sa w) : SentsC B sa w := ⟨fun k hk => h.gl k (by omega), fun k hk => h.nb.1 k (by omega), h.top⟩
theorem SentsC.keep {B : Nat} {sa : Nat → Addr} {S : Nat → Prop} {w w' : World} (h : SentsC B sa w) (k : Keep S w w') (hS : ∀ b, S b → B ≤ b) : SentsC B sa w' := by
  have ht := h.top
  refine ⟨fun i hi => ?_, h.nb, Nat.le_trans ht k.size⟩
  have hn := h.nb i hi
  rw [k.cell (p := ⟨sg i, 0, none⟩) (show sg i < w.heap.size by omega) (fun x => by have := hS _ x; simp only at this; omega)]
  exact h.gl i hi
theorem SentsC.below {B : Nat} {sa : Nat → Addr} {w w' : World} (h : SentsC B sa w) (b : Below w.heap.size w w') : SentsC B sa w' := h.keep (below_keep b) (fun _ h => h.elim)
theorem SentsC.low {B C : Nat} {sa : Nat → Addr} {w w' : World} (h : SentsC B sa w) (b : Below C w w') (hC : B ≤ C) : SentsC B sa w' := h.keep (Keep.of_below b) (fun k hk => Nat.le_trans hC hk)
theorem SentsC.on {B : Nat} {sa : Nat → Addr} {w w' : World} (h : SentsC B sa w) (b : Below w.heap.size w w') : SentsC B sa w' := h.low b h.top
theorem SentsC.all {B : Nat} {sa : Nat → Addr} {w : World} (h : SentsC B sa w) :
    w.cell? ⟨7, 0, none⟩ = some (.iface 304 (.pointer (some (sa 0)))) ∧ w.cell? ⟨3, 0, none⟩ = some (.iface 304 (.pointer (some (sa 1)))) ∧ w.cell? ⟨4, 0, none⟩ = some (.iface 304 (.pointer (some (sa 2)))) ∧
    w.cell? ⟨8, 0, none⟩ = some (.iface 304 (.pointer (some (sa 3)))) ∧ w.cell? ⟨2, 0, none⟩ = some (.iface 304 (.pointer (some (sa 4)))) ∧ w.cell? ⟨9, 0, none⟩ = some (.iface 304 (.pointer (some (sa 5)))) :=
  ⟨h.gl 0 (by decide), h.gl 1 (by decide), h.gl 2 (by decide), h.gl 3 (by decide), h.gl 4 (by decide), h.gl 5 (by decide)⟩
end Go.Proofs.YtkhcepdeppmofaaDoor
