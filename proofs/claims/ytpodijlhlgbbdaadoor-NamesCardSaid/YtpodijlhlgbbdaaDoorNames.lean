/- Names: the numbers of package api, and those of its errors. -/
import Derived.Test.YtpodijlhlgbbdaaDoorSame
import Derived.Test.YtpodijlhlgbbdaaDoorFaults2
namespace Go.Proofs.YtpodijlhlgbbdaaDoor
open Go.RowKit Go.Extern.Stop Go.Stop Go.Extern
set_option linter.unusedVariables false

set_option maxRecDepth 100000 in
set_option maxHeartbeats 4000000 in
/-- plain.Code of an error that is none of package api's. -/
theorem code_new (B : Nat) (sa : Nat → Addr) (a : Addr) (ca : Array Value) (ta : TypeId) (w : World) (hS : Sents B sa w) (ha : w.heap[a.block]? = some (.cells ca ta (0, 0))) (hB : B ≤ a.block) :
    Calls Tryd.prog 30 #[.iface 101 (.pointer (some a))] w fun e w' => e = .returned (.tuple #[.int .i64 (-1), .int .i64 (-1)]) ∧ Below w.heap.size w w' := by
  have HS := Lib.hid hS
  have et := hS.et
  have hnb := hS.nb
  have htop := hS.top
  have hal := lt_of_get ha
  have HA0 := Lib.hid ha
  clear hS ha
  go_enter Tryd.func30, Tryd.ntmps30
  go_wp2_with fail
  have b0 : Below w.heap.size w (w.alloc (.cells #[.pointer none] 66)) := (Below.refl _ _).alloc (Nat.le_refl _) _
  have hS0 := HS.out.below b0
  refine (as_miss _ _ _ hS0.et).mono ?_
  rintro e w1 ⟨rfl, b1⟩
  have b1' : Below w.heap.size w w1 := b0.trans (b1.mono b0.size)
  have hS1 := hS0.below b1
  have H1 := Lib.hid hS1
  have B1 := Lib.hid b1'
  obtain ⟨g0, g1, g2, g3, g4, g5, g6, g7, g8, g9, g10⟩ := hS1.all
  clear b0 hS0 b1 b1' hS1 et
  go_wp2_with fail
  have b2 : Below w.heap.size w (w1.alloc (.cells (sentCs sa) 26)) := B1.out.alloc B1.out.size _
  have hS2 := H1.out.below ((Below.refl _ w1).alloc (Nat.le_refl _) (.cells (sentCs sa) 26))
  have hc := sent_cells (get_alloc_new w1 (.cells (sentCs sa) 26))
  have ha2 := below_get b2 HA0.out hal
  unfold sentCs at b2 hS2 hc ha2
  generalize w1.alloc _ = w2 at b2 hS2 hc ha2 ⊢
  have H2 := Lib.hid hS2
  have HC := Lib.hid hc
  have HA := Lib.hid ha2
  clear hS2 hc ha2 g0 g1 g2 g3 g4 g5 g6 g7 g8 g9 g10 H1 B1 HA0
  go_loop [3, 29] (fun s3 s => ∃ j : Nat, j ≤ 11 ∧ s = .int .i64 j ∧ s3 = .int .i64 (-1)) (fun _ s => 11 - (intOf s).toNat)
  case atStart => exact ⟨0, Nat.zero_le _, rfl, rfl⟩
  case round =>
    obtain ⟨j, hj, rfl, rfl⟩ := hrel
    by_cases hlt : j < 11
    · have q := HC.out j hlt
      obtain ⟨hbl, cb, tb, hb⟩ := H2.out.bl j hlt
      have hne : a ≠ sa j := fun e => by rw [e] at hB; omega
      have HB := Lib.hid hb
      have HN := Lib.hid hne
      clear hb hne hbl
      go_wp2_with fail
      refine (is_other _ _ ca cb ta tb _ HN.out HA.out HB.out).mono ?_
      rintro e w' ⟨rfl, rfl⟩
      go_wp2_with fail
      go_round
      case rel => exact ⟨j + 1, by omega, by go_num, rfl⟩
      case measure => simp [intOf]; omega
    · obtain rfl : j = 11 := by omega
      go_wp2_with fail
      go_ret2
      exact ⟨rfl, b2⟩

theorem errNew_any (s : ByteArray) (w : World) :
    Calls Tryd.prog 32 #[.string s] w fun e w' => e = .returned (.iface 101 (.pointer (some ⟨w.heap.size, 0, none⟩))) ∧ w' = w.alloc (.cells #[.string s] 103) := by
  go_enter Tryd.func32, Tryd.ntmps32
  go_wp2_with fail
  go_ret
  exact ⟨rfl, rfl⟩
def nameL : List Int := [4096, 8, 17, 1099511627776, 1000, 100, 20, 20, 1000, 8, 16, 8, 64, 12, 8000, 3000, 100, 16, 1, 2, 3]
set_option maxRecDepth 100000 in
set_option maxHeartbeats 4000000 in
theorem names_any (B : Nat) (sa : Nat → Addr) (w : World) (hS : Sents B sa w) :
    Calls Tryd.prog 8 #[] w fun e w' => e = .returned (.bool true) ∧ Below w.heap.size w w' := by
  have HS := Lib.hid hS
  have hB := hS.top
  clear hS
  go_enter Tryd.func8, Tryd.ntmps8
  go_wp2_with fail
  have b2 : Below w.heap.size w ((w.alloc (.cells (intCells nameL).toArray 3)).alloc (.cells (intCells nameL).toArray 3)) := ((Below.refl _ _).alloc (Nat.le_refl _) _).alloc (by simp) _
  have s1 := (slOf_alloc w (intCells nameL) 3 1 21 rfl (by decide)).below ((Below.refl _ (w.alloc (.cells (intCells nameL).toArray 3))).alloc (Nat.le_refl _) (.cells (intCells nameL).toArray 3)) (fun b hb => by simp; omega)
  have s2 := slOf_alloc (w.alloc (.cells (intCells nameL).toArray 3)) (intCells nameL) 3 1 21 rfl (by decide)
  rw [World.size_alloc] at s2
  refine (sameInts_any (fun _ => True) nameL nameL _ _ ((w.alloc (.cells (intCells nameL).toArray 3)).alloc (.cells (intCells nameL).toArray 3)) (s1.mono (fun _ _ => trivial)) (s2.mono (fun _ _ => trivial)) (by decide) (by decide)).mono ?_
  rintro e w2 ⟨rfl, q, rfl⟩
  rw [decide_eq_true rfl]
  clear s1 s2
  have b3 := below_drewN' q b2
  generalize World.drewN _ _ = w2 at b3 ⊢
  have H2 := Lib.hid (HS.out.below b3)
  have B2 := Lib.hid b3
  clear b2 b3
  obtain ⟨g0, g1, g2, g3, g4, g5, g6, g7, g8, g9, g10⟩ := H2.out.all
  go_wp2_with fail
  have b4 : Below w.heap.size w (w2.alloc (.cells (sentCs sa) 26)) := B2.out.alloc B2.out.size _
  have hS4 := H2.out.below ((Below.refl _ w2).alloc (Nat.le_refl _) (.cells (sentCs sa) 26))
  have hc := get_alloc_new w2 (.cells (sentCs sa) 26)
  clear g0 g1 g2 g3 g4 g5 g6 g7 g8 g9 g10 H2 B2
  have HC0 : Hid ((w2.alloc (.cells (sentCs sa) 26)).heap[w2.heap.size]? = some (.cells (sentCs sa) 26)) := hc
  have HB0 := Lib.hid b4
  have HS0 := Lib.hid hS4
  clear hc b4 hS4
  have hcf : ∀ (W : World) (eb : Nat), W.heap[eb]? = some (.cells (sentCs sa) 26) → ∀ j, j < 11 → W.cell? ⟨eb, j, none⟩ = some (.iface 101 (.pointer (some (sa j)))) := fun W eb h j hj => sent_cells h j hj
  have HCF := Lib.hid hcf
  clear hcf
  have hwe : (w2.alloc (.cells (sentCs sa) 26)) = (w2.alloc (.cells (sentCs sa) 26)) := rfl
  conv at hwe => rhs; unfold sentCs
  rw [← hwe]
  clear hwe
  generalize w2.alloc _ = w3 at HC0 HB0 HS0 ⊢
  generalize w2.heap.size = eb at HC0 ⊢
  go_loopw [4] (fun s wr => ∃ i : Nat, i ≤ 11 ∧ s = .int .i64 i ∧ Hid (wr.heap[eb]? = some (.cells (sentCs sa) 26)) ∧ Hid (Below w.heap.size w wr) ∧ Hid (Sents B sa wr)) (fun s _ => 11 - (intOf s).toNat)
  case atStart => exact ⟨0, Nat.zero_le _, rfl, HC0, HB0, HS0⟩
  case round =>
    obtain ⟨i, hi, rfl, hc, hb, hs⟩ := hrel
    clear HC0 HB0 HS0
    by_cases hlt : i < 11
    · have q := HCF.out wr eb hc.out i hlt
      have heb := lt_of_get hc.out
      have hF : FaultAt (wr.alloc (.cells #[.int .i64 7, .iface 101 (.pointer (some (sa i)))] 68)) wr.heap.size 7 (errv sa (i + 1)) := get_alloc_new _ _
      have bA := (Below.refl wr.heap.size wr).alloc (Nat.le_refl _) (.cells #[.int .i64 7, .iface 101 (.pointer (some (sa i)))] 68)
      have HF := Lib.hid hF
      have HS1 := Lib.hid (hs.out.below bA)
      have HB1 := Lib.hid (hb.out.trans (bA.mono hb.out.size))
      have HC1 := Lib.hid (below_get bA hc.out heb)
      clear hF bA hc hb hs
      go_wp2_with fail
      generalize wr.alloc _ = w4 at HF HS1 HB1 HC1 ⊢
      refine (code_fault B sa i hlt _ 7 w4 HS1.out HF.out).mono ?_
      rintro e w5 ⟨rfl, b5⟩
      have HS2 := Lib.hid (HS1.out.below b5)
      have HC2 := Lib.hid (below_get b5 HC1.out (lt_of_get HC1.out))
      have HB2 := Lib.hid (HB1.out.trans (b5.mono HB1.out.size))
      have q2 := HCF.out w5 eb HC2.out i hlt
      clear b5 HS1 HB1 HC1 HF q
      go_wp2_with fail
      refine (coded1_any B sa (i + 1) (by omega) _ w5 HS2.out).mono ?_
      rintro e w6 ⟨rfl, b6⟩
      rw [decide_eq_true (by omega)]
      have HS3 := Lib.hid (HS2.out.below b6)
      have HC3 := Lib.hid (below_get b6 HC2.out (lt_of_get HC2.out))
      have HB3 := Lib.hid (HB2.out.trans (b6.mono HB2.out.size))
      clear b6 HS2 HC2 HB2 q2
      go_wp2_with fail
      go_roundw
      case rel => exact ⟨i + 1, by omega, by go_num, HC3, HB3, HS3⟩
      case measure => simp [intOf]; omega
    · obtain rfl : i = 11 := by omega
      have hA := get_alloc_new wr (.cells #[.string ⟨#[97, 110, 111, 116, 104, 101, 114, 32, 111, 110, 101]⟩] 103)
      have bA := (Below.refl wr.heap.size wr).alloc (Nat.le_refl _) (.cells #[.string ⟨#[97, 110, 111, 116, 104, 101, 114, 32, 111, 110, 101]⟩] 103)
      have HA := Lib.hid hA
      have HS1 := Lib.hid (hs.out.below bA)
      have HB1 := Lib.hid (hb.out.trans (bA.mono hb.out.size))
      have hsz := hs.out.top
      clear hA bA hc hb hs
      go_wp2_with fail
      refine (errNew_any _ wr).mono ?_
      rintro e w4 ⟨rfl, rfl⟩
      go_wp2_with fail
      generalize wr.alloc _ = w4 at HA HS1 HB1 ⊢
      refine (code_new B sa ⟨wr.heap.size, 0, none⟩ _ _ w4 HS1.out HA.out hsz).mono ?_
      rintro e w5 ⟨rfl, b5⟩
      have HS2 := Lib.hid (HS1.out.below b5)
      have HB2 := Lib.hid (HB1.out.trans (b5.mono HB1.out.size))
      clear b5 HS1 HB1 HA
      go_wp2_with fail
      refine (coded1_any B sa 0 (by decide) 0 w5 HS2.out).mono ?_
      rintro e w6 ⟨rfl, b6⟩
      rw [show decide (((0 : Nat) : Int) = 0) = true from by decide]
      have HB3 := Lib.hid (HB2.out.trans (b6.mono HB2.out.size))
      clear b6 HS2 HB2
      go_wp2_with fail
      go_ret
      exact ⟨rfl, HB3.out⟩
end Go.Proofs.YtpodijlhlgbbdaaDoor
