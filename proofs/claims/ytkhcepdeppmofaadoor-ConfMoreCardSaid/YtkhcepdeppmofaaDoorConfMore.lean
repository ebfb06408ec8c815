/- ConfMore walked. -/
import Derived.Test.YtkhcepdeppmofaaDoorConfMoreL
import Derived.Test.YtkhcepdeppmofaaDoorConfL
import Derived.Test.YtkhcepdeppmofaaDoorTold
namespace Go.Proofs.YtkhcepdeppmofaaDoor
open Go.RowKit
set_option linter.unusedVariables false

theorem EntSl.none (R : Nat → Prop) (w : World) (nm : ByteArray) (t : Int) : EntSl R w (moreE nm t) (.slice none 0 0) (.slice none 0 0) (.slice none 0 0) (.slice none 0 0) (.slice none 0 0) :=
  ⟨SlOf.nil _ _ _, SlOf.nil _ _ _, SlOf.nil _ _ _, SlOf.nil _ _ _, SlOf.nil _ _ _⟩
def moreX (nm : ByteArray) (t : Int) : EntX := ⟨moreE nm t, .slice none 0 0, .slice none 0 0, .slice none 0 0, .slice none 0 0, .slice none 0 0⟩
/-- Behind the append onto the row of the config 'more', which lies at mb. -/
theorem more_ents {base : Nat} {w5 w6 w7 : World} {v v1 : Value} {Y : List EntX} (h : OwnX base w5 v Y) (nm : ByteArray) (t : Int) (hb : Below w5.heap.size w5 w6) (hsz : w5.heap.size < w6.heap.size)
    (ho : OwnAt w7 base 27 10 v1 (Y.length + 1) (Y.flatMap entXCells ++ entXCells (moreX nm t))) (hg : w6.grownBy w7 v.ownBlock) (hn : v1.ownBlock = v.ownBlock ∨ ∀ b, v1.ownBlock = some b → w6.heap.size ≤ b) :
    EntsSl (fun b => b ≠ w5.heap.size) w7 v1 (Y ++ [moreX nm t]) := by
  refine ⟨?_, fun z hz => ?_⟩
  · have e1 : (Y ++ [moreX nm t]).length = Y.length + 1 := by simp
    rw [e1, List.flatMap_append, List.flatMap_singleton]
    refine ho.slOf.mono (fun b hb => ?_)
    rcases hn with hn | hn
    · have := (h.row.lt b (by rw [← hn]; exact hb.2)).2
      omega
    · have := hn b hb.2
      omega
  · rcases List.mem_append.1 hz with hz | hz
    · have hz1 := (h.each z hz).imp (S := fun b => (base ≤ b ∧ v.ownBlock ≠ some b) ∧ b < w5.heap.size) (fun b hb hl => ⟨hb, hl⟩)
      have hz2 := hz1.keep (Keep.of_below hb) (fun b hb => by omega)
      have hz3 := hz2.keep (Keep.of_grown hg) (fun b hb (h : some b = v.ownBlock) => hb.1.2 h.symm)
      exact hz3.imp (fun b hb _ => by have := hb.2; omega)
    · obtain rfl := List.mem_singleton.1 hz
      exact EntSl.none _ _ _ _
/-- Behind the store of the longer row into 'more'. -/
structure MoreSt (w : World) (C : ConfV) (vX : Value) (mb : Nat) (v1 : Value) (Z : List EntX) (nm : ByteArray) (t : Int) (w9 : World) : Prop where
  ents : EntsSl (fun b => b ≠ mb ∧ b < w9.heap.size) w9 v1 (Z ++ [moreX nm t])
  box : w9.heap[w.heap.size]? = some (.cells (confCs C vX) 72)
  more : w9.heap[mb]? = some (.cells (confCs C v1) 72)
  below : Below w.heap.size w w9
theorem more_st {base : Nat} {w w6 wA w8 : World} {C : ConfV} {vX v v1 : Value} {Z : List EntX} (nm : ByteArray) (t : Int) (hB6 : Below w.heap.size w w6) (hX6 : w6.heap[w.heap.size]? = some (.cells (confCs C vX) 72)) (hZ : OwnX base w6 v Z) (hbase : w.heap.size < base)
    (hAm : wA.heap[w6.heap.size]? = some (.cells (confCs C v) 72)) (hA : Below w6.heap.size w6 wA)
    (ho : OwnAt w8 base 27 10 v1 (Z.length + 1) (Z.flatMap entXCells ++ entXCells (moreX nm t))) (hg : wA.grownBy w8 v.ownBlock) (hn : v1.ownBlock = v.ownBlock ∨ ∀ b, v1.ownBlock = some b → wA.heap.size ≤ b) :
    MoreSt w C vX w6.heap.size v1 Z nm t (w8.setCell ⟨w6.heap.size, 4, none⟩ v1) ∧ (∃ c, w8.cell? ⟨w6.heap.size, 4, none⟩ = some c) ∧ ∀ o, w8.frozen? ⟨w6.heap.size, o, none⟩ = false := by
  have hl := lt_of_get hAm
  have he := more_ents hZ nm t hA hl ho hg hn
  have kg := Keep.of_grown hg
  have hm8 := kg.get hAm (fun hh => by have := (hZ.row.lt _ hh.symm).2; omega)
  have hx8 := kg.get (below_get hA hX6 (lt_of_get hX6)) (fun hh => by have := (hZ.row.lt _ hh.symm).1; omega)
  have kv := keep_set w8 w6.heap.size 4 v1
  have hs6 := lt_of_get hX6
  have hb8 : Below w.heap.size w w8 := (hB6.trans (hA.mono (Nat.le_of_lt hs6))).trans (kg.below (Nat.le_trans (Nat.le_of_lt hs6) hA.size) (fun b hb => by have := (hZ.row.lt b (Eq.symm hb)).1; omega))
  refine ⟨⟨⟨?_, ?_⟩, kv.get hx8 (by omega), ?_, hb8.trans (kv.below hb8.size (by intro j hj; omega))⟩, ⟨v, by simp [World.cell?, hm8, confCs]⟩, fun o => by simp [World.frozen?, hm8]⟩
  · obtain ⟨hl, ao, cap, hv, h1, h2, h3, h4⟩ := he.row.keep kv (fun b hb => hb)
    refine ⟨hl, ao, cap, hv, h1, h2, h3, fun hp => ?_⟩
    obtain ⟨b, off, ha, hR, hb, hc⟩ := h4 hp
    exact ⟨b, off, ha, ⟨hR, hb⟩, hb, hc⟩
  · intro z hz
    exact ((he.each z hz).keep kv (fun b hb => hb)).imp (fun b hb hl => ⟨hb, hl⟩)
  · rw [get_setCell _ hm8]
    rfl
theorem small_of {X Y : List EntX} (he : Y.map EntX.E = X.map EntX.E) (hH : ¬ HeavyC X) : ∀ y ∈ Y, EntSmall y.E := by
  intro y hy
  have : y.E ∈ X.map EntX.E := by rw [← he]; exact List.mem_map_of_mem hy
  obtain ⟨x, hx, hxe⟩ := List.mem_map.1 this
  have hl := light_of (fun hh => hH (.inr ⟨x, hx, hh⟩))
  rw [hxe] at hl
  obtain ⟨l1, l2, l3, l4, l5⟩ := hl
  exact ⟨by omega, by omega, by omega, by omega, by omega⟩
theorem len_of {X Y : List EntX} (he : Y.map EntX.E = X.map EntX.E) : Y.length = X.length := by
  have := congrArg List.length he
  simpa using this

set_option maxRecDepth 100000 in
set_option maxHeartbeats 8000000 in
theorem confMore_any (B : Nat) (sa : Nat → Addr) (R : Nat → Prop) (C : ConfV) (v : Value) (X : List EntX) (nm : ByteArray) (t : Int) (w : World) (hS : Sents B sa w) (hT : TabB w.heap.size w) (h : EntsSl R w v X) (hE : C.ents = X.map EntX.E) (hR : ∀ b, R b → b < w.heap.size) :
    Calls Tryd.prog 5 #[.agg (confCs C v), .string nm, .int .i64 t] w fun e w' => e = .returned (.bool true) ∧ Below w.heap.size w w' := by
  obtain ⟨ao, cap, rfl⟩ := h.row.val
  obtain ⟨hc1, hc2⟩ := h.row.capB
  have H := Lib.hid h
  have HRw := Lib.hid hR
  have HS := Lib.hid hS
  have HCE := Lib.hid hE
  have hxa := get_alloc_new w (.cells (confCs C (.slice ao X.length cap)) 72)
  have hba : Below w.heap.size w (w.alloc (.cells (confCs C (.slice ao X.length cap)) 72)) := (Below.refl _ _).alloc (Nat.le_refl _) _
  have HTo := Lib.hid (fun W (hB : Below w.heap.size w W) => told_any B sa W (hS.low hB hS.top).c (fun W' hW' => hT W' (hB.trans (hW'.mono hB.size))))
  clear h hR hS hE hT
  unfold confCs at hxa hba ⊢
  go_enter Tryd.func5, Tryd.ntmps5
  go_upto_region 1 with fail
  generalize w.alloc _ = w1 at hxa hba ⊢
  have HXA : Hid (w1.heap[w.heap.size]? = some (.cells (confCs C (.slice ao X.length cap)) 72)) := hxa
  clear hxa
  go_wp2_with fail
  refine (HTo.out w1 hba).mono ?_
  rintro e w2 ⟨rfl, b2⟩
  have HX2 := Lib.hid (below_get b2 HXA.out (lt_of_get HXA.out))
  have HB2 := Lib.hid (hba.trans (b2.mono hba.size))
  clear hba b2 HXA HTo
  obtain ⟨c0, c1, c2, c3, c4⟩ := conf_cells HX2.out
  have HHv := Lib.hid (heavyConfig_any R C (.slice ao X.length cap) X w2 (H.out.keep (Keep.of_below HB2.out) (fun b hb hS => by have := HRw.out b hb; omega)) (below_lt2 HRw.out HB2.out))
  unfold confCs at HHv
  by_cases hH : HeavyC X
  · rw [heavyCN_pos hH] at HHv
    go_wp2_with fail
    refine HHv.out.mono ?_
    rintro e w3 ⟨rfl, b3⟩
    go_wp2_with fail
    go_ret
    exact ⟨rfl, HB2.out.trans (b3.mono HB2.out.size)⟩
  rw [heavyCN_neg hH] at HHv
  have HH := Lib.hid hH
  have HB2s := HB2.out.size
  clear hH
  by_cases h60 : (60 : Int) < (nm.size : Int)
  · go_wp2_with fail
    refine HHv.out.mono ?_
    rintro e w3 ⟨rfl, b3⟩
    go_wp2_with fail
    go_ret
    exact ⟨rfl, HB2.out.trans (b3.mono HB2.out.size)⟩
  go_upto_region 4 with fail
  refine HHv.out.mono ?_
  rintro e w3 ⟨rfl, b3⟩
  have HX3 := Lib.hid (below_get b3 HX2.out (lt_of_get HX2.out))
  have HB3 := Lib.hid (HB2.out.trans (b3.mono HB2.out.size))
  clear b3 HX2 HB2 HHv c0 c1 c2 c3 c4 HB2s
  obtain ⟨c0, c1, c2, c3, c4⟩ := conf_cells HX3.out
  have HOw := Lib.hid (ownConfig_any R C (.slice ao X.length cap) X w3 (H.out.keep (Keep.of_below HB3.out) (fun b hb hS => by have := HRw.out b hb; omega)) (below_lt2 HRw.out HB3.out) HH.out)
  unfold confCs at HOw
  go_wp2_with fail
  refine HOw.out.mono ?_
  rintro e w4 ⟨a4, k4, Y, rfl, hYe, hY, b4⟩
  have HX4 := Lib.hid (below_get b4 HX3.out (lt_of_get HX3.out))
  have HB4 := Lib.hid (HB3.out.trans (b4.mono HB3.out.size))
  have HCk := Lib.hid (check_any B sa (fun b => w3.heap.size ≤ b ∧ b < w4.heap.size) C (.slice a4 Y.length k4) Y w4 (HS.out.low HB4.out HS.out.top).c ⟨hY.ents, by rw [HCE.out, hYe], small_of hYe HH.out, by have := len_of hYe; have := Nat.le_of_not_lt (fun hh => HH.out (.inl hh)); omega⟩ (fun b hb => hb.2))
  unfold confCs at HCk
  clear b4 HX3 HB3 HOw c0 c1 c2 c3 c4 hY hYe
  go_wp2_with fail
  refine HCk.out.mono ?_
  rintro e w5 ⟨u, rfl, hu, b5⟩
  have HX5 := Lib.hid (below_get b5 HX4.out (lt_of_get HX4.out))
  have HB5 := Lib.hid (HB4.out.trans (b5.mono HB4.out.size))
  clear b5 HX4 HB4 HCk
  by_cases hC : confF C = (0, -1)
  case neg =>
    rcases hu with ⟨h1, h2⟩ | ⟨h1, h2, fb, h3, h4⟩
    · obtain ⟨k, hk⟩ : ∃ k, (confF C).1 = k + 1 := by
        cases hf : (confF C).1 with
        | zero => exact absurd (Prod.ext hf h1) hC
        | succ k => exact ⟨k, rfl⟩
      rw [hk, errv_succ] at h2
      subst h2
      clear h1 hk hC
      go_wp2_with fail
      go_ret
      exact ⟨rfl, HB5.out⟩
    · subst h3
      clear h1 h2 h4 hC
      go_wp2_with fail
      go_ret
      exact ⟨rfl, HB5.out⟩
  have hu0 : u = .nilIface := by
    rw [hC] at hu
    rcases hu with ⟨_, hu⟩ | ⟨hu, _⟩
    · exact hu
    · exact absurd hu (by decide)
  subst hu0
  have HC := Lib.hid hC
  clear hu hC
  obtain ⟨c0, c1, c2, c3, c4⟩ := conf_cells HX5.out
  have HOw := Lib.hid (ownConfig_any R C (.slice ao X.length cap) X w5 (H.out.keep (Keep.of_below HB5.out) (fun b hb hS => by have := HRw.out b hb; omega)) (below_lt2 HRw.out HB5.out) HH.out)
  unfold confCs at HOw
  go_wp2_with fail
  refine HOw.out.mono ?_
  rintro e w6 ⟨a6, k6, Z, rfl, hZe, hZ, b6⟩
  have HX6 := Lib.hid (below_get b6 HX5.out (lt_of_get HX5.out))
  have HB6 := Lib.hid (HB5.out.trans (b6.mono HB5.out.size))
  have HZ := Lib.hid hZ
  have HB5s := Lib.hid (lt_of_get HX5.out)
  have HB56 := Lib.hid b6.size
  have HZe := Lib.hid hZe
  have HZl := Lib.hid (len_of hZe)
  clear b6 HX5 HB5 HOw c0 c1 c2 c3 c4 hZ hZe
  go_upto_region 7 with fail
  obtain ⟨i0, hi0, hz0, hz1, hz2⟩ := info_parts Tryd.infoEnt
  have hL12 : Z.length ≤ 12 := by have := HZl.out; have := Nat.le_of_not_lt (fun hh => HH.out (.inl hh)); omega
  have hxm := get_alloc_new w6 (.cells (confCs C (.slice a6 Z.length k6)) 72)
  have hbm : Below w6.heap.size w6 (w6.alloc (.cells (confCs C (.slice a6 Z.length k6)) 72)) := (Below.refl _ _).alloc (Nat.le_refl _) _
  unfold confCs at hxm hbm
  generalize w6.alloc _ = w7 at hxm hbm ⊢
  have HXM : Hid (w7.heap[w6.heap.size]? = some (.cells (confCs C (.slice a6 Z.length k6)) 72)) := hxm
  have HNX : Hid (∀ (o : Obj) (w8 : World) (a2 : Option Addr) (k2 : Nat), OwnAt w8 w5.heap.size 27 10 (.slice a2 (Z.length + 1) k2) (Z.length + 1) (Z.flatMap entXCells ++ entXCells (moreX nm t)) → (w7.alloc o).grownBy w8 (Value.slice a6 Z.length k6).ownBlock → ((Value.slice a2 (Z.length + 1) k2).ownBlock = (Value.slice a6 Z.length k6).ownBlock ∨ ∀ b, (Value.slice a2 (Z.length + 1) k2).ownBlock = some b → (w7.alloc o).heap.size ≤ b) →
      MoreSt w C (.slice ao X.length cap) w6.heap.size (.slice a2 (Z.length + 1) k2) Z nm t (w8.setCell ⟨w6.heap.size, 4, none⟩ (.slice a2 (Z.length + 1) k2)) ∧ (∃ c, w8.cell? ⟨w6.heap.size, 4, none⟩ = some c) ∧ ∀ o, w8.frozen? ⟨w6.heap.size, o, none⟩ = false) := (show _ from by
    intro o w8 a2 k2 ho hg hn
    exact more_st nm t HB6.out HX6.out HZ.out HB5s.out (get_alloc_old _ HXM.out) (hbm.alloc hbm.size _) ho hg hn)
  have HOW : Hid (∀ o, OwnAt (w7.alloc o) w5.heap.size 27 10 (.slice a6 Z.length k6) Z.length (Z.flatMap entXCells) ∧ w5.heap.size ≤ (w7.alloc o).heap.size) := (show _ from fun o => ⟨(HZ.out.later hbm).row.later ((Below.refl _ _).alloc (Nat.le_refl _) _), by rw [World.size_alloc]; have := hbm.size; have := HB56.out; omega⟩)
  have h63 : Hid (Z.length + 1 ≤ maxLen) := (show Z.length + 1 ≤ maxLen from by unfold maxLen; omega)
  have hby : Hid ((Z.length + 1) * 168 ≤ 140737488355328) := (show (Z.length + 1) * 168 ≤ 140737488355328 from by omega)
  have hmlt := lt_of_get hxm
  obtain ⟨mb, hmb⟩ : ∃ mb, mb = w6.heap.size := ⟨_, rfl⟩
  rw [← hmb] at HNX hxm hmlt ⊢
  obtain ⟨d0, d1, d2, d3, d4⟩ := conf_cells hxm
  clear hmb HXM hbm HX6 HB6 HB5s HB56 HZ
  go_upto_region 8 with (at_builtin; go_must (refine wpList_append_off rfl (.tmp 34) (.tmp 38) 32 rfl w5.heap.size 27 i0 _ 10 168 Tryd.underlying32 hi0 hz0 hz1 hz2 rfl (by decide) _ Z.length _ rfl (HOW.out _).1 ⟨w7.heap.size, 0, none⟩ 1 1 (entXCells (moreX nm t)) rfl rfl (new_cells _ (entXCells (moreX nm t)) _) (by intro u hu; simp [entXCells, moreX, moreE, entCs] at hu; rcases hu with rfl | rfl | rfl | rfl | rfl | rfl | rfl | rfl | rfl | rfl <;> rfl) h63.out hby.out (HOW.out _).2 ?_; intro a2 k2 w8 ho hg hn; obtain ⟨nx, ⟨c9, hc9⟩, hf9⟩ := HNX.out _ w8 a2 k2 ho hg hn; clear ho hg hn HNX HOW d0 d1 d2 d3 d4 hxm hmlt; have NX := Lib.hid nx; clear nx))
  generalize w8.setCell _ _ = w9 at NX ⊢
  obtain ⟨c0, c1, c2, c3, c4⟩ := conf_cells NX.out.box
  obtain ⟨d0, d1, d2, d3, d4⟩ := conf_cells NX.out.more
  have HZX := Lib.hid (show (Z ++ [moreX nm t]).length = Z.length + 1 from by simp)
  have HCk := Lib.hid (check_any B sa (fun b => b ≠ mb ∧ b < w9.heap.size) (addE C (moreE nm t)) (.slice a2 (Z.length + 1) k2) (Z ++ [moreX nm t]) w9 (HS.out.low NX.out.below HS.out.top).c ⟨NX.out.ents, by
      show C.ents ++ [moreE nm t] = _
      rw [List.map_append, HCE.out, ← HZe.out]; rfl, fun x hx => by
      rcases List.mem_append.1 hx with hx | hx
      · exact small_of HZe.out HH.out x hx
      · obtain rfl := List.mem_singleton.1 hx
        exact ⟨Nat.zero_le _, Nat.zero_le _, Nat.zero_le _, Nat.zero_le _, Nat.zero_le _⟩, by rw [HZX.out]; omega⟩ (fun b hb => hb.2))
  have HCk : Hid (Calls Tryd.prog 38 #[.agg (confCs C (.slice a2 (Z.length + 1) k2))] w9 fun e w' => ∃ u, e = .returned u ∧ ErrIs sa w' u (confF (addE C (moreE nm t))) ∧ Below w9.heap.size w9 w') := HCk
  unfold confCs at HCk
  go_wp2_with fail
  refine HCk.out.mono ?_
  rintro e w10 ⟨u, rfl, hu, b10⟩
  have HX10 := Lib.hid (below_get b10 NX.out.box (lt_of_get NX.out.box))
  have HS10 := Lib.hid (HS.out.low (NX.out.below.trans (b10.mono NX.out.below.size)) HS.out.top)
  have HB10 := Lib.hid (NX.out.below.trans (b10.mono NX.out.below.size))
  have HU := Lib.hid hu
  have HCl := Lib.hid (show C.ents.length = X.length from by rw [HCE.out, List.length_map])
  have HX12 := Lib.hid (show X.length ≤ 12 from by have := HZl.out; omega)
  clear b10 NX c0 c1 c2 c3 c4 d0 d1 d2 d3 d4 hu HCk hc9 hf9 h63 hby HZe HZl HZX hL12
  obtain ⟨c0, c1, c2, c3, c4⟩ := conf_cells HX10.out
  by_cases h8 : (X.length : Int) = 8
  · have hf : confF (addE C (moreE nm t)) = (2, -1) := confF_full _ (by rw [HCl.out]; omega)
    have hu := HU.out
    rw [hf] at hu
    rcases hu with ⟨_, hu⟩ | ⟨hu, _⟩
    case inr => exact absurd hu (by decide)
    have e8 : ((X.length : Int) == 8) = true := by rw [h8]; rfl
    have HCd := Lib.hid (coded1_any B sa 2 (by decide) 2 w10 HS10.out)
    clear hf HU h8
    subst hu
    go_wp2_with fail
    refine HCd.out.mono ?_
    rintro e w11 ⟨rfl, b11⟩
    go_wp2_with fail
    go_ret
    exact ⟨rfl, HB10.out.trans (b11.mono HB10.out.size)⟩
  have e8 : ((X.length : Int) == 8) = false := by simp only [beq_eq_false_iff_ne]; exact h8
  have H8 := Lib.hid (show C.ents.length ≠ 8 from by rw [HCl.out]; omega)
  clear h8
  go_wp2_with fail
  go_loop [11] (fun s => ∃ i : Nat, i ≤ X.length ∧ s = .int .i64 i ∧ Hid (∀ j (hj : j < X.length), j < i → X[j].E.name.toList ≠ nm.toList)) (fun s => X.length - (intOf s).toNat)
  case atStart => exact ⟨0, Nat.zero_le _, rfl, fun j hj h => by omega⟩
  case round =>
    obtain ⟨i, hi, rfl, hall⟩ := hrel
    have HFa := Lib.hid (show ∀ k : Nat, 0 < k → k ≤ 11 → confF (addE C (moreE nm t)) = (k, (C.ents.length : Int)) → Calls Tryd.prog 41 #[u, .agg #[.int .i64 k, .int .i64 X.length]] w10 (fun e w' => e = .returned (.bool true) ∧ Below w10.heap.size w10 w') from by
      intro k h0 hk hf
      have hu := HU.out
      rw [hf] at hu
      refine (faulted_any B sa u (k, (C.ents.length : Int)) hk k X.length w10 HS10.out hu).mono ?_
      rintro e w' ⟨rfl, hb⟩
      refine ⟨?_, hb⟩
      rw [show faultB (k, (C.ents.length : Int)) k X.length = true from decide_eq_true ⟨rfl, .inr (by show ((C.ents.length : Nat) : Int) = _; rw [HCl.out])⟩])
    by_cases hlt : i < X.length
    · obtain ⟨b, off, rfl, hRb, hb, hc⟩ := ent_elem H.out.row (by omega)
      obtain ⟨q0, _⟩ := hc i hlt
      rw [← HB10.out.cell (HRw.out b hRb)] at q0
      clear hc
      by_cases hnm : X[i].E.name.toList = nm.toList
      · have he : (X[i].E.name.toList == nm.toList) = true := by simp [hnm]
        have HF := Lib.hid (HFa.out 6 (by decide) (by decide) (more_there HC.out H8.out (i := i) (by rw [HCl.out]; exact hlt) t (by simp only [HCE.out, List.getElem_map]; exact hnm)))
        clear hnm
        go_wp2_with fail
        refine HF.out.mono ?_
        rintro e w11 ⟨rfl, b11⟩
        go_wp2_with fail
        go_ret
        exact ⟨rfl, HB10.out.trans (b11.mono HB10.out.size)⟩
      · have he : (X[i].E.name.toList == nm.toList) = false := by simp only [beq_eq_false_iff_ne]; exact hnm
        have HNM := Lib.hid hnm
        clear hnm
        go_wp2_with fail
        go_round
        case rel =>
          refine ⟨i + 1, by omega, by go_num, fun j hj h => ?_⟩
          by_cases hje : j = i
          · subst hje; exact HNM.out
          · exact hall.out j hj (by omega)
        case measure => simp [intOf]; omega
    · have HNO : Hid (∀ j (hj : j < C.ents.length), C.ents[j].name.toList ≠ nm.toList) := (show _ from fun j hj => by
        have hj' : j < X.length := by rw [← HCl.out]; exact hj
        simp only [HCE.out, List.getElem_map]
        exact hall.out j hj' (by omega))
      have HIs := Lib.hid (isName_any nm w10)
      cases hnb : isNameB nm
      case false =>
        have HF := Lib.hid (HFa.out 4 (by decide) (by decide) (more_name HC.out H8.out t hnb))
        rw [hnb] at HIs
        clear hnb
        go_wp2_with fail
        refine HIs.out.mono ?_
        rintro e w11 ⟨rfl, rfl⟩
        go_wp2_with fail
        refine HF.out.mono ?_
        rintro e w12 ⟨rfl, b12⟩
        go_wp2_with fail
        go_ret
        exact ⟨rfl, HB10.out.trans (b12.mono HB10.out.size)⟩
      case true =>
        rw [hnb] at HIs
        have HNB := Lib.hid hnb
        clear hnb
        by_cases ht1 : t < 0
        · have HF := Lib.hid (HFa.out 2 (by decide) (by decide) (more_tol HC.out H8.out HNB.out HNO.out (.inl ht1)))
          go_wp2_with fail
          refine HIs.out.mono ?_
          rintro e w11 ⟨rfl, rfl⟩
          go_wp2_with fail
          refine HF.out.mono ?_
          rintro e w12 ⟨rfl, b12⟩
          go_wp2_with fail
          go_ret
          exact ⟨rfl, HB10.out.trans (b12.mono HB10.out.size)⟩
        by_cases ht2 : 20 < t
        · have HF := Lib.hid (HFa.out 2 (by decide) (by decide) (more_tol HC.out H8.out HNB.out HNO.out (.inr ht2)))
          go_wp2_with fail
          refine HIs.out.mono ?_
          rintro e w11 ⟨rfl, rfl⟩
          go_wp2_with fail
          refine HF.out.mono ?_
          rintro e w12 ⟨rfl, b12⟩
          go_wp2_with fail
          go_ret
          exact ⟨rfl, HB10.out.trans (b12.mono HB10.out.size)⟩
        have hf := more_fine HC.out H8.out HNB.out HNO.out (t := t) (by omega)
        have hu := HU.out
        rw [hf] at hu
        rcases hu with ⟨_, hu⟩ | ⟨hu, _⟩
        case inr => exact absurd hu (by decide)
        have hu2 : u = .nilIface := hu
        clear HFa HU hf hu
        subst hu2
        go_wp2_with fail
        refine HIs.out.mono ?_
        rintro e w11 ⟨rfl, rfl⟩
        go_wp2_with fail
        go_ret
        exact ⟨rfl, HB10.out⟩
end Go.Proofs.YtkhcepdeppmofaaDoor
