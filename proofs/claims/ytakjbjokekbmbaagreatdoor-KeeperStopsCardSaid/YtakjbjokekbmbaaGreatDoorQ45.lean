/- Package keeper: New, walked: of a right config whose text is not too long. -/
import Derived.Test.YtakjbjokekbmbaaGreatDoorQ36
import Derived.Test.YtakjbjokekbmbaaGreatDoorQ29
import Derived.Test.YtakjbjokekbmbaaGreatDoorQ31
import Derived.Test.YtakjbjokekbmbaaGreatDoorQ44
import Derived.Test.YtakjbjokekbmbaaGreatDoorQ25
import Derived.Test.YtakjbjokekbmbaaGreatDoorQ18
namespace Go.Proofs.YtakjbjokekbmbaaGreatDoor
open Go.RowKit
set_option linter.unusedVariables false

theorem size_arr (l : List UInt8) : (⟨l.toArray⟩ : ByteArray).size = l.length := by simp [ByteArray.size]
/-- The numbers at first. -/
def newO (kb d c rb a b : Nat) : Nat → Nat := fun k => if k = kb then 1 else if k = d then 2 else if k = c then 3 else if k = rb then 4 else if a ≤ k ∧ k < b then 8 else 0
theorem new_kpB {B : Nat} {sa : Nat → Addr} {w0 w w2 w3 w4 w5 : World} {c rb cap : Nat} {C : ConfV} {v : Value} {X : List EntX} {m : CM} {kb d : Nat} {D : DogM}
    (hS : SentsK B sa w) (bel : Below w0.heap.size w0 w) (hB : B ≤ w0.heap.size) (hm : CellsAt w c rb (some ⟨rb, 0, none⟩) cap m) (hc : w0.heap.size ≤ c ∧ w0.heap.size ≤ rb)
    (b2 : Below w.heap.size w w2) (hX : ConfSl (fun b => w2.heap.size ≤ b ∧ b < w3.heap.size) w3 C v X) (b3 : Below w2.heap.size w2 w3) (k4 : Keep (fun b => b < w2.heap.size) w3 w4) (bw : Below w.heap.size w w4) (hd : DogAt w5 d D) (hd4 : w4.heap.size ≤ d) (b5 : Below w4.heap.size w4 w5)
    (o : Obj) (hk : kb = w5.heap.size) :
    KpB B sa w0 kb c ⟨d, rb, cap, 0, 0, v, v, v, X, []⟩ C D m (newO kb d c rb w2.heap.size w3.heap.size) (w5.alloc o) ∧ Below w.heap.size w (w5.alloc o) := by
  have hcl := lt_of_get hm.box
  have hrl : rb < w.heap.size := by
    obtain ⟨C, t, hh, _⟩ := hm.row rfl
    exact lt_of_get hh
  have hdl := lt_of_get hd
  have s0 := bel.size
  have s2 := b2.size
  have s3 := b3.size
  have s4 := k4.size
  have s5 := b5.size
  have hne := hm.ne
  have hbo : Below w5.heap.size w5 (w5.alloc o) := (Below.refl _ _).alloc (Nat.le_refl _) _
  have hw5 : Below w.heap.size w w5 := bw.trans (b5.mono bw.size)
  have hw6 : Below w.heap.size w (w5.alloc o) := hw5.trans (hbo.mono hw5.size)
  have hsz : (w5.alloc o).heap.size = w5.heap.size + 1 := World.size_alloc _ _
  have n1 : newO kb d c rb w2.heap.size w3.heap.size kb = 1 := if_pos rfl
  have n2 : newO kb d c rb w2.heap.size w3.heap.size d = 2 := by unfold newO; rw [if_neg (by omega), if_pos rfl]
  have n3 : newO kb d c rb w2.heap.size w3.heap.size c = 3 := by unfold newO; rw [if_neg (by omega), if_neg (by omega), if_pos rfl]
  have n4 : newO kb d c rb w2.heap.size w3.heap.size rb = 4 := by unfold newO; rw [if_neg (by omega), if_neg (by omega), if_neg (by omega), if_pos rfl]
  refine ⟨⟨hS.below hw6, bel.trans (hw6.mono s0), hB, fun b hb => ?_, (below_keep hbo).get hd (fun h => h), hm.keep (below_keep hw6) (fun _ h => h.elim), ?_, hX.eq, n1, n2, n3, n4⟩, hw6⟩
  · unfold newO at hb
    repeat' split at hb
    all_goals omega
  · have e4 : EntsSl (fun b => w2.heap.size ≤ b ∧ b < w3.heap.size) w4 v X := hX.sl.keep k4 (fun b h1 h2 => by omega)
    have e5 : EntsSl (fun b => w2.heap.size ≤ b ∧ b < w3.heap.size) w5 v X := e4.keep (Keep.of_below b5) (fun b h1 h2 => by omega)
    have e6 : EntsSl (fun b => w2.heap.size ≤ b ∧ b < w3.heap.size) (w5.alloc o) v X := e5.keep (Keep.of_below hbo) (fun b h1 h2 => by omega)
    have hR : ∀ b, (w2.heap.size ≤ b ∧ b < w3.heap.size) → newO kb d c rb w2.heap.size w3.heap.size b = 8 := fun b hb => by
      unfold newO
      rw [if_neg (by omega), if_neg (by omega), if_neg (by omega), if_neg (by omega), if_pos hb]
    exact ⟨e6.row.mono hR, fun x hx => by have := e6.each x hx; exact ⟨this.p.mono hR, this.g.mono hR, this.e.mono hR, this.f.mono hR, this.l.mono hR⟩⟩
theorem conf_five {w : World} {b : Nat} {C C' : ConfV} {v v' : Value} (h : w.heap[b]? = some (.cells (confCs C v) 24)) :
    (((((w.setCell ⟨b, 0, none⟩ (.int .i64 C'.closed)).setCell ⟨b, 1, none⟩ (.int .i64 C'.opn)).setCell ⟨b, 2, none⟩ (.int .i64 C'.cycle)).setCell ⟨b, 3, none⟩ (.int .i64 C'.delay)).setCell ⟨b, 4, none⟩ v').heap[b]? = some (.cells (confCs C' v') 24) := by
  unfold confCs at h ⊢
  rw [get_setCell _ (get_setCell _ (get_setCell _ (get_setCell _ (get_setCell _ h))))]; rfl

set_option maxRecDepth 100000 in
set_option maxHeartbeats 4000000 in
theorem kpNew_any (B : Nat) (sa : Nat → Addr) (R : Nat → Prop) (C : ConfV) (v : Value) (X : List EntX) (w0 w : World) (c rb cap : Nat) (m : CM) (hS : SentsK B sa w) (hN : NumB B w) (hT : TabB w.heap.size w) (h : ConfSl R w C v X) (hR : ∀ b, R b → b < w.heap.size) (hC : confF C = (0, -1)) (h8 : (textB C).length ≤ 8000)
    (bel : Below w0.heap.size w0 w) (hB : B ≤ w0.heap.size) (hm : CellsAt w c rb (some ⟨rb, 0, none⟩) cap m) (hc : w0.heap.size ≤ c ∧ w0.heap.size ≤ rb) (hl : 153 ≤ m.bs.length) (ho : m.off = false) :
    Calls Tryz.prog 26 #[.agg (confCs C v), .pointer (some ⟨c, 0, none⟩)] w fun e w' => ∃ kb x o, e = .returned (.tuple #[.pointer (some ⟨kb, 0, none⟩), .nilIface]) ∧ KpIn B sa w0 kb c ⟨(textB C).toArray⟩ x (kpOpen C ⟨C.closed, C.opn, 0, 0, false, 0⟩ m) o w' ∧ (∀ b, b < w.heap.size → o b ≠ 0 → b = c ∨ b = rb) ∧ Keep (fun b => b = c ∨ b = rb) w w' := by
  obtain ⟨ao, cap', rfl⟩ := h.sl.row.val
  have hb := boundC_parts (confF_parts hC).1
  have hxa := get_alloc_new w (.cells (confCs C (.slice ao X.length cap')) 24)
  have hba : Below w.heap.size w (w.alloc (.cells (confCs C (.slice ao X.length cap')) 24)) := (Below.refl _ _).alloc (Nat.le_refl _) _
  have HTx := Lib.hid (fun W (hW : Below w.heap.size w W) => text_any B sa R C (.slice ao X.length cap') X W (hS.below hW).c (fun W' hW' => hT W' (hW.trans (hW'.mono hW.size))) (h.below hW hR) (fun b hb => Nat.lt_of_lt_of_le (hR b hb) hW.size) hC)
  have HS := Lib.hid hS
  have HN := Lib.hid hN
  have HC := Lib.hid hC
  have HB8 := Lib.hid h8
  have HM := Lib.hid (And.intro hm (And.intro hc (And.intro hl (And.intro ho (And.intro bel hB)))))
  obtain ⟨tt, htt⟩ : ∃ tt : ByteArray, tt = ⟨(textB C).toArray⟩ := ⟨_, rfl⟩
  have hsz : tt.size = (textB C).length := by rw [htt, size_arr]
  have HRd := Lib.hid (fun W (hW : Below w.heap.size w W) => read_any B sa tt W (hS.below hW).c (hN.below hW hS.top) (by omega) (fun k hk _ => ktxt_k hC k (by rw [← htt]; exact hk)))
  have hbk : readF tt = (C, (0, -1)) := by rw [htt]; exact back_law hC (by omega)
  rw [hbk] at HRd
  rw [← htt] at HTx ⊢
  have HTT := Lib.hid htt
  have HDN := Lib.hid (fun W => dogNew_in C.closed C.opn W (by omega) (by omega) (by omega) (by omega))
  clear hS hN hT h hR hC h8 bel hB hm hc hl ho hb hsz hbk htt
  unfold confCs at hxa hba HTx ⊢
  go_enter Tryz.func26, Tryz.ntmps26
  go_upto_region 1 with fail
  generalize w.alloc _ = w1 at hxa hba ⊢
  have hxa2 : w1.heap[w.heap.size]? = some (.cells (confCs C (.slice ao X.length cap')) 24) := hxa
  obtain ⟨c0, c1, c2, c3, c4⟩ := conf_cells hxa2
  have HXA := Lib.hid hxa2
  clear hxa hxa2
  go_wp2_with fail
  refine (HTx.out w1 hba).mono ?_
  rintro e w2 ⟨rfl, b2⟩
  have HX2 := Lib.hid (below_get b2 HXA.out (lt_of_get HXA.out))
  have HW2 := Lib.hid (hba.trans (b2.mono hba.size))
  have HQ2 := Lib.hid (lt_of_get HX2.out)
  clear c0 c1 c2 c3 c4 HTx HXA hba b2
  go_wp2_with fail
  refine (HRd.out w2 HW2.out).mono ?_
  unfold ReadPost
  rintro e w3 ⟨a9, n9, k9, u, X9, rfl, hu, hcs, -, b9⟩
  have hu0 : u = .nilIface := by
    rcases hu with ⟨_, hu⟩ | ⟨_, hc0, _⟩
    · rw [hu]; rfl
    · exact absurd hc0 (Nat.lt_irrefl 0)
  subst hu0
  have HCS := Lib.hid (hcs rfl)
  have hx3 := below_get b9 HX2.out (lt_of_get HX2.out)
  obtain ⟨c0, c1, c2, c3, c4⟩ := conf_cells hx3
  have cf : ∀ f, w3.frozen? ⟨w.heap.size, f, none⟩ = false := fun f => by simp [World.frozen?, hx3]
  have HX4 := Lib.hid (conf_five (C' := C) (v' := .slice a9 n9 k9) hx3)
  have HK4 := Lib.hid (five_keep w3 w.heap.size (.int .i64 C.closed) (.int .i64 C.opn) (.int .i64 C.cycle) (.int .i64 C.delay) (.slice a9 n9 k9))
  have HB9 := Lib.hid b9
  clear hu hcs b9 hx3 HRd
  unfold confCs
  go_upto_region 5 with fail
  generalize World.setCell _ _ _ = w4 at HX4 HK4 ⊢
  have HX4 : Hid (w4.heap[w.heap.size]? = some (.cells (confCs C (.slice a9 n9 k9)) 24)) := HX4
  obtain ⟨d0, d1, d2, d3, d4⟩ := conf_cells HX4.out
  clear c0 c1 c2 c3 c4 cf HX2
  go_wp2_with fail
  refine (HDN.out w4).mono ?_
  rintro e w5 ⟨rfl, g5, b5⟩
  have hx5 := below_get b5 HX4.out (lt_of_get HX4.out)
  obtain ⟨e0, e1, e2, e3, e4⟩ := conf_cells hx5
  have HG5 := Lib.hid g5
  have HB5 := Lib.hid b5
  clear d0 d1 d2 d3 d4 hx5 g5 b5 HX4
  go_upto_region 11 with fail
  have hw3 := HW2.out.trans (HB9.out.mono HW2.out.size)
  have hw4 := hw3.trans (HK4.out.below hw3.size (fun b hb => Nat.le_of_eq hb.symm))
  obtain ⟨p1, p2⟩ := new_kpB HS.out HM.out.2.2.2.2.1 HM.out.2.2.2.2.2 HM.out.1 HM.out.2.1 HW2.out HCS.out HB9.out (HK4.out.mono (fun b _ e => by rw [e]; exact HQ2.out)) hw4 HG5.out (Nat.le_refl _) HB5.out (kpC w4.heap.size C (.slice a9 n9 k9) c (.pointer none) (.slice none 0 0) (.pointer none) tt) rfl
  have hbx := get_alloc_new w5 (kpC w4.heap.size C (.slice a9 n9 k9) c (.pointer none) (.slice none 0 0) (.pointer none) tt)
  have HOp := Lib.hid (kpOpen_any p1 hbx (confF_parts HC.out).1 HM.out.2.2.1 HM.out.2.2.2.1)
  have hz : w.heap.size ≤ w2.heap.size := HW2.out.size
  have hz5 : w.heap.size ≤ w5.heap.size := Nat.le_trans hw4.size HB5.out.size
  have HP2 := Lib.hid p2
  have HZ := Lib.hid (And.intro hz (And.intro hz5 hw4.size))
  unfold kpC at HOp HP2
  clear hw3 hw4 p1 p2 hbx hz hz5 e0 e1 e2 e3 e4 HX4 HK4 HG5 HB5
  generalize w5.alloc _ = w6 at HOp HP2 ⊢
  go_wp2_with fail
  refine HOp.out.mono ?_
  rintro e w7 ⟨rfl, x', o', z1, z2⟩
  have hz := HZ.out
  have Z1 := Lib.hid z1
  have hkk : Keep (fun b => b = c ∨ b = rb) w w7 := ((below_keep HP2.out).mono (fun _ _ h => h.elim)).step z2.kp (fun b hb hl => by
    unfold newO at hb
    repeat' split at hb
    all_goals omega)
  have hoo : ∀ b, b < w.heap.size → o' b ≠ 0 → b = c ∨ b = rb := fun b hl hb => by
    rw [z2.agree b (Nat.lt_of_lt_of_le hl HP2.out.size)] at hb
    unfold newO at hb
    repeat' split at hb
    all_goals omega
  have HK := Lib.hid (And.intro hoo hkk)
  clear z1 z2 hkk hoo hz HOp
  go_wp2_with fail
  go_ret2
  exact ⟨_, x', o', rfl, Z1.out, HK.out.1, HK.out.2⟩
end Go.Proofs.YtakjbjokekbmbaaGreatDoor

/- The document's ConfigFault. -/
namespace Go.Proofs.YtakjbjokekbmbaaGreatDoor
open Go.RowKit
set_option linter.unusedVariables false

theorem two_keep (w : World) (q : Nat) (a b : Value) : Keep (· = q) w ((w.setCell ⟨q, 0, none⟩ a).setCell ⟨q, 1, none⟩ b) := keep_more (keep_set _ _ _ _) _ _
theorem below_two {w w1 : World} {q : Nat} (h : Below w.heap.size w w1) (hq : w.heap.size ≤ q) (a b : Value) : Below w.heap.size w ((w1.setCell ⟨q, 0, none⟩ a).setCell ⟨q, 1, none⟩ b) :=
  h.trans ((two_keep w1 q a b).below h.size (fun k hk => by omega))
theorem rBare_any (n : Int) (w : World) : Calls Tryz.prog 28 #[.int .i64 n] w fun e w' => e = .returned (.agg #[.int .i64 n, .int .i64 (-1)]) ∧ Below w.heap.size w w' := by
  have hxa := get_alloc_new w (.cells #[.int .i64 0, .int .i64 0] 29)
  have hba : Below w.heap.size w (w.alloc (.cells #[.int .i64 0, .int .i64 0] 29)) := (Below.refl _ _).alloc (Nat.le_refl _) _
  go_enter Tryz.func28, Tryz.ntmps28
  go_upto_region 1 with fail
  generalize w.alloc _ = w1 at hxa hba ⊢
  obtain ⟨z0, z1, zf⟩ := two_cells hxa
  clear hxa
  go_wp2_with fail
  refine bodyPost_ret (v := .agg #[.int .i64 n, .int .i64 (-1)]) (by simp [results, Tryz.results28, go_sem, z0, z1, World.cell?_setCell_same, World.cell?_setCell_other]) rfl ?_
  exact ⟨rfl, below_two hba (Nat.le_refl _) _ _⟩
theorem rFine_any (w : World) : Calls Tryz.prog 30 #[] w fun e w' => e = .returned (.agg #[.int .i64 0, .int .i64 (-1)]) ∧ Below w.heap.size w w' := by
  have hxa := get_alloc_new w (.cells #[.int .i64 0, .int .i64 0] 29)
  have hba : Below w.heap.size w (w.alloc (.cells #[.int .i64 0, .int .i64 0] 29)) := (Below.refl _ _).alloc (Nat.le_refl _) _
  go_enter Tryz.func30, Tryz.ntmps30
  go_upto_region 1 with fail
  generalize w.alloc _ = w1 at hxa hba ⊢
  obtain ⟨z0, z1, zf⟩ := two_cells hxa
  clear hxa
  go_wp2_with fail
  refine bodyPost_ret (v := .agg #[.int .i64 0, .int .i64 (-1)]) (by simp [results, Tryz.results30, go_sem, z0, z1, World.cell?_setCell_same, World.cell?_setCell_other]) rfl ?_
  exact ⟨rfl, below_two hba (Nat.le_refl _) _ _⟩
def faultV (f : Nat × Int) : Value := .agg #[.int .i64 f.1, .int .i64 f.2]
theorem faultV_of {f : Nat × Int} {c : Nat} {i : Int} (h : f = (c, i)) : Ending.returned (.agg #[.int .i64 (c : Int), .int .i64 i]) = .returned (faultV f) := by rw [h]; rfl
set_option maxRecDepth 100000 in
set_option maxHeartbeats 4000000 in
theorem rConfigFault_any (R : Nat → Prop) (C : ConfV) (v : Value) (X : List EntX) (w : World) (h : ConfSl R w C v X) (hR : ∀ b, R b → b < w.heap.size) :
    Calls Tryz.prog 7 #[.agg (confCs C v)] w fun e w' => e = .returned (faultV (confF C)) ∧ Below w.heap.size w w' := by
  obtain ⟨ao, cap, rfl⟩ := h.sl.row.val
  obtain ⟨hc1, hc2⟩ := h.sl.row.capB
  have hlen : C.ents.length = X.length := by rw [h.eq, List.length_map]
  have hXl := h.len
  have H := Lib.hid h
  have HRw := Lib.hid hR
  have hxa := get_alloc_new w (.cells (confCs C (.slice ao X.length cap)) 24)
  have hba : Below w.heap.size w (w.alloc (.cells (confCs C (.slice ao X.length cap)) 24)) := (Below.refl _ _).alloc (Nat.le_refl _) _
  obtain ⟨w1, hw1⟩ : ∃ w1, w1 = w.alloc (.cells (confCs C (.slice ao X.length cap)) 24) := ⟨_, rfl⟩
  rw [← hw1] at hxa hba
  have hxr := get_alloc_new w1 (.cells #[.int .i64 0, .int .i64 0] 29)
  have hbr : Below w1.heap.size w1 (w1.alloc (.cells #[.int .i64 0, .int .i64 0] 29)) := (Below.refl _ _).alloc (Nat.le_refl _) _
  have hsz1 : w1.heap.size = w.heap.size + 1 := by rw [hw1]; simp
  clear h hR
  unfold confCs at hw1 ⊢
  go_enter Tryz.func7, Tryz.ntmps7
  go_upto_region 1 with fail
  rw [← hw1]
  generalize w1.alloc _ = w2 at hxr hbr ⊢
  rw [hsz1] at hxr
  obtain ⟨rb, hrb⟩ : ∃ rb, rb = w.heap.size + 1 := ⟨_, rfl⟩
  have HQ := Lib.hid (show w.heap.size ≤ rb from by omega)
  have hne : ¬ rb = w.heap.size := by omega
  rw [← hrb] at hxr ⊢
  have HX2 := Lib.hid hxr
  have HXA := Lib.hid (below_get hbr hxa (lt_of_get hxa))
  have HB2 := Lib.hid (hba.trans (hbr.mono hba.size))
  obtain ⟨c0, c1, c2, c3, c4⟩ := conf_cells HXA.out
  have HBr := Lib.hid (rBare_any 2 w2)
  clear hxa hba hxr hbr hrb hw1 hsz1
  by_cases h1 : C.closed < 0
  · have HT := Lib.hid (show confF C = (2, -1) from if_pos (decide_eq_true (by omega)))
    go_wp2_with fail
    refine HBr.out.mono ?_
    rintro e w3 ⟨rfl, b3⟩
    have hx3 := below_get b3 HX2.out (lt_of_get HX2.out)
    obtain ⟨z0, z1, zf⟩ := two_cells hx3
    clear hx3
    go_wp2_with fail
    refine bodyPost_ret (v := .agg #[.int .i64 2, .int .i64 (-1)]) (by simp [results, Tryz.results7, go_sem, z0, z1, World.cell?_setCell_same, World.cell?_setCell_other]) rfl ?_
    exact ⟨faultV_of HT.out, below_two (HB2.out.trans (b3.mono HB2.out.size)) HQ.out _ _⟩
  by_cases h2 : 1000 < C.closed
  · have HT := Lib.hid (show confF C = (2, -1) from if_pos (decide_eq_true (by omega)))
    go_wp2_with fail
    refine HBr.out.mono ?_
    rintro e w3 ⟨rfl, b3⟩
    have hx3 := below_get b3 HX2.out (lt_of_get HX2.out)
    obtain ⟨z0, z1, zf⟩ := two_cells hx3
    clear hx3
    go_wp2_with fail
    refine bodyPost_ret (v := .agg #[.int .i64 2, .int .i64 (-1)]) (by simp [results, Tryz.results7, go_sem, z0, z1, World.cell?_setCell_same, World.cell?_setCell_other]) rfl ?_
    exact ⟨faultV_of HT.out, below_two (HB2.out.trans (b3.mono HB2.out.size)) HQ.out _ _⟩
  by_cases h3 : C.opn < 1
  · have HT := Lib.hid (show confF C = (2, -1) from if_pos (decide_eq_true (by omega)))
    go_wp2_with fail
    refine HBr.out.mono ?_
    rintro e w3 ⟨rfl, b3⟩
    have hx3 := below_get b3 HX2.out (lt_of_get HX2.out)
    obtain ⟨z0, z1, zf⟩ := two_cells hx3
    clear hx3
    go_wp2_with fail
    refine bodyPost_ret (v := .agg #[.int .i64 2, .int .i64 (-1)]) (by simp [results, Tryz.results7, go_sem, z0, z1, World.cell?_setCell_same, World.cell?_setCell_other]) rfl ?_
    exact ⟨faultV_of HT.out, below_two (HB2.out.trans (b3.mono HB2.out.size)) HQ.out _ _⟩
  by_cases h4 : 1000 < C.opn
  · have HT := Lib.hid (show confF C = (2, -1) from if_pos (decide_eq_true (by omega)))
    go_wp2_with fail
    refine HBr.out.mono ?_
    rintro e w3 ⟨rfl, b3⟩
    have hx3 := below_get b3 HX2.out (lt_of_get HX2.out)
    obtain ⟨z0, z1, zf⟩ := two_cells hx3
    clear hx3
    go_wp2_with fail
    refine bodyPost_ret (v := .agg #[.int .i64 2, .int .i64 (-1)]) (by simp [results, Tryz.results7, go_sem, z0, z1, World.cell?_setCell_same, World.cell?_setCell_other]) rfl ?_
    exact ⟨faultV_of HT.out, below_two (HB2.out.trans (b3.mono HB2.out.size)) HQ.out _ _⟩
  by_cases h5 : C.cycle < 1
  · have HT := Lib.hid (show confF C = (2, -1) from if_pos (decide_eq_true (by omega)))
    go_wp2_with fail
    refine HBr.out.mono ?_
    rintro e w3 ⟨rfl, b3⟩
    have hx3 := below_get b3 HX2.out (lt_of_get HX2.out)
    obtain ⟨z0, z1, zf⟩ := two_cells hx3
    clear hx3
    go_wp2_with fail
    refine bodyPost_ret (v := .agg #[.int .i64 2, .int .i64 (-1)]) (by simp [results, Tryz.results7, go_sem, z0, z1, World.cell?_setCell_same, World.cell?_setCell_other]) rfl ?_
    exact ⟨faultV_of HT.out, below_two (HB2.out.trans (b3.mono HB2.out.size)) HQ.out _ _⟩
  by_cases h6 : 100 < C.cycle
  · have HT := Lib.hid (show confF C = (2, -1) from if_pos (decide_eq_true (by omega)))
    go_wp2_with fail
    refine HBr.out.mono ?_
    rintro e w3 ⟨rfl, b3⟩
    have hx3 := below_get b3 HX2.out (lt_of_get HX2.out)
    obtain ⟨z0, z1, zf⟩ := two_cells hx3
    clear hx3
    go_wp2_with fail
    refine bodyPost_ret (v := .agg #[.int .i64 2, .int .i64 (-1)]) (by simp [results, Tryz.results7, go_sem, z0, z1, World.cell?_setCell_same, World.cell?_setCell_other]) rfl ?_
    exact ⟨faultV_of HT.out, below_two (HB2.out.trans (b3.mono HB2.out.size)) HQ.out _ _⟩
  by_cases h7 : C.delay < 0
  · have HT := Lib.hid (show confF C = (2, -1) from if_pos (decide_eq_true (by omega)))
    go_wp2_with fail
    refine HBr.out.mono ?_
    rintro e w3 ⟨rfl, b3⟩
    have hx3 := below_get b3 HX2.out (lt_of_get HX2.out)
    obtain ⟨z0, z1, zf⟩ := two_cells hx3
    clear hx3
    go_wp2_with fail
    refine bodyPost_ret (v := .agg #[.int .i64 2, .int .i64 (-1)]) (by simp [results, Tryz.results7, go_sem, z0, z1, World.cell?_setCell_same, World.cell?_setCell_other]) rfl ?_
    exact ⟨faultV_of HT.out, below_two (HB2.out.trans (b3.mono HB2.out.size)) HQ.out _ _⟩
  by_cases h8 : 20 < C.delay
  · have HT := Lib.hid (show confF C = (2, -1) from if_pos (decide_eq_true (by omega)))
    go_wp2_with fail
    refine HBr.out.mono ?_
    rintro e w3 ⟨rfl, b3⟩
    have hx3 := below_get b3 HX2.out (lt_of_get HX2.out)
    obtain ⟨z0, z1, zf⟩ := two_cells hx3
    clear hx3
    go_wp2_with fail
    refine bodyPost_ret (v := .agg #[.int .i64 2, .int .i64 (-1)]) (by simp [results, Tryz.results7, go_sem, z0, z1, World.cell?_setCell_same, World.cell?_setCell_other]) rfl ?_
    exact ⟨faultV_of HT.out, below_two (HB2.out.trans (b3.mono HB2.out.size)) HQ.out _ _⟩
  by_cases h9 : (8 : Int) < (X.length : Int)
  · have HT := Lib.hid (show confF C = (2, -1) from if_pos (decide_eq_true (by omega)))
    go_wp2_with fail
    refine HBr.out.mono ?_
    rintro e w3 ⟨rfl, b3⟩
    have hx3 := below_get b3 HX2.out (lt_of_get HX2.out)
    obtain ⟨z0, z1, zf⟩ := two_cells hx3
    clear hx3
    go_wp2_with fail
    refine bodyPost_ret (v := .agg #[.int .i64 2, .int .i64 (-1)]) (by simp [results, Tryz.results7, go_sem, z0, z1, World.cell?_setCell_same, World.cell?_setCell_other]) rfl ?_
    exact ⟨faultV_of HT.out, below_two (HB2.out.trans (b3.mono HB2.out.size)) HQ.out _ _⟩
  have hbd : boundC C = false := decide_eq_false (by omega)
  clear HBr
  by_cases hcy : C.opn < C.cycle
  · have HT := Lib.hid (show confF C = (3, -1) from by unfold confF; rw [if_neg (by rw [hbd]; decide), if_pos hcy])
    have HBr := Lib.hid (rBare_any 3 w2)
    clear hbd
    go_wp2_with fail
    refine HBr.out.mono ?_
    rintro e w3 ⟨rfl, b3⟩
    have hx3 := below_get b3 HX2.out (lt_of_get HX2.out)
    obtain ⟨z0, z1, zf⟩ := two_cells hx3
    clear hx3
    go_wp2_with fail
    refine bodyPost_ret (v := .agg #[.int .i64 3, .int .i64 (-1)]) (by simp [results, Tryz.results7, go_sem, z0, z1, World.cell?_setCell_same, World.cell?_setCell_other]) rfl ?_
    exact ⟨faultV_of HT.out, below_two (HB2.out.trans (b3.mono HB2.out.size)) HQ.out _ _⟩
  have HT := Lib.hid (show confF C = entsF C.ents from by unfold confF; rw [if_neg (by rw [hbd]; decide), if_neg hcy])
  clear hbd
  go_wp2_with fail
  go_loopw [3] (fun s wr => ∃ i : Nat, i ≤ X.length ∧ s = .int .i64 i ∧ Hid (Below w.heap.size w wr) ∧ Hid (wr.heap[w.heap.size]? = some (.cells (confCs C (.slice ao X.length cap)) 24)) ∧ Hid (wr.heap[rb]? = some (.cells #[.int .i64 0, .int .i64 0] 29)) ∧ Hid (∀ j, j < i → entAt C.ents j = 0)) (fun s _ => X.length - (intOf s).toNat)
  case atStart => exact ⟨0, Nat.zero_le _, rfl, HB2, HXA, HX2, fun j h => by omega⟩
  case round =>
    obtain ⟨i, hi, rfl, hbl, hxc, hxr, hall⟩ := hrel
    clear HXA HB2 HX2 c0 c1 c2 c3 c4 h1 h2 h3 h4 h5 h6 h7 h8 h9 hcy
    obtain ⟨c0, c1, c2, c3, c4⟩ := conf_cells hxc.out
    by_cases hlt : i < X.length
    · have HEr := Lib.hid (show entAt C.ents i = entErr ((X.take i).map xName) X[i].E from by
        rw [entAt_at (by omega)]
        simp only [H.out.eq, List.getElem_map, ← List.map_take, List.map_map]
        rfl)
      have HCe := Lib.hid (entErr_any R X (.slice ao X.length cap) i hlt wr (H.out.sl.keep (Keep.of_below hbl.out) (fun b hb hS => by have := HRw.out b hb; omega)) (below_lt2 HRw.out hbl.out) (H.out.small X[i] (List.getElem_mem hlt)) hXl)
      rw [← HEr.out] at HCe
      obtain ⟨er, her⟩ : ∃ er, er = entAt C.ents i := ⟨_, rfl⟩
      rw [← her] at HCe
      have HQ2 := Lib.hid her
      clear HEr her
      go_wp2_with fail
      refine HCe.out.mono ?_
      rintro e w3 ⟨rfl, b3⟩
      have HB3 := Lib.hid (hbl.out.trans (b3.mono hbl.out.size))
      have hx3 := Lib.hid (below_get b3 hxc.out (lt_of_get hxc.out))
      have hr3 := Lib.hid (below_get b3 hxr.out (lt_of_get hxr.out))
      clear b3 HCe c0 c1 c2 c3 c4
      by_cases hz : (0 : Int) < (er : Int)
      · have HT2 := Lib.hid (show entsF C.ents = (er, (i : Int)) from by rw [entsF_hit (by omega) (by rw [← HQ2.out]; omega) hall.out, ← HQ2.out])
        obtain ⟨z0, z1, zf⟩ := two_cells hr3.out
        go_wp2_with fail
        refine bodyPost_ret (v := .agg #[.int .i64 er, .int .i64 i]) (by simp [results, Tryz.results7, go_sem, z0, z1, World.cell?_setCell_same, World.cell?_setCell_other]) rfl ?_
        exact ⟨faultV_of (HT.out.trans HT2.out), below_two HB3.out HQ.out _ _⟩
      · have nx : Hid (∀ j, j < i + 1 → entAt C.ents j = 0) := (show ∀ j, j < i + 1 → entAt C.ents j = 0 from fun j hj => by
          by_cases e : j = i
          · rw [e, ← HQ2.out]; omega
          · exact hall.out j (by omega))
        clear hall
        go_wp2_with fail
        go_roundw
        case rel => exact ⟨i + 1, by omega, by go_num, HB3, hx3, hr3, nx⟩
        case measure => simp [intOf]; omega
    · have HT2 := Lib.hid (entsF_miss (L := C.ents) (fun j hj => hall.out j (by omega)))
      have HBr := Lib.hid (rFine_any wr)
      have HX2 := hxr
      go_wp2_with fail
      refine HBr.out.mono ?_
      rintro e w3 ⟨rfl, b3⟩
      have hx3 := below_get b3 HX2.out (lt_of_get HX2.out)
      obtain ⟨z0, z1, zf⟩ := two_cells hx3
      clear hx3
      go_wp2_with fail
      refine bodyPost_ret (v := .agg #[.int .i64 0, .int .i64 (-1)]) (by simp [results, Tryz.results7, go_sem, z0, z1, World.cell?_setCell_same, World.cell?_setCell_other]) rfl ?_
      exact ⟨faultV_of (HT.out.trans HT2.out), below_two (hbl.out.trans (b3.mono hbl.out.size)) HQ.out _ _⟩
end Go.Proofs.YtakjbjokekbmbaaGreatDoor
