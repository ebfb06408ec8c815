import Derived.Test.YtikehilbmldadaaGreatDoorQ28
import Derived.Test.YtikehilbmldadaaGreatDoorQ38
import Derived.Test.YtikehilbmldadaaGreatDoorQ39
import Derived.Test.YtikehilbmldadaaGreatDoorQ40
import Derived.Test.YtikehilbmldadaaGreatDoorQ01
import Derived.Test.YtikehilbmldadaaGreatDoorQ31
import Derived.Test.YtikehilbmldadaaGreatDoorQ23
import Derived.Test.YtikehilbmldadaaGreatDoorQ15
import Derived.Test.YtikehilbmldadaaGreatDoorQ12
import Derived.Test.YtikehilbmldadaaGreatDoorQ17
import Derived.Laws.Concat
import Derived.Deep.CutBlock
import Derived.Deep.RegionHeld3
set_option maxHeartbeats 4000000
set_option maxRecDepth 100000
namespace Go.Proofs.YtikehilbmldadaaGreatDoor
open Go.RowKit
set_option linter.unusedVariables false
theorem size_arr (l : List UInt8) : (⟨l.toArray⟩ : ByteArray).size = l.length := by simp [ByteArray.size]
def newO (kb d c rb a b : Nat) : Nat → Nat := fun k => if k = kb then 1 else if k = d then 2 else if k = c then 3 else if k = rb then 4 else if a ≤ k ∧ k < b then 8 else 0
theorem new_kpB {B : Nat} {sa : Nat → Addr} {w0 w w2 w3 w4 w5 : World} {c rb cap : Nat} {C : ConfV} {v : Value} {X : List EntX} {m : CM} {kb d : Nat} {D : DogM}
    (hS : SentsK B sa w) (bel : Below w0.heap.size w0 w) (hB : B ≤ w0.heap.size) (hm : CellsAt w c rb (some ⟨rb, 0, none⟩) cap m) (hc : w0.heap.size ≤ c ∧ w0.heap.size ≤ rb)
    (b2 : Below w.heap.size w w2) (hX : ConfSl (fun b => w2.heap.size ≤ b ∧ b < w3.heap.size) w3 C v X) (b3 : Below w2.heap.size w2 w3) (k4 : Keep (fun b => b < w2.heap.size) w3 w4) (bw : Below w.heap.size w w4) (hd : DogAt w5 d D) (hd4 : w4.heap.size ≤ d) (b5 : Below w4.heap.size w4 w5)
    (o : Obj) (hk : kb = w5.heap.size) :
    KpB B sa w0 kb c ⟨d, rb, cap, 0, 0, v, v, v, X, []⟩ C D m (newO kb d c rb w2.heap.size w3.heap.size) (w5.alloc o) ∧ Below w.heap.size w (w5.alloc o) := by
  have hcl := lt_of_get hm.box
  have hrl : rb < w.heap.size := by
    obtain ⟨C, t, hh, _⟩ := hm.row rfl
    exact lt_of_get hh
  have hdl := lt_of_get hd
  have s0 := bel.size
  have s2 := b2.size
  have s3 := b3.size
  have s4 := k4.size
  have s5 := b5.size
  have hne := hm.ne
  have hbo : Below w5.heap.size w5 (w5.alloc o) := (Below.refl _ _).alloc (Nat.le_refl _) _
  have hw5 : Below w.heap.size w w5 := bw.trans (b5.mono bw.size)
  have hw6 : Below w.heap.size w (w5.alloc o) := hw5.trans (hbo.mono hw5.size)
  have hsz : (w5.alloc o).heap.size = w5.heap.size + 1 := World.size_alloc _ _
  have n1 : newO kb d c rb w2.heap.size w3.heap.size kb = 1 := if_pos rfl
  have n2 : newO kb d c rb w2.heap.size w3.heap.size d = 2 := by unfold newO; rw [if_neg (by omega), if_pos rfl]
  have n3 : newO kb d c rb w2.heap.size w3.heap.size c = 3 := by unfold newO; rw [if_neg (by omega), if_neg (by omega), if_pos rfl]
  have n4 : newO kb d c rb w2.heap.size w3.heap.size rb = 4 := by unfold newO; rw [if_neg (by omega), if_neg (by omega), if_neg (by omega), if_pos rfl]
  refine ⟨⟨hS.below hw6, bel.trans (hw6.mono s0), hB, fun b hb => ?_, (below_keep hbo).get hd (fun h => h), hm.keep (below_keep hw6) (fun _ h => h.elim), ?_, hX.eq, n1, n2, n3, n4⟩, hw6⟩
  · unfold newO at hb
    repeat' split at hb
    all_goals omega
  · have e4 : EntsSl (fun b => w2.heap.size ≤ b ∧ b < w3.heap.size) w4 v X := hX.sl.keep k4 (fun b h1 h2 => by omega)
    have e5 : EntsSl (fun b => w2.heap.size ≤ b ∧ b < w3.heap.size) w5 v X := e4.keep (Keep.of_below b5) (fun b h1 h2 => by omega)
    have e6 : EntsSl (fun b => w2.heap.size ≤ b ∧ b < w3.heap.size) (w5.alloc o) v X := e5.keep (Keep.of_below hbo) (fun b h1 h2 => by omega)
    have hR : ∀ b, (w2.heap.size ≤ b ∧ b < w3.heap.size) → newO kb d c rb w2.heap.size w3.heap.size b = 8 := fun b hb => by
      unfold newO
      rw [if_neg (by omega), if_neg (by omega), if_neg (by omega), if_neg (by omega), if_pos hb]
    exact ⟨e6.row.mono hR, fun x hx => by have := e6.each x hx; exact ⟨this.p.mono hR, this.g.mono hR, this.e.mono hR, this.f.mono hR, this.l.mono hR⟩⟩
theorem conf_five {w : World} {b : Nat} {C C' : ConfV} {v v' : Value} (h : w.heap[b]? = some (.cells (confCs C v) 30)) :
    (((((w.setCell ⟨b, 0, none⟩ (.int .i64 C'.closed)).setCell ⟨b, 1, none⟩ (.int .i64 C'.opn)).setCell ⟨b, 2, none⟩ (.int .i64 C'.cycle)).setCell ⟨b, 3, none⟩ (.int .i64 C'.delay)).setCell ⟨b, 4, none⟩ v').heap[b]? = some (.cells (confCs C' v') 30) := by
  unfold confCs at h ⊢
  rw [get_setCell _ (get_setCell _ (get_setCell _ (get_setCell _ (get_setCell _ h))))]; rfl
theorem kpNew_any (B : Nat) (sa : Nat → Addr) (R : Nat → Prop) (C : ConfV) (v : Value) (X : List EntX) (w0 w : World) (c rb cap : Nat) (m : CM) (hS : SentsK B sa w) (hN : NumB B w) (hT : TabB w.heap.size w) (h : ConfSl R w C v X) (hR : ∀ b, R b → b < w.heap.size) (hC : confF C = (0, -1)) (h8 : (textB C).length ≤ 8000)
    (bel : Below w0.heap.size w0 w) (hB : B ≤ w0.heap.size) (hm : CellsAt w c rb (some ⟨rb, 0, none⟩) cap m) (hc : w0.heap.size ≤ c ∧ w0.heap.size ≤ rb) (hl : 153 ≤ m.bs.length) (ho : m.off = false) :
    Calls Tryz.prog 38 #[.agg (confCs C v), .pointer (some ⟨c, 0, none⟩)] w fun e w' => ∃ kb x o, e = .returned (.tuple #[.pointer (some ⟨kb, 0, none⟩), .nilIface]) ∧ KpIn B sa w0 kb c ⟨(textB C).toArray⟩ x (kpOpen C ⟨C.closed, C.opn, 0, 0, false, 0⟩ m) o w' ∧ (∀ b, b < w.heap.size → o b ≠ 0 → b = c ∨ b = rb) ∧ Keep (fun b => b = c ∨ b = rb) w w' := by
  obtain ⟨ao, cap', rfl⟩ := h.sl.row.val
  have hb := boundC_parts (confF_parts hC).1
  have hxa := get_alloc_new w (.cells (confCs C (.slice ao X.length cap')) 30)
  have hba : Below w.heap.size w (w.alloc (.cells (confCs C (.slice ao X.length cap')) 30)) := (Below.refl _ _).alloc (Nat.le_refl _) _
  have HTx := Lib.hid (fun W (hW : Below w.heap.size w W) => text_any B sa R C (.slice ao X.length cap') X W (hS.below hW).c (fun W' hW' => hT W' (hW.trans (hW'.mono hW.size))) (h.below hW hR) (fun b hb => Nat.lt_of_lt_of_le (hR b hb) hW.size) hC)
  have HS := Lib.hid hS
  have HN := Lib.hid hN
  have HC := Lib.hid hC
  have HB8 := Lib.hid h8
  have HM := Lib.hid (And.intro hm (And.intro hc (And.intro hl (And.intro ho (And.intro bel hB)))))
  obtain ⟨tt, htt⟩ : ∃ tt : ByteArray, tt = ⟨(textB C).toArray⟩ := ⟨_, rfl⟩
  have hsz : tt.size = (textB C).length := by rw [htt, size_arr]
  have HRd := Lib.hid (fun W (hW : Below w.heap.size w W) => read_any B sa tt W (hS.below hW).c (hN.below hW hS.top) (by omega) (fun k hk _ => ktxt_k hC k (by rw [← htt]; exact hk)))
  have hbk : readF tt = (C, (0, -1)) := by rw [htt]; exact back_law hC (by omega)
  rw [hbk] at HRd
  rw [← htt] at HTx ⊢
  have HTT := Lib.hid htt
  have HDN := Lib.hid (fun W => dogNew_in C.closed C.opn W (by omega) (by omega) (by omega) (by omega))
  clear hS hN hT h hR hC h8 bel hB hm hc hl ho hb hsz hbk htt
  unfold confCs at hxa hba HTx ⊢
  go_enter Tryz.func38, Tryz.ntmps38
  go_upto_region 1 with fail
  generalize w.alloc _ = w1 at hxa hba ⊢
  have hxa2 : w1.heap[w.heap.size]? = some (.cells (confCs C (.slice ao X.length cap')) 30) := hxa
  obtain ⟨c0, c1, c2, c3, c4⟩ := conf_cells hxa2
  have HXA := Lib.hid hxa2
  clear hxa hxa2
  go_wp2_with fail
  refine (HTx.out w1 hba).mono ?_
  rintro e w2 ⟨rfl, b2⟩
  have HX2 := Lib.hid (below_get b2 HXA.out (lt_of_get HXA.out))
  have HW2 := Lib.hid (hba.trans (b2.mono hba.size))
  have HQ2 := Lib.hid (lt_of_get HX2.out)
  clear c0 c1 c2 c3 c4 HTx HXA hba b2
  go_wp2_with fail
  refine (HRd.out w2 HW2.out).mono ?_
  unfold ReadPost
  rintro e w3 ⟨a9, n9, k9, u, X9, rfl, hu, hcs, -, b9⟩
  have hu0 : u = .nilIface := by
    rcases hu with ⟨_, hu⟩ | ⟨_, hc0, _⟩
    · rw [hu]; rfl
    · exact absurd hc0 (Nat.lt_irrefl 0)
  subst hu0
  have HCS := Lib.hid (hcs rfl)
  have hx3 := below_get b9 HX2.out (lt_of_get HX2.out)
  obtain ⟨c0, c1, c2, c3, c4⟩ := conf_cells hx3
  have cf : ∀ f, w3.frozen? ⟨w.heap.size, f, none⟩ = false := fun f => by simp [World.frozen?, hx3]
  have HX4 := Lib.hid (conf_five (C' := C) (v' := .slice a9 n9 k9) hx3)
  have HK4 := Lib.hid (five_keep w3 w.heap.size (.int .i64 C.closed) (.int .i64 C.opn) (.int .i64 C.cycle) (.int .i64 C.delay) (.slice a9 n9 k9))
  have HB9 := Lib.hid b9
  clear hu hcs b9 hx3 HRd
  unfold confCs
  go_upto_region 5 with fail
  generalize World.setCell _ _ _ = w4 at HX4 HK4 ⊢
  have HX4 : Hid (w4.heap[w.heap.size]? = some (.cells (confCs C (.slice a9 n9 k9)) 30)) := HX4
  obtain ⟨d0, d1, d2, d3, d4⟩ := conf_cells HX4.out
  clear c0 c1 c2 c3 c4 cf HX2
  go_wp2_with fail
  refine (HDN.out w4).mono ?_
  rintro e w5 ⟨rfl, g5, b5⟩
  have hx5 := below_get b5 HX4.out (lt_of_get HX4.out)
  obtain ⟨e0, e1, e2, e3, e4⟩ := conf_cells hx5
  have HG5 := Lib.hid g5
  have HB5 := Lib.hid b5
  clear d0 d1 d2 d3 d4 hx5 g5 b5 HX4
  go_upto_region 11 with fail
  have hw3 := HW2.out.trans (HB9.out.mono HW2.out.size)
  have hw4 := hw3.trans (HK4.out.below hw3.size (fun b hb => Nat.le_of_eq hb.symm))
  obtain ⟨p1, p2⟩ := new_kpB HS.out HM.out.2.2.2.2.1 HM.out.2.2.2.2.2 HM.out.1 HM.out.2.1 HW2.out HCS.out HB9.out (HK4.out.mono (fun b _ e => by rw [e]; exact HQ2.out)) hw4 HG5.out (Nat.le_refl _) HB5.out (kpC w4.heap.size C (.slice a9 n9 k9) c (.pointer none) (.slice none 0 0) (.pointer none) tt) rfl
  have hbx := get_alloc_new w5 (kpC w4.heap.size C (.slice a9 n9 k9) c (.pointer none) (.slice none 0 0) (.pointer none) tt)
  have HOp := Lib.hid (kpOpen_any p1 hbx (confF_parts HC.out).1 HM.out.2.2.1 HM.out.2.2.2.1)
  have hz : w.heap.size ≤ w2.heap.size := HW2.out.size
  have hz5 : w.heap.size ≤ w5.heap.size := Nat.le_trans hw4.size HB5.out.size
  have HP2 := Lib.hid p2
  have HZ := Lib.hid (And.intro hz (And.intro hz5 hw4.size))
  unfold kpC at HOp HP2
  clear hw3 hw4 p1 p2 hbx hz hz5 e0 e1 e2 e3 e4 HX4 HK4 HG5 HB5
  generalize w5.alloc _ = w6 at HOp HP2 ⊢
  go_wp2_with fail
  refine HOp.out.mono ?_
  rintro e w7 ⟨rfl, x', o', z1, z2⟩
  have hz := HZ.out
  have Z1 := Lib.hid z1
  have hkk : Keep (fun b => b = c ∨ b = rb) w w7 := ((below_keep HP2.out).mono (fun _ _ h => h.elim)).step z2.kp (fun b hb hl => by
    unfold newO at hb
    repeat' split at hb
    all_goals omega)
  have hoo : ∀ b, b < w.heap.size → o' b ≠ 0 → b = c ∨ b = rb := fun b hl hb => by
    rw [z2.agree b (Nat.lt_of_lt_of_le hl HP2.out.size)] at hb
    unfold newO at hb
    repeat' split at hb
    all_goals omega
  have HK := Lib.hid (And.intro hoo hkk)
  clear z1 z2 hkk hoo hz HOp
  go_wp2_with fail
  go_ret2
  exact ⟨_, x', o', rfl, Z1.out, HK.out.1, HK.out.2⟩
def dogK (closed cycle : Nat) : Nat → Nat × Nat
  | 0 => (0, 0)
  | n + 1 => if (n + 1) % cycle = 0 ∧ closed < n + 1 - (dogK closed cycle n).1 then (n + 1, (dogK closed cycle n).2 + 1) else dogK closed cycle n
def lawK (closed cycle : Nat) : Nat → Nat × Nat
  | 0 => (0, 0)
  | m + 1 => if closed < (m + 1) * cycle - (lawK closed cycle m).1 then ((m + 1) * cycle, (lawK closed cycle m).2 + 1) else lawK closed cycle m
theorem div_next {n c : Nat} (hc : 0 < c) : ((n + 1) % c = 0 ∧ (n + 1) / c = n / c + 1 ∧ (n / c + 1) * c = n + 1) ∨ ((n + 1) % c ≠ 0 ∧ (n + 1) / c = n / c) := by
  have h := Nat.div_add_mod n c
  have hr := Nat.mod_lt n hc
  by_cases he : n % c + 1 = c
  · left
    have e : n + 1 = c * (n / c + 1) := by rw [Nat.mul_succ]; omega
    refine ⟨by rw [e, Nat.mul_mod_right], ?_, by rw [Nat.mul_comm]; exact e.symm⟩
    rw [e, Nat.mul_div_cancel_left _ hc]
  · right
    have e : n + 1 = c * (n / c) + (n % c + 1) := by omega
    have hl : n % c + 1 < c := by omega
    refine ⟨?_, ?_⟩
    · rw [e, Nat.mul_add_mod, Nat.mod_eq_of_lt hl]; omega
    · rw [e, Nat.mul_add_div hc, Nat.div_eq_of_lt hl, Nat.add_zero]
theorem dogK_law {closed cycle : Nat} (hc : 0 < cycle) : ∀ n, dogK closed cycle n = lawK closed cycle (n / cycle)
  | 0 => by rw [Nat.zero_div]; rfl
  | n + 1 => by
    have ih := dogK_law (closed := closed) hc n
    rcases div_next (n := n) hc with ⟨h0, h1, h2⟩ | ⟨h0, h1⟩
    · rw [h1, dogK, lawK, h2, ih]
      simp only [h0, true_and]
    · rw [h1, dogK, if_neg (fun h => h0 h.1), ih]
theorem lawK_le {closed cycle : Nat} : ∀ m, (lawK closed cycle m).1 ≤ m * cycle ∧ m * cycle - (lawK closed cycle m).1 ≤ closed
  | 0 => by simp [lawK]
  | m + 1 => by
    have ih := lawK_le (closed := closed) (cycle := cycle) m
    rw [lawK]
    split
    · simp
    · next h =>
      rw [Nat.succ_mul] at h ⊢
      omega
theorem dogK_safe {closed cycle opn : Nat} (hc : 0 < cycle) (ho : cycle ≤ opn) (n : Nat) : (dogK closed cycle n).1 ≤ n ∧ n + 1 - (dogK closed cycle n).1 ≤ closed + opn := by
  rw [dogK_law hc]
  have h := lawK_le (closed := closed) (cycle := cycle) (n / cycle)
  have h1 := Nat.div_add_mod n cycle
  have h2 := Nat.mod_lt n hc
  rw [Nat.mul_comm] at h1
  omega
theorem dsize (s : ByteArray) : s.size = s.data.toList.length := by rw [Array.length_toList]; rfl
theorem line_pnt (s : ByteArray) : lineB (pntL s) = [112, 111, 105, 110, 116, 32] ++ s.data.toList ++ [10] := by simp [lineB, upB, sepB, wordB, pntL, pntB, List.range_succ]
theorem itoa_len (n : Int) (h0 : 0 ≤ n) (h1 : n ≤ 1099511627776) : (Lib.itoa n).length ≤ 40 := num_small n ⟨by omega, by omega⟩
end Go.Proofs.YtikehilbmldadaaGreatDoor
