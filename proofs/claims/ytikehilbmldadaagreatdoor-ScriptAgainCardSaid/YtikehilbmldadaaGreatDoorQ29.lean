import Derived.Test.YtikehilbmldadaaGreatDoorQ28
import Derived.Test.YtikehilbmldadaaGreatDoorQ24
import Derived.BigQuiet
import Derived.Deep.DeepCutAuto
import Derived.Test.YtikehilbmldadaaGreatDoorQ01
import Derived.MapKept
import Derived.Carry
import Derived.Laws.EntriesVeiled
set_option maxHeartbeats 4000000
set_option maxRecDepth 100000
namespace Go.Proofs.YtikehilbmldadaaGreatDoor
open Go.RowKit
set_option linter.unusedVariables false
section
variable {B : Nat} {sa : Nat → Addr} {w0 : World} {kb c : Nat} {txt : ByteArray} {x : KpX} {M : KpM} {o : Nat → Nat} {w : World} {T : Nat}
theorem kpOpen_D (C : ConfV) (D D' : DogM) (m : CM) : ({ kpOpen C D m with D := D' } : KpM) = kpOpen C D' m := by simp only [kpOpen]
theorem kpBoot_any (h : KpIn B sa w0 kb c txt x M o w) (hO : KpOk M T) :
    Calls Tryz.prog 127 #[.pointer (some ⟨kb, 0, none⟩)] w (KpPost B sa w0 kb c txt (kpBoot M) o w) := by
  unfold KpPost
  have HOn := Lib.hid (kpOn_any h)
  have H := Lib.hid h
  have HOk := Lib.hid hO
  obtain ⟨k0, k1, k2, k3, k4, k5, k6, k7, k8, k9, k10, kf⟩ := kp_cells h.box
  unfold kpBoot
  by_cases h0 : kpOn M = 0
  · rw [h0] at HOn
    rw [if_pos h0]
    obtain ⟨_, _, _, _, _, _, _, _, _, s9, _⟩ := h.b.se.all
    clear h hO h0 k0 k1 k2 k3 k4 k5 k6 k7 k8 k9 k10 kf
    go_enter Tryz.func127, Tryz.ntmps127
    go_wp2_with fail
    refine HOn.out.mono ?_
    rintro e w1 ⟨rfl, rfl⟩
    rw [errv_zero]
    go_wp2_with fail
    go_ret
    exact ⟨rfl, x, o, H.out, Fr.refl _ _⟩
  · rw [if_neg h0]
    obtain ⟨q, hq⟩ : ∃ q, kpOn M = q + 1 := ⟨kpOn M - 1, by omega⟩
    rw [hq] at HOn
    have HCo := Lib.hid (cellsOn_any c x.rb _ x.cap M.m w h.b.mem)
    have HK := Lib.hid (fun w1 (k : Keep (· = c) w w1) (g : CellsAt w1 c x.rb (some ⟨x.rb, 0, none⟩) x.cap ⟨M.m.bs, false, -1, M.m.wr⟩) => (show KpIn B sa w0 kb c txt x { M with m := ⟨M.m.bs, false, -1, M.m.wr⟩ } o w1 ∧ Fr o o w w1 from ⟨h.cell' k g, Fr.of k (fun b hb => by rw [hb]; have := h.b.oc; omega)⟩))
    have HBl := Lib.hid hO.len
    clear h hO h0 hq k0 k1 k2 k3 k4 k5 k7 k8 k9 k10 kf
    go_enter Tryz.func127, Tryz.ntmps127
    go_wp2_with fail
    refine HOn.out.mono ?_
    rintro e w1 ⟨rfl, rfl⟩
    rw [errv_succ]
    go_wp2_with fail
    refine HCo.out.mono ?_
    rintro e w1 ⟨rfl, g1, g2⟩
    obtain ⟨z1, z2⟩ := HK.out w1 g2 g1
    have HOp := Lib.hid (kpOpen_any z1.b z1.box HOk.out.bound (by show 153 ≤ M.m.bs.length; rw [HBl.out]; decide) rfl)
    have HF := Lib.hid z2
    clear g1 g2 z1 z2 k6 HK HCo
    go_wp2_with fail
    refine HOp.out.mono ?_
    rintro e w2 ⟨rfl, x', o', z1, z2⟩
    have HZ := Lib.hid z1
    have HF2 := Lib.hid (HF.out.trans z2)
    obtain ⟨j0, k1, k2, k3, k4, k5, k6, k7, k8, k9, k10, kf⟩ := kp_cells z1.box
    have HSt := Lib.hid (dogStart_any x'.d M.D w2 z1.b.dog)
    clear z1 z2 k1 k2 k3 k4 k5 k6 k7 k8 k9 k10 kf HOp HF
    go_wp2_with fail
    refine HSt.out.mono ?_
    rintro e w3 ⟨rfl, g1, g2⟩
    have z3 := HZ.out.dog' g2 g1
    rw [kpOpen_D] at z3
    have HZ3 := Lib.hid z3
    have HF3 := Lib.hid (HF2.out.trans (Fr.of g2 (fun b hb => by rw [hb]; have := HZ.out.b.od; omega)))
    clear g1 g2 j0 HSt z3
    go_wp2_with fail
    go_ret
    exact ⟨rfl, x', o', HZ3.out, HF3.out⟩
end
end Go.Proofs.YtikehilbmldadaaGreatDoor
namespace Go.Proofs.YtikehilbmldadaaGreatDoor
open Go.RowKit
set_option linter.unusedVariables false
theorem kpTicks_stuck {M : KpM} {k : Nat} (h : (kpTicks M k).1 ≠ 0) : ∀ j, kpTicks M (k + j) = kpTicks M k
  | 0 => rfl
  | j + 1 => by
    have ih := kpTicks_stuck h j
    show (if (kpTicks M (k + j)).1 ≠ 0 then kpTicks M (k + j) else kpTick (kpTicks M (k + j)).2) = _
    rw [ih, if_pos h]
theorem kpTicks_next {M M' : KpM} {k : Nat} (h : kpTicks M k = (0, M')) : kpTicks M (k + 1) = kpTick M' := by
  show (if (kpTicks M k).1 ≠ 0 then kpTicks M k else kpTick (kpTicks M k).2) = _
  rw [h, if_neg (fun h => h rfl)]
section
variable {B : Nat} {sa : Nat → Addr} {w0 : World} {kb c : Nat} {txt : ByteArray} {x : KpX} {M : KpM} {o : Nat → Nat} {w : World} {T : Nat}
end
end Go.Proofs.YtikehilbmldadaaGreatDoor
namespace Go.Proofs.YtikehilbmldadaaGreatDoor
open Go.RowKit
set_option linter.unusedVariables false
section
variable {B : Nat} {sa : Nat → Addr} {w0 : World} {kb c : Nat} {txt : ByteArray} {x : KpX} {M : KpM} {o : Nat → Nat} {w : World} {T : Nat}
theorem KpIn.stat (h : KpIn B sa w0 kb c txt x M o w) {i l : Nat} {y : EntX} (h1 : x.ls[i]? = some l) (h2 : x.X[i]? = some y) :
    Calls Tryz.prog 153 #[.pointer (some ⟨l, 0, none⟩)] w fun e w' => e = .returned (.string (kpStat (kpGet M i))) ∧ w = w' := by
  obtain ⟨p1, p, t, p2, p3⟩ := h.loc i l y h1 h2
  cases ha : kpGet M i with
  | none =>
    rw [ha] at p3
    exact localStatus_idle l y.E y.p y.g y.e y.f y.l w p3
  | some a =>
    rw [ha] at p3
    exact localStatus_any l p t y.E y.p y.g y.e y.f y.l a w p3
theorem kpStatus_ok (h : KpIn B sa w0 kb c txt x M o w) (n : Nat) (hn : n < M.A.length) :
    Calls Tryz.prog 129 #[.pointer (some ⟨kb, 0, none⟩), .int .i64 n] w fun e w' => e = .returned (.tuple #[.string (kpStat (kpGet M n)), .nilIface]) ∧ w = w' := by
  obtain ⟨k0, k1, k2, k3, k4, k5, k6, k7, k8, k9, k10, kf⟩ := kp_cells h.box
  obtain ⟨ao, cap, hv, hc1, hc2, hr⟩ := h.row
  rw [hv] at k8
  obtain ⟨b, off, l, y, rfl, q1, q2, q3, q4⟩ := hr n hn
  have HS := Lib.hid (h.stat q2 q3)
  have hn2 : (n : Int) < M.A.length := by omega
  clear h hv hn q2 q3 q4 hr k0 k1 k2 k3 k4 k5 k6 k7 k9 k10 kf
  go_enter Tryz.func129, Tryz.ntmps129
  go_wp2_with fail
  refine HS.out.mono ?_
  rintro e w1 ⟨rfl, rfl⟩
  go_wp2_with fail
  go_ret2
  exact ⟨rfl, rfl⟩
theorem kpStatus_bad (h : KpIn B sa w0 kb c txt x M o w) (n : Nat) (hn : ¬ n < M.A.length) :
    Calls Tryz.prog 129 #[.pointer (some ⟨kb, 0, none⟩), .int .i64 n] w fun e w' => e = .returned (.tuple #[.string ByteArray.empty, errv sa 5]) ∧ Below w.heap.size w w' := by
  obtain ⟨k0, k1, k2, k3, k4, k5, k6, k7, k8, k9, k10, kf⟩ := kp_cells h.box
  obtain ⟨_, _, _, _, s4, _⟩ := h.b.se.all
  obtain ⟨ao, cap, hv, hc1, hc2, _⟩ := h.row
  rw [hv] at k8
  have hn2 : (M.A.length : Int) ≤ n := by omega
  clear h hv hn k0 k1 k2 k3 k4 k5 k6 k7 k9 k10 kf
  go_enter Tryz.func129, Tryz.ntmps129
  go_wp2_with fail
  go_quiet (fail)
  go_wp2_with fail
  go_ret2
  exact ⟨rfl, below_drewN' _ (Below.refl _ _)⟩
theorem playTicks_any (h : KpIn B sa w0 kb c txt x M o w) (hO : KpOk M T) (n : Nat) (hT : T + 2 * n ≤ 400000) :
    Calls Tryz.prog 123 #[.pointer (some ⟨kb, 0, none⟩), .int .i64 n] w (KpPost B sa w0 kb c txt (kpTicks M n) o w) := by
  unfold KpPost
  have H := Lib.hid h
  have HOk := Lib.hid (fun k (hk : k ≤ n) => kpTicks_ok hO k (by omega))
  have HT := Lib.hid hT
  clear h hO hT
  go_enter Tryz.func123, Tryz.ntmps123
  go_wp2_with fail
  go_loopw [7] (fun s wr => ∃ (i : Nat) (x' : KpX) (o' : Nat → Nat) (M' : KpM), i ≤ n ∧ s = .int .i64 i ∧ Hid (kpTicks M i = (0, M')) ∧ Hid (KpIn B sa w0 kb c txt x' M' o' wr) ∧ Hid (Fr o o' w wr)) (fun s _ => n - (intOf s).toNat)
  case atStart => exact ⟨0, x, o, M, Nat.zero_le _, rfl, rfl, H, Lib.hid (Fr.refl _ _)⟩
  case round =>
    obtain ⟨i, x', o', M', hi, rfl, he, hk, hf⟩ := hrel
    by_cases hlt : i < n
    · have hO1 := HOk.out i hi
      rw [he.out] at hO1
      have HTk := Lib.hid (kpTick_any hk.out hO1 (by have := HT.out; omega))
      unfold KpPost at HTk
      have HN := Lib.hid (kpTicks_next he.out)
      obtain ⟨r, hr⟩ : ∃ r, r = kpTick M' := ⟨_, rfl⟩
      rw [← hr] at HTk HN
      obtain ⟨re, rM⟩ := r
      have hi64 : (i : Int) ≤ 400000 := by have := HT.out; omega
      clear hr hO1
      go_wp2_with fail
      refine HTk.out.mono ?_
      rintro e w1 ⟨rfl, x2, o2, z1, z2⟩
      have HZ := Lib.hid z1
      have HF := Lib.hid (hf.out.trans z2)
      clear z1 z2 HTk hk hf
      cases re with
      | zero =>
        rw [errv_zero]
        go_wp2_with fail
        go_roundw
        case rel => exact ⟨i + 1, x2, o2, rM, by omega, by go_num, HN, HZ, HF⟩
        case measure => simp [intOf]; omega
      | succ q =>
        rw [errv_succ]
        have HE := Lib.hid (show kpTicks M n = (q + 1, rM) from by
          have h1 := kpTicks_stuck (M := M) (k := i + 1) (by rw [HN.out]; exact Nat.succ_ne_zero q) (n - (i + 1))
          rw [show i + 1 + (n - (i + 1)) = n by omega, HN.out] at h1
          exact h1)
        go_wp2_with fail
        go_ret
        rw [HE.out]
        exact ⟨rfl, x2, o2, HZ.out, HF.out⟩
    · have HE := Lib.hid (show kpTicks M n = (0, M') from by rw [show n = i by omega]; exact he.out)
      go_wp2_with fail
      go_ret
      rw [HE.out]
      exact ⟨rfl, x', o', hk.out, hf.out⟩
theorem kpCut_any (h : KpIn B sa w0 kb c txt x M o w) (n : Int) :
    Calls Tryz.prog 125 #[.pointer (some ⟨c, 0, none⟩), .int .i64 n] w (KpPost B sa w0 kb c txt (cutE M.m.off n, { M with m := cutM M.m n }) o w) := by
  refine (cellsCut_any B sa c x.rb _ x.cap M.m n w h.b.mem h.b.se).mono ?_
  rintro e w' ⟨rfl, h1, h2⟩
  exact ⟨rfl, x, o, h.cell' h2 h1, Fr.of h2 (fun b hb => by rw [hb, h.b.oc]; decide)⟩
end
end Go.Proofs.YtikehilbmldadaaGreatDoor
namespace Go.Proofs.YtikehilbmldadaaGreatDoor
open Go.RowKit
set_option linter.unusedVariables false
theorem scNumber_any (B : Nat) (s : ByteArray) (hs : s.size ≤ 100000) (w : World) (hN : NumB B w) (hB : B ≤ w.heap.size) :
    Calls Tryz.prog 77 #[.string s] w fun e w' => ∃ n, e = .returned (.tuple #[.int .i64 n, .bool (scNum s).isSome]) ∧ (∀ k, scNum s = some k → n = k) ∧ Below w.heap.size w w' := by
  have HN := Lib.hid hN
  have HB := Lib.hid hB
  cases hA : Lib.atoiAll s.data.toList
  case ok v =>
    obtain ⟨b0, b1⟩ := Lib.atoiAll_bounds hA
    have HC := Lib.hid (Tryz.strconv_Atoi_ok s (by omega) v hA w)
    have HNV := Lib.hid (show scNum s = if s.size ≤ 5 ∧ 0 ≤ v ∧ Lib.itoa v = s.data.toList then some v.toNat else none from by unfold scNum; rw [hA])
    have HIT := Lib.hid (fun W (hW : Below w.heap.size w W) => itoa_any B v W ((hN.below hW hB).tab) b0 b1)
    clear hA hN b0 b1 hB hs
    go_enter Tryz.func77, Tryz.ntmps77
    go_wp2_with fail
    refine HC.out.mono ?_
    rintro e w1 ⟨rfl, hw⟩
    have hb1 : Below w.heap.size w w1 := by
      rcases hw with rfl | ⟨t, rfl⟩
      · exact Below.refl _ _
      · exact Lib.bytesWorld_below _ _ _
    clear hw HC
    have HI := Lib.hid (HIT.out w1 hb1)
    clear HIT
    by_cases h5 : (s.size : Int) ≤ 5
    · by_cases h0 : 0 ≤ v
      · obtain ⟨z, hz⟩ : ∃ z, (Lib.itoa v == s.toList) = z := ⟨_, rfl⟩
        have HZ := Lib.hid hz
        have H13 := Lib.hid (show s.size ≤ 5 from by omega)
        have H0 := Lib.hid h0
        have hdat : (Lib.itoa v = s.data.toList) ↔ z = true := by
          rw [← HZ.out, beq_iff_eq, ByteArray.toList_eq]
        have HD := Lib.hid hdat
        clear hdat
        have HR : Hid (z = (scNum s).isSome) := (show z = (scNum s).isSome from by
          rw [HNV.out]
          cases z
          · rw [if_neg (fun hh => by have := HD.out.1 hh.2.2; cases this)]; rfl
          · rw [if_pos ⟨H13.out, H0.out, HD.out.2 rfl⟩]; rfl)
        have HK : Hid (∀ k, scNum s = some k → v = k) := (show ∀ k, scNum s = some k → v = k from by
          intro k hk
          rw [HNV.out] at hk
          split at hk
          · have := Option.some.inj hk
            have := H0.out
            omega
          · cases hk)
        go_wp2_with fail
        refine HI.out.mono ?_
        rintro e w2 ⟨rfl, b2⟩
        have hb2 := hb1.trans (b2.mono hb1.size)
        go_wp2_with fail
        refine bodyPost_ret (results_tmp2 rfl _ _ _) rfl ?_
        exact ⟨_, by rw [← HR.out]; rfl, HK.out, hb2⟩
      · have HR : Hid (scNum s = none) := (show scNum s = none from by rw [HNV.out, if_neg (fun hh => h0 hh.2.1)])
        clear HNV
        go_wp2_with fail
        refine bodyPost_ret (results_tmp2 rfl _ _ _) rfl ?_
        exact ⟨_, by rw [HR.out]; rfl, (fun k hk => by rw [HR.out] at hk; cases hk), hb1⟩
    · have HR : Hid (scNum s = none) := (show scNum s = none from by rw [HNV.out, if_neg (fun hh => h5 (by omega))])
      clear HNV
      go_wp2_with fail
      refine bodyPost_ret (results_tmp2 rfl _ _ _) rfl ?_
      exact ⟨_, by rw [HR.out]; rfl, (fun k hk => by rw [HR.out] at hk; cases hk), hb1⟩
  case range =>
    obtain ⟨t, p, her⟩ := hN.er
    have HR : Hid (scNum s = none) := (show scNum s = none from by unfold scNum; rw [hA])
    have HC := Lib.hid (Tryz.strconv_Atoi_range s (by omega) hA (.iface t p) w her (.inr ⟨_, _, rfl⟩))
    clear hA hN her hB hs
    go_enter Tryz.func77, Tryz.ntmps77
    go_wp2_with fail
    refine HC.out.mono ?_
    rintro e w1 ⟨N, rfl, _, _, hb1⟩
    clear HC
    go_wp2_with fail
    refine bodyPost_ret (results_tmp2 rfl _ _ _) rfl ?_
    exact ⟨_, by rw [HR.out]; rfl, (fun k hk => by rw [HR.out] at hk; cases hk), hb1⟩
  all_goals
    obtain ⟨t, p, hes⟩ := hN.es
    have HR : Hid (scNum s = none) := (show scNum s = none from by unfold scNum; rw [hA])
    have HC := Lib.hid (Tryz.strconv_Atoi_bad s (by omega) (fun v hv => by rw [hA] at hv; cases hv) (fun hv => by rw [hA] at hv; cases hv) (.iface t p) w hes (.inr ⟨_, _, rfl⟩))
    clear hA hN hes hB hs
    go_enter Tryz.func77, Tryz.ntmps77
    go_wp2_with fail
    refine HC.out.mono ?_
    rintro e w1 ⟨N, rfl, _, _, hb1⟩
    clear HC
    go_wp2_with fail
    refine bodyPost_ret (results_tmp2 rfl _ _ _) rfl ?_
    exact ⟨_, by rw [HR.out]; rfl, (fun k hk => by rw [HR.out] at hk; cases hk), hb1⟩
end Go.Proofs.YtikehilbmldadaaGreatDoor
namespace Go.Proofs.YtikehilbmldadaaGreatDoor
open Go.RowKit
set_option linter.unusedVariables false
theorem bare_any (B : Nat) (sa : Nat → Addr) (k : Nat) (w : World) (hS : Sents B sa w) :
    Calls Tryz.prog 40 #[errv sa (k + 1)] w fun e w' => e = .returned (errv sa (k + 1)) ∧ Below w.heap.size w w' := by
  have hb := (Below.refl w.heap.size w).alloc (Nat.le_refl _) (.cells #[.pointer none] 154)
  have HC := Lib.hid (as_miss (sa k) ⟨w.heap.size, 0, none⟩ (w.alloc (.cells #[.pointer none] 154)) (by have := hS.below hb; exact this.et))
  have HB := Lib.hid hb
  clear hS hb
  rw [errv_succ]
  go_enter Tryz.func40, Tryz.ntmps40
  go_wp2_with fail
  refine HC.out.mono ?_
  rintro e w1 ⟨rfl, b1⟩
  have HB1 := Lib.hid (HB.out.trans (b1.mono (by simp)))
  clear b1 HC HB
  go_wp2_with fail
  go_ret
  exact ⟨rfl, HB1.out⟩
theorem scOk_any (v : Value) (w : World) : Calls Tryz.prog 119 #[v] w fun e w' => e = .returned (.tuple #[.string okS, v]) ∧ w = w' := by
  go_enter Tryz.func119, Tryz.ntmps119
  go_wp2_with fail
  go_ret2
  exact ⟨rfl, rfl⟩
end Go.Proofs.YtikehilbmldadaaGreatDoor
namespace Go.Proofs.YtikehilbmldadaaGreatDoor
open Go.RowKit
set_option linter.unusedVariables false
def entS (L : List (ByteArray × Value)) : List MapEntry := L.zipIdx.map (fun x => ⟨.string x.1.1, x.1.2, x.2⟩)
def mapO (L : List (ByteArray × Value)) : Obj := .map (entS L).toArray L.length
def findS (L : List (ByteArray × Value)) (s : ByteArray) : Option Value := (L.find? (fun p => p.1.data.toList == s.data.toList)).map (·.2)
theorem entS_keys (L : List (ByteArray × Value)) : ∀ x ∈ entS L, MapKept.IsKey .string x.key := by
  intro x hx
  obtain ⟨p, hp, rfl⟩ := List.mem_map.1 hx
  trivial
theorem entS_get (L : List (ByteArray × Value)) (j : Nat) : (entS L)[j]? = L[j]?.map (fun p => (⟨.string p.1, p.2, j⟩ : MapEntry)) := by
  simp only [entS, List.getElem?_map, List.getElem?_zipIdx, Option.map_map]
  cases L[j]? <;> simp
theorem entS_snoc (L : List (ByteArray × Value)) (k : ByteArray) (v : Value) : entS (L ++ [(k, v)]) = entS L ++ [⟨.string k, v, L.length⟩] := by
  simp [entS, List.zipIdx_append]
theorem beq_data {a b : ByteArray} : (a.data.toList == b.data.toList) = true ↔ a = b := by
  rw [beq_iff_eq]
  constructor
  · intro h
    cases a; cases b
    exact congrArg ByteArray.mk (Array.toList_inj.1 h)
  · rintro rfl; rfl
section
variable {P : Program} {m t b : TypeId} (um : P.underlying m = some (.map t b)) (ut : P.underlying t = some .string)
include um ut
theorem mapS_ins (W : World) (B : Nat) (L : List (ByteArray × Value)) (h : W.heap[B]? = some (mapO L)) (k : ByteArray) (v : Value) (hk : ∀ x ∈ L, x.1 ≠ k) :
    (Instr.mapUpdate m (.map (some B)) (.string k) v).run P W = .ok () { W with heap := W.heap.setIfInBounds B (mapO (L ++ [(k, v)])) } := by
  have hg := MapKept.run_getObj_map (P := P) h
  have hs := fun o => MapKept.run_setObj_map (P := P) o h
  have hc := MapKept.run_checkKey (P := P) (w := W) ut (k := .string k) trivial false 9999
  have hf : Instr.findNow .string (.string k) (entS L) 0 = some none := by
    rcases MapKept.findNow_spec (d := .string) (k := .string k) trivial (entS L) 0 (entS_keys _) with ⟨h, _⟩ | ⟨j, e, h1, h2, h3⟩
    · exact h
    · exfalso
      rw [entS_get] at h2
      obtain ⟨q, hq, rfl⟩ := Option.map_eq_some_iff.1 h2
      exact hk q (List.mem_of_getElem? hq) (Value.string.inj h3)
  have hfk := MapKept.run_findKey (P := P) (w := W) (l := (entS L).toArray.toList) ut (by simpa using hf)
  unfold Instr.mapUpdate
  simp only [run_underlying um, hg, hc, hfk, hs, Sem.run_bind, Result.andThen_ok]
  congr 3
  unfold mapO
  rw [entS_snoc]
  simp
theorem mapS_look {z : Value} (hz : ∀ w : World, (zeroValue b).run P w = .ok z w) (W : World) (B : Nat) (L : List (ByteArray × Value)) (h : W.heap[B]? = some (mapO L)) (hd : (L.map (·.1)).Nodup) (s : ByteArray) :
    (Instr.lookup m (.map (some B)) (.string s) true).run P W = .ok (.tuple #[(findS L s).getD z, .bool (findS L s).isSome]) W := by
  have hg := MapKept.run_getObj_map (P := P) h
  have hc := fun e => MapKept.run_checkKey (P := P) (w := W) ut (k := .string s) trivial e 9999
  have hcase : (Instr.findNow .string (.string s) (entS L) 0 = some none ∧ findS L s = none) ∨ ∃ j v, Instr.findNow .string (.string s) (entS L) 0 = some (some (j, v)) ∧ findS L s = some v := by
    rcases MapKept.findNow_spec (d := .string) (k := .string s) trivial (entS L) 0 (entS_keys _) with ⟨h1, h2⟩ | ⟨j, e, h1, h2, h3⟩
    · refine .inl ⟨h1, ?_⟩
      unfold findS
      rw [Option.map_eq_none_iff, List.find?_eq_none]
      intro q hq
      obtain ⟨i, hi, rfl⟩ := List.mem_iff_getElem.1 hq
      have hm : (⟨.string L[i].1, L[i].2, i⟩ : MapEntry) ∈ entS L := List.mem_of_getElem? (i := i) (by rw [entS_get, List.getElem?_eq_getElem hi]; rfl)
      have hne := h2 _ hm
      intro hh
      exact hne (congrArg Value.string (beq_data.1 hh))
    · rw [entS_get] at h2
      obtain ⟨q, hq, rfl⟩ := Option.map_eq_some_iff.1 h2
      refine .inr ⟨0 + j, q.2, h1, ?_⟩
      have hs : q.1 = s := Value.string.inj h3
      obtain ⟨hj, hjq⟩ := List.getElem?_eq_some_iff.1 hq
      unfold findS
      cases hf : L.find? (fun p => p.1.data.toList == s.data.toList) with
      | none =>
        rw [List.find?_eq_none] at hf
        exact absurd (beq_data.2 hs) (hf q (List.mem_of_getElem? hq))
      | some r =>
        have hr := List.find?_some hf
        obtain ⟨i, hi, hir⟩ := List.mem_iff_getElem.1 (List.mem_of_find?_eq_some hf)
        have e1 : r.1 = q.1 := by rw [hs]; exact beq_data.1 hr
        have hd' := List.pairwise_iff_getElem.1 hd
        have e2 : i = j := by
          rcases Nat.lt_trichotomy i j with hh | hh | hh
          · exact (hd' i j (by simpa using hi) (by simpa using hj) hh (by simp [hir, hjq, e1])).elim
          · exact hh
          · exact (hd' j i (by simpa using hj) (by simpa using hi) hh (by simp [hir, hjq, e1])).elim
        subst e2
        rw [hir] at hjq
        rw [hjq]; rfl
  unfold Instr.lookup
  rcases hcase with ⟨h1, h2⟩ | ⟨j, q, h1, h2⟩
  · have hfk := MapKept.run_findKey (P := P) (w := W) (l := (entS L).toArray.toList) ut (by simpa using h1)
    simp [run_underlying um, hg, hc, hfk, hz, Sem.run_bind, Result.andThen_ok, h2]
  · have hfk := MapKept.run_findKey (P := P) (w := W) (l := (entS L).toArray.toList) ut (by simpa using h1)
    simp [run_underlying um, hg, hc, hfk, Sem.run_bind, Result.andThen_ok, h2]
theorem mapS_step (W : World) (B : Nat) (L : List (ByteArray × Value)) (h : W.heap[B]? = some (mapO L)) (k : ByteArray) (v : Value) (hk : ∀ x ∈ L, x.1 ≠ k) :
    ∃ W', (Instr.mapUpdate m (.map (some B)) (.string k) v).run P W = .ok () W' ∧ W'.heap[B]? = some (mapO (L ++ [(k, v)])) ∧ Keep (· = B) W W' := by
  have hlt := lt_of_get h
  refine ⟨_, mapS_ins um ut W B L h k v hk, ?_, ⟨rfl, rfl, rfl, ?_, fun i hi hs => ?_⟩⟩
  · simp [hlt]
  · simp
  · simp only [Array.getElem?_setIfInBounds]
    rw [if_neg (fun e => hs e.symm)]
omit um ut in
theorem set_allocS (W : World) (x y : Obj) : ({ W.alloc x with heap := (W.alloc x).heap.setIfInBounds W.heap.size y } : World) = W.alloc y := by
  have e : ∀ z : Obj, (W.alloc z) = { W with heap := W.heap.push z } := fun _ => rfl
  rw [e, e]
  show ({ heap := (W.heap.push x).setIfInBounds W.heap.size y, tape := W.tape, drawn := W.drawn, os := W.os, output := W.output } : World) = { heap := W.heap.push y, tape := W.tape, drawn := W.drawn, os := W.os, output := W.output }
  congr 1
  apply Array.ext_getElem?
  intro i
  simp only [Array.getElem?_setIfInBounds, Array.getElem?_push, Array.size_push]
  by_cases h : W.heap.size = i
  · subst h; simp
  · rw [if_neg h, if_neg (fun hh => h hh.symm), if_neg (fun hh => h hh.symm)]
theorem mapS_last (W : World) (L : List (ByteArray × Value)) (k : ByteArray) (v : Value) (hk : ∀ x ∈ L, x.1 ≠ k) :
    (Instr.mapUpdate m (.map (some W.heap.size)) (.string k) v).run P (W.alloc (mapO L)) = .ok () (W.alloc (mapO (L ++ [(k, v)]))) := by
  rw [mapS_ins um ut (W.alloc (mapO L)) W.heap.size L (get_alloc_new _ _) k v hk, set_allocS]
end
end Go.Proofs.YtikehilbmldadaaGreatDoor
namespace Go.Proofs.YtikehilbmldadaaGreatDoor
open Go.RowKit
set_option linter.unusedVariables false
def fnV (f : Nat) : Value := .func (.func f) #[] #[]
def sayV (b : Nat) : Value := .func (.func 189) #[] #[.pointer (some ⟨b, 0, none⟩)]
def cmdV (n : Int) (f : Value) : Value := .agg #[.int .i64 n, f]
theorem say_any (f : Nat) (w : World) : Calls Tryz.prog 130 #[fnV f] w fun e w' => e = .returned (cmdV 0 (sayV w.heap.size)) ∧ w'.heap[w.heap.size]? = some (.cells #[fnV f] 220) ∧ Below w.heap.size w w' := by
  have b1 : Below w.heap.size w (w.alloc (.cells #[fnV f] 220)) := (Below.refl _ _).alloc (Nat.le_refl _) _
  have g1 := get_alloc_new w (.cells #[fnV f] 220)
  have hs : (w.alloc (.cells #[fnV f] 220)).heap.size = w.heap.size + 1 := by simp
  unfold fnV at b1 g1 hs ⊢
  unfold cmdV sayV
  go_enter Tryz.func130, Tryz.ntmps130
  go_upto_region 1 with fail
  generalize w.alloc _ = w1 at b1 g1 hs ⊢
  have b2 : Below w1.heap.size w1 (w1.alloc (.cells #[.int .i64 0, .nilFunc] 163)) := (Below.refl _ _).alloc (Nat.le_refl _) _
  have g2 := get_alloc_new w1 (.cells #[.int .i64 0, .nilFunc] 163)
  have g3 := below_get b2 g1 (lt_of_get g1)
  have B2 := Lib.hid (b1.trans (b2.mono b1.size))
  rw [hs] at g2
  clear b2 g1 b1 hs
  generalize w1.alloc _ = w2 at g2 g3 B2 ⊢
  have c0 : w2.cell? ⟨w.heap.size + 1, 0, none⟩ = some (.int .i64 0) := by simp [World.cell?, g2]
  have c1 : w2.cell? ⟨w.heap.size + 1, 1, none⟩ = some .nilFunc := by simp [World.cell?, g2]
  have cf : ∀ o, w2.frozen? ⟨w.heap.size + 1, o, none⟩ = false := by intro o; simp [World.frozen?, g2]
  have G3 := Lib.hid g3
  clear g2 g3
  have kv := fun v => (keep_set w2 (w.heap.size + 1) 0 (.int .i64 0)).setCell (p := ⟨w.heap.size + 1, 1, none⟩) (fun _ => rfl) v
  have KV := Lib.hid kv
  clear kv
  go_wp2_with fail
  refine bodyPost_ret (v := .agg #[.int .i64 0, .func (.func 189) #[] #[.pointer (some ⟨w.heap.size, 0, none⟩)]]) (by simp [results, Tryz.results130, go_sem, c0, c1, World.cell?_setCell_same, World.cell?_setCell_other]) rfl ?_
  exact ⟨rfl, by rw [(KV.out _).block _ (by have := B2.out.size; have := lt_of_get G3.out; omega) (by omega)]; exact G3.out, B2.out.trans ((KV.out _).below B2.out.size (fun b hb => by omega))⟩
def cmd7 : List (ByteArray × Value) := [
(⟨#[98, 101, 103, 105, 110]⟩, cmdV 1 (fnV 118)),
  (⟨#[115, 116, 111, 112]⟩, cmdV 1 (fnV 120)),
  (⟨#[114, 101, 112, 111, 114, 116]⟩, cmdV 2 (fnV 121)),
  (⟨#[116, 105, 99, 107]⟩, cmdV 1 (fnV 122)),
  (⟨#[99, 117, 116]⟩, cmdV 1 (fnV 124)),
  (⟨#[98, 111, 111, 116]⟩, cmdV 0 (fnV 126)),
  (⟨#[115, 116, 97, 116, 117, 115]⟩, cmdV 1 (fnV 128))]
def cmd14 (b : Nat → Nat) : List (ByteArray × Value) := cmd7 ++ [(⟨#[110, 111, 119]⟩, cmdV 0 (sayV (b 0))), (⟨#[107, 105, 99, 107, 115]⟩, cmdV 0 (sayV (b 1))), (⟨#[116, 111, 116, 97, 108]⟩, cmdV 0 (sayV (b 2))), (⟨#[115, 116, 97, 116, 101]⟩, cmdV 0 (sayV (b 3))), (⟨#[99, 97, 117, 115, 101]⟩, cmdV 0 (sayV (b 4))), (⟨#[108, 111, 103]⟩, cmdV 0 (sayV (b 5))), (⟨#[99, 111, 110, 102, 105, 103]⟩, cmdV 0 (sayV (b 6)))]
def sayF : List Nat := [131, 132, 133, 134, 135, 138, 140]
def CmdSt (w v : World) (b : Nat → Nat) (n : Nat) : Prop := (∀ i, i < n → v.heap[b i]? = some (.cells #[fnV (sayF.getD i 0)] 220) ∧ w.heap.size < b i) ∧ Below w.heap.size w v
theorem CmdSt.next {w v s v' : World} {b : Nat → Nat} {n f : Nat} (h : CmdSt w v b n) (E : w.heap.size < v.heap.size ∧ s.heap[v.heap.size]? = some (.cells #[fnV f] 220) ∧ Below v.heap.size v s ∧ Keep (· = w.heap.size) s v') (hb : b n = v.heap.size) (hf : sayF.getD n 0 = f) : CmdSt w v' b (n + 1) := by
  obtain ⟨e1, e2, e3, e4⟩ := E
  have hs := e3.size
  refine ⟨fun i hi => ?_, ?_⟩
  · by_cases hin : i < n
    · obtain ⟨g1, g2⟩ := h.1 i hin
      have l1 := lt_of_get g1
      exact ⟨by rw [e4.block _ (by omega) (by omega)]; exact below_get e3 g1 l1, g2⟩
    · obtain rfl : i = n := by omega
      rw [hb, hf]
      exact ⟨by rw [e4.block _ (lt_of_get e2) (by omega)]; exact e2, e1⟩
  · exact (h.2.trans (e3.mono (by omega))).trans (e4.below (by omega) (fun b hb => by omega))
def cmdL (k : Nat) : List (ByteArray × Value) := cmd7.take k
theorem commands_any (w : World) : Calls Tryz.prog 76 #[] w fun e w' => ∃ b : Nat → Nat, e = .returned (.map (some w.heap.size)) ∧ w'.heap[w.heap.size]? = some (mapO (cmd14 b)) ∧ (∀ i, i < 7 → w'.heap[b i]? = some (.cells #[fnV (sayF.getD i 0)] 220)) ∧ Below w.heap.size w w' := by
  have hm := fun (W : World) => show (Instr.makeMap 165 none).run Tryz.prog W = .ok (.map (some W.heap.size)) (W.alloc (mapO (cmdL 0))) from rfl
  have h0 := fun (W : World) => show (Instr.mapUpdate 165 (.map (some W.heap.size)) (.string ⟨#[98, 101, 103, 105, 110]⟩) (.agg #[.int .i64 1, .func (.func 118) #[] #[]])).run Tryz.prog (W.alloc (mapO (cmdL 0))) = .ok () (W.alloc (mapO (cmdL 1))) from mapS_last Tryz.underlying165 Tryz.underlying9 W (cmdL 0) _ _ (by decide)
  have h1 := fun (W : World) => show (Instr.mapUpdate 165 (.map (some W.heap.size)) (.string ⟨#[115, 116, 111, 112]⟩) (.agg #[.int .i64 1, .func (.func 120) #[] #[]])).run Tryz.prog (W.alloc (mapO (cmdL 1))) = .ok () (W.alloc (mapO (cmdL 2))) from mapS_last Tryz.underlying165 Tryz.underlying9 W (cmdL 1) _ _ (by decide)
  have h2 := fun (W : World) => show (Instr.mapUpdate 165 (.map (some W.heap.size)) (.string ⟨#[114, 101, 112, 111, 114, 116]⟩) (.agg #[.int .i64 2, .func (.func 121) #[] #[]])).run Tryz.prog (W.alloc (mapO (cmdL 2))) = .ok () (W.alloc (mapO (cmdL 3))) from mapS_last Tryz.underlying165 Tryz.underlying9 W (cmdL 2) _ _ (by decide)
  have h3 := fun (W : World) => show (Instr.mapUpdate 165 (.map (some W.heap.size)) (.string ⟨#[116, 105, 99, 107]⟩) (.agg #[.int .i64 1, .func (.func 122) #[] #[]])).run Tryz.prog (W.alloc (mapO (cmdL 3))) = .ok () (W.alloc (mapO (cmdL 4))) from mapS_last Tryz.underlying165 Tryz.underlying9 W (cmdL 3) _ _ (by decide)
  have h4 := fun (W : World) => show (Instr.mapUpdate 165 (.map (some W.heap.size)) (.string ⟨#[99, 117, 116]⟩) (.agg #[.int .i64 1, .func (.func 124) #[] #[]])).run Tryz.prog (W.alloc (mapO (cmdL 4))) = .ok () (W.alloc (mapO (cmdL 5))) from mapS_last Tryz.underlying165 Tryz.underlying9 W (cmdL 4) _ _ (by decide)
  have h5 := fun (W : World) => show (Instr.mapUpdate 165 (.map (some W.heap.size)) (.string ⟨#[98, 111, 111, 116]⟩) (.agg #[.int .i64 0, .func (.func 126) #[] #[]])).run Tryz.prog (W.alloc (mapO (cmdL 5))) = .ok () (W.alloc (mapO (cmdL 6))) from mapS_last Tryz.underlying165 Tryz.underlying9 W (cmdL 5) _ _ (by decide)
  have h6 := fun (W : World) => show (Instr.mapUpdate 165 (.map (some W.heap.size)) (.string ⟨#[115, 116, 97, 116, 117, 115]⟩) (.agg #[.int .i64 1, .func (.func 128) #[] #[]])).run Tryz.prog (W.alloc (mapO (cmdL 6))) = .ok () (W.alloc (mapO (cmdL 7))) from mapS_last Tryz.underlying165 Tryz.underlying9 W (cmdL 6) _ _ (by decide)
  have hq : Below w.heap.size w (w.alloc (mapO (cmdL 7))) := (Below.refl _ _).alloc (Nat.le_refl _) _
  have gq := get_alloc_new w (mapO (cmdL 7))
  go_enter Tryz.func76, Tryz.ntmps76
  go_wp2_with fail
  clear hm h0 h1 h2 h3 h4 h5 h6
  generalize w.alloc _ = v0 at hq gq ⊢
  have HQ0 := Lib.hid hq
  have GQ0 := Lib.hid gq
  clear hq gq
  refine (say_any 131 v0).mono ?_
  rintro e s0 ⟨rfl, gs0, bs0⟩
  obtain ⟨v1, hr0, hm0, hk0⟩ := mapS_step Tryz.underlying165 Tryz.underlying9 s0 w.heap.size _ (below_get bs0 GQ0.out (lt_of_get GQ0.out)) ⟨#[110, 111, 119]⟩ (cmdV 0 (sayV v0.heap.size)) (fun x hx => (show ∀ y ∈ ([⟨#[98, 101, 103, 105, 110]⟩, ⟨#[115, 116, 111, 112]⟩, ⟨#[114, 101, 112, 111, 114, 116]⟩, ⟨#[116, 105, 99, 107]⟩, ⟨#[99, 117, 116]⟩, ⟨#[98, 111, 111, 116]⟩, ⟨#[115, 116, 97, 116, 117, 115]⟩, ⟨#[110, 111, 119]⟩, ⟨#[107, 105, 99, 107, 115]⟩, ⟨#[116, 111, 116, 97, 108]⟩, ⟨#[115, 116, 97, 116, 101]⟩, ⟨#[99, 97, 117, 115, 101]⟩, ⟨#[108, 111, 103]⟩, ⟨#[99, 111, 110, 102, 105, 103]⟩] : List ByteArray).take 7, y ≠ ⟨#[110, 111, 119]⟩ by decide) _ (List.mem_map_of_mem (f := Prod.fst) hx))
  have GQ1 := Lib.hid hm0
  have E0 := Lib.hid (And.intro (lt_of_get GQ0.out) (And.intro gs0 (And.intro bs0 hk0)))
  clear gs0 bs0 hm0 hk0
  unfold cmdV sayV at hr0 ⊢
  go_wp2_with fail
  clear hr0
  refine (say_any 132 v1).mono ?_
  rintro e s1 ⟨rfl, gs1, bs1⟩
  obtain ⟨v2, hr1, hm1, hk1⟩ := mapS_step Tryz.underlying165 Tryz.underlying9 s1 w.heap.size _ (below_get bs1 GQ1.out (lt_of_get GQ1.out)) ⟨#[107, 105, 99, 107, 115]⟩ (cmdV 0 (sayV v1.heap.size)) (fun x hx => (show ∀ y ∈ ([⟨#[98, 101, 103, 105, 110]⟩, ⟨#[115, 116, 111, 112]⟩, ⟨#[114, 101, 112, 111, 114, 116]⟩, ⟨#[116, 105, 99, 107]⟩, ⟨#[99, 117, 116]⟩, ⟨#[98, 111, 111, 116]⟩, ⟨#[115, 116, 97, 116, 117, 115]⟩, ⟨#[110, 111, 119]⟩, ⟨#[107, 105, 99, 107, 115]⟩, ⟨#[116, 111, 116, 97, 108]⟩, ⟨#[115, 116, 97, 116, 101]⟩, ⟨#[99, 97, 117, 115, 101]⟩, ⟨#[108, 111, 103]⟩, ⟨#[99, 111, 110, 102, 105, 103]⟩] : List ByteArray).take 8, y ≠ ⟨#[107, 105, 99, 107, 115]⟩ by decide) _ (List.mem_map_of_mem (f := Prod.fst) hx))
  have GQ2 := Lib.hid hm1
  have E1 := Lib.hid (And.intro (lt_of_get GQ1.out) (And.intro gs1 (And.intro bs1 hk1)))
  clear gs1 bs1 hm1 hk1
  unfold cmdV sayV at hr1 ⊢
  go_wp2_with fail
  clear hr1
  refine (say_any 133 v2).mono ?_
  rintro e s2 ⟨rfl, gs2, bs2⟩
  obtain ⟨v3, hr2, hm2, hk2⟩ := mapS_step Tryz.underlying165 Tryz.underlying9 s2 w.heap.size _ (below_get bs2 GQ2.out (lt_of_get GQ2.out)) ⟨#[116, 111, 116, 97, 108]⟩ (cmdV 0 (sayV v2.heap.size)) (fun x hx => (show ∀ y ∈ ([⟨#[98, 101, 103, 105, 110]⟩, ⟨#[115, 116, 111, 112]⟩, ⟨#[114, 101, 112, 111, 114, 116]⟩, ⟨#[116, 105, 99, 107]⟩, ⟨#[99, 117, 116]⟩, ⟨#[98, 111, 111, 116]⟩, ⟨#[115, 116, 97, 116, 117, 115]⟩, ⟨#[110, 111, 119]⟩, ⟨#[107, 105, 99, 107, 115]⟩, ⟨#[116, 111, 116, 97, 108]⟩, ⟨#[115, 116, 97, 116, 101]⟩, ⟨#[99, 97, 117, 115, 101]⟩, ⟨#[108, 111, 103]⟩, ⟨#[99, 111, 110, 102, 105, 103]⟩] : List ByteArray).take 9, y ≠ ⟨#[116, 111, 116, 97, 108]⟩ by decide) _ (List.mem_map_of_mem (f := Prod.fst) hx))
  have GQ3 := Lib.hid hm2
  have E2 := Lib.hid (And.intro (lt_of_get GQ2.out) (And.intro gs2 (And.intro bs2 hk2)))
  clear gs2 bs2 hm2 hk2
  unfold cmdV sayV at hr2 ⊢
  go_wp2_with fail
  clear hr2
  refine (say_any 134 v3).mono ?_
  rintro e s3 ⟨rfl, gs3, bs3⟩
  obtain ⟨v4, hr3, hm3, hk3⟩ := mapS_step Tryz.underlying165 Tryz.underlying9 s3 w.heap.size _ (below_get bs3 GQ3.out (lt_of_get GQ3.out)) ⟨#[115, 116, 97, 116, 101]⟩ (cmdV 0 (sayV v3.heap.size)) (fun x hx => (show ∀ y ∈ ([⟨#[98, 101, 103, 105, 110]⟩, ⟨#[115, 116, 111, 112]⟩, ⟨#[114, 101, 112, 111, 114, 116]⟩, ⟨#[116, 105, 99, 107]⟩, ⟨#[99, 117, 116]⟩, ⟨#[98, 111, 111, 116]⟩, ⟨#[115, 116, 97, 116, 117, 115]⟩, ⟨#[110, 111, 119]⟩, ⟨#[107, 105, 99, 107, 115]⟩, ⟨#[116, 111, 116, 97, 108]⟩, ⟨#[115, 116, 97, 116, 101]⟩, ⟨#[99, 97, 117, 115, 101]⟩, ⟨#[108, 111, 103]⟩, ⟨#[99, 111, 110, 102, 105, 103]⟩] : List ByteArray).take 10, y ≠ ⟨#[115, 116, 97, 116, 101]⟩ by decide) _ (List.mem_map_of_mem (f := Prod.fst) hx))
  have GQ4 := Lib.hid hm3
  have E3 := Lib.hid (And.intro (lt_of_get GQ3.out) (And.intro gs3 (And.intro bs3 hk3)))
  clear gs3 bs3 hm3 hk3
  unfold cmdV sayV at hr3 ⊢
  go_wp2_with fail
  clear hr3
  refine (say_any 135 v4).mono ?_
  rintro e s4 ⟨rfl, gs4, bs4⟩
  obtain ⟨v5, hr4, hm4, hk4⟩ := mapS_step Tryz.underlying165 Tryz.underlying9 s4 w.heap.size _ (below_get bs4 GQ4.out (lt_of_get GQ4.out)) ⟨#[99, 97, 117, 115, 101]⟩ (cmdV 0 (sayV v4.heap.size)) (fun x hx => (show ∀ y ∈ ([⟨#[98, 101, 103, 105, 110]⟩, ⟨#[115, 116, 111, 112]⟩, ⟨#[114, 101, 112, 111, 114, 116]⟩, ⟨#[116, 105, 99, 107]⟩, ⟨#[99, 117, 116]⟩, ⟨#[98, 111, 111, 116]⟩, ⟨#[115, 116, 97, 116, 117, 115]⟩, ⟨#[110, 111, 119]⟩, ⟨#[107, 105, 99, 107, 115]⟩, ⟨#[116, 111, 116, 97, 108]⟩, ⟨#[115, 116, 97, 116, 101]⟩, ⟨#[99, 97, 117, 115, 101]⟩, ⟨#[108, 111, 103]⟩, ⟨#[99, 111, 110, 102, 105, 103]⟩] : List ByteArray).take 11, y ≠ ⟨#[99, 97, 117, 115, 101]⟩ by decide) _ (List.mem_map_of_mem (f := Prod.fst) hx))
  have GQ5 := Lib.hid hm4
  have E4 := Lib.hid (And.intro (lt_of_get GQ4.out) (And.intro gs4 (And.intro bs4 hk4)))
  clear gs4 bs4 hm4 hk4
  unfold cmdV sayV at hr4 ⊢
  go_wp2_with fail
  clear hr4
  refine (say_any 138 v5).mono ?_
  rintro e s5 ⟨rfl, gs5, bs5⟩
  obtain ⟨v6, hr5, hm5, hk5⟩ := mapS_step Tryz.underlying165 Tryz.underlying9 s5 w.heap.size _ (below_get bs5 GQ5.out (lt_of_get GQ5.out)) ⟨#[108, 111, 103]⟩ (cmdV 0 (sayV v5.heap.size)) (fun x hx => (show ∀ y ∈ ([⟨#[98, 101, 103, 105, 110]⟩, ⟨#[115, 116, 111, 112]⟩, ⟨#[114, 101, 112, 111, 114, 116]⟩, ⟨#[116, 105, 99, 107]⟩, ⟨#[99, 117, 116]⟩, ⟨#[98, 111, 111, 116]⟩, ⟨#[115, 116, 97, 116, 117, 115]⟩, ⟨#[110, 111, 119]⟩, ⟨#[107, 105, 99, 107, 115]⟩, ⟨#[116, 111, 116, 97, 108]⟩, ⟨#[115, 116, 97, 116, 101]⟩, ⟨#[99, 97, 117, 115, 101]⟩, ⟨#[108, 111, 103]⟩, ⟨#[99, 111, 110, 102, 105, 103]⟩] : List ByteArray).take 12, y ≠ ⟨#[108, 111, 103]⟩ by decide) _ (List.mem_map_of_mem (f := Prod.fst) hx))
  have GQ6 := Lib.hid hm5
  have E5 := Lib.hid (And.intro (lt_of_get GQ5.out) (And.intro gs5 (And.intro bs5 hk5)))
  clear gs5 bs5 hm5 hk5
  unfold cmdV sayV at hr5 ⊢
  go_wp2_with fail
  clear hr5
  refine (say_any 140 v6).mono ?_
  rintro e s6 ⟨rfl, gs6, bs6⟩
  obtain ⟨v7, hr6, hm6, hk6⟩ := mapS_step Tryz.underlying165 Tryz.underlying9 s6 w.heap.size _ (below_get bs6 GQ6.out (lt_of_get GQ6.out)) ⟨#[99, 111, 110, 102, 105, 103]⟩ (cmdV 0 (sayV v6.heap.size)) (fun x hx => (show ∀ y ∈ ([⟨#[98, 101, 103, 105, 110]⟩, ⟨#[115, 116, 111, 112]⟩, ⟨#[114, 101, 112, 111, 114, 116]⟩, ⟨#[116, 105, 99, 107]⟩, ⟨#[99, 117, 116]⟩, ⟨#[98, 111, 111, 116]⟩, ⟨#[115, 116, 97, 116, 117, 115]⟩, ⟨#[110, 111, 119]⟩, ⟨#[107, 105, 99, 107, 115]⟩, ⟨#[116, 111, 116, 97, 108]⟩, ⟨#[115, 116, 97, 116, 101]⟩, ⟨#[99, 97, 117, 115, 101]⟩, ⟨#[108, 111, 103]⟩, ⟨#[99, 111, 110, 102, 105, 103]⟩] : List ByteArray).take 13, y ≠ ⟨#[99, 111, 110, 102, 105, 103]⟩ by decide) _ (List.mem_map_of_mem (f := Prod.fst) hx))
  have GQ7 := Lib.hid hm6
  have E6 := Lib.hid (And.intro (lt_of_get GQ6.out) (And.intro gs6 (And.intro bs6 hk6)))
  clear gs6 bs6 hm6 hk6
  unfold cmdV sayV at hr6 ⊢
  go_wp2_with fail
  clear hr6
  go_ret
  refine ⟨fun i => ([v0.heap.size, v1.heap.size, v2.heap.size, v3.heap.size, v4.heap.size, v5.heap.size, v6.heap.size] : List Nat).getD i 0, rfl, GQ7.out, ?_⟩
  have c0 : CmdSt w v0 (fun i => ([v0.heap.size, v1.heap.size, v2.heap.size, v3.heap.size, v4.heap.size, v5.heap.size, v6.heap.size] : List Nat).getD i 0) 0 := ⟨fun i hi => by omega, HQ0.out⟩
  have c1 := c0.next E0.out rfl rfl
  have c2 := c1.next E1.out rfl rfl
  have c3 := c2.next E2.out rfl rfl
  have c4 := c3.next E3.out rfl rfl
  have c5 := c4.next E4.out rfl rfl
  have c6 := c5.next E5.out rfl rfl
  have c7 := c6.next E6.out rfl rfl
  exact ⟨fun i hi => (c7.1 i hi).1, c7.2⟩
end Go.Proofs.YtikehilbmldadaaGreatDoor
namespace Go.Proofs.YtikehilbmldadaaGreatDoor
open Go.RowKit
set_option linter.unusedVariables false
def plC (kb c : Nat) : Obj := .cells #[.pointer (some ⟨kb, 0, none⟩), .pointer (some ⟨c, 0, none⟩)] 98
theorem pl_cells {w : World} {pb kb c : Nat} (h : w.heap[pb]? = some (plC kb c)) : w.cell? ⟨pb, 0, none⟩ = some (.pointer (some ⟨kb, 0, none⟩)) ∧ w.cell? ⟨pb, 1, none⟩ = some (.pointer (some ⟨c, 0, none⟩)) := by
  unfold plC at h
  simp [World.cell?, h]
section
variable {B : Nat} {sa : Nat → Addr} {w0 : World} {kb c pb : Nat} {txt : ByteArray} {x : KpX} {M : KpM} {o : Nat → Nat} {w : World} {T : Nat}
def DoPost (B : Nat) (sa : Nat → Addr) (w0 : World) (kb c : Nat) (txt : ByteArray) (r : Nat × ByteArray × KpM) (o : Nat → Nat) (w : World) (e : Ending) (w' : World) : Prop :=
  e = .returned (.tuple #[.string r.2.1, errv sa r.1]) ∧ ∃ x' o', KpIn B sa w0 kb c txt x' r.2.2 o' w' ∧ Fr o o' w w'
theorem KpPost.from {W W' : World} {r : Nat × KpM} {e : Ending} (hW : Below w.heap.size w W) (hh : KpPost B sa w0 kb c txt r o W e W') :
    e = .returned (errv sa r.1) ∧ (∀ b i v, w.cell? ⟨b, i, none⟩ = some v → o b = 0 → W'.cell? ⟨b, i, none⟩ = some v) ∧ ∃ x' o', KpIn B sa w0 kb c txt x' r.2 o' W' ∧ Fr o o' w W' := by
  obtain ⟨h1, x', o', h2, h3⟩ := hh
  have hf : Fr o o' w W' := (Fr.below o hW).trans h3
  refine ⟨h1, fun b i v hv ho => ?_, x', o', h2, hf⟩
  rw [hf.kp.cell (p := ⟨b, i, none⟩) (World.block_lt_of_cell? w ⟨b, i, none⟩ hv) (by simp only [ho]; exact fun h => h rfl)]
  exact hv
theorem doZ_below {M' : KpM} {w1 W : World} (h : ∃ x' o', KpIn B sa w0 kb c txt x' M' o' w1 ∧ Fr o o' w w1) (b : Below w1.heap.size w1 W) : ∃ x' o', KpIn B sa w0 kb c txt x' M' o' W ∧ Fr o o' w W := by
  obtain ⟨x', o', h1, h2⟩ := h
  exact ⟨x', o', h1.below b, h2.trans (Fr.below o' b)⟩
theorem kpStatus_any (h : KpIn B sa w0 kb c txt x M o w) (n : Nat) :
    Calls Tryz.prog 129 #[.pointer (some ⟨kb, 0, none⟩), .int .i64 n] w fun e w' => e = .returned (.tuple #[.string (scDo txt M 6 [n]).2.1, errv sa (scDo txt M 6 [n]).1]) ∧ Below w.heap.size w w' := by
  by_cases hn : n < M.A.length
  · have e : scDo txt M 6 [n] = (0, kpStat (kpGet M n), M) := by
      unfold scDo
      simp only [List.getD_cons_zero]
      rw [if_pos (by omega)]
      simp
    rw [e]
    exact (kpStatus_ok h n hn).mono (fun e w' ⟨h1, h2⟩ => ⟨h1, h2 ▸ Below.refl _ _⟩)
  · have e : scDo txt M 6 [n] = (5, ByteArray.empty, M) := by
      unfold scDo
      simp only [List.getD_cons_zero]
      rw [if_neg (by omega)]
    rw [e]
    exact kpStatus_bad h n hn
theorem scDo6 (txt : ByteArray) (M : KpM) (n : Nat) : (scDo txt M 6 [n]).2.2 = M := by
  unfold scDo
  simp only
  split <;> rfl
theorem cmd1_any (h : KpIn B sa w0 kb c txt x M o w) (hO : KpOk M T) (hp : w.heap[pb]? = some (plC kb c)) (ho : o pb = 0) (nb cap n0 : Nat) (hn0 : w.cell? ⟨nb, 0, none⟩ = some (.int .i64 n0)) (hnb : o nb = 0) :
    Calls Tryz.prog 118 #[.pointer (some ⟨pb, 0, none⟩), .slice (some ⟨nb, 0, none⟩) 1 cap] w (DoPost B sa w0 kb c txt (scDo txt M 0 [n0]) o w) := by
  obtain ⟨p0, p1⟩ := pl_cells hp
  obtain ⟨r, hr⟩ : ∃ r : Nat × KpM, r = kpBegin M (n0 : Int) := ⟨_, rfl⟩
  have HB := Lib.hid (fun W (hW : Below w.heap.size w W) => (kpBegin_any (h.below hW) hO (n0 : Int)).mono (fun e w' hh => KpPost.from hW hh))
  have hd : scDo txt M 0 [n0] = (r.1, okS, r.2) := by rw [hr]; rfl
  rw [hd]
  rw [← hr] at HB
  have HC := Lib.hid (fun (w' : World) (hc : ∀ b i v, w.cell? ⟨b, i, none⟩ = some v → o b = 0 → w'.cell? ⟨b, i, none⟩ = some v) => (show w'.cell? ⟨pb, 0, none⟩ = some (.pointer (some ⟨kb, 0, none⟩)) ∧ w'.cell? ⟨nb, 0, none⟩ = some (.int .i64 n0) from ⟨hc pb 0 _ p0 ho, hc nb 0 _ hn0 hnb⟩))
  obtain ⟨re, rM⟩ := r
  unfold DoPost
  clear h hO hp ho hr hd hnb
  go_enter Tryz.func118, Tryz.ntmps118
  go_wp2_with fail
  go_region_held3 (fun w' => w'.cell? ⟨pb, 0, none⟩ = some (.pointer (some ⟨kb, 0, none⟩)) ∧ w'.cell? ⟨nb, 0, none⟩ = some (.int .i64 n0))
    (first | exact ⟨p0, hn0⟩ | exact HC.out _ hcx.out)
    (first | (go_at_call 20; refine (HB.out _ ?_).mono ?_; (repeat (first | exact Below.refl _ _ | refine Below.drew ?_)); rintro e w1 ⟨rfl, hc, z⟩; have hcx := Lib.hid hc; have HZ := Lib.hid z; clear hc z) | (go_at_call 119; refine (scOk_any _ _).mono ?_; rintro e w2 ⟨rfl, rfl⟩))
  all_goals
    go_wp2_with fail
    go_ret2
    exact ⟨rfl, doZ_below HZ.out (by repeat (first | exact Below.refl _ _ | refine Below.drew ?_))⟩
theorem cmd2_any (h : KpIn B sa w0 kb c txt x M o w) (hO : KpOk M T) (hp : w.heap[pb]? = some (plC kb c)) (ho : o pb = 0) (nb cap n0 : Nat) (hn0 : w.cell? ⟨nb, 0, none⟩ = some (.int .i64 n0)) (hnb : o nb = 0) :
    Calls Tryz.prog 120 #[.pointer (some ⟨pb, 0, none⟩), .slice (some ⟨nb, 0, none⟩) 1 cap] w (DoPost B sa w0 kb c txt (scDo txt M 1 [n0]) o w) := by
  obtain ⟨p0, p1⟩ := pl_cells hp
  obtain ⟨r, hr⟩ : ∃ r : Nat × KpM, r = kpStop M (n0 : Int) := ⟨_, rfl⟩
  have HB := Lib.hid (fun W (hW : Below w.heap.size w W) => (kpStop_any (h.below hW) hO (n0 : Int)).mono (fun e w' hh => KpPost.from hW hh))
  have hd : scDo txt M 1 [n0] = (r.1, okS, r.2) := by rw [hr]; rfl
  rw [hd]
  rw [← hr] at HB
  have HC := Lib.hid (fun (w' : World) (hc : ∀ b i v, w.cell? ⟨b, i, none⟩ = some v → o b = 0 → w'.cell? ⟨b, i, none⟩ = some v) => (show w'.cell? ⟨pb, 0, none⟩ = some (.pointer (some ⟨kb, 0, none⟩)) ∧ w'.cell? ⟨nb, 0, none⟩ = some (.int .i64 n0) from ⟨hc pb 0 _ p0 ho, hc nb 0 _ hn0 hnb⟩))
  obtain ⟨re, rM⟩ := r
  unfold DoPost
  clear h hO hp ho hr hd hnb
  go_enter Tryz.func120, Tryz.ntmps120
  go_wp2_with fail
  go_region_held3 (fun w' => w'.cell? ⟨pb, 0, none⟩ = some (.pointer (some ⟨kb, 0, none⟩)) ∧ w'.cell? ⟨nb, 0, none⟩ = some (.int .i64 n0))
    (first | exact ⟨p0, hn0⟩ | exact HC.out _ hcx.out)
    (first | (go_at_call 21; refine (HB.out _ ?_).mono ?_; (repeat (first | exact Below.refl _ _ | refine Below.drew ?_)); rintro e w1 ⟨rfl, hc, z⟩; have hcx := Lib.hid hc; have HZ := Lib.hid z; clear hc z) | (go_at_call 119; refine (scOk_any _ _).mono ?_; rintro e w2 ⟨rfl, rfl⟩))
  all_goals
    go_wp2_with fail
    go_ret2
    exact ⟨rfl, doZ_below HZ.out (by repeat (first | exact Below.refl _ _ | refine Below.drew ?_))⟩
theorem cmd3_any (h : KpIn B sa w0 kb c txt x M o w) (hO : KpOk M T) (hp : w.heap[pb]? = some (plC kb c)) (ho : o pb = 0) (nb cap n0 n1 : Nat) (hn0 : w.cell? ⟨nb, 0, none⟩ = some (.int .i64 n0)) (hn1 : w.cell? ⟨nb, 1, none⟩ = some (.int .i64 n1)) (hnb : o nb = 0) :
    Calls Tryz.prog 121 #[.pointer (some ⟨pb, 0, none⟩), .slice (some ⟨nb, 0, none⟩) 2 cap] w (DoPost B sa w0 kb c txt (scDo txt M 2 [n0, n1]) o w) := by
  obtain ⟨p0, p1⟩ := pl_cells hp
  obtain ⟨r, hr⟩ : ∃ r : Nat × KpM, r = kpReport M (n0 : Int) (n1 : Int) := ⟨_, rfl⟩
  have HB := Lib.hid (fun W (hW : Below w.heap.size w W) => (kpReport_any (h.below hW) hO (n0 : Int) (n1 : Int)).mono (fun e w' hh => KpPost.from hW hh))
  have hd : scDo txt M 2 [n0, n1] = (r.1, okS, r.2) := by rw [hr]; rfl
  rw [hd]
  rw [← hr] at HB
  have HC := Lib.hid (fun (w' : World) (hc : ∀ b i v, w.cell? ⟨b, i, none⟩ = some v → o b = 0 → w'.cell? ⟨b, i, none⟩ = some v) => (show w'.cell? ⟨pb, 0, none⟩ = some (.pointer (some ⟨kb, 0, none⟩)) ∧ w'.cell? ⟨nb, 0, none⟩ = some (.int .i64 n0) ∧ w'.cell? ⟨nb, 1, none⟩ = some (.int .i64 n1) from ⟨hc pb 0 _ p0 ho, hc nb 0 _ hn0 hnb, hc nb 1 _ hn1 hnb⟩))
  obtain ⟨re, rM⟩ := r
  unfold DoPost
  clear h hO hp ho hr hd hnb
  go_enter Tryz.func121, Tryz.ntmps121
  go_wp2_with fail
  go_region_held3 (fun w' => w'.cell? ⟨pb, 0, none⟩ = some (.pointer (some ⟨kb, 0, none⟩)) ∧ w'.cell? ⟨nb, 0, none⟩ = some (.int .i64 n0) ∧ w'.cell? ⟨nb, 1, none⟩ = some (.int .i64 n1))
    (first | exact ⟨p0, hn0, hn1⟩ | exact HC.out _ hcx.out)
    (first | (go_at_call 22; refine (HB.out _ ?_).mono ?_; (repeat (first | exact Below.refl _ _ | refine Below.drew ?_)); rintro e w1 ⟨rfl, hc, z⟩; have hcx := Lib.hid hc; have HZ := Lib.hid z; clear hc z) | (go_at_call 119; refine (scOk_any _ _).mono ?_; rintro e w2 ⟨rfl, rfl⟩))
  all_goals
    go_wp2_with fail
    go_ret2
    exact ⟨rfl, doZ_below HZ.out (by repeat (first | exact Below.refl _ _ | refine Below.drew ?_))⟩
theorem cmd4_any (h : KpIn B sa w0 kb c txt x M o w) (hO : KpOk M T) (hp : w.heap[pb]? = some (plC kb c)) (ho : o pb = 0) (nb cap n0 : Nat) (hn0 : w.cell? ⟨nb, 0, none⟩ = some (.int .i64 n0)) (hnb : o nb = 0) (hT : T + 2 * n0 ≤ 400000) :
    Calls Tryz.prog 122 #[.pointer (some ⟨pb, 0, none⟩), .slice (some ⟨nb, 0, none⟩) 1 cap] w (DoPost B sa w0 kb c txt (scDo txt M 3 [n0]) o w) := by
  obtain ⟨p0, p1⟩ := pl_cells hp
  obtain ⟨r, hr⟩ : ∃ r : Nat × KpM, r = kpTicks M n0 := ⟨_, rfl⟩
  have HB := Lib.hid (fun W (hW : Below w.heap.size w W) => (playTicks_any (h.below hW) hO n0 hT).mono (fun e w' hh => KpPost.from hW hh))
  have hd : scDo txt M 3 [n0] = (r.1, okS, r.2) := by rw [hr]; rfl
  rw [hd]
  rw [← hr] at HB
  have HC := Lib.hid (fun (w' : World) (hc : ∀ b i v, w.cell? ⟨b, i, none⟩ = some v → o b = 0 → w'.cell? ⟨b, i, none⟩ = some v) => (show w'.cell? ⟨pb, 0, none⟩ = some (.pointer (some ⟨kb, 0, none⟩)) ∧ w'.cell? ⟨nb, 0, none⟩ = some (.int .i64 n0) from ⟨hc pb 0 _ p0 ho, hc nb 0 _ hn0 hnb⟩))
  obtain ⟨re, rM⟩ := r
  unfold DoPost
  clear h hO hp ho hr hd hnb hT
  go_enter Tryz.func122, Tryz.ntmps122
  go_wp2_with fail
  go_region_held3 (fun w' => w'.cell? ⟨pb, 0, none⟩ = some (.pointer (some ⟨kb, 0, none⟩)) ∧ w'.cell? ⟨nb, 0, none⟩ = some (.int .i64 n0))
    (first | exact ⟨p0, hn0⟩ | exact HC.out _ hcx.out)
    (first | (go_at_call 123; refine (HB.out _ ?_).mono ?_; (repeat (first | exact Below.refl _ _ | refine Below.drew ?_)); rintro e w1 ⟨rfl, hc, z⟩; have hcx := Lib.hid hc; have HZ := Lib.hid z; clear hc z) | (go_at_call 119; refine (scOk_any _ _).mono ?_; rintro e w2 ⟨rfl, rfl⟩))
  all_goals
    go_wp2_with fail
    go_ret2
    exact ⟨rfl, doZ_below HZ.out (by repeat (first | exact Below.refl _ _ | refine Below.drew ?_))⟩
theorem cmd5_any (h : KpIn B sa w0 kb c txt x M o w) (hO : KpOk M T) (hp : w.heap[pb]? = some (plC kb c)) (ho : o pb = 0) (nb cap n0 : Nat) (hn0 : w.cell? ⟨nb, 0, none⟩ = some (.int .i64 n0)) (hnb : o nb = 0) :
    Calls Tryz.prog 124 #[.pointer (some ⟨pb, 0, none⟩), .slice (some ⟨nb, 0, none⟩) 1 cap] w (DoPost B sa w0 kb c txt (scDo txt M 4 [n0]) o w) := by
  obtain ⟨p0, p1⟩ := pl_cells hp
  obtain ⟨r, hr⟩ : ∃ r : Nat × KpM, r = ((cutE M.m.off (n0 : Int), { M with m := cutM M.m (n0 : Int) }) : Nat × KpM) := ⟨_, rfl⟩
  have HB := Lib.hid (fun W (hW : Below w.heap.size w W) => (kpCut_any (h.below hW) (n0 : Int)).mono (fun e w' hh => KpPost.from hW hh))
  have hd : scDo txt M 4 [n0] = (r.1, okS, r.2) := by rw [hr]; rfl
  rw [hd]
  rw [← hr] at HB
  have HC := Lib.hid (fun (w' : World) (hc : ∀ b i v, w.cell? ⟨b, i, none⟩ = some v → o b = 0 → w'.cell? ⟨b, i, none⟩ = some v) => (show w'.cell? ⟨pb, 1, none⟩ = some (.pointer (some ⟨c, 0, none⟩)) ∧ w'.cell? ⟨nb, 0, none⟩ = some (.int .i64 n0) from ⟨hc pb 1 _ p1 ho, hc nb 0 _ hn0 hnb⟩))
  obtain ⟨re, rM⟩ := r
  unfold DoPost
  clear h hO hp ho hr hd hnb
  go_enter Tryz.func124, Tryz.ntmps124
  go_wp2_with fail
  go_region_held3 (fun w' => w'.cell? ⟨pb, 1, none⟩ = some (.pointer (some ⟨c, 0, none⟩)) ∧ w'.cell? ⟨nb, 0, none⟩ = some (.int .i64 n0))
    (first | exact ⟨p1, hn0⟩ | exact HC.out _ hcx.out)
    (first | (go_at_call 125; refine (HB.out _ ?_).mono ?_; (repeat (first | exact Below.refl _ _ | refine Below.drew ?_)); rintro e w1 ⟨rfl, hc, z⟩; have hcx := Lib.hid hc; have HZ := Lib.hid z; clear hc z) | (go_at_call 119; refine (scOk_any _ _).mono ?_; rintro e w2 ⟨rfl, rfl⟩))
  all_goals
    go_wp2_with fail
    go_ret2
    exact ⟨rfl, doZ_below HZ.out (by repeat (first | exact Below.refl _ _ | refine Below.drew ?_))⟩
theorem cmd6_any (h : KpIn B sa w0 kb c txt x M o w) (hO : KpOk M T) (hp : w.heap[pb]? = some (plC kb c)) (ho : o pb = 0) (nv : Value) :
    Calls Tryz.prog 126 #[.pointer (some ⟨pb, 0, none⟩), nv] w (DoPost B sa w0 kb c txt (scDo txt M 5 []) o w) := by
  obtain ⟨p0, p1⟩ := pl_cells hp
  obtain ⟨r, hr⟩ : ∃ r : Nat × KpM, r = kpBoot M := ⟨_, rfl⟩
  have HB := Lib.hid (fun W (hW : Below w.heap.size w W) => (kpBoot_any (h.below hW) hO).mono (fun e w' hh => KpPost.from hW hh))
  have hd : scDo txt M 5 [] = (r.1, okS, r.2) := by rw [hr]; rfl
  rw [hd]
  rw [← hr] at HB
  obtain ⟨re, rM⟩ := r
  unfold DoPost
  clear h hO hp ho hr hd
  go_enter Tryz.func126, Tryz.ntmps126
  go_wp2_with fail
  refine (HB.out _ (Below.refl _ _)).mono ?_
  rintro e w1 ⟨rfl, hc, z⟩
  have HZ := Lib.hid z
  clear hc z
  go_wp2_with fail
  refine (scOk_any _ _).mono ?_
  rintro e w2 ⟨rfl, rfl⟩
  go_wp2_with fail
  go_ret2
  exact ⟨rfl, HZ.out⟩
theorem cmd7_any (h : KpIn B sa w0 kb c txt x M o w) (hp : w.heap[pb]? = some (plC kb c)) (nb cap n0 : Nat) (hn0 : w.cell? ⟨nb, 0, none⟩ = some (.int .i64 n0)) :
    Calls Tryz.prog 128 #[.pointer (some ⟨pb, 0, none⟩), .slice (some ⟨nb, 0, none⟩) 1 cap] w (DoPost B sa w0 kb c txt (scDo txt M 6 [n0]) o w) := by
  obtain ⟨p0, p1⟩ := pl_cells hp
  have HB := Lib.hid (fun W (hW : Below w.heap.size w W) => (kpStatus_any (h.below hW) n0).mono (fun e w' hh => And.intro hh.1 (hW.trans (hh.2.mono hW.size))))
  have HC := Lib.hid (fun (w' : World) (hw : Below w.heap.size w w') => (show w'.cell? ⟨pb, 0, none⟩ = some (.pointer (some ⟨kb, 0, none⟩)) ∧ w'.cell? ⟨nb, 0, none⟩ = some (.int .i64 n0) from
    ⟨by rw [hw.cell (p := ⟨pb, 0, none⟩) (World.block_lt_of_cell? w ⟨pb, 0, none⟩ p0)]; exact p0, by rw [hw.cell (p := ⟨nb, 0, none⟩) (World.block_lt_of_cell? w ⟨nb, 0, none⟩ hn0)]; exact hn0⟩))
  have HD := Lib.hid (scDo6 txt M n0)
  have H := Lib.hid h
  obtain ⟨re, hr⟩ : ∃ r, r = scDo txt M 6 [n0] := ⟨_, rfl⟩
  rw [← hr] at HB HD ⊢
  obtain ⟨re, rs, rM⟩ := re
  unfold DoPost
  clear h hp hr
  go_enter Tryz.func128, Tryz.ntmps128
  go_wp2_with fail
  go_region_held3 (fun w' => w'.cell? ⟨pb, 0, none⟩ = some (.pointer (some ⟨kb, 0, none⟩)) ∧ w'.cell? ⟨nb, 0, none⟩ = some (.int .i64 n0))
    (first | exact ⟨p0, hn0⟩ | exact HC.out _ hb1.out)
    (first | (go_at_call 129; refine (HB.out _ ?_).mono ?_; (repeat (first | exact Below.refl _ _ | refine Below.drew ?_)); rintro e w1 ⟨rfl, b1⟩; have hb1 := Lib.hid b1; clear b1))
  all_goals
    go_wp2_with fail
    go_ret2
    rw [show rM = M from HD.out]
    refine ⟨rfl, x, o, H.out.below ?_, Fr.below o ?_⟩ <;> (repeat (first | exact hb1.out | refine Below.drew ?_))
def SayPost (s : ByteArray) (w : World) (e : Ending) (w' : World) : Prop := e = .returned (.string s) ∧ Below w.heap.size w w'
theorem cmd8_any (h : KpIn B sa w0 kb c txt x M o w) (hO : KpOk M T) (hT : TabB B w) (hp : w.heap[pb]? = some (plC kb c)) :
    Calls Tryz.prog 131 #[.pointer (some ⟨pb, 0, none⟩)] w (SayPost (scDo txt M 7 []).2.1 w) := by
  obtain ⟨p0, p1⟩ := pl_cells hp
  obtain ⟨k0, k1, k2, k3, k4, k5, k6, k7, k8, k9, k10, kf⟩ := kp_cells h.box
  have hd := hO.dog
  have h1 := hd.l0
  have h2 := hd.ln
  have h3 := hd.n1
  have h4 := hd.k0
  have h5 := hd.k1
  have HB := Lib.hid (dogNow_any x.d M.D w h.b.dog)
  have HI := Lib.hid (itoa_any B M.D.now w hT (by omega) (by omega))
  obtain ⟨nn, hnn⟩ : ∃ nn, nn = M.D.now := ⟨_, rfl⟩
  show Calls _ _ _ _ (SayPost (strV (Lib.itoa M.D.now)) w)
  rw [← hnn] at HB HI ⊢
  unfold SayPost strV
  clear h hO hT hp k1 k2 k3 k4 k5 k6 k7 k8 k9 k10 kf hd h1 h2 h3 h4 h5 hnn
  go_enter Tryz.func131, Tryz.ntmps131
  go_wp2_with fail
  refine HB.out.mono ?_
  rintro e w1 ⟨rfl, rfl⟩
  go_wp2_with fail
  refine HI.out.mono ?_
  rintro e w1 ⟨rfl, b1⟩
  go_wp2_with fail
  go_ret
  exact ⟨rfl, b1⟩
theorem cmd9_any (h : KpIn B sa w0 kb c txt x M o w) (hO : KpOk M T) (hT : TabB B w) (hp : w.heap[pb]? = some (plC kb c)) :
    Calls Tryz.prog 132 #[.pointer (some ⟨pb, 0, none⟩)] w (SayPost (scDo txt M 8 []).2.1 w) := by
  obtain ⟨p0, p1⟩ := pl_cells hp
  obtain ⟨k0, k1, k2, k3, k4, k5, k6, k7, k8, k9, k10, kf⟩ := kp_cells h.box
  have hd := hO.dog
  have h1 := hd.l0
  have h2 := hd.ln
  have h3 := hd.n1
  have h4 := hd.k0
  have h5 := hd.k1
  have HB := Lib.hid (dogKicks_any x.d M.D w h.b.dog)
  have HI := Lib.hid (itoa_any B M.D.kicks w hT (by omega) (by omega))
  obtain ⟨nn, hnn⟩ : ∃ nn, nn = M.D.kicks := ⟨_, rfl⟩
  show Calls _ _ _ _ (SayPost (strV (Lib.itoa M.D.kicks)) w)
  rw [← hnn] at HB HI ⊢
  unfold SayPost strV
  clear h hO hT hp k1 k2 k3 k4 k5 k6 k7 k8 k9 k10 kf hd h1 h2 h3 h4 h5 hnn
  go_enter Tryz.func132, Tryz.ntmps132
  go_wp2_with fail
  refine HB.out.mono ?_
  rintro e w1 ⟨rfl, rfl⟩
  go_wp2_with fail
  refine HI.out.mono ?_
  rintro e w1 ⟨rfl, b1⟩
  go_wp2_with fail
  go_ret
  exact ⟨rfl, b1⟩
theorem cmd10_any (h : KpIn B sa w0 kb c txt x M o w) (hp : w.heap[pb]? = some (plC kb c)) :
    Calls Tryz.prog 133 #[.pointer (some ⟨pb, 0, none⟩)] w (SayPost (scDo txt M 9 []).2.1 w) := by
  obtain ⟨p0, p1⟩ := pl_cells hp
  have HB := Lib.hid (kpTotal_any h)
  show Calls _ _ _ _ (SayPost (M.st.str) w)
  obtain ⟨s, hs⟩ : ∃ s, s = M.st.str := ⟨_, rfl⟩
  rw [← hs] at HB ⊢
  unfold SayPost
  clear h hp hs
  go_enter Tryz.func133, Tryz.ntmps133
  go_wp2_with fail
  refine HB.out.mono ?_
  rintro e w1 ⟨rfl, rfl⟩
  go_wp2_with fail
  go_ret
  exact ⟨rfl, Below.refl _ _⟩
theorem cmd11_any (h : KpIn B sa w0 kb c txt x M o w) (hp : w.heap[pb]? = some (plC kb c)) :
    Calls Tryz.prog 134 #[.pointer (some ⟨pb, 0, none⟩)] w (SayPost (scDo txt M 10 []).2.1 w) := by
  obtain ⟨p0, p1⟩ := pl_cells hp
  have HB := Lib.hid (kpState_any h)
  show Calls _ _ _ _ (SayPost (kpState M) w)
  obtain ⟨s, hs⟩ : ∃ s, s = kpState M := ⟨_, rfl⟩
  rw [← hs] at HB ⊢
  unfold SayPost
  clear h hp hs
  go_enter Tryz.func134, Tryz.ntmps134
  go_wp2_with fail
  refine HB.out.mono ?_
  rintro e w1 ⟨rfl, rfl⟩
  go_wp2_with fail
  go_ret
  exact ⟨rfl, Below.refl _ _⟩
end
end Go.Proofs.YtikehilbmldadaaGreatDoor
