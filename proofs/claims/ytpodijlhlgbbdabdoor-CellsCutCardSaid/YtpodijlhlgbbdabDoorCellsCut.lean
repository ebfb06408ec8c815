/- CellsCut: what is written ahead of a cut stays, byte by byte; behind it nothing is written. -/
import Derived.Test.YtpodijlhlgbbdabDoorCells3
import Derived.Deep.RegionHeld3
import Derived.Laws.Concat
namespace Go.Proofs.YtpodijlhlgbbdabDoor
open Go.RowKit
set_option linter.unusedVariables false

theorem CK.drew {B : Nat} {sa : Nat → Addr} {w0 w : World} {c rb : Nat} {ao : Option Addr} {cap : Nat} {m : CM} (h : CK B sa w0 c rb ao cap m w) : CK B sa w0 c rb ao cap m w.drew := h.still (Keep.drew (Keep.refl (fun _ => False) w))
theorem ck_alloc {B : Nat} {sa : Nat → Addr} {w0 w : World} {c rb : Nat} {ao : Option Addr} {cap : Nat} {m : CM} (h : CK B sa w0 c rb ao cap m w) (o : Obj) : CK B sa w0 c rb ao cap m (w.alloc o) := h.below ((Below.refl _ _).alloc (Nat.le_refl _) o)
def zeros (n : Nat) : List UInt8 := List.replicate n 0
def madeO (n : Nat) : Obj := .cells (madeCells #[.int .u8 0] n) 5
theorem conv_keep (n : Nat) (W W' : World) (k : Keep (fun _ => False) (W.alloc (madeO n)) W') : (convert 54 9 (.slice (some ⟨W.heap.size, 0, none⟩) n n)).run Tryd.prog W' = .ok (.string (strOf (zeros n))) W' := by
  have h := (BytesAt.made W n 5).keep k (fun h => h)
  have hl : (List.replicate n (0 : UInt8)).length = n := by simp
  have := run_bytes_str W' W.heap.size 0 n (List.replicate n 0) (fun j hj => by rw [Nat.zero_add]; exact h.cell j hj)
  rw [hl] at this
  exact this
theorem conv1 (n : Nat) (W : World) : (convert 54 9 (.slice (some ⟨W.heap.size, 0, none⟩) n n)).run Tryd.prog (W.alloc (madeO n)).drew = .ok (.string (strOf (zeros n))) (W.alloc (madeO n)).drew :=
  conv_keep n W _ (Keep.drew (Keep.refl (fun _ => False) _))
theorem conv2 (n : Nat) (W : World) (o : Obj) : (convert 54 9 (.slice (some ⟨W.heap.size, 0, none⟩) n n)).run Tryd.prog ((W.alloc (madeO n)).alloc o).drew = .ok (.string (strOf (zeros n))) ((W.alloc (madeO n)).alloc o).drew :=
  conv_keep n W _ (Keep.drew (below_keep ((Below.refl _ _).alloc (Nat.le_refl _) o)))
theorem conv3 (n : Nat) (W : World) (o : Obj) : (convert 54 9 (.slice (some ⟨W.heap.size + 1, 0, none⟩) n n)).run Tryd.prog ((W.alloc o).alloc (madeO n)).drew = .ok (.string (strOf (zeros n))) ((W.alloc o).alloc (madeO n)).drew := by
  have := conv1 n (W.alloc o)
  rw [World.size_alloc] at this
  exact this
def cutM2 (size a : Nat) (s : ByteArray) (n : Int) : CM := writeM ⟨zeros size, false, n, 0⟩ a s.data.toList
theorem cut_str (N a K : Nat) (s : ByteArray) (hK : K ≤ s.size) (ha : a + K ≤ N) : strOf (wBytes (zeros N) a s.data.toList K) = (strOf (zeros a) ++ s.extract 0 K) ++ strOf (zeros (N - a - K)) := by
  apply ByteArray.ext
  apply Array.ext'
  simp only [strOf, wBytes, zeros, ByteArray.data_append, ByteArray.data_extract, Array.toList_append, Array.toList_extract]
  simp [List.take_replicate, List.drop_replicate, show min a N = a by omega, show N - (a + K) = N - a - K by omega]
theorem cutM2_k (N a : Nat) (s : ByteArray) (n : Int) (K : Nat) (hK : writeN n s.size = K) : cutM2 N a s n = ⟨wBytes (zeros N) a s.data.toList K, decide (K < s.size), cutAt n K, 0 + (K : Int)⟩ := by
  subst hK; rfl

theorem strOf_size (l : List UInt8) : (strOf l).size = l.length := rfl
theorem cutS (N a K : Nat) (s : ByteArray) (hK : K ≤ s.size) (ha : a + K ≤ N) (hN : N ≤ 300) : (strOf (zeros a)).size + (s.extract 0 K).size ≤ 9223372036854775807 ∧ (strOf (zeros a) ++ s.extract 0 K).size + (strOf (zeros (N - a - K))).size ≤ 9223372036854775807 := by
  have h1 : (s.extract 0 K).size = K := by simp [ByteArray.size_extract]; omega
  have h2 : (strOf (zeros a)).size = a := by simp [strOf_size, zeros]
  have h3 : (strOf (zeros (N - a - K))).size = N - a - K := by simp [strOf_size, zeros]
  rw [ByteArray.size_append, h1, h2, h3]
  omega

set_option maxRecDepth 20000 in
set_option maxHeartbeats 4000000 in
theorem cellsCutLaw_any (B : Nat) (sa : Nat → Addr) (size at_ n : Int) (s : ByteArray) (w : World) (hS : Sents B sa w) (hn63 : n ≤ 9223372036854775807) :
    Calls Tryd.prog 7 #[.int .i64 size, .int .i64 at_, .string s, .int .i64 n] w fun e w' => e = .returned (.bool true) ∧ Below w.heap.size w w' := by
  have HS := Lib.hid hS
  have hB := hS.top
  clear hS
  go_enter Tryd.func7, Tryd.ntmps7
  go_wp2_with fail
  refine (stays_any B sa w HS.out).mono ?_
  rintro e w1 ⟨rfl, b1⟩
  by_cases h1 : size < 0
  · go_wp2_with fail
    go_ret
    exact ⟨rfl, b1⟩
  by_cases h2 : 300 < size
  · go_wp2_with fail
    go_ret
    exact ⟨rfl, b1⟩
  by_cases h3 : at_ < 0
  · go_wp2_with fail
    go_ret
    exact ⟨rfl, b1⟩
  by_cases h4 : size < at_
  · go_wp2_with fail
    go_ret
    exact ⟨rfl, b1⟩
  by_cases h5 : size - at_ < (s.size : Int)
  · go_wp2_with fail
    go_ret
    exact ⟨rfl, b1⟩
  by_cases h6 : n < 0
  · go_wp2_with fail
    go_ret
    exact ⟨rfl, b1⟩
  obtain ⟨N, rfl⟩ : ∃ N : Nat, size = N := ⟨size.toNat, by omega⟩
  obtain ⟨a, rfl⟩ : ∃ a : Nat, at_ = a := ⟨at_.toNat, by omega⟩
  have hN : N ≤ 300 := by omega
  have ha : a + s.size ≤ N := by omega
  go_wp2_with fail
  refine (ck_new N w w1 (HS.out.below b1) b1 hB (by omega)).mono ?_
  rintro e w2 ⟨c, rb, rfl, hc2⟩
  have C2 := Lib.hid hc2
  clear hc2 b1
  go_wp2_with fail
  refine (cellsCut_any B sa c rb _ N _ n w2 C2.out.mem C2.out.se).mono ?_
  rintro e w3 ⟨rfl, hc3, k3⟩
  have em : cutM ⟨List.replicate N 0, false, -1, 0⟩ n = ⟨zeros N, false, n, 0⟩ := by simp [cutM, show ¬ n < 0 by omega, zeros]
  have ee : cutE false n = 0 := by simp [cutE, show ¬ n < 0 by omega]
  rw [em] at hc3
  have C3 := Lib.hid (C2.out.stepC k3 hc3)
  simp only [ee]
  rw [show errv sa 0 = .nilIface from rfl]
  clear em ee hc3 k3 C2
  go_wp2_with fail
  refine (cellsWrite_good B sa c rb N _ a s w3 C3.out.mem C3.out.se C3.out.bot rfl (by simpa [zeros] using ha) (by show -1 ≤ n; omega) hn63 (show (0 : Int) ≤ 0 by decide) (show (0 : Int) ≤ 1000000000 by decide)).mono ?_
  rintro e w4 ⟨rfl, hc4, k4⟩
  have C4 : Hid (CK B sa w c rb (some ⟨rb, 0, none⟩) N (cutM2 N a s n) w4) := C3.out.step k4 hc4
  clear hc4 k4 C3
  simp only
  obtain ⟨v11, hv⟩ : ∃ v, v = errv sa (writeE n s.size) := ⟨_, rfl⟩
  rw [← hv]
  have HV := Lib.hid hv
  clear hv
  go_upto_if 73 with fail
  go_cut [12] (fun s12 wx => ∃ K : Nat, s12 = .int .i64 K ∧ Hid (writeN n s.size = K) ∧ Hid (CK B sa w c rb (some ⟨rb, 0, none⟩) N (cutM2 N a s n) wx))
  case first =>
    by_cases hns : n < (s.size : Int)
    · obtain ⟨K, rfl⟩ : ∃ K : Nat, n = K := ⟨n.toNat, by omega⟩
      have hKw : Hid (writeN (K : Int) s.size = K) := (show writeN (K : Int) s.size = K from by simp only [writeN, show ¬ (K : Int) = -1 by omega, if_false]; omega)
      go_wp2_with fail
      go_meet
      exact ⟨K, rfl, hKw, C4⟩
    · have hKw : Hid (writeN n s.size = s.size) := (show writeN n s.size = s.size from by simp only [writeN, show ¬ n = -1 by omega, if_false]; omega)
      go_wp2_with fail
      go_meet
      exact ⟨s.size, rfl, hKw, C4⟩
  case rest =>
  clear C4
  obtain ⟨K, rfl, hKw, C4⟩ := hcut
  have hKw := hKw.out
  have HKW := Lib.hid hKw
  have hKs : K ≤ s.size := by
    rw [← hKw]
    simp only [writeN, show ¬ n = -1 by omega, if_false]
    exact Nat.min_le_right _ _
  obtain ⟨M, hM⟩ : ∃ M, M = cutM2 N a s n := ⟨_, rfl⟩
  rw [← hM] at C4
  have hM2 := hM.trans (cutM2_k N a s n K hKw)
  have hbs : strOf M.bs = (strOf (zeros a) ++ s.extract 0 K) ++ strOf (zeros (N - a - K)) := by rw [hM2]; exact cut_str N a K s hKs (by omega)
  have hwr : M.wr = K := by rw [hM2]; show 0 + (K : Int) = K; omega
  have hoff : M.off = decide (K < s.size) := by rw [hM2]
  have hBytes : Hid (∀ W, CK B sa w c rb (some ⟨rb, 0, none⟩) N M W → Calls Tryd.prog 38 #[.pointer (some ⟨c, 0, none⟩)] W (fun e w' => e = .returned (.string ((strOf (zeros a) ++ s.extract 0 K) ++ strOf (zeros (N - a - K)))) ∧ W = w')) := (show ∀ W, CK B sa w c rb (some ⟨rb, 0, none⟩) N M W → Calls Tryd.prog 38 #[.pointer (some ⟨c, 0, none⟩)] W (fun e w' => e = .returned (.string ((strOf (zeros a) ++ s.extract 0 K) ++ strOf (zeros (N - a - K)))) ∧ W = w') from fun W hW => by rw [← hbs]; exact cellsBytes_any c rb _ N M W hW.mem)
  have hWrt : Hid (∀ W, CK B sa w c rb (some ⟨rb, 0, none⟩) N M W → Calls Tryd.prog 39 #[.pointer (some ⟨c, 0, none⟩)] W (fun e w' => e = .returned (.int .i64 K) ∧ W = w')) := (show ∀ W, CK B sa w c rb (some ⟨rb, 0, none⟩) N M W → Calls Tryd.prog 39 #[.pointer (some ⟨c, 0, none⟩)] W (fun e w' => e = .returned (.int .i64 K) ∧ W = w') from fun W hW => by rw [← hwr]; exact cellsWritten_any c rb _ N M W hW.mem)
  have hmk1 := run_make_row' (P := Tryd.prog) 54 5 (.int .u8 0) 1 Tryd.underlying54 Tryd.infoByte rfl .i64 .i64 a (by omega) (by omega)
  have hmk2 := run_make_row' (P := Tryd.prog) 54 5 (.int .u8 0) 1 Tryd.underlying54 Tryd.infoByte rfl .i64 .i64 (N - a - K) (by omega) (by omega)
  rw [show ((N - a - K : Nat) : Int) = (N : Int) - a - K from by omega] at hmk2
  have hcv1 := conv1 a wc
  have hcv2 := conv2 a wc (madeO (N - a - K))
  have hcv3 := conv3 (N - a - K) wc (madeO a)
  have hcv4 := conv1 (N - a - K) wc
  have hcv5 := conv2 (N - a - K) wc (madeO a)
  have hcv6 := conv3 a wc (madeO (N - a - K))
  unfold madeO at hcv1 hcv2 hcv3 hcv4 hcv5 hcv6
  have had1 := fun W : World => run_string_add_sum (P := Tryd.prog) (w := W) (strOf (zeros a)) (s.extract 0 K) (cutS N a K s hKs (by omega) hN).1
  have had2 := fun W : World => run_string_add_sum (P := Tryd.prog) (w := W) (strOf (zeros a) ++ s.extract 0 K) (strOf (zeros (N - a - K))) (cutS N a K s hKs (by omega) hN).2
  have hKi : (K : Int) ≤ (s.size : Int) := by omega
  have hw1 := IntWalk.i64_in ((N : Int) - a) (by omega)
  have hw2 := IntWalk.i64_in ((N : Int) - a - K) (by omega)
  have OFF := Lib.hid hoff
  clear hM hM2 hbs hwr hoff hKw
  go_upto_region 11 with fail
  go_cut [98] (fun s98 wx => s98 = .bool false ∧ Hid (CK B sa w c rb (some ⟨rb, 0, none⟩) N M wx))
  case first =>
    go_region_held (fun w' => CK B sa w c rb (some ⟨rb, 0, none⟩) N M w')
      (first | (repeat (first | exact C4.out | assumption | refine CK.drew ?_ | refine ck_alloc ?_ _)))
      (first | (go_at_call 38; refine (hBytes.out _ (by assumption)).mono ?_; rintro e w' ⟨rfl, rfl⟩) | (go_at_call 39; refine (hWrt.out _ (by assumption)).mono ?_; rintro e w' ⟨rfl, rfl⟩))
    all_goals
      go_wp2_with fail
      go_meet
      exact ⟨rfl, (by repeat (first | exact C4.out | assumption | refine CK.drew ?_ | refine ck_alloc ?_ _))⟩
  case rest =>
  clear C4 hcv1 hcv2 hcv3 hcv4 hcv5 hcv6 hmk1 hmk2 had1 had2 hBytes hWrt hw1 hw2
  obtain ⟨rfl, C5⟩ := hcut
  by_cases hns : n < (s.size : Int)
  · have hKl : K < s.size := by
      have := HKW.out
      simp only [writeN, show ¬ n = -1 by omega, if_false] at this
      omega
    have he : writeE n s.size = 8 := by simp [writeE, HKW.out, hKl]
    have hv := HV.out
    rw [he] at hv
    subst hv
    have hof : M.off = true := by rw [OFF.out]; exact decide_eq_true hKl
    have hE : lookE M.off M.bs.length 0 0 = 7 + 1 := by rw [hof]; exact lookE_off (by omega)
    have HE := Lib.hid hE
    have HOF := Lib.hid hof
    rw [show errv sa 8 = .iface 285 (.pointer (some (sa 7))) from rfl]
    clear he hE hof
    go_wp2_with fail
    refine (cellsRead_bad B sa c rb _ N M 0 0 7 _ C5.out.mem C5.out.se HE.out).mono ?_
    rintro e w' ⟨rfl, rfl⟩
    rw [show errv sa (7 + 1) = .iface 285 (.pointer (some (sa 7))) from rfl]
    go_wp2_with fail
    refine (coded1_any B sa 8 (by decide) 8 _ C5.out.se).mono ?_
    rintro e w6 ⟨rfl, b6⟩
    have C6 := Lib.hid (C5.out.below b6)
    rw [show decide (((8 : Nat) : Int) = 8) = true from by decide]
    clear C5 b6
    go_wp2_with fail
    refine (cellsPower_any c rb _ N M _ C6.out.mem).mono ?_
    rintro e w' ⟨rfl, rfl⟩
    rw [HOF.out]
    rw [show (!(true : Bool)) = false from rfl]
    go_wp2_with fail
    refine (coded1_any B sa 8 (by decide) 8 _ C6.out.se).mono ?_
    rintro e w7 ⟨rfl, b7⟩
    have C7 := Lib.hid (C6.out.below b7)
    rw [show decide (((8 : Nat) : Int) = 8) = true from by decide]
    clear C6 b7
    go_wp2_with fail
    refine (cellsWrite_bad B sa c rb _ N M 0 ⟨#[]⟩ 7 _ C7.out.mem C7.out.se HE.out).mono ?_
    rintro e w' ⟨rfl, rfl⟩
    rw [show errv sa (7 + 1) = .iface 285 (.pointer (some (sa 7))) from rfl]
    go_wp2_with fail
    refine (coded1_any B sa 8 (by decide) 8 _ C7.out.se).mono ?_
    rintro e w8 ⟨rfl, b8⟩
    rw [show decide (((8 : Nat) : Int) = 8) = true from by decide]
    go_wp2_with fail
    go_ret
    exact ⟨rfl, C7.out.bel.trans (b8.mono C7.out.bel.size)⟩
  · have hKl : ¬ K < s.size := by
      have := HKW.out
      simp only [writeN, show ¬ n = -1 by omega, if_false] at this
      omega
    have he : writeE n s.size = 0 := by simp [writeE, HKW.out, hKl]
    have hv := HV.out
    rw [he] at hv
    have hv2 : v11 = .nilIface := hv
    subst hv2
    have hof : M.off = false := by rw [OFF.out]; exact decide_eq_false hKl
    have HOF := Lib.hid hof
    clear he hof hv
    go_wp2_with fail
    refine (cellsPower_any c rb _ N M _ C5.out.mem).mono ?_
    rintro e w' ⟨rfl, rfl⟩
    rw [HOF.out]
    rw [show (!(false : Bool)) = true from rfl]
    go_wp2_with fail
    go_ret
    exact ⟨rfl, C5.out.bel⟩
end Go.Proofs.YtpodijlhlgbbdabDoor
