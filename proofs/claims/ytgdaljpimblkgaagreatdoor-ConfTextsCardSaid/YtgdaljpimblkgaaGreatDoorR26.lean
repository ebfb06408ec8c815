/- Plain: the document's Line beside conf's line. -/
import Derived.Test.YtgdaljpimblkgaaGreatDoorR24
import Derived.Test.YtgdaljpimblkgaaGreatDoorR25
import Derived.Test.YtgdaljpimblkgaaGreatDoorR07
namespace Go.Proofs.YtgdaljpimblkgaaGreatDoor
open Go.RowKit
set_option linter.unusedVariables false

/-- The word of a line's stage. -/
def kwB (k : Nat) : ByteArray := (formL.getD k (ByteArray.empty, 0, ByteArray.empty)).1
/-- The word of the line ahead. -/
def stB (st : Int) : ByteArray := if st < 0 then ByteArray.empty else kwB st.toNat
theorem stB_nat (k : Nat) : stB (k : Int) = kwB k := by unfold stB; rw [if_neg (by omega)]; rfl
def kindsL : List ByteArray := [entB, pntB, cntB, gapB, edgB, fstB, lstB]
/-- The document's right. -/
def rightD (last word : ByteArray) : Bool :=
  if word.toList == winB.toList then last.toList == ByteArray.empty.toList
  else if word.toList == cycB.toList then last.toList == winB.toList
  else if word.toList == delB.toList then last.toList == cycB.toList
  else if word.toList == entB.toList then last.toList != ByteArray.empty.toList && last.toList != winB.toList && last.toList != cycB.toList
  else if sidxOf kindsL last < 0 ∨ sidxOf kindsL word < 0 then false
  else decide (sidxOf kindsL last < sidxOf kindsL word) || (decide (sidxOf kindsL last = sidxOf kindsL word) && word.toList != cntB.toList)
theorem rightD_eq (st : Int) (h : -1 ≤ st ∧ st ≤ 9) (k : Nat) (hk : k ≤ 9) : rightD (stB st) (kwB k) = rightB st k := by
  have hall : ∀ i : Nat, i < 11 → ∀ k : Nat, k < 10 → rightD (stB ((i : Int) - 1)) (kwB k) = rightB ((i : Int) - 1) k := by
    simp only [rightD, ByteArray.toList_eq]
    decide +kernel
  obtain ⟨i, hi⟩ : ∃ i : Nat, st = (i : Int) - 1 := ⟨(st + 1).toNat, by omega⟩
  rw [hi]
  exact hall i (by omega) k (by omega)
theorem winT : winB.toList = [119, 105, 110, 100, 111, 119] := by rw [ByteArray.toList_eq]; rfl
theorem cycT : cycB.toList = [99, 121, 99, 108, 101] := by rw [ByteArray.toList_eq]; rfl
theorem delT : delB.toList = [100, 101, 108, 97, 121] := by rw [ByteArray.toList_eq]; rfl
theorem entT : entB.toList = [101, 110, 116, 105, 116, 121] := by rw [ByteArray.toList_eq]; rfl
theorem pntT : pntB.toList = [112, 111, 105, 110, 116] := by rw [ByteArray.toList_eq]; rfl
theorem cntT : cntB.toList = [99, 111, 117, 110, 116] := by rw [ByteArray.toList_eq]; rfl
theorem gapT : gapB.toList = [103, 97, 112] := by rw [ByteArray.toList_eq]; rfl
theorem edgT : edgB.toList = [101, 100, 103, 101] := by rw [ByteArray.toList_eq]; rfl
theorem fstT : fstB.toList = [102, 105, 114, 115, 116] := by rw [ByteArray.toList_eq]; rfl
theorem lstT : lstB.toList = [108, 97, 115, 116] := by rw [ByteArray.toList_eq]; rfl
theorem empT : ByteArray.empty.toList = [] := by rw [ByteArray.toList_eq]; rfl
/-- The form's word of a kind. -/
def fwB (k : Nat) : ByteArray := (formL.getD k (ByteArray.empty, 0, ByteArray.empty)).2.2
theorem form_kw {w0 fs : ByteArray} {k : Nat} (h : formOf w0 = some (k, fs)) : w0 = kwB k ∧ fs = fwB k := by
  have hok : formOk w0 = true := by unfold formOk; rw [h]; rfl
  obtain ⟨p, hp1, e, h1, h2⟩ := form_mem hok
  have e1 : p.2.1 = k := by rw [← h1]; unfold formStage; rw [h]; rfl
  have e2 : p.2.2 = fs := by rw [← h2]; unfold formWords; rw [h]; rfl
  have hall : ∀ p ∈ formL, p.1 = kwB p.2.1 ∧ p.2.2 = fwB p.2.1 := by decide
  obtain ⟨a, b⟩ := hall p hp1
  rw [← e1, ← e2]
  exact ⟨e.symm.trans a, b⟩
theorem form_no {w0 : ByteArray} (h : formOk w0 = false) : ∀ k, k ≤ 9 → (w0.toList == (kwB k).toList) = false := by
  intro k hk
  rw [beq_eq_false_iff_ne, ByteArray.toList_eq, ByteArray.toList_eq]
  intro e
  have e2 := bytes_ext e
  rw [e2] at h
  have hall : ∀ k, k < 10 → formOk (kwB k) = true := by decide
  rw [hall k (by omega)] at h
  cases h
theorem kw_at (k : Nat) (hk : k ≤ 9) (j : Nat) (hj : j ≤ 9) : ((kwB k).toList == (kwB j).toList) = decide (k = j) := by
  have hall : ∀ k, k < 10 → ∀ j, j < 10 → ((kwB k).data.toList == (kwB j).data.toList) = decide (k = j) := by decide
  rw [ByteArray.toList_eq, ByteArray.toList_eq]
  exact hall k (by omega) j (by omega)

/-- The numbers of those words that are none of a name. -/
def pick : List UInt8 → List Int → List Int
  | f :: fs, x :: d => if f = 115 then pick fs d else x :: pick fs d
  | _, _ => []
theorem pick_nil (fs : List UInt8) : pick fs [] = [] := by cases fs <;> rfl
theorem pick_snoc : ∀ (fs : List UInt8) (d : List Int) (x : Int), d.length < fs.length → pick fs (d ++ [x]) = pick fs d ++ (if fs.getD d.length 0 = 115 then [] else [x])
  | [], d, x, h => by simp at h
  | f :: fs, [], x, h => by
    show pick (f :: fs) [x] = [] ++ (if f = 115 then [] else [x])
    unfold pick
    split
    · rw [pick_nil]; rfl
    · rw [pick_nil]; rfl
  | f :: fs, y :: d, x, h => by
    have ih := pick_snoc fs d x (by simpa using h)
    show pick (f :: fs) (y :: (d ++ [x])) = pick (f :: fs) (y :: d) ++ (if fs.getD d.length 0 = 115 then [] else [x])
    unfold pick
    split
    · exact ih
    · rw [ih]; rfl
theorem numI_none {s : ByteArray} (h : numI s < 0) : numV s = none := by
  unfold numI at h
  cases hv : numV s with
  | none => rfl
  | some k => rw [hv] at h; simp at h; omega
theorem numI_some {s : ByteArray} (h : ¬ numI s < 0) : ∃ k, numV s = some k ∧ numI s = k := by
  unfold numI at h ⊢
  cases hv : numV s with
  | none => rw [hv] at h; simp at h
  | some k => exact ⟨k, rfl, rfl⟩
theorem numI_lt (s : ByteArray) : numI s < 10000000000000 := by
  unfold numI
  rw [numV_dig]
  split
  · next k hk =>
    split at hk
    · next hd =>
      obtain rfl := Option.some.inj hk
      unfold digOk at hd
      simp only [Bool.and_eq_true] at hd
      have := dval_lt _ s.data.toList rfl (fun c hc => List.all_eq_true.1 hd.2 c hc)
      have h2 := Nat.pow_le_pow_right (n := 10) (by decide) (show s.data.toList.length ≤ 13 from of_decide_eq_true hd.1.1.2)
      have h3 : (10 : Nat) ^ 13 = 10000000000000 := by decide
      omega
    · cases hk
  · decide
/-- The forms' letters. -/
theorem fw_letter {k i : Nat} (hk : k ≤ 9) (hi : i < (fwB k).size) : (fwB k).data.toList.getD i 0 = 110 ∨ (fwB k).data.toList.getD i 0 = 112 ∨ (fwB k).data.toList.getD i 0 = 115 := by
  have hall : ∀ k, k < 10 → ∀ i, i < (fwB k).size → (fwB k).data.toList.getD i 0 = 110 ∨ (fwB k).data.toList.getD i 0 = 112 ∨ (fwB k).data.toList.getD i 0 = 115 := by decide
  exact hall k (by omega) i hi
/-- A word beside the ten. -/
theorem kw_cmp {w0 : ByteArray} {k : Nat} (h : w0 = kwB k) (hk : k ≤ 9) : (w0.toList == [119, 105, 110, 100, 111, 119]) = decide (k = 0) ∧ (w0.toList == [99, 121, 99, 108, 101]) = decide (k = 1) ∧ (w0.toList == [100, 101, 108, 97, 121]) = decide (k = 2) ∧ (w0.toList == [101, 110, 116, 105, 116, 121]) = decide (k = 3) ∧ (w0.toList == [112, 111, 105, 110, 116]) = decide (k = 4) ∧ (w0.toList == [99, 111, 117, 110, 116]) = decide (k = 5) ∧ (w0.toList == [103, 97, 112]) = decide (k = 6) ∧ (w0.toList == [101, 100, 103, 101]) = decide (k = 7) ∧ (w0.toList == [102, 105, 114, 115, 116]) = decide (k = 8) ∧ (w0.toList == [108, 97, 115, 116]) = decide (k = 9) := by
  subst h
  refine ⟨?_, ?_, ?_, ?_, ?_, ?_, ?_, ?_, ?_, ?_⟩
  · rw [← winT]; exact kw_at k hk 0 (by decide)
  · rw [← cycT]; exact kw_at k hk 1 (by decide)
  · rw [← delT]; exact kw_at k hk 2 (by decide)
  · rw [← entT]; exact kw_at k hk 3 (by decide)
  · rw [← pntT]; exact kw_at k hk 4 (by decide)
  · rw [← cntT]; exact kw_at k hk 5 (by decide)
  · rw [← gapT]; exact kw_at k hk 6 (by decide)
  · rw [← edgT]; exact kw_at k hk 7 (by decide)
  · rw [← fstT]; exact kw_at k hk 8 (by decide)
  · rw [← lstT]; exact kw_at k hk 9 (by decide)
theorem no_cmp {w0 : ByteArray} (h : formOk w0 = false) : (w0.toList == [119, 105, 110, 100, 111, 119]) = false ∧ (w0.toList == [99, 121, 99, 108, 101]) = false ∧ (w0.toList == [100, 101, 108, 97, 121]) = false ∧ (w0.toList == [101, 110, 116, 105, 116, 121]) = false ∧ (w0.toList == [112, 111, 105, 110, 116]) = false ∧ (w0.toList == [99, 111, 117, 110, 116]) = false ∧ (w0.toList == [103, 97, 112]) = false ∧ (w0.toList == [101, 100, 103, 101]) = false ∧ (w0.toList == [102, 105, 114, 115, 116]) = false ∧ (w0.toList == [108, 97, 115, 116]) = false := by
  refine ⟨?_, ?_, ?_, ?_, ?_, ?_, ?_, ?_, ?_, ?_⟩
  · rw [← winT]; exact form_no h 0 (by decide)
  · rw [← cycT]; exact form_no h 1 (by decide)
  · rw [← delT]; exact form_no h 2 (by decide)
  · rw [← entT]; exact form_no h 3 (by decide)
  · rw [← pntT]; exact form_no h 4 (by decide)
  · rw [← cntT]; exact form_no h 5 (by decide)
  · rw [← gapT]; exact form_no h 6 (by decide)
  · rw [← edgT]; exact form_no h 7 (by decide)
  · rw [← fstT]; exact form_no h 8 (by decide)
  · rw [← lstT]; exact form_no h 9 (by decide)
end Go.Proofs.YtgdaljpimblkgaaGreatDoor

/- The document's kinds and right. -/
namespace Go.Proofs.YtgdaljpimblkgaaGreatDoor
open Go.RowKit
set_option linter.unusedVariables false

theorem rKinds_any (w : World) : Calls Tryz.prog 89 #[] w fun e w' => e = .returned (.slice (some ⟨w.heap.size, 0, none⟩) 7 7) ∧ SlOf (· = w.heap.size) w' (.slice (some ⟨w.heap.size, 0, none⟩) 7 7) 1 (strCells1 kindsL) kindsL.length ∧ Below w.heap.size w w' := by
  have hb : Below w.heap.size w (w.alloc (.cells (strCells1 kindsL).toArray 9)) := (Below.refl _ _).alloc (Nat.le_refl _) _
  have hs := slOf_alloc w (strCells1 kindsL) 9 1 7 rfl (by unfold maxLen; omega)
  have HB := Lib.hid hb
  have HS := Lib.hid hs
  clear hb hs
  go_enter Tryz.func89, Tryz.ntmps89
  go_wp2_with fail
  go_ret
  exact ⟨rfl, HS.out, HB.out⟩
set_option maxRecDepth 20000 in
set_option maxHeartbeats 2000000 in
theorem rRight_any (last word : ByteArray) (rb : Nat) (w : World) (h : w.cell? ⟨rb, 5, none⟩ = some (.string last)) :
    Calls Tryz.prog 57 #[.pointer (some ⟨rb, 0, none⟩), .string word] w fun e w' => e = .returned (.bool (rightD last word)) ∧ Below w.heap.size w w' := by
  cases h0 : (word.toList == winB.toList)
  case true =>
    have HV : Hid (rightD last word = last.toList.isEmpty) := (show rightD last word = last.toList.isEmpty from by
      unfold rightD
      rw [h0]
      show (last.toList == ByteArray.empty.toList) = _
      rw [empT]
      cases last.toList <;> rfl)
    rw [winT] at h0
    go_enter Tryz.func57, Tryz.ntmps57
    go_wp2_with fail
    go_ret
    exact ⟨ret_bool HV.out.symm, Below.refl _ _⟩
  case false =>
  cases h1 : (word.toList == cycB.toList)
  case true =>
    have HV := Lib.hid (show rightD last word = (last.toList == winB.toList) from by
      unfold rightD
      rw [h0, h1]
      rfl)
    rw [winT] at h0 HV
    rw [cycT] at h1
    go_enter Tryz.func57, Tryz.ntmps57
    go_wp2_with fail
    go_ret
    exact ⟨ret_bool HV.out.symm, Below.refl _ _⟩
  case false =>
  cases h2 : (word.toList == delB.toList)
  case true =>
    have HV := Lib.hid (show rightD last word = (last.toList == cycB.toList) from by
      unfold rightD
      rw [h0, h1, h2]
      rfl)
    rw [winT] at h0
    rw [cycT] at h1 HV
    rw [delT] at h2
    go_enter Tryz.func57, Tryz.ntmps57
    go_wp2_with fail
    go_ret
    exact ⟨ret_bool HV.out.symm, Below.refl _ _⟩
  case false =>
  cases h3 : (word.toList == entB.toList)
  case true =>
    have HV : Hid (rightD last word = (!last.toList.isEmpty && !(last.toList == winB.toList) && !(last.toList == cycB.toList))) := (show rightD last word = (!last.toList.isEmpty && !(last.toList == winB.toList) && !(last.toList == cycB.toList)) from by
      unfold rightD
      rw [h0, h1, h2, h3]
      show ((last.toList != ByteArray.empty.toList) && (last.toList != winB.toList) && (last.toList != cycB.toList)) = _
      rw [empT]
      cases last.toList <;> rfl)
    rw [winT, cycT] at HV
    rw [winT] at h0
    rw [cycT] at h1
    rw [delT] at h2
    rw [entT] at h3
    cases z0 : last.toList.isEmpty <;> cases z1 : (last.toList == [119, 105, 110, 100, 111, 119]) <;> cases z2 : (last.toList == [99, 121, 99, 108, 101])
    all_goals
      rw [z0, z1, z2] at HV
      go_enter Tryz.func57, Tryz.ntmps57
      go_wp2_with fail
      go_ret
      exact ⟨ret_bool HV.out.symm, Below.refl _ _⟩
  case false =>
  have HV : Hid (rightD last word = if sidxOf kindsL last < 0 ∨ sidxOf kindsL word < 0 then false else decide (sidxOf kindsL last < sidxOf kindsL word) || (decide (sidxOf kindsL last = sidxOf kindsL word) && word.toList != cntB.toList)) := (show _ = _ from by
    unfold rightD
    rw [h0, h1, h2, h3]
    rfl)
  rw [winT] at h0
  rw [cycT] at h1
  rw [delT] at h2
  rw [entT] at h3
  rw [cntT] at HV
  have HK := Lib.hid (fun W => rKinds_any W)
  have HIa := Lib.hid (fun (W W' : World) (hS : SlOf (· = W.heap.size) W' (.slice (some ⟨W.heap.size, 0, none⟩) 7 7) 1 (strCells1 kindsL) kindsL.length) => rIndex_any _ kindsL _ last W' hS)
  have HIb := Lib.hid (fun (W W' : World) (hS : SlOf (· = W.heap.size) W' (.slice (some ⟨W.heap.size, 0, none⟩) 7 7) 1 (strCells1 kindsL) kindsL.length) => rIndex_any _ kindsL _ word W' hS)
  obtain ⟨a, ha⟩ : ∃ a, a = sidxOf kindsL last := ⟨_, rfl⟩
  obtain ⟨b, hb⟩ : ∃ b, b = sidxOf kindsL word := ⟨_, rfl⟩
  rw [← ha, ← hb] at HV
  rw [← ha] at HIa
  rw [← hb] at HIb
  have HA := Lib.hid ha
  have HBB := Lib.hid hb
  clear ha hb
  have HC := Lib.hid h
  go_enter Tryz.func57, Tryz.ntmps57
  go_wp2_with fail
  go_region_held3 (fun w' => w'.cell? ⟨rb, 5, none⟩ = some (.string last))
    (first | exact HC.out | exact (b2.cell (p := ⟨rb, 5, none⟩) (World.block_lt_of_cell? _ ⟨rb, 5, none⟩ HC.out)).trans HC.out)
    (first | (go_at_call 89; refine (HK.out _).mono ?_; rintro e w2 ⟨rfl, s2, b2⟩) | (go_at_call 34; refine (HIa.out _ _ s2).mono ?_; rintro e w3 ⟨rfl, rfl⟩))
  all_goals
    have HB2 := Lib.hid b2
    clear b2 s2
    go_wp2_with fail
    refine (HK.out _).mono ?_
    rintro e w4 ⟨rfl, s4, b4⟩
    have hBx : Below w.heap.size w w4 := (((Below.refl w.heap.size w).drew).trans HB2.out).trans (b4.mono HB2.out.size)
    go_wp2_with fail
    refine (HIb.out _ _ s4).mono ?_
    rintro e w5 ⟨rfl, rfl⟩
    clear s4 b4
    by_cases ha0 : a < 0
    · rw [if_pos (.inl ha0)] at HV
      go_wp2_with fail
      go_ret
      exact ⟨ret_bool HV.out.symm, hBx⟩
    by_cases hb0 : b < 0
    · rw [if_pos (.inr hb0)] at HV
      go_wp2_with fail
      go_ret
      exact ⟨ret_bool HV.out.symm, hBx⟩
    rw [if_neg (by omega)] at HV
    by_cases hab : a < b
    · rw [decide_eq_true hab] at HV
      go_wp2_with fail
      go_ret
      exact ⟨ret_bool HV.out.symm, hBx⟩
    rw [decide_eq_false hab] at HV
    by_cases he : a = b
    · rw [decide_eq_true he] at HV
      have he2 : (a == b) = true := by rw [beq_iff_eq]; exact he
      cases hw : (word.toList == [99, 111, 117, 110, 116])
      all_goals
        rw [show (word.toList != [99, 111, 117, 110, 116]) = !(word.toList == [99, 111, 117, 110, 116]) from rfl, hw] at HV
        go_wp2_with fail
        go_ret
        exact ⟨ret_bool HV.out.symm, hBx⟩
    · rw [decide_eq_false he] at HV
      have he2 : (a == b) = false := by rw [beq_eq_false_iff_ne]; exact he
      go_wp2_with fail
      go_ret
      exact ⟨ret_bool (by rw [HV.out, decide_eq_false (show ¬ a < b by omega)]; rfl), hBx⟩
end Go.Proofs.YtgdaljpimblkgaaGreatDoor
