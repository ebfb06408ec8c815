/- Plain: what is written is read as it was. -/
import Derived.Test.YtgdaljpimblkgaaGreatDoorR23
import Derived.Test.YtgdaljpimblkgaaGreatDoorR25
import Derived.Test.YtgdaljpimblkgaaGreatDoorR02
import Derived.Test.YtgdaljpimblkgaaGreatDoorR19
import Derived.Test.YtgdaljpimblkgaaGreatDoorR20
namespace Go.Proofs.YtgdaljpimblkgaaGreatDoor
open Go.RowKit
set_option linter.unusedVariables false

def wordA : W1 → ByteArray
  | .str s => s
  | .num n => ⟨(Lib.itoa n).toArray⟩
theorem wordA_B (x : W1) : (wordA x).data.toList = wordB x := by cases x <;> simp [wordA, wordB]
def mkLine (ws : List W1) : ByteArray := ⟨(interL 32 (ws.map wordB)).toArray⟩
theorem mkLine_data (ws : List W1) : (mkLine ws).data.toList = interL 32 (ws.map wordB) := by simp [mkLine]
theorem lineB_mk (ws : List W1) (h1 : 1 ≤ ws.length) (h5 : ws.length ≤ 5) : lineB ws = (mkLine ws).data.toList ++ [10] := by
  rw [mkLine_data]
  match ws, h1, h5 with
  | [a], _, _ => rw [line1]; simp [interL]
  | [a, b], _, _ => rw [line2]; simp [interL]
  | [a, b, c], _, _ => rw [line3]; simp [interL]
  | [a, b, c, d], _, _ => rw [line4]; simp [interL]
  | [a, b, c, d, e], _, _ => rw [line5]; simp [interL]
theorem map_data_inj : ∀ {a b : List ByteArray}, a.map (·.data.toList) = b.map (·.data.toList) → a = b
  | [], [], _ => rfl
  | [], _ :: _, h => by cases h
  | _ :: _, [], h => by cases h
  | x :: a, y :: b, h => by
    rw [List.map_cons, List.map_cons] at h
    obtain ⟨h1, h2⟩ := List.cons.inj h
    rw [bytes_ext h1, map_data_inj h2]
def Clean (b : UInt8) (ws : List W1) : Prop := ∀ x ∈ ws, b ∉ wordB x
theorem lineW_mk {ws : List W1} (h1 : ws ≠ []) (h : Clean 32 ws) : lineW (mkLine ws) = ws.map wordA := by
  refine map_data_inj ?_
  unfold lineW
  rw [pieces_cut, mkLine_data, cut_inter 32 _ (by simpa using h1) (fun p hp => by obtain ⟨x, hx, rfl⟩ := List.mem_map.1 hp; exact h x hx), List.map_map]
  exact List.map_congr_left (fun x _ => (wordA_B x).symm)
theorem inter_no (c b : UInt8) (hcb : b ≠ c) : ∀ ps : List (List UInt8), (∀ p ∈ ps, b ∉ p) → b ∉ interL c ps
  | [], _ => by simp [interL]
  | [p], h => h p (by simp)
  | p :: q :: ps, h => by
    have := inter_no c b hcb (q :: ps) (fun x hx => h x (List.mem_cons_of_mem _ hx))
    rw [inter_cons c p (by simp), List.mem_append, List.mem_cons]
    rintro (h1 | h1 | h1)
    · exact h p (by simp) h1
    · exact hcb h1
    · exact this h1
theorem mkLine_no {ws : List W1} (h : Clean 10 ws) : 10 ∉ (mkLine ws).data.toList := by
  rw [mkLine_data]
  exact inter_no 32 10 (by decide) _ (fun p hp => by obtain ⟨x, hx, rfl⟩ := List.mem_map.1 hp; exact h x hx)

theorem lineR_to {st : RdS} {s w0 : ByteArray} {ts : List ByteArray} {k : Nat} {fs : ByteArray} {n : List Int} (hl : lineW s = w0 :: ts) (hk : formOf w0 = some (k, fs)) (hlen : ts.length = fs.size) (hr : rightB st.stage k = true)
    (hu : wordsUp (lastE st.c.ents).points fs.data.toList ts fs.size = some (n, false)) : lineR st s = (0, ⟨takeC k (ts.getD 0 ByteArray.empty) n st.c, (k : Int)⟩) := by
  have hh : lineHd s = w0 := by unfold lineHd; rw [hl]; rfl
  have h1 : formOk w0 = true := by unfold formOk; rw [hk]; rfl
  have h2 : formStage w0 = k := by unfold formStage; rw [hk]; rfl
  have h3 : formWords w0 = fs := by unfold formWords; rw [hk]; rfl
  have hf : lineFits st s = true := by
    unfold lineFits
    rw [hh, h1, h2, h3, hr, hl, List.length_cons, Nat.add_sub_cancel, hlen]
    simp
  have hres : lineRes st s = some (n, false) := by
    unfold lineRes
    rw [hh, h3, hl]
    exact hu
  unfold lineR
  rw [if_pos hf, hres, hh, h2, hl]
  rfl
theorem up_step {pts : List ByteArray} {fs : List UInt8} {ts : List ByteArray} {k : Nat} {p q : List Int × Bool} (h : wordsUp pts fs ts k = some p) (h2 : wordStep pts (fs.getD k 0) (ts.getD k ByteArray.empty) p = some q) : wordsUp pts fs ts (k + 1) = some q := by
  show (match wordsUp pts fs ts k with | none => none | some p => wordStep pts (fs.getD k 0) (ts.getD k ByteArray.empty) p) = some q
  rw [h]; exact h2
theorem to_n {pts : List ByteArray} {t : ByteArray} {p : List Int × Bool} {k : Nat} (h : numV t = some k) : wordStep pts 110 t p = some (p.1 ++ [(k : Int)], p.2) := by
  unfold wordStep
  rw [if_pos rfl, h]
theorem to_p {pts : List ByteArray} {t : ByteArray} {p : List Int × Bool} {i : Int} (h : idxS pts t = i) (h0 : 0 ≤ i) (ht : t.size ≠ 0) : wordStep pts 112 t p = some (p.1 ++ [i], p.2) := by
  unfold wordStep
  rw [if_neg (by decide), if_neg ht, if_pos rfl, h, decide_eq_false (by omega), Bool.or_false]
theorem to_s {pts : List ByteArray} {t : ByteArray} {p : List Int × Bool} (ht : t.size ≠ 0) : wordStep pts 115 t p = some p := by
  unfold wordStep
  rw [if_neg (by decide), if_neg ht, if_neg (by decide)]

/-! ### A right entity -/
structure EntFine (E : EntV) : Prop where
  good : EntGood E
  name : isNameB E.name = true
  pts : ∀ s ∈ E.points, isNameB s = true
  dis : ∀ (i j : Nat) (hi : i < E.points.length) (hj : j < E.points.length), j < i → E.points[j] ≠ E.points[i]
  cmm : E.count = -1 → E.mn = 0 ∧ E.mx = 0
  cnt : E.count = -1 ∨ (0 ≤ E.count ∧ E.count < (E.points.length : Int))
theorem nameB_no {s : ByteArray} (h : isNameB s = true) (b : UInt8) (hb : b.toNat < 45) : b ∉ s.data.toList := by
  intro hm
  obtain ⟨i, hi, he⟩ := List.mem_iff_getElem.1 hm
  have hi' : i < s.size := by rw [Array.length_toList] at hi; exact hi
  by_cases hk : okN i s[i] = true
  · have : s[i] = b := by rw [← he]; rfl
    rw [this] at hk
    simp only [okN, decide_eq_true_eq] at hk
    omega
  · rw [isNameB_bad i hi' (by simpa using hk)] at h
    cases h
theorem nameB_pos {s : ByteArray} (h : isNameB s = true) : s.size ≠ 0 := by
  intro h0
  rw [isNameB_short (by omega)] at h
  cases h
theorem ptsE_zero {P : List ByteArray} (h : ptsE P = 0) : ∀ j, j < P.length → ptE P j = 0 := by
  have hall : ∀ n, ∀ j, j < n → j < P.length → ptE P j = 0 := by
    intro n
    induction n with
    | zero => intro j h1; omega
    | succ n ih =>
      intro j h1 h2
      by_cases hj : j < n
      · exact ih j hj h2
      · obtain rfl : j = n := by omega
        by_cases hz : ptE P j = 0
        · exact hz
        · rw [ptsE_hit h2 hz (fun i hi => ih i hi (by omega))] at h
          exact h
  exact fun j hj => hall (j + 1) j (by omega) hj
theorem fine_of {ah : List ByteArray} {E : EntV} (h : entErr ah E = 0) : EntFine E := by
  have hg := good_of h
  have h1 : isNameB E.name = true := by
    cases hh : isNameB E.name
    · rw [entErr_name hh] at h; cases h
    · rfl
  have h2 : hasStr ah E.name = false := by
    cases hh : hasStr ah E.name
    · rfl
    · rw [entErr_exist h1 hh] at h; cases h
  have h3 : boundB E = false := by
    cases hh : boundB E
    · rfl
    · rw [entErr_bound h1 h2 hh] at h; cases h
  have h4 : ptsE E.points = 0 := by
    by_cases hh : ptsE E.points = 0
    · exact hh
    · rw [entErr_pts h1 h2 h3 hh] at h; exact h
  rw [entErr_tail' h1 h2 h3 h4] at h
  have hr := tail_rules h
  have r0 := hr 0 (by decide)
  have r1 := hr 1 (by decide)
  simp only [ruleB] at r0 r1
  unfold strangP at r0
  rw [Bool.or_eq_false_iff] at r0
  have s2 := r0.1
  simp only [cntW, cmmW, decide_eq_false_iff_not] at s2 r1
  refine ⟨hg, h1, ptsE_names h4, fun i j hi hj hji he => ?_, fun hc => ⟨?_, ?_⟩, by omega⟩
  · have hz := ptsE_zero h4 i hi
    have hn : isNameB E.points[i] = true := ptsE_names h4 _ (List.getElem_mem hi)
    have : ptE E.points i = 6 := ptE_twice hi hn (hasStr_hit j (by rw [List.length_take]; omega) (by rw [List.getElem_take, he]))
    omega
  · by_cases hh : E.mn = 0
    · exact hh
    · exact absurd ⟨hc, .inl hh⟩ r1
  · by_cases hh : E.mx = 0
    · exact hh
    · exact absurd ⟨hc, .inr hh⟩ r1
theorem idx_name {E : EntV} (h : EntFine E) {k : Int} (h0 : 0 ≤ k) (hk : k < (E.points.length : Int)) : idxS E.points (nameAt E k) = k ∧ isNameB (nameAt E k) = true := by
  obtain ⟨n, rfl⟩ : ∃ n : Nat, k = n := ⟨k.toNat, (Int.toNat_of_nonneg h0).symm⟩
  have hn : n < E.points.length := by omega
  have e : nameAt E (n : Int) = E.points[n] := by
    unfold nameAt
    rw [Int.toNat_natCast, List.getD_eq_getElem?_getD, List.getElem?_eq_getElem hn]; rfl
  rw [e]
  refine ⟨sidxOf_hit hn rfl (fun j hj hjn hh => ?_), h.pts _ (List.getElem_mem hn)⟩
  refine h.dis n j hn hj hjn ?_
  rw [ByteArray.toList_eq, ByteArray.toList_eq] at hh
  exact bytes_ext hh
theorem num_clean (n : Int) (h : 0 ≤ n) (b : UInt8) (hb : b.toNat < 45) : b ∉ wordB (.num n) := by
  obtain ⟨m, rfl⟩ : ∃ m : Nat, n = m := ⟨n.toNat, (Int.toNat_of_nonneg h).symm⟩
  show b ∉ Lib.itoa (m : Int)
  rw [itoa_dig]
  intro hm
  have := decDigits_dig m b hm
  simp only [isDig, decide_eq_true_eq] at this
  omega
theorem num_back {n : Int} (h : 0 ≤ n) (h2 : n ≤ 1099511627776) : ∃ k : Nat, n = k ∧ numV (wordA (.num n)) = some k := by
  obtain ⟨m, rfl⟩ : ∃ m : Nat, n = m := ⟨n.toNat, (Int.toNat_of_nonneg h).symm⟩
  exact ⟨m, rfl, numV_itoa_back m (by omega)⟩
/-- Words that are names or numbers of naught and more. -/
def WordFine : W1 → Prop
  | .str s => isNameB s = true ∨ s ∈ [winB, cycB, delB, entB, pntB, cntB, gapB, edgB, fstB, lstB]
  | .num n => 0 ≤ n
theorem fine_clean {ws : List W1} (h : ∀ x ∈ ws, WordFine x) (b : UInt8) (hb : b.toNat < 45) : Clean b ws := by
  intro x hx
  have := h x hx
  cases x with
  | num n => exact num_clean n this b hb
  | str s =>
    rcases this with h1 | h1
    · exact nameB_no h1 b hb
    · have hall : ∀ s ∈ [winB, cycB, delB, entB, pntB, cntB, gapB, edgB, fstB, lstB], ∀ c ∈ s.data.toList, 45 ≤ c.toNat := by decide
      intro hm
      have := hall s h1 b hm
      omega

/-! ### Lines, one behind the other -/
def runL (st : RdS) : List ByteArray → Option RdS
  | [] => some st
  | s :: l => if (lineR st s).1 = 0 then runL (lineR st s).2 l else none
theorem runL_app (st : RdS) (a b : List ByteArray) {st' : RdS} (h : runL st a = some st') : runL st (a ++ b) = runL st' b := by
  induction a generalizing st with
  | nil => obtain rfl := Option.some.inj h; rfl
  | cons s a ih =>
    simp only [runL, List.cons_append] at h ⊢
    split at h
    · next hz => rw [if_pos hz]; exact ih _ h
    · cases h
theorem runL_one {st st' : RdS} {s : ByteArray} (h : lineR st s = (0, st')) : runL st [s] = some st' := by simp [runL, h]
theorem runL_cons {st st1 st' : RdS} {s : ByteArray} {l : List ByteArray} (h : lineR st s = (0, st1)) (h2 : runL st1 l = some st') : runL st (s :: l) = some st' := by simp [runL, h, h2]
end Go.Proofs.YtgdaljpimblkgaaGreatDoor

/- Texts of bytes; the document's Byte, below, Decimal. -/
namespace Go.Proofs.YtgdaljpimblkgaaGreatDoor
open Go.RowKit
set_option linter.unusedVariables false

def strV (l : List UInt8) : ByteArray := ⟨l.toArray⟩
theorem strV_append (a b : List UInt8) : strV a ++ strV b = strV (a ++ b) := by
  apply ByteArray.ext
  rw [ByteArray.data_append]
  simp [strV]
theorem strV_data (l : List UInt8) : (strV l).data.toList = l := by simp [strV]
theorem strV_size (l : List UInt8) : (strV l).size = l.length := by simp [strV, ByteArray.size]
theorem strV_of (s : ByteArray) : strV s.data.toList = s := by simp [strV]
theorem ext_dataV (s : ByteArray) (a b : Nat) : (s.extract a b).data.toList = (s.data.toList.drop a).take (b - a) := by
  rw [ByteArray.data_extract, Array.toList_extract]
theorem run_bytes_strV (w : World) (rb off cap : Nat) (l : List UInt8) (h : ∀ j (hj : j < l.length), w.cell? ⟨rb, off + j, none⟩ = some (.int .u8 (l[j].toNat : Int))) :
    (convert 58 9 (.slice (some ⟨rb, off, none⟩) l.length cap)).run Tryz.prog w = .ok (.string (strV l)) w :=
  run_convert_bytes_back w 58 9 5 ⟨rb, off, none⟩ cap l Tryz.underlying58 Tryz.underlying5 Tryz.underlying9 (fun j hj => by rw [addr_add]; exact h j hj)
set_option maxRecDepth 20000 in
theorem rByteV_any (n : Int) (w : World) : Calls Tryz.prog 83 #[.int .i64 n] w fun e w' => e = .returned (.string (strV [UInt8.ofNat (n % 256).toNat])) ∧ Below w.heap.size w w' := by
  obtain ⟨x, hx⟩ : ∃ x, x = UInt8.ofNat (n % 256).toNat := ⟨_, rfl⟩
  have hx2 : n % 256 = (x.toNat : Int) := by
    rw [hx, UInt8.toNat_ofNat', Nat.mod_eq_of_lt (by omega)]; omega
  have hb : Below w.heap.size w (w.alloc (.cells #[.int .u8 (x.toNat : Int)] 5)) := (Below.refl _ _).alloc (Nat.le_refl _) _
  have hn := get_alloc_new w (.cells #[.int .u8 (x.toNat : Int)] 5)
  have hcv : (convert 58 9 (.slice (some ⟨w.heap.size, 0, none⟩) 1 1)).run Tryz.prog (w.alloc (.cells #[.int .u8 (x.toNat : Int)] 5)) = .ok (.string (strV [x])) (w.alloc (.cells #[.int .u8 (x.toNat : Int)] 5)) := run_bytes_strV (w.alloc (.cells #[.int .u8 (x.toNat : Int)] 5)) w.heap.size 0 1 [x] (fun j hj => by
    have : j = 0 := by simpa using hj
    subst this
    unfold World.cell?
    simp only [Nat.zero_add]
    rw [hn]; rfl)
  rw [← hx]
  have HB := Lib.hid hb
  clear hx hb hn
  go_enter Tryz.func83, Tryz.ntmps83
  go_wp2_with fail
  go_ret
  exact ⟨rfl, HB.out⟩
theorem dec_bigV {u : Nat} (h : ¬ u < 10) : Lib.decDigits u = Lib.decDigits (u / 10) ++ [UInt8.ofNat (48 + u % 10)] := by rw [Lib.decDigits, dif_neg h]
set_option maxRecDepth 20000 in
set_option maxHeartbeats 1000000 in
theorem rBelow_any (k : Nat) : ∀ (u : Nat) (w : World), u < 10 ^ k → u ≤ 9223372036854775807 → 1 ≤ k → k ≤ 20 → Calls Tryz.prog 47 #[.int .i64 (-(u : Int))] w fun e w' => e = .returned (.string (strV (Lib.decDigits u))) ∧ (Lib.decDigits u).length ≤ k ∧ Below w.heap.size w w' := by
  induction k with
  | zero => intro u w _ _ h; omega
  | succ k ih =>
    intro u w hk hu _ hk20
    by_cases h10 : u < 10
    · have hB := Lib.hid (rByteV_any (48 + (u : Int)) w)
      rw [show UInt8.ofNat ((48 + (u : Int)) % 256).toNat = UInt8.ofNat (48 + u) by congr 1; omega, ← Lib.decDigits_one h10] at hB
      have HL : Hid ((Lib.decDigits u).length ≤ k + 1) := (show (Lib.decDigits u).length ≤ k + 1 from by rw [Lib.decDigits_one h10]; simp)
      have h1 : -(10 : Int) < -(u : Int) := by omega
      clear hk h10
      go_enter Tryz.func47, Tryz.ntmps47
      go_wp2_with fail
      refine hB.out.mono ?_
      rintro e w2 ⟨rfl, b2⟩
      go_wp2_with fail
      go_ret
      exact ⟨rfl, HL.out, b2⟩
    · obtain ⟨q, hq⟩ : ∃ q, q = u / 10 := ⟨_, rfl⟩
      obtain ⟨r, hr⟩ : ∃ r, r = u % 10 := ⟨_, rfl⟩
      have hk1 : 1 ≤ k := by
        rcases Nat.eq_zero_or_pos k with h0 | h0
        · subst h0; simp at hk; omega
        · exact h0
      have hqk : q < 10 ^ k := by
        rw [Nat.pow_succ] at hk
        rw [hq]; omega
      have HA := Lib.hid (ih q w hqk (by omega) hk1 (by omega))
      have HB : Hid (∀ W, Calls Tryz.prog 83 #[.int .i64 (48 + (r : Int))] W fun e w' => e = .returned (.string (strV [UInt8.ofNat (48 + r)])) ∧ Below W.heap.size W w') := (show _ from fun W => by
        have := rByteV_any (48 + (r : Int)) W
        rw [show UInt8.ofNat ((48 + (r : Int)) % 256).toNat = UInt8.ofNat (48 + r) by congr 1; omega] at this
        exact this)
      have HD := Lib.hid (dec_bigV h10)
      rw [← hq, ← hr] at HD
      have h1 : ¬ -(10 : Int) < -(u : Int) := by omega
      have e1 : (-(u : Int)).tdiv 10 = -(q : Int) := by rw [Int.neg_tdiv, Int.tdiv_eq_ediv_of_nonneg (by omega)]; omega
      have e2 : (-(u : Int)).tmod 10 = -(r : Int) := by rw [Int.neg_tmod, Int.tmod_eq_emod_of_nonneg (by omega)]; omega
      have hr10 : (r : Int) < 10 := by omega
      have e3 : wrap64 (-(q : Int)) = -(q : Int) := IntWalk.wrap64_in _ (by omega)
      have e4 : wrap64 (-(r : Int)) = -(r : Int) := IntWalk.wrap64_in _ (by omega)
      obtain ⟨d, hd⟩ : ∃ d, d = UInt8.ofNat (48 + r) := ⟨_, rfl⟩
      rw [← hd] at HB HD
      have hz1 : (strV [d]).size = 1 := by rw [strV_size]; rfl
      clear hd
      clear hk h10 hq hr hqk ih
      go_enter Tryz.func47, Tryz.ntmps47
      go_wp2_with fail
      refine HA.out.mono ?_
      rintro e w2 ⟨rfl, hl, b2⟩
      have HL := Lib.hid hl
      obtain ⟨n, hn⟩ : ∃ n, (strV (Lib.decDigits q)).size = n := ⟨_, rfl⟩
      have hn20 : n ≤ 20 := by rw [← hn, strV_size]; omega
      clear hl
      go_wp2_with fail
      refine (HB.out _).mono ?_
      rintro e w3 ⟨rfl, b3⟩
      go_wp2_with fail
      go_ret
      refine ⟨by rw [strV_append, ← HD.out]; rfl, ?_, b2.trans (b3.mono b2.size)⟩
      rw [HD.out, List.length_append]
      have := HL.out
      simp only [List.length_singleton]
      omega
theorem itoa_nat (u : Nat) : Lib.itoa (u : Int) = Lib.decDigits u := Lib.itoa_nonneg u
set_option maxRecDepth 20000 in
theorem rDecimal_any (n : Int) (h0 : 0 ≤ n) (h1 : n ≤ 1099511627776) (w : World) : Calls Tryz.prog 26 #[.int .i64 n] w fun e w' => e = .returned (.string (strV (Lib.itoa n))) ∧ Below w.heap.size w w' := by
  obtain ⟨u, rfl⟩ : ∃ u : Nat, n = u := ⟨n.toNat, by omega⟩
  have h13 : u < 10 ^ 13 := Nat.lt_of_le_of_lt (show u ≤ 1099511627776 by omega) (by decide)
  have HB := Lib.hid (rBelow_any 13 u w h13 (by omega) (by decide) (by decide))
  rw [itoa_nat]
  have e3 : wrap64 (-(u : Int)) = -(u : Int) := IntWalk.wrap64_in _ (by omega)
  clear h1 h13
  go_enter Tryz.func26, Tryz.ntmps26
  go_wp2_with fail
  refine HB.out.mono ?_
  rintro e w2 ⟨rfl, -, b2⟩
  go_wp2_with fail
  go_ret
  exact ⟨rfl, b2⟩
end Go.Proofs.YtgdaljpimblkgaaGreatDoor

/- The document's cut of a text. -/
namespace Go.Proofs.YtgdaljpimblkgaaGreatDoor
open Go.RowKit
set_option linter.unusedVariables false

theorem cutL_snoc (c x : UInt8) : ∀ (l : List UInt8) (D : List (List UInt8)) (p : List UInt8), cutL c l = D ++ [p] → cutL c (l ++ [x]) = if x = c then D ++ [p] ++ [[]] else D ++ [p ++ [x]]
  | [], D, p, h => by
    have hD : D = [] ∧ p = [] := by
      have h' : [[]] = D ++ [p] := h
      match D, h' with
      | [], h' => exact ⟨rfl, (List.cons.inj h').1.symm⟩
      | a :: D, h' => have := congrArg List.length h'; simp at this
    obtain ⟨rfl, rfl⟩ := hD
    show cutL c [x] = _
    rw [cut_cons]
    split <;> rfl
  | y :: l, D, p, h => by
    rw [cut_cons] at h
    rw [List.cons_append, cut_cons]
    by_cases hy : y = c
    · rw [if_pos hy] at h ⊢
      match D, h with
      | [], h =>
        have := congrArg List.length h
        simp at this
        exact absurd this (cut_ne c l)
      | a :: D, h =>
        obtain ⟨h1, h2⟩ := List.cons.inj h
        rw [cutL_snoc c x l D p h2, ← h1]
        split <;> rfl
    · rw [if_neg hy] at h ⊢
      cases hl : cutL c l with
      | nil => exact absurd hl (cut_ne c l)
      | cons a t =>
        rw [hl] at h
        match D, h with
        | [], h =>
          obtain ⟨h1, h2⟩ := List.cons.inj (show (y :: a) :: t = [p] from h)
          subst h1 h2
          rw [cutL_snoc c x l [] a hl]
          by_cases hx : x = c
          · rw [if_pos hx, if_pos hx]; rfl
          · rw [if_neg hx, if_neg hx]; rfl
        | b :: D, h =>
          obtain ⟨h1, h2⟩ := List.cons.inj (show (y :: a) :: t = b :: (D ++ [p]) from h)
          subst h1
          rw [cutL_snoc c x l (a :: D) p (by rw [hl, h2]; rfl)]
          by_cases hx : x = c
          · rw [if_pos hx, if_pos hx]; rfl
          · rw [if_neg hx, if_neg hx]; rfl
theorem data_snoc (s t : ByteArray) : (s ++ t).data.toList = s.data.toList ++ t.data.toList := by rw [ByteArray.data_append, Array.toList_append]
theorem one_data (s : ByteArray) (i : Nat) (h : i < s.size) : (s.extract i (i + 1)).data.toList = [s[i]] := by
  rw [ext_dataV, show i + 1 - i = 1 by omega]
  have hd : s.data.toList.length = s.size := by rw [Array.length_toList]; rfl
  rw [List.drop_eq_getElem_cons (by rw [hd]; exact h)]
  rfl
theorem take_one (s : ByteArray) (i : Nat) (h : i < s.size) : s.data.toList.take (i + 1) = s.data.toList.take i ++ [s[i]] := by
  have hd : s.data.toList.length = s.size := by rw [Array.length_toList]; rfl
  rw [List.take_succ_eq_append_getElem (by rw [hd]; exact h)]
  rfl
/-- The words ahead and the one under way. -/
def CutAt (c : UInt8) (s : ByteArray) (i : Nat) (D : List ByteArray) (p : ByteArray) : Prop := cutL c (s.data.toList.take i) = D.map (·.data.toList) ++ [p.data.toList]
theorem CutAt.hit {c : UInt8} {s : ByteArray} {i : Nat} {D : List ByteArray} {p : ByteArray} (h : CutAt c s i D p) (hi : i < s.size) (hc : s[i] = c) : CutAt c s (i + 1) (D ++ [p]) ByteArray.empty := by
  unfold CutAt at h ⊢
  rw [take_one s i hi, cutL_snoc c _ _ _ _ h, if_pos hc, List.map_append]
  rfl
theorem CutAt.miss {c : UInt8} {s : ByteArray} {i : Nat} {D : List ByteArray} {p : ByteArray} (h : CutAt c s i D p) (hi : i < s.size) (hc : s[i] ≠ c) : CutAt c s (i + 1) D (p ++ s.extract i (i + 1)) := by
  unfold CutAt at h ⊢
  rw [take_one s i hi, cutL_snoc c _ _ _ _ h, if_neg hc, data_snoc, one_data s i hi]
theorem CutAt.done {c : UInt8} {s : ByteArray} {D : List ByteArray} {p : ByteArray} (h : CutAt c s s.size D p) : piecesB c s = D ++ [p] := by
  unfold CutAt at h
  have hd : s.data.toList.length = s.size := by rw [Array.length_toList]; rfl
  rw [List.take_of_length_le (by omega)] at h
  refine map_data_inj ?_
  rw [pieces_cut, h, List.map_append]
  rfl
set_option maxRecDepth 20000 in
set_option maxHeartbeats 2000000 in
theorem rCut_any (s : ByteArray) (c : UInt8) (w : World) (hs : s.size ≤ 100000) :
    Calls Tryz.prog 31 #[.string s, .int .u8 (c.toNat : Int)] w fun e w' => ∃ ao cap, e = .returned (.slice ao (piecesB c s).length cap) ∧ OwnAt w' w.heap.size 9 1 (.slice ao (piecesB c s).length cap) (piecesB c s).length (strCells1 (piecesB c s)) ∧ Below w.heap.size w w' := by
  obtain ⟨i0, hi0, hz0, hz1, hz2⟩ := info_parts Tryz.infoStr
  go_enter Tryz.func31, Tryz.ntmps31
  go_wp2_with fail
  go_loopw [5, 6, 7] (fun s5 s6 s7 wr => ∃ (i n : Nat) (D : List ByteArray) (p : ByteArray) (na : Option Addr) (nc : Nat), i ≤ s.size ∧ n ≤ i ∧ s5 = .slice na n nc ∧ s6 = .string p ∧ s7 = .int .i64 i ∧ Hid (CutAt c s i D p) ∧ Hid (D.length = n) ∧ Hid (p.size ≤ i) ∧ Hid (OwnAt wr w.heap.size 9 1 (.slice na n nc) n (strCells1 D)) ∧ Hid (Below w.heap.size w wr)) (fun _ _ s7 _ => s.size - (intOf s7).toNat)
  case atStart => exact ⟨0, 0, [], ByteArray.empty, none, 0, Nat.zero_le _, Nat.le_refl _, rfl, rfl, rfl, (show CutAt c s 0 [] ByteArray.empty from rfl), rfl, Nat.le_refl 0, (show OwnAt w w.heap.size 9 1 (.slice none 0 0) 0 [] from ⟨rfl, .inl ⟨rfl, rfl⟩⟩), Below.refl _ _⟩
  case round =>
    obtain ⟨i, n, D, p, na, nc, hi, hni, rfl, rfl, rfl, hcut, hdl, hps, hown, hbel⟩ := hrel
    by_cases hlt : i < s.size
    · by_cases hc : s[i] = c
      · have hcc : ((s[i].toNat : Int) == (c.toNat : Int)) = true := by rw [hc]; simp
        have nx := Lib.hid (hcut.out.hit hlt hc)
        clear hc
        go_wp2_with
          (at_builtin; go_must (refine wpList_append_off rfl (.tmp 19) (.tmp 21) 47 rfl w.heap.size 9 i0 _ 1 16 Tryz.underlying47 hi0 hz0 hz1 hz2 rfl (by decide) (.slice na n nc) n (strCells1 D) rfl (hown.out.later ((Below.refl _ _).alloc (Nat.le_refl _) _)) ⟨wr.heap.size, 0, none⟩ 1 1 [.string p] rfl rfl (new_cells _ [.string p] _) (by intro u hu; simp at hu; subst hu; rfl) (by unfold maxLen; omega) (by omega) (by have := hbel.out.size; rw [World.size_alloc]; omega) ?_; intro a4 k4 w4 ho4 hg4 hn4'; have HO4 : Hid (OwnAt w4 w.heap.size 9 1 (.slice a4 (n + 1) k4) (n + 1) (strCells1 (D ++ [p]))) := (show OwnAt w4 w.heap.size 9 1 (.slice a4 (n + 1) k4) (n + 1) (strCells1 (D ++ [p])) from by unfold strCells1 at ho4 ⊢; rw [List.map_append]; exact ho4); have HB4 := Lib.hid ((hbel.out.alloc hbel.out.size _).trans ((Keep.of_grown hg4).below (by have := hbel.out.size; rw [World.size_alloc]; omega) (fun b hb => (hown.out.lt b hb.symm).1))); clear ho4 hg4 hn4'))
        go_roundw
        case rel => exact ⟨i + 1, n + 1, D ++ [p], ByteArray.empty, a4, k4, by omega, by omega, rfl, rfl, by go_num, nx, (show (D ++ [p]).length = n + 1 from by rw [List.length_append, hdl.out]; rfl), (show (0 : Nat) ≤ i + 1 from Nat.zero_le _), HO4, HB4⟩
        case measure => simp [intOf]; omega
      · have hcc : ((s[i].toNat : Int) == (c.toNat : Int)) = false := by rw [beq_eq_false_iff_ne]; intro e; exact hc (UInt8.toNat_inj.1 (by omega))
        have nx := Lib.hid (hcut.out.miss hlt hc)
        have hz1' : (s.extract i (i + 1)).size = 1 := by rw [ByteArray.size_extract]; omega
        have hz2' : p.size ≤ 100000 := by have := hps.out; omega
        have nz : Hid ((p ++ s.extract i (i + 1)).size ≤ i + 1) := (show (p ++ s.extract i (i + 1)).size ≤ i + 1 from by rw [ByteArray.size_append, hz1']; have := hps.out; omega)
        clear hc
        go_wp2_with fail
        go_roundw
        case rel => exact ⟨i + 1, n, D, p ++ s.extract i (i + 1), na, nc, by omega, by omega, rfl, rfl, by go_num, nx, hdl, nz, hown, hbel⟩
        case measure => simp [intOf]; omega
    · obtain rfl : i = s.size := by omega
      have HP := Lib.hid hcut.out.done
      go_wp2_with
        (at_builtin; go_must (refine wpList_append_off rfl (.tmp 30) (.tmp 32) 47 rfl w.heap.size 9 i0 _ 1 16 Tryz.underlying47 hi0 hz0 hz1 hz2 rfl (by decide) (.slice na n nc) n (strCells1 D) rfl (hown.out.later ((Below.refl _ _).alloc (Nat.le_refl _) _)) ⟨wr.heap.size, 0, none⟩ 1 1 [.string p] rfl rfl (new_cells _ [.string p] _) (by intro u hu; simp at hu; subst hu; rfl) (by unfold maxLen; omega) (by omega) (by have := hbel.out.size; rw [World.size_alloc]; omega) ?_; intro a4 k4 w4 ho4 hg4 hn4'; have HO4 : Hid (OwnAt w4 w.heap.size 9 1 (.slice a4 (n + 1) k4) (n + 1) (strCells1 (D ++ [p]))) := (show OwnAt w4 w.heap.size 9 1 (.slice a4 (n + 1) k4) (n + 1) (strCells1 (D ++ [p])) from by unfold strCells1 at ho4 ⊢; rw [List.map_append]; exact ho4); have HB4 := Lib.hid ((hbel.out.alloc hbel.out.size _).trans ((Keep.of_grown hg4).below (by have := hbel.out.size; rw [World.size_alloc]; omega) (fun b hb => (hown.out.lt b hb.symm).1))); clear ho4 hg4 hn4'))
      go_ret
      have hl : (piecesB c s).length = n + 1 := by rw [HP.out, List.length_append, hdl.out]; rfl
      refine ⟨a4, k4, by rw [hl]; rfl, ?_, HB4.out⟩
      rw [hl, HP.out]
      exact HO4.out
end Go.Proofs.YtgdaljpimblkgaaGreatDoor
