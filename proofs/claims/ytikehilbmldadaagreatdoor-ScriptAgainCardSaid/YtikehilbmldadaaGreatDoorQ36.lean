import Derived.Test.YtikehilbmldadaaGreatDoorQ34
import Derived.Test.YtikehilbmldadaaGreatDoorQ35
import Derived.Deep.CutBlock
set_option maxHeartbeats 8000000
set_option maxRecDepth 100000
namespace Go.Proofs.YtikehilbmldadaaGreatDoor
open Go.RowKit
set_option linter.unusedVariables false
def Lined (sa : Nat → Addr) (base rb : Nat) (r : Nat × RdS) (w : World) (e : Ending) (w' : World) : Prop :=
  e = .returned (errv sa r.1) ∧ (r.1 = 0 → ∃ o' v' Y', RdAt base rb o' r.2.c r.2.stage v' Y' w') ∧ Keep (fun b => b = rb ∨ base ≤ b) w w'
theorem formOf_some {s : ByteArray} (h : formOk s = true) : ∃ k fs, k ≤ 9 ∧ formOf s = some (k, fs) ∧ formStage s = k ∧ formWords s = fs ∧ 1 ≤ fs.size ∧ fs.size ≤ 4 := by
  obtain ⟨p, hp, e, h1, h2⟩ := form_mem h
  have hall : ∀ p ∈ formL, p.2.1 ≤ 9 ∧ 1 ≤ p.2.2.size ∧ p.2.2.size ≤ 4 := by decide
  obtain ⟨a, b, c⟩ := hall p hp
  refine ⟨p.2.1, p.2.2, a, ?_, h1, h2, b, c⟩
  simp only [formStage] at h1
  simp only [formWords] at h2
  unfold formOk at h
  cases hf : formOf s with
  | none => rw [hf] at h; cases h
  | some q =>
    rw [hf] at h1 h2
    exact congrArg some (Prod.ext h1 h2)
theorem cut_sizes (c : UInt8) : ∀ l : List UInt8, (cutL c l).length ≤ l.length + 1 ∧ ∀ p ∈ cutL c l, p.length ≤ l.length
  | [] => by simp [cutL]
  | x :: l => by
    obtain ⟨h1, h2⟩ := cut_sizes c l
    have hne := cut_ne c l
    unfold cutL
    split
    · refine ⟨by simp; omega, fun p hp => ?_⟩
      rcases List.mem_cons.1 hp with rfl | hp
      · simp
      · have := h2 p hp; simp; omega
    · split
      · next he => exact absurd he hne
      · next hd t he =>
        rw [he] at h1 h2
        refine ⟨by simp at h1 ⊢; omega, fun p hp => ?_⟩
        rcases List.mem_cons.1 hp with rfl | hp
        · have := h2 hd (List.mem_cons_self ..); simp; omega
        · have := h2 p (List.mem_cons_of_mem _ hp); simp; omega
theorem pieces_sizes (c : UInt8) (s : ByteArray) : (piecesB c s).length ≤ s.size + 1 ∧ ∀ t ∈ piecesB c s, t.size ≤ s.size := by
  have hd : s.data.toList.length = s.size := by rw [Array.length_toList]; rfl
  obtain ⟨h1, h2⟩ := cut_sizes c s.data.toList
  have e := pieces_cut c s
  refine ⟨by rw [← e, List.length_map] at h1; omega, fun t ht => ?_⟩
  have := h2 t.data.toList (by rw [← e]; exact List.mem_map.2 ⟨t, ht, rfl⟩)
  rw [Array.length_toList] at this
  have e2 : t.data.size = t.size := rfl
  omega
theorem lineW_sizes (s : ByteArray) : (lineW s).length ≤ s.size + 1 ∧ ∀ t ∈ lineW s, t.size ≤ s.size := pieces_sizes 32 s
theorem numV_empty {s : ByteArray} (h : s.size = 0) : numV s = none := by
  have : s.data.toList = [] := List.eq_nil_of_length_eq_zero (by rw [Array.length_toList]; exact h)
  unfold numV
  rw [this]
  rfl
theorem right_p {w0 fs : ByteArray} {k i : Nat} {x : Int} (h : formOf w0 = some (k, fs)) (hp : fs.data.toList.getD i 0 = 112) (hr : rightB x k = true) : 3 ≤ x := by
  have hok : formOk w0 = true := by unfold formOk; rw [h]; rfl
  obtain ⟨p, hp1, e, h1, h2⟩ := form_mem hok
  have e1 : p.2.1 = k := by rw [← h1]; unfold formStage; rw [h]; rfl
  have e2 : p.2.2 = fs := by rw [← h2]; unfold formWords; rw [h]; rfl
  have hmem : (112 : UInt8) ∈ p.2.2.data.toList := by
    rw [e2]
    rw [List.getD_eq_getElem?_getD] at hp
    cases hq : fs.data.toList[i]? with
    | none => rw [hq] at hp; cases hp
    | some c =>
      rw [hq] at hp
      obtain rfl : c = 112 := hp
      exact List.mem_of_getElem? hq
  have hall : ∀ p ∈ formL, (112 : UInt8) ∈ p.2.2.data.toList → 5 ≤ p.2.1 := by decide
  have := hall p hp1 hmem
  rw [e1] at this
  unfold rightB at hr
  rw [if_neg (by omega), if_neg (by omega)] at hr
  split at hr
  · simp at hr; omega
  · simp at hr; omega
theorem right_four {k : Nat} {x : Int} (h4 : 4 ≤ k) (hr : rightB x k = true) : 3 ≤ x := by
  unfold rightB at hr
  rw [if_neg (by omega), if_neg (by omega)] at hr
  split at hr
  · simp at hr; omega
  · simp at hr; omega
def numsOf (fs : List UInt8) : Nat := (fs.filter (fun c => c == 110 || c == 112)).length
theorem wordsUp_len {pts : List ByteArray} {fs : List UInt8} {ts : List ByteArray} : ∀ {k : Nat} {l : List Int} {z : Bool}, wordsUp pts fs ts k = some (l, z) → l.length = numsOf ((List.range k).map (fun i => fs.getD i 0))
  | 0, l, z, h => by
    have := (Prod.mk.inj (up_zero h)).1
    rw [this]; rfl
  | k + 1, l, z, h => by
    obtain ⟨⟨l', z'⟩, hp, hs⟩ := up_succ h
    have ih := wordsUp_len hp
    rw [List.range_succ, List.map_append, List.map_singleton]
    unfold numsOf at ih ⊢
    rw [List.filter_append, List.length_append, ← ih]
    unfold wordStep at hs
    split at hs
    · next h1 =>
      rw [h1]
      split at hs
      · obtain ⟨h3, _⟩ := Prod.mk.inj (Option.some.inj hs)
        rw [← h3]
        simp
      · cases hs
    · split at hs
      · cases hs
      · split at hs
        · next h2 =>
          rw [h2]
          obtain ⟨h3, _⟩ := Prod.mk.inj (Option.some.inj hs)
          rw [← h3]
          simp
        · next h1 _ h2 =>
          obtain ⟨h3, _⟩ := Prod.mk.inj (Option.some.inj hs)
          rw [← h3]
          rw [List.getD_eq_getElem?_getD] at h1 h2
          simp [h1, h2]
theorem cnt_form {w0 fs : ByteArray} {k nf : Nat} (h : formOf w0 = some (k, fs)) (hf : fs.size = nf) : numsOf ((List.range nf).map (fun i => fs.data.toList.getD i 0)) = nLen k := by
  have hok : formOk w0 = true := by unfold formOk; rw [h]; rfl
  obtain ⟨p, hp1, e, h1, h2⟩ := form_mem hok
  have e1 : p.2.1 = k := by rw [← h1]; unfold formStage; rw [h]; rfl
  have e2 : p.2.2 = fs := by rw [← h2]; unfold formWords; rw [h]; rfl
  have hall : ∀ p ∈ formL, numsOf ((List.range p.2.2.size).map (fun i => p.2.2.data.toList.getD i 0)) = nLen p.2.1 := by decide
  have := hall p hp1
  rw [e1, e2, hf] at this
  exact this
theorem empty_yes {s : ByteArray} (h : s.size = 0) : s.toList.isEmpty = true := by
  rw [ByteArray.toList_eq, List.isEmpty_iff]
  exact List.eq_nil_of_length_eq_zero (by rw [Array.length_toList]; exact h)
theorem empty_no {s : ByteArray} (h : ¬ s.size = 0) : s.toList.isEmpty = false := by
  rw [ByteArray.toList_eq, List.isEmpty_eq_false_iff]
  intro e
  apply h
  have := congrArg List.length e
  rw [Array.length_toList] at this
  exact this
theorem up_bad {pts : List ByteArray} {fs : List UInt8} {ts : List ByteArray} {i : Nat} {p : List Int × Bool} (h : wordsUp pts fs ts i = some p) (h2 : wordStep pts (fs.getD i 0) (ts.getD i ByteArray.empty) p = none) : wordsUp pts fs ts (i + 1) = none := by
  show (match wordsUp pts fs ts i with | none => none | some p => wordStep pts (fs.getD i 0) (ts.getD i ByteArray.empty) p) = none
  rw [h]; exact h2
theorem bad_size {pts : List ByteArray} {f : UInt8} {t : ByteArray} {p : List Int × Bool} (h : t.size = 0) (hf : f ≠ 110) : wordStep pts f t p = none := by
  unfold wordStep
  rw [if_neg hf, if_pos h]
theorem step_other {pts : List ByteArray} {f : UInt8} {t : ByteArray} {p : List Int × Bool} (h1 : f ≠ 110) (h2 : f ≠ 112) (h : t.size ≠ 0) : wordStep pts f t p = some p := by
  unfold wordStep
  rw [if_neg h1, if_neg h, if_neg h2]
theorem back_step {pts : List ByteArray} {fs : List UInt8} {ts : List ByteArray} {k : Nat} {p q : List Int × Bool} (h : wordsUp pts fs ts k = some p) (h2 : wordStep pts (fs.getD k 0) (ts.getD k ByteArray.empty) p = some q) : wordsUp pts fs ts (k + 1) = some q := by
  show (match wordsUp pts fs ts k with | none => none | some p => wordStep pts (fs.getD k 0) (ts.getD k ByteArray.empty) p) = some q
  rw [h]; exact h2
theorem line_any (B : Nat) (sa : Nat → Addr) (base rb : Nat) (o : Nat → Option Nat) (st : RdS) (v : Value) (Y : List EntX) (s : ByteArray) (w : World) (hS : SentsC B sa w) (hN : NumB B w) (hBrb : B ≤ rb) (h : RdAt base rb o st.c st.stage v Y w) (hI : RdInv st) (hF : Few Y) (hs : s.size ≤ 100000) :
    Calls Tryz.prog 73 #[.pointer (some ⟨rb, 0, none⟩), .string s] w (Lined sa base rb (lineR st s) w) := by
  obtain ⟨w0, ts, hws⟩ : ∃ w0 ts, lineW s = w0 :: ts := by
    cases hl : lineW s with
    | nil => exact absurd hl (lineW_ne s)
    | cons a ts => exact ⟨a, ts, rfl⟩
  have hhd : lineHd s = w0 := by unfold lineHd; rw [hws]; rfl
  obtain ⟨nW, hnW⟩ : ∃ nW, nW = ts.length + 1 := ⟨_, rfl⟩
  obtain ⟨hsz1, hszt⟩ := lineW_sizes s
  rw [hws] at hsz1 hszt
  have hsz : ts.length ≤ 100000 := by rw [List.length_cons] at hsz1; omega
  have HTZ : Hid (∀ i, (ts.getD i ByteArray.empty).size ≤ 100000) := (show ∀ i, (ts.getD i ByteArray.empty).size ≤ 100000 from fun i => by
    rw [List.getD_eq_getElem?_getD]
    cases hi : ts[i]? with
    | none => exact Nat.zero_le _
    | some t =>
      have := hszt t (List.mem_cons_of_mem _ (List.mem_of_getElem? hi))
      show t.size ≤ 100000
      omega)
  have HSp := Lib.hid (split_one s 32 w (by omega))
  rw [show piecesB 32 s = w0 :: ts from hws, List.length_cons, ← hnW] at HSp
  have hw1 : (1 : Int) ≤ (nW : Int) := by omega
  have hw2 : (nW : Int) ≤ 100001 := by omega
  have hwb : Below w.heap.size w (w.alloc (.cells ((w0 :: ts).map Value.string).toArray 9)) := (Below.refl _ _).alloc (Nat.le_refl _) _
  have hwx := get_alloc_new w (.cells ((w0 :: ts).map Value.string).toArray 9)
  have H := Lib.hid h
  have HI := Lib.hid hI
  have HF := Lib.hid hF
  have HS := Lib.hid hS
  have HN := Lib.hid hN
  have HHD := Lib.hid hhd
  have HWS := Lib.hid hws
  have HNW := Lib.hid hnW
  clear h hI hF hS hN hhd hws hnW hsz hs hsz1 hszt
  go_enter Tryz.func73, Tryz.ntmps73
  go_wp2_with fail
  refine HSp.out.mono ?_
  rintro e w1 ⟨rfl, rfl⟩
  generalize w.alloc _ = w1 at hwb hwx ⊢
  have HB1 := Lib.hid hwb
  have HX1 := Lib.hid hwx
  have c0 : w1.cell? ⟨w.heap.size, 0, none⟩ = some (.string w0) := by simp [World.cell?, HX1.out]
  have HFm := Lib.hid (forms_any w0 w1)
  unfold formV at HFm
  clear hwb hwx HSp
  go_wp2_with fail
  refine HFm.out.mono ?_
  rintro e w2 ⟨rfl, b2⟩
  have HB2 := Lib.hid (HB1.out.trans (b2.mono HB1.out.size))
  have HX2 := Lib.hid (below_get b2 HX1.out (lt_of_get HX1.out))
  clear c0 b2 HFm HB1 HX1
  go_upto_region 3 with fail
  have hbF : Below w2.heap.size w2 (w2.alloc (.cells #[.int .i64 (formStage w0), .string (formWords w0)] 207)) := (Below.refl _ _).alloc (Nat.le_refl _) _
  have hxF := get_alloc_new w2 (.cells #[.int .i64 (formStage w0), .string (formWords w0)] 207)
  generalize w2.alloc _ = wF at hbF hxF ⊢
  have HBF := Lib.hid (HB2.out.trans (hbF.mono HB2.out.size))
  have HXF := Lib.hid (below_get hbF HX2.out (lt_of_get HX2.out))
  obtain ⟨fb, hfb⟩ : ∃ fb, fb = w2.heap.size := ⟨_, rfl⟩
  have hfw : w.heap.size < fb := by rw [hfb]; exact lt_of_get HX2.out
  rw [← hfb] at hxF ⊢
  have HFB : Hid (wF.heap[fb]? = some (.cells #[.int .i64 (formStage w0), .string (formWords w0)] 207)) := hxF
  clear hfb hbF hxF HB2 HX2
  have HRF := Lib.hid (H.out.later HBF.out)
  have HSF := Lib.hid (HS.out.on HBF.out)
  have HKF : Hid (Keep (fun b => b = rb ∨ base ≤ b) w wF) := (show Keep (fun b => b = rb ∨ base ≤ b) w wF from (Keep.of_below HBF.out).mono (fun b hb hs => by omega))
  by_cases hok : formOk w0 = true
  · obtain ⟨k, fs, hk9, hfo, hst, hwd, hf1, hf4⟩ := formOf_some hok
    have z0 : wF.cell? ⟨fb, 0, none⟩ = some (.int .i64 k) := by have := HFB.out; rw [hst] at this; simp [World.cell?, this]
    have z1 : wF.cell? ⟨fb, 1, none⟩ = some (.string fs) := by have := HFB.out; rw [hwd] at this; simp [World.cell?, this]
    have HFO := Lib.hid (And.intro hfo (And.intro hst hwd))
    have HRt := Lib.hid (right_any st.stage k hk9 rb wF (rd_cells HRF.out.blk).2.2.2.2.2.1)
    obtain ⟨zr, hzr⟩ : ∃ zr, zr = rightB st.stage k := ⟨_, rfl⟩
    rw [← hzr] at HRt
    have HZR := Lib.hid hzr
    have HK9 := Lib.hid hk9
    have hfi : (fs.size : Int) ≤ 4 := by omega
    have hfi1 : (1 : Int) ≤ (fs.size : Int) := by omega
    clear hfo hst hwd hzr hk9 hf1 hf4
    cases zr
    · have HL : Hid (lineR st s = (1, st)) := (show lineR st s = (1, st) from by
        have : lineFits st s = false := by unfold lineFits; rw [HHD.out, HFO.out.2.1, ← HZR.out]; simp
        unfold lineR; rw [this]; rfl)
      have e1 := HSF.out.all.1
      go_wp2_with fail
      refine HRt.out.mono ?_
      rintro e w' ⟨rfl, rfl⟩
      go_wp2_with fail
      go_ret
      unfold Lined
      rw [HL.out]
      exact ⟨rfl, fun hh => (by cases hh), HKF.out⟩
    · by_cases hlen : (nW : Int) - 1 = (fs.size : Int)
      · obtain ⟨nf, hnf⟩ : ∃ nf, nf = ts.length := ⟨_, rfl⟩
        obtain rfl : nW = nf + 1 := by rw [hnf]; exact HNW.out
        have hfsz : fs.size = nf := by omega
        have hnf1 : (1 : Int) ≤ (nf : Int) := by omega
        have HLR : Hid (lineR st s = match wordsUp (lastE st.c.ents).points fs.data.toList ts nf with | none => (1, st) | some p => if p.2 = true then (5, st) else (0, ⟨takeC k (ts.getD 0 ByteArray.empty) p.1 st.c, (k : Int)⟩)) := (show lineR st s = match wordsUp (lastE st.c.ents).points fs.data.toList ts nf with | none => (1, st) | some p => if p.2 = true then (5, st) else (0, ⟨takeC k (ts.getD 0 ByteArray.empty) p.1 st.c, (k : Int)⟩) from by
          have hf : lineFits st s = true := by
            unfold lineFits
            rw [HHD.out, hok, HFO.out.2.1, HFO.out.2.2, ← HZR.out, HWS.out, List.length_cons, Nat.add_sub_cancel, ← hnf, hfsz]
            simp
          unfold lineR
          rw [if_pos hf]
          unfold lineRes
          rw [HHD.out, HFO.out.2.1, HFO.out.2.2, HWS.out, hfsz]
          rfl)
        have HNF := Lib.hid hnf
        have hnf4 : (nf : Int) ≤ 4 := by omega
        clear hlen hnf HNW hfi hfi1
        go_wp2_with fail
        refine HRt.out.mono ?_
        rintro e w' ⟨rfl, rfl⟩
        go_wp2_with fail
        have HFZ := Lib.hid hfsz
        clear hfsz
        obtain ⟨pts, hpts⟩ : ∃ pts, pts = (lastE st.c.ents).points := ⟨_, rfl⟩
        rw [← hpts] at HLR
        have HPT := Lib.hid hpts
        clear hpts
        go_loopw [8, 9, 46] (fun s8 s9 s46 wr => ∃ (i n : Nat) (l : List Int) (z : Bool) (na : Option Addr) (nc : Nat), i ≤ nf ∧ n ≤ i ∧ s46 = .int .i64 i ∧ s8 = .slice na n nc ∧ s9 = .bool z ∧ Hid (wordsUp pts fs.data.toList ts i = some (l, z)) ∧ Hid (l.length = n) ∧ Hid (OwnAt wr wF.heap.size 3 1 (.slice na n nc) n (intCells l)) ∧ Hid (Below wF.heap.size wF wr)) (fun _ _ s46 _ => nf - (intOf s46).toNat)
        case atStart => exact ⟨0, 0, [], false, none, 0, Nat.zero_le _, Nat.le_refl _, rfl, rfl, rfl, rfl, rfl, (show OwnAt wF wF.heap.size 3 1 (.slice none 0 0) 0 [] from ⟨rfl, .inl ⟨rfl, rfl⟩⟩), Below.refl _ _⟩
        case round =>
          obtain ⟨i, n, l, z, na, nc, hi, hni, rfl, rfl, rfl, hup, hll, hown, hbel⟩ := hrel
          by_cases hlt : i < nf
          · have hilt : i < ts.length := by rw [← HNF.out]; exact hlt
            have hisz : i < fs.size := by rw [HFZ.out]; exact hlt
            obtain ⟨tw, htw⟩ : ∃ tw, tw = ts[i] := ⟨_, rfl⟩
            have ht : wr.cell? ⟨w.heap.size, 1 + i, none⟩ = some (.string tw) := by
              rw [hbel.out.cell (p := ⟨w.heap.size, 1 + i, none⟩) (lt_of_get HXF.out), htw, Nat.add_comm 1 i]
              have := HXF.out
              simp [World.cell?, this, hilt]
            have y0 : wr.cell? ⟨fb, 0, none⟩ = some (.int .i64 k) := by rw [hbel.out.cell (p := ⟨fb, 0, none⟩) (lt_of_get HFB.out)]; exact z0
            have y1 : wr.cell? ⟨fb, 1, none⟩ = some (.string fs) := by rw [hbel.out.cell (p := ⟨fb, 1, none⟩) (lt_of_get HFB.out)]; exact z1
            have HTW : Hid (ts.getD i ByteArray.empty = tw) := (show ts.getD i ByteArray.empty = tw from by rw [htw, List.getD_eq_getElem?_getD, List.getElem?_eq_getElem hilt]; rfl)
            clear htw z0 z1
            go_upto_region 11 with fail
            generalize hcn : fs[i].toNat = cn
            have HCN : Hid ((fs.data.toList.getD i 0).toNat = cn) := (show (fs.data.toList.getD i 0).toNat = cn from by rw [getD_at fs i hisz]; exact hcn)
            clear hcn hisz
            by_cases h110 : cn = 110
            · obtain rfl := h110
              have hq1 : (((110 : Nat) : Int) == 110) = true := rfl
              have HC1 : Hid (fs.data.toList.getD i 0 = 110) := (show fs.data.toList.getD i 0 = 110 from UInt8.toNat_inj.1 HCN.out)
              have HNm := Lib.hid (number_any B tw (by rw [← HTW.out]; exact HTZ.out i) wr ((HN.out.below HBF.out HS.out.top).below hbel.out (by have := HBF.out.size; have := HS.out.top; omega)) (by have := HBF.out.size; have := HS.out.top; have := hbel.out.size; omega))
              cases hv : numV tw with
              | none =>
                rw [hv] at HNm
                have HL : Hid (lineR st s = (1, st)) := (show lineR st s = (1, st) from by
                  rw [HLR.out, wordsUp_none (up_bad hup.out (by rw [HTW.out, HC1.out]; unfold wordStep; rw [if_pos rfl, hv])) nf (by omega)])
                clear hv hq1
                go_wp2_with fail
                refine HNm.out.mono ?_
                rintro e w3 ⟨nn, rfl, -, b3⟩
                have HB3 := Lib.hid (hbel.out.trans (b3.mono hbel.out.size))
                have e1 := (HSF.out.on HB3.out).all.1
                clear b3
                go_wp2_with fail
                go_ret
                unfold Lined
                rw [HL.out]
                exact ⟨rfl, fun hh => (by cases hh), HKF.out.step (Keep.of_below HB3.out) (fun b hb hs => by have := HBF.out.size; omega)⟩
              | some kk =>
                rw [hv] at HNm
                have hup2 : Hid (wordsUp pts fs.data.toList ts (i + 1) = some (l ++ [(kk : Int)], z)) := (show wordsUp pts fs.data.toList ts (i + 1) = some (l ++ [(kk : Int)], z) from back_step hup.out (by
                  rw [HTW.out, HC1.out]
                  unfold wordStep
                  rw [if_pos rfl, hv]))
                have he2 : tw.toList.isEmpty = false := empty_no (fun h0 => by rw [numV_empty h0] at hv; cases hv)
                have HNI := Lib.hid hni
                have hn4 : n ≤ 100 := by omega
                clear hv hq1
                go_wp2_with fail
                refine HNm.out.mono ?_
                rintro e w3 ⟨nn, rfl, hnn, b3⟩
                obtain rfl : nn = kk := hnn kk rfl
                have HB3 := Lib.hid (hbel.out.trans (b3.mono hbel.out.size))
                have HO3 := Lib.hid (hown.out.later b3)
                clear b3 hnn
                obtain ⟨i0, hi0, hz0, hz1, hz2⟩ := info_parts Tryz.infoInt
                go_wp2_with (at_builtin; go_must (refine wpList_append_off rfl (.tmp 65) (.tmp 67) 48 rfl wF.heap.size 3 i0 _ 1 8 Tryz.underlying48 hi0 hz0 hz1 hz2 rfl (by decide) (.slice na n nc) n (intCells l) rfl (HO3.out.later ((Below.refl _ _).alloc (Nat.le_refl _) _)) ⟨w3.heap.size, 0, none⟩ 1 1 [.int .i64 kk] rfl rfl (new_cells _ [.int .i64 kk] _) (by intro u hu; simp at hu; subst hu; rfl) (by unfold maxLen; omega) (by omega) (by have := HB3.out.size; rw [World.size_alloc]; omega) ?_; intro a4 k4 w4 ho4 hg4 hn4'; have HO4 := Lib.hid ho4; have HB4 := Lib.hid ((HB3.out.alloc HB3.out.size _).trans ((Keep.of_grown hg4).below (by have := HB3.out.size; rw [World.size_alloc]; omega) (fun b hb => (HO3.out.lt b hb.symm).1))); clear ho4 hg4 hn4'))
                go_roundw
                case rel => exact ⟨i + 1, n + 1, l ++ [(kk : Int)], z, a4, k4, by omega, by omega, by go_num, rfl, rfl, hup2, (show (l ++ [(kk : Int)]).length = n + 1 from by rw [List.length_append, hll.out]; rfl), (show OwnAt w4 wF.heap.size 3 1 (.slice a4 (n + 1) k4) (n + 1) (intCells (l ++ [(kk : Int)])) from by unfold intCells; rw [List.map_append]; exact HO4.out), HB4⟩
                case measure => simp [intOf]; omega
            · have hq1 : ((cn : Int) == 110) = false := by rw [beq_eq_false_iff_ne]; omega
              have HC1 := Lib.hid h110
              by_cases h112 : cn = 112
              · obtain rfl := h112
                have hq2 : (((112 : Nat) : Int) == 112) = true := rfl
                have HC2 : Hid (fs.data.toList.getD i 0 = 112) := (show fs.data.toList.getD i 0 = 112 from UInt8.toNat_inj.1 HCN.out)
                have hst3 : 3 ≤ st.stage := right_p HFO.out.1 HC2.out HZR.out.symm
                have hYne : Y ≠ [] := fun e => HI.out.ne hst3 (by rw [H.out.eq, e]; rfl)
                obtain ⟨Z, y, rfl⟩ := split_last hYne
                have hRr := HRF.out.later hbel.out
                obtain ⟨g, off, cap, rfl, ⟨hc1, hc2⟩, hog, hbg, hgw, hgr, hcell⟩ := hRr.form
                have hlast := hRr.last
                obtain ⟨hpo, hpt⟩ := hlast 0 (by decide)
                obtain ⟨pa, pc, hpv⟩ := hpo.val
                have hpv : y.p = .slice pa y.E.points.length pc := hpv
                have q2 := hcell 2 _ rfl
                rw [hpv, ← Nat.add_assoc] at q2
                obtain ⟨c0, c1, c2, c3, c4, c5, cf⟩ := rd_cells hRr.blk
                have hpe : pts = y.E.points := by rw [HPT.out, (last_map H.out.eq).1]
                have HIx : Hid (∀ q, Calls Tryz.prog 113 #[.slice pa y.E.points.length pc, .string tw] (wr.drewN q) fun e w' => e = .returned (.int .i64 (idxS pts tw)) ∧ wr.drewN q = w') := (show _ from fun q => by
                  rw [hpe, ← hpv]
                  exact indexStrs_any _ _ _ _ _ (hlast.slOf.p.below (below_drewN' q (Below.refl wr.heap.size wr)) (fun b hb => hb.2)))
                obtain ⟨m, hm⟩ : ∃ m, m = Z.length := ⟨_, rfl⟩
                obtain ⟨np, hnp⟩ : ∃ np, np = y.E.points.length := ⟨_, rfl⟩
                rw [← hm] at hc1 q2 c4
                rw [← hnp] at HIx q2
                obtain ⟨kx, hkx⟩ : ∃ kx, kx = idxS pts tw := ⟨_, rfl⟩
                rw [← hkx] at HIx
                have HKX := Lib.hid hkx
                have HNI := Lib.hid hni
                have hn4 : n ≤ 100 := by omega
                have hmZ : m ≤ 100000 := by rw [hm]; have := HF.out.n; rw [List.length_append, List.length_singleton] at this; omega
                obtain ⟨i0, hi0, hz0, hz1, hz2⟩ := info_parts Tryz.infoInt
                clear hst3 hYne hRr hlast hpo hpt hpv hcell hpe hm hnp hkx hog c0 c1 c2 c3 c5 cf
                by_cases hts : tw.size = 0
                · have he2 : tw.toList.isEmpty = true := empty_yes hts
                  have HL : Hid (lineR st s = (1, st)) := (show lineR st s = (1, st) from by
                    rw [HLR.out, wordsUp_none (up_bad hup.out (by rw [HTW.out]; exact bad_size hts (fun e => HC1.out (by rw [← HCN.out, e]; rfl)))) nf (by omega)])
                  clear hts
                  cases z
                  · by_cases hk0 : kx < 0
                    · skip
                      go_upto_region 17 with fail
                      go_quiet ((go_at_call 113; exact quiet_of_eqE (HIx.out _)))
                      generalize hq : World.drewN wr _ = wq
                      have HBQ : Hid (Below wF.heap.size wF wq) := (show Below wF.heap.size wF wq from by rw [← hq]; exact below_drewN' _ hbel.out)
                      have HOQ : Hid (OwnAt wq wF.heap.size 3 1 (.slice na n nc) n (intCells l)) := (show OwnAt wq wF.heap.size 3 1 (.slice na n nc) n (intCells l) from by rw [← hq]; exact hown.out.later (below_drewN' _ (Below.refl _ _)))
                      have e1 := (HSF.out.on HBQ.out).all.1
                      clear hq
                      go_wp2_with (at_builtin; go_must (refine wpList_append_off rfl (.tmp 93) (.tmp 95) 48 rfl wF.heap.size 3 i0 _ 1 8 Tryz.underlying48 hi0 hz0 hz1 hz2 rfl (by decide) (.slice na n nc) n (intCells l) rfl (HOQ.out.later ((Below.refl _ _).alloc (Nat.le_refl _) _)) ⟨wq.heap.size, 0, none⟩ 1 1 [.int .i64 kx] rfl rfl (new_cells _ [.int .i64 kx] _) (by intro u hu; simp at hu; subst hu; rfl) (by unfold maxLen; omega) (by omega) (by have := HBQ.out.size; rw [World.size_alloc]; omega) ?_; intro a4 k4 w4 ho4 hg4 hn4'; have HO4 := Lib.hid ho4; have HB4 := Lib.hid ((HBQ.out.alloc HBQ.out.size _).trans ((Keep.of_grown hg4).below (by have := HBQ.out.size; rw [World.size_alloc]; omega) (fun b hb => (HOQ.out.lt b hb.symm).1))); have e1 := (HSF.out.on HB4.out).all.1; clear ho4 hg4 hn4'))
                      go_ret
                      unfold Lined
                      rw [HL.out]
                      exact ⟨rfl, fun hh => (by cases hh), HKF.out.step (Keep.of_below HB4.out) (fun b hb hs => by have := HBF.out.size; omega)⟩
                    · skip
                      go_upto_region 17 with fail
                      go_quiet ((go_at_call 113; exact quiet_of_eqE (HIx.out _)))
                      generalize hq : World.drewN wr _ = wq
                      have HBQ : Hid (Below wF.heap.size wF wq) := (show Below wF.heap.size wF wq from by rw [← hq]; exact below_drewN' _ hbel.out)
                      have HOQ : Hid (OwnAt wq wF.heap.size 3 1 (.slice na n nc) n (intCells l)) := (show OwnAt wq wF.heap.size 3 1 (.slice na n nc) n (intCells l) from by rw [← hq]; exact hown.out.later (below_drewN' _ (Below.refl _ _)))
                      have e1 := (HSF.out.on HBQ.out).all.1
                      clear hq
                      go_wp2_with (at_builtin; go_must (refine wpList_append_off rfl (.tmp 93) (.tmp 95) 48 rfl wF.heap.size 3 i0 _ 1 8 Tryz.underlying48 hi0 hz0 hz1 hz2 rfl (by decide) (.slice na n nc) n (intCells l) rfl (HOQ.out.later ((Below.refl _ _).alloc (Nat.le_refl _) _)) ⟨wq.heap.size, 0, none⟩ 1 1 [.int .i64 kx] rfl rfl (new_cells _ [.int .i64 kx] _) (by intro u hu; simp at hu; subst hu; rfl) (by unfold maxLen; omega) (by omega) (by have := HBQ.out.size; rw [World.size_alloc]; omega) ?_; intro a4 k4 w4 ho4 hg4 hn4'; have HO4 := Lib.hid ho4; have HB4 := Lib.hid ((HBQ.out.alloc HBQ.out.size _).trans ((Keep.of_grown hg4).below (by have := HBQ.out.size; rw [World.size_alloc]; omega) (fun b hb => (HOQ.out.lt b hb.symm).1))); have e1 := (HSF.out.on HB4.out).all.1; clear ho4 hg4 hn4'))
                      go_ret
                      unfold Lined
                      rw [HL.out]
                      exact ⟨rfl, fun hh => (by cases hh), HKF.out.step (Keep.of_below HB4.out) (fun b hb hs => by have := HBF.out.size; omega)⟩
                  · skip
                    go_upto_region 17 with fail
                    go_quiet ((go_at_call 113; exact quiet_of_eqE (HIx.out _)))
                    generalize hq : World.drewN wr _ = wq
                    have HBQ : Hid (Below wF.heap.size wF wq) := (show Below wF.heap.size wF wq from by rw [← hq]; exact below_drewN' _ hbel.out)
                    have HOQ : Hid (OwnAt wq wF.heap.size 3 1 (.slice na n nc) n (intCells l)) := (show OwnAt wq wF.heap.size 3 1 (.slice na n nc) n (intCells l) from by rw [← hq]; exact hown.out.later (below_drewN' _ (Below.refl _ _)))
                    have e1 := (HSF.out.on HBQ.out).all.1
                    clear hq
                    go_wp2_with (at_builtin; go_must (refine wpList_append_off rfl (.tmp 93) (.tmp 95) 48 rfl wF.heap.size 3 i0 _ 1 8 Tryz.underlying48 hi0 hz0 hz1 hz2 rfl (by decide) (.slice na n nc) n (intCells l) rfl (HOQ.out.later ((Below.refl _ _).alloc (Nat.le_refl _) _)) ⟨wq.heap.size, 0, none⟩ 1 1 [.int .i64 kx] rfl rfl (new_cells _ [.int .i64 kx] _) (by intro u hu; simp at hu; subst hu; rfl) (by unfold maxLen; omega) (by omega) (by have := HBQ.out.size; rw [World.size_alloc]; omega) ?_; intro a4 k4 w4 ho4 hg4 hn4'; have HO4 := Lib.hid ho4; have HB4 := Lib.hid ((HBQ.out.alloc HBQ.out.size _).trans ((Keep.of_grown hg4).below (by have := HBQ.out.size; rw [World.size_alloc]; omega) (fun b hb => (HOQ.out.lt b hb.symm).1))); have e1 := (HSF.out.on HB4.out).all.1; clear ho4 hg4 hn4'))
                    go_ret
                    unfold Lined
                    rw [HL.out]
                    exact ⟨rfl, fun hh => (by cases hh), HKF.out.step (Keep.of_below HB4.out) (fun b hb hs => by have := HBF.out.size; omega)⟩
                · have HTS := Lib.hid hts
                  have he2 : tw.toList.isEmpty = false := empty_no hts
                  have hup2 : Hid (wordsUp pts fs.data.toList ts (i + 1) = some (l ++ [kx], z || decide (kx < 0))) := (show wordsUp pts fs.data.toList ts (i + 1) = some (l ++ [kx], z || decide (kx < 0)) from back_step hup.out (by
                    rw [HTW.out, HC2.out, HKX.out]
                    unfold wordStep
                    rw [if_neg (by decide), if_neg HTS.out, if_pos rfl]))
                  clear hts
                  cases z
                  · by_cases hk0 : kx < 0
                    · rw [decide_eq_true hk0] at hup2
                      go_upto_region 17 with fail
                      go_quiet ((go_at_call 113; exact quiet_of_eqE (HIx.out _)))
                      generalize hq : World.drewN wr _ = wq
                      have HBQ : Hid (Below wF.heap.size wF wq) := (show Below wF.heap.size wF wq from by rw [← hq]; exact below_drewN' _ hbel.out)
                      have HOQ : Hid (OwnAt wq wF.heap.size 3 1 (.slice na n nc) n (intCells l)) := (show OwnAt wq wF.heap.size 3 1 (.slice na n nc) n (intCells l) from by rw [← hq]; exact hown.out.later (below_drewN' _ (Below.refl _ _)))
                      have e1 := (HSF.out.on HBQ.out).all.1
                      clear hq
                      go_wp2_with (at_builtin; go_must (refine wpList_append_off rfl (.tmp 93) (.tmp 95) 48 rfl wF.heap.size 3 i0 _ 1 8 Tryz.underlying48 hi0 hz0 hz1 hz2 rfl (by decide) (.slice na n nc) n (intCells l) rfl (HOQ.out.later ((Below.refl _ _).alloc (Nat.le_refl _) _)) ⟨wq.heap.size, 0, none⟩ 1 1 [.int .i64 kx] rfl rfl (new_cells _ [.int .i64 kx] _) (by intro u hu; simp at hu; subst hu; rfl) (by unfold maxLen; omega) (by omega) (by have := HBQ.out.size; rw [World.size_alloc]; omega) ?_; intro a4 k4 w4 ho4 hg4 hn4'; have HO4 := Lib.hid ho4; have HB4 := Lib.hid ((HBQ.out.alloc HBQ.out.size _).trans ((Keep.of_grown hg4).below (by have := HBQ.out.size; rw [World.size_alloc]; omega) (fun b hb => (HOQ.out.lt b hb.symm).1))); have e1 := (HSF.out.on HB4.out).all.1; clear ho4 hg4 hn4'))
                      go_roundw
                      case rel => exact ⟨i + 1, n + 1, l ++ [kx], true, a4, k4, by omega, by omega, by go_num, rfl, rfl, hup2, (show (l ++ [kx]).length = n + 1 from by rw [List.length_append, hll.out]; rfl), (show OwnAt w4 wF.heap.size 3 1 (.slice a4 (n + 1) k4) (n + 1) (intCells (l ++ [kx])) from by unfold intCells; rw [List.map_append]; exact HO4.out), HB4⟩
                      case measure => simp [intOf]; omega
                    · rw [decide_eq_false hk0] at hup2
                      go_upto_region 17 with fail
                      go_quiet ((go_at_call 113; exact quiet_of_eqE (HIx.out _)))
                      generalize hq : World.drewN wr _ = wq
                      have HBQ : Hid (Below wF.heap.size wF wq) := (show Below wF.heap.size wF wq from by rw [← hq]; exact below_drewN' _ hbel.out)
                      have HOQ : Hid (OwnAt wq wF.heap.size 3 1 (.slice na n nc) n (intCells l)) := (show OwnAt wq wF.heap.size 3 1 (.slice na n nc) n (intCells l) from by rw [← hq]; exact hown.out.later (below_drewN' _ (Below.refl _ _)))
                      have e1 := (HSF.out.on HBQ.out).all.1
                      clear hq
                      go_wp2_with (at_builtin; go_must (refine wpList_append_off rfl (.tmp 93) (.tmp 95) 48 rfl wF.heap.size 3 i0 _ 1 8 Tryz.underlying48 hi0 hz0 hz1 hz2 rfl (by decide) (.slice na n nc) n (intCells l) rfl (HOQ.out.later ((Below.refl _ _).alloc (Nat.le_refl _) _)) ⟨wq.heap.size, 0, none⟩ 1 1 [.int .i64 kx] rfl rfl (new_cells _ [.int .i64 kx] _) (by intro u hu; simp at hu; subst hu; rfl) (by unfold maxLen; omega) (by omega) (by have := HBQ.out.size; rw [World.size_alloc]; omega) ?_; intro a4 k4 w4 ho4 hg4 hn4'; have HO4 := Lib.hid ho4; have HB4 := Lib.hid ((HBQ.out.alloc HBQ.out.size _).trans ((Keep.of_grown hg4).below (by have := HBQ.out.size; rw [World.size_alloc]; omega) (fun b hb => (HOQ.out.lt b hb.symm).1))); have e1 := (HSF.out.on HB4.out).all.1; clear ho4 hg4 hn4'))
                      go_roundw
                      case rel => exact ⟨i + 1, n + 1, l ++ [kx], false, a4, k4, by omega, by omega, by go_num, rfl, rfl, hup2, (show (l ++ [kx]).length = n + 1 from by rw [List.length_append, hll.out]; rfl), (show OwnAt w4 wF.heap.size 3 1 (.slice a4 (n + 1) k4) (n + 1) (intCells (l ++ [kx])) from by unfold intCells; rw [List.map_append]; exact HO4.out), HB4⟩
                      case measure => simp [intOf]; omega
                  · rw [Bool.true_or] at hup2
                    go_upto_region 17 with fail
                    go_quiet ((go_at_call 113; exact quiet_of_eqE (HIx.out _)))
                    generalize hq : World.drewN wr _ = wq
                    have HBQ : Hid (Below wF.heap.size wF wq) := (show Below wF.heap.size wF wq from by rw [← hq]; exact below_drewN' _ hbel.out)
                    have HOQ : Hid (OwnAt wq wF.heap.size 3 1 (.slice na n nc) n (intCells l)) := (show OwnAt wq wF.heap.size 3 1 (.slice na n nc) n (intCells l) from by rw [← hq]; exact hown.out.later (below_drewN' _ (Below.refl _ _)))
                    have e1 := (HSF.out.on HBQ.out).all.1
                    clear hq
                    go_wp2_with (at_builtin; go_must (refine wpList_append_off rfl (.tmp 93) (.tmp 95) 48 rfl wF.heap.size 3 i0 _ 1 8 Tryz.underlying48 hi0 hz0 hz1 hz2 rfl (by decide) (.slice na n nc) n (intCells l) rfl (HOQ.out.later ((Below.refl _ _).alloc (Nat.le_refl _) _)) ⟨wq.heap.size, 0, none⟩ 1 1 [.int .i64 kx] rfl rfl (new_cells _ [.int .i64 kx] _) (by intro u hu; simp at hu; subst hu; rfl) (by unfold maxLen; omega) (by omega) (by have := HBQ.out.size; rw [World.size_alloc]; omega) ?_; intro a4 k4 w4 ho4 hg4 hn4'; have HO4 := Lib.hid ho4; have HB4 := Lib.hid ((HBQ.out.alloc HBQ.out.size _).trans ((Keep.of_grown hg4).below (by have := HBQ.out.size; rw [World.size_alloc]; omega) (fun b hb => (HOQ.out.lt b hb.symm).1))); have e1 := (HSF.out.on HB4.out).all.1; clear ho4 hg4 hn4'))
                    go_roundw
                    case rel => exact ⟨i + 1, n + 1, l ++ [kx], true, a4, k4, by omega, by omega, by go_num, rfl, rfl, hup2, (show (l ++ [kx]).length = n + 1 from by rw [List.length_append, hll.out]; rfl), (show OwnAt w4 wF.heap.size 3 1 (.slice a4 (n + 1) k4) (n + 1) (intCells (l ++ [kx])) from by unfold intCells; rw [List.map_append]; exact HO4.out), HB4⟩
                    case measure => simp [intOf]; omega
              · have hq2 : ((cn : Int) == 112) = false := by rw [beq_eq_false_iff_ne]; omega
                have HC2 := Lib.hid h112
                clear h110 h112
                by_cases hts : tw.size = 0
                · have HTS := Lib.hid hts
                  have he2 : tw.toList.isEmpty = true := empty_yes hts
                  have e1 := (HSF.out.on hbel.out).all.1
                  have HL : Hid (lineR st s = (1, st)) := (show lineR st s = (1, st) from by
                    rw [HLR.out, wordsUp_none (up_bad hup.out (by rw [HTW.out]; exact bad_size HTS.out (fun e => HC1.out (by rw [← HCN.out, e]; rfl)))) nf (by omega)])
                  clear hts
                  go_wp2_with fail
                  go_ret
                  unfold Lined
                  rw [HL.out]
                  exact ⟨rfl, fun hh => (by cases hh), HKF.out.step (Keep.of_below hbel.out) (fun b hb hs => by have := HBF.out.size; omega)⟩
                · have HTS := Lib.hid hts
                  have he2 : tw.toList.isEmpty = false := empty_no hts
                  have hup2 : Hid (wordsUp pts fs.data.toList ts (i + 1) = some (l, z)) := (show wordsUp pts fs.data.toList ts (i + 1) = some (l, z) from back_step hup.out (by
                    rw [HTW.out]
                    exact step_other (fun e => HC1.out (by rw [← HCN.out, e]; rfl)) (fun e => HC2.out (by rw [← HCN.out, e]; rfl)) HTS.out))
                  clear hts
                  go_wp2_with fail
                  go_roundw
                  case rel => exact ⟨i + 1, n, l, z, na, nc, by omega, by omega, by go_num, rfl, rfl, hup2, hll, hown, hbel⟩
                  case measure => simp [intOf]; omega
          · obtain rfl : i = nf := by omega
            have hbL := HBF.out.size
            have hwx : wr.cell? ⟨w.heap.size, 1, none⟩ = some (.string (ts.getD 0 ByteArray.empty)) := by
              rw [hbel.out.cell (p := ⟨w.heap.size, 1, none⟩) (lt_of_get HXF.out)]
              have h1 : 1 ≤ ts.length := by have := HNF.out; omega
              have := HXF.out
              rw [List.getD_eq_getElem?_getD]
              simp [World.cell?, this, List.getElem?_eq_getElem h1]
            have y0 : wr.cell? ⟨fb, 0, none⟩ = some (.int .i64 k) := by rw [hbel.out.cell (p := ⟨fb, 0, none⟩) (lt_of_get HFB.out)]; exact z0
            cases z
            · have HL : Hid (lineR st s = (0, ⟨takeC k (ts.getD 0 ByteArray.empty) l st.c, (k : Int)⟩)) := (show lineR st s = (0, ⟨takeC k (ts.getD 0 ByteArray.empty) l st.c, (k : Int)⟩) from by rw [HLR.out, hup.out]; rfl)
              obtain ⟨t0, ht0⟩ : ∃ t0, t0 = ts.getD 0 ByteArray.empty := ⟨_, rfl⟩
              rw [← ht0] at hwx HL
              have hRr := HRF.out.later hbel.out
              have hrs := hRr.set (C' := st.c) (st' := (k : Int)) 5 (.int .i64 k) rfl rfl
              have hYne : 4 ≤ k → Y ≠ [] := fun h4 e => HI.out.ne (right_four h4 HZR.out.symm) (by rw [H.out.eq, e]; rfl)
              have hlen : l.length = nLen k := by rw [wordsUp_len hup.out, cnt_form HFO.out.1 HFZ.out]
              have hrl := lt_of_get hRr.blk
              have hofb : o fb = none := H.out.fr fb (by omega)
              have howb : o w.heap.size = none := H.out.fr _ (Nat.le_refl _)
              have hfr : ¬ fb = rb := by have := lt_of_get H.out.blk; omega
              have hwr : ¬ w.heap.size = rb := by have := lt_of_get H.out.blk; omega
              have hnums : NumsAt rb o wr (.slice na n nc) l := by
                rcases hown.out.2 with ⟨_, h0⟩ | ⟨nb, noff, ncap, cur, hv, h2, h3, _⟩
                · exact .inl (List.eq_nil_of_length_eq_zero (by rw [hll.out]; exact h0))
                · obtain ⟨rfl, _, rfl⟩ := Value.slice.inj hv
                  refine .inr ⟨nb, noff, nc, by rw [hll.out], lt_of_get h3, ⟨H.out.fr nb (by omega), by have := lt_of_get H.out.blk; omega⟩, fun j x hx => ?_⟩
                  have := hown.out.cells j (.int .i64 x) (by unfold intCells; rw [List.getElem?_map, hx]; rfl)
                  rw [addr_add] at this
                  exact this
              have HTk : Hid (∀ W, Below (wr.setCell ⟨rb, 5, none⟩ (.int .i64 k)).heap.size (wr.setCell ⟨rb, 5, none⟩ (.int .i64 k)) W → Calls Tryz.prog 114 #[.pointer (some ⟨rb, 0, none⟩), .int .i64 k, .string t0, .slice na n nc] W fun e w' => e = .returned (.tuple #[]) ∧ Took base rb o (takeC k t0 l st.c) (k : Int) W w') := (show _ from fun W hW => by
                refine take_any base rb o st.c k HK9.out v Y W (hrs.later hW) HF.out hYne t0 _ l hlen ?_
                rcases hnums with h0 | ⟨nb, noff, ncap, hv, h1, h2, h3⟩
                · exact .inl h0
                · have ks := (keep_set wr rb 5 (.int .i64 k)).step (Keep.of_below hW) (fun b hb hl => by have := (keep_set wr rb 5 (.int .i64 k)).size; omega)
                  refine .inr ⟨nb, noff, ncap, hv, Nat.lt_of_lt_of_le h1 ks.size, h2, fun j x hx => ?_⟩
                  rw [ks.cell (p := ⟨nb, noff + j, none⟩) h1 (fun e => h2.2 e)]
                  exact h3 j x hx)
              have HKS : Hid (Keep (fun b => b = rb ∨ base ≤ b) w (wr.setCell ⟨rb, 5, none⟩ (.int .i64 k))) := (show Keep (fun b => b = rb ∨ base ≤ b) w (wr.setCell ⟨rb, 5, none⟩ (.int .i64 k)) from
                ((HKF.out.step (Keep.of_below hbel.out) (fun b hb hs => by omega)).step (keep_set wr rb 5 (.int .i64 k)) (fun b hb hs => .inl hb)))
              have HOB := Lib.hid H.out.ob
              obtain ⟨_, _, _, _, _, c5, cf⟩ := rd_cells hRr.blk
              have cfr := cf 5
              have hS0 : ∀ W, Below (wr.setCell ⟨rb, 5, none⟩ (.int .i64 k)).heap.size (wr.setCell ⟨rb, 5, none⟩ (.int .i64 k)) W → W.cell? ⟨fb, 0, none⟩ = some (.int .i64 k) ∧ W.cell? ⟨w.heap.size, 1, none⟩ = some (.string t0) := fun W hW => by
                have ks := (keep_set wr rb 5 (.int .i64 k)).step (Keep.of_below hW) (fun b hb hl => by have := (keep_set wr rb 5 (.int .i64 k)).size; omega)
                rw [ks.cell (p := ⟨fb, 0, none⟩) (by have := World.block_lt_of_cell? _ ⟨fb, 0, none⟩ y0; exact this) hfr, ks.cell (p := ⟨w.heap.size, 1, none⟩) (by have := World.block_lt_of_cell? _ ⟨w.heap.size, 1, none⟩ hwx; exact this) hwr]
                exact ⟨y0, hwx⟩
              have HS0 := Lib.hid hS0
              have HSK : Hid (∀ W w', Below (wr.setCell ⟨rb, 5, none⟩ (.int .i64 k)).heap.size (wr.setCell ⟨rb, 5, none⟩ (.int .i64 k)) W → Took base rb o (takeC k t0 l st.c) (k : Int) W w' → w'.cell? ⟨fb, 0, none⟩ = some (.int .i64 k) ∧ w'.cell? ⟨w.heap.size, 1, none⟩ = some (.string t0)) := (show _ from fun W w' hW hT => by
                obtain ⟨a1, a2⟩ := hS0 W hW
                rw [hT.2.cell (p := ⟨fb, 0, none⟩) (by have := World.block_lt_of_cell? _ ⟨fb, 0, none⟩ a1; exact this) (fun hs => by rcases hs with hs | ⟨tg, hs⟩; exact hfr hs; rw [hofb] at hs; cases hs), hT.2.cell (p := ⟨w.heap.size, 1, none⟩) (by have := World.block_lt_of_cell? _ ⟨w.heap.size, 1, none⟩ a2; exact this) (fun hs => by rcases hs with hs | ⟨tg, hs⟩; exact hwr hs; rw [howb] at hs; cases hs)]
                exact ⟨a1, a2⟩)
              have hnf3 : (0 : Int) < (i : Int) + 1 := by omega
              have hnf5 : (1 : Int) < (i : Int) + 1 := by omega
              clear hRr hrs hYne hlen hofb howb hnums ht0 cf hS0
              go_upto_region 26 with fail
              generalize hwS : wr.setCell _ _ = wS at HTk HKS HS0 HSK ⊢
              clear hwS
              go_region_held3 (fun w' => w'.cell? ⟨fb, 0, none⟩ = some (.int .i64 k) ∧ w'.cell? ⟨w.heap.size, 1, none⟩ = some (.string t0))
                (first | exact HSK.out _ _ ((Below.refl _ _).drew) hTk | exact HS0.out _ (by repeat (first | exact Below.refl _ _ | refine Below.drew ?_)))
                (first | (go_at_call 114; refine (HTk.out _ (by repeat (first | exact Below.refl _ _ | refine Below.drew ?_))).mono ?_; rintro e w7 ⟨rfl, hTk⟩))
              go_wp2_with fail
              go_ret
              unfold Lined
              rw [HL.out]
              refine ⟨rfl, fun _ => hTk.1, ?_⟩
              exact HKS.out.step ((Keep.refl (fun _ => False) wS).drew.mono (fun b _ h => h.elim) |>.step hTk.2 (fun b hb _ => hb)) (fun b hb hl => by
                rcases hb with hb | ⟨tg, hb⟩
                · exact .inl hb
                · right
                  by_cases hbb : b < base
                  · rw [HOB.out b hbb] at hb; cases hb
                  · omega)
            · have HL : Hid (lineR st s = (5, st)) := (show lineR st s = (5, st) from by rw [HLR.out, hup.out]; rfl)
              have e5 := (HSF.out.on hbel.out).all.2.2.2.2.1
              go_wp2_with fail
              go_ret
              unfold Lined
              rw [HL.out]
              exact ⟨rfl, fun hh => (by cases hh), HKF.out.step (Keep.of_below hbel.out) (fun b hb hs => by omega)⟩
      · have HL : Hid (lineR st s = (1, st)) := (show lineR st s = (1, st) from by
          have : lineFits st s = false := by
            unfold lineFits
            rw [HHD.out, HFO.out.2.2, HWS.out, List.length_cons, Nat.add_sub_cancel]
            have : (ts.length == fs.size) = false := by
              rw [beq_eq_false_iff_ne]
              have := HNW.out
              omega
            rw [this, Bool.and_false]
          unfold lineR; rw [this]; rfl)
        have e1 := HSF.out.all.1
        go_wp2_with fail
        refine HRt.out.mono ?_
        rintro e w' ⟨rfl, rfl⟩
        go_wp2_with fail
        go_ret
        unfold Lined
        rw [HL.out]
        exact ⟨rfl, fun hh => (by cases hh), HKF.out⟩
  · have hok : formOk w0 = false := by simpa using hok
    have HL : Hid (lineR st s = (1, st)) := (show lineR st s = (1, st) from by
      have : lineFits st s = false := by unfold lineFits; rw [HHD.out, hok]; rfl
      unfold lineR; rw [this]; rfl)
    have e1 := HSF.out.all.1
    go_wp2_with fail
    go_ret
    unfold Lined
    rw [HL.out]
    exact ⟨rfl, fun hh => (by cases hh), HKF.out⟩
end Go.Proofs.YtikehilbmldadaaGreatDoor
