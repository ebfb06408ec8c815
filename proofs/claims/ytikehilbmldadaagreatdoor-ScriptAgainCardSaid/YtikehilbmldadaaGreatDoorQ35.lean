import Derived.Test.YtikehilbmldadaaGreatDoorQ31
import Derived.Deep.DeepCutAuto
set_option maxHeartbeats 2000000
set_option maxRecDepth 100000
namespace Go.Proofs.YtikehilbmldadaaGreatDoor
open Go.RowKit
set_option linter.unusedVariables false
theorem Tryz.formZero (w : World) : (zeroValue 207).run Tryz.prog w = .ok (formV (0, ByteArray.empty)) w := by kernel_rfl
theorem forms_any (s : ByteArray) (w : World) :
    Calls Tryz.prog 110 #[.string s] w fun e w' => e = .returned (.tuple #[formV (formStage s, formWords s), .bool (formOk s)]) ∧ Below w.heap.size w w' := by
  have hm := fun (W : World) => show (Instr.makeMap 273 none).run Tryz.prog W = .ok (.map (some W.heap.size)) (mapW W 0) from rfl
  have h0 := fun (W : World) => show (Instr.mapUpdate 273 (.map (some W.heap.size)) (.string ⟨#[119, 105, 110, 100, 111, 119]⟩) (.agg #[.int .i64 0, .string ⟨#[110, 110]⟩])).run Tryz.prog (mapW W 0) = .ok () (mapW W 1) from form_ins Tryz.underlying273 Tryz.underlying9 W 0 (by decide) _ rfl
  have h1 := fun (W : World) => show (Instr.mapUpdate 273 (.map (some W.heap.size)) (.string ⟨#[99, 121, 99, 108, 101]⟩) (.agg #[.int .i64 1, .string ⟨#[110]⟩])).run Tryz.prog (mapW W 1) = .ok () (mapW W 2) from form_ins Tryz.underlying273 Tryz.underlying9 W 1 (by decide) _ rfl
  have h2 := fun (W : World) => show (Instr.mapUpdate 273 (.map (some W.heap.size)) (.string ⟨#[100, 101, 108, 97, 121]⟩) (.agg #[.int .i64 2, .string ⟨#[110]⟩])).run Tryz.prog (mapW W 2) = .ok () (mapW W 3) from form_ins Tryz.underlying273 Tryz.underlying9 W 2 (by decide) _ rfl
  have h3 := fun (W : World) => show (Instr.mapUpdate 273 (.map (some W.heap.size)) (.string ⟨#[101, 110, 116, 105, 116, 121]⟩) (.agg #[.int .i64 3, .string ⟨#[115, 110]⟩])).run Tryz.prog (mapW W 3) = .ok () (mapW W 4) from form_ins Tryz.underlying273 Tryz.underlying9 W 3 (by decide) _ rfl
  have h4 := fun (W : World) => show (Instr.mapUpdate 273 (.map (some W.heap.size)) (.string ⟨#[112, 111, 105, 110, 116]⟩) (.agg #[.int .i64 4, .string ⟨#[115]⟩])).run Tryz.prog (mapW W 4) = .ok () (mapW W 5) from form_ins Tryz.underlying273 Tryz.underlying9 W 4 (by decide) _ rfl
  have h5 := fun (W : World) => show (Instr.mapUpdate 273 (.map (some W.heap.size)) (.string ⟨#[99, 111, 117, 110, 116]⟩) (.agg #[.int .i64 5, .string ⟨#[112, 110, 110]⟩])).run Tryz.prog (mapW W 5) = .ok () (mapW W 6) from form_ins Tryz.underlying273 Tryz.underlying9 W 5 (by decide) _ rfl
  have h6 := fun (W : World) => show (Instr.mapUpdate 273 (.map (some W.heap.size)) (.string ⟨#[103, 97, 112]⟩) (.agg #[.int .i64 6, .string ⟨#[112, 112, 110, 110]⟩])).run Tryz.prog (mapW W 6) = .ok () (mapW W 7) from form_ins Tryz.underlying273 Tryz.underlying9 W 6 (by decide) _ rfl
  have h7 := fun (W : World) => show (Instr.mapUpdate 273 (.map (some W.heap.size)) (.string ⟨#[101, 100, 103, 101]⟩) (.agg #[.int .i64 7, .string ⟨#[112, 112]⟩])).run Tryz.prog (mapW W 7) = .ok () (mapW W 8) from form_ins Tryz.underlying273 Tryz.underlying9 W 7 (by decide) _ rfl
  have h8 := fun (W : World) => show (Instr.mapUpdate 273 (.map (some W.heap.size)) (.string ⟨#[102, 105, 114, 115, 116]⟩) (.agg #[.int .i64 8, .string ⟨#[112]⟩])).run Tryz.prog (mapW W 8) = .ok () (mapW W 9) from form_ins Tryz.underlying273 Tryz.underlying9 W 8 (by decide) _ rfl
  have h9 := fun (W : World) => show (Instr.mapUpdate 273 (.map (some W.heap.size)) (.string ⟨#[108, 97, 115, 116]⟩) (.agg #[.int .i64 9, .string ⟨#[112]⟩])).run Tryz.prog (mapW W 9) = .ok () (mapW W 10) from form_ins Tryz.underlying273 Tryz.underlying9 W 9 (by decide) _ rfl
  have hl := fun (W : World) => form_look Tryz.underlying273 Tryz.underlying9 Tryz.formZero W s
  have hb1 : Below w.heap.size w (w.alloc (.cells #[.int .i64 0, .string ⟨#[]⟩] 207)) := (Below.refl _ _).alloc (Nat.le_refl _) _
  have hx := get_alloc_new w (.cells #[.int .i64 0, .string ⟨#[]⟩] 207)
  simp only [formV] at hl ⊢
  go_enter Tryz.func110, Tryz.ntmps110
  go_upto_region 1 with fail
  generalize w.alloc _ = w1 at hb1 hx ⊢
  have bm : Below w1.heap.size w1 (mapW w1 10) := (Below.refl _ _).alloc (Nat.le_refl _) _
  have b2 : Below w1.heap.size w1 ((mapW w1 10).alloc (.cells #[.int .i64 (formStage s), .string (formWords s)] 207)) := bm.alloc bm.size _
  have hx2 := below_get b2 hx (lt_of_get hx)
  have hn2 := get_alloc_new (mapW w1 10) (.cells #[.int .i64 (formStage s), .string (formWords s)] 207)
  have HB2 := Lib.hid (hb1.trans (b2.mono hb1.size))
  have hlt := lt_of_get hx
  have HSZ := Lib.hid bm.size
  clear hx bm b2 hb1
  go_upto_region 3 with fail
  generalize (mapW w1 10).alloc _ = w2 at hx2 hn2 HB2 ⊢
  have HSZ := HSZ.out
  generalize (mapW w1 10).heap.size = eb at hn2 HSZ ⊢
  have c0 : w2.cell? ⟨w.heap.size, 0, none⟩ = some (.int .i64 0) := by simp [World.cell?, hx2]
  have c1 : w2.cell? ⟨w.heap.size, 1, none⟩ = some (.string ⟨#[]⟩) := by simp [World.cell?, hx2]
  have cf : ∀ o, w2.frozen? ⟨w.heap.size, o, none⟩ = false := by intro o; simp [World.frozen?, hx2]
  have e0 : w2.cell? ⟨eb, 0, none⟩ = some (.int .i64 (formStage s)) := by simp [World.cell?, hn2]
  have e1 : w2.cell? ⟨eb, 1, none⟩ = some (.string (formWords s)) := by simp [World.cell?, hn2]
  have hne : ¬ w.heap.size = eb := by omega
  have hne2 : ¬ eb = w.heap.size := by omega
  have kv := (keep_set w2 w.heap.size 0 (.int .i64 (formStage s))).setCell (p := ⟨w.heap.size, 1, none⟩) (fun _ => rfl) (.string (formWords s))
  have HBE := Lib.hid (HB2.out.trans (kv.below HB2.out.size (fun b hb => by omega)))
  clear hm h0 h1 h2 h3 h4 h5 h6 h7 h8 h9 hl hx2 hn2 kv
  go_wp2_with fail
  refine bodyPost_ret (v := .tuple #[.agg #[.int .i64 (formStage s), .string (formWords s)], .bool (formOk s)]) (by simp [results, Tryz.results110, go_sem, c0, c1, World.cell?_setCell_same, World.cell?_setCell_other]) rfl ?_
  exact ⟨rfl, HBE.out⟩
end Go.Proofs.YtikehilbmldadaaGreatDoor
namespace Go.Proofs.YtikehilbmldadaaGreatDoor
open Go.RowKit
set_option linter.unusedVariables false
theorem line1 (a : W1) : lineB [a] = wordB a ++ [10] := by simp [lineB, upB, sepB, List.range_succ]
theorem line2 (a b : W1) : lineB [a, b] = wordB a ++ 32 :: wordB b ++ [10] := by simp [lineB, upB, sepB, List.range_succ]
theorem line3 (a b c : W1) : lineB [a, b, c] = wordB a ++ 32 :: wordB b ++ 32 :: wordB c ++ [10] := by simp [lineB, upB, sepB, List.range_succ]
theorem line4 (a b c d : W1) : lineB [a, b, c, d] = wordB a ++ 32 :: wordB b ++ 32 :: wordB c ++ 32 :: wordB d ++ [10] := by simp [lineB, upB, sepB, List.range_succ]
theorem line5 (a b c d e : W1) : lineB [a, b, c, d, e] = wordB a ++ 32 :: wordB b ++ 32 :: wordB c ++ 32 :: wordB d ++ 32 :: wordB e ++ [10] := by simp [lineB, upB, sepB, List.range_succ]
structure Fits (E : EntV) (k : Int) : Prop where
  c : k < 5 → E.count = -1
  g : k < 6 → E.gaps = []
  e : k < 7 → E.edges = []
  f : k < 8 → E.first = []
  l : k < 9 → E.last = []
structure RdInv (st : RdS) : Prop where
  lo : -1 ≤ st.stage ∧ st.stage ≤ 9
  no : st.stage < 3 → st.c.ents = []
  ne : 3 ≤ st.stage → st.c.ents ≠ []
  fit : 3 ≤ st.stage → Fits (lastE st.c.ents) st.stage
def txtL (st : RdS) : List (List W1) := (headL st.c).take (st.stage + 1).toNat ++ st.c.ents.flatMap entLn
def txt (st : RdS) : List UInt8 := linesB (txtL st)
theorem inv_start : RdInv RdS.start := ⟨⟨by decide, by decide⟩, fun _ => rfl, fun h => absurd h (by decide), fun h => absurd h (by decide)⟩
theorem txt_start : txt RdS.start = [] := rfl
theorem numV_itoa {t : ByteArray} {k : Nat} (h : numV t = some k) : Lib.itoa (k : Int) = t.data.toList := by
  unfold numV at h
  split at h
  · split at h
    · next v hv hc =>
      obtain rfl := Option.some.inj h
      rw [Int.toNat_of_nonneg hc.2.1]
      exact hc.2.2
    · cases h
  · cases h
theorem bytes_ext {a b : ByteArray} (h : a.data.toList = b.data.toList) : a = b := by
  cases a; cases b
  exact congrArg ByteArray.mk (Array.toList_inj.1 h)
theorem idxS_at {l : List ByteArray} {t : ByteArray} (h : 0 ≤ idxS l t) : l.getD (idxS l t).toNat ByteArray.empty = t ∧ (idxS l t).toNat < l.length := by
  unfold idxS sidxOf at h ⊢
  cases hf : l.findIdx? (fun x => x.toList == t.toList) with
  | none => rw [hf] at h; simp at h
  | some k =>
    obtain ⟨hk, h1, _⟩ := List.findIdx?_eq_some_iff_getElem.1 hf
    simp only [Int.toNat_natCast]
    refine ⟨?_, hk⟩
    rw [List.getD_eq_getElem?_getD, List.getElem?_eq_getElem hk]
    have h2 := eq_of_beq h1
    rw [ByteArray.toList_eq, ByteArray.toList_eq] at h2
    exact bytes_ext h2
theorem last_split {L : List EntV} (h : L ≠ []) : L = L.dropLast ++ [lastE L] := by
  have := List.dropLast_concat_getLast h
  rw [lastE, List.getLast?_eq_some_getLast h]
  exact this.symm
theorem lastE_app (L : List EntV) (E : EntV) : lastE (L ++ [E]) = E := by simp [lastE]
theorem up_succ {pts : List ByteArray} {fs : List UInt8} {ts : List ByteArray} {k : Nat} {q : List Int × Bool} (h : wordsUp pts fs ts (k + 1) = some q) : ∃ p, wordsUp pts fs ts k = some p ∧ wordStep pts (fs.getD k 0) (ts.getD k ByteArray.empty) p = some q := by
  unfold wordsUp at h
  cases hp : wordsUp pts fs ts k with
  | none => rw [hp] at h; cases h
  | some p => rw [hp] at h; exact ⟨p, rfl, h⟩
theorem step_n {pts : List ByteArray} {t : ByteArray} {p q : List Int × Bool} (h : wordStep pts 110 t p = some q) : ∃ k : Nat, numV t = some k ∧ q = (p.1 ++ [(k : Int)], p.2) := by
  unfold wordStep at h
  rw [if_pos rfl] at h
  cases hn : numV t with
  | none => rw [hn] at h; cases h
  | some k => rw [hn] at h; exact ⟨k, rfl, (Option.some.inj h).symm⟩
theorem step_p {pts : List ByteArray} {t : ByteArray} {p q : List Int × Bool} (h : wordStep pts 112 t p = some q) : q = (p.1 ++ [idxS pts t], p.2 || decide (idxS pts t < 0)) := by
  unfold wordStep at h
  rw [if_neg (by decide)] at h
  split at h
  · cases h
  · rw [if_pos rfl] at h
    exact (Option.some.inj h).symm
theorem step_s {pts : List ByteArray} {t : ByteArray} {p q : List Int × Bool} (h : wordStep pts 115 t p = some q) : q = p := by
  unfold wordStep at h
  rw [if_neg (by decide)] at h
  split at h
  · cases h
  · rw [if_neg (by decide)] at h
    exact (Option.some.inj h).symm
theorem form_mem {s : ByteArray} (h : formOk s = true) : ∃ p ∈ formL, p.1 = s ∧ formStage s = p.2.1 ∧ formWords s = p.2.2 := by
  unfold formOk formOf at h
  unfold formStage formWords formOf
  cases hf : formL.find? (fun p => p.1.data.toList == s.data.toList) with
  | none => rw [hf] at h; cases h
  | some p =>
    have h1 := List.find?_some hf
    exact ⟨p, List.mem_of_find?_eq_some hf, bytes_ext (eq_of_beq h1), rfl, rfl⟩
theorem line_join (s : ByteArray) : interL 32 ((lineW s).map (·.data.toList)) = s.data.toList := by
  unfold lineW
  rw [pieces_cut, inter_cut]
theorem lineW_ne (s : ByteArray) : lineW s ≠ [] := by
  intro h
  have := pieces_cut 32 s
  rw [show piecesB 32 s = [] from h] at this
  exact cut_ne 32 _ this.symm
theorem line_fit {st : RdS} {s : ByteArray} (h : lineFits st s = true) : ∃ p ∈ formL, ∃ ts, lineW s = p.1 :: ts ∧ lineHd s = p.1 ∧ ts.length = p.2.2.size ∧ rightB st.stage p.2.1 = true ∧ formStage p.1 = p.2.1 ∧ formWords p.1 = p.2.2 := by
  unfold lineFits at h
  rw [Bool.and_eq_true, Bool.and_eq_true] at h
  obtain ⟨⟨h1, h2⟩, h3⟩ := h
  obtain ⟨p, hp, e, hs, hw⟩ := form_mem h1
  have h3 := eq_of_beq h3
  cases hl : lineW s with
  | nil => exact absurd hl (lineW_ne s)
  | cons a ts =>
    have ha : lineHd s = a := by unfold lineHd; rw [hl]; rfl
    rw [hs] at h2
    rw [hl, hw] at h3
    refine ⟨p, hp, ts, ?_, e.symm, by simpa using h3, h2, by rw [e]; exact hs, by rw [e]; exact hw⟩
    rw [e, ha]
theorem lineR_ok {st st' : RdS} {s : ByteArray} (h : lineR st s = (0, st')) : lineFits st s = true ∧ ∃ n, lineRes st s = some (n, false) ∧ st' = ⟨takeC (formStage (lineHd s)) ((lineW s).getD 1 ByteArray.empty) n st.c, formStage (lineHd s)⟩ := by
  unfold lineR at h
  split at h
  · next hf =>
    refine ⟨hf, ?_⟩
    cases hr : lineRes st s with
    | none => rw [hr] at h; cases h
    | some p =>
      rw [hr] at h
      obtain ⟨n, z⟩ := p
      cases z
      · exact ⟨n, rfl, ((Prod.mk.inj h).2).symm⟩
      · cases h
  · cases h
theorem take_head {C : ConfV} {k : Int} (h : 2 ≤ k) : (headL C).take (k + 1).toNat = headL C := List.take_of_length_le (by show 3 ≤ _; omega)
theorem txt_last {st : RdS} {k : Nat} {E' : EntV} {ws : List W1} {C' : ConfV} (h2 : 2 ≤ st.stage) (hk : 2 ≤ k) (hne : st.c.ents ≠ []) (hh : headL C' = headL st.c) (he : C'.ents = st.c.ents.dropLast ++ [E']) (hl : entLn E' = entLn (lastE st.c.ents) ++ [ws]) :
    txt ⟨C', (k : Int)⟩ = txt st ++ lineB ws := by
  unfold txt txtL
  show linesB ((headL C').take ((k : Int) + 1).toNat ++ C'.ents.flatMap entLn) = _
  rw [take_head (by omega), take_head h2, hh, he]
  conv => rhs; rw [last_split hne]
  rw [List.flatMap_append, List.flatMap_append, List.flatMap_singleton, List.flatMap_singleton, hl, linesB_app, linesB_app, linesB_app, linesB_app, linesB_app, linesB_one]
  simp only [List.append_assoc]
theorem inv_last {st : RdS} {k : Nat} {E' : EntV} {C' : ConfV} (hk : 3 ≤ k) (hk9 : k ≤ 9) (he : C'.ents = st.c.ents.dropLast ++ [E']) (hf : Fits E' (k : Int)) : RdInv ⟨C', (k : Int)⟩ := by
  refine ⟨⟨by show (-1 : Int) ≤ k; omega, by show (k : Int) ≤ 9; omega⟩, fun h => absurd h (by show ¬ (k : Int) < 3; omega), fun _ => ?_, fun _ => ?_⟩
  · show C'.ents ≠ []
    rw [he]; simp
  · show Fits (lastE C'.ents) (k : Int)
    rw [he, lastE_app]; exact hf
theorem name_idx {E : EntV} {t : ByteArray} (h : 0 ≤ idxS E.points t) : nameAt E (idxS E.points t) = t := (idxS_at h).1
theorem inv_head {C : ConfV} {k : Int} (h1 : -1 ≤ k) (h2 : k < 3) (he : C.ents = []) : RdInv ⟨C, k⟩ :=
  ⟨⟨h1, by show k ≤ 9; omega⟩, fun _ => he, fun h => absurd (show 3 ≤ k from h) (by omega), fun h => absurd (show 3 ≤ k from h) (by omega)⟩
theorem len1 {ts : List ByteArray} (h : ts.length = 1) : ∃ a, ts = [a] := by
  match ts, h with
  | [a], _ => exact ⟨a, rfl⟩
theorem len2 {ts : List ByteArray} (h : ts.length = 2) : ∃ a b, ts = [a, b] := by
  match ts, h with
  | [a, b], _ => exact ⟨a, b, rfl⟩
theorem len3 {ts : List ByteArray} (h : ts.length = 3) : ∃ a b c, ts = [a, b, c] := by
  match ts, h with
  | [a, b, c], _ => exact ⟨a, b, c, rfl⟩
theorem len4 {ts : List ByteArray} (h : ts.length = 4) : ∃ a b c d, ts = [a, b, c, d] := by
  match ts, h with
  | [a, b, c, d], _ => exact ⟨a, b, c, d, rfl⟩
theorem up_zero {pts : List ByteArray} {fs : List UInt8} {ts : List ByteArray} {q : List Int × Bool} (h : wordsUp pts fs ts 0 = some q) : q = ([], false) := (Option.some.inj h).symm
section
variable {pts : List ByteArray} {a b c d : ByteArray} {n : List Int}
theorem res_n (h : wordsUp pts [110] [a] 1 = some (n, false)) : ∃ k : Nat, numV a = some k ∧ n = [(k : Int)] := by
  obtain ⟨p1, h1, s1⟩ := up_succ h
  obtain rfl := up_zero h1
  obtain ⟨k, hk, e⟩ := step_n s1
  exact ⟨k, hk, (Prod.mk.inj e).1⟩
theorem res_nn (h : wordsUp pts [110, 110] [a, b] 2 = some (n, false)) : ∃ k m : Nat, numV a = some k ∧ numV b = some m ∧ n = [(k : Int), (m : Int)] := by
  obtain ⟨p2, h2, s2⟩ := up_succ h
  obtain ⟨p1, h1, s1⟩ := up_succ h2
  obtain rfl := up_zero h1
  obtain ⟨k, hk, rfl⟩ := step_n s1
  obtain ⟨m, hm, e⟩ := step_n s2
  exact ⟨k, m, hk, hm, (Prod.mk.inj e).1⟩
theorem res_s (h : wordsUp pts [115] [a] 1 = some (n, false)) : n = [] := by
  obtain ⟨p1, h1, s1⟩ := up_succ h
  obtain rfl := up_zero h1
  exact (Prod.mk.inj (step_s s1)).1
theorem res_sn (h : wordsUp pts [115, 110] [a, b] 2 = some (n, false)) : ∃ m : Nat, numV b = some m ∧ n = [(m : Int)] := by
  obtain ⟨p2, h2, s2⟩ := up_succ h
  obtain ⟨p1, h1, s1⟩ := up_succ h2
  obtain rfl := up_zero h1
  obtain rfl := step_s s1
  obtain ⟨m, hm, e⟩ := step_n s2
  exact ⟨m, hm, (Prod.mk.inj e).1⟩
theorem res_p (h : wordsUp pts [112] [a] 1 = some (n, false)) : 0 ≤ idxS pts a ∧ n = [idxS pts a] := by
  obtain ⟨p1, h1, s1⟩ := up_succ h
  obtain rfl := up_zero h1
  have e := step_p s1
  have e2 := (Prod.mk.inj e).2
  simp at e2
  exact ⟨e2, (Prod.mk.inj e).1⟩
theorem res_pp (h : wordsUp pts [112, 112] [a, b] 2 = some (n, false)) : 0 ≤ idxS pts a ∧ 0 ≤ idxS pts b ∧ n = [idxS pts a, idxS pts b] := by
  obtain ⟨p2, h2, s2⟩ := up_succ h
  obtain ⟨p1, h1, s1⟩ := up_succ h2
  obtain rfl := up_zero h1
  obtain rfl := step_p s1
  have e := step_p s2
  have e2 := (Prod.mk.inj e).2
  simp at e2
  exact ⟨e2.1, e2.2, (Prod.mk.inj e).1⟩
theorem res_pnn (h : wordsUp pts [112, 110, 110] [a, b, c] 3 = some (n, false)) : ∃ k m : Nat, 0 ≤ idxS pts a ∧ numV b = some k ∧ numV c = some m ∧ n = [idxS pts a, (k : Int), (m : Int)] := by
  obtain ⟨p3, h3, s3⟩ := up_succ h
  obtain ⟨p2, h2, s2⟩ := up_succ h3
  obtain ⟨p1, h1, s1⟩ := up_succ h2
  obtain rfl := up_zero h1
  obtain rfl := step_p s1
  obtain ⟨k, hk, rfl⟩ := step_n s2
  obtain ⟨m, hm, e⟩ := step_n s3
  have e2 := (Prod.mk.inj e).2
  simp at e2
  exact ⟨k, m, e2, hk, hm, (Prod.mk.inj e).1⟩
theorem res_ppnn (h : wordsUp pts [112, 112, 110, 110] [a, b, c, d] 4 = some (n, false)) : ∃ k m : Nat, 0 ≤ idxS pts a ∧ 0 ≤ idxS pts b ∧ numV c = some k ∧ numV d = some m ∧ n = [idxS pts a, idxS pts b, (k : Int), (m : Int)] := by
  obtain ⟨p4, h4, s4⟩ := up_succ h
  obtain ⟨p3, h3, s3⟩ := up_succ h4
  obtain ⟨p2, h2, s2⟩ := up_succ h3
  obtain ⟨p1, h1, s1⟩ := up_succ h2
  obtain rfl := up_zero h1
  obtain rfl := step_p s1
  obtain rfl := step_p s2
  obtain ⟨k, hk, rfl⟩ := step_n s3
  obtain ⟨m, hm, e⟩ := step_n s4
  have e2 := (Prod.mk.inj e).2
  simp at e2
  exact ⟨k, m, e2.1, e2.2, hk, hm, (Prod.mk.inj e).1⟩
end
theorem line_txt {st st' : RdS} {s : ByteArray} (hI : RdInv st) (h : lineR st s = (0, st')) : RdInv st' ∧ txt st' = txt st ++ (s.data.toList ++ [10]) := by
  obtain ⟨hf, n, hr, rfl⟩ := lineR_ok h
  obtain ⟨p, hp, ts, hl, hh, hlen, hrt, hs, hw⟩ := line_fit hf
  have hj := line_join s
  unfold lineRes at hr
  rw [hh, hw, hl, List.tail_cons] at hr
  rw [hl] at hj
  rw [hh, hs, hl]
  have hlo := hI.lo
  simp only [formL, List.mem_cons, List.not_mem_nil, or_false] at hp
  rcases hp with rfl | rfl | rfl | rfl | rfl | rfl | rfl | rfl | rfl | rfl
  · obtain ⟨a, b, rfl⟩ := len2 hlen
    obtain ⟨k, m, hk, hm, rfl⟩ := res_nn hr
    have hst : st.stage = -1 := by simpa [rightB] using hrt
    have he := hI.no (by omega)
    refine ⟨inv_head (by decide) (by decide) he, ?_⟩
    have e1 : txt st = [] := by unfold txt txtL; rw [hst, he]; rfl
    rw [e1, ← hj, List.nil_append]
    show linesB ([[.str winB, .num k, .num m]] ++ st.c.ents.flatMap entLn) = _
    rw [he]
    show linesB [[.str winB, .num k, .num m]] = _
    rw [linesB_one, line3]
    simp only [wordB, numV_itoa hk, numV_itoa hm, List.map_cons, List.map_nil, interL, winB]
    simp
  · obtain ⟨a, rfl⟩ := len1 hlen
    obtain ⟨k, hk, rfl⟩ := res_n hr
    have hst : st.stage = 0 := by simpa [rightB] using hrt
    have he := hI.no (by omega)
    refine ⟨inv_head (by decide) (by decide) he, ?_⟩
    have e1 : txt st = linesB [[.str winB, .num st.c.closed, .num st.c.opn]] := by unfold txt txtL; rw [hst, he]; rfl
    rw [e1, ← hj]
    show linesB ([[.str winB, .num st.c.closed, .num st.c.opn], [.str cycB, .num k]] ++ st.c.ents.flatMap entLn) = _
    rw [he]
    show linesB ([[.str winB, .num st.c.closed, .num st.c.opn]] ++ [[.str cycB, .num k]]) = _
    rw [linesB_app, linesB_one [.str cycB, .num k], line2]
    simp only [wordB, numV_itoa hk, List.map_cons, List.map_nil, interL, cycB]
  · obtain ⟨a, rfl⟩ := len1 hlen
    obtain ⟨k, hk, rfl⟩ := res_n hr
    have hst : st.stage = 1 := by simpa [rightB] using hrt
    have he := hI.no (by omega)
    refine ⟨inv_head (by decide) (by decide) he, ?_⟩
    have e1 : txt st = linesB [[.str winB, .num st.c.closed, .num st.c.opn], [.str cycB, .num st.c.cycle]] := by unfold txt txtL; rw [hst, he]; rfl
    rw [e1, ← hj]
    show linesB ([[.str winB, .num st.c.closed, .num st.c.opn], [.str cycB, .num st.c.cycle], [.str delB, .num k]] ++ st.c.ents.flatMap entLn) = _
    rw [he]
    show linesB ([[.str winB, .num st.c.closed, .num st.c.opn], [.str cycB, .num st.c.cycle]] ++ [[.str delB, .num k]]) = _
    rw [linesB_app, linesB_one [.str delB, .num k], line2]
    simp only [wordB, numV_itoa hk, List.map_cons, List.map_nil, interL, delB]
  · obtain ⟨a, b, rfl⟩ := len2 hlen
    obtain ⟨m, hm, rfl⟩ := res_sn hr
    have hst : 2 ≤ st.stage := by simpa [rightB] using hrt
    refine ⟨⟨⟨(by decide : (-1 : Int) ≤ 3), (by decide : (3 : Int) ≤ 9)⟩, fun h => absurd h (by decide : ¬ (3 : Int) < 3), fun _ => ?_, fun _ => ?_⟩, ?_⟩
    · show st.c.ents ++ [newE a m] ≠ []
      simp
    · show Fits (lastE (st.c.ents ++ [newE a m])) 3
      rw [lastE_app]
      exact ⟨fun _ => rfl, fun _ => rfl, fun _ => rfl, fun _ => rfl, fun _ => rfl⟩
    · rw [← hj]
      unfold txt txtL
      rw [take_head hst]
      show linesB (headL st.c ++ (st.c.ents ++ [newE a m]).flatMap entLn) = _
      rw [List.flatMap_append, List.flatMap_singleton, show entLn (newE a m) = [[.str entB, .str a, .num m]] from rfl, linesB_app, linesB_app, linesB_app, linesB_one, line3]
      simp only [wordB, numV_itoa hm, List.map_cons, List.map_nil, interL, entB]
      simp
  all_goals
    have hst3 : 3 ≤ st.stage := by
      simp [rightB] at hrt
      omega
    have hne := hI.ne hst3
    have hF := hI.fit hst3
    obtain ⟨E, hE⟩ : ∃ E, E = lastE st.c.ents := ⟨_, rfl⟩
  · obtain ⟨a, rfl⟩ := len1 hlen
    have hst : st.stage ≤ 4 := by simp [rightB] at hrt; omega
    obtain rfl := res_s hr
    have hl' : entLn (takeE 4 a [] (lastE st.c.ents)) = entLn (lastE st.c.ents) ++ [pntL a] := by
      rw [← hE] at hF ⊢
      have h1 := hF.c (by omega)
      have h2 := hF.g (by omega)
      have h3 := hF.e (by omega)
      have h4 := hF.f (by omega)
      have h5 := hF.l (by omega)
      cases E
      simp only at h1 h2 h3 h4 h5
      subst h1 h2 h3 h4 h5
      simp [entLn, takeE, cntLn]
    refine ⟨inv_last (k := 4) (by decide) (by decide) rfl ?_, ?_⟩
    · rw [← hE] at hF ⊢
      show Fits (takeE 4 a [] E) 4
      exact ⟨fun _ => hF.c (by omega), fun _ => hF.g (by omega), fun _ => hF.e (by omega), fun _ => hF.f (by omega), fun _ => hF.l (by omega)⟩
    · refine (txt_last (st := st) (k := 4) (C' := takeC 4 a [] st.c) (by omega) (by decide) hne rfl rfl hl').trans ?_
      rw [← hj]
      unfold pntL
      rw [line2]
      simp only [wordB, List.map_cons, List.map_nil, interL, pntB]
  · obtain ⟨a, b, c, rfl⟩ := len3 hlen
    have hst : st.stage ≤ 4 := by simp [rightB] at hrt; omega
    obtain ⟨k, m, hx, hk, hm, rfl⟩ := res_pnn hr
    have hnm := name_idx hx
    rw [← hE] at hx hnm
    have hl' : entLn (takeE 5 a [idxS (lastE st.c.ents).points a, (k : Int), (m : Int)] (lastE st.c.ents)) = entLn (lastE st.c.ents) ++ [[.str cntB, .str a, .num k, .num m]] := by
      rw [← hE] at hF ⊢
      have h1 := hF.c (by omega)
      have e1 : cntLn E = [] := by unfold cntLn; rw [h1]; rfl
      show [.str entB, .str E.name, .num E.tol] :: (E.points.map pntL ++ (if 0 ≤ idxS E.points a then [[.str cntB, .str (nameAt E (idxS E.points a)), .num k, .num m]] else []) ++ E.gaps.map (gapLn E) ++ E.edges.map (edgLn E) ++ E.first.map (fstLn E) ++ E.last.map (lstLn E)) = _
      rw [if_pos hx, hnm]
      unfold entLn
      rw [e1, hF.g (by omega), hF.e (by omega), hF.f (by omega), hF.l (by omega)]
      simp
    refine ⟨inv_last (k := 5) (by decide) (by decide) rfl ?_, ?_⟩
    · rw [← hE] at hF ⊢
      show Fits (takeE 5 a [idxS E.points a, (k : Int), (m : Int)] E) 5
      exact ⟨fun h => absurd h (by decide), fun _ => hF.g (by omega), fun _ => hF.e (by omega), fun _ => hF.f (by omega), fun _ => hF.l (by omega)⟩
    · refine (txt_last (st := st) (k := 5) (C' := takeC 5 a [idxS (lastE st.c.ents).points a, (k : Int), (m : Int)] st.c) (by omega) (by decide) hne rfl rfl hl').trans ?_
      rw [← hj, line4]
      simp only [wordB, numV_itoa hk, numV_itoa hm, List.map_cons, List.map_nil, interL, cntB]
      simp
  · obtain ⟨a, b, c, d, rfl⟩ := len4 hlen
    have hst : st.stage ≤ 6 := by simp [rightB] at hrt; omega
    obtain ⟨k, m, hx, hy, hk, hm, rfl⟩ := res_ppnn hr
    have hnm := name_idx hx
    have hnn := name_idx hy
    rw [← hE] at hnm hnn
    have hl' : entLn (takeE 6 a [idxS (lastE st.c.ents).points a, idxS (lastE st.c.ents).points b, (k : Int), (m : Int)] (lastE st.c.ents)) = entLn (lastE st.c.ents) ++ [[.str gapB, .str a, .str b, .num k, .num m]] := by
      rw [← hE] at hF ⊢
      show [.str entB, .str E.name, .num E.tol] :: (E.points.map pntL ++ cntLn E ++ (E.gaps ++ [(⟨idxS E.points a, idxS E.points b, (k : Int), (m : Int)⟩ : GapV)]).map (gapLn E) ++ E.edges.map (edgLn E) ++ E.first.map (fstLn E) ++ E.last.map (lstLn E)) = _
      unfold entLn
      rw [hF.e (by omega), hF.f (by omega), hF.l (by omega), List.map_append, List.map_singleton]
      unfold gapLn
      rw [hnm, hnn]
      simp
    refine ⟨inv_last (k := 6) (by decide) (by decide) rfl ?_, ?_⟩
    · rw [← hE] at hF ⊢
      show Fits (takeE 6 a [idxS E.points a, idxS E.points b, (k : Int), (m : Int)] E) 6
      exact ⟨fun h => absurd h (by decide), fun h => absurd h (by decide), fun _ => hF.e (by omega), fun _ => hF.f (by omega), fun _ => hF.l (by omega)⟩
    · refine (txt_last (st := st) (k := 6) (C' := takeC 6 a [idxS (lastE st.c.ents).points a, idxS (lastE st.c.ents).points b, (k : Int), (m : Int)] st.c) (by omega) (by decide) hne rfl rfl hl').trans ?_
      rw [← hj, line5]
      simp only [wordB, numV_itoa hk, numV_itoa hm, List.map_cons, List.map_nil, interL, gapB]
      simp
  · obtain ⟨a, b, rfl⟩ := len2 hlen
    have hst : st.stage ≤ 7 := by simp [rightB] at hrt; omega
    obtain ⟨hx, hy, rfl⟩ := res_pp hr
    have hnm := name_idx hx
    have hnn := name_idx hy
    rw [← hE] at hnm hnn
    have hl' : entLn (takeE 7 a [idxS (lastE st.c.ents).points a, idxS (lastE st.c.ents).points b] (lastE st.c.ents)) = entLn (lastE st.c.ents) ++ [[.str edgB, .str a, .str b]] := by
      rw [← hE] at hF ⊢
      show [.str entB, .str E.name, .num E.tol] :: (E.points.map pntL ++ cntLn E ++ E.gaps.map (gapLn E) ++ (E.edges ++ [(idxS E.points a, idxS E.points b)]).map (edgLn E) ++ E.first.map (fstLn E) ++ E.last.map (lstLn E)) = _
      unfold entLn
      rw [hF.f (by omega), hF.l (by omega), List.map_append, List.map_singleton]
      unfold edgLn
      rw [hnm, hnn]
      simp
    refine ⟨inv_last (k := 7) (by decide) (by decide) rfl ?_, ?_⟩
    · rw [← hE] at hF ⊢
      show Fits (takeE 7 a [idxS E.points a, idxS E.points b] E) 7
      exact ⟨fun h => absurd h (by decide), fun h => absurd h (by decide), fun h => absurd h (by decide), fun _ => hF.f (by omega), fun _ => hF.l (by omega)⟩
    · refine (txt_last (st := st) (k := 7) (C' := takeC 7 a [idxS (lastE st.c.ents).points a, idxS (lastE st.c.ents).points b] st.c) (by omega) (by decide) hne rfl rfl hl').trans ?_
      rw [← hj, line3]
      simp only [wordB, List.map_cons, List.map_nil, interL, edgB]
      simp
  · obtain ⟨a, rfl⟩ := len1 hlen
    have hst : st.stage ≤ 8 := by simp [rightB] at hrt; omega
    obtain ⟨hx, rfl⟩ := res_p hr
    have hnm := name_idx hx
    rw [← hE] at hnm
    have hl' : entLn (takeE 8 a [idxS (lastE st.c.ents).points a] (lastE st.c.ents)) = entLn (lastE st.c.ents) ++ [[.str fstB, .str a]] := by
      rw [← hE] at hF ⊢
      show [.str entB, .str E.name, .num E.tol] :: (E.points.map pntL ++ cntLn E ++ E.gaps.map (gapLn E) ++ E.edges.map (edgLn E) ++ (E.first ++ [idxS E.points a]).map (fstLn E) ++ E.last.map (lstLn E)) = _
      unfold entLn
      rw [hF.l (by omega), List.map_append, List.map_singleton]
      unfold fstLn
      rw [hnm]
      simp
    refine ⟨inv_last (k := 8) (by decide) (by decide) rfl ?_, ?_⟩
    · rw [← hE] at hF ⊢
      show Fits (takeE 8 a [idxS E.points a] E) 8
      exact ⟨fun h => absurd h (by decide), fun h => absurd h (by decide), fun h => absurd h (by decide), fun h => absurd h (by decide), fun _ => hF.l (by omega)⟩
    · refine (txt_last (st := st) (k := 8) (C' := takeC 8 a [idxS (lastE st.c.ents).points a] st.c) (by omega) (by decide) hne rfl rfl hl').trans ?_
      rw [← hj, line2]
      simp only [wordB, List.map_cons, List.map_nil, interL, fstB]
  · obtain ⟨a, rfl⟩ := len1 hlen
    obtain ⟨hx, rfl⟩ := res_p hr
    have hnm := name_idx hx
    rw [← hE] at hnm
    have hl' : entLn (takeE 9 a [idxS (lastE st.c.ents).points a] (lastE st.c.ents)) = entLn (lastE st.c.ents) ++ [[.str lstB, .str a]] := by
      rw [← hE] at hF ⊢
      show [.str entB, .str E.name, .num E.tol] :: (E.points.map pntL ++ cntLn E ++ E.gaps.map (gapLn E) ++ E.edges.map (edgLn E) ++ E.first.map (fstLn E) ++ (E.last ++ [idxS E.points a]).map (lstLn E)) = _
      unfold entLn
      rw [List.map_append, List.map_singleton]
      unfold lstLn
      rw [hnm]
      simp
    refine ⟨inv_last (k := 9) (by decide) (by decide) rfl ?_, ?_⟩
    · exact ⟨fun h => absurd h (by decide), fun h => absurd h (by decide), fun h => absurd h (by decide), fun h => absurd h (by decide), fun h => absurd h (by decide)⟩
    · refine (txt_last (st := st) (k := 9) (C' := takeC 9 a [idxS (lastE st.c.ents).points a] st.c) (by omega) (by decide) hne rfl rfl hl').trans ?_
      rw [← hj, line2]
      simp only [wordB, List.map_cons, List.map_nil, interL, lstB]
theorem lines_txt (ls : List ByteArray) : ∀ k, k ≤ ls.length → (∀ j, j < k → lineAt ls j = 0) → RdInv (linesUp ls k) ∧ txt (linesUp ls k) = (ls.take k).flatMap (fun s => s.data.toList ++ [10])
  | 0, _, _ => ⟨inv_start, by rw [List.take_zero]; exact txt_start⟩
  | k + 1, hk, h => by
    obtain ⟨h1, h2⟩ := lines_txt ls k (by omega) (fun j hj => h j (by omega))
    have h0 := h k (by omega)
    unfold lineAt at h0
    have hd : ls.getD k ByteArray.empty = ls[k] := by rw [List.getD_eq_getElem?_getD, List.getElem?_eq_getElem (by omega)]; rfl
    rw [hd] at h0
    have hq : lineR (linesUp ls k) ls[k] = (0, linesUp ls (k + 1)) := by
      show _ = (0, (lineR (linesUp ls k) (ls.getD k ByteArray.empty)).2)
      rw [hd]
      exact Prod.ext h0 rfl
    obtain ⟨h3, h4⟩ := line_txt h1 hq
    refine ⟨h3, ?_⟩
    rw [h4, h2, List.take_succ_eq_append_getElem (by omega), List.flatMap_append, List.flatMap_singleton]
theorem flat_inter (c : UInt8) : ∀ (L : List (List UInt8)), L ≠ [] → L.flatMap (fun s => s ++ [c]) = interL c L ++ [c]
  | [], h => absurd rfl h
  | [p], _ => by simp [interL]
  | p :: q :: ps, _ => by
    have := flat_inter c (q :: ps) (by simp)
    rw [List.flatMap_cons, this]
    simp [interL]
theorem twice_law {s : ByteArray} (h8 : ¬ 8000 < s.size) (h1 : (linesF (textLines s)).1 = 0) (h2 : ¬ (linesUp (textLines s) (textLines s).length).stage < 2) :
    textB (linesUp (textLines s) (textLines s).length).c = (textCut s).data.toList ++ [10] := by
  have hall : ∀ j, j < (textLines s).length → lineAt (textLines s) j = 0 := by
    intro j hj
    cases hz : lineAt (textLines s) j with
    | zero => rfl
    | succ n =>
      exfalso
      have hmin : ∃ k, k < (textLines s).length ∧ lineAt (textLines s) k ≠ 0 ∧ ∀ i, i < k → lineAt (textLines s) i = 0 := by
        have : ∀ n, (∃ k, k < n ∧ k < (textLines s).length ∧ lineAt (textLines s) k ≠ 0) → ∃ k, k < (textLines s).length ∧ lineAt (textLines s) k ≠ 0 ∧ ∀ i, i < k → lineAt (textLines s) i = 0 := by
          intro n
          induction n with
          | zero => rintro ⟨k, hk, _⟩; omega
          | succ n ih =>
            rintro ⟨k, hk, hl, hh⟩
            by_cases he : ∃ k, k < n ∧ k < (textLines s).length ∧ lineAt (textLines s) k ≠ 0
            · exact ih he
            · refine ⟨k, hl, hh, fun i hi => ?_⟩
              by_cases hi0 : lineAt (textLines s) i = 0
              · exact hi0
              · exact absurd ⟨i, by omega, by omega, hi0⟩ he
        exact this (j + 1) ⟨j, by omega, hj, by rw [hz]; simp⟩
      obtain ⟨k, a, b, c⟩ := hmin
      rw [linesF_hit a b c] at h1
      exact b h1
  obtain ⟨hI, ht⟩ := lines_txt (textLines s) (textLines s).length (Nat.le_refl _) hall
  rw [List.take_length] at ht
  have hne : textLines s ≠ [] := by
    intro e
    rw [e] at h2
    exact h2 (by decide)
  have hcut : textLines s = piecesB 10 (textCut s) := by
    unfold textLines at hne ⊢
    split at hne
    · exact absurd rfl hne
    · next h0 => rw [if_neg h0]
  have e1 : txt (linesUp (textLines s) (textLines s).length) = textB (linesUp (textLines s) (textLines s).length).c := by
    unfold txt txtL textB headB
    rw [take_head (by omega), linesB_app]
    show linesB _ ++ _ = linesB _ ++ _
    unfold linesB
    rw [List.flatMap_assoc]
  rw [← e1, ht]
  have e2 := flat_inter 10 ((textLines s).map (·.data.toList)) (by simpa using hne)
  rw [List.flatMap_map] at e2
  rw [e2, hcut, pieces_cut, inter_cut]
end Go.Proofs.YtikehilbmldadaaGreatDoor
