/- Plain: what is read is written as it was: line by line. -/
import Derived.Test.YtakjbjokekbmbaaGreatDoorQ27
import Derived.Test.YtakjbjokekbmbaaGreatDoorQ25
namespace Go.Proofs.YtakjbjokekbmbaaGreatDoor
open Go.RowKit
set_option linter.unusedVariables false

theorem line1 (a : W1) : lineB [a] = wordB a ++ [10] := by simp [lineB, upB, sepB, List.range_succ]
theorem line2 (a b : W1) : lineB [a, b] = wordB a ++ 32 :: wordB b ++ [10] := by simp [lineB, upB, sepB, List.range_succ]
theorem line3 (a b c : W1) : lineB [a, b, c] = wordB a ++ 32 :: wordB b ++ 32 :: wordB c ++ [10] := by simp [lineB, upB, sepB, List.range_succ]
theorem line4 (a b c d : W1) : lineB [a, b, c, d] = wordB a ++ 32 :: wordB b ++ 32 :: wordB c ++ 32 :: wordB d ++ [10] := by simp [lineB, upB, sepB, List.range_succ]
theorem line5 (a b c d e : W1) : lineB [a, b, c, d, e] = wordB a ++ 32 :: wordB b ++ 32 :: wordB c ++ 32 :: wordB d ++ 32 :: wordB e ++ [10] := by simp [lineB, upB, sepB, List.range_succ]

/-- What stands behind the stage is empty. -/
structure Fits (E : EntV) (k : Int) : Prop where
  c : k < 5 → E.count = -1
  g : k < 6 → E.gaps = []
  e : k < 7 → E.edges = []
  f : k < 8 → E.first = []
  l : k < 9 → E.last = []
structure RdInv (st : RdS) : Prop where
  lo : -1 ≤ st.stage ∧ st.stage ≤ 9
  no : st.stage < 3 → st.c.ents = []
  ne : 3 ≤ st.stage → st.c.ents ≠ []
  fit : 3 ≤ st.stage → Fits (lastE st.c.ents) st.stage
def txtL (st : RdS) : List (List W1) := (headL st.c).take (st.stage + 1).toNat ++ st.c.ents.flatMap entLn
def txt (st : RdS) : List UInt8 := linesB (txtL st)
theorem inv_start : RdInv RdS.start := ⟨⟨by decide, by decide⟩, fun _ => rfl, fun h => absurd h (by decide), fun h => absurd h (by decide)⟩
theorem txt_start : txt RdS.start = [] := rfl

theorem numV_itoa {t : ByteArray} {k : Nat} (h : numV t = some k) : Lib.itoa (k : Int) = t.data.toList := by
  unfold numV at h
  split at h
  · split at h
    · next v hv hc =>
      obtain rfl := Option.some.inj h
      rw [Int.toNat_of_nonneg hc.2.1]
      exact hc.2.2
    · cases h
  · cases h
theorem bytes_ext {a b : ByteArray} (h : a.data.toList = b.data.toList) : a = b := by
  cases a; cases b
  exact congrArg ByteArray.mk (Array.toList_inj.1 h)
theorem idxS_at {l : List ByteArray} {t : ByteArray} (h : 0 ≤ idxS l t) : l.getD (idxS l t).toNat ByteArray.empty = t ∧ (idxS l t).toNat < l.length := by
  unfold idxS sidxOf at h ⊢
  cases hf : l.findIdx? (fun x => x.toList == t.toList) with
  | none => rw [hf] at h; simp at h
  | some k =>
    obtain ⟨hk, h1, _⟩ := List.findIdx?_eq_some_iff_getElem.1 hf
    simp only [Int.toNat_natCast]
    refine ⟨?_, hk⟩
    rw [List.getD_eq_getElem?_getD, List.getElem?_eq_getElem hk]
    have h2 := eq_of_beq h1
    rw [ByteArray.toList_eq, ByteArray.toList_eq] at h2
    exact bytes_ext h2
theorem last_split {L : List EntV} (h : L ≠ []) : L = L.dropLast ++ [lastE L] := by
  have := List.dropLast_concat_getLast h
  rw [lastE, List.getLast?_eq_some_getLast h]
  exact this.symm
theorem lastE_app (L : List EntV) (E : EntV) : lastE (L ++ [E]) = E := by simp [lastE]

theorem up_succ {pts : List ByteArray} {fs : List UInt8} {ts : List ByteArray} {k : Nat} {q : List Int × Bool} (h : wordsUp pts fs ts (k + 1) = some q) : ∃ p, wordsUp pts fs ts k = some p ∧ wordStep pts (fs.getD k 0) (ts.getD k ByteArray.empty) p = some q := by
  unfold wordsUp at h
  cases hp : wordsUp pts fs ts k with
  | none => rw [hp] at h; cases h
  | some p => rw [hp] at h; exact ⟨p, rfl, h⟩
theorem step_n {pts : List ByteArray} {t : ByteArray} {p q : List Int × Bool} (h : wordStep pts 110 t p = some q) : ∃ k : Nat, numV t = some k ∧ q = (p.1 ++ [(k : Int)], p.2) := by
  unfold wordStep at h
  rw [if_pos rfl] at h
  cases hn : numV t with
  | none => rw [hn] at h; cases h
  | some k => rw [hn] at h; exact ⟨k, rfl, (Option.some.inj h).symm⟩
theorem step_p {pts : List ByteArray} {t : ByteArray} {p q : List Int × Bool} (h : wordStep pts 112 t p = some q) : q = (p.1 ++ [idxS pts t], p.2 || decide (idxS pts t < 0)) := by
  unfold wordStep at h
  rw [if_neg (by decide)] at h
  split at h
  · cases h
  · rw [if_pos rfl] at h
    exact (Option.some.inj h).symm
theorem step_s {pts : List ByteArray} {t : ByteArray} {p q : List Int × Bool} (h : wordStep pts 115 t p = some q) : q = p := by
  unfold wordStep at h
  rw [if_neg (by decide)] at h
  split at h
  · cases h
  · rw [if_neg (by decide)] at h
    exact (Option.some.inj h).symm

theorem form_mem {s : ByteArray} (h : formOk s = true) : ∃ p ∈ formL, p.1 = s ∧ formStage s = p.2.1 ∧ formWords s = p.2.2 := by
  unfold formOk formOf at h
  unfold formStage formWords formOf
  cases hf : formL.find? (fun p => p.1.data.toList == s.data.toList) with
  | none => rw [hf] at h; cases h
  | some p =>
    have h1 := List.find?_some hf
    exact ⟨p, List.mem_of_find?_eq_some hf, bytes_ext (eq_of_beq h1), rfl, rfl⟩
theorem line_join (s : ByteArray) : interL 32 ((lineW s).map (·.data.toList)) = s.data.toList := by
  unfold lineW
  rw [pieces_cut, inter_cut]
theorem lineW_ne (s : ByteArray) : lineW s ≠ [] := by
  intro h
  have := pieces_cut 32 s
  rw [show piecesB 32 s = [] from h] at this
  exact cut_ne 32 _ this.symm
/-- A line that fits: its form, its words. -/
theorem line_fit {st : RdS} {s : ByteArray} (h : lineFits st s = true) : ∃ p ∈ formL, ∃ ts, lineW s = p.1 :: ts ∧ lineHd s = p.1 ∧ ts.length = p.2.2.size ∧ rightB st.stage p.2.1 = true ∧ formStage p.1 = p.2.1 ∧ formWords p.1 = p.2.2 := by
  unfold lineFits at h
  rw [Bool.and_eq_true, Bool.and_eq_true] at h
  obtain ⟨⟨h1, h2⟩, h3⟩ := h
  obtain ⟨p, hp, e, hs, hw⟩ := form_mem h1
  have h3 := eq_of_beq h3
  cases hl : lineW s with
  | nil => exact absurd hl (lineW_ne s)
  | cons a ts =>
    have ha : lineHd s = a := by unfold lineHd; rw [hl]; rfl
    rw [hs] at h2
    rw [hl, hw] at h3
    refine ⟨p, hp, ts, ?_, e.symm, by simpa using h3, h2, by rw [e]; exact hs, by rw [e]; exact hw⟩
    rw [e, ha]
theorem lineR_ok {st st' : RdS} {s : ByteArray} (h : lineR st s = (0, st')) : lineFits st s = true ∧ ∃ n, lineRes st s = some (n, false) ∧ st' = ⟨takeC (formStage (lineHd s)) ((lineW s).getD 1 ByteArray.empty) n st.c, formStage (lineHd s)⟩ := by
  unfold lineR at h
  split at h
  · next hf =>
    refine ⟨hf, ?_⟩
    cases hr : lineRes st s with
    | none => rw [hr] at h; cases h
    | some p =>
      rw [hr] at h
      obtain ⟨n, z⟩ := p
      cases z
      · exact ⟨n, rfl, ((Prod.mk.inj h).2).symm⟩
      · cases h
  · cases h

theorem take_head {C : ConfV} {k : Int} (h : 2 ≤ k) : (headL C).take (k + 1).toNat = headL C := List.take_of_length_le (by show 3 ≤ _; omega)
/-- A state behind a line of an entity. -/
theorem txt_last {st : RdS} {k : Nat} {E' : EntV} {ws : List W1} {C' : ConfV} (h2 : 2 ≤ st.stage) (hk : 2 ≤ k) (hne : st.c.ents ≠ []) (hh : headL C' = headL st.c) (he : C'.ents = st.c.ents.dropLast ++ [E']) (hl : entLn E' = entLn (lastE st.c.ents) ++ [ws]) :
    txt ⟨C', (k : Int)⟩ = txt st ++ lineB ws := by
  unfold txt txtL
  show linesB ((headL C').take ((k : Int) + 1).toNat ++ C'.ents.flatMap entLn) = _
  rw [take_head (by omega), take_head h2, hh, he]
  conv => rhs; rw [last_split hne]
  rw [List.flatMap_append, List.flatMap_append, List.flatMap_singleton, List.flatMap_singleton, hl, linesB_app, linesB_app, linesB_app, linesB_app, linesB_app, linesB_one]
  simp only [List.append_assoc]
theorem inv_last {st : RdS} {k : Nat} {E' : EntV} {C' : ConfV} (hk : 3 ≤ k) (hk9 : k ≤ 9) (he : C'.ents = st.c.ents.dropLast ++ [E']) (hf : Fits E' (k : Int)) : RdInv ⟨C', (k : Int)⟩ := by
  refine ⟨⟨by show (-1 : Int) ≤ k; omega, by show (k : Int) ≤ 9; omega⟩, fun h => absurd h (by show ¬ (k : Int) < 3; omega), fun _ => ?_, fun _ => ?_⟩
  · show C'.ents ≠ []
    rw [he]; simp
  · show Fits (lastE C'.ents) (k : Int)
    rw [he, lastE_app]; exact hf
theorem name_idx {E : EntV} {t : ByteArray} (h : 0 ≤ idxS E.points t) : nameAt E (idxS E.points t) = t := (idxS_at h).1
theorem inv_head {C : ConfV} {k : Int} (h1 : -1 ≤ k) (h2 : k < 3) (he : C.ents = []) : RdInv ⟨C, k⟩ :=
  ⟨⟨h1, by show k ≤ 9; omega⟩, fun _ => he, fun h => absurd (show 3 ≤ k from h) (by omega), fun h => absurd (show 3 ≤ k from h) (by omega)⟩
theorem len1 {ts : List ByteArray} (h : ts.length = 1) : ∃ a, ts = [a] := by
  match ts, h with
  | [a], _ => exact ⟨a, rfl⟩
theorem len2 {ts : List ByteArray} (h : ts.length = 2) : ∃ a b, ts = [a, b] := by
  match ts, h with
  | [a, b], _ => exact ⟨a, b, rfl⟩
theorem len3 {ts : List ByteArray} (h : ts.length = 3) : ∃ a b c, ts = [a, b, c] := by
  match ts, h with
  | [a, b, c], _ => exact ⟨a, b, c, rfl⟩
theorem len4 {ts : List ByteArray} (h : ts.length = 4) : ∃ a b c d, ts = [a, b, c, d] := by
  match ts, h with
  | [a, b, c, d], _ => exact ⟨a, b, c, d, rfl⟩
theorem up_zero {pts : List ByteArray} {fs : List UInt8} {ts : List ByteArray} {q : List Int × Bool} (h : wordsUp pts fs ts 0 = some q) : q = ([], false) := (Option.some.inj h).symm

section
variable {pts : List ByteArray} {a b c d : ByteArray} {n : List Int}
theorem res_n (h : wordsUp pts [110] [a] 1 = some (n, false)) : ∃ k : Nat, numV a = some k ∧ n = [(k : Int)] := by
  obtain ⟨p1, h1, s1⟩ := up_succ h
  obtain rfl := up_zero h1
  obtain ⟨k, hk, e⟩ := step_n s1
  exact ⟨k, hk, (Prod.mk.inj e).1⟩
theorem res_nn (h : wordsUp pts [110, 110] [a, b] 2 = some (n, false)) : ∃ k m : Nat, numV a = some k ∧ numV b = some m ∧ n = [(k : Int), (m : Int)] := by
  obtain ⟨p2, h2, s2⟩ := up_succ h
  obtain ⟨p1, h1, s1⟩ := up_succ h2
  obtain rfl := up_zero h1
  obtain ⟨k, hk, rfl⟩ := step_n s1
  obtain ⟨m, hm, e⟩ := step_n s2
  exact ⟨k, m, hk, hm, (Prod.mk.inj e).1⟩
theorem res_s (h : wordsUp pts [115] [a] 1 = some (n, false)) : n = [] := by
  obtain ⟨p1, h1, s1⟩ := up_succ h
  obtain rfl := up_zero h1
  exact (Prod.mk.inj (step_s s1)).1
theorem res_sn (h : wordsUp pts [115, 110] [a, b] 2 = some (n, false)) : ∃ m : Nat, numV b = some m ∧ n = [(m : Int)] := by
  obtain ⟨p2, h2, s2⟩ := up_succ h
  obtain ⟨p1, h1, s1⟩ := up_succ h2
  obtain rfl := up_zero h1
  obtain rfl := step_s s1
  obtain ⟨m, hm, e⟩ := step_n s2
  exact ⟨m, hm, (Prod.mk.inj e).1⟩
theorem res_p (h : wordsUp pts [112] [a] 1 = some (n, false)) : 0 ≤ idxS pts a ∧ n = [idxS pts a] := by
  obtain ⟨p1, h1, s1⟩ := up_succ h
  obtain rfl := up_zero h1
  have e := step_p s1
  have e2 := (Prod.mk.inj e).2
  simp at e2
  exact ⟨e2, (Prod.mk.inj e).1⟩
theorem res_pp (h : wordsUp pts [112, 112] [a, b] 2 = some (n, false)) : 0 ≤ idxS pts a ∧ 0 ≤ idxS pts b ∧ n = [idxS pts a, idxS pts b] := by
  obtain ⟨p2, h2, s2⟩ := up_succ h
  obtain ⟨p1, h1, s1⟩ := up_succ h2
  obtain rfl := up_zero h1
  obtain rfl := step_p s1
  have e := step_p s2
  have e2 := (Prod.mk.inj e).2
  simp at e2
  exact ⟨e2.1, e2.2, (Prod.mk.inj e).1⟩
theorem res_pnn (h : wordsUp pts [112, 110, 110] [a, b, c] 3 = some (n, false)) : ∃ k m : Nat, 0 ≤ idxS pts a ∧ numV b = some k ∧ numV c = some m ∧ n = [idxS pts a, (k : Int), (m : Int)] := by
  obtain ⟨p3, h3, s3⟩ := up_succ h
  obtain ⟨p2, h2, s2⟩ := up_succ h3
  obtain ⟨p1, h1, s1⟩ := up_succ h2
  obtain rfl := up_zero h1
  obtain rfl := step_p s1
  obtain ⟨k, hk, rfl⟩ := step_n s2
  obtain ⟨m, hm, e⟩ := step_n s3
  have e2 := (Prod.mk.inj e).2
  simp at e2
  exact ⟨k, m, e2, hk, hm, (Prod.mk.inj e).1⟩
theorem res_ppnn (h : wordsUp pts [112, 112, 110, 110] [a, b, c, d] 4 = some (n, false)) : ∃ k m : Nat, 0 ≤ idxS pts a ∧ 0 ≤ idxS pts b ∧ numV c = some k ∧ numV d = some m ∧ n = [idxS pts a, idxS pts b, (k : Int), (m : Int)] := by
  obtain ⟨p4, h4, s4⟩ := up_succ h
  obtain ⟨p3, h3, s3⟩ := up_succ h4
  obtain ⟨p2, h2, s2⟩ := up_succ h3
  obtain ⟨p1, h1, s1⟩ := up_succ h2
  obtain rfl := up_zero h1
  obtain rfl := step_p s1
  obtain rfl := step_p s2
  obtain ⟨k, hk, rfl⟩ := step_n s3
  obtain ⟨m, hm, e⟩ := step_n s4
  have e2 := (Prod.mk.inj e).2
  simp at e2
  exact ⟨k, m, e2.1, e2.2, hk, hm, (Prod.mk.inj e).1⟩
end

theorem line_txt {st st' : RdS} {s : ByteArray} (hI : RdInv st) (h : lineR st s = (0, st')) : RdInv st' ∧ txt st' = txt st ++ (s.data.toList ++ [10]) := by
  obtain ⟨hf, n, hr, rfl⟩ := lineR_ok h
  obtain ⟨p, hp, ts, hl, hh, hlen, hrt, hs, hw⟩ := line_fit hf
  have hj := line_join s
  unfold lineRes at hr
  rw [hh, hw, hl, List.tail_cons] at hr
  rw [hl] at hj
  rw [hh, hs, hl]
  have hlo := hI.lo
  simp only [formL, List.mem_cons, List.not_mem_nil, or_false] at hp
  rcases hp with rfl | rfl | rfl | rfl | rfl | rfl | rfl | rfl | rfl | rfl
  · obtain ⟨a, b, rfl⟩ := len2 hlen
    obtain ⟨k, m, hk, hm, rfl⟩ := res_nn hr
    have hst : st.stage = -1 := by simpa [rightB] using hrt
    have he := hI.no (by omega)
    refine ⟨inv_head (by decide) (by decide) he, ?_⟩
    have e1 : txt st = [] := by unfold txt txtL; rw [hst, he]; rfl
    rw [e1, ← hj, List.nil_append]
    show linesB ([[.str winB, .num k, .num m]] ++ st.c.ents.flatMap entLn) = _
    rw [he]
    show linesB [[.str winB, .num k, .num m]] = _
    rw [linesB_one, line3]
    simp only [wordB, numV_itoa hk, numV_itoa hm, List.map_cons, List.map_nil, interL, winB]
    simp
  · obtain ⟨a, rfl⟩ := len1 hlen
    obtain ⟨k, hk, rfl⟩ := res_n hr
    have hst : st.stage = 0 := by simpa [rightB] using hrt
    have he := hI.no (by omega)
    refine ⟨inv_head (by decide) (by decide) he, ?_⟩
    have e1 : txt st = linesB [[.str winB, .num st.c.closed, .num st.c.opn]] := by unfold txt txtL; rw [hst, he]; rfl
    rw [e1, ← hj]
    show linesB ([[.str winB, .num st.c.closed, .num st.c.opn], [.str cycB, .num k]] ++ st.c.ents.flatMap entLn) = _
    rw [he]
    show linesB ([[.str winB, .num st.c.closed, .num st.c.opn]] ++ [[.str cycB, .num k]]) = _
    rw [linesB_app, linesB_one [.str cycB, .num k], line2]
    simp only [wordB, numV_itoa hk, List.map_cons, List.map_nil, interL, cycB]
  · obtain ⟨a, rfl⟩ := len1 hlen
    obtain ⟨k, hk, rfl⟩ := res_n hr
    have hst : st.stage = 1 := by simpa [rightB] using hrt
    have he := hI.no (by omega)
    refine ⟨inv_head (by decide) (by decide) he, ?_⟩
    have e1 : txt st = linesB [[.str winB, .num st.c.closed, .num st.c.opn], [.str cycB, .num st.c.cycle]] := by unfold txt txtL; rw [hst, he]; rfl
    rw [e1, ← hj]
    show linesB ([[.str winB, .num st.c.closed, .num st.c.opn], [.str cycB, .num st.c.cycle], [.str delB, .num k]] ++ st.c.ents.flatMap entLn) = _
    rw [he]
    show linesB ([[.str winB, .num st.c.closed, .num st.c.opn], [.str cycB, .num st.c.cycle]] ++ [[.str delB, .num k]]) = _
    rw [linesB_app, linesB_one [.str delB, .num k], line2]
    simp only [wordB, numV_itoa hk, List.map_cons, List.map_nil, interL, delB]
  · obtain ⟨a, b, rfl⟩ := len2 hlen
    obtain ⟨m, hm, rfl⟩ := res_sn hr
    have hst : 2 ≤ st.stage := by simpa [rightB] using hrt
    refine ⟨⟨⟨(by decide : (-1 : Int) ≤ 3), (by decide : (3 : Int) ≤ 9)⟩, fun h => absurd h (by decide : ¬ (3 : Int) < 3), fun _ => ?_, fun _ => ?_⟩, ?_⟩
    · show st.c.ents ++ [newE a m] ≠ []
      simp
    · show Fits (lastE (st.c.ents ++ [newE a m])) 3
      rw [lastE_app]
      exact ⟨fun _ => rfl, fun _ => rfl, fun _ => rfl, fun _ => rfl, fun _ => rfl⟩
    · rw [← hj]
      unfold txt txtL
      rw [take_head hst]
      show linesB (headL st.c ++ (st.c.ents ++ [newE a m]).flatMap entLn) = _
      rw [List.flatMap_append, List.flatMap_singleton, show entLn (newE a m) = [[.str entB, .str a, .num m]] from rfl, linesB_app, linesB_app, linesB_app, linesB_one, line3]
      simp only [wordB, numV_itoa hm, List.map_cons, List.map_nil, interL, entB]
      simp
  all_goals
    have hst3 : 3 ≤ st.stage := by
      simp [rightB] at hrt
      omega
    have hne := hI.ne hst3
    have hF := hI.fit hst3
    obtain ⟨E, hE⟩ : ∃ E, E = lastE st.c.ents := ⟨_, rfl⟩
  · obtain ⟨a, rfl⟩ := len1 hlen
    have hst : st.stage ≤ 4 := by simp [rightB] at hrt; omega
    obtain rfl := res_s hr
    have hl' : entLn (takeE 4 a [] (lastE st.c.ents)) = entLn (lastE st.c.ents) ++ [pntL a] := by
      rw [← hE] at hF ⊢
      have h1 := hF.c (by omega)
      have h2 := hF.g (by omega)
      have h3 := hF.e (by omega)
      have h4 := hF.f (by omega)
      have h5 := hF.l (by omega)
      cases E
      simp only at h1 h2 h3 h4 h5
      subst h1 h2 h3 h4 h5
      simp [entLn, takeE, cntLn]
    refine ⟨inv_last (k := 4) (by decide) (by decide) rfl ?_, ?_⟩
    · rw [← hE] at hF ⊢
      show Fits (takeE 4 a [] E) 4
      exact ⟨fun _ => hF.c (by omega), fun _ => hF.g (by omega), fun _ => hF.e (by omega), fun _ => hF.f (by omega), fun _ => hF.l (by omega)⟩
    · refine (txt_last (st := st) (k := 4) (C' := takeC 4 a [] st.c) (by omega) (by decide) hne rfl rfl hl').trans ?_
      rw [← hj]
      unfold pntL
      rw [line2]
      simp only [wordB, List.map_cons, List.map_nil, interL, pntB]
  · obtain ⟨a, b, c, rfl⟩ := len3 hlen
    have hst : st.stage ≤ 4 := by simp [rightB] at hrt; omega
    obtain ⟨k, m, hx, hk, hm, rfl⟩ := res_pnn hr
    have hnm := name_idx hx
    rw [← hE] at hx hnm
    have hl' : entLn (takeE 5 a [idxS (lastE st.c.ents).points a, (k : Int), (m : Int)] (lastE st.c.ents)) = entLn (lastE st.c.ents) ++ [[.str cntB, .str a, .num k, .num m]] := by
      rw [← hE] at hF ⊢
      have h1 := hF.c (by omega)
      have e1 : cntLn E = [] := by unfold cntLn; rw [h1]; rfl
      show [.str entB, .str E.name, .num E.tol] :: (E.points.map pntL ++ (if 0 ≤ idxS E.points a then [[.str cntB, .str (nameAt E (idxS E.points a)), .num k, .num m]] else []) ++ E.gaps.map (gapLn E) ++ E.edges.map (edgLn E) ++ E.first.map (fstLn E) ++ E.last.map (lstLn E)) = _
      rw [if_pos hx, hnm]
      unfold entLn
      rw [e1, hF.g (by omega), hF.e (by omega), hF.f (by omega), hF.l (by omega)]
      simp
    refine ⟨inv_last (k := 5) (by decide) (by decide) rfl ?_, ?_⟩
    · rw [← hE] at hF ⊢
      show Fits (takeE 5 a [idxS E.points a, (k : Int), (m : Int)] E) 5
      exact ⟨fun h => absurd h (by decide), fun _ => hF.g (by omega), fun _ => hF.e (by omega), fun _ => hF.f (by omega), fun _ => hF.l (by omega)⟩
    · refine (txt_last (st := st) (k := 5) (C' := takeC 5 a [idxS (lastE st.c.ents).points a, (k : Int), (m : Int)] st.c) (by omega) (by decide) hne rfl rfl hl').trans ?_
      rw [← hj, line4]
      simp only [wordB, numV_itoa hk, numV_itoa hm, List.map_cons, List.map_nil, interL, cntB]
      simp
  · obtain ⟨a, b, c, d, rfl⟩ := len4 hlen
    have hst : st.stage ≤ 6 := by simp [rightB] at hrt; omega
    obtain ⟨k, m, hx, hy, hk, hm, rfl⟩ := res_ppnn hr
    have hnm := name_idx hx
    have hnn := name_idx hy
    rw [← hE] at hnm hnn
    have hl' : entLn (takeE 6 a [idxS (lastE st.c.ents).points a, idxS (lastE st.c.ents).points b, (k : Int), (m : Int)] (lastE st.c.ents)) = entLn (lastE st.c.ents) ++ [[.str gapB, .str a, .str b, .num k, .num m]] := by
      rw [← hE] at hF ⊢
      show [.str entB, .str E.name, .num E.tol] :: (E.points.map pntL ++ cntLn E ++ (E.gaps ++ [(⟨idxS E.points a, idxS E.points b, (k : Int), (m : Int)⟩ : GapV)]).map (gapLn E) ++ E.edges.map (edgLn E) ++ E.first.map (fstLn E) ++ E.last.map (lstLn E)) = _
      unfold entLn
      rw [hF.e (by omega), hF.f (by omega), hF.l (by omega), List.map_append, List.map_singleton]
      unfold gapLn
      rw [hnm, hnn]
      simp
    refine ⟨inv_last (k := 6) (by decide) (by decide) rfl ?_, ?_⟩
    · rw [← hE] at hF ⊢
      show Fits (takeE 6 a [idxS E.points a, idxS E.points b, (k : Int), (m : Int)] E) 6
      exact ⟨fun h => absurd h (by decide), fun h => absurd h (by decide), fun _ => hF.e (by omega), fun _ => hF.f (by omega), fun _ => hF.l (by omega)⟩
    · refine (txt_last (st := st) (k := 6) (C' := takeC 6 a [idxS (lastE st.c.ents).points a, idxS (lastE st.c.ents).points b, (k : Int), (m : Int)] st.c) (by omega) (by decide) hne rfl rfl hl').trans ?_
      rw [← hj, line5]
      simp only [wordB, numV_itoa hk, numV_itoa hm, List.map_cons, List.map_nil, interL, gapB]
      simp
  · obtain ⟨a, b, rfl⟩ := len2 hlen
    have hst : st.stage ≤ 7 := by simp [rightB] at hrt; omega
    obtain ⟨hx, hy, rfl⟩ := res_pp hr
    have hnm := name_idx hx
    have hnn := name_idx hy
    rw [← hE] at hnm hnn
    have hl' : entLn (takeE 7 a [idxS (lastE st.c.ents).points a, idxS (lastE st.c.ents).points b] (lastE st.c.ents)) = entLn (lastE st.c.ents) ++ [[.str edgB, .str a, .str b]] := by
      rw [← hE] at hF ⊢
      show [.str entB, .str E.name, .num E.tol] :: (E.points.map pntL ++ cntLn E ++ E.gaps.map (gapLn E) ++ (E.edges ++ [(idxS E.points a, idxS E.points b)]).map (edgLn E) ++ E.first.map (fstLn E) ++ E.last.map (lstLn E)) = _
      unfold entLn
      rw [hF.f (by omega), hF.l (by omega), List.map_append, List.map_singleton]
      unfold edgLn
      rw [hnm, hnn]
      simp
    refine ⟨inv_last (k := 7) (by decide) (by decide) rfl ?_, ?_⟩
    · rw [← hE] at hF ⊢
      show Fits (takeE 7 a [idxS E.points a, idxS E.points b] E) 7
      exact ⟨fun h => absurd h (by decide), fun h => absurd h (by decide), fun h => absurd h (by decide), fun _ => hF.f (by omega), fun _ => hF.l (by omega)⟩
    · refine (txt_last (st := st) (k := 7) (C' := takeC 7 a [idxS (lastE st.c.ents).points a, idxS (lastE st.c.ents).points b] st.c) (by omega) (by decide) hne rfl rfl hl').trans ?_
      rw [← hj, line3]
      simp only [wordB, List.map_cons, List.map_nil, interL, edgB]
      simp
  · obtain ⟨a, rfl⟩ := len1 hlen
    have hst : st.stage ≤ 8 := by simp [rightB] at hrt; omega
    obtain ⟨hx, rfl⟩ := res_p hr
    have hnm := name_idx hx
    rw [← hE] at hnm
    have hl' : entLn (takeE 8 a [idxS (lastE st.c.ents).points a] (lastE st.c.ents)) = entLn (lastE st.c.ents) ++ [[.str fstB, .str a]] := by
      rw [← hE] at hF ⊢
      show [.str entB, .str E.name, .num E.tol] :: (E.points.map pntL ++ cntLn E ++ E.gaps.map (gapLn E) ++ E.edges.map (edgLn E) ++ (E.first ++ [idxS E.points a]).map (fstLn E) ++ E.last.map (lstLn E)) = _
      unfold entLn
      rw [hF.l (by omega), List.map_append, List.map_singleton]
      unfold fstLn
      rw [hnm]
      simp
    refine ⟨inv_last (k := 8) (by decide) (by decide) rfl ?_, ?_⟩
    · rw [← hE] at hF ⊢
      show Fits (takeE 8 a [idxS E.points a] E) 8
      exact ⟨fun h => absurd h (by decide), fun h => absurd h (by decide), fun h => absurd h (by decide), fun h => absurd h (by decide), fun _ => hF.l (by omega)⟩
    · refine (txt_last (st := st) (k := 8) (C' := takeC 8 a [idxS (lastE st.c.ents).points a] st.c) (by omega) (by decide) hne rfl rfl hl').trans ?_
      rw [← hj, line2]
      simp only [wordB, List.map_cons, List.map_nil, interL, fstB]
  · obtain ⟨a, rfl⟩ := len1 hlen
    obtain ⟨hx, rfl⟩ := res_p hr
    have hnm := name_idx hx
    rw [← hE] at hnm
    have hl' : entLn (takeE 9 a [idxS (lastE st.c.ents).points a] (lastE st.c.ents)) = entLn (lastE st.c.ents) ++ [[.str lstB, .str a]] := by
      rw [← hE] at hF ⊢
      show [.str entB, .str E.name, .num E.tol] :: (E.points.map pntL ++ cntLn E ++ E.gaps.map (gapLn E) ++ E.edges.map (edgLn E) ++ E.first.map (fstLn E) ++ (E.last ++ [idxS E.points a]).map (lstLn E)) = _
      unfold entLn
      rw [List.map_append, List.map_singleton]
      unfold lstLn
      rw [hnm]
      simp
    refine ⟨inv_last (k := 9) (by decide) (by decide) rfl ?_, ?_⟩
    · exact ⟨fun h => absurd h (by decide), fun h => absurd h (by decide), fun h => absurd h (by decide), fun h => absurd h (by decide), fun h => absurd h (by decide)⟩
    · refine (txt_last (st := st) (k := 9) (C' := takeC 9 a [idxS (lastE st.c.ents).points a] st.c) (by omega) (by decide) hne rfl rfl hl').trans ?_
      rw [← hj, line2]
      simp only [wordB, List.map_cons, List.map_nil, interL, lstB]

theorem lines_txt (ls : List ByteArray) : ∀ k, k ≤ ls.length → (∀ j, j < k → lineAt ls j = 0) → RdInv (linesUp ls k) ∧ txt (linesUp ls k) = (ls.take k).flatMap (fun s => s.data.toList ++ [10])
  | 0, _, _ => ⟨inv_start, by rw [List.take_zero]; exact txt_start⟩
  | k + 1, hk, h => by
    obtain ⟨h1, h2⟩ := lines_txt ls k (by omega) (fun j hj => h j (by omega))
    have h0 := h k (by omega)
    unfold lineAt at h0
    have hd : ls.getD k ByteArray.empty = ls[k] := by rw [List.getD_eq_getElem?_getD, List.getElem?_eq_getElem (by omega)]; rfl
    rw [hd] at h0
    have hq : lineR (linesUp ls k) ls[k] = (0, linesUp ls (k + 1)) := by
      show _ = (0, (lineR (linesUp ls k) (ls.getD k ByteArray.empty)).2)
      rw [hd]
      exact Prod.ext h0 rfl
    obtain ⟨h3, h4⟩ := line_txt h1 hq
    refine ⟨h3, ?_⟩
    rw [h4, h2, List.take_succ_eq_append_getElem (by omega), List.flatMap_append, List.flatMap_singleton]
theorem flat_inter (c : UInt8) : ∀ (L : List (List UInt8)), L ≠ [] → L.flatMap (fun s => s ++ [c]) = interL c L ++ [c]
  | [], h => absurd rfl h
  | [p], _ => by simp [interL]
  | p :: q :: ps, _ => by
    have := flat_inter c (q :: ps) (by simp)
    rw [List.flatMap_cons, this]
    simp [interL]
end Go.Proofs.YtakjbjokekbmbaaGreatDoor

/- Plain: numbers of digits. -/
namespace Go.Proofs.YtakjbjokekbmbaaGreatDoor
open Go.RowKit
set_option linter.unusedVariables false

def isDig (c : UInt8) : Bool := decide (48 ≤ c.toNat ∧ c.toNat ≤ 57)
def dval (l : List UInt8) : Nat := l.foldl (fun a c => a * 10 + (c.toNat - 48)) 0
theorem dval_snoc (l : List UInt8) (c : UInt8) : dval (l ++ [c]) = dval l * 10 + (c.toNat - 48) := by simp [dval]
theorem dval_lt : ∀ (n : Nat) (l : List UInt8), l.length = n → (∀ c ∈ l, isDig c = true) → dval l < 10 ^ n
  | 0, l, hl, _ => by obtain rfl := List.eq_nil_of_length_eq_zero hl; simp [dval]
  | n + 1, l, hl, h => by
    have hne : l ≠ [] := by intro e; rw [e] at hl; simp at hl
    have hs := List.dropLast_concat_getLast hne
    have h1 := dval_lt n l.dropLast (by rw [List.length_dropLast]; omega) (fun c hc => h c (List.dropLast_subset _ hc))
    have h2 := h _ (List.getLast_mem hne)
    simp only [isDig, decide_eq_true_eq] at h2
    rw [← hs, dval_snoc, Nat.pow_succ]
    omega
theorem dig_of (i : Nat) (h : i < 10) : (UInt8.ofNat (48 + i)).toNat = 48 + i := by
  rw [UInt8.toNat_ofNat']; omega
theorem decDigits_dig (u : Nat) : ∀ c ∈ Lib.decDigits u, isDig c = true := by
  induction u using Nat.strongRecOn with
  | ind u ih =>
    intro c hc
    rw [Lib.decDigits] at hc
    split at hc
    · next h =>
      obtain rfl := List.mem_singleton.1 hc
      simp only [isDig, decide_eq_true_eq, dig_of u h]; omega
    · next h =>
      rcases List.mem_append.1 hc with hc | hc
      · exact ih (u / 10) (by omega) c hc
      · obtain rfl := List.mem_singleton.1 hc
        simp only [isDig, decide_eq_true_eq, dig_of (u % 10) (by omega)]; omega
theorem dval_dec (u : Nat) : dval (Lib.decDigits u) = u := by
  induction u using Nat.strongRecOn with
  | ind u ih =>
    rw [Lib.decDigits]
    split
    · next h => simp [dval]; rw [Nat.mod_eq_of_lt (by omega)]; omega
    · next h =>
      rw [dval_snoc, ih (u / 10) (by omega), dig_of (u % 10) (by omega)]
      omega
theorem decDigits_ne (u : Nat) : Lib.decDigits u ≠ [] := by
  rw [Lib.decDigits]
  split
  · simp
  · simp
/-- Digits without a naught ahead are the numeral of what they spell. -/
theorem dec_dval : ∀ (n : Nat) (l : List UInt8), l.length = n + 1 → (∀ c ∈ l, isDig c = true) → (n = 0 ∨ l.head? ≠ some 48) → Lib.decDigits (dval l) = l
  | 0, l, hl, h, _ => by
    match l, hl with
    | [c], _ =>
      have h2 := h c (by simp)
      simp only [isDig, decide_eq_true_eq] at h2
      have e : dval [c] = c.toNat - 48 := by simp [dval]
      rw [e, Lib.decDigits_one (by omega)]
      congr 1
      rw [show 48 + (c.toNat - 48) = c.toNat by omega]
      exact UInt8.ofNat_toNat
  | n + 1, l, hl, h, h0 => by
    have hne : l ≠ [] := by intro e; rw [e] at hl; simp at hl
    have hs := List.dropLast_concat_getLast hne
    have hh : l.head? ≠ some 48 := by
      rcases h0 with h0 | h0
      · omega
      · exact h0
    have hd : l.dropLast.head? = l.head? := by
      match l, hl with
      | a :: b :: t, _ => rfl
    have h1 := dec_dval n l.dropLast (by rw [List.length_dropLast]; omega) (fun c hc => h c (List.dropLast_subset _ hc)) (.inr (by rw [hd]; exact hh))
    have h2 := h _ (List.getLast_mem hne)
    simp only [isDig, decide_eq_true_eq] at h2
    have hpos : dval l.dropLast ≠ 0 := by
      intro e
      rw [e] at h1
      have : l.dropLast = [48] := by rw [← h1, Lib.decDigits_one (by decide)]; rfl
      rw [this] at hd
      exact hh hd.symm
    conv => rhs; rw [← hs]
    conv => lhs; rw [← hs]
    rw [dval_snoc, Lib.decDigits, dif_neg (by omega)]
    congr 1
    · rw [show (dval l.dropLast * 10 + ((l.getLast hne).toNat - 48)) / 10 = dval l.dropLast by omega, h1]
    · congr 1
      rw [show 48 + (dval l.dropLast * 10 + ((l.getLast hne).toNat - 48)) % 10 = (l.getLast hne).toNat by omega]
      exact UInt8.ofNat_toNat
theorem parse_snoc (c : UInt8) : ∀ (l : List UInt8) (a n : Nat), Lib.parseUint10 a l = .ok n → Lib.parseUint10 a (l ++ [c]) = Lib.parseUint10 n [c]
  | [], a, n, h => by simp only [Lib.parseUint10] at h; injection h with h; rw [h]; rfl
  | x :: l, a, n, h => by
    simp only [Lib.parseUint10, List.cons_append] at h ⊢
    split at h
    · next hx =>
      rw [if_pos hx]
      split at h
      · cases h
      · next h1 =>
        rw [if_neg h1]
        split at h
        · cases h
        · next h2 =>
          rw [if_neg h2]
          exact parse_snoc c l _ n h
    · cases h
theorem parse_dig : ∀ (n : Nat) (l : List UInt8), l.length = n → n ≤ 13 → (∀ c ∈ l, isDig c = true) → Lib.parseUint10 0 l = .ok (dval l)
  | 0, l, hl, _, _ => by obtain rfl := List.eq_nil_of_length_eq_zero hl; rfl
  | n + 1, l, hl, hn, h => by
    have hne : l ≠ [] := by intro e; rw [e] at hl; simp at hl
    have hs := List.dropLast_concat_getLast hne
    have hD : ∀ c ∈ l.dropLast, isDig c = true := fun c hc => h c (List.dropLast_subset _ hc)
    have h1 := parse_dig n l.dropLast (by rw [List.length_dropLast]; omega) (by omega) hD
    have h2 := h _ (List.getLast_mem hne)
    simp only [isDig, decide_eq_true_eq] at h2
    have hlt := dval_lt n l.dropLast (by rw [List.length_dropLast]; omega) hD
    have hp : 10 ^ n ≤ 10 ^ 12 := Nat.pow_le_pow_right (by decide) (by omega)
    have hp2 : (10 : Nat) ^ 12 = 1000000000000 := by decide
    rw [← hs, parse_snoc _ _ _ _ h1, dval_snoc]
    simp only [Lib.parseUint10]
    rw [if_pos h2, if_neg (by omega), if_neg (by omega)]
/-- Digits: one to thirteen, no naught ahead. -/
def digOk (l : List UInt8) : Bool := decide (1 ≤ l.length) && decide (l.length ≤ 13) && !(decide (1 < l.length) && l.head? == some 48) && l.all isDig
theorem atoi_dig {l : List UInt8} (hl : l.length ≤ 13) (h1 : 1 ≤ l.length) (h : ∀ c ∈ l, isDig c = true) : Lib.atoiAll l = .ok (dval l : Int) := by
  match l, h1 with
  | c :: r, _ =>
    have h2 := h c (by simp)
    simp only [isDig, decide_eq_true_eq] at h2
    rw [Lib.atoiAll_plain c r (by omega) (by omega)]
    unfold Lib.parseMag
    rw [if_neg (by simp), parse_dig _ (c :: r) rfl hl h]
    have hlt := dval_lt _ (c :: r) rfl h
    have hp : 10 ^ (c :: r).length ≤ 10 ^ 13 := Nat.pow_le_pow_right (by decide) hl
    have hp2 : (10 : Nat) ^ 13 = 10000000000000 := by decide
    simp only [Lib.signless]
    rw [if_neg (by omega)]
theorem itoa_dig (k : Nat) : Lib.itoa (k : Int) = Lib.decDigits k := by
  unfold Lib.itoa
  rw [if_neg (by omega), Int.toNat_natCast]
theorem head_dec (k : Nat) (h : 10 ≤ k) : (Lib.decDigits k).head? ≠ some 48 := by
  induction k using Nat.strongRecOn with
  | ind k ih =>
    rw [Lib.decDigits, dif_neg (by omega)]
    by_cases h2 : 10 ≤ k / 10
    · have := ih (k / 10) (by omega) h2
      rw [List.head?_append]
      cases hd : (Lib.decDigits (k / 10)).head? with
      | none => exact absurd (List.head?_eq_none_iff.1 hd) (decDigits_ne _)
      | some c => rw [hd] at this; simpa using this
    · rw [Lib.decDigits_one (by omega)]
      intro e
      have e2 : UInt8.ofNat (48 + k / 10) = 48 := by simpa using e
      have := congrArg UInt8.toNat e2
      rw [dig_of _ (by omega)] at this
      have h48 : (48 : UInt8).toNat = 48 := rfl
      omega
theorem len_dec (k : Nat) (h : 1 < (Lib.decDigits k).length) : 10 ≤ k := by
  rw [Lib.decDigits] at h
  split at h
  · simp at h
  · omega
theorem numV_dig (s : ByteArray) : numV s = if digOk s.data.toList = true then some (dval s.data.toList) else none := by
  have hsz : s.data.toList.length = s.size := by rw [Array.length_toList]; rfl
  split
  · next h =>
    unfold digOk at h
    simp only [Bool.and_eq_true, decide_eq_true_eq, List.all_eq_true, Bool.not_eq_true', Bool.and_eq_false_imp, beq_eq_false_iff_ne] at h
    obtain ⟨⟨⟨h1, h2⟩, h3⟩, h4⟩ := h
    unfold numV
    rw [atoi_dig h2 h1 h4]
    have e : Lib.itoa (dval s.data.toList : Int) = s.data.toList := by
      rw [itoa_dig]
      refine dec_dval (s.data.toList.length - 1) _ (by omega) h4 ?_
      by_cases hl : 1 < s.data.toList.length
      · exact .inr (h3 hl)
      · exact .inl (by omega)
    show (if s.size ≤ 13 ∧ 0 ≤ (dval s.data.toList : Int) ∧ Lib.itoa (dval s.data.toList : Int) = s.data.toList then some (dval s.data.toList : Int).toNat else none) = _
    rw [if_pos ⟨by omega, by omega, e⟩, Int.toNat_natCast]
  · next h =>
    cases hn : numV s with
    | none => rfl
    | some k =>
      exfalso
      apply h
      unfold numV at hn
      split at hn
      · next v hv =>
        split at hn
        · next hc =>
          obtain ⟨h1, h2, h3⟩ := hc
          obtain ⟨m, rfl⟩ : ∃ m : Nat, v = m := ⟨v.toNat, (Int.toNat_of_nonneg h2).symm⟩
          rw [itoa_dig] at h3
          unfold digOk
          simp only [Bool.and_eq_true, decide_eq_true_eq, List.all_eq_true, Bool.not_eq_true', Bool.and_eq_false_imp, beq_eq_false_iff_ne]
          refine ⟨⟨⟨?_, by omega⟩, fun hl => ?_⟩, ?_⟩
          · rw [← h3]
            exact List.length_pos_iff.2 (decDigits_ne m)
          · rw [← h3] at hl ⊢
            exact head_dec m (len_dec m hl)
          · rw [← h3]; exact decDigits_dig m
        · cases hn
      · cases hn
/-- The numeral of a number that is not too great is read as that number. -/
theorem dec_len_le {u k : Nat} (h : u < 10 ^ k) (hk : 1 ≤ k) : (Lib.decDigits u).length ≤ k := by
  induction k generalizing u with
  | zero => omega
  | succ k ih =>
    rw [Lib.decDigits]
    split
    · simp
    · next hu =>
      have hk1 : 1 ≤ k := by
        cases k with
        | zero => simp at h; omega
        | succ k => omega
      have := ih (u := u / 10) (by rw [Nat.pow_succ] at h; omega) hk1
      rw [List.length_append, List.length_singleton]
      omega
theorem numV_itoa_back (k : Nat) (h : k < 10000000000000) : numV ⟨(Lib.itoa (k : Int)).toArray⟩ = some k := by
  rw [numV_dig, itoa_dig]
  have hl := dec_len_le (u := k) (k := 13) (by have : (10 : Nat) ^ 13 = 10000000000000 := by decide
                                               omega) (by decide)
  have h1 := List.length_pos_iff.2 (decDigits_ne k)
  have hd := decDigits_dig k
  have hok : digOk (Lib.decDigits k) = true := by
    unfold digOk
    simp only [Bool.and_eq_true, decide_eq_true_eq, List.all_eq_true, Bool.not_eq_true', Bool.and_eq_false_imp, beq_eq_false_iff_ne]
    exact ⟨⟨⟨h1, hl⟩, fun hh => head_dec k (len_dec k hh)⟩, hd⟩
  show (if digOk (Lib.decDigits k).toArray.toList = true then some (dval (Lib.decDigits k).toArray.toList) else none) = _
  rw [List.toList_toArray, if_pos hok, dval_dec]
end Go.Proofs.YtakjbjokekbmbaaGreatDoor

/- Plain: what is written is read as it was. -/
namespace Go.Proofs.YtakjbjokekbmbaaGreatDoor
open Go.RowKit
set_option linter.unusedVariables false

def wordA : W1 → ByteArray
  | .str s => s
  | .num n => ⟨(Lib.itoa n).toArray⟩
theorem wordA_B (x : W1) : (wordA x).data.toList = wordB x := by cases x <;> simp [wordA, wordB]
def mkLine (ws : List W1) : ByteArray := ⟨(interL 32 (ws.map wordB)).toArray⟩
theorem mkLine_data (ws : List W1) : (mkLine ws).data.toList = interL 32 (ws.map wordB) := by simp [mkLine]
theorem lineB_mk (ws : List W1) (h1 : 1 ≤ ws.length) (h5 : ws.length ≤ 5) : lineB ws = (mkLine ws).data.toList ++ [10] := by
  rw [mkLine_data]
  match ws, h1, h5 with
  | [a], _, _ => rw [line1]; simp [interL]
  | [a, b], _, _ => rw [line2]; simp [interL]
  | [a, b, c], _, _ => rw [line3]; simp [interL]
  | [a, b, c, d], _, _ => rw [line4]; simp [interL]
  | [a, b, c, d, e], _, _ => rw [line5]; simp [interL]
theorem map_data_inj : ∀ {a b : List ByteArray}, a.map (·.data.toList) = b.map (·.data.toList) → a = b
  | [], [], _ => rfl
  | [], _ :: _, h => by cases h
  | _ :: _, [], h => by cases h
  | x :: a, y :: b, h => by
    rw [List.map_cons, List.map_cons] at h
    obtain ⟨h1, h2⟩ := List.cons.inj h
    rw [bytes_ext h1, map_data_inj h2]
def Clean (b : UInt8) (ws : List W1) : Prop := ∀ x ∈ ws, b ∉ wordB x
theorem lineW_mk {ws : List W1} (h1 : ws ≠ []) (h : Clean 32 ws) : lineW (mkLine ws) = ws.map wordA := by
  refine map_data_inj ?_
  unfold lineW
  rw [pieces_cut, mkLine_data, cut_inter 32 _ (by simpa using h1) (fun p hp => by obtain ⟨x, hx, rfl⟩ := List.mem_map.1 hp; exact h x hx), List.map_map]
  exact List.map_congr_left (fun x _ => (wordA_B x).symm)
theorem inter_no (c b : UInt8) (hcb : b ≠ c) : ∀ ps : List (List UInt8), (∀ p ∈ ps, b ∉ p) → b ∉ interL c ps
  | [], _ => by simp [interL]
  | [p], h => h p (by simp)
  | p :: q :: ps, h => by
    have := inter_no c b hcb (q :: ps) (fun x hx => h x (List.mem_cons_of_mem _ hx))
    rw [inter_cons c p (by simp), List.mem_append, List.mem_cons]
    rintro (h1 | h1 | h1)
    · exact h p (by simp) h1
    · exact hcb h1
    · exact this h1
theorem mkLine_no {ws : List W1} (h : Clean 10 ws) : 10 ∉ (mkLine ws).data.toList := by
  rw [mkLine_data]
  exact inter_no 32 10 (by decide) _ (fun p hp => by obtain ⟨x, hx, rfl⟩ := List.mem_map.1 hp; exact h x hx)

theorem lineR_to {st : RdS} {s w0 : ByteArray} {ts : List ByteArray} {k : Nat} {fs : ByteArray} {n : List Int} (hl : lineW s = w0 :: ts) (hk : formOf w0 = some (k, fs)) (hlen : ts.length = fs.size) (hr : rightB st.stage k = true)
    (hu : wordsUp (lastE st.c.ents).points fs.data.toList ts fs.size = some (n, false)) : lineR st s = (0, ⟨takeC k (ts.getD 0 ByteArray.empty) n st.c, (k : Int)⟩) := by
  have hh : lineHd s = w0 := by unfold lineHd; rw [hl]; rfl
  have h1 : formOk w0 = true := by unfold formOk; rw [hk]; rfl
  have h2 : formStage w0 = k := by unfold formStage; rw [hk]; rfl
  have h3 : formWords w0 = fs := by unfold formWords; rw [hk]; rfl
  have hf : lineFits st s = true := by
    unfold lineFits
    rw [hh, h1, h2, h3, hr, hl, List.length_cons, Nat.add_sub_cancel, hlen]
    simp
  have hres : lineRes st s = some (n, false) := by
    unfold lineRes
    rw [hh, h3, hl]
    exact hu
  unfold lineR
  rw [if_pos hf, hres, hh, h2, hl]
  rfl
theorem up_step {pts : List ByteArray} {fs : List UInt8} {ts : List ByteArray} {k : Nat} {p q : List Int × Bool} (h : wordsUp pts fs ts k = some p) (h2 : wordStep pts (fs.getD k 0) (ts.getD k ByteArray.empty) p = some q) : wordsUp pts fs ts (k + 1) = some q := by
  show (match wordsUp pts fs ts k with | none => none | some p => wordStep pts (fs.getD k 0) (ts.getD k ByteArray.empty) p) = some q
  rw [h]; exact h2
theorem to_n {pts : List ByteArray} {t : ByteArray} {p : List Int × Bool} {k : Nat} (h : numV t = some k) : wordStep pts 110 t p = some (p.1 ++ [(k : Int)], p.2) := by
  unfold wordStep
  rw [if_pos rfl, h]
theorem to_p {pts : List ByteArray} {t : ByteArray} {p : List Int × Bool} {i : Int} (h : idxS pts t = i) (h0 : 0 ≤ i) (ht : t.size ≠ 0) : wordStep pts 112 t p = some (p.1 ++ [i], p.2) := by
  unfold wordStep
  rw [if_neg (by decide), if_neg ht, if_pos rfl, h, decide_eq_false (by omega), Bool.or_false]
theorem to_s {pts : List ByteArray} {t : ByteArray} {p : List Int × Bool} (ht : t.size ≠ 0) : wordStep pts 115 t p = some p := by
  unfold wordStep
  rw [if_neg (by decide), if_neg ht, if_neg (by decide)]

/-! ### A right entity -/
structure EntFine (E : EntV) : Prop where
  good : EntGood E
  name : isNameB E.name = true
  pts : ∀ s ∈ E.points, isNameB s = true
  dis : ∀ (i j : Nat) (hi : i < E.points.length) (hj : j < E.points.length), j < i → E.points[j] ≠ E.points[i]
  cmm : E.count = -1 → E.mn = 0 ∧ E.mx = 0
  cnt : E.count = -1 ∨ (0 ≤ E.count ∧ E.count < (E.points.length : Int))
theorem nameB_no {s : ByteArray} (h : isNameB s = true) (b : UInt8) (hb : b.toNat < 45) : b ∉ s.data.toList := by
  intro hm
  obtain ⟨i, hi, he⟩ := List.mem_iff_getElem.1 hm
  have hi' : i < s.size := by rw [Array.length_toList] at hi; exact hi
  by_cases hk : okN i s[i] = true
  · have : s[i] = b := by rw [← he]; rfl
    rw [this] at hk
    simp only [okN, decide_eq_true_eq] at hk
    omega
  · rw [isNameB_bad i hi' (by simpa using hk)] at h
    cases h
theorem nameB_pos {s : ByteArray} (h : isNameB s = true) : s.size ≠ 0 := by
  intro h0
  rw [isNameB_short (by omega)] at h
  cases h
theorem ptsE_zero {P : List ByteArray} (h : ptsE P = 0) : ∀ j, j < P.length → ptE P j = 0 := by
  have hall : ∀ n, ∀ j, j < n → j < P.length → ptE P j = 0 := by
    intro n
    induction n with
    | zero => intro j h1; omega
    | succ n ih =>
      intro j h1 h2
      by_cases hj : j < n
      · exact ih j hj h2
      · obtain rfl : j = n := by omega
        by_cases hz : ptE P j = 0
        · exact hz
        · rw [ptsE_hit h2 hz (fun i hi => ih i hi (by omega))] at h
          exact h
  exact fun j hj => hall (j + 1) j (by omega) hj
theorem fine_of {ah : List ByteArray} {E : EntV} (h : entErr ah E = 0) : EntFine E := by
  have hg := good_of h
  have h1 : isNameB E.name = true := by
    cases hh : isNameB E.name
    · rw [entErr_name hh] at h; cases h
    · rfl
  have h2 : hasStr ah E.name = false := by
    cases hh : hasStr ah E.name
    · rfl
    · rw [entErr_exist h1 hh] at h; cases h
  have h3 : boundB E = false := by
    cases hh : boundB E
    · rfl
    · rw [entErr_bound h1 h2 hh] at h; cases h
  have h4 : ptsE E.points = 0 := by
    by_cases hh : ptsE E.points = 0
    · exact hh
    · rw [entErr_pts h1 h2 h3 hh] at h; exact h
  rw [entErr_tail' h1 h2 h3 h4] at h
  have hr := tail_rules h
  have r0 := hr 0 (by decide)
  have r1 := hr 1 (by decide)
  simp only [ruleB] at r0 r1
  unfold strangP at r0
  rw [Bool.or_eq_false_iff] at r0
  have s2 := r0.1
  simp only [cntW, cmmW, decide_eq_false_iff_not] at s2 r1
  refine ⟨hg, h1, ptsE_names h4, fun i j hi hj hji he => ?_, fun hc => ⟨?_, ?_⟩, by omega⟩
  · have hz := ptsE_zero h4 i hi
    have hn : isNameB E.points[i] = true := ptsE_names h4 _ (List.getElem_mem hi)
    have : ptE E.points i = 6 := ptE_twice hi hn (hasStr_hit j (by rw [List.length_take]; omega) (by rw [List.getElem_take, he]))
    omega
  · by_cases hh : E.mn = 0
    · exact hh
    · exact absurd ⟨hc, .inl hh⟩ r1
  · by_cases hh : E.mx = 0
    · exact hh
    · exact absurd ⟨hc, .inr hh⟩ r1
theorem idx_name {E : EntV} (h : EntFine E) {k : Int} (h0 : 0 ≤ k) (hk : k < (E.points.length : Int)) : idxS E.points (nameAt E k) = k ∧ isNameB (nameAt E k) = true := by
  obtain ⟨n, rfl⟩ : ∃ n : Nat, k = n := ⟨k.toNat, (Int.toNat_of_nonneg h0).symm⟩
  have hn : n < E.points.length := by omega
  have e : nameAt E (n : Int) = E.points[n] := by
    unfold nameAt
    rw [Int.toNat_natCast, List.getD_eq_getElem?_getD, List.getElem?_eq_getElem hn]; rfl
  rw [e]
  refine ⟨sidxOf_hit hn rfl (fun j hj hjn hh => ?_), h.pts _ (List.getElem_mem hn)⟩
  refine h.dis n j hn hj hjn ?_
  rw [ByteArray.toList_eq, ByteArray.toList_eq] at hh
  exact bytes_ext hh
theorem num_clean (n : Int) (h : 0 ≤ n) (b : UInt8) (hb : b.toNat < 45) : b ∉ wordB (.num n) := by
  obtain ⟨m, rfl⟩ : ∃ m : Nat, n = m := ⟨n.toNat, (Int.toNat_of_nonneg h).symm⟩
  show b ∉ Lib.itoa (m : Int)
  rw [itoa_dig]
  intro hm
  have := decDigits_dig m b hm
  simp only [isDig, decide_eq_true_eq] at this
  omega
theorem num_back {n : Int} (h : 0 ≤ n) (h2 : n ≤ 1099511627776) : ∃ k : Nat, n = k ∧ numV (wordA (.num n)) = some k := by
  obtain ⟨m, rfl⟩ : ∃ m : Nat, n = m := ⟨n.toNat, (Int.toNat_of_nonneg h).symm⟩
  exact ⟨m, rfl, numV_itoa_back m (by omega)⟩
/-- Words that are names or numbers of naught and more. -/
def WordFine : W1 → Prop
  | .str s => isNameB s = true ∨ s ∈ [winB, cycB, delB, entB, pntB, cntB, gapB, edgB, fstB, lstB]
  | .num n => 0 ≤ n
theorem fine_clean {ws : List W1} (h : ∀ x ∈ ws, WordFine x) (b : UInt8) (hb : b.toNat < 45) : Clean b ws := by
  intro x hx
  have := h x hx
  cases x with
  | num n => exact num_clean n this b hb
  | str s =>
    rcases this with h1 | h1
    · exact nameB_no h1 b hb
    · have hall : ∀ s ∈ [winB, cycB, delB, entB, pntB, cntB, gapB, edgB, fstB, lstB], ∀ c ∈ s.data.toList, 45 ≤ c.toNat := by decide
      intro hm
      have := hall s h1 b hm
      omega

/-! ### Lines, one behind the other -/
def runL (st : RdS) : List ByteArray → Option RdS
  | [] => some st
  | s :: l => if (lineR st s).1 = 0 then runL (lineR st s).2 l else none
theorem runL_app (st : RdS) (a b : List ByteArray) {st' : RdS} (h : runL st a = some st') : runL st (a ++ b) = runL st' b := by
  induction a generalizing st with
  | nil => obtain rfl := Option.some.inj h; rfl
  | cons s a ih =>
    simp only [runL, List.cons_append] at h ⊢
    split at h
    · next hz => rw [if_pos hz]; exact ih _ h
    · cases h
theorem runL_one {st st' : RdS} {s : ByteArray} (h : lineR st s = (0, st')) : runL st [s] = some st' := by simp [runL, h]
theorem runL_cons {st st1 st' : RdS} {s : ByteArray} {l : List ByteArray} (h : lineR st s = (0, st1)) (h2 : runL st1 l = some st') : runL st (s :: l) = some st' := by simp [runL, h, h2]
end Go.Proofs.YtakjbjokekbmbaaGreatDoor

/- Plain: a right config, part by part. -/
namespace Go.Proofs.YtakjbjokekbmbaaGreatDoor
open Go.RowKit
set_option linter.unusedVariables false

theorem entsF_zero {L : List EntV} (h : entsF L = (0, -1)) : ∀ j, j < L.length → entAt L j = 0 := by
  intro j hj
  unfold entsF at h
  split at h
  · next i hi =>
    have := (Prod.mk.inj h).2
    omega
  · next hn =>
    rw [List.find?_range_eq_none] at hn
    simpa using hn j hj
theorem confF_parts {C : ConfV} (h : confF C = (0, -1)) : boundC C = false ∧ ¬ C.opn < C.cycle ∧ ∀ j, j < C.ents.length → entAt C.ents j = 0 := by
  unfold confF at h
  split at h
  · cases h
  split at h
  · cases h
  next h1 h2 => exact ⟨by simpa using h1, h2, entsF_zero h⟩
end Go.Proofs.YtakjbjokekbmbaaGreatDoor

/- Plain: the text of a right config is read as that config. -/
namespace Go.Proofs.YtakjbjokekbmbaaGreatDoor
open Go.RowKit
set_option linter.unusedVariables false

def cfg (C : ConfV) (L : List EntV) : ConfV := { C with ents := L }
def pntE (E : EntV) (done : List ByteArray) : EntV := ⟨E.name, E.tol, done, -1, 0, 0, [], [], [], []⟩
def gapE (E : EntV) (l : List GapV) : EntV := ⟨E.name, E.tol, E.points, E.count, E.mn, E.mx, l, [], [], []⟩
def edgE (E : EntV) (l : List (Int × Int)) : EntV := ⟨E.name, E.tol, E.points, E.count, E.mn, E.mx, E.gaps, l, [], []⟩
def fstE (E : EntV) (l : List Int) : EntV := ⟨E.name, E.tol, E.points, E.count, E.mn, E.mx, E.gaps, E.edges, l, []⟩
def lstE (E : EntV) (l : List Int) : EntV := ⟨E.name, E.tol, E.points, E.count, E.mn, E.mx, E.gaps, E.edges, E.first, l⟩
theorem take_cfg (C : ConfV) (pre : List EntV) (e : EntV) (k : Nat) (hk : 4 ≤ k) (name : ByteArray) (n : List Int) : takeC k name n (cfg C (pre ++ [e])) = cfg C (pre ++ [takeE k name n e]) := by
  unfold takeC
  rw [if_neg (by omega), if_neg (by omega), if_neg (by omega), if_neg (by omega)]
  show cfg C ((pre ++ [e]).dropLast ++ [takeE k name n (lastE (pre ++ [e]))]) = _
  rw [List.dropLast_concat, lastE_app]
theorem run_list {α : Type} (f : α → ByteArray) (ok : α → Prop) (lo hi : Int) (hlh : lo ≤ hi) (mk : List α → ConfV)
    (hstep : ∀ done x st, lo ≤ st → st ≤ hi → ok x → lineR ⟨mk done, st⟩ (f x) = (0, ⟨mk (done ++ [x]), hi⟩)) :
    ∀ (rest done : List α) (st : Int), lo ≤ st → st ≤ hi → (∀ x ∈ rest, ok x) → ∃ st', lo ≤ st' ∧ st' ≤ hi ∧ runL ⟨mk done, st⟩ (rest.map f) = some ⟨mk (done ++ rest), st'⟩
  | [], done, st, h1, h2, _ => ⟨st, h1, h2, by rw [List.append_nil]; rfl⟩
  | x :: rest, done, st, h1, h2, h => by
    obtain ⟨st', h3, h4, h5⟩ := run_list f ok lo hi hlh mk hstep rest (done ++ [x]) hi hlh (Int.le_refl _) (fun y hy => h y (List.mem_cons_of_mem _ hy))
    refine ⟨st', h3, h4, ?_⟩
    rw [List.map_cons, runL_cons (hstep done x st h1 h2 (h x (List.mem_cons_self ..))) h5, List.append_assoc]
    rfl
theorem right_ent (k : Nat) (hk : 4 ≤ k) (hk5 : k ≠ 5) {st : Int} (h1 : 3 ≤ st) (h2 : st ≤ k) : rightB st k = true := by
  unfold rightB
  rw [if_neg (by omega), if_neg (by omega), if_neg hk5]
  simp [h1, h2]
theorem right_cnt {st : Int} (h1 : 3 ≤ st) (h2 : st ≤ 4) : rightB st 5 = true := by
  unfold rightB
  rw [if_neg (by omega), if_neg (by omega), if_pos rfl]
  have : st = 3 ∨ st = 4 := by omega
  rcases this with rfl | rfl <;> rfl
theorem fine_pnt {E : EntV} (h : EntFine E) {k : Int} (h0 : 0 ≤ k) (hk : k < (E.points.length : Int)) : WordFine (.str (nameAt E k)) := .inl (idx_name h h0 hk).2
theorem key_fine {s : ByteArray} (h : s ∈ [winB, cycB, delB, entB, pntB, cntB, gapB, edgB, fstB, lstB]) : WordFine (.str s) := .inr h
theorem all1 {p : W1 → Prop} {a : W1} (ha : p a) : ∀ x ∈ [a], p x := fun x hx => by obtain rfl := List.mem_singleton.1 hx; exact ha
theorem all_cons {p : W1 → Prop} {a : W1} {l : List W1} (ha : p a) (h : ∀ x ∈ l, p x) : ∀ x ∈ a :: l, p x := fun x hx => by
  rcases List.mem_cons.1 hx with rfl | hx
  · exact ha
  · exact h x hx
def LineFine (ws : List W1) : Prop := (1 ≤ ws.length ∧ ws.length ≤ 5) ∧ ∀ x ∈ ws, WordFine x
theorem LineFine.w {ws : List W1} (h : LineFine ws) : lineW (mkLine ws) = ws.map wordA := lineW_mk (by intro e; have := h.1; rw [e] at this; simp at this) (fine_clean h.2 32 (by decide))
theorem LineFine.no {ws : List W1} (h : LineFine ws) : 10 ∉ (mkLine ws).data.toList := mkLine_no (fine_clean h.2 10 (by decide))
theorem LineFine.b {ws : List W1} (h : LineFine ws) : lineB ws = (mkLine ws).data.toList ++ [10] := lineB_mk ws h.1.1 h.1.2

section
variable {pts : List ByteArray} {a b c d : ByteArray} {i j x y : Int}
theorem go_n (hx : ∃ k : Nat, x = k ∧ numV a = some k) : wordsUp pts [110] [a] 1 = some ([x], false) := by
  obtain ⟨k, rfl, hk⟩ := hx
  exact up_step (p := ([], false)) rfl (to_n hk)
theorem go_nn (hx : ∃ k : Nat, x = k ∧ numV a = some k) (hy : ∃ k : Nat, y = k ∧ numV b = some k) : wordsUp pts [110, 110] [a, b] 2 = some ([x, y], false) := by
  obtain ⟨k, rfl, hk⟩ := hx
  obtain ⟨m, rfl, hm⟩ := hy
  exact up_step (p := ([(k : Int)], false)) (up_step (p := ([], false)) rfl (to_n hk)) (to_n hm)
theorem go_sn (ha : a.size ≠ 0) (hy : ∃ k : Nat, y = k ∧ numV b = some k) : wordsUp pts [115, 110] [a, b] 2 = some ([y], false) := by
  obtain ⟨m, rfl, hm⟩ := hy
  exact up_step (p := ([], false)) (up_step (p := ([], false)) rfl (to_s ha)) (to_n hm)
theorem go_s (ha : a.size ≠ 0) : wordsUp pts [115] [a] 1 = some ([], false) := up_step (p := ([], false)) rfl (to_s ha)
theorem go_p (ha : idxS pts a = i) (hi : 0 ≤ i) (hs : a.size ≠ 0) : wordsUp pts [112] [a] 1 = some ([i], false) := up_step (p := ([], false)) rfl (to_p ha hi hs)
theorem go_pp (ha : idxS pts a = i) (hi : 0 ≤ i) (hs : a.size ≠ 0) (hb : idxS pts b = j) (hj : 0 ≤ j) (ht : b.size ≠ 0) : wordsUp pts [112, 112] [a, b] 2 = some ([i, j], false) :=
  up_step (p := ([i], false)) (go_p' ha hi hs) (to_p hb hj ht)
where go_p' (ha : idxS pts a = i) (hi : 0 ≤ i) (hs : a.size ≠ 0) : wordsUp pts [112, 112] [a, b] 1 = some ([i], false) := up_step (p := ([], false)) rfl (to_p ha hi hs)
theorem go_pnn (ha : idxS pts a = i) (hi : 0 ≤ i) (hs : a.size ≠ 0) (hx : ∃ k : Nat, x = k ∧ numV b = some k) (hy : ∃ k : Nat, y = k ∧ numV c = some k) : wordsUp pts [112, 110, 110] [a, b, c] 3 = some ([i, x, y], false) := by
  obtain ⟨k, rfl, hk⟩ := hx
  obtain ⟨m, rfl, hm⟩ := hy
  exact up_step (p := ([i, (k : Int)], false)) (up_step (p := ([i], false)) (up_step (p := ([], false)) rfl (to_p ha hi hs)) (to_n hk)) (to_n hm)
theorem go_ppnn (ha : idxS pts a = i) (hi : 0 ≤ i) (hs : a.size ≠ 0) (hb : idxS pts b = j) (hj : 0 ≤ j) (ht : b.size ≠ 0) (hx : ∃ k : Nat, x = k ∧ numV c = some k) (hy : ∃ k : Nat, y = k ∧ numV d = some k) : wordsUp pts [112, 112, 110, 110] [a, b, c, d] 4 = some ([i, j, x, y], false) := by
  obtain ⟨k, rfl, hk⟩ := hx
  obtain ⟨m, rfl, hm⟩ := hy
  exact up_step (p := ([i, j, (k : Int)], false)) (up_step (p := ([i, j], false)) (up_step (p := ([i], false)) (up_step (p := ([], false)) rfl (to_p ha hi hs)) (to_p hb hj ht)) (to_n hk)) (to_n hm)
end

section
variable {E : EntV} (h : EntFine E)
include h
theorem lf_ent : LineFine [.str entB, .str E.name, .num E.tol] := ⟨by simp, all_cons (key_fine (by simp)) (all_cons (.inl h.name) (all1 h.good.tol.1))⟩
theorem lf_pnt {s : ByteArray} (hs : s ∈ E.points) : LineFine (pntL s) := ⟨by simp [pntL], all_cons (key_fine (by simp)) (all1 (.inl (h.pts s hs)))⟩
theorem lf_cnt (h0 : 0 ≤ E.count) : LineFine [.str cntB, .str (nameAt E E.count), .num E.mn, .num E.mx] := by
  have hc := h.cnt
  have hr := h.good.rng
  exact ⟨by simp, all_cons (key_fine (by simp)) (all_cons (fine_pnt h h0 (by omega)) (all_cons (show 0 ≤ E.mn by omega) (all1 (show 0 ≤ E.mx by omega))))⟩
theorem lf_gap {g : GapV} (hg : g ∈ E.gaps) : LineFine (gapLn E g) := by
  obtain ⟨a, b, c, d, _⟩ := h.good.gs g hg
  exact ⟨by simp [gapLn], all_cons (key_fine (by simp)) (all_cons (fine_pnt h a.1 a.2) (all_cons (fine_pnt h b.1 b.2) (all_cons c (all1 (show 0 ≤ g.mx by omega)))))⟩
theorem lf_edg {x : Int × Int} (hx : x ∈ E.edges) : LineFine (edgLn E x) := by
  obtain ⟨a, b⟩ := h.good.es x hx
  exact ⟨by simp [edgLn], all_cons (key_fine (by simp)) (all_cons (fine_pnt h a.1 a.2) (all1 (fine_pnt h b.1 b.2)))⟩
theorem lf_fst {k : Int} (hk : k ∈ E.first) : LineFine (fstLn E k) := by
  have a := h.good.fs k hk
  exact ⟨by simp [fstLn], all_cons (key_fine (by simp)) (all1 (fine_pnt h a.1 a.2))⟩
theorem lf_lst {k : Int} (hk : k ∈ E.last) : LineFine (lstLn E k) := by
  have a := h.good.ls k hk
  exact ⟨by simp [lstLn], all_cons (key_fine (by simp)) (all1 (fine_pnt h a.1 a.2))⟩

theorem step_pnt (C : ConfV) (pre : List EntV) (done : List ByteArray) {s : ByteArray} (hs : s ∈ E.points) {st : Int} (h1 : 3 ≤ st) (h2 : st ≤ 4) :
    lineR ⟨cfg C (pre ++ [pntE E done]), st⟩ (mkLine (pntL s)) = (0, ⟨cfg C (pre ++ [pntE E (done ++ [s])]), 4⟩) := by
  have hw := (lf_pnt h hs).w
  rw [lineR_to (w0 := pntB) (ts := [s]) (k := 4) (fs := ⟨#[115]⟩) (n := []) hw (by decide) rfl (right_ent 4 (by decide) (by decide) h1 h2) (go_s (nameB_pos (h.pts s hs)))]
  congr 2
  exact take_cfg C pre _ 4 (by decide) s []
theorem step_cnt (C : ConfV) (pre : List EntV) (h0 : 0 ≤ E.count) {st : Int} (h1 : 3 ≤ st) (h2 : st ≤ 4) :
    lineR ⟨cfg C (pre ++ [pntE E E.points]), st⟩ (mkLine [.str cntB, .str (nameAt E E.count), .num E.mn, .num E.mx]) = (0, ⟨cfg C (pre ++ [gapE E []]), 5⟩) := by
  have hw := (lf_cnt h h0).w
  have hc := h.cnt
  have hr := h.good.rng
  obtain ⟨hi, hn⟩ := idx_name h h0 (by omega)
  have hl : (lastE (pre ++ [pntE E E.points])).points = E.points := by rw [lastE_app]; rfl
  rw [lineR_to (w0 := cntB) (ts := [nameAt E E.count, wordA (.num E.mn), wordA (.num E.mx)]) (k := 5) (fs := ⟨#[112, 110, 110]⟩) (n := [E.count, E.mn, E.mx]) hw (by decide) rfl (right_cnt h1 h2)
    (go_pnn (by show idxS (lastE (pre ++ [pntE E E.points])).points _ = _; rw [hl]; exact hi) h0 (nameB_pos hn) (num_back (n := E.mn) (by omega) (by omega)) (num_back (n := E.mx) (by omega) (by omega)))]
  congr 2
  exact take_cfg C pre _ 5 (by decide) _ _
theorem step_gap (C : ConfV) (pre : List EntV) (done : List GapV) {g : GapV} (hg : g ∈ E.gaps) {st : Int} (h1 : 3 ≤ st) (h2 : st ≤ 6) :
    lineR ⟨cfg C (pre ++ [gapE E done]), st⟩ (mkLine (gapLn E g)) = (0, ⟨cfg C (pre ++ [gapE E (done ++ [g])]), 6⟩) := by
  have hw := (lf_gap h hg).w
  obtain ⟨a, b, c, d, e⟩ := h.good.gs g hg
  obtain ⟨hi, hn⟩ := idx_name h a.1 a.2
  obtain ⟨hj, hm⟩ := idx_name h b.1 b.2
  have hl : (lastE (pre ++ [gapE E done])).points = E.points := by rw [lastE_app]; rfl
  rw [lineR_to (w0 := gapB) (ts := [nameAt E g.fr, nameAt E g.dst, wordA (.num g.mn), wordA (.num g.mx)]) (k := 6) (fs := ⟨#[112, 112, 110, 110]⟩) (n := [g.fr, g.dst, g.mn, g.mx]) hw (by decide) rfl (right_ent 6 (by decide) (by decide) h1 h2)
    (go_ppnn (by show idxS (lastE (pre ++ [gapE E done])).points _ = _; rw [hl]; exact hi) a.1 (nameB_pos hn) (by show idxS (lastE (pre ++ [gapE E done])).points _ = _; rw [hl]; exact hj) b.1 (nameB_pos hm) (num_back (n := g.mn) (by omega) (by omega)) (num_back (n := g.mx) (by omega) (by omega)))]
  congr 2
  exact take_cfg C pre _ 6 (by decide) _ _
theorem step_edg (C : ConfV) (pre : List EntV) (done : List (Int × Int)) {x : Int × Int} (hx : x ∈ E.edges) {st : Int} (h1 : 3 ≤ st) (h2 : st ≤ 7) :
    lineR ⟨cfg C (pre ++ [edgE E done]), st⟩ (mkLine (edgLn E x)) = (0, ⟨cfg C (pre ++ [edgE E (done ++ [x])]), 7⟩) := by
  have hw := (lf_edg h hx).w
  obtain ⟨a, b⟩ := h.good.es x hx
  obtain ⟨hi, hn⟩ := idx_name h a.1 a.2
  obtain ⟨hj, hm⟩ := idx_name h b.1 b.2
  have hl : (lastE (pre ++ [edgE E done])).points = E.points := by rw [lastE_app]; rfl
  rw [lineR_to (w0 := edgB) (ts := [nameAt E x.1, nameAt E x.2]) (k := 7) (fs := ⟨#[112, 112]⟩) (n := [x.1, x.2]) hw (by decide) rfl (right_ent 7 (by decide) (by decide) h1 h2)
    (go_pp (by show idxS (lastE (pre ++ [edgE E done])).points _ = _; rw [hl]; exact hi) a.1 (nameB_pos hn) (by show idxS (lastE (pre ++ [edgE E done])).points _ = _; rw [hl]; exact hj) b.1 (nameB_pos hm))]
  congr 2
  exact take_cfg C pre _ 7 (by decide) _ _
theorem step_fst (C : ConfV) (pre : List EntV) (done : List Int) {x : Int} (hx : x ∈ E.first) {st : Int} (h1 : 3 ≤ st) (h2 : st ≤ 8) :
    lineR ⟨cfg C (pre ++ [fstE E done]), st⟩ (mkLine (fstLn E x)) = (0, ⟨cfg C (pre ++ [fstE E (done ++ [x])]), 8⟩) := by
  have hw := (lf_fst h hx).w
  have a := h.good.fs x hx
  obtain ⟨hi, hn⟩ := idx_name h a.1 a.2
  have hl : (lastE (pre ++ [fstE E done])).points = E.points := by rw [lastE_app]; rfl
  rw [lineR_to (w0 := fstB) (ts := [nameAt E x]) (k := 8) (fs := ⟨#[112]⟩) (n := [x]) hw (by decide) rfl (right_ent 8 (by decide) (by decide) h1 h2)
    (go_p (by show idxS (lastE (pre ++ [fstE E done])).points _ = _; rw [hl]; exact hi) a.1 (nameB_pos hn))]
  congr 2
  exact take_cfg C pre _ 8 (by decide) _ _
theorem step_lst (C : ConfV) (pre : List EntV) (done : List Int) {x : Int} (hx : x ∈ E.last) {st : Int} (h1 : 3 ≤ st) (h2 : st ≤ 9) :
    lineR ⟨cfg C (pre ++ [lstE E done]), st⟩ (mkLine (lstLn E x)) = (0, ⟨cfg C (pre ++ [lstE E (done ++ [x])]), 9⟩) := by
  have hw := (lf_lst h hx).w
  have a := h.good.ls x hx
  obtain ⟨hi, hn⟩ := idx_name h a.1 a.2
  have hl : (lastE (pre ++ [lstE E done])).points = E.points := by rw [lastE_app]; rfl
  rw [lineR_to (w0 := lstB) (ts := [nameAt E x]) (k := 9) (fs := ⟨#[112]⟩) (n := [x]) hw (by decide) rfl (right_ent 9 (by decide) (by decide) h1 h2)
    (go_p (by show idxS (lastE (pre ++ [lstE E done])).points _ = _; rw [hl]; exact hi) a.1 (nameB_pos hn))]
  congr 2
  exact take_cfg C pre _ 9 (by decide) _ _
theorem runs_pnt (C : ConfV) (pre : List EntV) {st : Int} (h1 : 3 ≤ st) (h2 : st ≤ 4) : ∃ st', 3 ≤ st' ∧ st' ≤ 4 ∧ runL ⟨cfg C (pre ++ [pntE E []]), st⟩ (E.points.map (fun s => mkLine (pntL s))) = some ⟨cfg C (pre ++ [pntE E E.points]), st'⟩ := by
  have hs := @step_pnt E h C pre
  exact run_list (fun s => mkLine (pntL s)) (· ∈ E.points) 3 4 (by decide) (fun done => cfg C (pre ++ [pntE E done])) (fun done x st h1 h2 hx => hs done hx h1 h2) E.points [] st h1 h2 (fun x hx => hx)
theorem runs_gap (C : ConfV) (pre : List EntV) {st : Int} (h1 : 3 ≤ st) (h2 : st ≤ 6) : ∃ st', 3 ≤ st' ∧ st' ≤ 6 ∧ runL ⟨cfg C (pre ++ [gapE E []]), st⟩ (E.gaps.map (fun g => mkLine (gapLn E g))) = some ⟨cfg C (pre ++ [gapE E E.gaps]), st'⟩ := by
  have hs := @step_gap E h C pre
  exact run_list (fun g => mkLine (gapLn E g)) (· ∈ E.gaps) 3 6 (by decide) (fun done => cfg C (pre ++ [gapE E done])) (fun done x st h1 h2 hx => hs done hx h1 h2) E.gaps [] st h1 h2 (fun x hx => hx)
theorem runs_edg (C : ConfV) (pre : List EntV) {st : Int} (h1 : 3 ≤ st) (h2 : st ≤ 7) : ∃ st', 3 ≤ st' ∧ st' ≤ 7 ∧ runL ⟨cfg C (pre ++ [edgE E []]), st⟩ (E.edges.map (fun g => mkLine (edgLn E g))) = some ⟨cfg C (pre ++ [edgE E E.edges]), st'⟩ := by
  have hs := @step_edg E h C pre
  exact run_list (fun g => mkLine (edgLn E g)) (· ∈ E.edges) 3 7 (by decide) (fun done => cfg C (pre ++ [edgE E done])) (fun done x st h1 h2 hx => hs done hx h1 h2) E.edges [] st h1 h2 (fun x hx => hx)
theorem runs_fst (C : ConfV) (pre : List EntV) {st : Int} (h1 : 3 ≤ st) (h2 : st ≤ 8) : ∃ st', 3 ≤ st' ∧ st' ≤ 8 ∧ runL ⟨cfg C (pre ++ [fstE E []]), st⟩ (E.first.map (fun g => mkLine (fstLn E g))) = some ⟨cfg C (pre ++ [fstE E E.first]), st'⟩ := by
  have hs := @step_fst E h C pre
  exact run_list (fun g => mkLine (fstLn E g)) (· ∈ E.first) 3 8 (by decide) (fun done => cfg C (pre ++ [fstE E done])) (fun done x st h1 h2 hx => hs done hx h1 h2) E.first [] st h1 h2 (fun x hx => hx)
theorem runs_lst (C : ConfV) (pre : List EntV) {st : Int} (h1 : 3 ≤ st) (h2 : st ≤ 9) : ∃ st', 3 ≤ st' ∧ st' ≤ 9 ∧ runL ⟨cfg C (pre ++ [lstE E []]), st⟩ (E.last.map (fun g => mkLine (lstLn E g))) = some ⟨cfg C (pre ++ [lstE E E.last]), st'⟩ := by
  have hs := @step_lst E h C pre
  exact run_list (fun g => mkLine (lstLn E g)) (· ∈ E.last) 3 9 (by decide) (fun done => cfg C (pre ++ [lstE E done])) (fun done x st h1 h2 hx => hs done hx h1 h2) E.last [] st h1 h2 (fun x hx => hx)
/-- The lines of a right entity, read. -/
theorem run_ent (C : ConfV) (pre : List EntV) {st : Int} (h1 : 2 ≤ st) : ∃ st', 2 ≤ st' ∧ runL ⟨cfg C pre, st⟩ ((entLn E).map mkLine) = some ⟨cfg C (pre ++ [E]), st'⟩ := by
  have e0 : lineR ⟨cfg C pre, st⟩ (mkLine [.str entB, .str E.name, .num E.tol]) = (0, ⟨cfg C (pre ++ [pntE E []]), 3⟩) := by
    have hw := (lf_ent h).w
    have ht := h.good.tol
    rw [lineR_to (w0 := entB) (ts := [E.name, wordA (.num E.tol)]) (k := 3) (fs := ⟨#[115, 110]⟩) (n := [E.tol]) hw (by decide) rfl (by unfold rightB; simp; exact h1)
      (go_sn (nameB_pos h.name) (num_back (n := E.tol) (by omega) (by omega)))]
    rfl
  obtain ⟨s1, a1, b1, r1⟩ := runs_pnt h C pre (st := 3) (by decide) (by decide)
  have r2 : ∃ s2, 3 ≤ s2 ∧ s2 ≤ 5 ∧ runL ⟨cfg C (pre ++ [pntE E E.points]), s1⟩ ((cntLn E).map mkLine) = some ⟨cfg C (pre ++ [gapE E []]), s2⟩ := by
    by_cases h0 : 0 ≤ E.count
    · refine ⟨5, by decide, by decide, ?_⟩
      unfold cntLn
      rw [if_pos h0, List.map_singleton]
      exact runL_one (step_cnt h C pre h0 a1 b1)
    · refine ⟨s1, a1, by omega, ?_⟩
      unfold cntLn
      rw [if_neg h0]
      have hc : E.count = -1 := by have := h.cnt; omega
      obtain ⟨m1, m2⟩ := h.cmm hc
      show some _ = some _
      congr 5
      unfold pntE
      cases E
      simp only at hc m1 m2
      simp [hc, m1, m2, gapE]
  obtain ⟨s2, a2, b2, r2⟩ := r2
  obtain ⟨s3, a3, b3, r3⟩ := runs_gap h C pre a2 (by omega)
  obtain ⟨s4, a4, b4, r4⟩ := runs_edg h C pre a3 (by omega)
  obtain ⟨s5, a5, b5, r5⟩ := runs_fst h C pre a4 (by omega)
  obtain ⟨s6, a6, b6, r6⟩ := runs_lst h C pre a5 (by omega)
  refine ⟨s6, by omega, ?_⟩
  unfold entLn
  rw [List.map_cons, List.map_append, List.map_append, List.map_append, List.map_append, List.map_append, List.map_map, List.map_map, List.map_map, List.map_map, List.map_map]
  refine runL_cons e0 ?_
  have r4 : runL ⟨cfg C (pre ++ [gapE E E.gaps]), s3⟩ (E.edges.map (fun g => mkLine (edgLn E g))) = some ⟨cfg C (pre ++ [edgE E E.edges]), s4⟩ := r4
  have r5 : runL ⟨cfg C (pre ++ [edgE E E.edges]), s4⟩ (E.first.map (fun g => mkLine (fstLn E g))) = some ⟨cfg C (pre ++ [fstE E E.first]), s5⟩ := r5
  have r6 : runL ⟨cfg C (pre ++ [fstE E E.first]), s5⟩ (E.last.map (fun g => mkLine (lstLn E g))) = some ⟨cfg C (pre ++ [lstE E E.last]), s6⟩ := r6
  rw [List.append_assoc, List.append_assoc, List.append_assoc, List.append_assoc]
  exact (runL_app _ _ _ r1).trans ((runL_app _ _ _ r2).trans ((runL_app _ _ _ r3).trans ((runL_app _ _ _ r4).trans ((runL_app _ _ _ r5).trans r6))))
end
theorem run_ents (C : ConfV) : ∀ (L pre : List EntV) {st : Int}, 2 ≤ st → (∀ E ∈ L, EntFine E) → ∃ st', 2 ≤ st' ∧ runL ⟨cfg C pre, st⟩ ((L.flatMap entLn).map mkLine) = some ⟨cfg C (pre ++ L), st'⟩
  | [], pre, st, h, _ => ⟨st, h, by rw [List.append_nil]; rfl⟩
  | E :: L, pre, st, h, hf => by
    obtain ⟨s1, h1, r1⟩ := run_ent (hf E (List.mem_cons_self ..)) C pre h
    obtain ⟨s2, h2, r2⟩ := run_ents C L (pre ++ [E]) h1 (fun x hx => hf x (List.mem_cons_of_mem _ hx))
    refine ⟨s2, h2, ?_⟩
    rw [List.flatMap_cons, List.map_append, runL_app _ _ _ r1, r2, List.append_assoc]
    rfl
def txtLs (C : ConfV) : List (List W1) := headL C ++ C.ents.flatMap entLn
theorem ents_fine {C : ConfV} (h : confF C = (0, -1)) : ∀ E ∈ C.ents, EntFine E := by
  intro E hE
  obtain ⟨i, hi, rfl⟩ := List.mem_iff_getElem.1 hE
  have := (confF_parts h).2.2 i hi
  rw [entAt_at hi] at this
  exact fine_of this
theorem lf_head {C : ConfV} (h : confF C = (0, -1)) : ∀ ws ∈ headL C, LineFine ws := by
  have hb := (confF_parts h).1
  unfold boundC at hb
  rw [decide_eq_false_iff_not] at hb
  intro ws hws
  simp only [headL, List.mem_cons, List.not_mem_nil, or_false] at hws
  rcases hws with rfl | rfl | rfl
  · exact ⟨by simp, all_cons (key_fine (by simp)) (all_cons (show 0 ≤ C.closed by omega) (all1 (show 0 ≤ C.opn by omega)))⟩
  · exact ⟨by simp, all_cons (key_fine (by simp)) (all1 (show 0 ≤ C.cycle by omega))⟩
  · exact ⟨by simp, all_cons (key_fine (by simp)) (all1 (show 0 ≤ C.delay by omega))⟩
theorem lf_entLn {E : EntV} (h : EntFine E) : ∀ ws ∈ entLn E, LineFine ws := by
  intro ws hws
  unfold entLn at hws
  rcases List.mem_cons.1 hws with rfl | hws
  · exact lf_ent h
  simp only [List.mem_append, List.mem_map] at hws
  rcases hws with ((((⟨x, hx, rfl⟩ | hws) | ⟨x, hx, rfl⟩) | ⟨x, hx, rfl⟩) | ⟨x, hx, rfl⟩) | ⟨x, hx, rfl⟩
  · exact lf_pnt h hx
  · unfold cntLn at hws
    split at hws
    · next h0 => obtain rfl := List.mem_singleton.1 hws; exact lf_cnt h h0
    · cases hws
  · exact lf_gap h hx
  · exact lf_edg h hx
  · exact lf_fst h hx
  · exact lf_lst h hx
theorem lf_all {C : ConfV} (h : confF C = (0, -1)) : ∀ ws ∈ txtLs C, LineFine ws := by
  intro ws hws
  rcases List.mem_append.1 hws with hws | hws
  · exact lf_head h ws hws
  · obtain ⟨E, hE, hw⟩ := List.mem_flatMap.1 hws
    exact lf_entLn (ents_fine h E hE) ws hw
theorem run_head {C : ConfV} (h : confF C = (0, -1)) : runL RdS.start ((headL C).map mkLine) = some ⟨cfg C [], 2⟩ := by
  have hb := (confF_parts h).1
  unfold boundC at hb
  rw [decide_eq_false_iff_not] at hb
  have hf := lf_head h
  have w1 := (hf [.str winB, .num C.closed, .num C.opn] (by simp [headL])).w
  have w2 := (hf [.str cycB, .num C.cycle] (by simp [headL])).w
  have w3 := (hf [.str delB, .num C.delay] (by simp [headL])).w
  have e1 : lineR RdS.start (mkLine [.str winB, .num C.closed, .num C.opn]) = (0, ⟨⟨C.closed, C.opn, 0, 0, []⟩, 0⟩) :=
    lineR_to (w0 := winB) (ts := [wordA (.num C.closed), wordA (.num C.opn)]) (k := 0) (fs := ⟨#[110, 110]⟩) (n := [C.closed, C.opn]) w1 (by decide) rfl (by decide) (go_nn (num_back (n := C.closed) (by omega) (by omega)) (num_back (n := C.opn) (by omega) (by omega)))
  have e2 : lineR ⟨⟨C.closed, C.opn, 0, 0, []⟩, 0⟩ (mkLine [.str cycB, .num C.cycle]) = (0, ⟨⟨C.closed, C.opn, C.cycle, 0, []⟩, 1⟩) :=
    lineR_to (w0 := cycB) (ts := [wordA (.num C.cycle)]) (k := 1) (fs := ⟨#[110]⟩) (n := [C.cycle]) w2 (by decide) rfl (by show rightB 0 1 = true; decide) (go_n (num_back (n := C.cycle) (by omega) (by omega)))
  have e3 : lineR ⟨⟨C.closed, C.opn, C.cycle, 0, []⟩, 1⟩ (mkLine [.str delB, .num C.delay]) = (0, ⟨⟨C.closed, C.opn, C.cycle, C.delay, []⟩, 2⟩) :=
    lineR_to (w0 := delB) (ts := [wordA (.num C.delay)]) (k := 2) (fs := ⟨#[110]⟩) (n := [C.delay]) w3 (by decide) rfl (by show rightB 1 2 = true; decide) (go_n (num_back (n := C.delay) (by omega) (by omega)))
  exact runL_cons e1 (runL_cons e2 (runL_one e3))
/-- Read forth: what runL tells of linesUp and linesF. -/
theorem runL_up (ls : List ByteArray) : ∀ (k : Nat) {st : RdS}, k ≤ ls.length → runL (linesUp ls k) (ls.drop k) = some st → (∀ j, k ≤ j → j < ls.length → lineAt ls j = 0) ∧ linesUp ls ls.length = st
  | k, st, hk, h => by
    by_cases he : k = ls.length
    · subst he
      rw [List.drop_length] at h
      exact ⟨fun j h1 h2 => by omega, Option.some.inj h⟩
    · have hlt : k < ls.length := by omega
      have hd : ls.getD k ByteArray.empty = ls[k] := by rw [List.getD_eq_getElem?_getD, List.getElem?_eq_getElem hlt]; rfl
      rw [List.drop_eq_getElem_cons hlt] at h
      simp only [runL] at h
      split at h
      · next hz =>
        have hn : linesUp ls (k + 1) = (lineR (linesUp ls k) ls[k]).2 := by
          show (lineR (linesUp ls k) (ls.getD k ByteArray.empty)).2 = _
          rw [hd]
        rw [← hn] at h
        obtain ⟨h1, h2⟩ := runL_up ls (k + 1) (by omega) h
        refine ⟨fun j hj hl => ?_, h2⟩
        by_cases hjk : j = k
        · subst hjk
          unfold lineAt
          rw [hd]; exact hz
        · exact h1 j (by omega) hl
      · cases h
  termination_by k => ls.length - k
theorem textB_lines (C : ConfV) : textB C = linesB (txtLs C) := by
  unfold textB headB txtLs
  rw [linesB_app]
  show linesB _ ++ _ = linesB _ ++ _
  congr 1
  unfold linesB
  rw [List.flatMap_assoc]
/-- The lines of a right config's text are those that were written. -/
theorem text_lines {C : ConfV} (h : confF C = (0, -1)) : textLines ⟨(textB C).toArray⟩ = (txtLs C).map mkLine := by
  have hf := lf_all h
  have hne : (txtLs C).map mkLine ≠ [] := by simp [txtLs, headL]
  have e1 : textB C = ((txtLs C).map mkLine).flatMap (fun s => s.data.toList ++ [10]) := by
    rw [textB_lines, List.flatMap_map]
    unfold linesB
    have : ∀ L : List (List W1), (∀ ws ∈ L, LineFine ws) → L.flatMap lineB = L.flatMap (fun a => (mkLine a).data.toList ++ [10]) := by
      intro L
      induction L with
      | nil => intro _; rfl
      | cons ws L ih =>
        intro hL
        rw [List.flatMap_cons, List.flatMap_cons, ih (fun x hx => hL x (List.mem_cons_of_mem _ hx)), (hL ws (List.mem_cons_self ..)).b]
    exact this _ hf
  have e2 := flat_inter 10 (((txtLs C).map mkLine).map (·.data.toList)) (by simpa using hne)
  rw [List.flatMap_map] at e2
  rw [← e1] at e2
  have hsz : (⟨(textB C).toArray⟩ : ByteArray).size = (textB C).length := by simp [ByteArray.size]
  have hlen : 1 ≤ (textB C).length := by rw [e2, List.length_append]; simp
  have hcut : textCut ⟨(textB C).toArray⟩ = ⟨(interL 10 (((txtLs C).map mkLine).map (·.data.toList))).toArray⟩ := by
    unfold textCut
    rw [if_pos (by show (textB C).toArray.toList.getLast? = _; rw [List.toList_toArray, e2]; simp)]
    refine bytes_ext ?_
    rw [ByteArray.data_extract, Array.toList_extract, hsz]
    show List.extract (textB C).toArray.toList 0 _ = (interL 10 _).toArray.toList
    rw [List.toList_toArray, List.toList_toArray, List.extract_eq_take_drop, List.drop_zero]
    conv => lhs; rw [e2]
    rw [List.length_append, List.length_singleton]
    simp
  unfold textLines
  rw [if_neg (by rw [hsz]; omega), hcut]
  refine map_data_inj ?_
  rw [pieces_cut]
  show cutL 10 (interL 10 _).toArray.toList = _
  rw [List.toList_toArray]
  exact cut_inter 10 _ (by simpa using hne) (fun p hp => by
    obtain ⟨s, hs, rfl⟩ := List.mem_map.1 hp
    obtain ⟨ws, hws, rfl⟩ := List.mem_map.1 hs
    exact (hf ws hws).no)
/-- A right config's text is read as that config. -/
theorem back_law {C : ConfV} (h : confF C = (0, -1)) (h8 : ¬ 8000 < (textB C).length) : readF ⟨(textB C).toArray⟩ = (C, (0, -1)) := by
  have hsz : (⟨(textB C).toArray⟩ : ByteArray).size = (textB C).length := by simp [ByteArray.size]
  obtain ⟨st', h2, hr⟩ := run_ents C C.ents [] (st := 2) (by decide) (ents_fine h)
  have hrun : runL RdS.start ((txtLs C).map mkLine) = some ⟨C, st'⟩ := by
    unfold txtLs
    rw [List.map_append, runL_app _ _ _ (run_head h), hr]
    rfl
  have hup := runL_up ((txtLs C).map mkLine) 0 (Nat.zero_le _) (st := ⟨C, st'⟩) (by rw [List.drop_zero]; exact hrun)
  unfold readF
  rw [text_lines h, hsz, if_neg h8, linesF_miss (fun j hj => hup.1 j (Nat.zero_le _) hj), if_neg (by decide), hup.2, if_neg (by show ¬ st' < 2; omega), h, if_neg (by decide)]
end Go.Proofs.YtakjbjokekbmbaaGreatDoor
