/- Plain: the text of a right config is read as that config. -/
import Derived.Test.YtakjbjokekbmbaaGreatDoorR33
import Derived.Test.YtakjbjokekbmbaaGreatDoorR32
namespace Go.Proofs.YtakjbjokekbmbaaGreatDoor
open Go.RowKit
set_option linter.unusedVariables false

def cfg (C : ConfV) (L : List EntV) : ConfV := { C with ents := L }
def pntE (E : EntV) (done : List ByteArray) : EntV := ⟨E.name, E.tol, done, -1, 0, 0, [], [], [], []⟩
def gapE (E : EntV) (l : List GapV) : EntV := ⟨E.name, E.tol, E.points, E.count, E.mn, E.mx, l, [], [], []⟩
def edgE (E : EntV) (l : List (Int × Int)) : EntV := ⟨E.name, E.tol, E.points, E.count, E.mn, E.mx, E.gaps, l, [], []⟩
def fstE (E : EntV) (l : List Int) : EntV := ⟨E.name, E.tol, E.points, E.count, E.mn, E.mx, E.gaps, E.edges, l, []⟩
def lstE (E : EntV) (l : List Int) : EntV := ⟨E.name, E.tol, E.points, E.count, E.mn, E.mx, E.gaps, E.edges, E.first, l⟩
theorem take_cfg (C : ConfV) (pre : List EntV) (e : EntV) (k : Nat) (hk : 4 ≤ k) (name : ByteArray) (n : List Int) : takeC k name n (cfg C (pre ++ [e])) = cfg C (pre ++ [takeE k name n e]) := by
  unfold takeC
  rw [if_neg (by omega), if_neg (by omega), if_neg (by omega), if_neg (by omega)]
  show cfg C ((pre ++ [e]).dropLast ++ [takeE k name n (lastE (pre ++ [e]))]) = _
  rw [List.dropLast_concat, lastE_app]
theorem run_list {α : Type} (f : α → ByteArray) (ok : α → Prop) (lo hi : Int) (hlh : lo ≤ hi) (mk : List α → ConfV)
    (hstep : ∀ done x st, lo ≤ st → st ≤ hi → ok x → lineR ⟨mk done, st⟩ (f x) = (0, ⟨mk (done ++ [x]), hi⟩)) :
    ∀ (rest done : List α) (st : Int), lo ≤ st → st ≤ hi → (∀ x ∈ rest, ok x) → ∃ st', lo ≤ st' ∧ st' ≤ hi ∧ runL ⟨mk done, st⟩ (rest.map f) = some ⟨mk (done ++ rest), st'⟩
  | [], done, st, h1, h2, _ => ⟨st, h1, h2, by rw [List.append_nil]; rfl⟩
  | x :: rest, done, st, h1, h2, h => by
    obtain ⟨st', h3, h4, h5⟩ := run_list f ok lo hi hlh mk hstep rest (done ++ [x]) hi hlh (Int.le_refl _) (fun y hy => h y (List.mem_cons_of_mem _ hy))
    refine ⟨st', h3, h4, ?_⟩
    rw [List.map_cons, runL_cons (hstep done x st h1 h2 (h x (List.mem_cons_self ..))) h5, List.append_assoc]
    rfl
theorem right_ent (k : Nat) (hk : 4 ≤ k) (hk5 : k ≠ 5) {st : Int} (h1 : 3 ≤ st) (h2 : st ≤ k) : rightB st k = true := by
  unfold rightB
  rw [if_neg (by omega), if_neg (by omega), if_neg hk5]
  simp [h1, h2]
theorem right_cnt {st : Int} (h1 : 3 ≤ st) (h2 : st ≤ 4) : rightB st 5 = true := by
  unfold rightB
  rw [if_neg (by omega), if_neg (by omega), if_pos rfl]
  have : st = 3 ∨ st = 4 := by omega
  rcases this with rfl | rfl <;> rfl
theorem fine_pnt {E : EntV} (h : EntFine E) {k : Int} (h0 : 0 ≤ k) (hk : k < (E.points.length : Int)) : WordFine (.str (nameAt E k)) := .inl (idx_name h h0 hk).2
theorem key_fine {s : ByteArray} (h : s ∈ [winB, cycB, delB, entB, pntB, cntB, gapB, edgB, fstB, lstB]) : WordFine (.str s) := .inr h
theorem all1 {p : W1 → Prop} {a : W1} (ha : p a) : ∀ x ∈ [a], p x := fun x hx => by obtain rfl := List.mem_singleton.1 hx; exact ha
theorem all_cons {p : W1 → Prop} {a : W1} {l : List W1} (ha : p a) (h : ∀ x ∈ l, p x) : ∀ x ∈ a :: l, p x := fun x hx => by
  rcases List.mem_cons.1 hx with rfl | hx
  · exact ha
  · exact h x hx
def LineFine (ws : List W1) : Prop := (1 ≤ ws.length ∧ ws.length ≤ 5) ∧ ∀ x ∈ ws, WordFine x
theorem LineFine.w {ws : List W1} (h : LineFine ws) : lineW (mkLine ws) = ws.map wordA := lineW_mk (by intro e; have := h.1; rw [e] at this; simp at this) (fine_clean h.2 32 (by decide))
theorem LineFine.no {ws : List W1} (h : LineFine ws) : 10 ∉ (mkLine ws).data.toList := mkLine_no (fine_clean h.2 10 (by decide))
theorem LineFine.b {ws : List W1} (h : LineFine ws) : lineB ws = (mkLine ws).data.toList ++ [10] := lineB_mk ws h.1.1 h.1.2

section
variable {pts : List ByteArray} {a b c d : ByteArray} {i j x y : Int}
theorem go_n (hx : ∃ k : Nat, x = k ∧ numV a = some k) : wordsUp pts [110] [a] 1 = some ([x], false) := by
  obtain ⟨k, rfl, hk⟩ := hx
  exact up_step (p := ([], false)) rfl (to_n hk)
theorem go_nn (hx : ∃ k : Nat, x = k ∧ numV a = some k) (hy : ∃ k : Nat, y = k ∧ numV b = some k) : wordsUp pts [110, 110] [a, b] 2 = some ([x, y], false) := by
  obtain ⟨k, rfl, hk⟩ := hx
  obtain ⟨m, rfl, hm⟩ := hy
  exact up_step (p := ([(k : Int)], false)) (up_step (p := ([], false)) rfl (to_n hk)) (to_n hm)
theorem go_sn (ha : a.size ≠ 0) (hy : ∃ k : Nat, y = k ∧ numV b = some k) : wordsUp pts [115, 110] [a, b] 2 = some ([y], false) := by
  obtain ⟨m, rfl, hm⟩ := hy
  exact up_step (p := ([], false)) (up_step (p := ([], false)) rfl (to_s ha)) (to_n hm)
theorem go_s (ha : a.size ≠ 0) : wordsUp pts [115] [a] 1 = some ([], false) := up_step (p := ([], false)) rfl (to_s ha)
theorem go_p (ha : idxS pts a = i) (hi : 0 ≤ i) (hs : a.size ≠ 0) : wordsUp pts [112] [a] 1 = some ([i], false) := up_step (p := ([], false)) rfl (to_p ha hi hs)
theorem go_pp (ha : idxS pts a = i) (hi : 0 ≤ i) (hs : a.size ≠ 0) (hb : idxS pts b = j) (hj : 0 ≤ j) (ht : b.size ≠ 0) : wordsUp pts [112, 112] [a, b] 2 = some ([i, j], false) :=
  up_step (p := ([i], false)) (go_p' ha hi hs) (to_p hb hj ht)
where go_p' (ha : idxS pts a = i) (hi : 0 ≤ i) (hs : a.size ≠ 0) : wordsUp pts [112, 112] [a, b] 1 = some ([i], false) := up_step (p := ([], false)) rfl (to_p ha hi hs)
theorem go_pnn (ha : idxS pts a = i) (hi : 0 ≤ i) (hs : a.size ≠ 0) (hx : ∃ k : Nat, x = k ∧ numV b = some k) (hy : ∃ k : Nat, y = k ∧ numV c = some k) : wordsUp pts [112, 110, 110] [a, b, c] 3 = some ([i, x, y], false) := by
  obtain ⟨k, rfl, hk⟩ := hx
  obtain ⟨m, rfl, hm⟩ := hy
  exact up_step (p := ([i, (k : Int)], false)) (up_step (p := ([i], false)) (up_step (p := ([], false)) rfl (to_p ha hi hs)) (to_n hk)) (to_n hm)
theorem go_ppnn (ha : idxS pts a = i) (hi : 0 ≤ i) (hs : a.size ≠ 0) (hb : idxS pts b = j) (hj : 0 ≤ j) (ht : b.size ≠ 0) (hx : ∃ k : Nat, x = k ∧ numV c = some k) (hy : ∃ k : Nat, y = k ∧ numV d = some k) : wordsUp pts [112, 112, 110, 110] [a, b, c, d] 4 = some ([i, j, x, y], false) := by
  obtain ⟨k, rfl, hk⟩ := hx
  obtain ⟨m, rfl, hm⟩ := hy
  exact up_step (p := ([i, j, (k : Int)], false)) (up_step (p := ([i, j], false)) (up_step (p := ([i], false)) (up_step (p := ([], false)) rfl (to_p ha hi hs)) (to_p hb hj ht)) (to_n hk)) (to_n hm)
end

section
variable {E : EntV} (h : EntFine E)
include h
theorem lf_ent : LineFine [.str entB, .str E.name, .num E.tol] := ⟨by simp, all_cons (key_fine (by simp)) (all_cons (.inl h.name) (all1 h.good.tol.1))⟩
theorem lf_pnt {s : ByteArray} (hs : s ∈ E.points) : LineFine (pntL s) := ⟨by simp [pntL], all_cons (key_fine (by simp)) (all1 (.inl (h.pts s hs)))⟩
theorem lf_cnt (h0 : 0 ≤ E.count) : LineFine [.str cntB, .str (nameAt E E.count), .num E.mn, .num E.mx] := by
  have hc := h.cnt
  have hr := h.good.rng
  exact ⟨by simp, all_cons (key_fine (by simp)) (all_cons (fine_pnt h h0 (by omega)) (all_cons (show 0 ≤ E.mn by omega) (all1 (show 0 ≤ E.mx by omega))))⟩
theorem lf_gap {g : GapV} (hg : g ∈ E.gaps) : LineFine (gapLn E g) := by
  obtain ⟨a, b, c, d, _⟩ := h.good.gs g hg
  exact ⟨by simp [gapLn], all_cons (key_fine (by simp)) (all_cons (fine_pnt h a.1 a.2) (all_cons (fine_pnt h b.1 b.2) (all_cons c (all1 (show 0 ≤ g.mx by omega)))))⟩
theorem lf_edg {x : Int × Int} (hx : x ∈ E.edges) : LineFine (edgLn E x) := by
  obtain ⟨a, b⟩ := h.good.es x hx
  exact ⟨by simp [edgLn], all_cons (key_fine (by simp)) (all_cons (fine_pnt h a.1 a.2) (all1 (fine_pnt h b.1 b.2)))⟩
theorem lf_fst {k : Int} (hk : k ∈ E.first) : LineFine (fstLn E k) := by
  have a := h.good.fs k hk
  exact ⟨by simp [fstLn], all_cons (key_fine (by simp)) (all1 (fine_pnt h a.1 a.2))⟩
theorem lf_lst {k : Int} (hk : k ∈ E.last) : LineFine (lstLn E k) := by
  have a := h.good.ls k hk
  exact ⟨by simp [lstLn], all_cons (key_fine (by simp)) (all1 (fine_pnt h a.1 a.2))⟩

theorem step_pnt (C : ConfV) (pre : List EntV) (done : List ByteArray) {s : ByteArray} (hs : s ∈ E.points) {st : Int} (h1 : 3 ≤ st) (h2 : st ≤ 4) :
    lineR ⟨cfg C (pre ++ [pntE E done]), st⟩ (mkLine (pntL s)) = (0, ⟨cfg C (pre ++ [pntE E (done ++ [s])]), 4⟩) := by
  have hw := (lf_pnt h hs).w
  rw [lineR_to (w0 := pntB) (ts := [s]) (k := 4) (fs := ⟨#[115]⟩) (n := []) hw (by decide) rfl (right_ent 4 (by decide) (by decide) h1 h2) (go_s (nameB_pos (h.pts s hs)))]
  congr 2
  exact take_cfg C pre _ 4 (by decide) s []
theorem step_cnt (C : ConfV) (pre : List EntV) (h0 : 0 ≤ E.count) {st : Int} (h1 : 3 ≤ st) (h2 : st ≤ 4) :
    lineR ⟨cfg C (pre ++ [pntE E E.points]), st⟩ (mkLine [.str cntB, .str (nameAt E E.count), .num E.mn, .num E.mx]) = (0, ⟨cfg C (pre ++ [gapE E []]), 5⟩) := by
  have hw := (lf_cnt h h0).w
  have hc := h.cnt
  have hr := h.good.rng
  obtain ⟨hi, hn⟩ := idx_name h h0 (by omega)
  have hl : (lastE (pre ++ [pntE E E.points])).points = E.points := by rw [lastE_app]; rfl
  rw [lineR_to (w0 := cntB) (ts := [nameAt E E.count, wordA (.num E.mn), wordA (.num E.mx)]) (k := 5) (fs := ⟨#[112, 110, 110]⟩) (n := [E.count, E.mn, E.mx]) hw (by decide) rfl (right_cnt h1 h2)
    (go_pnn (by show idxS (lastE (pre ++ [pntE E E.points])).points _ = _; rw [hl]; exact hi) h0 (nameB_pos hn) (num_back (n := E.mn) (by omega) (by omega)) (num_back (n := E.mx) (by omega) (by omega)))]
  congr 2
  exact take_cfg C pre _ 5 (by decide) _ _
theorem step_gap (C : ConfV) (pre : List EntV) (done : List GapV) {g : GapV} (hg : g ∈ E.gaps) {st : Int} (h1 : 3 ≤ st) (h2 : st ≤ 6) :
    lineR ⟨cfg C (pre ++ [gapE E done]), st⟩ (mkLine (gapLn E g)) = (0, ⟨cfg C (pre ++ [gapE E (done ++ [g])]), 6⟩) := by
  have hw := (lf_gap h hg).w
  obtain ⟨a, b, c, d, e⟩ := h.good.gs g hg
  obtain ⟨hi, hn⟩ := idx_name h a.1 a.2
  obtain ⟨hj, hm⟩ := idx_name h b.1 b.2
  have hl : (lastE (pre ++ [gapE E done])).points = E.points := by rw [lastE_app]; rfl
  rw [lineR_to (w0 := gapB) (ts := [nameAt E g.fr, nameAt E g.dst, wordA (.num g.mn), wordA (.num g.mx)]) (k := 6) (fs := ⟨#[112, 112, 110, 110]⟩) (n := [g.fr, g.dst, g.mn, g.mx]) hw (by decide) rfl (right_ent 6 (by decide) (by decide) h1 h2)
    (go_ppnn (by show idxS (lastE (pre ++ [gapE E done])).points _ = _; rw [hl]; exact hi) a.1 (nameB_pos hn) (by show idxS (lastE (pre ++ [gapE E done])).points _ = _; rw [hl]; exact hj) b.1 (nameB_pos hm) (num_back (n := g.mn) (by omega) (by omega)) (num_back (n := g.mx) (by omega) (by omega)))]
  congr 2
  exact take_cfg C pre _ 6 (by decide) _ _
theorem step_edg (C : ConfV) (pre : List EntV) (done : List (Int × Int)) {x : Int × Int} (hx : x ∈ E.edges) {st : Int} (h1 : 3 ≤ st) (h2 : st ≤ 7) :
    lineR ⟨cfg C (pre ++ [edgE E done]), st⟩ (mkLine (edgLn E x)) = (0, ⟨cfg C (pre ++ [edgE E (done ++ [x])]), 7⟩) := by
  have hw := (lf_edg h hx).w
  obtain ⟨a, b⟩ := h.good.es x hx
  obtain ⟨hi, hn⟩ := idx_name h a.1 a.2
  obtain ⟨hj, hm⟩ := idx_name h b.1 b.2
  have hl : (lastE (pre ++ [edgE E done])).points = E.points := by rw [lastE_app]; rfl
  rw [lineR_to (w0 := edgB) (ts := [nameAt E x.1, nameAt E x.2]) (k := 7) (fs := ⟨#[112, 112]⟩) (n := [x.1, x.2]) hw (by decide) rfl (right_ent 7 (by decide) (by decide) h1 h2)
    (go_pp (by show idxS (lastE (pre ++ [edgE E done])).points _ = _; rw [hl]; exact hi) a.1 (nameB_pos hn) (by show idxS (lastE (pre ++ [edgE E done])).points _ = _; rw [hl]; exact hj) b.1 (nameB_pos hm))]
  congr 2
  exact take_cfg C pre _ 7 (by decide) _ _
theorem step_fst (C : ConfV) (pre : List EntV) (done : List Int) {x : Int} (hx : x ∈ E.first) {st : Int} (h1 : 3 ≤ st) (h2 : st ≤ 8) :
    lineR ⟨cfg C (pre ++ [fstE E done]), st⟩ (mkLine (fstLn E x)) = (0, ⟨cfg C (pre ++ [fstE E (done ++ [x])]), 8⟩) := by
  have hw := (lf_fst h hx).w
  have a := h.good.fs x hx
  obtain ⟨hi, hn⟩ := idx_name h a.1 a.2
  have hl : (lastE (pre ++ [fstE E done])).points = E.points := by rw [lastE_app]; rfl
  rw [lineR_to (w0 := fstB) (ts := [nameAt E x]) (k := 8) (fs := ⟨#[112]⟩) (n := [x]) hw (by decide) rfl (right_ent 8 (by decide) (by decide) h1 h2)
    (go_p (by show idxS (lastE (pre ++ [fstE E done])).points _ = _; rw [hl]; exact hi) a.1 (nameB_pos hn))]
  congr 2
  exact take_cfg C pre _ 8 (by decide) _ _
theorem step_lst (C : ConfV) (pre : List EntV) (done : List Int) {x : Int} (hx : x ∈ E.last) {st : Int} (h1 : 3 ≤ st) (h2 : st ≤ 9) :
    lineR ⟨cfg C (pre ++ [lstE E done]), st⟩ (mkLine (lstLn E x)) = (0, ⟨cfg C (pre ++ [lstE E (done ++ [x])]), 9⟩) := by
  have hw := (lf_lst h hx).w
  have a := h.good.ls x hx
  obtain ⟨hi, hn⟩ := idx_name h a.1 a.2
  have hl : (lastE (pre ++ [lstE E done])).points = E.points := by rw [lastE_app]; rfl
  rw [lineR_to (w0 := lstB) (ts := [nameAt E x]) (k := 9) (fs := ⟨#[112]⟩) (n := [x]) hw (by decide) rfl (right_ent 9 (by decide) (by decide) h1 h2)
    (go_p (by show idxS (lastE (pre ++ [lstE E done])).points _ = _; rw [hl]; exact hi) a.1 (nameB_pos hn))]
  congr 2
  exact take_cfg C pre _ 9 (by decide) _ _
theorem runs_pnt (C : ConfV) (pre : List EntV) {st : Int} (h1 : 3 ≤ st) (h2 : st ≤ 4) : ∃ st', 3 ≤ st' ∧ st' ≤ 4 ∧ runL ⟨cfg C (pre ++ [pntE E []]), st⟩ (E.points.map (fun s => mkLine (pntL s))) = some ⟨cfg C (pre ++ [pntE E E.points]), st'⟩ := by
  have hs := @step_pnt E h C pre
  exact run_list (fun s => mkLine (pntL s)) (· ∈ E.points) 3 4 (by decide) (fun done => cfg C (pre ++ [pntE E done])) (fun done x st h1 h2 hx => hs done hx h1 h2) E.points [] st h1 h2 (fun x hx => hx)
theorem runs_gap (C : ConfV) (pre : List EntV) {st : Int} (h1 : 3 ≤ st) (h2 : st ≤ 6) : ∃ st', 3 ≤ st' ∧ st' ≤ 6 ∧ runL ⟨cfg C (pre ++ [gapE E []]), st⟩ (E.gaps.map (fun g => mkLine (gapLn E g))) = some ⟨cfg C (pre ++ [gapE E E.gaps]), st'⟩ := by
  have hs := @step_gap E h C pre
  exact run_list (fun g => mkLine (gapLn E g)) (· ∈ E.gaps) 3 6 (by decide) (fun done => cfg C (pre ++ [gapE E done])) (fun done x st h1 h2 hx => hs done hx h1 h2) E.gaps [] st h1 h2 (fun x hx => hx)
theorem runs_edg (C : ConfV) (pre : List EntV) {st : Int} (h1 : 3 ≤ st) (h2 : st ≤ 7) : ∃ st', 3 ≤ st' ∧ st' ≤ 7 ∧ runL ⟨cfg C (pre ++ [edgE E []]), st⟩ (E.edges.map (fun g => mkLine (edgLn E g))) = some ⟨cfg C (pre ++ [edgE E E.edges]), st'⟩ := by
  have hs := @step_edg E h C pre
  exact run_list (fun g => mkLine (edgLn E g)) (· ∈ E.edges) 3 7 (by decide) (fun done => cfg C (pre ++ [edgE E done])) (fun done x st h1 h2 hx => hs done hx h1 h2) E.edges [] st h1 h2 (fun x hx => hx)
theorem runs_fst (C : ConfV) (pre : List EntV) {st : Int} (h1 : 3 ≤ st) (h2 : st ≤ 8) : ∃ st', 3 ≤ st' ∧ st' ≤ 8 ∧ runL ⟨cfg C (pre ++ [fstE E []]), st⟩ (E.first.map (fun g => mkLine (fstLn E g))) = some ⟨cfg C (pre ++ [fstE E E.first]), st'⟩ := by
  have hs := @step_fst E h C pre
  exact run_list (fun g => mkLine (fstLn E g)) (· ∈ E.first) 3 8 (by decide) (fun done => cfg C (pre ++ [fstE E done])) (fun done x st h1 h2 hx => hs done hx h1 h2) E.first [] st h1 h2 (fun x hx => hx)
theorem runs_lst (C : ConfV) (pre : List EntV) {st : Int} (h1 : 3 ≤ st) (h2 : st ≤ 9) : ∃ st', 3 ≤ st' ∧ st' ≤ 9 ∧ runL ⟨cfg C (pre ++ [lstE E []]), st⟩ (E.last.map (fun g => mkLine (lstLn E g))) = some ⟨cfg C (pre ++ [lstE E E.last]), st'⟩ := by
  have hs := @step_lst E h C pre
  exact run_list (fun g => mkLine (lstLn E g)) (· ∈ E.last) 3 9 (by decide) (fun done => cfg C (pre ++ [lstE E done])) (fun done x st h1 h2 hx => hs done hx h1 h2) E.last [] st h1 h2 (fun x hx => hx)
/-- The lines of a right entity, read. -/
theorem run_ent (C : ConfV) (pre : List EntV) {st : Int} (h1 : 2 ≤ st) : ∃ st', 2 ≤ st' ∧ runL ⟨cfg C pre, st⟩ ((entLn E).map mkLine) = some ⟨cfg C (pre ++ [E]), st'⟩ := by
  have e0 : lineR ⟨cfg C pre, st⟩ (mkLine [.str entB, .str E.name, .num E.tol]) = (0, ⟨cfg C (pre ++ [pntE E []]), 3⟩) := by
    have hw := (lf_ent h).w
    have ht := h.good.tol
    rw [lineR_to (w0 := entB) (ts := [E.name, wordA (.num E.tol)]) (k := 3) (fs := ⟨#[115, 110]⟩) (n := [E.tol]) hw (by decide) rfl (by unfold rightB; simp; exact h1)
      (go_sn (nameB_pos h.name) (num_back (n := E.tol) (by omega) (by omega)))]
    rfl
  obtain ⟨s1, a1, b1, r1⟩ := runs_pnt h C pre (st := 3) (by decide) (by decide)
  have r2 : ∃ s2, 3 ≤ s2 ∧ s2 ≤ 5 ∧ runL ⟨cfg C (pre ++ [pntE E E.points]), s1⟩ ((cntLn E).map mkLine) = some ⟨cfg C (pre ++ [gapE E []]), s2⟩ := by
    by_cases h0 : 0 ≤ E.count
    · refine ⟨5, by decide, by decide, ?_⟩
      unfold cntLn
      rw [if_pos h0, List.map_singleton]
      exact runL_one (step_cnt h C pre h0 a1 b1)
    · refine ⟨s1, a1, by omega, ?_⟩
      unfold cntLn
      rw [if_neg h0]
      have hc : E.count = -1 := by have := h.cnt; omega
      obtain ⟨m1, m2⟩ := h.cmm hc
      show some _ = some _
      congr 5
      unfold pntE
      cases E
      simp only at hc m1 m2
      simp [hc, m1, m2, gapE]
  obtain ⟨s2, a2, b2, r2⟩ := r2
  obtain ⟨s3, a3, b3, r3⟩ := runs_gap h C pre a2 (by omega)
  obtain ⟨s4, a4, b4, r4⟩ := runs_edg h C pre a3 (by omega)
  obtain ⟨s5, a5, b5, r5⟩ := runs_fst h C pre a4 (by omega)
  obtain ⟨s6, a6, b6, r6⟩ := runs_lst h C pre a5 (by omega)
  refine ⟨s6, by omega, ?_⟩
  unfold entLn
  rw [List.map_cons, List.map_append, List.map_append, List.map_append, List.map_append, List.map_append, List.map_map, List.map_map, List.map_map, List.map_map, List.map_map]
  refine runL_cons e0 ?_
  have r4 : runL ⟨cfg C (pre ++ [gapE E E.gaps]), s3⟩ (E.edges.map (fun g => mkLine (edgLn E g))) = some ⟨cfg C (pre ++ [edgE E E.edges]), s4⟩ := r4
  have r5 : runL ⟨cfg C (pre ++ [edgE E E.edges]), s4⟩ (E.first.map (fun g => mkLine (fstLn E g))) = some ⟨cfg C (pre ++ [fstE E E.first]), s5⟩ := r5
  have r6 : runL ⟨cfg C (pre ++ [fstE E E.first]), s5⟩ (E.last.map (fun g => mkLine (lstLn E g))) = some ⟨cfg C (pre ++ [lstE E E.last]), s6⟩ := r6
  rw [List.append_assoc, List.append_assoc, List.append_assoc, List.append_assoc]
  exact (runL_app _ _ _ r1).trans ((runL_app _ _ _ r2).trans ((runL_app _ _ _ r3).trans ((runL_app _ _ _ r4).trans ((runL_app _ _ _ r5).trans r6))))
end
theorem run_ents (C : ConfV) : ∀ (L pre : List EntV) {st : Int}, 2 ≤ st → (∀ E ∈ L, EntFine E) → ∃ st', 2 ≤ st' ∧ runL ⟨cfg C pre, st⟩ ((L.flatMap entLn).map mkLine) = some ⟨cfg C (pre ++ L), st'⟩
  | [], pre, st, h, _ => ⟨st, h, by rw [List.append_nil]; rfl⟩
  | E :: L, pre, st, h, hf => by
    obtain ⟨s1, h1, r1⟩ := run_ent (hf E (List.mem_cons_self ..)) C pre h
    obtain ⟨s2, h2, r2⟩ := run_ents C L (pre ++ [E]) h1 (fun x hx => hf x (List.mem_cons_of_mem _ hx))
    refine ⟨s2, h2, ?_⟩
    rw [List.flatMap_cons, List.map_append, runL_app _ _ _ r1, r2, List.append_assoc]
    rfl
def txtLs (C : ConfV) : List (List W1) := headL C ++ C.ents.flatMap entLn
theorem ents_fine {C : ConfV} (h : confF C = (0, -1)) : ∀ E ∈ C.ents, EntFine E := by
  intro E hE
  obtain ⟨i, hi, rfl⟩ := List.mem_iff_getElem.1 hE
  have := (confF_parts h).2.2 i hi
  rw [entAt_at hi] at this
  exact fine_of this
theorem lf_head {C : ConfV} (h : confF C = (0, -1)) : ∀ ws ∈ headL C, LineFine ws := by
  have hb := (confF_parts h).1
  unfold boundC at hb
  rw [decide_eq_false_iff_not] at hb
  intro ws hws
  simp only [headL, List.mem_cons, List.not_mem_nil, or_false] at hws
  rcases hws with rfl | rfl | rfl
  · exact ⟨by simp, all_cons (key_fine (by simp)) (all_cons (show 0 ≤ C.closed by omega) (all1 (show 0 ≤ C.opn by omega)))⟩
  · exact ⟨by simp, all_cons (key_fine (by simp)) (all1 (show 0 ≤ C.cycle by omega))⟩
  · exact ⟨by simp, all_cons (key_fine (by simp)) (all1 (show 0 ≤ C.delay by omega))⟩
theorem lf_entLn {E : EntV} (h : EntFine E) : ∀ ws ∈ entLn E, LineFine ws := by
  intro ws hws
  unfold entLn at hws
  rcases List.mem_cons.1 hws with rfl | hws
  · exact lf_ent h
  simp only [List.mem_append, List.mem_map] at hws
  rcases hws with ((((⟨x, hx, rfl⟩ | hws) | ⟨x, hx, rfl⟩) | ⟨x, hx, rfl⟩) | ⟨x, hx, rfl⟩) | ⟨x, hx, rfl⟩
  · exact lf_pnt h hx
  · unfold cntLn at hws
    split at hws
    · next h0 => obtain rfl := List.mem_singleton.1 hws; exact lf_cnt h h0
    · cases hws
  · exact lf_gap h hx
  · exact lf_edg h hx
  · exact lf_fst h hx
  · exact lf_lst h hx
theorem lf_all {C : ConfV} (h : confF C = (0, -1)) : ∀ ws ∈ txtLs C, LineFine ws := by
  intro ws hws
  rcases List.mem_append.1 hws with hws | hws
  · exact lf_head h ws hws
  · obtain ⟨E, hE, hw⟩ := List.mem_flatMap.1 hws
    exact lf_entLn (ents_fine h E hE) ws hw
theorem run_head {C : ConfV} (h : confF C = (0, -1)) : runL RdS.start ((headL C).map mkLine) = some ⟨cfg C [], 2⟩ := by
  have hb := (confF_parts h).1
  unfold boundC at hb
  rw [decide_eq_false_iff_not] at hb
  have hf := lf_head h
  have w1 := (hf [.str winB, .num C.closed, .num C.opn] (by simp [headL])).w
  have w2 := (hf [.str cycB, .num C.cycle] (by simp [headL])).w
  have w3 := (hf [.str delB, .num C.delay] (by simp [headL])).w
  have e1 : lineR RdS.start (mkLine [.str winB, .num C.closed, .num C.opn]) = (0, ⟨⟨C.closed, C.opn, 0, 0, []⟩, 0⟩) :=
    lineR_to (w0 := winB) (ts := [wordA (.num C.closed), wordA (.num C.opn)]) (k := 0) (fs := ⟨#[110, 110]⟩) (n := [C.closed, C.opn]) w1 (by decide) rfl (by decide) (go_nn (num_back (n := C.closed) (by omega) (by omega)) (num_back (n := C.opn) (by omega) (by omega)))
  have e2 : lineR ⟨⟨C.closed, C.opn, 0, 0, []⟩, 0⟩ (mkLine [.str cycB, .num C.cycle]) = (0, ⟨⟨C.closed, C.opn, C.cycle, 0, []⟩, 1⟩) :=
    lineR_to (w0 := cycB) (ts := [wordA (.num C.cycle)]) (k := 1) (fs := ⟨#[110]⟩) (n := [C.cycle]) w2 (by decide) rfl (by show rightB 0 1 = true; decide) (go_n (num_back (n := C.cycle) (by omega) (by omega)))
  have e3 : lineR ⟨⟨C.closed, C.opn, C.cycle, 0, []⟩, 1⟩ (mkLine [.str delB, .num C.delay]) = (0, ⟨⟨C.closed, C.opn, C.cycle, C.delay, []⟩, 2⟩) :=
    lineR_to (w0 := delB) (ts := [wordA (.num C.delay)]) (k := 2) (fs := ⟨#[110]⟩) (n := [C.delay]) w3 (by decide) rfl (by show rightB 1 2 = true; decide) (go_n (num_back (n := C.delay) (by omega) (by omega)))
  exact runL_cons e1 (runL_cons e2 (runL_one e3))
/-- Read forth: what runL tells of linesUp and linesF. -/
theorem runL_up (ls : List ByteArray) : ∀ (k : Nat) {st : RdS}, k ≤ ls.length → runL (linesUp ls k) (ls.drop k) = some st → (∀ j, k ≤ j → j < ls.length → lineAt ls j = 0) ∧ linesUp ls ls.length = st
  | k, st, hk, h => by
    by_cases he : k = ls.length
    · subst he
      rw [List.drop_length] at h
      exact ⟨fun j h1 h2 => by omega, Option.some.inj h⟩
    · have hlt : k < ls.length := by omega
      have hd : ls.getD k ByteArray.empty = ls[k] := by rw [List.getD_eq_getElem?_getD, List.getElem?_eq_getElem hlt]; rfl
      rw [List.drop_eq_getElem_cons hlt] at h
      simp only [runL] at h
      split at h
      · next hz =>
        have hn : linesUp ls (k + 1) = (lineR (linesUp ls k) ls[k]).2 := by
          show (lineR (linesUp ls k) (ls.getD k ByteArray.empty)).2 = _
          rw [hd]
        rw [← hn] at h
        obtain ⟨h1, h2⟩ := runL_up ls (k + 1) (by omega) h
        refine ⟨fun j hj hl => ?_, h2⟩
        by_cases hjk : j = k
        · subst hjk
          unfold lineAt
          rw [hd]; exact hz
        · exact h1 j (by omega) hl
      · cases h
  termination_by k => ls.length - k
theorem textB_lines (C : ConfV) : textB C = linesB (txtLs C) := by
  unfold textB headB txtLs
  rw [linesB_app]
  show linesB _ ++ _ = linesB _ ++ _
  congr 1
  unfold linesB
  rw [List.flatMap_assoc]
/-- The lines of a right config's text are those that were written. -/
theorem text_lines {C : ConfV} (h : confF C = (0, -1)) : textLines ⟨(textB C).toArray⟩ = (txtLs C).map mkLine := by
  have hf := lf_all h
  have hne : (txtLs C).map mkLine ≠ [] := by simp [txtLs, headL]
  have e1 : textB C = ((txtLs C).map mkLine).flatMap (fun s => s.data.toList ++ [10]) := by
    rw [textB_lines, List.flatMap_map]
    unfold linesB
    have : ∀ L : List (List W1), (∀ ws ∈ L, LineFine ws) → L.flatMap lineB = L.flatMap (fun a => (mkLine a).data.toList ++ [10]) := by
      intro L
      induction L with
      | nil => intro _; rfl
      | cons ws L ih =>
        intro hL
        rw [List.flatMap_cons, List.flatMap_cons, ih (fun x hx => hL x (List.mem_cons_of_mem _ hx)), (hL ws (List.mem_cons_self ..)).b]
    exact this _ hf
  have e2 := flat_inter 10 (((txtLs C).map mkLine).map (·.data.toList)) (by simpa using hne)
  rw [List.flatMap_map] at e2
  rw [← e1] at e2
  have hsz : (⟨(textB C).toArray⟩ : ByteArray).size = (textB C).length := by simp [ByteArray.size]
  have hlen : 1 ≤ (textB C).length := by rw [e2, List.length_append]; simp
  have hcut : textCut ⟨(textB C).toArray⟩ = ⟨(interL 10 (((txtLs C).map mkLine).map (·.data.toList))).toArray⟩ := by
    unfold textCut
    rw [if_pos (by show (textB C).toArray.toList.getLast? = _; rw [List.toList_toArray, e2]; simp)]
    refine bytes_ext ?_
    rw [ByteArray.data_extract, Array.toList_extract, hsz]
    show List.extract (textB C).toArray.toList 0 _ = (interL 10 _).toArray.toList
    rw [List.toList_toArray, List.toList_toArray, List.extract_eq_take_drop, List.drop_zero]
    conv => lhs; rw [e2]
    rw [List.length_append, List.length_singleton]
    simp
  unfold textLines
  rw [if_neg (by rw [hsz]; omega), hcut]
  refine map_data_inj ?_
  rw [pieces_cut]
  show cutL 10 (interL 10 _).toArray.toList = _
  rw [List.toList_toArray]
  exact cut_inter 10 _ (by simpa using hne) (fun p hp => by
    obtain ⟨s, hs, rfl⟩ := List.mem_map.1 hp
    obtain ⟨ws, hws, rfl⟩ := List.mem_map.1 hs
    exact (hf ws hws).no)
/-- A right config's text is read as that config. -/
theorem back_law {C : ConfV} (h : confF C = (0, -1)) (h8 : ¬ 8000 < (textB C).length) : readF ⟨(textB C).toArray⟩ = (C, (0, -1)) := by
  have hsz : (⟨(textB C).toArray⟩ : ByteArray).size = (textB C).length := by simp [ByteArray.size]
  obtain ⟨st', h2, hr⟩ := run_ents C C.ents [] (st := 2) (by decide) (ents_fine h)
  have hrun : runL RdS.start ((txtLs C).map mkLine) = some ⟨C, st'⟩ := by
    unfold txtLs
    rw [List.map_append, runL_app _ _ _ (run_head h), hr]
    rfl
  have hup := runL_up ((txtLs C).map mkLine) 0 (Nat.zero_le _) (st := ⟨C, st'⟩) (by rw [List.drop_zero]; exact hrun)
  unfold readF
  rw [text_lines h, hsz, if_neg h8, linesF_miss (fun j hj => hup.1 j (Nat.zero_le _) hj), if_neg (by decide), hup.2, if_neg (by show ¬ st' < 2; omega), h, if_neg (by decide)]
end Go.Proofs.YtakjbjokekbmbaaGreatDoor

/- A right config's text: few lines; its memory's blocks of a keeper that is begun. -/
namespace Go.Proofs.YtakjbjokekbmbaaGreatDoor
open Go.RowKit
set_option linter.unusedVariables false

theorem kflat_mul {α β : Type} (f : α → List β) (n : Nat) : ∀ L : List α, (∀ x ∈ L, (f x).length ≤ n) → (L.flatMap f).length ≤ n * L.length
  | [], _ => by simp
  | a :: L, h => by
    have h1 := kflat_mul f n L (fun x hx => h x (List.mem_cons_of_mem _ hx))
    have h2 := h a (List.mem_cons_self ..)
    rw [List.flatMap_cons, List.length_append, List.length_cons, Nat.mul_succ]
    omega
theorem kentLn_len {E : EntV} (h : EntGood E) : (entLn E).length ≤ 122 := by
  have K1 : (cntLn E).length ≤ 1 := by
    unfold cntLn
    split <;> simp
  have h1 := h.pl
  have h2 := h.gl
  have h3 := h.el
  have h4 := h.fl
  have h5 := h.ll
  unfold entLn
  simp only [List.length_cons, List.length_append, List.length_map]
  omega
theorem conf_good {C : ConfV} (hC : confF C = (0, -1)) : ∀ E ∈ C.ents, EntGood E := fun E hE => by
  obtain ⟨i, hi, rfl⟩ := List.getElem_of_mem hE
  have := (confF_parts hC).2.2 i hi
  rw [entAt_at hi] at this
  exact good_of this
theorem ktxt_len {C : ConfV} (hC : confF C = (0, -1)) : (txtLs C).length ≤ 1000 := by
  have hb := (confF_parts hC).1
  unfold boundC at hb
  rw [decide_eq_false_iff_not] at hb
  have h1 := kflat_mul entLn 122 C.ents (fun x hx => kentLn_len (conf_good hC x hx))
  have h2 : C.ents.length ≤ 8 := by omega
  have h3 := Nat.mul_le_mul_left 122 h2
  unfold txtLs
  rw [List.length_append]
  have h4 : (headL C).length = 3 := rfl
  omega
theorem ktxt_k {C : ConfV} (hC : confF C = (0, -1)) (k : Nat) (hk : k ≤ (textLines ⟨(textB C).toArray⟩).length) : k ≤ 1000 := by
  rw [text_lines hC, List.length_map] at hk
  have := ktxt_len hC
  omega
theorem kconfF_zero {C : ConfV} (h : (confF C).1 = 0) : confF C = (0, -1) := by
  unfold confF at h ⊢
  split at h
  · cases h
  · rename_i h1
    rw [if_neg h1]
    split at h
    · cases h
    · rename_i h2
      rw [if_neg h2]
      unfold entsF at h ⊢
      split at h
      · rename_i i hi
        have := List.find?_some hi
        simp only [bne_iff_ne, ne_eq] at this
        exact absurd h this
      · rfl
theorem good_light {E : EntV} (h : EntGood E) : Light E := by
  have h1 := h.pl
  have h2 := h.gl
  have h3 := h.el
  have h4 := h.fl
  have h5 := h.ll
  exact ⟨by omega, by omega, by omega, by omega, by omega⟩
end Go.Proofs.YtakjbjokekbmbaaGreatDoor
