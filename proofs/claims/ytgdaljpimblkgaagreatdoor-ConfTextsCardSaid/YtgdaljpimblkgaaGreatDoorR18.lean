/- Package conf: forms, the map of a line's forms. -/
import Derived.Test.YtgdaljpimblkgaaGreatDoorR01
import Derived.MapKept
import Derived.Carry
import Derived.Deep.DeepCutAuto
namespace Go.Proofs.YtgdaljpimblkgaaGreatDoor
open Go.RowKit
set_option linter.unusedVariables false

/-- The forms: a line's first word, its stage, its words. -/
def formL : List (ByteArray × Nat × ByteArray) := [(⟨#[119, 105, 110, 100, 111, 119]⟩, 0, ⟨#[110, 110]⟩), (⟨#[99, 121, 99, 108, 101]⟩, 1, ⟨#[110]⟩), (⟨#[100, 101, 108, 97, 121]⟩, 2, ⟨#[110]⟩), (⟨#[101, 110, 116, 105, 116, 121]⟩, 3, ⟨#[115, 110]⟩),
  (⟨#[112, 111, 105, 110, 116]⟩, 4, ⟨#[115]⟩), (⟨#[99, 111, 117, 110, 116]⟩, 5, ⟨#[112, 110, 110]⟩), (⟨#[103, 97, 112]⟩, 6, ⟨#[112, 112, 110, 110]⟩), (⟨#[101, 100, 103, 101]⟩, 7, ⟨#[112, 112]⟩), (⟨#[102, 105, 114, 115, 116]⟩, 8, ⟨#[112]⟩), (⟨#[108, 97, 115, 116]⟩, 9, ⟨#[112]⟩)]
def formV (p : Nat × ByteArray) : Value := .agg #[.int .i64 p.1, .string p.2]
def formOf (s : ByteArray) : Option (Nat × ByteArray) := (formL.find? (fun p => p.1.data.toList == s.data.toList)).map (·.2)
def formStage (s : ByteArray) : Nat := ((formOf s).map (·.1)).getD 0
def formWords (s : ByteArray) : ByteArray := ((formOf s).map (·.2)).getD ByteArray.empty
def formOk (s : ByteArray) : Bool := (formOf s).isSome
def entOf (L : List (ByteArray × Nat × ByteArray)) : List MapEntry := (L.zipIdx).map (fun x => ⟨.string x.1.1, formV x.1.2, x.2⟩)
def mapW (W : World) (k : Nat) : World := W.alloc (.map (entOf (formL.take k)).toArray k)
theorem mapW_heap (W : World) (k : Nat) : (mapW W k).heap[W.heap.size]? = some (.map (entOf (formL.take k)).toArray k) := get_alloc_new _ _
theorem entOf_keys (L : List (ByteArray × Nat × ByteArray)) : ∀ x ∈ entOf L, MapKept.IsKey .string x.key := by
  intro x hx
  obtain ⟨p, hp, rfl⟩ := List.mem_map.1 hx
  trivial
theorem set_alloc (W : World) (o o' : Obj) : ({ W.alloc o with heap := (W.alloc o).heap.setIfInBounds W.heap.size o' } : World) = W.alloc o' := by
  have e : ∀ o : Obj, (W.alloc o) = { W with heap := W.heap.push o } := fun _ => rfl
  rw [e, e]
  show ({ heap := (W.heap.push o).setIfInBounds W.heap.size o', tape := W.tape, drawn := W.drawn, os := W.os, output := W.output } : World) = { heap := W.heap.push o', tape := W.tape, drawn := W.drawn, os := W.os, output := W.output }
  congr 1
  apply Array.ext_getElem?
  intro i
  simp only [Array.getElem?_setIfInBounds, Array.getElem?_push, Array.size_push]
  by_cases h : W.heap.size = i
  · subst h; simp
  · rw [if_neg h, if_neg (fun hh => h hh.symm), if_neg (fun hh => h hh.symm)]

section
variable {P : Program} {m t b : TypeId} (um : P.underlying m = some (.map t b)) (ut : P.underlying t = some .string)
include um ut
theorem form_ins (W : World) (k : Nat) (hk : k < 10) (p : ByteArray × Nat × ByteArray) (hp : formL[k]? = some p) :
    (Instr.mapUpdate m (.map (some W.heap.size)) (.string p.1) (formV p.2)).run P (mapW W k) = .ok () (mapW W (k + 1)) := by
  have hb := mapW_heap W k
  have hg := MapKept.run_getObj_map (P := P) hb
  have hs := fun o => MapKept.run_setObj_map (P := P) o hb
  have hc := MapKept.run_checkKey (P := P) (w := mapW W k) ut (k := .string p.1) trivial false 9999
  have hf : Instr.findNow .string (.string p.1) (entOf (formL.take k)) 0 = some none := by
    rcases MapKept.findNow_spec (d := .string) (k := .string p.1) trivial (entOf (formL.take k)) 0 (entOf_keys _) with ⟨h, _⟩ | ⟨j, e, h1, h2, h3⟩
    · exact h
    · exfalso
      have hn : ∀ k : Fin 10, ∀ j : Fin 10, j.1 < k.1 → (formL.getD j.1 (ByteArray.empty, 0, ByteArray.empty)).1.data.toList ≠ (formL.getD k.1 (ByteArray.empty, 0, ByteArray.empty)).1.data.toList := by decide
      have hj : j < k ∧ e.key = .string (formL.getD j (ByteArray.empty, 0, ByteArray.empty)).1 := by
        simp only [entOf, List.getElem?_map, List.getElem?_zipIdx, List.getElem?_take, Option.map_map] at h2
        by_cases hjk : j < k
        · rw [if_pos hjk] at h2
          obtain ⟨q, hq, rfl⟩ := Option.map_eq_some_iff.1 h2
          exact ⟨hjk, by rw [List.getD_eq_getElem?_getD, hq]; rfl⟩
        · rw [if_neg hjk] at h2
          cases h2
      have := hn ⟨k, hk⟩ ⟨j, by omega⟩ hj.1
      rw [hj.2] at h3
      apply this
      rw [Value.string.inj h3, List.getD_eq_getElem?_getD, hp]
      rfl
  have hfk := MapKept.run_findKey (P := P) (w := mapW W k) (l := (entOf (formL.take k)).toArray.toList) ut (by simpa using hf)
  unfold Instr.mapUpdate
  simp only [run_underlying um, hg, hc, hfk, hs, Sem.run_bind, Result.andThen_ok]
  rw [show (mapW W k) = W.alloc (.map (entOf (formL.take k)).toArray k) from rfl, set_alloc]
  show _ = Result.ok () (W.alloc (.map (entOf (formL.take (k + 1))).toArray (k + 1)))
  congr 3
  rw [List.take_add_one, hp]
  simp [entOf, List.zipIdx_append]
  rw [show formL.length = 10 from rfl]
  omega
theorem form_look (hz : ∀ w : World, (zeroValue b).run P w = .ok (formV (0, ByteArray.empty)) w) (W : World) (s : ByteArray) :
    (Instr.lookup m (.map (some W.heap.size)) (.string s) true).run P (mapW W 10) = .ok (.tuple #[formV (formStage s, formWords s), .bool (formOk s)]) (mapW W 10) := by
  have hb := mapW_heap W 10
  have hg := MapKept.run_getObj_map (P := P) hb
  have hc := fun e => MapKept.run_checkKey (P := P) (w := mapW W 10) ut (k := .string s) trivial e 9999
  have h10 : formL.take 10 = formL := rfl
  rw [h10] at hg
  have hcase : (Instr.findNow .string (.string s) (entOf formL) 0 = some none ∧ formOf s = none) ∨ ∃ j q, Instr.findNow .string (.string s) (entOf formL) 0 = some (some (j, formV q)) ∧ formOf s = some q := by
    rcases MapKept.findNow_spec (d := .string) (k := .string s) trivial (entOf formL) 0 (entOf_keys _) with ⟨h1, h2⟩ | ⟨j, e, h1, h2, h3⟩
    · refine .inl ⟨h1, ?_⟩
      unfold formOf
      rw [Option.map_eq_none_iff, List.find?_eq_none]
      intro q hq
      obtain ⟨i, hi, rfl⟩ := List.mem_iff_getElem.1 hq
      have hm : (⟨.string formL[i].1, formV formL[i].2, i⟩ : MapEntry) ∈ entOf formL := List.mem_map.2 ⟨(formL[i], i), by rw [List.mem_zipIdx_iff_getElem?]; exact List.getElem?_eq_getElem hi, rfl⟩
      have hne := h2 _ hm
      intro hh
      apply hne
      have := eq_of_beq hh
      show Value.string formL[i].1 = _
      congr 1
      cases hx : formL[i].1; cases s
      rw [hx] at this
      exact congrArg ByteArray.mk (Array.toList_inj.1 this)
    · simp only [entOf, List.getElem?_map, List.getElem?_zipIdx, Option.map_map] at h2
      obtain ⟨q, hq, rfl⟩ := Option.map_eq_some_iff.1 h2
      refine .inr ⟨0 + j, q.2, h1, ?_⟩
      have hs : q.1 = s := Value.string.inj h3
      have hall : ∀ j : Fin 10, formOf (formL.getD j.1 (ByteArray.empty, 0, ByteArray.empty)).1 = some (formL.getD j.1 (ByteArray.empty, 0, ByteArray.empty)).2 := by decide
      have hj : j < 10 := (List.getElem?_eq_some_iff.1 hq).1
      have := hall ⟨j, hj⟩
      rw [List.getD_eq_getElem?_getD, hq] at this
      rw [← hs]
      exact this
  unfold Instr.lookup
  rcases hcase with ⟨h1, h2⟩ | ⟨j, q, h1, h2⟩
  · have hfk := MapKept.run_findKey (P := P) (w := mapW W 10) (l := (entOf formL).toArray.toList) ut (by simpa using h1)
    simp [run_underlying um, hg, hc, hfk, hz, Sem.run_bind, Result.andThen_ok, formStage, formWords, formOk, h2]
  · have hfk := MapKept.run_findKey (P := P) (w := mapW W 10) (l := (entOf formL).toArray.toList) ut (by simpa using h1)
    simp [run_underlying um, hg, hc, hfk, Sem.run_bind, Result.andThen_ok, formStage, formWords, formOk, h2]
end
end Go.Proofs.YtgdaljpimblkgaaGreatDoor

/- Package conf: reader.right. -/
namespace Go.Proofs.YtgdaljpimblkgaaGreatDoor
open Go.RowKit
set_option linter.unusedVariables false

/-- May a line of stage k stand behind one of stage st? -/
def rightB (st : Int) (k : Nat) : Bool :=
  if k ≤ 2 then st == (k : Int) - 1 else if k = 3 then decide (2 ≤ st) else if k = 5 then (st == 3 || st == 4) else decide (3 ≤ st) && decide (st ≤ (k : Int))

set_option maxHeartbeats 1000000 in
theorem right0_any (st : Int) (rb : Nat) (w : World) (h : w.cell? ⟨rb, 5, none⟩ = some (.int .i64 st)) : Calls Tryz.prog 51 #[.pointer (some ⟨rb, 0, none⟩), .int .i64 0] w fun e w' => e = .returned (.bool (rightB st 0)) ∧ w = w' := by
  have HT := Lib.hid (show rightB st 0 = (st == -1) from rfl)
  obtain ⟨z, hz⟩ : ∃ z, (st == -1) = z := ⟨_, rfl⟩
  rw [hz] at HT
  go_enter Tryz.func51, Tryz.ntmps51
  go_wp2_with fail
  go_ret
  exact ⟨ret_bool HT.out.symm, rfl⟩
set_option maxHeartbeats 1000000 in
theorem right1_any (st : Int) (rb : Nat) (w : World) (h : w.cell? ⟨rb, 5, none⟩ = some (.int .i64 st)) : Calls Tryz.prog 51 #[.pointer (some ⟨rb, 0, none⟩), .int .i64 1] w fun e w' => e = .returned (.bool (rightB st 1)) ∧ w = w' := by
  have HT := Lib.hid (show rightB st 1 = (st == 0) from rfl)
  obtain ⟨z, hz⟩ : ∃ z, (st == 0) = z := ⟨_, rfl⟩
  rw [hz] at HT
  go_enter Tryz.func51, Tryz.ntmps51
  go_wp2_with fail
  go_ret
  exact ⟨ret_bool HT.out.symm, rfl⟩
set_option maxHeartbeats 1000000 in
theorem right2_any (st : Int) (rb : Nat) (w : World) (h : w.cell? ⟨rb, 5, none⟩ = some (.int .i64 st)) : Calls Tryz.prog 51 #[.pointer (some ⟨rb, 0, none⟩), .int .i64 2] w fun e w' => e = .returned (.bool (rightB st 2)) ∧ w = w' := by
  have HT := Lib.hid (show rightB st 2 = (st == 1) from rfl)
  obtain ⟨z, hz⟩ : ∃ z, (st == 1) = z := ⟨_, rfl⟩
  rw [hz] at HT
  go_enter Tryz.func51, Tryz.ntmps51
  go_wp2_with fail
  go_ret
  exact ⟨ret_bool HT.out.symm, rfl⟩
set_option maxHeartbeats 1000000 in
theorem right3_any (st : Int) (rb : Nat) (w : World) (h : w.cell? ⟨rb, 5, none⟩ = some (.int .i64 st)) : Calls Tryz.prog 51 #[.pointer (some ⟨rb, 0, none⟩), .int .i64 3] w fun e w' => e = .returned (.bool (rightB st 3)) ∧ w = w' := by
  have HT := Lib.hid (show rightB st 3 = decide (2 ≤ st) from rfl)
  go_enter Tryz.func51, Tryz.ntmps51
  go_wp2_with fail
  go_ret
  exact ⟨ret_bool HT.out.symm, rfl⟩
set_option maxHeartbeats 1000000 in
theorem right4_any (st : Int) (rb : Nat) (w : World) (h : w.cell? ⟨rb, 5, none⟩ = some (.int .i64 st)) : Calls Tryz.prog 51 #[.pointer (some ⟨rb, 0, none⟩), .int .i64 4] w fun e w' => e = .returned (.bool (rightB st 4)) ∧ w = w' := by
  have HT := Lib.hid (show rightB st 4 = (decide (3 ≤ st) && decide (st ≤ 4)) from rfl)
  by_cases h3 : 3 ≤ st
  · rw [decide_eq_true h3] at HT
    go_enter Tryz.func51, Tryz.ntmps51
    go_wp2_with fail
    go_ret
    exact ⟨ret_bool HT.out.symm, rfl⟩
  · rw [decide_eq_false h3] at HT
    go_enter Tryz.func51, Tryz.ntmps51
    go_wp2_with fail
    go_ret
    exact ⟨ret_bool HT.out.symm, rfl⟩
set_option maxHeartbeats 1000000 in
theorem right5_any (st : Int) (rb : Nat) (w : World) (h : w.cell? ⟨rb, 5, none⟩ = some (.int .i64 st)) : Calls Tryz.prog 51 #[.pointer (some ⟨rb, 0, none⟩), .int .i64 5] w fun e w' => e = .returned (.bool (rightB st 5)) ∧ w = w' := by
  have HT := Lib.hid (show rightB st 5 = (st == 3 || st == 4) from rfl)
  obtain ⟨z, hz⟩ : ∃ z, (st == 3) = z := ⟨_, rfl⟩
  obtain ⟨y, hy⟩ : ∃ y, (st == 4) = y := ⟨_, rfl⟩
  rw [hz, hy] at HT
  go_enter Tryz.func51, Tryz.ntmps51
  cases z
  case false =>
    go_wp2_with fail
    go_ret
    exact ⟨ret_bool HT.out.symm, rfl⟩
  case true =>
    go_wp2_with fail
    go_ret
    exact ⟨ret_bool HT.out.symm, rfl⟩
set_option maxHeartbeats 1000000 in
theorem right6_any (st : Int) (rb : Nat) (w : World) (h : w.cell? ⟨rb, 5, none⟩ = some (.int .i64 st)) : Calls Tryz.prog 51 #[.pointer (some ⟨rb, 0, none⟩), .int .i64 6] w fun e w' => e = .returned (.bool (rightB st 6)) ∧ w = w' := by
  have HT := Lib.hid (show rightB st 6 = (decide (3 ≤ st) && decide (st ≤ 6)) from rfl)
  by_cases h3 : 3 ≤ st
  · rw [decide_eq_true h3] at HT
    go_enter Tryz.func51, Tryz.ntmps51
    go_wp2_with fail
    go_ret
    exact ⟨ret_bool HT.out.symm, rfl⟩
  · rw [decide_eq_false h3] at HT
    go_enter Tryz.func51, Tryz.ntmps51
    go_wp2_with fail
    go_ret
    exact ⟨ret_bool HT.out.symm, rfl⟩
set_option maxHeartbeats 1000000 in
theorem right7_any (st : Int) (rb : Nat) (w : World) (h : w.cell? ⟨rb, 5, none⟩ = some (.int .i64 st)) : Calls Tryz.prog 51 #[.pointer (some ⟨rb, 0, none⟩), .int .i64 7] w fun e w' => e = .returned (.bool (rightB st 7)) ∧ w = w' := by
  have HT := Lib.hid (show rightB st 7 = (decide (3 ≤ st) && decide (st ≤ 7)) from rfl)
  by_cases h3 : 3 ≤ st
  · rw [decide_eq_true h3] at HT
    go_enter Tryz.func51, Tryz.ntmps51
    go_wp2_with fail
    go_ret
    exact ⟨ret_bool HT.out.symm, rfl⟩
  · rw [decide_eq_false h3] at HT
    go_enter Tryz.func51, Tryz.ntmps51
    go_wp2_with fail
    go_ret
    exact ⟨ret_bool HT.out.symm, rfl⟩
set_option maxHeartbeats 1000000 in
theorem right8_any (st : Int) (rb : Nat) (w : World) (h : w.cell? ⟨rb, 5, none⟩ = some (.int .i64 st)) : Calls Tryz.prog 51 #[.pointer (some ⟨rb, 0, none⟩), .int .i64 8] w fun e w' => e = .returned (.bool (rightB st 8)) ∧ w = w' := by
  have HT := Lib.hid (show rightB st 8 = (decide (3 ≤ st) && decide (st ≤ 8)) from rfl)
  by_cases h3 : 3 ≤ st
  · rw [decide_eq_true h3] at HT
    go_enter Tryz.func51, Tryz.ntmps51
    go_wp2_with fail
    go_ret
    exact ⟨ret_bool HT.out.symm, rfl⟩
  · rw [decide_eq_false h3] at HT
    go_enter Tryz.func51, Tryz.ntmps51
    go_wp2_with fail
    go_ret
    exact ⟨ret_bool HT.out.symm, rfl⟩
set_option maxHeartbeats 1000000 in
theorem right9_any (st : Int) (rb : Nat) (w : World) (h : w.cell? ⟨rb, 5, none⟩ = some (.int .i64 st)) : Calls Tryz.prog 51 #[.pointer (some ⟨rb, 0, none⟩), .int .i64 9] w fun e w' => e = .returned (.bool (rightB st 9)) ∧ w = w' := by
  have HT := Lib.hid (show rightB st 9 = (decide (3 ≤ st) && decide (st ≤ 9)) from rfl)
  by_cases h3 : 3 ≤ st
  · rw [decide_eq_true h3] at HT
    go_enter Tryz.func51, Tryz.ntmps51
    go_wp2_with fail
    go_ret
    exact ⟨ret_bool HT.out.symm, rfl⟩
  · rw [decide_eq_false h3] at HT
    go_enter Tryz.func51, Tryz.ntmps51
    go_wp2_with fail
    go_ret
    exact ⟨ret_bool HT.out.symm, rfl⟩
theorem right_any (st : Int) (k : Nat) (hk : k ≤ 9) (rb : Nat) (w : World) (h : w.cell? ⟨rb, 5, none⟩ = some (.int .i64 st)) : Calls Tryz.prog 51 #[.pointer (some ⟨rb, 0, none⟩), .int .i64 k] w fun e w' => e = .returned (.bool (rightB st k)) ∧ w = w' := by
  match k, hk with
  | 0, _ => exact right0_any st rb w h
  | 1, _ => exact right1_any st rb w h
  | 2, _ => exact right2_any st rb w h
  | 3, _ => exact right3_any st rb w h
  | 4, _ => exact right4_any st rb w h
  | 5, _ => exact right5_any st rb w h
  | 6, _ => exact right6_any st rb w h
  | 7, _ => exact right7_any st rb w h
  | 8, _ => exact right8_any st rb w h
  | 9, _ => exact right9_any st rb w h
end Go.Proofs.YtgdaljpimblkgaaGreatDoor
