/- Plain and in memory: what conf.Read needs of lines and of the reader. -/
import Derived.Test.YtakjbjokekbmbaaGreatDoorQ42
namespace Go.Proofs.YtakjbjokekbmbaaGreatDoor
open Go.RowKit
set_option linter.unusedVariables false

theorem trim_cut (s : ByteArray) : (⟨(Lib.trimSuffix s.data.toList [10]).toArray⟩ : ByteArray) = textCut s := by
  have hsz : s.data.toList.length = s.size := by rw [Array.length_toList]; rfl
  refine bytes_ext ?_
  show (Lib.trimSuffix s.data.toList [10]).toArray.toList = _
  rw [List.toList_toArray]
  unfold Lib.trimSuffix textCut
  by_cases h : s.data.toList.getLast? = some 10
  · have hne : s.data.toList ≠ [] := by intro e; rw [e] at h; cases h
    have hg : s.data.toList.getLast hne = 10 := by rw [List.getLast?_eq_some_getLast hne] at h; exact Option.some.inj h
    have hd := List.dropLast_concat_getLast hne
    rw [hg] at hd
    have hs : Lib.hasSuffix s.data.toList [10] = true := by
      rw [← hd]
      exact List.isSuffixOf_iff_suffix.2 ⟨_, rfl⟩
    rw [if_pos hs, if_pos h, ByteArray.data_extract, Array.toList_extract, List.extract_eq_take_drop, List.drop_zero, Nat.sub_zero, hsz]
    rfl
  · have hs : ¬ Lib.hasSuffix s.data.toList [10] = true := by
      intro hh
      apply h
      unfold Lib.hasSuffix at hh
      obtain ⟨a, ha⟩ := List.isSuffixOf_iff_suffix.1 hh
      rw [← ha]
      simp
    rw [if_neg hs, if_neg h]

/-- No list longer than k. -/
structure Sized (C : ConfV) (k : Nat) : Prop where
  n : C.ents.length ≤ k
  each : ∀ E ∈ C.ents, E.points.length ≤ k ∧ E.gaps.length ≤ k ∧ E.edges.length ≤ k ∧ E.first.length ≤ k ∧ E.last.length ≤ k
theorem Sized.mono {C : ConfV} {k m : Nat} (h : Sized C k) (hm : k ≤ m) : Sized C m :=
  ⟨Nat.le_trans h.n hm, fun E hE => by obtain ⟨a, b, c, d, e⟩ := h.each E hE; exact ⟨by omega, by omega, by omega, by omega, by omega⟩⟩
theorem takeE_sized {E : EntV} {k m : Nat} (name : ByteArray) (n : List Int) (h : E.points.length ≤ m ∧ E.gaps.length ≤ m ∧ E.edges.length ≤ m ∧ E.first.length ≤ m ∧ E.last.length ≤ m) :
    (takeE k name n E).points.length ≤ m + 1 ∧ (takeE k name n E).gaps.length ≤ m + 1 ∧ (takeE k name n E).edges.length ≤ m + 1 ∧ (takeE k name n E).first.length ≤ m + 1 ∧ (takeE k name n E).last.length ≤ m + 1 := by
  obtain ⟨a, b, c, d, e⟩ := h
  unfold takeE
  repeat' split
  all_goals
    refine ⟨?_, ?_, ?_, ?_, ?_⟩ <;> (try simp only [List.length_append, List.length_singleton]) <;> omega
theorem lastE_mem {L : List EntV} {E : EntV} (h : lastE L = E) : E ∈ L ∨ E = noE := by
  unfold lastE at h
  cases hl : L.getLast? with
  | none => rw [hl] at h; exact .inr h.symm
  | some F =>
    rw [hl] at h
    obtain rfl : F = E := h
    exact .inl (List.mem_of_getLast? hl)
theorem takeC_sized {C : ConfV} {m : Nat} (k : Nat) (hk : 4 ≤ k → C.ents ≠ []) (name : ByteArray) (n : List Int) (h : Sized C m) : Sized (takeC k name n C) (m + 1) := by
  have h1 := h.mono (Nat.le_succ m)
  unfold takeC
  split
  · exact ⟨h1.n, h1.each⟩
  split
  · exact ⟨h1.n, h1.each⟩
  split
  · exact ⟨h1.n, h1.each⟩
  split
  · refine ⟨by show (C.ents ++ [newE name (n.getD 0 0)]).length ≤ _; rw [List.length_append, List.length_singleton]; have := h.n; omega, fun E hE => ?_⟩
    rcases List.mem_append.1 hE with hE | hE
    · exact h1.each E hE
    · obtain rfl := List.mem_singleton.1 hE
      exact ⟨Nat.zero_le _, Nat.zero_le _, Nat.zero_le _, Nat.zero_le _, Nat.zero_le _⟩
  · next h0 h1' h2 h3 =>
    have hne := hk (by omega)
    have hl := List.length_pos_iff.2 hne
    refine ⟨by show (C.ents.dropLast ++ [_]).length ≤ _; rw [List.length_append, List.length_singleton, List.length_dropLast]; have := h.n; omega, fun E hE => ?_⟩
    rcases List.mem_append.1 hE with hE | hE
    · exact h1.each E (List.dropLast_subset _ hE)
    · obtain rfl := List.mem_singleton.1 hE
      refine takeE_sized name n ?_
      rcases lastE_mem (L := C.ents) rfl with hm | hm
      · exact h.each _ hm
      · rw [hm]; exact ⟨Nat.zero_le _, Nat.zero_le _, Nat.zero_le _, Nat.zero_le _, Nat.zero_le _⟩
theorem up_sized (ls : List ByteArray) : ∀ k, k ≤ ls.length → (∀ j, j < k → lineAt ls j = 0) → Sized (linesUp ls k).c k
  | 0, _, _ => ⟨Nat.le_refl _, fun E hE => by cases hE⟩
  | k + 1, hk, h => by
    have ih := up_sized ls k (by omega) (fun j hj => h j (by omega))
    have hI := (lines_txt ls k (by omega) (fun j hj => h j (by omega))).1
    have h0 := h k (by omega)
    unfold lineAt at h0
    show Sized (lineR (linesUp ls k) (ls.getD k ByteArray.empty)).2.c (k + 1)
    obtain ⟨hf, n, hr, e⟩ := lineR_ok (st := linesUp ls k) (s := ls.getD k ByteArray.empty) (st' := (lineR (linesUp ls k) (ls.getD k ByteArray.empty)).2) (Prod.ext h0 rfl)
    rw [e]
    refine takeC_sized _ (fun h4 => ?_) _ _ ih
    unfold lineFits at hf
    rw [Bool.and_eq_true, Bool.and_eq_true] at hf
    exact hI.ne (right_four h4 hf.1.2)
theorem Sized.few {C : ConfV} {k : Nat} {Y : List EntX} (h : Sized C k) (hk : k ≤ 100000) (he : C.ents = Y.map EntX.E) : Few Y := by
  refine ⟨by have := h.n; rw [he, List.length_map] at this; omega, fun y hy => ?_⟩
  obtain ⟨a, b, c, d, e⟩ := h.each y.E (by rw [he]; exact List.mem_map.2 ⟨y, hy, rfl⟩)
  exact ⟨by omega, by omega, by omega, by omega, by omega⟩
theorem Sized.small {C : ConfV} {k : Nat} {Y : List EntX} (h : Sized C k) (hk : k ≤ 1000) (he : C.ents = Y.map EntX.E) : Y.length ≤ 1000 ∧ ∀ y ∈ Y, EntSmall y.E := by
  refine ⟨by have := h.n; rw [he, List.length_map] at this; omega, fun y hy => ?_⟩
  obtain ⟨a, b, c, d, e⟩ := h.each y.E (by rw [he]; exact List.mem_map.2 ⟨y, hy, rfl⟩)
  exact ⟨by omega, by omega, by omega, by omega, by omega⟩
/-- What the reader holds is a config in memory. -/
theorem RdAt.conf {base rb : Nat} {o : Nat → Option Nat} {C : ConfV} {st : Int} {v : Value} {Y : List EntX} {w : World} (h : RdAt base rb o C st v Y w) {k : Nat} (hs : Sized C k) (hk : k ≤ 1000) : ConfSl (fun b => base ≤ b ∧ b < w.heap.size) w C v Y := by
  obtain ⟨h1, h2⟩ := hs.small hk h.eq
  refine ⟨⟨?_, fun x hx => ?_⟩, h.eq, h2, h1⟩
  · obtain ⟨hl, ao, cap, hv, h1, h2, h3, h4⟩ := h.row.slOf
    refine ⟨hl, ao, cap, hv, h1, h2, h3, fun hp => ?_⟩
    obtain ⟨b, off, ha, hR, hb, hc⟩ := h4 hp
    exact ⟨b, off, ha, ⟨hR.1, hb⟩, hb, hc⟩
  · obtain ⟨i, hi, rfl⟩ := List.mem_iff_getElem.1 hx
    exact (h.own i hi).slOf
theorem rdAt_start (w : World) (rb : Nat) (hb : w.heap[rb]? = some (.cells (rdCs zeroC (.slice none 0 0) (-1)) 145)) : RdAt w.heap.size rb (fun _ => none) RdS.start.c RdS.start.stage (.slice none 0 0) [] w :=
  ⟨hb, lt_of_get hb, Nat.le_refl _, fun _ _ => rfl, fun _ _ => rfl, ⟨rfl, .inl ⟨rfl, rfl⟩⟩, fun b hb => (by cases hb), fun i hi => (by cases hi), rfl⟩
end Go.Proofs.YtakjbjokekbmbaaGreatDoor
