import Derived.Test.YtikehilbmldadaaGreatDoorQ37
import Derived.Test.YtikehilbmldadaaGreatDoorQ31
namespace Go.Proofs.YtikehilbmldadaaGreatDoor
open Go.RowKit
set_option linter.unusedVariables false
theorem kflat_mul {α β : Type} (f : α → List β) (n : Nat) : ∀ L : List α, (∀ x ∈ L, (f x).length ≤ n) → (L.flatMap f).length ≤ n * L.length
  | [], _ => by simp
  | a :: L, h => by
    have h1 := kflat_mul f n L (fun x hx => h x (List.mem_cons_of_mem _ hx))
    have h2 := h a (List.mem_cons_self ..)
    rw [List.flatMap_cons, List.length_append, List.length_cons, Nat.mul_succ]
    omega
theorem kentLn_len {E : EntV} (h : EntGood E) : (entLn E).length ≤ 122 := by
  have K1 : (cntLn E).length ≤ 1 := by
    unfold cntLn
    split <;> simp
  have h1 := h.pl
  have h2 := h.gl
  have h3 := h.el
  have h4 := h.fl
  have h5 := h.ll
  unfold entLn
  simp only [List.length_cons, List.length_append, List.length_map]
  omega
theorem conf_good {C : ConfV} (hC : confF C = (0, -1)) : ∀ E ∈ C.ents, EntGood E := fun E hE => by
  obtain ⟨i, hi, rfl⟩ := List.getElem_of_mem hE
  have := (confF_parts hC).2.2 i hi
  rw [entAt_at hi] at this
  exact good_of this
theorem ktxt_len {C : ConfV} (hC : confF C = (0, -1)) : (txtLs C).length ≤ 1000 := by
  have hb := (confF_parts hC).1
  unfold boundC at hb
  rw [decide_eq_false_iff_not] at hb
  have h1 := kflat_mul entLn 122 C.ents (fun x hx => kentLn_len (conf_good hC x hx))
  have h2 : C.ents.length ≤ 8 := by omega
  have h3 := Nat.mul_le_mul_left 122 h2
  unfold txtLs
  rw [List.length_append]
  have h4 : (headL C).length = 3 := rfl
  omega
theorem ktxt_k {C : ConfV} (hC : confF C = (0, -1)) (k : Nat) (hk : k ≤ (textLines ⟨(textB C).toArray⟩).length) : k ≤ 1000 := by
  rw [text_lines hC, List.length_map] at hk
  have := ktxt_len hC
  omega
theorem good_light {E : EntV} (h : EntGood E) : Light E := by
  have h1 := h.pl
  have h2 := h.gl
  have h3 := h.el
  have h4 := h.fl
  have h5 := h.ll
  exact ⟨by omega, by omega, by omega, by omega, by omega⟩
end Go.Proofs.YtikehilbmldadaaGreatDoor
