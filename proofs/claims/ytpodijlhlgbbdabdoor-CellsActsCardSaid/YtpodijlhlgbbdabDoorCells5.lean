/- Package cells: Copy. -/
import Derived.Test.YtpodijlhlgbbdabDoorCells4
namespace Go.Proofs.YtpodijlhlgbbdabDoor
open Go.RowKit
set_option linter.unusedVariables false

def byteVs (l : List UInt8) : List Value := l.map (fun b => Value.int .u8 (b.toNat : Int))
theorem byteVs_one (l : List UInt8) : ∀ u ∈ byteVs l, u.oneCell' = true := by
  intro u hu
  simp only [byteVs, List.mem_map] at hu
  obtain ⟨b, _, rfl⟩ := hu
  rfl
theorem own_bytes {w : World} {base n k1 : Nat} {a1 : Option Addr} {bs : List UInt8} (h : w.ownsRow base 5 1 (.slice a1 n k1) n (byteVs bs)) :
    ∃ rb2, (a1 = some ⟨rb2, 0, none⟩ ∨ (bs = [] ∧ a1 = none)) ∧ (a1 = some ⟨rb2, 0, none⟩ → BytesAt w rb2 bs) ∧ base ≤ rb2 ∧ n = bs.length ∧ n ≤ k1 := by
  obtain ⟨hl, hv⟩ := h
  have hn : n = bs.length := by simpa [byteVs] using hl.symm
  rcases hv with ⟨hv, h0⟩ | ⟨g, cap, cur, hv, hb, hg, h1, h2, h3, h4⟩
  · simp at hv
    obtain ⟨rfl, rfl, rfl⟩ := hv
    refine ⟨base, .inr ⟨List.eq_nil_of_length_eq_zero hn.symm, rfl⟩, (fun h => by cases h), Nat.le_refl _, hn, Nat.le_refl _⟩
  · simp at hv
    obtain ⟨rfl, rfl⟩ := hv
    refine ⟨g, .inl rfl, fun _ => ⟨cur, _, hg, by omega, fun i hi => ?_⟩, hb, hn, h1⟩
    have : (cur.toList.take (n * 1))[i]? = (byteVs bs)[i]? := by rw [h4]
    rw [List.getElem?_take] at this
    rw [if_pos (by omega)] at this
    simp [byteVs, hi] at this
    simpa using this

set_option maxRecDepth 20000 in
set_option maxHeartbeats 1000000 in
theorem cellsCopy_any (c rb : Nat) (ao : Option Addr) (cap : Nat) (m : CM) (w : World) (h : CellsAt w c rb ao cap m) :
    Calls Tryd.prog 48 #[.pointer (some ⟨c, 0, none⟩)] w fun e w' => ∃ c2 rb2 ao2 cap2, e = .returned (.pointer (some ⟨c2, 0, none⟩)) ∧ CellsAt w' c2 rb2 ao2 cap2 m ∧ w.heap.size ≤ c2 ∧ w.heap.size ≤ rb2 ∧ Below w.heap.size w w' := by
  obtain ⟨c0, c1, c2, c3, cf⟩ := cells_cells h
  obtain ⟨i1, hi1, hz1, hsz1, hby1⟩ := info_parts Tryd.infoByte
  have H := Lib.hid h
  have hlen := h.len
  have bA : Below w.heap.size w (w.alloc (cellC ao cap m)) := (Below.refl _ _).alloc (Nat.le_refl _) _
  have nA := get_alloc_new w (cellC ao cap m)
  have sA : (w.alloc (cellC ao cap m)).heap.size = w.heap.size + 1 := World.size_alloc _ _
  have HA := Lib.hid (h.keep (below_keep bA) (fun _ h => h.elim))
  have BA := Lib.hid bA
  have NA := Lib.hid nA
  have SA := Lib.hid sA
  clear h bA nA sA
  unfold cellC at HA BA NA SA
  go_enter Tryd.func48, Tryd.ntmps48
  go_upto_region 2 with fail
  generalize w.alloc _ = wA at HA BA NA SA ⊢
  obtain ⟨d0, d1, d2, d3, df⟩ := cells_cells HA.out
  clear c0 c1 c2 c3 cf
  have fin : ∀ a1 k1 w6, w6.ownsRow wA.heap.size 5 1 (.slice a1 m.bs.length k1) m.bs.length (byteVs m.bs) → Below wA.heap.size wA w6 →
      ∃ rb2, CellsAt (w6.setCell ⟨w.heap.size, 0, none⟩ (.slice a1 m.bs.length k1)) w.heap.size rb2 a1 k1 m ∧ w.heap.size ≤ rb2 ∧ Below w.heap.size w (w6.setCell ⟨w.heap.size, 0, none⟩ (.slice a1 m.bs.length k1)) := by
    intro a1 k1 w6 ho6 b6
    have hsA := SA.out
    obtain ⟨rb2, h1, h2, h3, h4, h5⟩ := own_bytes ho6
    have hx6 := below_get b6 NA.out (lt_of_get NA.out)
    refine ⟨rb2, ⟨?_, by omega, h1, fun e => (h2 e).keep (keep_set w6 w.heap.size 0 _) (show ¬ rb2 = w.heap.size by omega), hlen, h5⟩, by omega, ?_⟩
    · rw [get_setCell _ hx6]; rfl
    · exact (BA.out.trans (b6.mono BA.out.size)).trans ((keep_set w6 w.heap.size 0 _).below (Nat.le_trans BA.out.size b6.size) (fun b (hb : b = w.heap.size) => by omega))
  have FIN := Lib.hid fin
  have FX : Hid (∀ w6 row, wA.grownBy w6 row → row = none → Below wA.heap.size wA w6 ∧ w6.cell? ⟨w.heap.size, 0, none⟩ = some (.slice ao m.bs.length cap) ∧ ∀ o, w6.frozen? ⟨w.heap.size, o, none⟩ = false) := (show ∀ w6 row, wA.grownBy w6 row → row = none → Below wA.heap.size wA w6 ∧ w6.cell? ⟨w.heap.size, 0, none⟩ = some (.slice ao m.bs.length cap) ∧ ∀ o, w6.frozen? ⟨w.heap.size, o, none⟩ = false from fun w6 row hg hr => by
    subst hr
    have b6 : Below wA.heap.size wA w6 := ((Keep.of_grown hg).mono (fun _ _ hb => by cases hb)).new
    have hx6 := below_get b6 NA.out (lt_of_get NA.out)
    refine ⟨b6, by simp [World.cell?, hx6], by simp [World.frozen?, hx6]⟩)
  have h63 : Hid (0 + m.bs.length ≤ maxLen) := by show 0 + m.bs.length ≤ maxLen; unfold maxLen; omega
  have hby : Hid ((0 + m.bs.length) * 1 ≤ 140737488355328) := by show (0 + m.bs.length) * 1 ≤ 140737488355328; omega
  clear fin
  rcases HA.out.at_ with rfl | ⟨hb, rfl⟩
  · have hr := HA.out.row rfl
    have hns : Hid (∀ (j : Nat) u, (byteVs m.bs)[j]? = some u → wA.cell? ((⟨rb, 0, none⟩ : Addr).add j) = some u) := (show ∀ (j : Nat) u, (byteVs m.bs)[j]? = some u → wA.cell? ((⟨rb, 0, none⟩ : Addr).add j) = some u from fun j u hu => by
      rw [addr_add, Nat.zero_add]
      have hj : j < m.bs.length := by
        have := (List.getElem?_eq_some_iff.1 hu).1
        simpa [byteVs] using this
      rw [hr.cell j hj]
      simp [byteVs, hj] at hu
      rw [hu])
    have hlv : Hid ((byteVs m.bs).length = m.bs.length * 1) := (show (byteVs m.bs).length = m.bs.length * 1 from by simp [byteVs])
    clear hr
    go_wp2_with (at_builtin; go_must (refine wpList_append_ownS rfl (.const (.slice none 0 0)) (.tmp 10) 54 rfl wA.heap.size 5 i1 _ 1 1 Tryd.underlying54 hi1 hz1 hsz1 hby1 rfl (by decide) _ 0 [] rfl (World.ownsRow_nil _ _ _ _) ⟨rb, 0, none⟩ m.bs.length cap (byteVs m.bs) rfl hlv.out hns.out (byteVs_one _) h63.out hby.out (Nat.le_refl _) ?_; intro a1 k1 w6 ho6 hg6; rw [Nat.zero_add, List.nil_append] at ho6; obtain ⟨b6, x6, f6⟩ := FX.out _ _ hg6 rfl; have O6 := Lib.hid ho6; clear ho6 hg6))
    obtain ⟨rb2, q1, q2, q3⟩ := FIN.out _ _ _ O6.out b6
    go_ret
    exact ⟨_, rb2, _, _, rfl, q1, Nat.le_refl _, q2, q3⟩
  · have hnl : m.bs.length = 0 := by rw [hb]; rfl
    have O6 : Hid (wA.ownsRow wA.heap.size 5 1 (.slice none m.bs.length 0) m.bs.length (byteVs m.bs)) := (show wA.ownsRow wA.heap.size 5 1 (.slice none m.bs.length 0) m.bs.length (byteVs m.bs) from by
      rw [hb]
      exact World.ownsRow_nil _ _ _ _)
    obtain ⟨b6, x6, f6⟩ := FX.out wA none ⟨rfl, rfl, rfl, Nat.le_refl _, fun _ _ _ => rfl⟩ rfl
    go_wp2_with fail
    obtain ⟨rb2, q1, q2, q3⟩ := FIN.out none 0 wA O6.out b6
    rw [hnl] at q1 q3
    go_ret
    exact ⟨_, rb2, _, _, rfl, q1, Nat.le_refl _, q2, q3⟩
end Go.Proofs.YtpodijlhlgbbdabDoor
