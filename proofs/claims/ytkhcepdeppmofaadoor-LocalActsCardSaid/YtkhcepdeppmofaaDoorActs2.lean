/- Acts of an entity as plain data; a statement's front: is the entity too heavy, are the acts too many, has it an error? -/
import Derived.Test.YtkhcepdeppmofaaDoorOpen
import Derived.Test.YtkhcepdeppmofaaDoorEntF
import Derived.Test.YtkhcepdeppmofaaDoorLives
import Derived.Test.YtkhcepdeppmofaaDoorSents
namespace Go.Proofs.YtkhcepdeppmofaaDoor
open Go.RowKit
set_option linter.unusedVariables false

structure Act2V where
  kind : ByteArray
  point : Int
  later : Int
def act2Cells (a : Act2V) : List Value := [.string a.kind, .int .i64 a.point, .int .i64 a.later]
instance : Inhabited Act2V := ⟨⟨⟨#[]⟩, 0, 0⟩⟩
theorem Tryd.cAct2 : Tryd.prog.cellsOf 41 = 3 := by kernel_rfl
structure Act2Ok (a : Act2V) : Prop where
  kind : a.kind.size ≤ maxLen
  point : I64 a.point
  later : I64 a.later
theorem act2_cells {R : Nat → Prop} {w : World} {ao : Option Addr} {n cap : Nat} {l : List Act2V} (h : SlOf R w (.slice ao n cap) 3 (l.flatMap act2Cells) l.length) (h0 : 0 < l.length) :
    ∃ b off, ao = some ⟨b, off, none⟩ ∧ R b ∧ b < w.heap.size ∧ ∀ k (hk : k < l.length), w.cell? ⟨b, off + k * 3, none⟩ = some (.string l[k].kind) ∧ w.cell? ⟨b, off + k * 3 + 1, none⟩ = some (.int .i64 l[k].point) ∧ w.cell? ⟨b, off + k * 3 + 2, none⟩ = some (.int .i64 l[k].later) := by
  obtain ⟨b, off, ha, hR, hb, hc⟩ := h.elem (fun _ => rfl) (by decide) h0
  exact ⟨b, off, ha, hR, hb, fun k hk => ⟨hc k hk 0 _ rfl, hc k hk 1 _ rfl, hc k hk 2 _ rfl⟩⟩
theorem rd_act2 {H : Type} {enc : TypeId × Value → H} {w : World} (cs : List Value) (h : Rd enc Tryd.prog w 41 cs) : ∃ r, cs = act2Cells r ∧ Act2Ok r := by
  obtain ⟨c0, c1, c2, rfl⟩ := list3 ((h.len Tryd.underlying41).trans Tryd.cAct2)
  obtain ⟨n0, h0, w0⟩ := (show Rd enc Tryd.prog w 9 [c0] from h.fieldAt Tryd.underlying41 0 Tryd.cStr rfl).str Tryd.underlying9
  obtain ⟨n1, h1, w1⟩ := (show Rd enc Tryd.prog w 3 [c1] from h.fieldAt Tryd.underlying41 1 Tryd.cInt rfl).int Tryd.underlying3
  obtain ⟨n2, h2, w2⟩ := (show Rd enc Tryd.prog w 3 [c2] from h.fieldAt Tryd.underlying41 2 Tryd.cInt rfl).int Tryd.underlying3
  simp at h0 h1 h2
  subst h0 h1 h2
  exact ⟨⟨n0, n1, n2⟩, rfl, w0, i64_of_wf w1, i64_of_wf w2⟩

/-- EntityError of an entity alone, its box laid behind what there was. -/
theorem entErr_x (E : EntV) (vp vg ve vf vl : Value) (w0 w : World) (h : EntSl (· < w0.heap.size) w0 E vp vg ve vf vl) (hb : Below w0.heap.size w0 w) (hL : Light E) :
    Calls Tryd.prog 12 #[.slice (some ⟨w.heap.size, 0, none⟩) 1 1, .int .i64 0] (w.alloc (.cells (entCs E vp vg ve vf vl) 27)) fun e w' => e = .returned (.int .i64 (entErr [] E : Nat)) ∧ Below w.heap.size w w' := by
  have ba : Below w.heap.size w (w.alloc (.cells (entCs E vp vg ve vf vl) 27)) := (Below.refl _ _).alloc (Nat.le_refl _) _
  have hs : (w.alloc (.cells (entCs E vp vg ve vf vl) 27)).heap.size = w.heap.size + 1 := World.size_alloc _ _
  have h1 : EntSl (· < (w.alloc (.cells (entCs E vp vg ve vf vl) 27)).heap.size) (w.alloc (.cells (entCs E vp vg ve vf vl) 27)) E vp vg ve vf vl := by
    have := (h.keep (Keep.of_below hb) (fun b hb => by omega)).keep (below_keep ba) (fun _ _ h => h)
    have hsz := hb.size
    exact ⟨this.p.mono (fun b hb => by omega), this.g.mono (fun b hb => by omega), this.e.mono (fun b hb => by omega), this.f.mono (fun b hb => by omega), this.l.mono (fun b hb => by omega)⟩
  have hsl := slOf_alloc w (entXCells ⟨E, vp, vg, ve, vf, vl⟩) 27 10 1 rfl (by decide)
  have hX : EntsSl (· < (w.alloc (.cells (entCs E vp vg ve vf vl) 27)).heap.size) (w.alloc (.cells (entCs E vp vg ve vf vl) 27)) (.slice (some ⟨w.heap.size, 0, none⟩) 1 1) [⟨E, vp, vg, ve, vf, vl⟩] :=
    ⟨(show SlOf _ (w.alloc (.cells (entCs E vp vg ve vf vl) 27)) (.slice (some ⟨w.heap.size, 0, none⟩) 1 1) 10 (entXCells ⟨E, vp, vg, ve, vf, vl⟩) 1 from hsl.mono (fun b hb => by omega)), fun x hx => by
      obtain rfl := List.mem_singleton.1 hx
      exact h1⟩
  refine (entErr_any _ [⟨E, vp, vg, ve, vf, vl⟩] _ 0 (by simp) _ hX (fun b hb => hb) ⟨by have := hL.p; show E.points.length ≤ 1000; omega, by have := hL.g; show E.gaps.length ≤ 1000; omega, by have := hL.e; show E.edges.length ≤ 1000; omega, by have := hL.f; show E.first.length ≤ 1000; omega, by have := hL.l; show E.last.length ≤ 1000; omega⟩ (by simp)).mono ?_
  rintro e w' ⟨rfl, b⟩
  exact ⟨rfl, ba.trans (b.mono (by omega))⟩
end Go.Proofs.YtkhcepdeppmofaaDoor
