/- Package conf: forms walked. -/
import Derived.Test.YtakjbjokekbmbaaGreatDoorQ27
import Derived.Deep.DeepCutAuto
namespace Go.Proofs.YtakjbjokekbmbaaGreatDoor
open Go.RowKit
set_option linter.unusedVariables false

theorem Tryz.formZero (w : World) : (zeroValue 193).run Tryz.prog w = .ok (formV (0, ByteArray.empty)) w := by kernel_rfl
set_option maxRecDepth 100000 in
set_option maxHeartbeats 2000000 in
theorem forms_any (s : ByteArray) (w : World) :
    Calls Tryz.prog 104 #[.string s] w fun e w' => e = .returned (.tuple #[formV (formStage s, formWords s), .bool (formOk s)]) ∧ Below w.heap.size w w' := by
  have hm := fun (W : World) => show (Instr.makeMap 229 none).run Tryz.prog W = .ok (.map (some W.heap.size)) (mapW W 0) from rfl
  have h0 := fun (W : World) => show (Instr.mapUpdate 229 (.map (some W.heap.size)) (.string ⟨#[119, 105, 110, 100, 111, 119]⟩) (.agg #[.int .i64 0, .string ⟨#[110, 110]⟩])).run Tryz.prog (mapW W 0) = .ok () (mapW W 1) from form_ins Tryz.underlying229 Tryz.underlying9 W 0 (by decide) _ rfl
  have h1 := fun (W : World) => show (Instr.mapUpdate 229 (.map (some W.heap.size)) (.string ⟨#[99, 121, 99, 108, 101]⟩) (.agg #[.int .i64 1, .string ⟨#[110]⟩])).run Tryz.prog (mapW W 1) = .ok () (mapW W 2) from form_ins Tryz.underlying229 Tryz.underlying9 W 1 (by decide) _ rfl
  have h2 := fun (W : World) => show (Instr.mapUpdate 229 (.map (some W.heap.size)) (.string ⟨#[100, 101, 108, 97, 121]⟩) (.agg #[.int .i64 2, .string ⟨#[110]⟩])).run Tryz.prog (mapW W 2) = .ok () (mapW W 3) from form_ins Tryz.underlying229 Tryz.underlying9 W 2 (by decide) _ rfl
  have h3 := fun (W : World) => show (Instr.mapUpdate 229 (.map (some W.heap.size)) (.string ⟨#[101, 110, 116, 105, 116, 121]⟩) (.agg #[.int .i64 3, .string ⟨#[115, 110]⟩])).run Tryz.prog (mapW W 3) = .ok () (mapW W 4) from form_ins Tryz.underlying229 Tryz.underlying9 W 3 (by decide) _ rfl
  have h4 := fun (W : World) => show (Instr.mapUpdate 229 (.map (some W.heap.size)) (.string ⟨#[112, 111, 105, 110, 116]⟩) (.agg #[.int .i64 4, .string ⟨#[115]⟩])).run Tryz.prog (mapW W 4) = .ok () (mapW W 5) from form_ins Tryz.underlying229 Tryz.underlying9 W 4 (by decide) _ rfl
  have h5 := fun (W : World) => show (Instr.mapUpdate 229 (.map (some W.heap.size)) (.string ⟨#[99, 111, 117, 110, 116]⟩) (.agg #[.int .i64 5, .string ⟨#[112, 110, 110]⟩])).run Tryz.prog (mapW W 5) = .ok () (mapW W 6) from form_ins Tryz.underlying229 Tryz.underlying9 W 5 (by decide) _ rfl
  have h6 := fun (W : World) => show (Instr.mapUpdate 229 (.map (some W.heap.size)) (.string ⟨#[103, 97, 112]⟩) (.agg #[.int .i64 6, .string ⟨#[112, 112, 110, 110]⟩])).run Tryz.prog (mapW W 6) = .ok () (mapW W 7) from form_ins Tryz.underlying229 Tryz.underlying9 W 6 (by decide) _ rfl
  have h7 := fun (W : World) => show (Instr.mapUpdate 229 (.map (some W.heap.size)) (.string ⟨#[101, 100, 103, 101]⟩) (.agg #[.int .i64 7, .string ⟨#[112, 112]⟩])).run Tryz.prog (mapW W 7) = .ok () (mapW W 8) from form_ins Tryz.underlying229 Tryz.underlying9 W 7 (by decide) _ rfl
  have h8 := fun (W : World) => show (Instr.mapUpdate 229 (.map (some W.heap.size)) (.string ⟨#[102, 105, 114, 115, 116]⟩) (.agg #[.int .i64 8, .string ⟨#[112]⟩])).run Tryz.prog (mapW W 8) = .ok () (mapW W 9) from form_ins Tryz.underlying229 Tryz.underlying9 W 8 (by decide) _ rfl
  have h9 := fun (W : World) => show (Instr.mapUpdate 229 (.map (some W.heap.size)) (.string ⟨#[108, 97, 115, 116]⟩) (.agg #[.int .i64 9, .string ⟨#[112]⟩])).run Tryz.prog (mapW W 9) = .ok () (mapW W 10) from form_ins Tryz.underlying229 Tryz.underlying9 W 9 (by decide) _ rfl
  have hl := fun (W : World) => form_look Tryz.underlying229 Tryz.underlying9 Tryz.formZero W s
  have hb1 : Below w.heap.size w (w.alloc (.cells #[.int .i64 0, .string ⟨#[]⟩] 193)) := (Below.refl _ _).alloc (Nat.le_refl _) _
  have hx := get_alloc_new w (.cells #[.int .i64 0, .string ⟨#[]⟩] 193)
  simp only [formV] at hl ⊢
  go_enter Tryz.func104, Tryz.ntmps104
  go_upto_region 1 with fail
  generalize w.alloc _ = w1 at hb1 hx ⊢
  have bm : Below w1.heap.size w1 (mapW w1 10) := (Below.refl _ _).alloc (Nat.le_refl _) _
  have b2 : Below w1.heap.size w1 ((mapW w1 10).alloc (.cells #[.int .i64 (formStage s), .string (formWords s)] 193)) := bm.alloc bm.size _
  have hx2 := below_get b2 hx (lt_of_get hx)
  have hn2 := get_alloc_new (mapW w1 10) (.cells #[.int .i64 (formStage s), .string (formWords s)] 193)
  have HB2 := Lib.hid (hb1.trans (b2.mono hb1.size))
  have hlt := lt_of_get hx
  have HSZ := Lib.hid bm.size
  clear hx bm b2 hb1
  go_upto_region 3 with fail
  generalize (mapW w1 10).alloc _ = w2 at hx2 hn2 HB2 ⊢
  have HSZ := HSZ.out
  generalize (mapW w1 10).heap.size = eb at hn2 HSZ ⊢
  have c0 : w2.cell? ⟨w.heap.size, 0, none⟩ = some (.int .i64 0) := by simp [World.cell?, hx2]
  have c1 : w2.cell? ⟨w.heap.size, 1, none⟩ = some (.string ⟨#[]⟩) := by simp [World.cell?, hx2]
  have cf : ∀ o, w2.frozen? ⟨w.heap.size, o, none⟩ = false := by intro o; simp [World.frozen?, hx2]
  have e0 : w2.cell? ⟨eb, 0, none⟩ = some (.int .i64 (formStage s)) := by simp [World.cell?, hn2]
  have e1 : w2.cell? ⟨eb, 1, none⟩ = some (.string (formWords s)) := by simp [World.cell?, hn2]
  have hne : ¬ w.heap.size = eb := by omega
  have hne2 : ¬ eb = w.heap.size := by omega
  have kv := (keep_set w2 w.heap.size 0 (.int .i64 (formStage s))).setCell (p := ⟨w.heap.size, 1, none⟩) (fun _ => rfl) (.string (formWords s))
  have HBE := Lib.hid (HB2.out.trans (kv.below HB2.out.size (fun b hb => by omega)))
  clear hm h0 h1 h2 h3 h4 h5 h6 h7 h8 h9 hl hx2 hn2 kv
  go_wp2_with fail
  refine bodyPost_ret (v := .tuple #[.agg #[.int .i64 (formStage s), .string (formWords s)], .bool (formOk s)]) (by simp [results, Tryz.results104, go_sem, c0, c1, World.cell?_setCell_same, World.cell?_setCell_other]) rfl ?_
  exact ⟨rfl, HBE.out⟩
end Go.Proofs.YtakjbjokekbmbaaGreatDoor
