/- Rings in a statement: cells new or from bytes, opened; the closed fact "logged". -/
import Derived.Test.YtkhcepdeppmofaaDoorRingK
import Derived.Test.YtkhcepdeppmofaaDoorRingS
namespace Go.Proofs.YtkhcepdeppmofaaDoor
open Go.RowKit
set_option linter.unusedVariables false

structure CR (B : Nat) (sa : Nat → Addr) (w0 : World) (c rb cap : Nat) (m : CM) (w : World) : Prop where
  mem : CellsAt w c rb (some ⟨rb, 0, none⟩) cap m
  se : SentsR B sa w
  bel : Below w0.heap.size w0 w
  lay : w0.heap.size ≤ c ∧ w0.heap.size ≤ rb ∧ B ≤ w0.heap.size
section
variable {B : Nat} {sa : Nat → Addr} {w0 w w' : World} {c rb cap : Nat} {m m' : CM}
theorem CR.below (h : CR B sa w0 c rb cap m w) (b : Below w.heap.size w w') : CR B sa w0 c rb cap m w' :=
  ⟨h.mem.keep (below_keep b) (fun _ h => h.elim), h.se.below b, h.bel.trans (b.mono h.bel.size), h.lay⟩
theorem cr_new (n : Nat) (w0 w : World) (hS : SentsR B sa w) (hb : Below w0.heap.size w0 w) (hB : B ≤ w0.heap.size) (hn : n ≤ 4096) :
    Calls Tryd.prog 28 #[.int .i64 n] w fun e w' => ∃ c rb, e = .returned (.tuple #[.pointer (some ⟨c, 0, none⟩), .nilIface]) ∧ CR B sa w0 c rb n ⟨List.replicate n 0, false, -1, 0⟩ w' := by
  refine (cellsNew_in n w hn).mono ?_
  rintro e w' ⟨rfl, h1, h2⟩
  have := hb.size
  exact ⟨_, _, rfl, h1, hS.below h2, hb.trans (h2.mono hb.size), by omega, by omega, hB⟩
theorem CR.copied {w0 w w' : World} {c rb cap : Nat} {m : CM} (h : CR B sa w0 c rb cap m w) (k : Keep (· = rb) w w') (l : List UInt8) (hl : l.length = m.bs.length) (hb : BytesAt w' rb l) : CR B sa w0 c rb cap ⟨l, m.off, m.cut, m.wr⟩ w' := by
  obtain ⟨h1, h2, h3⟩ := h.lay
  refine ⟨⟨?_, h.mem.ne, .inl rfl, fun _ => hb, by rw [hl]; exact h.mem.len, by rw [hl]; exact h.mem.room⟩, h.se.keep k (fun b hb => by subst hb; omega), h.bel.trans (k.below h.bel.size (fun b hb => by subst hb; omega)), h.lay⟩
  rw [k.get h.mem.box (fun e => h.mem.ne e.symm)]
  simp [cellC, hl]
theorem cr_from (s : ByteArray) (B : Nat) (sa : Nat → Addr) (w0 w : World) (hS : SentsR B sa w) (hb : Below w0.heap.size w0 w) (hB : B ≤ w0.heap.size) (hn : s.size ≤ 4096) :
    Calls Tryd.prog 33 #[.string s] w fun e w' => ∃ c rb, e = .returned (.tuple #[.pointer (some ⟨c, 0, none⟩), .nilIface]) ∧ CR B sa w0 c rb s.size ⟨s.data.toList, false, -1, 0⟩ w' := by
  have HS := Lib.hid hS
  have HB := Lib.hid hb
  clear hS hb
  go_enter Tryd.func33, Tryd.ntmps33
  go_wp2_with fail
  refine (cr_new s.size w0 w HS.out HB.out hB hn).mono ?_
  rintro e w1 ⟨c, rb, rfl, h1⟩
  obtain ⟨c0, c1, c2, c3, cf⟩ := cells_cells h1.mem
  have hr := h1.mem.row rfl
  simp only at c0 c1 c2 c3 hr
  obtain ⟨C, hcp, hbn⟩ := hr.copied s (by simp)
  rw [List.length_replicate] at c0 hcp
  have H2 := Lib.hid (h1.copied (setRow_keep w1 rb C) s.data.toList (by show s.size = _; simp) hbn)
  clear hr hbn h1
  go_wp2_with fail
  go_ret2
  exact ⟨c, rb, rfl, H2.out⟩
theorem cr_open (h : CR B sa w0 c rb cap m w) (hl : 153 ≤ m.bs.length) (ho : m.off = false) :
    Calls Tryd.prog 29 #[.pointer (some ⟨c, 0, none⟩)] w fun e w' => ∃ rg lv, e = .returned (.tuple #[.pointer (some ⟨rg, 0, none⟩), .nilIface]) ∧ RSt B sa w0 rg c rb cap m false (recsOf m.bs) lv w' :=
  (openGood_any B sa c rb cap m w0 w h.mem h.se hl ho h.bel h.lay).mono (fun _ _ ⟨rg, lv, he, h, _⟩ => ⟨rg, lv, he, h⟩)
theorem cr_openN (h : CR B sa w0 c rb cap m w) (hl : 153 ≤ m.bs.length) (ho : m.off = false) :
    Calls Tryd.prog 29 #[.pointer (some ⟨c, 0, none⟩)] w fun e w' => ∃ rg lv, e = .returned (.tuple #[.pointer (some ⟨rg, 0, none⟩), .nilIface]) ∧ RSt B sa w0 rg c rb cap m false (recsOf m.bs) lv w' ∧ OpenNew w w' rg lv :=
  openGood_any B sa c rb cap m w0 w h.mem h.se hl ho h.bel h.lay
end

theorem last_st {B : Nat} {sa : Nat → Addr} {w0 w : World} {rg c rb cap : Nat} {m : CM} {dead : Bool} {L : List RecV} {lv : Value} (h : RSt B sa w0 rg c rb cap m dead L lv w) (hn : L.length ≤ 1000) :
    Calls Tryd.prog 35 #[.pointer (some ⟨rg, 0, none⟩)] w fun e w' => e = .returned (.tuple #[recAgg (lastZ L), .bool (!L.isEmpty)]) ∧ Below w.heap.size w w' :=
  ringLast_any w rg c lv dead L (fun b => b < w.heap.size) ⟨h.ring.box, h.ring.row.here⟩ (fun b h => h) hn
theorem box4 (w : World) (v0 v1 v2 v3 : Value) (t : TypeId) : Below w.heap.size w (w.alloc (.cells #[v0, v1, v2, v3] t)) ∧ (w.alloc (.cells #[v0, v1, v2, v3] t)).cell? ⟨w.heap.size, 0, none⟩ = some v0 ∧ (w.alloc (.cells #[v0, v1, v2, v3] t)).cell? ⟨w.heap.size, 1, none⟩ = some v1 ∧
    (w.alloc (.cells #[v0, v1, v2, v3] t)).cell? ⟨w.heap.size, 2, none⟩ = some v2 ∧ (w.alloc (.cells #[v0, v1, v2, v3] t)).cell? ⟨w.heap.size, 3, none⟩ = some v3 ∧ w.heap.size < (w.alloc (.cells #[v0, v1, v2, v3] t)).heap.size := by
  have h := get_alloc_new w (.cells #[v0, v1, v2, v3] t)
  have hb := (Below.refl w.heap.size w).alloc (Nat.le_refl _) (.cells #[v0, v1, v2, v3] t)
  have hl := lt_of_get h
  generalize w.alloc _ = w1 at h hb hl ⊢
  refine ⟨hb, ?_, ?_, ?_, ?_, hl⟩ <;> simp [World.cell?, h]
def recV4 (a b c d : Int) : Value := .agg #[.int .i64 a, .int .i64 b, .int .i64 c, .int .i64 d]
theorem Tryd.recEq4 (a b c d a' b' c' d' : Int) (w : World) : (Op.equalIn 10000 60 (recV4 a b c d) (recV4 a' b' c' d')).run Tryd.prog w = .ok (decide (a = a' ∧ b = b' ∧ c = c' ∧ d = d')) w := by
  have hS : Tryd.prog.underlying 60 = some (.struct (Tryd.prog.fieldsOf 60)) := by kernel_rfl
  have hp : Tryd.prog.stoodInHeld 60 = false := by kernel_rfl
  unfold recV4
  rw [show (10000 : Nat) = 9999 + 1 from rfl, run_equalIn_agg w 9999 60 _ _ hS hp]
  simp only [Program.fieldsOf, Tryd.underlying60]
  go_simp
  by_cases h1 : a = a' <;> by_cases h2 : b = b' <;> by_cases h3 : c = c' <;> by_cases h4 : d = d' <;> simp [h1, h2, h3, h4]
theorem Tryd.recGuard : Tryd.prog.eqGuardType Tryd.prog.depth 60 = false := by kernel_rfl
set_option maxRecDepth 20000 in
set_option maxHeartbeats 2000000 in
theorem logged_any (B : Nat) (sa : Nat → Addr) (w : World) (hS : SentsR B sa w) : Calls Tryd.prog 27 #[] w fun e w' => e = .returned (.bool true) ∧ Below w.heap.size w w' := by
  have HS := Lib.hid hS
  have hB := hS.top
  clear hS
  have HN := Lib.hid (cr_new 4096 w w HS.out (Below.refl _ _) hB (by decide))
  obtain ⟨bz, hbz⟩ : ∃ bz, bz = List.replicate 4096 (0 : UInt8) := ⟨_, rfl⟩
  rw [← hbz] at HN
  have hlog : Log ⟨bz, false, -1, 0⟩ [] 0 := by rw [hbz]; exact log_zero 4096 (by decide)
  have hrz : recsOf bz = lastR [] := by rw [hbz, recs_zero 4096 (by decide)]; rfl
  have hlz : 153 ≤ bz.length := by rw [hbz]; simp
  clear hbz
  obtain ⟨m', hap, hlog', hcut⟩ := log_on hlog (e := 1) (k := 2) (t := 3) (by decide) rfl (by decide)
  have HAP : Hid (ringApp ⟨bz, false, -1, 0⟩ (lastR []) false 1 2 3 = (0, ⟨1, 1, 2, 3⟩, m', [⟨1, 1, 2, 3⟩], false)) := hap
  have HOK := Lib.hid hlog.ok
  have HLZ := Lib.hid hlz
  have HRZ := Lib.hid hrz
  clear hlog hrz hlz hap hlog' hcut
  go_enter Tryd.func27, Tryd.ntmps27
  go_wp2_with fail
  refine HN.out.mono ?_
  rintro e w1 ⟨c, rb, rfl, h1⟩
  have H1 := Lib.hid h1
  clear h1
  go_wp2_with fail
  refine (cr_open H1.out HLZ.out rfl).mono ?_
  rintro e w2 ⟨rg, lv, rfl, h2⟩
  simp only [HRZ.out] at h2
  have H2 := Lib.hid h2
  clear h2 H1
  go_wp2_with fail
  refine (ringAppend_any B sa w rg c rb 4096 _ false (lastR []) lv 1 2 3 0 w2 H2.out HOK.out (by decide) HLZ.out (by decide) (by decide)).mono ?_
  rw [HAP.out]
  rintro e w3 ⟨rfl, lv', h3, _⟩
  rw [show recAgg (⟨1, 1, 2, 3⟩ : RecV) = .agg #[.int .i64 1, .int .i64 1, .int .i64 2, .int .i64 3] from rfl, errv_zero]
  have H3 := Lib.hid h3
  clear h3 H2
  obtain ⟨bx, x0, x1, x2, x3, hlt⟩ := box4 w3 (.int .i64 1) (.int .i64 1) (.int .i64 2) (.int .i64 3) 60
  have H4 := Lib.hid (H3.out.below bx)
  clear bx
  go_upto_region 8 with fail
  obtain ⟨a4, ha4⟩ : ∃ a, a = w3.heap.size := ⟨_, rfl⟩
  rw [← ha4] at x0 x1 x2 x3 hlt ⊢
  generalize w3.alloc _ = w4 at H4 x0 x1 x2 x3 hlt ⊢
  clear ha4 H3
  go_wp2_with fail
  refine (last_st H4.out (by decide)).mono ?_
  rintro e w5 ⟨rfl, b5⟩
  rw [show recAgg (lastZ [(⟨1, 1, 2, 3⟩ : RecV)]) = .agg #[.int .i64 1, .int .i64 1, .int .i64 2, .int .i64 3] from rfl, show (!([(⟨1, 1, 2, 3⟩ : RecV)]).isEmpty) = true from rfl]
  obtain ⟨bx, y0, y1, y2, y3, _⟩ := box4 w5 (.int .i64 1) (.int .i64 1) (.int .i64 2) (.int .i64 3) 60
  have b6 := b5.trans (bx.mono b5.size)
  have z0 := (b6.cell (p := ⟨a4, 0, none⟩) hlt).trans x0
  have z1 := (b6.cell (p := ⟨a4, 1, none⟩) hlt).trans x1
  have z2 := (b6.cell (p := ⟨a4, 2, none⟩) hlt).trans x2
  have z3 := (b6.cell (p := ⟨a4, 3, none⟩) hlt).trans x3
  have HB6 := Lib.hid (H4.out.bel.trans (b6.mono H4.out.bel.size))
  clear bx b6 b5 x0 x1 x2 x3 hlt H4
  go_upto_region 9 with fail
  obtain ⟨a5, ha5⟩ : ∃ a, a = w5.heap.size := ⟨_, rfl⟩
  rw [← ha5] at y0 y1 y2 y3 ⊢
  generalize w5.alloc _ = w6 at HB6 y0 y1 y2 y3 z0 z1 z2 z3 ⊢
  clear ha5
  have heq : ∀ w, (Op.equalIn 10000 60 (.agg #[.int .i64 1, .int .i64 1, .int .i64 2, .int .i64 3]) (.agg #[.int .i64 1, .int .i64 1, .int .i64 2, .int .i64 3])).run Tryd.prog w = .ok true w := fun w => Tryd.recEq4 1 1 2 3 1 1 2 3 w
  have hgd := Tryd.recGuard
  go_wp2_with fail
  go_ret
  exact ⟨rfl, HB6.out⟩
end Go.Proofs.YtkhcepdeppmofaaDoor
