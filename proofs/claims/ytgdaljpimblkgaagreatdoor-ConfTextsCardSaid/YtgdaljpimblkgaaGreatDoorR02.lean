/- The page of package conf: a strings.Builder as its first field: what its methods leave. -/
import Derived.Test.YtgdaljpimblkgaaGreatDoorR01
import Derived.Lib.Strings
import Derived.Lib.Slices
import Derived.Lib.Walk
import Derived.Lib.Builder
import Derived.Lib.AppendStr
import Derived.Lib.UnsafeStr
import Derived.Laws.Externs
import Derived.Laws.IdiomCopy
import Derived.Test.YtgdaljpimblkgaaGreatDoorShelf
import Derived.Lib.AppendIntMem
import Derived.Deep.RegionHeld3
namespace Go.Proofs.YtgdaljpimblkgaaGreatDoor
open Go.RowKit
set_option linter.unusedVariables false

theorem Tryz.sizePage : (Tryz.prog.info? 60).map (·.size) = some 2 := by kernel_rfl
theorem Tryz.liesPage : liesAt Tryz.prog Tryz.prog.depth 62 (2 / Tryz.prog.cellsOf 62) 0 60 1 = true := by kernel_rfl
theorem Tryz.infoByteP : (Tryz.prog.info? 5).map (fun i => (i.zero, i.size, i.bytes)) = some (some (.int .u8 0), 1, 1) := by kernel_rfl
theorem Tryz.cellsByteP : Tryz.prog.cellsOf 5 = 1 := by kernel_rfl

/-- A row of bytes. -/
def ByteObj : Obj → Prop
  | .cells _ t _ => t = 5
  | _ => False
/-- All but the page's block, and rows of bytes, stands. -/
structure Oth (b : Nat) (w w' : World) : Prop where
  os : w'.os = w.os
  tape : w'.tape = w.tape
  output : w'.output = w.output
  size : w.heap.size ≤ w'.heap.size
  block : ∀ k o, w.heap[k]? = some o → k ≠ b → ¬ ByteObj o → w'.heap[k]? = some o
theorem Oth.refl (b : Nat) (w : World) : Oth b w w := ⟨rfl, rfl, rfl, Nat.le_refl _, fun _ _ h _ _ => h⟩
theorem Oth.trans {b : Nat} {u v w : World} (h : Oth b u v) (k : Oth b v w) : Oth b u w :=
  ⟨k.os.trans h.os, k.tape.trans h.tape, k.output.trans h.output, Nat.le_trans h.size k.size, fun i o hi hb ho => k.block i o (h.block i o hi hb ho) hb ho⟩
theorem Oth.set {b : Nat} {w : World} (o : Nat) (u : Value) : Oth b w (w.setCell ⟨b, o, none⟩ u) := by
  have k := keep_set w b o u
  exact ⟨k.os, k.tape, k.output, k.size, fun i x hi hb _ => k.get hi hb⟩
theorem Oth.below {b : Nat} {w w' : World} (h : Below w.heap.size w w') : Oth b w w' := ⟨h.os, h.tape, h.output, h.size, fun i o hi _ _ => below_get h hi (lt_of_get hi)⟩
theorem Oth.grown {b : Nat} {w w' : World} {B n : Nat} {v : Value} {xs : List Value} (hown : w.ownsRow B 5 1 v n xs) (g : w.grownBy w' v.ownBlock) : Oth b w w' := by
  have k := Keep.of_grown g
  refine ⟨k.os, k.tape, k.output, k.size, fun i x hi _ hx => k.get hi (fun e => ?_)⟩
  rcases hown.2 with ⟨rfl, _⟩ | ⟨q, cap, cur, rfl, _, hq, _⟩
  · cases e
  · have : i = q := Option.some.inj e
    subst this
    rw [hq] at hi
    obtain rfl := Option.some.inj hi
    exact hx rfl

/-- A page: the bytes written so far. -/
def PgU (B b : Nat) (l : List UInt8) (w : World) : Prop := Lib.BuilderAt 62 5 B b (.pointer (some ⟨b, 0, none⟩)) (Lib.byteCells l) w
def Pg (B b : Nat) (l : List UInt8) (w : World) : Prop := Lib.IsBuilder 62 5 B b (Lib.byteCells l) w
theorem PgU.pg {B b : Nat} {l : List UInt8} {w : World} (h : PgU B b l w) : Pg B b l w := .inr h
theorem Pg.at_ {B b : Nat} {l : List UInt8} {w : World} (h : Pg B b l w) : ∃ p, Lib.BuilderAt 62 5 B b p (Lib.byteCells l) w := by
  rcases h with h | h
  · exact ⟨_, h⟩
  · exact ⟨_, h⟩
theorem builderAt_below {T e : TypeId} {B b : Nat} {p : Value} {bs : List Value} {w w' : World} (h : Lib.BuilderAt T e B b p bs w) (k : Below w.heap.size w w') : Lib.BuilderAt T e B b p bs w' := by
  obtain ⟨hB, v, hb, hown, hne⟩ := h
  exact ⟨hB, v, below_get k hb (lt_of_get hb), ownsRow_keep' hown (below_keep k) (fun _ _ _ h => h), hne⟩
theorem Pg.below {B b : Nat} {l : List UInt8} {w w' : World} (h : Pg B b l w) (k : Below w.heap.size w w') : Pg B b l w' := by
  rcases h with h | h
  · exact .inl (builderAt_below h k)
  · exact .inr (builderAt_below h k)
theorem Pg.lt {B b : Nat} {l : List UInt8} {w : World} (h : Pg B b l w) : B ≤ b ∧ b < w.heap.size := by
  obtain ⟨p, h⟩ := h.at_
  exact ⟨h.1, h.lt⟩

set_option maxHeartbeats 1000000 in
set_option maxRecDepth 100000 in
theorem copyCheck_used (b : Nat) (w : World) (h0 : w.cell? ⟨b, 0, none⟩ = some (.pointer (some ⟨b, 0, none⟩))) :
    Calls Tryz.prog 60 #[.pointer (some ⟨b, 0, none⟩)] w fun e w' => e = .returned (.tuple #[]) ∧ w = w' := by
  obtain ⟨j, hj, _⟩ := Option.map_eq_some_iff.1 Tryz.sizePage
  go_enter Tryz.func60, Tryz.ntmps60
  go_wp2
  rw [Lib.run_neq_ptr_same w _ Tryz.underlying57 hj]
  go_wp2
  go_end0
  exact ⟨rfl, rfl⟩
set_option maxHeartbeats 1000000 in
set_option maxRecDepth 100000 in
theorem copyCheck_fresh (b : Nat) (w : World) (h0 : w.cell? ⟨b, 0, none⟩ = some (.pointer none)) (hsh : w.shape? b = some (62, 2)) (hfz : w.frozen? ⟨b, 0, none⟩ = false) :
    Calls Tryz.prog 60 #[.pointer (some ⟨b, 0, none⟩)] w fun e w' => e = .returned (.tuple #[]) ∧ w.setCell ⟨b, 0, none⟩ (.pointer (some ⟨b, 0, none⟩)) = w' := by
  obtain ⟨j, hj, hjs⟩ := Option.map_eq_some_iff.1 Tryz.sizePage
  go_enter Tryz.func60, Tryz.ntmps60
  go_wp2
  rw [Lib.run_to_unsafe w ⟨b, 0, none⟩ Tryz.underlying57 Tryz.underlying118 hj (by rw [hjs]; decide) hsh (Nat.zero_lt_succ 1)]
  simp only [Result.andThen]
  rw [Oper.upon_value]
  go_wp2
  rw [run_callFunc_extern Tryz.func90 (by kernel_rfl) (by kernel_rfl) (by kernel_rfl) (e := Extern.AbiNoEscape.same) (by kernel_rfl)]
  rw [Lib.run_noEscape]
  simp only [Result.andThen]
  rw [Oper.upon_value]
  go_wp2
  rw [Lib.run_from_unsafe w ⟨b, 0, none⟩ Tryz.underlying118 Tryz.underlying57 hj hsh Tryz.liesPage]
  simp only [Result.andThen]
  rw [Oper.upon_value]
  go_wp2
  go_end0
  exact ⟨rfl, rfl⟩
theorem copyCheck_any (B b : Nat) (l : List UInt8) (w : World) (h : Pg B b l w) :
    Calls Tryz.prog 60 #[.pointer (some ⟨b, 0, none⟩)] w fun e w' => e = .returned (.tuple #[]) ∧ PgU B b l w' ∧ Below B w w' ∧ Oth b w w' := by
  rcases h with h | h
  · refine (copyCheck_fresh b w h.cell0 h.shape h.frozen0).mono ?_
    rintro e w' ⟨rfl, rfl⟩
    exact ⟨rfl, h.used _, (Below.refl B w).setCell (p := ⟨b, 0, none⟩) h.1 _, Oth.set _ _⟩
  · refine (copyCheck_used b w h.cell0).mono ?_
    rintro e w' ⟨rfl, rfl⟩
    exact ⟨rfl, h, Below.refl B _, Oth.refl _ _⟩
set_option maxHeartbeats 2000000 in
set_option maxRecDepth 100000 in
theorem writeByte_any (B b : Nat) (l : List UInt8) (c : UInt8) (w : World) (h : Pg B b l w) (hlen : l.length + 1 ≤ 1000000000) (hBw : B ≤ w.heap.size) :
    Calls Tryz.prog 37 #[.pointer (some ⟨b, 0, none⟩), .int .u8 (c.toNat : Int)] w fun e w' => e = .returned .nilIface ∧ Pg B b (l ++ [c]) w' ∧ Below B w w' ∧ Oth b w w' := by
  obtain ⟨i0, hi, hz0, hz1, hz2⟩ := info_parts Tryz.infoByteP
  have HCk := Lib.hid (copyCheck_any B b l w h)
  clear h
  go_enter Tryz.func37, Tryz.ntmps37
  go_wp2_with fail
  refine HCk.out.mono ?_
  rintro e w1 ⟨rfl, h1, hb1, ho1⟩
  obtain ⟨hB, v, hbk, hown, hne⟩ := h1
  have hnl : (Lib.byteCells l).length = l.length := Lib.byteCells_length l
  rw [hnl] at hown
  have c0 : w1.cell? ⟨b, 0, none⟩ = some (.pointer (some ⟨b, 0, none⟩)) := by rw [Lib.cell_of_heap hbk]; rfl
  have c1 : w1.cell? ⟨b, 1, none⟩ = some v := by rw [Lib.cell_of_heap hbk]; rfl
  have hs1 := hb1.size
  have HO1 := Lib.hid hown
  have HH1 := Lib.hid ho1
  have HB1 := Lib.hid hb1
  have HBK := Lib.hid hbk
  have HNE := Lib.hid hne
  clear hown ho1 hb1 hbk hne HCk hnl
  go_wp2_with (at_builtin; refine wpList_append_own _ rfl (.tmp 11) (.tmp 13) 58 rfl B 5 i0 (.int .u8 0) 1 1 Tryz.underlying58 hi hz0 hz1 hz2 rfl (by decide) _ l.length _ rfl (HO1.out.alloc _) ⟨w1.heap.size, 0, none⟩ 1 1 [.int .u8 (c.toNat : Int)] rfl rfl (by exact new_cells _ [.int .u8 (c.toNat : Int)] _) (by intro u hu; simp at hu; subst hu; rfl) (by unfold maxLen; omega) (by omega) (by simp; omega) ?_)
  intro v' w2 hown' hgrow hnil
  have hlt := lt_of_get HBK.out
  have hb2 : w2.heap[b]? = some (.cells #[.pointer (some ⟨b, 0, none⟩), v] 62 (0, 0)) := by
    rw [hgrow.block b (by simp; omega) (fun e => HNE.out e.symm), Lib.alloc_old w1 _ b hlt]
    exact HBK.out
  have d0 : w2.cell? ⟨b, 0, none⟩ = some (.pointer (some ⟨b, 0, none⟩)) := by rw [Lib.cell_of_heap hb2]; rfl
  have d1 : w2.cell? ⟨b, 1, none⟩ = some v := by rw [Lib.cell_of_heap hb2]; rfl
  have f1 : w2.frozen? ⟨b, 1, none⟩ = false := Lib.frozen_of_heap hb2 1
  obtain ⟨g, cap, rfl⟩ : ∃ g cap, v' = .slice (some ⟨g, 0, none⟩) (l.length + 1) cap := by
    rcases hown'.2 with ⟨_, h0⟩ | ⟨g, cap, cur, hv, _⟩
    · omega
    · exact ⟨g, cap, hv⟩
  have hbc : Lib.byteCells (l ++ [c]) = Lib.byteCells l ++ [.int .u8 (c.toNat : Int)] := by rw [Lib.byteCells_append]; rfl
  have fin1 : Pg B b (l ++ [c]) (w2.setCell ⟨b, 1, none⟩ (.slice (some ⟨g, 0, none⟩) (l.length + 1) cap)) := by
    refine .inr (Lib.BuilderAt.put (T := 62) (e := 5) hB hb2 (bs' := Lib.byteCells (l ++ [c])) ?_ (by decide))
    rw [Lib.byteCells_length, hbc, List.length_append]
    exact hown'
  have hal : Below w1.heap.size w1 (w1.alloc (.cells #[.int .u8 (c.toNat : Int)] 5)) := (Below.refl _ _).alloc (Nat.le_refl _) _
  have fin2 : Below B w (w2.setCell ⟨b, 1, none⟩ (.slice (some ⟨g, 0, none⟩) (l.length + 1) cap)) :=
    ((HB1.out.alloc (by omega) _).grown hgrow (by simp; omega) (fun k hk => (HO1.out.lt k hk).1)).setCell (p := ⟨b, 1, none⟩) hB _
  have fin3 : Oth b w (w2.setCell ⟨b, 1, none⟩ (.slice (some ⟨g, 0, none⟩) (l.length + 1) cap)) :=
    ((HH1.out.trans (Oth.below hal)).trans (Oth.grown (HO1.out.alloc _) hgrow)).trans (Oth.set _ _)
  have F1 := Lib.hid fin1
  have F2 := Lib.hid fin2
  have F3 := Lib.hid fin3
  clear fin1 fin2 fin3 hal hbc hown' hgrow hnil hb2 HBK
  go_wp2_with fail
  go_ret
  exact ⟨rfl, F1.out, F2.out, F3.out⟩
set_option maxHeartbeats 2000000 in
set_option maxRecDepth 100000 in
theorem writeString_any (B b : Nat) (l : List UInt8) (s : ByteArray) (w : World) (h : Pg B b l w) (hlen : l.length + s.size ≤ 1000000000) (hBw : B ≤ w.heap.size) :
    Calls Tryz.prog 38 #[.pointer (some ⟨b, 0, none⟩), .string s] w fun e w' => e = .returned (.tuple #[.int .i64 s.size, .nilIface]) ∧ Pg B b (l ++ s.data.toList) w' ∧ Below B w w' ∧ Oth b w w' := by
  obtain ⟨i0, hi, hz0, hz1, hz2⟩ := info_parts Tryz.infoByteP
  have HCk := Lib.hid (copyCheck_any B b l w h)
  clear h
  go_enter Tryz.func38, Tryz.ntmps38
  go_wp2_with fail
  refine HCk.out.mono ?_
  rintro e w1 ⟨rfl, h1, hb1, ho1⟩
  obtain ⟨hB, v, hbk, hown, hne⟩ := h1
  have hnl : (Lib.byteCells l).length = l.length := Lib.byteCells_length l
  rw [hnl] at hown
  have c0 : w1.cell? ⟨b, 0, none⟩ = some (.pointer (some ⟨b, 0, none⟩)) := by rw [Lib.cell_of_heap hbk]; rfl
  have c1 : w1.cell? ⟨b, 1, none⟩ = some v := by rw [Lib.cell_of_heap hbk]; rfl
  have hs1 := hb1.size
  have HO1 := Lib.hid hown
  have HH1 := Lib.hid ho1
  have HB1 := Lib.hid hb1
  have HBK := Lib.hid hbk
  have HNE := Lib.hid hne
  clear hown ho1 hb1 hbk hne HCk hnl
  go_wp2_with (at_builtin; refine Lib.wpList_append_own_string _ rfl (.tmp 12) (.tmp 13) 58 9 rfl B 5 i0 Tryz.underlying58 Tryz.underlying9 hi hz0 hz1 hz2 _ l.length _ rfl HO1.out s rfl (by unfold maxLen; omega) (by omega) (by omega) ?_)
  intro v' w2 hown' hgrow hnil
  have hlt := lt_of_get HBK.out
  have hb2 : w2.heap[b]? = some (.cells #[.pointer (some ⟨b, 0, none⟩), v] 62 (0, 0)) := by
    rw [hgrow.block b hlt (fun e => HNE.out e.symm)]
    exact HBK.out
  have d0 : w2.cell? ⟨b, 0, none⟩ = some (.pointer (some ⟨b, 0, none⟩)) := by rw [Lib.cell_of_heap hb2]; rfl
  have d1 : w2.cell? ⟨b, 1, none⟩ = some v := by rw [Lib.cell_of_heap hb2]; rfl
  have f1 : w2.frozen? ⟨b, 1, none⟩ = false := Lib.frozen_of_heap hb2 1
  obtain ⟨ao, n', cap, rfl⟩ : ∃ ao n' cap, v' = .slice ao n' cap := by
    rcases hown'.2 with ⟨hv, _⟩ | ⟨g, cap, cur, hv, _⟩
    · exact ⟨_, _, _, hv⟩
    · exact ⟨_, _, _, hv⟩
  have hbc : Lib.byteCells (l ++ s.data.toList) = Lib.byteCells l ++ Lib.strCells s := by rw [Lib.byteCells_append]; rfl
  have F1 : Hid (Pg B b (l ++ s.data.toList) (w2.setCell ⟨b, 1, none⟩ (.slice ao n' cap))) := by
    refine .inr (Lib.BuilderAt.put (T := 62) (e := 5) hB hb2 (bs' := Lib.byteCells (l ++ s.data.toList)) ?_ (by decide))
    rw [Lib.byteCells_length, hbc, List.length_append]
    have e : s.data.toList.length = s.size := by rw [Array.length_toList]; rfl
    rw [e]
    exact hown'
  have F2 : Hid (Below B w (w2.setCell ⟨b, 1, none⟩ (.slice ao n' cap))) :=
    (HB1.out.grown hgrow (by omega) (fun k hk => (HO1.out.lt k hk).1)).setCell (p := ⟨b, 1, none⟩) hB _
  have F3 : Hid (Oth b w (w2.setCell ⟨b, 1, none⟩ (.slice ao n' cap))) := (HH1.out.trans (Oth.grown HO1.out hgrow)).trans (Oth.set _ _)
  clear hbc hown' hgrow hnil hb2 HBK
  go_wp2_with fail
  go_ret2
  exact ⟨rfl, F1.out, F2.out, F3.out⟩
end Go.Proofs.YtgdaljpimblkgaaGreatDoor

/- Package conf: a line of a page. -/
namespace Go.Proofs.YtgdaljpimblkgaaGreatDoor
open Go.RowKit
set_option linter.unusedVariables false

/-- The table that strconv.Itoa reads; it lies below B. -/
def TabB (B : Nat) (w : World) : Prop := Lib.TabBelow Tryz.prog B w "internal/strconv.uint64pow10" .u64 Lib.pow10Tab
theorem TabB.low {B C : Nat} {w w' : World} (h : TabB B w) (b : Below C w w') (hC : B ≤ C) : TabB B w' := fun W hW => h W ((b.mono hC).trans hW)
theorem grow_below (w : World) (k : Nat) (os : Array Obj) : Below w.heap.size w (Sort.grow (w.drewN k) os) := by
  refine ⟨rfl, rfl, rfl, ?_, fun i hi => ?_⟩
  · show w.heap.size ≤ (w.heap ++ os).size
    rw [Array.size_append]; omega
  · show (w.heap ++ os)[i]? = w.heap[i]?
    rw [Array.getElem?_append_left hi]
theorem itoa_any (B : Nat) (n : Int) (w : World) (hT : TabB B w) (h0 : -9223372036854775808 ≤ n) (h1 : n ≤ 9223372036854775807) :
    Calls Tryz.prog 39 #[.int .i64 n] w fun e w' => e = .returned (.string ⟨(Lib.itoa n).toArray⟩) ∧ Below w.heap.size w w' := by
  refine (Tryz.strconv_Itoa n h0 h1 w (hT w (Below.refl _ _))).mono ?_
  rintro e w' ⟨rfl, k, os, rfl⟩
  exact ⟨rfl, grow_below w k os⟩

inductive W1 where
  | str (s : ByteArray)
  | num (n : Int)
def wordB : W1 → List UInt8
  | .str s => s.data.toList
  | .num n => Lib.itoa n
def cellW : W1 → Value
  | .str s => .iface 9 (.string s)
  | .num n => .iface 3 (.int .i64 n)
def W1Ok : W1 → Prop
  | .str _ => True
  | .num n => -9223372036854775808 ≤ n ∧ n ≤ 9223372036854775807
def sepB (i : Nat) (x : W1) : List UInt8 := if i = 0 then wordB x else 32 :: wordB x
def upB (ws : List W1) (k : Nat) : List UInt8 := (List.range k).flatMap (fun i => sepB i (ws.getD i (.num 0)))
def lineB (ws : List W1) : List UInt8 := upB ws ws.length ++ [10]
theorem upB_succ (ws : List W1) (k : Nat) (hk : k < ws.length) : upB ws (k + 1) = upB ws k ++ sepB k ws[k] := by
  unfold upB
  rw [List.range_succ, List.flatMap_append]
  simp [hk]
theorem upB_le (ws : List W1) : ∀ (m k : Nat), (upB ws k).length ≤ (upB ws (k + m)).length
  | 0, k => Nat.le_refl _
  | m + 1, k => by
    refine Nat.le_trans (upB_le ws m k) ?_
    show _ ≤ (upB ws (k + m + 1)).length
    unfold upB
    rw [List.range_succ, List.flatMap_append, List.length_append]
    omega
theorem upB_line (ws : List W1) {k : Nat} (hk : k ≤ ws.length) : (upB ws k).length < (lineB ws).length := by
  have := upB_le ws (ws.length - k) k
  rw [show k + (ws.length - k) = ws.length by omega] at this
  unfold lineB
  rw [List.length_append, List.length_singleton]
  omega

theorem Tryz.taStr (s : ByteArray) (W : World) : (Instr.typeAssert (.iface 9 (.string s)) 20 9 true).run Tryz.prog W = .ok (.tuple #[.string s, .bool true]) W := by kernel_rfl
theorem Tryz.taIntS (n : Int) (W : World) : (Instr.typeAssert (.iface 3 (.int .i64 n)) 20 9 true).run Tryz.prog W = .ok (.tuple #[.string ByteArray.empty, .bool false]) W := by kernel_rfl
theorem Tryz.taInt (n : Int) (W : World) : (Instr.typeAssert (.iface 3 (.int .i64 n)) 20 3 true).run Tryz.prog W = .ok (.tuple #[.int .i64 n, .bool true]) W := by kernel_rfl
/-- A page under way. -/
structure PG (B b : Nat) (l : List UInt8) (w0 w : World) : Prop where
  pg : Pg B b l w
  bel : Below B w0 w
  oth : Oth b w0 w
theorem PG.on {B b : Nat} {l l' : List UInt8} {w0 w w' : World} (h : PG B b l w0 w) (p : Pg B b l' w') (b1 : Below B w w') (o : Oth b w w') : PG B b l' w0 w' := ⟨p, h.bel.trans b1, h.oth.trans o⟩
theorem PG.below {B b : Nat} {l : List UInt8} {w0 w w' : World} (h : PG B b l w0 w) (k : Below w.heap.size w w') : PG B b l w0 w' := by
  have hl := h.pg.lt
  exact ⟨h.pg.below k, h.bel.trans (k.mono (by omega)), h.oth.trans (Oth.below k)⟩
theorem any_not_byte (cs : Array Value) : ¬ ByteObj (.cells cs 20) := by
  show ¬ (20 = 5)
  decide
theorem row_at {w : World} {wb : Nat} {ws : List W1} {T : TypeId} (h : w.heap[wb]? = some (.cells (ws.map cellW).toArray T)) (k : Nat) (hk : k < ws.length) : w.cell? ⟨wb, k, none⟩ = some (cellW ws[k]) := by
  rw [cell_of_row w wb k _ _ _ h]
  simp [hk]
set_option maxRecDepth 100000 in
set_option maxHeartbeats 4000000 in
theorem pageLine_any (B b : Nat) (l : List UInt8) (ws : List W1) (wb : Nat) (w : World) (h : Pg B b l w) (hB : B ≤ w.heap.size) (hT : TabB B w) (hok : ∀ x ∈ ws, W1Ok x) (hv : w.heap[wb]? = some (.cells (ws.map cellW).toArray 20)) (hne : wb ≠ b) (hlen : l.length + (lineB ws).length ≤ 1000000) (hn : ws.length ≤ 1000) :
    Calls Tryz.prog 21 #[.pointer (some ⟨b, 0, none⟩), .slice (some ⟨wb, 0, none⟩) ws.length ws.length] w fun e w' => e = .returned (.tuple #[]) ∧ PG B b (l ++ lineB ws) w w' := by
  have HV := Lib.hid hv
  have HT := Lib.hid hT
  have HOK := Lib.hid hok
  have HLN := Lib.hid hlen
  have hP0 : PG B b (l ++ upB ws 0) w w := by
    rw [show upB ws 0 = [] from rfl, List.append_nil]
    exact ⟨h, Below.refl _ _, Oth.refl _ _⟩
  have HP0 := Lib.hid hP0
  have ta1 := Tryz.taStr
  have ta2 := Tryz.taIntS
  have ta3 := Tryz.taInt
  clear h hv hT hok hlen hP0
  go_enter Tryz.func21, Tryz.ntmps21
  go_wp2_with fail
  go_loopw [10] (fun s wr => ∃ k : Nat, k ≤ ws.length ∧ s = .int .i64 k ∧ Hid (PG B b (l ++ upB ws k) w wr)) (fun s _ => ws.length - (intOf s).toNat)
  case atStart => exact ⟨0, Nat.zero_le _, rfl, HP0⟩
  case round =>
    obtain ⟨k, hk, rfl, hp⟩ := hrel
    clear HP0
    by_cases hlt : k < ws.length
    · have q := row_at (hp.out.oth.block _ _ HV.out hne (any_not_byte _)) k hlt
      have HUP := Lib.hid (upB_succ ws k hlt)
      have HBw := Lib.hid hB
      have hwo := HOK.out ws[k] (List.getElem_mem hlt)
      cases hw : ws[k] with
      | str s =>
        rw [hw] at q HUP
        unfold cellW at q
        clear hw hwo
        by_cases hk0 : k = 0
        · have hkz : ¬ (0 : Int) < (k : Int) := by omega
          have e0 : sepB k (.str s) = wordB (.str s) := if_pos hk0
          rw [e0] at HUP
          clear hk0 e0
          go_wp2_with fail
          have HWs := Lib.hid (fun W (l' : List UInt8) (hp : Pg B b l' W) (hl : l'.length + s.size ≤ 1000000000) (hBW : B ≤ W.heap.size) => writeString_any B b l' s W hp hl hBW)
          refine (HWs.out _ _ hp.out.pg (by have := HLN.out; have := upB_line ws (k := k + 1) hlt; rw [HUP.out] at this; have e : s.data.toList.length = s.size := (by rw [Array.length_toList]; rfl); simp only [List.length_append, wordB] at this ⊢; (try simp only [List.length_cons, List.length_nil] at this ⊢); omega) (Nat.le_trans HBw.out hp.out.bel.size)).mono ?_
          rintro e w3 ⟨rfl, p3, b3, o3⟩
          have nx := Lib.hid (show PG B b (l ++ upB ws (k + 1)) w w3 from by
            have h3 := hp.out.on p3 b3 o3
            rw [HUP.out]
            simpa [wordB, List.append_assoc] using h3)
          clear p3 b3 o3 hp
          go_wp2_with fail
          go_roundw
          case rel => exact ⟨k + 1, by omega, by go_num, nx⟩
          case measure => simp [intOf]; omega
        · have hkz : (0 : Int) < (k : Int) := by omega
          have e0 : sepB k (.str s) = 32 :: wordB (.str s) := if_neg hk0
          rw [e0] at HUP
          have HWb := Lib.hid (writeByte_any B b _ 32 wr hp.out.pg (by have := HLN.out; have := upB_line ws hk; rw [List.length_append]; omega) (Nat.le_trans hB hp.out.bel.size))
          clear hk0 e0
          go_wp2_with fail
          refine HWb.out.mono ?_
          rintro e w2 ⟨rfl, p2, b2, o2⟩
          have hp2 := Lib.hid (hp.out.on p2 b2 o2)
          clear p2 b2 o2 HWb
          go_wp2_with fail
          have HWs := Lib.hid (fun W (l' : List UInt8) (hp : Pg B b l' W) (hl : l'.length + s.size ≤ 1000000000) (hBW : B ≤ W.heap.size) => writeString_any B b l' s W hp hl hBW)
          refine (HWs.out _ _ hp2.out.pg (by have := HLN.out; have := upB_line ws (k := k + 1) hlt; rw [HUP.out] at this; have e : s.data.toList.length = s.size := (by rw [Array.length_toList]; rfl); simp only [List.length_append, wordB] at this ⊢; (try simp only [List.length_cons, List.length_nil] at this ⊢); omega) (Nat.le_trans HBw.out hp2.out.bel.size)).mono ?_
          rintro e w3 ⟨rfl, p3, b3, o3⟩
          have nx := Lib.hid (show PG B b (l ++ upB ws (k + 1)) w w3 from by
            have h3 := hp2.out.on p3 b3 o3
            rw [HUP.out]
            simpa [wordB, List.append_assoc] using h3)
          clear p3 b3 o3 hp2
          go_wp2_with fail
          go_roundw
          case rel => exact ⟨k + 1, by omega, by go_num, nx⟩
          case measure => simp [intOf]; omega
      | num n =>
        rw [hw] at q HUP hwo
        unfold cellW at q
        have HON : Hid (-9223372036854775808 ≤ n ∧ n ≤ 9223372036854775807) := hwo
        clear hw hwo
        by_cases hk0 : k = 0
        · have hkz : ¬ (0 : Int) < (k : Int) := by omega
          have e0 : sepB k (.num n) = wordB (.num n) := if_pos hk0
          rw [e0] at HUP
          clear hk0 e0
          have HIt := Lib.hid (fun W (hB : Below B w W) => itoa_any B n W (HT.out.low hB (Nat.le_refl _)) HON.out.1 HON.out.2)
          have HWs := Lib.hid (fun W (l' : List UInt8) (hp : Pg B b l' W) (hl : l'.length + (⟨(Lib.itoa n).toArray⟩ : ByteArray).size ≤ 1000000000) (hBW : B ≤ W.heap.size) => writeString_any B b l' ⟨(Lib.itoa n).toArray⟩ W hp hl hBW)
          have hlz := Lib.hid (show ((l ++ upB ws k) : List UInt8).length + (⟨(Lib.itoa n).toArray⟩ : ByteArray).size ≤ 1000000000 from by have := HLN.out; have := upB_line ws (k := k + 1) hlt; rw [HUP.out] at this; have e : (⟨(Lib.itoa n).toArray⟩ : ByteArray).size = (Lib.itoa n).length := (by simp [ByteArray.size]); rw [e]; simp only [List.length_append, wordB] at this ⊢; (try simp only [List.length_cons, List.length_nil] at this ⊢); omega)
          obtain ⟨S, hS⟩ : ∃ S : ByteArray, S = ⟨(Lib.itoa n).toArray⟩ := ⟨_, rfl⟩
          rw [← hS] at HIt HWs hlz
          have HSS := Lib.hid hS
          clear hS
          go_upto_region 11 with fail
          go_region_held3 (fun w' => True)
            (exact trivial)
            (first | (go_at_call 39; refine (HIt.out _ ?_).mono ?_; (repeat (first | exact hp.out.bel | refine Below.drew ?_)); rintro e wI ⟨rfl, b2⟩; have g2 : Below wr.heap.size wr wI := (by repeat (first | exact b2 | refine Below.drew ?_ | refine Below.trans ?_ b2 | exact Below.refl _ _))) | (go_at_call 38; refine (HWs.out _ (l ++ upB ws k) ?_ hlz.out ?_).mono ?_; (repeat (first | exact (hp.out.below g2).pg | refine Pg.below ?_ ((Below.refl _ _).drew) | exact Nat.le_trans HBw.out (hp.out.below g2).bel.size)); rintro e w3 ⟨rfl, p3, b3, o3⟩))
          all_goals
            have nx := Lib.hid (show PG B b (l ++ upB ws (k + 1)) w w3 from by
              have h3 := (hp.out.below g2).on p3 b3 o3
              rw [HUP.out]
              rw [HSS.out] at h3
              simpa [wordB, List.append_assoc] using h3)
            clear p3 b3 o3 g2
            go_wp2_with fail
            go_roundw
            case rel => exact ⟨k + 1, by omega, by go_num, nx⟩
            case measure => simp [intOf]; omega
        · have hkz : (0 : Int) < (k : Int) := by omega
          have e0 : sepB k (.num n) = 32 :: wordB (.num n) := if_neg hk0
          rw [e0] at HUP
          have HWb := Lib.hid (writeByte_any B b _ 32 wr hp.out.pg (by have := HLN.out; have := upB_line ws hk; rw [List.length_append]; omega) (Nat.le_trans hB hp.out.bel.size))
          clear hk0 e0
          go_wp2_with fail
          refine HWb.out.mono ?_
          rintro e w2 ⟨rfl, p2, b2, o2⟩
          have hp2 := Lib.hid (hp.out.on p2 b2 o2)
          clear p2 b2 o2 HWb
          have HIt := Lib.hid (fun W (hB : Below B w W) => itoa_any B n W (HT.out.low hB (Nat.le_refl _)) HON.out.1 HON.out.2)
          have HWs := Lib.hid (fun W (l' : List UInt8) (hp : Pg B b l' W) (hl : l'.length + (⟨(Lib.itoa n).toArray⟩ : ByteArray).size ≤ 1000000000) (hBW : B ≤ W.heap.size) => writeString_any B b l' ⟨(Lib.itoa n).toArray⟩ W hp hl hBW)
          have hlz := Lib.hid (show ((l ++ upB ws k ++ [32]) : List UInt8).length + (⟨(Lib.itoa n).toArray⟩ : ByteArray).size ≤ 1000000000 from by have := HLN.out; have := upB_line ws (k := k + 1) hlt; rw [HUP.out] at this; have e : (⟨(Lib.itoa n).toArray⟩ : ByteArray).size = (Lib.itoa n).length := (by simp [ByteArray.size]); rw [e]; simp only [List.length_append, wordB] at this ⊢; (try simp only [List.length_cons, List.length_nil] at this ⊢); omega)
          obtain ⟨S, hS⟩ : ∃ S : ByteArray, S = ⟨(Lib.itoa n).toArray⟩ := ⟨_, rfl⟩
          rw [← hS] at HIt HWs hlz
          have HSS := Lib.hid hS
          clear hS
          go_upto_region 11 with fail
          go_region_held3 (fun w' => True)
            (exact trivial)
            (first | (go_at_call 39; refine (HIt.out _ ?_).mono ?_; (repeat (first | exact hp2.out.bel | refine Below.drew ?_)); rintro e wI ⟨rfl, b2⟩; have g2 : Below w2.heap.size w2 wI := (by repeat (first | exact b2 | refine Below.drew ?_ | refine Below.trans ?_ b2 | exact Below.refl _ _))) | (go_at_call 38; refine (HWs.out _ (l ++ upB ws k ++ [32]) ?_ hlz.out ?_).mono ?_; (repeat (first | exact (hp2.out.below g2).pg | refine Pg.below ?_ ((Below.refl _ _).drew) | exact Nat.le_trans HBw.out (hp2.out.below g2).bel.size)); rintro e w3 ⟨rfl, p3, b3, o3⟩))
          all_goals
            have nx := Lib.hid (show PG B b (l ++ upB ws (k + 1)) w w3 from by
              have h3 := (hp2.out.below g2).on p3 b3 o3
              rw [HUP.out]
              rw [HSS.out] at h3
              simpa [wordB, List.append_assoc] using h3)
            clear p3 b3 o3 g2
            go_wp2_with fail
            go_roundw
            case rel => exact ⟨k + 1, by omega, by go_num, nx⟩
            case measure => simp [intOf]; omega
    · have hkk : k = ws.length := by omega
      have HWb := Lib.hid (writeByte_any B b _ 10 wr hp.out.pg (by have := HLN.out; have := upB_line ws hk; rw [List.length_append]; omega) (Nat.le_trans hB hp.out.bel.size))
      have HKK := Lib.hid hkk
      clear hkk
      go_wp2_with fail
      refine HWb.out.mono ?_
      rintro e w2 ⟨rfl, p2, b2, o2⟩
      have hp2 := Lib.hid (hp.out.on p2 b2 o2)
      clear p2 b2 o2 HWb
      go_wp2_with fail
      go_end0
      refine ⟨rfl, ?_⟩
      have := hp2.out
      rw [HKK.out, List.append_assoc] at this
      exact this
end Go.Proofs.YtgdaljpimblkgaaGreatDoor
