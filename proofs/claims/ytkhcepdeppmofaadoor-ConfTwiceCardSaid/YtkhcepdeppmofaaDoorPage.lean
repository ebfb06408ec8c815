/- Package conf: a line of a page. -/
import Derived.Test.YtkhcepdeppmofaaDoorBuild
import Derived.Test.YtkhcepdeppmofaaDoorShelf
import Derived.Lib.AppendIntMem
import Derived.Deep.RegionHeld3
namespace Go.Proofs.YtkhcepdeppmofaaDoor
open Go.RowKit
set_option linter.unusedVariables false

/-- The table that strconv.Itoa reads; it lies below B. -/
def TabB (B : Nat) (w : World) : Prop := Lib.TabBelow Tryd.prog B w "internal/strconv.uint64pow10" .u64 Lib.pow10Tab
theorem TabB.low {B C : Nat} {w w' : World} (h : TabB B w) (b : Below C w w') (hC : B ≤ C) : TabB B w' := fun W hW => h W ((b.mono hC).trans hW)
theorem grow_below (w : World) (k : Nat) (os : Array Obj) : Below w.heap.size w (Sort.grow (w.drewN k) os) := by
  refine ⟨rfl, rfl, rfl, ?_, fun i hi => ?_⟩
  · show w.heap.size ≤ (w.heap ++ os).size
    rw [Array.size_append]; omega
  · show (w.heap ++ os)[i]? = w.heap[i]?
    rw [Array.getElem?_append_left hi]
theorem itoa_any (B : Nat) (n : Int) (w : World) (hT : TabB B w) (h0 : -9223372036854775808 ≤ n) (h1 : n ≤ 9223372036854775807) :
    Calls Tryd.prog 118 #[.int .i64 n] w fun e w' => e = .returned (.string ⟨(Lib.itoa n).toArray⟩) ∧ Below w.heap.size w w' := by
  refine (Tryd.strconv_Itoa n h0 h1 w (hT w (Below.refl _ _))).mono ?_
  rintro e w' ⟨rfl, k, os, rfl⟩
  exact ⟨rfl, grow_below w k os⟩

inductive W1 where
  | str (s : ByteArray)
  | num (n : Int)
def wordB : W1 → List UInt8
  | .str s => s.data.toList
  | .num n => Lib.itoa n
def cellW : W1 → Value
  | .str s => .iface 9 (.string s)
  | .num n => .iface 3 (.int .i64 n)
def W1Ok : W1 → Prop
  | .str _ => True
  | .num n => -9223372036854775808 ≤ n ∧ n ≤ 9223372036854775807
def sepB (i : Nat) (x : W1) : List UInt8 := if i = 0 then wordB x else 32 :: wordB x
def upB (ws : List W1) (k : Nat) : List UInt8 := (List.range k).flatMap (fun i => sepB i (ws.getD i (.num 0)))
def lineB (ws : List W1) : List UInt8 := upB ws ws.length ++ [10]
theorem upB_succ (ws : List W1) (k : Nat) (hk : k < ws.length) : upB ws (k + 1) = upB ws k ++ sepB k ws[k] := by
  unfold upB
  rw [List.range_succ, List.flatMap_append]
  simp [hk]
theorem upB_le (ws : List W1) : ∀ (m k : Nat), (upB ws k).length ≤ (upB ws (k + m)).length
  | 0, k => Nat.le_refl _
  | m + 1, k => by
    refine Nat.le_trans (upB_le ws m k) ?_
    show _ ≤ (upB ws (k + m + 1)).length
    unfold upB
    rw [List.range_succ, List.flatMap_append, List.length_append]
    omega
theorem upB_line (ws : List W1) {k : Nat} (hk : k ≤ ws.length) : (upB ws k).length < (lineB ws).length := by
  have := upB_le ws (ws.length - k) k
  rw [show k + (ws.length - k) = ws.length by omega] at this
  unfold lineB
  rw [List.length_append, List.length_singleton]
  omega

theorem Tryd.taStr (s : ByteArray) (W : World) : (Instr.typeAssert (.iface 9 (.string s)) 20 9 true).run Tryd.prog W = .ok (.tuple #[.string s, .bool true]) W := by kernel_rfl
theorem Tryd.taIntS (n : Int) (W : World) : (Instr.typeAssert (.iface 3 (.int .i64 n)) 20 9 true).run Tryd.prog W = .ok (.tuple #[.string ByteArray.empty, .bool false]) W := by kernel_rfl
theorem Tryd.taInt (n : Int) (W : World) : (Instr.typeAssert (.iface 3 (.int .i64 n)) 20 3 true).run Tryd.prog W = .ok (.tuple #[.int .i64 n, .bool true]) W := by kernel_rfl
/-- A page under way. -/
structure PG (B b : Nat) (l : List UInt8) (w0 w : World) : Prop where
  pg : Pg B b l w
  bel : Below B w0 w
  oth : Oth b w0 w
theorem PG.on {B b : Nat} {l l' : List UInt8} {w0 w w' : World} (h : PG B b l w0 w) (p : Pg B b l' w') (b1 : Below B w w') (o : Oth b w w') : PG B b l' w0 w' := ⟨p, h.bel.trans b1, h.oth.trans o⟩
theorem PG.below {B b : Nat} {l : List UInt8} {w0 w w' : World} (h : PG B b l w0 w) (k : Below w.heap.size w w') : PG B b l w0 w' := by
  have hl := h.pg.lt
  exact ⟨h.pg.below k, h.bel.trans (k.mono (by omega)), h.oth.trans (Oth.below k)⟩
theorem any_not_byte (cs : Array Value) : ¬ ByteObj (.cells cs 20) := by
  show ¬ (20 = 5)
  decide
theorem row_at {w : World} {wb : Nat} {ws : List W1} {T : TypeId} (h : w.heap[wb]? = some (.cells (ws.map cellW).toArray T)) (k : Nat) (hk : k < ws.length) : w.cell? ⟨wb, k, none⟩ = some (cellW ws[k]) := by
  rw [cell_of_row w wb k _ _ _ h]
  simp [hk]
set_option maxRecDepth 100000 in
set_option maxHeartbeats 4000000 in
theorem pageLine_any (B b : Nat) (l : List UInt8) (ws : List W1) (wb : Nat) (w : World) (h : Pg B b l w) (hB : B ≤ w.heap.size) (hT : TabB B w) (hok : ∀ x ∈ ws, W1Ok x) (hv : w.heap[wb]? = some (.cells (ws.map cellW).toArray 20)) (hne : wb ≠ b) (hlen : l.length + (lineB ws).length ≤ 1000000) (hn : ws.length ≤ 1000) :
    Calls Tryd.prog 82 #[.pointer (some ⟨b, 0, none⟩), .slice (some ⟨wb, 0, none⟩) ws.length ws.length] w fun e w' => e = .returned (.tuple #[]) ∧ PG B b (l ++ lineB ws) w w' := by
  have HV := Lib.hid hv
  have HT := Lib.hid hT
  have HOK := Lib.hid hok
  have HLN := Lib.hid hlen
  have hP0 : PG B b (l ++ upB ws 0) w w := by
    rw [show upB ws 0 = [] from rfl, List.append_nil]
    exact ⟨h, Below.refl _ _, Oth.refl _ _⟩
  have HP0 := Lib.hid hP0
  have ta1 := Tryd.taStr
  have ta2 := Tryd.taIntS
  have ta3 := Tryd.taInt
  clear h hv hT hok hlen hP0
  go_enter Tryd.func82, Tryd.ntmps82
  go_wp2_with fail
  go_loopw [10] (fun s wr => ∃ k : Nat, k ≤ ws.length ∧ s = .int .i64 k ∧ Hid (PG B b (l ++ upB ws k) w wr)) (fun s _ => ws.length - (intOf s).toNat)
  case atStart => exact ⟨0, Nat.zero_le _, rfl, HP0⟩
  case round =>
    obtain ⟨k, hk, rfl, hp⟩ := hrel
    clear HP0
    by_cases hlt : k < ws.length
    · have q := row_at (hp.out.oth.block _ _ HV.out hne (any_not_byte _)) k hlt
      have HUP := Lib.hid (upB_succ ws k hlt)
      have HBw := Lib.hid hB
      have hwo := HOK.out ws[k] (List.getElem_mem hlt)
      cases hw : ws[k] with
      | str s =>
        rw [hw] at q HUP
        unfold cellW at q
        clear hw hwo
        by_cases hk0 : k = 0
        · have hkz : ¬ (0 : Int) < (k : Int) := by omega
          have e0 : sepB k (.str s) = wordB (.str s) := if_pos hk0
          rw [e0] at HUP
          clear hk0 e0
          go_wp2_with fail
          have HWs := Lib.hid (fun W (l' : List UInt8) (hp : Pg B b l' W) (hl : l'.length + s.size ≤ 1000000000) (hBW : B ≤ W.heap.size) => writeString_any B b l' s W hp hl hBW)
          refine (HWs.out _ _ hp.out.pg (by have := HLN.out; have := upB_line ws (k := k + 1) hlt; rw [HUP.out] at this; have e : s.data.toList.length = s.size := (by rw [Array.length_toList]; rfl); simp only [List.length_append, wordB] at this ⊢; (try simp only [List.length_cons, List.length_nil] at this ⊢); omega) (Nat.le_trans HBw.out hp.out.bel.size)).mono ?_
          rintro e w3 ⟨rfl, p3, b3, o3⟩
          have nx := Lib.hid (show PG B b (l ++ upB ws (k + 1)) w w3 from by
            have h3 := hp.out.on p3 b3 o3
            rw [HUP.out]
            simpa [wordB, List.append_assoc] using h3)
          clear p3 b3 o3 hp
          go_wp2_with fail
          go_roundw
          case rel => exact ⟨k + 1, by omega, by go_num, nx⟩
          case measure => simp [intOf]; omega
        · have hkz : (0 : Int) < (k : Int) := by omega
          have e0 : sepB k (.str s) = 32 :: wordB (.str s) := if_neg hk0
          rw [e0] at HUP
          have HWb := Lib.hid (writeByte_any B b _ 32 wr hp.out.pg (by have := HLN.out; have := upB_line ws hk; rw [List.length_append]; omega) (Nat.le_trans hB hp.out.bel.size))
          clear hk0 e0
          go_wp2_with fail
          refine HWb.out.mono ?_
          rintro e w2 ⟨rfl, p2, b2, o2⟩
          have hp2 := Lib.hid (hp.out.on p2 b2 o2)
          clear p2 b2 o2 HWb
          go_wp2_with fail
          have HWs := Lib.hid (fun W (l' : List UInt8) (hp : Pg B b l' W) (hl : l'.length + s.size ≤ 1000000000) (hBW : B ≤ W.heap.size) => writeString_any B b l' s W hp hl hBW)
          refine (HWs.out _ _ hp2.out.pg (by have := HLN.out; have := upB_line ws (k := k + 1) hlt; rw [HUP.out] at this; have e : s.data.toList.length = s.size := (by rw [Array.length_toList]; rfl); simp only [List.length_append, wordB] at this ⊢; (try simp only [List.length_cons, List.length_nil] at this ⊢); omega) (Nat.le_trans HBw.out hp2.out.bel.size)).mono ?_
          rintro e w3 ⟨rfl, p3, b3, o3⟩
          have nx := Lib.hid (show PG B b (l ++ upB ws (k + 1)) w w3 from by
            have h3 := hp2.out.on p3 b3 o3
            rw [HUP.out]
            simpa [wordB, List.append_assoc] using h3)
          clear p3 b3 o3 hp2
          go_wp2_with fail
          go_roundw
          case rel => exact ⟨k + 1, by omega, by go_num, nx⟩
          case measure => simp [intOf]; omega
      | num n =>
        rw [hw] at q HUP hwo
        unfold cellW at q
        have HON : Hid (-9223372036854775808 ≤ n ∧ n ≤ 9223372036854775807) := hwo
        clear hw hwo
        by_cases hk0 : k = 0
        · have hkz : ¬ (0 : Int) < (k : Int) := by omega
          have e0 : sepB k (.num n) = wordB (.num n) := if_pos hk0
          rw [e0] at HUP
          clear hk0 e0
          have HIt := Lib.hid (fun W (hB : Below B w W) => itoa_any B n W (HT.out.low hB (Nat.le_refl _)) HON.out.1 HON.out.2)
          have HWs := Lib.hid (fun W (l' : List UInt8) (hp : Pg B b l' W) (hl : l'.length + (⟨(Lib.itoa n).toArray⟩ : ByteArray).size ≤ 1000000000) (hBW : B ≤ W.heap.size) => writeString_any B b l' ⟨(Lib.itoa n).toArray⟩ W hp hl hBW)
          have hlz := Lib.hid (show ((l ++ upB ws k) : List UInt8).length + (⟨(Lib.itoa n).toArray⟩ : ByteArray).size ≤ 1000000000 from by have := HLN.out; have := upB_line ws (k := k + 1) hlt; rw [HUP.out] at this; have e : (⟨(Lib.itoa n).toArray⟩ : ByteArray).size = (Lib.itoa n).length := (by simp [ByteArray.size]); rw [e]; simp only [List.length_append, wordB] at this ⊢; (try simp only [List.length_cons, List.length_nil] at this ⊢); omega)
          obtain ⟨S, hS⟩ : ∃ S : ByteArray, S = ⟨(Lib.itoa n).toArray⟩ := ⟨_, rfl⟩
          rw [← hS] at HIt HWs hlz
          have HSS := Lib.hid hS
          clear hS
          go_upto_region 11 with fail
          go_region_held3 (fun w' => True)
            (exact trivial)
            (first | (go_at_call 118; refine (HIt.out _ ?_).mono ?_; (repeat (first | exact hp.out.bel | refine Below.drew ?_)); rintro e wI ⟨rfl, b2⟩; have g2 : Below wr.heap.size wr wI := (by repeat (first | exact b2 | refine Below.drew ?_ | refine Below.trans ?_ b2 | exact Below.refl _ _))) | (go_at_call 117; refine (HWs.out _ (l ++ upB ws k) ?_ hlz.out ?_).mono ?_; (repeat (first | exact (hp.out.below g2).pg | refine Pg.below ?_ ((Below.refl _ _).drew) | exact Nat.le_trans HBw.out (hp.out.below g2).bel.size)); rintro e w3 ⟨rfl, p3, b3, o3⟩))
          all_goals
            have nx := Lib.hid (show PG B b (l ++ upB ws (k + 1)) w w3 from by
              have h3 := (hp.out.below g2).on p3 b3 o3
              rw [HUP.out]
              rw [HSS.out] at h3
              simpa [wordB, List.append_assoc] using h3)
            clear p3 b3 o3 g2
            go_wp2_with fail
            go_roundw
            case rel => exact ⟨k + 1, by omega, by go_num, nx⟩
            case measure => simp [intOf]; omega
        · have hkz : (0 : Int) < (k : Int) := by omega
          have e0 : sepB k (.num n) = 32 :: wordB (.num n) := if_neg hk0
          rw [e0] at HUP
          have HWb := Lib.hid (writeByte_any B b _ 32 wr hp.out.pg (by have := HLN.out; have := upB_line ws hk; rw [List.length_append]; omega) (Nat.le_trans hB hp.out.bel.size))
          clear hk0 e0
          go_wp2_with fail
          refine HWb.out.mono ?_
          rintro e w2 ⟨rfl, p2, b2, o2⟩
          have hp2 := Lib.hid (hp.out.on p2 b2 o2)
          clear p2 b2 o2 HWb
          have HIt := Lib.hid (fun W (hB : Below B w W) => itoa_any B n W (HT.out.low hB (Nat.le_refl _)) HON.out.1 HON.out.2)
          have HWs := Lib.hid (fun W (l' : List UInt8) (hp : Pg B b l' W) (hl : l'.length + (⟨(Lib.itoa n).toArray⟩ : ByteArray).size ≤ 1000000000) (hBW : B ≤ W.heap.size) => writeString_any B b l' ⟨(Lib.itoa n).toArray⟩ W hp hl hBW)
          have hlz := Lib.hid (show ((l ++ upB ws k ++ [32]) : List UInt8).length + (⟨(Lib.itoa n).toArray⟩ : ByteArray).size ≤ 1000000000 from by have := HLN.out; have := upB_line ws (k := k + 1) hlt; rw [HUP.out] at this; have e : (⟨(Lib.itoa n).toArray⟩ : ByteArray).size = (Lib.itoa n).length := (by simp [ByteArray.size]); rw [e]; simp only [List.length_append, wordB] at this ⊢; (try simp only [List.length_cons, List.length_nil] at this ⊢); omega)
          obtain ⟨S, hS⟩ : ∃ S : ByteArray, S = ⟨(Lib.itoa n).toArray⟩ := ⟨_, rfl⟩
          rw [← hS] at HIt HWs hlz
          have HSS := Lib.hid hS
          clear hS
          go_upto_region 11 with fail
          go_region_held3 (fun w' => True)
            (exact trivial)
            (first | (go_at_call 118; refine (HIt.out _ ?_).mono ?_; (repeat (first | exact hp2.out.bel | refine Below.drew ?_)); rintro e wI ⟨rfl, b2⟩; have g2 : Below w2.heap.size w2 wI := (by repeat (first | exact b2 | refine Below.drew ?_ | refine Below.trans ?_ b2 | exact Below.refl _ _))) | (go_at_call 117; refine (HWs.out _ (l ++ upB ws k ++ [32]) ?_ hlz.out ?_).mono ?_; (repeat (first | exact (hp2.out.below g2).pg | refine Pg.below ?_ ((Below.refl _ _).drew) | exact Nat.le_trans HBw.out (hp2.out.below g2).bel.size)); rintro e w3 ⟨rfl, p3, b3, o3⟩))
          all_goals
            have nx := Lib.hid (show PG B b (l ++ upB ws (k + 1)) w w3 from by
              have h3 := (hp2.out.below g2).on p3 b3 o3
              rw [HUP.out]
              rw [HSS.out] at h3
              simpa [wordB, List.append_assoc] using h3)
            clear p3 b3 o3 g2
            go_wp2_with fail
            go_roundw
            case rel => exact ⟨k + 1, by omega, by go_num, nx⟩
            case measure => simp [intOf]; omega
    · have hkk : k = ws.length := by omega
      have HWb := Lib.hid (writeByte_any B b _ 10 wr hp.out.pg (by have := HLN.out; have := upB_line ws hk; rw [List.length_append]; omega) (Nat.le_trans hB hp.out.bel.size))
      have HKK := Lib.hid hkk
      clear hkk
      go_wp2_with fail
      refine HWb.out.mono ?_
      rintro e w2 ⟨rfl, p2, b2, o2⟩
      have hp2 := Lib.hid (hp.out.on p2 b2 o2)
      clear p2 b2 o2 HWb
      go_wp2_with fail
      go_end0
      refine ⟨rfl, ?_⟩
      have := hp2.out
      rw [HKK.out, List.append_assoc] at this
      exact this
end Go.Proofs.YtkhcepdeppmofaaDoor
