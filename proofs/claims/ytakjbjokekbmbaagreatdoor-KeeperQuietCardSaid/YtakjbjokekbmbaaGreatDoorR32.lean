/- Package conf: a line of a page. -/
import Derived.Test.YtakjbjokekbmbaaGreatDoorR31
import Derived.Test.YtakjbjokekbmbaaGreatDoorShelf
import Derived.Lib.AppendIntMem
import Derived.Deep.RegionHeld3
import Derived.Test.YtakjbjokekbmbaaGreatDoorR25
import Derived.Shelf.RegionOpenPlain
import Derived.Lib.ItoaLen
import Derived.Test.YtakjbjokekbmbaaGreatDoorR01
import Derived.MapKept
import Derived.Carry
namespace Go.Proofs.YtakjbjokekbmbaaGreatDoor
open Go.RowKit
set_option linter.unusedVariables false

/-- The table that strconv.Itoa reads; it lies below B. -/
def TabB (B : Nat) (w : World) : Prop := Lib.TabBelow Tryz.prog B w "internal/strconv.uint64pow10" .u64 Lib.pow10Tab
theorem TabB.low {B C : Nat} {w w' : World} (h : TabB B w) (b : Below C w w') (hC : B ≤ C) : TabB B w' := fun W hW => h W ((b.mono hC).trans hW)
theorem grow_below (w : World) (k : Nat) (os : Array Obj) : Below w.heap.size w (Sort.grow (w.drewN k) os) := by
  refine ⟨rfl, rfl, rfl, ?_, fun i hi => ?_⟩
  · show w.heap.size ≤ (w.heap ++ os).size
    rw [Array.size_append]; omega
  · show (w.heap ++ os)[i]? = w.heap[i]?
    rw [Array.getElem?_append_left hi]
theorem itoa_any (B : Nat) (n : Int) (w : World) (hT : TabB B w) (h0 : -9223372036854775808 ≤ n) (h1 : n ≤ 9223372036854775807) :
    Calls Tryz.prog 101 #[.int .i64 n] w fun e w' => e = .returned (.string ⟨(Lib.itoa n).toArray⟩) ∧ Below w.heap.size w w' := by
  refine (Tryz.strconv_Itoa n h0 h1 w (hT w (Below.refl _ _))).mono ?_
  rintro e w' ⟨rfl, k, os, rfl⟩
  exact ⟨rfl, grow_below w k os⟩

inductive W1 where
  | str (s : ByteArray)
  | num (n : Int)
def wordB : W1 → List UInt8
  | .str s => s.data.toList
  | .num n => Lib.itoa n
def cellW : W1 → Value
  | .str s => .iface 9 (.string s)
  | .num n => .iface 3 (.int .i64 n)
def W1Ok : W1 → Prop
  | .str _ => True
  | .num n => -9223372036854775808 ≤ n ∧ n ≤ 9223372036854775807
def sepB (i : Nat) (x : W1) : List UInt8 := if i = 0 then wordB x else 32 :: wordB x
def upB (ws : List W1) (k : Nat) : List UInt8 := (List.range k).flatMap (fun i => sepB i (ws.getD i (.num 0)))
def lineB (ws : List W1) : List UInt8 := upB ws ws.length ++ [10]
theorem upB_succ (ws : List W1) (k : Nat) (hk : k < ws.length) : upB ws (k + 1) = upB ws k ++ sepB k ws[k] := by
  unfold upB
  rw [List.range_succ, List.flatMap_append]
  simp [hk]
theorem upB_le (ws : List W1) : ∀ (m k : Nat), (upB ws k).length ≤ (upB ws (k + m)).length
  | 0, k => Nat.le_refl _
  | m + 1, k => by
    refine Nat.le_trans (upB_le ws m k) ?_
    show _ ≤ (upB ws (k + m + 1)).length
    unfold upB
    rw [List.range_succ, List.flatMap_append, List.length_append]
    omega
theorem upB_line (ws : List W1) {k : Nat} (hk : k ≤ ws.length) : (upB ws k).length < (lineB ws).length := by
  have := upB_le ws (ws.length - k) k
  rw [show k + (ws.length - k) = ws.length by omega] at this
  unfold lineB
  rw [List.length_append, List.length_singleton]
  omega

theorem Tryz.taStr (s : ByteArray) (W : World) : (Instr.typeAssert (.iface 9 (.string s)) 20 9 true).run Tryz.prog W = .ok (.tuple #[.string s, .bool true]) W := by kernel_rfl
theorem Tryz.taIntS (n : Int) (W : World) : (Instr.typeAssert (.iface 3 (.int .i64 n)) 20 9 true).run Tryz.prog W = .ok (.tuple #[.string ByteArray.empty, .bool false]) W := by kernel_rfl
theorem Tryz.taInt (n : Int) (W : World) : (Instr.typeAssert (.iface 3 (.int .i64 n)) 20 3 true).run Tryz.prog W = .ok (.tuple #[.int .i64 n, .bool true]) W := by kernel_rfl
/-- A page under way. -/
structure PG (B b : Nat) (l : List UInt8) (w0 w : World) : Prop where
  pg : Pg B b l w
  bel : Below B w0 w
  oth : Oth b w0 w
theorem PG.on {B b : Nat} {l l' : List UInt8} {w0 w w' : World} (h : PG B b l w0 w) (p : Pg B b l' w') (b1 : Below B w w') (o : Oth b w w') : PG B b l' w0 w' := ⟨p, h.bel.trans b1, h.oth.trans o⟩
theorem PG.below {B b : Nat} {l : List UInt8} {w0 w w' : World} (h : PG B b l w0 w) (k : Below w.heap.size w w') : PG B b l w0 w' := by
  have hl := h.pg.lt
  exact ⟨h.pg.below k, h.bel.trans (k.mono (by omega)), h.oth.trans (Oth.below k)⟩
theorem any_not_byte (cs : Array Value) : ¬ ByteObj (.cells cs 20) := by
  show ¬ (20 = 5)
  decide
theorem row_at {w : World} {wb : Nat} {ws : List W1} {T : TypeId} (h : w.heap[wb]? = some (.cells (ws.map cellW).toArray T)) (k : Nat) (hk : k < ws.length) : w.cell? ⟨wb, k, none⟩ = some (cellW ws[k]) := by
  rw [cell_of_row w wb k _ _ _ h]
  simp [hk]
set_option maxRecDepth 100000 in
set_option maxHeartbeats 4000000 in
theorem pageLine_any (B b : Nat) (l : List UInt8) (ws : List W1) (wb : Nat) (w : World) (h : Pg B b l w) (hB : B ≤ w.heap.size) (hT : TabB B w) (hok : ∀ x ∈ ws, W1Ok x) (hv : w.heap[wb]? = some (.cells (ws.map cellW).toArray 20)) (hne : wb ≠ b) (hlen : l.length + (lineB ws).length ≤ 1000000) (hn : ws.length ≤ 1000) :
    Calls Tryz.prog 75 #[.pointer (some ⟨b, 0, none⟩), .slice (some ⟨wb, 0, none⟩) ws.length ws.length] w fun e w' => e = .returned (.tuple #[]) ∧ PG B b (l ++ lineB ws) w w' := by
  have HV := Lib.hid hv
  have HT := Lib.hid hT
  have HOK := Lib.hid hok
  have HLN := Lib.hid hlen
  have hP0 : PG B b (l ++ upB ws 0) w w := by
    rw [show upB ws 0 = [] from rfl, List.append_nil]
    exact ⟨h, Below.refl _ _, Oth.refl _ _⟩
  have HP0 := Lib.hid hP0
  have ta1 := Tryz.taStr
  have ta2 := Tryz.taIntS
  have ta3 := Tryz.taInt
  clear h hv hT hok hlen hP0
  go_enter Tryz.func75, Tryz.ntmps75
  go_wp2_with fail
  go_loopw [10] (fun s wr => ∃ k : Nat, k ≤ ws.length ∧ s = .int .i64 k ∧ Hid (PG B b (l ++ upB ws k) w wr)) (fun s _ => ws.length - (intOf s).toNat)
  case atStart => exact ⟨0, Nat.zero_le _, rfl, HP0⟩
  case round =>
    obtain ⟨k, hk, rfl, hp⟩ := hrel
    clear HP0
    by_cases hlt : k < ws.length
    · have q := row_at (hp.out.oth.block _ _ HV.out hne (any_not_byte _)) k hlt
      have HUP := Lib.hid (upB_succ ws k hlt)
      have HBw := Lib.hid hB
      have hwo := HOK.out ws[k] (List.getElem_mem hlt)
      cases hw : ws[k] with
      | str s =>
        rw [hw] at q HUP
        unfold cellW at q
        clear hw hwo
        by_cases hk0 : k = 0
        · have hkz : ¬ (0 : Int) < (k : Int) := by omega
          have e0 : sepB k (.str s) = wordB (.str s) := if_pos hk0
          rw [e0] at HUP
          clear hk0 e0
          go_wp2_with fail
          have HWs := Lib.hid (fun W (l' : List UInt8) (hp : Pg B b l' W) (hl : l'.length + s.size ≤ 1000000000) (hBW : B ≤ W.heap.size) => writeString_any B b l' s W hp hl hBW)
          refine (HWs.out _ _ hp.out.pg (by have := HLN.out; have := upB_line ws (k := k + 1) hlt; rw [HUP.out] at this; have e : s.data.toList.length = s.size := (by rw [Array.length_toList]; rfl); simp only [List.length_append, wordB] at this ⊢; (try simp only [List.length_cons, List.length_nil] at this ⊢); omega) (Nat.le_trans HBw.out hp.out.bel.size)).mono ?_
          rintro e w3 ⟨rfl, p3, b3, o3⟩
          have nx := Lib.hid (show PG B b (l ++ upB ws (k + 1)) w w3 from by
            have h3 := hp.out.on p3 b3 o3
            rw [HUP.out]
            simpa [wordB, List.append_assoc] using h3)
          clear p3 b3 o3 hp
          go_wp2_with fail
          go_roundw
          case rel => exact ⟨k + 1, by omega, by go_num, nx⟩
          case measure => simp [intOf]; omega
        · have hkz : (0 : Int) < (k : Int) := by omega
          have e0 : sepB k (.str s) = 32 :: wordB (.str s) := if_neg hk0
          rw [e0] at HUP
          have HWb := Lib.hid (writeByte_any B b _ 32 wr hp.out.pg (by have := HLN.out; have := upB_line ws hk; rw [List.length_append]; omega) (Nat.le_trans hB hp.out.bel.size))
          clear hk0 e0
          go_wp2_with fail
          refine HWb.out.mono ?_
          rintro e w2 ⟨rfl, p2, b2, o2⟩
          have hp2 := Lib.hid (hp.out.on p2 b2 o2)
          clear p2 b2 o2 HWb
          go_wp2_with fail
          have HWs := Lib.hid (fun W (l' : List UInt8) (hp : Pg B b l' W) (hl : l'.length + s.size ≤ 1000000000) (hBW : B ≤ W.heap.size) => writeString_any B b l' s W hp hl hBW)
          refine (HWs.out _ _ hp2.out.pg (by have := HLN.out; have := upB_line ws (k := k + 1) hlt; rw [HUP.out] at this; have e : s.data.toList.length = s.size := (by rw [Array.length_toList]; rfl); simp only [List.length_append, wordB] at this ⊢; (try simp only [List.length_cons, List.length_nil] at this ⊢); omega) (Nat.le_trans HBw.out hp2.out.bel.size)).mono ?_
          rintro e w3 ⟨rfl, p3, b3, o3⟩
          have nx := Lib.hid (show PG B b (l ++ upB ws (k + 1)) w w3 from by
            have h3 := hp2.out.on p3 b3 o3
            rw [HUP.out]
            simpa [wordB, List.append_assoc] using h3)
          clear p3 b3 o3 hp2
          go_wp2_with fail
          go_roundw
          case rel => exact ⟨k + 1, by omega, by go_num, nx⟩
          case measure => simp [intOf]; omega
      | num n =>
        rw [hw] at q HUP hwo
        unfold cellW at q
        have HON : Hid (-9223372036854775808 ≤ n ∧ n ≤ 9223372036854775807) := hwo
        clear hw hwo
        by_cases hk0 : k = 0
        · have hkz : ¬ (0 : Int) < (k : Int) := by omega
          have e0 : sepB k (.num n) = wordB (.num n) := if_pos hk0
          rw [e0] at HUP
          clear hk0 e0
          have HIt := Lib.hid (fun W (hB : Below B w W) => itoa_any B n W (HT.out.low hB (Nat.le_refl _)) HON.out.1 HON.out.2)
          have HWs := Lib.hid (fun W (l' : List UInt8) (hp : Pg B b l' W) (hl : l'.length + (⟨(Lib.itoa n).toArray⟩ : ByteArray).size ≤ 1000000000) (hBW : B ≤ W.heap.size) => writeString_any B b l' ⟨(Lib.itoa n).toArray⟩ W hp hl hBW)
          have hlz := Lib.hid (show ((l ++ upB ws k) : List UInt8).length + (⟨(Lib.itoa n).toArray⟩ : ByteArray).size ≤ 1000000000 from by have := HLN.out; have := upB_line ws (k := k + 1) hlt; rw [HUP.out] at this; have e : (⟨(Lib.itoa n).toArray⟩ : ByteArray).size = (Lib.itoa n).length := (by simp [ByteArray.size]); rw [e]; simp only [List.length_append, wordB] at this ⊢; (try simp only [List.length_cons, List.length_nil] at this ⊢); omega)
          obtain ⟨S, hS⟩ : ∃ S : ByteArray, S = ⟨(Lib.itoa n).toArray⟩ := ⟨_, rfl⟩
          rw [← hS] at HIt HWs hlz
          have HSS := Lib.hid hS
          clear hS
          go_upto_region 11 with fail
          go_region_held3 (fun w' => True)
            (exact trivial)
            (first | (go_at_call 101; refine (HIt.out _ ?_).mono ?_; (repeat (first | exact hp.out.bel | refine Below.drew ?_)); rintro e wI ⟨rfl, b2⟩; have g2 : Below wr.heap.size wr wI := (by repeat (first | exact b2 | refine Below.drew ?_ | refine Below.trans ?_ b2 | exact Below.refl _ _))) | (go_at_call 100; refine (HWs.out _ (l ++ upB ws k) ?_ hlz.out ?_).mono ?_; (repeat (first | exact (hp.out.below g2).pg | refine Pg.below ?_ ((Below.refl _ _).drew) | exact Nat.le_trans HBw.out (hp.out.below g2).bel.size)); rintro e w3 ⟨rfl, p3, b3, o3⟩))
          all_goals
            have nx := Lib.hid (show PG B b (l ++ upB ws (k + 1)) w w3 from by
              have h3 := (hp.out.below g2).on p3 b3 o3
              rw [HUP.out]
              rw [HSS.out] at h3
              simpa [wordB, List.append_assoc] using h3)
            clear p3 b3 o3 g2
            go_wp2_with fail
            go_roundw
            case rel => exact ⟨k + 1, by omega, by go_num, nx⟩
            case measure => simp [intOf]; omega
        · have hkz : (0 : Int) < (k : Int) := by omega
          have e0 : sepB k (.num n) = 32 :: wordB (.num n) := if_neg hk0
          rw [e0] at HUP
          have HWb := Lib.hid (writeByte_any B b _ 32 wr hp.out.pg (by have := HLN.out; have := upB_line ws hk; rw [List.length_append]; omega) (Nat.le_trans hB hp.out.bel.size))
          clear hk0 e0
          go_wp2_with fail
          refine HWb.out.mono ?_
          rintro e w2 ⟨rfl, p2, b2, o2⟩
          have hp2 := Lib.hid (hp.out.on p2 b2 o2)
          clear p2 b2 o2 HWb
          have HIt := Lib.hid (fun W (hB : Below B w W) => itoa_any B n W (HT.out.low hB (Nat.le_refl _)) HON.out.1 HON.out.2)
          have HWs := Lib.hid (fun W (l' : List UInt8) (hp : Pg B b l' W) (hl : l'.length + (⟨(Lib.itoa n).toArray⟩ : ByteArray).size ≤ 1000000000) (hBW : B ≤ W.heap.size) => writeString_any B b l' ⟨(Lib.itoa n).toArray⟩ W hp hl hBW)
          have hlz := Lib.hid (show ((l ++ upB ws k ++ [32]) : List UInt8).length + (⟨(Lib.itoa n).toArray⟩ : ByteArray).size ≤ 1000000000 from by have := HLN.out; have := upB_line ws (k := k + 1) hlt; rw [HUP.out] at this; have e : (⟨(Lib.itoa n).toArray⟩ : ByteArray).size = (Lib.itoa n).length := (by simp [ByteArray.size]); rw [e]; simp only [List.length_append, wordB] at this ⊢; (try simp only [List.length_cons, List.length_nil] at this ⊢); omega)
          obtain ⟨S, hS⟩ : ∃ S : ByteArray, S = ⟨(Lib.itoa n).toArray⟩ := ⟨_, rfl⟩
          rw [← hS] at HIt HWs hlz
          have HSS := Lib.hid hS
          clear hS
          go_upto_region 11 with fail
          go_region_held3 (fun w' => True)
            (exact trivial)
            (first | (go_at_call 101; refine (HIt.out _ ?_).mono ?_; (repeat (first | exact hp2.out.bel | refine Below.drew ?_)); rintro e wI ⟨rfl, b2⟩; have g2 : Below w2.heap.size w2 wI := (by repeat (first | exact b2 | refine Below.drew ?_ | refine Below.trans ?_ b2 | exact Below.refl _ _))) | (go_at_call 100; refine (HWs.out _ (l ++ upB ws k ++ [32]) ?_ hlz.out ?_).mono ?_; (repeat (first | exact (hp2.out.below g2).pg | refine Pg.below ?_ ((Below.refl _ _).drew) | exact Nat.le_trans HBw.out (hp2.out.below g2).bel.size)); rintro e w3 ⟨rfl, p3, b3, o3⟩))
          all_goals
            have nx := Lib.hid (show PG B b (l ++ upB ws (k + 1)) w w3 from by
              have h3 := (hp2.out.below g2).on p3 b3 o3
              rw [HUP.out]
              rw [HSS.out] at h3
              simpa [wordB, List.append_assoc] using h3)
            clear p3 b3 o3 g2
            go_wp2_with fail
            go_roundw
            case rel => exact ⟨k + 1, by omega, by go_num, nx⟩
            case measure => simp [intOf]; omega
    · have hkk : k = ws.length := by omega
      have HWb := Lib.hid (writeByte_any B b _ 10 wr hp.out.pg (by have := HLN.out; have := upB_line ws hk; rw [List.length_append]; omega) (Nat.le_trans hB hp.out.bel.size))
      have HKK := Lib.hid hkk
      clear hkk
      go_wp2_with fail
      refine HWb.out.mono ?_
      rintro e w2 ⟨rfl, p2, b2, o2⟩
      have hp2 := Lib.hid (hp.out.on p2 b2 o2)
      clear p2 b2 o2 HWb
      go_wp2_with fail
      go_end0
      refine ⟨rfl, ?_⟩
      have := hp2.out
      rw [HKK.out, List.append_assoc] at this
      exact this
end Go.Proofs.YtakjbjokekbmbaaGreatDoor

/- Package conf: a page's text; the text of a config of no entities. -/
namespace Go.Proofs.YtakjbjokekbmbaaGreatDoor
open Go.RowKit
set_option linter.unusedVariables false

set_option maxHeartbeats 1000000 in
set_option maxRecDepth 100000 in
theorem pgString_any (B b : Nat) (l : List UInt8) (w : World) (h : Pg B b l w) (h0 : l ≠ []) :
    Calls Tryz.prog 76 #[.pointer (some ⟨b, 0, none⟩)] w fun e w' => e = .returned (.string ⟨l.toArray⟩) ∧ Below B w w' := by
  obtain ⟨p, hB, v, hbk, hown, hne⟩ := h.at_
  have hl0 : l.length ≠ 0 := by simpa using h0
  rw [Lib.byteCells_length] at hown
  obtain ⟨g, cap, cur, rfl, hbg, hg, hnc, hcm, hcs, htake⟩ : ∃ g cap cur, v = .slice (some ⟨g, 0, none⟩) l.length cap ∧ B ≤ g ∧ w.heap[g]? = some (.cells cur 5 (0, 0)) ∧ l.length ≤ cap ∧ cap ≤ maxLen ∧ cur.size = cap * 1 ∧ cur.toList.take (l.length * 1) = Lib.byteCells l := by
    rcases hown.2 with ⟨_, hz⟩ | ⟨g, cap, cur, hv, r⟩
    · exact absurd hz hl0
    · exact ⟨g, cap, cur, hv, r⟩
  have c1 : w.drew.cell? ⟨b, 1, none⟩ = some (.slice (some ⟨g, 0, none⟩) l.length cap) := by
    have : w.drew.heap[b]? = some (.cells #[p, .slice (some ⟨g, 0, none⟩) l.length cap] 141 (0, 0)) := hbk
    rw [Lib.cell_of_heap this]; rfl
  have hSD : (Builtin.unsafeSliceData_ #[84] 190 #[.slice (some ⟨g, 0, none⟩) l.length cap]).run Tryz.prog w.drew = .ok (.pointer (some ⟨g, 0, none⟩)) w.drew :=
    Lib.run_unsafeSliceData_row _ _ _ _ _ _ (by omega)
  have hUS : (Builtin.unsafeString_ #[190, 3] 9 #[.pointer (some ⟨g, 0, none⟩), .int .i64 l.length]).run Tryz.prog w.drew = .ok (.string ⟨l.toArray⟩) (w.drew.freeze ⟨g, 0, none⟩ l.length) := by
    refine Lib.run_unsafeString_row w.drew 190 3 9 5 Tryz.underlying190 Tryz.cellsByteP g cur.size (by have hg' : w.drew.heap[g]? = some (.cells cur 5 (0, 0)) := hg; simp [World.shape?, hg']) l h0 (by omega) (by unfold maxLen at hcm; omega) ?_
    intro j x hx
    have := hown.cells (g := g) rfl j (.int .u8 x.toNat) (by simp [Lib.byteCells, hx])
    exact this
  have HBG := Lib.hid hbg
  have mixed : Tryz.prog.follows Departure.mixedOrders = true := by kernel_rfl
  clear hown hbk hg htake hcs hcm hnc h0 hl0 h hne hbg
  go_enter Tryz.func76, Tryz.ntmps76
  go_wp2
  go_region_o
  all_goals (go_wp2; go_ret; exact ⟨rfl, Lib.below_freeze (Below.drew (Below.refl B w)) (p := ⟨g, 0, none⟩) HBG.out _⟩)

def winB : ByteArray := ⟨#[119, 105, 110, 100, 111, 119]⟩
def cycB : ByteArray := ⟨#[99, 121, 99, 108, 101]⟩
def delB : ByteArray := ⟨#[100, 101, 108, 97, 121]⟩
def headL (C : ConfV) : List (List W1) := [[.str winB, .num C.closed, .num C.opn], [.str cycB, .num C.cycle], [.str delB, .num C.delay]]
def headB (C : ConfV) : List UInt8 := (headL C).flatMap lineB
theorem upB_small (ws : List W1) (hs : ∀ x ∈ ws, (wordB x).length ≤ 40) : ∀ k, k ≤ ws.length → (upB ws k).length ≤ 41 * k
  | 0, _ => by simp [upB]
  | k + 1, hk => by
    have ih := upB_small ws hs k (by omega)
    have h1 := hs ws[k] (List.getElem_mem (by omega))
    rw [upB_succ ws k (by omega), List.length_append]
    unfold sepB
    split
    · omega
    · rw [List.length_cons]; omega
theorem lineB_small (ws : List W1) (hs : ∀ x ∈ ws, (wordB x).length ≤ 40) : (lineB ws).length ≤ 41 * ws.length + 1 := by
  unfold lineB
  rw [List.length_append, List.length_singleton]
  have := upB_small ws hs ws.length (Nat.le_refl _)
  omega
theorem num_small (n : Int) (h : W1Ok (.num n)) : (wordB (.num n)).length ≤ 40 := Nat.le_trans (Lib.itoa_length_le n h.1 h.2) (by decide)
theorem str_small (s : ByteArray) (h : s.size ≤ 40) : (wordB (.str s)).length ≤ 40 := by
  show s.data.toList.length ≤ 40
  rw [Array.length_toList]; exact h
/-- A line of words that is good. -/
structure WsOk (ws : List W1) : Prop where
  ok : ∀ x ∈ ws, W1Ok x ∧ (wordB x).length ≤ 40
  len : ws.length ≤ 5
theorem WsOk.line {ws : List W1} (h : WsOk ws) : (lineB ws).length ≤ 206 := by
  have := lineB_small ws (fun x hx => (h.ok x hx).2)
  have := h.len
  omega
theorem WsOk.nil : WsOk [] := ⟨fun x hx => (by cases hx), by decide⟩
theorem WsOk.str {ws : List W1} (h : WsOk ws) (hl : ws.length ≤ 4) (s : ByteArray) (hs : s.size ≤ 40) : WsOk (.str s :: ws) :=
  ⟨fun x hx => by
    rcases List.mem_cons.1 hx with rfl | hx
    · exact ⟨trivial, str_small s hs⟩
    · exact h.ok x hx, by simp; omega⟩
theorem WsOk.num {ws : List W1} (h : WsOk ws) (hl : ws.length ≤ 4) (n : Int) (hn : -9223372036854775808 ≤ n ∧ n ≤ 9223372036854775807) : WsOk (.num n :: ws) :=
  ⟨fun x hx => by
    rcases List.mem_cons.1 hx with rfl | hx
    · exact ⟨hn, num_small n hn⟩
    · exact h.ok x hx, by simp; omega⟩
/-- One line more: the words laid, the call. -/
theorem line_step {B b : Nat} {l : List UInt8} {ws : List W1} {w0 wk : World} (h : PG B b l w0 wk) (hT : TabB B w0) (hw : WsOk ws) (hl : l.length ≤ 900000) :
    Calls Tryz.prog 75 #[.pointer (some ⟨b, 0, none⟩), .slice (some ⟨wk.heap.size, 0, none⟩) ws.length ws.length] (wk.alloc (.cells (ws.map cellW).toArray 20)) fun e w' => e = .returned (.tuple #[]) ∧ PG B b (l ++ lineB ws) w0 w' := by
  have hb : Below wk.heap.size wk (wk.alloc (.cells (ws.map cellW).toArray 20)) := (Below.refl _ _).alloc (Nat.le_refl _) _
  have h1 := h.below hb
  have hlt := h.pg.lt
  have hln := hw.line
  refine (pageLine_any B b l ws wk.heap.size _ h1.pg (by have := h1.pg.lt; omega) (hT.low h1.bel (Nat.le_refl _)) (fun x hx => (hw.ok x hx).1) (get_alloc_new _ _) (by omega) (by omega) (by have := hw.len; omega)).mono ?_
  rintro e w' ⟨rfl, hp⟩
  exact ⟨rfl, hp.pg, h1.bel.trans hp.bel, h1.oth.trans hp.oth⟩

set_option maxRecDepth 100000 in
set_option maxHeartbeats 4000000 in
theorem textNil_any (B : Nat) (sa : Nat → Addr) (C : ConfV) (w : World) (hS : SentsC B sa w) (hT : TabB w.heap.size w) (hC : confF C = (0, -1)) (he : C.ents = [])
    (h1 : W1Ok (.num C.closed)) (h2 : W1Ok (.num C.opn)) (h3 : W1Ok (.num C.cycle)) (h4 : W1Ok (.num C.delay)) :
    Calls Tryz.prog 47 #[.agg (confCs C (.slice none 0 0))] w fun e w' => e = .returned (.tuple #[.string ⟨(headB C).toArray⟩, .nilIface]) ∧ Below w.heap.size w w' := by
  have hxa := get_alloc_new w (.cells (confCs C (.slice none 0 0)) 24)
  have hba : Below w.heap.size w (w.alloc (.cells (confCs C (.slice none 0 0)) 24)) := (Below.refl _ _).alloc (Nat.le_refl _) _
  have w1ok : WsOk [.str winB, .num C.closed, .num C.opn] := ((WsOk.nil.num (by simp) _ h2).num (by simp) _ h1).str (by simp) _ (by decide)
  have w2ok : WsOk [.str cycB, .num C.cycle] := (WsOk.nil.num (by simp) _ h3).str (by simp) _ (by decide)
  have w3ok : WsOk [.str delB, .num C.delay] := (WsOk.nil.num (by simp) _ h4).str (by simp) _ (by decide)
  have HW1 := Lib.hid w1ok
  have HW2 := Lib.hid w2ok
  have HW3 := Lib.hid w3ok
  have HT := Lib.hid hT
  have hck : ∀ W, Below w.heap.size w W → Calls Tryz.prog 74 #[.agg (confCs C (.slice none 0 0))] W fun e w' => e = .returned .nilIface ∧ Below W.heap.size W w' := fun W hB => by
    refine (check_any B sa (fun _ => False) C (.slice none 0 0) [] W (hS.on hB) ⟨⟨SlOf.nil _ _ _, fun x hx => (by cases hx)⟩, he, fun x hx => (by cases hx), by decide⟩ (fun _ h => h.elim)).mono ?_
    rintro e w' ⟨u, rfl, hu, hb⟩
    rw [hC] at hu
    rcases hu with ⟨_, hu⟩ | ⟨hu, _⟩
    · exact ⟨by rw [hu]; rfl, hb⟩
    · exact absurd hu (by decide)
  have HCk := Lib.hid hck
  clear h1 h2 h3 h4 w1ok w2ok w3ok hT hck hS hC he
  unfold confCs at hxa hba HCk ⊢
  go_enter Tryz.func47, Tryz.ntmps47
  go_upto_region 1 with fail
  generalize w.alloc _ = w1 at hxa hba ⊢
  have HXA : Hid (w1.heap[w.heap.size]? = some (.cells (confCs C (.slice none 0 0)) 24)) := hxa
  obtain ⟨c0, c1, c2, c3, c4⟩ := conf_cells HXA.out
  clear hxa
  go_wp2_with fail
  refine (HCk.out w1 hba).mono ?_
  rintro e w2 ⟨rfl, b2⟩
  have HX2 := Lib.hid (below_get b2 HXA.out (lt_of_get HXA.out))
  have HB2 := Lib.hid (hba.trans (b2.mono hba.size))
  clear c0 c1 c2 c3 c4 hba b2 HXA HCk
  go_upto_region 5 with fail
  have hp3 : PG w2.heap.size w2.heap.size [] (w2.alloc (.cells #[.pointer none, .slice none 0 0] 141)) (w2.alloc (.cells #[.pointer none, .slice none 0 0] 141)) := ⟨Lib.fresh_isBuilder _ _ w2, Below.refl _ _, Oth.refl _ _⟩
  have b3 : Below w2.heap.size w2 (w2.alloc (.cells #[.pointer none, .slice none 0 0] 141)) := (Below.refl _ _).alloc (Nat.le_refl _) _
  generalize w2.alloc _ = w3 at hp3 b3 ⊢
  obtain ⟨b, hbq⟩ : ∃ b, b = w2.heap.size := ⟨_, rfl⟩
  have HX3 := Lib.hid (below_get b3 HX2.out (lt_of_get HX2.out))
  have HB3 := Lib.hid (HB2.out.trans (b3.mono HB2.out.size))
  have HT3 := Lib.hid ((HT.out.low HB3.out (Nat.le_refl _)).low (Below.refl w3.heap.size w3) HB3.out.size)
  have hwb := HB2.out.size
  have hxlt := lt_of_get HX2.out
  rw [← hbq] at hp3 hwb hxlt ⊢
  have HP3 := Lib.hid hp3
  have HTB : Hid (TabB b w3) := fun W hW => HT3.out W (hW.mono hwb)
  obtain ⟨c0, c1, c2, c3, c4⟩ := conf_cells HX3.out
  clear hp3 b3 HX2 HB2 hbq
  have HL1 := Lib.hid (line_step HP3.out HTB.out HW1.out (by decide))
  go_wp2_with fail
  refine HL1.out.mono ?_
  rintro e w4 ⟨rfl, hp4⟩
  have HP4 := Lib.hid hp4
  have HX4 := Lib.hid (below_get hp4.bel HX3.out hxlt)
  clear c0 c1 c2 c3 c4 hp4 HL1
  obtain ⟨c0, c1, c2, c3, c4⟩ := conf_cells HX4.out
  have HL2 := Lib.hid (line_step HP4.out HTB.out HW2.out (by have := HW1.out.line; rw [List.length_append]; simp; omega))
  go_wp2_with fail
  refine HL2.out.mono ?_
  rintro e w5 ⟨rfl, hp5⟩
  have HP5 := Lib.hid hp5
  have HX5 := Lib.hid (below_get hp5.bel HX3.out hxlt)
  clear c0 c1 c2 c3 c4 hp5 HL2
  obtain ⟨c0, c1, c2, c3, c4⟩ := conf_cells HX5.out
  have HL3 := Lib.hid (line_step HP5.out HTB.out HW3.out (by have := HW1.out.line; have := HW2.out.line; simp only [List.length_append, List.length_nil]; omega))
  go_wp2_with fail
  refine HL3.out.mono ?_
  rintro e w6 ⟨rfl, hp6⟩
  have HX6 := Lib.hid (below_get hp6.bel HX3.out hxlt)
  have hh : ([] ++ lineB [.str winB, .num C.closed, .num C.opn] ++ lineB [.str cycB, .num C.cycle] ++ lineB [.str delB, .num C.delay] : List UInt8) = headB C := by simp [headB, headL]
  rw [hh] at hp6
  have HP6 := Lib.hid hp6
  have hne : headB C ≠ [] := by
    intro e
    have : (headB C).length = 0 := by rw [e]; rfl
    simp [headB, headL, lineB] at this
  have HSt := Lib.hid (pgString_any b b (headB C) w6 hp6.pg hne)
  clear c0 c1 c2 c3 c4 hp6 HL3 hh hne
  obtain ⟨c0, c1, c2, c3, c4⟩ := conf_cells HX6.out
  go_wp2_with fail
  go_loopw [52] (fun s wr => s = .int .i64 0 ∧ w6 = wr) (fun s _ => 0)
  case atStart => exact ⟨rfl, rfl⟩
  case round =>
    obtain ⟨rfl, rfl⟩ := hrel
    go_wp2_with fail
    refine HSt.out.mono ?_
    rintro e w7 ⟨rfl, b7⟩
    go_wp2_with fail
    go_ret2
    exact ⟨rfl, HB3.out.trans ((HP6.out.bel.trans b7).mono hwb)⟩
end Go.Proofs.YtakjbjokekbmbaaGreatDoor

/- Plain: a right entity's numbers are small; the lines of an entity. -/
namespace Go.Proofs.YtakjbjokekbmbaaGreatDoor
open Go.RowKit
set_option linter.unusedVariables false

structure EntGood (E : EntV) : Prop where
  name : E.name.size ≤ 12
  tol : 0 ≤ E.tol ∧ E.tol ≤ 20
  pl : E.points.length ≤ 16
  ps : ∀ s ∈ E.points, s.size ≤ 12
  cnt : -1 ≤ E.count ∧ E.count < (E.points.length : Int) ∨ E.count = -1
  rng : 0 ≤ E.mn ∧ E.mn ≤ E.mx ∧ E.mx < 1000
  gl : E.gaps.length ≤ 8
  gs : ∀ g ∈ E.gaps, (0 ≤ g.fr ∧ g.fr < (E.points.length : Int)) ∧ (0 ≤ g.dst ∧ g.dst < (E.points.length : Int)) ∧ 0 ≤ g.mn ∧ g.mn ≤ g.mx ∧ g.mx ≤ 1099511627776
  el : E.edges.length ≤ 64
  es : ∀ x ∈ E.edges, (0 ≤ x.1 ∧ x.1 < (E.points.length : Int)) ∧ (0 ≤ x.2 ∧ x.2 < (E.points.length : Int))
  fl : E.first.length ≤ 16
  fs : ∀ k ∈ E.first, 0 ≤ k ∧ k < (E.points.length : Int)
  ll : E.last.length ≤ 16
  ls : ∀ k ∈ E.last, 0 ≤ k ∧ k < (E.points.length : Int)
theorem nameB_small {s : ByteArray} (h : isNameB s = true) : s.size ≤ 12 := by
  by_cases hh : 1 ≤ s.size ∧ s.size ≤ 12
  · exact hh.2
  · rw [isNameB_short hh] at h; cases h
theorem ptsE_names {P : List ByteArray} (h : ptsE P = 0) : ∀ s ∈ P, isNameB s = true := by
  intro s hs
  obtain ⟨k, hk, rfl⟩ := List.mem_iff_getElem.1 hs
  have hall : ∀ n, ∀ j, j < n → j < P.length → ptE P j = 0 := by
    intro n
    induction n with
    | zero => intro j h1; omega
    | succ n ih =>
      intro j h1 h2
      by_cases hj : j < n
      · exact ih j hj h2
      · obtain rfl : j = n := by omega
        by_cases hz : ptE P j = 0
        · exact hz
        · rw [ptsE_hit h2 hz (fun i hi => ih i hi (by omega))] at h
          exact h
  have := hall (k + 1) k (by omega) hk
  rw [ptE_at hk] at this
  cases hn : isNameB P[k]
  · rw [hn, if_pos rfl] at this; cases this
  · rfl
theorem tail_rules {E : EntV} (h : tailE E = 0) : ∀ j, j < 7 → ruleB E j = false := by
  intro j hj
  cases hr : ruleB E j
  · rfl
  · exfalso
    have hmin : ∃ k, k < 7 ∧ ruleB E k = true ∧ ∀ i, i < k → ruleB E i = false := by
      have : ∀ n, (∃ k, k < n ∧ ruleB E k = true) → ∃ k, k < n ∧ ruleB E k = true ∧ ∀ i, i < k → ruleB E i = false := by
        intro n
        induction n with
        | zero => rintro ⟨k, hk, _⟩; omega
        | succ n ih =>
          rintro ⟨k, hk, hh⟩
          by_cases he : ∃ k, k < n ∧ ruleB E k = true
          · obtain ⟨k', h1, h2, h3⟩ := ih he
            exact ⟨k', by omega, h2, h3⟩
          · refine ⟨k, hk, hh, fun i hi => ?_⟩
            cases hri : ruleB E i
            · rfl
            · exact absurd ⟨i, by omega, hri⟩ he
      exact this 7 ⟨j, hj, hr⟩
    obtain ⟨k, h1, h2, h3⟩ := hmin
    rw [tailE_hit k h1 h2 h3] at h
    match k, h1 with
    | 0, _ => cases h
    | 1, _ => cases h
    | 2, _ => cases h
    | 3, _ => cases h
    | 4, _ => cases h
    | 5, _ => cases h
    | 6, _ => cases h
theorem good_of {ah : List ByteArray} {E : EntV} (h : entErr ah E = 0) : EntGood E := by
  have h1 : isNameB E.name = true := by
    cases hh : isNameB E.name
    · rw [entErr_name hh] at h; cases h
    · rfl
  have h2 : hasStr ah E.name = false := by
    cases hh : hasStr ah E.name
    · rfl
    · rw [entErr_exist h1 hh] at h; cases h
  have h3 : boundB E = false := by
    cases hh : boundB E
    · rfl
    · rw [entErr_bound h1 h2 hh] at h; cases h
  have h4 : ptsE E.points = 0 := by
    by_cases hh : ptsE E.points = 0
    · exact hh
    · rw [entErr_pts h1 h2 h3 hh] at h; exact h
  rw [entErr_tail' h1 h2 h3 h4] at h
  have hr := tail_rules h
  have r0 := hr 0 (by decide)
  have r1 := hr 1 (by decide)
  have r2 := hr 2 (by decide)
  have r3 := hr 3 (by decide)
  simp only [ruleB] at r0 r1 r2 r3
  unfold boundB at h3
  rw [Bool.or_eq_false_iff] at h3
  obtain ⟨t1, t2⟩ := h3
  simp only [topW, fstW, decide_eq_false_iff_not] at t1 t2
  have hst : strangeB E = false ∧ cntW E = false := by
    unfold strangP at r0
    rw [Bool.or_eq_false_iff] at r0
    exact ⟨r0.2, r0.1⟩
  obtain ⟨s1, s2⟩ := hst
  have hall : ∀ x ∈ strL E, 0 ≤ x ∧ x < (E.points.length : Int) := by
    intro x hx
    have := List.any_eq_false.1 s1 x hx
    simp only [decide_eq_true_eq] at this
    omega
  simp only [cntW, rngW, decide_eq_false_iff_not] at s2 r2
  refine ⟨nameB_small h1, by omega, by omega, fun s hs => nameB_small (ptsE_names h4 s hs), by omega, by omega, by omega, fun g hg => ?_, by omega, fun x hx => ?_, by omega, fun k hk => ?_, by omega, fun k hk => ?_⟩
  · have q := List.any_eq_false.1 r3 g hg
    simp only [gapWrong, decide_eq_true_eq] at q
    refine ⟨hall _ ?_, hall _ ?_, by omega, by omega, by omega⟩
    · unfold strL
      exact List.mem_append_left _ (List.mem_append_right _ (List.mem_flatMap.2 ⟨g, hg, by simp⟩))
    · unfold strL
      exact List.mem_append_left _ (List.mem_append_right _ (List.mem_flatMap.2 ⟨g, hg, by simp⟩))
  · refine ⟨hall _ ?_, hall _ ?_⟩
    · unfold strL
      exact List.mem_append_right _ (List.mem_flatMap.2 ⟨x, hx, by simp⟩)
    · unfold strL
      exact List.mem_append_right _ (List.mem_flatMap.2 ⟨x, hx, by simp⟩)
  · refine hall _ ?_
    unfold strL
    exact List.mem_append_left _ (List.mem_append_left _ (List.mem_append_left _ hk))
  · refine hall _ ?_
    unfold strL
    exact List.mem_append_left _ (List.mem_append_left _ (List.mem_append_right _ hk))

/-! ### The lines of an entity -/
def entB : ByteArray := ⟨#[101, 110, 116, 105, 116, 121]⟩
def pntB : ByteArray := ⟨#[112, 111, 105, 110, 116]⟩
def cntB : ByteArray := ⟨#[99, 111, 117, 110, 116]⟩
def gapB : ByteArray := ⟨#[103, 97, 112]⟩
def edgB : ByteArray := ⟨#[101, 100, 103, 101]⟩
def fstB : ByteArray := ⟨#[102, 105, 114, 115, 116]⟩
def lstB : ByteArray := ⟨#[108, 97, 115, 116]⟩
def nameAt (E : EntV) (k : Int) : ByteArray := E.points.getD k.toNat ByteArray.empty
def pntL (s : ByteArray) : List W1 := [.str pntB, .str s]
def gapLn (E : EntV) (g : GapV) : List W1 := [.str gapB, .str (nameAt E g.fr), .str (nameAt E g.dst), .num g.mn, .num g.mx]
def edgLn (E : EntV) (x : Int × Int) : List W1 := [.str edgB, .str (nameAt E x.1), .str (nameAt E x.2)]
def fstLn (E : EntV) (k : Int) : List W1 := [.str fstB, .str (nameAt E k)]
def lstLn (E : EntV) (k : Int) : List W1 := [.str lstB, .str (nameAt E k)]
def cntLn (E : EntV) : List (List W1) := if 0 ≤ E.count then [[.str cntB, .str (nameAt E E.count), .num E.mn, .num E.mx]] else []
def entLn (E : EntV) : List (List W1) := [.str entB, .str E.name, .num E.tol] :: (E.points.map pntL ++ cntLn E ++ E.gaps.map (gapLn E) ++ E.edges.map (edgLn E) ++ E.first.map (fstLn E) ++ E.last.map (lstLn E))
def linesB (L : List (List W1)) : List UInt8 := L.flatMap lineB
def textB (C : ConfV) : List UInt8 := headB C ++ C.ents.flatMap (fun E => linesB (entLn E))
theorem linesB_app (L M : List (List W1)) : linesB (L ++ M) = linesB L ++ linesB M := List.flatMap_append
theorem linesB_one (ws : List W1) : linesB [ws] = lineB ws := by simp [linesB]
theorem linesB_small {L : List (List W1)} (h : ∀ ws ∈ L, WsOk ws) : (linesB L).length ≤ 206 * L.length := by
  induction L with
  | nil => simp [linesB]
  | cons ws L ih =>
    have h1 := (h ws (List.mem_cons_self ..)).line
    have h2 := ih (fun x hx => h x (List.mem_cons_of_mem _ hx))
    show (lineB ws ++ linesB L).length ≤ _
    rw [List.length_append, List.length_cons]
    omega
theorem nameAt_small {E : EntV} (h : EntGood E) (k : Int) : (nameAt E k).size ≤ 40 := by
  unfold nameAt
  rw [List.getD_eq_getElem?_getD]
  cases hk : E.points[k.toNat]? with
  | none => exact Nat.zero_le _
  | some s =>
    have := h.ps s (List.mem_of_getElem? hk)
    show s.size ≤ 40
    omega
theorem entHead_ok {E : EntV} (h : EntGood E) : WsOk [.str entB, .str E.name, .num E.tol] :=
  ((WsOk.nil.num (by simp) _ (by have := h.tol; omega)).str (by simp) _ (by have := h.name; omega)).str (by simp) _ (by decide)
theorem pntL_ok {E : EntV} (h : EntGood E) {s : ByteArray} (hs : s ∈ E.points) : WsOk (pntL s) := (WsOk.nil.str (by simp) _ (by have := h.ps s hs; omega)).str (by simp) _ (by decide)
theorem cntLn_ok {E : EntV} (h : EntGood E) : WsOk [.str cntB, .str (nameAt E E.count), .num E.mn, .num E.mx] :=
  (((WsOk.nil.num (by simp) _ (by have := h.rng; omega)).num (by simp) _ (by have := h.rng; omega)).str (by simp) _ (nameAt_small h _)).str (by simp) _ (by decide)
theorem gapLn_ok {E : EntV} (h : EntGood E) {g : GapV} (hg : g ∈ E.gaps) : WsOk (gapLn E g) :=
  ((((WsOk.nil.num (by simp) _ (by have := h.gs g hg; omega)).num (by simp) _ (by have := h.gs g hg; omega)).str (by simp) _ (nameAt_small h _)).str (by simp) _ (nameAt_small h _)).str (by simp) _ (by decide)
theorem edgLn_ok {E : EntV} (h : EntGood E) (x : Int × Int) : WsOk (edgLn E x) := ((WsOk.nil.str (by simp) _ (nameAt_small h _)).str (by simp) _ (nameAt_small h _)).str (by simp) _ (by decide)
theorem fstLn_ok {E : EntV} (h : EntGood E) (k : Int) : WsOk (fstLn E k) := (WsOk.nil.str (by simp) _ (nameAt_small h _)).str (by simp) _ (by decide)
theorem lstLn_ok {E : EntV} (h : EntGood E) (k : Int) : WsOk (lstLn E k) := (WsOk.nil.str (by simp) _ (nameAt_small h _)).str (by simp) _ (by decide)
end Go.Proofs.YtakjbjokekbmbaaGreatDoor

/- Package conf: forms, the map of a line's forms. -/
namespace Go.Proofs.YtakjbjokekbmbaaGreatDoor
open Go.RowKit
set_option linter.unusedVariables false

/-- The forms: a line's first word, its stage, its words. -/
def formL : List (ByteArray × Nat × ByteArray) := [(⟨#[119, 105, 110, 100, 111, 119]⟩, 0, ⟨#[110, 110]⟩), (⟨#[99, 121, 99, 108, 101]⟩, 1, ⟨#[110]⟩), (⟨#[100, 101, 108, 97, 121]⟩, 2, ⟨#[110]⟩), (⟨#[101, 110, 116, 105, 116, 121]⟩, 3, ⟨#[115, 110]⟩),
  (⟨#[112, 111, 105, 110, 116]⟩, 4, ⟨#[115]⟩), (⟨#[99, 111, 117, 110, 116]⟩, 5, ⟨#[112, 110, 110]⟩), (⟨#[103, 97, 112]⟩, 6, ⟨#[112, 112, 110, 110]⟩), (⟨#[101, 100, 103, 101]⟩, 7, ⟨#[112, 112]⟩), (⟨#[102, 105, 114, 115, 116]⟩, 8, ⟨#[112]⟩), (⟨#[108, 97, 115, 116]⟩, 9, ⟨#[112]⟩)]
def formV (p : Nat × ByteArray) : Value := .agg #[.int .i64 p.1, .string p.2]
def formOf (s : ByteArray) : Option (Nat × ByteArray) := (formL.find? (fun p => p.1.data.toList == s.data.toList)).map (·.2)
def formStage (s : ByteArray) : Nat := ((formOf s).map (·.1)).getD 0
def formWords (s : ByteArray) : ByteArray := ((formOf s).map (·.2)).getD ByteArray.empty
def formOk (s : ByteArray) : Bool := (formOf s).isSome
def entOf (L : List (ByteArray × Nat × ByteArray)) : List MapEntry := (L.zipIdx).map (fun x => ⟨.string x.1.1, formV x.1.2, x.2⟩)
def mapW (W : World) (k : Nat) : World := W.alloc (.map (entOf (formL.take k)).toArray k)
theorem mapW_heap (W : World) (k : Nat) : (mapW W k).heap[W.heap.size]? = some (.map (entOf (formL.take k)).toArray k) := get_alloc_new _ _
theorem entOf_keys (L : List (ByteArray × Nat × ByteArray)) : ∀ x ∈ entOf L, MapKept.IsKey .string x.key := by
  intro x hx
  obtain ⟨p, hp, rfl⟩ := List.mem_map.1 hx
  trivial
theorem set_alloc (W : World) (o o' : Obj) : ({ W.alloc o with heap := (W.alloc o).heap.setIfInBounds W.heap.size o' } : World) = W.alloc o' := by
  have e : ∀ o : Obj, (W.alloc o) = { W with heap := W.heap.push o } := fun _ => rfl
  rw [e, e]
  show ({ heap := (W.heap.push o).setIfInBounds W.heap.size o', tape := W.tape, drawn := W.drawn, os := W.os, output := W.output } : World) = { heap := W.heap.push o', tape := W.tape, drawn := W.drawn, os := W.os, output := W.output }
  congr 1
  apply Array.ext_getElem?
  intro i
  simp only [Array.getElem?_setIfInBounds, Array.getElem?_push, Array.size_push]
  by_cases h : W.heap.size = i
  · subst h; simp
  · rw [if_neg h, if_neg (fun hh => h hh.symm), if_neg (fun hh => h hh.symm)]

section
variable {P : Program} {m t b : TypeId} (um : P.underlying m = some (.map t b)) (ut : P.underlying t = some .string)
include um ut
theorem form_ins (W : World) (k : Nat) (hk : k < 10) (p : ByteArray × Nat × ByteArray) (hp : formL[k]? = some p) :
    (Instr.mapUpdate m (.map (some W.heap.size)) (.string p.1) (formV p.2)).run P (mapW W k) = .ok () (mapW W (k + 1)) := by
  have hb := mapW_heap W k
  have hg := MapKept.run_getObj_map (P := P) hb
  have hs := fun o => MapKept.run_setObj_map (P := P) o hb
  have hc := MapKept.run_checkKey (P := P) (w := mapW W k) ut (k := .string p.1) trivial false 9999
  have hf : Instr.findNow .string (.string p.1) (entOf (formL.take k)) 0 = some none := by
    rcases MapKept.findNow_spec (d := .string) (k := .string p.1) trivial (entOf (formL.take k)) 0 (entOf_keys _) with ⟨h, _⟩ | ⟨j, e, h1, h2, h3⟩
    · exact h
    · exfalso
      have hn : ∀ k : Fin 10, ∀ j : Fin 10, j.1 < k.1 → (formL.getD j.1 (ByteArray.empty, 0, ByteArray.empty)).1.data.toList ≠ (formL.getD k.1 (ByteArray.empty, 0, ByteArray.empty)).1.data.toList := by decide
      have hj : j < k ∧ e.key = .string (formL.getD j (ByteArray.empty, 0, ByteArray.empty)).1 := by
        simp only [entOf, List.getElem?_map, List.getElem?_zipIdx, List.getElem?_take, Option.map_map] at h2
        by_cases hjk : j < k
        · rw [if_pos hjk] at h2
          obtain ⟨q, hq, rfl⟩ := Option.map_eq_some_iff.1 h2
          exact ⟨hjk, by rw [List.getD_eq_getElem?_getD, hq]; rfl⟩
        · rw [if_neg hjk] at h2
          cases h2
      have := hn ⟨k, hk⟩ ⟨j, by omega⟩ hj.1
      rw [hj.2] at h3
      apply this
      rw [Value.string.inj h3, List.getD_eq_getElem?_getD, hp]
      rfl
  have hfk := MapKept.run_findKey (P := P) (w := mapW W k) (l := (entOf (formL.take k)).toArray.toList) ut (by simpa using hf)
  unfold Instr.mapUpdate
  simp only [run_underlying um, hg, hc, hfk, hs, Sem.run_bind, Result.andThen_ok]
  rw [show (mapW W k) = W.alloc (.map (entOf (formL.take k)).toArray k) from rfl, set_alloc]
  show _ = Result.ok () (W.alloc (.map (entOf (formL.take (k + 1))).toArray (k + 1)))
  congr 3
  rw [List.take_add_one, hp]
  simp [entOf, List.zipIdx_append]
  rw [show formL.length = 10 from rfl]
  omega
theorem form_look (hz : ∀ w : World, (zeroValue b).run P w = .ok (formV (0, ByteArray.empty)) w) (W : World) (s : ByteArray) :
    (Instr.lookup m (.map (some W.heap.size)) (.string s) true).run P (mapW W 10) = .ok (.tuple #[formV (formStage s, formWords s), .bool (formOk s)]) (mapW W 10) := by
  have hb := mapW_heap W 10
  have hg := MapKept.run_getObj_map (P := P) hb
  have hc := fun e => MapKept.run_checkKey (P := P) (w := mapW W 10) ut (k := .string s) trivial e 9999
  have h10 : formL.take 10 = formL := rfl
  rw [h10] at hg
  have hcase : (Instr.findNow .string (.string s) (entOf formL) 0 = some none ∧ formOf s = none) ∨ ∃ j q, Instr.findNow .string (.string s) (entOf formL) 0 = some (some (j, formV q)) ∧ formOf s = some q := by
    rcases MapKept.findNow_spec (d := .string) (k := .string s) trivial (entOf formL) 0 (entOf_keys _) with ⟨h1, h2⟩ | ⟨j, e, h1, h2, h3⟩
    · refine .inl ⟨h1, ?_⟩
      unfold formOf
      rw [Option.map_eq_none_iff, List.find?_eq_none]
      intro q hq
      obtain ⟨i, hi, rfl⟩ := List.mem_iff_getElem.1 hq
      have hm : (⟨.string formL[i].1, formV formL[i].2, i⟩ : MapEntry) ∈ entOf formL := List.mem_map.2 ⟨(formL[i], i), by rw [List.mem_zipIdx_iff_getElem?]; exact List.getElem?_eq_getElem hi, rfl⟩
      have hne := h2 _ hm
      intro hh
      apply hne
      have := eq_of_beq hh
      show Value.string formL[i].1 = _
      congr 1
      cases hx : formL[i].1; cases s
      rw [hx] at this
      exact congrArg ByteArray.mk (Array.toList_inj.1 this)
    · simp only [entOf, List.getElem?_map, List.getElem?_zipIdx, Option.map_map] at h2
      obtain ⟨q, hq, rfl⟩ := Option.map_eq_some_iff.1 h2
      refine .inr ⟨0 + j, q.2, h1, ?_⟩
      have hs : q.1 = s := Value.string.inj h3
      have hall : ∀ j : Fin 10, formOf (formL.getD j.1 (ByteArray.empty, 0, ByteArray.empty)).1 = some (formL.getD j.1 (ByteArray.empty, 0, ByteArray.empty)).2 := by decide
      have hj : j < 10 := (List.getElem?_eq_some_iff.1 hq).1
      have := hall ⟨j, hj⟩
      rw [List.getD_eq_getElem?_getD, hq] at this
      rw [← hs]
      exact this
  unfold Instr.lookup
  rcases hcase with ⟨h1, h2⟩ | ⟨j, q, h1, h2⟩
  · have hfk := MapKept.run_findKey (P := P) (w := mapW W 10) (l := (entOf formL).toArray.toList) ut (by simpa using h1)
    simp [run_underlying um, hg, hc, hfk, hz, Sem.run_bind, Result.andThen_ok, formStage, formWords, formOk, h2]
  · have hfk := MapKept.run_findKey (P := P) (w := mapW W 10) (l := (entOf formL).toArray.toList) ut (by simpa using h1)
    simp [run_underlying um, hg, hc, hfk, Sem.run_bind, Result.andThen_ok, formStage, formWords, formOk, h2]
end
end Go.Proofs.YtakjbjokekbmbaaGreatDoor
