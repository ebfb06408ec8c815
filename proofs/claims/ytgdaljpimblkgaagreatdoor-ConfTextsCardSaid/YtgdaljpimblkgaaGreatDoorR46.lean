/- The document's ConfigText: tools. -/
import Derived.Test.YtgdaljpimblkgaaGreatDoorR17
import Derived.Test.YtgdaljpimblkgaaGreatDoorR27
import Derived.Test.YtgdaljpimblkgaaGreatDoorR08
import Derived.Test.YtgdaljpimblkgaaGreatDoorR05
import Derived.Test.YtgdaljpimblkgaaGreatDoorR10
import Derived.Laws.Concat
import Derived.Deep.CutBlock
import Derived.Deep.RegionHeld3
namespace Go.Proofs.YtgdaljpimblkgaaGreatDoor
open Go.RowKit
set_option linter.unusedVariables false

def blksOf (n : Nat) : Code → List Code
  | .block m c => if m = n then [.block m c] else blksOf n c
  | .seq a b => blksOf n a ++ blksOf n b
  | .loop c => blksOf n c
  | .scope c => blksOf n c
  | .cond _ a b => blksOf n a ++ blksOf n b
  | _ => []
noncomputable def ctBlk (n : Nat) : Code := ((Tryz.f12.body.map (blksOf n)).getD []).getD 0 .skip
theorem cat_any {P : Program} (A B : ByteArray) (h : A.size + B.size ≤ 9223372036854775807) : ∃ C : ByteArray, C.data.toList = A.data.toList ++ B.data.toList ∧ C.size = A.size + B.size ∧ ∀ w : World, (Op.stringOp .add A B).run P w = .ok (.string C) w :=
  ⟨A ++ B, by rw [ByteArray.data_append, Array.toList_append], ByteArray.size_append, fun w => run_string_add_sum w A B h⟩
theorem lines_next {α : Type} (f : α → List W1) (L : List α) (k : Nat) (hk : k < L.length) : linesB ((L.take (k + 1)).map f) = linesB ((L.take k).map f) ++ lineB (f L[k]) := by
  rw [List.take_succ_eq_append_getElem hk, List.map_append, linesB_app, List.map_singleton, linesB_one]
theorem lines_le {α : Type} (f : α → List W1) (L : List α) (k n : Nat) (hn : L.length ≤ n) (h : ∀ x ∈ L, WsOk (f x)) : (linesB ((L.take k).map f)).length ≤ 206 * n := by
  have h1 := linesB_small (L := (L.take k).map f) (fun ws hw => by
    obtain ⟨x, hx, rfl⟩ := List.mem_map.1 hw
    exact h x (List.mem_of_mem_take hx))
  rw [List.length_map, List.length_take] at h1
  have h2 : min k L.length ≤ n := by omega
  have h3 := Nat.mul_le_mul_left 206 h2
  omega
theorem dsize (s : ByteArray) : s.size = s.data.toList.length := by rw [Array.length_toList]; rfl
theorem name_of {E : EntV} {k : Int} {j : Nat} (hk : k = j) (hj : j < E.points.length) : nameAt E k = E.points[j] := by
  unfold nameAt
  rw [hk, Int.toNat_natCast, List.getD_eq_getElem?_getD, List.getElem?_eq_getElem hj]
  rfl
theorem line_pnt (s : ByteArray) : lineB (pntL s) = [112, 111, 105, 110, 116, 32] ++ s.data.toList ++ [10] := by simp [lineB, upB, sepB, wordB, pntL, pntB, List.range_succ]
theorem line_edg (E : EntV) (x : Int × Int) : lineB (edgLn E x) = [101, 100, 103, 101, 32] ++ (nameAt E x.1).data.toList ++ [32] ++ (nameAt E x.2).data.toList ++ [10] := by simp [lineB, upB, sepB, wordB, edgLn, edgB, List.range_succ]
theorem line_fst (E : EntV) (k : Int) : lineB (fstLn E k) = [102, 105, 114, 115, 116, 32] ++ (nameAt E k).data.toList ++ [10] := by simp [lineB, upB, sepB, wordB, fstLn, fstB, List.range_succ]
theorem line_lst (E : EntV) (k : Int) : lineB (lstLn E k) = [108, 97, 115, 116, 32] ++ (nameAt E k).data.toList ++ [10] := by simp [lineB, upB, sepB, wordB, lstLn, lstB, List.range_succ]
theorem line_gap (E : EntV) (g : GapV) : lineB (gapLn E g) = [103, 97, 112, 32] ++ (nameAt E g.fr).data.toList ++ [32] ++ (nameAt E g.dst).data.toList ++ [32] ++ Lib.itoa g.mn ++ [32] ++ Lib.itoa g.mx ++ [10] := by simp [lineB, upB, sepB, wordB, gapLn, gapB, List.range_succ]
theorem gap_elemT {R : Nat → Prop} {w : World} {ao : Option Addr} {n cap : Nat} {l : List GapV} (h : SlOf R w (.slice ao n cap) 4 (l.flatMap gapCells) l.length) (h0 : 0 < l.length) :
    ∃ b off, ao = some ⟨b, off, none⟩ ∧ R b ∧ b < w.heap.size ∧ ∀ k (hk : k < l.length), w.cell? ⟨b, off + k * 4, none⟩ = some (.int .i64 l[k].fr) ∧ w.cell? ⟨b, off + k * 4 + 1, none⟩ = some (.int .i64 l[k].dst) ∧ w.cell? ⟨b, off + k * 4 + 2, none⟩ = some (.int .i64 l[k].mn) ∧ w.cell? ⟨b, off + k * 4 + 3, none⟩ = some (.int .i64 l[k].mx) := by
  obtain ⟨b, off, ha, hR, hb, hc⟩ := h.elem (fun _ => rfl) (by decide) h0
  exact ⟨b, off, ha, hR, hb, fun k hk => ⟨hc k hk 0 _ rfl, hc k hk 1 _ rfl, hc k hk 2 _ rfl, hc k hk 3 _ rfl⟩⟩
theorem itoa_len (n : Int) (h0 : 0 ≤ n) (h1 : n ≤ 1099511627776) : (Lib.itoa n).length ≤ 40 := num_small n ⟨by omega, by omega⟩
end Go.Proofs.YtgdaljpimblkgaaGreatDoor

/- The document's ConfigText: the points (made by mkct.py). -/
namespace Go.Proofs.YtgdaljpimblkgaaGreatDoor
open Go.RowKit
set_option linter.unusedVariables false

set_option maxRecDepth 100000 in
set_option maxHeartbeats 4000000 in
theorem ct_P (w0 wr0 : World) (R : Nat → Prop) (E : EntV) (pa ga ea fa la : Option Addr) (pc gc ec fc lc eb : Nat) (HG : Hid (EntGood E)) (he0 : Hid (EB w0 R E (.slice pa E.points.length pc) (.slice ga E.gaps.length gc) (.slice ea E.edges.length ec) (.slice fa E.first.length fc) (.slice la E.last.length lc) eb wr0)) (S0 : ByteArray) (l : List UInt8) (hl : Hid (S0.data.toList = l)) (hlen : l.length ≤ 900000) (Q0 : Exit → Act → World → Prop) (x0 x1 x2 x4 x7 x8 x9 x10 x11 x12 x13 x14 x15 x16 x17 x18 x19 x20 x21 x22 x23 x24 x25 x26 x27 x28 x29 x30 x31 x32 x33 x34 x35 x36 x37 x38 x39 x40 x41 x42 x43 x44 x45 x46 x47 x48 x49 x50 x51 x52 x53 x54 x55 x56 x57 x58 x59 x60 x61 x62 x63 x64 x65 x66 x67 x68 x69 x70 x71 x72 x73 x74 x75 x76 x77 x78 x79 x80 x81 x82 x83 x84 x85 x86 x87 x88 x89 x90 x91 x92 x93 x94 x95 x96 x97 x98 x99 x100 x101 x102 x103 x104 x105 x106 x107 x108 x109 x110 x111 x112 x113 x114 x115 x116 x117 x118 x119 x120 x121 x122 x123 x124 x125 x126 x127 x128 x129 x130 x131 x132 x133 x134 x135 x136 x137 x138 x139 x140 x141 x142 x143 x144 x145 x146 x147 x148 x149 x150 x151 x152 x153 x154 x155 x156 x157 x158 x159 x160 x161 x162 x163 x164 x165 x166 x167 x168 x169 x170 x171 x172 x173 x174 x175 x176 x177 x178 x179 x180 x181 x182 x183 x184 x185 x186 x187 x188 x189 x190 x191 x192 x193 x194 x195 x196 x197 x198 x199 x200 x201 x202 x203 x204 x205 x206 x207 : Value)
    (hexit : ∀ (y6 y55 y56 y57 y58 y59 y60 y61 y62 y63 y64 y65 y66 y67 y68 y69 y70 : Value) (S1 : ByteArray) (w' : World), S1.data.toList = l ++ linesB (E.points.map pntL) → EB w0 R E (.slice pa E.points.length pc) (.slice ga E.gaps.length gc) (.slice ea E.edges.length ec) (.slice fa E.first.length fc) (.slice la E.last.length lc) eb w' → Q0 .normal ⟨(List.toArray ((x0) :: (x1) :: (x2) :: (.string S1) :: (x4) :: (.pointer (some ⟨eb, 0, none⟩)) :: (y6) :: (x7) :: (x8) :: (x9) :: (x10) :: (x11) :: (x12) :: (x13) :: (x14) :: (x15) :: (x16) :: (x17) :: (x18) :: (x19) :: (x20) :: (x21) :: (x22) :: (x23) :: (x24) :: (x25) :: (x26) :: (x27) :: (x28) :: (x29) :: (x30) :: (x31) :: (x32) :: (x33) :: (x34) :: (x35) :: (x36) :: (x37) :: (x38) :: (x39) :: (x40) :: (x41) :: (x42) :: (x43) :: (x44) :: (x45) :: (x46) :: (x47) :: (x48) :: (x49) :: (x50) :: (x51) :: (x52) :: (x53) :: (x54) :: (y55) :: (y56) :: (y57) :: (y58) :: (y59) :: (y60) :: (y61) :: (y62) :: (y63) :: (y64) :: (y65) :: (y66) :: (y67) :: (y68) :: (y69) :: (y70) :: (x71) :: (x72) :: (x73) :: (x74) :: (x75) :: (x76) :: (x77) :: (x78) :: (x79) :: (x80) :: (x81) :: (x82) :: (x83) :: (x84) :: (x85) :: (x86) :: (x87) :: (x88) :: (x89) :: (x90) :: (x91) :: (x92) :: (x93) :: (x94) :: (x95) :: (x96) :: (x97) :: (x98) :: (x99) :: (x100) :: (x101) :: (x102) :: (x103) :: (x104) :: (x105) :: (x106) :: (x107) :: (x108) :: (x109) :: (x110) :: (x111) :: (x112) :: (x113) :: (x114) :: (x115) :: (x116) :: (x117) :: (x118) :: (x119) :: (x120) :: (x121) :: (x122) :: (x123) :: (x124) :: (x125) :: (x126) :: (x127) :: (x128) :: (x129) :: (x130) :: (x131) :: (x132) :: (x133) :: (x134) :: (x135) :: (x136) :: (x137) :: (x138) :: (x139) :: (x140) :: (x141) :: (x142) :: (x143) :: (x144) :: (x145) :: (x146) :: (x147) :: (x148) :: (x149) :: (x150) :: (x151) :: (x152) :: (x153) :: (x154) :: (x155) :: (x156) :: (x157) :: (x158) :: (x159) :: (x160) :: (x161) :: (x162) :: (x163) :: (x164) :: (x165) :: (x166) :: (x167) :: (x168) :: (x169) :: (x170) :: (x171) :: (x172) :: (x173) :: (x174) :: (x175) :: (x176) :: (x177) :: (x178) :: (x179) :: (x180) :: (x181) :: (x182) :: (x183) :: (x184) :: (x185) :: (x186) :: (x187) :: (x188) :: (x189) :: (x190) :: (x191) :: (x192) :: (x193) :: (x194) :: (x195) :: (x196) :: (x197) :: (x198) :: (x199) :: (x200) :: (x201) :: (x202) :: (x203) :: (x204) :: (x205) :: (x206) :: (x207) :: [])), []⟩ w') :
    Code.wp Tryz.prog (ctBlk 2) Q0 ⟨(List.toArray ((x0) :: (x1) :: (x2) :: (.string S0) :: (x4) :: (.pointer (some ⟨eb, 0, none⟩)) :: (.int .i64 0) :: (x7) :: (x8) :: (x9) :: (x10) :: (x11) :: (x12) :: (x13) :: (x14) :: (x15) :: (x16) :: (x17) :: (x18) :: (x19) :: (x20) :: (x21) :: (x22) :: (x23) :: (x24) :: (x25) :: (x26) :: (x27) :: (x28) :: (x29) :: (x30) :: (x31) :: (x32) :: (x33) :: (x34) :: (x35) :: (x36) :: (x37) :: (x38) :: (x39) :: (x40) :: (x41) :: (x42) :: (x43) :: (x44) :: (x45) :: (x46) :: (x47) :: (x48) :: (x49) :: (x50) :: (x51) :: (x52) :: (x53) :: (x54) :: (x55) :: (x56) :: (x57) :: (x58) :: (x59) :: (x60) :: (x61) :: (x62) :: (x63) :: (x64) :: (x65) :: (x66) :: (x67) :: (x68) :: (x69) :: (x70) :: (x71) :: (x72) :: (x73) :: (x74) :: (x75) :: (x76) :: (x77) :: (x78) :: (x79) :: (x80) :: (x81) :: (x82) :: (x83) :: (x84) :: (x85) :: (x86) :: (x87) :: (x88) :: (x89) :: (x90) :: (x91) :: (x92) :: (x93) :: (x94) :: (x95) :: (x96) :: (x97) :: (x98) :: (x99) :: (x100) :: (x101) :: (x102) :: (x103) :: (x104) :: (x105) :: (x106) :: (x107) :: (x108) :: (x109) :: (x110) :: (x111) :: (x112) :: (x113) :: (x114) :: (x115) :: (x116) :: (x117) :: (x118) :: (x119) :: (x120) :: (x121) :: (x122) :: (x123) :: (x124) :: (x125) :: (x126) :: (x127) :: (x128) :: (x129) :: (x130) :: (x131) :: (x132) :: (x133) :: (x134) :: (x135) :: (x136) :: (x137) :: (x138) :: (x139) :: (x140) :: (x141) :: (x142) :: (x143) :: (x144) :: (x145) :: (x146) :: (x147) :: (x148) :: (x149) :: (x150) :: (x151) :: (x152) :: (x153) :: (x154) :: (x155) :: (x156) :: (x157) :: (x158) :: (x159) :: (x160) :: (x161) :: (x162) :: (x163) :: (x164) :: (x165) :: (x166) :: (x167) :: (x168) :: (x169) :: (x170) :: (x171) :: (x172) :: (x173) :: (x174) :: (x175) :: (x176) :: (x177) :: (x178) :: (x179) :: (x180) :: (x181) :: (x182) :: (x183) :: (x184) :: (x185) :: (x186) :: (x187) :: (x188) :: (x189) :: (x190) :: (x191) :: (x192) :: (x193) :: (x194) :: (x195) :: (x196) :: (x197) :: (x198) :: (x199) :: (x200) :: (x201) :: (x202) :: (x203) :: (x204) :: (x205) :: (x206) :: (x207) :: [])), []⟩ wr0 := by
  have HEXIT := Lib.hid hexit
  have HLen := Lib.hid hlen
  clear hexit hlen
  conv => arg 2; whnf
  go_wp2_with fail
  go_loopw [3, 6] (fun s3 s6 wr => ∃ (k : Nat) (S : ByteArray), k ≤ E.points.length ∧ s3 = .string S ∧ s6 = .int .i64 k ∧ Hid (S.data.toList = l ++ linesB ((E.points.take k).map pntL)) ∧ Hid (EB w0 R E (.slice pa E.points.length pc) (.slice ga E.gaps.length gc) (.slice ea E.edges.length ec) (.slice fa E.first.length fc) (.slice la E.last.length lc) eb wr)) (fun _ s6 _ => E.points.length - (intOf s6).toNat)
  case atStart => exact ⟨0, S0, Nat.zero_le _, rfl, rfl, (show S0.data.toList = l ++ linesB ((E.points.take 0).map pntL) from by rw [hl.out]; simp [linesB]), he0⟩
  case round =>
    obtain ⟨k, S, hk, rfl, rfl, hS, he⟩ := hrel
    obtain ⟨c0, c1, c2, c3, c4, c5, c6, c7, c8, c9⟩ := he.out.cells
    have hnb := HG.out.pl
    by_cases hlt : k < E.points.length
    · have hSz : S.size ≤ 903296 + 206 * 64 := by
        have h1 := lines_le pntL E.points k 16 hnb (fun x hx => pntL_ok HG.out hx)
        have h2 := HLen.out
        rw [dsize, hS.out, List.length_append]
        omega
      have HNX := Lib.hid (lines_next pntL E.points k hlt)
      obtain ⟨pb, po, rfl, hRp, hpb, hcp⟩ := str_cells he.out.sl.p (by omega)
      have q := hcp k hlt
      have hsp := HG.out.ps _ (List.getElem_mem hlt)
      obtain ⟨s, hs⟩ : ∃ s, s = E.points[k] := ⟨_, rfl⟩
      rw [← hs] at q hsp HNX
      obtain ⟨T0, dT0, zT0, hadd0⟩ := cat_any (P := Tryz.prog) S ⟨#[112, 111, 105, 110, 116, 32]⟩ (by have := (show (⟨#[112, 111, 105, 110, 116, 32]⟩ : ByteArray).size = 6 from rfl); omega)
      rw [(show (⟨#[112, 111, 105, 110, 116, 32]⟩ : ByteArray).size = 6 from rfl)] at zT0
      obtain ⟨T1, dT1, zT1, hadd1⟩ := cat_any (P := Tryz.prog) T0 s (by omega)
      obtain ⟨T2, dT2, zT2, hadd2⟩ := cat_any (P := Tryz.prog) T1 ⟨#[10]⟩ (by have := (show (⟨#[10]⟩ : ByteArray).size = 1 from rfl); omega)
      clear hcp hs
      have hnx : Hid (T2.data.toList = l ++ linesB ((E.points.take (k + 1)).map pntL)) := (show T2.data.toList = l ++ linesB ((E.points.take (k + 1)).map pntL) from by
        rw [HNX.out, line_pnt, ← List.append_assoc, ← hS.out]
        rw [dT2, dT1, dT0]
        simp)
      clear dT0 zT0 dT1 zT1 dT2 zT2 hSz
      go_wp2_with fail
      go_roundw
      case rel => exact ⟨k + 1, T2, by omega, rfl, by go_num, hnx, he⟩
      case measure => simp [intOf]; omega
    · have hkn : k = E.points.length := by omega
      have HSX : Hid (S.data.toList = l ++ linesB (E.points.map pntL)) := (show S.data.toList = l ++ linesB (E.points.map pntL) from by rw [hS.out, hkn, List.take_length])
      clear hkn
      go_wp2_with fail
      exact HEXIT.out _ _ _ _ _ _ _ _ _ _ _ _ _ _ _ _ _ _ _ HSX.out he.out
end Go.Proofs.YtgdaljpimblkgaaGreatDoor

/- The document's ConfigText: the edges (made by mkct.py). -/
namespace Go.Proofs.YtgdaljpimblkgaaGreatDoor
open Go.RowKit
set_option linter.unusedVariables false

set_option maxRecDepth 100000 in
set_option maxHeartbeats 4000000 in
theorem ct_E (w0 wr0 : World) (R : Nat → Prop) (E : EntV) (pa ga ea fa la : Option Addr) (pc gc ec fc lc eb : Nat) (HG : Hid (EntGood E)) (he0 : Hid (EB w0 R E (.slice pa E.points.length pc) (.slice ga E.gaps.length gc) (.slice ea E.edges.length ec) (.slice fa E.first.length fc) (.slice la E.last.length lc) eb wr0)) (S0 : ByteArray) (l : List UInt8) (hl : Hid (S0.data.toList = l)) (hlen : l.length ≤ 900000) (Q0 : Exit → Act → World → Prop) (x0 x1 x2 x4 x6 x7 x8 x10 x11 x12 x13 x14 x15 x16 x17 x18 x19 x20 x21 x22 x23 x24 x25 x26 x27 x28 x29 x30 x31 x32 x33 x34 x35 x36 x37 x38 x39 x40 x41 x42 x43 x44 x45 x46 x47 x48 x49 x50 x51 x52 x53 x54 x55 x56 x57 x58 x59 x60 x61 x62 x63 x64 x65 x66 x67 x68 x69 x70 x71 x72 x73 x74 x75 x76 x77 x78 x79 x80 x81 x82 x83 x84 x85 x86 x87 x88 x89 x90 x91 x92 x93 x94 x95 x96 x97 x98 x99 x100 x101 x102 x103 x104 x105 x106 x107 x108 x109 x110 x111 x112 x113 x114 x115 x116 x117 x118 x119 x120 x121 x122 x123 x124 x125 x126 x127 x128 x129 x130 x131 x132 x133 x134 x135 x136 x137 x138 x139 x140 x141 x142 x143 x144 x145 x146 x147 x148 x149 x150 x151 x152 x153 x154 x155 x156 x157 x158 x159 x160 x161 x162 x163 x164 x165 x166 x167 x168 x169 x170 x171 x172 x173 x174 x175 x176 x177 x178 x179 x180 x181 x182 x183 x184 x185 x186 x187 x188 x189 x190 x191 x192 x193 x194 x195 x196 x197 x198 x199 x200 x201 x202 x203 x204 x205 x206 x207 : Value)
    (hexit : ∀ (y9 y134 y135 y136 y137 y138 y139 y140 y141 y142 y143 y144 y145 y146 y147 y148 y149 y150 y151 y152 y153 y154 y155 y156 y157 y158 y159 y160 y161 y162 y163 y164 y165 y166 : Value) (S1 : ByteArray) (w' : World), S1.data.toList = l ++ linesB (E.edges.map (edgLn E)) → EB w0 R E (.slice pa E.points.length pc) (.slice ga E.gaps.length gc) (.slice ea E.edges.length ec) (.slice fa E.first.length fc) (.slice la E.last.length lc) eb w' → Q0 .normal ⟨(List.toArray ((x0) :: (x1) :: (x2) :: (.string S1) :: (x4) :: (.pointer (some ⟨eb, 0, none⟩)) :: (x6) :: (x7) :: (x8) :: (y9) :: (x10) :: (x11) :: (x12) :: (x13) :: (x14) :: (x15) :: (x16) :: (x17) :: (x18) :: (x19) :: (x20) :: (x21) :: (x22) :: (x23) :: (x24) :: (x25) :: (x26) :: (x27) :: (x28) :: (x29) :: (x30) :: (x31) :: (x32) :: (x33) :: (x34) :: (x35) :: (x36) :: (x37) :: (x38) :: (x39) :: (x40) :: (x41) :: (x42) :: (x43) :: (x44) :: (x45) :: (x46) :: (x47) :: (x48) :: (x49) :: (x50) :: (x51) :: (x52) :: (x53) :: (x54) :: (x55) :: (x56) :: (x57) :: (x58) :: (x59) :: (x60) :: (x61) :: (x62) :: (x63) :: (x64) :: (x65) :: (x66) :: (x67) :: (x68) :: (x69) :: (x70) :: (x71) :: (x72) :: (x73) :: (x74) :: (x75) :: (x76) :: (x77) :: (x78) :: (x79) :: (x80) :: (x81) :: (x82) :: (x83) :: (x84) :: (x85) :: (x86) :: (x87) :: (x88) :: (x89) :: (x90) :: (x91) :: (x92) :: (x93) :: (x94) :: (x95) :: (x96) :: (x97) :: (x98) :: (x99) :: (x100) :: (x101) :: (x102) :: (x103) :: (x104) :: (x105) :: (x106) :: (x107) :: (x108) :: (x109) :: (x110) :: (x111) :: (x112) :: (x113) :: (x114) :: (x115) :: (x116) :: (x117) :: (x118) :: (x119) :: (x120) :: (x121) :: (x122) :: (x123) :: (x124) :: (x125) :: (x126) :: (x127) :: (x128) :: (x129) :: (x130) :: (x131) :: (x132) :: (x133) :: (y134) :: (y135) :: (y136) :: (y137) :: (y138) :: (y139) :: (y140) :: (y141) :: (y142) :: (y143) :: (y144) :: (y145) :: (y146) :: (y147) :: (y148) :: (y149) :: (y150) :: (y151) :: (y152) :: (y153) :: (y154) :: (y155) :: (y156) :: (y157) :: (y158) :: (y159) :: (y160) :: (y161) :: (y162) :: (y163) :: (y164) :: (y165) :: (y166) :: (x167) :: (x168) :: (x169) :: (x170) :: (x171) :: (x172) :: (x173) :: (x174) :: (x175) :: (x176) :: (x177) :: (x178) :: (x179) :: (x180) :: (x181) :: (x182) :: (x183) :: (x184) :: (x185) :: (x186) :: (x187) :: (x188) :: (x189) :: (x190) :: (x191) :: (x192) :: (x193) :: (x194) :: (x195) :: (x196) :: (x197) :: (x198) :: (x199) :: (x200) :: (x201) :: (x202) :: (x203) :: (x204) :: (x205) :: (x206) :: (x207) :: [])), []⟩ w') :
    Code.wp Tryz.prog (ctBlk 6) Q0 ⟨(List.toArray ((x0) :: (x1) :: (x2) :: (.string S0) :: (x4) :: (.pointer (some ⟨eb, 0, none⟩)) :: (x6) :: (x7) :: (x8) :: (.int .i64 0) :: (x10) :: (x11) :: (x12) :: (x13) :: (x14) :: (x15) :: (x16) :: (x17) :: (x18) :: (x19) :: (x20) :: (x21) :: (x22) :: (x23) :: (x24) :: (x25) :: (x26) :: (x27) :: (x28) :: (x29) :: (x30) :: (x31) :: (x32) :: (x33) :: (x34) :: (x35) :: (x36) :: (x37) :: (x38) :: (x39) :: (x40) :: (x41) :: (x42) :: (x43) :: (x44) :: (x45) :: (x46) :: (x47) :: (x48) :: (x49) :: (x50) :: (x51) :: (x52) :: (x53) :: (x54) :: (x55) :: (x56) :: (x57) :: (x58) :: (x59) :: (x60) :: (x61) :: (x62) :: (x63) :: (x64) :: (x65) :: (x66) :: (x67) :: (x68) :: (x69) :: (x70) :: (x71) :: (x72) :: (x73) :: (x74) :: (x75) :: (x76) :: (x77) :: (x78) :: (x79) :: (x80) :: (x81) :: (x82) :: (x83) :: (x84) :: (x85) :: (x86) :: (x87) :: (x88) :: (x89) :: (x90) :: (x91) :: (x92) :: (x93) :: (x94) :: (x95) :: (x96) :: (x97) :: (x98) :: (x99) :: (x100) :: (x101) :: (x102) :: (x103) :: (x104) :: (x105) :: (x106) :: (x107) :: (x108) :: (x109) :: (x110) :: (x111) :: (x112) :: (x113) :: (x114) :: (x115) :: (x116) :: (x117) :: (x118) :: (x119) :: (x120) :: (x121) :: (x122) :: (x123) :: (x124) :: (x125) :: (x126) :: (x127) :: (x128) :: (x129) :: (x130) :: (x131) :: (x132) :: (x133) :: (x134) :: (x135) :: (x136) :: (x137) :: (x138) :: (x139) :: (x140) :: (x141) :: (x142) :: (x143) :: (x144) :: (x145) :: (x146) :: (x147) :: (x148) :: (x149) :: (x150) :: (x151) :: (x152) :: (x153) :: (x154) :: (x155) :: (x156) :: (x157) :: (x158) :: (x159) :: (x160) :: (x161) :: (x162) :: (x163) :: (x164) :: (x165) :: (x166) :: (x167) :: (x168) :: (x169) :: (x170) :: (x171) :: (x172) :: (x173) :: (x174) :: (x175) :: (x176) :: (x177) :: (x178) :: (x179) :: (x180) :: (x181) :: (x182) :: (x183) :: (x184) :: (x185) :: (x186) :: (x187) :: (x188) :: (x189) :: (x190) :: (x191) :: (x192) :: (x193) :: (x194) :: (x195) :: (x196) :: (x197) :: (x198) :: (x199) :: (x200) :: (x201) :: (x202) :: (x203) :: (x204) :: (x205) :: (x206) :: (x207) :: [])), []⟩ wr0 := by
  have HEXIT := Lib.hid hexit
  have HLen := Lib.hid hlen
  clear hexit hlen
  conv => arg 2; whnf
  go_wp2_with fail
  go_loopw [3, 9] (fun s3 s9 wr => ∃ (k : Nat) (S : ByteArray), k ≤ E.edges.length ∧ s3 = .string S ∧ s9 = .int .i64 k ∧ Hid (S.data.toList = l ++ linesB ((E.edges.take k).map (edgLn E))) ∧ Hid (EB w0 R E (.slice pa E.points.length pc) (.slice ga E.gaps.length gc) (.slice ea E.edges.length ec) (.slice fa E.first.length fc) (.slice la E.last.length lc) eb wr)) (fun _ s9 _ => E.edges.length - (intOf s9).toNat)
  case atStart => exact ⟨0, S0, Nat.zero_le _, rfl, rfl, (show S0.data.toList = l ++ linesB ((E.edges.take 0).map (edgLn E)) from by rw [hl.out]; simp [linesB]), he0⟩
  case round =>
    obtain ⟨k, S, hk, rfl, rfl, hS, he⟩ := hrel
    obtain ⟨c0, c1, c2, c3, c4, c5, c6, c7, c8, c9⟩ := he.out.cells
    have hnb := HG.out.el
    by_cases hlt : k < E.edges.length
    · have hSz : S.size ≤ 903296 + 206 * 64 := by
        have h1 := lines_le (edgLn E) E.edges k 64 hnb (fun x hx => edgLn_ok HG.out x)
        have h2 := HLen.out
        rw [dsize, hS.out, List.length_append]
        omega
      have HNX := Lib.hid (lines_next (edgLn E) E.edges k hlt)
      obtain ⟨xb, xo, rfl, hRx, hxb, hcx⟩ := edge_elem he.out.sl.e (by omega)
      obtain ⟨r0, r1⟩ := hcx k hlt
      obtain ⟨x, hx⟩ : ∃ x, x = E.edges[k] := ⟨_, rfl⟩
      have hxe := HG.out.es E.edges[k] (List.getElem_mem hlt)
      rw [← hx] at r0 r1 HNX hxe
      obtain ⟨⟨h10, h11⟩, h20, h21⟩ := hxe
      obtain ⟨j1, hj1⟩ : ∃ j : Nat, x.1 = (j : Int) := ⟨x.1.toNat, by omega⟩
      obtain ⟨j2, hj2⟩ : ∃ j : Nat, x.2 = (j : Int) := ⟨x.2.toNat, by omega⟩
      have hp1 : j1 < E.points.length := by omega
      have hp2 : j2 < E.points.length := by omega
      obtain ⟨pb, po, rfl, hRp, hpb, hcp⟩ := str_cells he.out.sl.p (by omega)
      have q1 := hcp j1 hp1
      have q2 := hcp j2 hp2
      have hs1 := HG.out.ps _ (List.getElem_mem hp1)
      have hs2 := HG.out.ps _ (List.getElem_mem hp2)
      have HLB := Lib.hid (line_edg E x)
      rw [name_of hj1 hp1, name_of hj2 hp2] at HLB
      obtain ⟨s1, hse1⟩ : ∃ s, s = E.points[j1] := ⟨_, rfl⟩
      obtain ⟨s2, hse2⟩ : ∃ s, s = E.points[j2] := ⟨_, rfl⟩
      rw [← hse1] at q1 hs1 HLB
      rw [← hse2] at q2 hs2 HLB
      rw [hj1] at r0
      rw [hj2] at r1
      obtain ⟨T0, dT0, zT0, hadd0⟩ := cat_any (P := Tryz.prog) S ⟨#[101, 100, 103, 101, 32]⟩ (by have := (show (⟨#[101, 100, 103, 101, 32]⟩ : ByteArray).size = 5 from rfl); omega)
      rw [(show (⟨#[101, 100, 103, 101, 32]⟩ : ByteArray).size = 5 from rfl)] at zT0
      obtain ⟨T1, dT1, zT1, hadd1⟩ := cat_any (P := Tryz.prog) T0 s1 (by omega)
      obtain ⟨T2, dT2, zT2, hadd2⟩ := cat_any (P := Tryz.prog) T1 ⟨#[32]⟩ (by have := (show (⟨#[32]⟩ : ByteArray).size = 1 from rfl); omega)
      rw [(show (⟨#[32]⟩ : ByteArray).size = 1 from rfl)] at zT2
      obtain ⟨T3, dT3, zT3, hadd3⟩ := cat_any (P := Tryz.prog) T2 s2 (by omega)
      obtain ⟨T4, dT4, zT4, hadd4⟩ := cat_any (P := Tryz.prog) T3 ⟨#[10]⟩ (by have := (show (⟨#[10]⟩ : ByteArray).size = 1 from rfl); omega)
      clear hcp hcx hx hse1 hse2 h10 h11 h20 h21 hj1 hj2
      have hnx : Hid (T4.data.toList = l ++ linesB ((E.edges.take (k + 1)).map (edgLn E))) := (show T4.data.toList = l ++ linesB ((E.edges.take (k + 1)).map (edgLn E)) from by
        rw [HNX.out, HLB.out, ← List.append_assoc, ← hS.out]
        rw [dT4, dT3, dT2, dT1, dT0]
        simp)
      clear dT0 zT0 dT1 zT1 dT2 zT2 dT3 zT3 dT4 zT4 hSz
      go_wp2_with fail
      go_quiet (fail)
      go_wp2_with fail
      go_roundw
      case rel => exact ⟨k + 1, T4, by omega, rfl, by go_num, hnx, he.out.keep (keep_drewN _ (Keep.refl (fun _ => False) _)) (fun _ h _ => h.elim)⟩
      case measure => simp [intOf]; omega
    · have hkn : k = E.edges.length := by omega
      have HSX : Hid (S.data.toList = l ++ linesB (E.edges.map (edgLn E))) := (show S.data.toList = l ++ linesB (E.edges.map (edgLn E)) from by rw [hS.out, hkn, List.take_length])
      clear hkn
      go_wp2_with fail
      exact HEXIT.out _ _ _ _ _ _ _ _ _ _ _ _ _ _ _ _ _ _ _ _ _ _ _ _ _ _ _ _ _ _ _ _ _ _ _ _ HSX.out he.out
end Go.Proofs.YtgdaljpimblkgaaGreatDoor
