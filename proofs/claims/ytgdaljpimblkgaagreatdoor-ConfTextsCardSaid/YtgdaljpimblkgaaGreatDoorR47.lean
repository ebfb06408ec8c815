/- The document's ConfigText: the first ones (made by mkct.py). -/
import Derived.Test.YtgdaljpimblkgaaGreatDoorR46
import Derived.Deep.RegionHeld3
namespace Go.Proofs.YtgdaljpimblkgaaGreatDoor
open Go.RowKit
set_option linter.unusedVariables false

set_option maxRecDepth 100000 in
set_option maxHeartbeats 4000000 in
theorem ct_F (w0 wr0 : World) (R : Nat → Prop) (E : EntV) (pa ga ea fa la : Option Addr) (pc gc ec fc lc eb : Nat) (HG : Hid (EntGood E)) (he0 : Hid (EB w0 R E (.slice pa E.points.length pc) (.slice ga E.gaps.length gc) (.slice ea E.edges.length ec) (.slice fa E.first.length fc) (.slice la E.last.length lc) eb wr0)) (S0 : ByteArray) (l : List UInt8) (hl : Hid (S0.data.toList = l)) (hlen : l.length ≤ 900000) (Q0 : Exit → Act → World → Prop) (x0 x1 x2 x4 x6 x7 x8 x9 x11 x12 x13 x14 x15 x16 x17 x18 x19 x20 x21 x22 x23 x24 x25 x26 x27 x28 x29 x30 x31 x32 x33 x34 x35 x36 x37 x38 x39 x40 x41 x42 x43 x44 x45 x46 x47 x48 x49 x50 x51 x52 x53 x54 x55 x56 x57 x58 x59 x60 x61 x62 x63 x64 x65 x66 x67 x68 x69 x70 x71 x72 x73 x74 x75 x76 x77 x78 x79 x80 x81 x82 x83 x84 x85 x86 x87 x88 x89 x90 x91 x92 x93 x94 x95 x96 x97 x98 x99 x100 x101 x102 x103 x104 x105 x106 x107 x108 x109 x110 x111 x112 x113 x114 x115 x116 x117 x118 x119 x120 x121 x122 x123 x124 x125 x126 x127 x128 x129 x130 x131 x132 x133 x134 x135 x136 x137 x138 x139 x140 x141 x142 x143 x144 x145 x146 x147 x148 x149 x150 x151 x152 x153 x154 x155 x156 x157 x158 x159 x160 x161 x162 x163 x164 x165 x166 x167 x168 x169 x170 x171 x172 x173 x174 x175 x176 x177 x178 x179 x180 x181 x182 x183 x184 x185 x186 x187 x188 x189 x190 x191 x192 x193 x194 x195 x196 x197 x198 x199 x200 x201 x202 x203 x204 x205 x206 x207 : Value)
    (hexit : ∀ (y10 y167 y168 y169 y170 y171 y172 y173 y174 y175 y176 y177 y178 y179 y180 y181 y182 y183 y184 y185 y186 : Value) (S1 : ByteArray) (w' : World), S1.data.toList = l ++ linesB (E.first.map (fstLn E)) → EB w0 R E (.slice pa E.points.length pc) (.slice ga E.gaps.length gc) (.slice ea E.edges.length ec) (.slice fa E.first.length fc) (.slice la E.last.length lc) eb w' → Q0 .normal ⟨(List.toArray ((x0) :: (x1) :: (x2) :: (.string S1) :: (x4) :: (.pointer (some ⟨eb, 0, none⟩)) :: (x6) :: (x7) :: (x8) :: (x9) :: (y10) :: (x11) :: (x12) :: (x13) :: (x14) :: (x15) :: (x16) :: (x17) :: (x18) :: (x19) :: (x20) :: (x21) :: (x22) :: (x23) :: (x24) :: (x25) :: (x26) :: (x27) :: (x28) :: (x29) :: (x30) :: (x31) :: (x32) :: (x33) :: (x34) :: (x35) :: (x36) :: (x37) :: (x38) :: (x39) :: (x40) :: (x41) :: (x42) :: (x43) :: (x44) :: (x45) :: (x46) :: (x47) :: (x48) :: (x49) :: (x50) :: (x51) :: (x52) :: (x53) :: (x54) :: (x55) :: (x56) :: (x57) :: (x58) :: (x59) :: (x60) :: (x61) :: (x62) :: (x63) :: (x64) :: (x65) :: (x66) :: (x67) :: (x68) :: (x69) :: (x70) :: (x71) :: (x72) :: (x73) :: (x74) :: (x75) :: (x76) :: (x77) :: (x78) :: (x79) :: (x80) :: (x81) :: (x82) :: (x83) :: (x84) :: (x85) :: (x86) :: (x87) :: (x88) :: (x89) :: (x90) :: (x91) :: (x92) :: (x93) :: (x94) :: (x95) :: (x96) :: (x97) :: (x98) :: (x99) :: (x100) :: (x101) :: (x102) :: (x103) :: (x104) :: (x105) :: (x106) :: (x107) :: (x108) :: (x109) :: (x110) :: (x111) :: (x112) :: (x113) :: (x114) :: (x115) :: (x116) :: (x117) :: (x118) :: (x119) :: (x120) :: (x121) :: (x122) :: (x123) :: (x124) :: (x125) :: (x126) :: (x127) :: (x128) :: (x129) :: (x130) :: (x131) :: (x132) :: (x133) :: (x134) :: (x135) :: (x136) :: (x137) :: (x138) :: (x139) :: (x140) :: (x141) :: (x142) :: (x143) :: (x144) :: (x145) :: (x146) :: (x147) :: (x148) :: (x149) :: (x150) :: (x151) :: (x152) :: (x153) :: (x154) :: (x155) :: (x156) :: (x157) :: (x158) :: (x159) :: (x160) :: (x161) :: (x162) :: (x163) :: (x164) :: (x165) :: (x166) :: (y167) :: (y168) :: (y169) :: (y170) :: (y171) :: (y172) :: (y173) :: (y174) :: (y175) :: (y176) :: (y177) :: (y178) :: (y179) :: (y180) :: (y181) :: (y182) :: (y183) :: (y184) :: (y185) :: (y186) :: (x187) :: (x188) :: (x189) :: (x190) :: (x191) :: (x192) :: (x193) :: (x194) :: (x195) :: (x196) :: (x197) :: (x198) :: (x199) :: (x200) :: (x201) :: (x202) :: (x203) :: (x204) :: (x205) :: (x206) :: (x207) :: [])), []⟩ w') :
    Code.wp Tryz.prog (ctBlk 8) Q0 ⟨(List.toArray ((x0) :: (x1) :: (x2) :: (.string S0) :: (x4) :: (.pointer (some ⟨eb, 0, none⟩)) :: (x6) :: (x7) :: (x8) :: (x9) :: (.int .i64 0) :: (x11) :: (x12) :: (x13) :: (x14) :: (x15) :: (x16) :: (x17) :: (x18) :: (x19) :: (x20) :: (x21) :: (x22) :: (x23) :: (x24) :: (x25) :: (x26) :: (x27) :: (x28) :: (x29) :: (x30) :: (x31) :: (x32) :: (x33) :: (x34) :: (x35) :: (x36) :: (x37) :: (x38) :: (x39) :: (x40) :: (x41) :: (x42) :: (x43) :: (x44) :: (x45) :: (x46) :: (x47) :: (x48) :: (x49) :: (x50) :: (x51) :: (x52) :: (x53) :: (x54) :: (x55) :: (x56) :: (x57) :: (x58) :: (x59) :: (x60) :: (x61) :: (x62) :: (x63) :: (x64) :: (x65) :: (x66) :: (x67) :: (x68) :: (x69) :: (x70) :: (x71) :: (x72) :: (x73) :: (x74) :: (x75) :: (x76) :: (x77) :: (x78) :: (x79) :: (x80) :: (x81) :: (x82) :: (x83) :: (x84) :: (x85) :: (x86) :: (x87) :: (x88) :: (x89) :: (x90) :: (x91) :: (x92) :: (x93) :: (x94) :: (x95) :: (x96) :: (x97) :: (x98) :: (x99) :: (x100) :: (x101) :: (x102) :: (x103) :: (x104) :: (x105) :: (x106) :: (x107) :: (x108) :: (x109) :: (x110) :: (x111) :: (x112) :: (x113) :: (x114) :: (x115) :: (x116) :: (x117) :: (x118) :: (x119) :: (x120) :: (x121) :: (x122) :: (x123) :: (x124) :: (x125) :: (x126) :: (x127) :: (x128) :: (x129) :: (x130) :: (x131) :: (x132) :: (x133) :: (x134) :: (x135) :: (x136) :: (x137) :: (x138) :: (x139) :: (x140) :: (x141) :: (x142) :: (x143) :: (x144) :: (x145) :: (x146) :: (x147) :: (x148) :: (x149) :: (x150) :: (x151) :: (x152) :: (x153) :: (x154) :: (x155) :: (x156) :: (x157) :: (x158) :: (x159) :: (x160) :: (x161) :: (x162) :: (x163) :: (x164) :: (x165) :: (x166) :: (x167) :: (x168) :: (x169) :: (x170) :: (x171) :: (x172) :: (x173) :: (x174) :: (x175) :: (x176) :: (x177) :: (x178) :: (x179) :: (x180) :: (x181) :: (x182) :: (x183) :: (x184) :: (x185) :: (x186) :: (x187) :: (x188) :: (x189) :: (x190) :: (x191) :: (x192) :: (x193) :: (x194) :: (x195) :: (x196) :: (x197) :: (x198) :: (x199) :: (x200) :: (x201) :: (x202) :: (x203) :: (x204) :: (x205) :: (x206) :: (x207) :: [])), []⟩ wr0 := by
  have HEXIT := Lib.hid hexit
  have HLen := Lib.hid hlen
  clear hexit hlen
  conv => arg 2; whnf
  go_wp2_with fail
  go_loopw [3, 10] (fun s3 s10 wr => ∃ (k : Nat) (S : ByteArray), k ≤ E.first.length ∧ s3 = .string S ∧ s10 = .int .i64 k ∧ Hid (S.data.toList = l ++ linesB ((E.first.take k).map (fstLn E))) ∧ Hid (EB w0 R E (.slice pa E.points.length pc) (.slice ga E.gaps.length gc) (.slice ea E.edges.length ec) (.slice fa E.first.length fc) (.slice la E.last.length lc) eb wr)) (fun _ s10 _ => E.first.length - (intOf s10).toNat)
  case atStart => exact ⟨0, S0, Nat.zero_le _, rfl, rfl, (show S0.data.toList = l ++ linesB ((E.first.take 0).map (fstLn E)) from by rw [hl.out]; simp [linesB]), he0⟩
  case round =>
    obtain ⟨k, S, hk, rfl, rfl, hS, he⟩ := hrel
    obtain ⟨c0, c1, c2, c3, c4, c5, c6, c7, c8, c9⟩ := he.out.cells
    have hnb := HG.out.fl
    by_cases hlt : k < E.first.length
    · have hSz : S.size ≤ 903296 + 206 * 64 := by
        have h1 := lines_le (fstLn E) E.first k 16 hnb (fun x hx => fstLn_ok HG.out x)
        have h2 := HLen.out
        rw [dsize, hS.out, List.length_append]
        omega
      have HNX := Lib.hid (lines_next (fstLn E) E.first k hlt)
      obtain ⟨xb, xo, rfl, hRx, hxb, hcx⟩ := int_cells he.out.sl.f (by omega)
      have r0 := hcx k hlt
      obtain ⟨x, hx⟩ : ∃ x, x = E.first[k] := ⟨_, rfl⟩
      have hxe := HG.out.fs E.first[k] (List.getElem_mem hlt)
      rw [← hx] at r0 HNX hxe
      obtain ⟨h10, h11⟩ := hxe
      obtain ⟨j1, hj1⟩ : ∃ j : Nat, x = (j : Int) := ⟨x.toNat, by omega⟩
      have hp1 : j1 < E.points.length := by omega
      obtain ⟨pb, po, rfl, hRp, hpb, hcp⟩ := str_cells he.out.sl.p (by omega)
      have q1 := hcp j1 hp1
      have hs1 := HG.out.ps _ (List.getElem_mem hp1)
      have HLB := Lib.hid (line_fst E x)
      rw [name_of hj1 hp1] at HLB
      obtain ⟨s1, hse1⟩ : ∃ s, s = E.points[j1] := ⟨_, rfl⟩
      rw [← hse1] at q1 hs1 HLB
      rw [hj1] at r0
      obtain ⟨T0, dT0, zT0, hadd0⟩ := cat_any (P := Tryz.prog) S ⟨#[102, 105, 114, 115, 116, 32]⟩ (by have := (show (⟨#[102, 105, 114, 115, 116, 32]⟩ : ByteArray).size = 6 from rfl); omega)
      rw [(show (⟨#[102, 105, 114, 115, 116, 32]⟩ : ByteArray).size = 6 from rfl)] at zT0
      obtain ⟨T1, dT1, zT1, hadd1⟩ := cat_any (P := Tryz.prog) T0 s1 (by omega)
      obtain ⟨T2, dT2, zT2, hadd2⟩ := cat_any (P := Tryz.prog) T1 ⟨#[10]⟩ (by have := (show (⟨#[10]⟩ : ByteArray).size = 1 from rfl); omega)
      clear hcp hcx hx hse1 h10 h11 hj1
      have hnx : Hid (T2.data.toList = l ++ linesB ((E.first.take (k + 1)).map (fstLn E))) := (show T2.data.toList = l ++ linesB ((E.first.take (k + 1)).map (fstLn E)) from by
        rw [HNX.out, HLB.out, ← List.append_assoc, ← hS.out]
        rw [dT2, dT1, dT0]
        simp)
      clear dT0 zT0 dT1 zT1 dT2 zT2 hSz
      go_wp2_with fail
      go_quiet (fail)
      go_wp2_with fail
      go_roundw
      case rel => exact ⟨k + 1, T2, by omega, rfl, by go_num, hnx, he.out.keep (keep_drewN _ (Keep.refl (fun _ => False) _)) (fun _ h _ => h.elim)⟩
      case measure => simp [intOf]; omega
    · have hkn : k = E.first.length := by omega
      have HSX : Hid (S.data.toList = l ++ linesB (E.first.map (fstLn E))) := (show S.data.toList = l ++ linesB (E.first.map (fstLn E)) from by rw [hS.out, hkn, List.take_length])
      clear hkn
      go_wp2_with fail
      exact HEXIT.out _ _ _ _ _ _ _ _ _ _ _ _ _ _ _ _ _ _ _ _ _ _ _ HSX.out he.out
end Go.Proofs.YtgdaljpimblkgaaGreatDoor

/- The document's ConfigText: the last ones (made by mkct.py). -/
namespace Go.Proofs.YtgdaljpimblkgaaGreatDoor
open Go.RowKit
set_option linter.unusedVariables false

set_option maxRecDepth 100000 in
set_option maxHeartbeats 4000000 in
theorem ct_L (w0 wr0 : World) (R : Nat → Prop) (E : EntV) (pa ga ea fa la : Option Addr) (pc gc ec fc lc eb : Nat) (HG : Hid (EntGood E)) (he0 : Hid (EB w0 R E (.slice pa E.points.length pc) (.slice ga E.gaps.length gc) (.slice ea E.edges.length ec) (.slice fa E.first.length fc) (.slice la E.last.length lc) eb wr0)) (S0 : ByteArray) (l : List UInt8) (hl : Hid (S0.data.toList = l)) (hlen : l.length ≤ 900000) (Q0 : Exit → Act → World → Prop) (x0 x1 x2 x4 x6 x7 x8 x9 x10 x12 x13 x14 x15 x16 x17 x18 x19 x20 x21 x22 x23 x24 x25 x26 x27 x28 x29 x30 x31 x32 x33 x34 x35 x36 x37 x38 x39 x40 x41 x42 x43 x44 x45 x46 x47 x48 x49 x50 x51 x52 x53 x54 x55 x56 x57 x58 x59 x60 x61 x62 x63 x64 x65 x66 x67 x68 x69 x70 x71 x72 x73 x74 x75 x76 x77 x78 x79 x80 x81 x82 x83 x84 x85 x86 x87 x88 x89 x90 x91 x92 x93 x94 x95 x96 x97 x98 x99 x100 x101 x102 x103 x104 x105 x106 x107 x108 x109 x110 x111 x112 x113 x114 x115 x116 x117 x118 x119 x120 x121 x122 x123 x124 x125 x126 x127 x128 x129 x130 x131 x132 x133 x134 x135 x136 x137 x138 x139 x140 x141 x142 x143 x144 x145 x146 x147 x148 x149 x150 x151 x152 x153 x154 x155 x156 x157 x158 x159 x160 x161 x162 x163 x164 x165 x166 x167 x168 x169 x170 x171 x172 x173 x174 x175 x176 x177 x178 x179 x180 x181 x182 x183 x184 x185 x186 x187 x188 x189 x190 x191 x192 x193 x194 x195 x196 x197 x198 x199 x200 x201 x202 x203 x204 x205 x206 x207 : Value)
    (hexit : ∀ (y11 y187 y188 y189 y190 y191 y192 y193 y194 y195 y196 y197 y198 y199 y200 y201 y202 y203 y204 y205 y206 : Value) (S1 : ByteArray) (w' : World), S1.data.toList = l ++ linesB (E.last.map (lstLn E)) → EB w0 R E (.slice pa E.points.length pc) (.slice ga E.gaps.length gc) (.slice ea E.edges.length ec) (.slice fa E.first.length fc) (.slice la E.last.length lc) eb w' → Q0 .normal ⟨(List.toArray ((x0) :: (x1) :: (x2) :: (.string S1) :: (x4) :: (.pointer (some ⟨eb, 0, none⟩)) :: (x6) :: (x7) :: (x8) :: (x9) :: (x10) :: (y11) :: (x12) :: (x13) :: (x14) :: (x15) :: (x16) :: (x17) :: (x18) :: (x19) :: (x20) :: (x21) :: (x22) :: (x23) :: (x24) :: (x25) :: (x26) :: (x27) :: (x28) :: (x29) :: (x30) :: (x31) :: (x32) :: (x33) :: (x34) :: (x35) :: (x36) :: (x37) :: (x38) :: (x39) :: (x40) :: (x41) :: (x42) :: (x43) :: (x44) :: (x45) :: (x46) :: (x47) :: (x48) :: (x49) :: (x50) :: (x51) :: (x52) :: (x53) :: (x54) :: (x55) :: (x56) :: (x57) :: (x58) :: (x59) :: (x60) :: (x61) :: (x62) :: (x63) :: (x64) :: (x65) :: (x66) :: (x67) :: (x68) :: (x69) :: (x70) :: (x71) :: (x72) :: (x73) :: (x74) :: (x75) :: (x76) :: (x77) :: (x78) :: (x79) :: (x80) :: (x81) :: (x82) :: (x83) :: (x84) :: (x85) :: (x86) :: (x87) :: (x88) :: (x89) :: (x90) :: (x91) :: (x92) :: (x93) :: (x94) :: (x95) :: (x96) :: (x97) :: (x98) :: (x99) :: (x100) :: (x101) :: (x102) :: (x103) :: (x104) :: (x105) :: (x106) :: (x107) :: (x108) :: (x109) :: (x110) :: (x111) :: (x112) :: (x113) :: (x114) :: (x115) :: (x116) :: (x117) :: (x118) :: (x119) :: (x120) :: (x121) :: (x122) :: (x123) :: (x124) :: (x125) :: (x126) :: (x127) :: (x128) :: (x129) :: (x130) :: (x131) :: (x132) :: (x133) :: (x134) :: (x135) :: (x136) :: (x137) :: (x138) :: (x139) :: (x140) :: (x141) :: (x142) :: (x143) :: (x144) :: (x145) :: (x146) :: (x147) :: (x148) :: (x149) :: (x150) :: (x151) :: (x152) :: (x153) :: (x154) :: (x155) :: (x156) :: (x157) :: (x158) :: (x159) :: (x160) :: (x161) :: (x162) :: (x163) :: (x164) :: (x165) :: (x166) :: (x167) :: (x168) :: (x169) :: (x170) :: (x171) :: (x172) :: (x173) :: (x174) :: (x175) :: (x176) :: (x177) :: (x178) :: (x179) :: (x180) :: (x181) :: (x182) :: (x183) :: (x184) :: (x185) :: (x186) :: (y187) :: (y188) :: (y189) :: (y190) :: (y191) :: (y192) :: (y193) :: (y194) :: (y195) :: (y196) :: (y197) :: (y198) :: (y199) :: (y200) :: (y201) :: (y202) :: (y203) :: (y204) :: (y205) :: (y206) :: (x207) :: [])), []⟩ w') :
    Code.wp Tryz.prog (ctBlk 10) Q0 ⟨(List.toArray ((x0) :: (x1) :: (x2) :: (.string S0) :: (x4) :: (.pointer (some ⟨eb, 0, none⟩)) :: (x6) :: (x7) :: (x8) :: (x9) :: (x10) :: (.int .i64 0) :: (x12) :: (x13) :: (x14) :: (x15) :: (x16) :: (x17) :: (x18) :: (x19) :: (x20) :: (x21) :: (x22) :: (x23) :: (x24) :: (x25) :: (x26) :: (x27) :: (x28) :: (x29) :: (x30) :: (x31) :: (x32) :: (x33) :: (x34) :: (x35) :: (x36) :: (x37) :: (x38) :: (x39) :: (x40) :: (x41) :: (x42) :: (x43) :: (x44) :: (x45) :: (x46) :: (x47) :: (x48) :: (x49) :: (x50) :: (x51) :: (x52) :: (x53) :: (x54) :: (x55) :: (x56) :: (x57) :: (x58) :: (x59) :: (x60) :: (x61) :: (x62) :: (x63) :: (x64) :: (x65) :: (x66) :: (x67) :: (x68) :: (x69) :: (x70) :: (x71) :: (x72) :: (x73) :: (x74) :: (x75) :: (x76) :: (x77) :: (x78) :: (x79) :: (x80) :: (x81) :: (x82) :: (x83) :: (x84) :: (x85) :: (x86) :: (x87) :: (x88) :: (x89) :: (x90) :: (x91) :: (x92) :: (x93) :: (x94) :: (x95) :: (x96) :: (x97) :: (x98) :: (x99) :: (x100) :: (x101) :: (x102) :: (x103) :: (x104) :: (x105) :: (x106) :: (x107) :: (x108) :: (x109) :: (x110) :: (x111) :: (x112) :: (x113) :: (x114) :: (x115) :: (x116) :: (x117) :: (x118) :: (x119) :: (x120) :: (x121) :: (x122) :: (x123) :: (x124) :: (x125) :: (x126) :: (x127) :: (x128) :: (x129) :: (x130) :: (x131) :: (x132) :: (x133) :: (x134) :: (x135) :: (x136) :: (x137) :: (x138) :: (x139) :: (x140) :: (x141) :: (x142) :: (x143) :: (x144) :: (x145) :: (x146) :: (x147) :: (x148) :: (x149) :: (x150) :: (x151) :: (x152) :: (x153) :: (x154) :: (x155) :: (x156) :: (x157) :: (x158) :: (x159) :: (x160) :: (x161) :: (x162) :: (x163) :: (x164) :: (x165) :: (x166) :: (x167) :: (x168) :: (x169) :: (x170) :: (x171) :: (x172) :: (x173) :: (x174) :: (x175) :: (x176) :: (x177) :: (x178) :: (x179) :: (x180) :: (x181) :: (x182) :: (x183) :: (x184) :: (x185) :: (x186) :: (x187) :: (x188) :: (x189) :: (x190) :: (x191) :: (x192) :: (x193) :: (x194) :: (x195) :: (x196) :: (x197) :: (x198) :: (x199) :: (x200) :: (x201) :: (x202) :: (x203) :: (x204) :: (x205) :: (x206) :: (x207) :: [])), []⟩ wr0 := by
  have HEXIT := Lib.hid hexit
  have HLen := Lib.hid hlen
  clear hexit hlen
  conv => arg 2; whnf
  go_wp2_with fail
  go_loopw [3, 11] (fun s3 s11 wr => ∃ (k : Nat) (S : ByteArray), k ≤ E.last.length ∧ s3 = .string S ∧ s11 = .int .i64 k ∧ Hid (S.data.toList = l ++ linesB ((E.last.take k).map (lstLn E))) ∧ Hid (EB w0 R E (.slice pa E.points.length pc) (.slice ga E.gaps.length gc) (.slice ea E.edges.length ec) (.slice fa E.first.length fc) (.slice la E.last.length lc) eb wr)) (fun _ s11 _ => E.last.length - (intOf s11).toNat)
  case atStart => exact ⟨0, S0, Nat.zero_le _, rfl, rfl, (show S0.data.toList = l ++ linesB ((E.last.take 0).map (lstLn E)) from by rw [hl.out]; simp [linesB]), he0⟩
  case round =>
    obtain ⟨k, S, hk, rfl, rfl, hS, he⟩ := hrel
    obtain ⟨c0, c1, c2, c3, c4, c5, c6, c7, c8, c9⟩ := he.out.cells
    have hnb := HG.out.ll
    by_cases hlt : k < E.last.length
    · have hSz : S.size ≤ 903296 + 206 * 64 := by
        have h1 := lines_le (lstLn E) E.last k 16 hnb (fun x hx => lstLn_ok HG.out x)
        have h2 := HLen.out
        rw [dsize, hS.out, List.length_append]
        omega
      have HNX := Lib.hid (lines_next (lstLn E) E.last k hlt)
      obtain ⟨xb, xo, rfl, hRx, hxb, hcx⟩ := int_cells he.out.sl.l (by omega)
      have r0 := hcx k hlt
      obtain ⟨x, hx⟩ : ∃ x, x = E.last[k] := ⟨_, rfl⟩
      have hxe := HG.out.ls E.last[k] (List.getElem_mem hlt)
      rw [← hx] at r0 HNX hxe
      obtain ⟨h10, h11⟩ := hxe
      obtain ⟨j1, hj1⟩ : ∃ j : Nat, x = (j : Int) := ⟨x.toNat, by omega⟩
      have hp1 : j1 < E.points.length := by omega
      obtain ⟨pb, po, rfl, hRp, hpb, hcp⟩ := str_cells he.out.sl.p (by omega)
      have q1 := hcp j1 hp1
      have hs1 := HG.out.ps _ (List.getElem_mem hp1)
      have HLB := Lib.hid (line_lst E x)
      rw [name_of hj1 hp1] at HLB
      obtain ⟨s1, hse1⟩ : ∃ s, s = E.points[j1] := ⟨_, rfl⟩
      rw [← hse1] at q1 hs1 HLB
      rw [hj1] at r0
      obtain ⟨T0, dT0, zT0, hadd0⟩ := cat_any (P := Tryz.prog) S ⟨#[108, 97, 115, 116, 32]⟩ (by have := (show (⟨#[108, 97, 115, 116, 32]⟩ : ByteArray).size = 5 from rfl); omega)
      rw [(show (⟨#[108, 97, 115, 116, 32]⟩ : ByteArray).size = 5 from rfl)] at zT0
      obtain ⟨T1, dT1, zT1, hadd1⟩ := cat_any (P := Tryz.prog) T0 s1 (by omega)
      obtain ⟨T2, dT2, zT2, hadd2⟩ := cat_any (P := Tryz.prog) T1 ⟨#[10]⟩ (by have := (show (⟨#[10]⟩ : ByteArray).size = 1 from rfl); omega)
      clear hcp hcx hx hse1 h10 h11 hj1
      have hnx : Hid (T2.data.toList = l ++ linesB ((E.last.take (k + 1)).map (lstLn E))) := (show T2.data.toList = l ++ linesB ((E.last.take (k + 1)).map (lstLn E)) from by
        rw [HNX.out, HLB.out, ← List.append_assoc, ← hS.out]
        rw [dT2, dT1, dT0]
        simp)
      clear dT0 zT0 dT1 zT1 dT2 zT2 hSz
      go_wp2_with fail
      go_quiet (fail)
      go_wp2_with fail
      go_roundw
      case rel => exact ⟨k + 1, T2, by omega, rfl, by go_num, hnx, he.out.keep (keep_drewN _ (Keep.refl (fun _ => False) _)) (fun _ h _ => h.elim)⟩
      case measure => simp [intOf]; omega
    · have hkn : k = E.last.length := by omega
      have HSX : Hid (S.data.toList = l ++ linesB (E.last.map (lstLn E))) := (show S.data.toList = l ++ linesB (E.last.map (lstLn E)) from by rw [hS.out, hkn, List.take_length])
      clear hkn
      go_wp2_with fail
      exact HEXIT.out _ _ _ _ _ _ _ _ _ _ _ _ _ _ _ _ _ _ _ _ _ _ _ HSX.out he.out
end Go.Proofs.YtgdaljpimblkgaaGreatDoor

/- The document's ConfigText: the gaps (made by mkct.py). -/
namespace Go.Proofs.YtgdaljpimblkgaaGreatDoor
open Go.RowKit
set_option linter.unusedVariables false

set_option maxRecDepth 100000 in
set_option maxHeartbeats 4000000 in
theorem ct_G (w0 wr0 : World) (R : Nat → Prop) (E : EntV) (pa ga ea fa la : Option Addr) (pc gc ec fc lc eb : Nat) (HG : Hid (EntGood E)) (he0 : Hid (EB w0 R E (.slice pa E.points.length pc) (.slice ga E.gaps.length gc) (.slice ea E.edges.length ec) (.slice fa E.first.length fc) (.slice la E.last.length lc) eb wr0)) (S0 : ByteArray) (l : List UInt8) (hl : Hid (S0.data.toList = l)) (hlen : l.length ≤ 900000) (Q0 : Exit → Act → World → Prop) (x0 x1 x2 x4 x6 x8 x9 x10 x11 x12 x13 x14 x15 x16 x17 x18 x19 x20 x21 x22 x23 x24 x25 x26 x27 x28 x29 x30 x31 x32 x33 x34 x35 x36 x37 x38 x39 x40 x41 x42 x43 x44 x45 x46 x47 x48 x49 x50 x51 x52 x53 x54 x55 x56 x57 x58 x59 x60 x61 x62 x63 x64 x65 x66 x67 x68 x69 x70 x71 x72 x73 x74 x75 x76 x77 x78 x79 x80 x81 x82 x83 x84 x85 x86 x87 x88 x89 x90 x91 x92 x93 x94 x95 x96 x97 x98 x99 x100 x101 x102 x103 x104 x105 x106 x107 x108 x109 x110 x111 x112 x113 x114 x115 x116 x117 x118 x119 x120 x121 x122 x123 x124 x125 x126 x127 x128 x129 x130 x131 x132 x133 x134 x135 x136 x137 x138 x139 x140 x141 x142 x143 x144 x145 x146 x147 x148 x149 x150 x151 x152 x153 x154 x155 x156 x157 x158 x159 x160 x161 x162 x163 x164 x165 x166 x167 x168 x169 x170 x171 x172 x173 x174 x175 x176 x177 x178 x179 x180 x181 x182 x183 x184 x185 x186 x187 x188 x189 x190 x191 x192 x193 x194 x195 x196 x197 x198 x199 x200 x201 x202 x203 x204 x205 x206 x207 : Value)
    (hexit : ∀ (y7 y8 y94 y95 y96 y97 y98 y99 y100 y101 y102 y103 y104 y105 y106 y107 y108 y109 y110 y111 y112 y113 y114 y115 y116 y117 y118 y119 y120 y121 y122 y123 y124 y125 y126 y127 y128 y129 y130 y131 y132 y133 : Value) (S1 : ByteArray) (w' : World), S1.data.toList = l ++ linesB (E.gaps.map (gapLn E)) → EB w0 R E (.slice pa E.points.length pc) (.slice ga E.gaps.length gc) (.slice ea E.edges.length ec) (.slice fa E.first.length fc) (.slice la E.last.length lc) eb w' → Q0 .normal ⟨(List.toArray ((x0) :: (x1) :: (x2) :: (.string S1) :: (x4) :: (.pointer (some ⟨eb, 0, none⟩)) :: (x6) :: (y7) :: (y8) :: (x9) :: (x10) :: (x11) :: (x12) :: (x13) :: (x14) :: (x15) :: (x16) :: (x17) :: (x18) :: (x19) :: (x20) :: (x21) :: (x22) :: (x23) :: (x24) :: (x25) :: (x26) :: (x27) :: (x28) :: (x29) :: (x30) :: (x31) :: (x32) :: (x33) :: (x34) :: (x35) :: (x36) :: (x37) :: (x38) :: (x39) :: (x40) :: (x41) :: (x42) :: (x43) :: (x44) :: (x45) :: (x46) :: (x47) :: (x48) :: (x49) :: (x50) :: (x51) :: (x52) :: (x53) :: (x54) :: (x55) :: (x56) :: (x57) :: (x58) :: (x59) :: (x60) :: (x61) :: (x62) :: (x63) :: (x64) :: (x65) :: (x66) :: (x67) :: (x68) :: (x69) :: (x70) :: (x71) :: (x72) :: (x73) :: (x74) :: (x75) :: (x76) :: (x77) :: (x78) :: (x79) :: (x80) :: (x81) :: (x82) :: (x83) :: (x84) :: (x85) :: (x86) :: (x87) :: (x88) :: (x89) :: (x90) :: (x91) :: (x92) :: (x93) :: (y94) :: (y95) :: (y96) :: (y97) :: (y98) :: (y99) :: (y100) :: (y101) :: (y102) :: (y103) :: (y104) :: (y105) :: (y106) :: (y107) :: (y108) :: (y109) :: (y110) :: (y111) :: (y112) :: (y113) :: (y114) :: (y115) :: (y116) :: (y117) :: (y118) :: (y119) :: (y120) :: (y121) :: (y122) :: (y123) :: (y124) :: (y125) :: (y126) :: (y127) :: (y128) :: (y129) :: (y130) :: (y131) :: (y132) :: (y133) :: (x134) :: (x135) :: (x136) :: (x137) :: (x138) :: (x139) :: (x140) :: (x141) :: (x142) :: (x143) :: (x144) :: (x145) :: (x146) :: (x147) :: (x148) :: (x149) :: (x150) :: (x151) :: (x152) :: (x153) :: (x154) :: (x155) :: (x156) :: (x157) :: (x158) :: (x159) :: (x160) :: (x161) :: (x162) :: (x163) :: (x164) :: (x165) :: (x166) :: (x167) :: (x168) :: (x169) :: (x170) :: (x171) :: (x172) :: (x173) :: (x174) :: (x175) :: (x176) :: (x177) :: (x178) :: (x179) :: (x180) :: (x181) :: (x182) :: (x183) :: (x184) :: (x185) :: (x186) :: (x187) :: (x188) :: (x189) :: (x190) :: (x191) :: (x192) :: (x193) :: (x194) :: (x195) :: (x196) :: (x197) :: (x198) :: (x199) :: (x200) :: (x201) :: (x202) :: (x203) :: (x204) :: (x205) :: (x206) :: (x207) :: [])), []⟩ w') :
    Code.wp Tryz.prog (ctBlk 4) Q0 ⟨(List.toArray ((x0) :: (x1) :: (x2) :: (.string S0) :: (x4) :: (.pointer (some ⟨eb, 0, none⟩)) :: (x6) :: (.int .i64 0) :: (x8) :: (x9) :: (x10) :: (x11) :: (x12) :: (x13) :: (x14) :: (x15) :: (x16) :: (x17) :: (x18) :: (x19) :: (x20) :: (x21) :: (x22) :: (x23) :: (x24) :: (x25) :: (x26) :: (x27) :: (x28) :: (x29) :: (x30) :: (x31) :: (x32) :: (x33) :: (x34) :: (x35) :: (x36) :: (x37) :: (x38) :: (x39) :: (x40) :: (x41) :: (x42) :: (x43) :: (x44) :: (x45) :: (x46) :: (x47) :: (x48) :: (x49) :: (x50) :: (x51) :: (x52) :: (x53) :: (x54) :: (x55) :: (x56) :: (x57) :: (x58) :: (x59) :: (x60) :: (x61) :: (x62) :: (x63) :: (x64) :: (x65) :: (x66) :: (x67) :: (x68) :: (x69) :: (x70) :: (x71) :: (x72) :: (x73) :: (x74) :: (x75) :: (x76) :: (x77) :: (x78) :: (x79) :: (x80) :: (x81) :: (x82) :: (x83) :: (x84) :: (x85) :: (x86) :: (x87) :: (x88) :: (x89) :: (x90) :: (x91) :: (x92) :: (x93) :: (x94) :: (x95) :: (x96) :: (x97) :: (x98) :: (x99) :: (x100) :: (x101) :: (x102) :: (x103) :: (x104) :: (x105) :: (x106) :: (x107) :: (x108) :: (x109) :: (x110) :: (x111) :: (x112) :: (x113) :: (x114) :: (x115) :: (x116) :: (x117) :: (x118) :: (x119) :: (x120) :: (x121) :: (x122) :: (x123) :: (x124) :: (x125) :: (x126) :: (x127) :: (x128) :: (x129) :: (x130) :: (x131) :: (x132) :: (x133) :: (x134) :: (x135) :: (x136) :: (x137) :: (x138) :: (x139) :: (x140) :: (x141) :: (x142) :: (x143) :: (x144) :: (x145) :: (x146) :: (x147) :: (x148) :: (x149) :: (x150) :: (x151) :: (x152) :: (x153) :: (x154) :: (x155) :: (x156) :: (x157) :: (x158) :: (x159) :: (x160) :: (x161) :: (x162) :: (x163) :: (x164) :: (x165) :: (x166) :: (x167) :: (x168) :: (x169) :: (x170) :: (x171) :: (x172) :: (x173) :: (x174) :: (x175) :: (x176) :: (x177) :: (x178) :: (x179) :: (x180) :: (x181) :: (x182) :: (x183) :: (x184) :: (x185) :: (x186) :: (x187) :: (x188) :: (x189) :: (x190) :: (x191) :: (x192) :: (x193) :: (x194) :: (x195) :: (x196) :: (x197) :: (x198) :: (x199) :: (x200) :: (x201) :: (x202) :: (x203) :: (x204) :: (x205) :: (x206) :: (x207) :: [])), []⟩ wr0 := by
  have HEXIT := Lib.hid hexit
  have HLen := Lib.hid hlen
  clear hexit hlen
  conv => arg 2; whnf
  go_wp2_with fail
  go_loopw [3, 7] (fun s3 s7 wr => ∃ (k : Nat) (S : ByteArray), k ≤ E.gaps.length ∧ s3 = .string S ∧ s7 = .int .i64 k ∧ Hid (S.data.toList = l ++ linesB ((E.gaps.take k).map (gapLn E))) ∧ Hid (EB w0 R E (.slice pa E.points.length pc) (.slice ga E.gaps.length gc) (.slice ea E.edges.length ec) (.slice fa E.first.length fc) (.slice la E.last.length lc) eb wr)) (fun _ s7 _ => E.gaps.length - (intOf s7).toNat)
  case atStart => exact ⟨0, S0, Nat.zero_le _, rfl, rfl, (show S0.data.toList = l ++ linesB ((E.gaps.take 0).map (gapLn E)) from by rw [hl.out]; simp [linesB]), he0⟩
  case round =>
    obtain ⟨k, S, hk, rfl, rfl, hS, he⟩ := hrel
    obtain ⟨c0, c1, c2, c3, c4, c5, c6, c7, c8, c9⟩ := he.out.cells
    have hnb := HG.out.gl
    by_cases hlt : k < E.gaps.length
    · have hSz : S.size ≤ 903296 + 206 * 64 := by
        have h1 := lines_le (gapLn E) E.gaps k 8 hnb (fun x hx => gapLn_ok HG.out hx)
        have h2 := HLen.out
        rw [dsize, hS.out, List.length_append]
        omega
      have HNX := Lib.hid (lines_next (gapLn E) E.gaps k hlt)
      obtain ⟨xb, xo, rfl, hRx, hxb, hcx⟩ := gap_elemT he.out.sl.g (by omega)
      obtain ⟨r0, r1, r2, r3⟩ := hcx k hlt
      obtain ⟨x, hx⟩ : ∃ x, x = E.gaps[k] := ⟨_, rfl⟩
      have hxe := HG.out.gs E.gaps[k] (List.getElem_mem hlt)
      rw [← hx] at r0 r1 r2 r3 HNX hxe
      obtain ⟨⟨h10, h11⟩, ⟨h20, h21⟩, h30, h31, h32⟩ := hxe
      obtain ⟨j1, hj1⟩ : ∃ j : Nat, x.fr = (j : Int) := ⟨x.fr.toNat, by omega⟩
      obtain ⟨j2, hj2⟩ : ∃ j : Nat, x.dst = (j : Int) := ⟨x.dst.toNat, by omega⟩
      have hp1 : j1 < E.points.length := by omega
      have hp2 : j2 < E.points.length := by omega
      obtain ⟨pb, po, rfl, hRp, hpb, hcp⟩ := str_cells he.out.sl.p (by omega)
      have q1 := hcp j1 hp1
      have q2 := hcp j2 hp2
      have hs1 := HG.out.ps _ (List.getElem_mem hp1)
      have hs2 := HG.out.ps _ (List.getElem_mem hp2)
      have HLB := Lib.hid (line_gap E x)
      rw [name_of hj1 hp1, name_of hj2 hp2] at HLB
      obtain ⟨v1, hv1⟩ : ∃ v, v = x.mn := ⟨_, rfl⟩
      obtain ⟨v2, hv2⟩ : ∃ v, v = x.mx := ⟨_, rfl⟩
      rw [← hv1] at r2 HLB h30 h31
      rw [← hv2] at r3 HLB h31 h32
      obtain ⟨s1, hse1⟩ : ∃ s, s = E.points[j1] := ⟨_, rfl⟩
      obtain ⟨s2, hse2⟩ : ∃ s, s = E.points[j2] := ⟨_, rfl⟩
      rw [← hse1] at q1 hs1 HLB
      rw [← hse2] at q2 hs2 HLB
      rw [hj1] at r0
      rw [hj2] at r1
      have HD1 := Lib.hid (fun W => rDecimal_any v1 h30 (by omega) W)
      have HD2 := Lib.hid (fun W => rDecimal_any v2 (by omega) h32 W)
      have hz1 := itoa_len v1 h30 (by omega)
      have hz2 := itoa_len v2 (by omega) h32
      obtain ⟨n1, hn1⟩ : ∃ n, n = strV (Lib.itoa v1) := ⟨_, rfl⟩
      obtain ⟨n2, hn2⟩ : ∃ n, n = strV (Lib.itoa v2) := ⟨_, rfl⟩
      rw [← hn1] at HD1
      rw [← hn2] at HD2
      have hz3 : n1.size ≤ 40 := by rw [hn1, strV_size]; exact hz1
      have hz4 : n2.size ≤ 40 := by rw [hn2, strV_size]; exact hz2
      have hd1 : Lib.itoa v1 = n1.data.toList := by rw [hn1, strV_data]
      have hd2 : Lib.itoa v2 = n2.data.toList := by rw [hn2, strV_data]
      rw [hd1, hd2] at HLB
      obtain ⟨T0, dT0, zT0, hadd0⟩ := cat_any (P := Tryz.prog) S ⟨#[103, 97, 112, 32]⟩ (by have := (show (⟨#[103, 97, 112, 32]⟩ : ByteArray).size = 4 from rfl); omega)
      rw [(show (⟨#[103, 97, 112, 32]⟩ : ByteArray).size = 4 from rfl)] at zT0
      obtain ⟨T1, dT1, zT1, hadd1⟩ := cat_any (P := Tryz.prog) T0 s1 (by omega)
      obtain ⟨T2, dT2, zT2, hadd2⟩ := cat_any (P := Tryz.prog) T1 ⟨#[32]⟩ (by have := (show (⟨#[32]⟩ : ByteArray).size = 1 from rfl); omega)
      rw [(show (⟨#[32]⟩ : ByteArray).size = 1 from rfl)] at zT2
      obtain ⟨T3, dT3, zT3, hadd3⟩ := cat_any (P := Tryz.prog) T2 s2 (by omega)
      obtain ⟨T4, dT4, zT4, hadd4⟩ := cat_any (P := Tryz.prog) T3 ⟨#[32]⟩ (by have := (show (⟨#[32]⟩ : ByteArray).size = 1 from rfl); omega)
      rw [(show (⟨#[32]⟩ : ByteArray).size = 1 from rfl)] at zT4
      obtain ⟨T5, dT5, zT5, hadd5⟩ := cat_any (P := Tryz.prog) T4 n1 (by omega)
      obtain ⟨T6, dT6, zT6, hadd6⟩ := cat_any (P := Tryz.prog) T5 ⟨#[32]⟩ (by have := (show (⟨#[32]⟩ : ByteArray).size = 1 from rfl); omega)
      rw [(show (⟨#[32]⟩ : ByteArray).size = 1 from rfl)] at zT6
      obtain ⟨T7, dT7, zT7, hadd7⟩ := cat_any (P := Tryz.prog) T6 n2 (by omega)
      obtain ⟨T8, dT8, zT8, hadd8⟩ := cat_any (P := Tryz.prog) T7 ⟨#[10]⟩ (by have := (show (⟨#[10]⟩ : ByteArray).size = 1 from rfl); omega)
      clear hcp hcx hx hse1 hse2 h10 h11 h20 h21 hj1 hj2 hn1 hn2 hz1 hz2 hz3 hz4 hd1 hd2 h30 h31 h32 hv1 hv2
      have hnx : Hid (T8.data.toList = l ++ linesB ((E.gaps.take (k + 1)).map (gapLn E))) := (show T8.data.toList = l ++ linesB ((E.gaps.take (k + 1)).map (gapLn E)) from by
        rw [HNX.out, HLB.out, ← List.append_assoc, ← hS.out]
        rw [dT8, dT7, dT6, dT5, dT4, dT3, dT2, dT1, dT0]
        simp)
      clear dT0 zT0 dT1 zT1 dT2 zT2 dT3 zT3 dT4 zT4 dT5 zT5 dT6 zT6 dT7 zT7 dT8 zT8 hSz
      go_upto_region 17 with fail
      have hxg := get_alloc_new wr (.cells #[.int .i64 (j1 : Int), .int .i64 (j2 : Int), .int .i64 v1, .int .i64 v2] 65)
      have hbg : Below wr.heap.size wr (wr.alloc (.cells #[.int .i64 (j1 : Int), .int .i64 (j2 : Int), .int .i64 v1, .int .i64 v2] 65)) := (Below.refl _ _).alloc (Nat.le_refl _) _
      have hpw : pb < wr.heap.size := hpb
      have hew : eb < wr.heap.size := lt_of_get he.out.box
      rw [← hbg.cell (p := ⟨eb, 2, none⟩) hew] at c2
      rw [← hbg.cell (p := ⟨pb, po + j1, none⟩) hpw] at q1
      rw [← hbg.cell (p := ⟨pb, po + j2, none⟩) hpw] at q2
      generalize wr.alloc _ = wg at hxg hbg c2 q1 q2 ⊢
      obtain ⟨gb, hgb⟩ : ∃ gb, gb = wr.heap.size := ⟨_, rfl⟩
      rw [← hgb] at hxg ⊢
      have hgw := lt_of_get hxg
      have hpw2 := Nat.lt_of_lt_of_le hpw hbg.size
      have hew2 := Nat.lt_of_lt_of_le hew hbg.size
      obtain ⟨g0, g1, g2, g3⟩ := four_cells hxg
      have HBG := Lib.hid hbg
      have HE1 := Lib.hid (fun W (hW : Below wg.heap.size wg W) => (HD1.out W).mono (R' := fun e w' => e = .returned (.string n1) ∧ Below wg.heap.size wg w') (fun e w' h => ⟨h.1, hW.trans (h.2.mono hW.size)⟩))
      have HE2 := Lib.hid (fun W (hW : Below wg.heap.size wg W) => (HD2.out W).mono (R' := fun e w' => e = .returned (.string n2) ∧ Below wg.heap.size wg w') (fun e w' h => ⟨h.1, hW.trans (h.2.mono hW.size)⟩))
      clear hgb hxg hbg hpw hew c0 c1 c3 c4 c5 c6 c7 c8 c9 r0 r1 r2 r3 hpb
      go_region_held3 (fun w' => (∀ o, w'.cell? ⟨eb, o, none⟩ = wg.cell? ⟨eb, o, none⟩) ∧ (∀ o, w'.cell? ⟨gb, o, none⟩ = wg.cell? ⟨gb, o, none⟩) ∧ (∀ o, w'.cell? ⟨pb, o, none⟩ = wg.cell? ⟨pb, o, none⟩))
        (first | exact ⟨fun _ => rfl, fun _ => rfl, fun _ => rfl⟩ | exact ⟨fun o => d2.cell (p := ⟨eb, o, none⟩) hew2, fun o => d2.cell (p := ⟨gb, o, none⟩) hgw, fun o => d2.cell (p := ⟨pb, o, none⟩) hpw2⟩ | exact ⟨fun o => d1.cell (p := ⟨eb, o, none⟩) hew2, fun o => d1.cell (p := ⟨gb, o, none⟩) hgw, fun o => d1.cell (p := ⟨pb, o, none⟩) hpw2⟩)
        (first | (go_at_call_of 26 (Value.int .i64 v1); refine (HE1.out _ ?_).mono ?_; (repeat (first | exact Below.refl _ _ | refine Below.drew ?_)); rintro e wA ⟨rfl, d1⟩) | (go_at_call_of 26 (Value.int .i64 v2); refine (HE2.out _ ?_).mono ?_; (repeat (first | exact d1 | refine Below.drew ?_)); rintro e wB ⟨rfl, d2⟩))
      have HE9 := Lib.hid (he.out.below (HBG.out.trans (d2.mono HBG.out.size)))
      go_wp2_with fail
      go_roundw
      case rel => exact ⟨k + 1, T8, by omega, rfl, by go_num, hnx, HE9⟩
      case measure => simp [intOf]; omega
    · have hkn : k = E.gaps.length := by omega
      have HSX : Hid (S.data.toList = l ++ linesB (E.gaps.map (gapLn E))) := (show S.data.toList = l ++ linesB (E.gaps.map (gapLn E)) from by rw [hS.out, hkn, List.take_length])
      clear hkn
      go_wp2_with fail
      exact HEXIT.out _ _ _ _ _ _ _ _ _ _ _ _ _ _ _ _ _ _ _ _ _ _ _ _ _ _ _ _ _ _ _ _ _ _ _ _ _ _ _ _ _ _ _ _ HSX.out he.out
end Go.Proofs.YtgdaljpimblkgaaGreatDoor
