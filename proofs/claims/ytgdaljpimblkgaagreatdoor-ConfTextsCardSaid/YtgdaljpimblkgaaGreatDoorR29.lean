/- The document's Line: its first switch (made by mkline3.py). -/
import Derived.Test.YtgdaljpimblkgaaGreatDoorR28
namespace Go.Proofs.YtgdaljpimblkgaaGreatDoor
open Go.RowKit
set_option linter.unusedVariables false

set_option maxRecDepth 100000 in
set_option maxHeartbeats 8000000 in
theorem lnF_any (w1 : World) (w0 : ByteArray) (cb coff nW cap : Nat) (x0 x1 x2 x3 x4 x7 x8 x9 x10 x11 x12 x13 x14 x15 x16 x17 x18 x38 x39 x40 x41 x42 x43 x44 x45 x46 x47 x48 x49 x50 x51 x52 x53 x54 x55 x56 x57 x58 x59 x60 x61 x62 x63 x64 x65 x66 x67 x68 x69 x70 x71 x72 x73 x74 x75 x76 x77 x78 x79 x80 x81 x82 x83 x84 x85 x86 x87 x88 x89 x90 x91 x92 x93 x94 x95 x96 x97 x98 x99 x100 x101 x102 x103 x104 x105 x106 x107 x108 x109 x110 x111 x112 x113 x114 x115 x116 x117 x118 x119 x120 x121 x122 x123 x124 x125 x126 x127 x128 x129 x130 x131 x132 x133 x134 x135 x136 x137 x138 x139 x140 x141 x142 x143 x144 x145 x146 x147 x148 x149 x150 x151 x152 x153 x154 x155 x156 x157 x158 x159 x160 x161 x162 x163 x164 x165 x166 x167 x168 x169 x170 x171 x172 x173 x174 x175 x176 x177 x178 x179 x180 x181 x182 x183 x184 x185 x186 x187 x188 x189 x190 x191 x192 x193 x194 x195 x196 x197 x198 x199 x200 x201 x202 x203 x204 x205 x206 x207 x208 x209 x210 x211 x212 x213 x214 x215 x216 x217 x218 x219 x220 x221 x222 x223 x224 x225 x226 x227 x228 x229 x230 x231 x232 x233 x234 x235 x236 x237 x238 x239 x240 x241 x242 x243 x244 x245 x246 x247 x248 x249 x250 x251 x252 x253 x254 x255 x256 x257 x258 x259 x260 x261 x262 x263 x264 x265 x266 x267 x268 x269 x270 x271 x272 x273 : Value) (Q0 : Exit → Act → World → Prop) (hexit : ∀ (y20 y21 y22 y23 y24 y25 y26 y27 y28 y29 y30 y31 y32 y33 y34 y35 y36 y37 : Value), Q0 .normal ⟨(List.toArray ((x0) :: (x1) :: (x2) :: (x3) :: (x4) :: (.slice (some ⟨cb, coff, none⟩) nW cap) :: (.string (formWords w0)) :: (x7) :: (x8) :: (x9) :: (x10) :: (x11) :: (x12) :: (x13) :: (x14) :: (x15) :: (x16) :: (x17) :: (x18) :: (.string w0) :: (y20) :: (y21) :: (y22) :: (y23) :: (y24) :: (y25) :: (y26) :: (y27) :: (y28) :: (y29) :: (y30) :: (y31) :: (y32) :: (y33) :: (y34) :: (y35) :: (y36) :: (y37) :: (x38) :: (x39) :: (x40) :: (x41) :: (x42) :: (x43) :: (x44) :: (x45) :: (x46) :: (x47) :: (x48) :: (x49) :: (x50) :: (x51) :: (x52) :: (x53) :: (x54) :: (x55) :: (x56) :: (x57) :: (x58) :: (x59) :: (x60) :: (x61) :: (x62) :: (x63) :: (x64) :: (x65) :: (x66) :: (x67) :: (x68) :: (x69) :: (x70) :: (x71) :: (x72) :: (x73) :: (x74) :: (x75) :: (x76) :: (x77) :: (x78) :: (x79) :: (x80) :: (x81) :: (x82) :: (x83) :: (x84) :: (x85) :: (x86) :: (x87) :: (x88) :: (x89) :: (x90) :: (x91) :: (x92) :: (x93) :: (x94) :: (x95) :: (x96) :: (x97) :: (x98) :: (x99) :: (x100) :: (x101) :: (x102) :: (x103) :: (x104) :: (x105) :: (x106) :: (x107) :: (x108) :: (x109) :: (x110) :: (x111) :: (x112) :: (x113) :: (x114) :: (x115) :: (x116) :: (x117) :: (x118) :: (x119) :: (x120) :: (x121) :: (x122) :: (x123) :: (x124) :: (x125) :: (x126) :: (x127) :: (x128) :: (x129) :: (x130) :: (x131) :: (x132) :: (x133) :: (x134) :: (x135) :: (x136) :: (x137) :: (x138) :: (x139) :: (x140) :: (x141) :: (x142) :: (x143) :: (x144) :: (x145) :: (x146) :: (x147) :: (x148) :: (x149) :: (x150) :: (x151) :: (x152) :: (x153) :: (x154) :: (x155) :: (x156) :: (x157) :: (x158) :: (x159) :: (x160) :: (x161) :: (x162) :: (x163) :: (x164) :: (x165) :: (x166) :: (x167) :: (x168) :: (x169) :: (x170) :: (x171) :: (x172) :: (x173) :: (x174) :: (x175) :: (x176) :: (x177) :: (x178) :: (x179) :: (x180) :: (x181) :: (x182) :: (x183) :: (x184) :: (x185) :: (x186) :: (x187) :: (x188) :: (x189) :: (x190) :: (x191) :: (x192) :: (x193) :: (x194) :: (x195) :: (x196) :: (x197) :: (x198) :: (x199) :: (x200) :: (x201) :: (x202) :: (x203) :: (x204) :: (x205) :: (x206) :: (x207) :: (x208) :: (x209) :: (x210) :: (x211) :: (x212) :: (x213) :: (x214) :: (x215) :: (x216) :: (x217) :: (x218) :: (x219) :: (x220) :: (x221) :: (x222) :: (x223) :: (x224) :: (x225) :: (x226) :: (x227) :: (x228) :: (x229) :: (x230) :: (x231) :: (x232) :: (x233) :: (x234) :: (x235) :: (x236) :: (x237) :: (x238) :: (x239) :: (x240) :: (x241) :: (x242) :: (x243) :: (x244) :: (x245) :: (x246) :: (x247) :: (x248) :: (x249) :: (x250) :: (x251) :: (x252) :: (x253) :: (x254) :: (x255) :: (x256) :: (x257) :: (x258) :: (x259) :: (x260) :: (x261) :: (x262) :: (x263) :: (x264) :: (x265) :: (x266) :: (x267) :: (x268) :: (x269) :: (x270) :: (x271) :: (x272) :: (x273) :: [])), []⟩ w1) (x20 x21 x22 x23 x24 x25 x26 x27 x28 x29 x30 x31 x32 x33 x34 x35 x36 x37 : Value) :
    Code.wp Tryz.prog (lnBlk 0) Q0 ⟨(List.toArray ((x0) :: (x1) :: (x2) :: (x3) :: (x4) :: (.slice (some ⟨cb, coff, none⟩) nW cap) :: (.string ByteArray.empty) :: (x7) :: (x8) :: (x9) :: (x10) :: (x11) :: (x12) :: (x13) :: (x14) :: (x15) :: (x16) :: (x17) :: (x18) :: (.string w0) :: (x20) :: (x21) :: (x22) :: (x23) :: (x24) :: (x25) :: (x26) :: (x27) :: (x28) :: (x29) :: (x30) :: (x31) :: (x32) :: (x33) :: (x34) :: (x35) :: (x36) :: (x37) :: (x38) :: (x39) :: (x40) :: (x41) :: (x42) :: (x43) :: (x44) :: (x45) :: (x46) :: (x47) :: (x48) :: (x49) :: (x50) :: (x51) :: (x52) :: (x53) :: (x54) :: (x55) :: (x56) :: (x57) :: (x58) :: (x59) :: (x60) :: (x61) :: (x62) :: (x63) :: (x64) :: (x65) :: (x66) :: (x67) :: (x68) :: (x69) :: (x70) :: (x71) :: (x72) :: (x73) :: (x74) :: (x75) :: (x76) :: (x77) :: (x78) :: (x79) :: (x80) :: (x81) :: (x82) :: (x83) :: (x84) :: (x85) :: (x86) :: (x87) :: (x88) :: (x89) :: (x90) :: (x91) :: (x92) :: (x93) :: (x94) :: (x95) :: (x96) :: (x97) :: (x98) :: (x99) :: (x100) :: (x101) :: (x102) :: (x103) :: (x104) :: (x105) :: (x106) :: (x107) :: (x108) :: (x109) :: (x110) :: (x111) :: (x112) :: (x113) :: (x114) :: (x115) :: (x116) :: (x117) :: (x118) :: (x119) :: (x120) :: (x121) :: (x122) :: (x123) :: (x124) :: (x125) :: (x126) :: (x127) :: (x128) :: (x129) :: (x130) :: (x131) :: (x132) :: (x133) :: (x134) :: (x135) :: (x136) :: (x137) :: (x138) :: (x139) :: (x140) :: (x141) :: (x142) :: (x143) :: (x144) :: (x145) :: (x146) :: (x147) :: (x148) :: (x149) :: (x150) :: (x151) :: (x152) :: (x153) :: (x154) :: (x155) :: (x156) :: (x157) :: (x158) :: (x159) :: (x160) :: (x161) :: (x162) :: (x163) :: (x164) :: (x165) :: (x166) :: (x167) :: (x168) :: (x169) :: (x170) :: (x171) :: (x172) :: (x173) :: (x174) :: (x175) :: (x176) :: (x177) :: (x178) :: (x179) :: (x180) :: (x181) :: (x182) :: (x183) :: (x184) :: (x185) :: (x186) :: (x187) :: (x188) :: (x189) :: (x190) :: (x191) :: (x192) :: (x193) :: (x194) :: (x195) :: (x196) :: (x197) :: (x198) :: (x199) :: (x200) :: (x201) :: (x202) :: (x203) :: (x204) :: (x205) :: (x206) :: (x207) :: (x208) :: (x209) :: (x210) :: (x211) :: (x212) :: (x213) :: (x214) :: (x215) :: (x216) :: (x217) :: (x218) :: (x219) :: (x220) :: (x221) :: (x222) :: (x223) :: (x224) :: (x225) :: (x226) :: (x227) :: (x228) :: (x229) :: (x230) :: (x231) :: (x232) :: (x233) :: (x234) :: (x235) :: (x236) :: (x237) :: (x238) :: (x239) :: (x240) :: (x241) :: (x242) :: (x243) :: (x244) :: (x245) :: (x246) :: (x247) :: (x248) :: (x249) :: (x250) :: (x251) :: (x252) :: (x253) :: (x254) :: (x255) :: (x256) :: (x257) :: (x258) :: (x259) :: (x260) :: (x261) :: (x262) :: (x263) :: (x264) :: (x265) :: (x266) :: (x267) :: (x268) :: (x269) :: (x270) :: (x271) :: (x272) :: (x273) :: [])), []⟩ w1 := by
  have HEXIT := Lib.hid hexit
  clear hexit
  cases hok : formOk w0
  case false =>
    obtain ⟨e0, e1, e2, e3, e4, e5, e6, e7, e8, e9⟩ := no_cmp hok
    have HFW : formWords w0 = ByteArray.empty := by unfold formWords; unfold formOk at hok; cases hf : formOf w0 with | none => rfl | some q => rw [hf] at hok; cases hok
    rw [HFW] at HEXIT
    clear hok HFW
    conv => arg 2; whnf
    go_wp2_with fail
    exact HEXIT.out _ _ _ _ _ _ _ _ _ _ _ _ _ _ _ _ _ _
  case true =>
    obtain ⟨k, fs, hk9, hfo, hst, hwd, hf1, hf4⟩ := formOf_some hok
    obtain ⟨hw, hf⟩ := form_kw hfo
    have HFW : formWords w0 = fwB k := hwd.trans hf
    have hcmp := kw_cmp hw hk9
    rw [HFW] at HEXIT
    clear hok hfo hst hwd hf1 hf4 hw hf HFW
    match k, hk9 with
    | 0, _ =>
      have e0 : (w0.toList == [119, 105, 110, 100, 111, 119]) = true := hcmp.1
      have e1 : (w0.toList == [99, 121, 99, 108, 101]) = false := hcmp.2.1
      have e2 : (w0.toList == [100, 101, 108, 97, 121]) = false := hcmp.2.2.1
      have e3 : (w0.toList == [101, 110, 116, 105, 116, 121]) = false := hcmp.2.2.2.1
      have e4 : (w0.toList == [112, 111, 105, 110, 116]) = false := hcmp.2.2.2.2.1
      have e5 : (w0.toList == [99, 111, 117, 110, 116]) = false := hcmp.2.2.2.2.2.1
      have e6 : (w0.toList == [103, 97, 112]) = false := hcmp.2.2.2.2.2.2.1
      have e7 : (w0.toList == [101, 100, 103, 101]) = false := hcmp.2.2.2.2.2.2.2.1
      have e8 : (w0.toList == [102, 105, 114, 115, 116]) = false := hcmp.2.2.2.2.2.2.2.2.1
      have e9 : (w0.toList == [108, 97, 115, 116]) = false := hcmp.2.2.2.2.2.2.2.2.2
      clear hcmp
      conv => arg 2; whnf
      go_wp2_with fail
      exact HEXIT.out _ _ _ _ _ _ _ _ _ _ _ _ _ _ _ _ _ _
    | 1, _ =>
      have e0 : (w0.toList == [119, 105, 110, 100, 111, 119]) = false := hcmp.1
      have e1 : (w0.toList == [99, 121, 99, 108, 101]) = true := hcmp.2.1
      have e2 : (w0.toList == [100, 101, 108, 97, 121]) = false := hcmp.2.2.1
      have e3 : (w0.toList == [101, 110, 116, 105, 116, 121]) = false := hcmp.2.2.2.1
      have e4 : (w0.toList == [112, 111, 105, 110, 116]) = false := hcmp.2.2.2.2.1
      have e5 : (w0.toList == [99, 111, 117, 110, 116]) = false := hcmp.2.2.2.2.2.1
      have e6 : (w0.toList == [103, 97, 112]) = false := hcmp.2.2.2.2.2.2.1
      have e7 : (w0.toList == [101, 100, 103, 101]) = false := hcmp.2.2.2.2.2.2.2.1
      have e8 : (w0.toList == [102, 105, 114, 115, 116]) = false := hcmp.2.2.2.2.2.2.2.2.1
      have e9 : (w0.toList == [108, 97, 115, 116]) = false := hcmp.2.2.2.2.2.2.2.2.2
      clear hcmp
      conv => arg 2; whnf
      go_wp2_with fail
      exact HEXIT.out _ _ _ _ _ _ _ _ _ _ _ _ _ _ _ _ _ _
    | 2, _ =>
      have e0 : (w0.toList == [119, 105, 110, 100, 111, 119]) = false := hcmp.1
      have e1 : (w0.toList == [99, 121, 99, 108, 101]) = false := hcmp.2.1
      have e2 : (w0.toList == [100, 101, 108, 97, 121]) = true := hcmp.2.2.1
      have e3 : (w0.toList == [101, 110, 116, 105, 116, 121]) = false := hcmp.2.2.2.1
      have e4 : (w0.toList == [112, 111, 105, 110, 116]) = false := hcmp.2.2.2.2.1
      have e5 : (w0.toList == [99, 111, 117, 110, 116]) = false := hcmp.2.2.2.2.2.1
      have e6 : (w0.toList == [103, 97, 112]) = false := hcmp.2.2.2.2.2.2.1
      have e7 : (w0.toList == [101, 100, 103, 101]) = false := hcmp.2.2.2.2.2.2.2.1
      have e8 : (w0.toList == [102, 105, 114, 115, 116]) = false := hcmp.2.2.2.2.2.2.2.2.1
      have e9 : (w0.toList == [108, 97, 115, 116]) = false := hcmp.2.2.2.2.2.2.2.2.2
      clear hcmp
      conv => arg 2; whnf
      go_wp2_with fail
      exact HEXIT.out _ _ _ _ _ _ _ _ _ _ _ _ _ _ _ _ _ _
    | 3, _ =>
      have e0 : (w0.toList == [119, 105, 110, 100, 111, 119]) = false := hcmp.1
      have e1 : (w0.toList == [99, 121, 99, 108, 101]) = false := hcmp.2.1
      have e2 : (w0.toList == [100, 101, 108, 97, 121]) = false := hcmp.2.2.1
      have e3 : (w0.toList == [101, 110, 116, 105, 116, 121]) = true := hcmp.2.2.2.1
      have e4 : (w0.toList == [112, 111, 105, 110, 116]) = false := hcmp.2.2.2.2.1
      have e5 : (w0.toList == [99, 111, 117, 110, 116]) = false := hcmp.2.2.2.2.2.1
      have e6 : (w0.toList == [103, 97, 112]) = false := hcmp.2.2.2.2.2.2.1
      have e7 : (w0.toList == [101, 100, 103, 101]) = false := hcmp.2.2.2.2.2.2.2.1
      have e8 : (w0.toList == [102, 105, 114, 115, 116]) = false := hcmp.2.2.2.2.2.2.2.2.1
      have e9 : (w0.toList == [108, 97, 115, 116]) = false := hcmp.2.2.2.2.2.2.2.2.2
      clear hcmp
      conv => arg 2; whnf
      go_wp2_with fail
      exact HEXIT.out _ _ _ _ _ _ _ _ _ _ _ _ _ _ _ _ _ _
    | 4, _ =>
      have e0 : (w0.toList == [119, 105, 110, 100, 111, 119]) = false := hcmp.1
      have e1 : (w0.toList == [99, 121, 99, 108, 101]) = false := hcmp.2.1
      have e2 : (w0.toList == [100, 101, 108, 97, 121]) = false := hcmp.2.2.1
      have e3 : (w0.toList == [101, 110, 116, 105, 116, 121]) = false := hcmp.2.2.2.1
      have e4 : (w0.toList == [112, 111, 105, 110, 116]) = true := hcmp.2.2.2.2.1
      have e5 : (w0.toList == [99, 111, 117, 110, 116]) = false := hcmp.2.2.2.2.2.1
      have e6 : (w0.toList == [103, 97, 112]) = false := hcmp.2.2.2.2.2.2.1
      have e7 : (w0.toList == [101, 100, 103, 101]) = false := hcmp.2.2.2.2.2.2.2.1
      have e8 : (w0.toList == [102, 105, 114, 115, 116]) = false := hcmp.2.2.2.2.2.2.2.2.1
      have e9 : (w0.toList == [108, 97, 115, 116]) = false := hcmp.2.2.2.2.2.2.2.2.2
      clear hcmp
      conv => arg 2; whnf
      go_wp2_with fail
      exact HEXIT.out _ _ _ _ _ _ _ _ _ _ _ _ _ _ _ _ _ _
    | 5, _ =>
      have e0 : (w0.toList == [119, 105, 110, 100, 111, 119]) = false := hcmp.1
      have e1 : (w0.toList == [99, 121, 99, 108, 101]) = false := hcmp.2.1
      have e2 : (w0.toList == [100, 101, 108, 97, 121]) = false := hcmp.2.2.1
      have e3 : (w0.toList == [101, 110, 116, 105, 116, 121]) = false := hcmp.2.2.2.1
      have e4 : (w0.toList == [112, 111, 105, 110, 116]) = false := hcmp.2.2.2.2.1
      have e5 : (w0.toList == [99, 111, 117, 110, 116]) = true := hcmp.2.2.2.2.2.1
      have e6 : (w0.toList == [103, 97, 112]) = false := hcmp.2.2.2.2.2.2.1
      have e7 : (w0.toList == [101, 100, 103, 101]) = false := hcmp.2.2.2.2.2.2.2.1
      have e8 : (w0.toList == [102, 105, 114, 115, 116]) = false := hcmp.2.2.2.2.2.2.2.2.1
      have e9 : (w0.toList == [108, 97, 115, 116]) = false := hcmp.2.2.2.2.2.2.2.2.2
      clear hcmp
      conv => arg 2; whnf
      go_wp2_with fail
      exact HEXIT.out _ _ _ _ _ _ _ _ _ _ _ _ _ _ _ _ _ _
    | 6, _ =>
      have e0 : (w0.toList == [119, 105, 110, 100, 111, 119]) = false := hcmp.1
      have e1 : (w0.toList == [99, 121, 99, 108, 101]) = false := hcmp.2.1
      have e2 : (w0.toList == [100, 101, 108, 97, 121]) = false := hcmp.2.2.1
      have e3 : (w0.toList == [101, 110, 116, 105, 116, 121]) = false := hcmp.2.2.2.1
      have e4 : (w0.toList == [112, 111, 105, 110, 116]) = false := hcmp.2.2.2.2.1
      have e5 : (w0.toList == [99, 111, 117, 110, 116]) = false := hcmp.2.2.2.2.2.1
      have e6 : (w0.toList == [103, 97, 112]) = true := hcmp.2.2.2.2.2.2.1
      have e7 : (w0.toList == [101, 100, 103, 101]) = false := hcmp.2.2.2.2.2.2.2.1
      have e8 : (w0.toList == [102, 105, 114, 115, 116]) = false := hcmp.2.2.2.2.2.2.2.2.1
      have e9 : (w0.toList == [108, 97, 115, 116]) = false := hcmp.2.2.2.2.2.2.2.2.2
      clear hcmp
      conv => arg 2; whnf
      go_wp2_with fail
      exact HEXIT.out _ _ _ _ _ _ _ _ _ _ _ _ _ _ _ _ _ _
    | 7, _ =>
      have e0 : (w0.toList == [119, 105, 110, 100, 111, 119]) = false := hcmp.1
      have e1 : (w0.toList == [99, 121, 99, 108, 101]) = false := hcmp.2.1
      have e2 : (w0.toList == [100, 101, 108, 97, 121]) = false := hcmp.2.2.1
      have e3 : (w0.toList == [101, 110, 116, 105, 116, 121]) = false := hcmp.2.2.2.1
      have e4 : (w0.toList == [112, 111, 105, 110, 116]) = false := hcmp.2.2.2.2.1
      have e5 : (w0.toList == [99, 111, 117, 110, 116]) = false := hcmp.2.2.2.2.2.1
      have e6 : (w0.toList == [103, 97, 112]) = false := hcmp.2.2.2.2.2.2.1
      have e7 : (w0.toList == [101, 100, 103, 101]) = true := hcmp.2.2.2.2.2.2.2.1
      have e8 : (w0.toList == [102, 105, 114, 115, 116]) = false := hcmp.2.2.2.2.2.2.2.2.1
      have e9 : (w0.toList == [108, 97, 115, 116]) = false := hcmp.2.2.2.2.2.2.2.2.2
      clear hcmp
      conv => arg 2; whnf
      go_wp2_with fail
      exact HEXIT.out _ _ _ _ _ _ _ _ _ _ _ _ _ _ _ _ _ _
    | 8, _ =>
      have e0 : (w0.toList == [119, 105, 110, 100, 111, 119]) = false := hcmp.1
      have e1 : (w0.toList == [99, 121, 99, 108, 101]) = false := hcmp.2.1
      have e2 : (w0.toList == [100, 101, 108, 97, 121]) = false := hcmp.2.2.1
      have e3 : (w0.toList == [101, 110, 116, 105, 116, 121]) = false := hcmp.2.2.2.1
      have e4 : (w0.toList == [112, 111, 105, 110, 116]) = false := hcmp.2.2.2.2.1
      have e5 : (w0.toList == [99, 111, 117, 110, 116]) = false := hcmp.2.2.2.2.2.1
      have e6 : (w0.toList == [103, 97, 112]) = false := hcmp.2.2.2.2.2.2.1
      have e7 : (w0.toList == [101, 100, 103, 101]) = false := hcmp.2.2.2.2.2.2.2.1
      have e8 : (w0.toList == [102, 105, 114, 115, 116]) = true := hcmp.2.2.2.2.2.2.2.2.1
      have e9 : (w0.toList == [108, 97, 115, 116]) = false := hcmp.2.2.2.2.2.2.2.2.2
      clear hcmp
      conv => arg 2; whnf
      go_wp2_with fail
      exact HEXIT.out _ _ _ _ _ _ _ _ _ _ _ _ _ _ _ _ _ _
    | 9, _ =>
      have e0 : (w0.toList == [119, 105, 110, 100, 111, 119]) = false := hcmp.1
      have e1 : (w0.toList == [99, 121, 99, 108, 101]) = false := hcmp.2.1
      have e2 : (w0.toList == [100, 101, 108, 97, 121]) = false := hcmp.2.2.1
      have e3 : (w0.toList == [101, 110, 116, 105, 116, 121]) = false := hcmp.2.2.2.1
      have e4 : (w0.toList == [112, 111, 105, 110, 116]) = false := hcmp.2.2.2.2.1
      have e5 : (w0.toList == [99, 111, 117, 110, 116]) = false := hcmp.2.2.2.2.2.1
      have e6 : (w0.toList == [103, 97, 112]) = false := hcmp.2.2.2.2.2.2.1
      have e7 : (w0.toList == [101, 100, 103, 101]) = false := hcmp.2.2.2.2.2.2.2.1
      have e8 : (w0.toList == [102, 105, 114, 115, 116]) = false := hcmp.2.2.2.2.2.2.2.2.1
      have e9 : (w0.toList == [108, 97, 115, 116]) = true := hcmp.2.2.2.2.2.2.2.2.2
      clear hcmp
      conv => arg 2; whnf
      go_wp2_with fail
      exact HEXIT.out _ _ _ _ _ _ _ _ _ _ _ _ _ _ _ _ _ _
end Go.Proofs.YtgdaljpimblkgaaGreatDoor
