import Derived.Test.YtikehilbmldadaaGreatDoorV45
set_option maxHeartbeats 8000000
set_option maxRecDepth 100000
set_option linter.unusedVariables false
open Go.Proofs.Tryz Go.Proofs.YtikehilbmldadaaGreatDoor.Tryz
namespace Go.Proofs.YtikehilbmldadaaGreatDoor
open Go.RowKit
theorem Af6(w1:World)(w0:ByteArray)(cb coff nW cap:Nat)(x0 x1 x2 x3 x4 x7 x8 x9 x10 x11 x12 x13 x14 x15 x16 x17 x18 x38 x39 x40 x41 x42 x43 x44 x45 x46 x47 x48 x49 x50 x51 x52 x53 x54 x55 x56 x57 x58 x59 x60 x61 x62 x63 x64 x65 x66 x67 x68 x69 x70 x71 x72 x73 x74 x75 x76 x77 x78 x79 x80 x81 x82 x83 x84 x85 x86 x87 x88 x89 x90 x91 x92 x93 x94 x95 x96 x97 x98 x99 x100 x101 x102 x103 x104 x105 x106 x107 x108 x109 x110 x111 x112 x113 x114 x115 x116 x117 x118 x119 x120 x121 x122 x123 x124 x125 x126 x127 x128 x129 x130 x131 x132 x133 x134 x135 x136 x137 x138 x139 x140 x141 x142 x143 x144 x145 x146 x147 x148 x149 x150 x151 x152 x153 x154 x155 x156 x157 x158 x159 x160 x161 x162 x163 x164 x165 x166 x167 x168 x169 x170 x171 x172 x173 x174 x175 x176 x177 x178 x179 x180 x181 x182 x183 x184 x185 x186 x187 x188 x189 x190 x191 x192 x193 x194 x195 x196 x197 x198 x199 x200 x201 x202 x203 x204 x205 x206 x207 x208 x209 x210 x211 x212 x213 x214 x215 x216 x217 x218 x219 x220 x221 x222 x223 x224 x225 x226 x227 x228 x229 x230 x231 x232 x233 x234 x235 x236 x237 x238 x239 x240 x241 x242 x243 x244 x245 x246 x247 x248 x249 x250 x251 x252 x253 x254 x255 x256 x257 x258 x259 x260 x261 x262 x263 x264 x265 x266 x267 x268 x269 x270 x271 x272 x273:Value)(Q0:Exit->Act->World->Prop)(hexit:∀(y20 y21 y22 y23 y24 y25 y26 y27 y28 y29 y30 y31 y32 y33 y34 y35 y36 y37:Value),Q0 .normal ⟨(List.toArray (x0::x1::x2::x3::x4::(.slice (some ⟨cb,coff,none⟩) nW cap)::(.string (Ba w0))::x7::x8::x9::x10::x11::x12::x13::x14::x15::x16::x17::x18::(.string w0)::y20::y21::y22::y23::y24::y25::y26::y27::y28::y29::y30::y31::y32::y33::y34::y35::y36::y37::x38::x39::x40::x41::x42::x43::x44::x45::x46::x47::x48::x49::x50::x51::x52::x53::x54::x55::x56::x57::x58::x59::x60::x61::x62::x63::x64::x65::x66::x67::x68::x69::x70::x71::x72::x73::x74::x75::x76::x77::x78::x79::x80::x81::x82::x83::x84::x85::x86::x87::x88::x89::x90::x91::x92::x93::x94::x95::x96::x97::x98::x99::x100::x101::x102::x103::x104::x105::x106::x107::x108::x109::x110::x111::x112::x113::x114::x115::x116::x117::x118::x119::x120::x121::x122::x123::x124::x125::x126::x127::x128::x129::x130::x131::x132::x133::x134::x135::x136::x137::x138::x139::x140::x141::x142::x143::x144::x145::x146::x147::x148::x149::x150::x151::x152::x153::x154::x155::x156::x157::x158::x159::x160::x161::x162::x163::x164::x165::x166::x167::x168::x169::x170::x171::x172::x173::x174::x175::x176::x177::x178::x179::x180::x181::x182::x183::x184::x185::x186::x187::x188::x189::x190::x191::x192::x193::x194::x195::x196::x197::x198::x199::x200::x201::x202::x203::x204::x205::x206::x207::x208::x209::x210::x211::x212::x213::x214::x215::x216::x217::x218::x219::x220::x221::x222::x223::x224::x225::x226::x227::x228::x229::x230::x231::x232::x233::x234::x235::x236::x237::x238::x239::x240::x241::x242::x243::x244::x245::x246::x247::x248::x249::x250::x251::x252::x253::x254::x255::x256::x257::x258::x259::x260::x261::x262::x263::x264::x265::x266::x267::x268::x269::x270::x271::x272::x273:: [])),[]⟩ w1)(x20 x21 x22 x23 x24 x25 x26 x27 x28 x29 x30 x31 x32 x33 x34 x35 x36 x37:Value):
  Code.wp Tryz.prog (Ro 0) Q0 ⟨(List.toArray (x0::x1::x2::x3::x4::(.slice (some ⟨cb,coff,none⟩) nW cap)::(.string ByteArray.empty)::x7::x8::x9::x10::x11::x12::x13::x14::x15::x16::x17::x18::(.string w0)::x20::x21::x22::x23::x24::x25::x26::x27::x28::x29::x30::x31::x32::x33::x34::x35::x36::x37::x38::x39::x40::x41::x42::x43::x44::x45::x46::x47::x48::x49::x50::x51::x52::x53::x54::x55::x56::x57::x58::x59::x60::x61::x62::x63::x64::x65::x66::x67::x68::x69::x70::x71::x72::x73::x74::x75::x76::x77::x78::x79::x80::x81::x82::x83::x84::x85::x86::x87::x88::x89::x90::x91::x92::x93::x94::x95::x96::x97::x98::x99::x100::x101::x102::x103::x104::x105::x106::x107::x108::x109::x110::x111::x112::x113::x114::x115::x116::x117::x118::x119::x120::x121::x122::x123::x124::x125::x126::x127::x128::x129::x130::x131::x132::x133::x134::x135::x136::x137::x138::x139::x140::x141::x142::x143::x144::x145::x146::x147::x148::x149::x150::x151::x152::x153::x154::x155::x156::x157::x158::x159::x160::x161::x162::x163::x164::x165::x166::x167::x168::x169::x170::x171::x172::x173::x174::x175::x176::x177::x178::x179::x180::x181::x182::x183::x184::x185::x186::x187::x188::x189::x190::x191::x192::x193::x194::x195::x196::x197::x198::x199::x200::x201::x202::x203::x204::x205::x206::x207::x208::x209::x210::x211::x212::x213::x214::x215::x216::x217::x218::x219::x220::x221::x222::x223::x224::x225::x226::x227::x228::x229::x230::x231::x232::x233::x234::x235::x236::x237::x238::x239::x240::x241::x242::x243::x244::x245::x246::x247::x248::x249::x250::x251::x252::x253::x254::x255::x256::x257::x258::x259::x260::x261::x262::x263::x264::x265::x266::x267::x268::x269::x270::x271::x272::x273:: [])),[]⟩ w1:=by
 have HEXIT:=Aia hexit
 clear hexit
 cases hok:Dr w0
 case false=>
  obtain⟨e0,e1,e2,e3,e4,e5,e6,e7,e8,e9⟩:=Ag3 hok
  have HFW:Ba w0=ByteArray.empty:=by unfold Ba;unfold Dr at hok;cases hf:Gb w0 with|none=>rfl|some q=>rw[hf]at hok;cases hok
  rw[HFW]at HEXIT
  clear hok HFW
  conv=>arg 2;whnf
  go_wp2_with fail
  exact HEXIT.out _ _ _ _ _ _ _ _ _ _ _ _ _ _ _ _ _ _
 case true=>
  obtain⟨k,fs,hk9,hfo,hst,hwd,hf1,hf4⟩:=Oz hok
  obtain⟨hw,hf⟩:=xV hfo
  have HFW:Ba w0=fwB k:=hwd.trans hf
  have hcmp:=Nb hw hk9
  rw[HFW]at HEXIT
  clear hok hfo hst hwd hf1 hf4 hw hf HFW
  match k,hk9 with
  |0,_=>
   obtain⟨e0,e1,e2,e3,e4,e5,e6,e7,e8,e9⟩:_=true/\_=false/\_=false/\_=false/\_=false/\_=false/\_=false/\_=false/\_=false/\_=false:=id hcmp
   clear hcmp
   conv=>arg 2;whnf
   go_wp2_with fail
   exact HEXIT.out _ _ _ _ _ _ _ _ _ _ _ _ _ _ _ _ _ _
  |1,_=>
   obtain⟨e0,e1,e2,e3,e4,e5,e6,e7,e8,e9⟩:_=false/\_=true/\_=false/\_=false/\_=false/\_=false/\_=false/\_=false/\_=false/\_=false:=id hcmp
   clear hcmp
   conv=>arg 2;whnf
   go_wp2_with fail
   exact HEXIT.out _ _ _ _ _ _ _ _ _ _ _ _ _ _ _ _ _ _
  |2,_=>
   obtain⟨e0,e1,e2,e3,e4,e5,e6,e7,e8,e9⟩:_=false/\_=false/\_=true/\_=false/\_=false/\_=false/\_=false/\_=false/\_=false/\_=false:=id hcmp
   clear hcmp
   conv=>arg 2;whnf
   go_wp2_with fail
   exact HEXIT.out _ _ _ _ _ _ _ _ _ _ _ _ _ _ _ _ _ _
  |3,_=>
   obtain⟨e0,e1,e2,e3,e4,e5,e6,e7,e8,e9⟩:_=false/\_=false/\_=false/\_=true/\_=false/\_=false/\_=false/\_=false/\_=false/\_=false:=id hcmp
   clear hcmp
   conv=>arg 2;whnf
   go_wp2_with fail
   exact HEXIT.out _ _ _ _ _ _ _ _ _ _ _ _ _ _ _ _ _ _
  |4,_=>
   obtain⟨e0,e1,e2,e3,e4,e5,e6,e7,e8,e9⟩:_=false/\_=false/\_=false/\_=false/\_=true/\_=false/\_=false/\_=false/\_=false/\_=false:=id hcmp
   clear hcmp
   conv=>arg 2;whnf
   go_wp2_with fail
   exact HEXIT.out _ _ _ _ _ _ _ _ _ _ _ _ _ _ _ _ _ _
  |5,_=>
   obtain⟨e0,e1,e2,e3,e4,e5,e6,e7,e8,e9⟩:_=false/\_=false/\_=false/\_=false/\_=false/\_=true/\_=false/\_=false/\_=false/\_=false:=id hcmp
   clear hcmp
   conv=>arg 2;whnf
   go_wp2_with fail
   exact HEXIT.out _ _ _ _ _ _ _ _ _ _ _ _ _ _ _ _ _ _
  |6,_=>
   obtain⟨e0,e1,e2,e3,e4,e5,e6,e7,e8,e9⟩:_=false/\_=false/\_=false/\_=false/\_=false/\_=false/\_=true/\_=false/\_=false/\_=false:=id hcmp
   clear hcmp
   conv=>arg 2;whnf
   go_wp2_with fail
   exact HEXIT.out _ _ _ _ _ _ _ _ _ _ _ _ _ _ _ _ _ _
  |7,_=>
   obtain⟨e0,e1,e2,e3,e4,e5,e6,e7,e8,e9⟩:_=false/\_=false/\_=false/\_=false/\_=false/\_=false/\_=false/\_=true/\_=false/\_=false:=id hcmp
   clear hcmp
   conv=>arg 2;whnf
   go_wp2_with fail
   exact HEXIT.out _ _ _ _ _ _ _ _ _ _ _ _ _ _ _ _ _ _
  |8,_=>
   obtain⟨e0,e1,e2,e3,e4,e5,e6,e7,e8,e9⟩:_=false/\_=false/\_=false/\_=false/\_=false/\_=false/\_=false/\_=false/\_=true/\_=false:=id hcmp
   clear hcmp
   conv=>arg 2;whnf
   go_wp2_with fail
   exact HEXIT.out _ _ _ _ _ _ _ _ _ _ _ _ _ _ _ _ _ _
  |9,_=>
   obtain⟨e0,e1,e2,e3,e4,e5,e6,e7,e8,e9⟩:_=false/\_=false/\_=false/\_=false/\_=false/\_=false/\_=false/\_=false/\_=false/\_=true:=id hcmp
   clear hcmp
   conv=>arg 2;whnf
   go_wp2_with fail
   exact HEXIT.out _ _ _ _ _ _ _ _ _ _ _ _ _ _ _ _ _ _
theorem Af5(w w5:World)(base rb:Nat)(o:Nat->Option Nat)(C:Al)(w0 t0:ByteArray)(vo:Option Addr)(vc:Nat)(Y:List Aw)(cb coff nf cap nb noff nc:Nat)(pa pb:Int)(hkw:w0=kwB 3)(HR5:Hid (D0 base rb o C w0 (.slice vo Y.length vc) Y w5))(HK5:Hid (Ae (fun b=>b=rb\/base<=b) w w5))
  (hYl:Y.length<=100000) (u0:w5.cell? ⟨cb,coff,none⟩=some (.string w0)) (u1:w5.cell? ⟨cb,coff+1,none⟩=some (.string t0)) (m0:w5.cell? ⟨nb,noff,none⟩=some (.int .i64 pa)) (m1:w5.cell? ⟨nb,noff+1,none⟩=some (.int .i64 pb)) (hcb5:cb<w5.heap.size) (hocb:o cb=none) (hnb2:nb<w5.heap.size) (honb:o nb=none) (hcap:((nf+1:Nat):Int)<=(cap:Int)) (hncap:(nf:Int)<=(nc:Int)) (hnf2:nf=2)
  (x1 x2 x3 x6 x7 x8 x10 x11 x12 x14 x15 x16 x17 x18 x19 x20 x21 x22 x23 x24 x25 x26 x27 x28 x29 x30 x31 x32 x33 x34 x35 x36 x37 x38 x39 x40 x41 x42 x43 x44 x45 x46 x47 x48 x49 x50 x51 x52 x53 x54 x55 x56 x57 x58 x59 x60 x61 x62 x63 x64 x65 x66 x67 x68 x69 x70 x71 x72 x73 x74 x75 x76 x77 x78 x79 x80 x81 x82 x83 x84 x85 x86 x87 x88 x89 x90 x91 x92 x93 x94 x95 x96 x97 x98 x99 x100 x101 x102 x103 x104 x105 x106 x107 x108 x109 x110 x111 x112 x113 x114 x115 x116 x117 x118 x119 x120 x177 x178 x179 x180 x181 x182 x183 x184 x185 x186 x187 x188 x189 x190 x191 x192 x193 x194 x195 x196 x197 x198 x199 x200 x201 x202 x203 x204 x205 x206 x207 x208 x209 x210 x211 x212 x213 x214 x215 x216 x217 x218 x219 x220 x221 x222 x223 x224 x225 x226 x227 x228 x229 x230 x231 x232 x233 x234 x235 x236 x237 x238 x239 x240 x241 x242 x243 x244 x245 x246 x247 x248 x249 x250 x251 x252 x253 x254 x255 x256 x257 x258 x259 x260 x261 x262 x263 x264 x265 x266 x267 x268 x269 x270 x271 x272 x273:Value) (Q0:Exit->Act->World->Prop) (hret:∀(y13 y122 y123 y124 y125 y126 y127 y128 y129 y130 y131 y132 y133 y134 y135 y136 y137 y138 y139 y140 y141 y142 y143 y144 y145 y146 y147 y148 y149 y150 y151 y152 y153 y154 y155 y156 y157 y158 y159 y160 y161 y162 y163 y164 y165 y166 y167 y168 y169 y170 y171 y172 y173 y174 y175 y176:Value) (w':World),((∃o' v' Y',D0 base rb o' (Bf 3 t0 [pb] C) (kwB 3) v' Y' w')/\Ae (fun b=>b=rb\/base<=b) w w')->Q0 .ret ⟨(List.toArray ((.pointer (some ⟨rb,0,none⟩))::x1::x2::x3::(.int .i64 0)::(.slice (some ⟨cb,coff,none⟩) (nf+1) cap)::x6::x7::x8::(.slice (some ⟨nb,noff,none⟩) nf nc)::x10::x11::x12::y13::x14::x15::x16::x17::x18::x19::x20::x21::x22::x23::x24::x25::x26::x27::x28::x29::x30::x31::x32::x33::x34::x35::x36::x37::x38::x39::x40::x41::x42::x43::x44::x45::x46::x47::x48::x49::x50::x51::x52::x53::x54::x55::x56::x57::x58::x59::x60::x61::x62::x63::x64::x65::x66::x67::x68::x69::x70::x71::x72::x73::x74::x75::x76::x77::x78::x79::x80::x81::x82::x83::x84::x85::x86::x87::x88::x89::x90::x91::x92::x93::x94::x95::x96::x97::x98::x99::x100::x101::x102::x103::x104::x105::x106::x107::x108::x109::x110::x111::x112::x113::x114::x115::x116::x117::x118::x119::x120::(.string w0)::y122::y123::y124::y125::y126::y127::y128::y129::y130::y131::y132::y133::y134::y135::y136::y137::y138::y139::y140::y141::y142::y143::y144::y145::y146::y147::y148::y149::y150::y151::y152::y153::y154::y155::y156::y157::y158::y159::y160::y161::y162::y163::y164::y165::y166::y167::y168::y169::y170::y171::y172::y173::y174::y175::y176::x177::x178::x179::x180::x181::x182::x183::x184::x185::x186::x187::x188::x189::x190::x191::x192::x193::x194::x195::x196::x197::x198::x199::x200::x201::x202::x203::x204::x205::x206::x207::x208::x209::x210::x211::x212::x213::x214::x215::x216::x217::x218::x219::x220::x221::x222::x223::x224::x225::x226::x227::x228::x229::x230::x231::x232::x233::x234::x235::x236::x237::x238::x239::x240::x241::x242::x243::x244::x245::x246::x247::x248::x249::x250::x251::x252::x253::x254::x255::x256::x257::x258::x259::x260::x261::x262::x263::x264::x265::x266::x267::x268::x269::x270::x271::x272::x273:: [])),[]⟩ w') (x4 x13 x122 x123 x124 x125 x126 x127 x128 x129 x130 x131 x132 x133 x134 x135 x136 x137 x138 x139 x140 x141 x142 x143 x144 x145 x146 x147 x148 x149 x150 x151 x152 x153 x154 x155 x156 x157 x158 x159 x160 x161 x162 x163 x164 x165 x166 x167 x168 x169 x170 x171 x172 x173 x174 x175 x176:Value):
  Code.wp Tryz.prog (Ro 4) Q0 ⟨(List.toArray ((.pointer (some ⟨rb,0,none⟩))::x1::x2::x3::x4::(.slice (some ⟨cb,coff,none⟩) (nf+1) cap)::x6::x7::x8::(.slice (some ⟨nb,noff,none⟩) nf nc)::x10::x11::x12::x13::x14::x15::x16::x17::x18::x19::x20::x21::x22::x23::x24::x25::x26::x27::x28::x29::x30::x31::x32::x33::x34::x35::x36::x37::x38::x39::x40::x41::x42::x43::x44::x45::x46::x47::x48::x49::x50::x51::x52::x53::x54::x55::x56::x57::x58::x59::x60::x61::x62::x63::x64::x65::x66::x67::x68::x69::x70::x71::x72::x73::x74::x75::x76::x77::x78::x79::x80::x81::x82::x83::x84::x85::x86::x87::x88::x89::x90::x91::x92::x93::x94::x95::x96::x97::x98::x99::x100::x101::x102::x103::x104::x105::x106::x107::x108::x109::x110::x111::x112::x113::x114::x115::x116::x117::x118::x119::x120::(.string w0)::x122::x123::x124::x125::x126::x127::x128::x129::x130::x131::x132::x133::x134::x135::x136::x137::x138::x139::x140::x141::x142::x143::x144::x145::x146::x147::x148::x149::x150::x151::x152::x153::x154::x155::x156::x157::x158::x159::x160::x161::x162::x163::x164::x165::x166::x167::x168::x169::x170::x171::x172::x173::x174::x175::x176::x177::x178::x179::x180::x181::x182::x183::x184::x185::x186::x187::x188::x189::x190::x191::x192::x193::x194::x195::x196::x197::x198::x199::x200::x201::x202::x203::x204::x205::x206::x207::x208::x209::x210::x211::x212::x213::x214::x215::x216::x217::x218::x219::x220::x221::x222::x223::x224::x225::x226::x227::x228::x229::x230::x231::x232::x233::x234::x235::x236::x237::x238::x239::x240::x241::x242::x243::x244::x245::x246::x247::x248::x249::x250::x251::x252::x253::x254::x255::x256::x257::x258::x259::x260::x261::x262::x263::x264::x265::x266::x267::x268::x269::x270::x271::x272::x273:: [])),[]⟩ w5:=by
 have HRET:=Aia hret
 have hnfw:1<nf+1:=by omega
 have hnfw2:(1:Int)<(nf:Int)+1:=by omega
 have hnfn0:0<nf:=by omega
 have hnfn1:1<nf:=by omega
 have hnfk0:(0:Int)<(nf:Int):=by omega
 have hnfk1:(1:Int)<(nf:Int):=by omega
 have hcmp:=Nb hkw (by decide)
 obtain⟨e0,e1,e2,e3,e4,e5,e6,e7,e8,e9⟩:_=false/\_=false/\_=false/\_=true/\_=false/\_=false/\_=false/\_=false/\_=false/\_=false:=id hcmp
 have HKW:=Aia hkw
 have hrl5:=Aa HR5.out.blk
 obtain⟨c0,c1,c2,c3,c4,c5,cf⟩:=Hg HR5.out.blk
 clear hret hnf2 hcmp hkw
 obtain⟨i0,hi0,hz0,hz1,hz2⟩:=info_parts infoEntR
 have HOW:Hid (∀W,Below w5.heap.size w5 W->As W base 50 10 (.slice vo Y.length vc) Y.length (Y.flatMap Aj)/\base<=W.heap.size):=(show _ from fun W hW=>⟨HR5.out.row.later hW,Nat.le_trans HR5.out.top hW.size⟩)
 have HA:Hid (∀(w1 w2:World) (v2:Value),Below w5.heap.size w5 w1->As w2 base 50 10 v2 (Y.length+1) (Y.flatMap Aj++Aj ⟨Mi t0 pb,.slice none 0 0,.slice none 0 0,.slice none 0 0,.slice none 0 0,.slice none 0 0⟩)->w1.grownBy w2 (Value.slice vo Y.length vc).ownBlock->(v2.ownBlock=(Value.slice vo Y.length vc).ownBlock\/∀b,v2.ownBlock=some b->w1.heap.size<=b)->
   Hid ((∃o' v' Y',D0 base rb o' (Bf 3 t0 [pb] C) (kwB 3) v' Y' (w2.setCell ⟨rb,4,none⟩ v2))/\Ae (fun b=>b=rb\/base<=b) w (w2.setCell ⟨rb,4,none⟩ v2))/\(w2.cell? ⟨rb,4,none⟩=some (.slice vo Y.length vc)/\w2.cell? ⟨nb,noff,none⟩=some (.int .i64 pa)/\w2.cell? ⟨nb,noff+1,none⟩=some (.int .i64 pb)/\w2.cell? ⟨cb,coff,none⟩=some (.string w0)/\w2.cell? ⟨cb,coff+1,none⟩=some (.string t0))/\w2.frozen? ⟨rb,4,none⟩=false):=(show _ from by
  intro w1 w2 v2 b1 ho hg hn
  obtain⟨⟨o',hA⟩,hK,hc,hf⟩:=HR5.out.appE b1 t0 pb ho hg hn
  rw[HKW.out]at hA
  refine⟨⟨⟨o',v2,_,hA⟩,HK5.out.step hK (fun b hb hl=>?_)⟩,⟨hc,?_,?_,?_,?_⟩,hf⟩
  ·rcases hb with hb|⟨tg,hb⟩
   ·exact .inl hb
   ·right
    by_cases hbb:b<base
    ·rw[HR5.out.ob b hbb]at hb;cases hb
    ·omega
  ·rw[(HR5.out.far b1 HR5.out.rt hg nb noff hnb2 honb).1];exact m0
  ·rw[(HR5.out.far b1 HR5.out.rt hg nb (noff+1) hnb2 honb).1];exact m1
  ·rw[(HR5.out.far b1 HR5.out.rt hg cb coff hcb5 hocb).1];exact u0
  ·rw[(HR5.out.far b1 HR5.out.rt hg cb (coff+1) hcb5 hocb).1];exact u1)
 conv=>arg 2;whnf
 go_upto_region 59 with fail
 refine wp_region_noPanic ?_
 go_region_law (refine Bq rfl (.tmp 162) (.tmp 170) 28 rfl base 50 i0 _ 10 168 underlying28 hi0 hz0 hz1 hz2 rfl (by decide) (.slice vo Y.length vc) Y.length (Y.flatMap Aj) rfl ?_ ⟨w5.heap.size,0,none⟩ 1 1 (Aj ⟨Mi t0 pb,.slice none 0 0,.slice none 0 0,.slice none 0 0,.slice none 0 0,.slice none 0 0⟩) rfl rfl ?_ (by intro u hu;simp[Aj,A7]at hu;rcases hu with rfl|rfl|rfl|rfl|rfl|rfl|rfl|rfl|rfl|rfl<;>rfl) (by unfold maxLen;omega) (by omega) ?_ ?_;exact(HOW.out _ (by repeat(first|exact Below.refl _ _|refine Below.drew ?_|refine Below.alloc ?_ (by simp) _))).1;exact Av _ (Aj ⟨Mi t0 pb,.slice none 0 0,.slice none 0 0,.slice none 0 0,.slice none 0 0,.slice none 0 0⟩) _;exact(HOW.out _ (by repeat(first|exact Below.refl _ _|refine Below.drew ?_|refine Below.alloc ?_ (by simp) _))).2;intro a1 k1 w6 ho6 hg6 hn6;have hfin:=HA.out _ w6 _ (by repeat(first|exact Below.refl _ _|refine Below.drew ?_|refine Below.alloc ?_ (by simp) _)) ho6 hg6 hn6)
 all_goals
  refine NoPanic.normal ?_
  obtain⟨F1,⟨d4,_⟩,df⟩:=hfin
  clear ho6 hg6 hn6 c0 c1 c2 c3 c4 c5 cf
  go_wp2_with fail
  exact HRET.out _ _ _ _ _ _ _ _ _ _ _ _ _ _ _ _ _ _ _ _ _ _ _ _ _ _ _ _ _ _ _ _ _ _ _ _ _ _ _ _ _ _ _ _ _ _ _ _ _ _ _ _ _ _ _ _ _ F1.out
theorem Ahs(w5 w6:World)(base rb:Nat)(o:Nat->Option Nat)(C:Al)(w0 t0:ByteArray)(v:Value)(Z:List Aw)(y:Aw)(eb cb coff nf cap nb noff nc:Nat)(pa pb pc:Int)(hkw:w0=kwB 5)(HR5:Hid (D0 base rb o C w0 v (Z++ [y]) w5))(HBE:Hid (Below w5.heap.size w5 w6))(HEB:Hid (w5.heap.size<=eb))(HXE:Hid (w6.heap[eb]? =some (.cells (Aj y).toArray 50)))
  (hn5:y.E.points.length<=100000/\y.E.gaps.length<=100000/\y.E.edges.length<=100000/\y.E.first.length<=100000/\y.E.last.length<=100000) (u0:w6.cell? ⟨cb,coff,none⟩=some (.string w0)) (u1:w6.cell? ⟨cb,coff+1,none⟩=some (.string t0)) (m0:w6.cell? ⟨nb,noff,none⟩=some (.int .i64 pa)) (m1:w6.cell? ⟨nb,noff+1,none⟩=some (.int .i64 pb)) (m2:w6.cell? ⟨nb,noff+2,none⟩=some (.int .i64 pc)) (hcb5:cb<w5.heap.size) (hocb:o cb=none) (hnb2:nb<w5.heap.size) (honb:o nb=none) (hcap:((nf+1:Nat):Int)<=(cap:Int)) (hncap:(nf:Int)<=(nc:Int)) (hnfn0:0<nf) (hnfk0:(0:Int)<(nf:Int)) (hnfn1:1<nf) (hnfk1:(1:Int)<(nf:Int)) (hnfn2:2<nf) (hnfk2:(2:Int)<(nf:Int)) (hnf1:1<=nf)
  (x0 x1 x2 x3 x4 x6 x7 x8 x10 x11 x12 x13 x15 x16 x17 x18 x19 x20 x21 x22 x23 x24 x25 x26 x27 x28 x29 x30 x31 x32 x33 x34 x35 x36 x37 x38 x39 x40 x41 x42 x43 x44 x45 x46 x47 x48 x49 x50 x51 x52 x53 x54 x55 x56 x57 x58 x59 x60 x61 x62 x63 x64 x65 x66 x67 x68 x69 x70 x71 x72 x73 x74 x75 x76 x77 x78 x79 x80 x81 x82 x83 x84 x85 x86 x87 x88 x89 x90 x91 x92 x93 x94 x95 x96 x97 x98 x99 x100 x101 x102 x103 x104 x105 x106 x107 x108 x109 x110 x111 x112 x113 x114 x115 x116 x117 x118 x119 x120 x121 x122 x123 x124 x125 x126 x127 x128 x129 x130 x131 x132 x133 x134 x135 x136 x137 x138 x139 x140 x141 x142 x143 x144 x145 x146 x147 x148 x149 x150 x151 x152 x153 x154 x155 x156 x157 x158 x159 x160 x161 x162 x163 x164 x165 x166 x167 x168 x169 x170 x171 x172 x173 x174 x175 x176 x177 x178 x179 x180 x181 x182 x183 x184 x185 x186 x266 x267 x268 x269 x270 x271 x272 x273:Value) (Q0:Exit->Act->World->Prop) (hexit:∀(y188 y189 y190 y191 y192 y193 y194 y195 y196 y197 y198 y199 y200 y201 y202 y203 y204 y205 y206 y207 y208 y209 y210 y211 y212 y213 y214 y215 y216 y217 y218 y219 y220 y221 y222 y223 y224 y225 y226 y227 y228 y229 y230 y231 y232 y233 y234 y235 y236 y237 y238 y239 y240 y241 y242 y243 y244 y245 y246 y247 y248 y249 y250 y251 y252 y253 y254 y255 y256 y257 y258 y259 y260 y261 y262 y263 y264 y265:Value) (w':World),(∃y':Aw,Hid (BX w5 base o Z.length eb (Bl 5 t0 [pa,pb,pc] y.E) y y' w'))->Q0 .normal ⟨(List.toArray (x0::x1::x2::x3::x4::(.slice (some ⟨cb,coff,none⟩) (nf+1) cap)::x6::x7::x8::(.slice (some ⟨nb,noff,none⟩) nf nc)::x10::x11::x12::x13::(.pointer (some ⟨eb,0,none⟩))::x15::x16::x17::x18::x19::x20::x21::x22::x23::x24::x25::x26::x27::x28::x29::x30::x31::x32::x33::x34::x35::x36::x37::x38::x39::x40::x41::x42::x43::x44::x45::x46::x47::x48::x49::x50::x51::x52::x53::x54::x55::x56::x57::x58::x59::x60::x61::x62::x63::x64::x65::x66::x67::x68::x69::x70::x71::x72::x73::x74::x75::x76::x77::x78::x79::x80::x81::x82::x83::x84::x85::x86::x87::x88::x89::x90::x91::x92::x93::x94::x95::x96::x97::x98::x99::x100::x101::x102::x103::x104::x105::x106::x107::x108::x109::x110::x111::x112::x113::x114::x115::x116::x117::x118::x119::x120::x121::x122::x123::x124::x125::x126::x127::x128::x129::x130::x131::x132::x133::x134::x135::x136::x137::x138::x139::x140::x141::x142::x143::x144::x145::x146::x147::x148::x149::x150::x151::x152::x153::x154::x155::x156::x157::x158::x159::x160::x161::x162::x163::x164::x165::x166::x167::x168::x169::x170::x171::x172::x173::x174::x175::x176::x177::x178::x179::x180::x181::x182::x183::x184::x185::x186::(.string w0)::y188::y189::y190::y191::y192::y193::y194::y195::y196::y197::y198::y199::y200::y201::y202::y203::y204::y205::y206::y207::y208::y209::y210::y211::y212::y213::y214::y215::y216::y217::y218::y219::y220::y221::y222::y223::y224::y225::y226::y227::y228::y229::y230::y231::y232::y233::y234::y235::y236::y237::y238::y239::y240::y241::y242::y243::y244::y245::y246::y247::y248::y249::y250::y251::y252::y253::y254::y255::y256::y257::y258::y259::y260::y261::y262::y263::y264::y265::x266::x267::x268::x269::x270::x271::x272::x273:: [])),[]⟩ w') (x188 x189 x190 x191 x192 x193 x194 x195 x196 x197 x198 x199 x200 x201 x202 x203 x204 x205 x206 x207 x208 x209 x210 x211 x212 x213 x214 x215 x216 x217 x218 x219 x220 x221 x222 x223 x224 x225 x226 x227 x228 x229 x230 x231 x232 x233 x234 x235 x236 x237 x238 x239 x240 x241 x242 x243 x244 x245 x246 x247 x248 x249 x250 x251 x252 x253 x254 x255 x256 x257 x258 x259 x260 x261 x262 x263 x264 x265:Value):
  Code.wp Tryz.prog (Ro 5) Q0 ⟨(List.toArray (x0::x1::x2::x3::x4::(.slice (some ⟨cb,coff,none⟩) (nf+1) cap)::x6::x7::x8::(.slice (some ⟨nb,noff,none⟩) nf nc)::x10::x11::x12::x13::(.pointer (some ⟨eb,0,none⟩))::x15::x16::x17::x18::x19::x20::x21::x22::x23::x24::x25::x26::x27::x28::x29::x30::x31::x32::x33::x34::x35::x36::x37::x38::x39::x40::x41::x42::x43::x44::x45::x46::x47::x48::x49::x50::x51::x52::x53::x54::x55::x56::x57::x58::x59::x60::x61::x62::x63::x64::x65::x66::x67::x68::x69::x70::x71::x72::x73::x74::x75::x76::x77::x78::x79::x80::x81::x82::x83::x84::x85::x86::x87::x88::x89::x90::x91::x92::x93::x94::x95::x96::x97::x98::x99::x100::x101::x102::x103::x104::x105::x106::x107::x108::x109::x110::x111::x112::x113::x114::x115::x116::x117::x118::x119::x120::x121::x122::x123::x124::x125::x126::x127::x128::x129::x130::x131::x132::x133::x134::x135::x136::x137::x138::x139::x140::x141::x142::x143::x144::x145::x146::x147::x148::x149::x150::x151::x152::x153::x154::x155::x156::x157::x158::x159::x160::x161::x162::x163::x164::x165::x166::x167::x168::x169::x170::x171::x172::x173::x174::x175::x176::x177::x178::x179::x180::x181::x182::x183::x184::x185::x186::(.string w0)::x188::x189::x190::x191::x192::x193::x194::x195::x196::x197::x198::x199::x200::x201::x202::x203::x204::x205::x206::x207::x208::x209::x210::x211::x212::x213::x214::x215::x216::x217::x218::x219::x220::x221::x222::x223::x224::x225::x226::x227::x228::x229::x230::x231::x232::x233::x234::x235::x236::x237::x238::x239::x240::x241::x242::x243::x244::x245::x246::x247::x248::x249::x250::x251::x252::x253::x254::x255::x256::x257::x258::x259::x260::x261::x262::x263::x264::x265::x266::x267::x268::x269::x270::x271::x272::x273:: [])),[]⟩ w6:=by
 have HEXIT:=Aia hexit
 clear hexit
 obtain⟨⟨pa',pc',hvp⟩,⟨ga',gc',hvg⟩,⟨ea',ec',hve⟩,⟨fa',fc',hvf⟩,⟨la',lc',hvl⟩⟩:=K7 HR5.out.last
 have hxe:=HXE.out
 rw[show(Aj y).toArray=#[.string y.E.name,.int .i64 y.E.tol,.slice pa' y.E.points.length pc',.int .i64 y.E.count,.int .i64 y.E.mn,.int .i64 y.E.mx,.slice ga' y.E.gaps.length gc',.slice ea' y.E.edges.length ec',.slice fa' y.E.first.length fc',.slice la' y.E.last.length lc'] from by
  show #[.string y.E.name,.int .i64 y.E.tol,y.p,.int .i64 y.E.count,.int .i64 y.E.mn,.int .i64 y.E.mx,y.g,y.e,y.f,y.l]=_
  rw[hvp,hvg,hve,hvf,hvl]]at hxe
 have HVS:=Aia (And.intro hvp (And.intro hvg (And.intro hve (And.intro hvf hvl))))
 obtain⟨z0,z1,z2,z3,z4,z5,z6,z7,z8,z9,zf⟩:=Bs hxe
 have hel:=Aa hxe
 have hbs:=HBE.out.size
 have heb:=HEB.out
 have hce:¬cb=eb:=by omega
 have hec:¬eb=cb:=by omega
 have hne:¬nb=eb:=by omega
 have hen:¬eb=nb:=by omega
 have hcmp:=Nb hkw (by decide)
 obtain⟨e0,e1,e2,e3,e4,e5,e6,e7,e8,e9⟩:_=false/\_=false/\_=false/\_=false/\_=false/\_=true/\_=false/\_=false/\_=false/\_=false:=id hcmp
 clear hcmp hkw hvp hvg hve hvf hvl hxe hbs heb
 have hnfw:1<nf+1:=by omega
 have hnfw2:(1:Int)<(nf:Int)+1:=by omega
 conv=>arg 2;whnf
 have HA:=Aia (BX.cnt HR5.out HBE.out HEB.out HXE.out pa pb pc)
 clear hn5
 go_wp2_with fail
 exact HEXIT.out _ _ _ _ _ _ _ _ _ _ _ _ _ _ _ _ _ _ _ _ _ _ _ _ _ _ _ _ _ _ _ _ _ _ _ _ _ _ _ _ _ _ _ _ _ _ _ _ _ _ _ _ _ _ _ _ _ _ _ _ _ _ _ _ _ _ _ _ _ _ _ _ _ _ _ _ _ _ _ ⟨_,HA⟩
end Go.Proofs.YtikehilbmldadaaGreatDoor
