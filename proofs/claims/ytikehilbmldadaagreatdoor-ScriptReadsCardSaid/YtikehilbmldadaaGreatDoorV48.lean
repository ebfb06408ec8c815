import Derived.Test.YtikehilbmldadaaGreatDoorV45
set_option maxHeartbeats 8000000
set_option maxRecDepth 100000
set_option linter.unusedVariables false
open Go.Proofs.Tryz Go.Proofs.YtikehilbmldadaaGreatDoor.Tryz
namespace Go.Proofs.YtikehilbmldadaaGreatDoor
open Go.RowKit
theorem Ahr(w5 w6:World)(base rb:Nat)(o:Nat->Option Nat)(C:Al)(w0 t0:ByteArray)(v:Value)(Z:List Aw)(y:Aw)(eb cb coff nf cap nb noff nc:Nat)(pa pb pc pd:Int)(hkw:w0=kwB 6)(HR5:Hid (D0 base rb o C w0 v (Z++ [y]) w5))(HBE:Hid (Below w5.heap.size w5 w6))(HEB:Hid (w5.heap.size<=eb))(HXE:Hid (w6.heap[eb]? =some (.cells (Aj y).toArray 50)))
  (hn5:y.E.points.length<=100000/\y.E.gaps.length<=100000/\y.E.edges.length<=100000/\y.E.first.length<=100000/\y.E.last.length<=100000) (u0:w6.cell? ⟨cb,coff,none⟩=some (.string w0)) (u1:w6.cell? ⟨cb,coff+1,none⟩=some (.string t0)) (m0:w6.cell? ⟨nb,noff,none⟩=some (.int .i64 pa)) (m1:w6.cell? ⟨nb,noff+1,none⟩=some (.int .i64 pb)) (m2:w6.cell? ⟨nb,noff+2,none⟩=some (.int .i64 pc)) (m3:w6.cell? ⟨nb,noff+3,none⟩=some (.int .i64 pd)) (hcb5:cb<w5.heap.size) (hocb:o cb=none) (hnb2:nb<w5.heap.size) (honb:o nb=none) (hcap:((nf+1:Nat):Int)<=(cap:Int)) (hncap:(nf:Int)<=(nc:Int)) (hnfn0:0<nf) (hnfk0:(0:Int)<(nf:Int)) (hnfn1:1<nf) (hnfk1:(1:Int)<(nf:Int)) (hnfn2:2<nf) (hnfk2:(2:Int)<(nf:Int)) (hnfn3:3<nf) (hnfk3:(3:Int)<(nf:Int)) (hnf1:1<=nf)
  (x0 x1 x2 x3 x4 x6 x7 x8 x10 x11 x12 x13 x15 x16 x17 x18 x19 x20 x21 x22 x23 x24 x25 x26 x27 x28 x29 x30 x31 x32 x33 x34 x35 x36 x37 x38 x39 x40 x41 x42 x43 x44 x45 x46 x47 x48 x49 x50 x51 x52 x53 x54 x55 x56 x57 x58 x59 x60 x61 x62 x63 x64 x65 x66 x67 x68 x69 x70 x71 x72 x73 x74 x75 x76 x77 x78 x79 x80 x81 x82 x83 x84 x85 x86 x87 x88 x89 x90 x91 x92 x93 x94 x95 x96 x97 x98 x99 x100 x101 x102 x103 x104 x105 x106 x107 x108 x109 x110 x111 x112 x113 x114 x115 x116 x117 x118 x119 x120 x121 x122 x123 x124 x125 x126 x127 x128 x129 x130 x131 x132 x133 x134 x135 x136 x137 x138 x139 x140 x141 x142 x143 x144 x145 x146 x147 x148 x149 x150 x151 x152 x153 x154 x155 x156 x157 x158 x159 x160 x161 x162 x163 x164 x165 x166 x167 x168 x169 x170 x171 x172 x173 x174 x175 x176 x177 x178 x179 x180 x181 x182 x183 x184 x185 x186 x266 x267 x268 x269 x270 x271 x272 x273:Value) (Q0:Exit->Act->World->Prop) (hexit:∀(y188 y189 y190 y191 y192 y193 y194 y195 y196 y197 y198 y199 y200 y201 y202 y203 y204 y205 y206 y207 y208 y209 y210 y211 y212 y213 y214 y215 y216 y217 y218 y219 y220 y221 y222 y223 y224 y225 y226 y227 y228 y229 y230 y231 y232 y233 y234 y235 y236 y237 y238 y239 y240 y241 y242 y243 y244 y245 y246 y247 y248 y249 y250 y251 y252 y253 y254 y255 y256 y257 y258 y259 y260 y261 y262 y263 y264 y265:Value) (w':World),(∃y':Aw,Hid (BX w5 base o Z.length eb (Bl 6 t0 [pa,pb,pc,pd] y.E) y y' w'))->Q0 .normal ⟨(List.toArray (x0::x1::x2::x3::x4::(.slice (some ⟨cb,coff,none⟩) (nf+1) cap)::x6::x7::x8::(.slice (some ⟨nb,noff,none⟩) nf nc)::x10::x11::x12::x13::(.pointer (some ⟨eb,0,none⟩))::x15::x16::x17::x18::x19::x20::x21::x22::x23::x24::x25::x26::x27::x28::x29::x30::x31::x32::x33::x34::x35::x36::x37::x38::x39::x40::x41::x42::x43::x44::x45::x46::x47::x48::x49::x50::x51::x52::x53::x54::x55::x56::x57::x58::x59::x60::x61::x62::x63::x64::x65::x66::x67::x68::x69::x70::x71::x72::x73::x74::x75::x76::x77::x78::x79::x80::x81::x82::x83::x84::x85::x86::x87::x88::x89::x90::x91::x92::x93::x94::x95::x96::x97::x98::x99::x100::x101::x102::x103::x104::x105::x106::x107::x108::x109::x110::x111::x112::x113::x114::x115::x116::x117::x118::x119::x120::x121::x122::x123::x124::x125::x126::x127::x128::x129::x130::x131::x132::x133::x134::x135::x136::x137::x138::x139::x140::x141::x142::x143::x144::x145::x146::x147::x148::x149::x150::x151::x152::x153::x154::x155::x156::x157::x158::x159::x160::x161::x162::x163::x164::x165::x166::x167::x168::x169::x170::x171::x172::x173::x174::x175::x176::x177::x178::x179::x180::x181::x182::x183::x184::x185::x186::(.string w0)::y188::y189::y190::y191::y192::y193::y194::y195::y196::y197::y198::y199::y200::y201::y202::y203::y204::y205::y206::y207::y208::y209::y210::y211::y212::y213::y214::y215::y216::y217::y218::y219::y220::y221::y222::y223::y224::y225::y226::y227::y228::y229::y230::y231::y232::y233::y234::y235::y236::y237::y238::y239::y240::y241::y242::y243::y244::y245::y246::y247::y248::y249::y250::y251::y252::y253::y254::y255::y256::y257::y258::y259::y260::y261::y262::y263::y264::y265::x266::x267::x268::x269::x270::x271::x272::x273:: [])),[]⟩ w') (x188 x189 x190 x191 x192 x193 x194 x195 x196 x197 x198 x199 x200 x201 x202 x203 x204 x205 x206 x207 x208 x209 x210 x211 x212 x213 x214 x215 x216 x217 x218 x219 x220 x221 x222 x223 x224 x225 x226 x227 x228 x229 x230 x231 x232 x233 x234 x235 x236 x237 x238 x239 x240 x241 x242 x243 x244 x245 x246 x247 x248 x249 x250 x251 x252 x253 x254 x255 x256 x257 x258 x259 x260 x261 x262 x263 x264 x265:Value):
  Code.wp Tryz.prog (Ro 5) Q0 ⟨(List.toArray (x0::x1::x2::x3::x4::(.slice (some ⟨cb,coff,none⟩) (nf+1) cap)::x6::x7::x8::(.slice (some ⟨nb,noff,none⟩) nf nc)::x10::x11::x12::x13::(.pointer (some ⟨eb,0,none⟩))::x15::x16::x17::x18::x19::x20::x21::x22::x23::x24::x25::x26::x27::x28::x29::x30::x31::x32::x33::x34::x35::x36::x37::x38::x39::x40::x41::x42::x43::x44::x45::x46::x47::x48::x49::x50::x51::x52::x53::x54::x55::x56::x57::x58::x59::x60::x61::x62::x63::x64::x65::x66::x67::x68::x69::x70::x71::x72::x73::x74::x75::x76::x77::x78::x79::x80::x81::x82::x83::x84::x85::x86::x87::x88::x89::x90::x91::x92::x93::x94::x95::x96::x97::x98::x99::x100::x101::x102::x103::x104::x105::x106::x107::x108::x109::x110::x111::x112::x113::x114::x115::x116::x117::x118::x119::x120::x121::x122::x123::x124::x125::x126::x127::x128::x129::x130::x131::x132::x133::x134::x135::x136::x137::x138::x139::x140::x141::x142::x143::x144::x145::x146::x147::x148::x149::x150::x151::x152::x153::x154::x155::x156::x157::x158::x159::x160::x161::x162::x163::x164::x165::x166::x167::x168::x169::x170::x171::x172::x173::x174::x175::x176::x177::x178::x179::x180::x181::x182::x183::x184::x185::x186::(.string w0)::x188::x189::x190::x191::x192::x193::x194::x195::x196::x197::x198::x199::x200::x201::x202::x203::x204::x205::x206::x207::x208::x209::x210::x211::x212::x213::x214::x215::x216::x217::x218::x219::x220::x221::x222::x223::x224::x225::x226::x227::x228::x229::x230::x231::x232::x233::x234::x235::x236::x237::x238::x239::x240::x241::x242::x243::x244::x245::x246::x247::x248::x249::x250::x251::x252::x253::x254::x255::x256::x257::x258::x259::x260::x261::x262::x263::x264::x265::x266::x267::x268::x269::x270::x271::x272::x273:: [])),[]⟩ w6:=by
 have HEXIT:=Aia hexit
 clear hexit
 obtain⟨⟨pa',pc',hvp⟩,⟨ga',gc',hvg⟩,⟨ea',ec',hve⟩,⟨fa',fc',hvf⟩,⟨la',lc',hvl⟩⟩:=K7 HR5.out.last
 have hxe:=HXE.out
 rw[show(Aj y).toArray=#[.string y.E.name,.int .i64 y.E.tol,.slice pa' y.E.points.length pc',.int .i64 y.E.count,.int .i64 y.E.mn,.int .i64 y.E.mx,.slice ga' y.E.gaps.length gc',.slice ea' y.E.edges.length ec',.slice fa' y.E.first.length fc',.slice la' y.E.last.length lc'] from by
  show #[.string y.E.name,.int .i64 y.E.tol,y.p,.int .i64 y.E.count,.int .i64 y.E.mn,.int .i64 y.E.mx,y.g,y.e,y.f,y.l]=_
  rw[hvp,hvg,hve,hvf,hvl]]at hxe
 have HVS:=Aia (And.intro hvp (And.intro hvg (And.intro hve (And.intro hvf hvl))))
 obtain⟨z0,z1,z2,z3,z4,z5,z6,z7,z8,z9,zf⟩:=Bs hxe
 have hel:=Aa hxe
 have hbs:=HBE.out.size
 have heb:=HEB.out
 have hce:¬cb=eb:=by omega
 have hec:¬eb=cb:=by omega
 have hne:¬nb=eb:=by omega
 have hen:¬eb=nb:=by omega
 have hcmp:=Nb hkw (by decide)
 obtain⟨e0,e1,e2,e3,e4,e5,e6,e7,e8,e9⟩:_=false/\_=false/\_=false/\_=false/\_=false/\_=false/\_=true/\_=false/\_=false/\_=false:=id hcmp
 clear hcmp hkw hvp hvg hve hvf hvl hxe hbs heb
 have hnfw:1<nf+1:=by omega
 have hnfw2:(1:Int)<(nf:Int)+1:=by omega
 conv=>arg 2;whnf
 obtain⟨i0,hi0,hz0,hz1,hz2⟩:=info_parts infoGap
 obtain⟨hpo,hpt⟩:=HR5.out.last 1 (by decide)
 have hvj:=HVS.out.2.1
 have HOW:Hid (∀W,Below w6.heap.size w6 W->As W base 126 4 (.slice ga' y.E.gaps.length gc') y.E.gaps.length (y.E.gaps.flatMap Ck)/\base<=W.heap.size):=(show _ from fun W hW=>⟨by rw[<-hvj];exact(hpo.later HBE.out).later hW,Nat.le_trans HR5.out.top (Nat.le_trans HBE.out.size hW.size)⟩)
 have HN5:Hid (y.E.gaps.length<=100000):=hn5.2.1
 have HA:Hid (∀(W1 W2:World) (ao:Option Addr) (cp:Nat),Below w6.heap.size w6 W1->As W2 base 126 4 (.slice ao (y.E.gaps.length+1) cp) (y.E.gaps.length+1) (y.E.gaps.flatMap Ck++ [.int .i64 pa,.int .i64 pb,.int .i64 pc,.int .i64 pd])->W1.grownBy W2 (Value.slice ga' y.E.gaps.length gc').ownBlock->((Value.slice ao (y.E.gaps.length+1) cp).ownBlock=(Value.slice ga' y.E.gaps.length gc').ownBlock\/∀b,(Value.slice ao (y.E.gaps.length+1) cp).ownBlock=some b->W1.heap.size<=b)->
   Hid (BX w5 base o Z.length eb (Bl 6 t0 [pa,pb,pc,pd] y.E) y ⟨Bl 6 t0 [pa,pb,pc,pd] y.E,y.p,.slice ao (y.E.gaps.length+1) cp,y.e,y.f,y.l⟩ (W2.setCell ⟨eb,6,none⟩ (.slice ao (y.E.gaps.length+1) cp)))/\W2.cell? ⟨eb,6,none⟩=some (.slice ga' y.E.gaps.length gc')/\W2.frozen? ⟨eb,6,none⟩=false/\(W2.cell? ⟨cb,coff,none⟩=some (.string w0)/\W2.cell? ⟨cb,coff+1,none⟩=some (.string t0)/\W2.cell? ⟨nb,noff,none⟩=some (.int .i64 pa)/\W2.cell? ⟨nb,noff+1,none⟩=some (.int .i64 pb)/\W2.cell? ⟨nb,noff+2,none⟩=some (.int .i64 pc)/\W2.cell? ⟨nb,noff+3,none⟩=some (.int .i64 pd))):=(show _ from by
  intro W1 W2 ao cp b1 ho hg hnn
  have hsb:=HBE.out.size
  rw[<-hvj]at hg hnn ⊢
  obtain⟨x1,x2,x3,x4⟩:=BX.app (y':=⟨Bl 6 t0 [pa,pb,pc,pd] y.E,y.p,.slice ao (y.E.gaps.length+1) cp,y.e,y.f,y.l⟩) (E':=Bl 6 t0 [pa,pb,pc,pd] y.E) HR5.out (HBE.out.trans (b1.mono hsb)) HEB.out (Af b1 HXE.out (Aa HXE.out)) 1 (by decide) ho hg hnn rfl rfl rfl
   (fun i hi hne=>by
    match i,hi with
    |0,_=>exact⟨rfl,rfl,rfl⟩
    |1,_=>exact absurd rfl hne
    |2,_=>exact⟨rfl,rfl,rfl⟩
    |3,_=>exact⟨rfl,rfl,rfl⟩
    |4,_=>exact⟨rfl,rfl,rfl⟩
    )
   ⟨rfl,by show(y.E.gaps++ [(⟨pa,pb,pc,pd⟩:Lb)]).length=_;simp,by show(y.E.gaps++ [(⟨pa,pb,pc,pd⟩:Lb)]).flatMap Ck=_;simp[Ck]⟩
  refine⟨x1,x2,x3,?_,?_,?_,?_,?_,?_⟩
  ·rw[x4 cb coff hcb5 hocb,<-HBE.out.cell (p:=⟨cb,coff,none⟩) hcb5];exact u0
  ·rw[x4 cb (coff+1) hcb5 hocb,<-HBE.out.cell (p:=⟨cb,coff+1,none⟩) hcb5];exact u1
  ·rw[x4 nb (noff) hnb2 honb,<-HBE.out.cell (p:=⟨nb,noff,none⟩) hnb2];exact m0
  ·rw[x4 nb (noff+1) hnb2 honb,<-HBE.out.cell (p:=⟨nb,noff+1,none⟩) hnb2];exact m1
  ·rw[x4 nb (noff+2) hnb2 honb,<-HBE.out.cell (p:=⟨nb,noff+2,none⟩) hnb2];exact m2
  ·rw[x4 nb (noff+3) hnb2 honb,<-HBE.out.cell (p:=⟨nb,noff+3,none⟩) hnb2];exact m3)
 obtain⟨np,hnp⟩:∃np,np=y.E.gaps.length:=⟨_,rfl⟩
 rw[<-hnp]at HOW HA HN5 z6
 have hnp5:=HN5.out
 clear hnp hpo hpt hvj hn5
 go_upto_region 71 with fail
 have HSb:Hid (∀W,Below w6.heap.size w6 W->(fun w'=>w'.cell? ⟨nb,noff,none⟩=some (.int .i64 pa)/\w'.cell? ⟨nb,noff+1,none⟩=some (.int .i64 pb)/\w'.cell? ⟨nb,noff+2,none⟩=some (.int .i64 pc)/\w'.cell? ⟨nb,noff+3,none⟩=some (.int .i64 pd)) W):=(show _ from fun W hW=>by
  have hnb6:nb<w6.heap.size:=Nat.lt_of_lt_of_le hnb2 HBE.out.size
  refine⟨?_,?_,?_,?_⟩
  ·rw[hW.cell (p:=⟨nb,noff,none⟩) hnb6];exact m0
  ·rw[hW.cell (p:=⟨nb,noff+1,none⟩) hnb6];exact m1
  ·rw[hW.cell (p:=⟨nb,noff+2,none⟩) hnb6];exact m2
  ·rw[hW.cell (p:=⟨nb,noff+3,none⟩) hnb6];exact m3)
 have hne2:=hne
 clear m0 m1 m2 m3
 refine wp_region_noPanic ?_
 refine wp_region_held_drew (S:=(fun w'=>w'.cell? ⟨nb,noff,none⟩=some (.int .i64 pa)/\w'.cell? ⟨nb,noff+1,none⟩=some (.int .i64 pb)/\w'.cell? ⟨nb,noff+2,none⟩=some (.int .i64 pc)/\w'.cell? ⟨nb,noff+3,none⟩=some (.int .i64 pd))) (by kernel_rfl) (HSb.out _ ((Below.refl _ _).drew)) (fun hS=>?_)
 refine Be (i:=0) (v:=.pointer (some ⟨eb,6,none⟩)) rfl (by kernel_rfl) (by kernel_rfl) (by kernel_rfl) (fun _ _ _ h=>h) (Or.inl ⟨by rfl,fun w hw=>by(obtain⟨e0,e1,e2,e3⟩:=hw;go_simp)⟩) hS ?_
 ((try simp only[Act.put]);(try simp only[List.setIfInBounds_toArray]);(try simp only[List.set_cons_succ]);(try simp only[List.set_cons_zero]))
 refine Be (i:=2) (v:=.slice (some ⟨nb,noff,none⟩) nf nc) rfl (by kernel_rfl) (by kernel_rfl) (by kernel_rfl) (fun _ _ _ h=>h) (Or.inl ⟨by rfl,fun w hw=>by(obtain⟨e0,e1,e2,e3⟩:=hw;go_simp)⟩) hS ?_
 ((try simp only[Act.put]);(try simp only[List.setIfInBounds_toArray]);(try simp only[List.set_cons_succ]);(try simp only[List.set_cons_zero]))
 refine Be (i:=3) (v:=.pointer (some ⟨nb,noff,none⟩)) rfl (by kernel_rfl) (by kernel_rfl) (by kernel_rfl) (fun _ _ _ h=>h) (Or.inl ⟨by rfl,fun w hw=>by(obtain⟨e0,e1,e2,e3⟩:=hw;go_simp)⟩) hS ?_
 ((try simp only[Act.put]);(try simp only[List.setIfInBounds_toArray]);(try simp only[List.set_cons_succ]);(try simp only[List.set_cons_zero]))
 refine Be (i:=4) (v:=.int .i64 pa) rfl (by kernel_rfl) (by kernel_rfl) (by kernel_rfl) (fun _ _ _ h=>h) (Or.inl ⟨by rfl,fun w hw=>by(obtain⟨e0,e1,e2,e3⟩:=hw;go_simp)⟩) hS ?_
 ((try simp only[Act.put]);(try simp only[List.setIfInBounds_toArray]);(try simp only[List.set_cons_succ]);(try simp only[List.set_cons_zero]))
 refine Be (i:=5) (v:=.slice (some ⟨nb,noff,none⟩) nf nc) rfl (by kernel_rfl) (by kernel_rfl) (by kernel_rfl) (fun _ _ _ h=>h) (Or.inl ⟨by rfl,fun w hw=>by(obtain⟨e0,e1,e2,e3⟩:=hw;go_simp)⟩) hS ?_
 ((try simp only[Act.put]);(try simp only[List.setIfInBounds_toArray]);(try simp only[List.set_cons_succ]);(try simp only[List.set_cons_zero]))
 refine Be (i:=6) (v:=.pointer (some ⟨nb,noff+1,none⟩)) rfl (by kernel_rfl) (by kernel_rfl) (by kernel_rfl) (fun _ _ _ h=>h) (Or.inl ⟨by rfl,fun w hw=>by(obtain⟨e0,e1,e2,e3⟩:=hw;go_simp)⟩) hS ?_
 ((try simp only[Act.put]);(try simp only[List.setIfInBounds_toArray]);(try simp only[List.set_cons_succ]);(try simp only[List.set_cons_zero]))
 refine Be (i:=7) (v:=.int .i64 pb) rfl (by kernel_rfl) (by kernel_rfl) (by kernel_rfl) (fun _ _ _ h=>h) (Or.inl ⟨by rfl,fun w hw=>by(obtain⟨e0,e1,e2,e3⟩:=hw;go_simp)⟩) hS ?_
 ((try simp only[Act.put]);(try simp only[List.setIfInBounds_toArray]);(try simp only[List.set_cons_succ]);(try simp only[List.set_cons_zero]))
 refine Be (i:=8) (v:=.slice (some ⟨nb,noff,none⟩) nf nc) rfl (by kernel_rfl) (by kernel_rfl) (by kernel_rfl) (fun _ _ _ h=>h) (Or.inl ⟨by rfl,fun w hw=>by(obtain⟨e0,e1,e2,e3⟩:=hw;go_simp)⟩) hS ?_
 ((try simp only[Act.put]);(try simp only[List.setIfInBounds_toArray]);(try simp only[List.set_cons_succ]);(try simp only[List.set_cons_zero]))
 refine Be (i:=9) (v:=.pointer (some ⟨nb,noff+2,none⟩)) rfl (by kernel_rfl) (by kernel_rfl) (by kernel_rfl) (fun _ _ _ h=>h) (Or.inl ⟨by rfl,fun w hw=>by(obtain⟨e0,e1,e2,e3⟩:=hw;go_simp)⟩) hS ?_
 ((try simp only[Act.put]);(try simp only[List.setIfInBounds_toArray]);(try simp only[List.set_cons_succ]);(try simp only[List.set_cons_zero]))
 refine Be (i:=10) (v:=.int .i64 pc) rfl (by kernel_rfl) (by kernel_rfl) (by kernel_rfl) (fun _ _ _ h=>h) (Or.inl ⟨by rfl,fun w hw=>by(obtain⟨e0,e1,e2,e3⟩:=hw;go_simp)⟩) hS ?_
 ((try simp only[Act.put]);(try simp only[List.setIfInBounds_toArray]);(try simp only[List.set_cons_succ]);(try simp only[List.set_cons_zero]))
 refine Be (i:=11) (v:=.slice (some ⟨nb,noff,none⟩) nf nc) rfl (by kernel_rfl) (by kernel_rfl) (by kernel_rfl) (fun _ _ _ h=>h) (Or.inl ⟨by rfl,fun w hw=>by(obtain⟨e0,e1,e2,e3⟩:=hw;go_simp)⟩) hS ?_
 ((try simp only[Act.put]);(try simp only[List.setIfInBounds_toArray]);(try simp only[List.set_cons_succ]);(try simp only[List.set_cons_zero]))
 refine Be (i:=12) (v:=.pointer (some ⟨nb,noff+3,none⟩)) rfl (by kernel_rfl) (by kernel_rfl) (by kernel_rfl) (fun _ _ _ h=>h) (Or.inl ⟨by rfl,fun w hw=>by(obtain⟨e0,e1,e2,e3⟩:=hw;go_simp)⟩) hS ?_
 ((try simp only[Act.put]);(try simp only[List.setIfInBounds_toArray]);(try simp only[List.set_cons_succ]);(try simp only[List.set_cons_zero]))
 refine Be (i:=13) (v:=.int .i64 pd) rfl (by kernel_rfl) (by kernel_rfl) (by kernel_rfl) (fun _ _ _ h=>h) (Or.inl ⟨by rfl,fun w hw=>by(obtain⟨e0,e1,e2,e3⟩:=hw;go_simp)⟩) hS ?_
 ((try simp only[Act.put]);(try simp only[List.setIfInBounds_toArray]);(try simp only[List.set_cons_succ]);(try simp only[List.set_cons_zero]))
 refine Be (i:=14) (v:=.agg #[.int .i64 pa,.int .i64 pb,.int .i64 pc,.int .i64 pd]) rfl (by kernel_rfl) (by kernel_rfl) (by kernel_rfl) (fun _ _ _ h=>h) (Or.inl ⟨by rfl,fun w hw=>by(obtain⟨e0,e1,e2,e3⟩:=hw;go_simp)⟩) hS ?_
 ((try simp only[Act.put]);(try simp only[List.setIfInBounds_toArray]);(try simp only[List.set_cons_succ]);(try simp only[List.set_cons_zero]))
 refine wpAnyH_ready (rs:=[1,15]) (by kernel_rfl) (by simp) ?_
 refine AllReadyH.cons rfl (fun K hK=>?_) (AllReadyH.cons rfl (fun K hK=>?_) AllReadyH.nil)
 ·go_simp
  refine hK.out _ _ (HSb.out _ (by repeat(first|exact Below.refl _ _|refine Below.drew ?_|refine Cs ?_ _))) (fun hS=>?_)
  clear hK K
  ((try simp only[Act.put]);(try simp only[List.setIfInBounds_toArray]);(try simp only[List.set_cons_succ]);(try simp only[List.set_cons_zero]))
  refine wpAnyH_ready (rs:=[15]) (by kernel_rfl) (by simp) ?_
  refine AllReadyH.cons rfl (fun K hK=>?_) AllReadyH.nil
  go_simp
  refine hK.out _ _ (HSb.out _ (by repeat(first|exact Below.refl _ _|refine Below.drew ?_|refine Cs ?_ _))) (fun hS=>?_)
  clear hK K
  ((try simp only[Act.put]);(try simp only[List.setIfInBounds_toArray]);(try simp only[List.set_cons_succ]);(try simp only[List.set_cons_zero]))
  refine wpAnyH_ready (rs:=[16]) (by kernel_rfl) (by simp) ?_
  refine AllReadyH.cons rfl (fun K hK=>?_) AllReadyH.nil
  refine Bq rfl (.tmp 215) (.tmp 229) 46 rfl base 126 i0 _ 4 32 underlying46 hi0 hz0 hz1 hz2 rfl (by decide) (.slice ga' np gc') np (y.E.gaps.flatMap Ck) rfl ?_ ⟨w6.heap.size,0,none⟩ 1 1 [.int .i64 pa,.int .i64 pb,.int .i64 pc,.int .i64 pd] rfl rfl ?_ (by intro u hu;simp at hu;rcases hu with rfl|rfl|rfl|rfl<;>rfl) (by unfold maxLen;omega) (by omega) ?_ ?_
  ·exact(HOW.out _ (by repeat(first|exact Below.refl _ _|refine Below.drew ?_|refine Below.alloc ?_ (by simp) _))).1
  ·exact Av _ [.int .i64 pa,.int .i64 pb,.int .i64 pc,.int .i64 pd] _
  ·exact(HOW.out _ (by repeat(first|exact Below.refl _ _|refine Below.drew ?_|refine Below.alloc ?_ (by simp) _))).2
  intro a1 k1 w7 ho6 hg6 hn6
  obtain⟨F1,d4,df,_,_,dn⟩:=HA.out _ w7 _ _ (by repeat(first|exact Below.refl _ _|refine Below.drew ?_|refine Below.alloc ?_ (by simp) _)) ho6 hg6 hn6
  refine hK.out _ _ dn (fun hS=>?_)
  clear hK K ho6 hg6 hn6
  ((try simp only[Act.put]);(try simp only[List.setIfInBounds_toArray]);(try simp only[List.set_cons_succ]);(try simp only[List.set_cons_zero]))
  refine Be (i:=17) (v:=.pointer (some ⟨eb,6,none⟩)) rfl (by kernel_rfl) (by kernel_rfl) (by kernel_rfl) (fun _ _ _ h=>h) (Or.inl ⟨by rfl,fun w hw=>by(obtain⟨e0,e1,e2,e3⟩:=hw;go_simp)⟩) hS ?_
  ((try simp only[Act.put]);(try simp only[List.setIfInBounds_toArray]);(try simp only[List.set_cons_succ]);(try simp only[List.set_cons_zero]))
  refine wpAnyH_ready (rs:=[18]) (by kernel_rfl) (by simp) ?_
  refine AllReadyH.cons rfl (fun K hK=>?_) AllReadyH.nil
  go_simp
  refine hK.out _ _ ?_ (fun hS=>?_)
  ·obtain⟨g0,g1,g2,g3⟩:=dn
   refine⟨?_,?_,?_,?_⟩
   ·rw[World.cell?_setCell_far _ _ _ _ hen];exact g0
   ·rw[World.cell?_setCell_far _ _ _ _ hen];exact g1
   ·rw[World.cell?_setCell_far _ _ _ _ hen];exact g2
   ·rw[World.cell?_setCell_far _ _ _ _ hen];exact g3
  clear hK K
  ((try simp only[Act.put]);(try simp only[List.setIfInBounds_toArray]);(try simp only[List.set_cons_succ]);(try simp only[List.set_cons_zero]))
  refine wpAnyH_done (by kernel_rfl) ?_ _
  refine NoPanic.normal ?_
  go_wp2_with fail
  first
   |exact HEXIT.out _ _ _ _ _ _ _ _ _ _ _ _ _ _ _ _ _ _ _ _ _ _ _ _ _ _ _ _ _ _ _ _ _ _ _ _ _ _ _ _ _ _ _ _ _ _ _ _ _ _ _ _ _ _ _ _ _ _ _ _ _ _ _ _ _ _ _ _ _ _ _ _ _ _ _ _ _ _ _ ⟨_,F1⟩
   |exact HEXIT.out _ _ _ _ _ _ _ _ _ _ _ _ _ _ _ _ _ _ _ _ _ _ _ _ _ _ _ _ _ _ _ _ _ _ _ _ _ _ _ _ _ _ _ _ _ _ _ _ _ _ _ _ _ _ _ _ _ _ _ _ _ _ _ _ _ _ _ _ _ _ _ _ _ _ _ _ _ _ _ ⟨_,P3 F1⟩
 ·go_simp
  refine hK.out _ _ (HSb.out _ (by repeat(first|exact Below.refl _ _|refine Below.drew ?_|refine Cs ?_ _))) (fun hS=>?_)
  clear hK K
  ((try simp only[Act.put]);(try simp only[List.setIfInBounds_toArray]);(try simp only[List.set_cons_succ]);(try simp only[List.set_cons_zero]))
  refine wpAnyH_ready (rs:=[1]) (by kernel_rfl) (by simp) ?_
  refine AllReadyH.cons rfl (fun K hK=>?_) AllReadyH.nil
  go_simp
  refine hK.out _ _ (HSb.out _ (by repeat(first|exact Below.refl _ _|refine Below.drew ?_|refine Cs ?_ _))) (fun hS=>?_)
  clear hK K
  ((try simp only[Act.put]);(try simp only[List.setIfInBounds_toArray]);(try simp only[List.set_cons_succ]);(try simp only[List.set_cons_zero]))
  refine wpAnyH_ready (rs:=[16]) (by kernel_rfl) (by simp) ?_
  refine AllReadyH.cons rfl (fun K hK=>?_) AllReadyH.nil
  refine Bq rfl (.tmp 215) (.tmp 229) 46 rfl base 126 i0 _ 4 32 underlying46 hi0 hz0 hz1 hz2 rfl (by decide) (.slice ga' np gc') np (y.E.gaps.flatMap Ck) rfl ?_ ⟨w6.heap.size,0,none⟩ 1 1 [.int .i64 pa,.int .i64 pb,.int .i64 pc,.int .i64 pd] rfl rfl ?_ (by intro u hu;simp at hu;rcases hu with rfl|rfl|rfl|rfl<;>rfl) (by unfold maxLen;omega) (by omega) ?_ ?_
  ·exact(HOW.out _ (by repeat(first|exact Below.refl _ _|refine Below.drew ?_|refine Below.alloc ?_ (by simp) _))).1
  ·exact Av _ [.int .i64 pa,.int .i64 pb,.int .i64 pc,.int .i64 pd] _
  ·exact(HOW.out _ (by repeat(first|exact Below.refl _ _|refine Below.drew ?_|refine Below.alloc ?_ (by simp) _))).2
  intro a1 k1 w7 ho6 hg6 hn6
  obtain⟨F1,d4,df,_,_,dn⟩:=HA.out _ w7 _ _ (by repeat(first|exact Below.refl _ _|refine Below.drew ?_|refine Below.alloc ?_ (by simp) _)) ho6 hg6 hn6
  refine hK.out _ _ dn (fun hS=>?_)
  clear hK K ho6 hg6 hn6
  ((try simp only[Act.put]);(try simp only[List.setIfInBounds_toArray]);(try simp only[List.set_cons_succ]);(try simp only[List.set_cons_zero]))
  refine Be (i:=17) (v:=.pointer (some ⟨eb,6,none⟩)) rfl (by kernel_rfl) (by kernel_rfl) (by kernel_rfl) (fun _ _ _ h=>h) (Or.inl ⟨by rfl,fun w hw=>by(obtain⟨e0,e1,e2,e3⟩:=hw;go_simp)⟩) hS ?_
  ((try simp only[Act.put]);(try simp only[List.setIfInBounds_toArray]);(try simp only[List.set_cons_succ]);(try simp only[List.set_cons_zero]))
  refine wpAnyH_ready (rs:=[18]) (by kernel_rfl) (by simp) ?_
  refine AllReadyH.cons rfl (fun K hK=>?_) AllReadyH.nil
  go_simp
  refine hK.out _ _ ?_ (fun hS=>?_)
  ·obtain⟨g0,g1,g2,g3⟩:=dn
   refine⟨?_,?_,?_,?_⟩
   ·rw[World.cell?_setCell_far _ _ _ _ hen];exact g0
   ·rw[World.cell?_setCell_far _ _ _ _ hen];exact g1
   ·rw[World.cell?_setCell_far _ _ _ _ hen];exact g2
   ·rw[World.cell?_setCell_far _ _ _ _ hen];exact g3
  clear hK K
  ((try simp only[Act.put]);(try simp only[List.setIfInBounds_toArray]);(try simp only[List.set_cons_succ]);(try simp only[List.set_cons_zero]))
  refine wpAnyH_done (by kernel_rfl) ?_ _
  refine NoPanic.normal ?_
  go_wp2_with fail
  first
   |exact HEXIT.out _ _ _ _ _ _ _ _ _ _ _ _ _ _ _ _ _ _ _ _ _ _ _ _ _ _ _ _ _ _ _ _ _ _ _ _ _ _ _ _ _ _ _ _ _ _ _ _ _ _ _ _ _ _ _ _ _ _ _ _ _ _ _ _ _ _ _ _ _ _ _ _ _ _ _ _ _ _ _ ⟨_,F1⟩
   |exact HEXIT.out _ _ _ _ _ _ _ _ _ _ _ _ _ _ _ _ _ _ _ _ _ _ _ _ _ _ _ _ _ _ _ _ _ _ _ _ _ _ _ _ _ _ _ _ _ _ _ _ _ _ _ _ _ _ _ _ _ _ _ _ _ _ _ _ _ _ _ _ _ _ _ _ _ _ _ _ _ _ _ ⟨_,P3 F1⟩
theorem Ahq(w5 w6:World)(base rb:Nat)(o:Nat->Option Nat)(C:Al)(w0 t0:ByteArray)(v:Value)(Z:List Aw)(y:Aw)(eb cb coff nf cap nb noff nc:Nat)(pa pb:Int)(hkw:w0=kwB 7)(HR5:Hid (D0 base rb o C w0 v (Z++ [y]) w5))(HBE:Hid (Below w5.heap.size w5 w6))(HEB:Hid (w5.heap.size<=eb))(HXE:Hid (w6.heap[eb]? =some (.cells (Aj y).toArray 50)))
  (hn5:y.E.points.length<=100000/\y.E.gaps.length<=100000/\y.E.edges.length<=100000/\y.E.first.length<=100000/\y.E.last.length<=100000) (u0:w6.cell? ⟨cb,coff,none⟩=some (.string w0)) (u1:w6.cell? ⟨cb,coff+1,none⟩=some (.string t0)) (m0:w6.cell? ⟨nb,noff,none⟩=some (.int .i64 pa)) (m1:w6.cell? ⟨nb,noff+1,none⟩=some (.int .i64 pb)) (hcb5:cb<w5.heap.size) (hocb:o cb=none) (hnb2:nb<w5.heap.size) (honb:o nb=none) (hcap:((nf+1:Nat):Int)<=(cap:Int)) (hncap:(nf:Int)<=(nc:Int)) (hnfn0:0<nf) (hnfk0:(0:Int)<(nf:Int)) (hnfn1:1<nf) (hnfk1:(1:Int)<(nf:Int)) (hnf1:1<=nf)
  (x0 x1 x2 x3 x4 x6 x7 x8 x10 x11 x12 x13 x15 x16 x17 x18 x19 x20 x21 x22 x23 x24 x25 x26 x27 x28 x29 x30 x31 x32 x33 x34 x35 x36 x37 x38 x39 x40 x41 x42 x43 x44 x45 x46 x47 x48 x49 x50 x51 x52 x53 x54 x55 x56 x57 x58 x59 x60 x61 x62 x63 x64 x65 x66 x67 x68 x69 x70 x71 x72 x73 x74 x75 x76 x77 x78 x79 x80 x81 x82 x83 x84 x85 x86 x87 x88 x89 x90 x91 x92 x93 x94 x95 x96 x97 x98 x99 x100 x101 x102 x103 x104 x105 x106 x107 x108 x109 x110 x111 x112 x113 x114 x115 x116 x117 x118 x119 x120 x121 x122 x123 x124 x125 x126 x127 x128 x129 x130 x131 x132 x133 x134 x135 x136 x137 x138 x139 x140 x141 x142 x143 x144 x145 x146 x147 x148 x149 x150 x151 x152 x153 x154 x155 x156 x157 x158 x159 x160 x161 x162 x163 x164 x165 x166 x167 x168 x169 x170 x171 x172 x173 x174 x175 x176 x177 x178 x179 x180 x181 x182 x183 x184 x185 x186 x266 x267 x268 x269 x270 x271 x272 x273:Value) (Q0:Exit->Act->World->Prop) (hexit:∀(y188 y189 y190 y191 y192 y193 y194 y195 y196 y197 y198 y199 y200 y201 y202 y203 y204 y205 y206 y207 y208 y209 y210 y211 y212 y213 y214 y215 y216 y217 y218 y219 y220 y221 y222 y223 y224 y225 y226 y227 y228 y229 y230 y231 y232 y233 y234 y235 y236 y237 y238 y239 y240 y241 y242 y243 y244 y245 y246 y247 y248 y249 y250 y251 y252 y253 y254 y255 y256 y257 y258 y259 y260 y261 y262 y263 y264 y265:Value) (w':World),(∃y':Aw,Hid (BX w5 base o Z.length eb (Bl 7 t0 [pa,pb] y.E) y y' w'))->Q0 .normal ⟨(List.toArray (x0::x1::x2::x3::x4::(.slice (some ⟨cb,coff,none⟩) (nf+1) cap)::x6::x7::x8::(.slice (some ⟨nb,noff,none⟩) nf nc)::x10::x11::x12::x13::(.pointer (some ⟨eb,0,none⟩))::x15::x16::x17::x18::x19::x20::x21::x22::x23::x24::x25::x26::x27::x28::x29::x30::x31::x32::x33::x34::x35::x36::x37::x38::x39::x40::x41::x42::x43::x44::x45::x46::x47::x48::x49::x50::x51::x52::x53::x54::x55::x56::x57::x58::x59::x60::x61::x62::x63::x64::x65::x66::x67::x68::x69::x70::x71::x72::x73::x74::x75::x76::x77::x78::x79::x80::x81::x82::x83::x84::x85::x86::x87::x88::x89::x90::x91::x92::x93::x94::x95::x96::x97::x98::x99::x100::x101::x102::x103::x104::x105::x106::x107::x108::x109::x110::x111::x112::x113::x114::x115::x116::x117::x118::x119::x120::x121::x122::x123::x124::x125::x126::x127::x128::x129::x130::x131::x132::x133::x134::x135::x136::x137::x138::x139::x140::x141::x142::x143::x144::x145::x146::x147::x148::x149::x150::x151::x152::x153::x154::x155::x156::x157::x158::x159::x160::x161::x162::x163::x164::x165::x166::x167::x168::x169::x170::x171::x172::x173::x174::x175::x176::x177::x178::x179::x180::x181::x182::x183::x184::x185::x186::(.string w0)::y188::y189::y190::y191::y192::y193::y194::y195::y196::y197::y198::y199::y200::y201::y202::y203::y204::y205::y206::y207::y208::y209::y210::y211::y212::y213::y214::y215::y216::y217::y218::y219::y220::y221::y222::y223::y224::y225::y226::y227::y228::y229::y230::y231::y232::y233::y234::y235::y236::y237::y238::y239::y240::y241::y242::y243::y244::y245::y246::y247::y248::y249::y250::y251::y252::y253::y254::y255::y256::y257::y258::y259::y260::y261::y262::y263::y264::y265::x266::x267::x268::x269::x270::x271::x272::x273:: [])),[]⟩ w') (x188 x189 x190 x191 x192 x193 x194 x195 x196 x197 x198 x199 x200 x201 x202 x203 x204 x205 x206 x207 x208 x209 x210 x211 x212 x213 x214 x215 x216 x217 x218 x219 x220 x221 x222 x223 x224 x225 x226 x227 x228 x229 x230 x231 x232 x233 x234 x235 x236 x237 x238 x239 x240 x241 x242 x243 x244 x245 x246 x247 x248 x249 x250 x251 x252 x253 x254 x255 x256 x257 x258 x259 x260 x261 x262 x263 x264 x265:Value):
  Code.wp Tryz.prog (Ro 5) Q0 ⟨(List.toArray (x0::x1::x2::x3::x4::(.slice (some ⟨cb,coff,none⟩) (nf+1) cap)::x6::x7::x8::(.slice (some ⟨nb,noff,none⟩) nf nc)::x10::x11::x12::x13::(.pointer (some ⟨eb,0,none⟩))::x15::x16::x17::x18::x19::x20::x21::x22::x23::x24::x25::x26::x27::x28::x29::x30::x31::x32::x33::x34::x35::x36::x37::x38::x39::x40::x41::x42::x43::x44::x45::x46::x47::x48::x49::x50::x51::x52::x53::x54::x55::x56::x57::x58::x59::x60::x61::x62::x63::x64::x65::x66::x67::x68::x69::x70::x71::x72::x73::x74::x75::x76::x77::x78::x79::x80::x81::x82::x83::x84::x85::x86::x87::x88::x89::x90::x91::x92::x93::x94::x95::x96::x97::x98::x99::x100::x101::x102::x103::x104::x105::x106::x107::x108::x109::x110::x111::x112::x113::x114::x115::x116::x117::x118::x119::x120::x121::x122::x123::x124::x125::x126::x127::x128::x129::x130::x131::x132::x133::x134::x135::x136::x137::x138::x139::x140::x141::x142::x143::x144::x145::x146::x147::x148::x149::x150::x151::x152::x153::x154::x155::x156::x157::x158::x159::x160::x161::x162::x163::x164::x165::x166::x167::x168::x169::x170::x171::x172::x173::x174::x175::x176::x177::x178::x179::x180::x181::x182::x183::x184::x185::x186::(.string w0)::x188::x189::x190::x191::x192::x193::x194::x195::x196::x197::x198::x199::x200::x201::x202::x203::x204::x205::x206::x207::x208::x209::x210::x211::x212::x213::x214::x215::x216::x217::x218::x219::x220::x221::x222::x223::x224::x225::x226::x227::x228::x229::x230::x231::x232::x233::x234::x235::x236::x237::x238::x239::x240::x241::x242::x243::x244::x245::x246::x247::x248::x249::x250::x251::x252::x253::x254::x255::x256::x257::x258::x259::x260::x261::x262::x263::x264::x265::x266::x267::x268::x269::x270::x271::x272::x273:: [])),[]⟩ w6:=by
 have HEXIT:=Aia hexit
 clear hexit
 obtain⟨⟨pa',pc',hvp⟩,⟨ga',gc',hvg⟩,⟨ea',ec',hve⟩,⟨fa',fc',hvf⟩,⟨la',lc',hvl⟩⟩:=K7 HR5.out.last
 have hxe:=HXE.out
 rw[show(Aj y).toArray=#[.string y.E.name,.int .i64 y.E.tol,.slice pa' y.E.points.length pc',.int .i64 y.E.count,.int .i64 y.E.mn,.int .i64 y.E.mx,.slice ga' y.E.gaps.length gc',.slice ea' y.E.edges.length ec',.slice fa' y.E.first.length fc',.slice la' y.E.last.length lc'] from by
  show #[.string y.E.name,.int .i64 y.E.tol,y.p,.int .i64 y.E.count,.int .i64 y.E.mn,.int .i64 y.E.mx,y.g,y.e,y.f,y.l]=_
  rw[hvp,hvg,hve,hvf,hvl]]at hxe
 have HVS:=Aia (And.intro hvp (And.intro hvg (And.intro hve (And.intro hvf hvl))))
 obtain⟨z0,z1,z2,z3,z4,z5,z6,z7,z8,z9,zf⟩:=Bs hxe
 have hel:=Aa hxe
 have hbs:=HBE.out.size
 have heb:=HEB.out
 have hce:¬cb=eb:=by omega
 have hec:¬eb=cb:=by omega
 have hne:¬nb=eb:=by omega
 have hen:¬eb=nb:=by omega
 have hcmp:=Nb hkw (by decide)
 obtain⟨e0,e1,e2,e3,e4,e5,e6,e7,e8,e9⟩:_=false/\_=false/\_=false/\_=false/\_=false/\_=false/\_=false/\_=true/\_=false/\_=false:=id hcmp
 clear hcmp hkw hvp hvg hve hvf hvl hxe hbs heb
 have hnfw:1<nf+1:=by omega
 have hnfw2:(1:Int)<(nf:Int)+1:=by omega
 conv=>arg 2;whnf
 obtain⟨i0,hi0,hz0,hz1,hz2⟩:=info_parts infoEdge
 obtain⟨hpo,hpt⟩:=HR5.out.last 2 (by decide)
 have hvj:=HVS.out.2.2.1
 have HOW:Hid (∀W,Below w6.heap.size w6 W->As W base 127 2 (.slice ea' y.E.edges.length ec') y.E.edges.length (y.E.edges.flatMap Cd)/\base<=W.heap.size):=(show _ from fun W hW=>⟨by rw[<-hvj];exact(hpo.later HBE.out).later hW,Nat.le_trans HR5.out.top (Nat.le_trans HBE.out.size hW.size)⟩)
 have HN5:Hid (y.E.edges.length<=100000):=hn5.2.2.1
 have HA:Hid (∀(W1 W2:World) (ao:Option Addr) (cp:Nat),Below w6.heap.size w6 W1->As W2 base 127 2 (.slice ao (y.E.edges.length+1) cp) (y.E.edges.length+1) (y.E.edges.flatMap Cd++ [.int .i64 pa,.int .i64 pb])->W1.grownBy W2 (Value.slice ea' y.E.edges.length ec').ownBlock->((Value.slice ao (y.E.edges.length+1) cp).ownBlock=(Value.slice ea' y.E.edges.length ec').ownBlock\/∀b,(Value.slice ao (y.E.edges.length+1) cp).ownBlock=some b->W1.heap.size<=b)->
   Hid (BX w5 base o Z.length eb (Bl 7 t0 [pa,pb] y.E) y ⟨Bl 7 t0 [pa,pb] y.E,y.p,y.g,.slice ao (y.E.edges.length+1) cp,y.f,y.l⟩ (W2.setCell ⟨eb,7,none⟩ (.slice ao (y.E.edges.length+1) cp)))/\W2.cell? ⟨eb,7,none⟩=some (.slice ea' y.E.edges.length ec')/\W2.frozen? ⟨eb,7,none⟩=false/\(W2.cell? ⟨cb,coff,none⟩=some (.string w0)/\W2.cell? ⟨cb,coff+1,none⟩=some (.string t0)/\W2.cell? ⟨nb,noff,none⟩=some (.int .i64 pa)/\W2.cell? ⟨nb,noff+1,none⟩=some (.int .i64 pb))):=(show _ from by
  intro W1 W2 ao cp b1 ho hg hnn
  have hsb:=HBE.out.size
  rw[<-hvj]at hg hnn ⊢
  obtain⟨x1,x2,x3,x4⟩:=BX.app (y':=⟨Bl 7 t0 [pa,pb] y.E,y.p,y.g,.slice ao (y.E.edges.length+1) cp,y.f,y.l⟩) (E':=Bl 7 t0 [pa,pb] y.E) HR5.out (HBE.out.trans (b1.mono hsb)) HEB.out (Af b1 HXE.out (Aa HXE.out)) 2 (by decide) ho hg hnn rfl rfl rfl
   (fun i hi hne=>by
    match i,hi with
    |0,_=>exact⟨rfl,rfl,rfl⟩
    |1,_=>exact⟨rfl,rfl,rfl⟩
    |2,_=>exact absurd rfl hne
    |3,_=>exact⟨rfl,rfl,rfl⟩
    |4,_=>exact⟨rfl,rfl,rfl⟩
    )
   ⟨rfl,by show(y.E.edges++ [(pa,pb)]).length=_;simp,by show(y.E.edges++ [(pa,pb)]).flatMap Cd=_;simp[Cd]⟩
  refine⟨x1,x2,x3,?_,?_,?_,?_⟩
  ·rw[x4 cb coff hcb5 hocb,<-HBE.out.cell (p:=⟨cb,coff,none⟩) hcb5];exact u0
  ·rw[x4 cb (coff+1) hcb5 hocb,<-HBE.out.cell (p:=⟨cb,coff+1,none⟩) hcb5];exact u1
  ·rw[x4 nb (noff) hnb2 honb,<-HBE.out.cell (p:=⟨nb,noff,none⟩) hnb2];exact m0
  ·rw[x4 nb (noff+1) hnb2 honb,<-HBE.out.cell (p:=⟨nb,noff+1,none⟩) hnb2];exact m1)
 obtain⟨np,hnp⟩:∃np,np=y.E.edges.length:=⟨_,rfl⟩
 rw[<-hnp]at HOW HA HN5 z7
 have hnp5:=HN5.out
 clear hnp hpo hpt hvj hn5
 go_upto_region 73 with fail
 refine wp_region_noPanic ?_
 go_region_law (refine Bq rfl (.tmp 235) (.tmp 243) 47 rfl base 127 i0 _ 2 16 underlying47 hi0 hz0 hz1 hz2 rfl (by decide) (.slice ea' np ec') np (y.E.edges.flatMap Cd) rfl ?_ ⟨w6.heap.size,0,none⟩ 1 1 [.int .i64 pa,.int .i64 pb] rfl rfl ?_ (by intro u hu;simp at hu;rcases hu with rfl|rfl<;>rfl) (by unfold maxLen;omega) (by omega) ?_ ?_;exact(HOW.out _ (by repeat(first|exact Below.refl _ _|refine Below.drew ?_|refine Below.alloc ?_ (by simp) _))).1;exact Av _ [.int .i64 pa,.int .i64 pb] _;exact(HOW.out _ (by repeat(first|exact Below.refl _ _|refine Below.drew ?_|refine Below.alloc ?_ (by simp) _))).2;intro a1 k1 w7 ho6 hg6 hn6;have hfin:=HA.out _ w7 _ _ (by repeat(first|exact Below.refl _ _|refine Below.drew ?_|refine Below.alloc ?_ (by simp) _)) ho6 hg6 hn6;obtain⟨F1,d4,df,dc⟩:=hfin;clear ho6 hg6 hn6)
 all_goals
  refine NoPanic.normal ?_
  go_wp2_with fail
  first
   |exact HEXIT.out _ _ _ _ _ _ _ _ _ _ _ _ _ _ _ _ _ _ _ _ _ _ _ _ _ _ _ _ _ _ _ _ _ _ _ _ _ _ _ _ _ _ _ _ _ _ _ _ _ _ _ _ _ _ _ _ _ _ _ _ _ _ _ _ _ _ _ _ _ _ _ _ _ _ _ _ _ _ _ ⟨_,F1⟩
   |exact HEXIT.out _ _ _ _ _ _ _ _ _ _ _ _ _ _ _ _ _ _ _ _ _ _ _ _ _ _ _ _ _ _ _ _ _ _ _ _ _ _ _ _ _ _ _ _ _ _ _ _ _ _ _ _ _ _ _ _ _ _ _ _ _ _ _ _ _ _ _ _ _ _ _ _ _ _ _ _ _ _ _ ⟨_,P3 F1⟩
theorem Aho(w5 w6:World)(base rb:Nat)(o:Nat->Option Nat)(C:Al)(w0 t0:ByteArray)(v:Value)(Z:List Aw)(y:Aw)(eb cb coff nf cap nb noff nc:Nat)(pa:Int)(hkw:w0=kwB 9)(HR5:Hid (D0 base rb o C w0 v (Z++ [y]) w5))(HBE:Hid (Below w5.heap.size w5 w6))(HEB:Hid (w5.heap.size<=eb))(HXE:Hid (w6.heap[eb]? =some (.cells (Aj y).toArray 50)))
  (hn5:y.E.points.length<=100000/\y.E.gaps.length<=100000/\y.E.edges.length<=100000/\y.E.first.length<=100000/\y.E.last.length<=100000) (u0:w6.cell? ⟨cb,coff,none⟩=some (.string w0)) (u1:w6.cell? ⟨cb,coff+1,none⟩=some (.string t0)) (m0:w6.cell? ⟨nb,noff,none⟩=some (.int .i64 pa)) (hcb5:cb<w5.heap.size) (hocb:o cb=none) (hnb2:nb<w5.heap.size) (honb:o nb=none) (hcap:((nf+1:Nat):Int)<=(cap:Int)) (hncap:(nf:Int)<=(nc:Int)) (hnfn0:0<nf) (hnfk0:(0:Int)<(nf:Int)) (hnf1:1<=nf)
  (x0 x1 x2 x3 x4 x6 x7 x8 x10 x11 x12 x13 x15 x16 x17 x18 x19 x20 x21 x22 x23 x24 x25 x26 x27 x28 x29 x30 x31 x32 x33 x34 x35 x36 x37 x38 x39 x40 x41 x42 x43 x44 x45 x46 x47 x48 x49 x50 x51 x52 x53 x54 x55 x56 x57 x58 x59 x60 x61 x62 x63 x64 x65 x66 x67 x68 x69 x70 x71 x72 x73 x74 x75 x76 x77 x78 x79 x80 x81 x82 x83 x84 x85 x86 x87 x88 x89 x90 x91 x92 x93 x94 x95 x96 x97 x98 x99 x100 x101 x102 x103 x104 x105 x106 x107 x108 x109 x110 x111 x112 x113 x114 x115 x116 x117 x118 x119 x120 x121 x122 x123 x124 x125 x126 x127 x128 x129 x130 x131 x132 x133 x134 x135 x136 x137 x138 x139 x140 x141 x142 x143 x144 x145 x146 x147 x148 x149 x150 x151 x152 x153 x154 x155 x156 x157 x158 x159 x160 x161 x162 x163 x164 x165 x166 x167 x168 x169 x170 x171 x172 x173 x174 x175 x176 x177 x178 x179 x180 x181 x182 x183 x184 x185 x186 x266 x267 x268 x269 x270 x271 x272 x273:Value) (Q0:Exit->Act->World->Prop) (hexit:∀(y188 y189 y190 y191 y192 y193 y194 y195 y196 y197 y198 y199 y200 y201 y202 y203 y204 y205 y206 y207 y208 y209 y210 y211 y212 y213 y214 y215 y216 y217 y218 y219 y220 y221 y222 y223 y224 y225 y226 y227 y228 y229 y230 y231 y232 y233 y234 y235 y236 y237 y238 y239 y240 y241 y242 y243 y244 y245 y246 y247 y248 y249 y250 y251 y252 y253 y254 y255 y256 y257 y258 y259 y260 y261 y262 y263 y264 y265:Value) (w':World),(∃y':Aw,Hid (BX w5 base o Z.length eb (Bl 9 t0 [pa] y.E) y y' w'))->Q0 .normal ⟨(List.toArray (x0::x1::x2::x3::x4::(.slice (some ⟨cb,coff,none⟩) (nf+1) cap)::x6::x7::x8::(.slice (some ⟨nb,noff,none⟩) nf nc)::x10::x11::x12::x13::(.pointer (some ⟨eb,0,none⟩))::x15::x16::x17::x18::x19::x20::x21::x22::x23::x24::x25::x26::x27::x28::x29::x30::x31::x32::x33::x34::x35::x36::x37::x38::x39::x40::x41::x42::x43::x44::x45::x46::x47::x48::x49::x50::x51::x52::x53::x54::x55::x56::x57::x58::x59::x60::x61::x62::x63::x64::x65::x66::x67::x68::x69::x70::x71::x72::x73::x74::x75::x76::x77::x78::x79::x80::x81::x82::x83::x84::x85::x86::x87::x88::x89::x90::x91::x92::x93::x94::x95::x96::x97::x98::x99::x100::x101::x102::x103::x104::x105::x106::x107::x108::x109::x110::x111::x112::x113::x114::x115::x116::x117::x118::x119::x120::x121::x122::x123::x124::x125::x126::x127::x128::x129::x130::x131::x132::x133::x134::x135::x136::x137::x138::x139::x140::x141::x142::x143::x144::x145::x146::x147::x148::x149::x150::x151::x152::x153::x154::x155::x156::x157::x158::x159::x160::x161::x162::x163::x164::x165::x166::x167::x168::x169::x170::x171::x172::x173::x174::x175::x176::x177::x178::x179::x180::x181::x182::x183::x184::x185::x186::(.string w0)::y188::y189::y190::y191::y192::y193::y194::y195::y196::y197::y198::y199::y200::y201::y202::y203::y204::y205::y206::y207::y208::y209::y210::y211::y212::y213::y214::y215::y216::y217::y218::y219::y220::y221::y222::y223::y224::y225::y226::y227::y228::y229::y230::y231::y232::y233::y234::y235::y236::y237::y238::y239::y240::y241::y242::y243::y244::y245::y246::y247::y248::y249::y250::y251::y252::y253::y254::y255::y256::y257::y258::y259::y260::y261::y262::y263::y264::y265::x266::x267::x268::x269::x270::x271::x272::x273:: [])),[]⟩ w') (x188 x189 x190 x191 x192 x193 x194 x195 x196 x197 x198 x199 x200 x201 x202 x203 x204 x205 x206 x207 x208 x209 x210 x211 x212 x213 x214 x215 x216 x217 x218 x219 x220 x221 x222 x223 x224 x225 x226 x227 x228 x229 x230 x231 x232 x233 x234 x235 x236 x237 x238 x239 x240 x241 x242 x243 x244 x245 x246 x247 x248 x249 x250 x251 x252 x253 x254 x255 x256 x257 x258 x259 x260 x261 x262 x263 x264 x265:Value):
  Code.wp Tryz.prog (Ro 5) Q0 ⟨(List.toArray (x0::x1::x2::x3::x4::(.slice (some ⟨cb,coff,none⟩) (nf+1) cap)::x6::x7::x8::(.slice (some ⟨nb,noff,none⟩) nf nc)::x10::x11::x12::x13::(.pointer (some ⟨eb,0,none⟩))::x15::x16::x17::x18::x19::x20::x21::x22::x23::x24::x25::x26::x27::x28::x29::x30::x31::x32::x33::x34::x35::x36::x37::x38::x39::x40::x41::x42::x43::x44::x45::x46::x47::x48::x49::x50::x51::x52::x53::x54::x55::x56::x57::x58::x59::x60::x61::x62::x63::x64::x65::x66::x67::x68::x69::x70::x71::x72::x73::x74::x75::x76::x77::x78::x79::x80::x81::x82::x83::x84::x85::x86::x87::x88::x89::x90::x91::x92::x93::x94::x95::x96::x97::x98::x99::x100::x101::x102::x103::x104::x105::x106::x107::x108::x109::x110::x111::x112::x113::x114::x115::x116::x117::x118::x119::x120::x121::x122::x123::x124::x125::x126::x127::x128::x129::x130::x131::x132::x133::x134::x135::x136::x137::x138::x139::x140::x141::x142::x143::x144::x145::x146::x147::x148::x149::x150::x151::x152::x153::x154::x155::x156::x157::x158::x159::x160::x161::x162::x163::x164::x165::x166::x167::x168::x169::x170::x171::x172::x173::x174::x175::x176::x177::x178::x179::x180::x181::x182::x183::x184::x185::x186::(.string w0)::x188::x189::x190::x191::x192::x193::x194::x195::x196::x197::x198::x199::x200::x201::x202::x203::x204::x205::x206::x207::x208::x209::x210::x211::x212::x213::x214::x215::x216::x217::x218::x219::x220::x221::x222::x223::x224::x225::x226::x227::x228::x229::x230::x231::x232::x233::x234::x235::x236::x237::x238::x239::x240::x241::x242::x243::x244::x245::x246::x247::x248::x249::x250::x251::x252::x253::x254::x255::x256::x257::x258::x259::x260::x261::x262::x263::x264::x265::x266::x267::x268::x269::x270::x271::x272::x273:: [])),[]⟩ w6:=by
 have HEXIT:=Aia hexit
 clear hexit
 obtain⟨⟨pa',pc',hvp⟩,⟨ga',gc',hvg⟩,⟨ea',ec',hve⟩,⟨fa',fc',hvf⟩,⟨la',lc',hvl⟩⟩:=K7 HR5.out.last
 have hxe:=HXE.out
 rw[show(Aj y).toArray=#[.string y.E.name,.int .i64 y.E.tol,.slice pa' y.E.points.length pc',.int .i64 y.E.count,.int .i64 y.E.mn,.int .i64 y.E.mx,.slice ga' y.E.gaps.length gc',.slice ea' y.E.edges.length ec',.slice fa' y.E.first.length fc',.slice la' y.E.last.length lc'] from by
  show #[.string y.E.name,.int .i64 y.E.tol,y.p,.int .i64 y.E.count,.int .i64 y.E.mn,.int .i64 y.E.mx,y.g,y.e,y.f,y.l]=_
  rw[hvp,hvg,hve,hvf,hvl]]at hxe
 have HVS:=Aia (And.intro hvp (And.intro hvg (And.intro hve (And.intro hvf hvl))))
 obtain⟨z0,z1,z2,z3,z4,z5,z6,z7,z8,z9,zf⟩:=Bs hxe
 have hel:=Aa hxe
 have hbs:=HBE.out.size
 have heb:=HEB.out
 have hce:¬cb=eb:=by omega
 have hec:¬eb=cb:=by omega
 have hne:¬nb=eb:=by omega
 have hen:¬eb=nb:=by omega
 have hcmp:=Nb hkw (by decide)
 obtain⟨e0,e1,e2,e3,e4,e5,e6,e7,e8,e9⟩:_=false/\_=false/\_=false/\_=false/\_=false/\_=false/\_=false/\_=false/\_=false/\_=true:=id hcmp
 clear hcmp hkw hvp hvg hve hvf hvl hxe hbs heb
 have hnfw:1<nf+1:=by omega
 have hnfw2:(1:Int)<(nf:Int)+1:=by omega
 conv=>arg 2;whnf
 obtain⟨i0,hi0,hz0,hz1,hz2⟩:=info_parts infoInt
 obtain⟨hpo,hpt⟩:=HR5.out.last 4 (by decide)
 have hvj:=HVS.out.2.2.2.2
 have HOW:Hid (∀W,Below w6.heap.size w6 W->As W base 3 1 (.slice la' y.E.last.length lc') y.E.last.length (Ac y.E.last)/\base<=W.heap.size):=(show _ from fun W hW=>⟨by rw[<-hvj];exact(hpo.later HBE.out).later hW,Nat.le_trans HR5.out.top (Nat.le_trans HBE.out.size hW.size)⟩)
 have HN5:Hid (y.E.last.length<=100000):=hn5.2.2.2.2
 have HA:Hid (∀(W1 W2:World) (ao:Option Addr) (cp:Nat),Below w6.heap.size w6 W1->As W2 base 3 1 (.slice ao (y.E.last.length+1) cp) (y.E.last.length+1) (Ac y.E.last++ [.int .i64 pa])->W1.grownBy W2 (Value.slice la' y.E.last.length lc').ownBlock->((Value.slice ao (y.E.last.length+1) cp).ownBlock=(Value.slice la' y.E.last.length lc').ownBlock\/∀b,(Value.slice ao (y.E.last.length+1) cp).ownBlock=some b->W1.heap.size<=b)->
   Hid (BX w5 base o Z.length eb (Bl 9 t0 [pa] y.E) y ⟨Bl 9 t0 [pa] y.E,y.p,y.g,y.e,y.f,.slice ao (y.E.last.length+1) cp⟩ (W2.setCell ⟨eb,9,none⟩ (.slice ao (y.E.last.length+1) cp)))/\W2.cell? ⟨eb,9,none⟩=some (.slice la' y.E.last.length lc')/\W2.frozen? ⟨eb,9,none⟩=false/\(W2.cell? ⟨cb,coff,none⟩=some (.string w0)/\W2.cell? ⟨cb,coff+1,none⟩=some (.string t0)/\W2.cell? ⟨nb,noff,none⟩=some (.int .i64 pa))):=(show _ from by
  intro W1 W2 ao cp b1 ho hg hnn
  have hsb:=HBE.out.size
  rw[<-hvj]at hg hnn ⊢
  obtain⟨x1,x2,x3,x4⟩:=BX.app (y':=⟨Bl 9 t0 [pa] y.E,y.p,y.g,y.e,y.f,.slice ao (y.E.last.length+1) cp⟩) (E':=Bl 9 t0 [pa] y.E) HR5.out (HBE.out.trans (b1.mono hsb)) HEB.out (Af b1 HXE.out (Aa HXE.out)) 4 (by decide) ho hg hnn rfl rfl rfl
   (fun i hi hne=>by
    match i,hi with
    |0,_=>exact⟨rfl,rfl,rfl⟩
    |1,_=>exact⟨rfl,rfl,rfl⟩
    |2,_=>exact⟨rfl,rfl,rfl⟩
    |3,_=>exact⟨rfl,rfl,rfl⟩
    |4,_=>exact absurd rfl hne
    )
   ⟨rfl,by show(y.E.last++ [pa]).length=_;simp,by show Ac (y.E.last++ [pa])=_;simp[Ac]⟩
  refine⟨x1,x2,x3,?_,?_,?_⟩
  ·rw[x4 cb coff hcb5 hocb,<-HBE.out.cell (p:=⟨cb,coff,none⟩) hcb5];exact u0
  ·rw[x4 cb (coff+1) hcb5 hocb,<-HBE.out.cell (p:=⟨cb,coff+1,none⟩) hcb5];exact u1
  ·rw[x4 nb (noff) hnb2 honb,<-HBE.out.cell (p:=⟨nb,noff,none⟩) hnb2];exact m0)
 obtain⟨np,hnp⟩:∃np,np=y.E.last.length:=⟨_,rfl⟩
 rw[<-hnp]at HOW HA HN5 z9
 have hnp5:=HN5.out
 clear hnp hpo hpt hvj hn5
 go_upto_region 77 with fail
 refine wp_region_noPanic ?_
 go_region_law (refine Bq rfl (.tmp 259) (.tmp 263) 48 rfl base 3 i0 _ 1 8 underlying48 hi0 hz0 hz1 hz2 rfl (by decide) (.slice la' np lc') np (Ac y.E.last) rfl ?_ ⟨w6.heap.size,0,none⟩ 1 1 [.int .i64 pa] rfl rfl ?_ (by intro u hu;simp at hu;subst hu;rfl) (by unfold maxLen;omega) (by omega) ?_ ?_;exact(HOW.out _ (by repeat(first|exact Below.refl _ _|refine Below.drew ?_|refine Below.alloc ?_ (by simp) _))).1;exact Av _ [.int .i64 pa] _;exact(HOW.out _ (by repeat(first|exact Below.refl _ _|refine Below.drew ?_|refine Below.alloc ?_ (by simp) _))).2;intro a1 k1 w7 ho6 hg6 hn6;have hfin:=HA.out _ w7 _ _ (by repeat(first|exact Below.refl _ _|refine Below.drew ?_|refine Below.alloc ?_ (by simp) _)) ho6 hg6 hn6;obtain⟨F1,d4,df,dc⟩:=hfin;clear ho6 hg6 hn6)
 all_goals
  refine NoPanic.normal ?_
  go_wp2_with fail
  first
   |exact HEXIT.out _ _ _ _ _ _ _ _ _ _ _ _ _ _ _ _ _ _ _ _ _ _ _ _ _ _ _ _ _ _ _ _ _ _ _ _ _ _ _ _ _ _ _ _ _ _ _ _ _ _ _ _ _ _ _ _ _ _ _ _ _ _ _ _ _ _ _ _ _ _ _ _ _ _ _ _ _ _ _ ⟨_,F1⟩
   |exact HEXIT.out _ _ _ _ _ _ _ _ _ _ _ _ _ _ _ _ _ _ _ _ _ _ _ _ _ _ _ _ _ _ _ _ _ _ _ _ _ _ _ _ _ _ _ _ _ _ _ _ _ _ _ _ _ _ _ _ _ _ _ _ _ _ _ _ _ _ _ _ _ _ _ _ _ _ _ _ _ _ _ ⟨_,P3 F1⟩
end Go.Proofs.YtikehilbmldadaaGreatDoor
