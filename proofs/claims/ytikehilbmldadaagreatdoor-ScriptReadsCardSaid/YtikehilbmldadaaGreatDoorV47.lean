import Derived.Test.YtikehilbmldadaaGreatDoorV45
set_option maxHeartbeats 8000000
set_option maxRecDepth 100000
set_option linter.unusedVariables false
open Go.Proofs.Tryz Go.Proofs.YtikehilbmldadaaGreatDoor.Tryz
namespace Go.Proofs.YtikehilbmldadaaGreatDoor
open Go.RowKit
theorem Af4(w2:World)(base rb:Nat)(o:Nat->Option Nat)(st:RdS)(m vc:Nat)(vo:Option Addr)(Y:List Aw)(w0 fs:ByteArray)(ts pts:List ByteArray)(nf k cb coff cap:Nat)(kx:Int)(HKX:Hid (kx=(m:Int)-1))(HM:Hid (m=Y.length))(HR2:Hid (D0 base rb o st.c (stB st.stage) (.slice vo m vc) Y w2))(HI:Hid (R7 st))(HPT:Hid (pts=(Bo st.c.ents).points))
  (HFO:Hid (Gb w0=some (k,fs))) (HK9:Hid (k<=9)) (HKF2:Hid (fs=fwB k)) (HRG:Hid (Bi st.stage k=true)) (HFZ:Hid (fs.size=nf)) (HNF:Hid (nf=ts.length)) (HTZ:Hid (∀i,(ts.getD i ByteArray.empty).size<=100000)) (HCC2:Hid (∀k x,(w0::ts)[k]? =some x->w2.cell? ⟨cb,coff+k,none⟩=some (.string x))) (hcap:((nf+1:Nat):Int)<=(cap:Int)) (hmZ:m<=100000) (hnf4:(nf:Int)<=4) (hle2:(((nf+1:Nat):Int)==(fs.size:Int)+1)=true)
  (x1 x2 x3 x4 x7 x13 x14 x15 x16 x17 x18 x19 x20 x21 x22 x23 x24 x25 x26 x27 x28 x29 x30 x31 x32 x33 x34 x35 x36 x37 x38 x39 x40 x41 x42 x43 x44 x45 x46 x47 x48 x49 x50 x51 x52 x53 x54 x55 x56 x57 x58 x59 x60 x61 x62 x63 x112 x113 x114 x115 x116 x117 x118 x119 x120 x121 x122 x123 x124 x125 x126 x127 x128 x129 x130 x131 x132 x133 x134 x135 x136 x137 x138 x139 x140 x141 x142 x143 x144 x145 x146 x147 x148 x149 x150 x151 x152 x153 x154 x155 x156 x157 x158 x159 x160 x161 x162 x163 x164 x165 x166 x167 x168 x169 x170 x171 x172 x173 x174 x175 x176 x177 x178 x179 x180 x181 x182 x183 x184 x185 x186 x187 x188 x189 x190 x191 x192 x193 x194 x195 x196 x197 x198 x199 x200 x201 x202 x203 x204 x205 x206 x207 x208 x209 x210 x211 x212 x213 x214 x215 x216 x217 x218 x219 x220 x221 x222 x223 x224 x225 x226 x227 x228 x229 x230 x231 x232 x233 x234 x235 x236 x237 x238 x239 x240 x241 x242 x243 x244 x245 x246 x247 x248 x249 x250 x251 x252 x253 x254 x255 x256 x257 x258 x259 x260 x261 x262 x263 x264 x265 x266 x267 x268 x269 x270 x271 x272 x273:Value) (Q0:Exit->Act->World->Prop)
  (hret:∀(y9 y10 y11 y12 y64 y65 y66 y67 y68 y69 y70 y71 y72 y73 y74 y75 y76 y77 y78 y79 y80 y81 y82 y83 y84 y85 y86 y87 y88 y89 y90 y91 y92 y93 y94 y95 y96 y97 y98 y99 y100 y101 y102 y103 y104 y105 y106 y107 y108 y109 y110 y111:Value) (w':World),Az pts fs.data.toList ts nf=none->Below w2.heap.size w2 w'->Q0 .ret ⟨(List.toArray ((.pointer (some ⟨rb,0,none⟩))::x1::x2::x3::(.int .i64 1)::(.slice (some ⟨cb,coff,none⟩) (nf+1) cap)::(.string fs)::x7::(.int .i64 kx)::y9::y10::y11::y12::x13::x14::x15::x16::x17::x18::x19::x20::x21::x22::x23::x24::x25::x26::x27::x28::x29::x30::x31::x32::x33::x34::x35::x36::x37::x38::x39::x40::x41::x42::x43::x44::x45::x46::x47::x48::x49::x50::x51::x52::x53::x54::x55::x56::x57::x58::x59::x60::x61::x62::x63::y64::y65::y66::y67::y68::y69::y70::y71::y72::y73::y74::y75::y76::y77::y78::y79::y80::y81::y82::y83::y84::y85::y86::y87::y88::y89::y90::y91::y92::y93::y94::y95::y96::y97::y98::y99::y100::y101::y102::y103::y104::y105::y106::y107::y108::y109::y110::y111::x112::x113::x114::x115::x116::x117::x118::x119::x120::x121::x122::x123::x124::x125::x126::x127::x128::x129::x130::x131::x132::x133::x134::x135::x136::x137::x138::x139::x140::x141::x142::x143::x144::x145::x146::x147::x148::x149::x150::x151::x152::x153::x154::x155::x156::x157::x158::x159::x160::x161::x162::x163::x164::x165::x166::x167::x168::x169::x170::x171::x172::x173::x174::x175::x176::x177::x178::x179::x180::x181::x182::x183::x184::x185::x186::x187::x188::x189::x190::x191::x192::x193::x194::x195::x196::x197::x198::x199::x200::x201::x202::x203::x204::x205::x206::x207::x208::x209::x210::x211::x212::x213::x214::x215::x216::x217::x218::x219::x220::x221::x222::x223::x224::x225::x226::x227::x228::x229::x230::x231::x232::x233::x234::x235::x236::x237::x238::x239::x240::x241::x242::x243::x244::x245::x246::x247::x248::x249::x250::x251::x252::x253::x254::x255::x256::x257::x258::x259::x260::x261::x262::x263::x264::x265::x266::x267::x268::x269::x270::x271::x272::x273:: [])),[]⟩ w')
  (hexit:∀(y4 y12 y64 y65 y66 y67 y68 y69 y70 y71 y72 y73 y74 y75 y76 y77 y78 y79 y80 y81 y82 y83 y84 y85 y86 y87 y88 y89 y90 y91 y92 y93 y94 y95 y96 y97 y98 y99 y100 y101 y102 y103 y104 y105 y106 y107 y108 y109 y110 y111:Value) (d:List Int) (z:Bool) (na:Option Addr) (nc:Nat) (w':World),Az pts fs.data.toList ts nf=some (pick fs.data.toList d,z)->d.length=nf->As w' w2.heap.size 3 1 (.slice na nf nc) nf (Ac d)->Below w2.heap.size w2 w'->Q0 .normal ⟨(List.toArray ((.pointer (some ⟨rb,0,none⟩))::x1::x2::x3::y4::(.slice (some ⟨cb,coff,none⟩) (nf+1) cap)::(.string fs)::x7::(.int .i64 kx)::(.slice na nf nc)::(.bool z)::(.int .i64 nf)::y12::x13::x14::x15::x16::x17::x18::x19::x20::x21::x22::x23::x24::x25::x26::x27::x28::x29::x30::x31::x32::x33::x34::x35::x36::x37::x38::x39::x40::x41::x42::x43::x44::x45::x46::x47::x48::x49::x50::x51::x52::x53::x54::x55::x56::x57::x58::x59::x60::x61::x62::x63::y64::y65::y66::y67::y68::y69::y70::y71::y72::y73::y74::y75::y76::y77::y78::y79::y80::y81::y82::y83::y84::y85::y86::y87::y88::y89::y90::y91::y92::y93::y94::y95::y96::y97::y98::y99::y100::y101::y102::y103::y104::y105::y106::y107::y108::y109::y110::y111::x112::x113::x114::x115::x116::x117::x118::x119::x120::x121::x122::x123::x124::x125::x126::x127::x128::x129::x130::x131::x132::x133::x134::x135::x136::x137::x138::x139::x140::x141::x142::x143::x144::x145::x146::x147::x148::x149::x150::x151::x152::x153::x154::x155::x156::x157::x158::x159::x160::x161::x162::x163::x164::x165::x166::x167::x168::x169::x170::x171::x172::x173::x174::x175::x176::x177::x178::x179::x180::x181::x182::x183::x184::x185::x186::x187::x188::x189::x190::x191::x192::x193::x194::x195::x196::x197::x198::x199::x200::x201::x202::x203::x204::x205::x206::x207::x208::x209::x210::x211::x212::x213::x214::x215::x216::x217::x218::x219::x220::x221::x222::x223::x224::x225::x226::x227::x228::x229::x230::x231::x232::x233::x234::x235::x236::x237::x238::x239::x240::x241::x242::x243::x244::x245::x246::x247::x248::x249::x250::x251::x252::x253::x254::x255::x256::x257::x258::x259::x260::x261::x262::x263::x264::x265::x266::x267::x268::x269::x270::x271::x272::x273:: [])),[]⟩ w') (x12 x64 x65 x66 x67 x68 x69 x70 x71 x72 x73 x74 x75 x76 x77 x78 x79 x80 x81 x82 x83 x84 x85 x86 x87 x88 x89 x90 x91 x92 x93 x94 x95 x96 x97 x98 x99 x100 x101 x102 x103 x104 x105 x106 x107 x108 x109 x110 x111:Value):
  Code.wp Tryz.prog (Ro 1) Q0 ⟨(List.toArray ((.pointer (some ⟨rb,0,none⟩))::x1::x2::x3::x4::(.slice (some ⟨cb,coff,none⟩) (nf+1) cap)::(.string fs)::x7::(.int .i64 kx)::(.slice none 0 0)::(.bool false)::(.int .i64 0)::x12::x13::x14::x15::x16::x17::x18::x19::x20::x21::x22::x23::x24::x25::x26::x27::x28::x29::x30::x31::x32::x33::x34::x35::x36::x37::x38::x39::x40::x41::x42::x43::x44::x45::x46::x47::x48::x49::x50::x51::x52::x53::x54::x55::x56::x57::x58::x59::x60::x61::x62::x63::x64::x65::x66::x67::x68::x69::x70::x71::x72::x73::x74::x75::x76::x77::x78::x79::x80::x81::x82::x83::x84::x85::x86::x87::x88::x89::x90::x91::x92::x93::x94::x95::x96::x97::x98::x99::x100::x101::x102::x103::x104::x105::x106::x107::x108::x109::x110::x111::x112::x113::x114::x115::x116::x117::x118::x119::x120::x121::x122::x123::x124::x125::x126::x127::x128::x129::x130::x131::x132::x133::x134::x135::x136::x137::x138::x139::x140::x141::x142::x143::x144::x145::x146::x147::x148::x149::x150::x151::x152::x153::x154::x155::x156::x157::x158::x159::x160::x161::x162::x163::x164::x165::x166::x167::x168::x169::x170::x171::x172::x173::x174::x175::x176::x177::x178::x179::x180::x181::x182::x183::x184::x185::x186::x187::x188::x189::x190::x191::x192::x193::x194::x195::x196::x197::x198::x199::x200::x201::x202::x203::x204::x205::x206::x207::x208::x209::x210::x211::x212::x213::x214::x215::x216::x217::x218::x219::x220::x221::x222::x223::x224::x225::x226::x227::x228::x229::x230::x231::x232::x233::x234::x235::x236::x237::x238::x239::x240::x241::x242::x243::x244::x245::x246::x247::x248::x249::x250::x251::x252::x253::x254::x255::x256::x257::x258::x259::x260::x261::x262::x263::x264::x265::x266::x267::x268::x269::x270::x271::x272::x273:: [])),[]⟩ w2:=by
 have HRET:=Aia hret
 have HEXIT:=Aia hexit
 clear hret hexit
 obtain⟨d0,d1,d2,d3,d4,d5,df⟩:=Hg HR2.out.blk
 conv=>arg 2;whnf
 go_wp2_with fail
 go_loopw [9,10,11] (fun s9 s10 s11 wr=>∃(i:Nat) (d:List Int) (z:Bool) (na:Option Addr) (nc:Nat),i<=nf/\s11=.int .i64 i/\s9=.slice na i nc/\s10=.bool z/\Hid (Az pts fs.data.toList ts i=some (pick fs.data.toList d,z))/\Hid (d.length=i)/\Hid (As wr w2.heap.size 3 1 (.slice na i nc) i (Ac d))/\Hid (Below w2.heap.size w2 wr)) (fun _ _ s11 _=>nf-(intOf s11).toNat)
 case atStart=>exact⟨0,[],false,none,0,Nat.zero_le _,rfl,rfl,rfl,(show Az pts fs.data.toList ts 0=some (pick fs.data.toList [],false)from by rw[Uz];rfl),rfl,(show As w2 w2.heap.size 3 1 (.slice none 0 0) 0 [] from⟨rfl,.inl ⟨rfl,rfl⟩⟩),Below.refl _ _⟩
 case round=>
  obtain⟨i,d,z,na,nc,hi,rfl,rfl,rfl,hup,hdl,hown,hbel⟩:=hrel
  by_cases hlt:i<nf
  ·have hilt:i<ts.length:=by rw[<-HNF.out];exact hlt
   have hisz:i<fs.size:=by rw[HFZ.out];exact hlt
   obtain⟨tw,htw⟩:∃tw,tw=ts[i]:=⟨_,rfl⟩
   have hx1:w2.cell? ⟨cb,coff+(i+1),none⟩=some (.string tw):=HCC2.out (i+1) tw (by rw[List.getElem?_cons_succ,List.getElem?_eq_getElem hilt,htw])
   have hcw2:cb<w2.heap.size:=World.block_lt_of_cell? _ ⟨cb,coff+(i+1),none⟩ hx1
   have ht:wr.cell? ⟨cb,coff+(i+1),none⟩=some (.string tw):=by rw[hbel.out.cell (p:=⟨cb,coff+(i+1),none⟩) hcw2];exact hx1
   have HTW:Hid (ts.getD i ByteArray.empty=tw):=Aia (by rw[htw,List.getD_eq_getElem?_getD,List.getElem?_eq_getElem hilt];rfl)
   have hcap2:(i:Int)+1<=(cap:Int):=by omega
   clear htw hx1 hilt
   go_upto_block 3 with fail
   generalize hcn:fs[i].toNat=cn
   obtain⟨f,hf⟩:∃f,f=fs.data.toList.getD i 0:=⟨_,rfl⟩
   have HCN:Hid (f.toNat=cn):=Aia (by rw[hf,Nk fs i hisz];exact hcn)
   have HF2:=Aia hf
   have hfl:f=110\/f=112\/f=115:=by
    have e:=HKF2.out
    have:=Abi (k:=k) (i:=i) HK9.out (by rw[<-e];exact hisz)
    rw[hf,e]
    exact this
   have HFL:=Aia hfl
   obtain⟨l,hl⟩:∃l,l=pick fs.data.toList d:=⟨_,rfl⟩
   rw[<-hl]at hup
   have HL0:=Aia hl
   clear hcn hisz hf hfl hl
   go_cut [10,12] from 73 to 101 (fun s10 s12 wx=>∃(x:Int) (z2:Bool),s12=.int .i64 x/\s10=.bool z2/\Hid (Below w2.heap.size w2 wx)/\Hid (As wx w2.heap.size 3 1 (.slice na i nc) i (Ac d))/\Hid (tw.size=0->A2 pts f tw (l,z)=none)/\Hid (tw.size≠0->A2 pts f tw (l,z)=some ((if f=115 then l else l++ [x]),z2)))
   case first=>
    by_cases h110:cn=110
    ·obtain rfl:=h110
     have hq1:(((110:Nat):Int)==110)=true:=rfl
     have HC1:Hid (f=110):=Aia (UInt8.toNat_inj.1 HCN.out)
     have HNm:=Aia (Wr tw wr (by rw[<-HTW.out];exact HTZ.out i))
     obtain⟨q,hq⟩:∃q,q=N5 tw:=⟨_,rfl⟩
     rw[<-hq]at HNm
     have HQ:=Aia hq
     clear hq
     by_cases hq0:q<0
     ·have HN:Hid (Az pts fs.data.toList ts nf=none):=Aia (by
       exact Im (Ua hup.out (by rw[HTW.out,<-HF2.out,HC1.out];unfold A2;rw[if_pos rfl,Aai (by rw[<-HQ.out];exact hq0)])) nf (by omega))
      go_wp2_with fail
      refine HNm.out.mono ?_
      rintro e w3 ⟨rfl,rfl⟩
      go_wp2_with fail
      exact HRET.out _ _ _ _ _ _ _ _ _ _ _ _ _ _ _ _ _ _ _ _ _ _ _ _ _ _ _ _ _ _ _ _ _ _ _ _ _ _ _ _ _ _ _ _ _ _ _ _ _ _ _ _ _ HN.out hbel.out
     ·have HA:Hid (tw.size=0->A2 pts f tw (l,z)=none):=Aia (fun h0=>absurd (by rw[HQ.out];unfold N5;rw[U2 h0];decide) hq0)
      have HB:Hid (tw.size≠0->A2 pts f tw (l,z)=some ((if f=115 then l else l++ [q]),z)):=Aia (fun _=>by
       obtain⟨kk,h1,h2⟩:=Aah (s:=tw) (by rw[<-HQ.out];exact hq0)
       rw[HC1.out,HQ.out,h2,if_neg (by decide)]
       exact Yx h1)
      go_wp2_with fail
      refine HNm.out.mono ?_
      rintro e w3 ⟨rfl,rfl⟩
      clear hq1
      have hq0d:decide (q<0)=false:=decide_eq_false (by omega)
      clear hq0
      go_wp2_with fail
      go_meet
      exact⟨q,z,rfl,rfl,hbel,hown,HA,HB⟩
    ·have hq1:((cn:Int)==110)=false:=by rw[beq_eq_false_iff_ne];omega
     have HC1:=Aia h110
     by_cases h112:cn=112
     ·obtain rfl:=h112
      have hq2:(((112:Nat):Int)==112)=true:=rfl
      have HC2:Hid (f=112):=Aia (UInt8.toNat_inj.1 HCN.out)
      have hst3:3<=st.stage:=xI HFO.out (by rw[<-HF2.out];exact HC2.out) HRG.out
      have hYne:Y≠ []:=fun e=>HI.out.ne hst3 (by rw[HR2.out.eq,e];rfl)
      obtain⟨Z,y,rfl⟩:=Fz hYne
      have hRr:=HR2.out.later hbel.out
      have hmz:m=Z.length+1:=by rw[HM.out,List.length_append,List.length_singleton]
      obtain⟨mz,hmz2⟩:∃mz,mz=Z.length:=⟨_,rfl⟩
      obtain rfl:m=mz+1:=by rw[hmz,hmz2]
      obtain rfl:kx=(mz:Int):=by rw[HKX.out];omega
      obtain⟨g,off,vc2,hv2,⟨hc1,hc2⟩,hog,hbg,hgw,hgr,hcell⟩:=hRr.form
      obtain⟨rfl,-,rfl⟩:=Value.slice.inj hv2
      have hlast:=hRr.last
      obtain⟨hpo,hpt⟩:=hlast 0 (by decide)
      obtain⟨pa,pc,hpv⟩:=hpo.val
      have hpv:y.p=.slice pa y.E.points.length pc:=hpv
      have q2:=hcell 2 _ rfl
      rw[hpv,<-Nat.add_assoc,<-hmz2]at q2
      rw[<-hmz2]at hc1
      obtain⟨c0,c1,c2,c3,c4,c5,cf⟩:=Hg hRr.blk
      have hpe:pts=y.E.points:=by rw[HPT.out,(Om HR2.out.eq).1]
      have HIx:Hid (∀q,Calls Tryz.prog 81 #[.slice pa y.E.points.length pc,.string tw] (wr.drewN q) fun e w'=>e=.returned (.int .i64 (Cn pts tw))/\wr.drewN q=w'):=(show _ from fun q=>by
       rw[hpe,<-hpv]
       exact M7 _ _ _ _ _ (hlast.slOf.p.below (Ag q (Below.refl wr.heap.size wr)) (fun b hb=>hb.2)))
      obtain⟨np,hnp⟩:∃np,np=y.E.points.length:=⟨_,rfl⟩
      rw[<-hnp]at HIx q2
      obtain⟨q,hq⟩:∃q,q=Cn pts tw:=⟨_,rfl⟩
      rw[<-hq]at HIx
      have HQ:=Aia hq
      have HA:Hid (tw.size=0->A2 pts f tw (l,z)=none):=Aia (fun h0=>Rz h0 (by rw[HC2.out];decide))
      have HB:Hid (tw.size≠0->A2 pts f tw (l,z)=some ((if f=115 then l else l++ [q]),z||decide (q<0))):=Aia (fun h0=>by
       rw[HC2.out,HQ.out,if_neg (by decide)]
       unfold A2
       rw[if_neg (by decide),if_neg h0,if_pos rfl])
      clear hst3 hYne hlast hpo hpt hpv hcell hpe hnp hq hog c0 c1 c2 c3 c5 cf hv2 hmz hmz2 hRr
      go_upto_region 38 with fail
      go_quiet ((go_at_call 81;exact C5 (HIx.out _)))
      generalize hwq:World.drewN wr _=wq
      have HBQ:Hid (Below w2.heap.size w2 wq):=Aia (by rw[<-hwq];exact Ag _ hbel.out)
      have HOQ:Hid (As wq w2.heap.size 3 1 (.slice na i nc) i (Ac d)):=Aia (by rw[<-hwq];exact hown.out.later (Ag _ (Below.refl _ _)))
      clear hwq
      by_cases hq0:q<0
      ·rw[decide_eq_true hq0,Bool.or_true]at HB
       go_wp2_with fail
       go_meet
       exact⟨q,true,rfl,rfl,HBQ,HOQ,HA,HB⟩
      ·rw[decide_eq_false hq0,Bool.or_false]at HB
       go_wp2_with fail
       go_meet
       exact⟨q,z,rfl,rfl,HBQ,HOQ,HA,HB⟩
     ·have hq2:((cn:Int)==112)=false:=by rw[beq_eq_false_iff_ne];omega
      have HC3:Hid (f=115):=Aia (by
       rcases HFL.out with h|h|h
       ·exact absurd (by rw[<-HCN.out,h];rfl) HC1.out
       ·exact absurd (by rw[<-HCN.out,h];rfl) h112
       ·exact h)
      have HA:Hid (tw.size=0->A2 pts f tw (l,z)=none):=Aia (fun h0=>Rz h0 (by rw[HC3.out];decide))
      have HB:Hid (tw.size≠0->A2 pts f tw (l,z)=some ((if f=115 then l else l++ [0]),z)):=Aia (fun h0=>by
       rw[HC3.out,if_pos rfl]
       exact Agv h0)
      clear h110 h112
      go_wp2_with fail
      go_meet
      exact⟨0,z,rfl,rfl,hbel,hown,HA,HB⟩
   case rest=>
   obtain⟨x,z2,rfl,rfl,hB3,hO3,hA3,hS3⟩:=hcut
   have ht3:wc.cell? ⟨cb,coff+(i+1),none⟩=some (.string tw):=by rw[hB3.out.cell (p:=⟨cb,coff+(i+1),none⟩) hcw2,<-hbel.out.cell (p:=⟨cb,coff+(i+1),none⟩) hcw2];exact ht
   clear hown hbel ht
   by_cases hts:tw.size=0
   ·have he2:tw.toList.isEmpty=true:=Kq hts
    have HN:Hid (Az pts fs.data.toList ts nf=none):=Aia (by
     exact Im (Ua hup.out (by rw[HTW.out,<-HF2.out];exact hA3.out hts)) nf (by omega))
    clear hts
    go_wp2_with fail
    exact HRET.out _ _ _ _ _ _ _ _ _ _ _ _ _ _ _ _ _ _ _ _ _ _ _ _ _ _ _ _ _ _ _ _ _ _ _ _ _ _ _ _ _ _ _ _ _ _ _ _ _ _ _ _ _ HN.out hB3.out
   ·have he2:tw.toList.isEmpty=false:=K8 hts
    have HUP:Hid (Az pts fs.data.toList ts (i+1)=some (pick fs.data.toList (d++ [x]),z2)):=Aia (by
     have h1:=P4 hup.out (by rw[HTW.out,<-HF2.out];exact hS3.out hts)
     rw[h1,Xv fs.data.toList d x (by rw[hdl.out,Gh,HFZ.out];exact hlt),hdl.out,<-HF2.out,<-HL0.out]
     by_cases h115:f=115
     ·rw[if_pos h115,if_pos h115,List.append_nil]
     ·rw[if_neg h115,if_neg h115])
    obtain⟨i0,hi0,hz0,hz1,hz2⟩:=info_parts infoInt
    clear hts
    go_wp2_with (at_builtin;go_must (refine A5 rfl (.tmp 108) (.tmp 110) 48 rfl w2.heap.size 3 i0 _ 1 8 underlying48 hi0 hz0 hz1 hz2 rfl (by decide) (.slice na i nc) i (Ac d) rfl (hO3.out.later ((Below.refl _ _).alloc (Nat.le_refl _) _)) ⟨wc.heap.size,0,none⟩ 1 1 [.int .i64 x] rfl rfl (Av _ [.int .i64 x] _) (by intro u hu;simp at hu;subst hu;rfl) (by unfold maxLen;omega) (by omega) (by have:=hB3.out.size;rw[World.size_alloc];omega) ?_;intro a4 k4 w4 ho4 hg4 hn4';have HO4:=Aia ho4;have HB4:=Aia ((hB3.out.alloc hB3.out.size _).trans ((Ae.of_grown hg4).below (by have:=hB3.out.size;rw[World.size_alloc];omega) (fun b hb=>(hO3.out.lt b hb.symm).1)));clear ho4 hg4 hn4'))
    go_roundw
    case rel=>exact⟨i+1,d++ [x],z2,a4,k4,by omega,by go_num,rfl,rfl,HUP,(show(d++ [x]).length=i+1 from by rw[List.length_append,hdl.out];rfl),(show As w4 w2.heap.size 3 1 (.slice a4 (i+1) k4) (i+1) (Ac (d++ [x]))from by unfold Ac;rw[List.map_append];exact HO4.out),HB4⟩
    case measure=>simp[intOf];omega
  ·obtain rfl:i=nf:=by omega
   have hfs2:(fs.size:Int)=(i:Int):=by have:=HFZ.out;omega
   clear hnf4 hi hlt hle2 hmZ d0 d1 d2 d3 d4 d5 df hcap
   go_wp2_with fail
   exact HEXIT.out _ _ _ _ _ _ _ _ _ _ _ _ _ _ _ _ _ _ _ _ _ _ _ _ _ _ _ _ _ _ _ _ _ _ _ _ _ _ _ _ _ _ _ _ _ _ _ _ _ _ _ _ _ _ _ hup.out hdl.out hown.out hbel.out
theorem Aht(w5 w6:World)(base rb:Nat)(o:Nat->Option Nat)(C:Al)(w0 t0:ByteArray)(v:Value)(Z:List Aw)(y:Aw)(eb cb coff nf cap nb noff nc:Nat)(pa:Int)(hkw:w0=kwB 4)(HR5:Hid (D0 base rb o C w0 v (Z++ [y]) w5))(HBE:Hid (Below w5.heap.size w5 w6))(HEB:Hid (w5.heap.size<=eb))(HXE:Hid (w6.heap[eb]? =some (.cells (Aj y).toArray 50)))
  (hn5:y.E.points.length<=100000/\y.E.gaps.length<=100000/\y.E.edges.length<=100000/\y.E.first.length<=100000/\y.E.last.length<=100000) (u0:w6.cell? ⟨cb,coff,none⟩=some (.string w0)) (u1:w6.cell? ⟨cb,coff+1,none⟩=some (.string t0)) (m0:w6.cell? ⟨nb,noff,none⟩=some (.int .i64 pa)) (hcb5:cb<w5.heap.size) (hocb:o cb=none) (hnb2:nb<w5.heap.size) (honb:o nb=none) (hcap:((nf+1:Nat):Int)<=(cap:Int)) (hncap:(nf:Int)<=(nc:Int)) (hnfn0:0<nf) (hnfk0:(0:Int)<(nf:Int)) (hnf1:1<=nf)
  (x0 x1 x2 x3 x4 x6 x7 x8 x10 x11 x12 x13 x15 x16 x17 x18 x19 x20 x21 x22 x23 x24 x25 x26 x27 x28 x29 x30 x31 x32 x33 x34 x35 x36 x37 x38 x39 x40 x41 x42 x43 x44 x45 x46 x47 x48 x49 x50 x51 x52 x53 x54 x55 x56 x57 x58 x59 x60 x61 x62 x63 x64 x65 x66 x67 x68 x69 x70 x71 x72 x73 x74 x75 x76 x77 x78 x79 x80 x81 x82 x83 x84 x85 x86 x87 x88 x89 x90 x91 x92 x93 x94 x95 x96 x97 x98 x99 x100 x101 x102 x103 x104 x105 x106 x107 x108 x109 x110 x111 x112 x113 x114 x115 x116 x117 x118 x119 x120 x121 x122 x123 x124 x125 x126 x127 x128 x129 x130 x131 x132 x133 x134 x135 x136 x137 x138 x139 x140 x141 x142 x143 x144 x145 x146 x147 x148 x149 x150 x151 x152 x153 x154 x155 x156 x157 x158 x159 x160 x161 x162 x163 x164 x165 x166 x167 x168 x169 x170 x171 x172 x173 x174 x175 x176 x177 x178 x179 x180 x181 x182 x183 x184 x185 x186 x266 x267 x268 x269 x270 x271 x272 x273:Value) (Q0:Exit->Act->World->Prop) (hexit:∀(y188 y189 y190 y191 y192 y193 y194 y195 y196 y197 y198 y199 y200 y201 y202 y203 y204 y205 y206 y207 y208 y209 y210 y211 y212 y213 y214 y215 y216 y217 y218 y219 y220 y221 y222 y223 y224 y225 y226 y227 y228 y229 y230 y231 y232 y233 y234 y235 y236 y237 y238 y239 y240 y241 y242 y243 y244 y245 y246 y247 y248 y249 y250 y251 y252 y253 y254 y255 y256 y257 y258 y259 y260 y261 y262 y263 y264 y265:Value) (w':World),(∃y':Aw,Hid (BX w5 base o Z.length eb (Bl 4 t0 [] y.E) y y' w'))->Q0 .normal ⟨(List.toArray (x0::x1::x2::x3::x4::(.slice (some ⟨cb,coff,none⟩) (nf+1) cap)::x6::x7::x8::(.slice (some ⟨nb,noff,none⟩) nf nc)::x10::x11::x12::x13::(.pointer (some ⟨eb,0,none⟩))::x15::x16::x17::x18::x19::x20::x21::x22::x23::x24::x25::x26::x27::x28::x29::x30::x31::x32::x33::x34::x35::x36::x37::x38::x39::x40::x41::x42::x43::x44::x45::x46::x47::x48::x49::x50::x51::x52::x53::x54::x55::x56::x57::x58::x59::x60::x61::x62::x63::x64::x65::x66::x67::x68::x69::x70::x71::x72::x73::x74::x75::x76::x77::x78::x79::x80::x81::x82::x83::x84::x85::x86::x87::x88::x89::x90::x91::x92::x93::x94::x95::x96::x97::x98::x99::x100::x101::x102::x103::x104::x105::x106::x107::x108::x109::x110::x111::x112::x113::x114::x115::x116::x117::x118::x119::x120::x121::x122::x123::x124::x125::x126::x127::x128::x129::x130::x131::x132::x133::x134::x135::x136::x137::x138::x139::x140::x141::x142::x143::x144::x145::x146::x147::x148::x149::x150::x151::x152::x153::x154::x155::x156::x157::x158::x159::x160::x161::x162::x163::x164::x165::x166::x167::x168::x169::x170::x171::x172::x173::x174::x175::x176::x177::x178::x179::x180::x181::x182::x183::x184::x185::x186::(.string w0)::y188::y189::y190::y191::y192::y193::y194::y195::y196::y197::y198::y199::y200::y201::y202::y203::y204::y205::y206::y207::y208::y209::y210::y211::y212::y213::y214::y215::y216::y217::y218::y219::y220::y221::y222::y223::y224::y225::y226::y227::y228::y229::y230::y231::y232::y233::y234::y235::y236::y237::y238::y239::y240::y241::y242::y243::y244::y245::y246::y247::y248::y249::y250::y251::y252::y253::y254::y255::y256::y257::y258::y259::y260::y261::y262::y263::y264::y265::x266::x267::x268::x269::x270::x271::x272::x273:: [])),[]⟩ w') (x188 x189 x190 x191 x192 x193 x194 x195 x196 x197 x198 x199 x200 x201 x202 x203 x204 x205 x206 x207 x208 x209 x210 x211 x212 x213 x214 x215 x216 x217 x218 x219 x220 x221 x222 x223 x224 x225 x226 x227 x228 x229 x230 x231 x232 x233 x234 x235 x236 x237 x238 x239 x240 x241 x242 x243 x244 x245 x246 x247 x248 x249 x250 x251 x252 x253 x254 x255 x256 x257 x258 x259 x260 x261 x262 x263 x264 x265:Value):
  Code.wp Tryz.prog (Ro 5) Q0 ⟨(List.toArray (x0::x1::x2::x3::x4::(.slice (some ⟨cb,coff,none⟩) (nf+1) cap)::x6::x7::x8::(.slice (some ⟨nb,noff,none⟩) nf nc)::x10::x11::x12::x13::(.pointer (some ⟨eb,0,none⟩))::x15::x16::x17::x18::x19::x20::x21::x22::x23::x24::x25::x26::x27::x28::x29::x30::x31::x32::x33::x34::x35::x36::x37::x38::x39::x40::x41::x42::x43::x44::x45::x46::x47::x48::x49::x50::x51::x52::x53::x54::x55::x56::x57::x58::x59::x60::x61::x62::x63::x64::x65::x66::x67::x68::x69::x70::x71::x72::x73::x74::x75::x76::x77::x78::x79::x80::x81::x82::x83::x84::x85::x86::x87::x88::x89::x90::x91::x92::x93::x94::x95::x96::x97::x98::x99::x100::x101::x102::x103::x104::x105::x106::x107::x108::x109::x110::x111::x112::x113::x114::x115::x116::x117::x118::x119::x120::x121::x122::x123::x124::x125::x126::x127::x128::x129::x130::x131::x132::x133::x134::x135::x136::x137::x138::x139::x140::x141::x142::x143::x144::x145::x146::x147::x148::x149::x150::x151::x152::x153::x154::x155::x156::x157::x158::x159::x160::x161::x162::x163::x164::x165::x166::x167::x168::x169::x170::x171::x172::x173::x174::x175::x176::x177::x178::x179::x180::x181::x182::x183::x184::x185::x186::(.string w0)::x188::x189::x190::x191::x192::x193::x194::x195::x196::x197::x198::x199::x200::x201::x202::x203::x204::x205::x206::x207::x208::x209::x210::x211::x212::x213::x214::x215::x216::x217::x218::x219::x220::x221::x222::x223::x224::x225::x226::x227::x228::x229::x230::x231::x232::x233::x234::x235::x236::x237::x238::x239::x240::x241::x242::x243::x244::x245::x246::x247::x248::x249::x250::x251::x252::x253::x254::x255::x256::x257::x258::x259::x260::x261::x262::x263::x264::x265::x266::x267::x268::x269::x270::x271::x272::x273:: [])),[]⟩ w6:=by
 have HEXIT:=Aia hexit
 clear hexit
 obtain⟨⟨pa',pc',hvp⟩,⟨ga',gc',hvg⟩,⟨ea',ec',hve⟩,⟨fa',fc',hvf⟩,⟨la',lc',hvl⟩⟩:=K7 HR5.out.last
 have hxe:=HXE.out
 rw[show(Aj y).toArray=#[.string y.E.name,.int .i64 y.E.tol,.slice pa' y.E.points.length pc',.int .i64 y.E.count,.int .i64 y.E.mn,.int .i64 y.E.mx,.slice ga' y.E.gaps.length gc',.slice ea' y.E.edges.length ec',.slice fa' y.E.first.length fc',.slice la' y.E.last.length lc'] from by
  show #[.string y.E.name,.int .i64 y.E.tol,y.p,.int .i64 y.E.count,.int .i64 y.E.mn,.int .i64 y.E.mx,y.g,y.e,y.f,y.l]=_
  rw[hvp,hvg,hve,hvf,hvl]]at hxe
 have HVS:=Aia (And.intro hvp (And.intro hvg (And.intro hve (And.intro hvf hvl))))
 obtain⟨z0,z1,z2,z3,z4,z5,z6,z7,z8,z9,zf⟩:=Bs hxe
 have hel:=Aa hxe
 have hbs:=HBE.out.size
 have heb:=HEB.out
 have hce:¬cb=eb:=by omega
 have hec:¬eb=cb:=by omega
 have hne:¬nb=eb:=by omega
 have hen:¬eb=nb:=by omega
 have hcmp:=Nb hkw (by decide)
 obtain⟨e0,e1,e2,e3,e4,e5,e6,e7,e8,e9⟩:_=false/\_=false/\_=false/\_=false/\_=true/\_=false/\_=false/\_=false/\_=false/\_=false:=id hcmp
 clear hcmp hkw hvp hvg hve hvf hvl hxe hbs heb
 have hnfw:1<nf+1:=by omega
 have hnfw2:(1:Int)<(nf:Int)+1:=by omega
 conv=>arg 2;whnf
 obtain⟨i0,hi0,hz0,hz1,hz2⟩:=info_parts infoStr
 obtain⟨hpo,hpt⟩:=HR5.out.last 0 (by decide)
 have hvj:=HVS.out.1
 have HOW:Hid (∀W,Below w6.heap.size w6 W->As W base 9 1 (.slice pa' y.E.points.length pc') y.E.points.length (Ad y.E.points)/\base<=W.heap.size):=(show _ from fun W hW=>⟨by rw[<-hvj];exact(hpo.later HBE.out).later hW,Nat.le_trans HR5.out.top (Nat.le_trans HBE.out.size hW.size)⟩)
 have HN5:Hid (y.E.points.length<=100000):=hn5.1
 have HA:Hid (∀(W1 W2:World) (ao:Option Addr) (cp:Nat),Below w6.heap.size w6 W1->As W2 base 9 1 (.slice ao (y.E.points.length+1) cp) (y.E.points.length+1) (Ad y.E.points++ [.string t0])->W1.grownBy W2 (Value.slice pa' y.E.points.length pc').ownBlock->((Value.slice ao (y.E.points.length+1) cp).ownBlock=(Value.slice pa' y.E.points.length pc').ownBlock\/∀b,(Value.slice ao (y.E.points.length+1) cp).ownBlock=some b->W1.heap.size<=b)->
   Hid (BX w5 base o Z.length eb (Bl 4 t0 [] y.E) y ⟨Bl 4 t0 [] y.E,.slice ao (y.E.points.length+1) cp,y.g,y.e,y.f,y.l⟩ (W2.setCell ⟨eb,2,none⟩ (.slice ao (y.E.points.length+1) cp)))/\W2.cell? ⟨eb,2,none⟩=some (.slice pa' y.E.points.length pc')/\W2.frozen? ⟨eb,2,none⟩=false/\(W2.cell? ⟨cb,coff,none⟩=some (.string w0)/\W2.cell? ⟨cb,coff+1,none⟩=some (.string t0)/\W2.cell? ⟨nb,noff,none⟩=some (.int .i64 pa))):=(show _ from by
  intro W1 W2 ao cp b1 ho hg hnn
  have hsb:=HBE.out.size
  rw[<-hvj]at hg hnn ⊢
  obtain⟨x1,x2,x3,x4⟩:=BX.app (y':=⟨Bl 4 t0 [] y.E,.slice ao (y.E.points.length+1) cp,y.g,y.e,y.f,y.l⟩) (E':=Bl 4 t0 [] y.E) HR5.out (HBE.out.trans (b1.mono hsb)) HEB.out (Af b1 HXE.out (Aa HXE.out)) 0 (by decide) ho hg hnn rfl rfl rfl
   (fun i hi hne=>by
    match i,hi with
    |0,_=>exact absurd rfl hne
    |1,_=>exact⟨rfl,rfl,rfl⟩
    |2,_=>exact⟨rfl,rfl,rfl⟩
    |3,_=>exact⟨rfl,rfl,rfl⟩
    |4,_=>exact⟨rfl,rfl,rfl⟩
    )
   ⟨rfl,by show(y.E.points++ [t0]).length=_;simp,by show Ad (y.E.points++ [t0])=_;simp[Ad]⟩
  refine⟨x1,x2,x3,?_,?_,?_⟩
  ·rw[x4 cb coff hcb5 hocb,<-HBE.out.cell (p:=⟨cb,coff,none⟩) hcb5];exact u0
  ·rw[x4 cb (coff+1) hcb5 hocb,<-HBE.out.cell (p:=⟨cb,coff+1,none⟩) hcb5];exact u1
  ·rw[x4 nb (noff) hnb2 honb,<-HBE.out.cell (p:=⟨nb,noff,none⟩) hnb2];exact m0)
 obtain⟨np,hnp⟩:∃np,np=y.E.points.length:=⟨_,rfl⟩
 rw[<-hnp]at HOW HA HN5 z2
 have hnp5:=HN5.out
 clear hnp hpo hpt hvj hn5
 go_upto_region 65 with fail
 refine wp_region_noPanic ?_
 go_region_law (refine Bq rfl (.tmp 191) (.tmp 195) 22 rfl base 9 i0 _ 1 16 underlying22 hi0 hz0 hz1 hz2 rfl (by decide) (.slice pa' np pc') np (Ad y.E.points) rfl ?_ ⟨w6.heap.size,0,none⟩ 1 1 [.string t0] rfl rfl ?_ (by intro u hu;simp at hu;subst hu;rfl) (by unfold maxLen;omega) (by omega) ?_ ?_;exact(HOW.out _ (by repeat(first|exact Below.refl _ _|refine Below.drew ?_|refine Below.alloc ?_ (by simp) _))).1;exact Av _ [.string t0] _;exact(HOW.out _ (by repeat(first|exact Below.refl _ _|refine Below.drew ?_|refine Below.alloc ?_ (by simp) _))).2;intro a1 k1 w7 ho6 hg6 hn6;have hfin:=HA.out _ w7 _ _ (by repeat(first|exact Below.refl _ _|refine Below.drew ?_|refine Below.alloc ?_ (by simp) _)) ho6 hg6 hn6;obtain⟨F1,d4,df,dc⟩:=hfin;clear ho6 hg6 hn6)
 all_goals
  refine NoPanic.normal ?_
  go_wp2_with fail
  first
   |exact HEXIT.out _ _ _ _ _ _ _ _ _ _ _ _ _ _ _ _ _ _ _ _ _ _ _ _ _ _ _ _ _ _ _ _ _ _ _ _ _ _ _ _ _ _ _ _ _ _ _ _ _ _ _ _ _ _ _ _ _ _ _ _ _ _ _ _ _ _ _ _ _ _ _ _ _ _ _ _ _ _ _ ⟨_,F1⟩
   |exact HEXIT.out _ _ _ _ _ _ _ _ _ _ _ _ _ _ _ _ _ _ _ _ _ _ _ _ _ _ _ _ _ _ _ _ _ _ _ _ _ _ _ _ _ _ _ _ _ _ _ _ _ _ _ _ _ _ _ _ _ _ _ _ _ _ _ _ _ _ _ _ _ _ _ _ _ _ _ _ _ _ _ ⟨_,P3 F1⟩
theorem Ahp(w5 w6:World)(base rb:Nat)(o:Nat->Option Nat)(C:Al)(w0 t0:ByteArray)(v:Value)(Z:List Aw)(y:Aw)(eb cb coff nf cap nb noff nc:Nat)(pa:Int)(hkw:w0=kwB 8)(HR5:Hid (D0 base rb o C w0 v (Z++ [y]) w5))(HBE:Hid (Below w5.heap.size w5 w6))(HEB:Hid (w5.heap.size<=eb))(HXE:Hid (w6.heap[eb]? =some (.cells (Aj y).toArray 50)))
  (hn5:y.E.points.length<=100000/\y.E.gaps.length<=100000/\y.E.edges.length<=100000/\y.E.first.length<=100000/\y.E.last.length<=100000) (u0:w6.cell? ⟨cb,coff,none⟩=some (.string w0)) (u1:w6.cell? ⟨cb,coff+1,none⟩=some (.string t0)) (m0:w6.cell? ⟨nb,noff,none⟩=some (.int .i64 pa)) (hcb5:cb<w5.heap.size) (hocb:o cb=none) (hnb2:nb<w5.heap.size) (honb:o nb=none) (hcap:((nf+1:Nat):Int)<=(cap:Int)) (hncap:(nf:Int)<=(nc:Int)) (hnfn0:0<nf) (hnfk0:(0:Int)<(nf:Int)) (hnf1:1<=nf)
  (x0 x1 x2 x3 x4 x6 x7 x8 x10 x11 x12 x13 x15 x16 x17 x18 x19 x20 x21 x22 x23 x24 x25 x26 x27 x28 x29 x30 x31 x32 x33 x34 x35 x36 x37 x38 x39 x40 x41 x42 x43 x44 x45 x46 x47 x48 x49 x50 x51 x52 x53 x54 x55 x56 x57 x58 x59 x60 x61 x62 x63 x64 x65 x66 x67 x68 x69 x70 x71 x72 x73 x74 x75 x76 x77 x78 x79 x80 x81 x82 x83 x84 x85 x86 x87 x88 x89 x90 x91 x92 x93 x94 x95 x96 x97 x98 x99 x100 x101 x102 x103 x104 x105 x106 x107 x108 x109 x110 x111 x112 x113 x114 x115 x116 x117 x118 x119 x120 x121 x122 x123 x124 x125 x126 x127 x128 x129 x130 x131 x132 x133 x134 x135 x136 x137 x138 x139 x140 x141 x142 x143 x144 x145 x146 x147 x148 x149 x150 x151 x152 x153 x154 x155 x156 x157 x158 x159 x160 x161 x162 x163 x164 x165 x166 x167 x168 x169 x170 x171 x172 x173 x174 x175 x176 x177 x178 x179 x180 x181 x182 x183 x184 x185 x186 x266 x267 x268 x269 x270 x271 x272 x273:Value) (Q0:Exit->Act->World->Prop) (hexit:∀(y188 y189 y190 y191 y192 y193 y194 y195 y196 y197 y198 y199 y200 y201 y202 y203 y204 y205 y206 y207 y208 y209 y210 y211 y212 y213 y214 y215 y216 y217 y218 y219 y220 y221 y222 y223 y224 y225 y226 y227 y228 y229 y230 y231 y232 y233 y234 y235 y236 y237 y238 y239 y240 y241 y242 y243 y244 y245 y246 y247 y248 y249 y250 y251 y252 y253 y254 y255 y256 y257 y258 y259 y260 y261 y262 y263 y264 y265:Value) (w':World),(∃y':Aw,Hid (BX w5 base o Z.length eb (Bl 8 t0 [pa] y.E) y y' w'))->Q0 .normal ⟨(List.toArray (x0::x1::x2::x3::x4::(.slice (some ⟨cb,coff,none⟩) (nf+1) cap)::x6::x7::x8::(.slice (some ⟨nb,noff,none⟩) nf nc)::x10::x11::x12::x13::(.pointer (some ⟨eb,0,none⟩))::x15::x16::x17::x18::x19::x20::x21::x22::x23::x24::x25::x26::x27::x28::x29::x30::x31::x32::x33::x34::x35::x36::x37::x38::x39::x40::x41::x42::x43::x44::x45::x46::x47::x48::x49::x50::x51::x52::x53::x54::x55::x56::x57::x58::x59::x60::x61::x62::x63::x64::x65::x66::x67::x68::x69::x70::x71::x72::x73::x74::x75::x76::x77::x78::x79::x80::x81::x82::x83::x84::x85::x86::x87::x88::x89::x90::x91::x92::x93::x94::x95::x96::x97::x98::x99::x100::x101::x102::x103::x104::x105::x106::x107::x108::x109::x110::x111::x112::x113::x114::x115::x116::x117::x118::x119::x120::x121::x122::x123::x124::x125::x126::x127::x128::x129::x130::x131::x132::x133::x134::x135::x136::x137::x138::x139::x140::x141::x142::x143::x144::x145::x146::x147::x148::x149::x150::x151::x152::x153::x154::x155::x156::x157::x158::x159::x160::x161::x162::x163::x164::x165::x166::x167::x168::x169::x170::x171::x172::x173::x174::x175::x176::x177::x178::x179::x180::x181::x182::x183::x184::x185::x186::(.string w0)::y188::y189::y190::y191::y192::y193::y194::y195::y196::y197::y198::y199::y200::y201::y202::y203::y204::y205::y206::y207::y208::y209::y210::y211::y212::y213::y214::y215::y216::y217::y218::y219::y220::y221::y222::y223::y224::y225::y226::y227::y228::y229::y230::y231::y232::y233::y234::y235::y236::y237::y238::y239::y240::y241::y242::y243::y244::y245::y246::y247::y248::y249::y250::y251::y252::y253::y254::y255::y256::y257::y258::y259::y260::y261::y262::y263::y264::y265::x266::x267::x268::x269::x270::x271::x272::x273:: [])),[]⟩ w') (x188 x189 x190 x191 x192 x193 x194 x195 x196 x197 x198 x199 x200 x201 x202 x203 x204 x205 x206 x207 x208 x209 x210 x211 x212 x213 x214 x215 x216 x217 x218 x219 x220 x221 x222 x223 x224 x225 x226 x227 x228 x229 x230 x231 x232 x233 x234 x235 x236 x237 x238 x239 x240 x241 x242 x243 x244 x245 x246 x247 x248 x249 x250 x251 x252 x253 x254 x255 x256 x257 x258 x259 x260 x261 x262 x263 x264 x265:Value):
  Code.wp Tryz.prog (Ro 5) Q0 ⟨(List.toArray (x0::x1::x2::x3::x4::(.slice (some ⟨cb,coff,none⟩) (nf+1) cap)::x6::x7::x8::(.slice (some ⟨nb,noff,none⟩) nf nc)::x10::x11::x12::x13::(.pointer (some ⟨eb,0,none⟩))::x15::x16::x17::x18::x19::x20::x21::x22::x23::x24::x25::x26::x27::x28::x29::x30::x31::x32::x33::x34::x35::x36::x37::x38::x39::x40::x41::x42::x43::x44::x45::x46::x47::x48::x49::x50::x51::x52::x53::x54::x55::x56::x57::x58::x59::x60::x61::x62::x63::x64::x65::x66::x67::x68::x69::x70::x71::x72::x73::x74::x75::x76::x77::x78::x79::x80::x81::x82::x83::x84::x85::x86::x87::x88::x89::x90::x91::x92::x93::x94::x95::x96::x97::x98::x99::x100::x101::x102::x103::x104::x105::x106::x107::x108::x109::x110::x111::x112::x113::x114::x115::x116::x117::x118::x119::x120::x121::x122::x123::x124::x125::x126::x127::x128::x129::x130::x131::x132::x133::x134::x135::x136::x137::x138::x139::x140::x141::x142::x143::x144::x145::x146::x147::x148::x149::x150::x151::x152::x153::x154::x155::x156::x157::x158::x159::x160::x161::x162::x163::x164::x165::x166::x167::x168::x169::x170::x171::x172::x173::x174::x175::x176::x177::x178::x179::x180::x181::x182::x183::x184::x185::x186::(.string w0)::x188::x189::x190::x191::x192::x193::x194::x195::x196::x197::x198::x199::x200::x201::x202::x203::x204::x205::x206::x207::x208::x209::x210::x211::x212::x213::x214::x215::x216::x217::x218::x219::x220::x221::x222::x223::x224::x225::x226::x227::x228::x229::x230::x231::x232::x233::x234::x235::x236::x237::x238::x239::x240::x241::x242::x243::x244::x245::x246::x247::x248::x249::x250::x251::x252::x253::x254::x255::x256::x257::x258::x259::x260::x261::x262::x263::x264::x265::x266::x267::x268::x269::x270::x271::x272::x273:: [])),[]⟩ w6:=by
 have HEXIT:=Aia hexit
 clear hexit
 obtain⟨⟨pa',pc',hvp⟩,⟨ga',gc',hvg⟩,⟨ea',ec',hve⟩,⟨fa',fc',hvf⟩,⟨la',lc',hvl⟩⟩:=K7 HR5.out.last
 have hxe:=HXE.out
 rw[show(Aj y).toArray=#[.string y.E.name,.int .i64 y.E.tol,.slice pa' y.E.points.length pc',.int .i64 y.E.count,.int .i64 y.E.mn,.int .i64 y.E.mx,.slice ga' y.E.gaps.length gc',.slice ea' y.E.edges.length ec',.slice fa' y.E.first.length fc',.slice la' y.E.last.length lc'] from by
  show #[.string y.E.name,.int .i64 y.E.tol,y.p,.int .i64 y.E.count,.int .i64 y.E.mn,.int .i64 y.E.mx,y.g,y.e,y.f,y.l]=_
  rw[hvp,hvg,hve,hvf,hvl]]at hxe
 have HVS:=Aia (And.intro hvp (And.intro hvg (And.intro hve (And.intro hvf hvl))))
 obtain⟨z0,z1,z2,z3,z4,z5,z6,z7,z8,z9,zf⟩:=Bs hxe
 have hel:=Aa hxe
 have hbs:=HBE.out.size
 have heb:=HEB.out
 have hce:¬cb=eb:=by omega
 have hec:¬eb=cb:=by omega
 have hne:¬nb=eb:=by omega
 have hen:¬eb=nb:=by omega
 have hcmp:=Nb hkw (by decide)
 obtain⟨e0,e1,e2,e3,e4,e5,e6,e7,e8,e9⟩:_=false/\_=false/\_=false/\_=false/\_=false/\_=false/\_=false/\_=false/\_=true/\_=false:=id hcmp
 clear hcmp hkw hvp hvg hve hvf hvl hxe hbs heb
 have hnfw:1<nf+1:=by omega
 have hnfw2:(1:Int)<(nf:Int)+1:=by omega
 conv=>arg 2;whnf
 obtain⟨i0,hi0,hz0,hz1,hz2⟩:=info_parts infoInt
 obtain⟨hpo,hpt⟩:=HR5.out.last 3 (by decide)
 have hvj:=HVS.out.2.2.2.1
 have HOW:Hid (∀W,Below w6.heap.size w6 W->As W base 3 1 (.slice fa' y.E.first.length fc') y.E.first.length (Ac y.E.first)/\base<=W.heap.size):=(show _ from fun W hW=>⟨by rw[<-hvj];exact(hpo.later HBE.out).later hW,Nat.le_trans HR5.out.top (Nat.le_trans HBE.out.size hW.size)⟩)
 have HN5:Hid (y.E.first.length<=100000):=hn5.2.2.2.1
 have HA:Hid (∀(W1 W2:World) (ao:Option Addr) (cp:Nat),Below w6.heap.size w6 W1->As W2 base 3 1 (.slice ao (y.E.first.length+1) cp) (y.E.first.length+1) (Ac y.E.first++ [.int .i64 pa])->W1.grownBy W2 (Value.slice fa' y.E.first.length fc').ownBlock->((Value.slice ao (y.E.first.length+1) cp).ownBlock=(Value.slice fa' y.E.first.length fc').ownBlock\/∀b,(Value.slice ao (y.E.first.length+1) cp).ownBlock=some b->W1.heap.size<=b)->
   Hid (BX w5 base o Z.length eb (Bl 8 t0 [pa] y.E) y ⟨Bl 8 t0 [pa] y.E,y.p,y.g,y.e,.slice ao (y.E.first.length+1) cp,y.l⟩ (W2.setCell ⟨eb,8,none⟩ (.slice ao (y.E.first.length+1) cp)))/\W2.cell? ⟨eb,8,none⟩=some (.slice fa' y.E.first.length fc')/\W2.frozen? ⟨eb,8,none⟩=false/\(W2.cell? ⟨cb,coff,none⟩=some (.string w0)/\W2.cell? ⟨cb,coff+1,none⟩=some (.string t0)/\W2.cell? ⟨nb,noff,none⟩=some (.int .i64 pa))):=(show _ from by
  intro W1 W2 ao cp b1 ho hg hnn
  have hsb:=HBE.out.size
  rw[<-hvj]at hg hnn ⊢
  obtain⟨x1,x2,x3,x4⟩:=BX.app (y':=⟨Bl 8 t0 [pa] y.E,y.p,y.g,y.e,.slice ao (y.E.first.length+1) cp,y.l⟩) (E':=Bl 8 t0 [pa] y.E) HR5.out (HBE.out.trans (b1.mono hsb)) HEB.out (Af b1 HXE.out (Aa HXE.out)) 3 (by decide) ho hg hnn rfl rfl rfl
   (fun i hi hne=>by
    match i,hi with
    |0,_=>exact⟨rfl,rfl,rfl⟩
    |1,_=>exact⟨rfl,rfl,rfl⟩
    |2,_=>exact⟨rfl,rfl,rfl⟩
    |3,_=>exact absurd rfl hne
    |4,_=>exact⟨rfl,rfl,rfl⟩
    )
   ⟨rfl,by show(y.E.first++ [pa]).length=_;simp,by show Ac (y.E.first++ [pa])=_;simp[Ac]⟩
  refine⟨x1,x2,x3,?_,?_,?_⟩
  ·rw[x4 cb coff hcb5 hocb,<-HBE.out.cell (p:=⟨cb,coff,none⟩) hcb5];exact u0
  ·rw[x4 cb (coff+1) hcb5 hocb,<-HBE.out.cell (p:=⟨cb,coff+1,none⟩) hcb5];exact u1
  ·rw[x4 nb (noff) hnb2 honb,<-HBE.out.cell (p:=⟨nb,noff,none⟩) hnb2];exact m0)
 obtain⟨np,hnp⟩:∃np,np=y.E.first.length:=⟨_,rfl⟩
 rw[<-hnp]at HOW HA HN5 z8
 have hnp5:=HN5.out
 clear hnp hpo hpt hvj hn5
 go_upto_region 75 with fail
 refine wp_region_noPanic ?_
 go_region_law (refine Bq rfl (.tmp 249) (.tmp 253) 48 rfl base 3 i0 _ 1 8 underlying48 hi0 hz0 hz1 hz2 rfl (by decide) (.slice fa' np fc') np (Ac y.E.first) rfl ?_ ⟨w6.heap.size,0,none⟩ 1 1 [.int .i64 pa] rfl rfl ?_ (by intro u hu;simp at hu;subst hu;rfl) (by unfold maxLen;omega) (by omega) ?_ ?_;exact(HOW.out _ (by repeat(first|exact Below.refl _ _|refine Below.drew ?_|refine Below.alloc ?_ (by simp) _))).1;exact Av _ [.int .i64 pa] _;exact(HOW.out _ (by repeat(first|exact Below.refl _ _|refine Below.drew ?_|refine Below.alloc ?_ (by simp) _))).2;intro a1 k1 w7 ho6 hg6 hn6;have hfin:=HA.out _ w7 _ _ (by repeat(first|exact Below.refl _ _|refine Below.drew ?_|refine Below.alloc ?_ (by simp) _)) ho6 hg6 hn6;obtain⟨F1,d4,df,dc⟩:=hfin;clear ho6 hg6 hn6)
 all_goals
  refine NoPanic.normal ?_
  go_wp2_with fail
  first
   |exact HEXIT.out _ _ _ _ _ _ _ _ _ _ _ _ _ _ _ _ _ _ _ _ _ _ _ _ _ _ _ _ _ _ _ _ _ _ _ _ _ _ _ _ _ _ _ _ _ _ _ _ _ _ _ _ _ _ _ _ _ _ _ _ _ _ _ _ _ _ _ _ _ _ _ _ _ _ _ _ _ _ _ ⟨_,F1⟩
   |exact HEXIT.out _ _ _ _ _ _ _ _ _ _ _ _ _ _ _ _ _ _ _ _ _ _ _ _ _ _ _ _ _ _ _ _ _ _ _ _ _ _ _ _ _ _ _ _ _ _ _ _ _ _ _ _ _ _ _ _ _ _ _ _ _ _ _ _ _ _ _ _ _ _ _ _ _ _ _ _ _ _ _ ⟨_,P3 F1⟩
end Go.Proofs.YtikehilbmldadaaGreatDoor
