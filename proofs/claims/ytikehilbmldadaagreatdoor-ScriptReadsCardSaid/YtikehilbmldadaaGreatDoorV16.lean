import Derived.Test.YtikehilbmldadaaGreatDoorV14
import Derived.Test.YtikehilbmldadaaGreatDoorV12
import Derived.Laws.IdiomStrings
set_option maxHeartbeats 4000000
set_option maxRecDepth 100000
set_option linter.unusedVariables false
open Go.Proofs.Tryz Go.Proofs.YtikehilbmldadaaGreatDoor.Tryz
namespace Go.Proofs.YtikehilbmldadaaGreatDoor
open Go.RowKit
def M9:Code->List Code
 |.loop c=>[c]
 |.seq a b=>M9 a++M9 b
 |.block _ c=>M9 c
 |.scope c=>M9 c
 |.cond _ a b=>M9 a++M9 b
 |_=>[]
noncomputable def wH (n:Nat):Code:=((f46.body.map M9).getD []).getD n .skip
structure Aw where
 E:Ap
 p:Value
 g:Value
 e:Value
 f:Value
 l:Value
def Aj(x:Aw):List Value:=(A7 x.E x.p x.g x.e x.f x.l).toList
structure La (R:Nat->Prop) (w:World) (v:Value) (X:List Aw):Prop where
 row:Ay R w v 10 (X.flatMap Aj) X.length
 each:∀x∈X,Ih R w x.E x.p x.g x.e x.f x.l
theorem La.keep{R S:Nat->Prop}{w w':World}{v:Value}{X:List Aw}(h:La R w v X)(k:Ae S w w')(hd:∀b,R b->¬S b):La R w' v X:=
 ⟨h.row.keep k hd,fun x hx=>(h.each x hx).keep k hd⟩
def ptE(P:List ByteArray)(k:Nat):Nat:=if Bk (P.getD k ByteArray.empty)=false then 4 else if C9 P (P.getD k ByteArray.empty)<k then 6 else 0
def Ij(P:List ByteArray):Nat:=((List.range P.length).find? (fun k=>ptE P k != 0)).elim 0 (ptE P)
theorem Mg{P:List ByteArray}{k:Nat}(hk:k<P.length)(h:ptE P k≠0)(hb:∀j,j<k->ptE P j=0):Ij P=ptE P k:=by
 have:(List.range P.length).find? (fun k=>ptE P k != 0)=some k:=by
  rw[List.find?_range_eq_some]
  exact⟨by simpa using h,List.mem_range.2 hk,fun j hj=>by simpa using hb j hj⟩
 unfold Ij
 rw[this];rfl
theorem Xt{P:List ByteArray}(h:∀j,j<P.length->ptE P j=0):Ij P=0:=by
 have:(List.range P.length).find? (fun k=>ptE P k != 0)=none:=by
  rw[List.find?_range_eq_none]
  intro j hj
  simpa using h j hj
 unfold Ij
 rw[this];rfl
theorem Ux{P:List ByteArray}{k:Nat}(hk:k<P.length):ptE P k=if Bk P[k]=false then 4 else if C9 P P[k]<k then 6 else 0:=by
 unfold ptE
 rw[List.getD_eq_getElem?_getD,List.getElem?_eq_getElem hk];rfl
def Bu(g:Lb):Bool:=decide (g.mn<0\/g.mx<g.mn\/1099511627776<g.mx)
def Ea(l:List (Int × Int)):Bool:=(List.range l.length).any (fun i=>decide (l.getD i (0,0)∈l.take i))
theorem O6{l:List (Int × Int)}(i:Nat)(hi:i<l.length)(h:l[i]∈l.take i):Ea l=true:=by
 unfold Ea
 rw[List.any_eq_true]
 exact⟨i,List.mem_range.2 hi,by rw[List.getD_eq_getElem?_getD,List.getElem?_eq_getElem hi];exact decide_eq_true h⟩
theorem N2{l:List (Int × Int)}(h:∀i (hi:i<l.length),l[i]∉l.take i):Ea l=false:=by
 unfold Ea
 rw[List.any_eq_false]
 intro i hi
 have hi:=List.mem_range.1 hi
 rw[List.getD_eq_getElem?_getD,List.getElem?_eq_getElem hi]
 simpa using h i hi
theorem pB{α:Type}{l:List α}{j k:Nat}(hj:j<k)(hk:k<l.length)(x:α)(h:l[j]'(by omega)=x):x∈l.take k:=by
 rw[<-h]
 exact List.mem_iff_getElem.2 ⟨j,by simp;omega,by simp⟩
theorem Zj{α:Type}{l:List α}{k:Nat}(hk:k<l.length)(x:α)(h:∀j (hj:j<k),l[j]'(by omega)≠x):x∉l.take k:=by
 intro hm
 obtain⟨j,hj,e⟩:=List.mem_iff_getElem.1 hm
 have hj2:j<k:=by have:=hj;simp at this;omega
 exact h j hj2 (by simpa using e)
def Zd(P:Program)(t:TypeId):Prop:=∀(w:World) (a b c d:Int),(Op.equalIn 10000 t (.agg #[.int .i64 a,.int .i64 b]) (.agg #[.int .i64 c,.int .i64 d])).run P w=.ok (decide ((a,b)=(c,d))) w
theorem Wu{P:Program}{t e:TypeId}(ut:P.underlying t=some (.array 2 e))(ue:P.underlying e=some (.int .i64))(us:∃i,P.info? e=some i/\i.size=1)(w:World)(p q:Int × Int):
  (Op.equalIn 10000 t (.agg #[.int .i64 p.1,.int .i64 p.2]) (.agg #[.int .i64 q.1,.int .i64 q.2])).run P w=.ok (decide (p=q)) w:=by
 obtain⟨i,hi,hs⟩:=us
 have key:∀d,(Op.equalIn (d+2) t (.agg #[.int .i64 p.1,.int .i64 p.2]) (.agg #[.int .i64 q.1,.int .i64 q.2])).run P w=.ok (decide (p=q)) w:=by
  intro d
  rw[Op.equalIn]
  have p0:=fun(a b:Int) (w:World)=>G6 (P:=P) w ue #[.int .i64 a,.int .i64 b] 0 _ rfl
  have p1:=fun(a b:Int) (w:World)=>G6 (P:=P) w ue #[.int .i64 a,.int .i64 b] 1 _ rfl
  have e1:=fun(a b:Int) (w:World)=>run_equalIn_int (P:=P) w d e .i64 .i64 a b ue
  simp[run_underlying ut,sizeOf,typeInfo,hi,hs,Std.Legacy.Range.forIn_eq_forIn_range',Std.Legacy.Range.size,List.range',p0,p1,e1]
  by_cases h1:p.1=q.1
  ·by_cases h2:p.2=q.2
   ·rw[if_pos h1,if_pos h2,decide_eq_true (Prod.ext h1 h2)]
   ·rw[if_pos h1,if_neg h2,decide_eq_false (fun h=>h2 (by rw[h]))]
  ·rw[if_neg h1,decide_eq_false (fun h=>h1 (by rw[h]))]
 exact key 9998
theorem Tryz.pairEqE:Zd Tryz.prog 127:=fun w a b c d=>Wu underlying127 underlying3 (by
 obtain⟨i0,hi0,hz0,hz1,hz2⟩:=info_parts infoInt
 exact⟨i0,hi0,hz1⟩) w (a,b) (c,d)
theorem Ahd(R:Nat->Prop)(E:Ap)(vp vg ve vf vl:Value)(eb:Nat)(v0 v1:Value)(w wr0:World)(hE:Fx E)(he0:Hid (EB w R E vp vg ve vf vl eb wr0))(Q0:Exit->Act->World->Prop)
  (hret:∀(y0 y1 y2 y3 y5 y6 y7 y8 y9 y10 y11 y12 y13 y14 y15 y16 y17 y18 y19 y20 y21 y22 y23 y24 y25 y26 y27 y28 y29 y30 y31 y32 y33 y34 y35 y36 y37 y38 y39 y40 y41 y42 y43 y44 y45 y46 y47 y48 y49 y50 y51 y52 y53 y54 y55 y56 y57 y58 y59 y60 y61 y62 y63 y64 y65 y66 y67 y68 y69 y70 y71 y72 y73 y74 y75 y76 y77 y78 y79 y80 y81 y82 y83 y84 y85 y86 y87 y88 y89 y90 y91 y92 y93 y94 y95 y96 y97 y98 y99 y100 y101 y102 y103 y104 y105 y106 y107 y108 y109 y110 y111 y112 y113 y114 y115 y116 y117 y118 y119 y120 y121 y122 y123 y124 y125 y126 y127 y128 y129 y130 y131 y132 y133 y134 y135 y136 y137 y138 y139 y140 y141 y142 y143 y144 y145 y146 y147 y148 y149 y150 y151 y152 y153 y154 y155 y156 y157 y158 y159 y160 y161 y162 y163 y164 y165 y166 y167 y168 y169 y170 y171 y172 y173 y174 y175 y176 y177 y178 y179 y180 y181 y182 y183 y184 y185 y186 y187 y188 y189 y190 y191 y192 y193 y194 y195 y196 y197 y198 y199 y200 y201 y202 y203 y204 y205 y206 y207 y208 y209 y210 y211 y212 y213 y214 y215 y216 y217 y218 y219 y220 y221:Value) (w':World),Ij E.points≠0->Below w.heap.size w w'->Q0 .ret ⟨(List.toArray (y0::y1::y2::y3::(.int .i64 (Ij E.points:Nat))::y5::y6::y7::y8::y9::y10::y11::y12::y13::y14::y15::y16::y17::y18::y19::y20::y21::y22::y23::y24::y25::y26::y27::y28::y29::y30::y31::y32::y33::y34::y35::y36::y37::y38::y39::y40::y41::y42::y43::y44::y45::y46::y47::y48::y49::y50::y51::y52::y53::y54::y55::y56::y57::y58::y59::y60::y61::y62::y63::y64::y65::y66::y67::y68::y69::y70::y71::y72::y73::y74::y75::y76::y77::y78::y79::y80::y81::y82::y83::y84::y85::y86::y87::y88::y89::y90::y91::y92::y93::y94::y95::y96::y97::y98::y99::y100::y101::y102::y103::y104::y105::y106::y107::y108::y109::y110::y111::y112::y113::y114::y115::y116::y117::y118::y119::y120::y121::y122::y123::y124::y125::y126::y127::y128::y129::y130::y131::y132::y133::y134::y135::y136::y137::y138::y139::y140::y141::y142::y143::y144::y145::y146::y147::y148::y149::y150::y151::y152::y153::y154::y155::y156::y157::y158::y159::y160::y161::y162::y163::y164::y165::y166::y167::y168::y169::y170::y171::y172::y173::y174::y175::y176::y177::y178::y179::y180::y181::y182::y183::y184::y185::y186::y187::y188::y189::y190::y191::y192::y193::y194::y195::y196::y197::y198::y199::y200::y201::y202::y203::y204::y205::y206::y207::y208::y209::y210::y211::y212::y213::y214::y215::y216::y217::y218::y219::y220::y221:: [])),[]⟩ w')
  (hexit:∀(y2 y3 y6 y7 y8 y9 y10 y11 y12 y13 y14 y15 y16 y17 y18 y19 y20 y21 y22 y23 y24 y25 y26 y27 y28 y29 y30 y31 y32 y33 y34 y35 y36 y37 y38 y39 y40 y41 y42 y43 y44 y45 y46 y47 y48 y49 y50 y51 y52 y53 y54 y55 y56 y57 y58 y59 y60 y61 y62 y63 y64 y65 y66 y67 y68 y69 y70 y71 y72 y73 y74 y75 y76 y77 y78 y79 y80 y81 y82 y83 y84 y85 y86 y87 y88 y89 y90 y91 y92 y93 y94 y95 y96 y97 y98 y99 y100 y101 y102 y103 y104 y105 y106 y107 y108 y109 y110 y111 y112 y113 y114 y115 y116 y117 y118 y119 y120 y121 y122 y123 y124 y125 y126 y127 y128 y129 y130 y131 y132 y133 y134 y135 y136 y137 y138 y139 y140 y141 y142 y143 y144 y145 y146 y147 y148 y149 y150 y151 y152 y153 y154 y155 y156 y157 y158 y159 y160 y161 y162 y163 y164 y165 y166 y167 y168 y169 y170 y171 y172 y173 y174 y175 y176 y177 y178 y179 y180 y181 y182 y183 y184 y185 y186 y187 y188 y189 y190 y191 y192 y193 y194 y195 y196 y197 y198 y199 y200 y201 y202 y203 y204 y205 y206 y207 y208 y209 y210 y211 y212 y213 y214 y215 y216 y217 y218 y219 y220 y221:Value) (w':World),Ij E.points=0->EB w R E vp vg ve vf vl eb w'->Q0 (.exit 2) ⟨(List.toArray ((v0)::(v1)::y2::y3::(.int .i64 0)::(.pointer (some ⟨eb,0,none⟩))::y6::y7::y8::y9::y10::y11::y12::y13::y14::y15::y16::y17::y18::y19::y20::y21::y22::y23::y24::y25::y26::y27::y28::y29::y30::y31::y32::y33::y34::y35::y36::y37::y38::y39::y40::y41::y42::y43::y44::y45::y46::y47::y48::y49::y50::y51::y52::y53::y54::y55::y56::y57::y58::y59::y60::y61::y62::y63::y64::y65::y66::y67::y68::y69::y70::y71::y72::y73::y74::y75::y76::y77::y78::y79::y80::y81::y82::y83::y84::y85::y86::y87::y88::y89::y90::y91::y92::y93::y94::y95::y96::y97::y98::y99::y100::y101::y102::y103::y104::y105::y106::y107::y108::y109::y110::y111::y112::y113::y114::y115::y116::y117::y118::y119::y120::y121::y122::y123::y124::y125::y126::y127::y128::y129::y130::y131::y132::y133::y134::y135::y136::y137::y138::y139::y140::y141::y142::y143::y144::y145::y146::y147::y148::y149::y150::y151::y152::y153::y154::y155::y156::y157::y158::y159::y160::y161::y162::y163::y164::y165::y166::y167::y168::y169::y170::y171::y172::y173::y174::y175::y176::y177::y178::y179::y180::y181::y182::y183::y184::y185::y186::y187::y188::y189::y190::y191::y192::y193::y194::y195::y196::y197::y198::y199::y200::y201::y202::y203::y204::y205::y206::y207::y208::y209::y210::y211::y212::y213::y214::y215::y216::y217::y218::y219::y220::y221:: [])),[]⟩ w')
  (x2 x3 x6 x7 x9 x10 x11 x12 x13 x14 x15 x16 x17 x18 x19 x20 x21 x22 x23 x24 x25 x26 x27 x28 x29 x30 x31 x32 x33 x34 x35 x36 x37 x38 x39 x40 x41 x42 x43 x44 x45 x46 x47 x48 x49 x50 x51 x52 x53 x54 x55 x56 x57 x58 x59 x60 x61 x62 x63 x64 x65 x66 x67 x68 x69 x70 x71 x72 x73 x74 x75 x76 x77 x78 x79 x80 x81 x82 x83 x84 x85 x86 x87 x88 x89 x90 x91 x92 x93 x94 x95 x96 x97 x98 x99 x100 x101 x102 x103 x104 x105 x106 x107 x108 x109 x110 x111 x112 x113 x114 x115 x116 x117 x118 x119 x120 x121 x122 x123 x124 x125 x126 x127 x128 x129 x130 x131 x132 x133 x134 x135 x136 x137 x138 x139 x140 x141 x142 x143 x144 x145 x146 x147 x148 x149 x150 x151 x152 x153 x154 x155 x156 x157 x158 x159 x160 x161 x162 x163 x164 x165 x166 x167 x168 x169 x170 x171 x172 x173 x174 x175 x176 x177 x178 x179 x180 x181 x182 x183 x184 x185 x186 x187 x188 x189 x190 x191 x192 x193 x194 x195 x196 x197 x198 x199 x200 x201 x202 x203 x204 x205 x206 x207 x208 x209 x210 x211 x212 x213 x214 x215 x216 x217 x218 x219 x220 x221:Value):
  Code.wp Tryz.prog (Code.loop (wH 1)) Q0 ⟨(List.toArray ((v0)::(v1)::x2::x3::(.int .i64 0)::(.pointer (some ⟨eb,0,none⟩))::x6::x7::(.int .i64 0)::x9::x10::x11::x12::x13::x14::x15::x16::x17::x18::x19::x20::x21::x22::x23::x24::x25::x26::x27::x28::x29::x30::x31::x32::x33::x34::x35::x36::x37::x38::x39::x40::x41::x42::x43::x44::x45::x46::x47::x48::x49::x50::x51::x52::x53::x54::x55::x56::x57::x58::x59::x60::x61::x62::x63::x64::x65::x66::x67::x68::x69::x70::x71::x72::x73::x74::x75::x76::x77::x78::x79::x80::x81::x82::x83::x84::x85::x86::x87::x88::x89::x90::x91::x92::x93::x94::x95::x96::x97::x98::x99::x100::x101::x102::x103::x104::x105::x106::x107::x108::x109::x110::x111::x112::x113::x114::x115::x116::x117::x118::x119::x120::x121::x122::x123::x124::x125::x126::x127::x128::x129::x130::x131::x132::x133::x134::x135::x136::x137::x138::x139::x140::x141::x142::x143::x144::x145::x146::x147::x148::x149::x150::x151::x152::x153::x154::x155::x156::x157::x158::x159::x160::x161::x162::x163::x164::x165::x166::x167::x168::x169::x170::x171::x172::x173::x174::x175::x176::x177::x178::x179::x180::x181::x182::x183::x184::x185::x186::x187::x188::x189::x190::x191::x192::x193::x194::x195::x196::x197::x198::x199::x200::x201::x202::x203::x204::x205::x206::x207::x208::x209::x210::x211::x212::x213::x214::x215::x216::x217::x218::x219::x220::x221:: [])),[]⟩ wr0:=by
 have HRET:=Aia hret
 have HEXIT:=Aia hexit
 obtain⟨e1,e2,e3,e4,e5⟩:=hE
 clear hret hexit
 conv=>arg 2;arg 1;whnf
 go_loopw [4,8] (fun s4 s8 wr=>∃k:Nat,k<=E.points.length/\s4=.int .i64 0/\s8=.int .i64 k/\Hid (∀j,j<k->ptE E.points j=0)/\Hid (EB w R E vp vg ve vf vl eb wr)) (fun _ s8 _=>E.points.length-(intOf s8).toNat)
 case atStart=>exact⟨0,Nat.zero_le _,rfl,rfl,fun j h=>by omega,he0⟩
 case round=>
  obtain⟨k,hk,rfl,rfl,hall,he⟩:=hrel
  clear he0
  obtain⟨c0,c1,c2,c3,c4,c5,c6,c7,c8,c9⟩:=he.out.cells
  obtain⟨ap,kp,hvp⟩:=he.out.sl.p.val
  rw[hvp]at c2
  have HVP:=Aia hvp
  clear hvp c0 c1 c3 c4 c5 c6 c7 c8 c9
  by_cases hlt:k<E.points.length
  ·have hsl:=he.out.sl.p
   rw[HVP.out]at hsl
   obtain⟨b,off,rfl,hRb,hb,hc⟩:=Eh hsl (by omega)
   have q0:=hc k hlt
   have HP:=Aia (Ux hlt)
   have HSL:=Aia hsl
   clear hc hsl
   go_wp2_with fail
   refine(Vm _ wr).mono ?_
   rintro e w' ⟨rfl,rfl⟩
   cases hnm:Bk E.points[k] with
   |false=>
    have h4:ptE E.points k=4:=by rw[HP.out,if_pos hnm]
    have hv:Ij E.points=4:=by rw[Mg hlt (by omega) hall.out,h4]
    have HV:=Aia hv
    clear hnm h4 hv
    go_wp2_with fail
    have hr:=HRET.out
    rw[HV.out]at hr
    exact hr _ _ _ _ _ _ _ _ _ _ _ _ _ _ _ _ _ _ _ _ _ _ _ _ _ _ _ _ _ _ _ _ _ _ _ _ _ _ _ _ _ _ _ _ _ _ _ _ _ _ _ _ _ _ _ _ _ _ _ _ _ _ _ _ _ _ _ _ _ _ _ _ _ _ _ _ _ _ _ _ _ _ _ _ _ _ _ _ _ _ _ _ _ _ _ _ _ _ _ _ _ _ _ _ _ _ _ _ _ _ _ _ _ _ _ _ _ _ _ _ _ _ _ _ _ _ _ _ _ _ _ _ _ _ _ _ _ _ _ _ _ _ _ _ _ _ _ _ _ _ _ _ _ _ _ _ _ _ _ _ _ _ _ _ _ _ _ _ _ _ _ _ _ _ _ _ _ _ _ _ _ _ _ _ _ _ _ _ _ _ _ _ _ _ _ _ _ _ _ _ _ _ _ _ _ _ _ _ _ _ _ _ _ _ _ _ _ _ _ _ _ _ (by decide) he.out.bel
   |true=>
    have hT:Hid (∀n,Calls Tryz.prog 81 #[.slice (some ⟨b,off,none⟩) E.points.length kp,.string E.points[k]] (wr.drewN n) fun e w'=>e=.returned (.int .i64 (C9 E.points E.points[k]))/\wr.drewN n=w'):=Aia (fun n=>M7 R E.points _ _ _ (HSL.out.keep (Dq n (Ae.refl (fun _=>False) wr)) (fun _ _ h=>h)))
    have HNM:=Aia hnm
    clear hnm
    by_cases hix:C9 E.points E.points[k]<(k:Int)
    ·have h6:ptE E.points k=6:=by rw[HP.out,if_neg (by rw[HNM.out];decide),if_pos hix]
     have hv:Ij E.points=6:=by rw[Mg hlt (by omega) hall.out,h6]
     have HV:=Aia hv
     clear h6 hv
     go_wp2_with fail
     go_quiet ((go_at_call 81;exact C5 (hT.out _)))
     go_wp2_with fail
     have hr:=HRET.out
     rw[HV.out]at hr
     exact hr _ _ _ _ _ _ _ _ _ _ _ _ _ _ _ _ _ _ _ _ _ _ _ _ _ _ _ _ _ _ _ _ _ _ _ _ _ _ _ _ _ _ _ _ _ _ _ _ _ _ _ _ _ _ _ _ _ _ _ _ _ _ _ _ _ _ _ _ _ _ _ _ _ _ _ _ _ _ _ _ _ _ _ _ _ _ _ _ _ _ _ _ _ _ _ _ _ _ _ _ _ _ _ _ _ _ _ _ _ _ _ _ _ _ _ _ _ _ _ _ _ _ _ _ _ _ _ _ _ _ _ _ _ _ _ _ _ _ _ _ _ _ _ _ _ _ _ _ _ _ _ _ _ _ _ _ _ _ _ _ _ _ _ _ _ _ _ _ _ _ _ _ _ _ _ _ _ _ _ _ _ _ _ _ _ _ _ _ _ _ _ _ _ _ _ _ _ _ _ _ _ _ _ _ _ _ _ _ _ _ _ _ _ _ _ _ _ _ _ _ _ _ (by decide) (Ag _ he.out.bel)
    ·have h0:ptE E.points k=0:=by rw[HP.out,if_neg (by rw[HNM.out];decide),if_neg hix]
     have H0:=Aia h0
     clear h0
     go_wp2_with fail
     go_quiet ((go_at_call 81;exact C5 (hT.out _)))
     go_wp2_with fail
     go_roundw
     case rel=>exact⟨k+1,by omega,rfl,by go_num,(show ∀j,j<k+1->ptE E.points j=0 from fun j hj=>by
      by_cases e:j=k
      ·subst e;exact H0.out
      ·exact hall.out j (by omega)),he.out.keep (Dq _ (Ae.refl (fun _=>False) _)) (fun _ h _=>h.elim)⟩
     case measure=>simp[intOf];omega
  ·have hv:=Aia (Xt (P:=E.points) (fun j hj=>hall.out j (by omega)))
   go_wp2_with fail
   exact HEXIT.out _ _ _ _ _ _ _ _ _ _ _ _ _ _ _ _ _ _ _ _ _ _ _ _ _ _ _ _ _ _ _ _ _ _ _ _ _ _ _ _ _ _ _ _ _ _ _ _ _ _ _ _ _ _ _ _ _ _ _ _ _ _ _ _ _ _ _ _ _ _ _ _ _ _ _ _ _ _ _ _ _ _ _ _ _ _ _ _ _ _ _ _ _ _ _ _ _ _ _ _ _ _ _ _ _ _ _ _ _ _ _ _ _ _ _ _ _ _ _ _ _ _ _ _ _ _ _ _ _ _ _ _ _ _ _ _ _ _ _ _ _ _ _ _ _ _ _ _ _ _ _ _ _ _ _ _ _ _ _ _ _ _ _ _ _ _ _ _ _ _ _ _ _ _ _ _ _ _ _ _ _ _ _ _ _ _ _ _ _ _ _ _ _ _ _ _ _ _ _ _ _ _ _ _ _ _ _ _ _ _ _ _ _ _ _ _ _ _ _ hv.out he.out
theorem Agf(R:Nat->Prop)(E:Ap)(vp vg ve vf vl:Value)(eb:Nat)(v0 v1:Value)(w wr0:World)(hE:Fx E)(he0:Hid (EB w R E vp vg ve vf vl eb wr0))(Q0:Exit->Act->World->Prop)
  (hret:∀(y0 y1 y2 y3 y5 y6 y7 y8 y9 y10 y11 y12 y13 y14 y15 y16 y17 y18 y19 y20 y21 y22 y23 y24 y25 y26 y27 y28 y29 y30 y31 y32 y33 y34 y35 y36 y37 y38 y39 y40 y41 y42 y43 y44 y45 y46 y47 y48 y49 y50 y51 y52 y53 y54 y55 y56 y57 y58 y59 y60 y61 y62 y63 y64 y65 y66 y67 y68 y69 y70 y71 y72 y73 y74 y75 y76 y77 y78 y79 y80 y81 y82 y83 y84 y85 y86 y87 y88 y89 y90 y91 y92 y93 y94 y95 y96 y97 y98 y99 y100 y101 y102 y103 y104 y105 y106 y107 y108 y109 y110 y111 y112 y113 y114 y115 y116 y117 y118 y119 y120 y121 y122 y123 y124 y125 y126 y127 y128 y129 y130 y131 y132 y133 y134 y135 y136 y137 y138 y139 y140 y141 y142 y143 y144 y145 y146 y147 y148 y149 y150 y151 y152 y153 y154 y155 y156 y157 y158 y159 y160 y161 y162 y163 y164 y165 y166 y167 y168 y169 y170 y171 y172 y173 y174 y175 y176 y177 y178 y179 y180 y181 y182 y183 y184 y185 y186 y187 y188 y189 y190 y191 y192 y193 y194 y195 y196 y197 y198 y199 y200 y201 y202 y203 y204 y205 y206 y207 y208 y209 y210 y211 y212 y213 y214 y215 y216 y217 y218 y219 y220 y221:Value) (w':World),E.gaps.any Bu=true->Below w.heap.size w w'->Q0 .ret ⟨(List.toArray (y0::y1::y2::y3::(.int .i64 2)::y5::y6::y7::y8::y9::y10::y11::y12::y13::y14::y15::y16::y17::y18::y19::y20::y21::y22::y23::y24::y25::y26::y27::y28::y29::y30::y31::y32::y33::y34::y35::y36::y37::y38::y39::y40::y41::y42::y43::y44::y45::y46::y47::y48::y49::y50::y51::y52::y53::y54::y55::y56::y57::y58::y59::y60::y61::y62::y63::y64::y65::y66::y67::y68::y69::y70::y71::y72::y73::y74::y75::y76::y77::y78::y79::y80::y81::y82::y83::y84::y85::y86::y87::y88::y89::y90::y91::y92::y93::y94::y95::y96::y97::y98::y99::y100::y101::y102::y103::y104::y105::y106::y107::y108::y109::y110::y111::y112::y113::y114::y115::y116::y117::y118::y119::y120::y121::y122::y123::y124::y125::y126::y127::y128::y129::y130::y131::y132::y133::y134::y135::y136::y137::y138::y139::y140::y141::y142::y143::y144::y145::y146::y147::y148::y149::y150::y151::y152::y153::y154::y155::y156::y157::y158::y159::y160::y161::y162::y163::y164::y165::y166::y167::y168::y169::y170::y171::y172::y173::y174::y175::y176::y177::y178::y179::y180::y181::y182::y183::y184::y185::y186::y187::y188::y189::y190::y191::y192::y193::y194::y195::y196::y197::y198::y199::y200::y201::y202::y203::y204::y205::y206::y207::y208::y209::y210::y211::y212::y213::y214::y215::y216::y217::y218::y219::y220::y221:: [])),[]⟩ w')
  (hexit:∀(y2 y3 y6 y7 y8 y9 y10 y11 y12 y13 y14 y15 y16 y17 y18 y19 y20 y21 y22 y23 y24 y25 y26 y27 y28 y29 y30 y31 y32 y33 y34 y35 y36 y37 y38 y39 y40 y41 y42 y43 y44 y45 y46 y47 y48 y49 y50 y51 y52 y53 y54 y55 y56 y57 y58 y59 y60 y61 y62 y63 y64 y65 y66 y67 y68 y69 y70 y71 y72 y73 y74 y75 y76 y77 y78 y79 y80 y81 y82 y83 y84 y85 y86 y87 y88 y89 y90 y91 y92 y93 y94 y95 y96 y97 y98 y99 y100 y101 y102 y103 y104 y105 y106 y107 y108 y109 y110 y111 y112 y113 y114 y115 y116 y117 y118 y119 y120 y121 y122 y123 y124 y125 y126 y127 y128 y129 y130 y131 y132 y133 y134 y135 y136 y137 y138 y139 y140 y141 y142 y143 y144 y145 y146 y147 y148 y149 y150 y151 y152 y153 y154 y155 y156 y157 y158 y159 y160 y161 y162 y163 y164 y165 y166 y167 y168 y169 y170 y171 y172 y173 y174 y175 y176 y177 y178 y179 y180 y181 y182 y183 y184 y185 y186 y187 y188 y189 y190 y191 y192 y193 y194 y195 y196 y197 y198 y199 y200 y201 y202 y203 y204 y205 y206 y207 y208 y209 y210 y211 y212 y213 y214 y215 y216 y217 y218 y219 y220 y221:Value) (w':World),E.gaps.any Bu=false->EB w R E vp vg ve vf vl eb w'->Q0 (.exit 4) ⟨(List.toArray ((v0)::(v1)::y2::y3::(.int .i64 0)::(.pointer (some ⟨eb,0,none⟩))::y6::y7::y8::y9::y10::y11::y12::y13::y14::y15::y16::y17::y18::y19::y20::y21::y22::y23::y24::y25::y26::y27::y28::y29::y30::y31::y32::y33::y34::y35::y36::y37::y38::y39::y40::y41::y42::y43::y44::y45::y46::y47::y48::y49::y50::y51::y52::y53::y54::y55::y56::y57::y58::y59::y60::y61::y62::y63::y64::y65::y66::y67::y68::y69::y70::y71::y72::y73::y74::y75::y76::y77::y78::y79::y80::y81::y82::y83::y84::y85::y86::y87::y88::y89::y90::y91::y92::y93::y94::y95::y96::y97::y98::y99::y100::y101::y102::y103::y104::y105::y106::y107::y108::y109::y110::y111::y112::y113::y114::y115::y116::y117::y118::y119::y120::y121::y122::y123::y124::y125::y126::y127::y128::y129::y130::y131::y132::y133::y134::y135::y136::y137::y138::y139::y140::y141::y142::y143::y144::y145::y146::y147::y148::y149::y150::y151::y152::y153::y154::y155::y156::y157::y158::y159::y160::y161::y162::y163::y164::y165::y166::y167::y168::y169::y170::y171::y172::y173::y174::y175::y176::y177::y178::y179::y180::y181::y182::y183::y184::y185::y186::y187::y188::y189::y190::y191::y192::y193::y194::y195::y196::y197::y198::y199::y200::y201::y202::y203::y204::y205::y206::y207::y208::y209::y210::y211::y212::y213::y214::y215::y216::y217::y218::y219::y220::y221:: [])),[]⟩ w')
  (x2 x3 x6 x7 x8 x9 x10 x12 x13 x14 x15 x16 x17 x18 x19 x20 x21 x22 x23 x24 x25 x26 x27 x28 x29 x30 x31 x32 x33 x34 x35 x36 x37 x38 x39 x40 x41 x42 x43 x44 x45 x46 x47 x48 x49 x50 x51 x52 x53 x54 x55 x56 x57 x58 x59 x60 x61 x62 x63 x64 x65 x66 x67 x68 x69 x70 x71 x72 x73 x74 x75 x76 x77 x78 x79 x80 x81 x82 x83 x84 x85 x86 x87 x88 x89 x90 x91 x92 x93 x94 x95 x96 x97 x98 x99 x100 x101 x102 x103 x104 x105 x106 x107 x108 x109 x110 x111 x112 x113 x114 x115 x116 x117 x118 x119 x120 x121 x122 x123 x124 x125 x126 x127 x128 x129 x130 x131 x132 x133 x134 x135 x136 x137 x138 x139 x140 x141 x142 x143 x144 x145 x146 x147 x148 x149 x150 x151 x152 x153 x154 x155 x156 x157 x158 x159 x160 x161 x162 x163 x164 x165 x166 x167 x168 x169 x170 x171 x172 x173 x174 x175 x176 x177 x178 x179 x180 x181 x182 x183 x184 x185 x186 x187 x188 x189 x190 x191 x192 x193 x194 x195 x196 x197 x198 x199 x200 x201 x202 x203 x204 x205 x206 x207 x208 x209 x210 x211 x212 x213 x214 x215 x216 x217 x218 x219 x220 x221:Value):
  Code.wp Tryz.prog (Code.loop (wH 2)) Q0 ⟨(List.toArray ((v0)::(v1)::x2::x3::(.int .i64 0)::(.pointer (some ⟨eb,0,none⟩))::x6::x7::x8::x9::x10::(.int .i64 0)::x12::x13::x14::x15::x16::x17::x18::x19::x20::x21::x22::x23::x24::x25::x26::x27::x28::x29::x30::x31::x32::x33::x34::x35::x36::x37::x38::x39::x40::x41::x42::x43::x44::x45::x46::x47::x48::x49::x50::x51::x52::x53::x54::x55::x56::x57::x58::x59::x60::x61::x62::x63::x64::x65::x66::x67::x68::x69::x70::x71::x72::x73::x74::x75::x76::x77::x78::x79::x80::x81::x82::x83::x84::x85::x86::x87::x88::x89::x90::x91::x92::x93::x94::x95::x96::x97::x98::x99::x100::x101::x102::x103::x104::x105::x106::x107::x108::x109::x110::x111::x112::x113::x114::x115::x116::x117::x118::x119::x120::x121::x122::x123::x124::x125::x126::x127::x128::x129::x130::x131::x132::x133::x134::x135::x136::x137::x138::x139::x140::x141::x142::x143::x144::x145::x146::x147::x148::x149::x150::x151::x152::x153::x154::x155::x156::x157::x158::x159::x160::x161::x162::x163::x164::x165::x166::x167::x168::x169::x170::x171::x172::x173::x174::x175::x176::x177::x178::x179::x180::x181::x182::x183::x184::x185::x186::x187::x188::x189::x190::x191::x192::x193::x194::x195::x196::x197::x198::x199::x200::x201::x202::x203::x204::x205::x206::x207::x208::x209::x210::x211::x212::x213::x214::x215::x216::x217::x218::x219::x220::x221:: [])),[]⟩ wr0:=by
 have HRET:=Aia hret
 have HEXIT:=Aia hexit
 obtain⟨e1,e2,e3,e4,e5⟩:=hE
 clear hret hexit
 conv=>arg 2;arg 1;whnf
 go_loopw [4,11] (fun s4 s11 wr=>∃k:Nat,k<=E.gaps.length/\s4=.int .i64 0/\s11=.int .i64 k/\Hid (∀j (hj:j<E.gaps.length),j<k->Bu E.gaps[j]=false)/\Hid (EB w R E vp vg ve vf vl eb wr)) (fun _ s11 _=>E.gaps.length-(intOf s11).toNat)
 case atStart=>exact⟨0,Nat.zero_le _,rfl,rfl,fun j _ h=>by omega,he0⟩
 case round=>
  obtain⟨k,hk,rfl,rfl,hall,he⟩:=hrel
  clear he0
  obtain⟨c0,c1,c2,c3,c4,c5,c6,c7,c8,c9⟩:=he.out.cells
  obtain⟨ag,kg,hvg⟩:=he.out.sl.g.val
  rw[hvg]at c6
  have HVG:=Aia hvg
  clear hvg c0 c1 c2 c3 c4 c5 c7 c8 c9
  by_cases hlt:k<E.gaps.length
  ·have hsl:=he.out.sl.g
   rw[HVG.out]at hsl
   obtain⟨b,off,hag,hRb,hb,hc⟩:=hsl.elem (fun _=>rfl) (by decide) (by omega)
   have hag2:ag=some ⟨b,off,none⟩:=hag
   subst hag2
   have q0:=hc k hlt 0 _ rfl
   have q1:=hc k hlt 1 _ rfl
   have q2:=hc k hlt 2 _ rfl
   have q3:=hc k hlt 3 _ rfl
   rw[Nat.add_zero]at q0
   clear hc hsl hag
   by_cases h1:E.gaps[k].mn<0
   ·
    have HB:=Aia (show E.gaps.any Bu=true from List.any_eq_true.2 ⟨_,List.getElem_mem hlt,(show Bu E.gaps[k]=true from decide_eq_true (by omega))⟩)
    go_wp2_with fail
    exact HRET.out _ _ _ _ _ _ _ _ _ _ _ _ _ _ _ _ _ _ _ _ _ _ _ _ _ _ _ _ _ _ _ _ _ _ _ _ _ _ _ _ _ _ _ _ _ _ _ _ _ _ _ _ _ _ _ _ _ _ _ _ _ _ _ _ _ _ _ _ _ _ _ _ _ _ _ _ _ _ _ _ _ _ _ _ _ _ _ _ _ _ _ _ _ _ _ _ _ _ _ _ _ _ _ _ _ _ _ _ _ _ _ _ _ _ _ _ _ _ _ _ _ _ _ _ _ _ _ _ _ _ _ _ _ _ _ _ _ _ _ _ _ _ _ _ _ _ _ _ _ _ _ _ _ _ _ _ _ _ _ _ _ _ _ _ _ _ _ _ _ _ _ _ _ _ _ _ _ _ _ _ _ _ _ _ _ _ _ _ _ _ _ _ _ _ _ _ _ _ _ _ _ _ _ _ _ _ _ _ _ _ _ _ _ _ _ _ _ _ _ _ _ _ HB.out (he.out.bel.alloc he.out.bel.size _)
   by_cases h2:E.gaps[k].mx<E.gaps[k].mn
   ·
    have HB:=Aia (show E.gaps.any Bu=true from List.any_eq_true.2 ⟨_,List.getElem_mem hlt,(show Bu E.gaps[k]=true from decide_eq_true (by omega))⟩)
    go_wp2_with fail
    exact HRET.out _ _ _ _ _ _ _ _ _ _ _ _ _ _ _ _ _ _ _ _ _ _ _ _ _ _ _ _ _ _ _ _ _ _ _ _ _ _ _ _ _ _ _ _ _ _ _ _ _ _ _ _ _ _ _ _ _ _ _ _ _ _ _ _ _ _ _ _ _ _ _ _ _ _ _ _ _ _ _ _ _ _ _ _ _ _ _ _ _ _ _ _ _ _ _ _ _ _ _ _ _ _ _ _ _ _ _ _ _ _ _ _ _ _ _ _ _ _ _ _ _ _ _ _ _ _ _ _ _ _ _ _ _ _ _ _ _ _ _ _ _ _ _ _ _ _ _ _ _ _ _ _ _ _ _ _ _ _ _ _ _ _ _ _ _ _ _ _ _ _ _ _ _ _ _ _ _ _ _ _ _ _ _ _ _ _ _ _ _ _ _ _ _ _ _ _ _ _ _ _ _ _ _ _ _ _ _ _ _ _ _ _ _ _ _ _ _ _ _ _ _ _ HB.out (he.out.bel.alloc he.out.bel.size _)
   by_cases h3:1099511627776<E.gaps[k].mx
   ·
    have HB:=Aia (show E.gaps.any Bu=true from List.any_eq_true.2 ⟨_,List.getElem_mem hlt,(show Bu E.gaps[k]=true from decide_eq_true (by omega))⟩)
    go_wp2_with fail
    exact HRET.out _ _ _ _ _ _ _ _ _ _ _ _ _ _ _ _ _ _ _ _ _ _ _ _ _ _ _ _ _ _ _ _ _ _ _ _ _ _ _ _ _ _ _ _ _ _ _ _ _ _ _ _ _ _ _ _ _ _ _ _ _ _ _ _ _ _ _ _ _ _ _ _ _ _ _ _ _ _ _ _ _ _ _ _ _ _ _ _ _ _ _ _ _ _ _ _ _ _ _ _ _ _ _ _ _ _ _ _ _ _ _ _ _ _ _ _ _ _ _ _ _ _ _ _ _ _ _ _ _ _ _ _ _ _ _ _ _ _ _ _ _ _ _ _ _ _ _ _ _ _ _ _ _ _ _ _ _ _ _ _ _ _ _ _ _ _ _ _ _ _ _ _ _ _ _ _ _ _ _ _ _ _ _ _ _ _ _ _ _ _ _ _ _ _ _ _ _ _ _ _ _ _ _ _ _ _ _ _ _ _ _ _ _ _ _ _ _ _ _ _ _ _ HB.out (he.out.bel.alloc he.out.bel.size _)
   have hok:=Aia (show Bu E.gaps[k]=false from decide_eq_false (by omega))
   have he2:=Aia (he.out.below ((Below.refl _ _).alloc (Nat.le_refl _) (.cells #[.int .i64 E.gaps[k].fr,.int .i64 E.gaps[k].dst,.int .i64 E.gaps[k].mn,.int .i64 E.gaps[k].mx] 126)))
   go_wp2_with fail
   go_roundw
   case rel=>exact⟨k+1,by omega,rfl,by go_num,(show ∀j (hj:j<E.gaps.length),j<k+1->Bu E.gaps[j]=false from fun j hj hji=>by
    by_cases e:j=k
    ·subst e;exact hok.out
    ·exact hall.out j hj (by omega)),he2⟩
   case measure=>simp[intOf];omega
  ·have hv:=Aia (show E.gaps.any Bu=false from List.any_eq_false.2 (fun x hx=>by
    obtain⟨j,hj,rfl⟩:=List.mem_iff_getElem.1 hx
    rw[hall.out j hj (by omega)];decide))
   go_wp2_with fail
   exact HEXIT.out _ _ _ _ _ _ _ _ _ _ _ _ _ _ _ _ _ _ _ _ _ _ _ _ _ _ _ _ _ _ _ _ _ _ _ _ _ _ _ _ _ _ _ _ _ _ _ _ _ _ _ _ _ _ _ _ _ _ _ _ _ _ _ _ _ _ _ _ _ _ _ _ _ _ _ _ _ _ _ _ _ _ _ _ _ _ _ _ _ _ _ _ _ _ _ _ _ _ _ _ _ _ _ _ _ _ _ _ _ _ _ _ _ _ _ _ _ _ _ _ _ _ _ _ _ _ _ _ _ _ _ _ _ _ _ _ _ _ _ _ _ _ _ _ _ _ _ _ _ _ _ _ _ _ _ _ _ _ _ _ _ _ _ _ _ _ _ _ _ _ _ _ _ _ _ _ _ _ _ _ _ _ _ _ _ _ _ _ _ _ _ _ _ _ _ _ _ _ _ _ _ _ _ _ _ _ _ _ _ _ _ _ _ _ _ _ _ _ _ hv.out he.out
theorem Aen(R:Nat->Prop)(E:Ap)(vp vg ve vf vl:Value)(eb:Nat)(v0 v1:Value)(w wr0:World)(hE:Fx E)(he0:Hid (EB w R E vp vg ve vf vl eb wr0))(Q0:Exit->Act->World->Prop)
  (hret:∀(y0 y1 y2 y3 y5 y6 y7 y8 y9 y10 y11 y12 y13 y14 y15 y16 y17 y18 y19 y20 y21 y22 y23 y24 y25 y26 y27 y28 y29 y30 y31 y32 y33 y34 y35 y36 y37 y38 y39 y40 y41 y42 y43 y44 y45 y46 y47 y48 y49 y50 y51 y52 y53 y54 y55 y56 y57 y58 y59 y60 y61 y62 y63 y64 y65 y66 y67 y68 y69 y70 y71 y72 y73 y74 y75 y76 y77 y78 y79 y80 y81 y82 y83 y84 y85 y86 y87 y88 y89 y90 y91 y92 y93 y94 y95 y96 y97 y98 y99 y100 y101 y102 y103 y104 y105 y106 y107 y108 y109 y110 y111 y112 y113 y114 y115 y116 y117 y118 y119 y120 y121 y122 y123 y124 y125 y126 y127 y128 y129 y130 y131 y132 y133 y134 y135 y136 y137 y138 y139 y140 y141 y142 y143 y144 y145 y146 y147 y148 y149 y150 y151 y152 y153 y154 y155 y156 y157 y158 y159 y160 y161 y162 y163 y164 y165 y166 y167 y168 y169 y170 y171 y172 y173 y174 y175 y176 y177 y178 y179 y180 y181 y182 y183 y184 y185 y186 y187 y188 y189 y190 y191 y192 y193 y194 y195 y196 y197 y198 y199 y200 y201 y202 y203 y204 y205 y206 y207 y208 y209 y210 y211 y212 y213 y214 y215 y216 y217 y218 y219 y220 y221:Value) (w':World),Ea E.edges=true->Below w.heap.size w w'->Q0 .ret ⟨(List.toArray (y0::y1::y2::y3::(.int .i64 6)::y5::y6::y7::y8::y9::y10::y11::y12::y13::y14::y15::y16::y17::y18::y19::y20::y21::y22::y23::y24::y25::y26::y27::y28::y29::y30::y31::y32::y33::y34::y35::y36::y37::y38::y39::y40::y41::y42::y43::y44::y45::y46::y47::y48::y49::y50::y51::y52::y53::y54::y55::y56::y57::y58::y59::y60::y61::y62::y63::y64::y65::y66::y67::y68::y69::y70::y71::y72::y73::y74::y75::y76::y77::y78::y79::y80::y81::y82::y83::y84::y85::y86::y87::y88::y89::y90::y91::y92::y93::y94::y95::y96::y97::y98::y99::y100::y101::y102::y103::y104::y105::y106::y107::y108::y109::y110::y111::y112::y113::y114::y115::y116::y117::y118::y119::y120::y121::y122::y123::y124::y125::y126::y127::y128::y129::y130::y131::y132::y133::y134::y135::y136::y137::y138::y139::y140::y141::y142::y143::y144::y145::y146::y147::y148::y149::y150::y151::y152::y153::y154::y155::y156::y157::y158::y159::y160::y161::y162::y163::y164::y165::y166::y167::y168::y169::y170::y171::y172::y173::y174::y175::y176::y177::y178::y179::y180::y181::y182::y183::y184::y185::y186::y187::y188::y189::y190::y191::y192::y193::y194::y195::y196::y197::y198::y199::y200::y201::y202::y203::y204::y205::y206::y207::y208::y209::y210::y211::y212::y213::y214::y215::y216::y217::y218::y219::y220::y221:: [])),[]⟩ w')
  (hexit:∀(y2 y3 y6 y7 y8 y9 y10 y11 y12 y13 y14 y15 y16 y17 y18 y19 y20 y21 y22 y23 y24 y25 y26 y27 y28 y29 y30 y31 y32 y33 y34 y35 y36 y37 y38 y39 y40 y41 y42 y43 y44 y45 y46 y47 y48 y49 y50 y51 y52 y53 y54 y55 y56 y57 y58 y59 y60 y61 y62 y63 y64 y65 y66 y67 y68 y69 y70 y71 y72 y73 y74 y75 y76 y77 y78 y79 y80 y81 y82 y83 y84 y85 y86 y87 y88 y89 y90 y91 y92 y93 y94 y95 y96 y97 y98 y99 y100 y101 y102 y103 y104 y105 y106 y107 y108 y109 y110 y111 y112 y113 y114 y115 y116 y117 y118 y119 y120 y121 y122 y123 y124 y125 y126 y127 y128 y129 y130 y131 y132 y133 y134 y135 y136 y137 y138 y139 y140 y141 y142 y143 y144 y145 y146 y147 y148 y149 y150 y151 y152 y153 y154 y155 y156 y157 y158 y159 y160 y161 y162 y163 y164 y165 y166 y167 y168 y169 y170 y171 y172 y173 y174 y175 y176 y177 y178 y179 y180 y181 y182 y183 y184 y185 y186 y187 y188 y189 y190 y191 y192 y193 y194 y195 y196 y197 y198 y199 y200 y201 y202 y203 y204 y205 y206 y207 y208 y209 y210 y211 y212 y213 y214 y215 y216 y217 y218 y219 y220 y221:Value) (w':World),Ea E.edges=false->EB w R E vp vg ve vf vl eb w'->Q0 (.exit 6) ⟨(List.toArray ((v0)::(v1)::y2::y3::(.int .i64 0)::(.pointer (some ⟨eb,0,none⟩))::y6::y7::y8::y9::y10::y11::y12::y13::y14::y15::y16::y17::y18::y19::y20::y21::y22::y23::y24::y25::y26::y27::y28::y29::y30::y31::y32::y33::y34::y35::y36::y37::y38::y39::y40::y41::y42::y43::y44::y45::y46::y47::y48::y49::y50::y51::y52::y53::y54::y55::y56::y57::y58::y59::y60::y61::y62::y63::y64::y65::y66::y67::y68::y69::y70::y71::y72::y73::y74::y75::y76::y77::y78::y79::y80::y81::y82::y83::y84::y85::y86::y87::y88::y89::y90::y91::y92::y93::y94::y95::y96::y97::y98::y99::y100::y101::y102::y103::y104::y105::y106::y107::y108::y109::y110::y111::y112::y113::y114::y115::y116::y117::y118::y119::y120::y121::y122::y123::y124::y125::y126::y127::y128::y129::y130::y131::y132::y133::y134::y135::y136::y137::y138::y139::y140::y141::y142::y143::y144::y145::y146::y147::y148::y149::y150::y151::y152::y153::y154::y155::y156::y157::y158::y159::y160::y161::y162::y163::y164::y165::y166::y167::y168::y169::y170::y171::y172::y173::y174::y175::y176::y177::y178::y179::y180::y181::y182::y183::y184::y185::y186::y187::y188::y189::y190::y191::y192::y193::y194::y195::y196::y197::y198::y199::y200::y201::y202::y203::y204::y205::y206::y207::y208::y209::y210::y211::y212::y213::y214::y215::y216::y217::y218::y219::y220::y221:: [])),[]⟩ w')
  (x2 x3 x6 x7 x8 x9 x10 x11 x12 x14 x15 x16 x17 x18 x19 x20 x21 x22 x23 x24 x25 x26 x27 x28 x29 x30 x31 x32 x33 x34 x35 x36 x37 x38 x39 x40 x41 x42 x43 x44 x45 x46 x47 x48 x49 x50 x51 x52 x53 x54 x55 x56 x57 x58 x59 x60 x61 x62 x63 x64 x65 x66 x67 x68 x69 x70 x71 x72 x73 x74 x75 x76 x77 x78 x79 x80 x81 x82 x83 x84 x85 x86 x87 x88 x89 x90 x91 x92 x93 x94 x95 x96 x97 x98 x99 x100 x101 x102 x103 x104 x105 x106 x107 x108 x109 x110 x111 x112 x113 x114 x115 x116 x117 x118 x119 x120 x121 x122 x123 x124 x125 x126 x127 x128 x129 x130 x131 x132 x133 x134 x135 x136 x137 x138 x139 x140 x141 x142 x143 x144 x145 x146 x147 x148 x149 x150 x151 x152 x153 x154 x155 x156 x157 x158 x159 x160 x161 x162 x163 x164 x165 x166 x167 x168 x169 x170 x171 x172 x173 x174 x175 x176 x177 x178 x179 x180 x181 x182 x183 x184 x185 x186 x187 x188 x189 x190 x191 x192 x193 x194 x195 x196 x197 x198 x199 x200 x201 x202 x203 x204 x205 x206 x207 x208 x209 x210 x211 x212 x213 x214 x215 x216 x217 x218 x219 x220 x221:Value):
  Code.wp Tryz.prog (Code.loop (wH 3)) Q0 ⟨(List.toArray ((v0)::(v1)::x2::x3::(.int .i64 0)::(.pointer (some ⟨eb,0,none⟩))::x6::x7::x8::x9::x10::x11::x12::(.int .i64 0)::x14::x15::x16::x17::x18::x19::x20::x21::x22::x23::x24::x25::x26::x27::x28::x29::x30::x31::x32::x33::x34::x35::x36::x37::x38::x39::x40::x41::x42::x43::x44::x45::x46::x47::x48::x49::x50::x51::x52::x53::x54::x55::x56::x57::x58::x59::x60::x61::x62::x63::x64::x65::x66::x67::x68::x69::x70::x71::x72::x73::x74::x75::x76::x77::x78::x79::x80::x81::x82::x83::x84::x85::x86::x87::x88::x89::x90::x91::x92::x93::x94::x95::x96::x97::x98::x99::x100::x101::x102::x103::x104::x105::x106::x107::x108::x109::x110::x111::x112::x113::x114::x115::x116::x117::x118::x119::x120::x121::x122::x123::x124::x125::x126::x127::x128::x129::x130::x131::x132::x133::x134::x135::x136::x137::x138::x139::x140::x141::x142::x143::x144::x145::x146::x147::x148::x149::x150::x151::x152::x153::x154::x155::x156::x157::x158::x159::x160::x161::x162::x163::x164::x165::x166::x167::x168::x169::x170::x171::x172::x173::x174::x175::x176::x177::x178::x179::x180::x181::x182::x183::x184::x185::x186::x187::x188::x189::x190::x191::x192::x193::x194::x195::x196::x197::x198::x199::x200::x201::x202::x203::x204::x205::x206::x207::x208::x209::x210::x211::x212::x213::x214::x215::x216::x217::x218::x219::x220::x221:: [])),[]⟩ wr0:=by
 have HRET:=Aia hret
 have HEXIT:=Aia hexit
 obtain⟨e1,e2,e3,e4,e5⟩:=hE
 clear hret hexit
 have heq:=Tryz.pairEqE
 unfold Zd at heq
 have HEQ:=Aia heq
 clear heq
 conv=>arg 2;arg 1;whnf
 go_loopw [4,13] (fun s4 s13 wr=>∃k:Nat,k<=E.edges.length/\s4=.int .i64 0/\s13=.int .i64 k/\Hid (∀j (hj:j<E.edges.length),j<k->E.edges[j]∉E.edges.take j)/\Hid (EB w R E vp vg ve vf vl eb wr)) (fun _ s13 _=>E.edges.length-(intOf s13).toNat)
 case atStart=>exact⟨0,Nat.zero_le _,rfl,rfl,fun j _ h=>by omega,he0⟩
 case round=>
  obtain⟨k,hk,rfl,rfl,hall,he⟩:=hrel
  clear he0
  obtain⟨c0,c1,c2,c3,c4,c5,c6,c7,c8,c9⟩:=he.out.cells
  obtain⟨ae,ke,hve⟩:=he.out.sl.e.val
  rw[hve]at c7
  have HVE:=Aia hve
  clear hve c0 c1 c2 c3 c4 c5 c6 c8 c9
  by_cases hlt:k<E.edges.length
  ·have hsl:=he.out.sl.e
   rw[HVE.out]at hsl
   obtain⟨b,off,hag,hRb,hb,hc⟩:=hsl.elem (f:=Cd) (fun _=>rfl) (by decide) (by omega)
   have hag2:ae=some ⟨b,off,none⟩:=hag
   subst hag2
   have q0:=hc k hlt 0 _ rfl
   have q1:=hc k hlt 1 _ rfl
   rw[Nat.add_zero]at q0
   have HC:=Aia hc
   clear hc hsl hag
   obtain⟨wo,hwo⟩:∃wo,wo=wr:=⟨_,rfl⟩
   go_wp2_with fail
   rw[<-hwo]at he HC c7 q0 q1 ⊢
   clear hwo
   go_loopw [4,14] (fun s4 s14 wx=>∃j q:Nat,j<=k/\s4=.int .i64 0/\s14=.int .i64 j/\Hid (∀i (hi:i<j) (hk:i<E.edges.length),i<k->E.edges[i]≠E.edges[k])/\wx=wo.drewN q) (fun _ s14 _=>k-(intOf s14).toNat)
   case atStart=>exact⟨0,0,Nat.zero_le _,rfl,rfl,fun i h=>by omega,rfl⟩
   case round=>
    obtain⟨j,q,hj,rfl,rfl,hin,rfl⟩:=hrel
    by_cases hjk:j<k
    ·have hje:j<E.edges.length:=by omega
     have p0:=HC.out j hje 0 _ rfl
     have p1:=HC.out j hje 1 _ rfl
     rw[Nat.add_zero]at p0
     have hjl:(j:Int)<(E.edges.length:Int):=by omega
     by_cases hx:E.edges[j]=E.edges[k]
     ·have hq:=fun w=>HEQ.out w E.edges[j].1 E.edges[j].2 E.edges[k].1 E.edges[k].2
      rw[decide_eq_true (show(E.edges[j].1,E.edges[j].2)=(E.edges[k].1,E.edges[k].2)from hx)]at hq
      have HB:=Aia (O6 k hlt (pB hjk hlt _ hx))
      clear hx
      go_wp2_with fail
      go_quiet (fail)
      go_wp2_with fail
      exact HRET.out _ _ _ _ _ _ _ _ _ _ _ _ _ _ _ _ _ _ _ _ _ _ _ _ _ _ _ _ _ _ _ _ _ _ _ _ _ _ _ _ _ _ _ _ _ _ _ _ _ _ _ _ _ _ _ _ _ _ _ _ _ _ _ _ _ _ _ _ _ _ _ _ _ _ _ _ _ _ _ _ _ _ _ _ _ _ _ _ _ _ _ _ _ _ _ _ _ _ _ _ _ _ _ _ _ _ _ _ _ _ _ _ _ _ _ _ _ _ _ _ _ _ _ _ _ _ _ _ _ _ _ _ _ _ _ _ _ _ _ _ _ _ _ _ _ _ _ _ _ _ _ _ _ _ _ _ _ _ _ _ _ _ _ _ _ _ _ _ _ _ _ _ _ _ _ _ _ _ _ _ _ _ _ _ _ _ _ _ _ _ _ _ _ _ _ _ _ _ _ _ _ _ _ _ _ _ _ _ _ _ _ _ _ _ _ _ _ _ _ _ _ _ HB.out (Ag _ (Ag _ he.out.bel))
     ·have hq:=fun w=>HEQ.out w E.edges[j].1 E.edges[j].2 E.edges[k].1 E.edges[k].2
      rw[decide_eq_false (show ¬(E.edges[j].1,E.edges[j].2)=(E.edges[k].1,E.edges[k].2)from hx)]at hq
      have HX:=Aia hx
      clear hx
      go_wp2_with fail
      go_quiet (fail)
      go_wp2_with fail
      go_roundw
      case rel=>exact⟨j+1,_,by omega,rfl,by go_num,(show ∀i (hi:i<j+1) (hk:i<E.edges.length),i<k->E.edges[i]≠E.edges[k] from fun i hi hik hikk=>by
       by_cases e:i=j
       ·subst e;exact HX.out
       ·exact hin.out i (by omega) hik hikk),rfl⟩
      case measure=>simp[intOf];omega
    ·obtain rfl:j=k:=by omega
     have hok:=Aia (Zj hlt E.edges[j] (fun i hi=>hin.out i hi (by omega) hi))
     go_wp2_with fail
     go_roundw
     case rel=>exact⟨j+1,by omega,rfl,by go_num,(show ∀i (hi:i<E.edges.length),i<j+1->E.edges[i]∉E.edges.take i from fun i hi hji=>by
      by_cases e:i=j
      ·subst e;exact hok.out
      ·exact hall.out i hi (by omega)),he.out.keep (Dq _ (Ae.refl (fun _=>False) _)) (fun _ h _=>h.elim)⟩
     case measure=>simp[intOf];omega
  ·have hv:=Aia (N2 (l:=E.edges) (fun j hj=>hall.out j hj (by omega)))
   go_wp2_with fail
   exact HEXIT.out _ _ _ _ _ _ _ _ _ _ _ _ _ _ _ _ _ _ _ _ _ _ _ _ _ _ _ _ _ _ _ _ _ _ _ _ _ _ _ _ _ _ _ _ _ _ _ _ _ _ _ _ _ _ _ _ _ _ _ _ _ _ _ _ _ _ _ _ _ _ _ _ _ _ _ _ _ _ _ _ _ _ _ _ _ _ _ _ _ _ _ _ _ _ _ _ _ _ _ _ _ _ _ _ _ _ _ _ _ _ _ _ _ _ _ _ _ _ _ _ _ _ _ _ _ _ _ _ _ _ _ _ _ _ _ _ _ _ _ _ _ _ _ _ _ _ _ _ _ _ _ _ _ _ _ _ _ _ _ _ _ _ _ _ _ _ _ _ _ _ _ _ _ _ _ _ _ _ _ _ _ _ _ _ _ _ _ _ _ _ _ _ _ _ _ _ _ _ _ _ _ _ _ _ _ _ _ _ _ _ _ _ _ _ _ _ _ _ _ hv.out he.out
def P6(E:Ap):Bool:=decide (E.tol<0\/20<E.tol\/16<E.points.length\/8<E.gaps.length\/64<E.edges.length)
def Z4(E:Ap):Bool:=decide (16<E.first.length\/16<E.last.length)
def T0(E:Ap):Bool:=decide (E.count< -1\/(E.points.length:Int)<=E.count)
def Q8(E:Ap):Bool:=decide (E.count= -1/\(E.mn≠0\/E.mx≠0))
def Sh(E:Ap):Bool:=decide (E.mn<0\/E.mx<E.mn\/1000<=E.mx)
def s1W(E:Ap):Bool:=decide (0<E.edges.length/\E.first.length=0)
def s2W(E:Ap):Bool:=decide (E.edges.length=0/\0<E.first.length+E.last.length)
def A0(ahead:List ByteArray)(E:Ap):Nat:=
 if Bk E.name=false then 4 else if Cj ahead E.name=true then 6 else if P6 E=true then 2 else if Z4 E=true then 2 else if Ij E.points≠0 then Ij E.points else if T0 E=true then 5
 else if He E=true then 5 else if Q8 E=true then 3 else if Sh E=true then 2 else if E.gaps.any Bu=true then 2 else if Ea E.edges=true then 6 else if Gl E.first=true then 6 else if Gl E.last=true then 6
 else if s1W E=true then 3 else if s2W E=true then 3 else 0
def J5(x:Aw):ByteArray:=x.E.name
theorem Ni{L:List ByteArray}{s:ByteArray}(j:Nat)(hj:j<L.length)(h:L[j].toList=s.toList):Cj L s=true:=List.any_eq_true.2 ⟨_,List.getElem_mem hj,by simp[h]⟩
theorem Ox{L:List ByteArray}{s:ByteArray}(h:∀j (hj:j<L.length),L[j].toList≠s.toList):Cj L s=false:=List.any_eq_false.2 (fun x hx=>by
 obtain⟨j,hj,rfl⟩:=List.mem_iff_getElem.1 hx
 simpa using h j hj)
theorem O4{R:Nat->Prop}{w:World}{ao:Option Addr}{n cap:Nat}{X:List Aw}(h:Ay R w (.slice ao n cap) 10 (X.flatMap Aj) X.length)(h0:0<X.length):
  ∃b off,ao=some ⟨b,off,none⟩/\R b/\b<w.heap.size/\∀k (hk:k<X.length),w.cell? ⟨b,off+k*10,none⟩=some (.string X[k].E.name)/\w.cell? ⟨b,off+k*10+1,none⟩=some (.int .i64 X[k].E.tol)/\w.cell? ⟨b,off+k*10+2,none⟩=some X[k].p/\
   w.cell? ⟨b,off+k*10+3,none⟩=some (.int .i64 X[k].E.count)/\w.cell? ⟨b,off+k*10+4,none⟩=some (.int .i64 X[k].E.mn)/\w.cell? ⟨b,off+k*10+5,none⟩=some (.int .i64 X[k].E.mx)/\w.cell? ⟨b,off+k*10+6,none⟩=some X[k].g/\
   w.cell? ⟨b,off+k*10+7,none⟩=some X[k].e/\w.cell? ⟨b,off+k*10+8,none⟩=some X[k].f/\w.cell? ⟨b,off+k*10+9,none⟩=some X[k].l:=by
 obtain⟨b,off,ha,hR,hb,hc⟩:=h.elem (fun _=>rfl) (by decide) h0
 exact⟨b,off,ha,hR,hb,fun k hk=>⟨hc k hk 0 _ rfl,hc k hk 1 _ rfl,hc k hk 2 _ rfl,hc k hk 3 _ rfl,hc k hk 4 _ rfl,hc k hk 5 _ rfl,hc k hk 6 _ rfl,hc k hk 7 _ rfl,hc k hk 8 _ rfl,hc k hk 9 _ rfl⟩⟩
theorem Du{R:Nat->Prop}{w w':World}(hR:∀b,R b->b<w.heap.size)(h:Below w.heap.size w w'):∀b,R b->b<w'.heap.size:=fun b hb=>Nat.lt_of_lt_of_le (hR b hb) h.size
theorem wG(R:Nat->Prop)(X:List Aw)(v:Value)(i:Nat)(hi:i<X.length)(w:World)(h:La R w v X)(hR:∀b,R b->b<w.heap.size)(hE:Fx X[i].E)(hX:X.length<=1000):
  Calls Tryz.prog 46 #[v,.int .i64 i] w fun e w'=>e=.returned (.int .i64 (A0 ((X.take i).map J5) X[i].E:Nat))/\Below w.heap.size w w':=by
 obtain⟨ao,cap,rfl⟩:=h.row.val
 obtain⟨b,off,rfl,hRb,hb,hc⟩:=O4 h.row (by omega)
 obtain⟨q0,q1,q2,q3,q4,q5,q6,q7,q8,q9⟩:=hc i hi
 have hsl:=h.each X[i] (List.getElem_mem hi)
 obtain⟨ahead,hah⟩:∃ahead,ahead=(X.take i).map J5:=⟨_,rfl⟩
 rw[<-hah]
 have hahl:ahead.length=i:=by rw[hah];simp;omega
 have HNM:Hid (∀k (hk:k<i) (hk2:k<ahead.length),(w.cell? ⟨b,off+k*10,none⟩=some (.string ahead[k]))):=Aia (fun k hk hk2=>by
  have:=(hc k (by omega)).1
  rw[this]
  subst hah
  simp[J5])
 clear hc hah
 obtain⟨E,hEE⟩:∃E,E=X[i].E:=⟨_,rfl⟩
 obtain⟨vp,hvp⟩:∃vp,vp=X[i].p:=⟨_,rfl⟩
 obtain⟨vg,hvg⟩:∃vg,vg=X[i].g:=⟨_,rfl⟩
 obtain⟨ve,hve⟩:∃ve,ve=X[i].e:=⟨_,rfl⟩
 obtain⟨vf,hvf⟩:∃vf,vf=X[i].f:=⟨_,rfl⟩
 obtain⟨vl,hvl⟩:∃vl,vl=X[i].l:=⟨_,rfl⟩
 rw[<-hEE]at q0 q1 q3 q4 q5 hsl hE ⊢
 rw[<-hvp]at q2 hsl
 rw[<-hvg]at q6 hsl
 rw[<-hve]at q7 hsl
 rw[<-hvf]at q8 hsl
 rw[<-hvl]at q9 hsl
 clear hvp hvg hve hvf hvl
 obtain⟨pa,pc,rfl⟩:=hsl.p.val
 obtain⟨ga,gc,rfl⟩:=hsl.g.val
 obtain⟨ea,ec,rfl⟩:=hsl.e.val
 obtain⟨fa,fc,rfl⟩:=hsl.f.val
 obtain⟨la,lc,rfl⟩:=hsl.l.val
 have hEB:EB w R E _ _ _ _ _ w.heap.size (w.alloc (.cells (A7 E (.slice pa E.points.length pc) (.slice ga E.gaps.length gc) (.slice ea E.edges.length ec) (.slice fa E.first.length fc) (.slice la E.last.length lc)) 50)):=
  ⟨Ab _ _,hsl.keep (Ak ((Below.refl _ _).alloc (Nat.le_refl _) _)) (fun _ _ h=>h),(Below.refl _ _).alloc (Nat.le_refl _) _,hR,Nat.le_refl _⟩
 have HAL:=Aia hahl
 have HE1:=Aia hEB
 unfold A7 at HE1
 clear h hsl hEE hEB hahl
 go_enter func46,ntmps46
 go_upto_region 2 with fail
 generalize w.alloc _=w1 at HE1 ⊢
 have HNM1:Hid (∀k (hk:k<i) (hk2:k<ahead.length),(w1.cell? ⟨b,off+k*10,none⟩=some (.string ahead[k]))):=Aia (fun k hk hk2=>by
  rw[HE1.out.bel.cell (p:=⟨b,off+k*10,none⟩) hb]
  exact HNM.out k hk hk2)
 clear HNM q0 q1 q2 q3 q4 q5 q6 q7 q8 q9
 obtain⟨c0,c1,c2,c3,c4,c5,c6,c7,c8,c9⟩:=HE1.out.cells
 have he:=HE1
 go_wp2_with fail
 refine(Vm _ w1).mono ?_
 rintro e w' ⟨rfl,rfl⟩
 cases hnm:Bk E.name with
 |false=>
  have F1:=Aia hnm
  clear hnm
  go_wp2_with fail
  go_ret
  exact⟨A6 (by rw[show A0 ahead E=4 from by simp[A0,F1.out]];rfl),he.out.bel⟩
 |true=>
 have F1:=Aia hnm
 clear hnm c0 c1 c2 c3 c4 c5 c6 c7 c8 c9 he
 go_wp2_with fail
 go_loopw [4,7] (fun s4 s7 wr=>∃k q:Nat,k<=i/\s4=.int .i64 0/\s7=.int .i64 k/\wr=w1.drewN q/\Hid (∀j (hj:j<ahead.length),j<k->ahead[j].toList≠E.name.toList)) (fun _ s7 _=>i-(intOf s7).toNat)
 case atStart=>exact⟨0,0,Nat.zero_le _,rfl,rfl,rfl,fun j _ h=>by omega⟩
 case round=>
  obtain⟨k,q,hk,rfl,rfl,rfl,hall⟩:=hrel
  have he0:EB w R E (.slice pa E.points.length pc) (.slice ga E.gaps.length gc) (.slice ea E.edges.length ec) (.slice fa E.first.length fc) (.slice la E.last.length lc) w.heap.size (w1.drewN q):=HE1.out.keep (Dq q (Ae.refl (fun _=>False) _)) (fun _ h _=>h.elim)
  have he:=Aia he0
  clear he0
  by_cases hlt:k<i
  ·have hka:k<ahead.length:=by have:=HAL.out;omega
   have q0:=HNM1.out k hlt hka
   have hkx:(k:Int)<(X.length:Int):=by omega
   obtain⟨c0,c1,c2,c3,c4,c5,c6,c7,c8,c9⟩:=HE1.out.cells
   clear c1 c2 c3 c4 c5 c6 c7 c8 c9
   by_cases hx:ahead[k].toList=E.name.toList
   ·have hxb:(ahead[k].toList==E.name.toList)=true:=by simp[hx]
    have F2:=Aia (Ni k hka hx)
    clear hx
    go_wp2_with fail
    go_quiet (fail)
    go_wp2_with fail
    go_ret
    exact⟨A6 (by rw[show A0 ahead E=6 from by simp[A0,F1.out,F2.out]];rfl),Ag _ he.out.bel⟩
   ·have hxb:(ahead[k].toList==E.name.toList)=false:=by simp[hx]
    have HX:=Aia hx
    clear hx
    go_wp2_with fail
    go_quiet (fail)
    go_wp2_with fail
    go_roundw
    case rel=>exact⟨k+1,_,by omega,rfl,by go_num,rfl,(show ∀j (hj:j<ahead.length),j<k+1->ahead[j].toList≠E.name.toList from fun j hj hji=>by
     by_cases e:j=k
     ·subst e;exact HX.out
     ·exact hall.out j hj (by omega))⟩
    case measure=>simp[intOf];omega
  ·have F2:=Aia (Ox (L:=ahead) (s:=E.name) (fun j hj=>hall.out j hj (by have:=HAL.out;omega)))
   clear HNM1 HE1 hall
   generalize World.drewN _ _=w2 at he ⊢
   obtain⟨c0,c1,c2,c3,c4,c5,c6,c7,c8,c9⟩:=he.out.cells
   by_cases h1:E.tol<0
   ·have F3:=Aia (show P6 E=true from decide_eq_true (.inl h1))
    go_wp2_with fail
    all_goals
     go_ret
     exact⟨A6 (by rw[show A0 ahead E=2 from by simp only[A0,F1.out,F2.out,F3.out];simp];rfl),he.out.bel⟩
   by_cases h2:20<E.tol
   ·have F3:=Aia (show P6 E=true from decide_eq_true (by omega))
    go_wp2_with fail
    all_goals
     go_ret
     exact⟨A6 (by rw[show A0 ahead E=2 from by simp only[A0,F1.out,F2.out,F3.out];simp];rfl),he.out.bel⟩
   by_cases h3:16<E.points.length
   ·have F3:=Aia (show P6 E=true from decide_eq_true (by omega))
    go_wp2_with fail
    all_goals
     go_ret
     exact⟨A6 (by rw[show A0 ahead E=2 from by simp only[A0,F1.out,F2.out,F3.out];simp];rfl),he.out.bel⟩
   by_cases h4:8<E.gaps.length
   ·have F3:=Aia (show P6 E=true from decide_eq_true (by omega))
    go_wp2_with fail
    all_goals
     go_ret
     exact⟨A6 (by rw[show A0 ahead E=2 from by simp only[A0,F1.out,F2.out,F3.out];simp];rfl),he.out.bel⟩
   by_cases h5:64<E.edges.length
   ·have F3:=Aia (show P6 E=true from decide_eq_true (by omega))
    go_wp2_with fail
    all_goals
     go_ret
     exact⟨A6 (by rw[show A0 ahead E=2 from by simp only[A0,F1.out,F2.out,F3.out];simp];rfl),he.out.bel⟩
   have F3:=Aia (show P6 E=false from decide_eq_false (by omega))
   by_cases h6:16<E.first.length
   ·have F4:=Aia (show Z4 E=true from decide_eq_true (by omega))
    go_wp2_with fail
    all_goals
     go_ret
     exact⟨A6 (by rw[show A0 ahead E=2 from by simp only[A0,F1.out,F2.out,F3.out,F4.out];simp];rfl),he.out.bel⟩
   by_cases h7:16<E.last.length
   ·have F4:=Aia (show Z4 E=true from decide_eq_true (by omega))
    go_wp2_with fail
    all_goals
     go_ret
     exact⟨A6 (by rw[show A0 ahead E=2 from by simp only[A0,F1.out,F2.out,F3.out,F4.out];simp];rfl),he.out.bel⟩
   have F4:=Aia (show Z4 E=false from decide_eq_false (by omega))
   go_wp2_with fail
   clear c0 c1 c2 c3 c4 c5 c6 c7 c8 c9
   refine Ahd R E _ _ _ _ _ _ _ _ w _ hE he _ ?_ ?_ _ _ _ _ _ _ _ _ _ _ _ _ _ _ _ _ _ _ _ _ _ _ _ _ _ _ _ _ _ _ _ _ _ _ _ _ _ _ _ _ _ _ _ _ _ _ _ _ _ _ _ _ _ _ _ _ _ _ _ _ _ _ _ _ _ _ _ _ _ _ _ _ _ _ _ _ _ _ _ _ _ _ _ _ _ _ _ _ _ _ _ _ _ _ _ _ _ _ _ _ _ _ _ _ _ _ _ _ _ _ _ _ _ _ _ _ _ _ _ _ _ _ _ _ _ _ _ _ _ _ _ _ _ _ _ _ _ _ _ _ _ _ _ _ _ _ _ _ _ _ _ _ _ _ _ _ _ _ _ _ _ _ _ _ _ _ _ _ _ _ _ _ _ _ _ _ _ _ _ _ _ _ _ _ _ _ _ _ _ _ _ _ _ _ _ _ _ _ _ _ _ _ _ _ _ _ _ _ _ _ _ _ _ _ _ _ _
   ·intro y0 y1 y2 y3 y5 y6 y7 y8 y9 y10 y11 y12 y13 y14 y15 y16 y17 y18 y19 y20 y21 y22 y23 y24 y25 y26 y27 y28 y29 y30 y31 y32 y33 y34 y35 y36 y37 y38 y39 y40 y41 y42 y43 y44 y45 y46 y47 y48 y49 y50 y51 y52 y53 y54 y55 y56 y57 y58 y59 y60 y61 y62 y63 y64 y65 y66 y67 y68 y69 y70 y71 y72 y73 y74 y75 y76 y77 y78 y79 y80 y81 y82 y83 y84 y85 y86 y87 y88 y89 y90 y91 y92 y93 y94 y95 y96 y97 y98 y99 y100 y101 y102 y103 y104 y105 y106 y107 y108 y109 y110 y111 y112 y113 y114 y115 y116 y117 y118 y119 y120 y121 y122 y123 y124 y125 y126 y127 y128 y129 y130 y131 y132 y133 y134 y135 y136 y137 y138 y139 y140 y141 y142 y143 y144 y145 y146 y147 y148 y149 y150 y151 y152 y153 y154 y155 y156 y157 y158 y159 y160 y161 y162 y163 y164 y165 y166 y167 y168 y169 y170 y171 y172 y173 y174 y175 y176 y177 y178 y179 y180 y181 y182 y183 y184 y185 y186 y187 y188 y189 y190 y191 y192 y193 y194 y195 y196 y197 y198 y199 y200 y201 y202 y203 y204 y205 y206 y207 y208 y209 y210 y211 y212 y213 y214 y215 y216 y217 y218 y219 y220 y221 w3 F5 b3
    go_wp2_with fail
    go_ret
    exact⟨A6 (by rw[show A0 ahead E=Ij E.points from by simp[A0,F1.out,F2.out,F3.out,F4.out,F5]]),b3⟩
   intro y2 y3 y6 y7 y8 y9 y10 y11 y12 y13 y14 y15 y16 y17 y18 y19 y20 y21 y22 y23 y24 y25 y26 y27 y28 y29 y30 y31 y32 y33 y34 y35 y36 y37 y38 y39 y40 y41 y42 y43 y44 y45 y46 y47 y48 y49 y50 y51 y52 y53 y54 y55 y56 y57 y58 y59 y60 y61 y62 y63 y64 y65 y66 y67 y68 y69 y70 y71 y72 y73 y74 y75 y76 y77 y78 y79 y80 y81 y82 y83 y84 y85 y86 y87 y88 y89 y90 y91 y92 y93 y94 y95 y96 y97 y98 y99 y100 y101 y102 y103 y104 y105 y106 y107 y108 y109 y110 y111 y112 y113 y114 y115 y116 y117 y118 y119 y120 y121 y122 y123 y124 y125 y126 y127 y128 y129 y130 y131 y132 y133 y134 y135 y136 y137 y138 y139 y140 y141 y142 y143 y144 y145 y146 y147 y148 y149 y150 y151 y152 y153 y154 y155 y156 y157 y158 y159 y160 y161 y162 y163 y164 y165 y166 y167 y168 y169 y170 y171 y172 y173 y174 y175 y176 y177 y178 y179 y180 y181 y182 y183 y184 y185 y186 y187 y188 y189 y190 y191 y192 y193 y194 y195 y196 y197 y198 y199 y200 y201 y202 y203 y204 y205 y206 y207 y208 y209 y210 y211 y212 y213 y214 y215 y216 y217 y218 y219 y220 y221 w3 f5 he3
   have F5:=Aia f5
   clear f5 he
   have he:=Aia he3
   clear he3
   obtain⟨c0,c1,c2,c3,c4,c5,c6,c7,c8,c9⟩:=he.out.cells
   have hu:((E.points.length:Int))<=16:=by omega
   by_cases h8:E.count< -1
   ·have F6:=Aia (show T0 E=true from decide_eq_true (.inl h8))
    go_wp2_with fail
    all_goals
     go_ret
     exact⟨A6 (by rw[show A0 ahead E=5 from by simp only[A0,F1.out,F2.out,F3.out,F4.out,F5.out,F6.out];simp];rfl),he.out.bel⟩
   by_cases h9:(E.points.length:Int)<=E.count
   ·have F6:=Aia (show T0 E=true from decide_eq_true (.inr h9))
    go_wp2_with fail
    all_goals
     go_ret
     exact⟨A6 (by rw[show A0 ahead E=5 from by simp only[A0,F1.out,F2.out,F3.out,F4.out,F5.out,F6.out];simp];rfl),he.out.bel⟩
   have F6:=Aia (show T0 E=false from decide_eq_false (by omega))
   go_wp2_with fail
   refine(Wh R E _ _ _ _ _ w3 he.out.sl (Du hR he.out.bel) hE).mono ?_
   rintro e w4 ⟨rfl,b4⟩
   have he4:=Aia (he.out.below b4)
   clear c0 c1 c2 c3 c4 c5 c6 c7 c8 c9 b4 he
   have he:=he4
   clear he4
   obtain⟨c0,c1,c2,c3,c4,c5,c6,c7,c8,c9⟩:=he.out.cells
   cases hst:He E with
   |true=>
    have F7:=Aia hst
    clear hst
    go_wp2_with fail
    all_goals
     go_ret
     exact⟨A6 (by rw[show A0 ahead E=5 from by simp only[A0,F1.out,F2.out,F3.out,F4.out,F5.out,F6.out,F7.out];simp];rfl),he.out.bel⟩
   |false=>
   have F7:=Aia hst
   clear hst
   go_upto_region 27 with fail
   go_cut [124] (fun s124 wx=>s124=.bool (Q8 E)/\Hid (EB w R E (.slice pa E.points.length pc) (.slice ga E.gaps.length gc) (.slice ea E.edges.length ec) (.slice fa E.first.length fc) (.slice la E.last.length lc) w.heap.size wx))
   case first=>
    by_cases h10:E.count= -1
    ·have h10b:(E.count== -1)=true:=by simp[h10]
     by_cases h11:E.mn=0
     ·have h11b:(E.mn != 0)=false:=by simp[h11]
      by_cases h12:E.mx=0
      ·have h12b:(E.mx != 0)=false:=by simp[h12]
       have G:=Aia (show Q8 E=false from decide_eq_false (by omega))
       clear h10 h11 h12
       go_wp2_with fail
       all_goals
        go_meet
        exact⟨by rw[G.out];try rfl,he⟩
      ·have h12b:(E.mx != 0)=true:=by simp[h12]
       have G:=Aia (show Q8 E=true from decide_eq_true (by omega))
       clear h10 h11
       go_wp2_with fail
       all_goals
        go_meet
        exact⟨by rw[G.out];try rfl,he⟩
     ·have h11b:(E.mn != 0)=true:=by simp[h11]
      have G:=Aia (show Q8 E=true from decide_eq_true (by omega))
      clear h10
      go_wp2_with fail
      all_goals
       go_meet
       exact⟨by rw[G.out];try rfl,he⟩
    ·have h10b:(E.count== -1)=false:=by simp[h10]
     have G:=Aia (show Q8 E=false from decide_eq_false (by omega))
     go_wp2_with fail
     all_goals
      go_meet
      exact⟨by rw[G.out];try rfl,he⟩
   case rest=>
   clear c0 c1 c2 c3 c4 c5 c6 c7 c8 c9 he
   obtain⟨rfl,he⟩:=hcut
   obtain⟨c0,c1,c2,c3,c4,c5,c6,c7,c8,c9⟩:=he.out.cells
   cases hcm:Q8 E with
   |true=>
    have F8:=Aia hcm
    clear hcm
    go_wp2_with fail
    all_goals
     go_ret
     exact⟨A6 (by rw[show A0 ahead E=3 from by simp only[A0,F1.out,F2.out,F3.out,F4.out,F5.out,F6.out,F7.out,F8.out];simp];rfl),he.out.bel⟩
   |false=>
   have F8:=Aia hcm
   clear hcm
   by_cases h13:E.mn<0
   ·have F9:=Aia (show Sh E=true from decide_eq_true (.inl h13))
    go_wp2_with fail
    all_goals
     go_ret
     exact⟨A6 (by rw[show A0 ahead E=2 from by simp only[A0,F1.out,F2.out,F3.out,F4.out,F5.out,F6.out,F7.out,F8.out,F9.out];simp];rfl),he.out.bel⟩
   by_cases h14:E.mx<E.mn
   ·have F9:=Aia (show Sh E=true from decide_eq_true (.inr (.inl h14)))
    go_wp2_with fail
    all_goals
     go_ret
     exact⟨A6 (by rw[show A0 ahead E=2 from by simp only[A0,F1.out,F2.out,F3.out,F4.out,F5.out,F6.out,F7.out,F8.out,F9.out];simp];rfl),he.out.bel⟩
   by_cases h15:1000<=E.mx
   ·have F9:=Aia (show Sh E=true from decide_eq_true (.inr (.inr h15)))
    go_wp2_with fail
    all_goals
     go_ret
     exact⟨A6 (by rw[show A0 ahead E=2 from by simp only[A0,F1.out,F2.out,F3.out,F4.out,F5.out,F6.out,F7.out,F8.out,F9.out];simp];rfl),he.out.bel⟩
   have F9:=Aia (show Sh E=false from decide_eq_false (by omega))
   go_wp2_with fail
   clear c0 c1 c2 c3 c4 c5 c6 c7 c8 c9
   refine Agf R E _ _ _ _ _ _ _ _ w _ hE he _ ?_ ?_ _ _ _ _ _ _ _ _ _ _ _ _ _ _ _ _ _ _ _ _ _ _ _ _ _ _ _ _ _ _ _ _ _ _ _ _ _ _ _ _ _ _ _ _ _ _ _ _ _ _ _ _ _ _ _ _ _ _ _ _ _ _ _ _ _ _ _ _ _ _ _ _ _ _ _ _ _ _ _ _ _ _ _ _ _ _ _ _ _ _ _ _ _ _ _ _ _ _ _ _ _ _ _ _ _ _ _ _ _ _ _ _ _ _ _ _ _ _ _ _ _ _ _ _ _ _ _ _ _ _ _ _ _ _ _ _ _ _ _ _ _ _ _ _ _ _ _ _ _ _ _ _ _ _ _ _ _ _ _ _ _ _ _ _ _ _ _ _ _ _ _ _ _ _ _ _ _ _ _ _ _ _ _ _ _ _ _ _ _ _ _ _ _ _ _ _ _ _ _ _ _ _ _ _ _ _ _ _ _ _ _ _ _ _ _ _ _
   ·intro y0 y1 y2 y3 y5 y6 y7 y8 y9 y10 y11 y12 y13 y14 y15 y16 y17 y18 y19 y20 y21 y22 y23 y24 y25 y26 y27 y28 y29 y30 y31 y32 y33 y34 y35 y36 y37 y38 y39 y40 y41 y42 y43 y44 y45 y46 y47 y48 y49 y50 y51 y52 y53 y54 y55 y56 y57 y58 y59 y60 y61 y62 y63 y64 y65 y66 y67 y68 y69 y70 y71 y72 y73 y74 y75 y76 y77 y78 y79 y80 y81 y82 y83 y84 y85 y86 y87 y88 y89 y90 y91 y92 y93 y94 y95 y96 y97 y98 y99 y100 y101 y102 y103 y104 y105 y106 y107 y108 y109 y110 y111 y112 y113 y114 y115 y116 y117 y118 y119 y120 y121 y122 y123 y124 y125 y126 y127 y128 y129 y130 y131 y132 y133 y134 y135 y136 y137 y138 y139 y140 y141 y142 y143 y144 y145 y146 y147 y148 y149 y150 y151 y152 y153 y154 y155 y156 y157 y158 y159 y160 y161 y162 y163 y164 y165 y166 y167 y168 y169 y170 y171 y172 y173 y174 y175 y176 y177 y178 y179 y180 y181 y182 y183 y184 y185 y186 y187 y188 y189 y190 y191 y192 y193 y194 y195 y196 y197 y198 y199 y200 y201 y202 y203 y204 y205 y206 y207 y208 y209 y210 y211 y212 y213 y214 y215 y216 y217 y218 y219 y220 y221 w5 F10 b5
    go_wp2_with fail
    go_ret
    exact⟨A6 (by rw[show A0 ahead E=2 from by simp only[A0,F1.out,F2.out,F3.out,F4.out,F5.out,F6.out,F7.out,F8.out,F9.out,F10];simp];rfl),b5⟩
   intro y2 y3 y6 y7 y8 y9 y10 y11 y12 y13 y14 y15 y16 y17 y18 y19 y20 y21 y22 y23 y24 y25 y26 y27 y28 y29 y30 y31 y32 y33 y34 y35 y36 y37 y38 y39 y40 y41 y42 y43 y44 y45 y46 y47 y48 y49 y50 y51 y52 y53 y54 y55 y56 y57 y58 y59 y60 y61 y62 y63 y64 y65 y66 y67 y68 y69 y70 y71 y72 y73 y74 y75 y76 y77 y78 y79 y80 y81 y82 y83 y84 y85 y86 y87 y88 y89 y90 y91 y92 y93 y94 y95 y96 y97 y98 y99 y100 y101 y102 y103 y104 y105 y106 y107 y108 y109 y110 y111 y112 y113 y114 y115 y116 y117 y118 y119 y120 y121 y122 y123 y124 y125 y126 y127 y128 y129 y130 y131 y132 y133 y134 y135 y136 y137 y138 y139 y140 y141 y142 y143 y144 y145 y146 y147 y148 y149 y150 y151 y152 y153 y154 y155 y156 y157 y158 y159 y160 y161 y162 y163 y164 y165 y166 y167 y168 y169 y170 y171 y172 y173 y174 y175 y176 y177 y178 y179 y180 y181 y182 y183 y184 y185 y186 y187 y188 y189 y190 y191 y192 y193 y194 y195 y196 y197 y198 y199 y200 y201 y202 y203 y204 y205 y206 y207 y208 y209 y210 y211 y212 y213 y214 y215 y216 y217 y218 y219 y220 y221 w5 f10 he5
   have F10:=Aia f10
   clear f10 he
   have he:=Aia he5
   clear he5
   go_wp2_with fail
   refine Aen R E _ _ _ _ _ _ _ _ w _ hE he _ ?_ ?_ _ _ _ _ _ _ _ _ _ _ _ _ _ _ _ _ _ _ _ _ _ _ _ _ _ _ _ _ _ _ _ _ _ _ _ _ _ _ _ _ _ _ _ _ _ _ _ _ _ _ _ _ _ _ _ _ _ _ _ _ _ _ _ _ _ _ _ _ _ _ _ _ _ _ _ _ _ _ _ _ _ _ _ _ _ _ _ _ _ _ _ _ _ _ _ _ _ _ _ _ _ _ _ _ _ _ _ _ _ _ _ _ _ _ _ _ _ _ _ _ _ _ _ _ _ _ _ _ _ _ _ _ _ _ _ _ _ _ _ _ _ _ _ _ _ _ _ _ _ _ _ _ _ _ _ _ _ _ _ _ _ _ _ _ _ _ _ _ _ _ _ _ _ _ _ _ _ _ _ _ _ _ _ _ _ _ _ _ _ _ _ _ _ _ _ _ _ _ _ _ _ _ _ _ _ _ _ _ _ _ _ _ _ _ _ _ _
   ·intro y0 y1 y2 y3 y5 y6 y7 y8 y9 y10 y11 y12 y13 y14 y15 y16 y17 y18 y19 y20 y21 y22 y23 y24 y25 y26 y27 y28 y29 y30 y31 y32 y33 y34 y35 y36 y37 y38 y39 y40 y41 y42 y43 y44 y45 y46 y47 y48 y49 y50 y51 y52 y53 y54 y55 y56 y57 y58 y59 y60 y61 y62 y63 y64 y65 y66 y67 y68 y69 y70 y71 y72 y73 y74 y75 y76 y77 y78 y79 y80 y81 y82 y83 y84 y85 y86 y87 y88 y89 y90 y91 y92 y93 y94 y95 y96 y97 y98 y99 y100 y101 y102 y103 y104 y105 y106 y107 y108 y109 y110 y111 y112 y113 y114 y115 y116 y117 y118 y119 y120 y121 y122 y123 y124 y125 y126 y127 y128 y129 y130 y131 y132 y133 y134 y135 y136 y137 y138 y139 y140 y141 y142 y143 y144 y145 y146 y147 y148 y149 y150 y151 y152 y153 y154 y155 y156 y157 y158 y159 y160 y161 y162 y163 y164 y165 y166 y167 y168 y169 y170 y171 y172 y173 y174 y175 y176 y177 y178 y179 y180 y181 y182 y183 y184 y185 y186 y187 y188 y189 y190 y191 y192 y193 y194 y195 y196 y197 y198 y199 y200 y201 y202 y203 y204 y205 y206 y207 y208 y209 y210 y211 y212 y213 y214 y215 y216 y217 y218 y219 y220 y221 w6 F11 b6
    go_wp2_with fail
    go_ret
    exact⟨A6 (by rw[show A0 ahead E=6 from by simp only[A0,F1.out,F2.out,F3.out,F4.out,F5.out,F6.out,F7.out,F8.out,F9.out,F10.out,F11];simp];rfl),b6⟩
   intro y2 y3 y6 y7 y8 y9 y10 y11 y12 y13 y14 y15 y16 y17 y18 y19 y20 y21 y22 y23 y24 y25 y26 y27 y28 y29 y30 y31 y32 y33 y34 y35 y36 y37 y38 y39 y40 y41 y42 y43 y44 y45 y46 y47 y48 y49 y50 y51 y52 y53 y54 y55 y56 y57 y58 y59 y60 y61 y62 y63 y64 y65 y66 y67 y68 y69 y70 y71 y72 y73 y74 y75 y76 y77 y78 y79 y80 y81 y82 y83 y84 y85 y86 y87 y88 y89 y90 y91 y92 y93 y94 y95 y96 y97 y98 y99 y100 y101 y102 y103 y104 y105 y106 y107 y108 y109 y110 y111 y112 y113 y114 y115 y116 y117 y118 y119 y120 y121 y122 y123 y124 y125 y126 y127 y128 y129 y130 y131 y132 y133 y134 y135 y136 y137 y138 y139 y140 y141 y142 y143 y144 y145 y146 y147 y148 y149 y150 y151 y152 y153 y154 y155 y156 y157 y158 y159 y160 y161 y162 y163 y164 y165 y166 y167 y168 y169 y170 y171 y172 y173 y174 y175 y176 y177 y178 y179 y180 y181 y182 y183 y184 y185 y186 y187 y188 y189 y190 y191 y192 y193 y194 y195 y196 y197 y198 y199 y200 y201 y202 y203 y204 y205 y206 y207 y208 y209 y210 y211 y212 y213 y214 y215 y216 y217 y218 y219 y220 y221 w6 f11 he6
   have F11:=Aia f11
   clear f11 he
   have he:=Aia he6
   clear he6
   obtain⟨c0,c1,c2,c3,c4,c5,c6,c7,c8,c9⟩:=he.out.cells
   go_wp2_with fail
   refine(Xf R E.first _ w6 he.out.sl.f (by have:=hE.f;omega)).mono ?_
   rintro e w7 ⟨rfl,nq,rfl⟩
   have he7:=Aia (he.out.keep (Dq nq (Ae.refl (fun _=>False) _)) (fun _ h _=>h.elim))
   clear c0 c1 c2 c3 c4 c5 c6 c7 c8 c9 he
   have he:=he7
   clear he7
   generalize World.drewN _ _=w7 at he ⊢
   obtain⟨c0,c1,c2,c3,c4,c5,c6,c7,c8,c9⟩:=he.out.cells
   cases htw:Gl E.first with
   |true=>
    have F12:=Aia htw
    clear htw
    go_wp2_with fail
    all_goals
     go_ret
     exact⟨A6 (by rw[show A0 ahead E=6 from by simp only[A0,F1.out,F2.out,F3.out,F4.out,F5.out,F6.out,F7.out,F8.out,F9.out,F10.out,F11.out,F12.out];simp];rfl),he.out.bel⟩
   |false=>
   have F12:=Aia htw
   clear htw
   go_wp2_with fail
   refine(Xf R E.last _ w7 he.out.sl.l (by have:=hE.l;omega)).mono ?_
   rintro e w8 ⟨rfl,nq2,rfl⟩
   have he8:=Aia (he.out.keep (Dq nq2 (Ae.refl (fun _=>False) _)) (fun _ h _=>h.elim))
   clear c0 c1 c2 c3 c4 c5 c6 c7 c8 c9 he
   have he:=he8
   clear he8
   generalize World.drewN _ _=w8 at he ⊢
   obtain⟨c0,c1,c2,c3,c4,c5,c6,c7,c8,c9⟩:=he.out.cells
   cases htl:Gl E.last with
   |true=>
    have F13:=Aia htl
    clear htl
    go_wp2_with fail
    all_goals
     go_ret
     exact⟨A6 (by rw[show A0 ahead E=6 from by simp only[A0,F1.out,F2.out,F3.out,F4.out,F5.out,F6.out,F7.out,F8.out,F9.out,F10.out,F11.out,F12.out,F13.out];simp];rfl),he.out.bel⟩
   |false=>
   have F13:=Aia htl
   clear htl
   by_cases h16:0<E.edges.length
   ·have F15:=Aia (show s2W E=false from decide_eq_false (by omega))
    have h16b:((E.edges.length:Int)==0)=false:=beq_eq_false_iff_ne.2 (by omega)
    by_cases h17:E.first.length=0
    ·have h17b:((E.first.length:Int)==0)=true:=by simp[h17]
     have F14:=Aia (show s1W E=true from decide_eq_true ⟨h16,h17⟩)
     have H17:=Aia h17
     clear h17
     go_wp2_with fail
     all_goals
      go_ret
      exact⟨A6 (by rw[show A0 ahead E=3 from by simp only[A0,F1.out,F2.out,F3.out,F4.out,F5.out,F6.out,F7.out,F8.out,F9.out,F10.out,F11.out,F12.out,F13.out,F14.out];simp];rfl),he.out.bel⟩
    ·have h17b:((E.first.length:Int)==0)=false:=by simp[h17]
     have F14:=Aia (show s1W E=false from decide_eq_false (fun h=>h17 h.2))
     go_wp2_with fail
     all_goals
      go_ret
      exact⟨A6 (by rw[show A0 ahead E=0 from by simp only[A0,F1.out,F2.out,F3.out,F4.out,F5.out,F6.out,F7.out,F8.out,F9.out,F10.out,F11.out,F12.out,F13.out,F14.out,F15.out];simp];rfl),he.out.bel⟩
   ·have F14:=Aia (show s1W E=false from decide_eq_false (fun h=>h16 h.1))
    have h16b:((E.edges.length:Int)==0)=true:=beq_iff_eq.2 (by omega)
    by_cases h18:0<E.first.length+E.last.length
    ·have F15:=Aia (show s2W E=true from decide_eq_true (by omega))
     have h18b:(0:Int)<(E.first.length:Int)+E.last.length:=by omega
     go_wp2_with fail
     all_goals
      go_ret
      exact⟨A6 (by rw[show A0 ahead E=3 from by simp only[A0,F1.out,F2.out,F3.out,F4.out,F5.out,F6.out,F7.out,F8.out,F9.out,F10.out,F11.out,F12.out,F13.out,F14.out,F15.out];simp];rfl),he.out.bel⟩
    ·have F15:=Aia (show s2W E=false from decide_eq_false (by omega))
     have h18b:¬(0:Int)<(E.first.length:Int)+E.last.length:=by omega
     go_wp2_with fail
     all_goals
      go_ret
      exact⟨A6 (by rw[show A0 ahead E=0 from by simp only[A0,F1.out,F2.out,F3.out,F4.out,F5.out,F6.out,F7.out,F8.out,F9.out,F10.out,F11.out,F12.out,F13.out,F14.out,F15.out];simp];rfl),he.out.bel⟩
theorem yR(w:World)(s:ByteArray):∃cap w',(convert 9 85 (.string s)).run Tryz.prog w=.ok (.slice (some ⟨w.heap.size,0,none⟩) s.size cap) w'/\(∀j (hj:j<s.size),w'.cell? ⟨w.heap.size,j,none⟩=some (.int .u8 (s[j].toNat:Int)))/\Below w.heap.size w w':=by
 have h:=run_bytes_of_string w 9 85 5 s underlying9 underlying85 underlying5
 refine⟨_,_,h,fun j hj=>?_,((Below.refl w.heap.size w).drew).alloc (Nat.le_refl _) _⟩
 have e:w.heap.size=w.drew.heap.size:=rfl
 conv=>lhs;arg 2;rw[e]
 rw[World.cell?_alloc_mark]
 exact bytesRow_at s _ j hj
def J3(c:UInt8):Bool:=!decide (97<=c.toNat/\c.toNat<=122)&&(!decide (48<=c.toNat/\c.toNat<=57)&& !decide (c.toNat=45))
def Pc(s:ByteArray):Bool:=(List.range s.size).any (fun i=>J3 (s.data.toList.getD i 0))
theorem Wc{s:ByteArray}(i:Nat)(hi:i<s.size)(h:J3 s[i]=true):Pc s=true:=
 List.any_eq_true.2 ⟨i,List.mem_range.2 hi,by rw[Nk s i hi];exact h⟩
theorem rI{s:ByteArray}(h:∀i (hi:i<s.size),J3 s[i]=false):Pc s=false:=
 List.any_eq_false.2 (fun i hi=>by
  have hi':=List.mem_range.1 hi
  rw[Nk s i hi',h i hi'];decide)
theorem gI{s:ByteArray}(h:Pc s=false):∀i (hi:i<s.size),J3 s[i]=false:=fun i hi=>by
 cases hb:J3 s[i]
 ·rfl
 ·rw[Wc i hi hb]at h;cases h
theorem Adk{s:ByteArray}(h1:1<=s.size)(h2:s.size<=12)(h3:97<=(s[0]'(by omega)).toNat/\(s[0]'(by omega)).toNat<=122):Bk s= !Pc s:=by
 cases hb:Pc s
 ·refine Rr ⟨h1,h2⟩ (fun i hi=>?_)
  have:=gI hb i hi
  unfold J3 at this
  unfold okN
  rw[decide_eq_true_iff]
  by_cases hi0:i=0
  ·subst hi0;exact .inl h3
  ·simp at this
   omega
 ·have:∃i,∃hi:i<s.size,J3 s[i]=true:=by
   obtain⟨i,hi,h⟩:=List.any_eq_true.1 hb
   have hi':=List.mem_range.1 hi
   exact⟨i,hi',by rw[Nk s i hi']at h;exact h⟩
  obtain⟨i,hi,h⟩:=this
  refine Fy i hi ?_
  unfold J3 at h
  unfold okN
  simp at h
  rw[decide_eq_false_iff_not]
  omega
theorem Th{s:ByteArray}(h1:1<=s.size)(h3:¬(97<=(s[0]'(by omega)).toNat/\(s[0]'(by omega)).toNat<=122)):Bk s=false:=by
 refine Fy 0 h1 ?_
 unfold okN
 rw[decide_eq_false_iff_not]
 simp
 omega
theorem Aaj(c:UInt8)(w:World):Calls Tryz.prog 202 #[.int .u8 (c.toNat:Int)] w fun e w'=>e=.returned (.bool (J3 c))/\w=w':=by
 obtain⟨x,hx⟩:∃x:Int,x=(c.toNat:Int):=⟨_,rfl⟩
 rw[<-hx]
 have HX:=Aia hx
 clear hx
 by_cases h1:97<=x
 ·by_cases h2:x<=122
  ·have HV:=Aia (show J3 c=false from by have:=HX.out;unfold J3;rw[decide_eq_true (show 97<=c.toNat/\c.toNat<=122 by omega)];rfl)
   go_enter func202,ntmps202
   go_wp2_with fail
   go_ret
   exact⟨Ah HV.out.symm,rfl⟩
  ·have h3:48<=x:=by omega
   have h4:¬x<=57:=by omega
   have h5:(x != 45)=true:=by simp;omega
   have HV:=Aia (show J3 c=true from by have:=HX.out;unfold J3;rw[decide_eq_false (show ¬(97<=c.toNat/\c.toNat<=122)by omega),decide_eq_false (show ¬(48<=c.toNat/\c.toNat<=57)by omega),decide_eq_false (show ¬c.toNat=45 by omega)];rfl)
   go_enter func202,ntmps202
   go_wp2_with fail
   go_ret
   exact⟨Ah HV.out.symm,rfl⟩
 ·by_cases h3:48<=x
  ·by_cases h4:x<=57
   ·have HV:=Aia (show J3 c=false from by have:=HX.out;unfold J3;rw[decide_eq_false (show ¬(97<=c.toNat/\c.toNat<=122)by omega),decide_eq_true (show 48<=c.toNat/\c.toNat<=57 by omega)];rfl)
    go_enter func202,ntmps202
    go_wp2_with fail
    go_ret
    exact⟨Ah HV.out.symm,rfl⟩
   ·have h5:(x != 45)=true:=by simp;omega
    have HV:=Aia (show J3 c=true from by have:=HX.out;unfold J3;rw[decide_eq_false (show ¬(97<=c.toNat/\c.toNat<=122)by omega),decide_eq_false (show ¬(48<=c.toNat/\c.toNat<=57)by omega),decide_eq_false (show ¬c.toNat=45 by omega)];rfl)
    go_enter func202,ntmps202
    go_wp2_with fail
    go_ret
    exact⟨Ah HV.out.symm,rfl⟩
  ·by_cases h6:x=45
   ·have h5:(x != 45)=false:=by simp[h6]
    have HV:=Aia (show J3 c=false from by have:=HX.out;unfold J3;rw[decide_eq_false (show ¬(97<=c.toNat/\c.toNat<=122)by omega),decide_eq_false (show ¬(48<=c.toNat/\c.toNat<=57)by omega),decide_eq_true (show c.toNat=45 by omega)];rfl)
    clear h6
    go_enter func202,ntmps202
    go_wp2_with fail
    go_ret
    exact⟨Ah HV.out.symm,rfl⟩
   ·have h5:(x != 45)=true:=by simp;exact h6
    have HV:=Aia (show J3 c=true from by have:=HX.out;unfold J3;rw[decide_eq_false (show ¬(97<=c.toNat/\c.toNat<=122)by omega),decide_eq_false (show ¬(48<=c.toNat/\c.toNat<=57)by omega),decide_eq_false (show ¬c.toNat=45 by omega)];rfl)
    clear h6
    go_enter func202,ntmps202
    go_wp2_with fail
    go_ret
    exact⟨Ah HV.out.symm,rfl⟩
def pA:Value:=.func (.func 202) #[] #[]
theorem pU(s:ByteArray)(b cap:Nat)(w:World)(h:∀j (hj:j<s.size),w.cell? ⟨b,j,none⟩=some (.int .u8 (s[j].toNat:Int)))(hn:s.size<=1000000):
  Calls Tryz.prog 241 #[.slice (some ⟨b,0,none⟩) s.size cap,pA] w fun e w'=>∃r:Int,e=.returned (.int .i64 r)/\decide (0<=r)=Pc s/\w=w':=by
 have H:=Aia h
 clear h
 unfold pA
 go_enter func241,ntmps241
 go_wp2_with fail
 go_loop [8] (fun t=>∃k:Nat,k<=s.size/\t=.int .i64 k/\Hid (∀j (hj:j<s.size),j<k->J3 s[j]=false)) (fun t=>s.size-(intOf t).toNat)
 case atStart=>exact⟨0,Nat.zero_le _,rfl,fun j hj h=>by omega⟩
 case round=>
  obtain⟨k,hk,rfl,hall⟩:=hrel
  by_cases hlt:k<s.size
  ·have q:=H.out k hlt
   have HC:=Aia (Aaj s[k] w)
   cases hb:J3 s[k]
   ·rw[hb]at HC
    have nx:Hid (∀j (hj:j<s.size),j<k+1->J3 s[j]=false):=Aia (fun j hj h=>by
     by_cases e:j=k
     ·subst e;exact hb
     ·exact hall.out j hj (by omega))
    clear hb hall
    go_wp2_with fail
    refine HC.out.mono ?_
    rintro e w' ⟨rfl,rfl⟩
    go_wp2_with fail
    go_round
    case rel=>exact⟨k+1,by omega,by go_num,nx⟩
    case measure=>simp[intOf];omega
   ·rw[hb]at HC
    have HB:=Aia (Wc k hlt hb)
    clear hb hall
    go_wp2_with fail
    refine HC.out.mono ?_
    rintro e w' ⟨rfl,rfl⟩
    go_wp2_with fail
    go_ret
    exact⟨_,rfl,by rw[HB.out];exact decide_eq_true (by omega),rfl⟩
  ·have HB:=Aia (rI (s:=s) (fun j hj=>hall.out j hj (by omega)))
   clear hall
   go_wp2_with fail
   go_ret
   exact⟨_,rfl,by rw[HB.out];rfl,rfl⟩
theorem qY(s:ByteArray)(b cap:Nat)(w:World)(h:∀j (hj:j<s.size),w.cell? ⟨b,j,none⟩=some (.int .u8 (s[j].toNat:Int)))(hn:s.size<=1000000):
  Calls Tryz.prog 201 #[.slice (some ⟨b,0,none⟩) s.size cap,pA] w fun e w'=>e=.returned (.bool (Pc s))/\w=w':=by
 have H:=Aia (pU s b cap w h hn)
 clear h
 unfold pA at H ⊢
 go_enter func201,ntmps201
 go_wp2_with fail
 refine H.out.mono ?_
 rintro e w' ⟨r,rfl,hr,rfl⟩
 have HR:=Aia hr
 clear hr
 go_wp2_with fail
 go_ret
 exact⟨Ah HR.out,rfl⟩
theorem Ry(s:ByteArray)(w:World):Calls Tryz.prog 163 #[.string s] w fun e w'=>e=.returned (.bool (Bk s))/\Below w.heap.size w w':=by
 have hsz:s.toList.length=s.size:=by rw[ByteArray.toList_eq,Array.length_toList];rfl
 by_cases h0:s.size=0
 ·have HB:=Aia (Gj (s:=s) (by omega))
  have hb:s.toList.isEmpty=true:=by
   rw[List.eq_nil_of_length_eq_zero (show s.toList.length=0 by omega)];rfl
  clear h0 hsz
  go_enter func163,ntmps163
  go_wp2_with fail
  go_ret
  exact⟨Ah HB.out.symm,Below.refl _ _⟩
 have hb:s.toList.isEmpty=false:=by
  cases hl:s.toList with
  |nil=>rw[hl]at hsz;exact(h0 (by rw[<-hsz];rfl)).elim
  |cons _ _=>rfl
 clear hsz
 have hpos:0<s.size:=by omega
 by_cases h12:12<s.size
 ·have HB:=Aia (Gj (s:=s) (by omega))
  go_enter func163,ntmps163
  go_wp2_with fail
  go_ret
  exact⟨Ah HB.out.symm,Below.refl _ _⟩
 by_cases h97:97<=((s[0]'hpos).toNat:Int)
 ·by_cases h122:((s[0]'hpos).toNat:Int)<=122
  ·have HB:=Aia (Adk hpos (by omega) (show 97<=(s[0]'hpos).toNat/\(s[0]'hpos).toNat<=122 by omega))
   obtain⟨cap,w1,hcv,hrow,hbl⟩:=yR w s
   have HC:=Aia (qY s w.heap.size cap w1 hrow (by omega))
   have HBL:=Aia hbl
   clear hrow hbl
   unfold pA at HC
   go_enter func163,ntmps163
   go_wp2_with fail
   refine HC.out.mono ?_
   rintro e w' ⟨rfl,rfl⟩
   rw[show Pc s= !Bk s from by rw[HB.out,Bool.not_not]]
   go_wp2_with fail
   go_ret
   exact⟨Ah (by first|rfl|simp),HBL.out⟩
  ·have HB:=Aia (Th hpos (by omega))
   go_enter func163,ntmps163
   go_wp2_with fail
   go_ret
   exact⟨Ah HB.out.symm,Below.refl _ _⟩
 ·have HB:=Aia (Th hpos (by omega))
  go_enter func163,ntmps163
  go_wp2_with fail
  go_ret
  exact⟨Ah HB.out.symm,Below.refl _ _⟩
theorem Ael(X:Aw)(nm:ByteArray)(eb:Nat)(w:World)(h:w.cell? ⟨eb,0,none⟩=some (.string nm)):
  Calls Tryz.prog 165 #[.agg (A7 X.E X.p X.g X.e X.f X.l),.pointer (some ⟨eb,0,none⟩)] w fun e w'=>e=.returned (.bool (X.E.name.toList==nm.toList))/\Below w.heap.size w w':=by
 have hlt:=World.block_lt_of_cell? _ ⟨eb,0,none⟩ h
 have q:=rD h (.cells (A7 X.E X.p X.g X.e X.f X.l) 50)
 have hne:¬eb=w.heap.size:=by simp only at hlt;omega
 have hne2:¬w.heap.size=eb:=by simp only at hlt;omega
 clear h
 unfold A7 at q ⊢
 go_enter func165,ntmps165
 go_wp2_with fail
 go_ret
 exact⟨rfl,(Below.refl _ _).alloc (Nat.le_refl _) _⟩
def qK(eb:Nat):Value:=.func (.func 165) #[] #[.pointer (some ⟨eb,0,none⟩)]
theorem vN (R : Nat → Prop) (X : List Aw) (v : Value) (nm : ByteArray) (eb : Nat) (w : World) (h : Ay R w v 10 (X.flatMap Aj) X.length) (hR : ∀ b, R b → b < w.heap.size) (hX : X.length ≤ 100000) (he : w.cell? ⟨eb, 0, none⟩ = some (.string nm)) :
    Calls Tryz.prog 203 #[v, qK eb] w fun e w' => ∃ r : Int, e = .returned (.int .i64 r) ∧ decide (0 ≤ r) = Cj (X.map J5) nm ∧ Below w.heap.size w w' := by
  obtain ⟨ao, cap, rfl⟩ := h.val
  have H := Aia h
  have HE := Aia he
  have hlt := World.block_lt_of_cell? _ ⟨eb, 0, none⟩ he
  clear h he
  unfold qK
  go_enter func203, ntmps203
  go_wp2_with fail
  go_loopw [8] (fun t wr => ∃ k : Nat, k ≤ X.length ∧ t = .int .i64 k ∧ Below w.heap.size w wr ∧ Hid (∀ j (hj : j < X.length), j < k → X[j].E.name.toList ≠ nm.toList)) (fun t _ => X.length - (intOf t).toNat)
  case atStart => exact ⟨0, Nat.zero_le _, rfl, Below.refl _ _, fun j hj h => by omega⟩
  case round =>
    obtain ⟨k, hk, rfl, hbl, hall⟩ := hrel
    by_cases hkl : k < X.length
    · obtain ⟨b, off, rfl, hRb, hb, hc⟩ := O4 H.out (by omega)
      obtain ⟨q0, q1, q2, q3, q4, q5, q6, q7, q8, q9⟩ := hc k hkl
      have hRb' := hR b hRb
      rw [← hbl.cell hRb'] at q0 q1 q2 q3 q4 q5 q6 q7 q8 q9
      have HC := Aia (Ael X[k] nm eb wr (by rw [hbl.cell (p := ⟨eb, 0, none⟩) hlt]; exact HE.out))
      unfold A7 at HC
      clear hc
      by_cases hn : X[k].E.name.toList = nm.toList
      · have HH := Aia (Ni (L := X.map J5) (s := nm) k (by simpa using hkl) (by simpa [J5] using hn))
        rw [show (X[k].E.name.toList == nm.toList) = true from by simp [hn]] at HC
        clear hn hall
        go_wp2_with fail
        refine HC.out.mono ?_
        rintro e w2 ⟨rfl, b2⟩
        go_wp2_with fail
        go_ret
        exact ⟨_, rfl, by rw [HH.out]; exact decide_eq_true (by omega), hbl.trans (b2.mono hbl.size)⟩
      · rw [show (X[k].E.name.toList == nm.toList) = false from by simp [hn]] at HC
        have nx : Hid (∀ j (hj : j < X.length), j < k + 1 → X[j].E.name.toList ≠ nm.toList) := Aia (fun j hj h => by
          by_cases e : j = k
          · subst e; exact hn
          · exact hall.out j hj (by omega))
        clear hn hall
        go_wp2_with fail
        refine HC.out.mono ?_
        rintro e w2 ⟨rfl, b2⟩
        have hb2 := hbl.trans (b2.mono hbl.size)
        clear b2
        go_wp2_with fail
        go_roundw
        case rel => exact ⟨k + 1, by omega, by go_num, hb2, nx⟩
        case measure => simp [intOf]; omega
    · have HB := Aia (Ox (L := X.map J5) (s := nm) (fun j hj => by simpa [J5] using hall.out j (by simpa using hj) (by have : j < X.length := (by simpa using hj);omega)))
      clear hall
      go_wp2_with fail
      go_ret
      exact ⟨_, rfl, by rw [HB.out]; rfl, hbl⟩
theorem wX(R:Nat->Prop)(X:List Aw)(v:Value)(nm:ByteArray)(eb:Nat)(w:World)(h:Ay R w v 10 (X.flatMap Aj) X.length)(hR:∀b,R b->b<w.heap.size)(hX:X.length<=100000)(he:w.cell? ⟨eb,0,none⟩=some (.string nm)):
  Calls Tryz.prog 164 #[v,qK eb] w fun e w'=>e=.returned (.bool (Cj (X.map J5) nm))/\Below w.heap.size w w':=by
 obtain⟨ao,cap,rfl⟩:=h.val
 have H:=Aia (vN R X _ nm eb w h hR hX he)
 clear h he
 unfold qK at H ⊢
 go_enter func164,ntmps164
 go_wp2_with fail
 refine H.out.mono ?_
 rintro e w' ⟨r,rfl,hr,hb⟩
 have HR:=Aia hr
 clear hr
 go_wp2_with fail
 go_ret
 exact⟨Ah HR.out,hb⟩
def Ly(n:Int)(p:Int):Bool:=decide (p<0\/n<=p)
theorem Acf(p n:Int)(nb:Nat)(w:World)(h:w.cell? ⟨nb,0,none⟩=some (.int .i64 n)):
  Calls Tryz.prog 244 #[.int .i64 p,.pointer (some ⟨nb,0,none⟩)] w fun e w'=>e=.returned (.bool (Ly n p))/\w=w':=by
 by_cases h1:p<0
 ·have HV:=Aia (show Ly n p=true from decide_eq_true (.inl h1))
  go_enter func244,ntmps244
  go_wp2_with fail
  go_ret
  exact⟨Ah HV.out.symm,rfl⟩
 ·have HV:=Aia (show Ly n p=decide (n<=p)from by unfold Ly;rw[decide_eq_decide];omega)
  go_enter func244,ntmps244
  go_wp2_with fail
  go_ret
  exact⟨Ah HV.out.symm,rfl⟩
def kC(nb:Nat):Value:=.func (.func 244) #[] #[.pointer (some ⟨nb,0,none⟩)]
theorem vK(R:Nat->Prop)(l:List Int)(v:Value)(n:Int)(nb:Nat)(w:World)(h:Ay R w v 1 (Ac l) l.length)(hl:l.length<=100000)(he:w.cell? ⟨nb,0,none⟩=some (.int .i64 n)):
  Calls Tryz.prog 278 #[v,kC nb] w fun e w'=>∃r:Int,e=.returned (.int .i64 r)/\decide (0<=r)=l.any (Ly n)/\w=w':=by
 obtain⟨ao,cap,rfl⟩:=h.val
 have H:=Aia h
 have HE:=Aia he
 clear h he
 unfold kC
 go_enter func278,ntmps278
 go_wp2_with fail
 go_loop [8] (fun t=>∃k:Nat,k<=l.length/\t=.int .i64 k/\Hid (∀j (hj:j<l.length),j<k->Ly n l[j]=false)) (fun t=>l.length-(intOf t).toNat)
 case atStart=>exact⟨0,Nat.zero_le _,rfl,fun j hj h=>by omega⟩
 case round=>
  obtain⟨k,hk,rfl,hall⟩:=hrel
  by_cases hkl:k<l.length
  ·obtain⟨b,off,rfl,hRb,_,hc⟩:=Kn H.out (by omega)
   have q:=hc k hkl
   clear hc
   have HC:=Aia (Acf l[k] n nb w HE.out)
   cases hb:Ly n l[k]
   ·rw[hb]at HC
    have nx:Hid (∀j (hj:j<l.length),j<k+1->Ly n l[j]=false):=Aia (fun j hj h=>by
     by_cases e:j=k
     ·subst e;exact hb
     ·exact hall.out j hj (by omega))
    clear hb hall
    go_wp2_with fail
    refine HC.out.mono ?_
    rintro e w' ⟨rfl,rfl⟩
    go_wp2_with fail
    go_round
    case rel=>exact⟨k+1,by omega,by go_num,nx⟩
    case measure=>simp[intOf];omega
   ·rw[hb]at HC
    have HB:=Aia (List.any_eq_true.2 ⟨l[k],List.getElem_mem hkl,hb⟩)
    clear hb hall
    go_wp2_with fail
    refine HC.out.mono ?_
    rintro e w' ⟨rfl,rfl⟩
    go_wp2_with fail
    go_ret
    exact⟨_,rfl,by rw[HB.out];exact decide_eq_true (by omega),rfl⟩
  ·have HB:Hid (l.any (Ly n)=false):=List.any_eq_false.2 (fun x hx=>by
    obtain⟨j,hj,rfl⟩:=List.mem_iff_getElem.1 hx
    rw[hall.out j hj (by omega)];decide)
   clear hall
   go_wp2_with fail
   go_ret
   exact⟨_,rfl,by rw[HB.out];rfl,rfl⟩
theorem wV(R:Nat->Prop)(l:List Int)(v:Value)(n:Int)(nb:Nat)(w:World)(h:Ay R w v 1 (Ac l) l.length)(hl:l.length<=100000)(he:w.cell? ⟨nb,0,none⟩=some (.int .i64 n)):
  Calls Tryz.prog 243 #[v,kC nb] w fun e w'=>e=.returned (.bool (l.any (Ly n)))/\w=w':=by
 obtain⟨ao,cap,rfl⟩:=h.val
 have H:=Aia (vK R l _ n nb w h hl he)
 clear h he
 unfold kC at H ⊢
 go_enter func243,ntmps243
 go_wp2_with fail
 refine H.out.mono ?_
 rintro e w' ⟨r,rfl,hr,rfl⟩
 have HR:=Aia hr
 clear hr
 go_wp2_with fail
 go_ret
 exact⟨Ah HR.out,rfl⟩
theorem Aeh(g:Lb)(w:World):
  Calls Tryz.prog 209 #[.agg #[.int .i64 g.fr,.int .i64 g.dst,.int .i64 g.mn,.int .i64 g.mx]] w fun e w'=>e=.returned (.bool (Bu g))/\Below w.heap.size w w':=by
 by_cases h1:g.mn<0
 ·have HV:=Aia (show Bu g=true from decide_eq_true (.inl h1))
  go_enter func209,ntmps209
  go_wp2_with fail
  go_ret
  exact⟨Ah HV.out.symm,(Below.refl _ _).alloc (Nat.le_refl _) _⟩
 ·by_cases h2:g.mx<g.mn
  ·have HV:=Aia (show Bu g=true from decide_eq_true (.inr (.inl h2)))
   go_enter func209,ntmps209
   go_wp2_with fail
   go_ret
   exact⟨Ah HV.out.symm,(Below.refl _ _).alloc (Nat.le_refl _) _⟩
  ·have HV:=Aia (show Bu g=decide (1099511627776<g.mx)from by unfold Bu;rw[decide_eq_decide];omega)
   go_enter func209,ntmps209
   go_wp2_with fail
   go_ret
   exact⟨Ah HV.out.symm,(Below.refl _ _).alloc (Nat.le_refl _) _⟩
def qD:Value:=.func (.func 209) #[] #[]
theorem vM(R:Nat->Prop)(l:List Lb)(v:Value)(w:World)(h:Ay R w v 4 (l.flatMap Ck) l.length)(hR:∀b,R b->b<w.heap.size)(hl:l.length<=100000):
  Calls Tryz.prog 245 #[v,qD] w fun e w'=>∃r:Int,e=.returned (.int .i64 r)/\decide (0<=r)=l.any Bu/\Below w.heap.size w w':=by
 obtain⟨ao,cap,rfl⟩:=h.val
 have H:=Aia h
 clear h
 unfold qD
 go_enter func245,ntmps245
 go_wp2_with fail
 go_loopw [8] (fun t wr=>∃k:Nat,k<=l.length/\t=.int .i64 k/\Below w.heap.size w wr/\Hid (∀j (hj:j<l.length),j<k->Bu l[j]=false)) (fun t _=>l.length-(intOf t).toNat)
 case atStart=>exact⟨0,Nat.zero_le _,rfl,Below.refl _ _,fun j hj h=>by omega⟩
 case round=>
  obtain⟨k,hk,rfl,hbl,hall⟩:=hrel
  by_cases hkl:k<l.length
  ·obtain⟨gb,goff,rfl,hRg,_,hcg⟩:=H.out.elem (f:=Ck) (fun _=>rfl) (by decide) (by omega)
   have x0:=hcg k hkl 0 _ rfl
   have x1:=hcg k hkl 1 _ rfl
   have x2:=hcg k hkl 2 _ rfl
   have x3:=hcg k hkl 3 _ rfl
   rw[<-hbl.cell (hR gb hRg)]at x0 x1 x2 x3
   rw[Nat.add_zero]at x0
   clear hcg
   have HC:=Aia (Aeh l[k] wr)
   cases hb:Bu l[k]
   ·rw[hb]at HC
    have nx:Hid (∀j (hj:j<l.length),j<k+1->Bu l[j]=false):=Aia (fun j hj h=>by
     by_cases e:j=k
     ·subst e;exact hb
     ·exact hall.out j hj (by omega))
    clear hb hall
    go_wp2_with fail
    refine HC.out.mono ?_
    rintro e w2 ⟨rfl,b2⟩
    have hb2:=hbl.trans (b2.mono hbl.size)
    clear b2
    go_wp2_with fail
    go_roundw
    case rel=>exact⟨k+1,by omega,by go_num,hb2,nx⟩
    case measure=>simp[intOf];omega
   ·rw[hb]at HC
    have HB:=Aia (List.any_eq_true.2 ⟨l[k],List.getElem_mem hkl,hb⟩)
    clear hb hall
    go_wp2_with fail
    refine HC.out.mono ?_
    rintro e w2 ⟨rfl,b2⟩
    go_wp2_with fail
    go_ret
    exact⟨_,rfl,by rw[HB.out];exact decide_eq_true (by omega),hbl.trans (b2.mono hbl.size)⟩
  ·have HB:Hid (l.any Bu=false):=List.any_eq_false.2 (fun x hx=>by
    obtain⟨j,hj,rfl⟩:=List.mem_iff_getElem.1 hx
    rw[hall.out j hj (by omega)];decide)
   clear hall
   go_wp2_with fail
   go_ret
   exact⟨_,rfl,by rw[HB.out];rfl,hbl⟩
theorem wW(R:Nat->Prop)(l:List Lb)(v:Value)(w:World)(h:Ay R w v 4 (l.flatMap Ck) l.length)(hR:∀b,R b->b<w.heap.size)(hl:l.length<=100000):
  Calls Tryz.prog 208 #[v,qD] w fun e w'=>e=.returned (.bool (l.any Bu))/\Below w.heap.size w w':=by
 obtain⟨ao,cap,rfl⟩:=h.val
 have H:=Aia (vM R l _ w h hR hl)
 clear h
 unfold qD at H ⊢
 go_enter func208,ntmps208
 go_wp2_with fail
 refine H.out.mono ?_
 rintro e w' ⟨r,rfl,hr,hb⟩
 have HR:=Aia hr
 clear hr
 go_wp2_with fail
 go_ret
 exact⟨Ah HR.out,hb⟩
end Go.Proofs.YtikehilbmldadaaGreatDoor
